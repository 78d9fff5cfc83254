/-
  What every walk of this claim stands on: states told by lists (slots, own blocks.
-/
import Derived.WalkKit
import Derived.OrdersHeld
import Derived.BigCall
import Derived.Test.YtipblncpnffmbaaGreatDoorChecked
set_option linter.unusedVariables false
set_option linter.unusedSimpArgs false
set_option maxHeartbeats 0
set_option maxRecDepth 100000
set_option synthInstance.maxSize 4000
set_option synthInstance.maxHeartbeats 0
namespace Go.Proofs.YtipblncpnffmbaaGreatDoor
open Go Go.RowKit
namespace Gw
abbrev tt := true
abbrev ff := false
theorem mH {α : Type} {a : α} {l : List α} : a ∈ a :: l := List.Mem.head _
theorem mT {α : Type} {a b : α} {l : List α} (h : a ∈ l) : a ∈ b :: l := List.Mem.tail _ h

abbrev K7 := List (Nat × Value)

def X4 : K7 → Nat → Option Value
 | [], _ => none
 | (k, v) :: r, t => bif Nat.beq k t then some v else X4 r t

def evo (e : K7) : Operand → Option Value
 | .tmp t => X4 e t
 | .const v => some v
 | .global g => some (.pointer (some ⟨g, 0, none⟩))
 | .func f => some (.func (.func f) #[] #[])

def evl (e : K7) : List Operand → Option (List Value)
 | [] => some []
 | x :: r => match evo e x with
  | some v => match evl e r with
   | some vs => some (v :: vs)
   | none => none
  | none => none

inductive A4 where
 | blk (b : Nat) (cs : List Value)
 | slc (p : Option Addr) (c : Nat) (el : TypeId) (sz : Nat) (n : Nat) (cs : List Value)

def I5 : Option Addr → List Nat
 | some p => [p.block]
 | none => []

def A4.fp : A4 → List Nat
 | .blk b _ => [b]
 | .slc p _ _ _ _ _ => I5 p

def A4.ok (w : World) : A4 → Prop
 | .blk b cs => ∃ e, w.heap[b]? = some (.cells cs.toArray e (0, 0))
 | .slc p c el sz n cs => w.ownsRow 0 el sz (.slice p n c) n cs

def Fp (hp : List A4) : List Nat := hp.flatMap A4.fp

abbrev IM := Nat → Option (List Value)

def B1 (G G' : IM) : Prop := ∀ b l, G b = some l → G' b = some l
def A2L (G : IM) (w : World) : Prop := ∀ b l, G b = some l → ∃ e f, w.heap[b]? = some (.cells l.toArray e f)

theorem B1.refl (G : IM) : B1 G G := fun _ _ h => h
theorem B1.trans {G G' G'' : IM} (h : B1 G G') (h' : B1 G' G'') : B1 G G'' := fun b l x => h' b l (h b l x)

structure Ext (mods : List Nat) (w w' : World) : Prop where
 os : w'.os = w.os
 tape : w'.tape = w.tape
 output : w'.output = w.output
 size : w.heap.size ≤ w'.heap.size
 block : ∀ k, k < w.heap.size → k ∉ mods → w'.heap[k]? = w.heap[k]?

theorem Ext.refl (m : List Nat) (w : World) : Ext m w w := ⟨rfl, rfl, rfl, Nat.le_refl _, fun _ _ _ => rfl⟩

structure R5 (hp : List A4) (G : IM) (w : World) : Prop where
 inn : A2L G w
 ok : ∀ e ∈ hp, e.ok w
 nodup : (Fp hp).Nodup
 disj : ∀ b ∈ Fp hp, G b = none

structure Q4 (ins : List A4) (G0 : IM) (w0 : World) (hp : List A4) (G : IM) (w : World) : Prop where
 own : R5 hp G w
 ext : Ext (Fp ins) w0 w
 le : B1 G0 G
 fresh : ∀ b l, G b = some l → G0 b = some l ∨ w0.heap.size ≤ b ∨ b ∈ Fp ins
 ofresh : ∀ b ∈ Fp hp, w0.heap.size ≤ b ∨ b ∈ Fp ins
 fz : ∀ b l, G b = some l → G0 b = none → ∃ e, w.heap[b]? = some (.cells l.toArray e (0, 0))

theorem A0M {w : World} {b : Nat} {o : Obj} (h : w.heap[b]? = some o) : b < w.heap.size := (Array.getElem?_eq_some_iff.1 h).1

theorem A4.ok_lt {w : World} {e : A4} (h : e.ok w) : ∀ b ∈ e.fp, b < w.heap.size := by
 cases e with
 | blk b cs => intro k hk; simp [A4.fp] at hk; subst hk; obtain ⟨_, h⟩ := h; exact A0M h
 | slc p c el sz n cs =>
  intro k hk
  rcases h.2 with ⟨he, _⟩ | ⟨g, cap, cur, he, _, hg, _⟩
  ·cases he; simp [A4.fp, I5] at hk
  ·cases he; simp [A4.fp, I5] at hk; subst hk; exact A0M hg

theorem A4.ok_ext {w w' : World} {e : A4} (h : e.ok w) (hb : ∀ b ∈ e.fp, w'.heap[b]? = w.heap[b]?) : e.ok w' := by
 cases e with
 | blk b cs => obtain ⟨x, h⟩ := h; exact ⟨x, by rw [hb b (by simp [A4.fp])]; exact h⟩
 | slc p c el sz n cs =>
  refine ⟨h.1, ?_⟩
  rcases h.2 with hn | ⟨g, cap, cur, he, h0, hg, rest⟩
  ·exact .inl hn
  ·cases he; exact .inr ⟨g, _, cur, rfl, h0, by rw [hb g (by simp [A4.fp, I5])]; exact hg, rest⟩

theorem Z8 (a b : List A4) : Fp (a ++ b) = Fp a ++ Fp b := by simp [Fp]
theorem A4y {a b : List A4} (h : a.Perm b) : (Fp a).Perm (Fp b) := h.flatMap_right _
theorem A3z {hp : List A4} {b : Nat} : b ∈ Fp hp ↔ ∃ e ∈ hp, b ∈ e.fp := by simp [Fp, List.mem_flatMap]

theorem R5.lt {hp : List A4} {G : IM} {w : World} (h : R5 hp G w) : ∀ b ∈ Fp hp, b < w.heap.size := by
 intro b hb
 obtain ⟨e, he, hbe⟩ := A3z.1 hb
 exact A4.ok_lt (h.ok e he) b hbe

theorem A2L.lt {G : IM} {w : World} (h : A2L G w) {b : Nat} {l : List Value} (hb : G b = some l) : b < w.heap.size := by
 obtain ⟨_, _, hh⟩ := h b l hb
 exact A0M hh

theorem R5.perm {hp hp' : List A4} {G : IM} {w : World} (h : R5 hp G w) (p : hp.Perm hp') : R5 hp' G w :=
 ⟨h.inn, fun e he => h.ok e (p.mem_iff.2 he), (A4y p).nodup_iff.1 h.nodup, fun b hb => h.disj b ((A4y p).mem_iff.2 hb)⟩

theorem R5.left {a b : List A4} {G : IM} {w : World} (h : R5 (a ++ b) G w) : R5 a G w :=
 ⟨h.inn, fun e he => h.ok e (List.mem_append_left _ he), by have := h.nodup; rw [Z8] at this; exact (List.nodup_append.1 this).1,
  fun x hx => h.disj x (by rw [Z8]; exact List.mem_append_left _ hx)⟩

theorem Q4.perm {ins hp hp' : List A4} {G0 G : IM} {w0 w : World} (h : Q4 ins G0 w0 hp G w) (p : hp.Perm hp') : Q4 ins G0 w0 hp' G w :=
 ⟨h.own.perm p, h.ext, h.le, h.fresh, fun b hb => h.ofresh b ((A4y p).mem_iff.2 hb), h.fz⟩

theorem Q4.left {ins a b : List A4} {G0 G : IM} {w0 w : World} (h : Q4 ins G0 w0 (a ++ b) G w) : Q4 ins G0 w0 a G w :=
 ⟨h.own.left, h.ext, h.le, h.fresh, fun x hx => h.ofresh x (by rw [Z8]; exact List.mem_append_left _ hx), h.fz⟩

theorem Q4.refl {ins : List A4} {G : IM} {w : World} (h : R5 ins G w) : Q4 ins G w ins G w :=
 ⟨h, Ext.refl _ _, B1.refl _, fun _ _ h => .inl h, fun _ h => .inr h, fun b l h h0 => absurd h (by rw [h0]; simp)⟩

theorem Q4.frame {ins0 ins outs rest : List A4} {G0 G G' : IM} {w0 w w' : World}
  (h : Q4 ins0 G0 w0 (ins ++ rest) G w) (s : Q4 ins G w outs G' w') : Q4 ins0 G0 w0 (outs ++ rest) G' w' := by
 have hnd := h.own.nodup
 rw [Z8, List.nodup_append] at hnd
 obtain ⟨_, hndr, hdis⟩ := hnd
 have hrest_lt : ∀ b ∈ Fp rest, b < w.heap.size := fun b hb => h.own.lt b (by rw [Z8]; exact List.mem_append_right _ hb)
 have hrest_not : ∀ b ∈ Fp rest, b ∉ Fp ins := fun b hb hi => hdis b hi b hb rfl
 refine ⟨⟨s.own.inn, ?_, ?_, ?_⟩, ?_, h.le.trans s.le, ?_, ?_, ?_⟩
 ·intro e he
  rcases List.mem_append.1 he with he | he
  ·exact s.own.ok e he
  ·refine A4.ok_ext (h.own.ok e (List.mem_append_right _ he)) fun b hb => ?_
   have hbr : b ∈ Fp rest := A3z.2 ⟨e, he, hb⟩
   exact s.ext.block b (hrest_lt b hbr) (hrest_not b hbr)
 ·rw [Z8, List.nodup_append]
  refine ⟨s.own.nodup, hndr, ?_⟩
  rintro a ha b hb rfl
  rcases s.ofresh a ha with hf | hf
  ·exact absurd (hrest_lt a hb) (by omega)
  ·exact hrest_not a hb hf
 ·intro b hb
  rw [Z8] at hb
  rcases List.mem_append.1 hb with hb | hb
  ·exact s.own.disj b hb
  ·cases hg : G' b with
   | none => rfl
   | some l =>
    exfalso
    rcases s.fresh b l hg with hf | hf | hf
    ·have := h.own.disj b (by rw [Z8]; exact List.mem_append_right _ hb)
     rw [this] at hf; cases hf
    ·exact absurd (hrest_lt b hb) (by omega)
    ·exact hrest_not b hb hf
 ·refine ⟨s.ext.os.trans h.ext.os, s.ext.tape.trans h.ext.tape, s.ext.output.trans h.ext.output, Nat.le_trans h.ext.size s.ext.size, ?_⟩
  intro k hk hkn
  rw [s.ext.block k (Nat.lt_of_lt_of_le hk h.ext.size) ?_, h.ext.block k hk hkn]
  intro hki
  rcases h.ofresh k (by rw [Z8]; exact List.mem_append_left _ hki) with hf | hf
  ·omega
  ·exact hkn hf
 ·intro b l hb
  rcases s.fresh b l hb with hf | hf | hf
  ·exact h.fresh b l hf
  ·exact .inr (.inl (Nat.le_trans h.ext.size hf))
  ·exact .inr (h.ofresh b (by rw [Z8]; exact List.mem_append_left _ hf))
 ·intro b hb
  rw [Z8] at hb
  rcases List.mem_append.1 hb with hb | hb
  ·rcases s.ofresh b hb with hf | hf
   ·exact .inl (Nat.le_trans h.ext.size hf)
   ·exact h.ofresh b (by rw [Z8]; exact List.mem_append_left _ hf)
  ·exact h.ofresh b (by rw [Z8]; exact List.mem_append_right _ hb)
 ·intro b l hb h0
  cases hg : G b with
  | none => exact s.fz b l hb hg
  | some l' =>
   have := s.le b l' hg
   rw [hb] at this; cases this
   obtain ⟨e, he⟩ := h.fz b l hg h0
   refine ⟨e, ?_⟩
   rw [s.ext.block b (A0M he) ?_]
   ·exact he
   ·intro hbi
    have := h.own.disj b (by rw [Z8]; exact List.mem_append_left _ hbi)
    rw [hg] at this; cases this

structure K1 where
 n : Nat
 ins : List A4
 G0 : IM
 w0 : World

structure Sy where
 env : K7
 hp : List A4
 G : IM

structure St (Γ : K1) (σ : Sy) (a : Act) (w : World) : Prop where
 size : a.tmps.size = Γ.n
 nod : a.defers = []
 env : ∀ t v, X4 σ.env t = some v → a.tmps.getD t undef = v
 res : Q4 Γ.ins Γ.G0 Γ.w0 σ.hp σ.G w

theorem St.evo {Γ : K1} {σ : Sy} {a : Act} {w : World} (h : St Γ σ a w) {x : Operand} {v : Value} (hx : evo σ.env x = some v) : a.eval x = v := by
 cases x with
 | tmp t => exact h.env t v hx
 | const c => simpa [Gw.evo, Act.eval] using hx
 | global g => simpa [Gw.evo, Act.eval] using hx
 | func f => simpa [Gw.evo, Act.eval] using hx

theorem St.evl {Γ : K1} {σ : Sy} {a : Act} {w : World} (h : St Γ σ a w) : ∀ {xs : List Operand} {vs : List Value}, evl σ.env xs = some vs → xs.map a.eval = vs
 | [], vs, hx => by simp [Gw.evl] at hx; subst hx; rfl
 | x :: r, vs, hx => by
  simp only [Gw.evl] at hx
  split at hx
  ·rename_i v hv
   split at hx
   ·rename_i us hu
    simp at hx; subst hx
    simp [h.evo hv, St.evl h hu]
   ·cases hx
  ·cases hx

theorem A4z (k : Nat) (v : Value) (r : K7) (t : Nat) : X4 ((k, v) :: r) t = if k = t then some v else X4 r t := by
 simp only [X4]
 by_cases h : k = t
 ·subst h; simp
 ·have : Nat.beq k t = false := by
   cases hb : Nat.beq k t with
   | false => rfl
   | true => exact absurd (Nat.eq_of_beq_eq_true hb) h
  simp [this, h]

theorem St.put {Γ : K1} {σ : Sy} {a : Act} {w w' : World} {hp' : List A4} {G' : IM} (h : St Γ σ a w) (t : Nat) (v : Value) (ht : t < Γ.n)
  (hr : Q4 Γ.ins Γ.G0 Γ.w0 hp' G' w') : St Γ ⟨(t, v) :: σ.env, hp', G'⟩ (a.put (some t) v) w' := by
 refine ⟨?_, h.nod, ?_, hr⟩
 ·simp [Act.put, h.size]
 ·intro s u hs
  rw [A4z] at hs
  simp only [Act.put]
  by_cases e : t = s
  ·subst e
   simp at hs; subst hs
   have : t < a.tmps.size := by rw [h.size]; exact ht
   simp [Array.getD_eq_getD_getElem?, this]
  ·rw [if_neg e] at hs
   have := h.env s u hs
   simp only [Array.getD_eq_getD_getElem?, Array.getElem?_setIfInBounds, if_neg e] at this ⊢
   exact this

theorem St.put_none {Γ : K1} {σ : Sy} {a : Act} {w w' : World} {hp' : List A4} {G' : IM} (h : St Γ σ a w) (v : Value)
  (hr : Q4 Γ.ins Γ.G0 Γ.w0 hp' G' w') : St Γ ⟨σ.env, hp', G'⟩ (a.put none v) w' := ⟨h.size, h.nod, h.env, hr⟩

def dpu (d : Option Nat) (v : Value) (e : K7) : K7 := match d with | some t => (t, v) :: e | none => e
def dok (n : Nat) : Option Nat → Bool | some t => Nat.blt t n | none => true

theorem St.dput {Γ : K1} {σ : Sy} {a : Act} {w w' : World} {hp' : List A4} {G' : IM} (h : St Γ σ a w) (d : Option Nat) (v : Value) (ht : dok Γ.n d = true)
  (hr : Q4 Γ.ins Γ.G0 Γ.w0 hp' G' w') : St Γ ⟨dpu d v σ.env, hp', G'⟩ (a.put d v) w' := by
 cases d with
 | none => exact h.put_none v hr
 | some t => exact h.put t v (by simpa [dok] using ht) hr

abbrev Po := Exit → Sy → Prop
def A2M (Γ : K1) (K : Po) : Exit → Act → World → Prop := fun e a w => ∃ σ, St Γ σ a w ∧ K e σ

structure J1 (P : Program) (Γ : K1) (c : Code) (K : Po) (σ : Sy) : Prop where
 run : ∀ a w, St Γ σ a w → c.wp P (A2M Γ K) a w

structure A0N (P : Program) (Γ : K1) (y : Code) (K : Po) (e : Exit) (σ : Sy) : Prop where
 run : match e with
  | .normal => J1 P Γ y K σ
  | e => K e σ
structure A1k (id : Nat) (K : Po) (e : Exit) (σ : Sy) : Prop where
 run : match e with
  | .exit id' => if id' = id then K .normal σ else K (.exit id') σ
  | e => K e σ

section rules
variable {P : Program} {Γ : K1} {K : Po} {σ : Sy}

theorem A4A {c : Code} {K' : Po} (h : J1 P Γ c K σ) (hk : ∀ e σ, K e σ → K' e σ) : J1 P Γ c K' σ :=
 ⟨fun a w hs => wp_mono (h.run a w hs) fun _ _ _ ⟨s, h1, h2⟩ => ⟨s, h1, hk _ _ h2⟩⟩

theorem tS {x y : Code} (h : J1 P Γ x (A0N P Γ y K) σ) : J1 P Γ (Code.seq x y) K σ := by
 refine ⟨fun a w hs => ?_⟩
 refine wp_seq (wp_mono (h.run a w hs) ?_)
 rintro e a' w' ⟨s, h1, ⟨h2⟩⟩
 cases e <;> first | exact h2.run a' w' h1 | exact ⟨s, h1, h2⟩

theorem tK (h : K .normal σ) : J1 P Γ .skip K σ := ⟨fun _ _ hs => wp_skip ⟨σ, hs, h⟩⟩
theorem tT (h : K .ret σ) : J1 P Γ .ret K σ := ⟨fun _ _ hs => wp_ret ⟨σ, hs, h⟩⟩
theorem A9W {id : Nat} (h : K (.exit id) σ) : J1 P Γ (.exit id) K σ := ⟨fun _ _ hs => wp_exit ⟨σ, hs, h⟩⟩
theorem B6 {id : Nat} {c : Code} (h : J1 P Γ c (A1k id K) σ) : J1 P Γ (.block id c) K σ := by
 refine ⟨fun a w hs => ?_⟩
 refine wp_block (wp_mono (h.run a w hs) ?_)
 rintro e a' w' ⟨s, h1, ⟨h2⟩⟩
 cases e with
 | exit id' =>
  simp only [Exit.inBlock] at h2 ⊢
  split at h2
  ·rename_i hid; simp only [hid, if_true]; exact ⟨s, h1, h2⟩
  ·rename_i hid; simp only [hid, if_false]; exact ⟨s, h1, h2⟩
 | _ => exact ⟨s, h1, h2⟩
theorem A6d {c : Operand} {x y : Code} {b : Bool} (hc : evo σ.env c = some (.bool b)) (ht : b = true → J1 P Γ x K σ) (hf : b = false → J1 P Γ y K σ) :
  J1 P Γ (.cond c x y) K σ := by
 refine ⟨fun a w hs => ?_⟩
 have he := hs.evo hc
 cases b
 ·exact wp_cond_false he ((hf rfl).run a w hs)
 ·exact wp_cond_true he ((ht rfl).run a w hs)
theorem qT {c : Operand} {x y : Code} (hc : evo σ.env c = some (.bool true)) (h : J1 P Γ x K σ) : J1 P Γ (.cond c x y) K σ :=
 ⟨fun a w hs => wp_cond_true (hs.evo hc) (h.run a w hs)⟩
theorem cF {c : Operand} {x y : Code} (hc : evo σ.env c = some (.bool false)) (h : J1 P Γ y K σ) : J1 P Γ (.cond c x y) K σ :=
 ⟨fun a w hs => wp_cond_false (hs.evo hc) (h.run a w hs)⟩

structure Sub (σ σ' : Sy) : Prop where
 env : ∀ t v, X4 σ'.env t = some v → X4 σ.env t = some v
 hp : ∃ r, σ.hp.Perm (σ'.hp ++ r)
 G : σ.G = σ'.G
theorem St.sub {a : Act} {w : World} {σ' : Sy} (h : St Γ σ a w) (s : Sub σ σ') : St Γ σ' a w := by
 obtain ⟨r, hr⟩ := s.hp
 exact ⟨h.size, h.nod, fun t v ht => h.env t v (s.env t v ht), by rw [← s.G]; exact (h.res.perm hr).left⟩
theorem A6e {c : Code} {σ' : Sy} (s : Sub σ σ') (h : J1 P Γ c K σ') : J1 P Γ c K σ := ⟨fun a w hs => h.run a w (hs.sub s)⟩
structure A9X (K : Po) (Inv : Nat → Sy → Prop) (m : Nat) (e : Exit) (σ : Sy) : Prop where
 run : match e with
  | .normal => ∃ m' σ', m' < m ∧ Sub σ σ' ∧ Inv m' σ'
  | e => K e σ
theorem A9Y {c : Code} (Inv : Nat → Sy → Prop) (m : Nat) {σ' : Sy} (hsub : Sub σ σ') (h0 : Inv m σ') (step : ∀ m σ, Inv m σ → J1 P Γ c (A9X K Inv m) σ) :
  J1 P Γ (.loop c) K σ := by
 refine ⟨fun a w hs => ?_⟩
 let μ : Act → World → Nat := fun a w => Classical.epsilon fun m => (∃ σ, St Γ σ a w ∧ Inv m σ) ∧ ∀ k, (∃ σ, St Γ σ a w ∧ Inv k σ) → m ≤ k
 have hμ : ∀ a w, (∃ m σ, St Γ σ a w ∧ Inv m σ) → (∃ σ, St Γ σ a w ∧ Inv (μ a w) σ) ∧ ∀ k, (∃ σ, St Γ σ a w ∧ Inv k σ) → μ a w ≤ k := by
  intro a w ⟨m, hm⟩
  have : ∃ m, (∃ σ, St Γ σ a w ∧ Inv m σ) ∧ ∀ k, (∃ σ, St Γ σ a w ∧ Inv k σ) → m ≤ k := by
   induction m using Nat.strongRecOn with
   | _ m ih =>
    by_cases hh : ∃ k, k < m ∧ ∃ σ, St Γ σ a w ∧ Inv k σ
    ·obtain ⟨k, hk, hs⟩ := hh; exact ih k hk hs
    ·exact ⟨m, hm, fun k hk => Nat.le_of_not_lt fun hlt => hh ⟨k, hlt, hk⟩⟩
  exact Classical.epsilon_spec this
 refine wp_loop (fun a w => ∃ m σ, St Γ σ a w ∧ Inv m σ) μ ⟨m, σ', hs.sub hsub, h0⟩ ?_
 intro a w hI
 obtain ⟨⟨σ1, hs1, hi1⟩, _⟩ := hμ a w hI
 refine wp_mono ((step _ σ1 hi1).run a w hs1) ?_
 rintro e a' w' ⟨s, h1, ⟨h2⟩⟩
 cases e with
 | normal =>
  obtain ⟨m', σ2, hlt, hsb, hinv⟩ := h2
  refine ⟨⟨m', σ2, h1.sub hsb, hinv⟩, Nat.lt_of_le_of_lt ?_ hlt⟩
  exact (hμ a' w' ⟨m', σ2, h1.sub hsb, hinv⟩).2 m' ⟨σ2, h1.sub hsb, hinv⟩
 | _ => exact ⟨s, h1, h2⟩

structure A1l {ι : Type} (K : Po) (S : ι → Sy) (φ : ι → Prop) (μ : ι → Nat) (i : ι) (e : Exit) (σ : Sy) : Prop where
 run : match e with
  | .normal => ∃ j, φ j ∧ μ j < μ i ∧ Sub σ (S j)
  | e => K e σ
theorem J3 {ι : Type} {c : Code} (S : ι → Sy) (φ : ι → Prop) (μ : ι → Nat) (i0 : ι) (hsub : Sub σ (S i0)) (h0 : φ i0) (step : ∀ i, φ i → J1 P Γ c (A1l K S φ μ i) (S i)) :
  J1 P Γ (.loop c) K σ := by
 refine A9Y (fun m σ => ∃ i, φ i ∧ m = μ i ∧ σ = S i) (μ i0) hsub ⟨i0, h0, rfl, rfl⟩ ?_
 rintro m σ ⟨i, hi, rfl, rfl⟩
 refine A4A (step i hi) ?_
 rintro e σ ⟨h⟩
 cases e with
 | normal =>
  obtain ⟨j, h1, h2, h3⟩ := h
  exact ⟨⟨μ j, S j, h2, h3, j, h1, rfl, rfl⟩⟩
 | _ => exact ⟨h⟩
theorem I9 {ι : Type} {S : ι → Sy} {φ : ι → Prop} {μ : ι → Nat} {i : ι} {σ : Sy} (j : ι) (hs : Sub σ (S j)) (h : φ j) (hlt : μ j < μ i) : A1l K S φ μ i .normal σ := ⟨j, h, hlt, hs⟩
theorem A2N {ι : Type} {S : ι → Sy} {φ : ι → Prop} {μ : ι → Nat} {i : ι} {σ : Sy} (h : K .ret σ) : A1l K S φ μ i .ret σ := ⟨h⟩
theorem A9Z {ι : Type} {S : ι → Sy} {φ : ι → Prop} {μ : ι → Nat} {i : ι} {σ : Sy} {id : Nat} (h : K (.exit id) σ) : A1l K S φ μ i (.exit id) σ := ⟨h⟩
theorem A90 {ι : Type} {S : ι → Sy} {φ : ι → Prop} {μ : ι → Nat} {i : ι} (h : ∀ c σ, ¬ K (.panic c) σ) : ∀ c σ, ¬ A1l K S φ μ i (.panic c) σ := fun c σ hk => h c σ hk.run

end rules

def A2O (e : K7) (a : Act) : Prop := ∀ t v, X4 e t = some v → a.tmps.getD t undef = v

def K5 (ops : Array Oper) (e : K7) : Option (Nat × Bool) → Option Bool
 | none => some true
 | some (j, want) => match (ops[j]?).bind (·.dst) with
  | some t => match X4 e t with
   | some (.bool b) => some (b == want)
   | some (.tuple _) => some false
   | _ => none
  | none => none

theorem A02 {ops : Array Oper} {e : K7} {a : Act} (h : A2O e a) {d : Option Tmp} {op : Op} {ty : TypeId} {pos : String} {af : Array Edge} {gd : Option (Nat × Bool)} {r : Bool}
  (hg : K5 ops e gd = some r) : Region.wanted ⟨d, op, ty, pos, af, gd⟩ (yielded ops a.tmps) = r := by
 cases gd with
 | none => simp [K5] at hg; subst hg; rfl
 | some jw =>
  obtain ⟨j, want⟩ := jw
  simp only [K5] at hg
  split at hg
  ·rename_i t ht
   split at hg
   ·rename_i b hb
    simp at hg; subst hg
    have hv := h t _ hb
    have hs : a.tmps[t]? = some (.bool b) := by
     cases hx : a.tmps[t]? with
     | none => simp [Array.getD_eq_getD_getElem?, hx, undef] at hv
     | some u => simp [Array.getD_eq_getD_getElem?, hx] at hv; rw [hv]
    simp [Region.wanted, yielded, ht, hs]
   ·rename_i b hb
    simp at hg; subst hg
    have hv := h t _ hb
    cases hx : a.tmps[t]? with
    | none => simp [Region.wanted, yielded, ht, hx]
    | some u =>
     simp [Array.getD_eq_getD_getElem?, hx] at hv
     simp [Region.wanted, yielded, ht, hx, hv]
   ·cases hg
  ·cases hg

structure I6 (P : Program) (Γ : K1) (σ : Sy) (op : Op) (ty : TypeId) (v : Value) : Prop where
 run : ∀ a w0, St Γ σ a w0 → ∀ d pos af gd w, (execOp a.eval ⟨d, op, ty, pos, af, gd⟩).run P w = .ok (.value v) w

structure A1y (P : Program) (Γ : K1) (σ : Sy) (op : Op) (ty : TypeId) (b : Nat) (v : Value) : Prop where
 run : ∀ a w, St Γ σ a w → b < w.heap.size ∧ ∀ w', w'.heap[b]? = w.heap[b]? → ∀ d pos af gd, (execOp a.eval ⟨d, op, ty, pos, af, gd⟩).run P w' = .ok (.value v) w'

structure U8 (P : Program) (Γ : K1) (σ : Sy) (d : Option Tmp) (op : Op) (ty : TypeId) (mods : List Nat) (K' : Sy → Prop) : Prop where
 run : ∀ a w, St Γ σ a w → ∀ pos af gd (Q : Exit → Act → World → Prop) (next : Act → World → Prop),
  (∀ a' w' σ', St Γ σ' a' w' → Ext mods w w' → K' σ' → next a' w') → (⟨d, op, ty, pos, af, gd⟩ : Oper).wp P a w next Q

def wpL (P : Program) (ops : Array Oper) (Q : Exit → Act → World → Prop) : List Oper → Act → World → Prop
 | [], a, w => Q .normal a w
 | o :: r, a, w => if Region.wanted o (yielded ops a.tmps) then o.wp P a w (wpL P ops Q r) Q ∨ (o.asks P a w ∧ LetsOut Q) else wpL P ops Q r (a.put o.dst undef) w

theorem A4B {P : Program} {ops : Array Oper} {Q : Exit → Act → World → Prop} : ∀ (os : List Oper) (is : List Nat) (a : Act) (w : World),
  is.map (ops[·]?) = os.map some → wpL P ops Q os a w → wpOps P ops Q is a w
 | [], [], _, _, _, h => h
 | [], _ :: _, _, _, hm, _ => by simp at hm
 | _ :: _, [], _, _, hm, _ => by simp at hm
 | o :: os, i :: is, a, w, hm, h => by
  simp only [List.map_cons, List.cons.injEq] at hm
  rw [wpOps_cons]
  unfold wpOp
  simp only [hm.1]
  simp only [wpL] at h
  split
  ·rename_i hw
   simp only [hw, if_true] at h
   exact h.imp (Oper.wp_mono fun a w => A4B os is a w hm.2) id
  ·rename_i hw
   simp only [hw] at h
   exact A4B os is _ w hm.2 h

structure E8 (P : Program) (Γ : K1) (ops : Array Oper) (rest : List Oper) (K : Po) (σ : Sy) : Prop where
 run : ∀ a w, St Γ σ a w → wpL P ops (A2M Γ K) rest a w

section seq
variable {P : Program} {Γ : K1} {K : Po} {ops : Array Oper} {rest : List Oper} {env : K7} {hp : List A4} {G : IM}
variable {op : Op} {ty : TypeId} {pos : String} {af : Array Edge} {gd : Option (Nat × Bool)}

theorem tR {id : Nat} {os : List Oper} {σ : Sy} (h : E8 P Γ ⟨os⟩ os K σ) : J1 P Γ (.region id ⟨os⟩ false) K σ := by
 refine ⟨fun a w hs => ?_⟩
 refine wp_region (A4B os _ a w ?_ (h.run a w hs))
 apply List.ext_getElem?
 intro i
 by_cases hi : i < os.length
 ·simp [hi]
 ·simp [hi]

theorem sD {σ : Sy} (h : K .normal σ) : E8 P Γ ops [] K σ := ⟨fun _ _ hs => ⟨σ, hs, h⟩⟩

theorem sP {d : Nat} {v : Value} (h : I6 P Γ ⟨env, hp, G⟩ op ty v) (hw : K5 ops env gd = some true) (hd : Nat.blt d Γ.n = true)
  (k : E8 P Γ ops rest K ⟨(d, v) :: env, hp, G⟩) : E8 P Γ ops (⟨some d, op, ty, pos, af, gd⟩ :: rest) K ⟨env, hp, G⟩ := by
 refine ⟨fun a w hs => ?_⟩
 have he : A2O env a := hs.env
 simp only [wpL, A02 he hw, if_true]
 refine .inl ?_
 simp only [Oper.wp, h.run a w hs, Oper.upon]
 exact k.run _ _ (hs.put d v (by simpa using hd) hs.res)

theorem sQ {d : Nat} {v : Value} (h : I6 P Γ ⟨env, hp, G⟩ op ty v) (hw : (K5 ops env gd, Nat.blt d Γ.n) = (some true, true))
 (k : E8 P Γ ops rest K ⟨(d, v) :: env, hp, G⟩) : E8 P Γ ops (⟨some d, op, ty, pos, af, gd⟩ :: rest) K ⟨env, hp, G⟩ := sP h (congrArg Prod.fst hw) (congrArg Prod.snd hw) k
theorem sL {d b : Nat} {v : Value} (h : A1y P Γ ⟨env, hp, G⟩ op ty b v) (hw : K5 ops env gd = some true) (hd : Nat.blt d Γ.n = true)
  (k : E8 P Γ ops rest K ⟨(d, v) :: env, hp, G⟩) : E8 P Γ ops (⟨some d, op, ty, pos, af, gd⟩ :: rest) K ⟨env, hp, G⟩ := by
 refine ⟨fun a w hs => ?_⟩
 have he : A2O env a := hs.env
 simp only [wpL, A02 he hw, if_true]
 refine .inl ?_
 simp only [Oper.wp, (h.run a w hs).2 w rfl, Oper.upon]
 exact k.run _ _ (hs.put d v (by simpa using hd) hs.res)

theorem I8 {d : Option Nat} {mods : List Nat} {K' : Sy → Prop} {σ : Sy} (h : U8 P Γ σ d op ty mods K') (hw : K5 ops σ.env gd = some true)
  (k : ∀ σ', K' σ' → E8 P Γ ops rest K σ') : E8 P Γ ops (⟨d, op, ty, pos, af, gd⟩ :: rest) K σ := by
 refine ⟨fun a w hs => ?_⟩
 have he : A2O σ.env a := hs.env
 simp only [wpL, A02 he hw, if_true]
 exact .inl (h.run a w hs pos af gd _ _ fun a' w' σ' h1 _ h3 => (k σ' h3).run a' w' h1)

theorem sE {d : Option Nat} {F : List Nat} {S : Nat → Sy} (h : U8 P Γ ⟨env, hp, G⟩ d op ty F (fun s => ∃ b, s = S b)) (hw : K5 ops env gd = some true) (k : ∀ b, E8 P Γ ops rest K (S b)) : E8 P Γ ops (⟨d, op, ty, pos, af, gd⟩ :: rest) K ⟨env, hp, G⟩ :=
 I8 h hw (by rintro _ ⟨b, rfl⟩; exact k b)
theorem sK {d : Nat} (hw : K5 ops env gd = some false) (hd : Nat.blt d Γ.n = true)
  (k : E8 P Γ ops rest K ⟨(d, undef) :: env, hp, G⟩) : E8 P Γ ops (⟨some d, op, ty, pos, af, gd⟩ :: rest) K ⟨env, hp, G⟩ := by
 refine ⟨fun a w hs => ?_⟩
 have he : A2O env a := hs.env
 simp only [wpL, A02 he hw, Bool.false_eq_true, if_false]
 exact k.run _ _ (hs.put d undef (by simpa using hd) hs.res)
theorem sB {d : Nat} {p : Prop} [Decidable p] (h : I6 P Γ ⟨env, hp, G⟩ op ty (.bool (decide p))) (hw : K5 ops env gd = some true) (hd : Nat.blt d Γ.n = true)
  (kt : p → E8 P Γ ops rest K ⟨(d, .bool true) :: env, hp, G⟩) (kf : ¬ p → E8 P Γ ops rest K ⟨(d, .bool false) :: env, hp, G⟩) :
  E8 P Γ ops (⟨some d, op, ty, pos, af, gd⟩ :: rest) K ⟨env, hp, G⟩ := by
 by_cases hpp : p
 ·exact sP (by rw [decide_eq_true hpp] at h; exact h) hw hd (kt hpp)
 ·exact sP (by rw [decide_eq_false hpp] at h; exact h) hw hd (kf hpp)

end seq

structure A0O where
 i : Nat
 b : Nat
 o : Obj

def A2P (ops : Array Oper) : Nat → Nat → Nat → Bool
 | 0, _, _ => false
 | n + 1, j, i => match ops[j]? with | some oj => oj.after.any (fun e => Region.binds .any e && (e.on == i || A2P ops n e.on i)) | none => false
def Z0 (ops : Array Oper) (j i : Nat) : Bool := A2P ops 4 j i
def DC (ops : Array Oper) (listed : Array Bool) : Prop := ∀ j, listed.getD j false = true → ∀ o, ops[j]? = some o → ∀ e ∈ o.after, Region.binds .any e = true → listed.getD e.on false = true
theorem DC.dep {ops : Array Oper} {listed : Array Bool} (h : DC ops listed) : ∀ (n j i : Nat), (∀ o, ops[j]? = some o → ∀ e ∈ o.after, Region.binds .any e = true → listed.getD e.on false = true) → A2P ops n j i = true → listed.getD i false = true
 | 0, _, _, _, hd => by simp [A2P] at hd
 | n + 1, j, i, hj, hd => by
  simp only [A2P] at hd
  cases ho : ops[j]? with
  | none => simp [ho] at hd
  | some o =>
   simp only [ho] at hd
   obtain ⟨e, he, hb⟩ := Array.any_eq_true'.1 hd
   simp only [Bool.and_eq_true, Bool.or_eq_true, beq_iff_eq] at hb
   have hl := hj o ho e he hb.1
   rcases hb.2 with h1 | h1
   ·rw [← h1]; exact hl
   ·exact h.dep n e.on i (h e.on hl) h1
theorem DC.step {ops : Array Oper} {listed : Array Bool} (h : DC ops listed) {j : Nat} (hr : j ∈ Region.ready .any ops listed) : DC ops (listed.setIfInBounds j true) := by
 intro k hk o ho e he hb
 refine getD_set_true ?_
 by_cases hkj : j = k
 ·subst hkj
  obtain ⟨_, o', ho', hall⟩ := mem_ready.1 hr
  rw [ho] at ho'; cases ho'
  exact hall e he hb
 ·rw [getD_set_ne false hkj] at hk
  exact h k hk o ho e he hb
def Hn (ops : Array Oper) (j : Nat) (H : List A0O) : List A0O := H.filter fun h => !Z0 ops j h.i

def wpG (P : Program) (ops : Array Oper) (Q : Exit → Act → World → Prop) : Nat → List A0O → Array Bool → Act → World → Prop
 | 0, _, listed, a, w => Region.ready .any ops listed = [] ∧ Q .normal a w
 | fuel + 1, H, listed, a, w =>
  (Region.ready .any ops listed = [] → Q .normal a w) ∧
  ∀ j ∈ Region.ready .any ops listed, wpOp P ops Q j (fun a' w' => (∀ h ∈ Hn ops j H, w'.heap[h.b]? = some h.o) ∧ wpG P ops Q fuel (Hn ops j H) (listed.setIfInBounds j true) a' w') a w

section draw
variable {P : Program} {ops : Array Oper} {Q : Exit → Act → World → Prop}

theorem A6f : ∀ (fuel : Nat) (H : List A0O) (listed : Array Bool) (a : Act) (w : World), wpG P ops Q fuel H listed a w → wpAny P .any ops Q fuel listed a w
 | 0, _, _, _, _, h => h
 | fuel + 1, _, _, _, _, h => ⟨h.1, fun j hj => wpOp_mono (fun a' w' h' => A6f fuel _ _ a' w' h'.2) (h.2 j hj)⟩

theorem A6g {j : Nat} {H H' : List A0O} (h : ∀ x ∈ H', x ∈ H) : ∀ x ∈ Hn ops j H', x ∈ Hn ops j H := by
 intro x hx
 simp only [Hn, List.mem_filter] at hx ⊢
 exact ⟨h x hx.1, hx.2⟩
theorem A3A : ∀ (fuel : Nat) {H H' : List A0O} (_ : ∀ x ∈ H', x ∈ H) (listed : Array Bool) (a : Act) (w : World), wpG P ops Q fuel H listed a w → wpG P ops Q fuel H' listed a w
 | 0, _, _, _, _, _, _, h => h
 | fuel + 1, _, _, hs, _, _, _, h => ⟨h.1, fun j hj => wpOp_mono (fun _ _ h' => ⟨fun x hx => h'.1 x (A6g hs x hx), A3A fuel (A6g hs) _ _ _ h'.2⟩) (h.2 j hj)⟩

theorem A91 {i : Nat} {oi : Oper} {v : Value} {S : World → Prop} {Hx : List A0O} (hi : ops[i]? = some oi) (hsel : ∀ (j : Nat) (o : Oper) cs b, ops[j]? = some o → o.op ≠ .select cs b)
  (hQ : ∀ c a w, Q (.panic c) (a.put oi.dst v) w → Q (.panic c) a w) (hxi : ∀ h ∈ Hx, h.i = i) (hxs : ∀ w : World, (∀ h ∈ Hx, w.heap[h.b]? = some h.o) → S w) :
  ∀ (fuel : Nat) (H : List A0O) (listed : Array Bool) (a : Act) (w : World), DC ops listed →
   (∀ j oj, ops[j]? = some oj → j ≠ i → listed.getD j true = false → (∀ e ∈ oj.after, Region.binds .any e = true → e.on ≠ i) → oi.apart ops oj = true) →
   i ∈ Region.ready .any ops listed → YieldsIf P ops S oi v a →
   wpG P ops Q fuel (Hx ++ H) (listed.setIfInBounds i true) (a.put oi.dst v) w → (∀ h ∈ Hx ++ H, w.heap[h.b]? = some h.o) → wpG P ops Q (fuel + 1) H listed a w := by
 intro fuel
 induction fuel with
 | zero =>
  intro H listed a w _ _ hr hy HH hH
  refine ⟨fun h => (by rw [h] at hr; cases hr), fun j hj => ?_⟩
  by_cases hji : j = i
  ·subst hji
   exact hy.wpOp hi (hxs w fun h hh => hH h (List.mem_append_left _ hh)) ⟨fun h hh => hH h (List.mem_append_right _ (List.mem_filter.1 hh).1), HH⟩
  ·have := ready_mono hj hji
   rw [HH.1] at this
   cases this
 | succ fuel ih =>
  intro H listed a w hdc hfree hr hy HH hH
  refine ⟨fun h => (by rw [h] at hr; cases hr), fun j hj => ?_⟩
  by_cases hji : j = i
  ·subst hji
   refine hy.wpOp hi (hxs w fun h hh => hH h (List.mem_append_left _ hh)) ⟨fun h hh => hH h (List.mem_append_right _ (List.mem_filter.1 hh).1), ?_⟩
   exact A3A _ (fun x hx => List.mem_append_right _ (List.mem_filter.1 hx).1) _ _ _ HH
  ·have h1 := HH.2 j (ready_mono hj hji)
   obtain ⟨hjun, oj, hoj, hall⟩ := mem_ready.1 hj
   have hnot : ∀ e ∈ oj.after, Region.binds .any e = true → e.on ≠ i := fun e he hb heq => by
    have h1 := hall e he hb
    have h0 := (mem_ready.1 hr).1
    rw [heq] at h1
    rcases Nat.lt_or_ge i listed.size with h' | h'
    ·simp [h'] at h0 h1; rw [h0] at h1; cases h1
    ·simp [Array.getElem?_eq_none h'] at h1
   have hnodep : Z0 ops j i = false := by
    cases hdd : Z0 ops j i with
    | false => rfl
    | true =>
     have h1 := hdc.dep 4 j i (fun o ho e he hb => by rw [hoj] at ho; cases ho; exact hall e he hb) hdd
     have h0 := (mem_ready.1 hr).1
     rcases Nat.lt_or_ge i listed.size with h' | h'
     ·simp [h'] at h0 h1; rw [h0] at h1; cases h1
     ·simp [Array.getElem?_eq_none h'] at h1
   have hHn : Hn ops j (Hx ++ H) = Hx ++ Hn ops j H := by
    simp only [Hn, List.filter_append]
    congr 1
    rw [List.filter_eq_self]
    intro x hx
    rw [hxi x hx, hnodep]; rfl
   rw [hHn] at h1
   have h2 := wpOp_putIf hoj (hfree j oj hoj hji hjun hnot) (fun cs b => hsel i oi cs b hi) (fun cs b => hsel j oj cs b hoj) hQ hy h1
   have hfree' : ∀ k ok, ops[k]? = some ok → k ≠ i → (listed.setIfInBounds j true).getD k true = false →
     (∀ e ∈ ok.after, Region.binds .any e = true → e.on ≠ i) → oi.apart ops ok = true := fun k ok hk hki hun hno => by
    refine hfree k ok hk hki ?_ hno
    by_cases hjk : j = k
    ·subst hjk; exact hjun
    ·rw [getD_set_ne true hjk] at hun; exact hun
   refine wpOp_mono (fun a' w' h3 => ?_) h2
   obtain ⟨hy', hkeeps, hrest⟩ := h3
   refine ⟨fun h hh => hkeeps h (List.mem_append_right _ hh), ?_⟩
   refine ih (Hn ops j H) (listed.setIfInBounds j true) a' w' (hdc.step hj) hfree' (ready_mono hr (Ne.symm hji)) hy' ?_ hkeeps
   rw [Array.setIfInBounds_comm _ _ hji]
   exact hrest
end draw

structure M8 (P : Program) (Γ : K1) (ops : Array Oper) (K : Po) (H : List (Nat × Nat)) (fuel : Nat) (listed : List Bool) (σ : Sy) : Prop where
 run : ∀ a w, St Γ σ a w → ∀ Hs : List A0O, (Hs.map fun h => (h.i, h.b)) = H → (∀ h ∈ Hs, w.heap[h.b]? = some h.o) → DC ops listed.toArray → wpG P ops (A2M Γ K) fuel Hs listed.toArray a w

def Y1 (K : Po) : Prop := ∀ c σ, ¬ K (.panic c) σ

section anyrules
variable {P : Program} {Γ : K1} {K : Po} {ops : Array Oper} {H : List (Nat × Nat)} {env : K7} {hp : List A4} {G : IM} {fuel : Nat} {listed l' : List Bool}
variable {op : Op} {ty : TypeId} {pos : String} {af : Array Edge} {gd : Option (Nat × Bool)}

theorem St.drawn {σ : Sy} {a : Act} {w : World} (h : St Γ σ a w) (n : Nat) : St Γ σ a { w with drawn := n } := by
 have e : ∀ k : Nat, ({ w with drawn := n } : World).heap[k]? = w.heap[k]? := fun _ => rfl
 refine ⟨h.size, h.nod, h.env, ⟨⟨h.res.own.inn, fun x hx => A4.ok_ext (h.res.own.ok x hx) fun b _ => e b, h.res.own.nodup, h.res.own.disj⟩, ⟨h.res.ext.os, h.res.ext.tape, h.res.ext.output, h.res.ext.size, h.res.ext.block⟩, h.res.le, h.res.fresh, h.res.ofresh, h.res.fz⟩⟩

theorem A92 {ι : Type} {S : ι → Sy} {φ : ι → Prop} {μ : ι → Nat} {i : ι} (h : Y1 K) : Y1 (A1l K S φ μ i) := A90 h

theorem E4 {id : Nat} {σ : Sy} (hm : P.follows .mixedOrders = true) {n : Nat} (hn : ops.size = n) (h : M8 P Γ ops K [] n (List.replicate n false) σ) : J1 P Γ (.region id ops true) K σ := by
 refine ⟨fun a w hs => ?_⟩
 refine wp_region_any hm ?_
 rw [hn]
 have := h.run a { w with drawn := w.drawn + 1 } (hs.drawn _) [] rfl (by simp) (by
  intro j hj
  exfalso
  simp only [List.toArray_replicate] at hj
  by_cases hjn : j < n
  ·simp [hjn] at hj
  ·simp [hjn] at hj)
 have h2 := A6f _ _ _ _ _ this
 simpa using h2

theorem aD {σ : Sy} (hr : Region.ready .any ops listed.toArray = []) (h : K .normal σ) : M8 P Γ ops K H fuel listed σ := by
 refine ⟨fun a w hs Hs _ _ _ => ?_⟩
 cases fuel with
 | zero => exact ⟨hr, σ, hs, h⟩
 | succ f => exact ⟨fun _ => ⟨σ, hs, h⟩, by rw [hr]; simp⟩

def A1m (ops : Array Oper) (listed : List Bool) (i : Nat) : Bool :=
 Region.noSelect ops && Region.free .any ops listed.toArray i && (Region.ready .any ops listed.toArray).contains i

theorem A4C {i : Nat} {d : Option Nat} {v : Value} {Hx : List (Nat × Nat)} (hi : ops[i]? = some ⟨d, op, ty, pos, af, gd⟩) (hK : Y1 K) {σ σ' : Sy}
  (hxi : ∀ h ∈ Hx, h.1 = i)
  (hy : ∀ a w, St Γ σ a w → ∃ Hr : List A0O, (Hr.map fun h => (h.i, h.b)) = Hx ∧ (∀ h ∈ Hr, w.heap[h.b]? = some h.o) ∧ ∃ S : World → Prop, (∀ w : World, (∀ h ∈ Hr, w.heap[h.b]? = some h.o) → S w) ∧ YieldsIf P ops S ⟨d, op, ty, pos, af, gd⟩ v a)
  (hput : ∀ a w, St Γ σ a w → St Γ σ' (a.put d v) w)
  (hq : A1m ops listed i = true) (hl : listed.set i true = l')
  (k : M8 P Γ ops K (Hx ++ H) fuel l' σ') : M8 P Γ ops K H (fuel + 1) listed σ := by
 refine ⟨fun a w hs Hs hHs hall hdc => ?_⟩
 simp only [A1m, Bool.and_eq_true] at hq
 obtain ⟨⟨hs1, hs2⟩, hs3⟩ := hq
 obtain ⟨Hr, hr1, hr2, S', hS', hyi⟩ := hy a w hs
 have hall' : ∀ h ∈ Hr ++ Hs, w.heap[h.b]? = some h.o := by
  intro x hx
  rcases List.mem_append.1 hx with hx | hx
  ·exact hr2 x hx
  ·exact hall x hx
 refine A91 hi (Region.noSelect_spec hs1) (by rintro c a w ⟨σ, _, hh⟩; exact absurd hh (hK c σ)) (Hx := Hr) ?_ hS' fuel Hs listed.toArray a w hdc
  (Region.free_spec hi hs2) (by simpa using hs3) hyi ?_ hall'
 ·intro h hh
  exact hxi (h.i, h.b) (by rw [← hr1]; exact List.mem_map.2 ⟨h, hh, rfl⟩)
 ·have := k.run (a.put d v) w (hput a w hs) (Hr ++ Hs) (by simp [hr1, hHs]) hall' (by rw [← hl]; simpa using hdc.step (j := i) (by simpa using hs3))
  rw [← hl] at this
  simpa using this

theorem P8 {i d b : Nat} {v : Value} (hi : ops[i]? = some ⟨some d, op, ty, pos, af, gd⟩) (hK : Y1 K)
  (h : A1y P Γ ⟨env, hp, G⟩ op ty b v) (hw : K5 ops env gd = some true) (hq : A1m ops listed i = true) (hd : Nat.blt d Γ.n = true)
  (hl : listed.set i true = l')
  (k : M8 P Γ ops K ((i, b) :: H) fuel l' ⟨(d, v) :: env, hp, G⟩) : M8 P Γ ops K H (fuel + 1) listed ⟨env, hp, G⟩ := by
 refine A4C (Hx := [(i, b)]) hi hK (by simp) ?_ (fun a w hs => hs.put d v (by simpa using hd) hs.res) hq hl k
 intro a w hs
 obtain ⟨hb, hrun⟩ := h.run a w hs
 have hob : w.heap[b]? = some w.heap[b] := Array.getElem?_eq_getElem hb
 refine ⟨[⟨i, b, w.heap[b]⟩], rfl, by simp, fun w' => w'.heap[b]? = some w.heap[b], fun w' h => h _ List.mem_cons_self, .inl ⟨A02 hs.env hw, fun w' hw' => hrun w' (by rw [hw', hob]) _ _ _ _⟩⟩

theorem K2 {i d : Nat} {v : Value} (hi : ops[i]? = some ⟨some d, op, ty, pos, af, gd⟩) (hK : Y1 K)
  (h : I6 P Γ ⟨env, hp, G⟩ op ty v) (hw : K5 ops env gd = some true) (hq : A1m ops listed i = true) (hd : Nat.blt d Γ.n = true)
  (hl : listed.set i true = l')
  (k : M8 P Γ ops K H fuel l' ⟨(d, v) :: env, hp, G⟩) : M8 P Γ ops K H (fuel + 1) listed ⟨env, hp, G⟩ := by
 refine A4C (Hx := []) hi hK (by simp) ?_ (fun a w hs => hs.put d v (by simpa using hd) hs.res) hq hl k
 intro a w hs
 exact ⟨[], rfl, by simp, fun _ => True, fun _ _ => trivial, .inl ⟨A02 hs.env hw, fun w' _ => h.run a w hs _ _ _ _ w'⟩⟩

theorem aK {i d : Nat} (hi : ops[i]? = some ⟨some d, op, ty, pos, af, gd⟩) (hK : Y1 K)
  (hw : K5 ops env gd = some false) (hq : A1m ops listed i = true) (hd : Nat.blt d Γ.n = true)
  (hl : listed.set i true = l')
  (k : M8 P Γ ops K H fuel l' ⟨(d, undef) :: env, hp, G⟩) : M8 P Γ ops K H (fuel + 1) listed ⟨env, hp, G⟩ := by
 refine A4C (Hx := []) hi hK (by simp) ?_ (fun a w hs => hs.put d undef (by simpa using hd) hs.res) hq hl k
 intro a w hs
 exact ⟨[], rfl, by simp, fun _ => True, fun _ _ => trivial, .inr ⟨A02 hs.env hw, rfl⟩⟩

theorem A1Q {i d : Nat} {p : Prop} [Decidable p] (hi : ops[i]? = some ⟨some d, op, ty, pos, af, gd⟩) (hK : Y1 K)
  (h : I6 P Γ ⟨env, hp, G⟩ op ty (.bool (decide p))) (hw : K5 ops env gd = some true) (hq : A1m ops listed i = true) (hd : Nat.blt d Γ.n = true)
  (hl : listed.set i true = l')
  (kt : p → M8 P Γ ops K H fuel l' ⟨(d, .bool true) :: env, hp, G⟩) (kf : ¬ p → M8 P Γ ops K H fuel l' ⟨(d, .bool false) :: env, hp, G⟩) :
  M8 P Γ ops K H (fuel + 1) listed ⟨env, hp, G⟩ := by
 by_cases hpp : p
 ·exact K2 hi hK (by rw [decide_eq_true hpp] at h; exact h) hw hq hd hl (kt hpp)
 ·exact K2 hi hK (by rw [decide_eq_false hpp] at h; exact h) hw hq hd hl (kf hpp)

structure U3 (P : Program) (Γ : K1) (ops : Array Oper) (K : Po) (H : List (Nat × Nat)) (fuel : Nat) (listed : List Bool) (j : Nat) (σ : Sy) : Prop where
 run : ∀ a w, St Γ σ a w → ∀ Hs : List A0O, (Hs.map fun h => (h.i, h.b)) = H → (∀ h ∈ Hs, w.heap[h.b]? = some h.o) → DC ops listed.toArray → j ∈ Region.ready .any ops listed.toArray →
  wpOp P ops (A2M Γ K) j (fun a' w' => (∀ h ∈ Hn ops j Hs, w'.heap[h.b]? = some h.o) ∧ wpG P ops (A2M Γ K) fuel (Hn ops j Hs) (listed.toArray.setIfInBounds j true) a' w') a w

theorem aO {j : Nat} {σ : Sy} (hr : Region.ready .any ops listed.toArray = [j]) (h : U3 P Γ ops K H fuel listed j σ) : M8 P Γ ops K H (fuel + 1) listed σ := by
 refine ⟨fun a w hs Hs hHs hall hdc => ?_⟩
 refine ⟨fun h0 => (by rw [hr] at h0; cases h0), fun k hk => ?_⟩
 have hk' := hk
 rw [hr] at hk
 simp at hk; subst hk
 exact h.run a w hs Hs hHs hall hdc hk'
theorem T6 {j j' : Nat} {σ : Sy} (hr : Region.ready .any ops listed.toArray = [j, j']) (h : U3 P Γ ops K H fuel listed j σ) (h' : U3 P Γ ops K H fuel listed j' σ) : M8 P Γ ops K H (fuel + 1) listed σ := by
 refine ⟨fun a w hs Hs hHs hall hdc => ?_⟩
 refine ⟨fun h0 => (by rw [hr] at h0; cases h0), fun k hk => ?_⟩
 have hk' := hk
 rw [hr] at hk
 simp at hk
 rcases hk with rfl | rfl
 ·exact h.run a w hs Hs hHs hall hdc hk'
 ·exact h'.run a w hs Hs hHs hall hdc hk'

theorem A93 {j : Nat} {d : Option Nat} {mods : List Nat} {K' : Sy → Prop} {σ : Sy} (hi : ops[j]? = some ⟨d, op, ty, pos, af, gd⟩)
  (h : U8 P Γ σ d op ty mods K') (hw : K5 ops σ.env gd = some true) (hl : listed.set j true = l')
  (hm : ∀ p ∈ H, Z0 ops j p.1 = true ∨ p.2 ∉ mods)
  (k : ∀ σ', K' σ' → M8 P Γ ops K (H.filter fun p => !Z0 ops j p.1) fuel l' σ') : U3 P Γ ops K H fuel listed j σ := by
 refine ⟨fun a w hs Hs hHs hall hdc hrd => ?_⟩
 unfold wpOp
 simp only [hi, A02 hs.env hw, if_true]
 refine .inl (h.run a w hs pos af gd _ _ fun a' w' σ' h1 h2 h3 => ?_)
 have hkeep : ∀ h ∈ Hn ops j Hs, w'.heap[h.b]? = some h.o := by
  intro x hx
  obtain ⟨hx1, hx2⟩ := List.mem_filter.1 hx
  have hp : (x.i, x.b) ∈ H := by rw [← hHs]; exact List.mem_map.2 ⟨x, hx1, rfl⟩
  have ho := hall x hx1
  rcases hm _ hp with h | h
  ·simp [h] at hx2
  ·rw [h2.block x.b (A0M ho) h, ho]
 refine ⟨hkeep, ?_⟩
 have := (k σ' h3).run a' w' h1 (Hn ops j Hs) (by
  subst hHs
  simp [Hn, List.filter_map, Function.comp_def]) hkeep (by rw [← hl]; simpa using hdc.step hrd)
 rw [← hl] at this
 simpa using this

end anyrules

structure K3 where
 size : Nat
 bytes : Nat
 zs : List Value
 desc : TypeDesc

class H5 (P : Program) (t : TypeId) (i : outParam K3) : Prop where
 info : ∃ inf, P.info? t = some inf ∧ inf.size = i.size ∧ inf.bytes = i.bytes ∧ ∃ z, inf.zero = some z ∧ z.cells = ⟨i.zs⟩
 und : P.underlying t = some i.desc

class V5 (P : Program) (t : TypeId) (sz : outParam Nat) (bytes : outParam Nat) (zs : outParam (List Value)) : Prop where
 ok : ∃ d, H5 P t ⟨sz, bytes, zs, d⟩
 len : zs.length = sz

def A1n : TypeDesc → Bool
 | .struct _ | .array _ _ => true
 | _ => false

theorem A6h {P : Program} {t : TypeId} {d : TypeDesc} (h : P.underlying t = some d) (w : World) : (isAgg t).run P w = .ok (A1n d) w := by
 simp only [isAgg, Sem.run_bind, run_underlying h, Result.andThen_ok]
 cases d <;> rfl

class Y2 (P : Program) (s : TypeId) (f : Nat) (off : outParam Nat) (sz : outParam Nat) (agg : outParam Bool) : Prop where
 ok : ∃ fs fl d inf, P.underlying s = some (.struct fs) ∧ fs[f]? = some fl ∧ fl.offset = off ∧ P.info? fl.type = some inf ∧ inf.size = sz ∧ sz ≠ 0 ∧ P.underlying fl.type = some d ∧ A1n d = agg

class B2 (P : Program) (f : FuncId) : Prop where
 ok : ∃ fn, P.funcs[f]? = some fn ∧ fn.body.isNone = false ∧ (fn.name == "runtime.NumGoroutine") = false

def A0P : List Value → Nat → Nat → Option (List Value)
 | _, 0, 0 => some []
 | [], _, _ => none
 | _ :: r, off + 1, n => A0P r off n
 | v :: r, 0, n + 1 => match A0P r 0 n with
  | some l => some (v :: l)
  | none => none

theorem A3B : ∀ {cs : List Value} {off n : Nat} {vs : List Value}, A0P cs off n = some vs → vs.length = n ∧ ∀ j v, vs[j]? = some v → cs[off + j]? = some v
 | cs, 0, 0, vs, h => by cases cs <;> (simp [A0P] at h; subst h; simp)
 | [], 0, n + 1, vs, h => by simp [A0P] at h
 | [], off + 1, n, vs, h => by cases n <;> simp [A0P] at h
 | c :: r, off + 1, n, vs, h => by
  have h' : A0P r off n = some vs := by cases n <;> simpa [A0P] using h
  obtain ⟨h1, h2⟩ := A3B h'
  exact ⟨h1, fun j v hv => by have := h2 j v hv; rw [show off + 1 + j = (off + j) + 1 by omega]; simpa using this⟩
 | c :: r, 0, n + 1, vs, h => by
  simp only [A0P] at h
  split at h
  ·rename_i l hl
   simp at h; subst h
   obtain ⟨h1, h2⟩ := A3B hl
   refine ⟨by simp [h1], fun j v hv => ?_⟩
   cases j with
   | zero => simpa using hv
   | succ j => have := h2 j v (by simpa using hv); simpa using this
  ·cases h

section laws
variable {P : Program} {Γ : K1} {env : K7} {hp : List A4} {G : IM} {ty : TypeId}

theorem qM {x : Operand} {v : Value} (h : evo env x = some v) : I6 P Γ ⟨env, hp, G⟩ (.move x) ty v :=
 by refine ⟨?_⟩; exact fun a _ hs _ _ _ _ w => by simp [execOp, (hs.evo h : a.eval x = v)]
theorem qA {x : Operand} {v : Value} (h : evo env x = some v) : I6 P Γ ⟨env, hp, G⟩ (.assign x) ty v :=
 by refine ⟨?_⟩; exact fun a _ hs _ _ _ _ w => by simp [execOp, (hs.evo h : a.eval x = v)]
theorem O2 {c x y : Operand} {v : Value} (hc : evo env c = some (.bool true)) (h : evo env x = some v) : I6 P Γ ⟨env, hp, G⟩ (.pick c x y) ty v :=
 by refine ⟨?_⟩; exact fun a _ hs _ _ _ _ w => by simp [execOp, asBool, (hs.evo hc : a.eval c = _), (hs.evo h : a.eval x = v)]
theorem S5 {c x y : Operand} {v : Value} (hc : evo env c = some (.bool false)) (h : evo env y = some v) : I6 P Γ ⟨env, hp, G⟩ (.pick c x y) ty v :=
 by refine ⟨?_⟩; exact fun a _ hs _ _ _ _ w => by simp [execOp, asBool, (hs.evo hc : a.eval c = _), (hs.evo h : a.eval y = v)]
theorem A2i {x : Operand} {t : TypeId} {b : Bool} (h : evo env x = some (.bool b)) : I6 P Γ ⟨env, hp, G⟩ (.unOp .not t x) ty (.bool !b) :=
 by refine ⟨?_⟩; exact fun a _ hs _ _ _ _ w => by simp [execOp, Op.unary, (hs.evo h : a.eval x = _)]
theorem pNt {x : Operand} {t : TypeId} (h : evo env x = some (.bool true)) : I6 P Γ ⟨env, hp, G⟩ (.unOp .not t x) ty (.bool false) := A2i h
theorem pNf {x : Operand} {t : TypeId} (h : evo env x = some (.bool false)) : I6 P Γ ⟨env, hp, G⟩ (.unOp .not t x) ty (.bool true) := A2i h
theorem pX {x : Operand} {vs : List Value} {i : Nat} {v : Value} (h : evo env x = some (.tuple ⟨vs⟩)) (hv : vs[i]? = some v) : I6 P Γ ⟨env, hp, G⟩ (.extract x i) ty v :=
 by refine ⟨?_⟩; exact fun a _ hs _ _ _ _ w => by simp [execOp, Instr.extract, (hs.evo h : a.eval x = _), hv]
theorem Y3 {x : Operand} {p : Addr} (h : evo env x = some (.pointer (some p))) : I6 P Γ ⟨env, hp, G⟩ (.nilCheck x) ty (.pointer (some p)) :=
 by refine ⟨?_⟩; exact fun a _ hs _ _ _ _ w => by simp [execOp, (hs.evo h : a.eval x = _)]

theorem A1R (b o n : Nat) : (⟨b, o, none⟩ : Addr).add n = ⟨b, o + n, none⟩ := by
 unfold Addr.add; split
 ·rename_i h; subst h; rfl
 ·rfl

theorem qF {x : Operand} {s : TypeId} {f b o off sz : Nat} {ag : Bool} [hI : Y2 P s f off sz ag] (h : evo env x = some (.pointer (some ⟨b, o, none⟩))) :
  I6 P Γ ⟨env, hp, G⟩ (.fieldAddr s x f) ty (.pointer (some ⟨b, o + off, none⟩)) := by
 refine ⟨fun a _ hs _ _ _ _ w => ?_⟩
 obtain ⟨fs, fl, d, inf, h1, h2, h3, h4, h5, h6, _⟩ := hI.ok
 have hx : a.eval x = _ := hs.evo h
 subst h3 h5
 simp [execOp, Instr.fieldAt, hx, run_underlying h1, h2, Instr.sureAddr, fieldPlace, sizeOf, typeInfo, h4, h6, A1R]
theorem B8 {x : Operand} {s : TypeId} {f b off sz : Nat} {ag : Bool} [hI : Y2 P s f off sz ag] (h : evo env x = some (.pointer (some ⟨b, 0, none⟩))) :
  I6 P Γ ⟨env, hp, G⟩ (.fieldAddr s x f) ty (.pointer (some ⟨b, off, none⟩)) := by
 have := qF (P := P) (Γ := Γ) (hp := hp) (G := G) (ty := ty) (s := s) (f := f) h
 simpa using this

theorem A1S {k : IntKind} (n : Int) (hk : k = .i64) (h1 : -9223372036854775808 ≤ n) (h2 : n ≤ 9223372036854775807) : k.wrap n = n := by
 subst hk; exact IntWalk.i64_in n (by omega)

theorem I2 {x y : Operand} {t t' : TypeId} {m n : Int} (hx : evo env x = some (.int .i64 m)) (hy : evo env y = some (.int .i64 n))
  (h1 : -9223372036854775808 ≤ m + n) (h2 : m + n ≤ 9223372036854775807) : I6 P Γ ⟨env, hp, G⟩ (.binOp .add t x y t') ty (.int .i64 (m + n)) :=
 by refine ⟨?_⟩; exact fun a _ hs _ _ _ _ w => by simp [execOp, eqGuard, binOp, Op.intArith, (hs.evo hx : a.eval x = _), (hs.evo hy : a.eval y = _), A1S _ rfl h1 h2]
theorem O4 {x y : Operand} {t t' : TypeId} {m n : Int} (hx : evo env x = some (.int .i64 m)) (hy : evo env y = some (.int .i64 n))
  (h1 : -9223372036854775808 ≤ m - n) (h2 : m - n ≤ 9223372036854775807) : I6 P Γ ⟨env, hp, G⟩ (.binOp .sub t x y t') ty (.int .i64 (m - n)) :=
 by refine ⟨?_⟩; exact fun a _ hs _ _ _ _ w => by simp [execOp, eqGuard, binOp, Op.intArith, (hs.evo hx : a.eval x = _), (hs.evo hy : a.eval y = _), A1S _ rfl h1 h2]
theorem A94 {x y : Operand} {t t' : TypeId} {m n : Int} (hx : evo env x = some (.int .i64 m)) (hy : evo env y = some (.int .i64 n))
  (h1 : -9223372036854775808 ≤ m * n) (h2 : m * n ≤ 9223372036854775807) : I6 P Γ ⟨env, hp, G⟩ (.binOp .mul t x y t') ty (.int .i64 (m * n)) :=
 by refine ⟨?_⟩; exact fun a _ hs _ _ _ _ w => by simp [execOp, eqGuard, binOp, Op.intArith, (hs.evo hx : a.eval x = _), (hs.evo hy : a.eval y = _), A1S _ rfl h1 h2]
theorem A6i {x : Operand} {t : TypeId} {n : Int} (hx : evo env x = some (.int .i64 n))
  (h1 : -9223372036854775808 ≤ -n) (h2 : -n ≤ 9223372036854775807) : I6 P Γ ⟨env, hp, G⟩ (.unOp .neg t x) ty (.int .i64 (-n)) :=
 by refine ⟨?_⟩; exact fun a _ hs _ _ _ _ w => by simp [execOp, Op.unary, Op.intArith, (hs.evo hx : a.eval x = _), A1S _ rfl h1 h2]
theorem A3C {x y : Operand} {t t' : TypeId} {m n : Int} (hx : evo env x = some (.int .i64 m)) (hy : evo env y = some (.int .i64 n)) (hn : n ≠ 0) :
  I6 P Γ ⟨env, hp, G⟩ (.binOp .rem t x y t') ty (.int .i64 (m.tmod n)) :=
 by refine ⟨?_⟩; exact fun a _ hs _ _ _ _ w => by simp [execOp, eqGuard, binOp, Op.intDiv, (hs.evo hx : a.eval x = _), (hs.evo hy : a.eval y = _), hn]
theorem A95 {x y : Operand} {t t' : TypeId} {m n : Int} (hx : evo env x = some (.int .i64 m)) (hy : evo env y = some (.int .i64 n)) (hn : n ≠ 0)
  (h1 : -9223372036854775808 ≤ m.tdiv n) (h2 : m.tdiv n ≤ 9223372036854775807) : I6 P Γ ⟨env, hp, G⟩ (.binOp .quo t x y t') ty (.int .i64 (m.tdiv n)) :=
 by refine ⟨?_⟩; exact fun a _ hs _ _ _ _ w => by simp [execOp, eqGuard, binOp, Op.intDiv, (hs.evo hx : a.eval x = _), (hs.evo hy : a.eval y = _), hn, A1S _ rfl h1 h2]

theorem qE {x y : Operand} {t t' : TypeId} {k : IntKind} {m n : Int} (hx : evo env x = some (.int k m)) (hy : evo env y = some (.int k n)) :
  I6 P Γ ⟨env, hp, G⟩ (.binOp .eql t x y t') ty (.bool (decide (m = n))) :=
 by
  refine ⟨fun a _ hs _ _ _ _ w => ?_⟩
  simp [execOp, eqGuard, binOp, Op.intCmp, (hs.evo hx : a.eval x = _), (hs.evo hy : a.eval y = _)]
  by_cases h : m = n <;> simp [h]
theorem R9 {x y : Operand} {t t' : TypeId} {k : IntKind} {m n : Int} (hx : evo env x = some (.int k m)) (hy : evo env y = some (.int k n)) :
  I6 P Γ ⟨env, hp, G⟩ (.binOp .neq t x y t') ty (.bool (decide (m ≠ n))) :=
 by
  refine ⟨fun a _ hs _ _ _ _ w => ?_⟩
  simp [execOp, eqGuard, binOp, Op.intCmp, (hs.evo hx : a.eval x = _), (hs.evo hy : a.eval y = _)]
  by_cases h : m = n <;> simp [h]
theorem J6 {x y : Operand} {t t' : TypeId} {k : IntKind} {m n : Int} (hx : evo env x = some (.int k m)) (hy : evo env y = some (.int k n)) :
  I6 P Γ ⟨env, hp, G⟩ (.binOp .lss t x y t') ty (.bool (decide (m < n))) :=
 by refine ⟨?_⟩; exact fun a _ hs _ _ _ _ w => by simp [execOp, eqGuard, binOp, Op.intCmp, (hs.evo hx : a.eval x = _), (hs.evo hy : a.eval y = _)]
theorem Z9 {x y : Operand} {t t' : TypeId} {k : IntKind} {m n : Int} (hx : evo env x = some (.int k m)) (hy : evo env y = some (.int k n)) :
  I6 P Γ ⟨env, hp, G⟩ (.binOp .leq t x y t') ty (.bool (decide (m ≤ n))) :=
 by refine ⟨?_⟩; exact fun a _ hs _ _ _ _ w => by simp [execOp, eqGuard, binOp, Op.intCmp, (hs.evo hx : a.eval x = _), (hs.evo hy : a.eval y = _)]
theorem A0v {x y : Operand} {t t' : TypeId} {k : IntKind} {m n : Int} (hx : evo env x = some (.int k m)) (hy : evo env y = some (.int k n)) :
  I6 P Γ ⟨env, hp, G⟩ (.binOp .gtr t x y t') ty (.bool (decide (n < m))) :=
 by refine ⟨?_⟩; exact fun a _ hs _ _ _ _ w => by simp [execOp, eqGuard, binOp, Op.intCmp, (hs.evo hx : a.eval x = _), (hs.evo hy : a.eval y = _)]
theorem A0Q {x y : Operand} {t t' : TypeId} {k : IntKind} {m n : Int} (hx : evo env x = some (.int k m)) (hy : evo env y = some (.int k n)) :
  I6 P Γ ⟨env, hp, G⟩ (.binOp .geq t x y t') ty (.bool (decide (n ≤ m))) :=
 by refine ⟨?_⟩; exact fun a _ hs _ _ _ _ w => by simp [execOp, eqGuard, binOp, Op.intCmp, (hs.evo hx : a.eval x = _), (hs.evo hy : a.eval y = _)]

theorem pLn {x : Operand} {t : TypeId} {i : K3} [hI : H5 P t i] {e : TypeId} (hd : i.desc = .slice e) {p : Option Addr} {n c : Nat} (hx : evo env x = some (.slice p n c)) :
  I6 P Γ ⟨env, hp, G⟩ (.call ⟨.builtin .len, ⟨[x]⟩, ⟨[t]⟩⟩) ty (.int .i64 n) := by
 refine ⟨fun a _ hs _ _ _ _ w => ?_⟩
 have hu := hI.und
 rw [hd] at hu
 simp [execOp, resolve, invoke, builtin, Builtin.len_, (hs.evo hx : a.eval x = _), run_underlying hu, goInt]
theorem A6j {x : Operand} {t : TypeId} {i : K3} [hI : H5 P t i] (hd : i.desc = .string) {s : ByteArray} (hx : evo env x = some (.string s)) :
  I6 P Γ ⟨env, hp, G⟩ (.call ⟨.builtin .len, ⟨[x]⟩, ⟨[t]⟩⟩) ty (.int .i64 s.size) := by
 refine ⟨fun a _ hs _ _ _ _ w => ?_⟩
 have hu := hI.und
 rw [hd] at hu
 simp [execOp, resolve, invoke, builtin, Builtin.len_, (hs.evo hx : a.eval x = _), run_underlying hu, goInt]

theorem A6k {x y : Operand} {t e : TypeId} {i ie : K3} [hI : H5 P t i] (hd : i.desc = .slice e) [hE : H5 P e ie] {b o n c : Nat} {k : IntKind} {j : Int}
  (hx : evo env x = some (.slice (some ⟨b, o, none⟩) n c)) (hy : evo env y = some (.int k j)) (h0 : 0 ≤ j) (h1 : j < n) :
  I6 P Γ ⟨env, hp, G⟩ (.indexAddr t x y) ty (.pointer (some ⟨b, o + j.toNat * ie.size, none⟩)) := by
 refine ⟨fun a _ hs _ _ _ _ w => ?_⟩
 have hu := hI.und
 rw [hd] at hu
 obtain ⟨inf, g1, g2, _⟩ := hE.info
 simp [execOp, Instr.indexAt, (hs.evo hx : a.eval x = _), (hs.evo hy : a.eval y = _), asIntOf, run_underlying hu, h0, h1, sizeOf, typeInfo, g1, g2, A1R]

theorem B4 {x y : Operand} {t e : TypeId} {i : K3} {sz by' : Nat} {zs : List Value} [hI : H5 P t i] (hd : i.desc = .slice e) [hE : V5 P e sz by' zs] {b o n c j : Nat} {k : IntKind}
  (hx : evo env x = some (.slice (some ⟨b, o, none⟩) n c)) (hy : evo env y = some (.int k (j : Int))) (h1 : j < n) :
  I6 P Γ ⟨env, hp, G⟩ (.indexAddr t x y) ty (.pointer (some ⟨b, o + j * sz, none⟩)) := by
 obtain ⟨d, hE⟩ := hE.ok
 have := A6k (P := P) (Γ := Γ) (hp := hp) (G := G) (ty := ty) (t := t) hd hx hy (by omega) (by omega)
 simpa using this
theorem A2j {fn : Fn} {xs ys : List Operand} {us vs : List Value} (hx : evl env xs = some us) (hy : evl env ys = some vs) :
  I6 P Γ ⟨env, hp, G⟩ (.makeFunc fn ⟨xs⟩ ⟨ys⟩) ty (.func fn ⟨us⟩ ⟨vs⟩) :=
 by refine ⟨?_⟩; exact fun a _ hs _ _ _ _ w => by simp [execOp, Instr.makeFunc, ← hs.evl hx, ← hs.evl hy]

theorem A96 {w : World} {b : Nat} {full : List Value} {e : TypeId} {f : Nat × Nat} (hb : w.heap[b]? = some (.cells full.toArray e f)) {o : Nat} {vs : List Value}
  (hv : ∀ j v, vs[j]? = some v → full[o + j]? = some v) : (loadCells ⟨b, o, none⟩ vs.length).run P w = .ok vs.toArray w :=
 run_loadCells_list w _ vs fun j v h => by rw [A1R]; simp [World.cell?, hb, hv j v h]

theorem A97 {w : World} {t : TypeId} {i : K3} [hI : H5 P t i] (hd : A1n i.desc = false) {b o : Nat} {v : Value} (h : w.cell? ⟨b, o, none⟩ = some v) :
  (Instr.loadAt t (.pointer (some ⟨b, o, none⟩))).run P w = .ok v w := by
 simp [Instr.loadAt, Instr.sureAddr, loadVar, A6h hI.und, hd, h]
theorem A98 {w : World} {t : TypeId} {i : K3} [hI : H5 P t i] (hd : A1n i.desc = true) {b o : Nat} {vs : List Value}
  (h : (loadCells ⟨b, o, none⟩ vs.length).run P w = .ok vs.toArray w) (hn : vs.length = i.size) :
  (Instr.loadAt t (.pointer (some ⟨b, o, none⟩))).run P w = .ok (.agg ⟨vs⟩) w := by
 obtain ⟨inf, g1, g2, _⟩ := hI.info
 rw [hn] at h
 simp [Instr.loadAt, Instr.sureAddr, loadVar, A6h hI.und, hd, sizeOf, typeInfo, g1, g2, h]

def At (hp : List A4) (G : IM) (b o : Nat) (vs : List Value) : Prop :=
 (∃ cs, A4.blk b cs ∈ hp ∧ ∀ j v, vs[j]? = some v → cs[o + j]? = some v) ∨
 (∃ n c el sz cs, A4.slc (some ⟨b, 0, none⟩) c el sz n cs ∈ hp ∧ ∀ j v, vs[j]? = some v → cs[o + j]? = some v) ∨
 (∃ full, G b = some full ∧ ∀ j v, vs[j]? = some v → full[o + j]? = some v)

theorem At.read {a : Act} {w : World} {b o : Nat} {vs : List Value} (h : At hp G b o vs) (hs : St Γ ⟨env, hp, G⟩ a w) :
  ∃ full e f, w.heap[b]? = some (.cells (full : List Value).toArray e f) ∧ ∀ j v, vs[j]? = some v → full[o + j]? = some v := by
 rcases h with ⟨cs, hm, hv⟩ | ⟨n, c, el, sz, cs, hm, hv⟩ | ⟨full, hg, hv⟩
 ·obtain ⟨e, he⟩ := hs.res.own.ok _ hm
  exact ⟨cs, e, _, he, hv⟩
 ·obtain ⟨_, h2⟩ := hs.res.own.ok _ hm
  rcases h2 with ⟨h2, _⟩ | ⟨g, cap, cur, h2, _, hg, _, _, _, ht⟩
  ·cases h2
  ·cases h2
   refine ⟨cur.toList, el, _, by simpa using hg, fun j v hj => ?_⟩
   have := hv j v hj
   rw [← ht, List.getElem?_take] at this
   split at this
   ·exact this
   ·cases this
 ·obtain ⟨e, f, hb⟩ := hs.res.own.inn b full hg
  exact ⟨full, e, f, hb, hv⟩

theorem A0w {x : Operand} {t : TypeId} {i : K3} [hI : H5 P t i] (hd : A1n i.desc = false) {b o : Nat} {v : Value}
  (hx : evo env x = some (.pointer (some ⟨b, o, none⟩))) (hv : At hp G b o [v]) : A1y P Γ ⟨env, hp, G⟩ (.load t x) ty b v := by
 refine ⟨fun a w hs => ?_⟩
 obtain ⟨full, e, f, hb, hf⟩ := hv.read hs
 refine ⟨A0M hb, fun w' hw' d pos af gd => ?_⟩
 have hc : w'.cell? ⟨b, o, none⟩ = some v := by simp [World.cell?, hw', hb, show full[o]? = some v from hf 0 v rfl]
 simp only [execOp, Sem.run_bind, (hs.evo hx : a.eval x = _), A97 hd hc]
 rfl
theorem A5 {x : Operand} {t : TypeId} {i : K3} [hI : H5 P t i] (hd : A1n i.desc = true) {b o : Nat} {vs : List Value}
  (hx : evo env x = some (.pointer (some ⟨b, o, none⟩))) (hv : At hp G b o vs) (hn : vs.length = i.size) : A1y P Γ ⟨env, hp, G⟩ (.load t x) ty b (.agg ⟨vs⟩) := by
 refine ⟨fun a w hs => ?_⟩
 obtain ⟨full, e, f, hb, hf⟩ := hv.read hs
 refine ⟨A0M hb, fun w' hw' d pos af gd => ?_⟩
 have hc := A96 (P := P) (w := w') (hw'.trans hb) hf
 simp only [execOp, Sem.run_bind, (hs.evo hx : a.eval x = _), A98 hd hc hn]
 rfl

theorem B5 {b : Nat} {cs : List Value} (hm : A4.blk b cs ∈ hp) : At hp G b 0 cs := .inl ⟨cs, hm, fun j u hj => by simpa using hj⟩
theorem A99 {b o : Nat} {cs : List Value} {v : Value} (hm : A4.blk b cs ∈ hp) (hv : cs[o]? = some v) : At hp G b o [v] :=
 .inl ⟨cs, hm, fun j u hj => by cases j <;> simp_all⟩
theorem B0a {b o n : Nat} {cs vs : List Value} (hm : A4.blk b cs ∈ hp) (hv : A0P cs o n = some vs) : At hp G b o vs := .inl ⟨cs, hm, (A3B hv).2⟩

theorem B0b {t : TypeId} {i : K3} {sz by' : Nat} {zs : List Value} (h : H5 P t i) (h' : V5 P t sz by' zs) : i.size = sz := by
 obtain ⟨d, h'⟩ := h'.ok
 obtain ⟨i1, a1, a2, _⟩ := h.info
 obtain ⟨i2, b1, b2, _⟩ := h'.info
 rw [a1] at b1; cases b1
 rw [← a2, b2]
theorem A2 {x : Operand} {t : TypeId} {i : K3} {sz by' : Nat} {zs : List Value} [hI : H5 P t i] [hS : V5 P t sz by' zs] (hd : A1n i.desc = true) {b o : Nat} {cs vs : List Value}
  (hx : evo env x = some (.pointer (some ⟨b, o, none⟩))) (hm : A4.blk b cs ∈ hp := by repeat first | exact List.Mem.head _ | apply List.Mem.tail) (hv : A0P cs o sz = some vs := by rfl) : A1y P Γ ⟨env, hp, G⟩ (.load t x) ty b (.agg ⟨vs⟩) :=
 A5 hd hx (B0a hm hv) (by rw [B0b hI hS]; exact (A3B hv).1)
theorem C7 {x : Operand} {t : TypeId} {i : K3} [hI : H5 P t i] (hd : A1n i.desc = false) {b o : Nat} {cs : List Value} {v : Value}
  (hx : evo env x = some (.pointer (some ⟨b, o, none⟩))) (hm : A4.blk b cs ∈ hp := by repeat first | exact List.Mem.head _ | apply List.Mem.tail) (hv : cs[o]? = some v := by rfl) : A1y P Γ ⟨env, hp, G⟩ (.load t x) ty b v :=
 A0w hd hx (A99 hm hv)
theorem A6l {b o c el sz n : Nat} {cs vs : List Value} (hm : A4.slc (some ⟨b, 0, none⟩) c el sz n cs ∈ hp) (hv : ∀ j v, vs[j]? = some v → cs[o + j]? = some v) : At hp G b o vs := .inr (.inl ⟨n, c, el, sz, cs, hm, hv⟩)
theorem N2 {b c el sz n : Nat} {cs : List Value} (hm : A4.slc (some ⟨b, 0, none⟩) c el sz n cs ∈ hp) : At hp G b 0 cs := .inr (.inl ⟨n, c, el, sz, cs, hm, fun j v hj => by simpa using hj⟩)
theorem A2Q {b o : Nat} {full vs : List Value} (hg : G b = some full) (hv : ∀ j v, vs[j]? = some v → full[o + j]? = some v) : At hp G b o vs := .inr (.inr ⟨full, hg, hv⟩)

theorem A3D {x y : Operand} {t : TypeId} {i : K3} [hI : H5 P t i] (hd : i.desc = .string) {s : ByteArray} {k : IntKind} {j : Int} {b : UInt8}
  (hx : evo env x = some (.string s)) (hy : evo env y = some (.int k j)) (h0 : 0 ≤ j) (hb : s[j.toNat]? = some b) :
  I6 P Γ ⟨env, hp, G⟩ (.index t x y) ty (.int .u8 b.toNat) := by
 refine ⟨fun a _ hs _ _ _ _ w => ?_⟩
 have hu := hI.und
 rw [hd] at hu
 simp only [execOp, Instr.index, (hs.evo hx : a.eval x = _), (hs.evo hy : a.eval y = _), asIntOf, Sem.run_bind, Sem.run_pure, Result.andThen_ok, run_underlying hu, h0, if_true, hb]
theorem toList_eq (r s : ByteArray) : (r.toList == s.toList) = decide (r = s) := by
 by_cases h : r = s
 ·subst h; simp
 ·have : r.toList ≠ s.toList := by
   intro e
   apply h
   have := congrArg List.toArray e
   rw [ByteArray.toList_eq, ByteArray.toList_eq] at this
   cases r; cases s; simpa using this
  simp [h, this]
theorem A2k {x y : Operand} {t t' : TypeId} {r s : ByteArray} (hx : evo env x = some (.string r)) (hy : evo env y = some (.string s)) :
  I6 P Γ ⟨env, hp, G⟩ (.binOp .eql t x y t') ty (.bool (decide (r = s))) := by
 refine ⟨fun a _ hs _ _ _ _ w => ?_⟩
 simp only [execOp, eqGuard, binOp, Op.stringOp, (hs.evo hx : a.eval x = _), (hs.evo hy : a.eval y = _), toList_eq]
 simp
theorem A1T {x y : Operand} {t t' : TypeId} {r s : ByteArray} (hx : evo env x = some (.string r)) (hy : evo env y = some (.string s)) :
  I6 P Γ ⟨env, hp, G⟩ (.binOp .neq t x y t') ty (.bool (decide (r ≠ s))) := by
 refine ⟨fun a _ hs _ _ _ _ w => ?_⟩
 simp only [execOp, eqGuard, binOp, Op.stringOp, (hs.evo hx : a.eval x = _), (hs.evo hy : a.eval y = _), toList_eq]
 simp
theorem A6m {t : TypeId} {i : K3} [hI : H5 P t i] (hd : i.desc = .bool) (r s : Bool) (w : World) : (Op.equal t (.bool r) (.bool s)).run P w = .ok (r == s) w := by
 have hu := hI.und
 rw [hd] at hu
 have h : ∀ d, (Op.equalIn (d + 1) t (.bool r) (.bool s)).run P w = .ok (r == s) w := fun d => by
  simp only [Op.equalIn, Sem.run_bind, run_underlying hu, Result.andThen_ok, Sem.run_pure]
 exact h 9999
theorem B0c {x y : Operand} {t t' : TypeId} {i : K3} [hI : H5 P t i] (hd : i.desc = .bool) {r s : Bool} (hx : evo env x = some (.bool r)) (hy : evo env y = some (.bool s)) :
  I6 P Γ ⟨env, hp, G⟩ (.binOp .eql t x y t') ty (.bool (decide (r = s))) := by
 refine ⟨fun a _ hs _ _ _ _ w => ?_⟩
 simp only [execOp, eqGuard, binOp, (hs.evo hx : a.eval x = _), (hs.evo hy : a.eval y = _), Sem.run_bind, A6m hd, Sem.run_pure, Result.andThen_ok]
 cases r <;> cases s <;> rfl
theorem A4D {x y : Operand} {t t' : TypeId} {i : K3} [hI : H5 P t i] (hd : i.desc = .bool) {r s : Bool} (hx : evo env x = some (.bool r)) (hy : evo env y = some (.bool s)) :
  I6 P Γ ⟨env, hp, G⟩ (.binOp .neq t x y t') ty (.bool (decide (r ≠ s))) := by
 refine ⟨fun a _ hs _ _ _ _ w => ?_⟩
 simp only [execOp, eqGuard, binOp, (hs.evo hx : a.eval x = _), (hs.evo hy : a.eval y = _), Sem.run_bind, A6m hd, Sem.run_pure, Result.andThen_ok]
 cases r <;> cases s <;> rfl
theorem B0d {t e : TypeId} {i : K3} [hI : H5 P t i] (hd : i.desc = .slice e) (p : Option Addr) (n c : Nat) (w : World) : (Op.equal t (.slice p n c) (.slice none 0 0)).run P w = .ok p.isNone w := by
 have hu := hI.und
 rw [hd] at hu
 have h : ∀ d, (Op.equalIn (d + 1) t (.slice p n c) (.slice none 0 0)).run P w = .ok p.isNone w := fun d => by
  cases p <;> simp only [Op.equalIn, Sem.run_bind, run_underlying hu, Result.andThen_ok, Sem.run_pure, Option.isNone]
 exact h 9999
theorem A6n {x y : Operand} {t t' e : TypeId} {i : K3} [hI : H5 P t i] (hd : i.desc = .slice e) {p : Option Addr} {n c : Nat} (hx : evo env x = some (.slice p n c)) (hy : evo env y = some (.slice none 0 0)) :
  I6 P Γ ⟨env, hp, G⟩ (.binOp .eql t x y t') ty (.bool (decide (p = none))) := by
 refine ⟨fun a _ hs _ _ _ _ w => ?_⟩
 simp only [execOp, eqGuard, binOp, (hs.evo hx : a.eval x = _), (hs.evo hy : a.eval y = _), Sem.run_bind, B0d hd, Sem.run_pure, Result.andThen_ok]
 cases p <;> rfl
theorem B0e {x y : Operand} {t t' e : TypeId} {i : K3} [hI : H5 P t i] (hd : i.desc = .slice e) {n c : Nat} (hx : evo env x = some (.slice none n c)) (hy : evo env y = some (.slice none 0 0)) :
  I6 P Γ ⟨env, hp, G⟩ (.binOp .eql t x y t') ty (.bool true) := A6n hd hx hy
theorem A4E {x y : Operand} {t t' e : TypeId} {i : K3} [hI : H5 P t i] (hd : i.desc = .slice e) {p : Addr} {n c : Nat} (hx : evo env x = some (.slice (some p) n c)) (hy : evo env y = some (.slice none 0 0)) :
  I6 P Γ ⟨env, hp, G⟩ (.binOp .eql t x y t') ty (.bool false) := A6n hd hx hy
end laws

section steps
variable {P : Program} {Γ : K1} {env : K7} {hp : List A4} {G : IM} {ty : TypeId}

theorem A6o (w : World) (hin : A2L G w) (cs : List Value) (e : TypeId) : Q4 [] G w [.blk w.heap.size cs] G (w.alloc (.cells cs.toArray e)) := by
 have hb : (w.alloc (.cells cs.toArray e)).heap[w.heap.size]? = some (.cells cs.toArray e (0, 0)) := heap_alloc_new w _
 have hold : ∀ k, k < w.heap.size → (w.alloc (.cells cs.toArray e)).heap[k]? = w.heap[k]? := fun k hk => Below.heap_alloc w _ k hk
 refine ⟨⟨?_, ?_, by simp [Fp, A4.fp], ?_⟩, ⟨rfl, rfl, rfl, by simp, fun k hk _ => hold k hk⟩, B1.refl _, fun _ _ h => .inl h, ?_, fun b l h h0 => absurd h (by rw [h0]; simp)⟩
 ·intro b l hg
  obtain ⟨e', f', h'⟩ := hin b l hg
  exact ⟨e', f', by rw [hold b (A0M h')]; exact h'⟩
 ·intro x hx
  simp at hx; subst hx
  exact ⟨e, hb⟩
 ·intro b hb
  simp [Fp, A4.fp] at hb; subst hb
  cases hg : G w.heap.size with
  | none => rfl
  | some l => exact absurd (hin.lt hg) (by omega)
 ·intro b hb
  simp [Fp, A4.fp] at hb; subst hb
  exact .inl (Nat.le_refl _)

theorem St.step {a : Act} {w w' : World} {ins outs rest hp' : List A4} {G' : IM} (hs : St Γ ⟨env, hp, G⟩ a w) (p : hp.Perm (ins ++ rest)) (r : Q4 ins G w outs G' w') (q : (outs ++ rest).Perm hp')
  {d : Option Nat} {v : Value} (hd : dok Γ.n d = true) : St Γ ⟨dpu d v env, hp', G'⟩ (a.put d v) w' :=
 hs.dput d v hd (((hs.res.perm p).frame r).perm q)

theorem A4F {d : Nat} {op : Op} {mk : Nat → Value} {cs : List Value} (hd : Nat.blt d Γ.n = true)
  (hrun : ∀ a w, St Γ ⟨env, hp, G⟩ a w → ∃ e, ∀ d pos af gd, (execOp a.eval ⟨d, op, ty, pos, af, gd⟩).run P w = .ok (.value (mk w.heap.size)) (w.alloc (.cells cs.toArray e))) :
  U8 P Γ ⟨env, hp, G⟩ (some d) op ty [] (fun σ' => ∃ b, σ' = ⟨(d, mk b) :: env, .blk b cs :: hp, G⟩) := by
 refine ⟨fun a w hs pos af gd Q next hn => ?_⟩
 obtain ⟨e, hr⟩ := hrun a w hs
 simp only [Oper.wp, hr, Oper.upon]
 have hr' := A6o w hs.res.own.inn cs e
 exact hn _ _ _ (hs.step (ins := []) (rest := hp) (List.Perm.refl _) hr' (List.Perm.refl _) (d := some d) hd) hr'.ext ⟨w.heap.size, rfl⟩

theorem C2 {d : Nat} {x : Operand} {t : TypeId} {vs : List Value} (hx : evo env x = some (.agg ⟨vs⟩)) (hd : Nat.blt d Γ.n = true) :
  U8 P Γ ⟨env, hp, G⟩ (some d) (.box t x) ty [] (fun σ' => ∃ b, σ' = ⟨(d, .pointer (some ⟨b, 0, none⟩)) :: env, .blk b vs :: hp, G⟩) :=
 A4F hd fun a w hs => ⟨t, fun _ _ _ _ => by simp [execOp, Instr.box, newVar, newRow, newObj, Sem.run, (hs.evo hx : a.eval x = _), Value.cells]⟩
theorem B0f {d : Nat} {x : Operand} {t : TypeId} {v : Value} (hx : evo env x = some v) (hv : v.cells = ⟨[v]⟩) (hd : Nat.blt d Γ.n = true) :
  U8 P Γ ⟨env, hp, G⟩ (some d) (.box t x) ty [] (fun σ' => ∃ b, σ' = ⟨(d, .pointer (some ⟨b, 0, none⟩)) :: env, .blk b [v] :: hp, G⟩) :=
 A4F hd fun a w hs => ⟨t, fun _ _ _ _ => by simp [execOp, Instr.box, newVar, newRow, newObj, Sem.run, (hs.evo hx : a.eval x = _), hv]⟩
theorem A6 {d : Nat} {t : TypeId} {sz by' : Nat} {zs : List Value} [hI : V5 P t sz by' zs] (hd : Nat.blt d Γ.n = true) :
  U8 P Γ ⟨env, hp, G⟩ (some d) (.alloc t) ty [] (fun σ' => ∃ b, σ' = ⟨(d, .pointer (some ⟨b, 0, none⟩)) :: env, .blk b zs :: hp, G⟩) :=
 A4F hd fun a w hs => ⟨t, fun _ _ _ _ => by
  obtain ⟨_, hI⟩ := hI.ok
  obtain ⟨inf, g1, _, _, z, g4, g5⟩ := hI.info
  simp [execOp, Instr.alloc, zeroValue, typeInfo, g1, g4, newVar, newRow, newObj, Sem.run, g5]⟩

inductive Sw : List A4 → A4 → A4 → List A4 → Prop
 | here {e e' : A4} {r : List A4} : Sw (e :: r) e e' (e' :: r)
 | there {x e e' : A4} {r r' : List A4} : Sw r e e' r' → Sw (x :: r) e e' (x :: r')

theorem Sw.perm {hp hp' : List A4} {e e' : A4} (h : Sw hp e e' hp') : ∃ rest, hp.Perm ([e] ++ rest) ∧ ([e'] ++ rest).Perm hp' := by
 induction h with
 | @here e e' r => exact ⟨r, List.Perm.refl _, List.Perm.refl _⟩
 | @there x e e' r r' _ ih =>
  obtain ⟨rest, h1, h2⟩ := ih
  refine ⟨x :: rest, (h1.cons x).trans ?_, List.Perm.trans ?_ (h2.cons x)⟩
  ·exact List.Perm.swap _ _ _
  ·exact List.Perm.swap _ _ _
def Q5 : List Value → Nat → List Value → Option (List Value)
 | cs, 0, [] => some cs
 | [], 0, _ :: _ => none
 | _ :: cs, 0, v :: vs => match Q5 cs 0 vs with
  | some r => some (v :: r)
  | none => none
 | [], _ + 1, _ => none
 | c :: cs, o + 1, vs => match Q5 cs o vs with
  | some r => some (c :: r)
  | none => none
theorem A1U : ∀ {cs : List Value} {o : Nat} {vs cs' : List Value}, Q5 cs o vs = some cs' → cs' = cs.take o ++ vs ++ cs.drop (o + vs.length) ∧ o + vs.length ≤ cs.length
 | cs, 0, [], cs', h => by cases cs <;> (simp [Q5] at h; subst h; simp)
 | [], 0, v :: vs, cs', h => by simp [Q5] at h
 | c :: cs, 0, v :: vs, cs', h => by
  simp only [Q5] at h
  split at h
  ·rename_i r hr
   simp at h; subst h
   obtain ⟨h1, h2⟩ := A1U hr
   constructor
   ·simp [h1]
   ·simp at h2 ⊢; omega
  ·cases h
 | [], o + 1, vs, cs', h => by simp [Q5] at h
 | c :: cs, o + 1, vs, cs', h => by
  simp only [Q5] at h
  split at h
  ·rename_i r hr
   simp at h; subst h
   obtain ⟨h1, h2⟩ := A1U hr
   constructor
   ·rw [h1, show o + 1 + vs.length = (o + vs.length) + 1 by omega]; simp
   ·simp; omega
  ·cases h
theorem D5 {cs vs : List Value} (h : cs.length = vs.length) : Q5 cs 0 vs = some vs := by
 induction cs generalizing vs with
 | nil => cases vs with
  | nil => rfl
  | cons v vs => simp at h
 | cons c cs ih => cases vs with
  | nil => simp at h
  | cons v vs => simp only [Q5, ih (vs := vs) (by simpa using h)]

theorem A6p {w : World} {b o : Nat} {cs vs cs' : List Value} (hown : R5 [.blk b cs] G w) (hu : cs' = cs.take o ++ vs ++ cs.drop (o + vs.length)) :
  Q4 [.blk b cs] G w [.blk b cs'] G (w.setRow b cs'.toArray) := by
 obtain ⟨e, hb⟩ := hown.ok _ List.mem_cons_self
 refine ⟨⟨?_, ?_, by simp [Fp, A4.fp], ?_⟩, ⟨rfl, rfl, rfl, by simp [World.setRow], fun k _ hk => setRow_other w b k _ (by rintro rfl; simp [Fp, A4.fp] at hk)⟩, B1.refl _, fun _ _ h => .inl h, ?_, fun b l h h0 => absurd h (by rw [h0]; simp)⟩
 ·intro k l hg
  obtain ⟨e', f', h'⟩ := hown.inn k l hg
  refine ⟨e', f', ?_⟩
  rw [setRow_other w b k _ ?_]
  ·exact h'
  ·rintro rfl
   have := hown.disj k (by simp [Fp, A4.fp])
   rw [this] at hg; cases hg
 ·intro x hx
  simp at hx; subst hx
  exact ⟨e, setRow_heap w b cs.toArray cs'.toArray e (0, 0) hb⟩
 ·intro k hk
  exact hown.disj k (by simpa [Fp, A4.fp] using hk)
 ·intro k hk
  exact .inr (by simpa [Fp, A4.fp] using hk)

theorem R5.of_mem {w : World} {e : A4} (h : R5 hp G w) {rest : List A4} (p : hp.Perm ([e] ++ rest)) : R5 [e] G w := (h.perm p).left

theorem A4G {d : Option Nat} {x y : Operand} {t : TypeId} {i : K3} [hI : H5 P t i] {b o : Nat} {v : Value} {vs cs cs' : List Value} {hp' : List A4}
  (hx : evo env x = some (.pointer (some ⟨b, o, none⟩))) (hy : evo env y = some v) (hv : v.cells = ⟨vs⟩) (hsz : vs.length = i.size) (h1 : vs.all (·.oneCell') = true)
  (hu : Q5 cs o vs = some cs') (hm : Sw hp (.blk b cs) (.blk b cs') hp') (hd : dok Γ.n d = true) :
  U8 P Γ ⟨env, hp, G⟩ d (.store t x y) ty [b] (fun σ' => σ' = ⟨dpu d undef env, hp', G⟩) := by
 refine ⟨fun a w hs pos af gd Q next hn => ?_⟩
 obtain ⟨rest, p1, p2⟩ := hm.perm
 have hown : R5 [.blk b cs] G w := hs.res.own.of_mem p1
 obtain ⟨e, hb⟩ := hown.ok _ List.mem_cons_self
 obtain ⟨u1, u2⟩ := A1U hu
 have hst := run_storeCells_at P b o e vs 0 cs.toArray w hb (by simpa using u2) (by simpa using h1)
 simp only [Nat.add_zero, ← u1] at hst
 obtain ⟨inf, g1, g2, _⟩ := hI.info
 have hrun : (execOp a.eval ⟨d, .store t x y, ty, pos, af, gd⟩).run P w = .ok .skip (w.setRow b cs'.toArray) := by
  simp [execOp, Instr.storeAt, Instr.sureAddr, (hs.evo hx : a.eval x = _), (hs.evo hy : a.eval y = _), storeVar, sizeOf, typeInfo, g1, g2, hv, hsz, hst]
 simp only [Oper.wp, hrun, Oper.upon]
 have hr' := A6p (o := o) hown u1
 exact hn _ _ _ (hs.step p1 hr' p2 hd) (by simpa [Fp, A4.fp] using hr'.ext) rfl

structure Fn (P : Program) (f : FuncId) (args : List Value) (ins : List A4) (G : IM) (post : IM → Value → List A4 → Prop) : Prop where
 run : ∀ w, R5 ins G w → Calls P f ⟨args⟩ w fun e w' => ∃ v G' outs, e = .returned v ∧ Q4 ins G w outs G' w' ∧ post G' v outs

theorem Fn.mono {f : FuncId} {args : List Value} {ins : List A4} {post post' : IM → Value → List A4 → Prop} (h : Fn P f args ins G post) (hp : ∀ G' v outs, B1 G G' → post G' v outs → post' G' v outs) :
  Fn P f args ins G post' :=
 ⟨fun w hw => (h.run w hw).mono fun _ _ ⟨v, G', outs, h1, h2, h3⟩ => ⟨v, G', outs, h1, h2, hp _ _ _ h2.le h3⟩⟩

theorem A6q {f : FuncId} [hF : B2 P f] (args : Array Value) (w : World) : (callFunc f args).run P w = .ok (.enter f args) w := by
 obtain ⟨fn, h1, h2, h3⟩ := hF.ok
 simp only [callFunc, program, Sem.run_bind, Sem.run, Result.andThen_ok, h1, h2, h3, Bool.false_eq_true, if_false]
 rfl

theorem A4H {d : Nat} {op : Op} {f : FuncId} {vs : List Value} {ins rest : List A4} {post : IM → Value → List A4 → Prop}
  (he : ∀ a w, St Γ ⟨env, hp, G⟩ a w → ∀ d pos af gd, (execOp a.eval ⟨d, op, ty, pos, af, gd⟩).run P w = .ok (.enter f ⟨vs⟩) w)
  (h : Fn P f vs ins G post) (hp' : hp.Perm (ins ++ rest)) (hd : Nat.blt d Γ.n = true) :
  U8 P Γ ⟨env, hp, G⟩ (some d) op ty (Fp ins) (fun σ' => ∃ v G' outs, σ' = ⟨(d, v) :: env, outs ++ rest, G'⟩ ∧ B1 G G' ∧ post G' v outs) := by
 refine ⟨fun a w hs pos af gd Q next hn => ?_⟩
 simp only [Oper.wp, he a w hs, Oper.upon]
 refine (h.run w (hs.res.own.perm hp').left).mono ?_
 rintro e w' ⟨v, G', outs, rfl, h2, h3⟩
 exact hn _ _ _ (hs.step hp' h2 (List.Perm.refl _) (d := some d) hd) h2.ext ⟨v, G', outs, rfl, h2.le, h3⟩

theorem A6r {f : FuncId} [hF : B2 P f] {xs : List Operand} {ats : Array TypeId} {vs : List Value} {a : Act} {w w1 : World} (hs : St Γ ⟨env, hp, G⟩ a w1) (hx : evl env xs = some vs) (d : Option Tmp) (pos : String) (af : Array Edge) (gd : Option (Nat × Bool)) :
  (execOp a.eval ⟨d, .call ⟨.value (.func f), ⟨xs⟩, ats⟩, ty, pos, af, gd⟩).run P w = .ok (.enter f ⟨vs⟩) w := by
 have e2 := hs.evl hx
 simp [execOp, resolve, invoke, Deferred.ofValue, Act.eval, A6q]
 exact e2

theorem A2l {d : Nat} {f : FuncId} [hF : B2 P f] {xs : List Operand} {ats : Array TypeId} {vs : List Value} {post : IM → Value → List A4 → Prop}
  (hx : evl env xs = some vs) (h : Fn P f vs [] G post) (hd : Nat.blt d Γ.n = true) :
  U8 P Γ ⟨env, hp, G⟩ (some d) (.call ⟨.value (.func f), ⟨xs⟩, ats⟩) ty [] (fun σ' => ∃ v G' outs, σ' = ⟨(d, v) :: env, outs ++ hp, G'⟩ ∧ B1 G G' ∧ post G' v outs) :=
 A4H (fun _ _ hs _ _ _ _ => A6r hs hx _ _ _ _) h (List.Perm.refl _) hd
theorem A3E {d : Nat} {f : FuncId} [hF : B2 P f] {xs : List Operand} {ats : Array TypeId} {vs : List Value} {ins rest : List A4} {post : IM → Value → List A4 → Prop}
  (hx : evl env xs = some vs) (h : Fn P f vs ins G post) (hp' : hp.Perm (ins ++ rest)) (hd : Nat.blt d Γ.n = true) :
  U8 P Γ ⟨env, hp, G⟩ (some d) (.call ⟨.value (.func f), ⟨xs⟩, ats⟩) ty (Fp ins) (fun σ' => ∃ v G' outs, σ' = ⟨(d, v) :: env, outs ++ rest, G'⟩ ∧ B1 G G' ∧ post G' v outs) :=
 A4H (fun _ _ hs _ _ _ _ => A6r hs hx _ _ _ _) h hp' hd
theorem A2R {d : Nat} {f : FuncId} [hF : B2 P f] {g : Operand} {xs : List Operand} {ats : Array TypeId} {vs us cs : List Value} {ins rest : List A4} {post : IM → Value → List A4 → Prop}
  (hg : evo env g = some (.func (.func f) ⟨us⟩ ⟨cs⟩)) (hx : evl env xs = some vs) (h : Fn P f (us ++ vs ++ cs) ins G post) (hp' : hp.Perm (ins ++ rest)) (hd : Nat.blt d Γ.n = true) :
  U8 P Γ ⟨env, hp, G⟩ (some d) (.call ⟨.value g, ⟨xs⟩, ats⟩) ty (Fp ins) (fun σ' => ∃ v G' outs, σ' = ⟨(d, v) :: env, outs ++ rest, G'⟩ ∧ B1 G G' ∧ post G' v outs) :=
 A4H (fun a w hs _ _ _ _ => by
  have e1 : a.eval g = _ := hs.evo hg
  have e2 := hs.evl hx
  simp [execOp, resolve, invoke, Deferred.ofValue, e1, e2, A6q]) h hp' hd

def rdR (tmps : Array Value) : ResultVar → Sem Value
 | .tmp t => pure (tmps.getD t undef)
 | .cell x t => do loadVar t (← asAddr (tmps.getD x undef))
theorem B0g (fn : Func) (tmps : Array Value) : results fn tmps = (do let vs ← fn.results.mapM (rdR tmps); pure (if h : vs.size = 1 then vs[0] else .tuple vs)) := by
 unfold results
 congr 1
def Y4 (P : Program) (Γ : K1) (σ : Sy) (r : ResultVar) (v : Value) : Prop := ∀ a w, St Γ σ a w →
 (rdR a.tmps r).run P w = .ok v w

theorem rT {t : Nat} {v : Value} (h : X4 env t = some v) : Y4 P Γ ⟨env, hp, G⟩ (.tmp t) v :=
 fun a w hs => by simp only [rdR, Sem.run_pure]; rw [hs.env t v h]
theorem rC {x t b o : Nat} {v : Value} (hx : X4 env x = some (.pointer (some ⟨b, o, none⟩))) (h : A1y P Γ ⟨env, hp, G⟩ (.load t (.tmp x)) 0 b v) : Y4 P Γ ⟨env, hp, G⟩ (.cell x t) v := by
 intro a w hs
 have h1 := (h.run a w hs).2 w rfl none "" #[] none
 have hx' := hs.env x _ hx
 have he : a.eval (.tmp x) = .pointer (some ⟨b, o, none⟩) := hx'
 simp only [execOp, Sem.run_bind, Instr.loadAt, he, Instr.sureAddr, Sem.run_pure, Result.andThen_ok] at h1
 simp only [rdR, hx', asAddr, Sem.run_bind, Sem.run_pure, Result.andThen_ok]
 cases hl : (loadVar t ⟨b, o, none⟩).run P w with
 | ok u w' => rw [hl] at h1; simp at h1; rw [h1.1, h1.2]
 | halt hh w' => rw [hl] at h1; simp at h1

inductive A1o (P : Program) (Γ : K1) (σ : Sy) : List ResultVar → List Value → Prop
 | nil : A1o P Γ σ [] []
 | cons {r : ResultVar} {v : Value} {rs : List ResultVar} {vs : List Value} : Y4 P Γ σ r v → A1o P Γ σ rs vs → A1o P Γ σ (r :: rs) (v :: vs)

def A1V : List Value → Value
 | [v] => v
 | vs => .tuple ⟨vs⟩

theorem A4I {α β : Type} (f : α → Sem β) (w : World) : ∀ (xs : List α) (ys : List β), xs.length = ys.length → (∀ (j : Nat) (x : α) (y : β), xs[j]? = some x → ys[j]? = some y → (f x).run P w = .ok y w) →
  (xs.mapM f).run P w = .ok ys w
 | [], [], _, _ => by simp
 | x :: xs, y :: ys, hl, h => by
  have h0 := h 0 x y rfl rfl
  have ih := A4I f w xs ys (by simpa using hl) (fun j a b ha hb => h (j + 1) a b (by simpa using ha) (by simpa using hb))
  simp [List.mapM_cons, h0, ih]
 | [], _ :: _, hl, _ => by simp at hl
 | _ :: _, [], hl, _ => by simp at hl

theorem A1o.run {σ : Sy} {rs : List ResultVar} {vs : List Value} (h : A1o P Γ σ rs vs) {a : Act} {w : World} (hs : St Γ σ a w) : rs.length = vs.length ∧ ∀ (j : Nat) (x : ResultVar) (y : Value), rs[j]? = some x → vs[j]? = some y →
  (rdR a.tmps x).run P w = .ok y w := by
 induction h with
 | nil => exact ⟨rfl, fun j x y hx => by simp at hx⟩
 | @cons r v rs vs hr _ ih =>
  refine ⟨by simp [ih.1], fun j x y hx hy => ?_⟩
  cases j with
  | zero => simp at hx hy; subst hx hy; exact hr a w hs
  | succ j => exact ih.2 j x y (by simpa using hx) (by simpa using hy)

structure A0r (P : Program) (Γ : K1) (rs : List ResultVar) (post : IM → Value → List A4 → Prop) (e : Exit) (σ : Sy) : Prop where
 run : match e with
  | .ret | .normal => ∃ vs, A1o P Γ σ rs vs ∧ ∃ outs r, σ.hp.Perm (outs ++ r) ∧ post σ.G (A1V vs) outs
  | _ => False

def A2m : Nat → List Value → K7
 | _, [] => []
 | k, v :: vs => (k, v) :: A2m (k + 1) vs

theorem A6s : ∀ (vs : List Value) (k t : Nat) (v : Value), X4 (A2m k vs) t = some v → k ≤ t ∧ vs[t - k]? = some v
 | [], k, t, v, h => by simp [A2m, X4] at h
 | u :: us, k, t, v, h => by
  simp only [A2m] at h
  rw [A4z] at h
  by_cases e : k = t
  ·subst e; simp at h; subst h; simp
  ·rw [if_neg e] at h
   obtain ⟨h1, h2⟩ := A6s us (k + 1) t v h
   refine ⟨by omega, ?_⟩
   rw [show t - k = (t - (k + 1)) + 1 by omega]
   simpa using h2

theorem B7 {f : FuncId} {fn : Func} {c : Code} {args : List Value} {ins : List A4} {post : IM → Value → List A4 → Prop} {n : Nat} {rs : List ResultVar}
  (hf : P.funcs[f]? = some fn) (hb : fn.body = some c) (hn : fn.ntmps = n) (hr : fn.results = ⟨rs⟩) (hle : Nat.ble args.length n = true)
  (h : ∀ w0, J1 P ⟨n, ins, G, w0⟩ c (A0r P ⟨n, ins, G, w0⟩ rs post) ⟨A2m 0 args, ins, G⟩) : Fn P f args ins G post := by
 refine ⟨fun w hw => ?_⟩
 have hle' : args.length ≤ n := by simpa using hle
 refine calls_of_wp hf hb ?_
 let a : Act := { tmps := (⟨args⟩ : Array Value) ++ Array.replicate (fn.ntmps - (⟨args⟩ : Array Value).size) undef, defers := [] }
 have hs : St ⟨n, ins, G, w⟩ ⟨A2m 0 args, ins, G⟩ a w := by
  refine ⟨?_, rfl, ?_, Q4.refl hw⟩
  ·simp [a, hn]; omega
  ·intro t v ht
   obtain ⟨_, h2⟩ := A6s args 0 t v ht
   simp only [Nat.sub_zero] at h2
   have hlt : t < args.length := (List.getElem?_eq_some_iff.1 h2).1
   simp [a, Array.getD_eq_getD_getElem?, Array.getElem?_append, hlt]
   simp [List.getElem?_eq_getElem hlt] at h2
   exact h2
 refine wp_mono ((h w).run a w hs) ?_
 rintro e a' w' ⟨σ, hs', ⟨hk⟩⟩
 have fin : (∃ vs, A1o P ⟨n, ins, G, w⟩ σ rs vs ∧ ∃ outs r, σ.hp.Perm (outs ++ r) ∧ post σ.G (A1V vs) outs) → a'.defers = [] ∧ ∃ v, (results fn a'.tmps).run P w' = .ok v w' ∧
   ∃ v_1 G' outs, Ending.returned v = Ending.returned v_1 ∧ Q4 ins G w outs G' w' ∧ post G' v_1 outs := by
  rintro ⟨vs, hra, outs, r, hp', hpost⟩
  refine ⟨hs'.nod, A1V vs, ?_, A1V vs, σ.G, outs, rfl, (hs'.res.perm hp').left, hpost⟩
  obtain ⟨hl, hrun⟩ := hra.run hs'
  have hm : (fn.results.mapM (rdR a'.tmps)).run P w' = .ok ⟨vs⟩ w' := by
   rw [hr, Array.mapM_eq_mapM_toList]
   simp only [Sem.run_map]
   rw [A4I _ w' rs vs hl hrun]
   rfl
  rw [B0g]
  simp only [Sem.run_bind]
  rw [hm]
  simp only [Result.andThen_ok, Sem.run_pure]
  congr 1
  unfold A1V
  split
  ·rename_i hsz
   match vs, hsz with
   | [v], _ => rfl
  ·rename_i hsz
   split
   ·exact absurd rfl hsz
   ·rfl
 cases e <;> first | exact fin hk | exact hk.elim


theorem nS {y : Code} {K : Po} {σ : Sy} (h : J1 P Γ y K σ) : A0N P Γ y K .normal σ := ⟨h⟩
theorem rS {y : Code} {K : Po} {σ : Sy} (h : K .ret σ) : A0N P Γ y K .ret σ := ⟨h⟩
theorem B0h {y : Code} {K : Po} {σ : Sy} {i : Nat} (h : K (.exit i) σ) : A0N P Γ y K (.exit i) σ := ⟨h⟩
theorem M9 {i : Nat} {K : Po} {σ : Sy} (h : K .normal σ) : A1k i K .normal σ := ⟨h⟩
theorem rB {i : Nat} {K : Po} {σ : Sy} (h : K .ret σ) : A1k i K .ret σ := ⟨h⟩
theorem B0i {i : Nat} {K : Po} {σ : Sy} (h : K .normal σ) : A1k i K (.exit i) σ := ⟨by simp [h]⟩
theorem A6t {rs : List ResultVar} {post : IM → Value → List A4 → Prop} {σ : Sy} {vs : List Value} (h : A1o P Γ σ rs vs) {outs : List A4} (hp : ∃ r, σ.hp.Perm (outs ++ r)) (hk : post σ.G (A1V vs) outs) :
  A0r P Γ rs post .ret σ := ⟨vs, h, outs, hp.choose, hp.choose_spec, hk⟩
theorem A3F {rs : List ResultVar} {post : IM → Value → List A4 → Prop} {σ : Sy} {vs : List Value} (h : A1o P Γ σ rs vs) (hk : post σ.G (A1V vs) []) :
  A0r P Γ rs post .ret σ := ⟨vs, h, [], σ.hp, List.Perm.refl _, hk⟩

theorem B0j {y : Code} {K : Po} (h : Y1 K) : Y1 (A0N P Γ y K) := fun c σ hk => h c σ hk.run
theorem B0k {i : Nat} {K : Po} (h : Y1 K) : Y1 (A1k i K) := fun c σ hk => h c σ hk.run
theorem B0l {rs : List ResultVar} {post : IM → Value → List A4 → Prop} : Y1 (A0r P Γ rs post) := fun _ _ h => h.run
class NpC (K : Po) : Prop where
 h : Y1 K
theorem D6 {K : Po} [h : NpC K] : Y1 K := h.h
instance npC1 {rs : List ResultVar} {post : IM → Value → List A4 → Prop} : NpC (A0r P Γ rs post) := ⟨B0l⟩
instance npC2 {y : Code} {K : Po} [h : NpC K] : NpC (A0N P Γ y K) := ⟨B0j h.h⟩
instance npC3 {i : Nat} {K : Po} [h : NpC K] : NpC (A1k i K) := ⟨B0k h.h⟩
instance npC4 {ι : Type} {S : ι → Sy} {φ : ι → Prop} {μ : ι → Nat} {i : ι} {K : Po} [h : NpC K] : NpC (A1l K S φ μ i) := ⟨A92 h.h⟩
section shortAny
variable {P : Program} {Γ : K1} {K : Po} {ops : Array Oper} {H : List (Nat × Nat)} {env : K7} {hp : List A4} {G : IM} {fuel : Nat} {listed l' : List Bool}
variable {op : Op} {ty : TypeId} {pos : String} {af : Array Edge} {gd : Option (Nat × Bool)}
class A0R (l : List Bool) (j : Nat) (l2 : outParam (List Bool)) : Prop where
 h : l.set j true = l2
instance setT0 {b : Bool} {l : List Bool} : A0R (b :: l) 0 (true :: l) := ⟨rfl⟩
instance setTs {b : Bool} {l l2 : List Bool} {n : Nat} [h : A0R l n l2] : A0R (b :: l) (n + 1) (b :: l2) := ⟨congrArg (b :: ·) h.h⟩
instance setTt {l l1 l2 : List Bool} {i j : Nat} [h : A0R l i l1] [h2 : A0R l1 j l2] : A0R (l.set i true) j l2 := ⟨by rw [h.h, h2.h]⟩
theorem aP (i : Nat) {d : Nat} {v : Value} [hl : A0R listed i l'] (hi : ops[i]? = some ⟨some d, op, ty, pos, af, gd⟩)
 (h : I6 P Γ ⟨env, hp, G⟩ op ty v) (hw : (K5 ops env gd, Nat.blt d Γ.n) = (some true, true))
 (k : M8 P Γ ops K H fuel l' ⟨(d, v) :: env, hp, G⟩) (hq : A1m ops listed i = true := by kernel_rfl) [hK : NpC K] : M8 P Γ ops K H (fuel + 1) listed ⟨env, hp, G⟩ :=
 K2 hi hK.h h (congrArg Prod.fst hw) hq (congrArg Prod.snd hw) hl.h k
theorem aL (i : Nat) {d b : Nat} {v : Value} [hl : A0R listed i l'] (hi : ops[i]? = some ⟨some d, op, ty, pos, af, gd⟩)
 (h : A1y P Γ ⟨env, hp, G⟩ op ty b v) (hw : (K5 ops env gd, Nat.blt d Γ.n) = (some true, true))
 (k : M8 P Γ ops K ((i, b) :: H) fuel l' ⟨(d, v) :: env, hp, G⟩) (hq : A1m ops listed i = true := by kernel_rfl) [hK : NpC K] : M8 P Γ ops K H (fuel + 1) listed ⟨env, hp, G⟩ :=
 P8 hi hK.h h (congrArg Prod.fst hw) hq (congrArg Prod.snd hw) hl.h k
theorem E5 (i : Nat) {d : Nat} [hl : A0R listed i l'] (hi : ops[i]? = some ⟨some d, op, ty, pos, af, gd⟩) (hw : K5 ops env gd = some false) (hd : Nat.blt d Γ.n = true)
 (k : M8 P Γ ops K H fuel l' ⟨(d, undef) :: env, hp, G⟩) (hq : A1m ops listed i = true := by kernel_rfl) [hK : NpC K] : M8 P Γ ops K H (fuel + 1) listed ⟨env, hp, G⟩ :=
 aK hi hK.h hw hq hd hl.h k
theorem A3 (j : Nat) {σ : Sy} (h : U3 P Γ ops K H fuel listed j σ) (hr : Region.ready .any ops listed.toArray = [j] := by kernel_rfl) : M8 P Γ ops K H (fuel + 1) listed σ := aO hr h
theorem C4 {σ : Sy} (h : K .normal σ) (hr : Region.ready .any ops listed.toArray = [] := by kernel_rfl) : M8 P Γ ops K H fuel listed σ := aD hr h
end shortAny


theorem S6 {K : Po} {ops : Array Oper} {rest : List Oper} {pos : String} {af : Array Edge} {gd : Option (Nat × Bool)} {x y : Operand} {t : TypeId} {i : K3} [hI : H5 P t i] {b o : Nat} {v : Value} {vs cs cs' : List Value} {hp' : List A4}
  (hx : evo env x = some (.pointer (some ⟨b, o, none⟩))) (hy : evo env y = some v) (hv : v.cells = ⟨vs⟩) (hsz : vs.length = i.size) (h1 : vs.all (·.oneCell') = true)
  (hw : K5 ops env gd = some true) (hm : Sw hp (.blk b cs) (.blk b cs') hp') (hu : Q5 cs o vs = some cs')
  (k : E8 P Γ ops rest K ⟨env, hp', G⟩) : E8 P Γ ops (⟨none, .store t x y, ty, pos, af, gd⟩ :: rest) K ⟨env, hp, G⟩ :=
 I8 (A4G hx hy hv hsz h1 hu hm rfl) hw (by rintro _ rfl; exact k)

theorem sS {K : Po} {ops : Array Oper} {rest : List Oper} {pos : String} {af : Array Edge} {gd : Option (Nat × Bool)} {x y : Operand} {t : TypeId} {i : K3} [hI : H5 P t i] {b o : Nat} {v : Value} {vs cs cs' : List Value} {hp' : List A4}
 (hx : evo env x = some (.pointer (some ⟨b, o, none⟩))) (hy : evo env y = some v) (hv : v.cells = ⟨vs⟩) (hsz : vs.length = i.size) (h1 : vs.all (·.oneCell') = true)
 (hw : K5 ops env gd = some true)
 (k : E8 P Γ ops rest K ⟨env, hp', G⟩) (hm : Sw hp (.blk b cs) (.blk b cs') hp' := by repeat first | exact Sw.here | apply Sw.there) (hu : Q5 cs o vs = some cs' := by rfl) : E8 P Γ ops (⟨none, .store t x y, ty, pos, af, gd⟩ :: rest) K ⟨env, hp, G⟩ :=
 S6 hx hy hv hsz h1 hw hm hu k
theorem F9 {K : Po} {ops : Array Oper} {rest : List Oper} {pos : String} {af : Array Edge} {gd : Option (Nat × Bool)} {x y : Operand} {t : TypeId} {i : K3} [hI : H5 P t i] {b o : Nat} {v : Value} {vs cs cs' : List Value} {hp' : List A4}
 (k : E8 P Γ ops rest K ⟨env, hp', G⟩) (hx : evo env x = some (.pointer (some ⟨b, o, none⟩)) := by rfl) (hy : evo env y = some v := by rfl) (hv : v.cells = ⟨vs⟩ := by rfl) (hsz : vs.length = i.size := by rfl) (h1 : vs.all (·.oneCell') = true := by rfl)
 (hw : K5 ops env gd = some true := by rfl) (hm : Sw hp (.blk b cs) (.blk b cs') hp' := by repeat first | exact Sw.here | apply Sw.there) (hu : Q5 cs o vs = some cs' := by rfl) : E8 P Γ ops (⟨none, .store t x y, ty, pos, af, gd⟩ :: rest) K ⟨env, hp, G⟩ :=
 S6 hx hy hv hsz h1 hw hm hu k
def B0m : List Bool → Nat → Option Nat
 | [], _ => none
 | false :: _, i => some i
 | true :: r, i => B0m r (i + 1)

section eqs
variable {x y : Operand} {t t' : TypeId} {k : IntKind} {m n : Int}
theorem V6 (hx : evo env x = some (.int k m)) (hy : evo env y = some (.int k n)) (h : m = n) : I6 P Γ ⟨env, hp, G⟩ (.binOp .eql t x y t') ty (.bool true) := by
 have := qE (P := P) (Γ := Γ) (hp := hp) (G := G) (ty := ty) (t := t) (t' := t') hx hy; rwa [decide_eq_true h] at this
theorem I3 (hx : evo env x = some (.int k m)) (hy : evo env y = some (.int k n)) (h : ¬ m = n) : I6 P Γ ⟨env, hp, G⟩ (.binOp .eql t x y t') ty (.bool false) := by
 have := qE (P := P) (Γ := Γ) (hp := hp) (G := G) (ty := ty) (t := t) (t' := t') hx hy; rwa [decide_eq_false h] at this
theorem A0x (hx : evo env x = some (.int k m)) (hy : evo env y = some (.int k n)) (h : m ≠ n) : I6 P Γ ⟨env, hp, G⟩ (.binOp .neq t x y t') ty (.bool true) := by
 have := R9 (P := P) (Γ := Γ) (hp := hp) (G := G) (ty := ty) (t := t) (t' := t') hx hy; rwa [decide_eq_true h] at this
theorem A4J (hx : evo env x = some (.int k m)) (hy : evo env y = some (.int k n)) (h : m = n) : I6 P Γ ⟨env, hp, G⟩ (.binOp .neq t x y t') ty (.bool false) := by
 have := R9 (P := P) (Γ := Γ) (hp := hp) (G := G) (ty := ty) (t := t) (t' := t') hx hy; rwa [decide_eq_false (by simpa using h)] at this
theorem A4K (hx : evo env x = some (.int k m)) (hy : evo env y = some (.int k n)) (h : ¬ m < n) : I6 P Γ ⟨env, hp, G⟩ (.binOp .lss t x y t') ty (.bool false) := by
 have := J6 (P := P) (Γ := Γ) (hp := hp) (G := G) (ty := ty) (t := t) (t' := t') hx hy; rwa [decide_eq_false h] at this
theorem A6u (hx : evo env x = some (.int k m)) (hy : evo env y = some (.int k n)) (h : m ≤ n) : I6 P Γ ⟨env, hp, G⟩ (.binOp .leq t x y t') ty (.bool true) := by
 have := Z9 (P := P) (Γ := Γ) (hp := hp) (G := G) (ty := ty) (t := t) (t' := t') hx hy; rwa [decide_eq_true h] at this
theorem A2S (hx : evo env x = some (.int k m)) (hy : evo env y = some (.int k n)) (h : n < m) : I6 P Γ ⟨env, hp, G⟩ (.binOp .gtr t x y t') ty (.bool true) := by
 have := A0v (P := P) (Γ := Γ) (hp := hp) (G := G) (ty := ty) (t := t) (t' := t') hx hy; rwa [decide_eq_true h] at this
theorem B0n (hx : evo env x = some (.int k m)) (hy : evo env y = some (.int k n)) (h : ¬ n < m) : I6 P Γ ⟨env, hp, G⟩ (.binOp .gtr t x y t') ty (.bool false) := by
 have := A0v (P := P) (Γ := Γ) (hp := hp) (G := G) (ty := ty) (t := t) (t' := t') hx hy; rwa [decide_eq_false h] at this
theorem B0o (hx : evo env x = some (.int k m)) (hy : evo env y = some (.int k n)) (h : ¬ n ≤ m) : I6 P Γ ⟨env, hp, G⟩ (.binOp .geq t x y t') ty (.bool false) := by
 have := A0Q (P := P) (Γ := Γ) (hp := hp) (G := G) (ty := ty) (t := t) (t' := t') hx hy; rwa [decide_eq_false h] at this
end eqs

end steps

class A1W (P : Program) (t : TypeId) (pl : outParam (List (Nat × Nat))) : Prop where
 ok : ∃ fs : List Field, P.underlying t = some (.struct ⟨fs⟩) ∧ ∀ w, ((⟨fs⟩ : Array Field).mapM fun (f : Field) => (do pure (f.offset, ← sizeOf f.type) : Sem (Nat × Nat))).run P w = .ok ⟨pl⟩ w

theorem A2T {P : Program} {t : TypeId} {pl : List (Nat × Nat)} {fs : List Field} (h : P.underlying t = some (.struct ⟨fs⟩)) (hp : (fs.map fun f => (f.offset, P.cellsOf f.type)) = pl)
  (he : (fs.all fun f => (P.info? f.type).isSome) = true) : A1W P t pl := by
 refine ⟨fs, h, fun w => ?_⟩
 rw [Array.mapM_eq_mapM_toList]
 simp only [Sem.run_map]
 rw [A4I _ w fs pl (by simp [← hp])]
 ·rfl
 ·intro j x y hx hy
  subst hp
  simp [List.getElem?_map, hx] at hy
  subst hy
  have hm : x ∈ fs := List.mem_of_getElem? hx
  have := List.all_eq_true.1 he x hm
  cases hi : P.info? x.type with
  | none => simp [hi] at this
  | some i => simp [sizeOf, typeInfo, hi, Program.cellsOf]

def A1X (pl : Nat → Option (Nat × Nat)) : List Value → List (Nat × Value) → Option (List Value)
 | cs, [] => some cs
 | cs, (i, v) :: r => match pl i with
  | none => none
  | some (off, sz) => match Nat.beq v.cells.toList.length sz with
   | false => none
   | true => match Q5 cs off v.cells.toList with
    | none => none
    | some cs' => A1X pl cs' r

def cpy : List Value → Option (List Value)
 | [] => some []
 | c :: cs => match cpy cs with
  | some r => some (c :: r)
  | none => none
theorem A6v : ∀ cs, cpy cs = some cs
 | [] => rfl
 | c :: cs => by simp only [cpy, A6v cs]
def A4L (pl : Nat → Option (Nat × Nat)) (cs : List Value) (ps : List (Nat × Value)) : Option (List Value) := match A1X pl cs ps with
 | some r => cpy r
 | none => none
theorem B0p {pl : Nat → Option (Nat × Nat)} {cs cs' : List Value} {ps : List (Nat × Value)} (h : A4L pl cs ps = some cs') : A1X pl cs ps = some cs' := by
 unfold A4L at h
 split at h
 ·rename_i r hr; rw [A6v] at h; rw [hr]; exact h
 ·cases h

theorem A6w : ∀ (vs : List Value) (k off : Nat) (cs : List Value), off + k + vs.length ≤ cs.length →
  ((vs.zipIdx k).foldl (fun (a : Array Value) (p : Value × Nat) => a.setIfInBounds (off + p.2) p.1) ⟨cs⟩).toList = cs.take (off + k) ++ vs ++ cs.drop (off + k + vs.length)
 | [], k, off, cs, _ => by simp
 | v :: vs, k, off, cs, h => by
  simp only [List.zipIdx_cons, List.foldl_cons]
  have h1 : ((⟨cs⟩ : Array Value).setIfInBounds (off + k) v) = ⟨cs.set (off + k) v⟩ := by simp
  simp only [List.length_cons] at h
  rw [h1, A6w vs (k + 1) off (cs.set (off + k) v) (by simp; omega)]
  apply List.ext_getElem?
  intro i
  simp only [List.getElem?_append, List.length_append, List.length_take, List.length_set, List.length_cons, List.getElem?_drop, List.getElem?_take, List.getElem?_set]
  have e1 : min (off + (k + 1)) cs.length = off + k + 1 := by omega
  have e2 : min (off + k) cs.length = off + k := by omega
  rw [e1, e2]
  by_cases c1 : i < off + k
  ·rw [if_pos (by omega), if_pos (by omega), if_pos (by omega), if_neg (by omega), if_pos (by omega), if_pos (by omega), if_pos (by omega)]
  ·by_cases c2 : i = off + k
   ·subst c2
    rw [if_pos (by omega), if_pos (by omega), if_pos (by omega), if_pos rfl, if_pos (by omega), if_pos (by omega), if_neg (by omega)]
    simp
   ·by_cases c3 : i < off + k + 1 + vs.length
    ·rw [if_pos (by omega), if_neg (by omega), if_pos (by omega), if_neg (by omega), show i - (off + k) = (i - (off + k + 1)) + 1 by omega]
     simp
    ·rw [if_neg (by omega), if_neg (by omega), if_neg (by omega), show off + (k + 1) + vs.length + (i - (off + k + 1 + vs.length)) = off + k + (vs.length + 1) + (i - (off + k + (vs.length + 1))) by omega]

theorem A3G {pl : Nat → Option (Nat × Nat)} : ∀ {parts : List (Nat × Value)} {cs cs' : List Value}, A1X pl cs parts = some cs' → Instr.fill pl ⟨cs⟩ parts = some ⟨cs'⟩ ∧ cs'.length = cs.length
 | [], cs, cs', h => by cases cs <;> (simp [A1X] at h; subst h; exact ⟨rfl, rfl⟩)
 | (i, v) :: r, cs, cs', h => by
  simp only [A1X] at h
  split at h
  ·cases h
  ·rename_i off sz h1
   split at h
   ·cases h
   ·rename_i h2
    split at h
    ·cases h
    ·rename_i cs1 hu
     obtain ⟨u1, u2⟩ := A1U hu
     obtain ⟨ih1, ih2⟩ := A3G h
     have hl := A6w v.cells.toList 0 off cs (by simpa using u2)
     have e : v.cells.size = sz := by have := Nat.eq_of_beq_eq_true h2; simpa using this
     have hlen : cs1.length = cs.length := by rw [u1]; simp at u2 ⊢; omega
     refine ⟨?_, by rw [ih2, hlen]⟩
     simp only [Instr.fill, h1]
     have u2' : off + v.cells.size ≤ cs.length := by simpa using u2
     rw [if_neg (by simp [e]; omega)]
     rw [← ih1]
     congr 1
     apply Array.ext'
     simp only [Nat.add_zero] at hl
     rw [u1, ← hl]
     rw [← Array.foldl_toList]
     simp

theorem A1Y {P : Program} {t : TypeId} {i : K3} [hI : H5 P t i] : ∃ inf z, (∀ w, (typeInfo t).run P w = .ok inf w) ∧ (∀ w, (zeroValue t).run P w = .ok z w) ∧ (∀ w, (sizeOf t).run P w = .ok i.size w) ∧ inf.bytes = i.bytes ∧ z.cells = ⟨i.zs⟩ ∧ P.info? t = some inf ∧ inf.zero = some z ∧ inf.size = i.size := by
 obtain ⟨inf, g1, g2, g3, z, g4, g5⟩ := hI.info
 refine ⟨inf, z, fun w => ?_, fun w => ?_, fun w => ?_, g3, g5, g1, g4, g2⟩
 ·simp [typeInfo, g1]
 ·simp [zeroValue, typeInfo, g1, g4]
 ·simp [sizeOf, typeInfo, g1, g2]

section mem
variable {P : Program} {Γ : K1} {env : K7} {hp : List A4} {G : IM} {ty : TypeId}

def evp (e : K7) : List (Nat × Operand) → Option (List (Nat × Value))
 | [] => some []
 | (i, x) :: r => match evo e x with
  | some v => match evp e r with
   | some vs => some ((i, v) :: vs)
   | none => none
  | none => none
theorem A4M {a : Act} {w : World} (hs : St Γ ⟨env, hp, G⟩ a w) : ∀ {xs : List (Nat × Operand)} {vs : List (Nat × Value)}, evp env xs = some vs → (xs.map fun (p : Nat × Operand) => (p.1, a.eval p.2)) = vs
 | [], vs, h => by simp [evp] at h; subst h; rfl
 | (i, x) :: r, vs, h => by
  simp only [evp] at h
  split at h
  ·rename_i v hv
   split at h
   ·rename_i us hu
    simp at h; subst h
    have e1 : a.eval x = v := hs.evo hv
    simp [e1, A4M hs hu]
   ·cases h
  ·cases h

theorem S0 {t : TypeId} {i : K3} [hI : H5 P t i] {pl : List (Nat × Nat)} [hP : A1W P t pl] {xs : List (Nat × Operand)} {vs : List (Nat × Value)} {cs : List Value}
  (hx : evp env xs = some vs) (hf : A1X (fun (j : Nat) => pl[j]?) i.zs vs = some cs) : I6 P Γ ⟨env, hp, G⟩ (.build t ⟨xs⟩) ty (.agg ⟨cs⟩) := by
 refine ⟨fun a _ hs _ _ _ _ w => ?_⟩
 obtain ⟨inf, z, h1, h2, h3, _, g5, _⟩ := A1Y (P := P) (t := t)
 obtain ⟨fs, f1, f2⟩ := hP.ok
 have hv := A4M hs hx
 have hfr := (A3G hf).1
 simp only [execOp, Instr.build, Sem.run_bind, h2, Result.andThen_ok, Sem.run_pure, run_underlying f1, f2 w]
 have e : ((⟨xs⟩ : Array (Nat × Operand)).map fun x => match x with | (i, x) => (i, a.eval x)).toList = vs := by simpa using hv
 rw [e, g5]
 have e2 : (fun (x : Nat) => (⟨pl⟩ : Array (Nat × Nat))[x]?) = (fun (x : Nat) => pl[x]?) := by funext x; simp
 rw [e2, hfr]
 rfl

theorem B0q (w : World) (hin : A2L G w) (el sz n : Nat) (cs : List Value) (hl : cs.length = n * sz) (hm : n ≤ maxLen) :
  Q4 [] G w [.slc (some ⟨w.heap.size, 0, none⟩) n el sz n cs] G (w.alloc (.cells cs.toArray el)) := by
 have h := A6o w hin cs el
 have hb : (w.alloc (.cells cs.toArray el)).heap[w.heap.size]? = some (.cells cs.toArray el (0, 0)) := heap_alloc_new w _
 refine ⟨⟨h.own.inn, ?_, by simp [Fp, A4.fp, I5], ?_⟩, h.ext, h.le, h.fresh, ?_, fun b l h h0 => absurd h (by rw [h0]; simp)⟩
 ·intro x hx
  simp at hx; subst hx
  refine ⟨hl, .inr ⟨w.heap.size, n, cs.toArray, rfl, Nat.zero_le _, hb, Nat.le_refl _, hm, by simpa using hl, ?_⟩⟩
  simp [← hl]
 ·intro b hb'; exact h.own.disj b (by simpa [Fp, A4.fp, I5] using hb')
 ·intro b hb'; exact h.ofresh b (by simpa [Fp, A4.fp, I5] using hb')

def W6 (n : Nat) (zs : List Value) : List Value := match n with | 0 => [] | n + 1 => zs ++ W6 n zs
theorem A3H (n : Nat) (zs : List Value) : (W6 n zs).length = n * zs.length := by
 induction n with
 | zero => simp [W6]
 | succ n ih => simp [W6, ih, Nat.succ_mul, Nat.add_comm]
theorem A6x (zs : List Value) : ∀ (n i : Nat), i < n * zs.length → (W6 n zs)[i]? = zs[i % zs.length]?
 | 0, i, h => by simp at h
 | n + 1, i, h => by
  simp only [W6, List.getElem?_append]
  split
  ·rename_i hi; rw [Nat.mod_eq_of_lt hi]
  ·rename_i hi
   rw [A6x zs n (i - zs.length) (by rw [Nat.succ_mul] at h; omega)]
   rw [Nat.mod_eq_sub_mod (a := i) (by omega)]
theorem A6y (z : Array Value) (zs : List Value) (hz : z = ⟨zs⟩) (n : Nat) : ((Array.range (n * zs.length)).map (z[· % z.size]!)) = ⟨W6 n zs⟩ := by
 subst hz
 apply Array.ext'
 simp only [Array.toList_map, Array.toList_range]
 apply List.ext_getElem?
 intro i
 by_cases hi : i < n * zs.length
 ·rw [A6x zs n i hi]
  have hpos : 0 < zs.length := by
   rcases Nat.eq_zero_or_pos zs.length with h | h
   ·rw [h] at hi; simp at hi
   ·exact h
  have hlt := Nat.mod_lt i hpos
  simp [hi, getElem!_def, hlt]
 ·simp [hi]
  have hl := A3H n zs
  omega

theorem A6z (el : TypeId) (cs : List Value) (w : World) : (newRow el ⟨cs⟩).run P w = .ok ⟨w.heap.size, 0, none⟩ (w.alloc (.cells cs.toArray el)) := by
 simp [newRow, newObj, Sem.run]

theorem B0r {d : Nat} {op : Op} {el sz n : Nat} {cs : List Value} (hd : Nat.blt d Γ.n = true) (hl : cs.length = n * sz) (hm : n ≤ maxLen)
  (hrun : ∀ a w, St Γ ⟨env, hp, G⟩ a w → ∀ d pos af gd, (execOp a.eval ⟨d, op, ty, pos, af, gd⟩).run P w = .ok (.value (.slice (some ⟨w.heap.size, 0, none⟩) n n)) (w.alloc (.cells cs.toArray el))) :
  U8 P Γ ⟨env, hp, G⟩ (some d) op ty [] (fun σ' => ∃ b, σ' = ⟨(d, .slice (some ⟨b, 0, none⟩) n n) :: env, .slc (some ⟨b, 0, none⟩) n el sz n cs :: hp, G⟩) := by
 refine ⟨fun a w hs pos af gd Q next hn => ?_⟩
 simp only [Oper.wp, hrun a w hs, Oper.upon]
 have hr' := B0q w hs.res.own.inn el sz n cs hl hm
 exact hn _ _ _ (hs.step (ins := []) (rest := hp) (List.Perm.refl _) hr' (List.Perm.refl _) (d := some d) hd) hr'.ext ⟨w.heap.size, rfl⟩

theorem C3 {d : Nat} {t el : TypeId} {i : K3} {sz by' : Nat} {zs : List Value} [hI : H5 P t i] (hd' : i.desc = .slice el) [hE : V5 P el sz by' zs] {n : Nat} {xs : List (Nat × Operand)} {vs : List (Nat × Value)} {cs : List Value}
  (hd : Nat.blt d Γ.n = true) (hx : evp env xs = some vs) (hn : n * sz ≤ 16777216) (hm : n ≤ maxLen)
  (hf : A4L (fun j => some (j * sz, sz)) (W6 n zs) vs = some cs) :
  U8 P Γ ⟨env, hp, G⟩ (some d) (.buildSlice t n ⟨xs⟩) ty [] (fun σ' => ∃ b, σ' = ⟨(d, .slice (some ⟨b, 0, none⟩) n n) :: env, .slc (some ⟨b, 0, none⟩) n el sz n cs :: hp, G⟩) := by
 have hz := hE.len
 obtain ⟨_, hE⟩ := hE.ok
 replace hf := B0p hf
 have hlen : cs.length = n * sz := by rw [(A3G hf).2, A3H, hz]
 refine B0r hd hlen hm fun a w hs d pos af gd => ?_
 obtain ⟨inf, z, h1, h2, h3, _, g5, _⟩ := A1Y (P := P) (t := el)
 have hu := hI.und
 rw [hd'] at hu
 have hv := A4M hs hx
 have e : ((⟨xs⟩ : Array (Nat × Operand)).map fun x => match x with | (i, x) => (i, a.eval x)).toList = vs := by simpa using hv
 have hfr := (A3G hf).1
 simp only [execOp, Instr.buildSlice, Sem.run_bind, run_underlying hu, Result.andThen_ok, h3, Sem.run_pure]
 rw [if_neg (by omega)]
 by_cases h0 : n * sz = 0
 ·have hz0 : W6 n zs = [] := List.eq_nil_of_length_eq_zero (by rw [A3H, hz, h0])
  rw [hz0] at hfr
  have er : ∀ f : Nat → Value, (Array.range 0).map f = (⟨[]⟩ : Array Value) := fun f => by simp
  simp only [h0, if_true, Sem.run_bind, Sem.run_pure, Result.andThen_ok, er]
  rw [e, hfr]
  simp only [Sem.run_bind, A6z, Result.andThen_ok, Sem.run_pure]
 ·have hc := A6y z.cells zs g5 n
  rw [hz] at hc
  simp only [h0, if_false, Sem.run_bind, Sem.run_pure, Result.andThen_ok, h2, hc]
  rw [e, hfr]
  simp only [Sem.run_bind, A6z, Result.andThen_ok, Sem.run_pure]

end mem

section rules2
variable {P : Program} {Γ : K1} {env : K7} {hp : List A4} {G : IM} {ty : TypeId} {K : Po} {ops : Array Oper} {rest : List Oper}
variable {pos : String} {af : Array Edge} {gd : Option (Nat × Bool)}

theorem B0s {w w' : World} {p p' : Option Addr} {c c' el sz n n' : Nat} {cs cs' : List Value} (hown : R5 [.slc p c el sz n cs] G w)
  (h' : w'.ownsRow 0 el sz (.slice p' n' c') n' cs') (hg : w.grownBy w' ((Value.slice p n c).ownBlock)) (hnew : ∀ g, p' = some g → (∃ q, p = some q ∧ q.block = g.block) ∨ w.heap.size ≤ g.block) :
  Q4 [.slc p c el sz n cs] G w [.slc p' c' el sz n' cs'] G w' := by
 have hfp : ∀ b, b ∈ Fp [.slc p c el sz n cs] ↔ (Value.slice p n c).ownBlock = some b := by
  intro b
  cases p with
  | none => simp [Fp, A4.fp, I5, Value.ownBlock]
  | some q => simp [Fp, A4.fp, I5, Value.ownBlock, eq_comm]
 have hfp' : ∀ b, b ∈ Fp [.slc p' c' el sz n' cs'] ↔ ∃ g, p' = some g ∧ g.block = b := by
  intro b
  cases p' with
  | none => simp [Fp, A4.fp, I5]
  | some q => simp [Fp, A4.fp, I5, eq_comm]
 refine ⟨⟨?_, ?_, ?_, ?_⟩, ⟨hg.os, hg.tape, hg.output, hg.size, ?_⟩, B1.refl _, fun _ _ h => .inl h, ?_, fun b l h h0 => absurd h (by rw [h0]; simp)⟩
 ·intro b l hb
  obtain ⟨e, f, h⟩ := hown.inn b l hb
  refine ⟨e, f, ?_⟩
  rw [hg.block b (A0M h) ?_]
  ·exact h
  ·intro hb'
   have := hown.disj b ((hfp b).2 hb'.symm)
   rw [this] at hb; cases hb
 ·intro x hx
  simp at hx; subst hx; exact h'
 ·cases p' <;> simp [Fp, A4.fp, I5]
 ·intro b hb
  obtain ⟨g, hg1, hg2⟩ := (hfp' b).1 hb
  rcases hnew g hg1 with ⟨q, hq, hqb⟩ | hlt
  ·refine hown.disj b ((hfp b).2 ?_)
   subst hq
   simp [Value.ownBlock, hqb, hg2]
  ·cases hgb : G b with
   | none => rfl
   | some l => exact absurd (hown.inn.lt hgb) (by omega)
 ·intro k hk hkn
  exact hg.block k hk (fun e => hkn ((hfp k).2 e.symm))
 ·intro b hb
  obtain ⟨g, hg1, hg2⟩ := (hfp' b).1 hb
  rcases hnew g hg1 with ⟨q, hq, hqb⟩ | hlt
  ·right
   refine (hfp b).2 ?_
   subst hq
   simp [Value.ownBlock, hqb, hg2]
  ·left; omega

theorem A4N {d : Nat} {x y : Operand} {t el : TypeId} {i : K3} {sz by' : Nat} {zs : List Value} [hI : H5 P t i] (hd' : i.desc = .slice el) [hE : V5 P el sz by' zs] {p : Option Addr} {c n m b o c' : Nat} {cs news : List Value} {hp' : Option Addr → Nat → List A4}
  (hd : Nat.blt d Γ.n = true) (hx : evo env x = some (.slice p n c)) (hy : evo env y = some (.slice (some ⟨b, o, none⟩) m c')) (hsz : Nat.blt 0 sz = true)
  (hm : ∀ p' c', Sw hp (.slc p c el sz n cs) (.slc p' c' el sz (n + m) (cs ++ news)) (hp' p' c'))
  (hs' : At hp G b o news) (hl : news.length = m * sz) (h1 : ∀ u ∈ news, u.oneCell' = true)
  (h63 : n + m ≤ maxLen) (hb : (n + m) * by' ≤ 140737488355328) :
  U8 P Γ ⟨env, hp, G⟩ (some d) (.call ⟨.builtin .append, ⟨[x, y]⟩, ⟨[t, t]⟩⟩) ty (I5 p) (fun σ' => ∃ p' c', σ' = ⟨(d, .slice p' (n + m) c') :: env, hp' p' c', G⟩) := by
 refine ⟨fun a w hs pos af gd Q next hn => ?_⟩
 have hz := hE.len
 obtain ⟨_, hE⟩ := hE.ok
 obtain ⟨rest, q1, _⟩ := (hm none 0).perm
 have hown : R5 [.slc p c el sz n cs] G w := hs.res.own.of_mem q1
 obtain ⟨inf, z, t1, t2, t3, t4, t5, t6, t7, t8⟩ := A1Y (P := P) (t := el)
 have hu := hI.und
 rw [hd'] at hu
 obtain ⟨full, e, f, hfb, hfv⟩ := hs'.read hs
 have hnews : ∀ j u, news[j]? = some u → w.cell? ((⟨b, o, none⟩ : Addr).add j) = some u := fun j u hj => by rw [A1R]; simp [World.cell?, hfb, hfv j u hj]
 have hsz' : 0 < sz := by simpa using hsz
 have hrow := hown.ok _ List.mem_cons_self
 obtain ⟨v', w', hrun, hown', hgrow, _⟩ := run_append_own (P := P) w 0 t ty el inf z sz by' hu t6 t7 t8 t4 (by rw [t5]; exact hz) hsz' (.slice p n c) n cs hrow ⟨b, o, none⟩ m c' news hl hnews h1 h63 hb (Nat.zero_le _)
 have hv' : ∃ p' c', v' = .slice p' (n + m) c' := by
  rcases hown'.2 with ⟨hv, hn0⟩ | ⟨g, cap, cur, hv, _⟩
  ·exact ⟨none, 0, by rw [hv, hn0]⟩
  ·exact ⟨_, _, hv⟩
 obtain ⟨p', c'', rfl⟩ := hv'
 have hexec : (execOp a.eval ⟨some d, .call ⟨.builtin .append, ⟨[x, y]⟩, ⟨[t, t]⟩⟩, ty, pos, af, gd⟩).run P w = .ok (.value (.slice p' (n + m) c'')) w' := by
  simp only [execOp, resolve, invoke, builtin, Sem.run_bind, Sem.run_pure, Result.andThen_ok]
  have e1 : (⟨[x, y]⟩ : Array Operand).map a.eval = #[.slice p n c, .slice (some ⟨b, o, none⟩) m c'] := by
   simp [(hs.evo hx : a.eval x = _), (hs.evo hy : a.eval y = _)]
  rw [e1]
  have : (Builtin.append_ ⟨[t, t]⟩ ty #[.slice p n c, .slice (some ⟨b, o, none⟩) m c']).run P w = .ok (.slice p' (n + m) c'') w' := hrun
  rw [this]; rfl
 simp only [Oper.wp, hexec, Oper.upon]
 have hnew : ∀ g, p' = some g → (∃ q, p = some q ∧ q.block = g.block) ∨ w.heap.size ≤ g.block := by
  intro g hg
  subst hg
  rcases hrow.2 with ⟨hv, hn0⟩ | ⟨g0, cap, cur, hv, _, hg0, hnc, hcm, hcs, htake⟩
  ·right
   cases hv
   obtain ⟨v2, w2, hrun2, hown2, _⟩ := run_append_own (P := P) w w.heap.size t ty el inf z sz by' hu t6 t7 t8 t4 (by rw [t5]; exact hz) hsz' (.slice none 0 0) 0 [] (World.ownsRow_nil w _ el _) ⟨b, o, none⟩ m c' news hl hnews h1 (by omega) (by omega) (Nat.le_refl _)
   rw [hrun] at hrun2
   cases hrun2
   rcases hown2.2 with ⟨hv2, _⟩ | ⟨g2, _, _, hv2, hb2, _⟩
   ·cases hv2
   ·cases hv2; exact hb2
  ·cases hv
   have hcl : cs.length = n * sz := hrow.1
   by_cases hroom : n + m ≤ c
   ·left
    have hfit : n * inf.size + news.length ≤ cur.size := by rw [t8, hl, hcs, ← Nat.add_mul]; exact Nat.mul_le_mul_right _ hroom
    have hr := run_append_room (P := P) w t ty el inf hu t6 g0 n c cur hg0 ⟨b, o, none⟩ m c' news (by rw [t8]; exact hl) hnews h1 hroom hfit
    rw [hrun] at hr
    cases hr
    exact ⟨_, rfl, rfl⟩
   ·right
    have holds : ∀ j u, cs[j]? = some u → w.cell? ((⟨g0, 0, none⟩ : Addr).add j) = some u := hrow.cells (g := g0) rfl
    have hm63 : n + m ≤ 9223372036854775807 := by unfold maxLen at h63; omega
    have hr := run_append_grow (P := P) w t ty el inf z hu t6 t7 ⟨g0, 0, none⟩ n c cs (by rw [t8]; exact hcl) holds ⟨b, o, none⟩ m c' news (by rw [t8]; exact hl) hnews (by omega) (by omega) (by rw [t4]; exact growslice_fits (by omega) hb)
    rw [hrun] at hr
    cases hr
    exact Nat.le_refl _
 have hr := B0s hown hown' hgrow hnew
 obtain ⟨rest, q1, q2⟩ := (hm p' c'').perm
 exact hn _ _ _ (hs.step q1 hr q2 (d := some d) hd) (by
  have := hr.ext
  simpa [Fp, A4.fp] using this) ⟨p', c'', rfl⟩

theorem B0t {x y : Operand} {t el : TypeId} {i : K3} [hI : H5 P t i] (hd' : i.desc = .slice el) {ie : K3} [hE : H5 P el ie] {p q : Option Addr} {c n c' : Nat}
  (hx : evo env x = some (.slice p n c)) (hy : evo env y = some (.slice q 0 c')) (hc : n ≤ c) :
  I6 P Γ ⟨env, hp, G⟩ (.call ⟨.builtin .append, ⟨[x, y]⟩, ⟨[t, t]⟩⟩) ty (.slice p n c) := by
 refine ⟨fun a _ hs _ _ _ _ w => ?_⟩
 have hu := hI.und
 rw [hd'] at hu
 obtain ⟨inf, z, t1, t2, t3, t4, t5, t6, t7, t8⟩ := A1Y (P := P) (t := el)
 simp only [execOp, resolve, invoke, builtin, Sem.run_bind, Sem.run_pure, Result.andThen_ok]
 have e1 : (⟨[x, y]⟩ : Array Operand).map a.eval = #[.slice p n c, .slice q 0 c'] := by
  simp [(hs.evo hx : a.eval x = _), (hs.evo hy : a.eval y = _)]
 rw [e1]
 have hf : (Builtin.firstCells ie.size 0 (.slice q 0 c')).run P w = .ok #[] w := by
  cases q <;> simp [Builtin.firstCells, loadCells, loadCellsFrom]
 have : (Builtin.append_ ⟨[t, t]⟩ ty #[.slice p n c, .slice q 0 c']).run P w = .ok (.slice p n c) w := by
  simp only [Builtin.append_, show (⟨[t, t]⟩ : Array TypeId)[0]? = some t from rfl, show (⟨[t, t]⟩ : Array TypeId)[1]? = some t from rfl, show (#[Value.slice p n c, Value.slice q 0 c'] : Array Value)[0]? = some (Value.slice p n c) from rfl, show (#[Value.slice p n c, Value.slice q 0 c'] : Array Value)[1]? = some (Value.slice q 0 c') from rfl,
   Sem.run_bind, run_underlying hu, Result.andThen_ok, t3, Sem.run_pure, Builtin.lenOf, Bool.not_false, if_true, Nat.add_zero, hc, hf, Bool.false_eq_true, if_false]
  cases p <;> simp [hf, storeCells]
 rw [this]; rfl

theorem B0u {σ : Sy} {c : Code} {X : Prop} (hx : ∀ a w, St Γ σ a w → X) (h : X → J1 P Γ c K σ) : J1 P Γ c K σ := ⟨fun a w hs => (h (hx a w hs)).run a w hs⟩
def Sl (G : IM) (p : Option Addr) (n c sz : Nat) (cs : List Value) : Prop :=
 cs.length = n * sz ∧ n ≤ c ∧ c ≤ maxLen ∧ (n = 0 ∨ ∃ b o full, p = some ⟨b, o, none⟩ ∧ G b = some full ∧ ∀ j v, cs[j]? = some v → full[o + j]? = some v)
theorem Sl.mono {G G' : IM} {p : Option Addr} {n c sz : Nat} {cs : List Value} (h : Sl G p n c sz cs) (hg : B1 G G') : Sl G' p n c sz cs := by
 obtain ⟨h1, h2, h3, h4⟩ := h
 refine ⟨h1, h2, h3, h4.imp id ?_⟩
 rintro ⟨b, o, full, e1, e2, e3⟩
 exact ⟨b, o, full, e1, hg b full e2, e3⟩
theorem Sl.nil (G : IM) (sz : Nat) : Sl G none 0 0 sz [] := ⟨by simp, Nat.le_refl _, Nat.zero_le _, .inl rfl⟩

theorem B0v {w : World} {p : Option Addr} {c el sz n : Nat} {cs : List Value} (hown : R5 [.slc p c el sz n cs] G w) :
  ∃ G', Q4 [.slc p c el sz n cs] G w [] G' w ∧ Sl G' p n c sz cs ∧ ∀ b ∈ I5 p, G b = none ∧ G' b ≠ none := by
 obtain ⟨hl, h⟩ := hown.ok _ List.mem_cons_self
 rcases h with ⟨hv, hn⟩ | ⟨g, cap, cur, hv, _, hg, hnc, hcm, hcs, ht⟩
 ·cases hv
  exact ⟨G, ⟨⟨hown.inn, by simp, by simp [Fp], by simp [Fp]⟩, Ext.refl _ _, B1.refl _, fun _ _ h => .inl h, by simp [Fp], fun b l h h0 => absurd h (by rw [h0]; simp)⟩, ⟨hl, Nat.le_refl _, Nat.zero_le _, .inl rfl⟩, by simp [I5]⟩
 ·cases hv
  have hG : G g = none := hown.disj g (by simp [Fp, A4.fp, I5])
  refine ⟨fun b => if b = g then some cur.toList else G b, ⟨⟨?_, by simp, by simp [Fp], by simp [Fp]⟩, Ext.refl _ _, ?_, ?_, by simp [Fp], ?_⟩, ⟨hl, hnc, hcm, ?_⟩, by simp [I5, hG]⟩
  ·intro b l hb
   replace hb : (if b = g then some cur.toList else G b) = some l := hb
   split at hb
   ·rename_i he; subst he; simp at hb; subst hb; exact ⟨el, (0, 0), by simpa using hg⟩
   ·exact hown.inn b l hb
  ·intro b l hb
   show (if b = g then some cur.toList else G b) = some l
   rw [if_neg]
   ·exact hb
   ·rintro rfl; rw [hG] at hb; cases hb
  ·intro b l hb
   replace hb : (if b = g then some cur.toList else G b) = some l := hb
   split at hb
   ·rename_i he; subst he; exact .inr (.inr (by simp [Fp, A4.fp, I5]))
   ·exact .inl hb
  ·intro b l hb h0
   replace hb : (if b = g then some cur.toList else G b) = some l := hb
   split at hb
   ·rename_i he; subst he; simp at hb; subst hb; exact ⟨el, by simpa using hg⟩
   ·rw [h0] at hb; cases hb
  ·rcases Nat.eq_zero_or_pos n with h0 | h0
   ·exact .inl h0
   ·refine .inr ⟨g, 0, cur.toList, rfl, by simp, fun j v hj => ?_⟩
    rw [← ht, List.getElem?_take] at hj
    split at hj
    ·simpa using hj
    ·cases hj

theorem St.nil_slc {a : Act} {w : World} (hs : St Γ ⟨env, hp, G⟩ a w) (el sz : Nat) : St Γ ⟨env, .slc none 0 el sz 0 [] :: hp, G⟩ a w := by
 refine ⟨hs.size, hs.nod, hs.env, ⟨⟨hs.res.own.inn, ?_, ?_, ?_⟩, hs.res.ext, hs.res.le, hs.res.fresh, ?_, hs.res.fz⟩⟩
 ·intro e he
  rcases List.mem_cons.1 he with rfl | he
  ·exact World.ownsRow_nil w 0 el sz
  ·exact hs.res.own.ok e he
 ·simpa [Fp, A4.fp, I5] using hs.res.own.nodup
 ·intro b hb; exact hs.res.own.disj b (by simpa [Fp, A4.fp, I5] using hb)
 ·intro b hb; exact hs.res.ofresh b (by simpa [Fp, A4.fp, I5] using hb)
theorem T7 {cd : Code} (el sz : Nat) (h : J1 P Γ cd K ⟨env, .slc none 0 el sz 0 [] :: hp, G⟩) : J1 P Γ cd K ⟨env, hp, G⟩ := ⟨fun a w hs => h.run a w (hs.nil_slc el sz)⟩
inductive Pk : List A4 → A4 → List A4 → Prop
 | here {e : A4} {r : List A4} : Pk (e :: r) e r
 | there {x e : A4} {r r' : List A4} : Pk r e r' → Pk (x :: r) e (x :: r')
theorem Pk.perm {hp hp' : List A4} {e : A4} (h : Pk hp e hp') : hp.Perm ([e] ++ hp') := by
 induction h with
 | here => exact List.Perm.refl _
 | there _ ih => exact (ih.cons _).trans (List.Perm.swap _ _ _)

theorem St.freeze {a : Act} {w : World} {hp' : List A4} {p : Option Addr} {c el sz n : Nat} {cs : List Value} (hs : St Γ ⟨env, hp, G⟩ a w) (hk : Pk hp (.slc p c el sz n cs) hp') :
  ∃ G', St Γ ⟨env, hp', G'⟩ a w ∧ B1 G G' ∧ Sl G' p n c sz cs ∧ ∀ b ∈ I5 p, G b = none ∧ G' b ≠ none := by
 have hown : R5 [.slc p c el sz n cs] G w := hs.res.own.of_mem hk.perm
 obtain ⟨G', hr, hsl, hno⟩ := B0v hown
 exact ⟨G', ⟨hs.size, hs.nod, hs.env, by have := (hs.res.perm hk.perm).frame hr; simpa using this⟩, hr.le, hsl, hno⟩

theorem A1z {cd : Code} {hp' : List A4} {p : Option Addr} {c el sz n : Nat} {cs : List Value} (hk : Pk hp (.slc p c el sz n cs) hp')
  (h : ∀ G', B1 G G' → Sl G' p n c sz cs → (∀ b ∈ I5 p, G b = none ∧ G' b ≠ none) → J1 P Γ cd K ⟨env, hp', G'⟩) : J1 P Γ cd K ⟨env, hp, G⟩ :=
 ⟨fun a w hs => let ⟨G', h1, h2, h3, h4⟩ := hs.freeze hk; (h G' h2 h3 h4).run a w h1⟩
theorem H8 {hp' : List A4} {p : Option Addr} {c el sz n : Nat} {cs : List Value} (hk : Pk hp (.slc p c el sz n cs) hp')
  (h : ∀ G', B1 G G' → Sl G' p n c sz cs → (∀ b ∈ I5 p, G b = none ∧ G' b ≠ none) → J1 P Γ .ret K ⟨env, hp', G'⟩) : J1 P Γ .ret K ⟨env, hp, G⟩ := A1z hk h
theorem T8 {hp' : List A4} {p : Option Addr} {c el sz n : Nat} {cs : List Value} (hk : Pk hp (.slc p c el sz n cs) hp')
  (h : ∀ G', B1 G G' → Sl G' p n c sz cs → (∀ b ∈ I5 p, G b = none ∧ G' b ≠ none) → E8 P Γ ops rest K ⟨env, hp', G'⟩) : E8 P Γ ops rest K ⟨env, hp, G⟩ :=
 ⟨fun a w hs => let ⟨G', h1, h2, h3, h4⟩ := hs.freeze hk; (h G' h2 h3 h4).run a w h1⟩
theorem A3I {H : List (Nat × Nat)} {fuel : Nat} {listed : List Bool} {hp' : List A4} {p : Option Addr} {c el sz n : Nat} {cs : List Value} (hk : Pk hp (.slc p c el sz n cs) hp')
  (h : ∀ G', B1 G G' → Sl G' p n c sz cs → (∀ b ∈ I5 p, G b = none ∧ G' b ≠ none) → M8 P Γ ops K H fuel listed ⟨env, hp', G'⟩) : M8 P Γ ops K H fuel listed ⟨env, hp, G⟩ :=
 ⟨fun a w hs => let ⟨G', h1, h2, h3, h4⟩ := hs.freeze hk; (h G' h2 h3 h4).run a w h1⟩

def H9 (v0 : Value) (G : IM) : IM → Value → List A4 → Prop := fun G' v outs => G' = G ∧ v = v0 ∧ outs = []
def L5 (Φ : IM → Value → Prop) : IM → Value → List A4 → Prop := fun G' v outs => outs = [] ∧ Φ G' v

theorem H2 {d : Nat} {f : FuncId} [hF : B2 P f] {xs : List Operand} {ats : Array TypeId} {vs : List Value} {v0 : Value}
  (hx : evl env xs = some vs) (h : Fn P f vs [] G (H9 v0 G)) (hw : K5 ops env gd = some true) (hd : Nat.blt d Γ.n = true)
  (k : E8 P Γ ops rest K ⟨(d, v0) :: env, hp, G⟩) : E8 P Γ ops (⟨some d, .call ⟨.value (.func f), ⟨xs⟩, ats⟩, ty, pos, af, gd⟩ :: rest) K ⟨env, hp, G⟩ :=
 I8 (A2l hx h hd) hw (by rintro _ ⟨v, G', outs, rfl, _, rfl, rfl, rfl⟩; exact k)
theorem H3 {d : Nat} {f : FuncId} [hF : B2 P f] {xs : List Operand} {ats : Array TypeId} {vs : List Value} {b : Bool}
  (hx : evl env xs = some vs) (h : Fn P f vs [] G (H9 (.bool b) G)) (hw : K5 ops env gd = some true) (hd : Nat.blt d Γ.n = true)
  (kt : b = true → E8 P Γ ops rest K ⟨(d, .bool true) :: env, hp, G⟩) (kf : b = false → E8 P Γ ops rest K ⟨(d, .bool false) :: env, hp, G⟩) :
  E8 P Γ ops (⟨some d, .call ⟨.value (.func f), ⟨xs⟩, ats⟩, ty, pos, af, gd⟩ :: rest) K ⟨env, hp, G⟩ := by
 cases b
 ·exact H2 hx h hw hd (kf rfl)
 ·exact H2 hx h hw hd (kt rfl)
theorem F4 {d : Nat} {f : FuncId} [hF : B2 P f] {xs : List Operand} {ats : Array TypeId} {vs : List Value} {Φ : IM → Value → Prop}
  (hx : evl env xs = some vs) (h : Fn P f vs [] G (L5 Φ)) (hw : K5 ops env gd = some true) (hd : Nat.blt d Γ.n = true)
  (k : ∀ v G', B1 G G' → Φ G' v → E8 P Γ ops rest K ⟨(d, v) :: env, hp, G'⟩) : E8 P Γ ops (⟨some d, .call ⟨.value (.func f), ⟨xs⟩, ats⟩, ty, pos, af, gd⟩ :: rest) K ⟨env, hp, G⟩ :=
 I8 (A2l hx h hd) hw (by rintro _ ⟨v, G', outs, rfl, hle, rfl, hΦ⟩; exact k v G' hle hΦ)
theorem T9 {d : Nat} {f : FuncId} [hF : B2 P f] {xs : List Operand} {ats : Array TypeId} {vs : List Value} {post : IM → Value → List A4 → Prop}
  (hx : evl env xs = some vs) (h : Fn P f vs [] G post) (hw : K5 ops env gd = some true) (hd : Nat.blt d Γ.n = true)
  (k : ∀ v G' outs, B1 G G' → post G' v outs → E8 P Γ ops rest K ⟨(d, v) :: env, outs ++ hp, G'⟩) : E8 P Γ ops (⟨some d, .call ⟨.value (.func f), ⟨xs⟩, ats⟩, ty, pos, af, gd⟩ :: rest) K ⟨env, hp, G⟩ :=
 I8 (A2l hx h hd) hw (by rintro _ ⟨v, G', outs, rfl, hle, hp⟩; exact k v G' outs hle hp)
theorem A6A {d : Nat} {f : FuncId} [hF : B2 P f] {g : Operand} {xs : List Operand} {ats : Array TypeId} {vs us cs : List Value} {v0 : Value}
  (hg : evo env g = some (.func (.func f) ⟨us⟩ ⟨cs⟩)) (hx : evl env xs = some vs) (h : Fn P f (us ++ vs ++ cs) [] G (H9 v0 G)) (hw : K5 ops env gd = some true) (hd : Nat.blt d Γ.n = true)
  (k : E8 P Γ ops rest K ⟨(d, v0) :: env, hp, G⟩) : E8 P Γ ops (⟨some d, .call ⟨.value g, ⟨xs⟩, ats⟩, ty, pos, af, gd⟩ :: rest) K ⟨env, hp, G⟩ :=
 I8 (A2R hg hx h (List.Perm.refl _) hd) hw (by rintro _ ⟨v, G', outs, rfl, _, rfl, rfl, rfl⟩; exact k)
def T1 (v0 : Value) (ins : List A4) (G : IM) : IM → Value → List A4 → Prop := fun G' v outs => G' = G ∧ v = v0 ∧ outs = ins
theorem A6B {hp' : List A4} (p : hp.Perm hp') (k : E8 P Γ ops rest K ⟨env, hp', G⟩) : E8 P Γ ops rest K ⟨env, hp, G⟩ :=
 ⟨fun a w hs => k.run a w ⟨hs.size, hs.nod, hs.env, hs.res.perm p⟩⟩
theorem A1Z {d : Nat} {f : FuncId} [hF : B2 P f] {xs : List Operand} {ats : Array TypeId} {vs : List Value} {v0 : Value} {ins rst : List A4}
  (hx : evl env xs = some vs) (h : Fn P f vs ins G (T1 v0 ins G)) (hp' : hp.Perm (ins ++ rst)) (hw : K5 ops env gd = some true) (hd : Nat.blt d Γ.n = true)
  (k : E8 P Γ ops rest K ⟨(d, v0) :: env, hp, G⟩) : E8 P Γ ops (⟨some d, .call ⟨.value (.func f), ⟨xs⟩, ats⟩, ty, pos, af, gd⟩ :: rest) K ⟨env, hp, G⟩ :=
 I8 (A3E hx h hp' hd) hw (by rintro _ ⟨v, G', outs, rfl, _, rfl, rfl, rfl⟩; exact A6B hp'.symm k)
theorem A6C {d : Nat} {f : FuncId} [hF : B2 P f] {g : Operand} {xs : List Operand} {ats : Array TypeId} {vs us cs : List Value} {v0 : Value} {ins rst : List A4}
  (hg : evo env g = some (.func (.func f) ⟨us⟩ ⟨cs⟩)) (hx : evl env xs = some vs) (h : Fn P f (us ++ vs ++ cs) ins G (T1 v0 ins G)) (hp' : hp.Perm (ins ++ rst)) (hw : K5 ops env gd = some true) (hd : Nat.blt d Γ.n = true)
  (k : E8 P Γ ops rest K ⟨(d, v0) :: env, hp, G⟩) : E8 P Γ ops (⟨some d, .call ⟨.value g, ⟨xs⟩, ats⟩, ty, pos, af, gd⟩ :: rest) K ⟨env, hp, G⟩ :=
 I8 (A2R hg hx h hp' hd) hw (by rintro _ ⟨v, G', outs, rfl, _, rfl, rfl, rfl⟩; exact A6B hp'.symm k)
theorem A2U {d : Nat} {f : FuncId} [hF : B2 P f] {xs : List Operand} {ats : Array TypeId} {vs : List Value} {b : Bool} {ins rst : List A4}
  (hx : evl env xs = some vs) (h : Fn P f vs ins G (T1 (.bool b) ins G)) (hp' : hp.Perm (ins ++ rst)) (hw : K5 ops env gd = some true) (hd : Nat.blt d Γ.n = true)
  (kt : b = true → E8 P Γ ops rest K ⟨(d, .bool true) :: env, hp, G⟩) (kf : b = false → E8 P Γ ops rest K ⟨(d, .bool false) :: env, hp, G⟩) :
  E8 P Γ ops (⟨some d, .call ⟨.value (.func f), ⟨xs⟩, ats⟩, ty, pos, af, gd⟩ :: rest) K ⟨env, hp, G⟩ := by
 cases b
 ·exact A1Z hx h hp' hw hd (kf rfl)
 ·exact A1Z hx h hp' hw hd (kt rfl)
theorem A3J {d : Nat} {f : FuncId} [hF : B2 P f] {g : Operand} {xs : List Operand} {ats : Array TypeId} {vs us cs : List Value} {b : Bool} {ins rst : List A4}
  (hg : evo env g = some (.func (.func f) ⟨us⟩ ⟨cs⟩)) (hx : evl env xs = some vs) (h : Fn P f (us ++ vs ++ cs) ins G (T1 (.bool b) ins G)) (hp' : hp.Perm (ins ++ rst)) (hw : K5 ops env gd = some true) (hd : Nat.blt d Γ.n = true)
  (kt : b = true → E8 P Γ ops rest K ⟨(d, .bool true) :: env, hp, G⟩) (kf : b = false → E8 P Γ ops rest K ⟨(d, .bool false) :: env, hp, G⟩) :
  E8 P Γ ops (⟨some d, .call ⟨.value g, ⟨xs⟩, ats⟩, ty, pos, af, gd⟩ :: rest) K ⟨env, hp, G⟩ := by
 cases b
 ·exact A6C hg hx h hp' hw hd (kf rfl)
 ·exact A6C hg hx h hp' hw hd (kt rfl)

theorem A3K {d : Nat} {f : FuncId} [hF : B2 P f] {xs : List Operand} {ats : Array TypeId} {vs : List Value} {v0 : Value} {ins outs rst : List A4}
  (hx : evl env xs = some vs) (h : Fn P f vs ins G (T1 v0 outs G)) (hp' : hp.Perm (ins ++ rst)) (hw : K5 ops env gd = some true) (hd : Nat.blt d Γ.n = true)
  (k : E8 P Γ ops rest K ⟨(d, v0) :: env, outs ++ rst, G⟩) : E8 P Γ ops (⟨some d, .call ⟨.value (.func f), ⟨xs⟩, ats⟩, ty, pos, af, gd⟩ :: rest) K ⟨env, hp, G⟩ :=
 I8 (A3E hx h hp' hd) hw (by rintro _ ⟨v, G', outs, rfl, _, rfl, rfl, rfl⟩; exact k)
theorem B0w {d : Nat} {f : FuncId} [hF : B2 P f] {xs : List Operand} {ats : Array TypeId} {vs : List Value} {b : Bool} {ins outs rst : List A4}
  (hx : evl env xs = some vs) (h : Fn P f vs ins G (T1 (.bool b) outs G)) (hp' : hp.Perm (ins ++ rst)) (hw : K5 ops env gd = some true) (hd : Nat.blt d Γ.n = true)
  (kt : b = true → E8 P Γ ops rest K ⟨(d, .bool true) :: env, outs ++ rst, G⟩) (kf : b = false → E8 P Γ ops rest K ⟨(d, .bool false) :: env, outs ++ rst, G⟩) :
  E8 P Γ ops (⟨some d, .call ⟨.value (.func f), ⟨xs⟩, ats⟩, ty, pos, af, gd⟩ :: rest) K ⟨env, hp, G⟩ := by
 cases b
 ·exact A3K hx h hp' hw hd (kf rfl)
 ·exact A3K hx h hp' hw hd (kt rfl)
theorem A6D {a b : A4} {r : List A4} : (a :: b :: r).Perm (r ++ [a, b]) := List.perm_append_comm (l₁ := [a, b])
theorem A0g : hp.Perm (hp ++ []) := by simp
inductive D4 (e : K7) : K7 → Prop
 | nil : D4 e []
 | cons {t : Nat} {v : Value} {e' : K7} : X4 e t = some v → D4 e e' → D4 e ((t, v) :: e')
inductive A0 : List A4 → List A4 → Prop
 | nil {h : List A4} : A0 h []
 | refl {h : List A4} : A0 h h
 | cons {h h' r : List A4} {e : A4} : Pk h e r → A0 r h' → A0 h (e :: h')
 | drop {x : A4} {h h' : List A4} : A0 h h' → A0 (x :: h) h'
theorem D4.spec {e e' : K7} (h : D4 e e') : ∀ t v, X4 e' t = some v → X4 e t = some v := by
 induction h with
 | nil => intro t v h; simp [X4] at h
 | @cons t0 v0 e' h0 _ ih =>
  intro t v h
  rw [A4z] at h
  split at h
  ·rename_i he; subst he; simp at h; subst h; exact h0
  ·exact ih t v h
theorem A0.spec {h h' : List A4} (hs : A0 h h') : ∃ r, h.Perm (h' ++ r) := by
 induction hs with
 | @nil h => exact ⟨h, List.Perm.refl _⟩
 | @refl h => exact ⟨[], by simp⟩
 | @cons h h' r e hk _ ih =>
  obtain ⟨r', hr'⟩ := ih
  exact ⟨r', hk.perm.trans (by simpa using hr'.cons e)⟩
 | @drop x h h' _ ih =>
  obtain ⟨r', hr'⟩ := ih
  exact ⟨x :: r', (hr'.cons x).trans List.perm_middle.symm⟩
theorem E2 (es : List (List Value)) (a : List Value) : (es ++ [a]).flatten = es.flatten ++ a := by simp
theorem N3 {e' : K7} {hp' : List A4} (h : D4 env e') (h2 : A0 hp hp') : Sub ⟨env, hp, G⟩ ⟨e', hp', G⟩ := ⟨h.spec, h2.spec, rfl⟩

theorem C5 {e' : K7} {hp' : List A4} (h : D4 env e' := by repeat (first | exact D4.nil | refine D4.cons rfl ?_)) (h2 : A0 hp hp' := by repeat (first | exact A0.refl | exact A0.nil | refine A0.cons (by repeat (first | exact Pk.here | apply Pk.there)) ?_ | apply A0.drop)) : Sub ⟨env, hp, G⟩ ⟨e', hp', G⟩ := N3 h h2
theorem F0 {r : ResultVar} {post : IM → Value → List A4 → Prop} {v : Value} (h : Y4 P Γ ⟨env, hp, G⟩ r v) (hk : post G v []) :
  A0r P Γ [r] post .ret ⟨env, hp, G⟩ := A3F (.cons h .nil) hk
theorem R1 {A B : Prop} (h : B) (f : B → A := by intro h; first | (show E8 _ _ _ [] _ _; exact sD h) | (show E8 _ _ _ (⟨_, .assign _, _, _, _, _⟩ :: _) _ _; first | exact sQ (qA rfl) rfl h | exact sK rfl rfl h) | (show E8 _ _ _ (⟨_, .move _, _, _, _, _⟩ :: _) _ _; first | exact sQ (qM rfl) rfl h | exact sK rfl rfl h) | (show E8 _ _ _ (⟨_, .fieldAddr _ _ _, _, _, _, _⟩ :: _) _ _; first | exact sQ (B8 rfl) rfl h | exact sQ (qF rfl) rfl h | exact sK rfl rfl h) | (show E8 _ _ _ (⟨_, .load _ _, _, _, _, _⟩ :: _) _ _; first | exact sL (C7 rfl rfl) rfl rfl h | exact sL (A2 rfl rfl) rfl rfl h | exact sK rfl rfl h) | (show E8 _ _ _ (⟨_, .store _ _ _, _, _, _, _⟩ :: _) _ _; refine F9 ?_; exact h) | (show E8 _ _ _ (⟨_, .pick _ _ _, _, _, _, _⟩ :: _) _ _; first | exact sQ (S5 rfl rfl) rfl h | exact sQ (O2 rfl rfl) rfl h | exact sK rfl rfl h) | (show E8 _ _ _ (⟨_, .extract _ _, _, _, _, _⟩ :: _) _ _; first | exact sQ (pX rfl rfl) rfl h | exact sK rfl rfl h) | (show E8 _ _ _ (⟨_, .build _ _, _, _, _, _⟩ :: _) _ _; first | exact sQ (S0 rfl rfl) rfl h | exact sK rfl rfl h) | (show E8 _ _ _ (⟨_, .unOp _ _ _, _, _, _, _⟩ :: _) _ _; first | exact sQ (pNt rfl) rfl h | exact sQ (pNf rfl) rfl h | exact sK rfl rfl h) | (show E8 _ _ _ (⟨_, .call _, _, _, _, _⟩ :: _) _ _; first | exact sQ (pLn rfl rfl) rfl h | exact sK rfl rfl h) | (show E8 _ _ _ (_ :: _) _ _; exact sK rfl rfl h) | (show A0N _ _ _ _ .normal _; exact nS h) | (show J1 _ _ (.seq _ _) _ _; exact tS h) | (show J1 _ _ (.region _ _ _) _ _; exact tR h) | (show J1 _ _ (.cond _ _ _) _ _; first | exact qT rfl h | exact cF rfl h) | (show J1 _ _ .skip _ _; exact tK h) | (show J1 _ _ .ret _ _; exact tT h) | (show A0N _ _ _ _ .ret _; exact rS h) | (show A1k _ _ .ret _; exact rB h) | (show A1k _ _ .normal _; exact M9 h) | (show J1 _ _ (.exit _) _ _; exact A9W h) | (show A0N _ _ _ _ (.exit _) _; exact B0h h) | (show A1l _ _ _ _ _ (.exit _) _; exact A9Z h) | (show A1k _ _ (.exit _) _; exact B0i h) | (show A1l _ _ _ _ _ .ret _; exact A2N h) | (show A0r _ _ _ _ .ret _; exact F0 (rT rfl) h) | (show M8 _ _ _ _ _ _ _ _; exact C4 h)) : A := f h
theorem wk2 {A B : Prop} (h : B) (f : B → A := by intro h; (iterate 2 (refine R1 ?_)); exact h) : A := f h
theorem J0 {A B : Prop} (h : B) (f : B → A := by intro h; (iterate 3 (refine R1 ?_)); exact h) : A := f h
theorem J5 {A B : Prop} (h : B) (f : B → A := by intro h; (iterate 4 (refine R1 ?_)); exact h) : A := f h
theorem R2 {A B : Prop} (h : B) (f : B → A := by intro h; (iterate 5 (refine R1 ?_)); exact h) : A := f h
theorem I0 {A B : Prop} (h : B) (f : B → A := by intro h; (iterate 6 (refine R1 ?_)); exact h) : A := f h
theorem D0 {A B : Prop} (h : B) (f : B → A := by intro h; (iterate 7 (refine R1 ?_)); exact h) : A := f h
theorem D7 {A B : Prop} (h : B) (f : B → A := by intro h; (iterate 8 (refine R1 ?_)); exact h) : A := f h
theorem D2 {A B : Prop} (h : B) (f : B → A := by intro h; (iterate 9 (refine R1 ?_)); exact h) : A := f h
theorem L6 {A B : Prop} (h : B) (f : B → A := by intro h; (iterate 10 (refine R1 ?_)); exact h) : A := f h
theorem K6 {A B : Prop} (h : B) (f : B → A := by intro h; (iterate 11 (refine R1 ?_)); exact h) : A := f h
theorem N8 {A B : Prop} (h : B) (f : B → A := by intro h; (iterate 12 (refine R1 ?_)); exact h) : A := f h
theorem L7 {A B : Prop} (h : B) (f : B → A := by intro h; (iterate 13 (refine R1 ?_)); exact h) : A := f h
theorem M1 {A B : Prop} (h : B) (f : B → A := by intro h; (iterate 14 (refine R1 ?_)); exact h) : A := f h
theorem I4 {A B : Prop} (h : B) (f : B → A := by intro h; (iterate 15 (refine R1 ?_)); exact h) : A := f h
theorem K8 {A B : Prop} (h : B) (f : B → A := by intro h; (iterate 16 (refine R1 ?_)); exact h) : A := f h
theorem T2 {A B : Prop} (h : B) (f : B → A := by intro h; (iterate 17 (refine R1 ?_)); exact h) : A := f h
theorem V7 {A B : Prop} (h : B) (f : B → A := by intro h; (iterate 18 (refine R1 ?_)); exact h) : A := f h
theorem A0a {A B : Prop} (h : B) (f : B → A := by intro h; (iterate 19 (refine R1 ?_)); exact h) : A := f h
theorem A0y {A B : Prop} (h : B) (f : B → A := by intro h; (iterate 20 (refine R1 ?_)); exact h) : A := f h
theorem A0h {A B : Prop} (h : B) (f : B → A := by intro h; (iterate 21 (refine R1 ?_)); exact h) : A := f h
theorem A6E {A B : Prop} (h : B) (f : B → A := by intro h; (iterate 22 (refine R1 ?_)); exact h) : A := f h
theorem A1A {A B : Prop} (h : B) (f : B → A := by intro h; (iterate 23 (refine R1 ?_)); exact h) : A := f h
theorem A2n {A B : Prop} (h : B) (f : B → A := by intro h; (iterate 24 (refine R1 ?_)); exact h) : A := f h
theorem A4O {A B : Prop} (h : B) (f : B → A := by intro h; (iterate 25 (refine R1 ?_)); exact h) : A := f h
theorem A4P {A B : Prop} (h : B) (f : B → A := by intro h; (iterate 26 (refine R1 ?_)); exact h) : A := f h
theorem B0x {A B : Prop} (h : B) (f : B → A := by intro h; (iterate 27 (refine R1 ?_)); exact h) : A := f h
theorem A6F {A B : Prop} (h : B) (f : B → A := by intro h; (iterate 28 (refine R1 ?_)); exact h) : A := f h
theorem B5A {A B : Prop} (h : B) (f : B → A := by intro h; (iterate 29 (refine R1 ?_)); exact h) : A := f h
theorem A0i {A B : Prop} (h : B) (f : B → A := by intro h; (iterate 30 (refine R1 ?_)); exact h) : A := f h
theorem E9 {r r2 : ResultVar} {post : IM → Value → List A4 → Prop} {v v2 : Value} (h : Y4 P Γ ⟨env, hp, G⟩ r v) (h2 : Y4 P Γ ⟨env, hp, G⟩ r2 v2) (hk : post G (.tuple ⟨[v, v2]⟩) []) :
  A0r P Γ [r, r2] post .ret ⟨env, hp, G⟩ := A3F (.cons h (.cons h2 .nil)) hk
theorem E6 {r r2 r3 : ResultVar} {post : IM → Value → List A4 → Prop} {v v2 v3 : Value} (h : Y4 P Γ ⟨env, hp, G⟩ r v) (h2 : Y4 P Γ ⟨env, hp, G⟩ r2 v2) (h3 : Y4 P Γ ⟨env, hp, G⟩ r3 v3) (hk : post G (.tuple ⟨[v, v2, v3]⟩) []) :
  A0r P Γ [r, r2, r3] post .ret ⟨env, hp, G⟩ := A3F (.cons h (.cons h2 (.cons h3 .nil))) hk
theorem H0 {r : ResultVar} {post : IM → Value → List A4 → Prop} {v : Value} {outs : List A4} (h : Y4 P Γ ⟨env, hp, G⟩ r v) (ho : A0 hp outs) (hk : post G v outs) :
  A0r P Γ [r] post .ret ⟨env, hp, G⟩ := A6t (.cons h .nil) ho.spec hk
theorem E1 {H : List (Nat × Nat)} {fuel : Nat} {listed l' : List Bool} {j : Nat} {d : Option Nat} {op : Op} {K' : Sy → Prop} {σ : Sy} (hi : ops[j]? = some ⟨d, op, ty, pos, af, gd⟩)
  (h : U8 P Γ σ d op ty [] K') (hw : K5 ops σ.env gd = some true) (hl : listed.set j true = l')
  (k : ∀ σ', K' σ' → M8 P Γ ops K H fuel l' σ') : U3 P Γ ops K H fuel listed j σ := by
 refine ⟨fun a w hs Hs hHs hall hdc hrd => ?_⟩
 unfold wpOp
 simp only [hi, A02 hs.env hw, if_true]
 refine .inl (h.run a w hs pos af gd _ _ fun a' w' σ' h1 h2 h3 => ?_)
 have hkeep : ∀ h ∈ Hs, w'.heap[h.b]? = some h.o := fun x hx => by rw [h2.block x.b (A0M (hall x hx)) (by simp), hall x hx]
 have hn : ∀ h ∈ Hn ops j Hs, w'.heap[h.b]? = some h.o := fun x hx => hkeep x (List.mem_filter.1 hx).1
 refine ⟨hn, ?_⟩
 have := (k σ' h3).run a' w' h1 Hs hHs hkeep (by rw [← hl]; simpa using hdc.step hrd)
 rw [← hl] at this
 exact A3A _ (fun x hx => (List.mem_filter.1 hx).1) _ _ _ (by simpa using this)

theorem A2V {H H' : List (Nat × Nat)} {fuel : Nat} {listed l' : List Bool} {j : Nat} {d : Option Nat} {op : Op} {mods : List Nat} {K' : Sy → Prop} {σ : Sy} (hi : ops[j]? = some ⟨d, op, ty, pos, af, gd⟩)
  (h : U8 P Γ σ d op ty mods K') (hw : K5 ops σ.env gd = some true) (hl : listed.set j true = l')
  (hm : ∀ a w, St Γ σ a w → ∀ p ∈ H, Z0 ops j p.1 = true ∨ p.2 ∉ mods) (hH : H.filter (fun p => !Z0 ops j p.1) = H')
  (k : ∀ σ', K' σ' → M8 P Γ ops K H' fuel l' σ') : U3 P Γ ops K H fuel listed j σ := by
 refine ⟨fun a w hs Hs hHs hall hdc hrd => ?_⟩
 exact (A93 (listed := listed) hi h hw hl (hm a w hs) (fun σ' hσ => by rw [hH]; exact k σ' hσ)).run a w hs Hs hHs hall hdc hrd
theorem B0y {H : List (Nat × Nat)} {fuel : Nat} {listed l' : List Bool} {j : Nat} {d : Option Nat} {op : Op} {mods : List Nat} {K' : Sy → Prop} {σ : Sy} (hi : ops[j]? = some ⟨d, op, ty, pos, af, gd⟩)
  (h : U8 P Γ σ d op ty mods K') (hw : K5 ops σ.env gd = some true) (hl : listed.set j true = l')
  (hm : ((H.map Prod.fst).all fun i => Z0 ops j i) = true)
  (k : ∀ σ', K' σ' → M8 P Γ ops K [] fuel l' σ') : U3 P Γ ops K H fuel listed j σ := by
 have hm' : ∀ p ∈ H, Z0 ops j p.1 = true := fun p hp => List.all_eq_true.1 hm p.1 (List.mem_map.2 ⟨p, hp, rfl⟩)
 refine A2V hi h hw hl (fun _ _ _ p hp => .inl (hm' p hp)) ?_ k
 rw [List.filter_eq_nil_iff]
 intro p hp
 simp [hm' p hp]

inductive A8 (ops : Array Oper) (j : Nat) (hp : List A4) (G : IM) (e : A4) : List (Nat × Nat) → List (Nat × Nat) → Prop
 | nil : A8 ops j hp G e [] []
 | dep {i b : Nat} {r r' : List (Nat × Nat)} : Z0 ops j i = true → A8 ops j hp G e r r' → A8 ops j hp G e ((i, b) :: r) r'
 | blk {i b : Nat} {cs : List Value} {rest : List A4} {r r' : List (Nat × Nat)} : Z0 ops j i = false → Pk hp e rest → A4.blk b cs ∈ rest → A8 ops j hp G e r r' → A8 ops j hp G e ((i, b) :: r) ((i, b) :: r')
 | slc {i b c el sz n : Nat} {cs : List Value} {rest : List A4} {r r' : List (Nat × Nat)} : Z0 ops j i = false → Pk hp e rest → A4.slc (some ⟨b, 0, none⟩) c el sz n cs ∈ rest → A8 ops j hp G e r r' → A8 ops j hp G e ((i, b) :: r) ((i, b) :: r')
 | im {i b : Nat} {r r' : List (Nat × Nat)} : Z0 ops j i = false → G b ≠ none → e ∈ hp → A8 ops j hp G e r r' → A8 ops j hp G e ((i, b) :: r) ((i, b) :: r')
theorem A8.filter {j : Nat} {e : A4} {H H' : List (Nat × Nat)} (h : A8 ops j hp G e H H') : H.filter (fun p => !Z0 ops j p.1) = H' := by
 induction h with
 | nil => rfl
 | dep hd _ ih => simp [hd, ih]
 | blk hd _ _ _ ih => simp [hd, ih]
 | slc hd _ _ _ ih => simp [hd, ih]
 | im hd _ _ _ ih => simp [hd, ih]

theorem A8.spec {j : Nat} {e : A4} {H H' : List (Nat × Nat)} (h : A8 ops j hp G e H H') {a : Act} {w : World} (hs : St Γ ⟨env, hp, G⟩ a w) : ∀ p ∈ H, Z0 ops j p.1 = true ∨ p.2 ∉ e.fp := by
 have other : ∀ {rest : List A4} {x : A4}, Pk hp e rest → x ∈ rest → ∀ b ∈ x.fp, b ∉ e.fp := by
  intro rest x hk hx b hb hbe
  have := (hs.res.own.perm hk.perm).nodup
  rw [Z8, List.nodup_append] at this
  exact this.2.2 b (by simpa [Fp] using hbe) b (A3z.2 ⟨x, hx, hb⟩) rfl
 induction h with
 | nil => simp
 | dep hd _ ih =>
  intro p hp'
  rcases List.mem_cons.1 hp' with rfl | hp'
  ·exact .inl hd
  ·exact ih p hp'
 | blk _ hk hm _ ih =>
  intro p hp'
  rcases List.mem_cons.1 hp' with rfl | hp'
  ·exact .inr (other hk hm _ (by simp [A4.fp]))
  ·exact ih p hp'
 | slc _ hk hm _ ih =>
  intro p hp'
  rcases List.mem_cons.1 hp' with rfl | hp'
  ·exact .inr (other hk hm _ (by simp [A4.fp, I5]))
  ·exact ih p hp'
 | im _ hg hm _ ih =>
  intro p hp'
  rcases List.mem_cons.1 hp' with rfl | hp'
  ·refine .inr fun hbe => ?_
   exact hg (hs.res.own.disj _ (A3z.2 ⟨e, hm, hbe⟩))
  ·exact ih p hp'


section ones
variable {H : List (Nat × Nat)} {fuel : Nat} {listed l' : List Bool} {j d : Nat} {f : FuncId} {xs : List Operand} {ats : Array TypeId} {vs us cs : List Value} {v0 : Value} {b : Bool} {ins rst : List A4} {g : Operand}
theorem P5 [hF : B2 P f] (hi : ops[j]? = some ⟨some d, .call ⟨.value (.func f), ⟨xs⟩, ats⟩, ty, pos, af, gd⟩) (hx : evl env xs = some vs) (h : Fn P f vs [] G (H9 v0 G)) (hw : K5 ops env gd = some true) (hd : Nat.blt d Γ.n = true) (hl : listed.set j true = l')
  (k : M8 P Γ ops K H fuel l' ⟨(d, v0) :: env, hp, G⟩) : U3 P Γ ops K H fuel listed j ⟨env, hp, G⟩ :=
 E1 hi (A2l hx h hd) hw hl (by rintro _ ⟨v, G', outs, rfl, _, rfl, rfl, rfl⟩; exact k)
theorem U9 [hF : B2 P f] (hi : ops[j]? = some ⟨some d, .call ⟨.value (.func f), ⟨xs⟩, ats⟩, ty, pos, af, gd⟩) (hx : evl env xs = some vs) (h : Fn P f vs [] G (H9 (.bool b) G)) (hw : K5 ops env gd = some true) (hd : Nat.blt d Γ.n = true) (hl : listed.set j true = l')
  (kt : b = true → M8 P Γ ops K H fuel l' ⟨(d, .bool true) :: env, hp, G⟩) (kf : b = false → M8 P Γ ops K H fuel l' ⟨(d, .bool false) :: env, hp, G⟩) : U3 P Γ ops K H fuel listed j ⟨env, hp, G⟩ := by
 cases b
 ·exact P5 hi hx h hw hd hl (kf rfl)
 ·exact P5 hi hx h hw hd hl (kt rfl)
theorem K4 [hF : B2 P f] {Φ : IM → Value → Prop} (hi : ops[j]? = some ⟨some d, .call ⟨.value (.func f), ⟨xs⟩, ats⟩, ty, pos, af, gd⟩) (hx : evl env xs = some vs) (h : Fn P f vs [] G (L5 Φ)) (hw : K5 ops env gd = some true) (hd : Nat.blt d Γ.n = true) (hl : listed.set j true = l')
  (k : ∀ v G', B1 G G' → Φ G' v → M8 P Γ ops K H fuel l' ⟨(d, v) :: env, hp, G'⟩) : U3 P Γ ops K H fuel listed j ⟨env, hp, G⟩ :=
 E1 hi (A2l hx h hd) hw hl (by rintro _ ⟨v, G', outs, rfl, hle, rfl, hΦ⟩; exact k v G' hle hΦ)
theorem A3L [hF : B2 P f] {post : IM → Value → List A4 → Prop} (hi : ops[j]? = some ⟨some d, .call ⟨.value (.func f), ⟨xs⟩, ats⟩, ty, pos, af, gd⟩) (hx : evl env xs = some vs) (h : Fn P f vs [] G post) (hw : K5 ops env gd = some true) (hd : Nat.blt d Γ.n = true) (hl : listed.set j true = l')
  (k : ∀ v G' outs, B1 G G' → post G' v outs → M8 P Γ ops K H fuel l' ⟨(d, v) :: env, outs ++ hp, G'⟩) : U3 P Γ ops K H fuel listed j ⟨env, hp, G⟩ :=
 E1 hi (A2l hx h hd) hw hl (by rintro _ ⟨v, G', outs, rfl, hle, hp⟩; exact k v G' outs hle hp)
theorem U1 {x y : Operand} {t : TypeId} {i : K3} [hI : H5 P t i] {bb o : Nat} {v : Value} {cs' : List Value} {hp' : List A4} (hi : ops[j]? = some ⟨none, .store t x y, ty, pos, af, gd⟩)
  (hx : evo env x = some (.pointer (some ⟨bb, o, none⟩))) (hy : evo env y = some v) (hv : v.cells = ⟨vs⟩) (hsz : vs.length = i.size) (h1 : vs.all (·.oneCell') = true)
  (hw : K5 ops env gd = some true) (hl : listed.set j true = l') (hm : ((H.map Prod.fst).all fun i => Z0 ops j i) = true)
  (hsw : Sw hp (.blk bb cs) (.blk bb cs') hp') (hu : Q5 cs o vs = some cs')
  (k : M8 P Γ ops K [] fuel l' ⟨env, hp', G⟩) : U3 P Γ ops K H fuel listed j ⟨env, hp, G⟩ :=
 B0y hi (A4G hx hy hv hsz h1 hu hsw rfl) hw hl hm (by rintro _ rfl; exact k)
theorem T3 {x y : Operand} {t el : TypeId} {i : K3} {sz by' : Nat} {zs : List Value} [hI : H5 P t i] [hE : V5 P el sz by' zs] {p : Option Addr} {c n m bb o c' : Nat} {news : List Value} {hp' : Option Addr → Nat → List A4} {H' : List (Nat × Nat)}
  (hi : ops[j]? = some ⟨some d, .call ⟨.builtin .append, ⟨[x, y]⟩, ⟨[t, t]⟩⟩, ty, pos, af, gd⟩) (hd' : i.desc = .slice el)
  (hd : Nat.blt d Γ.n = true) (hx : evo env x = some (.slice p n c)) (hy : evo env y = some (.slice (some ⟨bb, o, none⟩) m c')) (hsz : Nat.blt 0 sz = true)
  (hm : ∀ p' c', Sw hp (.slc p c el sz n cs) (.slc p' c' el sz (n + m) (cs ++ news)) (hp' p' c'))
  (hs' : At hp G bb o news) (hln : news.length = m * sz) (h1 : ∀ u ∈ news, u.oneCell' = true)
  (h63 : n + m ≤ maxLen) (hb : (n + m) * by' ≤ 140737488355328) (hw : K5 ops env gd = some true) (hl : listed.set j true = l')
  (hok : A8 ops j hp G (.slc p c el sz n cs) H H')
  (k : ∀ p' c', M8 P Γ ops K H' fuel l' ⟨(d, .slice p' (n + m) c') :: env, hp' p' c', G⟩) : U3 P Γ ops K H fuel listed j ⟨env, hp, G⟩ :=
 A2V hi (A4N hd' hd hx hy hsz hm hs' hln h1 h63 hb) hw hl (fun _ _ hs => hok.spec hs) hok.filter (by rintro _ ⟨p', c', rfl⟩; exact k p' c')
end ones
theorem W7 {d : Nat} {x y : Operand} {t el : TypeId} {i : K3} {sz by' : Nat} {zs : List Value} [hI : H5 P t i] [hE : V5 P el sz by' zs] {p : Option Addr} {c n m bb o c' : Nat} {cs news : List Value} {hp' : Option Addr → Nat → List A4}
  (hd' : i.desc = .slice el) (hd : Nat.blt d Γ.n = true) (hx : evo env x = some (.slice p n c)) (hy : evo env y = some (.slice (some ⟨bb, o, none⟩) m c')) (hsz : Nat.blt 0 sz = true)
  (hm : ∀ p' c', Sw hp (.slc p c el sz n cs) (.slc p' c' el sz (n + m) (cs ++ news)) (hp' p' c'))
  (hs' : At hp G bb o news) (hln : news.length = m * sz) (h1 : ∀ u ∈ news, u.oneCell' = true)
  (h63 : n + m ≤ maxLen) (hb : (n + m) * by' ≤ 140737488355328) (hw : K5 ops env gd = some true)
  (k : ∀ p' c', E8 P Γ ops rest K ⟨(d, .slice p' (n + m) c') :: env, hp' p' c', G⟩) : E8 P Γ ops (⟨some d, .call ⟨.builtin .append, ⟨[x, y]⟩, ⟨[t, t]⟩⟩, ty, pos, af, gd⟩ :: rest) K ⟨env, hp, G⟩ :=
 I8 (A4N hd' hd hx hy hsz hm hs' hln h1 h63 hb) hw (by rintro _ ⟨p', c', rfl⟩; exact k p' c')

end rules2
section oneS
variable {P : Program} {Γ : K1} {env : K7} {hp : List A4} {G : IM} {K : Po} {ops : Array Oper} {ty : TypeId} {pos : String} {af : Array Edge} {gd : Option (Nat × Bool)}
theorem A4Q {H : List (Nat × Nat)} {fuel : Nat} {listed l' : List Bool} {j d : Nat} {op : Op} (hi : ops[j]? = some ⟨some d, op, ty, pos, af, gd⟩) (hw : K5 ops env gd = some false) (hd : Nat.blt d Γ.n = true) (hl : listed.set j true = l')
  (k : M8 P Γ ops K H fuel l' ⟨(d, undef) :: env, hp, G⟩) : U3 P Γ ops K H fuel listed j ⟨env, hp, G⟩ := by
 refine ⟨fun a w hs Hs hHs hall hdc hrd => ?_⟩
 unfold wpOp
 simp only [hi, A02 hs.env hw, Bool.false_eq_true, if_false]
 have hn : ∀ h ∈ Hn ops j Hs, w.heap[h.b]? = some h.o := fun x hx => hall x (List.mem_filter.1 hx).1
 refine ⟨hn, ?_⟩
 have := k.run _ w (hs.put d undef (by simpa using hd) hs.res) Hs hHs hall (by rw [← hl]; simpa using hdc.step hrd)
 rw [← hl] at this
 exact A3A _ (fun x hx => (List.mem_filter.1 hx).1) _ _ _ (by simpa using this)
end oneS
section oneM
variable {P : Program} {Γ : K1} {env : K7} {hp : List A4} {G : IM} {K : Po} {ops : Array Oper} {ty : TypeId} {pos : String} {af : Array Edge} {gd : Option (Nat × Bool)}
theorem A4R {H H' : List (Nat × Nat)} {fuel : Nat} {listed l' : List Bool} {j : Nat} {cs vs : List Value} {x y : Operand} {t : TypeId} {i : K3} [hI : H5 P t i] {bb o : Nat} {v : Value} {cs' : List Value} {hp' : List A4} (hi : ops[j]? = some ⟨none, .store t x y, ty, pos, af, gd⟩)
  (hx : evo env x = some (.pointer (some ⟨bb, o, none⟩))) (hy : evo env y = some v) (hv : v.cells = ⟨vs⟩) (hsz : vs.length = i.size) (h1 : vs.all (·.oneCell') = true)
  (hw : K5 ops env gd = some true) (hl : listed.set j true = l') (hsw : Sw hp (.blk bb cs) (.blk bb cs') hp') (hu : Q5 cs o vs = some cs')
  (hok : A8 ops j hp G (.blk bb cs) H H')
  (k : M8 P Γ ops K H' fuel l' ⟨env, hp', G⟩) : U3 P Γ ops K H fuel listed j ⟨env, hp, G⟩ :=
 A2V hi (A4G hx hy hv hsz h1 hu hsw rfl) hw hl (fun _ _ hs => by simpa [A4.fp] using hok.spec hs) hok.filter (by rintro _ rfl; exact k)
theorem oS {H H' : List (Nat × Nat)} {fuel : Nat} {listed l' : List Bool} {j : Nat} {cs vs : List Value} {x y : Operand} {t : TypeId} {i : K3} [hI : H5 P t i] {bb o : Nat} {v : Value} {cs' : List Value} {hp' : List A4} (hi : ops[j]? = some ⟨none, .store t x y, ty, pos, af, gd⟩)
 (hx : evo env x = some (.pointer (some ⟨bb, o, none⟩))) (hy : evo env y = some v) (hv : v.cells = ⟨vs⟩) (hsz : vs.length = i.size) (h1 : vs.all (·.oneCell') = true)
 (hw : K5 ops env gd = some true) (hl : listed.set j true = l')
 (k : M8 P Γ ops K H' fuel l' ⟨env, hp', G⟩) (hsw : Sw hp (.blk bb cs) (.blk bb cs') hp' := by repeat first | exact Sw.here | apply Sw.there) (hu : Q5 cs o vs = some cs' := by rfl)
 (hok : A8 ops j hp G (.blk bb cs) H H' := by repeat (first | exact A8.nil | apply A8.dep (by decide +kernel) | apply A8.im (by decide +kernel) (by assumption) (by repeat first | exact mH | apply mT) | apply A8.blk (by decide +kernel) (by repeat (first | exact Pk.here | apply Pk.there)) (by repeat first | exact mH | apply mT) | apply A8.slc (by decide +kernel) (by repeat (first | exact Pk.here | apply Pk.there)) (by repeat first | exact mH | apply mT))) : U3 P Γ ops K H fuel listed j ⟨env, hp, G⟩ :=
 A4R hi hx hy hv hsz h1 hw hl hsw hu hok k
theorem oT {H H' : List (Nat × Nat)} {fuel : Nat} {listed l' : List Bool} {j : Nat} {cs vs : List Value} {x y : Operand} {t : TypeId} {i : K3} [hI : H5 P t i] {bb o : Nat} {v : Value} {cs' : List Value} {hp' : List A4} [hl : A0R listed j l'] (hi : ops[j]? = some ⟨none, .store t x y, ty, pos, af, gd⟩)
 (hx : evo env x = some (.pointer (some ⟨bb, o, none⟩))) (hy : evo env y = some v) (hv : v.cells = ⟨vs⟩) (hsz : vs.length = i.size) (h1 : vs.all (·.oneCell') = true)
 (hw : K5 ops env gd = some true)
 (k : M8 P Γ ops K H' fuel l' ⟨env, hp', G⟩) (hsw : Sw hp (.blk bb cs) (.blk bb cs') hp' := by repeat first | exact Sw.here | apply Sw.there) (hu : Q5 cs o vs = some cs' := by rfl)
 (hok : A8 ops j hp G (.blk bb cs) H H' := by repeat (first | exact A8.nil | apply A8.dep (by decide +kernel) | apply A8.im (by decide +kernel) (by assumption) (by repeat first | exact mH | apply mT) | apply A8.blk (by decide +kernel) (by repeat (first | exact Pk.here | apply Pk.there)) (by repeat first | exact mH | apply mT) | apply A8.slc (by decide +kernel) (by repeat (first | exact Pk.here | apply Pk.there)) (by repeat first | exact mH | apply mT))) : U3 P Γ ops K H fuel listed j ⟨env, hp, G⟩ :=
 A4R hi hx hy hv hsz h1 hw hl.h hsw hu hok k
theorem H6 {H H' : List (Nat × Nat)} {fuel : Nat} {listed l' : List Bool} {j : Nat} {cs vs : List Value} {x y : Operand} {t : TypeId} {i : K3} [hI : H5 P t i] {bb o : Nat} {v : Value} {cs' : List Value} {hp' : List A4} [hl : A0R listed j l']
 (hi : ops[j]? = some ⟨none, .store t x y, ty, pos, af, gd⟩) (k : M8 P Γ ops K H' fuel l' ⟨env, hp', G⟩)
 (hx : evo env x = some (.pointer (some ⟨bb, o, none⟩)) := by rfl) (hy : evo env y = some v := by rfl) (hv : v.cells = ⟨vs⟩ := by rfl) (hsz : vs.length = i.size := by rfl) (h1 : vs.all (·.oneCell') = true := by rfl)
 (hw : K5 ops env gd = some true := by rfl) (hsw : Sw hp (.blk bb cs) (.blk bb cs') hp' := by repeat first | exact Sw.here | apply Sw.there) (hu : Q5 cs o vs = some cs' := by rfl)
 (hok : A8 ops j hp G (.blk bb cs) H H' := by repeat (first | exact A8.nil | apply A8.dep (by decide +kernel) | apply A8.im (by decide +kernel) (by assumption) (by repeat first | exact mH | apply mT) | apply A8.blk (by decide +kernel) (by repeat (first | exact Pk.here | apply Pk.there)) (by repeat first | exact mH | apply mT) | apply A8.slc (by decide +kernel) (by repeat (first | exact Pk.here | apply Pk.there)) (by repeat first | exact mH | apply mT))) : U3 P Γ ops K H fuel listed j ⟨env, hp, G⟩ :=
 A4R hi hx hy hv hsz h1 hw hl.h hsw hu hok k
end oneM

def Wo (G : IM) (F : List Nat) : IM := fun b => if b ∈ F then none else G b
def A0S (bs : List (Nat × List Value)) : List A4 := bs.map fun p => .blk p.1 p.2
theorem A2W : ∀ bs : List (Nat × List Value), Fp (A0S bs) = bs.map Prod.fst
 | [] => rfl
 | p :: bs => by
  show (A4.blk p.1 p.2).fp ++ Fp (A0S bs) = _
  rw [A2W bs]; rfl
theorem B0z {bs : List (Nat × List Value)} {p : Nat × List Value} (h : p ∈ bs) : A4.blk p.1 p.2 ∈ A0S bs := List.mem_map.2 ⟨p, h, rfl⟩

def Wi (G : IM) (bs : List (Nat × List Value)) : IM := fun b => match bs.lookup b with | some l => some l | none => G b
theorem B0A {bs : List (Nat × List Value)} (hn : (bs.map Prod.fst).Nodup) {p : Nat × List Value} (h : p ∈ bs) : bs.lookup p.1 = some p.2 := by
 induction bs with
 | nil => cases h
 | cons q bs ih =>
  obtain ⟨k, v⟩ := q
  simp only [List.map_cons, List.nodup_cons] at hn
  rcases List.mem_cons.1 h with rfl | h
  ·simp [List.lookup]
  ·have hne : p.1 ≠ k := by
    intro he; exact hn.1 (List.mem_map.2 ⟨p, h, he⟩)
   simp only [List.lookup]
   rw [show (p.1 == k) = false from beq_eq_false_iff_ne.2 hne]
   exact ih hn.2 h
theorem A6G {bs : List (Nat × List Value)} {b : Nat} {l : List Value} (h : bs.lookup b = some l) : (b, l) ∈ bs := by
 induction bs with
 | nil => simp [List.lookup] at h
 | cons q bs ih =>
  obtain ⟨k, v⟩ := q
  simp only [List.lookup] at h
  split at h
  ·rename_i he
   have : b = k := by simpa using he
   cases h; rw [this]; exact List.mem_cons_self
  ·exact List.mem_cons_of_mem _ (ih h)
theorem Wi.get {G : IM} {bs : List (Nat × List Value)} {b : Nat} {l : List Value} (h : Wi G bs b = some l) : (b, l) ∈ bs ∨ G b = some l := by
 unfold Wi at h
 split at h
 ·rename_i l' hl; cases h; exact .inl (A6G hl)
 ·exact .inr h
theorem Wi.in {G : IM} {bs : List (Nat × List Value)} (hn : (bs.map Prod.fst).Nodup) {p : Nat × List Value} (h : p ∈ bs) : Wi G bs p.1 = some p.2 := by
 unfold Wi; rw [B0A hn h]
theorem Wi.le {G : IM} {bs : List (Nat × List Value)} (h : ∀ p ∈ bs, G p.1 = none) : B1 G (Wi G bs) := by
 intro b l hb
 unfold Wi
 split
 ·rename_i l' hl
  have := h _ (A6G hl)
  rw [show ((b, l') : Nat × List Value).1 = b from rfl, hb] at this; cases this
 ·exact hb

theorem B0B {w : World} {G : IM} {bs : List (Nat × List Value)} (hown : R5 (A0S bs) G w) (hz : ∀ p ∈ bs, ∃ e, w.heap[p.1]? = some (.cells p.2.toArray e (0, 0))) :
  Q4 (A0S bs) G w [] (Wi G bs) w := by
 have hd : ∀ p ∈ bs, G p.1 = none := fun p hp => hown.disj p.1 (by rw [A2W]; exact List.mem_map_of_mem hp)
 refine ⟨⟨?_, by simp, by simp [Fp], by simp [Fp]⟩, Ext.refl _ _, Wi.le hd, ?_, by simp [Fp], ?_⟩
 ·intro b l hb
  rcases Wi.get hb with h | h
  ·obtain ⟨e, he⟩ := hz _ h; exact ⟨e, _, he⟩
  ·exact hown.inn b l h
 ·intro b l hb
  rcases Wi.get hb with h | h
  ·right; right; rw [A2W]; exact List.mem_map.2 ⟨_, h, rfl⟩
  ·exact .inl h
 ·intro b l hb h0
  rcases Wi.get hb with h | h
  ·exact hz _ h
  ·rw [h0] at h; cases h

section rules3
variable {P : Program} {Γ : K1} {env : K7} {hp : List A4} {G : IM} {K : Po} {ops : Array Oper} {rest : List Oper}

theorem St.freezes {a : Act} {w : World} {bs : List (Nat × List Value)} {hp' : List A4} (hs : St Γ ⟨env, hp, G⟩ a w) (p : hp.Perm (A0S bs ++ hp')) :
  St Γ ⟨env, hp', Wi G bs⟩ a w ∧ (bs.map Prod.fst).Nodup ∧ ∀ q ∈ bs, G q.1 = none := by
 have hown : R5 (A0S bs) G w := (hs.res.own.perm p).left
 have hr := B0B hown fun q hq => hown.ok _ (B0z hq)
 refine ⟨⟨hs.size, hs.nod, hs.env, by have := (hs.res.perm p).frame hr; simpa using this⟩, by have := hown.nodup; rwa [A2W] at this, fun q hq => hown.disj q.1 (by rw [A2W]; exact List.mem_map_of_mem hq)⟩
theorem A2X {cd : Code} {bs : List (Nat × List Value)} {hp' : List A4} (p : hp.Perm (A0S bs ++ hp'))
  (h : (bs.map Prod.fst).Nodup → (∀ q ∈ bs, G q.1 = none) → B1 G (Wi G bs) → J1 P Γ cd K ⟨env, hp', Wi G bs⟩) : J1 P Γ cd K ⟨env, hp, G⟩ :=
 ⟨fun a w hs => let ⟨h1, h2, h3⟩ := hs.freezes p; (h h2 h3 (Wi.le h3)).run a w h1⟩
theorem B0C {bs : List (Nat × List Value)} {hp' : List A4} (p : hp.Perm (A0S bs ++ hp'))
  (h : (bs.map Prod.fst).Nodup → (∀ q ∈ bs, G q.1 = none) → B1 G (Wi G bs) → E8 P Γ ops rest K ⟨env, hp', Wi G bs⟩) : E8 P Γ ops rest K ⟨env, hp, G⟩ :=
 ⟨fun a w hs => let ⟨h1, h2, h3⟩ := hs.freezes p; (h h2 h3 (Wi.le h3)).run a w h1⟩
end rules3
end Gw
end Go.Proofs.YtipblncpnffmbaaGreatDoor
namespace Go.Proofs.YtipblncpnffmbaaGreatDoor
open Go
namespace Gw
theorem A0b {P : Program} {t : TypeId} {n b : Nat} {zs : List Value} {d : TypeDesc} (h : (P.info? t).map (fun i => (i.size, i.bytes, i.zero.map Value.cells)) = some (n, b, some ⟨zs⟩)) (hu : P.underlying t = some d) : H5 P t ⟨n, b, zs, d⟩ := by
 refine ⟨?_, hu⟩
 cases hi : P.info? t with
 | none => simp [hi] at h
 | some i =>
  simp only [hi, Option.map_some, Option.some.injEq, Prod.mk.injEq] at h
  obtain ⟨h1, h2, h3⟩ := h
  cases hz : i.zero with
  | none => simp [hz] at h3
  | some z => simp only [hz, Option.map_some, Option.some.injEq] at h3; exact ⟨i, rfl, h1, h2, z, hz, h3⟩
theorem A0j {P : Program} {s f off sz : Nat} {ft : TypeId} {ag : Bool} {fs : Array Field} {d : TypeDesc} {r : K3} (hI : H5 P ft r) (hs : P.underlying s = some (.struct fs)) (hf : (fs[f]?).map (fun x => (x.offset, x.type)) = some (off, ft)) (h1 : r.size = sz) (h2 : sz ≠ 0) (h3 : r.desc = d) (h4 : A1n d = ag) : Y2 P s f off sz ag := by
 cases hx : fs[f]? with
 | none => simp [hx] at hf
 | some x =>
  simp [hx] at hf
  obtain ⟨rfl, rfl⟩ := hf
  obtain ⟨inf, g1, g2, _⟩ := hI.info
  exact ⟨fs, x, d, inf, hs, hx, rfl, g1, by rw [g2, h1], h2, by rw [← h3]; exact hI.und, h4⟩
theorem C0 {P : Program} {f : Nat} {fn : Func} (h : P.funcs[f]? = some fn) (h1 : fn.body.isNone = false) (h2 : (fn.name == "runtime.NumGoroutine") = false) : B2 P f := ⟨fn, h, h1, h2⟩
instance ty3 : H5 Tryz.prog 3 ⟨1, 8, [.int .i64 0], (TypeDesc.int IntKind.i64)⟩ := A0b (by kernel_rfl) Tryz.underlying3
instance ty4 : H5 Tryz.prog 4 ⟨1, 1, [.bool false], TypeDesc.bool⟩ := A0b (by kernel_rfl) Tryz.underlying4
instance ty5 : H5 Tryz.prog 5 ⟨1, 1, [.int .u8 0], (TypeDesc.int IntKind.u8)⟩ := A0b (by kernel_rfl) Tryz.underlying5
instance ty9 : H5 Tryz.prog 9 ⟨1, 16, [.string ByteArray.empty], TypeDesc.string⟩ := A0b (by kernel_rfl) Tryz.underlying9
instance ty22 : H5 Tryz.prog 22 ⟨1, 24, [.slice none 0 0], (TypeDesc.slice 5)⟩ := A0b (by kernel_rfl) Tryz.underlying22
instance ty23 : H5 Tryz.prog 23 ⟨1, 24, [.slice none 0 0], (TypeDesc.slice 25)⟩ := A0b (by kernel_rfl) Tryz.underlying23
instance ty25 : H5 Tryz.prog 25 ⟨2, 32, [.int .i64 0, .slice none 0 0], (TypeDesc.struct #[{ name := "Kind", type := 3, offset := 0, embedded := false, tag := "", pkgPath := "", byteOffset := 0 }, { name := "Kids", type := 23, offset := 1, embedded := false, tag := "", pkgPath := "", byteOffset := 8 }])⟩ := A0b (by kernel_rfl) Tryz.underlying25
instance ty26 : H5 Tryz.prog 26 ⟨1, 24, [.slice none 0 0], (TypeDesc.slice 28)⟩ := A0b (by kernel_rfl) Tryz.underlying26
instance ty28 : H5 Tryz.prog 28 ⟨9, 128, [.int .i64 0, .string ByteArray.empty, .int .i64 0, .int .i64 0, .slice none 0 0, .int .i64 0, .slice none 0 0, .int .i64 0, .slice none 0 0], (TypeDesc.struct #[{ name := "Kind", type := 3, offset := 0, embedded := false, tag := "", pkgPath := "", byteOffset := 0 }, { name := "Name", type := 9, offset := 1, embedded := false, tag := "", pkgPath := "", byteOffset := 8 }, { name := "Num", type := 3, offset := 2, embedded := false, tag := "", pkgPath := "", byteOffset := 24 }, { name := "Type", type := 25, offset := 3, embedded := false, tag := "", pkgPath := "", byteOffset := 32 }, { name := "From", type := 25, offset := 5, embedded := false, tag := "", pkgPath := "", byteOffset := 64 }, { name := "Label", type := 3, offset := 7, embedded := false, tag := "", pkgPath := "", byteOffset := 96 }, { name := "Kids", type := 26, offset := 8, embedded := false, tag := "", pkgPath := "", byteOffset := 104 }])⟩ := A0b (by kernel_rfl) Tryz.underlying28
instance ty64 : H5 Tryz.prog 64 ⟨1, 8, [.int .i64 0], (TypeDesc.struct #[{ name := "label", type := 3, offset := 0, embedded := false, tag := "", pkgPath := "loop.example/gradual/impl", byteOffset := 0 }])⟩ := A0b (by kernel_rfl) Tryz.underlying64
instance ty71 : H5 Tryz.prog 71 ⟨2, 32, [.slice none 0 0, .int .i64 0], (TypeDesc.struct #[{ name := "b", type := 22, offset := 0, embedded := false, tag := "", pkgPath := "loop.example/gradual/spec", byteOffset := 0 }, { name := "p", type := 3, offset := 1, embedded := false, tag := "", pkgPath := "loop.example/gradual/spec", byteOffset := 24 }])⟩ := A0b (by kernel_rfl) Tryz.underlying71
instance ty74 : H5 Tryz.prog 74 ⟨1, 24, [.slice none 0 0], (TypeDesc.slice 3)⟩ := A0b (by kernel_rfl) Tryz.underlying74
instance ty76 : H5 Tryz.prog 76 ⟨1, 24, [.slice none 0 0], (TypeDesc.slice 9)⟩ := A0b (by kernel_rfl) Tryz.underlying76
instance ty84 : H5 Tryz.prog 84 ⟨1, 24, [.slice none 0 0], (TypeDesc.slice 97)⟩ := A0b (by kernel_rfl) Tryz.underlying84
instance ty97 : H5 Tryz.prog 97 ⟨3, 48, [.string ByteArray.empty, .int .i64 0, .slice none 0 0], (TypeDesc.struct #[{ name := "Name", type := 9, offset := 0, embedded := false, tag := "", pkgPath := "", byteOffset := 0 }, { name := "Type", type := 25, offset := 1, embedded := false, tag := "", pkgPath := "", byteOffset := 16 }])⟩ := A0b (by kernel_rfl) Tryz.underlying97
instance tz3 : V5 Tryz.prog 3 1 8 [.int .i64 0] := ⟨⟨_, ty3⟩, rfl⟩
instance tz5 : V5 Tryz.prog 5 1 1 [.int .u8 0] := ⟨⟨_, ty5⟩, rfl⟩
instance tz9 : V5 Tryz.prog 9 1 16 [.string ByteArray.empty] := ⟨⟨_, ty9⟩, rfl⟩
instance tz25 : V5 Tryz.prog 25 2 32 [.int .i64 0, .slice none 0 0] := ⟨⟨_, ty25⟩, rfl⟩
instance tz28 : V5 Tryz.prog 28 9 128 [.int .i64 0, .string ByteArray.empty, .int .i64 0, .int .i64 0, .slice none 0 0, .int .i64 0, .slice none 0 0, .int .i64 0, .slice none 0 0] := ⟨⟨_, ty28⟩, rfl⟩
instance tz97 : V5 Tryz.prog 97 3 48 [.string ByteArray.empty, .int .i64 0, .slice none 0 0] := ⟨⟨_, ty97⟩, rfl⟩
instance fd25_0 : Y2 Tryz.prog 25 0 0 1 false := A0j ty3 Tryz.underlying25 rfl rfl (by decide) rfl rfl
instance fd25_1 : Y2 Tryz.prog 25 1 1 1 false := A0j ty23 Tryz.underlying25 rfl rfl (by decide) rfl rfl
instance fd28_0 : Y2 Tryz.prog 28 0 0 1 false := A0j ty3 Tryz.underlying28 rfl rfl (by decide) rfl rfl
instance fd28_1 : Y2 Tryz.prog 28 1 1 1 false := A0j ty9 Tryz.underlying28 rfl rfl (by decide) rfl rfl
instance fd28_2 : Y2 Tryz.prog 28 2 2 1 false := A0j ty3 Tryz.underlying28 rfl rfl (by decide) rfl rfl
instance fd28_3 : Y2 Tryz.prog 28 3 3 2 true := A0j ty25 Tryz.underlying28 rfl rfl (by decide) rfl rfl
instance fd28_4 : Y2 Tryz.prog 28 4 5 2 true := A0j ty25 Tryz.underlying28 rfl rfl (by decide) rfl rfl
instance fd28_5 : Y2 Tryz.prog 28 5 7 1 false := A0j ty3 Tryz.underlying28 rfl rfl (by decide) rfl rfl
instance fd28_6 : Y2 Tryz.prog 28 6 8 1 false := A0j ty26 Tryz.underlying28 rfl rfl (by decide) rfl rfl
instance fd64_0 : Y2 Tryz.prog 64 0 0 1 false := A0j ty3 Tryz.underlying64 rfl rfl (by decide) rfl rfl
instance fd71_0 : Y2 Tryz.prog 71 0 0 1 false := A0j ty22 Tryz.underlying71 rfl rfl (by decide) rfl rfl
instance fd71_1 : Y2 Tryz.prog 71 1 1 1 false := A0j ty3 Tryz.underlying71 rfl rfl (by decide) rfl rfl
instance fd97_0 : Y2 Tryz.prog 97 0 0 1 false := A0j ty9 Tryz.underlying97 rfl rfl (by decide) rfl rfl
instance fd97_1 : Y2 Tryz.prog 97 1 1 2 true := A0j ty25 Tryz.underlying97 rfl rfl (by decide) rfl rfl
instance fn4 : B2 Tryz.prog 4 := C0 Tryz.func4 (by kernel_rfl) (by kernel_rfl)
instance fn5 : B2 Tryz.prog 5 := C0 Tryz.func5 (by kernel_rfl) (by kernel_rfl)
instance fn6 : B2 Tryz.prog 6 := C0 Tryz.func6 (by kernel_rfl) (by kernel_rfl)
instance fn7 : B2 Tryz.prog 7 := C0 Tryz.func7 (by kernel_rfl) (by kernel_rfl)
instance fn8 : B2 Tryz.prog 8 := C0 Tryz.func8 (by kernel_rfl) (by kernel_rfl)
instance fn9 : B2 Tryz.prog 9 := C0 Tryz.func9 (by kernel_rfl) (by kernel_rfl)
instance fn10 : B2 Tryz.prog 10 := C0 Tryz.func10 (by kernel_rfl) (by kernel_rfl)
instance fn11 : B2 Tryz.prog 11 := C0 Tryz.func11 (by kernel_rfl) (by kernel_rfl)
instance fn12 : B2 Tryz.prog 12 := C0 Tryz.func12 (by kernel_rfl) (by kernel_rfl)
instance fn13 : B2 Tryz.prog 13 := C0 Tryz.func13 (by kernel_rfl) (by kernel_rfl)
instance fn14 : B2 Tryz.prog 14 := C0 Tryz.func14 (by kernel_rfl) (by kernel_rfl)
instance fn15 : B2 Tryz.prog 15 := C0 Tryz.func15 (by kernel_rfl) (by kernel_rfl)
instance fn16 : B2 Tryz.prog 16 := C0 Tryz.func16 (by kernel_rfl) (by kernel_rfl)
instance fn17 : B2 Tryz.prog 17 := C0 Tryz.func17 (by kernel_rfl) (by kernel_rfl)
instance fn18 : B2 Tryz.prog 18 := C0 Tryz.func18 (by kernel_rfl) (by kernel_rfl)
instance fn19 : B2 Tryz.prog 19 := C0 Tryz.func19 (by kernel_rfl) (by kernel_rfl)
instance fn20 : B2 Tryz.prog 20 := C0 Tryz.func20 (by kernel_rfl) (by kernel_rfl)
instance fn21 : B2 Tryz.prog 21 := C0 Tryz.func21 (by kernel_rfl) (by kernel_rfl)
instance fn22 : B2 Tryz.prog 22 := C0 Tryz.func22 (by kernel_rfl) (by kernel_rfl)
instance fn23 : B2 Tryz.prog 23 := C0 Tryz.func23 (by kernel_rfl) (by kernel_rfl)
instance fn24 : B2 Tryz.prog 24 := C0 Tryz.func24 (by kernel_rfl) (by kernel_rfl)
instance fn25 : B2 Tryz.prog 25 := C0 Tryz.func25 (by kernel_rfl) (by kernel_rfl)
instance fn26 : B2 Tryz.prog 26 := C0 Tryz.func26 (by kernel_rfl) (by kernel_rfl)
instance fn27 : B2 Tryz.prog 27 := C0 Tryz.func27 (by kernel_rfl) (by kernel_rfl)
instance fn28 : B2 Tryz.prog 28 := C0 Tryz.func28 (by kernel_rfl) (by kernel_rfl)
instance fn29 : B2 Tryz.prog 29 := C0 Tryz.func29 (by kernel_rfl) (by kernel_rfl)
instance fn30 : B2 Tryz.prog 30 := C0 Tryz.func30 (by kernel_rfl) (by kernel_rfl)
instance fn31 : B2 Tryz.prog 31 := C0 Tryz.func31 (by kernel_rfl) (by kernel_rfl)
instance fn32 : B2 Tryz.prog 32 := C0 Tryz.func32 (by kernel_rfl) (by kernel_rfl)
instance fn33 : B2 Tryz.prog 33 := C0 Tryz.func33 (by kernel_rfl) (by kernel_rfl)
instance fn34 : B2 Tryz.prog 34 := C0 Tryz.func34 (by kernel_rfl) (by kernel_rfl)
instance fn35 : B2 Tryz.prog 35 := C0 Tryz.func35 (by kernel_rfl) (by kernel_rfl)
instance fn36 : B2 Tryz.prog 36 := C0 Tryz.func36 (by kernel_rfl) (by kernel_rfl)
instance fn37 : B2 Tryz.prog 37 := C0 Tryz.func37 (by kernel_rfl) (by kernel_rfl)
instance fn38 : B2 Tryz.prog 38 := C0 Tryz.func38 (by kernel_rfl) (by kernel_rfl)
instance fn39 : B2 Tryz.prog 39 := C0 Tryz.func39 (by kernel_rfl) (by kernel_rfl)
instance fn40 : B2 Tryz.prog 40 := C0 Tryz.func40 (by kernel_rfl) (by kernel_rfl)
instance fn41 : B2 Tryz.prog 41 := C0 Tryz.func41 (by kernel_rfl) (by kernel_rfl)
instance fn42 : B2 Tryz.prog 42 := C0 Tryz.func42 (by kernel_rfl) (by kernel_rfl)
instance fn43 : B2 Tryz.prog 43 := C0 Tryz.func43 (by kernel_rfl) (by kernel_rfl)
instance fn44 : B2 Tryz.prog 44 := C0 Tryz.func44 (by kernel_rfl) (by kernel_rfl)
instance fn45 : B2 Tryz.prog 45 := C0 Tryz.func45 (by kernel_rfl) (by kernel_rfl)
instance fn46 : B2 Tryz.prog 46 := C0 Tryz.func46 (by kernel_rfl) (by kernel_rfl)
instance fn47 : B2 Tryz.prog 47 := C0 Tryz.func47 (by kernel_rfl) (by kernel_rfl)
instance fn48 : B2 Tryz.prog 48 := C0 Tryz.func48 (by kernel_rfl) (by kernel_rfl)
instance fn49 : B2 Tryz.prog 49 := C0 Tryz.func49 (by kernel_rfl) (by kernel_rfl)
instance fn50 : B2 Tryz.prog 50 := C0 Tryz.func50 (by kernel_rfl) (by kernel_rfl)
instance fn51 : B2 Tryz.prog 51 := C0 Tryz.func51 (by kernel_rfl) (by kernel_rfl)
instance fn52 : B2 Tryz.prog 52 := C0 Tryz.func52 (by kernel_rfl) (by kernel_rfl)
instance fn53 : B2 Tryz.prog 53 := C0 Tryz.func53 (by kernel_rfl) (by kernel_rfl)
instance fn54 : B2 Tryz.prog 54 := C0 Tryz.func54 (by kernel_rfl) (by kernel_rfl)
instance fn55 : B2 Tryz.prog 55 := C0 Tryz.func55 (by kernel_rfl) (by kernel_rfl)
instance fn56 : B2 Tryz.prog 56 := C0 Tryz.func56 (by kernel_rfl) (by kernel_rfl)
instance fn57 : B2 Tryz.prog 57 := C0 Tryz.func57 (by kernel_rfl) (by kernel_rfl)
instance fn58 : B2 Tryz.prog 58 := C0 Tryz.func58 (by kernel_rfl) (by kernel_rfl)
instance fn59 : B2 Tryz.prog 59 := C0 Tryz.func59 (by kernel_rfl) (by kernel_rfl)
instance fn60 : B2 Tryz.prog 60 := C0 Tryz.func60 (by kernel_rfl) (by kernel_rfl)
instance fn61 : B2 Tryz.prog 61 := C0 Tryz.func61 (by kernel_rfl) (by kernel_rfl)
instance fn62 : B2 Tryz.prog 62 := C0 Tryz.func62 (by kernel_rfl) (by kernel_rfl)
instance fn63 : B2 Tryz.prog 63 := C0 Tryz.func63 (by kernel_rfl) (by kernel_rfl)
instance fn64 : B2 Tryz.prog 64 := C0 Tryz.func64 (by kernel_rfl) (by kernel_rfl)
instance fn65 : B2 Tryz.prog 65 := C0 Tryz.func65 (by kernel_rfl) (by kernel_rfl)
instance fn66 : B2 Tryz.prog 66 := C0 Tryz.func66 (by kernel_rfl) (by kernel_rfl)
instance fn67 : B2 Tryz.prog 67 := C0 Tryz.func67 (by kernel_rfl) (by kernel_rfl)
instance fn68 : B2 Tryz.prog 68 := C0 Tryz.func68 (by kernel_rfl) (by kernel_rfl)
instance fn69 : B2 Tryz.prog 69 := C0 Tryz.func69 (by kernel_rfl) (by kernel_rfl)
instance fn70 : B2 Tryz.prog 70 := C0 Tryz.func70 (by kernel_rfl) (by kernel_rfl)
instance fn71 : B2 Tryz.prog 71 := C0 Tryz.func71 (by kernel_rfl) (by kernel_rfl)
instance fn72 : B2 Tryz.prog 72 := C0 Tryz.func72 (by kernel_rfl) (by kernel_rfl)
instance fn73 : B2 Tryz.prog 73 := C0 Tryz.func73 (by kernel_rfl) (by kernel_rfl)
instance fn74 : B2 Tryz.prog 74 := C0 Tryz.func74 (by kernel_rfl) (by kernel_rfl)
instance fn75 : B2 Tryz.prog 75 := C0 Tryz.func75 (by kernel_rfl) (by kernel_rfl)
instance fn76 : B2 Tryz.prog 76 := C0 Tryz.func76 (by kernel_rfl) (by kernel_rfl)
instance fn77 : B2 Tryz.prog 77 := C0 Tryz.func77 (by kernel_rfl) (by kernel_rfl)
instance fn78 : B2 Tryz.prog 78 := C0 Tryz.func78 (by kernel_rfl) (by kernel_rfl)
instance fn80 : B2 Tryz.prog 80 := C0 Tryz.func80 (by kernel_rfl) (by kernel_rfl)
instance fn82 : B2 Tryz.prog 82 := C0 Tryz.func82 (by kernel_rfl) (by kernel_rfl)
instance fn83 : B2 Tryz.prog 83 := C0 Tryz.func83 (by kernel_rfl) (by kernel_rfl)
instance fn84 : B2 Tryz.prog 84 := C0 Tryz.func84 (by kernel_rfl) (by kernel_rfl)
instance fn85 : B2 Tryz.prog 85 := C0 Tryz.func85 (by kernel_rfl) (by kernel_rfl)
instance fn86 : B2 Tryz.prog 86 := C0 Tryz.func86 (by kernel_rfl) (by kernel_rfl)
instance fn87 : B2 Tryz.prog 87 := C0 Tryz.func87 (by kernel_rfl) (by kernel_rfl)
instance fn88 : B2 Tryz.prog 88 := C0 Tryz.func88 (by kernel_rfl) (by kernel_rfl)
instance fn89 : B2 Tryz.prog 89 := C0 Tryz.func89 (by kernel_rfl) (by kernel_rfl)
instance fn91 : B2 Tryz.prog 91 := C0 Tryz.func91 (by kernel_rfl) (by kernel_rfl)
instance fn92 : B2 Tryz.prog 92 := C0 Tryz.func92 (by kernel_rfl) (by kernel_rfl)
instance fn93 : B2 Tryz.prog 93 := C0 Tryz.func93 (by kernel_rfl) (by kernel_rfl)
instance fn94 : B2 Tryz.prog 94 := C0 Tryz.func94 (by kernel_rfl) (by kernel_rfl)
instance fn95 : B2 Tryz.prog 95 := C0 Tryz.func95 (by kernel_rfl) (by kernel_rfl)
instance fn96 : B2 Tryz.prog 96 := C0 Tryz.func96 (by kernel_rfl) (by kernel_rfl)
instance fn97 : B2 Tryz.prog 97 := C0 Tryz.func97 (by kernel_rfl) (by kernel_rfl)
instance fn98 : B2 Tryz.prog 98 := C0 Tryz.func98 (by kernel_rfl) (by kernel_rfl)
instance fn99 : B2 Tryz.prog 99 := C0 Tryz.func99 (by kernel_rfl) (by kernel_rfl)
instance fn100 : B2 Tryz.prog 100 := C0 Tryz.func100 (by kernel_rfl) (by kernel_rfl)
instance fn101 : B2 Tryz.prog 101 := C0 Tryz.func101 (by kernel_rfl) (by kernel_rfl)
instance fn102 : B2 Tryz.prog 102 := C0 Tryz.func102 (by kernel_rfl) (by kernel_rfl)
instance fn103 : B2 Tryz.prog 103 := C0 Tryz.func103 (by kernel_rfl) (by kernel_rfl)
instance fn104 : B2 Tryz.prog 104 := C0 Tryz.func104 (by kernel_rfl) (by kernel_rfl)
instance fn105 : B2 Tryz.prog 105 := C0 Tryz.func105 (by kernel_rfl) (by kernel_rfl)
instance fn106 : B2 Tryz.prog 106 := C0 Tryz.func106 (by kernel_rfl) (by kernel_rfl)
instance fn107 : B2 Tryz.prog 107 := C0 Tryz.func107 (by kernel_rfl) (by kernel_rfl)
instance fn108 : B2 Tryz.prog 108 := C0 Tryz.func108 (by kernel_rfl) (by kernel_rfl)
instance fn109 : B2 Tryz.prog 109 := C0 Tryz.func109 (by kernel_rfl) (by kernel_rfl)
instance fn110 : B2 Tryz.prog 110 := C0 Tryz.func110 (by kernel_rfl) (by kernel_rfl)
instance fn111 : B2 Tryz.prog 111 := C0 Tryz.func111 (by kernel_rfl) (by kernel_rfl)
instance fn114 : B2 Tryz.prog 114 := C0 Tryz.func114 (by kernel_rfl) (by kernel_rfl)
instance fn115 : B2 Tryz.prog 115 := C0 Tryz.func115 (by kernel_rfl) (by kernel_rfl)
instance fn116 : B2 Tryz.prog 116 := C0 Tryz.func116 (by kernel_rfl) (by kernel_rfl)
instance fn117 : B2 Tryz.prog 117 := C0 Tryz.func117 (by kernel_rfl) (by kernel_rfl)
instance fn118 : B2 Tryz.prog 118 := C0 Tryz.func118 (by kernel_rfl) (by kernel_rfl)
instance fn119 : B2 Tryz.prog 119 := C0 Tryz.func119 (by kernel_rfl) (by kernel_rfl)
instance fn120 : B2 Tryz.prog 120 := C0 Tryz.func120 (by kernel_rfl) (by kernel_rfl)
instance fn121 : B2 Tryz.prog 121 := C0 Tryz.func121 (by kernel_rfl) (by kernel_rfl)
instance fn122 : B2 Tryz.prog 122 := C0 Tryz.func122 (by kernel_rfl) (by kernel_rfl)
instance fn123 : B2 Tryz.prog 123 := C0 Tryz.func123 (by kernel_rfl) (by kernel_rfl)
instance fn124 : B2 Tryz.prog 124 := C0 Tryz.func124 (by kernel_rfl) (by kernel_rfl)
instance fn125 : B2 Tryz.prog 125 := C0 Tryz.func125 (by kernel_rfl) (by kernel_rfl)
instance fn126 : B2 Tryz.prog 126 := C0 Tryz.func126 (by kernel_rfl) (by kernel_rfl)
instance fn127 : B2 Tryz.prog 127 := C0 Tryz.func127 (by kernel_rfl) (by kernel_rfl)
instance fn128 : B2 Tryz.prog 128 := C0 Tryz.func128 (by kernel_rfl) (by kernel_rfl)
instance fn129 : B2 Tryz.prog 129 := C0 Tryz.func129 (by kernel_rfl) (by kernel_rfl)
instance fn130 : B2 Tryz.prog 130 := C0 Tryz.func130 (by kernel_rfl) (by kernel_rfl)
instance fn131 : B2 Tryz.prog 131 := C0 Tryz.func131 (by kernel_rfl) (by kernel_rfl)
instance fn132 : B2 Tryz.prog 132 := C0 Tryz.func132 (by kernel_rfl) (by kernel_rfl)
instance fn134 : B2 Tryz.prog 134 := C0 Tryz.func134 (by kernel_rfl) (by kernel_rfl)
instance fn135 : B2 Tryz.prog 135 := C0 Tryz.func135 (by kernel_rfl) (by kernel_rfl)
instance fn136 : B2 Tryz.prog 136 := C0 Tryz.func136 (by kernel_rfl) (by kernel_rfl)
instance fn137 : B2 Tryz.prog 137 := C0 Tryz.func137 (by kernel_rfl) (by kernel_rfl)
instance fn138 : B2 Tryz.prog 138 := C0 Tryz.func138 (by kernel_rfl) (by kernel_rfl)
instance fn139 : B2 Tryz.prog 139 := C0 Tryz.func139 (by kernel_rfl) (by kernel_rfl)
instance fn140 : B2 Tryz.prog 140 := C0 Tryz.func140 (by kernel_rfl) (by kernel_rfl)
instance pl25 : A1W Tryz.prog 25 [(0, 1), (1, 1)] := A2T Tryz.underlying25 (by kernel_rfl) (by kernel_rfl)
instance pl28 : A1W Tryz.prog 28 [(0, 1), (1, 1), (2, 1), (3, 2), (5, 2), (7, 1), (8, 1)] := A2T Tryz.underlying28 (by kernel_rfl) (by kernel_rfl)
instance pl64 : A1W Tryz.prog 64 [(0, 1)] := A2T Tryz.underlying64 (by kernel_rfl) (by kernel_rfl)
instance pl71 : A1W Tryz.prog 71 [(0, 1), (1, 1)] := A2T Tryz.underlying71 (by kernel_rfl) (by kernel_rfl)
instance pl97 : A1W Tryz.prog 97 [(0, 1), (1, 2)] := A2T Tryz.underlying97 (by kernel_rfl) (by kernel_rfl)
theorem E7 : Tryz.prog.follows .mixedOrders = true := by kernel_rfl

structure B9 (G : IM) (p : Option Addr) (n c sz : Nat) (es : List (List Value)) : Prop where
 sl : Sl G p n c sz es.flatten
 len : es.length = n
 all : ∀ e ∈ es, e.length = sz
 one : ∀ e ∈ es, e.all (·.oneCell') = true

theorem B9.mono {G G' : IM} {p : Option Addr} {n c sz : Nat} {es : List (List Value)} (h : B9 G p n c sz es) (hg : B1 G G') : B9 G' p n c sz es := ⟨h.sl.mono hg, h.len, h.all, h.one⟩
theorem B9.nil (G : IM) (sz : Nat) : B9 G none 0 0 sz [] := ⟨Sl.nil G sz, rfl, by simp, by simp⟩

theorem A4S {sz : Nat} : ∀ {es : List (List Value)}, (∀ e ∈ es, e.length = sz) → ∀ {i : Nat} {e : List Value}, es[i]? = some e → ∀ j v, e[j]? = some v → es.flatten[i * sz + j]? = some v
 | [], _, i, e, h, _, _, _ => by simp at h
 | a :: r, hall, 0, e, h, j, v, hv => by
  simp at h; subst h
  have : j < a.length := (List.getElem?_eq_some_iff.1 hv).1
  simp [List.getElem?_append, this]
  simpa [List.getElem?_eq_getElem this] using hv
 | a :: r, hall, i + 1, e, h, j, v, hv => by
  have ih := A4S (es := r) (fun x hx => hall x (List.mem_cons_of_mem _ hx)) (i := i) (e := e) (by simpa using h) j v hv
  have ha := hall a List.mem_cons_self
  rw [List.flatten_cons, List.getElem?_append, if_neg (by rw [ha, Nat.succ_mul]; omega)]
  rw [show (i + 1) * sz + j - a.length = i * sz + j by rw [ha, Nat.succ_mul]; omega]
  exact ih

theorem B9.at {G : IM} {p : Option Addr} {n c sz : Nat} {es : List (List Value)} (h : B9 G p n c sz es) {i : Nat} {e : List Value} (hi : es[i]? = some e) :
  ∃ b o, p = some ⟨b, o, none⟩ ∧ ∀ hp, At hp G b (o + i * sz) e := by
 have hlt : i < es.length := (List.getElem?_eq_some_iff.1 hi).1
 obtain ⟨_, _, _, h4⟩ := h.sl
 have hn := h.len
 rcases h4 with h0 | ⟨b, o, full, hp, hg, hf⟩
 ·omega
 ·refine ⟨b, o, hp, fun hp => A2Q hg fun j v hv => ?_⟩
  rw [Nat.add_assoc]
  exact hf _ v (A4S h.all hi j v hv)

theorem B9.get {G : IM} {p : Option Addr} {n c sz : Nat} {es : List (List Value)} (h : B9 G p n c sz es) {i : Nat} (hi : i < n) :
  ∃ e b o, es[i]? = some e ∧ p = some ⟨b, o, none⟩ ∧ e.length = sz ∧ e.all (·.oneCell') = true ∧ (∀ hp, At hp G b (o + i * sz) e) ∧ G b ≠ none := by
 have hlt : i < es.length := by rw [h.len]; exact hi
 have he : es[i]? = some es[i] := List.getElem?_eq_getElem hlt
 obtain ⟨b, o, h1, h2⟩ := h.at he
 refine ⟨es[i], b, o, he, h1, h.all _ (List.getElem_mem hlt), h.one _ (List.getElem_mem hlt), h2, ?_⟩
 obtain ⟨_, _, _, h4⟩ := h.sl
 rcases h4 with h0 | ⟨b', o', full, hp, hg, hf⟩
 ·omega
 ·rw [h1] at hp; cases hp; rw [hg]; simp
theorem B9.le {G : IM} {p : Option Addr} {n c sz : Nat} {es : List (List Value)} (h : B9 G p n c sz es) : n ≤ 9223372036854775807 := by
 have h1 := h.sl.2.1; have h2 := h.sl.2.2.1; unfold maxLen at h2; omega

theorem B9.of {G : IM} {p : Option Addr} {n c sz : Nat} {es : List (List Value)} (h : Sl G p n c sz es.flatten) (hl : es.length = n) (ha : ∀ e ∈ es, e.length = sz) (ho : ∀ e ∈ es, e.all (·.oneCell') = true) : B9 G p n c sz es := ⟨h, hl, ha, ho⟩

def D9 (n : Int) : Prop := -9223372036854775808 ≤ n ∧ n ≤ 9223372036854775807

inductive Ty where
 | mk (k : Int) (ks : List Ty)

def Ty.k : Ty → Int | .mk k _ => k
def Ty.ks : Ty → List Ty | .mk _ ks => ks

inductive Tm where
 | mk (k : Int) (nm : ByteArray) (num : Int) (ty fr : Ty) (lb : Int) (ks : List Tm)

def Tm.k : Tm → Int | .mk k _ _ _ _ _ _ => k
def Tm.nm : Tm → ByteArray | .mk _ n _ _ _ _ _ => n
def Tm.num : Tm → Int | .mk _ _ n _ _ _ _ => n
def Tm.ty : Tm → Ty | .mk _ _ _ t _ _ _ => t
def Tm.fr : Tm → Ty | .mk _ _ _ _ f _ _ => f
def Tm.lb : Tm → Int | .mk _ _ _ _ _ l _ => l
def Tm.ks : Tm → List Tm | .mk _ _ _ _ _ _ ks => ks

mutual
def Ty.small : Ty → Prop
 | .mk _ ks => ks.length ≤ 4294967296 ∧ Ty.smallL ks
def Ty.smallL : List Ty → Prop
 | [] => True
 | t :: ts => t.small ∧ Ty.smallL ts
end
mutual
def Tm.small : Tm → Prop
 | .mk _ nm _ ty fr _ ks => nm.size ≤ 4294967296 ∧ ty.small ∧ fr.small ∧ ks.length ≤ 4294967296 ∧ Tm.smallL ks
def Tm.smallL : List Tm → Prop
 | [] => True
 | t :: ts => t.small ∧ Tm.smallL ts
end
theorem Ty.smallL_mem : ∀ {ts : List Ty}, Ty.smallL ts → ∀ t ∈ ts, t.small
 | [], _, t, h => by simp at h
 | t' :: ts, h, t, ht => by
  simp only [Ty.smallL] at h
  rcases List.mem_cons.1 ht with rfl | ht
  ·exact h.1
  ·exact Ty.smallL_mem h.2 t ht
theorem Tm.smallL_mem : ∀ {ts : List Tm}, Tm.smallL ts → ∀ t ∈ ts, t.small
 | [], _, t, h => by simp at h
 | t' :: ts, h, t, ht => by
  simp only [Tm.smallL] at h
  rcases List.mem_cons.1 ht with rfl | ht
  ·exact h.1
  ·exact Tm.smallL_mem h.2 t ht

mutual
def B3 (G : IM) : Ty → List Value → Prop
 | .mk k ks, cells => ∃ p c es, cells = [.int .i64 k, .slice p ks.length c] ∧ D9 k ∧ B9 G p ks.length c 2 es ∧ B0 G ks es
def B0 (G : IM) : List Ty → List (List Value) → Prop
 | [], es => es = []
 | t :: ts, es => ∃ a r, es = a :: r ∧ B3 G t a ∧ B0 G ts r
end

mutual
def A9 (G : IM) : Tm → List Value → Prop
 | .mk k nm num ty fr lb ks, cells => ∃ tc fc p c es, cells = [.int .i64 k, .string nm, .int .i64 num] ++ tc ++ fc ++ [.int .i64 lb, .slice p ks.length c] ∧ D9 k ∧ D9 num ∧ D9 lb ∧ B3 G ty tc ∧ B3 G fr fc ∧ B9 G p ks.length c 9 es ∧ C8 G ks es
def C8 (G : IM) : List Tm → List (List Value) → Prop
 | [], es => es = []
 | t :: ts, es => ∃ a r, es = a :: r ∧ A9 G t a ∧ C8 G ts r
end

mutual
theorem B3.mono {G G' : IM} (hg : B1 G G') : ∀ {t : Ty} {cells : List Value}, B3 G t cells → B3 G' t cells
 | .mk k ks, cells, h => by
  simp only [B3] at h ⊢
  obtain ⟨p, c, es, h1, h2, h3, h4⟩ := h
  exact ⟨p, c, es, h1, h2, h3.mono hg, B0.mono hg h4⟩
theorem B0.mono {G G' : IM} (hg : B1 G G') : ∀ {ts : List Ty} {es : List (List Value)}, B0 G ts es → B0 G' ts es
 | [], es, h => by simpa only [B0] using h
 | t :: ts, es, h => by
  simp only [B0] at h ⊢
  obtain ⟨a, r, h1, h2, h3⟩ := h
  exact ⟨a, r, h1, B3.mono hg h2, B0.mono hg h3⟩
end
mutual
theorem A9.mono {G G' : IM} (hg : B1 G G') : ∀ {t : Tm} {cells : List Value}, A9 G t cells → A9 G' t cells
 | .mk k nm num ty fr lb ks, cells, h => by
  simp only [A9] at h ⊢
  obtain ⟨tc, fc, p, c, es, h1, h2, h3, h4, h5, h6, h7, h8⟩ := h
  exact ⟨tc, fc, p, c, es, h1, h2, h3, h4, h5.mono hg, h6.mono hg, h7.mono hg, C8.mono hg h8⟩
theorem C8.mono {G G' : IM} (hg : B1 G G') : ∀ {ts : List Tm} {es : List (List Value)}, C8 G ts es → C8 G' ts es
 | [], es, h => by simpa only [C8] using h
 | t :: ts, es, h => by
  simp only [C8] at h ⊢
  obtain ⟨a, r, h1, h2, h3⟩ := h
  exact ⟨a, r, h1, A9.mono hg h2, C8.mono hg h3⟩
end

theorem B3.open {G : IM} {t : Ty} {cells : List Value} (h : B3 G t cells) : ∃ p c es, cells = [.int .i64 t.k, .slice p t.ks.length c] ∧ D9 t.k ∧ B9 G p t.ks.length c 2 es ∧ B0 G t.ks es := by
 cases t; simpa only [B3, Ty.k, Ty.ks] using h
theorem A9.open {G : IM} {t : Tm} {cells : List Value} (h : A9 G t cells) : ∃ pt ct et pf cf ef p c es,
  cells = [.int .i64 t.k, .string t.nm, .int .i64 t.num, .int .i64 t.ty.k, .slice pt t.ty.ks.length ct, .int .i64 t.fr.k, .slice pf t.fr.ks.length cf, .int .i64 t.lb, .slice p t.ks.length c] ∧
  D9 t.k ∧ D9 t.num ∧ D9 t.lb ∧ (D9 t.ty.k ∧ B9 G pt t.ty.ks.length ct 2 et ∧ B0 G t.ty.ks et) ∧ (D9 t.fr.k ∧ B9 G pf t.fr.ks.length cf 2 ef ∧ B0 G t.fr.ks ef) ∧ B9 G p t.ks.length c 9 es ∧ C8 G t.ks es := by
 obtain ⟨k, nm, num, ty, fr, lb, ks⟩ := t
 simp only [A9] at h
 obtain ⟨tc, fc, p, c, es, h1, h2, h3, h4, h5, h6, h7, h8⟩ := h
 obtain ⟨pt, ct, et, rfl, t1, t2, t3⟩ := h5.open
 obtain ⟨pf, cf, ef, rfl, f1, f2, f3⟩ := h6.open
 exact ⟨pt, ct, et, pf, cf, ef, p, c, es, h1, h2, h3, h4, ⟨t1, t2, t3⟩, ⟨f1, f2, f3⟩, h7, h8⟩
theorem A9.open9 {G : IM} {k : Int} {nm : ByteArray} {num : Int} {tk : Int} {tks : List Ty} {fk : Int} {fks : List Ty} {lb : Int} {ks : List Tm} {cells : List Value} (h : A9 G (.mk k nm num (.mk tk tks) (.mk fk fks) lb ks) cells) :
  ∃ pt ct pf cf p c es, cells = [.int .i64 k, .string nm, .int .i64 num, .int .i64 tk, .slice pt tks.length ct, .int .i64 fk, .slice pf fks.length cf, .int .i64 lb, .slice p ks.length c] ∧
  D9 k ∧ D9 num ∧ D9 lb ∧ B3 G (.mk tk tks) [.int .i64 tk, .slice pt tks.length ct] ∧ B3 G (.mk fk fks) [.int .i64 fk, .slice pf fks.length cf] ∧ B9 G p ks.length c 9 es ∧ C8 G ks es := by
 obtain ⟨pt, ct, et, pf, cf, ef, p, c, es, h1, h2, h3, h4, ⟨t1, t2, t3⟩, ⟨f1, f2, f3⟩, h7, h8⟩ := h.open
 simp only [Tm.k, Tm.nm, Tm.num, Tm.ty, Tm.fr, Tm.lb, Tm.ks, Ty.k, Ty.ks] at h1 h2 h3 h4 t1 t2 t3 f1 f2 f3 h7 h8
 exact ⟨pt, ct, pf, cf, p, c, es, h1, h2, h3, h4, by simp only [B3]; exact ⟨_, _, et, rfl, t1, t2, t3⟩, by simp only [B3]; exact ⟨_, _, ef, rfl, f1, f2, f3⟩, h7, h8⟩
theorem B3.len {G : IM} {t : Ty} {cells : List Value} (h : B3 G t cells) : cells.length = 2 := by
 obtain ⟨_, _, _, rfl, _⟩ := h.open; rfl
theorem A9.len {G : IM} {t : Tm} {cells : List Value} (h : A9 G t cells) : cells.length = 9 := by
 obtain ⟨_, _, _, _, _, _, _, _, _, rfl, _⟩ := h.open; rfl

theorem B0.len {G : IM} : ∀ {ts : List Ty} {es : List (List Value)}, B0 G ts es → es.length = ts.length
 | [], es, h => by simp only [B0] at h; subst h; rfl
 | t :: ts, es, h => by
  simp only [B0] at h
  obtain ⟨a, r, rfl, _, h3⟩ := h
  simp [h3.len]
theorem C8.len {G : IM} : ∀ {ts : List Tm} {es : List (List Value)}, C8 G ts es → es.length = ts.length
 | [], es, h => by simp only [C8] at h; subst h; rfl
 | t :: ts, es, h => by
  simp only [C8] at h
  obtain ⟨a, r, rfl, _, h3⟩ := h
  simp [h3.len]
theorem B0.get {G : IM} : ∀ {ts : List Ty} {es : List (List Value)}, B0 G ts es → ∀ {i : Nat} {t : Ty}, ts[i]? = some t → ∃ e, es[i]? = some e ∧ B3 G t e
 | [], es, h, i, t, hi => by simp at hi
 | t' :: ts, es, h, i, t, hi => by
  simp only [B0] at h
  obtain ⟨a, r, rfl, h2, h3⟩ := h
  cases i with
  | zero => simp at hi; subst hi; exact ⟨a, rfl, h2⟩
  | succ i => obtain ⟨e, he, hr⟩ := h3.get (i := i) (by simpa using hi); exact ⟨e, by simpa using he, hr⟩
theorem C8.get {G : IM} : ∀ {ts : List Tm} {es : List (List Value)}, C8 G ts es → ∀ {i : Nat} {t : Tm}, ts[i]? = some t → ∃ e, es[i]? = some e ∧ A9 G t e
 | [], es, h, i, t, hi => by simp at hi
 | t' :: ts, es, h, i, t, hi => by
  simp only [C8] at h
  obtain ⟨a, r, rfl, h2, h3⟩ := h
  cases i with
  | zero => simp at hi; subst hi; exact ⟨a, rfl, h2⟩
  | succ i => obtain ⟨e, he, hr⟩ := h3.get (i := i) (by simpa using hi); exact ⟨e, by simpa using he, hr⟩
theorem B0.all {G : IM} {ts : List Ty} {es : List (List Value)} (h : B0 G ts es) : ∀ e ∈ es, e.length = 2 := by
 intro e he
 obtain ⟨i, hi⟩ := List.getElem?_of_mem he
 have hlt : i < ts.length := by have := (List.getElem?_eq_some_iff.1 hi).1; rw [h.len] at this; exact this
 obtain ⟨e', he', hr⟩ := h.get (i := i) (t := ts[i]) (by simp [hlt])
 rw [hi] at he'; cases he'; exact hr.len
theorem C8.all {G : IM} {ts : List Tm} {es : List (List Value)} (h : C8 G ts es) : ∀ e ∈ es, e.length = 9 := by
 intro e he
 obtain ⟨i, hi⟩ := List.getElem?_of_mem he
 have hlt : i < ts.length := by have := (List.getElem?_eq_some_iff.1 hi).1; rw [h.len] at this; exact this
 obtain ⟨e', he', hr⟩ := h.get (i := i) (t := ts[i]) (by simp [hlt])
 rw [hi] at he'; cases he'; exact hr.len

theorem B3.one {G : IM} {t : Ty} {cells : List Value} (h : B3 G t cells) : cells.all (·.oneCell') = true := by
 obtain ⟨_, _, _, rfl, _⟩ := h.open; rfl
theorem A9.one {G : IM} {t : Tm} {cells : List Value} (h : A9 G t cells) : cells.all (·.oneCell') = true := by
 obtain ⟨_, _, _, _, _, _, _, _, _, rfl, _⟩ := h.open; rfl

theorem Ty.ind {C : Ty → Prop} (h : ∀ k ks, (∀ t ∈ ks, C t) → C (.mk k ks)) : ∀ t, C t
 | .mk k ks => h k ks fun t ht => Ty.ind h t
termination_by t => SizeOf.sizeOf t
decreasing_by
 have := List.sizeOf_lt_of_mem ht
 simp only [Ty.mk.sizeOf_spec]; omega
theorem Tm.ind {C : Tm → Prop} (h : ∀ k nm num ty fr lb ks, (∀ t ∈ ks, C t) → C (.mk k nm num ty fr lb ks)) : ∀ t, C t
 | .mk k nm num ty fr lb ks => h k nm num ty fr lb ks fun t ht => Tm.ind h t
termination_by t => SizeOf.sizeOf t
decreasing_by
 have := List.sizeOf_lt_of_mem ht
 simp only [Tm.mk.sizeOf_spec]; omega

def C1 (G' G : IM) : IM := fun b => match G b with | none => G' b | some _ => none
theorem C1.le (G' G : IM) : B1 (C1 G' G) G' := by
 intro b l h
 unfold C1 at h
 split at h
 ·exact h
 ·cases h
theorem C1.mono {G' G'' G : IM} (h : B1 G' G'') : B1 (C1 G' G) (C1 G'' G) := by
 intro b l hb
 unfold C1 at hb ⊢
 split at hb
 ·exact h b l hb
 ·cases hb
theorem C1.anti {G' G G0 : IM} (h : B1 G0 G) : B1 (C1 G' G) (C1 G' G0) := by
 intro b l hb
 unfold C1 at hb ⊢
 split at hb
 ·rename_i h0
  cases h1 : G0 b with
  | none => exact hb
  | some l' => rw [h b l' h1] at h0; cases h0
 ·cases hb
theorem C1.out {G' G : IM} {b : Nat} (h : C1 G' G b ≠ none) : G b = none := by
 unfold C1 at h
 split at h
 ·assumption
 ·exact absurd rfl h
theorem Sl.dif {G' G G0 : IM} {p : Option Addr} {n c sz : Nat} {cs : List Value} (h : Sl G' p n c sz cs) (hp : ∀ b ∈ I5 p, G b = none) (hle : B1 G0 G) : Sl (C1 G' G0) p n c sz cs := by
 obtain ⟨h1, h2, h3, h4⟩ := h
 refine ⟨h1, h2, h3, h4.imp id ?_⟩
 rintro ⟨b, o, full, rfl, e2, e3⟩
 refine ⟨b, o, full, rfl, ?_, e3⟩
 have hb := hp b (by simp [I5])
 have h0 : G0 b = none := by
  cases h1 : G0 b with
  | none => rfl
  | some l => rw [hle b l h1] at hb; cases hb
 simp [C1, h0, e2]

mutual
def P6 (G : IM) : Ty → List Value → List Nat → Prop
 | .mk k ks, cells, F => ∃ p c es Fs, cells = [.int .i64 k, .slice p ks.length c] ∧ D9 k ∧ B9 G p ks.length c 2 es ∧ N4 G ks es Fs ∧ F = I5 p ++ Fs ∧ (∀ b ∈ I5 p, G b ≠ none)
def N4 (G : IM) : List Ty → List (List Value) → List Nat → Prop
 | [], es, F => es = [] ∧ F = []
 | t :: ts, es, F => ∃ a r Fa Fr, es = a :: r ∧ P6 G t a Fa ∧ N4 G ts r Fr ∧ F = Fa ++ Fr
end
mutual
theorem P6.R {G : IM} : ∀ {t : Ty} {cells : List Value} {F : List Nat}, P6 G t cells F → B3 G t cells
 | .mk k ks, cells, F, h => by
  simp only [P6] at h
  obtain ⟨p, c, es, Fs, h1, h2, h3, h4, _⟩ := h
  simp only [B3]
  exact ⟨p, c, es, h1, h2, h3, N4.R h4⟩
theorem N4.R {G : IM} : ∀ {ts : List Ty} {es : List (List Value)} {F : List Nat}, N4 G ts es F → B0 G ts es
 | [], es, F, h => by simp only [N4] at h; simp only [B0]; exact h.1
 | t :: ts, es, F, h => by
  simp only [N4] at h
  obtain ⟨a, r, Fa, Fr, h1, h2, h3, _⟩ := h
  simp only [B0]
  exact ⟨a, r, h1, P6.R h2, N4.R h3⟩
end
mutual
theorem P6.mono {G G' : IM} (hg : B1 G G') : ∀ {t : Ty} {cells : List Value} {F : List Nat}, P6 G t cells F → P6 G' t cells F
 | .mk k ks, cells, F, h => by
  simp only [P6] at h ⊢
  obtain ⟨p, c, es, Fs, h1, h2, h3, h4, h5, h6⟩ := h
  exact ⟨p, c, es, Fs, h1, h2, h3.mono hg, N4.mono hg h4, h5, fun b hb => by cases hgb : G b with | none => exact absurd hgb (h6 b hb) | some l => rw [hg b l hgb]; simp⟩
theorem N4.mono {G G' : IM} (hg : B1 G G') : ∀ {ts : List Ty} {es : List (List Value)} {F : List Nat}, N4 G ts es F → N4 G' ts es F
 | [], es, F, h => by simpa only [N4] using h
 | t :: ts, es, F, h => by
  simp only [N4] at h ⊢
  obtain ⟨a, r, Fa, Fr, h1, h2, h3, h4⟩ := h
  exact ⟨a, r, Fa, Fr, h1, P6.mono hg h2, N4.mono hg h3, h4⟩
end
mutual
theorem P6.inG {G : IM} : ∀ {t : Ty} {cells : List Value} {F : List Nat}, P6 G t cells F → ∀ b ∈ F, G b ≠ none
 | .mk k ks, cells, F, h => by
  simp only [P6] at h
  obtain ⟨p, c, es, Fs, h1, h2, h3, h4, rfl, h6⟩ := h
  intro b hb
  rcases List.mem_append.1 hb with hb | hb
  ·exact h6 b hb
  ·exact N4.inG h4 b hb
theorem N4.inG {G : IM} : ∀ {ts : List Ty} {es : List (List Value)} {F : List Nat}, N4 G ts es F → ∀ b ∈ F, G b ≠ none
 | [], es, F, h => by simp only [N4] at h; rw [h.2]; simp
 | t :: ts, es, F, h => by
  simp only [N4] at h
  obtain ⟨a, r, Fa, Fr, h1, h2, h3, rfl⟩ := h
  intro b hb
  rcases List.mem_append.1 hb with hb | hb
  ·exact P6.inG h2 b hb
  ·exact N4.inG h3 b hb
end
theorem N4.snoc {G : IM} : ∀ {ts : List Ty} {es : List (List Value)} {F : List Nat} {t : Ty} {a : List Value} {Fa : List Nat}, N4 G ts es F → P6 G t a Fa → N4 G (ts ++ [t]) (es ++ [a]) (F ++ Fa)
 | [], es, F, t, a, Fa, h, h2 => by
  simp only [N4] at h
  obtain ⟨rfl, rfl⟩ := h
  simp only [List.nil_append, N4]
  exact ⟨a, [], Fa, [], rfl, h2, ⟨rfl, rfl⟩, by simp⟩
 | t' :: ts, es, F, t, a, Fa, h, h2 => by
  simp only [N4] at h
  obtain ⟨a', r, Fa', Fr, rfl, h3, h4, rfl⟩ := h
  simp only [List.cons_append, N4]
  exact ⟨a', r ++ [a], Fa', Fr ++ Fa, rfl, h3, N4.snoc h4 h2, by simp⟩

theorem B9.kidTy {G : IM} {p : Option Addr} {n c : Nat} {es : List (List Value)} {ks : List Ty} (h : B9 G p n c 2 es) (hk : B0 G ks es) {i : Nat} (hi : i < n) (hn : i < ks.length) :
  ∃ b o p2 c2, p = some ⟨b, o, none⟩ ∧ (∀ hp, At hp G b (o + i * 2) [.int .i64 ks[i].k, .slice p2 ks[i].ks.length c2]) ∧ B3 G ks[i] [.int .i64 ks[i].k, .slice p2 ks[i].ks.length c2] ∧ G b ≠ none := by
 obtain ⟨e, b, o, he, h1, h2, h3, h4, h5⟩ := h.get hi
 obtain ⟨e', he', hr⟩ := hk.get (i := i) (t := ks[i]) (by simp [hn])
 rw [he] at he'; cases he'
 obtain ⟨p2, c2, _, rfl, _⟩ := hr.open
 exact ⟨b, o, p2, c2, h1, h4, hr, h5⟩

theorem N4.step {G Gi G1 : IM} {ks : List Ty} {i : Nat} {es : List (List Value)} {F F' : List Nat} {a : List Value} (h : N4 (C1 Gi G) (ks.take i) es F) (hn : F.Nodup) (hle : B1 G Gi) (hle1 : B1 Gi G1) (hi : i < ks.length)
  (ha : P6 (C1 G1 Gi) ks[i] a F') (hn' : F'.Nodup) : N4 (C1 G1 G) (ks.take (i + 1)) (es ++ [a]) (F ++ F') ∧ (F ++ F').Nodup := by
 constructor
 ·rw [List.take_succ_eq_append_getElem hi]
  exact N4.snoc (h.mono (C1.mono hle1)) (ha.mono (C1.anti hle))
 ·rw [List.nodup_append]
  refine ⟨hn, hn', ?_⟩
  rintro x hx y hy rfl
  have h1 := h.inG x hx
  have h2 := C1.out (ha.inG x hy)
  apply h1
  cases hd : C1 Gi G x with
  | none => rfl
  | some l => rw [C1.le _ _ x l hd] at h2; cases h2
theorem P6.fin {G Gi G2 : IM} {k : Int} {ks : List Ty} {es : List (List Value)} {F : List Nat} {p : Option Addr} {c : Nat} (h : N4 (C1 Gi G) ks es F) (hn : F.Nodup) (hle : B1 G Gi) (hle2 : B1 Gi G2)
  (hsl : Sl G2 p ks.length c 2 es.flatten) (hnn : ∀ b ∈ I5 p, Gi b = none ∧ G2 b ≠ none) (hk : D9 k) :
  ∃ F', P6 (C1 G2 G) (.mk k ks) [.int .i64 k, .slice p ks.length c] F' ∧ F'.Nodup := by
 have hno := fun b hb => (hnn b hb).1
 have hin := fun b hb => (hnn b hb).2
 have hR := h.R
 refine ⟨I5 p ++ F, ?_, ?_⟩
 ·simp only [P6]
  refine ⟨p, c, es, F, rfl, hk, B9.of (hsl.dif hno hle) hR.len hR.all ?_, h.mono (C1.mono hle2), rfl, ?_⟩
  ·intro e he
   obtain ⟨i, hi⟩ := List.getElem?_of_mem he
   have hlt : i < ks.length := by have := (List.getElem?_eq_some_iff.1 hi).1; rw [hR.len] at this; exact this
   obtain ⟨e', he', hr⟩ := hR.get (i := i) (t := ks[i]) (by simp [hlt])
   rw [hi] at he'; cases he'; exact hr.one
  ·intro b hb
   have h0 := hno b hb
   cases hg : G b with
   | none => simpa [C1, hg] using hin b hb
   | some l => rw [hle b l hg] at h0; cases h0
 ·rw [List.nodup_append]
  refine ⟨by cases p <;> simp [I5], hn, ?_⟩
  rintro x hx y hy rfl
  have h1 := h.inG x hy
  have h2 := hno x hx
  apply h1
  cases hd : C1 Gi G x with
  | none => rfl
  | some l => rw [C1.le _ _ x l hd] at h2; cases h2

def Y5 (q : Nat → Bool) (n : Nat) : Int := match (List.range n).find? q with | some i => i | none => -1
theorem A2Y {q : Nat → Bool} {n : Nat} (h : ∀ j, j < n → q j = false) : Y5 q n = -1 := by
 have : (List.range n).find? q = none := by
  rw [List.find?_eq_none]
  intro x hx
  rw [h x (List.mem_range.1 hx)]; simp
 simp [Y5, this]
theorem A4T {q : Nat → Bool} {n i : Nat} (hi : i < n) (h : ∀ j, j < i → q j = false) (hq : q i = true) : Y5 q n = i := by
 have : (List.range n).find? q = some i := by
  rw [List.find?_eq_some_iff_append]
  refine ⟨hq, List.range i, (List.range n).drop (i + 1), ?_, ?_⟩
  ·apply List.ext_getElem?
   intro k
   simp only [List.getElem?_append, List.length_range, List.getElem?_range', List.getElem?_cons, List.getElem?_drop]
   by_cases h1 : k < i
   ·simp [h1, show k < n by omega]
   ·by_cases h2 : k = i
    ·subst h2; simp [hi]
    ·have h3 : k - i ≠ 0 := by omega
     simp only [h1, if_false, h3]
     rw [show i + 1 + (k - i - 1) = k by omega]
  ·intro a ha
   simp [h a (List.mem_range.1 ha)]
 simp [Y5, this]
end Gw
end Go.Proofs.YtipblncpnffmbaaGreatDoor
