/-
  What every walk of this claim stands on: states told by lists (slots, own blocks.
-/
import Derived.WalkKit
import Derived.OrdersHeld
import Derived.BigCall
import Derived.Test.YtgodjiieijekiaaGreatDoorChecked
set_option linter.unusedVariables false
set_option linter.unusedSimpArgs false
set_option maxHeartbeats 0
set_option maxRecDepth 100000
set_option synthInstance.maxSize 4000
set_option synthInstance.maxHeartbeats 0
namespace Go.Proofs.YtgodjiieijekiaaGreatDoor
open Go Go.RowKit
namespace Gw
abbrev tt := true
abbrev ff := false
theorem mH {α : Type} {a : α} {l : List α} : a ∈ a :: l := List.Mem.head _
theorem mT {α : Type} {a b : α} {l : List α} (h : a ∈ l) : a ∈ b :: l := List.Mem.tail _ h

abbrev H1 := List (Nat × Value)

def S5 : H1 → Nat → Option Value
 | [], _ => none
 | (k, v) :: r, t => bif Nat.beq k t then some v else S5 r t

def evo (e : H1) : Operand → Option Value
 | .tmp t => S5 e t
 | .const v => some v
 | .global g => some (.pointer (some ⟨g, 0, none⟩))
 | .func f => some (.func (.func f) #[] #[])

def evl (e : H1) : List Operand → Option (List Value)
 | [] => some []
 | x :: r => match evo e x with
  | some v => match evl e r with
   | some vs => some (v :: vs)
   | none => none
  | none => none

inductive A1 where
 | blk (b : Nat) (cs : List Value)
 | slc (p : Option Addr) (c : Nat) (el : TypeId) (sz : Nat) (n : Nat) (cs : List Value)

def E5 : Option Addr → List Nat
 | some p => [p.block]
 | none => []

def A1.fp : A1 → List Nat
 | .blk b _ => [b]
 | .slc p _ _ _ _ _ => E5 p

def A1.ok (w : World) : A1 → Prop
 | .blk b cs => ∃ e, w.heap[b]? = some (.cells cs.toArray e (0, 0))
 | .slc p c el sz n cs => w.ownsRow 0 el sz (.slice p n c) n cs

def Fp (hp : List A1) : List Nat := hp.flatMap A1.fp

abbrev IM := Nat → Option (List Value)

def A9 (G G' : IM) : Prop := ∀ b l, G b = some l → G' b = some l
def A12 (G : IM) (w : World) : Prop := ∀ b l, G b = some l → ∃ e f, w.heap[b]? = some (.cells l.toArray e f)

theorem A9.refl (G : IM) : A9 G G := fun _ _ h => h
theorem A9.trans {G G' G'' : IM} (h : A9 G G') (h' : A9 G' G'') : A9 G G'' := fun b l x => h' b l (h b l x)

structure Z5 (mods : List Nat) (w w' : World) : Prop where
 os : w'.os = w.os
 tape : w'.tape = w.tape
 output : w'.output = w.output
 size : w.heap.size ≤ w'.heap.size
 block : ∀ k, k < w.heap.size → k ∉ mods → w'.heap[k]? = w.heap[k]?

theorem Z5.refl (m : List Nat) (w : World) : Z5 m w w := ⟨rfl, rfl, rfl, Nat.le_refl _, fun _ _ _ => rfl⟩

structure O5 (hp : List A1) (G : IM) (w : World) : Prop where
 inn : A12 G w
 ok : ∀ e ∈ hp, e.ok w
 nodup : (Fp hp).Nodup
 disj : ∀ b ∈ Fp hp, G b = none

structure N3 (ins : List A1) (G0 : IM) (w0 : World) (hp : List A1) (G : IM) (w : World) : Prop where
 own : O5 hp G w
 ext : Z5 (Fp ins) w0 w
 le : A9 G0 G
 fresh : ∀ b l, G b = some l → G0 b = some l ∨ w0.heap.size ≤ b ∨ b ∈ Fp ins
 ofresh : ∀ b ∈ Fp hp, w0.heap.size ≤ b ∨ b ∈ Fp ins
 fz : ∀ b l, G b = some l → G0 b = none → ∃ e, w.heap[b]? = some (.cells l.toArray e (0, 0))

theorem X4 {w : World} {b : Nat} {o : Obj} (h : w.heap[b]? = some o) : b < w.heap.size := (Array.getElem?_eq_some_iff.1 h).1

theorem A1.ok_lt {w : World} {e : A1} (h : e.ok w) : ∀ b ∈ e.fp, b < w.heap.size := by
 cases e with
 | blk b cs => intro k hk; simp [A1.fp] at hk; subst hk; obtain ⟨_, h⟩ := h; exact X4 h
 | slc p c el sz n cs =>
  intro k hk
  rcases h.2 with ⟨he, _⟩ | ⟨g, cap, cur, he, _, hg, _⟩
  ·cases he; simp [A1.fp, E5] at hk
  ·cases he; simp [A1.fp, E5] at hk; subst hk; exact X4 hg

theorem A1.ok_ext {w w' : World} {e : A1} (h : e.ok w) (hb : ∀ b ∈ e.fp, w'.heap[b]? = w.heap[b]?) : e.ok w' := by
 cases e with
 | blk b cs => obtain ⟨x, h⟩ := h; exact ⟨x, by rw [hb b (by simp [A1.fp])]; exact h⟩
 | slc p c el sz n cs =>
  refine ⟨h.1, ?_⟩
  rcases h.2 with hn | ⟨g, cap, cur, he, h0, hg, rest⟩
  ·exact .inl hn
  ·cases he; exact .inr ⟨g, _, cur, rfl, h0, by rw [hb g (by simp [A1.fp, E5])]; exact hg, rest⟩

theorem V0 (a b : List A1) : Fp (a ++ b) = Fp a ++ Fp b := by simp [Fp]
theorem A3u {a b : List A1} (h : a.Perm b) : (Fp a).Perm (Fp b) := h.flatMap_right _
theorem A2F {hp : List A1} {b : Nat} : b ∈ Fp hp ↔ ∃ e ∈ hp, b ∈ e.fp := by simp [Fp, List.mem_flatMap]

theorem O5.lt {hp : List A1} {G : IM} {w : World} (h : O5 hp G w) : ∀ b ∈ Fp hp, b < w.heap.size := by
 intro b hb
 obtain ⟨e, he, hbe⟩ := A2F.1 hb
 exact A1.ok_lt (h.ok e he) b hbe

theorem A12.lt {G : IM} {w : World} (h : A12 G w) {b : Nat} {l : List Value} (hb : G b = some l) : b < w.heap.size := by
 obtain ⟨_, _, hh⟩ := h b l hb
 exact X4 hh

theorem O5.perm {hp hp' : List A1} {G : IM} {w : World} (h : O5 hp G w) (p : hp.Perm hp') : O5 hp' G w :=
 ⟨h.inn, fun e he => h.ok e (p.mem_iff.2 he), (A3u p).nodup_iff.1 h.nodup, fun b hb => h.disj b ((A3u p).mem_iff.2 hb)⟩

theorem O5.left {a b : List A1} {G : IM} {w : World} (h : O5 (a ++ b) G w) : O5 a G w :=
 ⟨h.inn, fun e he => h.ok e (List.mem_append_left _ he), by have := h.nodup; rw [V0] at this; exact (List.nodup_append.1 this).1,
  fun x hx => h.disj x (by rw [V0]; exact List.mem_append_left _ hx)⟩

theorem N3.perm {ins hp hp' : List A1} {G0 G : IM} {w0 w : World} (h : N3 ins G0 w0 hp G w) (p : hp.Perm hp') : N3 ins G0 w0 hp' G w :=
 ⟨h.own.perm p, h.ext, h.le, h.fresh, fun b hb => h.ofresh b ((A3u p).mem_iff.2 hb), h.fz⟩

theorem N3.left {ins a b : List A1} {G0 G : IM} {w0 w : World} (h : N3 ins G0 w0 (a ++ b) G w) : N3 ins G0 w0 a G w :=
 ⟨h.own.left, h.ext, h.le, h.fresh, fun x hx => h.ofresh x (by rw [V0]; exact List.mem_append_left _ hx), h.fz⟩

theorem N3.refl {ins : List A1} {G : IM} {w : World} (h : O5 ins G w) : N3 ins G w ins G w :=
 ⟨h, Z5.refl _ _, A9.refl _, fun _ _ h => .inl h, fun _ h => .inr h, fun b l h h0 => absurd h (by rw [h0]; simp)⟩

theorem N3.frame {ins0 ins outs rest : List A1} {G0 G G' : IM} {w0 w w' : World}
  (h : N3 ins0 G0 w0 (ins ++ rest) G w) (s : N3 ins G w outs G' w') : N3 ins0 G0 w0 (outs ++ rest) G' w' := by
 have hnd := h.own.nodup
 rw [V0, List.nodup_append] at hnd
 obtain ⟨_, hndr, hdis⟩ := hnd
 have hrest_lt : ∀ b ∈ Fp rest, b < w.heap.size := fun b hb => h.own.lt b (by rw [V0]; exact List.mem_append_right _ hb)
 have hrest_not : ∀ b ∈ Fp rest, b ∉ Fp ins := fun b hb hi => hdis b hi b hb rfl
 refine ⟨⟨s.own.inn, ?_, ?_, ?_⟩, ?_, h.le.trans s.le, ?_, ?_, ?_⟩
 ·intro e he
  rcases List.mem_append.1 he with he | he
  ·exact s.own.ok e he
  ·refine A1.ok_ext (h.own.ok e (List.mem_append_right _ he)) fun b hb => ?_
   have hbr : b ∈ Fp rest := A2F.2 ⟨e, he, hb⟩
   exact s.ext.block b (hrest_lt b hbr) (hrest_not b hbr)
 ·rw [V0, List.nodup_append]
  refine ⟨s.own.nodup, hndr, ?_⟩
  rintro a ha b hb rfl
  rcases s.ofresh a ha with hf | hf
  ·exact absurd (hrest_lt a hb) (by omega)
  ·exact hrest_not a hb hf
 ·intro b hb
  rw [V0] at hb
  rcases List.mem_append.1 hb with hb | hb
  ·exact s.own.disj b hb
  ·cases hg : G' b with
   | none => rfl
   | some l =>
    exfalso
    rcases s.fresh b l hg with hf | hf | hf
    ·have := h.own.disj b (by rw [V0]; exact List.mem_append_right _ hb)
     rw [this] at hf; cases hf
    ·exact absurd (hrest_lt b hb) (by omega)
    ·exact hrest_not b hb hf
 ·refine ⟨s.ext.os.trans h.ext.os, s.ext.tape.trans h.ext.tape, s.ext.output.trans h.ext.output, Nat.le_trans h.ext.size s.ext.size, ?_⟩
  intro k hk hkn
  rw [s.ext.block k (Nat.lt_of_lt_of_le hk h.ext.size) ?_, h.ext.block k hk hkn]
  intro hki
  rcases h.ofresh k (by rw [V0]; exact List.mem_append_left _ hki) with hf | hf
  ·omega
  ·exact hkn hf
 ·intro b l hb
  rcases s.fresh b l hb with hf | hf | hf
  ·exact h.fresh b l hf
  ·exact .inr (.inl (Nat.le_trans h.ext.size hf))
  ·exact .inr (h.ofresh b (by rw [V0]; exact List.mem_append_left _ hf))
 ·intro b hb
  rw [V0] at hb
  rcases List.mem_append.1 hb with hb | hb
  ·rcases s.ofresh b hb with hf | hf
   ·exact .inl (Nat.le_trans h.ext.size hf)
   ·exact h.ofresh b (by rw [V0]; exact List.mem_append_left _ hf)
  ·exact h.ofresh b (by rw [V0]; exact List.mem_append_right _ hb)
 ·intro b l hb h0
  cases hg : G b with
  | none => exact s.fz b l hb hg
  | some l' =>
   have := s.le b l' hg
   rw [hb] at this; cases this
   obtain ⟨e, he⟩ := h.fz b l hg h0
   refine ⟨e, ?_⟩
   rw [s.ext.block b (X4 he) ?_]
   ·exact he
   ·intro hbi
    have := h.own.disj b (by rw [V0]; exact List.mem_append_left _ hbi)
    rw [hg] at this; cases this

structure F8 where
 n : Nat
 ins : List A1
 G0 : IM
 w0 : World

structure Sy where
 env : H1
 hp : List A1
 G : IM

structure St (Γ : F8) (σ : Sy) (a : Act) (w : World) : Prop where
 size : a.tmps.size = Γ.n
 nod : a.defers = []
 env : ∀ t v, S5 σ.env t = some v → a.tmps.getD t undef = v
 res : N3 Γ.ins Γ.G0 Γ.w0 σ.hp σ.G w

theorem St.evo {Γ : F8} {σ : Sy} {a : Act} {w : World} (h : St Γ σ a w) {x : Operand} {v : Value} (hx : evo σ.env x = some v) : a.eval x = v := by
 cases x with
 | tmp t => exact h.env t v hx
 | const c => simpa [Gw.evo, Act.eval] using hx
 | global g => simpa [Gw.evo, Act.eval] using hx
 | func f => simpa [Gw.evo, Act.eval] using hx

theorem St.evl {Γ : F8} {σ : Sy} {a : Act} {w : World} (h : St Γ σ a w) : ∀ {xs : List Operand} {vs : List Value}, evl σ.env xs = some vs → xs.map a.eval = vs
 | [], vs, hx => by simp [Gw.evl] at hx; subst hx; rfl
 | x :: r, vs, hx => by
  simp only [Gw.evl] at hx
  split at hx
  ·rename_i v hv
   split at hx
   ·rename_i us hu
    simp at hx; subst hx
    simp [h.evo hv, St.evl h hu]
   ·cases hx
  ·cases hx

theorem A3v (k : Nat) (v : Value) (r : H1) (t : Nat) : S5 ((k, v) :: r) t = if k = t then some v else S5 r t := by
 simp only [S5]
 by_cases h : k = t
 ·subst h; simp
 ·have : Nat.beq k t = false := by
   cases hb : Nat.beq k t with
   | false => rfl
   | true => exact absurd (Nat.eq_of_beq_eq_true hb) h
  simp [this, h]

theorem St.put {Γ : F8} {σ : Sy} {a : Act} {w w' : World} {hp' : List A1} {G' : IM} (h : St Γ σ a w) (t : Nat) (v : Value) (ht : t < Γ.n)
  (hr : N3 Γ.ins Γ.G0 Γ.w0 hp' G' w') : St Γ ⟨(t, v) :: σ.env, hp', G'⟩ (a.put (some t) v) w' := by
 refine ⟨?_, h.nod, ?_, hr⟩
 ·simp [Act.put, h.size]
 ·intro s u hs
  rw [A3v] at hs
  simp only [Act.put]
  by_cases e : t = s
  ·subst e
   simp at hs; subst hs
   have : t < a.tmps.size := by rw [h.size]; exact ht
   simp [Array.getD_eq_getD_getElem?, this]
  ·rw [if_neg e] at hs
   have := h.env s u hs
   simp only [Array.getD_eq_getD_getElem?, Array.getElem?_setIfInBounds, if_neg e] at this ⊢
   exact this

theorem St.put_none {Γ : F8} {σ : Sy} {a : Act} {w w' : World} {hp' : List A1} {G' : IM} (h : St Γ σ a w) (v : Value)
  (hr : N3 Γ.ins Γ.G0 Γ.w0 hp' G' w') : St Γ ⟨σ.env, hp', G'⟩ (a.put none v) w' := ⟨h.size, h.nod, h.env, hr⟩

def dpu (d : Option Nat) (v : Value) (e : H1) : H1 := match d with | some t => (t, v) :: e | none => e
def dok (n : Nat) : Option Nat → Bool | some t => Nat.blt t n | none => true

theorem St.dput {Γ : F8} {σ : Sy} {a : Act} {w w' : World} {hp' : List A1} {G' : IM} (h : St Γ σ a w) (d : Option Nat) (v : Value) (ht : dok Γ.n d = true)
  (hr : N3 Γ.ins Γ.G0 Γ.w0 hp' G' w') : St Γ ⟨dpu d v σ.env, hp', G'⟩ (a.put d v) w' := by
 cases d with
 | none => exact h.put_none v hr
 | some t => exact h.put t v (by simpa [dok] using ht) hr

abbrev Po := Exit → Sy → Prop
def A13 (Γ : F8) (K : Po) : Exit → Act → World → Prop := fun e a w => ∃ σ, St Γ σ a w ∧ K e σ

structure H8 (P : Program) (Γ : F8) (c : Code) (K : Po) (σ : Sy) : Prop where
 run : ∀ a w, St Γ σ a w → c.wp P (A13 Γ K) a w

structure A0k (P : Program) (Γ : F8) (y : Code) (K : Po) (e : Exit) (σ : Sy) : Prop where
 run : match e with
  | .normal => H8 P Γ y K σ
  | e => K e σ
structure A0C (id : Nat) (K : Po) (e : Exit) (σ : Sy) : Prop where
 run : match e with
  | .exit id' => if id' = id then K .normal σ else K (.exit id') σ
  | e => K e σ

section rules
variable {P : Program} {Γ : F8} {K : Po} {σ : Sy}

theorem A41 {c : Code} {K' : Po} (h : H8 P Γ c K σ) (hk : ∀ e σ, K e σ → K' e σ) : H8 P Γ c K' σ :=
 ⟨fun a w hs => wp_mono (h.run a w hs) fun _ _ _ ⟨s, h1, h2⟩ => ⟨s, h1, hk _ _ h2⟩⟩

theorem tS {x y : Code} (h : H8 P Γ x (A0k P Γ y K) σ) : H8 P Γ (Code.seq x y) K σ := by
 refine ⟨fun a w hs => ?_⟩
 refine wp_seq (wp_mono (h.run a w hs) ?_)
 rintro e a' w' ⟨s, h1, ⟨h2⟩⟩
 cases e <;> first | exact h2.run a' w' h1 | exact ⟨s, h1, h2⟩

theorem tK (h : K .normal σ) : H8 P Γ .skip K σ := ⟨fun _ _ hs => wp_skip ⟨σ, hs, h⟩⟩
theorem tT (h : K .ret σ) : H8 P Γ .ret K σ := ⟨fun _ _ hs => wp_ret ⟨σ, hs, h⟩⟩
theorem A75 {id : Nat} (h : K (.exit id) σ) : H8 P Γ (.exit id) K σ := ⟨fun _ _ hs => wp_exit ⟨σ, hs, h⟩⟩
theorem D2 {id : Nat} {c : Code} (h : H8 P Γ c (A0C id K) σ) : H8 P Γ (.block id c) K σ := by
 refine ⟨fun a w hs => ?_⟩
 refine wp_block (wp_mono (h.run a w hs) ?_)
 rintro e a' w' ⟨s, h1, ⟨h2⟩⟩
 cases e with
 | exit id' =>
  simp only [Exit.inBlock] at h2 ⊢
  split at h2
  ·rename_i hid; simp only [hid, if_true]; exact ⟨s, h1, h2⟩
  ·rename_i hid; simp only [hid, if_false]; exact ⟨s, h1, h2⟩
 | _ => exact ⟨s, h1, h2⟩
theorem A3w {c : Operand} {x y : Code} {b : Bool} (hc : evo σ.env c = some (.bool b)) (ht : b = true → H8 P Γ x K σ) (hf : b = false → H8 P Γ y K σ) :
  H8 P Γ (.cond c x y) K σ := by
 refine ⟨fun a w hs => ?_⟩
 have he := hs.evo hc
 cases b
 ·exact wp_cond_false he ((hf rfl).run a w hs)
 ·exact wp_cond_true he ((ht rfl).run a w hs)
theorem qT {c : Operand} {x y : Code} (hc : evo σ.env c = some (.bool true)) (h : H8 P Γ x K σ) : H8 P Γ (.cond c x y) K σ :=
 ⟨fun a w hs => wp_cond_true (hs.evo hc) (h.run a w hs)⟩
theorem cF {c : Operand} {x y : Code} (hc : evo σ.env c = some (.bool false)) (h : H8 P Γ y K σ) : H8 P Γ (.cond c x y) K σ :=
 ⟨fun a w hs => wp_cond_false (hs.evo hc) (h.run a w hs)⟩

structure Y2 (σ σ' : Sy) : Prop where
 env : ∀ t v, S5 σ'.env t = some v → S5 σ.env t = some v
 hp : ∃ r, σ.hp.Perm (σ'.hp ++ r)
 G : σ.G = σ'.G
theorem St.sub {a : Act} {w : World} {σ' : Sy} (h : St Γ σ a w) (s : Y2 σ σ') : St Γ σ' a w := by
 obtain ⟨r, hr⟩ := s.hp
 exact ⟨h.size, h.nod, fun t v ht => h.env t v (s.env t v ht), by rw [← s.G]; exact (h.res.perm hr).left⟩
theorem A76 {c : Code} {σ' : Sy} (s : Y2 σ σ') (h : H8 P Γ c K σ') : H8 P Γ c K σ := ⟨fun a w hs => h.run a w (hs.sub s)⟩
structure A77 (K : Po) (Inv : Nat → Sy → Prop) (m : Nat) (e : Exit) (σ : Sy) : Prop where
 run : match e with
  | .normal => ∃ m' σ', m' < m ∧ Y2 σ σ' ∧ Inv m' σ'
  | e => K e σ
theorem A78 {c : Code} (Inv : Nat → Sy → Prop) (m : Nat) {σ' : Sy} (hsub : Y2 σ σ') (h0 : Inv m σ') (step : ∀ m σ, Inv m σ → H8 P Γ c (A77 K Inv m) σ) :
  H8 P Γ (.loop c) K σ := by
 refine ⟨fun a w hs => ?_⟩
 let μ : Act → World → Nat := fun a w => Classical.epsilon fun m => (∃ σ, St Γ σ a w ∧ Inv m σ) ∧ ∀ k, (∃ σ, St Γ σ a w ∧ Inv k σ) → m ≤ k
 have hμ : ∀ a w, (∃ m σ, St Γ σ a w ∧ Inv m σ) → (∃ σ, St Γ σ a w ∧ Inv (μ a w) σ) ∧ ∀ k, (∃ σ, St Γ σ a w ∧ Inv k σ) → μ a w ≤ k := by
  intro a w ⟨m, hm⟩
  have : ∃ m, (∃ σ, St Γ σ a w ∧ Inv m σ) ∧ ∀ k, (∃ σ, St Γ σ a w ∧ Inv k σ) → m ≤ k := by
   induction m using Nat.strongRecOn with
   | _ m ih =>
    by_cases hh : ∃ k, k < m ∧ ∃ σ, St Γ σ a w ∧ Inv k σ
    ·obtain ⟨k, hk, hs⟩ := hh; exact ih k hk hs
    ·exact ⟨m, hm, fun k hk => Nat.le_of_not_lt fun hlt => hh ⟨k, hlt, hk⟩⟩
  exact Classical.epsilon_spec this
 refine wp_loop (fun a w => ∃ m σ, St Γ σ a w ∧ Inv m σ) μ ⟨m, σ', hs.sub hsub, h0⟩ ?_
 intro a w hI
 obtain ⟨⟨σ1, hs1, hi1⟩, _⟩ := hμ a w hI
 refine wp_mono ((step _ σ1 hi1).run a w hs1) ?_
 rintro e a' w' ⟨s, h1, ⟨h2⟩⟩
 cases e with
 | normal =>
  obtain ⟨m', σ2, hlt, hsb, hinv⟩ := h2
  refine ⟨⟨m', σ2, h1.sub hsb, hinv⟩, Nat.lt_of_le_of_lt ?_ hlt⟩
  exact (hμ a' w' ⟨m', σ2, h1.sub hsb, hinv⟩).2 m' ⟨σ2, h1.sub hsb, hinv⟩
 | _ => exact ⟨s, h1, h2⟩

structure A0D {ι : Type} (K : Po) (S : ι → Sy) (φ : ι → Prop) (μ : ι → Nat) (i : ι) (e : Exit) (σ : Sy) : Prop where
 run : match e with
  | .normal => ∃ j, φ j ∧ μ j < μ i ∧ Y2 σ (S j)
  | e => K e σ
theorem Q5 {ι : Type} {c : Code} (S : ι → Sy) (φ : ι → Prop) (μ : ι → Nat) (i0 : ι) (hsub : Y2 σ (S i0)) (h0 : φ i0) (step : ∀ i, φ i → H8 P Γ c (A0D K S φ μ i) (S i)) :
  H8 P Γ (.loop c) K σ := by
 refine A78 (fun m σ => ∃ i, φ i ∧ m = μ i ∧ σ = S i) (μ i0) hsub ⟨i0, h0, rfl, rfl⟩ ?_
 rintro m σ ⟨i, hi, rfl, rfl⟩
 refine A41 (step i hi) ?_
 rintro e σ ⟨h⟩
 cases e with
 | normal =>
  obtain ⟨j, h1, h2, h3⟩ := h
  exact ⟨⟨μ j, S j, h2, h3, j, h1, rfl, rfl⟩⟩
 | _ => exact ⟨h⟩
theorem P5 {ι : Type} {S : ι → Sy} {φ : ι → Prop} {μ : ι → Nat} {i : ι} {σ : Sy} (j : ι) (hs : Y2 σ (S j)) (h : φ j) (hlt : μ j < μ i) : A0D K S φ μ i .normal σ := ⟨j, h, hlt, hs⟩
theorem A79 {ι : Type} {S : ι → Sy} {φ : ι → Prop} {μ : ι → Nat} {i : ι} {σ : Sy} (h : K .ret σ) : A0D K S φ μ i .ret σ := ⟨h⟩
theorem A8a {ι : Type} {S : ι → Sy} {φ : ι → Prop} {μ : ι → Nat} {i : ι} {σ : Sy} {id : Nat} (h : K (.exit id) σ) : A0D K S φ μ i (.exit id) σ := ⟨h⟩
theorem A8b {ι : Type} {S : ι → Sy} {φ : ι → Prop} {μ : ι → Nat} {i : ι} (h : ∀ c σ, ¬ K (.panic c) σ) : ∀ c σ, ¬ A0D K S φ μ i (.panic c) σ := fun c σ hk => h c σ hk.run

end rules

def A14 (e : H1) (a : Act) : Prop := ∀ t v, S5 e t = some v → a.tmps.getD t undef = v

def J1 (ops : Array Oper) (e : H1) : Option (Nat × Bool) → Option Bool
 | none => some true
 | some (j, want) => match (ops[j]?).bind (·.dst) with
  | some t => match S5 e t with
   | some (.bool b) => some (b == want)
   | some (.tuple _) => some false
   | _ => none
  | none => none

theorem A0E {ops : Array Oper} {e : H1} {a : Act} (h : A14 e a) {d : Option Tmp} {op : Op} {ty : TypeId} {pos : String} {af : Array Edge} {gd : Option (Nat × Bool)} {r : Bool}
  (hg : J1 ops e gd = some r) : Region.wanted ⟨d, op, ty, pos, af, gd⟩ (yielded ops a.tmps) = r := by
 cases gd with
 | none => simp [J1] at hg; subst hg; rfl
 | some jw =>
  obtain ⟨j, want⟩ := jw
  simp only [J1] at hg
  split at hg
  ·rename_i t ht
   split at hg
   ·rename_i b hb
    simp at hg; subst hg
    have hv := h t _ hb
    have hs : a.tmps[t]? = some (.bool b) := by
     cases hx : a.tmps[t]? with
     | none => simp [Array.getD_eq_getD_getElem?, hx, undef] at hv
     | some u => simp [Array.getD_eq_getD_getElem?, hx] at hv; rw [hv]
    simp [Region.wanted, yielded, ht, hs]
   ·rename_i b hb
    simp at hg; subst hg
    have hv := h t _ hb
    cases hx : a.tmps[t]? with
    | none => simp [Region.wanted, yielded, ht, hx]
    | some u =>
     simp [Array.getD_eq_getD_getElem?, hx] at hv
     simp [Region.wanted, yielded, ht, hx, hv]
   ·cases hg
  ·cases hg

structure C9 (P : Program) (Γ : F8) (σ : Sy) (op : Op) (ty : TypeId) (v : Value) : Prop where
 run : ∀ a w0, St Γ σ a w0 → ∀ d pos af gd w, (execOp a.eval ⟨d, op, ty, pos, af, gd⟩).run P w = .ok (.value v) w

structure A0F (P : Program) (Γ : F8) (σ : Sy) (op : Op) (ty : TypeId) (b : Nat) (v : Value) : Prop where
 run : ∀ a w, St Γ σ a w → b < w.heap.size ∧ ∀ w', w'.heap[b]? = w.heap[b]? → ∀ d pos af gd, (execOp a.eval ⟨d, op, ty, pos, af, gd⟩).run P w' = .ok (.value v) w'

structure S6 (P : Program) (Γ : F8) (σ : Sy) (d : Option Tmp) (op : Op) (ty : TypeId) (mods : List Nat) (K' : Sy → Prop) : Prop where
 run : ∀ a w, St Γ σ a w → ∀ pos af gd (Q : Exit → Act → World → Prop) (next : Act → World → Prop),
  (∀ a' w' σ', St Γ σ' a' w' → Z5 mods w w' → K' σ' → next a' w') → (⟨d, op, ty, pos, af, gd⟩ : Oper).wp P a w next Q

def wpL (P : Program) (ops : Array Oper) (Q : Exit → Act → World → Prop) : List Oper → Act → World → Prop
 | [], a, w => Q .normal a w
 | o :: r, a, w => if Region.wanted o (yielded ops a.tmps) then o.wp P a w (wpL P ops Q r) Q ∨ (o.asks P a w ∧ LetsOut Q) else wpL P ops Q r (a.put o.dst undef) w

theorem A3x {P : Program} {ops : Array Oper} {Q : Exit → Act → World → Prop} : ∀ (os : List Oper) (is : List Nat) (a : Act) (w : World),
  is.map (ops[·]?) = os.map some → wpL P ops Q os a w → wpOps P ops Q is a w
 | [], [], _, _, _, h => h
 | [], _ :: _, _, _, hm, _ => by simp at hm
 | _ :: _, [], _, _, hm, _ => by simp at hm
 | o :: os, i :: is, a, w, hm, h => by
  simp only [List.map_cons, List.cons.injEq] at hm
  rw [wpOps_cons]
  unfold wpOp
  simp only [hm.1]
  simp only [wpL] at h
  split
  ·rename_i hw
   simp only [hw, if_true] at h
   exact h.imp (Oper.wp_mono fun a w => A3x os is a w hm.2) id
  ·rename_i hw
   simp only [hw] at h
   exact A3x os is _ w hm.2 h

structure D8 (P : Program) (Γ : F8) (ops : Array Oper) (rest : List Oper) (K : Po) (σ : Sy) : Prop where
 run : ∀ a w, St Γ σ a w → wpL P ops (A13 Γ K) rest a w

section seq
variable {P : Program} {Γ : F8} {K : Po} {ops : Array Oper} {rest : List Oper} {env : H1} {hp : List A1} {G : IM}
variable {op : Op} {ty : TypeId} {pos : String} {af : Array Edge} {gd : Option (Nat × Bool)}

theorem tR {id : Nat} {os : List Oper} {σ : Sy} (h : D8 P Γ ⟨os⟩ os K σ) : H8 P Γ (.region id ⟨os⟩ false) K σ := by
 refine ⟨fun a w hs => ?_⟩
 refine wp_region (A3x os _ a w ?_ (h.run a w hs))
 apply List.ext_getElem?
 intro i
 by_cases hi : i < os.length
 ·simp [hi]
 ·simp [hi]

theorem sD {σ : Sy} (h : K .normal σ) : D8 P Γ ops [] K σ := ⟨fun _ _ hs => ⟨σ, hs, h⟩⟩

theorem sP {d : Nat} {v : Value} (h : C9 P Γ ⟨env, hp, G⟩ op ty v) (hw : J1 ops env gd = some true) (hd : Nat.blt d Γ.n = true)
  (k : D8 P Γ ops rest K ⟨(d, v) :: env, hp, G⟩) : D8 P Γ ops (⟨some d, op, ty, pos, af, gd⟩ :: rest) K ⟨env, hp, G⟩ := by
 refine ⟨fun a w hs => ?_⟩
 have he : A14 env a := hs.env
 simp only [wpL, A0E he hw, if_true]
 refine .inl ?_
 simp only [Oper.wp, h.run a w hs, Oper.upon]
 exact k.run _ _ (hs.put d v (by simpa using hd) hs.res)

theorem sQ {d : Nat} {v : Value} (h : C9 P Γ ⟨env, hp, G⟩ op ty v) (hw : (J1 ops env gd, Nat.blt d Γ.n) = (some true, true))
 (k : D8 P Γ ops rest K ⟨(d, v) :: env, hp, G⟩) : D8 P Γ ops (⟨some d, op, ty, pos, af, gd⟩ :: rest) K ⟨env, hp, G⟩ := sP h (congrArg Prod.fst hw) (congrArg Prod.snd hw) k
theorem sL {d b : Nat} {v : Value} (h : A0F P Γ ⟨env, hp, G⟩ op ty b v) (hw : J1 ops env gd = some true) (hd : Nat.blt d Γ.n = true)
  (k : D8 P Γ ops rest K ⟨(d, v) :: env, hp, G⟩) : D8 P Γ ops (⟨some d, op, ty, pos, af, gd⟩ :: rest) K ⟨env, hp, G⟩ := by
 refine ⟨fun a w hs => ?_⟩
 have he : A14 env a := hs.env
 simp only [wpL, A0E he hw, if_true]
 refine .inl ?_
 simp only [Oper.wp, (h.run a w hs).2 w rfl, Oper.upon]
 exact k.run _ _ (hs.put d v (by simpa using hd) hs.res)

theorem D1 {d : Option Nat} {mods : List Nat} {K' : Sy → Prop} {σ : Sy} (h : S6 P Γ σ d op ty mods K') (hw : J1 ops σ.env gd = some true)
  (k : ∀ σ', K' σ' → D8 P Γ ops rest K σ') : D8 P Γ ops (⟨d, op, ty, pos, af, gd⟩ :: rest) K σ := by
 refine ⟨fun a w hs => ?_⟩
 have he : A14 σ.env a := hs.env
 simp only [wpL, A0E he hw, if_true]
 exact .inl (h.run a w hs pos af gd _ _ fun a' w' σ' h1 _ h3 => (k σ' h3).run a' w' h1)

theorem sE {d : Option Nat} {F : List Nat} {S : Nat → Sy} (h : S6 P Γ ⟨env, hp, G⟩ d op ty F (fun s => ∃ b, s = S b)) (hw : J1 ops env gd = some true) (k : ∀ b, D8 P Γ ops rest K (S b)) : D8 P Γ ops (⟨d, op, ty, pos, af, gd⟩ :: rest) K ⟨env, hp, G⟩ :=
 D1 h hw (by rintro _ ⟨b, rfl⟩; exact k b)
theorem sK {d : Nat} (hw : J1 ops env gd = some false) (hd : Nat.blt d Γ.n = true)
  (k : D8 P Γ ops rest K ⟨(d, undef) :: env, hp, G⟩) : D8 P Γ ops (⟨some d, op, ty, pos, af, gd⟩ :: rest) K ⟨env, hp, G⟩ := by
 refine ⟨fun a w hs => ?_⟩
 have he : A14 env a := hs.env
 simp only [wpL, A0E he hw, Bool.false_eq_true, if_false]
 exact k.run _ _ (hs.put d undef (by simpa using hd) hs.res)
theorem sB {d : Nat} {p : Prop} [Decidable p] (h : C9 P Γ ⟨env, hp, G⟩ op ty (.bool (decide p))) (hw : J1 ops env gd = some true) (hd : Nat.blt d Γ.n = true)
  (kt : p → D8 P Γ ops rest K ⟨(d, .bool true) :: env, hp, G⟩) (kf : ¬ p → D8 P Γ ops rest K ⟨(d, .bool false) :: env, hp, G⟩) :
  D8 P Γ ops (⟨some d, op, ty, pos, af, gd⟩ :: rest) K ⟨env, hp, G⟩ := by
 by_cases hpp : p
 ·exact sP (by rw [decide_eq_true hpp] at h; exact h) hw hd (kt hpp)
 ·exact sP (by rw [decide_eq_false hpp] at h; exact h) hw hd (kf hpp)

end seq

structure Z6 where
 i : Nat
 b : Nat
 o : Obj

def A15 (ops : Array Oper) : Nat → Nat → Nat → Bool
 | 0, _, _ => false
 | n + 1, j, i => match ops[j]? with | some oj => oj.after.any (fun e => Region.binds .any e && (e.on == i || A15 ops n e.on i)) | none => false
def U0 (ops : Array Oper) (j i : Nat) : Bool := A15 ops 4 j i
def DC (ops : Array Oper) (listed : Array Bool) : Prop := ∀ j, listed.getD j false = true → ∀ o, ops[j]? = some o → ∀ e ∈ o.after, Region.binds .any e = true → listed.getD e.on false = true
theorem DC.dep {ops : Array Oper} {listed : Array Bool} (h : DC ops listed) : ∀ (n j i : Nat), (∀ o, ops[j]? = some o → ∀ e ∈ o.after, Region.binds .any e = true → listed.getD e.on false = true) → A15 ops n j i = true → listed.getD i false = true
 | 0, _, _, _, hd => by simp [A15] at hd
 | n + 1, j, i, hj, hd => by
  simp only [A15] at hd
  cases ho : ops[j]? with
  | none => simp [ho] at hd
  | some o =>
   simp only [ho] at hd
   obtain ⟨e, he, hb⟩ := Array.any_eq_true'.1 hd
   simp only [Bool.and_eq_true, Bool.or_eq_true, beq_iff_eq] at hb
   have hl := hj o ho e he hb.1
   rcases hb.2 with h1 | h1
   ·rw [← h1]; exact hl
   ·exact h.dep n e.on i (h e.on hl) h1
theorem DC.step {ops : Array Oper} {listed : Array Bool} (h : DC ops listed) {j : Nat} (hr : j ∈ Region.ready .any ops listed) : DC ops (listed.setIfInBounds j true) := by
 intro k hk o ho e he hb
 refine getD_set_true ?_
 by_cases hkj : j = k
 ·subst hkj
  obtain ⟨_, o', ho', hall⟩ := mem_ready.1 hr
  rw [ho] at ho'; cases ho'
  exact hall e he hb
 ·rw [getD_set_ne false hkj] at hk
  exact h k hk o ho e he hb
def Hn (ops : Array Oper) (j : Nat) (H : List Z6) : List Z6 := H.filter fun h => !U0 ops j h.i

def wpG (P : Program) (ops : Array Oper) (Q : Exit → Act → World → Prop) : Nat → List Z6 → Array Bool → Act → World → Prop
 | 0, _, listed, a, w => Region.ready .any ops listed = [] ∧ Q .normal a w
 | fuel + 1, H, listed, a, w =>
  (Region.ready .any ops listed = [] → Q .normal a w) ∧
  ∀ j ∈ Region.ready .any ops listed, wpOp P ops Q j (fun a' w' => (∀ h ∈ Hn ops j H, w'.heap[h.b]? = some h.o) ∧ wpG P ops Q fuel (Hn ops j H) (listed.setIfInBounds j true) a' w') a w

section draw
variable {P : Program} {ops : Array Oper} {Q : Exit → Act → World → Prop}

theorem A42 : ∀ (fuel : Nat) (H : List Z6) (listed : Array Bool) (a : Act) (w : World), wpG P ops Q fuel H listed a w → wpAny P .any ops Q fuel listed a w
 | 0, _, _, _, _, h => h
 | fuel + 1, _, _, _, _, h => ⟨h.1, fun j hj => wpOp_mono (fun a' w' h' => A42 fuel _ _ a' w' h'.2) (h.2 j hj)⟩

theorem A43 {j : Nat} {H H' : List Z6} (h : ∀ x ∈ H', x ∈ H) : ∀ x ∈ Hn ops j H', x ∈ Hn ops j H := by
 intro x hx
 simp only [Hn, List.mem_filter] at hx ⊢
 exact ⟨h x hx.1, hx.2⟩
theorem A3y : ∀ (fuel : Nat) {H H' : List Z6} (_ : ∀ x ∈ H', x ∈ H) (listed : Array Bool) (a : Act) (w : World), wpG P ops Q fuel H listed a w → wpG P ops Q fuel H' listed a w
 | 0, _, _, _, _, _, _, h => h
 | fuel + 1, _, _, hs, _, _, _, h => ⟨h.1, fun j hj => wpOp_mono (fun _ _ h' => ⟨fun x hx => h'.1 x (A43 hs x hx), A3y fuel (A43 hs) _ _ _ h'.2⟩) (h.2 j hj)⟩

theorem A8c {i : Nat} {oi : Oper} {v : Value} {S : World → Prop} {Hx : List Z6} (hi : ops[i]? = some oi) (hsel : ∀ (j : Nat) (o : Oper) cs b, ops[j]? = some o → o.op ≠ .select cs b)
  (hQ : ∀ c a w, Q (.panic c) (a.put oi.dst v) w → Q (.panic c) a w) (hxi : ∀ h ∈ Hx, h.i = i) (hxs : ∀ w : World, (∀ h ∈ Hx, w.heap[h.b]? = some h.o) → S w) :
  ∀ (fuel : Nat) (H : List Z6) (listed : Array Bool) (a : Act) (w : World), DC ops listed →
   (∀ j oj, ops[j]? = some oj → j ≠ i → listed.getD j true = false → (∀ e ∈ oj.after, Region.binds .any e = true → e.on ≠ i) → oi.apart ops oj = true) →
   i ∈ Region.ready .any ops listed → YieldsIf P ops S oi v a →
   wpG P ops Q fuel (Hx ++ H) (listed.setIfInBounds i true) (a.put oi.dst v) w → (∀ h ∈ Hx ++ H, w.heap[h.b]? = some h.o) → wpG P ops Q (fuel + 1) H listed a w := by
 intro fuel
 induction fuel with
 | zero =>
  intro H listed a w _ _ hr hy HH hH
  refine ⟨fun h => (by rw [h] at hr; cases hr), fun j hj => ?_⟩
  by_cases hji : j = i
  ·subst hji
   exact hy.wpOp hi (hxs w fun h hh => hH h (List.mem_append_left _ hh)) ⟨fun h hh => hH h (List.mem_append_right _ (List.mem_filter.1 hh).1), HH⟩
  ·have := ready_mono hj hji
   rw [HH.1] at this
   cases this
 | succ fuel ih =>
  intro H listed a w hdc hfree hr hy HH hH
  refine ⟨fun h => (by rw [h] at hr; cases hr), fun j hj => ?_⟩
  by_cases hji : j = i
  ·subst hji
   refine hy.wpOp hi (hxs w fun h hh => hH h (List.mem_append_left _ hh)) ⟨fun h hh => hH h (List.mem_append_right _ (List.mem_filter.1 hh).1), ?_⟩
   exact A3y _ (fun x hx => List.mem_append_right _ (List.mem_filter.1 hx).1) _ _ _ HH
  ·have h1 := HH.2 j (ready_mono hj hji)
   obtain ⟨hjun, oj, hoj, hall⟩ := mem_ready.1 hj
   have hnot : ∀ e ∈ oj.after, Region.binds .any e = true → e.on ≠ i := fun e he hb heq => by
    have h1 := hall e he hb
    have h0 := (mem_ready.1 hr).1
    rw [heq] at h1
    rcases Nat.lt_or_ge i listed.size with h' | h'
    ·simp [h'] at h0 h1; rw [h0] at h1; cases h1
    ·simp [Array.getElem?_eq_none h'] at h1
   have hnodep : U0 ops j i = false := by
    cases hdd : U0 ops j i with
    | false => rfl
    | true =>
     have h1 := hdc.dep 4 j i (fun o ho e he hb => by rw [hoj] at ho; cases ho; exact hall e he hb) hdd
     have h0 := (mem_ready.1 hr).1
     rcases Nat.lt_or_ge i listed.size with h' | h'
     ·simp [h'] at h0 h1; rw [h0] at h1; cases h1
     ·simp [Array.getElem?_eq_none h'] at h1
   have hHn : Hn ops j (Hx ++ H) = Hx ++ Hn ops j H := by
    simp only [Hn, List.filter_append]
    congr 1
    rw [List.filter_eq_self]
    intro x hx
    rw [hxi x hx, hnodep]; rfl
   rw [hHn] at h1
   have h2 := wpOp_putIf hoj (hfree j oj hoj hji hjun hnot) (fun cs b => hsel i oi cs b hi) (fun cs b => hsel j oj cs b hoj) hQ hy h1
   have hfree' : ∀ k ok, ops[k]? = some ok → k ≠ i → (listed.setIfInBounds j true).getD k true = false →
     (∀ e ∈ ok.after, Region.binds .any e = true → e.on ≠ i) → oi.apart ops ok = true := fun k ok hk hki hun hno => by
    refine hfree k ok hk hki ?_ hno
    by_cases hjk : j = k
    ·subst hjk; exact hjun
    ·rw [getD_set_ne true hjk] at hun; exact hun
   refine wpOp_mono (fun a' w' h3 => ?_) h2
   obtain ⟨hy', hkeeps, hrest⟩ := h3
   refine ⟨fun h hh => hkeeps h (List.mem_append_right _ hh), ?_⟩
   refine ih (Hn ops j H) (listed.setIfInBounds j true) a' w' (hdc.step hj) hfree' (ready_mono hr (Ne.symm hji)) hy' ?_ hkeeps
   rw [Array.setIfInBounds_comm _ _ hji]
   exact hrest
end draw

structure K7 (P : Program) (Γ : F8) (ops : Array Oper) (K : Po) (H : List (Nat × Nat)) (fuel : Nat) (listed : List Bool) (σ : Sy) : Prop where
 run : ∀ a w, St Γ σ a w → ∀ Hs : List Z6, (Hs.map fun h => (h.i, h.b)) = H → (∀ h ∈ Hs, w.heap[h.b]? = some h.o) → DC ops listed.toArray → wpG P ops (A13 Γ K) fuel Hs listed.toArray a w

def V1 (K : Po) : Prop := ∀ c σ, ¬ K (.panic c) σ

section anyrules
variable {P : Program} {Γ : F8} {K : Po} {ops : Array Oper} {H : List (Nat × Nat)} {env : H1} {hp : List A1} {G : IM} {fuel : Nat} {listed l' : List Bool}
variable {op : Op} {ty : TypeId} {pos : String} {af : Array Edge} {gd : Option (Nat × Bool)}

theorem St.drawn {σ : Sy} {a : Act} {w : World} (h : St Γ σ a w) (n : Nat) : St Γ σ a { w with drawn := n } := by
 have e : ∀ k : Nat, ({ w with drawn := n } : World).heap[k]? = w.heap[k]? := fun _ => rfl
 refine ⟨h.size, h.nod, h.env, ⟨⟨h.res.own.inn, fun x hx => A1.ok_ext (h.res.own.ok x hx) fun b _ => e b, h.res.own.nodup, h.res.own.disj⟩, ⟨h.res.ext.os, h.res.ext.tape, h.res.ext.output, h.res.ext.size, h.res.ext.block⟩, h.res.le, h.res.fresh, h.res.ofresh, h.res.fz⟩⟩

theorem A8d {ι : Type} {S : ι → Sy} {φ : ι → Prop} {μ : ι → Nat} {i : ι} (h : V1 K) : V1 (A0D K S φ μ i) := A8b h

theorem I7 {id : Nat} {σ : Sy} (hm : P.follows .mixedOrders = true) {n : Nat} (hn : ops.size = n) (h : K7 P Γ ops K [] n (List.replicate n false) σ) : H8 P Γ (.region id ops true) K σ := by
 refine ⟨fun a w hs => ?_⟩
 refine wp_region_any hm ?_
 rw [hn]
 have := h.run a { w with drawn := w.drawn + 1 } (hs.drawn _) [] rfl (by simp) (by
  intro j hj
  exfalso
  simp only [List.toArray_replicate] at hj
  by_cases hjn : j < n
  ·simp [hjn] at hj
  ·simp [hjn] at hj)
 have h2 := A42 _ _ _ _ _ this
 simpa using h2

theorem aD {σ : Sy} (hr : Region.ready .any ops listed.toArray = []) (h : K .normal σ) : K7 P Γ ops K H fuel listed σ := by
 refine ⟨fun a w hs Hs _ _ _ => ?_⟩
 cases fuel with
 | zero => exact ⟨hr, σ, hs, h⟩
 | succ f => exact ⟨fun _ => ⟨σ, hs, h⟩, by rw [hr]; simp⟩

def A0G (ops : Array Oper) (listed : List Bool) (i : Nat) : Bool :=
 Region.noSelect ops && Region.free .any ops listed.toArray i && (Region.ready .any ops listed.toArray).contains i

theorem A3z {i : Nat} {d : Option Nat} {v : Value} {Hx : List (Nat × Nat)} (hi : ops[i]? = some ⟨d, op, ty, pos, af, gd⟩) (hK : V1 K) {σ σ' : Sy}
  (hxi : ∀ h ∈ Hx, h.1 = i)
  (hy : ∀ a w, St Γ σ a w → ∃ Hr : List Z6, (Hr.map fun h => (h.i, h.b)) = Hx ∧ (∀ h ∈ Hr, w.heap[h.b]? = some h.o) ∧ ∃ S : World → Prop, (∀ w : World, (∀ h ∈ Hr, w.heap[h.b]? = some h.o) → S w) ∧ YieldsIf P ops S ⟨d, op, ty, pos, af, gd⟩ v a)
  (hput : ∀ a w, St Γ σ a w → St Γ σ' (a.put d v) w)
  (hq : A0G ops listed i = true) (hl : listed.set i true = l')
  (k : K7 P Γ ops K (Hx ++ H) fuel l' σ') : K7 P Γ ops K H (fuel + 1) listed σ := by
 refine ⟨fun a w hs Hs hHs hall hdc => ?_⟩
 simp only [A0G, Bool.and_eq_true] at hq
 obtain ⟨⟨hs1, hs2⟩, hs3⟩ := hq
 obtain ⟨Hr, hr1, hr2, S', hS', hyi⟩ := hy a w hs
 have hall' : ∀ h ∈ Hr ++ Hs, w.heap[h.b]? = some h.o := by
  intro x hx
  rcases List.mem_append.1 hx with hx | hx
  ·exact hr2 x hx
  ·exact hall x hx
 refine A8c hi (Region.noSelect_spec hs1) (by rintro c a w ⟨σ, _, hh⟩; exact absurd hh (hK c σ)) (Hx := Hr) ?_ hS' fuel Hs listed.toArray a w hdc
  (Region.free_spec hi hs2) (by simpa using hs3) hyi ?_ hall'
 ·intro h hh
  exact hxi (h.i, h.b) (by rw [← hr1]; exact List.mem_map.2 ⟨h, hh, rfl⟩)
 ·have := k.run (a.put d v) w (hput a w hs) (Hr ++ Hs) (by simp [hr1, hHs]) hall' (by rw [← hl]; simpa using hdc.step (j := i) (by simpa using hs3))
  rw [← hl] at this
  simpa using this

theorem A16 {i d b : Nat} {v : Value} (hi : ops[i]? = some ⟨some d, op, ty, pos, af, gd⟩) (hK : V1 K)
  (h : A0F P Γ ⟨env, hp, G⟩ op ty b v) (hw : J1 ops env gd = some true) (hq : A0G ops listed i = true) (hd : Nat.blt d Γ.n = true)
  (hl : listed.set i true = l')
  (k : K7 P Γ ops K ((i, b) :: H) fuel l' ⟨(d, v) :: env, hp, G⟩) : K7 P Γ ops K H (fuel + 1) listed ⟨env, hp, G⟩ := by
 refine A3z (Hx := [(i, b)]) hi hK (by simp) ?_ (fun a w hs => hs.put d v (by simpa using hd) hs.res) hq hl k
 intro a w hs
 obtain ⟨hb, hrun⟩ := h.run a w hs
 have hob : w.heap[b]? = some w.heap[b] := Array.getElem?_eq_getElem hb
 refine ⟨[⟨i, b, w.heap[b]⟩], rfl, by simp, fun w' => w'.heap[b]? = some w.heap[b], fun w' h => h _ List.mem_cons_self, .inl ⟨A0E hs.env hw, fun w' hw' => hrun w' (by rw [hw', hob]) _ _ _ _⟩⟩

theorem H2 {i d : Nat} {v : Value} (hi : ops[i]? = some ⟨some d, op, ty, pos, af, gd⟩) (hK : V1 K)
  (h : C9 P Γ ⟨env, hp, G⟩ op ty v) (hw : J1 ops env gd = some true) (hq : A0G ops listed i = true) (hd : Nat.blt d Γ.n = true)
  (hl : listed.set i true = l')
  (k : K7 P Γ ops K H fuel l' ⟨(d, v) :: env, hp, G⟩) : K7 P Γ ops K H (fuel + 1) listed ⟨env, hp, G⟩ := by
 refine A3z (Hx := []) hi hK (by simp) ?_ (fun a w hs => hs.put d v (by simpa using hd) hs.res) hq hl k
 intro a w hs
 exact ⟨[], rfl, by simp, fun _ => True, fun _ _ => trivial, .inl ⟨A0E hs.env hw, fun w' _ => h.run a w hs _ _ _ _ w'⟩⟩

theorem aK {i d : Nat} (hi : ops[i]? = some ⟨some d, op, ty, pos, af, gd⟩) (hK : V1 K)
  (hw : J1 ops env gd = some false) (hq : A0G ops listed i = true) (hd : Nat.blt d Γ.n = true)
  (hl : listed.set i true = l')
  (k : K7 P Γ ops K H fuel l' ⟨(d, undef) :: env, hp, G⟩) : K7 P Γ ops K H (fuel + 1) listed ⟨env, hp, G⟩ := by
 refine A3z (Hx := []) hi hK (by simp) ?_ (fun a w hs => hs.put d undef (by simpa using hd) hs.res) hq hl k
 intro a w hs
 exact ⟨[], rfl, by simp, fun _ => True, fun _ _ => trivial, .inr ⟨A0E hs.env hw, rfl⟩⟩

theorem A0U {i d : Nat} {p : Prop} [Decidable p] (hi : ops[i]? = some ⟨some d, op, ty, pos, af, gd⟩) (hK : V1 K)
  (h : C9 P Γ ⟨env, hp, G⟩ op ty (.bool (decide p))) (hw : J1 ops env gd = some true) (hq : A0G ops listed i = true) (hd : Nat.blt d Γ.n = true)
  (hl : listed.set i true = l')
  (kt : p → K7 P Γ ops K H fuel l' ⟨(d, .bool true) :: env, hp, G⟩) (kf : ¬ p → K7 P Γ ops K H fuel l' ⟨(d, .bool false) :: env, hp, G⟩) :
  K7 P Γ ops K H (fuel + 1) listed ⟨env, hp, G⟩ := by
 by_cases hpp : p
 ·exact H2 hi hK (by rw [decide_eq_true hpp] at h; exact h) hw hq hd hl (kt hpp)
 ·exact H2 hi hK (by rw [decide_eq_false hpp] at h; exact h) hw hq hd hl (kf hpp)

structure T1 (P : Program) (Γ : F8) (ops : Array Oper) (K : Po) (H : List (Nat × Nat)) (fuel : Nat) (listed : List Bool) (j : Nat) (σ : Sy) : Prop where
 run : ∀ a w, St Γ σ a w → ∀ Hs : List Z6, (Hs.map fun h => (h.i, h.b)) = H → (∀ h ∈ Hs, w.heap[h.b]? = some h.o) → DC ops listed.toArray → j ∈ Region.ready .any ops listed.toArray →
  wpOp P ops (A13 Γ K) j (fun a' w' => (∀ h ∈ Hn ops j Hs, w'.heap[h.b]? = some h.o) ∧ wpG P ops (A13 Γ K) fuel (Hn ops j Hs) (listed.toArray.setIfInBounds j true) a' w') a w

theorem aO {j : Nat} {σ : Sy} (hr : Region.ready .any ops listed.toArray = [j]) (h : T1 P Γ ops K H fuel listed j σ) : K7 P Γ ops K H (fuel + 1) listed σ := by
 refine ⟨fun a w hs Hs hHs hall hdc => ?_⟩
 refine ⟨fun h0 => (by rw [hr] at h0; cases h0), fun k hk => ?_⟩
 have hk' := hk
 rw [hr] at hk
 simp at hk; subst hk
 exact h.run a w hs Hs hHs hall hdc hk'
theorem A8e {j : Nat} {d : Option Nat} {mods : List Nat} {K' : Sy → Prop} {σ : Sy} (hi : ops[j]? = some ⟨d, op, ty, pos, af, gd⟩)
  (h : S6 P Γ σ d op ty mods K') (hw : J1 ops σ.env gd = some true) (hl : listed.set j true = l')
  (hm : ∀ p ∈ H, U0 ops j p.1 = true ∨ p.2 ∉ mods)
  (k : ∀ σ', K' σ' → K7 P Γ ops K (H.filter fun p => !U0 ops j p.1) fuel l' σ') : T1 P Γ ops K H fuel listed j σ := by
 refine ⟨fun a w hs Hs hHs hall hdc hrd => ?_⟩
 unfold wpOp
 simp only [hi, A0E hs.env hw, if_true]
 refine .inl (h.run a w hs pos af gd _ _ fun a' w' σ' h1 h2 h3 => ?_)
 have hkeep : ∀ h ∈ Hn ops j Hs, w'.heap[h.b]? = some h.o := by
  intro x hx
  obtain ⟨hx1, hx2⟩ := List.mem_filter.1 hx
  have hp : (x.i, x.b) ∈ H := by rw [← hHs]; exact List.mem_map.2 ⟨x, hx1, rfl⟩
  have ho := hall x hx1
  rcases hm _ hp with h | h
  ·simp [h] at hx2
  ·rw [h2.block x.b (X4 ho) h, ho]
 refine ⟨hkeep, ?_⟩
 have := (k σ' h3).run a' w' h1 (Hn ops j Hs) (by
  subst hHs
  simp [Hn, List.filter_map, Function.comp_def]) hkeep (by rw [← hl]; simpa using hdc.step hrd)
 rw [← hl] at this
 simpa using this

end anyrules

structure J4 where
 size : Nat
 bytes : Nat
 zs : List Value
 desc : TypeDesc

class E6 (P : Program) (t : TypeId) (i : outParam J4) : Prop where
 info : ∃ inf, P.info? t = some inf ∧ inf.size = i.size ∧ inf.bytes = i.bytes ∧ ∃ z, inf.zero = some z ∧ z.cells = ⟨i.zs⟩
 und : P.underlying t = some i.desc

class V7 (P : Program) (t : TypeId) (sz : outParam Nat) (bytes : outParam Nat) (zs : outParam (List Value)) : Prop where
 ok : ∃ d, E6 P t ⟨sz, bytes, zs, d⟩
 len : zs.length = sz

def A0H : TypeDesc → Bool
 | .struct _ | .array _ _ => true
 | _ => false

theorem A44 {P : Program} {t : TypeId} {d : TypeDesc} (h : P.underlying t = some d) (w : World) : (isAgg t).run P w = .ok (A0H d) w := by
 simp only [isAgg, Sem.run_bind, run_underlying h, Result.andThen_ok]
 cases d <;> rfl

class U1 (P : Program) (s : TypeId) (f : Nat) (off : outParam Nat) (sz : outParam Nat) (agg : outParam Bool) : Prop where
 ok : ∃ fs fl d inf, P.underlying s = some (.struct fs) ∧ fs[f]? = some fl ∧ fl.offset = off ∧ P.info? fl.type = some inf ∧ inf.size = sz ∧ sz ≠ 0 ∧ P.underlying fl.type = some d ∧ A0H d = agg

class B1 (P : Program) (f : FuncId) : Prop where
 ok : ∃ fn, P.funcs[f]? = some fn ∧ fn.body.isNone = false ∧ (fn.name == "runtime.NumGoroutine") = false

def Z7 : List Value → Nat → Nat → Option (List Value)
 | _, 0, 0 => some []
 | [], _, _ => none
 | _ :: r, off + 1, n => Z7 r off n
 | v :: r, 0, n + 1 => match Z7 r 0 n with
  | some l => some (v :: l)
  | none => none

theorem A2G : ∀ {cs : List Value} {off n : Nat} {vs : List Value}, Z7 cs off n = some vs → vs.length = n ∧ ∀ j v, vs[j]? = some v → cs[off + j]? = some v
 | cs, 0, 0, vs, h => by cases cs <;> (simp [Z7] at h; subst h; simp)
 | [], 0, n + 1, vs, h => by simp [Z7] at h
 | [], off + 1, n, vs, h => by cases n <;> simp [Z7] at h
 | c :: r, off + 1, n, vs, h => by
  have h' : Z7 r off n = some vs := by cases n <;> simpa [Z7] using h
  obtain ⟨h1, h2⟩ := A2G h'
  exact ⟨h1, fun j v hv => by have := h2 j v hv; rw [show off + 1 + j = (off + j) + 1 by omega]; simpa using this⟩
 | c :: r, 0, n + 1, vs, h => by
  simp only [Z7] at h
  split at h
  ·rename_i l hl
   simp at h; subst h
   obtain ⟨h1, h2⟩ := A2G hl
   refine ⟨by simp [h1], fun j v hv => ?_⟩
   cases j with
   | zero => simpa using hv
   | succ j => have := h2 j v (by simpa using hv); simpa using this
  ·cases h

section laws
variable {P : Program} {Γ : F8} {env : H1} {hp : List A1} {G : IM} {ty : TypeId}

theorem qM {x : Operand} {v : Value} (h : evo env x = some v) : C9 P Γ ⟨env, hp, G⟩ (.move x) ty v :=
 by refine ⟨?_⟩; exact fun a _ hs _ _ _ _ w => by simp [execOp, (hs.evo h : a.eval x = v)]
theorem qA {x : Operand} {v : Value} (h : evo env x = some v) : C9 P Γ ⟨env, hp, G⟩ (.assign x) ty v :=
 by refine ⟨?_⟩; exact fun a _ hs _ _ _ _ w => by simp [execOp, (hs.evo h : a.eval x = v)]
theorem L4 {c x y : Operand} {v : Value} (hc : evo env c = some (.bool true)) (h : evo env x = some v) : C9 P Γ ⟨env, hp, G⟩ (.pick c x y) ty v :=
 by refine ⟨?_⟩; exact fun a _ hs _ _ _ _ w => by simp [execOp, asBool, (hs.evo hc : a.eval c = _), (hs.evo h : a.eval x = v)]
theorem M2 {c x y : Operand} {v : Value} (hc : evo env c = some (.bool false)) (h : evo env y = some v) : C9 P Γ ⟨env, hp, G⟩ (.pick c x y) ty v :=
 by refine ⟨?_⟩; exact fun a _ hs _ _ _ _ w => by simp [execOp, asBool, (hs.evo hc : a.eval c = _), (hs.evo h : a.eval y = v)]
theorem A45 {x : Operand} {t : TypeId} {b : Bool} (h : evo env x = some (.bool b)) : C9 P Γ ⟨env, hp, G⟩ (.unOp .not t x) ty (.bool !b) :=
 by refine ⟨?_⟩; exact fun a _ hs _ _ _ _ w => by simp [execOp, Op.unary, (hs.evo h : a.eval x = _)]
theorem pNt {x : Operand} {t : TypeId} (h : evo env x = some (.bool true)) : C9 P Γ ⟨env, hp, G⟩ (.unOp .not t x) ty (.bool false) := A45 h
theorem pNf {x : Operand} {t : TypeId} (h : evo env x = some (.bool false)) : C9 P Γ ⟨env, hp, G⟩ (.unOp .not t x) ty (.bool true) := A45 h
theorem pX {x : Operand} {vs : List Value} {i : Nat} {v : Value} (h : evo env x = some (.tuple ⟨vs⟩)) (hv : vs[i]? = some v) : C9 P Γ ⟨env, hp, G⟩ (.extract x i) ty v :=
 by refine ⟨?_⟩; exact fun a _ hs _ _ _ _ w => by simp [execOp, Instr.extract, (hs.evo h : a.eval x = _), hv]
theorem A6 {x : Operand} {p : Addr} (h : evo env x = some (.pointer (some p))) : C9 P Γ ⟨env, hp, G⟩ (.nilCheck x) ty (.pointer (some p)) :=
 by refine ⟨?_⟩; exact fun a _ hs _ _ _ _ w => by simp [execOp, (hs.evo h : a.eval x = _)]

theorem A1z (b o n : Nat) : (⟨b, o, none⟩ : Addr).add n = ⟨b, o + n, none⟩ := by
 unfold Addr.add; split
 ·rename_i h; subst h; rfl
 ·rfl

theorem qF {x : Operand} {s : TypeId} {f b o off sz : Nat} {ag : Bool} [hI : U1 P s f off sz ag] (h : evo env x = some (.pointer (some ⟨b, o, none⟩))) :
  C9 P Γ ⟨env, hp, G⟩ (.fieldAddr s x f) ty (.pointer (some ⟨b, o + off, none⟩)) := by
 refine ⟨fun a _ hs _ _ _ _ w => ?_⟩
 obtain ⟨fs, fl, d, inf, h1, h2, h3, h4, h5, h6, _⟩ := hI.ok
 have hx : a.eval x = _ := hs.evo h
 subst h3 h5
 simp [execOp, Instr.fieldAt, hx, run_underlying h1, h2, Instr.sureAddr, fieldPlace, sizeOf, typeInfo, h4, h6, A1z]
theorem A5 {x : Operand} {s : TypeId} {f b off sz : Nat} {ag : Bool} [hI : U1 P s f off sz ag] (h : evo env x = some (.pointer (some ⟨b, 0, none⟩))) :
  C9 P Γ ⟨env, hp, G⟩ (.fieldAddr s x f) ty (.pointer (some ⟨b, off, none⟩)) := by
 have := qF (P := P) (Γ := Γ) (hp := hp) (G := G) (ty := ty) (s := s) (f := f) h
 simpa using this

theorem A1f {k : IntKind} (n : Int) (hk : k = .i64) (h1 : -9223372036854775808 ≤ n) (h2 : n ≤ 9223372036854775807) : k.wrap n = n := by
 subst hk; exact IntWalk.i64_in n (by omega)

theorem O6 {x y : Operand} {t t' : TypeId} {m n : Int} (hx : evo env x = some (.int .i64 m)) (hy : evo env y = some (.int .i64 n))
  (h1 : -9223372036854775808 ≤ m + n) (h2 : m + n ≤ 9223372036854775807) : C9 P Γ ⟨env, hp, G⟩ (.binOp .add t x y t') ty (.int .i64 (m + n)) :=
 by refine ⟨?_⟩; exact fun a _ hs _ _ _ _ w => by simp [execOp, eqGuard, binOp, Op.intArith, (hs.evo hx : a.eval x = _), (hs.evo hy : a.eval y = _), A1f _ rfl h1 h2]
theorem A0V {x y : Operand} {t t' : TypeId} {m n : Int} (hx : evo env x = some (.int .i64 m)) (hy : evo env y = some (.int .i64 n))
  (h1 : -9223372036854775808 ≤ m - n) (h2 : m - n ≤ 9223372036854775807) : C9 P Γ ⟨env, hp, G⟩ (.binOp .sub t x y t') ty (.int .i64 (m - n)) :=
 by refine ⟨?_⟩; exact fun a _ hs _ _ _ _ w => by simp [execOp, eqGuard, binOp, Op.intArith, (hs.evo hx : a.eval x = _), (hs.evo hy : a.eval y = _), A1f _ rfl h1 h2]
theorem A3A {x y : Operand} {t t' : TypeId} {m n : Int} (hx : evo env x = some (.int .i64 m)) (hy : evo env y = some (.int .i64 n))
  (h1 : -9223372036854775808 ≤ m * n) (h2 : m * n ≤ 9223372036854775807) : C9 P Γ ⟨env, hp, G⟩ (.binOp .mul t x y t') ty (.int .i64 (m * n)) :=
 by refine ⟨?_⟩; exact fun a _ hs _ _ _ _ w => by simp [execOp, eqGuard, binOp, Op.intArith, (hs.evo hx : a.eval x = _), (hs.evo hy : a.eval y = _), A1f _ rfl h1 h2]
theorem A8f {x : Operand} {t : TypeId} {n : Int} (hx : evo env x = some (.int .i64 n))
  (h1 : -9223372036854775808 ≤ -n) (h2 : -n ≤ 9223372036854775807) : C9 P Γ ⟨env, hp, G⟩ (.unOp .neg t x) ty (.int .i64 (-n)) :=
 by refine ⟨?_⟩; exact fun a _ hs _ _ _ _ w => by simp [execOp, Op.unary, Op.intArith, (hs.evo hx : a.eval x = _), A1f _ rfl h1 h2]
theorem A3B {x y : Operand} {t t' : TypeId} {m n : Int} (hx : evo env x = some (.int .i64 m)) (hy : evo env y = some (.int .i64 n)) (hn : n ≠ 0) :
  C9 P Γ ⟨env, hp, G⟩ (.binOp .rem t x y t') ty (.int .i64 (m.tmod n)) :=
 by refine ⟨?_⟩; exact fun a _ hs _ _ _ _ w => by simp [execOp, eqGuard, binOp, Op.intDiv, (hs.evo hx : a.eval x = _), (hs.evo hy : a.eval y = _), hn]
theorem A8g {x y : Operand} {t t' : TypeId} {m n : Int} (hx : evo env x = some (.int .i64 m)) (hy : evo env y = some (.int .i64 n)) (hn : n ≠ 0)
  (h1 : -9223372036854775808 ≤ m.tdiv n) (h2 : m.tdiv n ≤ 9223372036854775807) : C9 P Γ ⟨env, hp, G⟩ (.binOp .quo t x y t') ty (.int .i64 (m.tdiv n)) :=
 by refine ⟨?_⟩; exact fun a _ hs _ _ _ _ w => by simp [execOp, eqGuard, binOp, Op.intDiv, (hs.evo hx : a.eval x = _), (hs.evo hy : a.eval y = _), hn, A1f _ rfl h1 h2]

theorem qE {x y : Operand} {t t' : TypeId} {k : IntKind} {m n : Int} (hx : evo env x = some (.int k m)) (hy : evo env y = some (.int k n)) :
  C9 P Γ ⟨env, hp, G⟩ (.binOp .eql t x y t') ty (.bool (decide (m = n))) :=
 by
  refine ⟨fun a _ hs _ _ _ _ w => ?_⟩
  simp [execOp, eqGuard, binOp, Op.intCmp, (hs.evo hx : a.eval x = _), (hs.evo hy : a.eval y = _)]
  by_cases h : m = n <;> simp [h]
theorem N8 {x y : Operand} {t t' : TypeId} {k : IntKind} {m n : Int} (hx : evo env x = some (.int k m)) (hy : evo env y = some (.int k n)) :
  C9 P Γ ⟨env, hp, G⟩ (.binOp .neq t x y t') ty (.bool (decide (m ≠ n))) :=
 by
  refine ⟨fun a _ hs _ _ _ _ w => ?_⟩
  simp [execOp, eqGuard, binOp, Op.intCmp, (hs.evo hx : a.eval x = _), (hs.evo hy : a.eval y = _)]
  by_cases h : m = n <;> simp [h]
theorem M9 {x y : Operand} {t t' : TypeId} {k : IntKind} {m n : Int} (hx : evo env x = some (.int k m)) (hy : evo env y = some (.int k n)) :
  C9 P Γ ⟨env, hp, G⟩ (.binOp .lss t x y t') ty (.bool (decide (m < n))) :=
 by refine ⟨?_⟩; exact fun a _ hs _ _ _ _ w => by simp [execOp, eqGuard, binOp, Op.intCmp, (hs.evo hx : a.eval x = _), (hs.evo hy : a.eval y = _)]
theorem T2 {x y : Operand} {t t' : TypeId} {k : IntKind} {m n : Int} (hx : evo env x = some (.int k m)) (hy : evo env y = some (.int k n)) :
  C9 P Γ ⟨env, hp, G⟩ (.binOp .leq t x y t') ty (.bool (decide (m ≤ n))) :=
 by refine ⟨?_⟩; exact fun a _ hs _ _ _ _ w => by simp [execOp, eqGuard, binOp, Op.intCmp, (hs.evo hx : a.eval x = _), (hs.evo hy : a.eval y = _)]
theorem V8 {x y : Operand} {t t' : TypeId} {k : IntKind} {m n : Int} (hx : evo env x = some (.int k m)) (hy : evo env y = some (.int k n)) :
  C9 P Γ ⟨env, hp, G⟩ (.binOp .gtr t x y t') ty (.bool (decide (n < m))) :=
 by refine ⟨?_⟩; exact fun a _ hs _ _ _ _ w => by simp [execOp, eqGuard, binOp, Op.intCmp, (hs.evo hx : a.eval x = _), (hs.evo hy : a.eval y = _)]
theorem P6 {x y : Operand} {t t' : TypeId} {k : IntKind} {m n : Int} (hx : evo env x = some (.int k m)) (hy : evo env y = some (.int k n)) :
  C9 P Γ ⟨env, hp, G⟩ (.binOp .geq t x y t') ty (.bool (decide (n ≤ m))) :=
 by refine ⟨?_⟩; exact fun a _ hs _ _ _ _ w => by simp [execOp, eqGuard, binOp, Op.intCmp, (hs.evo hx : a.eval x = _), (hs.evo hy : a.eval y = _)]

theorem pLn {x : Operand} {t : TypeId} {i : J4} [hI : E6 P t i] {e : TypeId} (hd : i.desc = .slice e) {p : Option Addr} {n c : Nat} (hx : evo env x = some (.slice p n c)) :
  C9 P Γ ⟨env, hp, G⟩ (.call ⟨.builtin .len, ⟨[x]⟩, ⟨[t]⟩⟩) ty (.int .i64 n) := by
 refine ⟨fun a _ hs _ _ _ _ w => ?_⟩
 have hu := hI.und
 rw [hd] at hu
 simp [execOp, resolve, invoke, builtin, Builtin.len_, (hs.evo hx : a.eval x = _), run_underlying hu, goInt]
theorem M0 {x : Operand} {t : TypeId} {i : J4} [hI : E6 P t i] (hd : i.desc = .string) {s : ByteArray} (hx : evo env x = some (.string s)) :
  C9 P Γ ⟨env, hp, G⟩ (.call ⟨.builtin .len, ⟨[x]⟩, ⟨[t]⟩⟩) ty (.int .i64 s.size) := by
 refine ⟨fun a _ hs _ _ _ _ w => ?_⟩
 have hu := hI.und
 rw [hd] at hu
 simp [execOp, resolve, invoke, builtin, Builtin.len_, (hs.evo hx : a.eval x = _), run_underlying hu, goInt]

theorem A46 {x y : Operand} {t e : TypeId} {i ie : J4} [hI : E6 P t i] (hd : i.desc = .slice e) [hE : E6 P e ie] {b o n c : Nat} {k : IntKind} {j : Int}
  (hx : evo env x = some (.slice (some ⟨b, o, none⟩) n c)) (hy : evo env y = some (.int k j)) (h0 : 0 ≤ j) (h1 : j < n) :
  C9 P Γ ⟨env, hp, G⟩ (.indexAddr t x y) ty (.pointer (some ⟨b, o + j.toNat * ie.size, none⟩)) := by
 refine ⟨fun a _ hs _ _ _ _ w => ?_⟩
 have hu := hI.und
 rw [hd] at hu
 obtain ⟨inf, g1, g2, _⟩ := hE.info
 simp [execOp, Instr.indexAt, (hs.evo hx : a.eval x = _), (hs.evo hy : a.eval y = _), asIntOf, run_underlying hu, h0, h1, sizeOf, typeInfo, g1, g2, A1z]

theorem L9 {x y : Operand} {t e : TypeId} {i : J4} {sz by' : Nat} {zs : List Value} [hI : E6 P t i] (hd : i.desc = .slice e) [hE : V7 P e sz by' zs] {b o n c j : Nat} {k : IntKind}
  (hx : evo env x = some (.slice (some ⟨b, o, none⟩) n c)) (hy : evo env y = some (.int k (j : Int))) (h1 : j < n) :
  C9 P Γ ⟨env, hp, G⟩ (.indexAddr t x y) ty (.pointer (some ⟨b, o + j * sz, none⟩)) := by
 obtain ⟨d, hE⟩ := hE.ok
 have := A46 (P := P) (Γ := Γ) (hp := hp) (G := G) (ty := ty) (t := t) hd hx hy (by omega) (by omega)
 simpa using this
theorem A0l {fn : Fn} {xs ys : List Operand} {us vs : List Value} (hx : evl env xs = some us) (hy : evl env ys = some vs) :
  C9 P Γ ⟨env, hp, G⟩ (.makeFunc fn ⟨xs⟩ ⟨ys⟩) ty (.func fn ⟨us⟩ ⟨vs⟩) :=
 by refine ⟨?_⟩; exact fun a _ hs _ _ _ _ w => by simp [execOp, Instr.makeFunc, ← hs.evl hx, ← hs.evl hy]

theorem A8h {w : World} {b : Nat} {full : List Value} {e : TypeId} {f : Nat × Nat} (hb : w.heap[b]? = some (.cells full.toArray e f)) {o : Nat} {vs : List Value}
  (hv : ∀ j v, vs[j]? = some v → full[o + j]? = some v) : (loadCells ⟨b, o, none⟩ vs.length).run P w = .ok vs.toArray w :=
 run_loadCells_list w _ vs fun j v h => by rw [A1z]; simp [World.cell?, hb, hv j v h]

theorem A8i {w : World} {t : TypeId} {i : J4} [hI : E6 P t i] (hd : A0H i.desc = false) {b o : Nat} {v : Value} (h : w.cell? ⟨b, o, none⟩ = some v) :
  (Instr.loadAt t (.pointer (some ⟨b, o, none⟩))).run P w = .ok v w := by
 simp [Instr.loadAt, Instr.sureAddr, loadVar, A44 hI.und, hd, h]
theorem A8j {w : World} {t : TypeId} {i : J4} [hI : E6 P t i] (hd : A0H i.desc = true) {b o : Nat} {vs : List Value}
  (h : (loadCells ⟨b, o, none⟩ vs.length).run P w = .ok vs.toArray w) (hn : vs.length = i.size) :
  (Instr.loadAt t (.pointer (some ⟨b, o, none⟩))).run P w = .ok (.agg ⟨vs⟩) w := by
 obtain ⟨inf, g1, g2, _⟩ := hI.info
 rw [hn] at h
 simp [Instr.loadAt, Instr.sureAddr, loadVar, A44 hI.und, hd, sizeOf, typeInfo, g1, g2, h]

def At (hp : List A1) (G : IM) (b o : Nat) (vs : List Value) : Prop :=
 (∃ cs, A1.blk b cs ∈ hp ∧ ∀ j v, vs[j]? = some v → cs[o + j]? = some v) ∨
 (∃ n c el sz cs, A1.slc (some ⟨b, 0, none⟩) c el sz n cs ∈ hp ∧ ∀ j v, vs[j]? = some v → cs[o + j]? = some v) ∨
 (∃ full, G b = some full ∧ ∀ j v, vs[j]? = some v → full[o + j]? = some v)

theorem At.read {a : Act} {w : World} {b o : Nat} {vs : List Value} (h : At hp G b o vs) (hs : St Γ ⟨env, hp, G⟩ a w) :
  ∃ full e f, w.heap[b]? = some (.cells (full : List Value).toArray e f) ∧ ∀ j v, vs[j]? = some v → full[o + j]? = some v := by
 rcases h with ⟨cs, hm, hv⟩ | ⟨n, c, el, sz, cs, hm, hv⟩ | ⟨full, hg, hv⟩
 ·obtain ⟨e, he⟩ := hs.res.own.ok _ hm
  exact ⟨cs, e, _, he, hv⟩
 ·obtain ⟨_, h2⟩ := hs.res.own.ok _ hm
  rcases h2 with ⟨h2, _⟩ | ⟨g, cap, cur, h2, _, hg, _, _, _, ht⟩
  ·cases h2
  ·cases h2
   refine ⟨cur.toList, el, _, by simpa using hg, fun j v hj => ?_⟩
   have := hv j v hj
   rw [← ht, List.getElem?_take] at this
   split at this
   ·exact this
   ·cases this
 ·obtain ⟨e, f, hb⟩ := hs.res.own.inn b full hg
  exact ⟨full, e, f, hb, hv⟩

theorem J2 {x : Operand} {t : TypeId} {i : J4} [hI : E6 P t i] (hd : A0H i.desc = false) {b o : Nat} {v : Value}
  (hx : evo env x = some (.pointer (some ⟨b, o, none⟩))) (hv : At hp G b o [v]) : A0F P Γ ⟨env, hp, G⟩ (.load t x) ty b v := by
 refine ⟨fun a w hs => ?_⟩
 obtain ⟨full, e, f, hb, hf⟩ := hv.read hs
 refine ⟨X4 hb, fun w' hw' d pos af gd => ?_⟩
 have hc : w'.cell? ⟨b, o, none⟩ = some v := by simp [World.cell?, hw', hb, show full[o]? = some v from hf 0 v rfl]
 simp only [execOp, Sem.run_bind, (hs.evo hx : a.eval x = _), A8i hd hc]
 rfl
theorem C4 {x : Operand} {t : TypeId} {i : J4} [hI : E6 P t i] (hd : A0H i.desc = true) {b o : Nat} {vs : List Value}
  (hx : evo env x = some (.pointer (some ⟨b, o, none⟩))) (hv : At hp G b o vs) (hn : vs.length = i.size) : A0F P Γ ⟨env, hp, G⟩ (.load t x) ty b (.agg ⟨vs⟩) := by
 refine ⟨fun a w hs => ?_⟩
 obtain ⟨full, e, f, hb, hf⟩ := hv.read hs
 refine ⟨X4 hb, fun w' hw' d pos af gd => ?_⟩
 have hc := A8h (P := P) (w := w') (hw'.trans hb) hf
 simp only [execOp, Sem.run_bind, (hs.evo hx : a.eval x = _), A8j hd hc hn]
 rfl

theorem E7 {b : Nat} {cs : List Value} (hm : A1.blk b cs ∈ hp) : At hp G b 0 cs := .inl ⟨cs, hm, fun j u hj => by simpa using hj⟩
theorem A8k {b o : Nat} {cs : List Value} {v : Value} (hm : A1.blk b cs ∈ hp) (hv : cs[o]? = some v) : At hp G b o [v] :=
 .inl ⟨cs, hm, fun j u hj => by cases j <;> simp_all⟩
theorem A8l {b o n : Nat} {cs vs : List Value} (hm : A1.blk b cs ∈ hp) (hv : Z7 cs o n = some vs) : At hp G b o vs := .inl ⟨cs, hm, (A2G hv).2⟩

theorem A8m {t : TypeId} {i : J4} {sz by' : Nat} {zs : List Value} (h : E6 P t i) (h' : V7 P t sz by' zs) : i.size = sz := by
 obtain ⟨d, h'⟩ := h'.ok
 obtain ⟨i1, a1, a2, _⟩ := h.info
 obtain ⟨i2, b1, b2, _⟩ := h'.info
 rw [a1] at b1; cases b1
 rw [← a2, b2]
theorem A7 {x : Operand} {t : TypeId} {i : J4} {sz by' : Nat} {zs : List Value} [hI : E6 P t i] [hS : V7 P t sz by' zs] (hd : A0H i.desc = true) {b o : Nat} {cs vs : List Value}
  (hx : evo env x = some (.pointer (some ⟨b, o, none⟩))) (hm : A1.blk b cs ∈ hp := by repeat first | exact List.Mem.head _ | apply List.Mem.tail) (hv : Z7 cs o sz = some vs := by rfl) : A0F P Γ ⟨env, hp, G⟩ (.load t x) ty b (.agg ⟨vs⟩) :=
 C4 hd hx (A8l hm hv) (by rw [A8m hI hS]; exact (A2G hv).1)
theorem C1 {x : Operand} {t : TypeId} {i : J4} [hI : E6 P t i] (hd : A0H i.desc = false) {b o : Nat} {cs : List Value} {v : Value}
  (hx : evo env x = some (.pointer (some ⟨b, o, none⟩))) (hm : A1.blk b cs ∈ hp := by repeat first | exact List.Mem.head _ | apply List.Mem.tail) (hv : cs[o]? = some v := by rfl) : A0F P Γ ⟨env, hp, G⟩ (.load t x) ty b v :=
 J2 hd hx (A8k hm hv)
theorem A8n {b o c el sz n : Nat} {cs vs : List Value} (hm : A1.slc (some ⟨b, 0, none⟩) c el sz n cs ∈ hp) (hv : ∀ j v, vs[j]? = some v → cs[o + j]? = some v) : At hp G b o vs := .inr (.inl ⟨n, c, el, sz, cs, hm, hv⟩)
theorem U2 {b c el sz n : Nat} {cs : List Value} (hm : A1.slc (some ⟨b, 0, none⟩) c el sz n cs ∈ hp) : At hp G b 0 cs := .inr (.inl ⟨n, c, el, sz, cs, hm, fun j v hj => by simpa using hj⟩)
theorem M6 {b o : Nat} {full vs : List Value} (hg : G b = some full) (hv : ∀ j v, vs[j]? = some v → full[o + j]? = some v) : At hp G b o vs := .inr (.inr ⟨full, hg, hv⟩)

theorem N1 {x y : Operand} {t : TypeId} {i : J4} [hI : E6 P t i] (hd : i.desc = .string) {s : ByteArray} {k : IntKind} {j : Int} {b : UInt8}
  (hx : evo env x = some (.string s)) (hy : evo env y = some (.int k j)) (h0 : 0 ≤ j) (hb : s[j.toNat]? = some b) :
  C9 P Γ ⟨env, hp, G⟩ (.index t x y) ty (.int .u8 b.toNat) := by
 refine ⟨fun a _ hs _ _ _ _ w => ?_⟩
 have hu := hI.und
 rw [hd] at hu
 simp only [execOp, Instr.index, (hs.evo hx : a.eval x = _), (hs.evo hy : a.eval y = _), asIntOf, Sem.run_bind, Sem.run_pure, Result.andThen_ok, run_underlying hu, h0, if_true, hb]
theorem A1g {x y : Operand} {t t' : TypeId} {r s : ByteArray} (hx : evo env x = some (.string r)) (hy : evo env y = some (.string s)) (hs' : r.size + s.size ≤ 9223372036854775807) :
  C9 P Γ ⟨env, hp, G⟩ (.binOp .add t x y t') ty (.string (r ++ s)) := by
 refine ⟨fun a _ hs _ _ _ _ w => ?_⟩
 have : ¬ (((r.size + s.size : Nat) : Int) > IntKind.i64.max) := by simp [IntKind.max, IntKind.signed, IntKind.bits]; omega
 simp only [execOp, eqGuard, binOp, Op.stringOp, (hs.evo hx : a.eval x = _), (hs.evo hy : a.eval y = _), this, if_false]
 simp
theorem toList_eq (r s : ByteArray) : (r.toList == s.toList) = decide (r = s) := by
 by_cases h : r = s
 ·subst h; simp
 ·have : r.toList ≠ s.toList := by
   intro e
   apply h
   have := congrArg List.toArray e
   rw [ByteArray.toList_eq, ByteArray.toList_eq] at this
   cases r; cases s; simpa using this
  simp [h, this]
theorem A0W {x y : Operand} {t t' : TypeId} {r s : ByteArray} (hx : evo env x = some (.string r)) (hy : evo env y = some (.string s)) :
  C9 P Γ ⟨env, hp, G⟩ (.binOp .eql t x y t') ty (.bool (decide (r = s))) := by
 refine ⟨fun a _ hs _ _ _ _ w => ?_⟩
 simp only [execOp, eqGuard, binOp, Op.stringOp, (hs.evo hx : a.eval x = _), (hs.evo hy : a.eval y = _), toList_eq]
 simp
theorem A0m {x y : Operand} {t t' : TypeId} {r s : ByteArray} (hx : evo env x = some (.string r)) (hy : evo env y = some (.string s)) :
  C9 P Γ ⟨env, hp, G⟩ (.binOp .neq t x y t') ty (.bool (decide (r ≠ s))) := by
 refine ⟨fun a _ hs _ _ _ _ w => ?_⟩
 simp only [execOp, eqGuard, binOp, Op.stringOp, (hs.evo hx : a.eval x = _), (hs.evo hy : a.eval y = _), toList_eq]
 simp
theorem A47 {t : TypeId} {i : J4} [hI : E6 P t i] (hd : i.desc = .bool) (r s : Bool) (w : World) : (Op.equal t (.bool r) (.bool s)).run P w = .ok (r == s) w := by
 have hu := hI.und
 rw [hd] at hu
 have h : ∀ d, (Op.equalIn (d + 1) t (.bool r) (.bool s)).run P w = .ok (r == s) w := fun d => by
  simp only [Op.equalIn, Sem.run_bind, run_underlying hu, Result.andThen_ok, Sem.run_pure]
 exact h 9999
theorem A2H {x y : Operand} {t t' : TypeId} {i : J4} [hI : E6 P t i] (hd : i.desc = .bool) {r s : Bool} (hx : evo env x = some (.bool r)) (hy : evo env y = some (.bool s)) :
  C9 P Γ ⟨env, hp, G⟩ (.binOp .eql t x y t') ty (.bool (decide (r = s))) := by
 refine ⟨fun a _ hs _ _ _ _ w => ?_⟩
 simp only [execOp, eqGuard, binOp, (hs.evo hx : a.eval x = _), (hs.evo hy : a.eval y = _), Sem.run_bind, A47 hd, Sem.run_pure, Result.andThen_ok]
 cases r <;> cases s <;> rfl
theorem A3C {x y : Operand} {t t' : TypeId} {i : J4} [hI : E6 P t i] (hd : i.desc = .bool) {r s : Bool} (hx : evo env x = some (.bool r)) (hy : evo env y = some (.bool s)) :
  C9 P Γ ⟨env, hp, G⟩ (.binOp .neq t x y t') ty (.bool (decide (r ≠ s))) := by
 refine ⟨fun a _ hs _ _ _ _ w => ?_⟩
 simp only [execOp, eqGuard, binOp, (hs.evo hx : a.eval x = _), (hs.evo hy : a.eval y = _), Sem.run_bind, A47 hd, Sem.run_pure, Result.andThen_ok]
 cases r <;> cases s <;> rfl
end laws

section steps
variable {P : Program} {Γ : F8} {env : H1} {hp : List A1} {G : IM} {ty : TypeId}

theorem A48 (w : World) (hin : A12 G w) (cs : List Value) (e : TypeId) : N3 [] G w [.blk w.heap.size cs] G (w.alloc (.cells cs.toArray e)) := by
 have hb : (w.alloc (.cells cs.toArray e)).heap[w.heap.size]? = some (.cells cs.toArray e (0, 0)) := heap_alloc_new w _
 have hold : ∀ k, k < w.heap.size → (w.alloc (.cells cs.toArray e)).heap[k]? = w.heap[k]? := fun k hk => Below.heap_alloc w _ k hk
 refine ⟨⟨?_, ?_, by simp [Fp, A1.fp], ?_⟩, ⟨rfl, rfl, rfl, by simp, fun k hk _ => hold k hk⟩, A9.refl _, fun _ _ h => .inl h, ?_, fun b l h h0 => absurd h (by rw [h0]; simp)⟩
 ·intro b l hg
  obtain ⟨e', f', h'⟩ := hin b l hg
  exact ⟨e', f', by rw [hold b (X4 h')]; exact h'⟩
 ·intro x hx
  simp at hx; subst hx
  exact ⟨e, hb⟩
 ·intro b hb
  simp [Fp, A1.fp] at hb; subst hb
  cases hg : G w.heap.size with
  | none => rfl
  | some l => exact absurd (hin.lt hg) (by omega)
 ·intro b hb
  simp [Fp, A1.fp] at hb; subst hb
  exact .inl (Nat.le_refl _)

theorem St.step {a : Act} {w w' : World} {ins outs rest hp' : List A1} {G' : IM} (hs : St Γ ⟨env, hp, G⟩ a w) (p : hp.Perm (ins ++ rest)) (r : N3 ins G w outs G' w') (q : (outs ++ rest).Perm hp')
  {d : Option Nat} {v : Value} (hd : dok Γ.n d = true) : St Γ ⟨dpu d v env, hp', G'⟩ (a.put d v) w' :=
 hs.dput d v hd (((hs.res.perm p).frame r).perm q)

theorem A3D {d : Nat} {op : Op} {mk : Nat → Value} {cs : List Value} (hd : Nat.blt d Γ.n = true)
  (hrun : ∀ a w, St Γ ⟨env, hp, G⟩ a w → ∃ e, ∀ d pos af gd, (execOp a.eval ⟨d, op, ty, pos, af, gd⟩).run P w = .ok (.value (mk w.heap.size)) (w.alloc (.cells cs.toArray e))) :
  S6 P Γ ⟨env, hp, G⟩ (some d) op ty [] (fun σ' => ∃ b, σ' = ⟨(d, mk b) :: env, .blk b cs :: hp, G⟩) := by
 refine ⟨fun a w hs pos af gd Q next hn => ?_⟩
 obtain ⟨e, hr⟩ := hrun a w hs
 simp only [Oper.wp, hr, Oper.upon]
 have hr' := A48 w hs.res.own.inn cs e
 exact hn _ _ _ (hs.step (ins := []) (rest := hp) (List.Perm.refl _) hr' (List.Perm.refl _) (d := some d) hd) hr'.ext ⟨w.heap.size, rfl⟩

theorem K0 {d : Nat} {x : Operand} {t : TypeId} {vs : List Value} (hx : evo env x = some (.agg ⟨vs⟩)) (hd : Nat.blt d Γ.n = true) :
  S6 P Γ ⟨env, hp, G⟩ (some d) (.box t x) ty [] (fun σ' => ∃ b, σ' = ⟨(d, .pointer (some ⟨b, 0, none⟩)) :: env, .blk b vs :: hp, G⟩) :=
 A3D hd fun a w hs => ⟨t, fun _ _ _ _ => by simp [execOp, Instr.box, newVar, newRow, newObj, Sem.run, (hs.evo hx : a.eval x = _), Value.cells]⟩
theorem A17 {d : Nat} {x : Operand} {t : TypeId} {v : Value} (hx : evo env x = some v) (hv : v.cells = ⟨[v]⟩) (hd : Nat.blt d Γ.n = true) :
  S6 P Γ ⟨env, hp, G⟩ (some d) (.box t x) ty [] (fun σ' => ∃ b, σ' = ⟨(d, .pointer (some ⟨b, 0, none⟩)) :: env, .blk b [v] :: hp, G⟩) :=
 A3D hd fun a w hs => ⟨t, fun _ _ _ _ => by simp [execOp, Instr.box, newVar, newRow, newObj, Sem.run, (hs.evo hx : a.eval x = _), hv]⟩
theorem C0 {d : Nat} {t : TypeId} {sz by' : Nat} {zs : List Value} [hI : V7 P t sz by' zs] (hd : Nat.blt d Γ.n = true) :
  S6 P Γ ⟨env, hp, G⟩ (some d) (.alloc t) ty [] (fun σ' => ∃ b, σ' = ⟨(d, .pointer (some ⟨b, 0, none⟩)) :: env, .blk b zs :: hp, G⟩) :=
 A3D hd fun a w hs => ⟨t, fun _ _ _ _ => by
  obtain ⟨_, hI⟩ := hI.ok
  obtain ⟨inf, g1, _, _, z, g4, g5⟩ := hI.info
  simp [execOp, Instr.alloc, zeroValue, typeInfo, g1, g4, newVar, newRow, newObj, Sem.run, g5]⟩

inductive Sw : List A1 → A1 → A1 → List A1 → Prop
 | here {e e' : A1} {r : List A1} : Sw (e :: r) e e' (e' :: r)
 | there {x e e' : A1} {r r' : List A1} : Sw r e e' r' → Sw (x :: r) e e' (x :: r')

theorem Sw.perm {hp hp' : List A1} {e e' : A1} (h : Sw hp e e' hp') : ∃ rest, hp.Perm ([e] ++ rest) ∧ ([e'] ++ rest).Perm hp' := by
 induction h with
 | @here e e' r => exact ⟨r, List.Perm.refl _, List.Perm.refl _⟩
 | @there x e e' r r' _ ih =>
  obtain ⟨rest, h1, h2⟩ := ih
  refine ⟨x :: rest, (h1.cons x).trans ?_, List.Perm.trans ?_ (h2.cons x)⟩
  ·exact List.Perm.swap _ _ _
  ·exact List.Perm.swap _ _ _
def R6 : List Value → Nat → List Value → Option (List Value)
 | cs, 0, [] => some cs
 | [], 0, _ :: _ => none
 | _ :: cs, 0, v :: vs => match R6 cs 0 vs with
  | some r => some (v :: r)
  | none => none
 | [], _ + 1, _ => none
 | c :: cs, o + 1, vs => match R6 cs o vs with
  | some r => some (c :: r)
  | none => none
theorem A2I : ∀ {cs : List Value} {o : Nat} {vs cs' : List Value}, R6 cs o vs = some cs' → cs' = cs.take o ++ vs ++ cs.drop (o + vs.length) ∧ o + vs.length ≤ cs.length
 | cs, 0, [], cs', h => by cases cs <;> (simp [R6] at h; subst h; simp)
 | [], 0, v :: vs, cs', h => by simp [R6] at h
 | c :: cs, 0, v :: vs, cs', h => by
  simp only [R6] at h
  split at h
  ·rename_i r hr
   simp at h; subst h
   obtain ⟨h1, h2⟩ := A2I hr
   constructor
   ·simp [h1]
   ·simp at h2 ⊢; omega
  ·cases h
 | [], o + 1, vs, cs', h => by simp [R6] at h
 | c :: cs, o + 1, vs, cs', h => by
  simp only [R6] at h
  split at h
  ·rename_i r hr
   simp at h; subst h
   obtain ⟨h1, h2⟩ := A2I hr
   constructor
   ·rw [h1, show o + 1 + vs.length = (o + vs.length) + 1 by omega]; simp
   ·simp; omega
  ·cases h
theorem M1 {cs vs : List Value} (h : cs.length = vs.length) : R6 cs 0 vs = some vs := by
 induction cs generalizing vs with
 | nil => cases vs with
  | nil => rfl
  | cons v vs => simp at h
 | cons c cs ih => cases vs with
  | nil => simp at h
  | cons v vs => simp only [R6, ih (vs := vs) (by simpa using h)]

theorem A8o {w : World} {b o : Nat} {cs vs cs' : List Value} (hown : O5 [.blk b cs] G w) (hu : cs' = cs.take o ++ vs ++ cs.drop (o + vs.length)) :
  N3 [.blk b cs] G w [.blk b cs'] G (w.setRow b cs'.toArray) := by
 obtain ⟨e, hb⟩ := hown.ok _ List.mem_cons_self
 refine ⟨⟨?_, ?_, by simp [Fp, A1.fp], ?_⟩, ⟨rfl, rfl, rfl, by simp [World.setRow], fun k _ hk => setRow_other w b k _ (by rintro rfl; simp [Fp, A1.fp] at hk)⟩, A9.refl _, fun _ _ h => .inl h, ?_, fun b l h h0 => absurd h (by rw [h0]; simp)⟩
 ·intro k l hg
  obtain ⟨e', f', h'⟩ := hown.inn k l hg
  refine ⟨e', f', ?_⟩
  rw [setRow_other w b k _ ?_]
  ·exact h'
  ·rintro rfl
   have := hown.disj k (by simp [Fp, A1.fp])
   rw [this] at hg; cases hg
 ·intro x hx
  simp at hx; subst hx
  exact ⟨e, setRow_heap w b cs.toArray cs'.toArray e (0, 0) hb⟩
 ·intro k hk
  exact hown.disj k (by simpa [Fp, A1.fp] using hk)
 ·intro k hk
  exact .inr (by simpa [Fp, A1.fp] using hk)

theorem O5.of_mem {w : World} {e : A1} (h : O5 hp G w) {rest : List A1} (p : hp.Perm ([e] ++ rest)) : O5 [e] G w := (h.perm p).left

theorem A3E {d : Option Nat} {x y : Operand} {t : TypeId} {i : J4} [hI : E6 P t i] {b o : Nat} {v : Value} {vs cs cs' : List Value} {hp' : List A1}
  (hx : evo env x = some (.pointer (some ⟨b, o, none⟩))) (hy : evo env y = some v) (hv : v.cells = ⟨vs⟩) (hsz : vs.length = i.size) (h1 : vs.all (·.oneCell') = true)
  (hu : R6 cs o vs = some cs') (hm : Sw hp (.blk b cs) (.blk b cs') hp') (hd : dok Γ.n d = true) :
  S6 P Γ ⟨env, hp, G⟩ d (.store t x y) ty [b] (fun σ' => σ' = ⟨dpu d undef env, hp', G⟩) := by
 refine ⟨fun a w hs pos af gd Q next hn => ?_⟩
 obtain ⟨rest, p1, p2⟩ := hm.perm
 have hown : O5 [.blk b cs] G w := hs.res.own.of_mem p1
 obtain ⟨e, hb⟩ := hown.ok _ List.mem_cons_self
 obtain ⟨u1, u2⟩ := A2I hu
 have hst := run_storeCells_at P b o e vs 0 cs.toArray w hb (by simpa using u2) (by simpa using h1)
 simp only [Nat.add_zero, ← u1] at hst
 obtain ⟨inf, g1, g2, _⟩ := hI.info
 have hrun : (execOp a.eval ⟨d, .store t x y, ty, pos, af, gd⟩).run P w = .ok .skip (w.setRow b cs'.toArray) := by
  simp [execOp, Instr.storeAt, Instr.sureAddr, (hs.evo hx : a.eval x = _), (hs.evo hy : a.eval y = _), storeVar, sizeOf, typeInfo, g1, g2, hv, hsz, hst]
 simp only [Oper.wp, hrun, Oper.upon]
 have hr' := A8o (o := o) hown u1
 exact hn _ _ _ (hs.step p1 hr' p2 hd) (by simpa [Fp, A1.fp] using hr'.ext) rfl

structure Fn (P : Program) (f : FuncId) (args : List Value) (ins : List A1) (G : IM) (post : IM → Value → List A1 → Prop) : Prop where
 run : ∀ w, O5 ins G w → Calls P f ⟨args⟩ w fun e w' => ∃ v G' outs, e = .returned v ∧ N3 ins G w outs G' w' ∧ post G' v outs

theorem Fn.mono {f : FuncId} {args : List Value} {ins : List A1} {post post' : IM → Value → List A1 → Prop} (h : Fn P f args ins G post) (hp : ∀ G' v outs, A9 G G' → post G' v outs → post' G' v outs) :
  Fn P f args ins G post' :=
 ⟨fun w hw => (h.run w hw).mono fun _ _ ⟨v, G', outs, h1, h2, h3⟩ => ⟨v, G', outs, h1, h2, hp _ _ _ h2.le h3⟩⟩

theorem A49 {f : FuncId} [hF : B1 P f] (args : Array Value) (w : World) : (callFunc f args).run P w = .ok (.enter f args) w := by
 obtain ⟨fn, h1, h2, h3⟩ := hF.ok
 simp only [callFunc, program, Sem.run_bind, Sem.run, Result.andThen_ok, h1, h2, h3, Bool.false_eq_true, if_false]
 rfl

theorem A3F {d : Nat} {op : Op} {f : FuncId} {vs : List Value} {ins rest : List A1} {post : IM → Value → List A1 → Prop}
  (he : ∀ a w, St Γ ⟨env, hp, G⟩ a w → ∀ d pos af gd, (execOp a.eval ⟨d, op, ty, pos, af, gd⟩).run P w = .ok (.enter f ⟨vs⟩) w)
  (h : Fn P f vs ins G post) (hp' : hp.Perm (ins ++ rest)) (hd : Nat.blt d Γ.n = true) :
  S6 P Γ ⟨env, hp, G⟩ (some d) op ty (Fp ins) (fun σ' => ∃ v G' outs, σ' = ⟨(d, v) :: env, outs ++ rest, G'⟩ ∧ A9 G G' ∧ post G' v outs) := by
 refine ⟨fun a w hs pos af gd Q next hn => ?_⟩
 simp only [Oper.wp, he a w hs, Oper.upon]
 refine (h.run w (hs.res.own.perm hp').left).mono ?_
 rintro e w' ⟨v, G', outs, rfl, h2, h3⟩
 exact hn _ _ _ (hs.step hp' h2 (List.Perm.refl _) (d := some d) hd) h2.ext ⟨v, G', outs, rfl, h2.le, h3⟩

theorem A5a {f : FuncId} [hF : B1 P f] {xs : List Operand} {ats : Array TypeId} {vs : List Value} {a : Act} {w w1 : World} (hs : St Γ ⟨env, hp, G⟩ a w1) (hx : evl env xs = some vs) (d : Option Tmp) (pos : String) (af : Array Edge) (gd : Option (Nat × Bool)) :
  (execOp a.eval ⟨d, .call ⟨.value (.func f), ⟨xs⟩, ats⟩, ty, pos, af, gd⟩).run P w = .ok (.enter f ⟨vs⟩) w := by
 have e2 := hs.evl hx
 simp [execOp, resolve, invoke, Deferred.ofValue, Act.eval, A49]
 exact e2

theorem A18 {d : Nat} {f : FuncId} [hF : B1 P f] {xs : List Operand} {ats : Array TypeId} {vs : List Value} {post : IM → Value → List A1 → Prop}
  (hx : evl env xs = some vs) (h : Fn P f vs [] G post) (hd : Nat.blt d Γ.n = true) :
  S6 P Γ ⟨env, hp, G⟩ (some d) (.call ⟨.value (.func f), ⟨xs⟩, ats⟩) ty [] (fun σ' => ∃ v G' outs, σ' = ⟨(d, v) :: env, outs ++ hp, G'⟩ ∧ A9 G G' ∧ post G' v outs) :=
 A3F (fun _ _ hs _ _ _ _ => A5a hs hx _ _ _ _) h (List.Perm.refl _) hd
theorem A2J {d : Nat} {f : FuncId} [hF : B1 P f] {xs : List Operand} {ats : Array TypeId} {vs : List Value} {ins rest : List A1} {post : IM → Value → List A1 → Prop}
  (hx : evl env xs = some vs) (h : Fn P f vs ins G post) (hp' : hp.Perm (ins ++ rest)) (hd : Nat.blt d Γ.n = true) :
  S6 P Γ ⟨env, hp, G⟩ (some d) (.call ⟨.value (.func f), ⟨xs⟩, ats⟩) ty (Fp ins) (fun σ' => ∃ v G' outs, σ' = ⟨(d, v) :: env, outs ++ rest, G'⟩ ∧ A9 G G' ∧ post G' v outs) :=
 A3F (fun _ _ hs _ _ _ _ => A5a hs hx _ _ _ _) h hp' hd
theorem N9 {d : Nat} {f : FuncId} [hF : B1 P f] {g : Operand} {xs : List Operand} {ats : Array TypeId} {vs us cs : List Value} {ins rest : List A1} {post : IM → Value → List A1 → Prop}
  (hg : evo env g = some (.func (.func f) ⟨us⟩ ⟨cs⟩)) (hx : evl env xs = some vs) (h : Fn P f (us ++ vs ++ cs) ins G post) (hp' : hp.Perm (ins ++ rest)) (hd : Nat.blt d Γ.n = true) :
  S6 P Γ ⟨env, hp, G⟩ (some d) (.call ⟨.value g, ⟨xs⟩, ats⟩) ty (Fp ins) (fun σ' => ∃ v G' outs, σ' = ⟨(d, v) :: env, outs ++ rest, G'⟩ ∧ A9 G G' ∧ post G' v outs) :=
 A3F (fun a w hs _ _ _ _ => by
  have e1 : a.eval g = _ := hs.evo hg
  have e2 := hs.evl hx
  simp [execOp, resolve, invoke, Deferred.ofValue, e1, e2, A49]) h hp' hd

def rdR (tmps : Array Value) : ResultVar → Sem Value
 | .tmp t => pure (tmps.getD t undef)
 | .cell x t => do loadVar t (← asAddr (tmps.getD x undef))
theorem A8p (fn : Func) (tmps : Array Value) : results fn tmps = (do let vs ← fn.results.mapM (rdR tmps); pure (if h : vs.size = 1 then vs[0] else .tuple vs)) := by
 unfold results
 congr 1
def A1h (P : Program) (Γ : F8) (σ : Sy) (r : ResultVar) (v : Value) : Prop := ∀ a w, St Γ σ a w →
 (rdR a.tmps r).run P w = .ok v w

theorem rT {t : Nat} {v : Value} (h : S5 env t = some v) : A1h P Γ ⟨env, hp, G⟩ (.tmp t) v :=
 fun a w hs => by simp only [rdR, Sem.run_pure]; rw [hs.env t v h]
theorem rC {x t b o : Nat} {v : Value} (hx : S5 env x = some (.pointer (some ⟨b, o, none⟩))) (h : A0F P Γ ⟨env, hp, G⟩ (.load t (.tmp x)) 0 b v) : A1h P Γ ⟨env, hp, G⟩ (.cell x t) v := by
 intro a w hs
 have h1 := (h.run a w hs).2 w rfl none "" #[] none
 have hx' := hs.env x _ hx
 have he : a.eval (.tmp x) = .pointer (some ⟨b, o, none⟩) := hx'
 simp only [execOp, Sem.run_bind, Instr.loadAt, he, Instr.sureAddr, Sem.run_pure, Result.andThen_ok] at h1
 simp only [rdR, hx', asAddr, Sem.run_bind, Sem.run_pure, Result.andThen_ok]
 cases hl : (loadVar t ⟨b, o, none⟩).run P w with
 | ok u w' => rw [hl] at h1; simp at h1; rw [h1.1, h1.2]
 | halt hh w' => rw [hl] at h1; simp at h1

inductive A0I (P : Program) (Γ : F8) (σ : Sy) : List ResultVar → List Value → Prop
 | nil : A0I P Γ σ [] []
 | cons {r : ResultVar} {v : Value} {rs : List ResultVar} {vs : List Value} : A1h P Γ σ r v → A0I P Γ σ rs vs → A0I P Γ σ (r :: rs) (v :: vs)

def A1i : List Value → Value
 | [v] => v
 | vs => .tuple ⟨vs⟩

theorem A3G {α β : Type} (f : α → Sem β) (w : World) : ∀ (xs : List α) (ys : List β), xs.length = ys.length → (∀ (j : Nat) (x : α) (y : β), xs[j]? = some x → ys[j]? = some y → (f x).run P w = .ok y w) →
  (xs.mapM f).run P w = .ok ys w
 | [], [], _, _ => by simp
 | x :: xs, y :: ys, hl, h => by
  have h0 := h 0 x y rfl rfl
  have ih := A3G f w xs ys (by simpa using hl) (fun j a b ha hb => h (j + 1) a b (by simpa using ha) (by simpa using hb))
  simp [List.mapM_cons, h0, ih]
 | [], _ :: _, hl, _ => by simp at hl
 | _ :: _, [], hl, _ => by simp at hl

theorem A0I.run {σ : Sy} {rs : List ResultVar} {vs : List Value} (h : A0I P Γ σ rs vs) {a : Act} {w : World} (hs : St Γ σ a w) : rs.length = vs.length ∧ ∀ (j : Nat) (x : ResultVar) (y : Value), rs[j]? = some x → vs[j]? = some y →
  (rdR a.tmps x).run P w = .ok y w := by
 induction h with
 | nil => exact ⟨rfl, fun j x y hx => by simp at hx⟩
 | @cons r v rs vs hr _ ih =>
  refine ⟨by simp [ih.1], fun j x y hx hy => ?_⟩
  cases j with
  | zero => simp at hx hy; subst hx hy; exact hr a w hs
  | succ j => exact ih.2 j x y (by simpa using hx) (by simpa using hy)

structure A0n (P : Program) (Γ : F8) (rs : List ResultVar) (post : IM → Value → List A1 → Prop) (e : Exit) (σ : Sy) : Prop where
 run : match e with
  | .ret | .normal => ∃ vs, A0I P Γ σ rs vs ∧ ∃ outs r, σ.hp.Perm (outs ++ r) ∧ post σ.G (A1i vs) outs
  | _ => False

def A1A : Nat → List Value → H1
 | _, [] => []
 | k, v :: vs => (k, v) :: A1A (k + 1) vs

theorem A5b : ∀ (vs : List Value) (k t : Nat) (v : Value), S5 (A1A k vs) t = some v → k ≤ t ∧ vs[t - k]? = some v
 | [], k, t, v, h => by simp [A1A, S5] at h
 | u :: us, k, t, v, h => by
  simp only [A1A] at h
  rw [A3v] at h
  by_cases e : k = t
  ·subst e; simp at h; subst h; simp
  ·rw [if_neg e] at h
   obtain ⟨h1, h2⟩ := A5b us (k + 1) t v h
   refine ⟨by omega, ?_⟩
   rw [show t - k = (t - (k + 1)) + 1 by omega]
   simpa using h2

theorem B5 {f : FuncId} {fn : Func} {c : Code} {args : List Value} {ins : List A1} {post : IM → Value → List A1 → Prop} {n : Nat} {rs : List ResultVar}
  (hf : P.funcs[f]? = some fn) (hb : fn.body = some c) (hn : fn.ntmps = n) (hr : fn.results = ⟨rs⟩) (hle : Nat.ble args.length n = true)
  (h : ∀ w0, H8 P ⟨n, ins, G, w0⟩ c (A0n P ⟨n, ins, G, w0⟩ rs post) ⟨A1A 0 args, ins, G⟩) : Fn P f args ins G post := by
 refine ⟨fun w hw => ?_⟩
 have hle' : args.length ≤ n := by simpa using hle
 refine calls_of_wp hf hb ?_
 let a : Act := { tmps := (⟨args⟩ : Array Value) ++ Array.replicate (fn.ntmps - (⟨args⟩ : Array Value).size) undef, defers := [] }
 have hs : St ⟨n, ins, G, w⟩ ⟨A1A 0 args, ins, G⟩ a w := by
  refine ⟨?_, rfl, ?_, N3.refl hw⟩
  ·simp [a, hn]; omega
  ·intro t v ht
   obtain ⟨_, h2⟩ := A5b args 0 t v ht
   simp only [Nat.sub_zero] at h2
   have hlt : t < args.length := (List.getElem?_eq_some_iff.1 h2).1
   simp [a, Array.getD_eq_getD_getElem?, Array.getElem?_append, hlt]
   simp [List.getElem?_eq_getElem hlt] at h2
   exact h2
 refine wp_mono ((h w).run a w hs) ?_
 rintro e a' w' ⟨σ, hs', ⟨hk⟩⟩
 have fin : (∃ vs, A0I P ⟨n, ins, G, w⟩ σ rs vs ∧ ∃ outs r, σ.hp.Perm (outs ++ r) ∧ post σ.G (A1i vs) outs) → a'.defers = [] ∧ ∃ v, (results fn a'.tmps).run P w' = .ok v w' ∧
   ∃ v_1 G' outs, Ending.returned v = Ending.returned v_1 ∧ N3 ins G w outs G' w' ∧ post G' v_1 outs := by
  rintro ⟨vs, hra, outs, r, hp', hpost⟩
  refine ⟨hs'.nod, A1i vs, ?_, A1i vs, σ.G, outs, rfl, (hs'.res.perm hp').left, hpost⟩
  obtain ⟨hl, hrun⟩ := hra.run hs'
  have hm : (fn.results.mapM (rdR a'.tmps)).run P w' = .ok ⟨vs⟩ w' := by
   rw [hr, Array.mapM_eq_mapM_toList]
   simp only [Sem.run_map]
   rw [A3G _ w' rs vs hl hrun]
   rfl
  rw [A8p]
  simp only [Sem.run_bind]
  rw [hm]
  simp only [Result.andThen_ok, Sem.run_pure]
  congr 1
  unfold A1i
  split
  ·rename_i hsz
   match vs, hsz with
   | [v], _ => rfl
  ·rename_i hsz
   split
   ·exact absurd rfl hsz
   ·rfl
 cases e <;> first | exact fin hk | exact hk.elim


theorem nS {y : Code} {K : Po} {σ : Sy} (h : H8 P Γ y K σ) : A0k P Γ y K .normal σ := ⟨h⟩
theorem rS {y : Code} {K : Po} {σ : Sy} (h : K .ret σ) : A0k P Γ y K .ret σ := ⟨h⟩
theorem A8q {y : Code} {K : Po} {σ : Sy} {i : Nat} (h : K (.exit i) σ) : A0k P Γ y K (.exit i) σ := ⟨h⟩
theorem P7 {i : Nat} {K : Po} {σ : Sy} (h : K .normal σ) : A0C i K .normal σ := ⟨h⟩
theorem rB {i : Nat} {K : Po} {σ : Sy} (h : K .ret σ) : A0C i K .ret σ := ⟨h⟩
theorem A8r {i : Nat} {K : Po} {σ : Sy} (h : K .normal σ) : A0C i K (.exit i) σ := ⟨by simp [h]⟩
theorem A8s {rs : List ResultVar} {post : IM → Value → List A1 → Prop} {σ : Sy} {vs : List Value} (h : A0I P Γ σ rs vs) {outs : List A1} (hp : ∃ r, σ.hp.Perm (outs ++ r)) (hk : post σ.G (A1i vs) outs) :
  A0n P Γ rs post .ret σ := ⟨vs, h, outs, hp.choose, hp.choose_spec, hk⟩
theorem A5c {rs : List ResultVar} {post : IM → Value → List A1 → Prop} {σ : Sy} {vs : List Value} (h : A0I P Γ σ rs vs) (hk : post σ.G (A1i vs) []) :
  A0n P Γ rs post .ret σ := ⟨vs, h, [], σ.hp, List.Perm.refl _, hk⟩

theorem A8t {y : Code} {K : Po} (h : V1 K) : V1 (A0k P Γ y K) := fun c σ hk => h c σ hk.run
theorem A8u {i : Nat} {K : Po} (h : V1 K) : V1 (A0C i K) := fun c σ hk => h c σ hk.run
theorem A8v {rs : List ResultVar} {post : IM → Value → List A1 → Prop} : V1 (A0n P Γ rs post) := fun _ _ h => h.run
class Y3 (K : Po) : Prop where
 h : V1 K
theorem E8 {K : Po} [h : Y3 K] : V1 K := h.h
instance npC1 {rs : List ResultVar} {post : IM → Value → List A1 → Prop} : Y3 (A0n P Γ rs post) := ⟨A8v⟩
instance npC2 {y : Code} {K : Po} [h : Y3 K] : Y3 (A0k P Γ y K) := ⟨A8t h.h⟩
instance npC3 {i : Nat} {K : Po} [h : Y3 K] : Y3 (A0C i K) := ⟨A8u h.h⟩
instance npC4 {ι : Type} {S : ι → Sy} {φ : ι → Prop} {μ : ι → Nat} {i : ι} {K : Po} [h : Y3 K] : Y3 (A0D K S φ μ i) := ⟨A8d h.h⟩
section shortAny
variable {P : Program} {Γ : F8} {K : Po} {ops : Array Oper} {H : List (Nat × Nat)} {env : H1} {hp : List A1} {G : IM} {fuel : Nat} {listed l' : List Bool}
variable {op : Op} {ty : TypeId} {pos : String} {af : Array Edge} {gd : Option (Nat × Bool)}
class Z8 (l : List Bool) (j : Nat) (l2 : outParam (List Bool)) : Prop where
 h : l.set j true = l2
instance setT0 {b : Bool} {l : List Bool} : Z8 (b :: l) 0 (true :: l) := ⟨rfl⟩
instance setTs {b : Bool} {l l2 : List Bool} {n : Nat} [h : Z8 l n l2] : Z8 (b :: l) (n + 1) (b :: l2) := ⟨congrArg (b :: ·) h.h⟩
instance setTt {l l1 l2 : List Bool} {i j : Nat} [h : Z8 l i l1] [h2 : Z8 l1 j l2] : Z8 (l.set i true) j l2 := ⟨by rw [h.h, h2.h]⟩
theorem aP (i : Nat) {d : Nat} {v : Value} [hl : Z8 listed i l'] (hi : ops[i]? = some ⟨some d, op, ty, pos, af, gd⟩)
 (h : C9 P Γ ⟨env, hp, G⟩ op ty v) (hw : (J1 ops env gd, Nat.blt d Γ.n) = (some true, true))
 (k : K7 P Γ ops K H fuel l' ⟨(d, v) :: env, hp, G⟩) (hq : A0G ops listed i = true := by kernel_rfl) [hK : Y3 K] : K7 P Γ ops K H (fuel + 1) listed ⟨env, hp, G⟩ :=
 H2 hi hK.h h (congrArg Prod.fst hw) hq (congrArg Prod.snd hw) hl.h k
theorem aL (i : Nat) {d b : Nat} {v : Value} [hl : Z8 listed i l'] (hi : ops[i]? = some ⟨some d, op, ty, pos, af, gd⟩)
 (h : A0F P Γ ⟨env, hp, G⟩ op ty b v) (hw : (J1 ops env gd, Nat.blt d Γ.n) = (some true, true))
 (k : K7 P Γ ops K ((i, b) :: H) fuel l' ⟨(d, v) :: env, hp, G⟩) (hq : A0G ops listed i = true := by kernel_rfl) [hK : Y3 K] : K7 P Γ ops K H (fuel + 1) listed ⟨env, hp, G⟩ :=
 A16 hi hK.h h (congrArg Prod.fst hw) hq (congrArg Prod.snd hw) hl.h k
theorem D6 (i : Nat) {d : Nat} [hl : Z8 listed i l'] (hi : ops[i]? = some ⟨some d, op, ty, pos, af, gd⟩) (hw : J1 ops env gd = some false) (hd : Nat.blt d Γ.n = true)
 (k : K7 P Γ ops K H fuel l' ⟨(d, undef) :: env, hp, G⟩) (hq : A0G ops listed i = true := by kernel_rfl) [hK : Y3 K] : K7 P Γ ops K H (fuel + 1) listed ⟨env, hp, G⟩ :=
 aK hi hK.h hw hq hd hl.h k
theorem A8 (j : Nat) {σ : Sy} (h : T1 P Γ ops K H fuel listed j σ) (hr : Region.ready .any ops listed.toArray = [j] := by kernel_rfl) : K7 P Γ ops K H (fuel + 1) listed σ := aO hr h
theorem M7 {σ : Sy} (h : K .normal σ) (hr : Region.ready .any ops listed.toArray = [] := by kernel_rfl) : K7 P Γ ops K H fuel listed σ := aD hr h
end shortAny


theorem S0 {K : Po} {ops : Array Oper} {rest : List Oper} {pos : String} {af : Array Edge} {gd : Option (Nat × Bool)} {x y : Operand} {t : TypeId} {i : J4} [hI : E6 P t i] {b o : Nat} {v : Value} {vs cs cs' : List Value} {hp' : List A1}
  (hx : evo env x = some (.pointer (some ⟨b, o, none⟩))) (hy : evo env y = some v) (hv : v.cells = ⟨vs⟩) (hsz : vs.length = i.size) (h1 : vs.all (·.oneCell') = true)
  (hw : J1 ops env gd = some true) (hm : Sw hp (.blk b cs) (.blk b cs') hp') (hu : R6 cs o vs = some cs')
  (k : D8 P Γ ops rest K ⟨env, hp', G⟩) : D8 P Γ ops (⟨none, .store t x y, ty, pos, af, gd⟩ :: rest) K ⟨env, hp, G⟩ :=
 D1 (A3E hx hy hv hsz h1 hu hm rfl) hw (by rintro _ rfl; exact k)

theorem sS {K : Po} {ops : Array Oper} {rest : List Oper} {pos : String} {af : Array Edge} {gd : Option (Nat × Bool)} {x y : Operand} {t : TypeId} {i : J4} [hI : E6 P t i] {b o : Nat} {v : Value} {vs cs cs' : List Value} {hp' : List A1}
 (hx : evo env x = some (.pointer (some ⟨b, o, none⟩))) (hy : evo env y = some v) (hv : v.cells = ⟨vs⟩) (hsz : vs.length = i.size) (h1 : vs.all (·.oneCell') = true)
 (hw : J1 ops env gd = some true)
 (k : D8 P Γ ops rest K ⟨env, hp', G⟩) (hm : Sw hp (.blk b cs) (.blk b cs') hp' := by repeat first | exact Sw.here | apply Sw.there) (hu : R6 cs o vs = some cs' := by rfl) : D8 P Γ ops (⟨none, .store t x y, ty, pos, af, gd⟩ :: rest) K ⟨env, hp, G⟩ :=
 S0 hx hy hv hsz h1 hw hm hu k
theorem I8 {K : Po} {ops : Array Oper} {rest : List Oper} {pos : String} {af : Array Edge} {gd : Option (Nat × Bool)} {x y : Operand} {t : TypeId} {i : J4} [hI : E6 P t i] {b o : Nat} {v : Value} {vs cs cs' : List Value} {hp' : List A1}
 (k : D8 P Γ ops rest K ⟨env, hp', G⟩) (hx : evo env x = some (.pointer (some ⟨b, o, none⟩)) := by rfl) (hy : evo env y = some v := by rfl) (hv : v.cells = ⟨vs⟩ := by rfl) (hsz : vs.length = i.size := by rfl) (h1 : vs.all (·.oneCell') = true := by rfl)
 (hw : J1 ops env gd = some true := by rfl) (hm : Sw hp (.blk b cs) (.blk b cs') hp' := by repeat first | exact Sw.here | apply Sw.there) (hu : R6 cs o vs = some cs' := by rfl) : D8 P Γ ops (⟨none, .store t x y, ty, pos, af, gd⟩ :: rest) K ⟨env, hp, G⟩ :=
 S0 hx hy hv hsz h1 hw hm hu k
def A8w : List Bool → Nat → Option Nat
 | [], _ => none
 | false :: _, i => some i
 | true :: r, i => A8w r (i + 1)

section eqs
variable {x y : Operand} {t t' : TypeId} {k : IntKind} {m n : Int}
theorem Z9 (hx : evo env x = some (.int k m)) (hy : evo env y = some (.int k n)) (h : m = n) : C9 P Γ ⟨env, hp, G⟩ (.binOp .eql t x y t') ty (.bool true) := by
 have := qE (P := P) (Γ := Γ) (hp := hp) (G := G) (ty := ty) (t := t) (t' := t') hx hy; rwa [decide_eq_true h] at this
theorem I0 (hx : evo env x = some (.int k m)) (hy : evo env y = some (.int k n)) (h : ¬ m = n) : C9 P Γ ⟨env, hp, G⟩ (.binOp .eql t x y t') ty (.bool false) := by
 have := qE (P := P) (Γ := Γ) (hp := hp) (G := G) (ty := ty) (t := t) (t' := t') hx hy; rwa [decide_eq_false h] at this
theorem V2 (hx : evo env x = some (.int k m)) (hy : evo env y = some (.int k n)) (h : m ≠ n) : C9 P Γ ⟨env, hp, G⟩ (.binOp .neq t x y t') ty (.bool true) := by
 have := N8 (P := P) (Γ := Γ) (hp := hp) (G := G) (ty := ty) (t := t) (t' := t') hx hy; rwa [decide_eq_true h] at this
theorem A1B (hx : evo env x = some (.int k m)) (hy : evo env y = some (.int k n)) (h : m = n) : C9 P Γ ⟨env, hp, G⟩ (.binOp .neq t x y t') ty (.bool false) := by
 have := N8 (P := P) (Γ := Γ) (hp := hp) (G := G) (ty := ty) (t := t) (t' := t') hx hy; rwa [decide_eq_false (by simpa using h)] at this
theorem X5 (hx : evo env x = some (.int k m)) (hy : evo env y = some (.int k n)) (h : m < n) : C9 P Γ ⟨env, hp, G⟩ (.binOp .lss t x y t') ty (.bool true) := by
 have := M9 (P := P) (Γ := Γ) (hp := hp) (G := G) (ty := ty) (t := t) (t' := t') hx hy; rwa [decide_eq_true h] at this
theorem S1 (hx : evo env x = some (.int k m)) (hy : evo env y = some (.int k n)) (h : ¬ m < n) : C9 P Γ ⟨env, hp, G⟩ (.binOp .lss t x y t') ty (.bool false) := by
 have := M9 (P := P) (Γ := Γ) (hp := hp) (G := G) (ty := ty) (t := t) (t' := t') hx hy; rwa [decide_eq_false h] at this
theorem A8x (hx : evo env x = some (.int k m)) (hy : evo env y = some (.int k n)) (h : ¬ m ≤ n) : C9 P Γ ⟨env, hp, G⟩ (.binOp .leq t x y t') ty (.bool false) := by
 have := T2 (P := P) (Γ := Γ) (hp := hp) (G := G) (ty := ty) (t := t) (t' := t') hx hy; rwa [decide_eq_false h] at this
theorem A3H (hx : evo env x = some (.int k m)) (hy : evo env y = some (.int k n)) (h : n < m) : C9 P Γ ⟨env, hp, G⟩ (.binOp .gtr t x y t') ty (.bool true) := by
 have := V8 (P := P) (Γ := Γ) (hp := hp) (G := G) (ty := ty) (t := t) (t' := t') hx hy; rwa [decide_eq_true h] at this
theorem A19 (hx : evo env x = some (.int k m)) (hy : evo env y = some (.int k n)) (h : ¬ n < m) : C9 P Γ ⟨env, hp, G⟩ (.binOp .gtr t x y t') ty (.bool false) := by
 have := V8 (P := P) (Γ := Γ) (hp := hp) (G := G) (ty := ty) (t := t) (t' := t') hx hy; rwa [decide_eq_false h] at this
theorem A2K (hx : evo env x = some (.int k m)) (hy : evo env y = some (.int k n)) (h : n ≤ m) : C9 P Γ ⟨env, hp, G⟩ (.binOp .geq t x y t') ty (.bool true) := by
 have := P6 (P := P) (Γ := Γ) (hp := hp) (G := G) (ty := ty) (t := t) (t' := t') hx hy; rwa [decide_eq_true h] at this
theorem A2L (hx : evo env x = some (.int k m)) (hy : evo env y = some (.int k n)) (h : ¬ n ≤ m) : C9 P Γ ⟨env, hp, G⟩ (.binOp .geq t x y t') ty (.bool false) := by
 have := P6 (P := P) (Γ := Γ) (hp := hp) (G := G) (ty := ty) (t := t) (t' := t') hx hy; rwa [decide_eq_false h] at this
end eqs

end steps

class A1C (P : Program) (t : TypeId) (pl : outParam (List (Nat × Nat))) : Prop where
 ok : ∃ fs : List Field, P.underlying t = some (.struct ⟨fs⟩) ∧ ∀ w, ((⟨fs⟩ : Array Field).mapM fun (f : Field) => (do pure (f.offset, ← sizeOf f.type) : Sem (Nat × Nat))).run P w = .ok ⟨pl⟩ w

theorem A2M {P : Program} {t : TypeId} {pl : List (Nat × Nat)} {fs : List Field} (h : P.underlying t = some (.struct ⟨fs⟩)) (hp : (fs.map fun f => (f.offset, P.cellsOf f.type)) = pl)
  (he : (fs.all fun f => (P.info? f.type).isSome) = true) : A1C P t pl := by
 refine ⟨fs, h, fun w => ?_⟩
 rw [Array.mapM_eq_mapM_toList]
 simp only [Sem.run_map]
 rw [A3G _ w fs pl (by simp [← hp])]
 ·rfl
 ·intro j x y hx hy
  subst hp
  simp [List.getElem?_map, hx] at hy
  subst hy
  have hm : x ∈ fs := List.mem_of_getElem? hx
  have := List.all_eq_true.1 he x hm
  cases hi : P.info? x.type with
  | none => simp [hi] at this
  | some i => simp [sizeOf, typeInfo, hi, Program.cellsOf]

def A1j (pl : Nat → Option (Nat × Nat)) : List Value → List (Nat × Value) → Option (List Value)
 | cs, [] => some cs
 | cs, (i, v) :: r => match pl i with
  | none => none
  | some (off, sz) => match Nat.beq v.cells.toList.length sz with
   | false => none
   | true => match R6 cs off v.cells.toList with
    | none => none
    | some cs' => A1j pl cs' r

def cpy : List Value → Option (List Value)
 | [] => some []
 | c :: cs => match cpy cs with
  | some r => some (c :: r)
  | none => none
theorem A5d : ∀ cs, cpy cs = some cs
 | [] => rfl
 | c :: cs => by simp only [cpy, A5d cs]
def A3I (pl : Nat → Option (Nat × Nat)) (cs : List Value) (ps : List (Nat × Value)) : Option (List Value) := match A1j pl cs ps with
 | some r => cpy r
 | none => none
theorem A8y {pl : Nat → Option (Nat × Nat)} {cs cs' : List Value} {ps : List (Nat × Value)} (h : A3I pl cs ps = some cs') : A1j pl cs ps = some cs' := by
 unfold A3I at h
 split at h
 ·rename_i r hr; rw [A5d] at h; rw [hr]; exact h
 ·cases h

theorem A5e : ∀ (vs : List Value) (k off : Nat) (cs : List Value), off + k + vs.length ≤ cs.length →
  ((vs.zipIdx k).foldl (fun (a : Array Value) (p : Value × Nat) => a.setIfInBounds (off + p.2) p.1) ⟨cs⟩).toList = cs.take (off + k) ++ vs ++ cs.drop (off + k + vs.length)
 | [], k, off, cs, _ => by simp
 | v :: vs, k, off, cs, h => by
  simp only [List.zipIdx_cons, List.foldl_cons]
  have h1 : ((⟨cs⟩ : Array Value).setIfInBounds (off + k) v) = ⟨cs.set (off + k) v⟩ := by simp
  simp only [List.length_cons] at h
  rw [h1, A5e vs (k + 1) off (cs.set (off + k) v) (by simp; omega)]
  apply List.ext_getElem?
  intro i
  simp only [List.getElem?_append, List.length_append, List.length_take, List.length_set, List.length_cons, List.getElem?_drop, List.getElem?_take, List.getElem?_set]
  have e1 : min (off + (k + 1)) cs.length = off + k + 1 := by omega
  have e2 : min (off + k) cs.length = off + k := by omega
  rw [e1, e2]
  by_cases c1 : i < off + k
  ·rw [if_pos (by omega), if_pos (by omega), if_pos (by omega), if_neg (by omega), if_pos (by omega), if_pos (by omega), if_pos (by omega)]
  ·by_cases c2 : i = off + k
   ·subst c2
    rw [if_pos (by omega), if_pos (by omega), if_pos (by omega), if_pos rfl, if_pos (by omega), if_pos (by omega), if_neg (by omega)]
    simp
   ·by_cases c3 : i < off + k + 1 + vs.length
    ·rw [if_pos (by omega), if_neg (by omega), if_pos (by omega), if_neg (by omega), show i - (off + k) = (i - (off + k + 1)) + 1 by omega]
     simp
    ·rw [if_neg (by omega), if_neg (by omega), if_neg (by omega), show off + (k + 1) + vs.length + (i - (off + k + 1 + vs.length)) = off + k + (vs.length + 1) + (i - (off + k + (vs.length + 1))) by omega]

theorem A2N {pl : Nat → Option (Nat × Nat)} : ∀ {parts : List (Nat × Value)} {cs cs' : List Value}, A1j pl cs parts = some cs' → Instr.fill pl ⟨cs⟩ parts = some ⟨cs'⟩ ∧ cs'.length = cs.length
 | [], cs, cs', h => by cases cs <;> (simp [A1j] at h; subst h; exact ⟨rfl, rfl⟩)
 | (i, v) :: r, cs, cs', h => by
  simp only [A1j] at h
  split at h
  ·cases h
  ·rename_i off sz h1
   split at h
   ·cases h
   ·rename_i h2
    split at h
    ·cases h
    ·rename_i V9 hu
     obtain ⟨u1, u2⟩ := A2I hu
     obtain ⟨ih1, ih2⟩ := A2N h
     have hl := A5e v.cells.toList 0 off cs (by simpa using u2)
     have e : v.cells.size = sz := by have := Nat.eq_of_beq_eq_true h2; simpa using this
     have hlen : V9.length = cs.length := by rw [u1]; simp at u2 ⊢; omega
     refine ⟨?_, by rw [ih2, hlen]⟩
     simp only [Instr.fill, h1]
     have u2' : off + v.cells.size ≤ cs.length := by simpa using u2
     rw [if_neg (by simp [e]; omega)]
     rw [← ih1]
     congr 1
     apply Array.ext'
     simp only [Nat.add_zero] at hl
     rw [u1, ← hl]
     rw [← Array.foldl_toList]
     simp

theorem A2O {P : Program} {t : TypeId} {i : J4} [hI : E6 P t i] : ∃ inf z, (∀ w, (typeInfo t).run P w = .ok inf w) ∧ (∀ w, (zeroValue t).run P w = .ok z w) ∧ (∀ w, (sizeOf t).run P w = .ok i.size w) ∧ inf.bytes = i.bytes ∧ z.cells = ⟨i.zs⟩ ∧ P.info? t = some inf ∧ inf.zero = some z ∧ inf.size = i.size := by
 obtain ⟨inf, g1, g2, g3, z, g4, g5⟩ := hI.info
 refine ⟨inf, z, fun w => ?_, fun w => ?_, fun w => ?_, g3, g5, g1, g4, g2⟩
 ·simp [typeInfo, g1]
 ·simp [zeroValue, typeInfo, g1, g4]
 ·simp [sizeOf, typeInfo, g1, g2]

section mem
variable {P : Program} {Γ : F8} {env : H1} {hp : List A1} {G : IM} {ty : TypeId}

def evp (e : H1) : List (Nat × Operand) → Option (List (Nat × Value))
 | [] => some []
 | (i, x) :: r => match evo e x with
  | some v => match evp e r with
   | some vs => some ((i, v) :: vs)
   | none => none
  | none => none
theorem A3J {a : Act} {w : World} (hs : St Γ ⟨env, hp, G⟩ a w) : ∀ {xs : List (Nat × Operand)} {vs : List (Nat × Value)}, evp env xs = some vs → (xs.map fun (p : Nat × Operand) => (p.1, a.eval p.2)) = vs
 | [], vs, h => by simp [evp] at h; subst h; rfl
 | (i, x) :: r, vs, h => by
  simp only [evp] at h
  split at h
  ·rename_i v hv
   split at h
   ·rename_i us hu
    simp at h; subst h
    have e1 : a.eval x = v := hs.evo hv
    simp [e1, A3J hs hu]
   ·cases h
  ·cases h

theorem W0 {t : TypeId} {i : J4} [hI : E6 P t i] {pl : List (Nat × Nat)} [hP : A1C P t pl] {xs : List (Nat × Operand)} {vs : List (Nat × Value)} {cs : List Value}
  (hx : evp env xs = some vs) (hf : A1j (fun (j : Nat) => pl[j]?) i.zs vs = some cs) : C9 P Γ ⟨env, hp, G⟩ (.build t ⟨xs⟩) ty (.agg ⟨cs⟩) := by
 refine ⟨fun a _ hs _ _ _ _ w => ?_⟩
 obtain ⟨inf, z, h1, h2, h3, _, g5, _⟩ := A2O (P := P) (t := t)
 obtain ⟨fs, f1, f2⟩ := hP.ok
 have hv := A3J hs hx
 have hfr := (A2N hf).1
 simp only [execOp, Instr.build, Sem.run_bind, h2, Result.andThen_ok, Sem.run_pure, run_underlying f1, f2 w]
 have e : ((⟨xs⟩ : Array (Nat × Operand)).map fun x => match x with | (i, x) => (i, a.eval x)).toList = vs := by simpa using hv
 rw [e, g5]
 have e2 : (fun (x : Nat) => (⟨pl⟩ : Array (Nat × Nat))[x]?) = (fun (x : Nat) => pl[x]?) := by funext x; simp
 rw [e2, hfr]
 rfl

theorem A8z (w : World) (hin : A12 G w) (el sz n : Nat) (cs : List Value) (hl : cs.length = n * sz) (hm : n ≤ maxLen) :
  N3 [] G w [.slc (some ⟨w.heap.size, 0, none⟩) n el sz n cs] G (w.alloc (.cells cs.toArray el)) := by
 have h := A48 w hin cs el
 have hb : (w.alloc (.cells cs.toArray el)).heap[w.heap.size]? = some (.cells cs.toArray el (0, 0)) := heap_alloc_new w _
 refine ⟨⟨h.own.inn, ?_, by simp [Fp, A1.fp, E5], ?_⟩, h.ext, h.le, h.fresh, ?_, fun b l h h0 => absurd h (by rw [h0]; simp)⟩
 ·intro x hx
  simp at hx; subst hx
  refine ⟨hl, .inr ⟨w.heap.size, n, cs.toArray, rfl, Nat.zero_le _, hb, Nat.le_refl _, hm, by simpa using hl, ?_⟩⟩
  simp [← hl]
 ·intro b hb'; exact h.own.disj b (by simpa [Fp, A1.fp, E5] using hb')
 ·intro b hb'; exact h.ofresh b (by simpa [Fp, A1.fp, E5] using hb')

def A0J (n : Nat) (zs : List Value) : List Value := match n with | 0 => [] | n + 1 => zs ++ A0J n zs
theorem A3K (n : Nat) (zs : List Value) : (A0J n zs).length = n * zs.length := by
 induction n with
 | zero => simp [A0J]
 | succ n ih => simp [A0J, ih, Nat.succ_mul, Nat.add_comm]
theorem A5f (zs : List Value) : ∀ (n i : Nat), i < n * zs.length → (A0J n zs)[i]? = zs[i % zs.length]?
 | 0, i, h => by simp at h
 | n + 1, i, h => by
  simp only [A0J, List.getElem?_append]
  split
  ·rename_i hi; rw [Nat.mod_eq_of_lt hi]
  ·rename_i hi
   rw [A5f zs n (i - zs.length) (by rw [Nat.succ_mul] at h; omega)]
   rw [Nat.mod_eq_sub_mod (a := i) (by omega)]
theorem A8A (z : Array Value) (zs : List Value) (hz : z = ⟨zs⟩) (n : Nat) : ((Array.range (n * zs.length)).map (z[· % z.size]!)) = ⟨A0J n zs⟩ := by
 subst hz
 apply Array.ext'
 simp only [Array.toList_map, Array.toList_range]
 apply List.ext_getElem?
 intro i
 by_cases hi : i < n * zs.length
 ·rw [A5f zs n i hi]
  have hpos : 0 < zs.length := by
   rcases Nat.eq_zero_or_pos zs.length with h | h
   ·rw [h] at hi; simp at hi
   ·exact h
  have hlt := Nat.mod_lt i hpos
  simp [hi, getElem!_def, hlt]
 ·simp [hi]
  have hl := A3K n zs
  omega

theorem A5g (el : TypeId) (cs : List Value) (w : World) : (newRow el ⟨cs⟩).run P w = .ok ⟨w.heap.size, 0, none⟩ (w.alloc (.cells cs.toArray el)) := by
 simp [newRow, newObj, Sem.run]

theorem A8B {d : Nat} {op : Op} {el sz n : Nat} {cs : List Value} (hd : Nat.blt d Γ.n = true) (hl : cs.length = n * sz) (hm : n ≤ maxLen)
  (hrun : ∀ a w, St Γ ⟨env, hp, G⟩ a w → ∀ d pos af gd, (execOp a.eval ⟨d, op, ty, pos, af, gd⟩).run P w = .ok (.value (.slice (some ⟨w.heap.size, 0, none⟩) n n)) (w.alloc (.cells cs.toArray el))) :
  S6 P Γ ⟨env, hp, G⟩ (some d) op ty [] (fun σ' => ∃ b, σ' = ⟨(d, .slice (some ⟨b, 0, none⟩) n n) :: env, .slc (some ⟨b, 0, none⟩) n el sz n cs :: hp, G⟩) := by
 refine ⟨fun a w hs pos af gd Q next hn => ?_⟩
 simp only [Oper.wp, hrun a w hs, Oper.upon]
 have hr' := A8z w hs.res.own.inn el sz n cs hl hm
 exact hn _ _ _ (hs.step (ins := []) (rest := hp) (List.Perm.refl _) hr' (List.Perm.refl _) (d := some d) hd) hr'.ext ⟨w.heap.size, rfl⟩

theorem I4 {d : Nat} {t el : TypeId} {i : J4} {sz by' : Nat} {zs : List Value} [hI : E6 P t i] (hd' : i.desc = .slice el) [hE : V7 P el sz by' zs] {n : Nat} {xs : List (Nat × Operand)} {vs : List (Nat × Value)} {cs : List Value}
  (hd : Nat.blt d Γ.n = true) (hx : evp env xs = some vs) (hn : n * sz ≤ 16777216) (hm : n ≤ maxLen)
  (hf : A3I (fun j => some (j * sz, sz)) (A0J n zs) vs = some cs) :
  S6 P Γ ⟨env, hp, G⟩ (some d) (.buildSlice t n ⟨xs⟩) ty [] (fun σ' => ∃ b, σ' = ⟨(d, .slice (some ⟨b, 0, none⟩) n n) :: env, .slc (some ⟨b, 0, none⟩) n el sz n cs :: hp, G⟩) := by
 have hz := hE.len
 obtain ⟨_, hE⟩ := hE.ok
 replace hf := A8y hf
 have hlen : cs.length = n * sz := by rw [(A2N hf).2, A3K, hz]
 refine A8B hd hlen hm fun a w hs d pos af gd => ?_
 obtain ⟨inf, z, h1, h2, h3, _, g5, _⟩ := A2O (P := P) (t := el)
 have hu := hI.und
 rw [hd'] at hu
 have hv := A3J hs hx
 have e : ((⟨xs⟩ : Array (Nat × Operand)).map fun x => match x with | (i, x) => (i, a.eval x)).toList = vs := by simpa using hv
 have hfr := (A2N hf).1
 simp only [execOp, Instr.buildSlice, Sem.run_bind, run_underlying hu, Result.andThen_ok, h3, Sem.run_pure]
 rw [if_neg (by omega)]
 by_cases h0 : n * sz = 0
 ·have hz0 : A0J n zs = [] := List.eq_nil_of_length_eq_zero (by rw [A3K, hz, h0])
  rw [hz0] at hfr
  have er : ∀ f : Nat → Value, (Array.range 0).map f = (⟨[]⟩ : Array Value) := fun f => by simp
  simp only [h0, if_true, Sem.run_bind, Sem.run_pure, Result.andThen_ok, er]
  rw [e, hfr]
  simp only [Sem.run_bind, A5g, Result.andThen_ok, Sem.run_pure]
 ·have hc := A8A z.cells zs g5 n
  rw [hz] at hc
  simp only [h0, if_false, Sem.run_bind, Sem.run_pure, Result.andThen_ok, h2, hc]
  rw [e, hfr]
  simp only [Sem.run_bind, A5g, Result.andThen_ok, Sem.run_pure]

end mem

section rules2
variable {P : Program} {Γ : F8} {env : H1} {hp : List A1} {G : IM} {ty : TypeId} {K : Po} {ops : Array Oper} {rest : List Oper}
variable {pos : String} {af : Array Edge} {gd : Option (Nat × Bool)}

theorem A8C {w w' : World} {p p' : Option Addr} {c c' el sz n n' : Nat} {cs cs' : List Value} (hown : O5 [.slc p c el sz n cs] G w)
  (h' : w'.ownsRow 0 el sz (.slice p' n' c') n' cs') (hg : w.grownBy w' ((Value.slice p n c).ownBlock)) (hnew : ∀ g, p' = some g → (∃ q, p = some q ∧ q.block = g.block) ∨ w.heap.size ≤ g.block) :
  N3 [.slc p c el sz n cs] G w [.slc p' c' el sz n' cs'] G w' := by
 have hfp : ∀ b, b ∈ Fp [.slc p c el sz n cs] ↔ (Value.slice p n c).ownBlock = some b := by
  intro b
  cases p with
  | none => simp [Fp, A1.fp, E5, Value.ownBlock]
  | some q => simp [Fp, A1.fp, E5, Value.ownBlock, eq_comm]
 have hfp' : ∀ b, b ∈ Fp [.slc p' c' el sz n' cs'] ↔ ∃ g, p' = some g ∧ g.block = b := by
  intro b
  cases p' with
  | none => simp [Fp, A1.fp, E5]
  | some q => simp [Fp, A1.fp, E5, eq_comm]
 refine ⟨⟨?_, ?_, ?_, ?_⟩, ⟨hg.os, hg.tape, hg.output, hg.size, ?_⟩, A9.refl _, fun _ _ h => .inl h, ?_, fun b l h h0 => absurd h (by rw [h0]; simp)⟩
 ·intro b l hb
  obtain ⟨e, f, h⟩ := hown.inn b l hb
  refine ⟨e, f, ?_⟩
  rw [hg.block b (X4 h) ?_]
  ·exact h
  ·intro hb'
   have := hown.disj b ((hfp b).2 hb'.symm)
   rw [this] at hb; cases hb
 ·intro x hx
  simp at hx; subst hx; exact h'
 ·cases p' <;> simp [Fp, A1.fp, E5]
 ·intro b hb
  obtain ⟨g, hg1, hg2⟩ := (hfp' b).1 hb
  rcases hnew g hg1 with ⟨q, hq, hqb⟩ | hlt
  ·refine hown.disj b ((hfp b).2 ?_)
   subst hq
   simp [Value.ownBlock, hqb, hg2]
  ·cases hgb : G b with
   | none => rfl
   | some l => exact absurd (hown.inn.lt hgb) (by omega)
 ·intro k hk hkn
  exact hg.block k hk (fun e => hkn ((hfp k).2 e.symm))
 ·intro b hb
  obtain ⟨g, hg1, hg2⟩ := (hfp' b).1 hb
  rcases hnew g hg1 with ⟨q, hq, hqb⟩ | hlt
  ·right
   refine (hfp b).2 ?_
   subst hq
   simp [Value.ownBlock, hqb, hg2]
  ·left; omega

theorem A5h {d : Nat} {x y : Operand} {t el : TypeId} {i : J4} {sz by' : Nat} {zs : List Value} [hI : E6 P t i] (hd' : i.desc = .slice el) [hE : V7 P el sz by' zs] {p : Option Addr} {c n m b o c' : Nat} {cs news : List Value} {hp' : Option Addr → Nat → List A1}
  (hd : Nat.blt d Γ.n = true) (hx : evo env x = some (.slice p n c)) (hy : evo env y = some (.slice (some ⟨b, o, none⟩) m c')) (hsz : Nat.blt 0 sz = true)
  (hm : ∀ p' c', Sw hp (.slc p c el sz n cs) (.slc p' c' el sz (n + m) (cs ++ news)) (hp' p' c'))
  (hs' : At hp G b o news) (hl : news.length = m * sz) (h1 : ∀ u ∈ news, u.oneCell' = true)
  (h63 : n + m ≤ maxLen) (hb : (n + m) * by' ≤ 140737488355328) :
  S6 P Γ ⟨env, hp, G⟩ (some d) (.call ⟨.builtin .append, ⟨[x, y]⟩, ⟨[t, t]⟩⟩) ty (E5 p) (fun σ' => ∃ p' c', σ' = ⟨(d, .slice p' (n + m) c') :: env, hp' p' c', G⟩) := by
 refine ⟨fun a w hs pos af gd Q next hn => ?_⟩
 have hz := hE.len
 obtain ⟨_, hE⟩ := hE.ok
 obtain ⟨rest, q1, _⟩ := (hm none 0).perm
 have hown : O5 [.slc p c el sz n cs] G w := hs.res.own.of_mem q1
 obtain ⟨inf, z, t1, t2, t3, t4, t5, t6, t7, t8⟩ := A2O (P := P) (t := el)
 have hu := hI.und
 rw [hd'] at hu
 obtain ⟨full, e, f, hfb, hfv⟩ := hs'.read hs
 have hnews : ∀ j u, news[j]? = some u → w.cell? ((⟨b, o, none⟩ : Addr).add j) = some u := fun j u hj => by rw [A1z]; simp [World.cell?, hfb, hfv j u hj]
 have hsz' : 0 < sz := by simpa using hsz
 have hrow := hown.ok _ List.mem_cons_self
 obtain ⟨v', w', hrun, hown', hgrow, _⟩ := run_append_own (P := P) w 0 t ty el inf z sz by' hu t6 t7 t8 t4 (by rw [t5]; exact hz) hsz' (.slice p n c) n cs hrow ⟨b, o, none⟩ m c' news hl hnews h1 h63 hb (Nat.zero_le _)
 have hv' : ∃ p' c', v' = .slice p' (n + m) c' := by
  rcases hown'.2 with ⟨hv, hn0⟩ | ⟨g, cap, cur, hv, _⟩
  ·exact ⟨none, 0, by rw [hv, hn0]⟩
  ·exact ⟨_, _, hv⟩
 obtain ⟨p', c'', rfl⟩ := hv'
 have hexec : (execOp a.eval ⟨some d, .call ⟨.builtin .append, ⟨[x, y]⟩, ⟨[t, t]⟩⟩, ty, pos, af, gd⟩).run P w = .ok (.value (.slice p' (n + m) c'')) w' := by
  simp only [execOp, resolve, invoke, builtin, Sem.run_bind, Sem.run_pure, Result.andThen_ok]
  have e1 : (⟨[x, y]⟩ : Array Operand).map a.eval = #[.slice p n c, .slice (some ⟨b, o, none⟩) m c'] := by
   simp [(hs.evo hx : a.eval x = _), (hs.evo hy : a.eval y = _)]
  rw [e1]
  have : (Builtin.append_ ⟨[t, t]⟩ ty #[.slice p n c, .slice (some ⟨b, o, none⟩) m c']).run P w = .ok (.slice p' (n + m) c'') w' := hrun
  rw [this]; rfl
 simp only [Oper.wp, hexec, Oper.upon]
 have hnew : ∀ g, p' = some g → (∃ q, p = some q ∧ q.block = g.block) ∨ w.heap.size ≤ g.block := by
  intro g hg
  subst hg
  rcases hrow.2 with ⟨hv, hn0⟩ | ⟨g0, cap, cur, hv, _, hg0, hnc, hcm, hcs, htake⟩
  ·right
   cases hv
   obtain ⟨v2, w2, hrun2, hown2, _⟩ := run_append_own (P := P) w w.heap.size t ty el inf z sz by' hu t6 t7 t8 t4 (by rw [t5]; exact hz) hsz' (.slice none 0 0) 0 [] (World.ownsRow_nil w _ el _) ⟨b, o, none⟩ m c' news hl hnews h1 (by omega) (by omega) (Nat.le_refl _)
   rw [hrun] at hrun2
   cases hrun2
   rcases hown2.2 with ⟨hv2, _⟩ | ⟨g2, _, _, hv2, hb2, _⟩
   ·cases hv2
   ·cases hv2; exact hb2
  ·cases hv
   have hcl : cs.length = n * sz := hrow.1
   by_cases hroom : n + m ≤ c
   ·left
    have hfit : n * inf.size + news.length ≤ cur.size := by rw [t8, hl, hcs, ← Nat.add_mul]; exact Nat.mul_le_mul_right _ hroom
    have hr := run_append_room (P := P) w t ty el inf hu t6 g0 n c cur hg0 ⟨b, o, none⟩ m c' news (by rw [t8]; exact hl) hnews h1 hroom hfit
    rw [hrun] at hr
    cases hr
    exact ⟨_, rfl, rfl⟩
   ·right
    have holds : ∀ j u, cs[j]? = some u → w.cell? ((⟨g0, 0, none⟩ : Addr).add j) = some u := hrow.cells (g := g0) rfl
    have hm63 : n + m ≤ 9223372036854775807 := by unfold maxLen at h63; omega
    have hr := run_append_grow (P := P) w t ty el inf z hu t6 t7 ⟨g0, 0, none⟩ n c cs (by rw [t8]; exact hcl) holds ⟨b, o, none⟩ m c' news (by rw [t8]; exact hl) hnews (by omega) (by omega) (by rw [t4]; exact growslice_fits (by omega) hb)
    rw [hrun] at hr
    cases hr
    exact Nat.le_refl _
 have hr := A8C hown hown' hgrow hnew
 obtain ⟨rest, q1, q2⟩ := (hm p' c'').perm
 exact hn _ _ _ (hs.step q1 hr q2 (d := some d) hd) (by
  have := hr.ext
  simpa [Fp, A1.fp] using this) ⟨p', c'', rfl⟩

def Sl (G : IM) (p : Option Addr) (n c sz : Nat) (cs : List Value) : Prop :=
 cs.length = n * sz ∧ n ≤ c ∧ c ≤ maxLen ∧ (n = 0 ∨ ∃ b o full, p = some ⟨b, o, none⟩ ∧ G b = some full ∧ ∀ j v, cs[j]? = some v → full[o + j]? = some v)
theorem Sl.mono {G G' : IM} {p : Option Addr} {n c sz : Nat} {cs : List Value} (h : Sl G p n c sz cs) (hg : A9 G G') : Sl G' p n c sz cs := by
 obtain ⟨h1, h2, h3, h4⟩ := h
 refine ⟨h1, h2, h3, h4.imp id ?_⟩
 rintro ⟨b, o, full, e1, e2, e3⟩
 exact ⟨b, o, full, e1, hg b full e2, e3⟩
theorem Sl.nil (G : IM) (sz : Nat) : Sl G none 0 0 sz [] := ⟨by simp, Nat.le_refl _, Nat.zero_le _, .inl rfl⟩

theorem A8D {w : World} {p : Option Addr} {c el sz n : Nat} {cs : List Value} (hown : O5 [.slc p c el sz n cs] G w) :
  ∃ G', N3 [.slc p c el sz n cs] G w [] G' w ∧ Sl G' p n c sz cs ∧ ∀ b ∈ E5 p, G b = none ∧ G' b ≠ none := by
 obtain ⟨hl, h⟩ := hown.ok _ List.mem_cons_self
 rcases h with ⟨hv, hn⟩ | ⟨g, cap, cur, hv, _, hg, hnc, hcm, hcs, ht⟩
 ·cases hv
  exact ⟨G, ⟨⟨hown.inn, by simp, by simp [Fp], by simp [Fp]⟩, Z5.refl _ _, A9.refl _, fun _ _ h => .inl h, by simp [Fp], fun b l h h0 => absurd h (by rw [h0]; simp)⟩, ⟨hl, Nat.le_refl _, Nat.zero_le _, .inl rfl⟩, by simp [E5]⟩
 ·cases hv
  have hG : G g = none := hown.disj g (by simp [Fp, A1.fp, E5])
  refine ⟨fun b => if b = g then some cur.toList else G b, ⟨⟨?_, by simp, by simp [Fp], by simp [Fp]⟩, Z5.refl _ _, ?_, ?_, by simp [Fp], ?_⟩, ⟨hl, hnc, hcm, ?_⟩, by simp [E5, hG]⟩
  ·intro b l hb
   replace hb : (if b = g then some cur.toList else G b) = some l := hb
   split at hb
   ·rename_i he; subst he; simp at hb; subst hb; exact ⟨el, (0, 0), by simpa using hg⟩
   ·exact hown.inn b l hb
  ·intro b l hb
   show (if b = g then some cur.toList else G b) = some l
   rw [if_neg]
   ·exact hb
   ·rintro rfl; rw [hG] at hb; cases hb
  ·intro b l hb
   replace hb : (if b = g then some cur.toList else G b) = some l := hb
   split at hb
   ·rename_i he; subst he; exact .inr (.inr (by simp [Fp, A1.fp, E5]))
   ·exact .inl hb
  ·intro b l hb h0
   replace hb : (if b = g then some cur.toList else G b) = some l := hb
   split at hb
   ·rename_i he; subst he; simp at hb; subst hb; exact ⟨el, by simpa using hg⟩
   ·rw [h0] at hb; cases hb
  ·rcases Nat.eq_zero_or_pos n with h0 | h0
   ·exact .inl h0
   ·refine .inr ⟨g, 0, cur.toList, rfl, by simp, fun j v hj => ?_⟩
    rw [← ht, List.getElem?_take] at hj
    split at hj
    ·simpa using hj
    ·cases hj

theorem St.nil_slc {a : Act} {w : World} (hs : St Γ ⟨env, hp, G⟩ a w) (el sz : Nat) : St Γ ⟨env, .slc none 0 el sz 0 [] :: hp, G⟩ a w := by
 refine ⟨hs.size, hs.nod, hs.env, ⟨⟨hs.res.own.inn, ?_, ?_, ?_⟩, hs.res.ext, hs.res.le, hs.res.fresh, ?_, hs.res.fz⟩⟩
 ·intro e he
  rcases List.mem_cons.1 he with rfl | he
  ·exact World.ownsRow_nil w 0 el sz
  ·exact hs.res.own.ok e he
 ·simpa [Fp, A1.fp, E5] using hs.res.own.nodup
 ·intro b hb; exact hs.res.own.disj b (by simpa [Fp, A1.fp, E5] using hb)
 ·intro b hb; exact hs.res.ofresh b (by simpa [Fp, A1.fp, E5] using hb)
theorem A1D {cd : Code} (el sz : Nat) (h : H8 P Γ cd K ⟨env, .slc none 0 el sz 0 [] :: hp, G⟩) : H8 P Γ cd K ⟨env, hp, G⟩ := ⟨fun a w hs => h.run a w (hs.nil_slc el sz)⟩
theorem A5i (el sz : Nat) (h : D8 P Γ ops rest K ⟨env, .slc none 0 el sz 0 [] :: hp, G⟩) : D8 P Γ ops rest K ⟨env, hp, G⟩ := ⟨fun a w hs => h.run a w (hs.nil_slc el sz)⟩
inductive Pk : List A1 → A1 → List A1 → Prop
 | here {e : A1} {r : List A1} : Pk (e :: r) e r
 | there {x e : A1} {r r' : List A1} : Pk r e r' → Pk (x :: r) e (x :: r')
theorem Pk.perm {hp hp' : List A1} {e : A1} (h : Pk hp e hp') : hp.Perm ([e] ++ hp') := by
 induction h with
 | here => exact List.Perm.refl _
 | there _ ih => exact (ih.cons _).trans (List.Perm.swap _ _ _)

theorem St.freeze {a : Act} {w : World} {hp' : List A1} {p : Option Addr} {c el sz n : Nat} {cs : List Value} (hs : St Γ ⟨env, hp, G⟩ a w) (hk : Pk hp (.slc p c el sz n cs) hp') :
  ∃ G', St Γ ⟨env, hp', G'⟩ a w ∧ A9 G G' ∧ Sl G' p n c sz cs ∧ ∀ b ∈ E5 p, G b = none ∧ G' b ≠ none := by
 have hown : O5 [.slc p c el sz n cs] G w := hs.res.own.of_mem hk.perm
 obtain ⟨G', hr, hsl, hno⟩ := A8D hown
 exact ⟨G', ⟨hs.size, hs.nod, hs.env, by have := (hs.res.perm hk.perm).frame hr; simpa using this⟩, hr.le, hsl, hno⟩

theorem A2P {cd : Code} {hp' : List A1} {p : Option Addr} {c el sz n : Nat} {cs : List Value} (hk : Pk hp (.slc p c el sz n cs) hp')
  (h : ∀ G', A9 G G' → Sl G' p n c sz cs → (∀ b ∈ E5 p, G b = none ∧ G' b ≠ none) → H8 P Γ cd K ⟨env, hp', G'⟩) : H8 P Γ cd K ⟨env, hp, G⟩ :=
 ⟨fun a w hs => let ⟨G', h1, h2, h3, h4⟩ := hs.freeze hk; (h G' h2 h3 h4).run a w h1⟩
theorem Y4 {hp' : List A1} {p : Option Addr} {c el sz n : Nat} {cs : List Value} (hk : Pk hp (.slc p c el sz n cs) hp')
  (h : ∀ G', A9 G G' → Sl G' p n c sz cs → (∀ b ∈ E5 p, G b = none ∧ G' b ≠ none) → H8 P Γ .ret K ⟨env, hp', G'⟩) : H8 P Γ .ret K ⟨env, hp, G⟩ := A2P hk h
theorem N4 {hp' : List A1} {p : Option Addr} {c el sz n : Nat} {cs : List Value} (hk : Pk hp (.slc p c el sz n cs) hp')
  (h : ∀ G', A9 G G' → Sl G' p n c sz cs → (∀ b ∈ E5 p, G b = none ∧ G' b ≠ none) → D8 P Γ ops rest K ⟨env, hp', G'⟩) : D8 P Γ ops rest K ⟨env, hp, G⟩ :=
 ⟨fun a w hs => let ⟨G', h1, h2, h3, h4⟩ := hs.freeze hk; (h G' h2 h3 h4).run a w h1⟩
theorem A5j {H : List (Nat × Nat)} {fuel : Nat} {listed : List Bool} {hp' : List A1} {p : Option Addr} {c el sz n : Nat} {cs : List Value} (hk : Pk hp (.slc p c el sz n cs) hp')
  (h : ∀ G', A9 G G' → Sl G' p n c sz cs → (∀ b ∈ E5 p, G b = none ∧ G' b ≠ none) → K7 P Γ ops K H fuel listed ⟨env, hp', G'⟩) : K7 P Γ ops K H fuel listed ⟨env, hp, G⟩ :=
 ⟨fun a w hs => let ⟨G', h1, h2, h3, h4⟩ := hs.freeze hk; (h G' h2 h3 h4).run a w h1⟩

def J8 (v0 : Value) (G : IM) : IM → Value → List A1 → Prop := fun G' v outs => G' = G ∧ v = v0 ∧ outs = []
def I1 (Φ : IM → Value → Prop) : IM → Value → List A1 → Prop := fun G' v outs => outs = [] ∧ Φ G' v

theorem J9 {d : Nat} {f : FuncId} [hF : B1 P f] {xs : List Operand} {ats : Array TypeId} {vs : List Value} {v0 : Value}
  (hx : evl env xs = some vs) (h : Fn P f vs [] G (J8 v0 G)) (hw : J1 ops env gd = some true) (hd : Nat.blt d Γ.n = true)
  (k : D8 P Γ ops rest K ⟨(d, v0) :: env, hp, G⟩) : D8 P Γ ops (⟨some d, .call ⟨.value (.func f), ⟨xs⟩, ats⟩, ty, pos, af, gd⟩ :: rest) K ⟨env, hp, G⟩ :=
 D1 (A18 hx h hd) hw (by rintro _ ⟨v, G', outs, rfl, _, rfl, rfl, rfl⟩; exact k)
theorem H7 {d : Nat} {f : FuncId} [hF : B1 P f] {xs : List Operand} {ats : Array TypeId} {vs : List Value} {b : Bool}
  (hx : evl env xs = some vs) (h : Fn P f vs [] G (J8 (.bool b) G)) (hw : J1 ops env gd = some true) (hd : Nat.blt d Γ.n = true)
  (kt : b = true → D8 P Γ ops rest K ⟨(d, .bool true) :: env, hp, G⟩) (kf : b = false → D8 P Γ ops rest K ⟨(d, .bool false) :: env, hp, G⟩) :
  D8 P Γ ops (⟨some d, .call ⟨.value (.func f), ⟨xs⟩, ats⟩, ty, pos, af, gd⟩ :: rest) K ⟨env, hp, G⟩ := by
 cases b
 ·exact J9 hx h hw hd (kf rfl)
 ·exact J9 hx h hw hd (kt rfl)
theorem L5 {d : Nat} {f : FuncId} [hF : B1 P f] {xs : List Operand} {ats : Array TypeId} {vs : List Value} {Φ : IM → Value → Prop}
  (hx : evl env xs = some vs) (h : Fn P f vs [] G (I1 Φ)) (hw : J1 ops env gd = some true) (hd : Nat.blt d Γ.n = true)
  (k : ∀ v G', A9 G G' → Φ G' v → D8 P Γ ops rest K ⟨(d, v) :: env, hp, G'⟩) : D8 P Γ ops (⟨some d, .call ⟨.value (.func f), ⟨xs⟩, ats⟩, ty, pos, af, gd⟩ :: rest) K ⟨env, hp, G⟩ :=
 D1 (A18 hx h hd) hw (by rintro _ ⟨v, G', outs, rfl, hle, rfl, hΦ⟩; exact k v G' hle hΦ)
theorem A5k {d : Nat} {f : FuncId} [hF : B1 P f] {xs : List Operand} {ats : Array TypeId} {vs : List Value} {post : IM → Value → List A1 → Prop}
  (hx : evl env xs = some vs) (h : Fn P f vs [] G post) (hw : J1 ops env gd = some true) (hd : Nat.blt d Γ.n = true)
  (k : ∀ v G' outs, A9 G G' → post G' v outs → D8 P Γ ops rest K ⟨(d, v) :: env, outs ++ hp, G'⟩) : D8 P Γ ops (⟨some d, .call ⟨.value (.func f), ⟨xs⟩, ats⟩, ty, pos, af, gd⟩ :: rest) K ⟨env, hp, G⟩ :=
 D1 (A18 hx h hd) hw (by rintro _ ⟨v, G', outs, rfl, hle, hp⟩; exact k v G' outs hle hp)
def T3 (v0 : Value) (ins : List A1) (G : IM) : IM → Value → List A1 → Prop := fun G' v outs => G' = G ∧ v = v0 ∧ outs = ins
theorem A5l {hp' : List A1} (p : hp.Perm hp') (k : D8 P Γ ops rest K ⟨env, hp', G⟩) : D8 P Γ ops rest K ⟨env, hp, G⟩ :=
 ⟨fun a w hs => k.run a w ⟨hs.size, hs.nod, hs.env, hs.res.perm p⟩⟩
theorem A3L {d : Nat} {f : FuncId} [hF : B1 P f] {xs : List Operand} {ats : Array TypeId} {vs : List Value} {v0 : Value} {ins rst : List A1}
  (hx : evl env xs = some vs) (h : Fn P f vs ins G (T3 v0 ins G)) (hp' : hp.Perm (ins ++ rst)) (hw : J1 ops env gd = some true) (hd : Nat.blt d Γ.n = true)
  (k : D8 P Γ ops rest K ⟨(d, v0) :: env, hp, G⟩) : D8 P Γ ops (⟨some d, .call ⟨.value (.func f), ⟨xs⟩, ats⟩, ty, pos, af, gd⟩ :: rest) K ⟨env, hp, G⟩ :=
 D1 (A2J hx h hp' hd) hw (by rintro _ ⟨v, G', outs, rfl, _, rfl, rfl, rfl⟩; exact A5l hp'.symm k)
theorem A5m {d : Nat} {f : FuncId} [hF : B1 P f] {g : Operand} {xs : List Operand} {ats : Array TypeId} {vs us cs : List Value} {v0 : Value} {ins rst : List A1}
  (hg : evo env g = some (.func (.func f) ⟨us⟩ ⟨cs⟩)) (hx : evl env xs = some vs) (h : Fn P f (us ++ vs ++ cs) ins G (T3 v0 ins G)) (hp' : hp.Perm (ins ++ rst)) (hw : J1 ops env gd = some true) (hd : Nat.blt d Γ.n = true)
  (k : D8 P Γ ops rest K ⟨(d, v0) :: env, hp, G⟩) : D8 P Γ ops (⟨some d, .call ⟨.value g, ⟨xs⟩, ats⟩, ty, pos, af, gd⟩ :: rest) K ⟨env, hp, G⟩ :=
 D1 (N9 hg hx h hp' hd) hw (by rintro _ ⟨v, G', outs, rfl, _, rfl, rfl, rfl⟩; exact A5l hp'.symm k)
theorem A2a {d : Nat} {f : FuncId} [hF : B1 P f] {xs : List Operand} {ats : Array TypeId} {vs : List Value} {b : Bool} {ins rst : List A1}
  (hx : evl env xs = some vs) (h : Fn P f vs ins G (T3 (.bool b) ins G)) (hp' : hp.Perm (ins ++ rst)) (hw : J1 ops env gd = some true) (hd : Nat.blt d Γ.n = true)
  (kt : b = true → D8 P Γ ops rest K ⟨(d, .bool true) :: env, hp, G⟩) (kf : b = false → D8 P Γ ops rest K ⟨(d, .bool false) :: env, hp, G⟩) :
  D8 P Γ ops (⟨some d, .call ⟨.value (.func f), ⟨xs⟩, ats⟩, ty, pos, af, gd⟩ :: rest) K ⟨env, hp, G⟩ := by
 cases b
 ·exact A3L hx h hp' hw hd (kf rfl)
 ·exact A3L hx h hp' hw hd (kt rfl)
theorem A3M {d : Nat} {f : FuncId} [hF : B1 P f] {g : Operand} {xs : List Operand} {ats : Array TypeId} {vs us cs : List Value} {b : Bool} {ins rst : List A1}
  (hg : evo env g = some (.func (.func f) ⟨us⟩ ⟨cs⟩)) (hx : evl env xs = some vs) (h : Fn P f (us ++ vs ++ cs) ins G (T3 (.bool b) ins G)) (hp' : hp.Perm (ins ++ rst)) (hw : J1 ops env gd = some true) (hd : Nat.blt d Γ.n = true)
  (kt : b = true → D8 P Γ ops rest K ⟨(d, .bool true) :: env, hp, G⟩) (kf : b = false → D8 P Γ ops rest K ⟨(d, .bool false) :: env, hp, G⟩) :
  D8 P Γ ops (⟨some d, .call ⟨.value g, ⟨xs⟩, ats⟩, ty, pos, af, gd⟩ :: rest) K ⟨env, hp, G⟩ := by
 cases b
 ·exact A5m hg hx h hp' hw hd (kf rfl)
 ·exact A5m hg hx h hp' hw hd (kt rfl)

theorem A3N {d : Nat} {f : FuncId} [hF : B1 P f] {xs : List Operand} {ats : Array TypeId} {vs : List Value} {v0 : Value} {ins outs rst : List A1}
  (hx : evl env xs = some vs) (h : Fn P f vs ins G (T3 v0 outs G)) (hp' : hp.Perm (ins ++ rst)) (hw : J1 ops env gd = some true) (hd : Nat.blt d Γ.n = true)
  (k : D8 P Γ ops rest K ⟨(d, v0) :: env, outs ++ rst, G⟩) : D8 P Γ ops (⟨some d, .call ⟨.value (.func f), ⟨xs⟩, ats⟩, ty, pos, af, gd⟩ :: rest) K ⟨env, hp, G⟩ :=
 D1 (A2J hx h hp' hd) hw (by rintro _ ⟨v, G', outs, rfl, _, rfl, rfl, rfl⟩; exact k)
theorem A8E {d : Nat} {f : FuncId} [hF : B1 P f] {xs : List Operand} {ats : Array TypeId} {vs : List Value} {b : Bool} {ins outs rst : List A1}
  (hx : evl env xs = some vs) (h : Fn P f vs ins G (T3 (.bool b) outs G)) (hp' : hp.Perm (ins ++ rst)) (hw : J1 ops env gd = some true) (hd : Nat.blt d Γ.n = true)
  (kt : b = true → D8 P Γ ops rest K ⟨(d, .bool true) :: env, outs ++ rst, G⟩) (kf : b = false → D8 P Γ ops rest K ⟨(d, .bool false) :: env, outs ++ rst, G⟩) :
  D8 P Γ ops (⟨some d, .call ⟨.value (.func f), ⟨xs⟩, ats⟩, ty, pos, af, gd⟩ :: rest) K ⟨env, hp, G⟩ := by
 cases b
 ·exact A3N hx h hp' hw hd (kf rfl)
 ·exact A3N hx h hp' hw hd (kt rfl)
theorem A5n {a b : A1} {r : List A1} : (a :: b :: r).Perm (r ++ [a, b]) := List.perm_append_comm (l₁ := [a, b])
theorem A0X : hp.Perm (hp ++ []) := by simp
inductive H9 (e : H1) : H1 → Prop
 | nil : H9 e []
 | cons {t : Nat} {v : Value} {e' : H1} : S5 e t = some v → H9 e e' → H9 e ((t, v) :: e')
inductive A2 : List A1 → List A1 → Prop
 | nil {h : List A1} : A2 h []
 | refl {h : List A1} : A2 h h
 | cons {h h' r : List A1} {e : A1} : Pk h e r → A2 r h' → A2 h (e :: h')
 | drop {x : A1} {h h' : List A1} : A2 h h' → A2 (x :: h) h'
theorem H9.spec {e e' : H1} (h : H9 e e') : ∀ t v, S5 e' t = some v → S5 e t = some v := by
 induction h with
 | nil => intro t v h; simp [S5] at h
 | @cons t0 v0 e' h0 _ ih =>
  intro t v h
  rw [A3v] at h
  split at h
  ·rename_i he; subst he; simp at h; subst h; exact h0
  ·exact ih t v h
theorem A2.spec {h h' : List A1} (hs : A2 h h') : ∃ r, h.Perm (h' ++ r) := by
 induction hs with
 | @nil h => exact ⟨h, List.Perm.refl _⟩
 | @refl h => exact ⟨[], by simp⟩
 | @cons h h' r e hk _ ih =>
  obtain ⟨r', hr'⟩ := ih
  exact ⟨r', hk.perm.trans (by simpa using hr'.cons e)⟩
 | @drop x h h' _ ih =>
  obtain ⟨r', hr'⟩ := ih
  exact ⟨x :: r', (hr'.cons x).trans List.perm_middle.symm⟩
theorem P3 (es : List (List Value)) (a : List Value) : (es ++ [a]).flatten = es.flatten ++ a := by simp
theorem P8 {e' : H1} {hp' : List A1} (h : H9 env e') (h2 : A2 hp hp') : Y2 ⟨env, hp, G⟩ ⟨e', hp', G⟩ := ⟨h.spec, h2.spec, rfl⟩

theorem I9 {e' : H1} {hp' : List A1} (h : H9 env e' := by repeat (first | exact H9.nil | refine H9.cons rfl ?_)) (h2 : A2 hp hp' := by repeat (first | exact A2.refl | exact A2.nil | refine A2.cons (by repeat (first | exact Pk.here | apply Pk.there)) ?_ | apply A2.drop)) : Y2 ⟨env, hp, G⟩ ⟨e', hp', G⟩ := P8 h h2
theorem F0 {r : ResultVar} {post : IM → Value → List A1 → Prop} {v : Value} (h : A1h P Γ ⟨env, hp, G⟩ r v) (hk : post G v []) :
  A0n P Γ [r] post .ret ⟨env, hp, G⟩ := A5c (.cons h .nil) hk
theorem N6 {A B : Prop} (h : B) (f : B → A := by intro h; first | (show D8 _ _ _ [] _ _; exact sD h) | (show D8 _ _ _ (⟨_, .assign _, _, _, _, _⟩ :: _) _ _; first | exact sQ (qA rfl) rfl h | exact sK rfl rfl h) | (show D8 _ _ _ (⟨_, .move _, _, _, _, _⟩ :: _) _ _; first | exact sQ (qM rfl) rfl h | exact sK rfl rfl h) | (show D8 _ _ _ (⟨_, .fieldAddr _ _ _, _, _, _, _⟩ :: _) _ _; first | exact sQ (A5 rfl) rfl h | exact sQ (qF rfl) rfl h | exact sK rfl rfl h) | (show D8 _ _ _ (⟨_, .load _ _, _, _, _, _⟩ :: _) _ _; first | exact sL (C1 rfl rfl) rfl rfl h | exact sL (A7 rfl rfl) rfl rfl h | exact sK rfl rfl h) | (show D8 _ _ _ (⟨_, .store _ _ _, _, _, _, _⟩ :: _) _ _; refine I8 ?_; exact h) | (show D8 _ _ _ (⟨_, .pick _ _ _, _, _, _, _⟩ :: _) _ _; first | exact sQ (M2 rfl rfl) rfl h | exact sQ (L4 rfl rfl) rfl h | exact sK rfl rfl h) | (show D8 _ _ _ (⟨_, .extract _ _, _, _, _, _⟩ :: _) _ _; first | exact sQ (pX rfl rfl) rfl h | exact sK rfl rfl h) | (show D8 _ _ _ (⟨_, .build _ _, _, _, _, _⟩ :: _) _ _; first | exact sQ (W0 rfl rfl) rfl h | exact sK rfl rfl h) | (show D8 _ _ _ (⟨_, .unOp _ _ _, _, _, _, _⟩ :: _) _ _; first | exact sQ (pNt rfl) rfl h | exact sQ (pNf rfl) rfl h | exact sK rfl rfl h) | (show D8 _ _ _ (⟨_, .call _, _, _, _, _⟩ :: _) _ _; first | exact sQ (pLn rfl rfl) rfl h | exact sK rfl rfl h) | (show D8 _ _ _ (_ :: _) _ _; exact sK rfl rfl h) | (show A0k _ _ _ _ .normal _; exact nS h) | (show H8 _ _ (.seq _ _) _ _; exact tS h) | (show H8 _ _ (.region _ _ _) _ _; exact tR h) | (show H8 _ _ (.cond _ _ _) _ _; first | exact qT rfl h | exact cF rfl h) | (show H8 _ _ .skip _ _; exact tK h) | (show H8 _ _ .ret _ _; exact tT h) | (show A0k _ _ _ _ .ret _; exact rS h) | (show A0C _ _ .ret _; exact rB h) | (show A0C _ _ .normal _; exact P7 h) | (show H8 _ _ (.exit _) _ _; exact A75 h) | (show A0k _ _ _ _ (.exit _) _; exact A8q h) | (show A0D _ _ _ _ _ (.exit _) _; exact A8a h) | (show A0C _ _ (.exit _) _; exact A8r h) | (show A0D _ _ _ _ _ .ret _; exact A79 h) | (show A0n _ _ _ _ .ret _; exact F0 (rT rfl) h) | (show K7 _ _ _ _ _ _ _ _; exact M7 h)) : A := f h
theorem wk2 {A B : Prop} (h : B) (f : B → A := by intro h; (iterate 2 (refine N6 ?_)); exact h) : A := f h
theorem F9 {A B : Prop} (h : B) (f : B → A := by intro h; (iterate 3 (refine N6 ?_)); exact h) : A := f h
theorem I5 {A B : Prop} (h : B) (f : B → A := by intro h; (iterate 4 (refine N6 ?_)); exact h) : A := f h
theorem P9 {A B : Prop} (h : B) (f : B → A := by intro h; (iterate 5 (refine N6 ?_)); exact h) : A := f h
theorem K8 {A B : Prop} (h : B) (f : B → A := by intro h; (iterate 6 (refine N6 ?_)); exact h) : A := f h
theorem B8 {A B : Prop} (h : B) (f : B → A := by intro h; (iterate 7 (refine N6 ?_)); exact h) : A := f h
theorem E0 {A B : Prop} (h : B) (f : B → A := by intro h; (iterate 8 (refine N6 ?_)); exact h) : A := f h
theorem C2 {A B : Prop} (h : B) (f : B → A := by intro h; (iterate 9 (refine N6 ?_)); exact h) : A := f h
theorem O2 {A B : Prop} (h : B) (f : B → A := by intro h; (iterate 10 (refine N6 ?_)); exact h) : A := f h
theorem I3 {A B : Prop} (h : B) (f : B → A := by intro h; (iterate 11 (refine N6 ?_)); exact h) : A := f h
theorem Q6 {A B : Prop} (h : B) (f : B → A := by intro h; (iterate 12 (refine N6 ?_)); exact h) : A := f h
theorem H3 {A B : Prop} (h : B) (f : B → A := by intro h; (iterate 13 (refine N6 ?_)); exact h) : A := f h
theorem O3 {A B : Prop} (h : B) (f : B → A := by intro h; (iterate 14 (refine N6 ?_)); exact h) : A := f h
theorem L6 {A B : Prop} (h : B) (f : B → A := by intro h; (iterate 15 (refine N6 ?_)); exact h) : A := f h
theorem M8 {A B : Prop} (h : B) (f : B → A := by intro h; (iterate 16 (refine N6 ?_)); exact h) : A := f h
theorem W1 {A B : Prop} (h : B) (f : B → A := by intro h; (iterate 17 (refine N6 ?_)); exact h) : A := f h
theorem W2 {A B : Prop} (h : B) (f : B → A := by intro h; (iterate 18 (refine N6 ?_)); exact h) : A := f h
theorem W3 {A B : Prop} (h : B) (f : B → A := by intro h; (iterate 19 (refine N6 ?_)); exact h) : A := f h
theorem Y5 {A B : Prop} (h : B) (f : B → A := by intro h; (iterate 20 (refine N6 ?_)); exact h) : A := f h
theorem A0o {A B : Prop} (h : B) (f : B → A := by intro h; (iterate 21 (refine N6 ?_)); exact h) : A := f h
theorem A1E {A B : Prop} (h : B) (f : B → A := by intro h; (iterate 22 (refine N6 ?_)); exact h) : A := f h
theorem A0K {A B : Prop} (h : B) (f : B → A := by intro h; (iterate 23 (refine N6 ?_)); exact h) : A := f h
theorem A0Y {A B : Prop} (h : B) (f : B → A := by intro h; (iterate 24 (refine N6 ?_)); exact h) : A := f h
theorem A1k {A B : Prop} (h : B) (f : B → A := by intro h; (iterate 25 (refine N6 ?_)); exact h) : A := f h
theorem A1F {A B : Prop} (h : B) (f : B → A := by intro h; (iterate 26 (refine N6 ?_)); exact h) : A := f h
theorem A5o {A B : Prop} (h : B) (f : B → A := by intro h; (iterate 27 (refine N6 ?_)); exact h) : A := f h
theorem A8F {A B : Prop} (h : B) (f : B → A := by intro h; (iterate 28 (refine N6 ?_)); exact h) : A := f h
theorem A8G {A B : Prop} (h : B) (f : B → A := by intro h; (iterate 29 (refine N6 ?_)); exact h) : A := f h
theorem S7 {A B : Prop} (h : B) (f : B → A := by intro h; (iterate 30 (refine N6 ?_)); exact h) : A := f h
theorem C8 {r r2 : ResultVar} {post : IM → Value → List A1 → Prop} {v v2 : Value} (h : A1h P Γ ⟨env, hp, G⟩ r v) (h2 : A1h P Γ ⟨env, hp, G⟩ r2 v2) (hk : post G (.tuple ⟨[v, v2]⟩) []) :
  A0n P Γ [r, r2] post .ret ⟨env, hp, G⟩ := A5c (.cons h (.cons h2 .nil)) hk
theorem B2 {r : ResultVar} {post : IM → Value → List A1 → Prop} {v : Value} {outs : List A1} (h : A1h P Γ ⟨env, hp, G⟩ r v) (ho : A2 hp outs) (hk : post G v outs) :
  A0n P Γ [r] post .ret ⟨env, hp, G⟩ := A8s (.cons h .nil) ho.spec hk
theorem T4 {H : List (Nat × Nat)} {fuel : Nat} {listed l' : List Bool} {j : Nat} {d : Option Nat} {op : Op} {K' : Sy → Prop} {σ : Sy} (hi : ops[j]? = some ⟨d, op, ty, pos, af, gd⟩)
  (h : S6 P Γ σ d op ty [] K') (hw : J1 ops σ.env gd = some true) (hl : listed.set j true = l')
  (k : ∀ σ', K' σ' → K7 P Γ ops K H fuel l' σ') : T1 P Γ ops K H fuel listed j σ := by
 refine ⟨fun a w hs Hs hHs hall hdc hrd => ?_⟩
 unfold wpOp
 simp only [hi, A0E hs.env hw, if_true]
 refine .inl (h.run a w hs pos af gd _ _ fun a' w' σ' h1 h2 h3 => ?_)
 have hkeep : ∀ h ∈ Hs, w'.heap[h.b]? = some h.o := fun x hx => by rw [h2.block x.b (X4 (hall x hx)) (by simp), hall x hx]
 have hn : ∀ h ∈ Hn ops j Hs, w'.heap[h.b]? = some h.o := fun x hx => hkeep x (List.mem_filter.1 hx).1
 refine ⟨hn, ?_⟩
 have := (k σ' h3).run a' w' h1 Hs hHs hkeep (by rw [← hl]; simpa using hdc.step hrd)
 rw [← hl] at this
 exact A3y _ (fun x hx => (List.mem_filter.1 hx).1) _ _ _ (by simpa using this)

theorem A2b {H H' : List (Nat × Nat)} {fuel : Nat} {listed l' : List Bool} {j : Nat} {d : Option Nat} {op : Op} {mods : List Nat} {K' : Sy → Prop} {σ : Sy} (hi : ops[j]? = some ⟨d, op, ty, pos, af, gd⟩)
  (h : S6 P Γ σ d op ty mods K') (hw : J1 ops σ.env gd = some true) (hl : listed.set j true = l')
  (hm : ∀ a w, St Γ σ a w → ∀ p ∈ H, U0 ops j p.1 = true ∨ p.2 ∉ mods) (hH : H.filter (fun p => !U0 ops j p.1) = H')
  (k : ∀ σ', K' σ' → K7 P Γ ops K H' fuel l' σ') : T1 P Γ ops K H fuel listed j σ := by
 refine ⟨fun a w hs Hs hHs hall hdc hrd => ?_⟩
 exact (A8e (listed := listed) hi h hw hl (hm a w hs) (fun σ' hσ => by rw [hH]; exact k σ' hσ)).run a w hs Hs hHs hall hdc hrd
theorem A8H {H : List (Nat × Nat)} {fuel : Nat} {listed l' : List Bool} {j : Nat} {d : Option Nat} {op : Op} {mods : List Nat} {K' : Sy → Prop} {σ : Sy} (hi : ops[j]? = some ⟨d, op, ty, pos, af, gd⟩)
  (h : S6 P Γ σ d op ty mods K') (hw : J1 ops σ.env gd = some true) (hl : listed.set j true = l')
  (hm : ((H.map Prod.fst).all fun i => U0 ops j i) = true)
  (k : ∀ σ', K' σ' → K7 P Γ ops K [] fuel l' σ') : T1 P Γ ops K H fuel listed j σ := by
 have hm' : ∀ p ∈ H, U0 ops j p.1 = true := fun p hp => List.all_eq_true.1 hm p.1 (List.mem_map.2 ⟨p, hp, rfl⟩)
 refine A2b hi h hw hl (fun _ _ _ p hp => .inl (hm' p hp)) ?_ k
 rw [List.filter_eq_nil_iff]
 intro p hp
 simp [hm' p hp]

inductive B7 (ops : Array Oper) (j : Nat) (hp : List A1) (G : IM) (e : A1) : List (Nat × Nat) → List (Nat × Nat) → Prop
 | nil : B7 ops j hp G e [] []
 | dep {i b : Nat} {r r' : List (Nat × Nat)} : U0 ops j i = true → B7 ops j hp G e r r' → B7 ops j hp G e ((i, b) :: r) r'
 | blk {i b : Nat} {cs : List Value} {rest : List A1} {r r' : List (Nat × Nat)} : U0 ops j i = false → Pk hp e rest → A1.blk b cs ∈ rest → B7 ops j hp G e r r' → B7 ops j hp G e ((i, b) :: r) ((i, b) :: r')
 | slc {i b c el sz n : Nat} {cs : List Value} {rest : List A1} {r r' : List (Nat × Nat)} : U0 ops j i = false → Pk hp e rest → A1.slc (some ⟨b, 0, none⟩) c el sz n cs ∈ rest → B7 ops j hp G e r r' → B7 ops j hp G e ((i, b) :: r) ((i, b) :: r')
 | im {i b : Nat} {r r' : List (Nat × Nat)} : U0 ops j i = false → G b ≠ none → e ∈ hp → B7 ops j hp G e r r' → B7 ops j hp G e ((i, b) :: r) ((i, b) :: r')
theorem B7.filter {j : Nat} {e : A1} {H H' : List (Nat × Nat)} (h : B7 ops j hp G e H H') : H.filter (fun p => !U0 ops j p.1) = H' := by
 induction h with
 | nil => rfl
 | dep hd _ ih => simp [hd, ih]
 | blk hd _ _ _ ih => simp [hd, ih]
 | slc hd _ _ _ ih => simp [hd, ih]
 | im hd _ _ _ ih => simp [hd, ih]

theorem B7.spec {j : Nat} {e : A1} {H H' : List (Nat × Nat)} (h : B7 ops j hp G e H H') {a : Act} {w : World} (hs : St Γ ⟨env, hp, G⟩ a w) : ∀ p ∈ H, U0 ops j p.1 = true ∨ p.2 ∉ e.fp := by
 have other : ∀ {rest : List A1} {x : A1}, Pk hp e rest → x ∈ rest → ∀ b ∈ x.fp, b ∉ e.fp := by
  intro rest x hk hx b hb hbe
  have := (hs.res.own.perm hk.perm).nodup
  rw [V0, List.nodup_append] at this
  exact this.2.2 b (by simpa [Fp] using hbe) b (A2F.2 ⟨x, hx, hb⟩) rfl
 induction h with
 | nil => simp
 | dep hd _ ih =>
  intro p hp'
  rcases List.mem_cons.1 hp' with rfl | hp'
  ·exact .inl hd
  ·exact ih p hp'
 | blk _ hk hm _ ih =>
  intro p hp'
  rcases List.mem_cons.1 hp' with rfl | hp'
  ·exact .inr (other hk hm _ (by simp [A1.fp]))
  ·exact ih p hp'
 | slc _ hk hm _ ih =>
  intro p hp'
  rcases List.mem_cons.1 hp' with rfl | hp'
  ·exact .inr (other hk hm _ (by simp [A1.fp, E5]))
  ·exact ih p hp'
 | im _ hg hm _ ih =>
  intro p hp'
  rcases List.mem_cons.1 hp' with rfl | hp'
  ·refine .inr fun hbe => ?_
   exact hg (hs.res.own.disj _ (A2F.2 ⟨e, hm, hbe⟩))
  ·exact ih p hp'


section ones
variable {H : List (Nat × Nat)} {fuel : Nat} {listed l' : List Bool} {j d : Nat} {f : FuncId} {xs : List Operand} {ats : Array TypeId} {vs us cs : List Value} {v0 : Value} {b : Bool} {ins rst : List A1} {g : Operand}
theorem M3 [hF : B1 P f] (hi : ops[j]? = some ⟨some d, .call ⟨.value (.func f), ⟨xs⟩, ats⟩, ty, pos, af, gd⟩) (hx : evl env xs = some vs) (h : Fn P f vs [] G (J8 v0 G)) (hw : J1 ops env gd = some true) (hd : Nat.blt d Γ.n = true) (hl : listed.set j true = l')
  (k : K7 P Γ ops K H fuel l' ⟨(d, v0) :: env, hp, G⟩) : T1 P Γ ops K H fuel listed j ⟨env, hp, G⟩ :=
 T4 hi (A18 hx h hd) hw hl (by rintro _ ⟨v, G', outs, rfl, _, rfl, rfl, rfl⟩; exact k)
theorem A8I [hF : B1 P f] (hi : ops[j]? = some ⟨some d, .call ⟨.value (.func f), ⟨xs⟩, ats⟩, ty, pos, af, gd⟩) (hx : evl env xs = some vs) (h : Fn P f vs [] G (J8 (.bool b) G)) (hw : J1 ops env gd = some true) (hd : Nat.blt d Γ.n = true) (hl : listed.set j true = l')
  (kt : b = true → K7 P Γ ops K H fuel l' ⟨(d, .bool true) :: env, hp, G⟩) (kf : b = false → K7 P Γ ops K H fuel l' ⟨(d, .bool false) :: env, hp, G⟩) : T1 P Γ ops K H fuel listed j ⟨env, hp, G⟩ := by
 cases b
 ·exact M3 hi hx h hw hd hl (kf rfl)
 ·exact M3 hi hx h hw hd hl (kt rfl)
theorem A2c [hF : B1 P f] {Φ : IM → Value → Prop} (hi : ops[j]? = some ⟨some d, .call ⟨.value (.func f), ⟨xs⟩, ats⟩, ty, pos, af, gd⟩) (hx : evl env xs = some vs) (h : Fn P f vs [] G (I1 Φ)) (hw : J1 ops env gd = some true) (hd : Nat.blt d Γ.n = true) (hl : listed.set j true = l')
  (k : ∀ v G', A9 G G' → Φ G' v → K7 P Γ ops K H fuel l' ⟨(d, v) :: env, hp, G'⟩) : T1 P Γ ops K H fuel listed j ⟨env, hp, G⟩ :=
 T4 hi (A18 hx h hd) hw hl (by rintro _ ⟨v, G', outs, rfl, hle, rfl, hΦ⟩; exact k v G' hle hΦ)
theorem N2 {x y : Operand} {t : TypeId} {i : J4} [hI : E6 P t i] {bb o : Nat} {v : Value} {cs' : List Value} {hp' : List A1} (hi : ops[j]? = some ⟨none, .store t x y, ty, pos, af, gd⟩)
  (hx : evo env x = some (.pointer (some ⟨bb, o, none⟩))) (hy : evo env y = some v) (hv : v.cells = ⟨vs⟩) (hsz : vs.length = i.size) (h1 : vs.all (·.oneCell') = true)
  (hw : J1 ops env gd = some true) (hl : listed.set j true = l') (hm : ((H.map Prod.fst).all fun i => U0 ops j i) = true)
  (hsw : Sw hp (.blk bb cs) (.blk bb cs') hp') (hu : R6 cs o vs = some cs')
  (k : K7 P Γ ops K [] fuel l' ⟨env, hp', G⟩) : T1 P Γ ops K H fuel listed j ⟨env, hp, G⟩ :=
 A8H hi (A3E hx hy hv hsz h1 hu hsw rfl) hw hl hm (by rintro _ rfl; exact k)
theorem A0p {x y : Operand} {t el : TypeId} {i : J4} {sz by' : Nat} {zs : List Value} [hI : E6 P t i] [hE : V7 P el sz by' zs] {p : Option Addr} {c n m bb o c' : Nat} {news : List Value} {hp' : Option Addr → Nat → List A1} {H' : List (Nat × Nat)}
  (hi : ops[j]? = some ⟨some d, .call ⟨.builtin .append, ⟨[x, y]⟩, ⟨[t, t]⟩⟩, ty, pos, af, gd⟩) (hd' : i.desc = .slice el)
  (hd : Nat.blt d Γ.n = true) (hx : evo env x = some (.slice p n c)) (hy : evo env y = some (.slice (some ⟨bb, o, none⟩) m c')) (hsz : Nat.blt 0 sz = true)
  (hm : ∀ p' c', Sw hp (.slc p c el sz n cs) (.slc p' c' el sz (n + m) (cs ++ news)) (hp' p' c'))
  (hs' : At hp G bb o news) (hln : news.length = m * sz) (h1 : ∀ u ∈ news, u.oneCell' = true)
  (h63 : n + m ≤ maxLen) (hb : (n + m) * by' ≤ 140737488355328) (hw : J1 ops env gd = some true) (hl : listed.set j true = l')
  (hok : B7 ops j hp G (.slc p c el sz n cs) H H')
  (k : ∀ p' c', K7 P Γ ops K H' fuel l' ⟨(d, .slice p' (n + m) c') :: env, hp' p' c', G⟩) : T1 P Γ ops K H fuel listed j ⟨env, hp, G⟩ :=
 A2b hi (A5h hd' hd hx hy hsz hm hs' hln h1 h63 hb) hw hl (fun _ _ hs => hok.spec hs) hok.filter (by rintro _ ⟨p', c', rfl⟩; exact k p' c')
end ones
theorem A5p {d : Nat} {x y : Operand} {t el : TypeId} {i : J4} {sz by' : Nat} {zs : List Value} [hI : E6 P t i] [hE : V7 P el sz by' zs] {p : Option Addr} {c n m bb o c' : Nat} {cs news : List Value} {hp' : Option Addr → Nat → List A1}
  (hd' : i.desc = .slice el) (hd : Nat.blt d Γ.n = true) (hx : evo env x = some (.slice p n c)) (hy : evo env y = some (.slice (some ⟨bb, o, none⟩) m c')) (hsz : Nat.blt 0 sz = true)
  (hm : ∀ p' c', Sw hp (.slc p c el sz n cs) (.slc p' c' el sz (n + m) (cs ++ news)) (hp' p' c'))
  (hs' : At hp G bb o news) (hln : news.length = m * sz) (h1 : ∀ u ∈ news, u.oneCell' = true)
  (h63 : n + m ≤ maxLen) (hb : (n + m) * by' ≤ 140737488355328) (hw : J1 ops env gd = some true)
  (k : ∀ p' c', D8 P Γ ops rest K ⟨(d, .slice p' (n + m) c') :: env, hp' p' c', G⟩) : D8 P Γ ops (⟨some d, .call ⟨.builtin .append, ⟨[x, y]⟩, ⟨[t, t]⟩⟩, ty, pos, af, gd⟩ :: rest) K ⟨env, hp, G⟩ :=
 D1 (A5h hd' hd hx hy hsz hm hs' hln h1 h63 hb) hw (by rintro _ ⟨p', c', rfl⟩; exact k p' c')

end rules2
section oneS
variable {P : Program} {Γ : F8} {env : H1} {hp : List A1} {G : IM} {K : Po} {ops : Array Oper} {ty : TypeId} {pos : String} {af : Array Edge} {gd : Option (Nat × Bool)}
end oneS
section oneM
variable {P : Program} {Γ : F8} {env : H1} {hp : List A1} {G : IM} {K : Po} {ops : Array Oper} {ty : TypeId} {pos : String} {af : Array Edge} {gd : Option (Nat × Bool)}
theorem A3O {H H' : List (Nat × Nat)} {fuel : Nat} {listed l' : List Bool} {j : Nat} {cs vs : List Value} {x y : Operand} {t : TypeId} {i : J4} [hI : E6 P t i] {bb o : Nat} {v : Value} {cs' : List Value} {hp' : List A1} (hi : ops[j]? = some ⟨none, .store t x y, ty, pos, af, gd⟩)
  (hx : evo env x = some (.pointer (some ⟨bb, o, none⟩))) (hy : evo env y = some v) (hv : v.cells = ⟨vs⟩) (hsz : vs.length = i.size) (h1 : vs.all (·.oneCell') = true)
  (hw : J1 ops env gd = some true) (hl : listed.set j true = l') (hsw : Sw hp (.blk bb cs) (.blk bb cs') hp') (hu : R6 cs o vs = some cs')
  (hok : B7 ops j hp G (.blk bb cs) H H')
  (k : K7 P Γ ops K H' fuel l' ⟨env, hp', G⟩) : T1 P Γ ops K H fuel listed j ⟨env, hp, G⟩ :=
 A2b hi (A3E hx hy hv hsz h1 hu hsw rfl) hw hl (fun _ _ hs => by simpa [A1.fp] using hok.spec hs) hok.filter (by rintro _ rfl; exact k)
theorem oS {H H' : List (Nat × Nat)} {fuel : Nat} {listed l' : List Bool} {j : Nat} {cs vs : List Value} {x y : Operand} {t : TypeId} {i : J4} [hI : E6 P t i] {bb o : Nat} {v : Value} {cs' : List Value} {hp' : List A1} (hi : ops[j]? = some ⟨none, .store t x y, ty, pos, af, gd⟩)
 (hx : evo env x = some (.pointer (some ⟨bb, o, none⟩))) (hy : evo env y = some v) (hv : v.cells = ⟨vs⟩) (hsz : vs.length = i.size) (h1 : vs.all (·.oneCell') = true)
 (hw : J1 ops env gd = some true) (hl : listed.set j true = l')
 (k : K7 P Γ ops K H' fuel l' ⟨env, hp', G⟩) (hsw : Sw hp (.blk bb cs) (.blk bb cs') hp' := by repeat first | exact Sw.here | apply Sw.there) (hu : R6 cs o vs = some cs' := by rfl)
 (hok : B7 ops j hp G (.blk bb cs) H H' := by repeat (first | exact B7.nil | apply B7.dep (by decide +kernel) | apply B7.im (by decide +kernel) (by assumption) (by repeat first | exact mH | apply mT) | apply B7.blk (by decide +kernel) (by repeat (first | exact Pk.here | apply Pk.there)) (by repeat first | exact mH | apply mT) | apply B7.slc (by decide +kernel) (by repeat (first | exact Pk.here | apply Pk.there)) (by repeat first | exact mH | apply mT))) : T1 P Γ ops K H fuel listed j ⟨env, hp, G⟩ :=
 A3O hi hx hy hv hsz h1 hw hl hsw hu hok k
theorem oT {H H' : List (Nat × Nat)} {fuel : Nat} {listed l' : List Bool} {j : Nat} {cs vs : List Value} {x y : Operand} {t : TypeId} {i : J4} [hI : E6 P t i] {bb o : Nat} {v : Value} {cs' : List Value} {hp' : List A1} [hl : Z8 listed j l'] (hi : ops[j]? = some ⟨none, .store t x y, ty, pos, af, gd⟩)
 (hx : evo env x = some (.pointer (some ⟨bb, o, none⟩))) (hy : evo env y = some v) (hv : v.cells = ⟨vs⟩) (hsz : vs.length = i.size) (h1 : vs.all (·.oneCell') = true)
 (hw : J1 ops env gd = some true)
 (k : K7 P Γ ops K H' fuel l' ⟨env, hp', G⟩) (hsw : Sw hp (.blk bb cs) (.blk bb cs') hp' := by repeat first | exact Sw.here | apply Sw.there) (hu : R6 cs o vs = some cs' := by rfl)
 (hok : B7 ops j hp G (.blk bb cs) H H' := by repeat (first | exact B7.nil | apply B7.dep (by decide +kernel) | apply B7.im (by decide +kernel) (by assumption) (by repeat first | exact mH | apply mT) | apply B7.blk (by decide +kernel) (by repeat (first | exact Pk.here | apply Pk.there)) (by repeat first | exact mH | apply mT) | apply B7.slc (by decide +kernel) (by repeat (first | exact Pk.here | apply Pk.there)) (by repeat first | exact mH | apply mT))) : T1 P Γ ops K H fuel listed j ⟨env, hp, G⟩ :=
 A3O hi hx hy hv hsz h1 hw hl.h hsw hu hok k
theorem Q7 {H H' : List (Nat × Nat)} {fuel : Nat} {listed l' : List Bool} {j : Nat} {cs vs : List Value} {x y : Operand} {t : TypeId} {i : J4} [hI : E6 P t i] {bb o : Nat} {v : Value} {cs' : List Value} {hp' : List A1} [hl : Z8 listed j l']
 (hi : ops[j]? = some ⟨none, .store t x y, ty, pos, af, gd⟩) (k : K7 P Γ ops K H' fuel l' ⟨env, hp', G⟩)
 (hx : evo env x = some (.pointer (some ⟨bb, o, none⟩)) := by rfl) (hy : evo env y = some v := by rfl) (hv : v.cells = ⟨vs⟩ := by rfl) (hsz : vs.length = i.size := by rfl) (h1 : vs.all (·.oneCell') = true := by rfl)
 (hw : J1 ops env gd = some true := by rfl) (hsw : Sw hp (.blk bb cs) (.blk bb cs') hp' := by repeat first | exact Sw.here | apply Sw.there) (hu : R6 cs o vs = some cs' := by rfl)
 (hok : B7 ops j hp G (.blk bb cs) H H' := by repeat (first | exact B7.nil | apply B7.dep (by decide +kernel) | apply B7.im (by decide +kernel) (by assumption) (by repeat first | exact mH | apply mT) | apply B7.blk (by decide +kernel) (by repeat (first | exact Pk.here | apply Pk.there)) (by repeat first | exact mH | apply mT) | apply B7.slc (by decide +kernel) (by repeat (first | exact Pk.here | apply Pk.there)) (by repeat first | exact mH | apply mT))) : T1 P Γ ops K H fuel listed j ⟨env, hp, G⟩ :=
 A3O hi hx hy hv hsz h1 hw hl.h hsw hu hok k
end oneM

def Wo (G : IM) (F : List Nat) : IM := fun b => if b ∈ F then none else G b
def A0L (bs : List (Nat × List Value)) : List A1 := bs.map fun p => .blk p.1 p.2
theorem A2d : ∀ bs : List (Nat × List Value), Fp (A0L bs) = bs.map Prod.fst
 | [] => rfl
 | p :: bs => by
  show (A1.blk p.1 p.2).fp ++ Fp (A0L bs) = _
  rw [A2d bs]; rfl
theorem A8J {bs : List (Nat × List Value)} {p : Nat × List Value} (h : p ∈ bs) : A1.blk p.1 p.2 ∈ A0L bs := List.mem_map.2 ⟨p, h, rfl⟩

def Wi (G : IM) (bs : List (Nat × List Value)) : IM := fun b => match bs.lookup b with | some l => some l | none => G b
theorem A8K {bs : List (Nat × List Value)} (hn : (bs.map Prod.fst).Nodup) {p : Nat × List Value} (h : p ∈ bs) : bs.lookup p.1 = some p.2 := by
 induction bs with
 | nil => cases h
 | cons q bs ih =>
  obtain ⟨k, v⟩ := q
  simp only [List.map_cons, List.nodup_cons] at hn
  rcases List.mem_cons.1 h with rfl | h
  ·simp [List.lookup]
  ·have hne : p.1 ≠ k := by
    intro he; exact hn.1 (List.mem_map.2 ⟨p, h, he⟩)
   simp only [List.lookup]
   rw [show (p.1 == k) = false from beq_eq_false_iff_ne.2 hne]
   exact ih hn.2 h
theorem A5q {bs : List (Nat × List Value)} {b : Nat} {l : List Value} (h : bs.lookup b = some l) : (b, l) ∈ bs := by
 induction bs with
 | nil => simp [List.lookup] at h
 | cons q bs ih =>
  obtain ⟨k, v⟩ := q
  simp only [List.lookup] at h
  split at h
  ·rename_i he
   have : b = k := by simpa using he
   cases h; rw [this]; exact List.mem_cons_self
  ·exact List.mem_cons_of_mem _ (ih h)
theorem Wi.get {G : IM} {bs : List (Nat × List Value)} {b : Nat} {l : List Value} (h : Wi G bs b = some l) : (b, l) ∈ bs ∨ G b = some l := by
 unfold Wi at h
 split at h
 ·rename_i l' hl; cases h; exact .inl (A5q hl)
 ·exact .inr h
theorem Wi.in {G : IM} {bs : List (Nat × List Value)} (hn : (bs.map Prod.fst).Nodup) {p : Nat × List Value} (h : p ∈ bs) : Wi G bs p.1 = some p.2 := by
 unfold Wi; rw [A8K hn h]
theorem Wi.le {G : IM} {bs : List (Nat × List Value)} (h : ∀ p ∈ bs, G p.1 = none) : A9 G (Wi G bs) := by
 intro b l hb
 unfold Wi
 split
 ·rename_i l' hl
  have := h _ (A5q hl)
  rw [show ((b, l') : Nat × List Value).1 = b from rfl, hb] at this; cases this
 ·exact hb

theorem A8L {w : World} {G : IM} {bs : List (Nat × List Value)} (hown : O5 (A0L bs) G w) (hz : ∀ p ∈ bs, ∃ e, w.heap[p.1]? = some (.cells p.2.toArray e (0, 0))) :
  N3 (A0L bs) G w [] (Wi G bs) w := by
 have hd : ∀ p ∈ bs, G p.1 = none := fun p hp => hown.disj p.1 (by rw [A2d]; exact List.mem_map_of_mem hp)
 refine ⟨⟨?_, by simp, by simp [Fp], by simp [Fp]⟩, Z5.refl _ _, Wi.le hd, ?_, by simp [Fp], ?_⟩
 ·intro b l hb
  rcases Wi.get hb with h | h
  ·obtain ⟨e, he⟩ := hz _ h; exact ⟨e, _, he⟩
  ·exact hown.inn b l h
 ·intro b l hb
  rcases Wi.get hb with h | h
  ·right; right; rw [A2d]; exact List.mem_map.2 ⟨_, h, rfl⟩
  ·exact .inl h
 ·intro b l hb h0
  rcases Wi.get hb with h | h
  ·exact hz _ h
  ·rw [h0] at h; cases h

section rules3
variable {P : Program} {Γ : F8} {env : H1} {hp : List A1} {G : IM} {K : Po} {ops : Array Oper} {rest : List Oper}

theorem St.freezes {a : Act} {w : World} {bs : List (Nat × List Value)} {hp' : List A1} (hs : St Γ ⟨env, hp, G⟩ a w) (p : hp.Perm (A0L bs ++ hp')) :
  St Γ ⟨env, hp', Wi G bs⟩ a w ∧ (bs.map Prod.fst).Nodup ∧ ∀ q ∈ bs, G q.1 = none := by
 have hown : O5 (A0L bs) G w := (hs.res.own.perm p).left
 have hr := A8L hown fun q hq => hown.ok _ (A8J hq)
 refine ⟨⟨hs.size, hs.nod, hs.env, by have := (hs.res.perm p).frame hr; simpa using this⟩, by have := hown.nodup; rwa [A2d] at this, fun q hq => hown.disj q.1 (by rw [A2d]; exact List.mem_map_of_mem hq)⟩
theorem A5r {cd : Code} {bs : List (Nat × List Value)} {hp' : List A1} (p : hp.Perm (A0L bs ++ hp'))
  (h : (bs.map Prod.fst).Nodup → (∀ q ∈ bs, G q.1 = none) → A9 G (Wi G bs) → H8 P Γ cd K ⟨env, hp', Wi G bs⟩) : H8 P Γ cd K ⟨env, hp, G⟩ :=
 ⟨fun a w hs => let ⟨h1, h2, h3⟩ := hs.freezes p; (h h2 h3 (Wi.le h3)).run a w h1⟩
end rules3
end Gw
end Go.Proofs.YtgodjiieijekiaaGreatDoor
namespace Go.Proofs.YtgodjiieijekiaaGreatDoor
open Go
namespace Gw
theorem W4 {P : Program} {t : TypeId} {n b : Nat} {zs : List Value} {d : TypeDesc} (h : (P.info? t).map (fun i => (i.size, i.bytes, i.zero.map Value.cells)) = some (n, b, some ⟨zs⟩)) (hu : P.underlying t = some d) : E6 P t ⟨n, b, zs, d⟩ := by
 refine ⟨?_, hu⟩
 cases hi : P.info? t with
 | none => simp [hi] at h
 | some i =>
  simp only [hi, Option.map_some, Option.some.injEq, Prod.mk.injEq] at h
  obtain ⟨h1, h2, h3⟩ := h
  cases hz : i.zero with
  | none => simp [hz] at h3
  | some z => simp only [hz, Option.map_some, Option.some.injEq] at h3; exact ⟨i, rfl, h1, h2, z, hz, h3⟩
theorem X6 {P : Program} {s f off sz : Nat} {ft : TypeId} {ag : Bool} {fs : Array Field} {d : TypeDesc} {r : J4} (hI : E6 P ft r) (hs : P.underlying s = some (.struct fs)) (hf : (fs[f]?).map (fun x => (x.offset, x.type)) = some (off, ft)) (h1 : r.size = sz) (h2 : sz ≠ 0) (h3 : r.desc = d) (h4 : A0H d = ag) : U1 P s f off sz ag := by
 cases hx : fs[f]? with
 | none => simp [hx] at hf
 | some x =>
  simp [hx] at hf
  obtain ⟨rfl, rfl⟩ := hf
  obtain ⟨inf, g1, g2, _⟩ := hI.info
  exact ⟨fs, x, d, inf, hs, hx, rfl, g1, by rw [g2, h1], h2, by rw [← h3]; exact hI.und, h4⟩
theorem C7 {P : Program} {f : Nat} {fn : Func} (h : P.funcs[f]? = some fn) (h1 : fn.body.isNone = false) (h2 : (fn.name == "runtime.NumGoroutine") = false) : B1 P f := ⟨fn, h, h1, h2⟩
instance ty3 : E6 Tryz.prog 3 ⟨1, 8, [.int .i64 0], (TypeDesc.int IntKind.i64)⟩ := W4 (by kernel_rfl) Tryz.underlying3
instance ty4 : E6 Tryz.prog 4 ⟨1, 1, [.bool false], TypeDesc.bool⟩ := W4 (by kernel_rfl) Tryz.underlying4
instance ty5 : E6 Tryz.prog 5 ⟨1, 1, [.int .u8 0], (TypeDesc.int IntKind.u8)⟩ := W4 (by kernel_rfl) Tryz.underlying5
instance ty9 : E6 Tryz.prog 9 ⟨1, 16, [.string ByteArray.empty], TypeDesc.string⟩ := W4 (by kernel_rfl) Tryz.underlying9
instance ty22 : E6 Tryz.prog 22 ⟨1, 24, [.slice none 0 0], (TypeDesc.slice 5)⟩ := W4 (by kernel_rfl) Tryz.underlying22
instance ty23 : E6 Tryz.prog 23 ⟨1, 24, [.slice none 0 0], (TypeDesc.slice 25)⟩ := W4 (by kernel_rfl) Tryz.underlying23
instance ty25 : E6 Tryz.prog 25 ⟨2, 32, [.int .i64 0, .slice none 0 0], (TypeDesc.struct #[{ name := "Kind", type := 3, offset := 0, embedded := false, tag := "", pkgPath := "", byteOffset := 0 }, { name := "Kids", type := 23, offset := 1, embedded := false, tag := "", pkgPath := "", byteOffset := 8 }])⟩ := W4 (by kernel_rfl) Tryz.underlying25
instance ty26 : E6 Tryz.prog 26 ⟨1, 24, [.slice none 0 0], (TypeDesc.slice 28)⟩ := W4 (by kernel_rfl) Tryz.underlying26
instance ty28 : E6 Tryz.prog 28 ⟨9, 128, [.int .i64 0, .string ByteArray.empty, .int .i64 0, .int .i64 0, .slice none 0 0, .int .i64 0, .slice none 0 0, .int .i64 0, .slice none 0 0], (TypeDesc.struct #[{ name := "Kind", type := 3, offset := 0, embedded := false, tag := "", pkgPath := "", byteOffset := 0 }, { name := "Name", type := 9, offset := 1, embedded := false, tag := "", pkgPath := "", byteOffset := 8 }, { name := "Num", type := 3, offset := 2, embedded := false, tag := "", pkgPath := "", byteOffset := 24 }, { name := "Type", type := 25, offset := 3, embedded := false, tag := "", pkgPath := "", byteOffset := 32 }, { name := "From", type := 25, offset := 5, embedded := false, tag := "", pkgPath := "", byteOffset := 64 }, { name := "Label", type := 3, offset := 7, embedded := false, tag := "", pkgPath := "", byteOffset := 96 }, { name := "Kids", type := 26, offset := 8, embedded := false, tag := "", pkgPath := "", byteOffset := 104 }])⟩ := W4 (by kernel_rfl) Tryz.underlying28
instance ty60 : E6 Tryz.prog 60 ⟨1, 24, [.slice none 0 0], (TypeDesc.slice 9)⟩ := W4 (by kernel_rfl) Tryz.underlying60
instance ty95 : E6 Tryz.prog 95 ⟨1, 8, [.pointer none], (TypeDesc.pointer 97)⟩ := W4 (by kernel_rfl) Tryz.underlying95
instance ty97 : E6 Tryz.prog 97 ⟨2, 24, [.string ByteArray.empty, .bool false], (TypeDesc.struct #[{ name := "s", type := 9, offset := 0, embedded := false, tag := "", pkgPath := "loop.example/gradual/impl", byteOffset := 0 }, { name := "bad", type := 4, offset := 1, embedded := false, tag := "", pkgPath := "loop.example/gradual/impl", byteOffset := 16 }])⟩ := W4 (by kernel_rfl) Tryz.underlying97
instance ty102 : E6 Tryz.prog 102 ⟨2, 32, [.slice none 0 0, .int .i64 0], (TypeDesc.struct #[{ name := "b", type := 22, offset := 0, embedded := false, tag := "", pkgPath := "loop.example/gradual/spec", byteOffset := 0 }, { name := "p", type := 3, offset := 1, embedded := false, tag := "", pkgPath := "loop.example/gradual/spec", byteOffset := 24 }])⟩ := W4 (by kernel_rfl) Tryz.underlying102
instance ty106 : E6 Tryz.prog 106 ⟨1, 24, [.slice none 0 0], (TypeDesc.slice 3)⟩ := W4 (by kernel_rfl) Tryz.underlying106
instance tz3 : V7 Tryz.prog 3 1 8 [.int .i64 0] := ⟨⟨_, ty3⟩, rfl⟩
instance tz5 : V7 Tryz.prog 5 1 1 [.int .u8 0] := ⟨⟨_, ty5⟩, rfl⟩
instance tz9 : V7 Tryz.prog 9 1 16 [.string ByteArray.empty] := ⟨⟨_, ty9⟩, rfl⟩
instance tz25 : V7 Tryz.prog 25 2 32 [.int .i64 0, .slice none 0 0] := ⟨⟨_, ty25⟩, rfl⟩
instance tz28 : V7 Tryz.prog 28 9 128 [.int .i64 0, .string ByteArray.empty, .int .i64 0, .int .i64 0, .slice none 0 0, .int .i64 0, .slice none 0 0, .int .i64 0, .slice none 0 0] := ⟨⟨_, ty28⟩, rfl⟩
instance fd25_0 : U1 Tryz.prog 25 0 0 1 false := X6 ty3 Tryz.underlying25 rfl rfl (by decide) rfl rfl
instance fd25_1 : U1 Tryz.prog 25 1 1 1 false := X6 ty23 Tryz.underlying25 rfl rfl (by decide) rfl rfl
instance fd28_0 : U1 Tryz.prog 28 0 0 1 false := X6 ty3 Tryz.underlying28 rfl rfl (by decide) rfl rfl
instance fd28_1 : U1 Tryz.prog 28 1 1 1 false := X6 ty9 Tryz.underlying28 rfl rfl (by decide) rfl rfl
instance fd28_2 : U1 Tryz.prog 28 2 2 1 false := X6 ty3 Tryz.underlying28 rfl rfl (by decide) rfl rfl
instance fd28_3 : U1 Tryz.prog 28 3 3 2 true := X6 ty25 Tryz.underlying28 rfl rfl (by decide) rfl rfl
instance fd28_4 : U1 Tryz.prog 28 4 5 2 true := X6 ty25 Tryz.underlying28 rfl rfl (by decide) rfl rfl
instance fd28_5 : U1 Tryz.prog 28 5 7 1 false := X6 ty3 Tryz.underlying28 rfl rfl (by decide) rfl rfl
instance fd28_6 : U1 Tryz.prog 28 6 8 1 false := X6 ty26 Tryz.underlying28 rfl rfl (by decide) rfl rfl
instance fd97_0 : U1 Tryz.prog 97 0 0 1 false := X6 ty9 Tryz.underlying97 rfl rfl (by decide) rfl rfl
instance fd97_1 : U1 Tryz.prog 97 1 1 1 false := X6 ty4 Tryz.underlying97 rfl rfl (by decide) rfl rfl
instance fd102_0 : U1 Tryz.prog 102 0 0 1 false := X6 ty22 Tryz.underlying102 rfl rfl (by decide) rfl rfl
instance fd102_1 : U1 Tryz.prog 102 1 1 1 false := X6 ty3 Tryz.underlying102 rfl rfl (by decide) rfl rfl
instance fn10 : B1 Tryz.prog 10 := C7 Tryz.func10 (by kernel_rfl) (by kernel_rfl)
instance fn11 : B1 Tryz.prog 11 := C7 Tryz.func11 (by kernel_rfl) (by kernel_rfl)
instance fn12 : B1 Tryz.prog 12 := C7 Tryz.func12 (by kernel_rfl) (by kernel_rfl)
instance fn13 : B1 Tryz.prog 13 := C7 Tryz.func13 (by kernel_rfl) (by kernel_rfl)
instance fn14 : B1 Tryz.prog 14 := C7 Tryz.func14 (by kernel_rfl) (by kernel_rfl)
instance fn15 : B1 Tryz.prog 15 := C7 Tryz.func15 (by kernel_rfl) (by kernel_rfl)
instance fn16 : B1 Tryz.prog 16 := C7 Tryz.func16 (by kernel_rfl) (by kernel_rfl)
instance fn17 : B1 Tryz.prog 17 := C7 Tryz.func17 (by kernel_rfl) (by kernel_rfl)
instance fn18 : B1 Tryz.prog 18 := C7 Tryz.func18 (by kernel_rfl) (by kernel_rfl)
instance fn39 : B1 Tryz.prog 39 := C7 Tryz.func39 (by kernel_rfl) (by kernel_rfl)
instance fn40 : B1 Tryz.prog 40 := C7 Tryz.func40 (by kernel_rfl) (by kernel_rfl)
instance fn41 : B1 Tryz.prog 41 := C7 Tryz.func41 (by kernel_rfl) (by kernel_rfl)
instance fn42 : B1 Tryz.prog 42 := C7 Tryz.func42 (by kernel_rfl) (by kernel_rfl)
instance fn43 : B1 Tryz.prog 43 := C7 Tryz.func43 (by kernel_rfl) (by kernel_rfl)
instance fn44 : B1 Tryz.prog 44 := C7 Tryz.func44 (by kernel_rfl) (by kernel_rfl)
instance fn45 : B1 Tryz.prog 45 := C7 Tryz.func45 (by kernel_rfl) (by kernel_rfl)
instance fn46 : B1 Tryz.prog 46 := C7 Tryz.func46 (by kernel_rfl) (by kernel_rfl)
instance fn47 : B1 Tryz.prog 47 := C7 Tryz.func47 (by kernel_rfl) (by kernel_rfl)
instance fn48 : B1 Tryz.prog 48 := C7 Tryz.func48 (by kernel_rfl) (by kernel_rfl)
instance fn49 : B1 Tryz.prog 49 := C7 Tryz.func49 (by kernel_rfl) (by kernel_rfl)
instance fn50 : B1 Tryz.prog 50 := C7 Tryz.func50 (by kernel_rfl) (by kernel_rfl)
instance fn51 : B1 Tryz.prog 51 := C7 Tryz.func51 (by kernel_rfl) (by kernel_rfl)
instance fn59 : B1 Tryz.prog 59 := C7 Tryz.func59 (by kernel_rfl) (by kernel_rfl)
instance fn60 : B1 Tryz.prog 60 := C7 Tryz.func60 (by kernel_rfl) (by kernel_rfl)
instance fn69 : B1 Tryz.prog 69 := C7 Tryz.func69 (by kernel_rfl) (by kernel_rfl)
instance fn73 : B1 Tryz.prog 73 := C7 Tryz.func73 (by kernel_rfl) (by kernel_rfl)
instance fn84 : B1 Tryz.prog 84 := C7 Tryz.func84 (by kernel_rfl) (by kernel_rfl)
instance fn85 : B1 Tryz.prog 85 := C7 Tryz.func85 (by kernel_rfl) (by kernel_rfl)
instance fn86 : B1 Tryz.prog 86 := C7 Tryz.func86 (by kernel_rfl) (by kernel_rfl)
instance fn87 : B1 Tryz.prog 87 := C7 Tryz.func87 (by kernel_rfl) (by kernel_rfl)
instance fn88 : B1 Tryz.prog 88 := C7 Tryz.func88 (by kernel_rfl) (by kernel_rfl)
instance fn89 : B1 Tryz.prog 89 := C7 Tryz.func89 (by kernel_rfl) (by kernel_rfl)
instance fn90 : B1 Tryz.prog 90 := C7 Tryz.func90 (by kernel_rfl) (by kernel_rfl)
instance fn91 : B1 Tryz.prog 91 := C7 Tryz.func91 (by kernel_rfl) (by kernel_rfl)
instance fn92 : B1 Tryz.prog 92 := C7 Tryz.func92 (by kernel_rfl) (by kernel_rfl)
instance fn93 : B1 Tryz.prog 93 := C7 Tryz.func93 (by kernel_rfl) (by kernel_rfl)
instance fn94 : B1 Tryz.prog 94 := C7 Tryz.func94 (by kernel_rfl) (by kernel_rfl)
instance fn95 : B1 Tryz.prog 95 := C7 Tryz.func95 (by kernel_rfl) (by kernel_rfl)
instance fn96 : B1 Tryz.prog 96 := C7 Tryz.func96 (by kernel_rfl) (by kernel_rfl)
instance fn97 : B1 Tryz.prog 97 := C7 Tryz.func97 (by kernel_rfl) (by kernel_rfl)
instance fn98 : B1 Tryz.prog 98 := C7 Tryz.func98 (by kernel_rfl) (by kernel_rfl)
instance fn99 : B1 Tryz.prog 99 := C7 Tryz.func99 (by kernel_rfl) (by kernel_rfl)
instance fn100 : B1 Tryz.prog 100 := C7 Tryz.func100 (by kernel_rfl) (by kernel_rfl)
instance fn101 : B1 Tryz.prog 101 := C7 Tryz.func101 (by kernel_rfl) (by kernel_rfl)
instance fn102 : B1 Tryz.prog 102 := C7 Tryz.func102 (by kernel_rfl) (by kernel_rfl)
instance fn103 : B1 Tryz.prog 103 := C7 Tryz.func103 (by kernel_rfl) (by kernel_rfl)
instance fn104 : B1 Tryz.prog 104 := C7 Tryz.func104 (by kernel_rfl) (by kernel_rfl)
instance fn105 : B1 Tryz.prog 105 := C7 Tryz.func105 (by kernel_rfl) (by kernel_rfl)
instance fn111 : B1 Tryz.prog 111 := C7 Tryz.func111 (by kernel_rfl) (by kernel_rfl)
instance fn113 : B1 Tryz.prog 113 := C7 Tryz.func113 (by kernel_rfl) (by kernel_rfl)
instance fn114 : B1 Tryz.prog 114 := C7 Tryz.func114 (by kernel_rfl) (by kernel_rfl)
instance fn115 : B1 Tryz.prog 115 := C7 Tryz.func115 (by kernel_rfl) (by kernel_rfl)
instance fn116 : B1 Tryz.prog 116 := C7 Tryz.func116 (by kernel_rfl) (by kernel_rfl)
instance fn123 : B1 Tryz.prog 123 := C7 Tryz.func123 (by kernel_rfl) (by kernel_rfl)
instance fn125 : B1 Tryz.prog 125 := C7 Tryz.func125 (by kernel_rfl) (by kernel_rfl)
instance fn136 : B1 Tryz.prog 136 := C7 Tryz.func136 (by kernel_rfl) (by kernel_rfl)
instance fn148 : B1 Tryz.prog 148 := C7 Tryz.func148 (by kernel_rfl) (by kernel_rfl)
instance fn149 : B1 Tryz.prog 149 := C7 Tryz.func149 (by kernel_rfl) (by kernel_rfl)
instance fn150 : B1 Tryz.prog 150 := C7 Tryz.func150 (by kernel_rfl) (by kernel_rfl)
instance fn151 : B1 Tryz.prog 151 := C7 Tryz.func151 (by kernel_rfl) (by kernel_rfl)
instance fn152 : B1 Tryz.prog 152 := C7 Tryz.func152 (by kernel_rfl) (by kernel_rfl)
instance fn153 : B1 Tryz.prog 153 := C7 Tryz.func153 (by kernel_rfl) (by kernel_rfl)
instance fn154 : B1 Tryz.prog 154 := C7 Tryz.func154 (by kernel_rfl) (by kernel_rfl)
instance fn155 : B1 Tryz.prog 155 := C7 Tryz.func155 (by kernel_rfl) (by kernel_rfl)
instance fn156 : B1 Tryz.prog 156 := C7 Tryz.func156 (by kernel_rfl) (by kernel_rfl)
instance fn157 : B1 Tryz.prog 157 := C7 Tryz.func157 (by kernel_rfl) (by kernel_rfl)
instance fn158 : B1 Tryz.prog 158 := C7 Tryz.func158 (by kernel_rfl) (by kernel_rfl)
instance fn159 : B1 Tryz.prog 159 := C7 Tryz.func159 (by kernel_rfl) (by kernel_rfl)
instance fn160 : B1 Tryz.prog 160 := C7 Tryz.func160 (by kernel_rfl) (by kernel_rfl)
instance fn161 : B1 Tryz.prog 161 := C7 Tryz.func161 (by kernel_rfl) (by kernel_rfl)
instance fn162 : B1 Tryz.prog 162 := C7 Tryz.func162 (by kernel_rfl) (by kernel_rfl)
instance fn163 : B1 Tryz.prog 163 := C7 Tryz.func163 (by kernel_rfl) (by kernel_rfl)
instance fn164 : B1 Tryz.prog 164 := C7 Tryz.func164 (by kernel_rfl) (by kernel_rfl)
instance fn165 : B1 Tryz.prog 165 := C7 Tryz.func165 (by kernel_rfl) (by kernel_rfl)
instance fn166 : B1 Tryz.prog 166 := C7 Tryz.func166 (by kernel_rfl) (by kernel_rfl)
instance fn167 : B1 Tryz.prog 167 := C7 Tryz.func167 (by kernel_rfl) (by kernel_rfl)
instance fn168 : B1 Tryz.prog 168 := C7 Tryz.func168 (by kernel_rfl) (by kernel_rfl)
instance fn170 : B1 Tryz.prog 170 := C7 Tryz.func170 (by kernel_rfl) (by kernel_rfl)
instance fn175 : B1 Tryz.prog 175 := C7 Tryz.func175 (by kernel_rfl) (by kernel_rfl)
instance fn189 : B1 Tryz.prog 189 := C7 Tryz.func189 (by kernel_rfl) (by kernel_rfl)
instance fn190 : B1 Tryz.prog 190 := C7 Tryz.func190 (by kernel_rfl) (by kernel_rfl)
instance fn191 : B1 Tryz.prog 191 := C7 Tryz.func191 (by kernel_rfl) (by kernel_rfl)
instance fn192 : B1 Tryz.prog 192 := C7 Tryz.func192 (by kernel_rfl) (by kernel_rfl)
instance fn193 : B1 Tryz.prog 193 := C7 Tryz.func193 (by kernel_rfl) (by kernel_rfl)
instance fn194 : B1 Tryz.prog 194 := C7 Tryz.func194 (by kernel_rfl) (by kernel_rfl)
instance fn216 : B1 Tryz.prog 216 := C7 Tryz.func216 (by kernel_rfl) (by kernel_rfl)
instance fn217 : B1 Tryz.prog 217 := C7 Tryz.func217 (by kernel_rfl) (by kernel_rfl)
instance pl25 : A1C Tryz.prog 25 [(0, 1), (1, 1)] := A2M Tryz.underlying25 (by kernel_rfl) (by kernel_rfl)
instance pl28 : A1C Tryz.prog 28 [(0, 1), (1, 1), (2, 1), (3, 2), (5, 2), (7, 1), (8, 1)] := A2M Tryz.underlying28 (by kernel_rfl) (by kernel_rfl)
instance pl97 : A1C Tryz.prog 97 [(0, 1), (1, 1)] := A2M Tryz.underlying97 (by kernel_rfl) (by kernel_rfl)
instance pl102 : A1C Tryz.prog 102 [(0, 1), (1, 1)] := A2M Tryz.underlying102 (by kernel_rfl) (by kernel_rfl)
theorem J0 : Tryz.prog.follows .mixedOrders = true := by kernel_rfl

structure D0 (G : IM) (p : Option Addr) (n c sz : Nat) (es : List (List Value)) : Prop where
 sl : Sl G p n c sz es.flatten
 len : es.length = n
 all : ∀ e ∈ es, e.length = sz
 one : ∀ e ∈ es, e.all (·.oneCell') = true

theorem D0.mono {G G' : IM} {p : Option Addr} {n c sz : Nat} {es : List (List Value)} (h : D0 G p n c sz es) (hg : A9 G G') : D0 G' p n c sz es := ⟨h.sl.mono hg, h.len, h.all, h.one⟩
theorem D0.nil (G : IM) (sz : Nat) : D0 G none 0 0 sz [] := ⟨Sl.nil G sz, rfl, by simp, by simp⟩

theorem A5s {sz : Nat} : ∀ {es : List (List Value)}, (∀ e ∈ es, e.length = sz) → ∀ {i : Nat} {e : List Value}, es[i]? = some e → ∀ j v, e[j]? = some v → es.flatten[i * sz + j]? = some v
 | [], _, i, e, h, _, _, _ => by simp at h
 | a :: r, hall, 0, e, h, j, v, hv => by
  simp at h; subst h
  have : j < a.length := (List.getElem?_eq_some_iff.1 hv).1
  simp [List.getElem?_append, this]
  simpa [List.getElem?_eq_getElem this] using hv
 | a :: r, hall, i + 1, e, h, j, v, hv => by
  have ih := A5s (es := r) (fun x hx => hall x (List.mem_cons_of_mem _ hx)) (i := i) (e := e) (by simpa using h) j v hv
  have ha := hall a List.mem_cons_self
  rw [List.flatten_cons, List.getElem?_append, if_neg (by rw [ha, Nat.succ_mul]; omega)]
  rw [show (i + 1) * sz + j - a.length = i * sz + j by rw [ha, Nat.succ_mul]; omega]
  exact ih

theorem D0.at {G : IM} {p : Option Addr} {n c sz : Nat} {es : List (List Value)} (h : D0 G p n c sz es) {i : Nat} {e : List Value} (hi : es[i]? = some e) :
  ∃ b o, p = some ⟨b, o, none⟩ ∧ ∀ hp, At hp G b (o + i * sz) e := by
 have hlt : i < es.length := (List.getElem?_eq_some_iff.1 hi).1
 obtain ⟨_, _, _, h4⟩ := h.sl
 have hn := h.len
 rcases h4 with h0 | ⟨b, o, full, hp, hg, hf⟩
 ·omega
 ·refine ⟨b, o, hp, fun hp => M6 hg fun j v hv => ?_⟩
  rw [Nat.add_assoc]
  exact hf _ v (A5s h.all hi j v hv)

theorem D0.get {G : IM} {p : Option Addr} {n c sz : Nat} {es : List (List Value)} (h : D0 G p n c sz es) {i : Nat} (hi : i < n) :
  ∃ e b o, es[i]? = some e ∧ p = some ⟨b, o, none⟩ ∧ e.length = sz ∧ e.all (·.oneCell') = true ∧ (∀ hp, At hp G b (o + i * sz) e) ∧ G b ≠ none := by
 have hlt : i < es.length := by rw [h.len]; exact hi
 have he : es[i]? = some es[i] := List.getElem?_eq_getElem hlt
 obtain ⟨b, o, h1, h2⟩ := h.at he
 refine ⟨es[i], b, o, he, h1, h.all _ (List.getElem_mem hlt), h.one _ (List.getElem_mem hlt), h2, ?_⟩
 obtain ⟨_, _, _, h4⟩ := h.sl
 rcases h4 with h0 | ⟨b', o', full, hp, hg, hf⟩
 ·omega
 ·rw [h1] at hp; cases hp; rw [hg]; simp
theorem D0.le {G : IM} {p : Option Addr} {n c sz : Nat} {es : List (List Value)} (h : D0 G p n c sz es) : n ≤ 9223372036854775807 := by
 have h1 := h.sl.2.1; have h2 := h.sl.2.2.1; unfold maxLen at h2; omega

theorem D0.of {G : IM} {p : Option Addr} {n c sz : Nat} {es : List (List Value)} (h : Sl G p n c sz es.flatten) (hl : es.length = n) (ha : ∀ e ∈ es, e.length = sz) (ho : ∀ e ∈ es, e.all (·.oneCell') = true) : D0 G p n c sz es := ⟨h, hl, ha, ho⟩

def D7 (n : Int) : Prop := -9223372036854775808 ≤ n ∧ n ≤ 9223372036854775807

inductive Ty where
 | mk (k : Int) (ks : List Ty)

def Ty.k : Ty → Int | .mk k _ => k
def Ty.ks : Ty → List Ty | .mk _ ks => ks

inductive Tm where
 | mk (k : Int) (nm : ByteArray) (num : Int) (ty fr : Ty) (lb : Int) (ks : List Tm)

def Tm.k : Tm → Int | .mk k _ _ _ _ _ _ => k
def Tm.nm : Tm → ByteArray | .mk _ n _ _ _ _ _ => n
def Tm.num : Tm → Int | .mk _ _ n _ _ _ _ => n
def Tm.ty : Tm → Ty | .mk _ _ _ t _ _ _ => t
def Tm.fr : Tm → Ty | .mk _ _ _ _ f _ _ => f
def Tm.lb : Tm → Int | .mk _ _ _ _ _ l _ => l
def Tm.ks : Tm → List Tm | .mk _ _ _ _ _ _ ks => ks

mutual
def Ty.small : Ty → Prop
 | .mk _ ks => ks.length ≤ 4294967296 ∧ Ty.smallL ks
def Ty.smallL : List Ty → Prop
 | [] => True
 | t :: ts => t.small ∧ Ty.smallL ts
end
mutual
def Tm.small : Tm → Prop
 | .mk _ nm _ ty fr _ ks => nm.size ≤ 4294967296 ∧ ty.small ∧ fr.small ∧ ks.length ≤ 4294967296 ∧ Tm.smallL ks
def Tm.smallL : List Tm → Prop
 | [] => True
 | t :: ts => t.small ∧ Tm.smallL ts
end
theorem Ty.smallL_mem : ∀ {ts : List Ty}, Ty.smallL ts → ∀ t ∈ ts, t.small
 | [], _, t, h => by simp at h
 | t' :: ts, h, t, ht => by
  simp only [Ty.smallL] at h
  rcases List.mem_cons.1 ht with rfl | ht
  ·exact h.1
  ·exact Ty.smallL_mem h.2 t ht
theorem Tm.smallL_mem : ∀ {ts : List Tm}, Tm.smallL ts → ∀ t ∈ ts, t.small
 | [], _, t, h => by simp at h
 | t' :: ts, h, t, ht => by
  simp only [Tm.smallL] at h
  rcases List.mem_cons.1 ht with rfl | ht
  ·exact h.1
  ·exact Tm.smallL_mem h.2 t ht

mutual
def C5 (G : IM) : Ty → List Value → Prop
 | .mk k ks, cells => ∃ p c es, cells = [.int .i64 k, .slice p ks.length c] ∧ D7 k ∧ D0 G p ks.length c 2 es ∧ F4 G ks es
def F4 (G : IM) : List Ty → List (List Value) → Prop
 | [], es => es = []
 | t :: ts, es => ∃ a r, es = a :: r ∧ C5 G t a ∧ F4 G ts r
end

mutual
def B6 (G : IM) : Tm → List Value → Prop
 | .mk k nm num ty fr lb ks, cells => ∃ tc fc p c es, cells = [.int .i64 k, .string nm, .int .i64 num] ++ tc ++ fc ++ [.int .i64 lb, .slice p ks.length c] ∧ D7 k ∧ D7 num ∧ D7 lb ∧ C5 G ty tc ∧ C5 G fr fc ∧ D0 G p ks.length c 9 es ∧ D3 G ks es
def D3 (G : IM) : List Tm → List (List Value) → Prop
 | [], es => es = []
 | t :: ts, es => ∃ a r, es = a :: r ∧ B6 G t a ∧ D3 G ts r
end

mutual
theorem C5.mono {G G' : IM} (hg : A9 G G') : ∀ {t : Ty} {cells : List Value}, C5 G t cells → C5 G' t cells
 | .mk k ks, cells, h => by
  simp only [C5] at h ⊢
  obtain ⟨p, c, es, h1, h2, h3, h4⟩ := h
  exact ⟨p, c, es, h1, h2, h3.mono hg, F4.mono hg h4⟩
theorem F4.mono {G G' : IM} (hg : A9 G G') : ∀ {ts : List Ty} {es : List (List Value)}, F4 G ts es → F4 G' ts es
 | [], es, h => by simpa only [F4] using h
 | t :: ts, es, h => by
  simp only [F4] at h ⊢
  obtain ⟨a, r, h1, h2, h3⟩ := h
  exact ⟨a, r, h1, C5.mono hg h2, F4.mono hg h3⟩
end
mutual
theorem B6.mono {G G' : IM} (hg : A9 G G') : ∀ {t : Tm} {cells : List Value}, B6 G t cells → B6 G' t cells
 | .mk k nm num ty fr lb ks, cells, h => by
  simp only [B6] at h ⊢
  obtain ⟨tc, fc, p, c, es, h1, h2, h3, h4, h5, h6, h7, h8⟩ := h
  exact ⟨tc, fc, p, c, es, h1, h2, h3, h4, h5.mono hg, h6.mono hg, h7.mono hg, D3.mono hg h8⟩
theorem D3.mono {G G' : IM} (hg : A9 G G') : ∀ {ts : List Tm} {es : List (List Value)}, D3 G ts es → D3 G' ts es
 | [], es, h => by simpa only [D3] using h
 | t :: ts, es, h => by
  simp only [D3] at h ⊢
  obtain ⟨a, r, h1, h2, h3⟩ := h
  exact ⟨a, r, h1, B6.mono hg h2, D3.mono hg h3⟩
end

theorem C5.open {G : IM} {t : Ty} {cells : List Value} (h : C5 G t cells) : ∃ p c es, cells = [.int .i64 t.k, .slice p t.ks.length c] ∧ D7 t.k ∧ D0 G p t.ks.length c 2 es ∧ F4 G t.ks es := by
 cases t; simpa only [C5, Ty.k, Ty.ks] using h
theorem B6.open {G : IM} {t : Tm} {cells : List Value} (h : B6 G t cells) : ∃ pt ct et pf cf ef p c es,
  cells = [.int .i64 t.k, .string t.nm, .int .i64 t.num, .int .i64 t.ty.k, .slice pt t.ty.ks.length ct, .int .i64 t.fr.k, .slice pf t.fr.ks.length cf, .int .i64 t.lb, .slice p t.ks.length c] ∧
  D7 t.k ∧ D7 t.num ∧ D7 t.lb ∧ (D7 t.ty.k ∧ D0 G pt t.ty.ks.length ct 2 et ∧ F4 G t.ty.ks et) ∧ (D7 t.fr.k ∧ D0 G pf t.fr.ks.length cf 2 ef ∧ F4 G t.fr.ks ef) ∧ D0 G p t.ks.length c 9 es ∧ D3 G t.ks es := by
 obtain ⟨k, nm, num, ty, fr, lb, ks⟩ := t
 simp only [B6] at h
 obtain ⟨tc, fc, p, c, es, h1, h2, h3, h4, h5, h6, h7, h8⟩ := h
 obtain ⟨pt, ct, et, rfl, t1, t2, t3⟩ := h5.open
 obtain ⟨pf, cf, ef, rfl, f1, f2, f3⟩ := h6.open
 exact ⟨pt, ct, et, pf, cf, ef, p, c, es, h1, h2, h3, h4, ⟨t1, t2, t3⟩, ⟨f1, f2, f3⟩, h7, h8⟩
theorem B6.open9 {G : IM} {k : Int} {nm : ByteArray} {num : Int} {tk : Int} {tks : List Ty} {fk : Int} {fks : List Ty} {lb : Int} {ks : List Tm} {cells : List Value} (h : B6 G (.mk k nm num (.mk tk tks) (.mk fk fks) lb ks) cells) :
  ∃ pt ct pf cf p c es, cells = [.int .i64 k, .string nm, .int .i64 num, .int .i64 tk, .slice pt tks.length ct, .int .i64 fk, .slice pf fks.length cf, .int .i64 lb, .slice p ks.length c] ∧
  D7 k ∧ D7 num ∧ D7 lb ∧ C5 G (.mk tk tks) [.int .i64 tk, .slice pt tks.length ct] ∧ C5 G (.mk fk fks) [.int .i64 fk, .slice pf fks.length cf] ∧ D0 G p ks.length c 9 es ∧ D3 G ks es := by
 obtain ⟨pt, ct, et, pf, cf, ef, p, c, es, h1, h2, h3, h4, ⟨t1, t2, t3⟩, ⟨f1, f2, f3⟩, h7, h8⟩ := h.open
 simp only [Tm.k, Tm.nm, Tm.num, Tm.ty, Tm.fr, Tm.lb, Tm.ks, Ty.k, Ty.ks] at h1 h2 h3 h4 t1 t2 t3 f1 f2 f3 h7 h8
 exact ⟨pt, ct, pf, cf, p, c, es, h1, h2, h3, h4, by simp only [C5]; exact ⟨_, _, et, rfl, t1, t2, t3⟩, by simp only [C5]; exact ⟨_, _, ef, rfl, f1, f2, f3⟩, h7, h8⟩
theorem C5.len {G : IM} {t : Ty} {cells : List Value} (h : C5 G t cells) : cells.length = 2 := by
 obtain ⟨_, _, _, rfl, _⟩ := h.open; rfl
theorem B6.len {G : IM} {t : Tm} {cells : List Value} (h : B6 G t cells) : cells.length = 9 := by
 obtain ⟨_, _, _, _, _, _, _, _, _, rfl, _⟩ := h.open; rfl

theorem F4.len {G : IM} : ∀ {ts : List Ty} {es : List (List Value)}, F4 G ts es → es.length = ts.length
 | [], es, h => by simp only [F4] at h; subst h; rfl
 | t :: ts, es, h => by
  simp only [F4] at h
  obtain ⟨a, r, rfl, _, h3⟩ := h
  simp [h3.len]
theorem D3.len {G : IM} : ∀ {ts : List Tm} {es : List (List Value)}, D3 G ts es → es.length = ts.length
 | [], es, h => by simp only [D3] at h; subst h; rfl
 | t :: ts, es, h => by
  simp only [D3] at h
  obtain ⟨a, r, rfl, _, h3⟩ := h
  simp [h3.len]
theorem F4.get {G : IM} : ∀ {ts : List Ty} {es : List (List Value)}, F4 G ts es → ∀ {i : Nat} {t : Ty}, ts[i]? = some t → ∃ e, es[i]? = some e ∧ C5 G t e
 | [], es, h, i, t, hi => by simp at hi
 | t' :: ts, es, h, i, t, hi => by
  simp only [F4] at h
  obtain ⟨a, r, rfl, h2, h3⟩ := h
  cases i with
  | zero => simp at hi; subst hi; exact ⟨a, rfl, h2⟩
  | succ i => obtain ⟨e, he, hr⟩ := h3.get (i := i) (by simpa using hi); exact ⟨e, by simpa using he, hr⟩
theorem D3.get {G : IM} : ∀ {ts : List Tm} {es : List (List Value)}, D3 G ts es → ∀ {i : Nat} {t : Tm}, ts[i]? = some t → ∃ e, es[i]? = some e ∧ B6 G t e
 | [], es, h, i, t, hi => by simp at hi
 | t' :: ts, es, h, i, t, hi => by
  simp only [D3] at h
  obtain ⟨a, r, rfl, h2, h3⟩ := h
  cases i with
  | zero => simp at hi; subst hi; exact ⟨a, rfl, h2⟩
  | succ i => obtain ⟨e, he, hr⟩ := h3.get (i := i) (by simpa using hi); exact ⟨e, by simpa using he, hr⟩
theorem F4.all {G : IM} {ts : List Ty} {es : List (List Value)} (h : F4 G ts es) : ∀ e ∈ es, e.length = 2 := by
 intro e he
 obtain ⟨i, hi⟩ := List.getElem?_of_mem he
 have hlt : i < ts.length := by have := (List.getElem?_eq_some_iff.1 hi).1; rw [h.len] at this; exact this
 obtain ⟨e', he', hr⟩ := h.get (i := i) (t := ts[i]) (by simp [hlt])
 rw [hi] at he'; cases he'; exact hr.len
theorem D3.all {G : IM} {ts : List Tm} {es : List (List Value)} (h : D3 G ts es) : ∀ e ∈ es, e.length = 9 := by
 intro e he
 obtain ⟨i, hi⟩ := List.getElem?_of_mem he
 have hlt : i < ts.length := by have := (List.getElem?_eq_some_iff.1 hi).1; rw [h.len] at this; exact this
 obtain ⟨e', he', hr⟩ := h.get (i := i) (t := ts[i]) (by simp [hlt])
 rw [hi] at he'; cases he'; exact hr.len

theorem C5.one {G : IM} {t : Ty} {cells : List Value} (h : C5 G t cells) : cells.all (·.oneCell') = true := by
 obtain ⟨_, _, _, rfl, _⟩ := h.open; rfl
theorem B6.one {G : IM} {t : Tm} {cells : List Value} (h : B6 G t cells) : cells.all (·.oneCell') = true := by
 obtain ⟨_, _, _, _, _, _, _, _, _, rfl, _⟩ := h.open; rfl

theorem Ty.ind {C : Ty → Prop} (h : ∀ k ks, (∀ t ∈ ks, C t) → C (.mk k ks)) : ∀ t, C t
 | .mk k ks => h k ks fun t ht => Ty.ind h t
termination_by t => SizeOf.sizeOf t
decreasing_by
 have := List.sizeOf_lt_of_mem ht
 simp only [Ty.mk.sizeOf_spec]; omega
theorem Tm.ind {C : Tm → Prop} (h : ∀ k nm num ty fr lb ks, (∀ t ∈ ks, C t) → C (.mk k nm num ty fr lb ks)) : ∀ t, C t
 | .mk k nm num ty fr lb ks => h k nm num ty fr lb ks fun t ht => Tm.ind h t
termination_by t => SizeOf.sizeOf t
decreasing_by
 have := List.sizeOf_lt_of_mem ht
 simp only [Tm.mk.sizeOf_spec]; omega

def B0 (G' G : IM) : IM := fun b => match G b with | none => G' b | some _ => none
theorem B0.le (G' G : IM) : A9 (B0 G' G) G' := by
 intro b l h
 unfold B0 at h
 split at h
 ·exact h
 ·cases h
theorem B0.mono {G' G'' G : IM} (h : A9 G' G'') : A9 (B0 G' G) (B0 G'' G) := by
 intro b l hb
 unfold B0 at hb ⊢
 split at hb
 ·exact h b l hb
 ·cases hb
theorem B0.anti {G' G G0 : IM} (h : A9 G0 G) : A9 (B0 G' G) (B0 G' G0) := by
 intro b l hb
 unfold B0 at hb ⊢
 split at hb
 ·rename_i h0
  cases h1 : G0 b with
  | none => exact hb
  | some l' => rw [h b l' h1] at h0; cases h0
 ·cases hb
theorem B0.out {G' G : IM} {b : Nat} (h : B0 G' G b ≠ none) : G b = none := by
 unfold B0 at h
 split at h
 ·assumption
 ·exact absurd rfl h
theorem Sl.dif {G' G G0 : IM} {p : Option Addr} {n c sz : Nat} {cs : List Value} (h : Sl G' p n c sz cs) (hp : ∀ b ∈ E5 p, G b = none) (hle : A9 G0 G) : Sl (B0 G' G0) p n c sz cs := by
 obtain ⟨h1, h2, h3, h4⟩ := h
 refine ⟨h1, h2, h3, h4.imp id ?_⟩
 rintro ⟨b, o, full, rfl, e2, e3⟩
 refine ⟨b, o, full, rfl, ?_, e3⟩
 have hb := hp b (by simp [E5])
 have h0 : G0 b = none := by
  cases h1 : G0 b with
  | none => rfl
  | some l => rw [hle b l h1] at hb; cases hb
 simp [B0, h0, e2]

mutual
def K4 (G : IM) : Ty → List Value → List Nat → Prop
 | .mk k ks, cells, F => ∃ p c es Fs, cells = [.int .i64 k, .slice p ks.length c] ∧ D7 k ∧ D0 G p ks.length c 2 es ∧ J5 G ks es Fs ∧ F = E5 p ++ Fs ∧ (∀ b ∈ E5 p, G b ≠ none)
def J5 (G : IM) : List Ty → List (List Value) → List Nat → Prop
 | [], es, F => es = [] ∧ F = []
 | t :: ts, es, F => ∃ a r Fa Fr, es = a :: r ∧ K4 G t a Fa ∧ J5 G ts r Fr ∧ F = Fa ++ Fr
end
mutual
theorem K4.R {G : IM} : ∀ {t : Ty} {cells : List Value} {F : List Nat}, K4 G t cells F → C5 G t cells
 | .mk k ks, cells, F, h => by
  simp only [K4] at h
  obtain ⟨p, c, es, Fs, h1, h2, h3, h4, _⟩ := h
  simp only [C5]
  exact ⟨p, c, es, h1, h2, h3, J5.R h4⟩
theorem J5.R {G : IM} : ∀ {ts : List Ty} {es : List (List Value)} {F : List Nat}, J5 G ts es F → F4 G ts es
 | [], es, F, h => by simp only [J5] at h; simp only [F4]; exact h.1
 | t :: ts, es, F, h => by
  simp only [J5] at h
  obtain ⟨a, r, Fa, Fr, h1, h2, h3, _⟩ := h
  simp only [F4]
  exact ⟨a, r, h1, K4.R h2, J5.R h3⟩
end
mutual
theorem K4.mono {G G' : IM} (hg : A9 G G') : ∀ {t : Ty} {cells : List Value} {F : List Nat}, K4 G t cells F → K4 G' t cells F
 | .mk k ks, cells, F, h => by
  simp only [K4] at h ⊢
  obtain ⟨p, c, es, Fs, h1, h2, h3, h4, h5, h6⟩ := h
  exact ⟨p, c, es, Fs, h1, h2, h3.mono hg, J5.mono hg h4, h5, fun b hb => by cases hgb : G b with | none => exact absurd hgb (h6 b hb) | some l => rw [hg b l hgb]; simp⟩
theorem J5.mono {G G' : IM} (hg : A9 G G') : ∀ {ts : List Ty} {es : List (List Value)} {F : List Nat}, J5 G ts es F → J5 G' ts es F
 | [], es, F, h => by simpa only [J5] using h
 | t :: ts, es, F, h => by
  simp only [J5] at h ⊢
  obtain ⟨a, r, Fa, Fr, h1, h2, h3, h4⟩ := h
  exact ⟨a, r, Fa, Fr, h1, K4.mono hg h2, J5.mono hg h3, h4⟩
end
mutual
theorem K4.inG {G : IM} : ∀ {t : Ty} {cells : List Value} {F : List Nat}, K4 G t cells F → ∀ b ∈ F, G b ≠ none
 | .mk k ks, cells, F, h => by
  simp only [K4] at h
  obtain ⟨p, c, es, Fs, h1, h2, h3, h4, rfl, h6⟩ := h
  intro b hb
  rcases List.mem_append.1 hb with hb | hb
  ·exact h6 b hb
  ·exact J5.inG h4 b hb
theorem J5.inG {G : IM} : ∀ {ts : List Ty} {es : List (List Value)} {F : List Nat}, J5 G ts es F → ∀ b ∈ F, G b ≠ none
 | [], es, F, h => by simp only [J5] at h; rw [h.2]; simp
 | t :: ts, es, F, h => by
  simp only [J5] at h
  obtain ⟨a, r, Fa, Fr, h1, h2, h3, rfl⟩ := h
  intro b hb
  rcases List.mem_append.1 hb with hb | hb
  ·exact K4.inG h2 b hb
  ·exact J5.inG h3 b hb
end
theorem J5.snoc {G : IM} : ∀ {ts : List Ty} {es : List (List Value)} {F : List Nat} {t : Ty} {a : List Value} {Fa : List Nat}, J5 G ts es F → K4 G t a Fa → J5 G (ts ++ [t]) (es ++ [a]) (F ++ Fa)
 | [], es, F, t, a, Fa, h, h2 => by
  simp only [J5] at h
  obtain ⟨rfl, rfl⟩ := h
  simp only [List.nil_append, J5]
  exact ⟨a, [], Fa, [], rfl, h2, ⟨rfl, rfl⟩, by simp⟩
 | t' :: ts, es, F, t, a, Fa, h, h2 => by
  simp only [J5] at h
  obtain ⟨a', r, Fa', Fr, rfl, h3, h4, rfl⟩ := h
  simp only [List.cons_append, J5]
  exact ⟨a', r ++ [a], Fa', Fr ++ Fa, rfl, h3, J5.snoc h4 h2, by simp⟩

theorem D0.kidTy {G : IM} {p : Option Addr} {n c : Nat} {es : List (List Value)} {ks : List Ty} (h : D0 G p n c 2 es) (hk : F4 G ks es) {i : Nat} (hi : i < n) (hn : i < ks.length) :
  ∃ b o p2 c2, p = some ⟨b, o, none⟩ ∧ (∀ hp, At hp G b (o + i * 2) [.int .i64 ks[i].k, .slice p2 ks[i].ks.length c2]) ∧ C5 G ks[i] [.int .i64 ks[i].k, .slice p2 ks[i].ks.length c2] ∧ G b ≠ none := by
 obtain ⟨e, b, o, he, h1, h2, h3, h4, h5⟩ := h.get hi
 obtain ⟨e', he', hr⟩ := hk.get (i := i) (t := ks[i]) (by simp [hn])
 rw [he] at he'; cases he'
 obtain ⟨p2, c2, _, rfl, _⟩ := hr.open
 exact ⟨b, o, p2, c2, h1, h4, hr, h5⟩

theorem J5.step {G Gi G1 : IM} {ks : List Ty} {i : Nat} {es : List (List Value)} {F F' : List Nat} {a : List Value} (h : J5 (B0 Gi G) (ks.take i) es F) (hn : F.Nodup) (hle : A9 G Gi) (hle1 : A9 Gi G1) (hi : i < ks.length)
  (ha : K4 (B0 G1 Gi) ks[i] a F') (hn' : F'.Nodup) : J5 (B0 G1 G) (ks.take (i + 1)) (es ++ [a]) (F ++ F') ∧ (F ++ F').Nodup := by
 constructor
 ·rw [List.take_succ_eq_append_getElem hi]
  exact J5.snoc (h.mono (B0.mono hle1)) (ha.mono (B0.anti hle))
 ·rw [List.nodup_append]
  refine ⟨hn, hn', ?_⟩
  rintro x hx y hy rfl
  have h1 := h.inG x hx
  have h2 := B0.out (ha.inG x hy)
  apply h1
  cases hd : B0 Gi G x with
  | none => rfl
  | some l => rw [B0.le _ _ x l hd] at h2; cases h2
theorem K4.fin {G Gi G2 : IM} {k : Int} {ks : List Ty} {es : List (List Value)} {F : List Nat} {p : Option Addr} {c : Nat} (h : J5 (B0 Gi G) ks es F) (hn : F.Nodup) (hle : A9 G Gi) (hle2 : A9 Gi G2)
  (hsl : Sl G2 p ks.length c 2 es.flatten) (hnn : ∀ b ∈ E5 p, Gi b = none ∧ G2 b ≠ none) (hk : D7 k) :
  ∃ F', K4 (B0 G2 G) (.mk k ks) [.int .i64 k, .slice p ks.length c] F' ∧ F'.Nodup := by
 have hno := fun b hb => (hnn b hb).1
 have hin := fun b hb => (hnn b hb).2
 have hR := h.R
 refine ⟨E5 p ++ F, ?_, ?_⟩
 ·simp only [K4]
  refine ⟨p, c, es, F, rfl, hk, D0.of (hsl.dif hno hle) hR.len hR.all ?_, h.mono (B0.mono hle2), rfl, ?_⟩
  ·intro e he
   obtain ⟨i, hi⟩ := List.getElem?_of_mem he
   have hlt : i < ks.length := by have := (List.getElem?_eq_some_iff.1 hi).1; rw [hR.len] at this; exact this
   obtain ⟨e', he', hr⟩ := hR.get (i := i) (t := ks[i]) (by simp [hlt])
   rw [hi] at he'; cases he'; exact hr.one
  ·intro b hb
   have h0 := hno b hb
   cases hg : G b with
   | none => simpa [B0, hg] using hin b hb
   | some l => rw [hle b l hg] at h0; cases h0
 ·rw [List.nodup_append]
  refine ⟨by cases p <;> simp [E5], hn, ?_⟩
  rintro x hx y hy rfl
  have h1 := h.inG x hy
  have h2 := hno x hx
  apply h1
  cases hd : B0 Gi G x with
  | none => rfl
  | some l => rw [B0.le _ _ x l hd] at h2; cases h2

def A0a (q : Nat → Bool) (n : Nat) : Int := match (List.range n).find? q with | some i => i | none => -1
theorem A5t {q : Nat → Bool} {n : Nat} (h : ∀ j, j < n → q j = false) : A0a q n = -1 := by
 have : (List.range n).find? q = none := by
  rw [List.find?_eq_none]
  intro x hx
  rw [h x (List.mem_range.1 hx)]; simp
 simp [A0a, this]
theorem A8M {q : Nat → Bool} {n i : Nat} (hi : i < n) (h : ∀ j, j < i → q j = false) (hq : q i = true) : A0a q n = i := by
 have : (List.range n).find? q = some i := by
  rw [List.find?_eq_some_iff_append]
  refine ⟨hq, List.range i, (List.range n).drop (i + 1), ?_, ?_⟩
  ·apply List.ext_getElem?
   intro k
   simp only [List.getElem?_append, List.length_range, List.getElem?_range', List.getElem?_cons, List.getElem?_drop]
   by_cases h1 : k < i
   ·simp [h1, show k < n by omega]
   ·by_cases h2 : k = i
    ·subst h2; simp [hi]
    ·have h3 : k - i ≠ 0 := by omega
     simp only [h1, if_false, h3]
     rw [show i + 1 + (k - i - 1) = k by omega]
  ·intro a ha
   simp [h a (List.mem_range.1 ha)]
 simp [A0a, this]
end Gw
end Go.Proofs.YtgodjiieijekiaaGreatDoor
