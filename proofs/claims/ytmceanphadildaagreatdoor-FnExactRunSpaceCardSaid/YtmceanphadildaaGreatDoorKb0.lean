/-
  What every walk of this claim stands on: states told by lists (slots, own blocks.
-/
import Derived.WalkKit
import Derived.OrdersHeld
import Derived.BigCall
import Derived.Test.YtmceanphadildaaGreatDoorChecked
set_option linter.unusedVariables false
set_option linter.unusedSimpArgs false
set_option maxHeartbeats 0
set_option maxRecDepth 100000
set_option synthInstance.maxSize 4000
set_option synthInstance.maxHeartbeats 0
namespace Go.Proofs.YtmceanphadildaaGreatDoor
open Go Go.RowKit
namespace Gw
theorem zP {p : Prop} (h : p := by simp [Value.oneCell']) : p := h
theorem zQ {p : Prop} (h : p := by unfold maxLen; omega) : p := h
theorem zR {p : Prop} (h : p := by decide +kernel) : p := h
theorem zS {p : Prop} (h : p := by assumption) : p := h
theorem zT {p : Prop} (h : p := by kernel_rfl) : p := h
theorem zU {p : Prop} (h : p := by decide) : p := h
theorem zV {p : Prop} (h : p := by omega) : p := h
theorem zW {p : Prop} (h : p := by simp) : p := h
abbrev tt := true
abbrev ff := false
theorem mH {α : Type} {a : α} {l : List α} : a ∈ a :: l := List.Mem.head _
theorem mT {α : Type} {a b : α} {l : List α} (h : a ∈ l) : a ∈ b :: l := List.Mem.tail _ h

abbrev L4 := List (Nat × Value)

def U7 : L4 → Nat → Option Value
 | [], _ => none
 | (k, v) :: r, t => bif Nat.beq k t then some v else U7 r t

def evo (e : L4) : Operand → Option Value
 | .tmp t => U7 e t
 | .const v => some v
 | .global g => some (.pointer (some ⟨g, 0, none⟩))
 | .func f => some (.func (.func f) #[] #[])

def evl (e : L4) : List Operand → Option (List Value)
 | [] => some []
 | x :: r => match evo e x with
  | some v => match evl e r with
   | some vs => some (v :: vs)
   | none => none
  | none => none

inductive A5 where
 | blk (b : Nat) (cs : List Value)
 | slc (p : Option Addr) (c : Nat) (el : TypeId) (sz : Nat) (n : Nat) (cs : List Value)

def I2 : Option Addr → List Nat
 | some p => [p.block]
 | none => []

def A5.fp : A5 → List Nat
 | .blk b _ => [b]
 | .slc p _ _ _ _ _ => I2 p

def A5.ok (w : World) : A5 → Prop
 | .blk b cs => ∃ e, w.heap[b]? = some (.cells cs.toArray e (0, 0))
 | .slc p c el sz n cs => w.ownsRow 0 el sz (.slice p n c) n cs

def Fp (hp : List A5) : List Nat := hp.flatMap A5.fp

abbrev IM := Nat → Option (List Value)

def D2 (G G' : IM) : Prop := ∀ b l, G b = some l → G' b = some l
def A2J (G : IM) (w : World) : Prop := ∀ b l, G b = some l → ∃ e f, w.heap[b]? = some (.cells l.toArray e f)

theorem D2.refl (G : IM) : D2 G G := fun _ _ h => h
theorem D2.trans {G G' G'' : IM} (h : D2 G G') (h' : D2 G' G'') : D2 G G'' := fun b l x => h' b l (h b l x)

structure Y8 (mods : List Nat) (w w' : World) : Prop where
 os : w'.os = w.os
 tape : w'.tape = w.tape
 output : w'.output = w.output
 size : w.heap.size ≤ w'.heap.size
 block : ∀ k, k < w.heap.size → k ∉ mods → w'.heap[k]? = w.heap[k]?

theorem Y8.refl (m : List Nat) (w : World) : Y8 m w w := ⟨rfl, rfl, rfl, Nat.le_refl _, fun _ _ _ => rfl⟩

structure P9 (hp : List A5) (G : IM) (w : World) : Prop where
 inn : A2J G w
 ok : ∀ e ∈ hp, e.ok w
 nodup : (Fp hp).Nodup
 disj : ∀ b ∈ Fp hp, G b = none

structure O5 (ins : List A5) (G0 : IM) (w0 : World) (hp : List A5) (G : IM) (w : World) : Prop where
 own : P9 hp G w
 ext : Y8 (Fp ins) w0 w
 le : D2 G0 G
 fresh : ∀ b l, G b = some l → G0 b = some l ∨ w0.heap.size ≤ b ∨ b ∈ Fp ins
 ofresh : ∀ b ∈ Fp hp, w0.heap.size ≤ b ∨ b ∈ Fp ins
 fz : ∀ b l, G b = some l → G0 b = none → ∃ e, w.heap[b]? = some (.cells l.toArray e (0, 0))

theorem A0g {w : World} {b : Nat} {o : Obj} (h : w.heap[b]? = some o) : b < w.heap.size := (Array.getElem?_eq_some_iff.1 h).1

theorem A5.ok_lt {w : World} {e : A5} (h : e.ok w) : ∀ b ∈ e.fp, b < w.heap.size := by
 cases e with
 | blk b cs => intro k hk; simp [A5.fp] at hk; subst hk; obtain ⟨_, h⟩ := h; exact A0g h
 | slc p c el sz n cs =>
  intro k hk
  rcases h.2 with ⟨he, _⟩ | ⟨g, cap, cur, he, _, hg, _⟩
  ·cases he; simp [A5.fp, I2] at hk
  ·cases he; simp [A5.fp, I2] at hk; subst hk; exact A0g hg

theorem A5.ok_ext {w w' : World} {e : A5} (h : e.ok w) (hb : ∀ b ∈ e.fp, w'.heap[b]? = w.heap[b]?) : e.ok w' := by
 cases e with
 | blk b cs => obtain ⟨x, h⟩ := h; exact ⟨x, by rw [hb b (by simp [A5.fp])]; exact h⟩
 | slc p c el sz n cs =>
  refine ⟨h.1, ?_⟩
  rcases h.2 with hn | ⟨g, cap, cur, he, h0, hg, rest⟩
  ·exact .inl hn
  ·cases he; exact .inr ⟨g, _, cur, rfl, h0, by rw [hb g (by simp [A5.fp, I2])]; exact hg, rest⟩

theorem X7 (a b : List A5) : Fp (a ++ b) = Fp a ++ Fp b := by simp [Fp]
theorem A4F {a b : List A5} (h : a.Perm b) : (Fp a).Perm (Fp b) := h.flatMap_right _
theorem A3q {hp : List A5} {b : Nat} : b ∈ Fp hp ↔ ∃ e ∈ hp, b ∈ e.fp := by simp [Fp, List.mem_flatMap]

theorem P9.lt {hp : List A5} {G : IM} {w : World} (h : P9 hp G w) : ∀ b ∈ Fp hp, b < w.heap.size := by
 intro b hb
 obtain ⟨e, he, hbe⟩ := A3q.1 hb
 exact A5.ok_lt (h.ok e he) b hbe

theorem A2J.lt {G : IM} {w : World} (h : A2J G w) {b : Nat} {l : List Value} (hb : G b = some l) : b < w.heap.size := by
 obtain ⟨_, _, hh⟩ := h b l hb
 exact A0g hh

theorem P9.perm {hp hp' : List A5} {G : IM} {w : World} (h : P9 hp G w) (p : hp.Perm hp') : P9 hp' G w :=
 ⟨h.inn, fun e he => h.ok e (p.mem_iff.2 he), (A4F p).nodup_iff.1 h.nodup, fun b hb => h.disj b ((A4F p).mem_iff.2 hb)⟩

theorem P9.left {a b : List A5} {G : IM} {w : World} (h : P9 (a ++ b) G w) : P9 a G w :=
 ⟨h.inn, fun e he => h.ok e (List.mem_append_left _ he), by have := h.nodup; rw [X7] at this; exact (List.nodup_append.1 this).1,
  fun x hx => h.disj x (by rw [X7]; exact List.mem_append_left _ hx)⟩

theorem O5.perm {ins hp hp' : List A5} {G0 G : IM} {w0 w : World} (h : O5 ins G0 w0 hp G w) (p : hp.Perm hp') : O5 ins G0 w0 hp' G w :=
 ⟨h.own.perm p, h.ext, h.le, h.fresh, fun b hb => h.ofresh b ((A4F p).mem_iff.2 hb), h.fz⟩

theorem O5.left {ins a b : List A5} {G0 G : IM} {w0 w : World} (h : O5 ins G0 w0 (a ++ b) G w) : O5 ins G0 w0 a G w :=
 ⟨h.own.left, h.ext, h.le, h.fresh, fun x hx => h.ofresh x (by rw [X7]; exact List.mem_append_left _ hx), h.fz⟩

theorem O5.refl {ins : List A5} {G : IM} {w : World} (h : P9 ins G w) : O5 ins G w ins G w :=
 ⟨h, Y8.refl _ _, D2.refl _, fun _ _ h => .inl h, fun _ h => .inr h, fun b l h h0 => absurd h (by rw [h0]; simp)⟩

theorem O5.frame {ins0 ins outs rest : List A5} {G0 G G' : IM} {w0 w w' : World}
  (h : O5 ins0 G0 w0 (ins ++ rest) G w) (s : O5 ins G w outs G' w') : O5 ins0 G0 w0 (outs ++ rest) G' w' := by
 have hnd := h.own.nodup
 rw [X7, List.nodup_append] at hnd
 obtain ⟨_, hndr, hdis⟩ := hnd
 have hrest_lt : ∀ b ∈ Fp rest, b < w.heap.size := fun b hb => h.own.lt b (by rw [X7]; exact List.mem_append_right _ hb)
 have hrest_not : ∀ b ∈ Fp rest, b ∉ Fp ins := fun b hb hi => hdis b hi b hb rfl
 refine ⟨⟨s.own.inn, ?_, ?_, ?_⟩, ?_, h.le.trans s.le, ?_, ?_, ?_⟩
 ·intro e he
  rcases List.mem_append.1 he with he | he
  ·exact s.own.ok e he
  ·refine A5.ok_ext (h.own.ok e (List.mem_append_right _ he)) fun b hb => ?_
   have hbr : b ∈ Fp rest := A3q.2 ⟨e, he, hb⟩
   exact s.ext.block b (hrest_lt b hbr) (hrest_not b hbr)
 ·rw [X7, List.nodup_append]
  refine ⟨s.own.nodup, hndr, ?_⟩
  rintro a ha b hb rfl
  rcases s.ofresh a ha with hf | hf
  ·exact absurd (hrest_lt a hb) zV
  ·exact hrest_not a hb hf
 ·intro b hb
  rw [X7] at hb
  rcases List.mem_append.1 hb with hb | hb
  ·exact s.own.disj b hb
  ·cases hg : G' b with
   | none => rfl
   | some l =>
    exfalso
    rcases s.fresh b l hg with hf | hf | hf
    ·have := h.own.disj b (by rw [X7]; exact List.mem_append_right _ hb)
     rw [this] at hf; cases hf
    ·exact absurd (hrest_lt b hb) zV
    ·exact hrest_not b hb hf
 ·refine ⟨s.ext.os.trans h.ext.os, s.ext.tape.trans h.ext.tape, s.ext.output.trans h.ext.output, Nat.le_trans h.ext.size s.ext.size, ?_⟩
  intro k hk hkn
  rw [s.ext.block k (Nat.lt_of_lt_of_le hk h.ext.size) ?_, h.ext.block k hk hkn]
  intro hki
  rcases h.ofresh k (by rw [X7]; exact List.mem_append_left _ hki) with hf | hf
  ·omega
  ·exact hkn hf
 ·intro b l hb
  rcases s.fresh b l hb with hf | hf | hf
  ·exact h.fresh b l hf
  ·exact .inr (.inl (Nat.le_trans h.ext.size hf))
  ·exact .inr (h.ofresh b (by rw [X7]; exact List.mem_append_left _ hf))
 ·intro b hb
  rw [X7] at hb
  rcases List.mem_append.1 hb with hb | hb
  ·rcases s.ofresh b hb with hf | hf
   ·exact .inl (Nat.le_trans h.ext.size hf)
   ·exact h.ofresh b (by rw [X7]; exact List.mem_append_left _ hf)
  ·exact h.ofresh b (by rw [X7]; exact List.mem_append_right _ hb)
 ·intro b l hb h0
  cases hg : G b with
  | none => exact s.fz b l hb hg
  | some l' =>
   have := s.le b l' hg
   rw [hb] at this; cases this
   obtain ⟨e, he⟩ := h.fz b l hg h0
   refine ⟨e, ?_⟩
   rw [s.ext.block b (A0g he) ?_]
   ·exact he
   ·intro hbi
    have := h.own.disj b (by rw [X7]; exact List.mem_append_left _ hbi)
    rw [hg] at this; cases this

structure K7 where
 n : Nat
 ins : List A5
 G0 : IM
 w0 : World

structure Sy where
 env : L4
 hp : List A5
 G : IM

structure St (Γ : K7) (σ : Sy) (a : Act) (w : World) : Prop where
 size : a.tmps.size = Γ.n
 nod : a.defers = []
 env : ∀ t v, U7 σ.env t = some v → a.tmps.getD t undef = v
 res : O5 Γ.ins Γ.G0 Γ.w0 σ.hp σ.G w

theorem St.evo {Γ : K7} {σ : Sy} {a : Act} {w : World} (h : St Γ σ a w) {x : Operand} {v : Value} (hx : evo σ.env x = some v) : a.eval x = v := by
 cases x with
 | tmp t => exact h.env t v hx
 | const c => simpa [Gw.evo, Act.eval] using hx
 | global g => simpa [Gw.evo, Act.eval] using hx
 | func f => simpa [Gw.evo, Act.eval] using hx

theorem St.evl {Γ : K7} {σ : Sy} {a : Act} {w : World} (h : St Γ σ a w) : ∀ {xs : List Operand} {vs : List Value}, evl σ.env xs = some vs → xs.map a.eval = vs
 | [], vs, hx => by simp [Gw.evl] at hx; subst hx; rfl
 | x :: r, vs, hx => by
  simp only [Gw.evl] at hx
  split at hx
  ·rename_i v hv
   split at hx
   ·rename_i us hu
    simp at hx; subst hx
    simp [h.evo hv, St.evl h hu]
   ·cases hx
  ·cases hx

theorem A4G (k : Nat) (v : Value) (r : L4) (t : Nat) : U7 ((k, v) :: r) t = if k = t then some v else U7 r t := by
 simp only [U7]
 by_cases h : k = t
 ·subst h; simp
 ·have : Nat.beq k t = false := by
   cases hb : Nat.beq k t with
   | false => rfl
   | true => exact absurd (Nat.eq_of_beq_eq_true hb) h
  simp [this, h]

theorem St.put {Γ : K7} {σ : Sy} {a : Act} {w w' : World} {hp' : List A5} {G' : IM} (h : St Γ σ a w) (t : Nat) (v : Value) (ht : t < Γ.n)
  (hr : O5 Γ.ins Γ.G0 Γ.w0 hp' G' w') : St Γ ⟨(t, v) :: σ.env, hp', G'⟩ (a.put (some t) v) w' := by
 refine ⟨?_, h.nod, ?_, hr⟩
 ·simp [Act.put, h.size]
 ·intro s u hs
  rw [A4G] at hs
  simp only [Act.put]
  by_cases e : t = s
  ·subst e
   simp at hs; subst hs
   have : t < a.tmps.size := by rw [h.size]; exact ht
   simp [Array.getD_eq_getD_getElem?, this]
  ·rw [if_neg e] at hs
   have := h.env s u hs
   simp only [Array.getD_eq_getD_getElem?, Array.getElem?_setIfInBounds, if_neg e] at this ⊢
   exact this

theorem St.put_none {Γ : K7} {σ : Sy} {a : Act} {w w' : World} {hp' : List A5} {G' : IM} (h : St Γ σ a w) (v : Value)
  (hr : O5 Γ.ins Γ.G0 Γ.w0 hp' G' w') : St Γ ⟨σ.env, hp', G'⟩ (a.put none v) w' := ⟨h.size, h.nod, h.env, hr⟩

def dpu (d : Option Nat) (v : Value) (e : L4) : L4 := match d with | some t => (t, v) :: e | none => e
def dok (n : Nat) : Option Nat → Bool | some t => Nat.blt t n | none => true

theorem St.dput {Γ : K7} {σ : Sy} {a : Act} {w w' : World} {hp' : List A5} {G' : IM} (h : St Γ σ a w) (d : Option Nat) (v : Value) (ht : dok Γ.n d = true)
  (hr : O5 Γ.ins Γ.G0 Γ.w0 hp' G' w') : St Γ ⟨dpu d v σ.env, hp', G'⟩ (a.put d v) w' := by
 cases d with
 | none => exact h.put_none v hr
 | some t => exact h.put t v (by simpa [dok] using ht) hr

abbrev Po := Exit → Sy → Prop
def lift (Γ : K7) (K : Po) : Exit → Act → World → Prop := fun e a w => ∃ σ, St Γ σ a w ∧ K e σ

structure J7 (P : Program) (Γ : K7) (c : Code) (K : Po) (σ : Sy) : Prop where
 run : ∀ a w, St Γ σ a w → c.wp P (lift Γ K) a w

structure A0J (P : Program) (Γ : K7) (y : Code) (K : Po) (e : Exit) (σ : Sy) : Prop where
 run : match e with
  | .normal => J7 P Γ y K σ
  | e => K e σ
structure A0Y (id : Nat) (K : Po) (e : Exit) (σ : Sy) : Prop where
 run : match e with
  | .exit id' => if id' = id then K .normal σ else K (.exit id') σ
  | e => K e σ

section rules
variable {P : Program} {Γ : K7} {K : Po} {σ : Sy}

theorem A53 {c : Code} {K' : Po} (h : J7 P Γ c K σ) (hk : ∀ e σ, K e σ → K' e σ) : J7 P Γ c K' σ :=
 ⟨fun a w hs => wp_mono (h.run a w hs) fun _ _ _ ⟨s, h1, h2⟩ => ⟨s, h1, hk _ _ h2⟩⟩

theorem tS {x y : Code} (h : J7 P Γ x (A0J P Γ y K) σ) : J7 P Γ (Code.seq x y) K σ := by
 refine ⟨fun a w hs => ?_⟩
 refine wp_seq (wp_mono (h.run a w hs) ?_)
 rintro e a' w' ⟨s, h1, ⟨h2⟩⟩
 cases e <;> first | exact h2.run a' w' h1 | exact ⟨s, h1, h2⟩

theorem tK (h : K .normal σ) : J7 P Γ .skip K σ := ⟨fun _ _ hs => wp_skip ⟨σ, hs, h⟩⟩
theorem tT (h : K .ret σ) : J7 P Γ .ret K σ := ⟨fun _ _ hs => wp_ret ⟨σ, hs, h⟩⟩
theorem A9T {id : Nat} (h : K (.exit id) σ) : J7 P Γ (.exit id) K σ := ⟨fun _ _ hs => wp_exit ⟨σ, hs, h⟩⟩
theorem B7 {id : Nat} {c : Code} (h : J7 P Γ c (A0Y id K) σ) : J7 P Γ (.block id c) K σ := by
 refine ⟨fun a w hs => ?_⟩
 refine wp_block (wp_mono (h.run a w hs) ?_)
 rintro e a' w' ⟨s, h1, ⟨h2⟩⟩
 cases e with
 | exit id' =>
  simp only [Exit.inBlock] at h2 ⊢
  split at h2
  ·rename_i hid; simp only [hid, if_true]; exact ⟨s, h1, h2⟩
  ·rename_i hid; simp only [hid, if_false]; exact ⟨s, h1, h2⟩
 | _ => exact ⟨s, h1, h2⟩
theorem A9U {c : Operand} {x y : Code} {b : Bool} (hc : evo σ.env c = some (.bool b)) (ht : b = true → J7 P Γ x K σ) (hf : b = false → J7 P Γ y K σ) :
  J7 P Γ (.cond c x y) K σ := by
 refine ⟨fun a w hs => ?_⟩
 have he := hs.evo hc
 cases b
 ·exact wp_cond_false he ((hf rfl).run a w hs)
 ·exact wp_cond_true he ((ht rfl).run a w hs)
theorem qT {c : Operand} {x y : Code} (hc : evo σ.env c = some (.bool true)) (h : J7 P Γ x K σ) : J7 P Γ (.cond c x y) K σ :=
 ⟨fun a w hs => wp_cond_true (hs.evo hc) (h.run a w hs)⟩
theorem cF {c : Operand} {x y : Code} (hc : evo σ.env c = some (.bool false)) (h : J7 P Γ y K σ) : J7 P Γ (.cond c x y) K σ :=
 ⟨fun a w hs => wp_cond_false (hs.evo hc) (h.run a w hs)⟩

structure Sub (σ σ' : Sy) : Prop where
 env : ∀ t v, U7 σ'.env t = some v → U7 σ.env t = some v
 hp : ∃ r, σ.hp.Perm (σ'.hp ++ r)
 G : σ.G = σ'.G
theorem St.sub {a : Act} {w : World} {σ' : Sy} (h : St Γ σ a w) (s : Sub σ σ') : St Γ σ' a w := by
 obtain ⟨r, hr⟩ := s.hp
 exact ⟨h.size, h.nod, fun t v ht => h.env t v (s.env t v ht), by rw [← s.G]; exact (h.res.perm hr).left⟩
theorem A9V {c : Code} {σ' : Sy} (s : Sub σ σ') (h : J7 P Γ c K σ') : J7 P Γ c K σ := ⟨fun a w hs => h.run a w (hs.sub s)⟩
structure A9W (K : Po) (Inv : Nat → Sy → Prop) (m : Nat) (e : Exit) (σ : Sy) : Prop where
 run : match e with
  | .normal => ∃ m' σ', m' < m ∧ Sub σ σ' ∧ Inv m' σ'
  | e => K e σ
theorem A9X {c : Code} (Inv : Nat → Sy → Prop) (m : Nat) {σ' : Sy} (hsub : Sub σ σ') (h0 : Inv m σ') (step : ∀ m σ, Inv m σ → J7 P Γ c (A9W K Inv m) σ) :
  J7 P Γ (.loop c) K σ := by
 refine ⟨fun a w hs => ?_⟩
 let μ : Act → World → Nat := fun a w => Classical.epsilon fun m => (∃ σ, St Γ σ a w ∧ Inv m σ) ∧ ∀ k, (∃ σ, St Γ σ a w ∧ Inv k σ) → m ≤ k
 have hμ : ∀ a w, (∃ m σ, St Γ σ a w ∧ Inv m σ) → (∃ σ, St Γ σ a w ∧ Inv (μ a w) σ) ∧ ∀ k, (∃ σ, St Γ σ a w ∧ Inv k σ) → μ a w ≤ k := by
  intro a w ⟨m, hm⟩
  have : ∃ m, (∃ σ, St Γ σ a w ∧ Inv m σ) ∧ ∀ k, (∃ σ, St Γ σ a w ∧ Inv k σ) → m ≤ k := by
   induction m using Nat.strongRecOn with
   | _ m ih =>
    by_cases hh : ∃ k, k < m ∧ ∃ σ, St Γ σ a w ∧ Inv k σ
    ·obtain ⟨k, hk, hs⟩ := hh; exact ih k hk hs
    ·exact ⟨m, hm, fun k hk => Nat.le_of_not_lt fun hlt => hh ⟨k, hlt, hk⟩⟩
  exact Classical.epsilon_spec this
 refine wp_loop (fun a w => ∃ m σ, St Γ σ a w ∧ Inv m σ) μ ⟨m, σ', hs.sub hsub, h0⟩ ?_
 intro a w hI
 obtain ⟨⟨σ1, hs1, hi1⟩, _⟩ := hμ a w hI
 refine wp_mono ((step _ σ1 hi1).run a w hs1) ?_
 rintro e a' w' ⟨s, h1, ⟨h2⟩⟩
 cases e with
 | normal =>
  obtain ⟨m', σ2, hlt, hsb, hinv⟩ := h2
  refine ⟨⟨m', σ2, h1.sub hsb, hinv⟩, Nat.lt_of_le_of_lt ?_ hlt⟩
  exact (hμ a' w' ⟨m', σ2, h1.sub hsb, hinv⟩).2 m' ⟨σ2, h1.sub hsb, hinv⟩
 | _ => exact ⟨s, h1, h2⟩

structure A0Z {ι : Type} (K : Po) (S : ι → Sy) (φ : ι → Prop) (μ : ι → Nat) (i : ι) (e : Exit) (σ : Sy) : Prop where
 run : match e with
  | .normal => ∃ j, φ j ∧ μ j < μ i ∧ Sub σ (S j)
  | e => K e σ
theorem J3 {ι : Type} {c : Code} (S : ι → Sy) (φ : ι → Prop) (μ : ι → Nat) (i0 : ι) (hsub : Sub σ (S i0)) (h0 : φ i0) (step : ∀ i, φ i → J7 P Γ c (A0Z K S φ μ i) (S i)) :
  J7 P Γ (.loop c) K σ := by
 refine A9X (fun m σ => ∃ i, φ i ∧ m = μ i ∧ σ = S i) (μ i0) hsub ⟨i0, h0, rfl, rfl⟩ ?_
 rintro m σ ⟨i, hi, rfl, rfl⟩
 refine A53 (step i hi) ?_
 rintro e σ ⟨h⟩
 cases e with
 | normal =>
  obtain ⟨j, h1, h2, h3⟩ := h
  exact ⟨⟨μ j, S j, h2, h3, j, h1, rfl, rfl⟩⟩
 | _ => exact ⟨h⟩
theorem I6 {ι : Type} {S : ι → Sy} {φ : ι → Prop} {μ : ι → Nat} {i : ι} {σ : Sy} (j : ι) (hs : Sub σ (S j)) (h : φ j) (hlt : μ j < μ i) : A0Z K S φ μ i .normal σ := ⟨j, h, hlt, hs⟩
theorem A9Y {ι : Type} {S : ι → Sy} {φ : ι → Prop} {μ : ι → Nat} {i : ι} {σ : Sy} (h : K .ret σ) : A0Z K S φ μ i .ret σ := ⟨h⟩
theorem A9Z {ι : Type} {S : ι → Sy} {φ : ι → Prop} {μ : ι → Nat} {i : ι} {σ : Sy} {id : Nat} (h : K (.exit id) σ) : A0Z K S φ μ i (.exit id) σ := ⟨h⟩
theorem A90 {ι : Type} {S : ι → Sy} {φ : ι → Prop} {μ : ι → Nat} {i : ι} (h : ∀ c σ, ¬ K (.panic c) σ) : ∀ c σ, ¬ A0Z K S φ μ i (.panic c) σ := fun c σ hk => h c σ hk.run

end rules

def A2K (e : L4) (a : Act) : Prop := ∀ t v, U7 e t = some v → a.tmps.getD t undef = v

def K2 (ops : Array Oper) (e : L4) : Option (Nat × Bool) → Option Bool
 | none => some true
 | some (j, want) => match (ops[j]?).bind (·.dst) with
  | some t => match U7 e t with
   | some (.bool b) => some (b == want)
   | some (.tuple _) => some false
   | _ => none
  | none => none

theorem A0K {ops : Array Oper} {e : L4} {a : Act} (h : A2K e a) {d : Option Tmp} {op : Op} {ty : TypeId} {pos : String} {af : Array Edge} {gd : Option (Nat × Bool)} {r : Bool}
  (hg : K2 ops e gd = some r) : Region.wanted ⟨d, op, ty, pos, af, gd⟩ (yielded ops a.tmps) = r := by
 cases gd with
 | none => simp [K2] at hg; subst hg; rfl
 | some jw =>
  obtain ⟨j, want⟩ := jw
  simp only [K2] at hg
  split at hg
  ·rename_i t ht
   split at hg
   ·rename_i b hb
    simp at hg; subst hg
    have hv := h t _ hb
    have hs : a.tmps[t]? = some (.bool b) := by
     cases hx : a.tmps[t]? with
     | none => simp [Array.getD_eq_getD_getElem?, hx, undef] at hv
     | some u => simp [Array.getD_eq_getD_getElem?, hx] at hv; rw [hv]
    simp [Region.wanted, yielded, ht, hs]
   ·rename_i b hb
    simp at hg; subst hg
    have hv := h t _ hb
    cases hx : a.tmps[t]? with
    | none => simp [Region.wanted, yielded, ht, hx]
    | some u =>
     simp [Array.getD_eq_getD_getElem?, hx] at hv
     simp [Region.wanted, yielded, ht, hx, hv]
   ·cases hg
  ·cases hg

structure I8 (P : Program) (Γ : K7) (σ : Sy) (op : Op) (ty : TypeId) (v : Value) : Prop where
 run : ∀ a w0, St Γ σ a w0 → ∀ d pos af gd w, (execOp a.eval ⟨d, op, ty, pos, af, gd⟩).run P w = .ok (.value v) w

structure A00 (P : Program) (Γ : K7) (σ : Sy) (op : Op) (ty : TypeId) (b : Nat) (v : Value) : Prop where
 run : ∀ a w, St Γ σ a w → b < w.heap.size ∧ ∀ w', w'.heap[b]? = w.heap[b]? → ∀ d pos af gd, (execOp a.eval ⟨d, op, ty, pos, af, gd⟩).run P w' = .ok (.value v) w'

structure T1 (P : Program) (Γ : K7) (σ : Sy) (d : Option Tmp) (op : Op) (ty : TypeId) (mods : List Nat) (K' : Sy → Prop) : Prop where
 run : ∀ a w, St Γ σ a w → ∀ pos af gd (Q : Exit → Act → World → Prop) (next : Act → World → Prop),
  (∀ a' w' σ', St Γ σ' a' w' → Y8 mods w w' → K' σ' → next a' w') → (⟨d, op, ty, pos, af, gd⟩ : Oper).wp P a w next Q

def wpL (P : Program) (ops : Array Oper) (Q : Exit → Act → World → Prop) : List Oper → Act → World → Prop
 | [], a, w => Q .normal a w
 | o :: r, a, w => if Region.wanted o (yielded ops a.tmps) then o.wp P a w (wpL P ops Q r) Q ∨ (o.asks P a w ∧ LetsOut Q) else wpL P ops Q r (a.put o.dst undef) w

theorem A4H {P : Program} {ops : Array Oper} {Q : Exit → Act → World → Prop} : ∀ (os : List Oper) (is : List Nat) (a : Act) (w : World),
  is.map (ops[·]?) = os.map some → wpL P ops Q os a w → wpOps P ops Q is a w
 | [], [], _, _, _, h => h
 | [], _ :: _, _, _, hm, _ => by simp at hm
 | _ :: _, [], _, _, hm, _ => by simp at hm
 | o :: os, i :: is, a, w, hm, h => by
  simp only [List.map_cons, List.cons.injEq] at hm
  rw [wpOps_cons]
  unfold wpOp
  simp only [hm.1]
  simp only [wpL] at h
  split
  ·rename_i hw
   simp only [hw, if_true] at h
   exact h.imp (Oper.wp_mono fun a w => A4H os is a w hm.2) id
  ·rename_i hw
   simp only [hw] at h
   exact A4H os is _ w hm.2 h

structure H6 (P : Program) (Γ : K7) (ops : Array Oper) (rest : List Oper) (K : Po) (σ : Sy) : Prop where
 run : ∀ a w, St Γ σ a w → wpL P ops (lift Γ K) rest a w

section seq
variable {P : Program} {Γ : K7} {K : Po} {ops : Array Oper} {rest : List Oper} {env : L4} {hp : List A5} {G : IM}
variable {op : Op} {ty : TypeId} {pos : String} {af : Array Edge} {gd : Option (Nat × Bool)}

theorem tR {id : Nat} {os : List Oper} {σ : Sy} (h : H6 P Γ ⟨os⟩ os K σ) : J7 P Γ (.region id ⟨os⟩ false) K σ := by
 refine ⟨fun a w hs => ?_⟩
 refine wp_region (A4H os _ a w ?_ (h.run a w hs))
 apply List.ext_getElem?
 intro i
 by_cases hi : i < os.length
 ·simp [hi]
 ·simp [hi]

theorem sD {σ : Sy} (h : K .normal σ) : H6 P Γ ops [] K σ := ⟨fun _ _ hs => ⟨σ, hs, h⟩⟩

theorem sP {d : Nat} {v : Value} (h : I8 P Γ ⟨env, hp, G⟩ op ty v) (hw : K2 ops env gd = some true) (hd : Nat.blt d Γ.n = true)
  (k : H6 P Γ ops rest K ⟨(d, v) :: env, hp, G⟩) : H6 P Γ ops (⟨some d, op, ty, pos, af, gd⟩ :: rest) K ⟨env, hp, G⟩ := by
 refine ⟨fun a w hs => ?_⟩
 have he : A2K env a := hs.env
 simp only [wpL, A0K he hw, if_true]
 refine .inl ?_
 simp only [Oper.wp, h.run a w hs, Oper.upon]
 exact k.run _ _ (hs.put d v (by simpa using hd) hs.res)

theorem sQ {d : Nat} {v : Value} (h : I8 P Γ ⟨env, hp, G⟩ op ty v) (hw : (K2 ops env gd, Nat.blt d Γ.n) = (some true, true))
 (k : H6 P Γ ops rest K ⟨(d, v) :: env, hp, G⟩) : H6 P Γ ops (⟨some d, op, ty, pos, af, gd⟩ :: rest) K ⟨env, hp, G⟩ := sP h (congrArg Prod.fst hw) (congrArg Prod.snd hw) k
theorem sL {d b : Nat} {v : Value} (h : A00 P Γ ⟨env, hp, G⟩ op ty b v) (hw : K2 ops env gd = some true) (hd : Nat.blt d Γ.n = true)
  (k : H6 P Γ ops rest K ⟨(d, v) :: env, hp, G⟩) : H6 P Γ ops (⟨some d, op, ty, pos, af, gd⟩ :: rest) K ⟨env, hp, G⟩ := by
 refine ⟨fun a w hs => ?_⟩
 have he : A2K env a := hs.env
 simp only [wpL, A0K he hw, if_true]
 refine .inl ?_
 simp only [Oper.wp, (h.run a w hs).2 w rfl, Oper.upon]
 exact k.run _ _ (hs.put d v (by simpa using hd) hs.res)

theorem F0 {d : Option Nat} {mods : List Nat} {K' : Sy → Prop} {σ : Sy} (h : T1 P Γ σ d op ty mods K') (hw : K2 ops σ.env gd = some true)
  (k : ∀ σ', K' σ' → H6 P Γ ops rest K σ') : H6 P Γ ops (⟨d, op, ty, pos, af, gd⟩ :: rest) K σ := by
 refine ⟨fun a w hs => ?_⟩
 have he : A2K σ.env a := hs.env
 simp only [wpL, A0K he hw, if_true]
 exact .inl (h.run a w hs pos af gd _ _ fun a' w' σ' h1 _ h3 => (k σ' h3).run a' w' h1)

theorem sE {d : Option Nat} {F : List Nat} {S : Nat → Sy} (h : T1 P Γ ⟨env, hp, G⟩ d op ty F (fun s => ∃ b, s = S b)) (hw : K2 ops env gd = some true) (k : ∀ b, H6 P Γ ops rest K (S b)) : H6 P Γ ops (⟨d, op, ty, pos, af, gd⟩ :: rest) K ⟨env, hp, G⟩ :=
 F0 h hw (by rintro _ ⟨b, rfl⟩; exact k b)
theorem sK {d : Nat} (hw : K2 ops env gd = some false) (hd : Nat.blt d Γ.n = true)
  (k : H6 P Γ ops rest K ⟨(d, undef) :: env, hp, G⟩) : H6 P Γ ops (⟨some d, op, ty, pos, af, gd⟩ :: rest) K ⟨env, hp, G⟩ := by
 refine ⟨fun a w hs => ?_⟩
 have he : A2K env a := hs.env
 simp only [wpL, A0K he hw, Bool.false_eq_true, if_false]
 exact k.run _ _ (hs.put d undef (by simpa using hd) hs.res)
theorem sB {d : Nat} {p : Prop} [Decidable p] (h : I8 P Γ ⟨env, hp, G⟩ op ty (.bool (decide p))) (hw : K2 ops env gd = some true) (hd : Nat.blt d Γ.n = true)
  (kt : p → H6 P Γ ops rest K ⟨(d, .bool true) :: env, hp, G⟩) (kf : ¬ p → H6 P Γ ops rest K ⟨(d, .bool false) :: env, hp, G⟩) :
  H6 P Γ ops (⟨some d, op, ty, pos, af, gd⟩ :: rest) K ⟨env, hp, G⟩ := by
 by_cases hpp : p
 ·exact sP (by rw [decide_eq_true hpp] at h; exact h) hw hd (kt hpp)
 ·exact sP (by rw [decide_eq_false hpp] at h; exact h) hw hd (kf hpp)

end seq

structure A0u where
 i : Nat
 b : Nat
 o : Obj

def A2L (ops : Array Oper) : Nat → Nat → Nat → Bool
 | 0, _, _ => false
 | n + 1, j, i => match ops[j]? with | some oj => oj.after.any (fun e => Region.binds .any e && (e.on == i || A2L ops n e.on i)) | none => false
def W7 (ops : Array Oper) (j i : Nat) : Bool := A2L ops 4 j i
def DC (ops : Array Oper) (listed : Array Bool) : Prop := ∀ j, listed.getD j false = true → ∀ o, ops[j]? = some o → ∀ e ∈ o.after, Region.binds .any e = true → listed.getD e.on false = true
theorem DC.dep {ops : Array Oper} {listed : Array Bool} (h : DC ops listed) : ∀ (n j i : Nat), (∀ o, ops[j]? = some o → ∀ e ∈ o.after, Region.binds .any e = true → listed.getD e.on false = true) → A2L ops n j i = true → listed.getD i false = true
 | 0, _, _, _, hd => by simp [A2L] at hd
 | n + 1, j, i, hj, hd => by
  simp only [A2L] at hd
  cases ho : ops[j]? with
  | none => simp [ho] at hd
  | some o =>
   simp only [ho] at hd
   obtain ⟨e, he, hb⟩ := Array.any_eq_true'.1 hd
   simp only [Bool.and_eq_true, Bool.or_eq_true, beq_iff_eq] at hb
   have hl := hj o ho e he hb.1
   rcases hb.2 with h1 | h1
   ·rw [← h1]; exact hl
   ·exact h.dep n e.on i (h e.on hl) h1
theorem DC.step {ops : Array Oper} {listed : Array Bool} (h : DC ops listed) {j : Nat} (hr : j ∈ Region.ready .any ops listed) : DC ops (listed.setIfInBounds j true) := by
 intro k hk o ho e he hb
 refine getD_set_true ?_
 by_cases hkj : j = k
 ·subst hkj
  obtain ⟨_, o', ho', hall⟩ := mem_ready.1 hr
  rw [ho] at ho'; cases ho'
  exact hall e he hb
 ·rw [getD_set_ne false hkj] at hk
  exact h k hk o ho e he hb
def Hn (ops : Array Oper) (j : Nat) (H : List A0u) : List A0u := H.filter fun h => !W7 ops j h.i

def wpG (P : Program) (ops : Array Oper) (Q : Exit → Act → World → Prop) : Nat → List A0u → Array Bool → Act → World → Prop
 | 0, _, listed, a, w => Region.ready .any ops listed = [] ∧ Q .normal a w
 | fuel + 1, H, listed, a, w =>
  (Region.ready .any ops listed = [] → Q .normal a w) ∧
  ∀ j ∈ Region.ready .any ops listed, wpOp P ops Q j (fun a' w' => (∀ h ∈ Hn ops j H, w'.heap[h.b]? = some h.o) ∧ wpG P ops Q fuel (Hn ops j H) (listed.setIfInBounds j true) a' w') a w

section draw
variable {P : Program} {ops : Array Oper} {Q : Exit → Act → World → Prop}

theorem A54 : ∀ (fuel : Nat) (H : List A0u) (listed : Array Bool) (a : Act) (w : World), wpG P ops Q fuel H listed a w → wpAny P .any ops Q fuel listed a w
 | 0, _, _, _, _, h => h
 | fuel + 1, _, _, _, _, h => ⟨h.1, fun j hj => wpOp_mono (fun a' w' h' => A54 fuel _ _ a' w' h'.2) (h.2 j hj)⟩

theorem A55 {j : Nat} {H H' : List A0u} (h : ∀ x ∈ H', x ∈ H) : ∀ x ∈ Hn ops j H', x ∈ Hn ops j H := by
 intro x hx
 simp only [Hn, List.mem_filter] at hx ⊢
 exact ⟨h x hx.1, hx.2⟩
theorem A3r : ∀ (fuel : Nat) {H H' : List A0u} (_ : ∀ x ∈ H', x ∈ H) (listed : Array Bool) (a : Act) (w : World), wpG P ops Q fuel H listed a w → wpG P ops Q fuel H' listed a w
 | 0, _, _, _, _, _, _, h => h
 | fuel + 1, _, _, hs, _, _, _, h => ⟨h.1, fun j hj => wpOp_mono (fun _ _ h' => ⟨fun x hx => h'.1 x (A55 hs x hx), A3r fuel (A55 hs) _ _ _ h'.2⟩) (h.2 j hj)⟩

theorem A91 {i : Nat} {oi : Oper} {v : Value} {S : World → Prop} {Hx : List A0u} (hi : ops[i]? = some oi) (hsel : ∀ (j : Nat) (o : Oper) cs b, ops[j]? = some o → o.op ≠ .select cs b)
  (hQ : ∀ c a w, Q (.panic c) (a.put oi.dst v) w → Q (.panic c) a w) (hxi : ∀ h ∈ Hx, h.i = i) (hxs : ∀ w : World, (∀ h ∈ Hx, w.heap[h.b]? = some h.o) → S w) :
  ∀ (fuel : Nat) (H : List A0u) (listed : Array Bool) (a : Act) (w : World), DC ops listed →
   (∀ j oj, ops[j]? = some oj → j ≠ i → listed.getD j true = false → (∀ e ∈ oj.after, Region.binds .any e = true → e.on ≠ i) → oi.apart ops oj = true) →
   i ∈ Region.ready .any ops listed → YieldsIf P ops S oi v a →
   wpG P ops Q fuel (Hx ++ H) (listed.setIfInBounds i true) (a.put oi.dst v) w → (∀ h ∈ Hx ++ H, w.heap[h.b]? = some h.o) → wpG P ops Q (fuel + 1) H listed a w := by
 intro fuel
 induction fuel with
 | zero =>
  intro H listed a w _ _ hr hy HH hH
  refine ⟨fun h => (by rw [h] at hr; cases hr), fun j hj => ?_⟩
  by_cases hji : j = i
  ·subst hji
   exact hy.wpOp hi (hxs w fun h hh => hH h (List.mem_append_left _ hh)) ⟨fun h hh => hH h (List.mem_append_right _ (List.mem_filter.1 hh).1), HH⟩
  ·have := ready_mono hj hji
   rw [HH.1] at this
   cases this
 | succ fuel ih =>
  intro H listed a w hdc hfree hr hy HH hH
  refine ⟨fun h => (by rw [h] at hr; cases hr), fun j hj => ?_⟩
  by_cases hji : j = i
  ·subst hji
   refine hy.wpOp hi (hxs w fun h hh => hH h (List.mem_append_left _ hh)) ⟨fun h hh => hH h (List.mem_append_right _ (List.mem_filter.1 hh).1), ?_⟩
   exact A3r _ (fun x hx => List.mem_append_right _ (List.mem_filter.1 hx).1) _ _ _ HH
  ·have h1 := HH.2 j (ready_mono hj hji)
   obtain ⟨hjun, oj, hoj, hall⟩ := mem_ready.1 hj
   have hnot : ∀ e ∈ oj.after, Region.binds .any e = true → e.on ≠ i := fun e he hb heq => by
    have h1 := hall e he hb
    have h0 := (mem_ready.1 hr).1
    rw [heq] at h1
    rcases Nat.lt_or_ge i listed.size with h' | h'
    ·simp [h'] at h0 h1; rw [h0] at h1; cases h1
    ·simp [Array.getElem?_eq_none h'] at h1
   have hnodep : W7 ops j i = false := by
    cases hdd : W7 ops j i with
    | false => rfl
    | true =>
     have h1 := hdc.dep 4 j i (fun o ho e he hb => by rw [hoj] at ho; cases ho; exact hall e he hb) hdd
     have h0 := (mem_ready.1 hr).1
     rcases Nat.lt_or_ge i listed.size with h' | h'
     ·simp [h'] at h0 h1; rw [h0] at h1; cases h1
     ·simp [Array.getElem?_eq_none h'] at h1
   have hHn : Hn ops j (Hx ++ H) = Hx ++ Hn ops j H := by
    simp only [Hn, List.filter_append]
    congr 1
    rw [List.filter_eq_self]
    intro x hx
    rw [hxi x hx, hnodep]; rfl
   rw [hHn] at h1
   have h2 := wpOp_putIf hoj (hfree j oj hoj hji hjun hnot) (fun cs b => hsel i oi cs b hi) (fun cs b => hsel j oj cs b hoj) hQ hy h1
   have hfree' : ∀ k ok, ops[k]? = some ok → k ≠ i → (listed.setIfInBounds j true).getD k true = false →
     (∀ e ∈ ok.after, Region.binds .any e = true → e.on ≠ i) → oi.apart ops ok = true := fun k ok hk hki hun hno => by
    refine hfree k ok hk hki ?_ hno
    by_cases hjk : j = k
    ·subst hjk; exact hjun
    ·rw [getD_set_ne true hjk] at hun; exact hun
   refine wpOp_mono (fun a' w' h3 => ?_) h2
   obtain ⟨hy', hkeeps, hrest⟩ := h3
   refine ⟨fun h hh => hkeeps h (List.mem_append_right _ hh), ?_⟩
   refine ih (Hn ops j H) (listed.setIfInBounds j true) a' w' (hdc.step hj) hfree' (ready_mono hr (Ne.symm hji)) hy' ?_ hkeeps
   rw [Array.setIfInBounds_comm _ _ hji]
   exact hrest
end draw

structure L9 (P : Program) (Γ : K7) (ops : Array Oper) (K : Po) (H : List (Nat × Nat)) (fuel : Nat) (listed : List Bool) (σ : Sy) : Prop where
 run : ∀ a w, St Γ σ a w → ∀ Hs : List A0u, (Hs.map fun h => (h.i, h.b)) = H → (∀ h ∈ Hs, w.heap[h.b]? = some h.o) → DC ops listed.toArray → wpG P ops (lift Γ K) fuel Hs listed.toArray a w

def X8 (K : Po) : Prop := ∀ c σ, ¬ K (.panic c) σ

section anyrules
variable {P : Program} {Γ : K7} {K : Po} {ops : Array Oper} {H : List (Nat × Nat)} {env : L4} {hp : List A5} {G : IM} {fuel : Nat} {listed l' : List Bool}
variable {op : Op} {ty : TypeId} {pos : String} {af : Array Edge} {gd : Option (Nat × Bool)}

theorem St.drawn {σ : Sy} {a : Act} {w : World} (h : St Γ σ a w) (n : Nat) : St Γ σ a { w with drawn := n } := by
 have e : ∀ k : Nat, ({ w with drawn := n } : World).heap[k]? = w.heap[k]? := fun _ => rfl
 refine ⟨h.size, h.nod, h.env, ⟨⟨h.res.own.inn, fun x hx => A5.ok_ext (h.res.own.ok x hx) fun b _ => e b, h.res.own.nodup, h.res.own.disj⟩, ⟨h.res.ext.os, h.res.ext.tape, h.res.ext.output, h.res.ext.size, h.res.ext.block⟩, h.res.le, h.res.fresh, h.res.ofresh, h.res.fz⟩⟩

theorem A92 {ι : Type} {S : ι → Sy} {φ : ι → Prop} {μ : ι → Nat} {i : ι} (h : X8 K) : X8 (A0Z K S φ μ i) := A90 h

theorem D3 {id : Nat} {σ : Sy} (hm : P.follows .mixedOrders = true) {n : Nat} (hn : ops.size = n) (h : L9 P Γ ops K [] n (List.replicate n false) σ) : J7 P Γ (.region id ops true) K σ := by
 refine ⟨fun a w hs => ?_⟩
 refine wp_region_any hm ?_
 rw [hn]
 have := h.run a { w with drawn := w.drawn + 1 } (hs.drawn _) [] rfl zW (by
  intro j hj
  exfalso
  simp only [List.toArray_replicate] at hj
  by_cases hjn : j < n
  ·simp [hjn] at hj
  ·simp [hjn] at hj)
 have h2 := A54 _ _ _ _ _ this
 simpa using h2

theorem aD {σ : Sy} (hr : Region.ready .any ops listed.toArray = []) (h : K .normal σ) : L9 P Γ ops K H fuel listed σ := by
 refine ⟨fun a w hs Hs _ _ _ => ?_⟩
 cases fuel with
 | zero => exact ⟨hr, σ, hs, h⟩
 | succ f => exact ⟨fun _ => ⟨σ, hs, h⟩, by rw [hr]; simp⟩

def A01 (ops : Array Oper) (listed : List Bool) (i : Nat) : Bool :=
 Region.noSelect ops && Region.free .any ops listed.toArray i && (Region.ready .any ops listed.toArray).contains i

theorem A4I {i : Nat} {d : Option Nat} {v : Value} {Hx : List (Nat × Nat)} (hi : ops[i]? = some ⟨d, op, ty, pos, af, gd⟩) (hK : X8 K) {σ σ' : Sy}
  (hxi : ∀ h ∈ Hx, h.1 = i)
  (hy : ∀ a w, St Γ σ a w → ∃ Hr : List A0u, (Hr.map fun h => (h.i, h.b)) = Hx ∧ (∀ h ∈ Hr, w.heap[h.b]? = some h.o) ∧ ∃ S : World → Prop, (∀ w : World, (∀ h ∈ Hr, w.heap[h.b]? = some h.o) → S w) ∧ YieldsIf P ops S ⟨d, op, ty, pos, af, gd⟩ v a)
  (hput : ∀ a w, St Γ σ a w → St Γ σ' (a.put d v) w)
  (hq : A01 ops listed i = true) (hl : listed.set i true = l')
  (k : L9 P Γ ops K (Hx ++ H) fuel l' σ') : L9 P Γ ops K H (fuel + 1) listed σ := by
 refine ⟨fun a w hs Hs hHs hall hdc => ?_⟩
 simp only [A01, Bool.and_eq_true] at hq
 obtain ⟨⟨hs1, hs2⟩, hs3⟩ := hq
 obtain ⟨Hr, hr1, hr2, S', hS', hyi⟩ := hy a w hs
 have hall' : ∀ h ∈ Hr ++ Hs, w.heap[h.b]? = some h.o := by
  intro x hx
  rcases List.mem_append.1 hx with hx | hx
  ·exact hr2 x hx
  ·exact hall x hx
 refine A91 hi (Region.noSelect_spec hs1) (by rintro c a w ⟨σ, _, hh⟩; exact absurd hh (hK c σ)) (Hx := Hr) ?_ hS' fuel Hs listed.toArray a w hdc
  (Region.free_spec hi hs2) (by simpa using hs3) hyi ?_ hall'
 ·intro h hh
  exact hxi (h.i, h.b) (by rw [← hr1]; exact List.mem_map.2 ⟨h, hh, rfl⟩)
 ·have := k.run (a.put d v) w (hput a w hs) (Hr ++ Hs) (by simp [hr1, hHs]) hall' (by rw [← hl]; simpa using hdc.step (j := i) (by simpa using hs3))
  rw [← hl] at this
  simpa using this

theorem K3 {i d b : Nat} {v : Value} (hi : ops[i]? = some ⟨some d, op, ty, pos, af, gd⟩) (hK : X8 K)
  (h : A00 P Γ ⟨env, hp, G⟩ op ty b v) (hw : K2 ops env gd = some true) (hq : A01 ops listed i = true) (hd : Nat.blt d Γ.n = true)
  (hl : listed.set i true = l')
  (k : L9 P Γ ops K ((i, b) :: H) fuel l' ⟨(d, v) :: env, hp, G⟩) : L9 P Γ ops K H (fuel + 1) listed ⟨env, hp, G⟩ := by
 refine A4I (Hx := [(i, b)]) hi hK zW ?_ (fun a w hs => hs.put d v (by simpa using hd) hs.res) hq hl k
 intro a w hs
 obtain ⟨hb, hrun⟩ := h.run a w hs
 have hob : w.heap[b]? = some w.heap[b] := Array.getElem?_eq_getElem hb
 refine ⟨[⟨i, b, w.heap[b]⟩], rfl, by simp, fun w' => w'.heap[b]? = some w.heap[b], fun w' h => h _ List.mem_cons_self, .inl ⟨A0K hs.env hw, fun w' hw' => hrun w' (by rw [hw', hob]) _ _ _ _⟩⟩

theorem E9 {i d : Nat} {v : Value} (hi : ops[i]? = some ⟨some d, op, ty, pos, af, gd⟩) (hK : X8 K)
  (h : I8 P Γ ⟨env, hp, G⟩ op ty v) (hw : K2 ops env gd = some true) (hq : A01 ops listed i = true) (hd : Nat.blt d Γ.n = true)
  (hl : listed.set i true = l')
  (k : L9 P Γ ops K H fuel l' ⟨(d, v) :: env, hp, G⟩) : L9 P Γ ops K H (fuel + 1) listed ⟨env, hp, G⟩ := by
 refine A4I (Hx := []) hi hK zW ?_ (fun a w hs => hs.put d v (by simpa using hd) hs.res) hq hl k
 intro a w hs
 exact ⟨[], rfl, by simp, fun _ => True, fun _ _ => trivial, .inl ⟨A0K hs.env hw, fun w' _ => h.run a w hs _ _ _ _ w'⟩⟩

theorem aK {i d : Nat} (hi : ops[i]? = some ⟨some d, op, ty, pos, af, gd⟩) (hK : X8 K)
  (hw : K2 ops env gd = some false) (hq : A01 ops listed i = true) (hd : Nat.blt d Γ.n = true)
  (hl : listed.set i true = l')
  (k : L9 P Γ ops K H fuel l' ⟨(d, undef) :: env, hp, G⟩) : L9 P Γ ops K H (fuel + 1) listed ⟨env, hp, G⟩ := by
 refine A4I (Hx := []) hi hK zW ?_ (fun a w hs => hs.put d undef (by simpa using hd) hs.res) hq hl k
 intro a w hs
 exact ⟨[], rfl, by simp, fun _ => True, fun _ _ => trivial, .inr ⟨A0K hs.env hw, rfl⟩⟩

theorem V4 {i d : Nat} {p : Prop} [Decidable p] (hi : ops[i]? = some ⟨some d, op, ty, pos, af, gd⟩) (hK : X8 K)
  (h : I8 P Γ ⟨env, hp, G⟩ op ty (.bool (decide p))) (hw : K2 ops env gd = some true) (hq : A01 ops listed i = true) (hd : Nat.blt d Γ.n = true)
  (hl : listed.set i true = l')
  (kt : p → L9 P Γ ops K H fuel l' ⟨(d, .bool true) :: env, hp, G⟩) (kf : ¬ p → L9 P Γ ops K H fuel l' ⟨(d, .bool false) :: env, hp, G⟩) :
  L9 P Γ ops K H (fuel + 1) listed ⟨env, hp, G⟩ := by
 by_cases hpp : p
 ·exact E9 hi hK (by rw [decide_eq_true hpp] at h; exact h) hw hq hd hl (kt hpp)
 ·exact E9 hi hK (by rw [decide_eq_false hpp] at h; exact h) hw hq hd hl (kf hpp)

structure Q9 (P : Program) (Γ : K7) (ops : Array Oper) (K : Po) (H : List (Nat × Nat)) (fuel : Nat) (listed : List Bool) (j : Nat) (σ : Sy) : Prop where
 run : ∀ a w, St Γ σ a w → ∀ Hs : List A0u, (Hs.map fun h => (h.i, h.b)) = H → (∀ h ∈ Hs, w.heap[h.b]? = some h.o) → DC ops listed.toArray → j ∈ Region.ready .any ops listed.toArray →
  wpOp P ops (lift Γ K) j (fun a' w' => (∀ h ∈ Hn ops j Hs, w'.heap[h.b]? = some h.o) ∧ wpG P ops (lift Γ K) fuel (Hn ops j Hs) (listed.toArray.setIfInBounds j true) a' w') a w

theorem aO {j : Nat} {σ : Sy} (hr : Region.ready .any ops listed.toArray = [j]) (h : Q9 P Γ ops K H fuel listed j σ) : L9 P Γ ops K H (fuel + 1) listed σ := by
 refine ⟨fun a w hs Hs hHs hall hdc => ?_⟩
 refine ⟨fun h0 => (by rw [hr] at h0; cases h0), fun k hk => ?_⟩
 have hk' := hk
 rw [hr] at hk
 simp at hk; subst hk
 exact h.run a w hs Hs hHs hall hdc hk'
theorem J8 {j j' : Nat} {σ : Sy} (hr : Region.ready .any ops listed.toArray = [j, j']) (h : Q9 P Γ ops K H fuel listed j σ) (h' : Q9 P Γ ops K H fuel listed j' σ) : L9 P Γ ops K H (fuel + 1) listed σ := by
 refine ⟨fun a w hs Hs hHs hall hdc => ?_⟩
 refine ⟨fun h0 => (by rw [hr] at h0; cases h0), fun k hk => ?_⟩
 have hk' := hk
 rw [hr] at hk
 simp at hk
 rcases hk with rfl | rfl
 ·exact h.run a w hs Hs hHs hall hdc hk'
 ·exact h'.run a w hs Hs hHs hall hdc hk'

theorem A93 {j : Nat} {d : Option Nat} {mods : List Nat} {K' : Sy → Prop} {σ : Sy} (hi : ops[j]? = some ⟨d, op, ty, pos, af, gd⟩)
  (h : T1 P Γ σ d op ty mods K') (hw : K2 ops σ.env gd = some true) (hl : listed.set j true = l')
  (hm : ∀ p ∈ H, W7 ops j p.1 = true ∨ p.2 ∉ mods)
  (k : ∀ σ', K' σ' → L9 P Γ ops K (H.filter fun p => !W7 ops j p.1) fuel l' σ') : Q9 P Γ ops K H fuel listed j σ := by
 refine ⟨fun a w hs Hs hHs hall hdc hrd => ?_⟩
 unfold wpOp
 simp only [hi, A0K hs.env hw, if_true]
 refine .inl (h.run a w hs pos af gd _ _ fun a' w' σ' h1 h2 h3 => ?_)
 have hkeep : ∀ h ∈ Hn ops j Hs, w'.heap[h.b]? = some h.o := by
  intro x hx
  obtain ⟨hx1, hx2⟩ := List.mem_filter.1 hx
  have hp : (x.i, x.b) ∈ H := by rw [← hHs]; exact List.mem_map.2 ⟨x, hx1, rfl⟩
  have ho := hall x hx1
  rcases hm _ hp with h | h
  ·simp [h] at hx2
  ·rw [h2.block x.b (A0g ho) h, ho]
 refine ⟨hkeep, ?_⟩
 have := (k σ' h3).run a' w' h1 (Hn ops j Hs) (by
  subst hHs
  simp [Hn, List.filter_map, Function.comp_def]) hkeep (by rw [← hl]; simpa using hdc.step hrd)
 rw [← hl] at this
 simpa using this

end anyrules

structure K4 where
 size : Nat
 bytes : Nat
 zs : List Value
 desc : TypeDesc

class H2 (P : Program) (t : TypeId) (i : outParam K4) : Prop where
 info : ∃ inf, P.info? t = some inf ∧ inf.size = i.size ∧ inf.bytes = i.bytes ∧ ∃ z, inf.zero = some z ∧ z.cells = ⟨i.zs⟩
 und : P.underlying t = some i.desc

class Q5 (P : Program) (t : TypeId) (sz : outParam Nat) (bytes : outParam Nat) (zs : outParam (List Value)) : Prop where
 ok : ∃ d, H2 P t ⟨sz, bytes, zs, d⟩
 len : zs.length = sz

def A02 : TypeDesc → Bool
 | .struct _ | .array _ _ => true
 | _ => false

theorem A56 {P : Program} {t : TypeId} {d : TypeDesc} (h : P.underlying t = some d) (w : World) : (isAgg t).run P w = .ok (A02 d) w := by
 simp only [isAgg, Sem.run_bind, run_underlying h, Result.andThen_ok]
 cases d <;> rfl

class N8 (P : Program) (s : TypeId) (f : Nat) (off : outParam Nat) (sz : outParam Nat) (agg : outParam Bool) : Prop where
 ok : ∃ fs fl d inf, P.underlying s = some (.struct fs) ∧ fs[f]? = some fl ∧ fl.offset = off ∧ P.info? fl.type = some inf ∧ inf.size = sz ∧ sz ≠ 0 ∧ P.underlying fl.type = some d ∧ A02 d = agg

class B9 (P : Program) (f : FuncId) : Prop where
 ok : ∃ fn, P.funcs[f]? = some fn ∧ fn.body.isNone = false ∧ (fn.name == "runtime.NumGoroutine") = false

def A0v : List Value → Nat → Nat → Option (List Value)
 | _, 0, 0 => some []
 | [], _, _ => none
 | _ :: r, off + 1, n => A0v r off n
 | v :: r, 0, n + 1 => match A0v r 0 n with
  | some l => some (v :: l)
  | none => none

theorem A3s : ∀ {cs : List Value} {off n : Nat} {vs : List Value}, A0v cs off n = some vs → vs.length = n ∧ ∀ j v, vs[j]? = some v → cs[off + j]? = some v
 | cs, 0, 0, vs, h => by cases cs <;> (simp [A0v] at h; subst h; simp)
 | [], 0, n + 1, vs, h => by simp [A0v] at h
 | [], off + 1, n, vs, h => by cases n <;> simp [A0v] at h
 | c :: r, off + 1, n, vs, h => by
  have h' : A0v r off n = some vs := by cases n <;> simpa [A0v] using h
  obtain ⟨h1, h2⟩ := A3s h'
  exact ⟨h1, fun j v hv => by have := h2 j v hv; rw [show off + 1 + j = (off + j) + 1 by omega]; simpa using this⟩
 | c :: r, 0, n + 1, vs, h => by
  simp only [A0v] at h
  split at h
  ·rename_i l hl
   simp at h; subst h
   obtain ⟨h1, h2⟩ := A3s hl
   refine ⟨by simp [h1], fun j v hv => ?_⟩
   cases j with
   | zero => simpa using hv
   | succ j => have := h2 j v (by simpa using hv); simpa using this
  ·cases h

section laws
variable {P : Program} {Γ : K7} {env : L4} {hp : List A5} {G : IM} {ty : TypeId}

theorem qM {x : Operand} {v : Value} (h : evo env x = some v) : I8 P Γ ⟨env, hp, G⟩ (.move x) ty v :=
 by refine ⟨?_⟩; exact fun a _ hs _ _ _ _ w => by simp [execOp, (hs.evo h : a.eval x = v)]
theorem qA {x : Operand} {v : Value} (h : evo env x = some v) : I8 P Γ ⟨env, hp, G⟩ (.assign x) ty v :=
 by refine ⟨?_⟩; exact fun a _ hs _ _ _ _ w => by simp [execOp, (hs.evo h : a.eval x = v)]
theorem M2 {c x y : Operand} {v : Value} (hc : evo env c = some (.bool true)) (h : evo env x = some v) : I8 P Γ ⟨env, hp, G⟩ (.pick c x y) ty v :=
 by refine ⟨?_⟩; exact fun a _ hs _ _ _ _ w => by simp [execOp, asBool, (hs.evo hc : a.eval c = _), (hs.evo h : a.eval x = v)]
theorem N7 {c x y : Operand} {v : Value} (hc : evo env c = some (.bool false)) (h : evo env y = some v) : I8 P Γ ⟨env, hp, G⟩ (.pick c x y) ty v :=
 by refine ⟨?_⟩; exact fun a _ hs _ _ _ _ w => by simp [execOp, asBool, (hs.evo hc : a.eval c = _), (hs.evo h : a.eval y = v)]
theorem A3t {x : Operand} {t : TypeId} {b : Bool} (h : evo env x = some (.bool b)) : I8 P Γ ⟨env, hp, G⟩ (.unOp .not t x) ty (.bool !b) :=
 by refine ⟨?_⟩; exact fun a _ hs _ _ _ _ w => by simp [execOp, Op.unary, (hs.evo h : a.eval x = _)]
theorem Z6 {x : Operand} {t : TypeId} (h : evo env x = some (.bool true)) : I8 P Γ ⟨env, hp, G⟩ (.unOp .not t x) ty (.bool false) := A3t h
theorem pNf {x : Operand} {t : TypeId} (h : evo env x = some (.bool false)) : I8 P Γ ⟨env, hp, G⟩ (.unOp .not t x) ty (.bool true) := A3t h
theorem pX {x : Operand} {vs : List Value} {i : Nat} {v : Value} (h : evo env x = some (.tuple ⟨vs⟩)) (hv : vs[i]? = some v) : I8 P Γ ⟨env, hp, G⟩ (.extract x i) ty v :=
 by refine ⟨?_⟩; exact fun a _ hs _ _ _ _ w => by simp [execOp, Instr.extract, (hs.evo h : a.eval x = _), hv]
theorem A2b {x : Operand} {p : Addr} (h : evo env x = some (.pointer (some p))) : I8 P Γ ⟨env, hp, G⟩ (.nilCheck x) ty (.pointer (some p)) :=
 by refine ⟨?_⟩; exact fun a _ hs _ _ _ _ w => by simp [execOp, (hs.evo h : a.eval x = _)]

theorem A2c (b o n : Nat) : (⟨b, o, none⟩ : Addr).add n = ⟨b, o + n, none⟩ := by
 unfold Addr.add; split
 ·rename_i h; subst h; rfl
 ·rfl

theorem qF {x : Operand} {s : TypeId} {f b o off sz : Nat} {ag : Bool} [hI : N8 P s f off sz ag] (h : evo env x = some (.pointer (some ⟨b, o, none⟩))) :
  I8 P Γ ⟨env, hp, G⟩ (.fieldAddr s x f) ty (.pointer (some ⟨b, o + off, none⟩)) := by
 refine ⟨fun a _ hs _ _ _ _ w => ?_⟩
 obtain ⟨fs, fl, d, inf, h1, h2, h3, h4, h5, h6, _⟩ := hI.ok
 have hx : a.eval x = _ := hs.evo h
 subst h3 h5
 simp [execOp, Instr.fieldAt, hx, run_underlying h1, h2, Instr.sureAddr, fieldPlace, sizeOf, typeInfo, h4, h6, A2c]
theorem B0 {x : Operand} {s : TypeId} {f b off sz : Nat} {ag : Bool} [hI : N8 P s f off sz ag] (h : evo env x = some (.pointer (some ⟨b, 0, none⟩))) :
  I8 P Γ ⟨env, hp, G⟩ (.fieldAddr s x f) ty (.pointer (some ⟨b, off, none⟩)) := by
 have := qF (P := P) (Γ := Γ) (hp := hp) (G := G) (ty := ty) (s := s) (f := f) h
 simpa using this

theorem A2M {k : IntKind} (n : Int) (hk : k = .i64) (h1 : -9223372036854775808 ≤ n) (h2 : n ≤ 9223372036854775807) : k.wrap n = n := by
 subst hk; exact IntWalk.i64_in n zV

theorem H9 {x y : Operand} {t t' : TypeId} {m n : Int} (hx : evo env x = some (.int .i64 m)) (hy : evo env y = some (.int .i64 n))
  (h1 : -9223372036854775808 ≤ m + n) (h2 : m + n ≤ 9223372036854775807) : I8 P Γ ⟨env, hp, G⟩ (.binOp .add t x y t') ty (.int .i64 (m + n)) :=
 by refine ⟨?_⟩; exact fun a _ hs _ _ _ _ w => by simp [execOp, eqGuard, binOp, Op.intArith, (hs.evo hx : a.eval x = _), (hs.evo hy : a.eval y = _), A2M _ rfl h1 h2]
theorem R9 {x y : Operand} {t t' : TypeId} {m n : Int} (hx : evo env x = some (.int .i64 m)) (hy : evo env y = some (.int .i64 n))
  (h1 : -9223372036854775808 ≤ m - n) (h2 : m - n ≤ 9223372036854775807) : I8 P Γ ⟨env, hp, G⟩ (.binOp .sub t x y t') ty (.int .i64 (m - n)) :=
 by refine ⟨?_⟩; exact fun a _ hs _ _ _ _ w => by simp [execOp, eqGuard, binOp, Op.intArith, (hs.evo hx : a.eval x = _), (hs.evo hy : a.eval y = _), A2M _ rfl h1 h2]
theorem A3u {x : Operand} {t : TypeId} {n : Int} (hx : evo env x = some (.int .i64 n))
  (h1 : -9223372036854775808 ≤ -n) (h2 : -n ≤ 9223372036854775807) : I8 P Γ ⟨env, hp, G⟩ (.unOp .neg t x) ty (.int .i64 (-n)) :=
 by refine ⟨?_⟩; exact fun a _ hs _ _ _ _ w => by simp [execOp, Op.unary, Op.intArith, (hs.evo hx : a.eval x = _), A2M _ rfl h1 h2]
theorem A4J {x y : Operand} {t t' : TypeId} {m n : Int} (hx : evo env x = some (.int .i64 m)) (hy : evo env y = some (.int .i64 n)) (hn : n ≠ 0) :
  I8 P Γ ⟨env, hp, G⟩ (.binOp .rem t x y t') ty (.int .i64 (m.tmod n)) :=
 by refine ⟨?_⟩; exact fun a _ hs _ _ _ _ w => by simp [execOp, eqGuard, binOp, Op.intDiv, (hs.evo hx : a.eval x = _), (hs.evo hy : a.eval y = _), hn]
theorem A94 {x y : Operand} {t t' : TypeId} {m n : Int} (hx : evo env x = some (.int .i64 m)) (hy : evo env y = some (.int .i64 n)) (hn : n ≠ 0)
  (h1 : -9223372036854775808 ≤ m.tdiv n) (h2 : m.tdiv n ≤ 9223372036854775807) : I8 P Γ ⟨env, hp, G⟩ (.binOp .quo t x y t') ty (.int .i64 (m.tdiv n)) :=
 by refine ⟨?_⟩; exact fun a _ hs _ _ _ _ w => by simp [execOp, eqGuard, binOp, Op.intDiv, (hs.evo hx : a.eval x = _), (hs.evo hy : a.eval y = _), hn, A2M _ rfl h1 h2]

theorem qE {x y : Operand} {t t' : TypeId} {k : IntKind} {m n : Int} (hx : evo env x = some (.int k m)) (hy : evo env y = some (.int k n)) :
  I8 P Γ ⟨env, hp, G⟩ (.binOp .eql t x y t') ty (.bool (decide (m = n))) :=
 by
  refine ⟨fun a _ hs _ _ _ _ w => ?_⟩
  simp [execOp, eqGuard, binOp, Op.intCmp, (hs.evo hx : a.eval x = _), (hs.evo hy : a.eval y = _)]
  by_cases h : m = n <;> simp [h]
theorem O6 {x y : Operand} {t t' : TypeId} {k : IntKind} {m n : Int} (hx : evo env x = some (.int k m)) (hy : evo env y = some (.int k n)) :
  I8 P Γ ⟨env, hp, G⟩ (.binOp .neq t x y t') ty (.bool (decide (m ≠ n))) :=
 by
  refine ⟨fun a _ hs _ _ _ _ w => ?_⟩
  simp [execOp, eqGuard, binOp, Op.intCmp, (hs.evo hx : a.eval x = _), (hs.evo hy : a.eval y = _)]
  by_cases h : m = n <;> simp [h]
theorem I3 {x y : Operand} {t t' : TypeId} {k : IntKind} {m n : Int} (hx : evo env x = some (.int k m)) (hy : evo env y = some (.int k n)) :
  I8 P Γ ⟨env, hp, G⟩ (.binOp .lss t x y t') ty (.bool (decide (m < n))) :=
 by refine ⟨?_⟩; exact fun a _ hs _ _ _ _ w => by simp [execOp, eqGuard, binOp, Op.intCmp, (hs.evo hx : a.eval x = _), (hs.evo hy : a.eval y = _)]
theorem W8 {x y : Operand} {t t' : TypeId} {k : IntKind} {m n : Int} (hx : evo env x = some (.int k m)) (hy : evo env y = some (.int k n)) :
  I8 P Γ ⟨env, hp, G⟩ (.binOp .leq t x y t') ty (.bool (decide (m ≤ n))) :=
 by refine ⟨?_⟩; exact fun a _ hs _ _ _ _ w => by simp [execOp, eqGuard, binOp, Op.intCmp, (hs.evo hx : a.eval x = _), (hs.evo hy : a.eval y = _)]
theorem A0h {x y : Operand} {t t' : TypeId} {k : IntKind} {m n : Int} (hx : evo env x = some (.int k m)) (hy : evo env y = some (.int k n)) :
  I8 P Γ ⟨env, hp, G⟩ (.binOp .gtr t x y t') ty (.bool (decide (n < m))) :=
 by refine ⟨?_⟩; exact fun a _ hs _ _ _ _ w => by simp [execOp, eqGuard, binOp, Op.intCmp, (hs.evo hx : a.eval x = _), (hs.evo hy : a.eval y = _)]
theorem A1p {x y : Operand} {t t' : TypeId} {k : IntKind} {m n : Int} (hx : evo env x = some (.int k m)) (hy : evo env y = some (.int k n)) :
  I8 P Γ ⟨env, hp, G⟩ (.binOp .geq t x y t') ty (.bool (decide (n ≤ m))) :=
 by refine ⟨?_⟩; exact fun a _ hs _ _ _ _ w => by simp [execOp, eqGuard, binOp, Op.intCmp, (hs.evo hx : a.eval x = _), (hs.evo hy : a.eval y = _)]

theorem pLn {x : Operand} {t : TypeId} {i : K4} [hI : H2 P t i] {e : TypeId} (hd : i.desc = .slice e) {p : Option Addr} {n c : Nat} (hx : evo env x = some (.slice p n c)) :
  I8 P Γ ⟨env, hp, G⟩ (.call ⟨.builtin .len, ⟨[x]⟩, ⟨[t]⟩⟩) ty (.int .i64 n) := by
 refine ⟨fun a _ hs _ _ _ _ w => ?_⟩
 have hu := hI.und
 rw [hd] at hu
 simp [execOp, resolve, invoke, builtin, Builtin.len_, (hs.evo hx : a.eval x = _), run_underlying hu, goInt]
theorem A4K {x : Operand} {t : TypeId} {i : K4} [hI : H2 P t i] (hd : i.desc = .string) {s : ByteArray} (hx : evo env x = some (.string s)) :
  I8 P Γ ⟨env, hp, G⟩ (.call ⟨.builtin .len, ⟨[x]⟩, ⟨[t]⟩⟩) ty (.int .i64 s.size) := by
 refine ⟨fun a _ hs _ _ _ _ w => ?_⟩
 have hu := hI.und
 rw [hd] at hu
 simp [execOp, resolve, invoke, builtin, Builtin.len_, (hs.evo hx : a.eval x = _), run_underlying hu, goInt]

theorem A57 {x y : Operand} {t e : TypeId} {i ie : K4} [hI : H2 P t i] (hd : i.desc = .slice e) [hE : H2 P e ie] {b o n c : Nat} {k : IntKind} {j : Int}
  (hx : evo env x = some (.slice (some ⟨b, o, none⟩) n c)) (hy : evo env y = some (.int k j)) (h0 : 0 ≤ j) (h1 : j < n) :
  I8 P Γ ⟨env, hp, G⟩ (.indexAddr t x y) ty (.pointer (some ⟨b, o + j.toNat * ie.size, none⟩)) := by
 refine ⟨fun a _ hs _ _ _ _ w => ?_⟩
 have hu := hI.und
 rw [hd] at hu
 obtain ⟨inf, g1, g2, _⟩ := hE.info
 simp [execOp, Instr.indexAt, (hs.evo hx : a.eval x = _), (hs.evo hy : a.eval y = _), asIntOf, run_underlying hu, h0, h1, sizeOf, typeInfo, g1, g2, A2c]

theorem A6 {x y : Operand} {t e : TypeId} {i : K4} {sz by' : Nat} {zs : List Value} [hI : H2 P t i] (hd : i.desc = .slice e) [hE : Q5 P e sz by' zs] {b o n c j : Nat} {k : IntKind}
  (hx : evo env x = some (.slice (some ⟨b, o, none⟩) n c)) (hy : evo env y = some (.int k (j : Int))) (h1 : j < n) :
  I8 P Γ ⟨env, hp, G⟩ (.indexAddr t x y) ty (.pointer (some ⟨b, o + j * sz, none⟩)) := by
 obtain ⟨d, hE⟩ := hE.ok
 have := A57 (P := P) (Γ := Γ) (hp := hp) (G := G) (ty := ty) (t := t) hd hx hy zV zV
 simpa using this
theorem A2d {fn : Fn} {xs ys : List Operand} {us vs : List Value} (hx : evl env xs = some us) (hy : evl env ys = some vs) :
  I8 P Γ ⟨env, hp, G⟩ (.makeFunc fn ⟨xs⟩ ⟨ys⟩) ty (.func fn ⟨us⟩ ⟨vs⟩) :=
 by refine ⟨?_⟩; exact fun a _ hs _ _ _ _ w => by simp [execOp, Instr.makeFunc, ← hs.evl hx, ← hs.evl hy]

theorem A95 {w : World} {b : Nat} {full : List Value} {e : TypeId} {f : Nat × Nat} (hb : w.heap[b]? = some (.cells full.toArray e f)) {o : Nat} {vs : List Value}
  (hv : ∀ j v, vs[j]? = some v → full[o + j]? = some v) : (loadCells ⟨b, o, none⟩ vs.length).run P w = .ok vs.toArray w :=
 run_loadCells_list w _ vs fun j v h => by rw [A2c]; simp [World.cell?, hb, hv j v h]

theorem A96 {w : World} {t : TypeId} {i : K4} [hI : H2 P t i] (hd : A02 i.desc = false) {b o : Nat} {v : Value} (h : w.cell? ⟨b, o, none⟩ = some v) :
  (Instr.loadAt t (.pointer (some ⟨b, o, none⟩))).run P w = .ok v w := by
 simp [Instr.loadAt, Instr.sureAddr, loadVar, A56 hI.und, hd, h]
theorem A97 {w : World} {t : TypeId} {i : K4} [hI : H2 P t i] (hd : A02 i.desc = true) {b o : Nat} {vs : List Value}
  (h : (loadCells ⟨b, o, none⟩ vs.length).run P w = .ok vs.toArray w) (hn : vs.length = i.size) :
  (Instr.loadAt t (.pointer (some ⟨b, o, none⟩))).run P w = .ok (.agg ⟨vs⟩) w := by
 obtain ⟨inf, g1, g2, _⟩ := hI.info
 rw [hn] at h
 simp [Instr.loadAt, Instr.sureAddr, loadVar, A56 hI.und, hd, sizeOf, typeInfo, g1, g2, h]

def At (hp : List A5) (G : IM) (b o : Nat) (vs : List Value) : Prop :=
 (∃ cs, A5.blk b cs ∈ hp ∧ ∀ j v, vs[j]? = some v → cs[o + j]? = some v) ∨
 (∃ n c el sz cs, A5.slc (some ⟨b, 0, none⟩) c el sz n cs ∈ hp ∧ ∀ j v, vs[j]? = some v → cs[o + j]? = some v) ∨
 (∃ full, G b = some full ∧ ∀ j v, vs[j]? = some v → full[o + j]? = some v)

theorem At.read {a : Act} {w : World} {b o : Nat} {vs : List Value} (h : At hp G b o vs) (hs : St Γ ⟨env, hp, G⟩ a w) :
  ∃ full e f, w.heap[b]? = some (.cells (full : List Value).toArray e f) ∧ ∀ j v, vs[j]? = some v → full[o + j]? = some v := by
 rcases h with ⟨cs, hm, hv⟩ | ⟨n, c, el, sz, cs, hm, hv⟩ | ⟨full, hg, hv⟩
 ·obtain ⟨e, he⟩ := hs.res.own.ok _ hm
  exact ⟨cs, e, _, he, hv⟩
 ·obtain ⟨_, h2⟩ := hs.res.own.ok _ hm
  rcases h2 with ⟨h2, _⟩ | ⟨g, cap, cur, h2, _, hg, _, _, _, ht⟩
  ·cases h2
  ·cases h2
   refine ⟨cur.toList, el, _, by simpa using hg, fun j v hj => ?_⟩
   have := hv j v hj
   rw [← ht, List.getElem?_take] at this
   split at this
   ·exact this
   ·cases this
 ·obtain ⟨e, f, hb⟩ := hs.res.own.inn b full hg
  exact ⟨full, e, f, hb, hv⟩

theorem A03 {x : Operand} {t : TypeId} {i : K4} [hI : H2 P t i] (hd : A02 i.desc = false) {b o : Nat} {v : Value}
  (hx : evo env x = some (.pointer (some ⟨b, o, none⟩))) (hv : At hp G b o [v]) : A00 P Γ ⟨env, hp, G⟩ (.load t x) ty b v := by
 refine ⟨fun a w hs => ?_⟩
 obtain ⟨full, e, f, hb, hf⟩ := hv.read hs
 refine ⟨A0g hb, fun w' hw' d pos af gd => ?_⟩
 have hc : w'.cell? ⟨b, o, none⟩ = some v := by simp [World.cell?, hw', hb, show full[o]? = some v from hf 0 v rfl]
 simp only [execOp, Sem.run_bind, (hs.evo hx : a.eval x = _), A96 hd hc]
 rfl
theorem A2 {x : Operand} {t : TypeId} {i : K4} [hI : H2 P t i] (hd : A02 i.desc = true) {b o : Nat} {vs : List Value}
  (hx : evo env x = some (.pointer (some ⟨b, o, none⟩))) (hv : At hp G b o vs) (hn : vs.length = i.size) : A00 P Γ ⟨env, hp, G⟩ (.load t x) ty b (.agg ⟨vs⟩) := by
 refine ⟨fun a w hs => ?_⟩
 obtain ⟨full, e, f, hb, hf⟩ := hv.read hs
 refine ⟨A0g hb, fun w' hw' d pos af gd => ?_⟩
 have hc := A95 (P := P) (w := w') (hw'.trans hb) hf
 simp only [execOp, Sem.run_bind, (hs.evo hx : a.eval x = _), A97 hd hc hn]
 rfl

theorem C9 {b : Nat} {cs : List Value} (hm : A5.blk b cs ∈ hp) : At hp G b 0 cs := .inl ⟨cs, hm, fun j u hj => by simpa using hj⟩
theorem A98 {b o : Nat} {cs : List Value} {v : Value} (hm : A5.blk b cs ∈ hp) (hv : cs[o]? = some v) : At hp G b o [v] :=
 .inl ⟨cs, hm, fun j u hj => by cases j <;> simp_all⟩
theorem A99 {b o n : Nat} {cs vs : List Value} (hm : A5.blk b cs ∈ hp) (hv : A0v cs o n = some vs) : At hp G b o vs := .inl ⟨cs, hm, (A3s hv).2⟩

theorem B0a {t : TypeId} {i : K4} {sz by' : Nat} {zs : List Value} (h : H2 P t i) (h' : Q5 P t sz by' zs) : i.size = sz := by
 obtain ⟨d, h'⟩ := h'.ok
 obtain ⟨i1, a1, a2, _⟩ := h.info
 obtain ⟨i2, b1, b2, _⟩ := h'.info
 rw [a1] at b1; cases b1
 rw [← a2, b2]
theorem A1 {x : Operand} {t : TypeId} {i : K4} {sz by' : Nat} {zs : List Value} [hI : H2 P t i] [hS : Q5 P t sz by' zs] (hd : A02 i.desc = true) {b o : Nat} {cs vs : List Value}
  (hx : evo env x = some (.pointer (some ⟨b, o, none⟩))) (hm : A5.blk b cs ∈ hp := by repeat first | exact List.Mem.head _ | apply List.Mem.tail) (hv : A0v cs o sz = some vs := by rfl) : A00 P Γ ⟨env, hp, G⟩ (.load t x) ty b (.agg ⟨vs⟩) :=
 A2 hd hx (A99 hm hv) (by rw [B0a hI hS]; exact (A3s hv).1)
theorem B3 {x : Operand} {t : TypeId} {i : K4} [hI : H2 P t i] (hd : A02 i.desc = false) {b o : Nat} {cs : List Value} {v : Value}
  (hx : evo env x = some (.pointer (some ⟨b, o, none⟩))) (hm : A5.blk b cs ∈ hp := by repeat first | exact List.Mem.head _ | apply List.Mem.tail) (hv : cs[o]? = some v := by rfl) : A00 P Γ ⟨env, hp, G⟩ (.load t x) ty b v :=
 A03 hd hx (A98 hm hv)
theorem B0b {b o c el sz n : Nat} {cs vs : List Value} (hm : A5.slc (some ⟨b, 0, none⟩) c el sz n cs ∈ hp) (hv : ∀ j v, vs[j]? = some v → cs[o + j]? = some v) : At hp G b o vs := .inr (.inl ⟨n, c, el, sz, cs, hm, hv⟩)
theorem O1 {b c el sz n : Nat} {cs : List Value} (hm : A5.slc (some ⟨b, 0, none⟩) c el sz n cs ∈ hp) : At hp G b 0 cs := .inr (.inl ⟨n, c, el, sz, cs, hm, fun j v hj => by simpa using hj⟩)
theorem A4L {b o : Nat} {full vs : List Value} (hg : G b = some full) (hv : ∀ j v, vs[j]? = some v → full[o + j]? = some v) : At hp G b o vs := .inr (.inr ⟨full, hg, hv⟩)

theorem A3v {x y : Operand} {t : TypeId} {i : K4} [hI : H2 P t i] (hd : i.desc = .string) {s : ByteArray} {k : IntKind} {j : Int} {b : UInt8}
  (hx : evo env x = some (.string s)) (hy : evo env y = some (.int k j)) (h0 : 0 ≤ j) (hb : s[j.toNat]? = some b) :
  I8 P Γ ⟨env, hp, G⟩ (.index t x y) ty (.int .u8 b.toNat) := by
 refine ⟨fun a _ hs _ _ _ _ w => ?_⟩
 have hu := hI.und
 rw [hd] at hu
 simp only [execOp, Instr.index, (hs.evo hx : a.eval x = _), (hs.evo hy : a.eval y = _), asIntOf, Sem.run_bind, Sem.run_pure, Result.andThen_ok, run_underlying hu, h0, if_true, hb]
theorem A58 {x y : Operand} {t t' : TypeId} {r s : ByteArray} (hx : evo env x = some (.string r)) (hy : evo env y = some (.string s)) (hs' : r.size + s.size ≤ 9223372036854775807) :
  I8 P Γ ⟨env, hp, G⟩ (.binOp .add t x y t') ty (.string (r ++ s)) := by
 refine ⟨fun a _ hs _ _ _ _ w => ?_⟩
 have : ¬ (((r.size + s.size : Nat) : Int) > IntKind.i64.max) := by simp [IntKind.max, IntKind.signed, IntKind.bits]; omega
 simp only [execOp, eqGuard, binOp, Op.stringOp, (hs.evo hx : a.eval x = _), (hs.evo hy : a.eval y = _), this, if_false]
 simp
theorem toList_eq (r s : ByteArray) : (r.toList == s.toList) = decide (r = s) := by
 by_cases h : r = s
 ·subst h; simp
 ·have : r.toList ≠ s.toList := by
   intro e
   apply h
   have := congrArg List.toArray e
   rw [ByteArray.toList_eq, ByteArray.toList_eq] at this
   cases r; cases s; simpa using this
  simp [h, this]
theorem A1H {x y : Operand} {t t' : TypeId} {r s : ByteArray} (hx : evo env x = some (.string r)) (hy : evo env y = some (.string s)) :
  I8 P Γ ⟨env, hp, G⟩ (.binOp .eql t x y t') ty (.bool (decide (r = s))) := by
 refine ⟨fun a _ hs _ _ _ _ w => ?_⟩
 simp only [execOp, eqGuard, binOp, Op.stringOp, (hs.evo hx : a.eval x = _), (hs.evo hy : a.eval y = _), toList_eq]
 simp
theorem A04 {x y : Operand} {t t' : TypeId} {r s : ByteArray} (hx : evo env x = some (.string r)) (hy : evo env y = some (.string s)) :
  I8 P Γ ⟨env, hp, G⟩ (.binOp .neq t x y t') ty (.bool (decide (r ≠ s))) := by
 refine ⟨fun a _ hs _ _ _ _ w => ?_⟩
 simp only [execOp, eqGuard, binOp, Op.stringOp, (hs.evo hx : a.eval x = _), (hs.evo hy : a.eval y = _), toList_eq]
 simp
theorem B0c {t : TypeId} {i : K4} [hI : H2 P t i] (hd : i.desc = .bool) (r s : Bool) (w : World) : (Op.equal t (.bool r) (.bool s)).run P w = .ok (r == s) w := by
 have hu := hI.und
 rw [hd] at hu
 have h : ∀ d, (Op.equalIn (d + 1) t (.bool r) (.bool s)).run P w = .ok (r == s) w := fun d => by
  simp only [Op.equalIn, Sem.run_bind, run_underlying hu, Result.andThen_ok, Sem.run_pure]
 exact h 9999
theorem A4M {x y : Operand} {t t' : TypeId} {i : K4} [hI : H2 P t i] (hd : i.desc = .bool) {r s : Bool} (hx : evo env x = some (.bool r)) (hy : evo env y = some (.bool s)) :
  I8 P Γ ⟨env, hp, G⟩ (.binOp .neq t x y t') ty (.bool (decide (r ≠ s))) := by
 refine ⟨fun a _ hs _ _ _ _ w => ?_⟩
 simp only [execOp, eqGuard, binOp, (hs.evo hx : a.eval x = _), (hs.evo hy : a.eval y = _), Sem.run_bind, B0c hd, Sem.run_pure, Result.andThen_ok]
 cases r <;> cases s <;> rfl
theorem B0d {t e : TypeId} {i : K4} [hI : H2 P t i] (hd : i.desc = .slice e) (p : Option Addr) (n c : Nat) (w : World) : (Op.equal t (.slice p n c) (.slice none 0 0)).run P w = .ok p.isNone w := by
 have hu := hI.und
 rw [hd] at hu
 have h : ∀ d, (Op.equalIn (d + 1) t (.slice p n c) (.slice none 0 0)).run P w = .ok p.isNone w := fun d => by
  cases p <;> simp only [Op.equalIn, Sem.run_bind, run_underlying hu, Result.andThen_ok, Sem.run_pure, Option.isNone]
 exact h 9999
theorem A59 {x y : Operand} {t t' e : TypeId} {i : K4} [hI : H2 P t i] (hd : i.desc = .slice e) {p : Option Addr} {n c : Nat} (hx : evo env x = some (.slice p n c)) (hy : evo env y = some (.slice none 0 0)) :
  I8 P Γ ⟨env, hp, G⟩ (.binOp .eql t x y t') ty (.bool (decide (p = none))) := by
 refine ⟨fun a _ hs _ _ _ _ w => ?_⟩
 simp only [execOp, eqGuard, binOp, (hs.evo hx : a.eval x = _), (hs.evo hy : a.eval y = _), Sem.run_bind, B0d hd, Sem.run_pure, Result.andThen_ok]
 cases p <;> rfl
theorem B0e {x y : Operand} {t t' e : TypeId} {i : K4} [hI : H2 P t i] (hd : i.desc = .slice e) {n c : Nat} (hx : evo env x = some (.slice none n c)) (hy : evo env y = some (.slice none 0 0)) :
  I8 P Γ ⟨env, hp, G⟩ (.binOp .eql t x y t') ty (.bool true) := A59 hd hx hy
theorem A6a {x y : Operand} {t t' e : TypeId} {i : K4} [hI : H2 P t i] (hd : i.desc = .slice e) {p : Addr} {n c : Nat} (hx : evo env x = some (.slice (some p) n c)) (hy : evo env y = some (.slice none 0 0)) :
  I8 P Γ ⟨env, hp, G⟩ (.binOp .eql t x y t') ty (.bool false) := A59 hd hx hy
end laws

section steps
variable {P : Program} {Γ : K7} {env : L4} {hp : List A5} {G : IM} {ty : TypeId}

theorem A6b (w : World) (hin : A2J G w) (cs : List Value) (e : TypeId) : O5 [] G w [.blk w.heap.size cs] G (w.alloc (.cells cs.toArray e)) := by
 have hb : (w.alloc (.cells cs.toArray e)).heap[w.heap.size]? = some (.cells cs.toArray e (0, 0)) := heap_alloc_new w _
 have hold : ∀ k, k < w.heap.size → (w.alloc (.cells cs.toArray e)).heap[k]? = w.heap[k]? := fun k hk => Below.heap_alloc w _ k hk
 refine ⟨⟨?_, ?_, by simp [Fp, A5.fp], ?_⟩, ⟨rfl, rfl, rfl, by simp, fun k hk _ => hold k hk⟩, D2.refl _, fun _ _ h => .inl h, ?_, fun b l h h0 => absurd h (by rw [h0]; simp)⟩
 ·intro b l hg
  obtain ⟨e', f', h'⟩ := hin b l hg
  exact ⟨e', f', by rw [hold b (A0g h')]; exact h'⟩
 ·intro x hx
  simp at hx; subst hx
  exact ⟨e, hb⟩
 ·intro b hb
  simp [Fp, A5.fp] at hb; subst hb
  cases hg : G w.heap.size with
  | none => rfl
  | some l => exact absurd (hin.lt hg) zV
 ·intro b hb
  simp [Fp, A5.fp] at hb; subst hb
  exact .inl (Nat.le_refl _)

theorem St.step {a : Act} {w w' : World} {ins outs rest hp' : List A5} {G' : IM} (hs : St Γ ⟨env, hp, G⟩ a w) (p : hp.Perm (ins ++ rest)) (r : O5 ins G w outs G' w') (q : (outs ++ rest).Perm hp')
  {d : Option Nat} {v : Value} (hd : dok Γ.n d = true) : St Γ ⟨dpu d v env, hp', G'⟩ (a.put d v) w' :=
 hs.dput d v hd (((hs.res.perm p).frame r).perm q)

theorem A4N {d : Nat} {op : Op} {mk : Nat → Value} {cs : List Value} (hd : Nat.blt d Γ.n = true)
  (hrun : ∀ a w, St Γ ⟨env, hp, G⟩ a w → ∃ e, ∀ d pos af gd, (execOp a.eval ⟨d, op, ty, pos, af, gd⟩).run P w = .ok (.value (mk w.heap.size)) (w.alloc (.cells cs.toArray e))) :
  T1 P Γ ⟨env, hp, G⟩ (some d) op ty [] (fun σ' => ∃ b, σ' = ⟨(d, mk b) :: env, .blk b cs :: hp, G⟩) := by
 refine ⟨fun a w hs pos af gd Q next hn => ?_⟩
 obtain ⟨e, hr⟩ := hrun a w hs
 simp only [Oper.wp, hr, Oper.upon]
 have hr' := A6b w hs.res.own.inn cs e
 exact hn _ _ _ (hs.step (ins := []) (rest := hp) (List.Perm.refl _) hr' (List.Perm.refl _) (d := some d) hd) hr'.ext ⟨w.heap.size, rfl⟩

theorem D8 {d : Nat} {x : Operand} {t : TypeId} {vs : List Value} (hx : evo env x = some (.agg ⟨vs⟩)) (hd : Nat.blt d Γ.n = true) :
  T1 P Γ ⟨env, hp, G⟩ (some d) (.box t x) ty [] (fun σ' => ∃ b, σ' = ⟨(d, .pointer (some ⟨b, 0, none⟩)) :: env, .blk b vs :: hp, G⟩) :=
 A4N hd fun a w hs => ⟨t, fun _ _ _ _ => by simp [execOp, Instr.box, newVar, newRow, newObj, Sem.run, (hs.evo hx : a.eval x = _), Value.cells]⟩
theorem B0f {d : Nat} {x : Operand} {t : TypeId} {v : Value} (hx : evo env x = some v) (hv : v.cells = ⟨[v]⟩) (hd : Nat.blt d Γ.n = true) :
  T1 P Γ ⟨env, hp, G⟩ (some d) (.box t x) ty [] (fun σ' => ∃ b, σ' = ⟨(d, .pointer (some ⟨b, 0, none⟩)) :: env, .blk b [v] :: hp, G⟩) :=
 A4N hd fun a w hs => ⟨t, fun _ _ _ _ => by simp [execOp, Instr.box, newVar, newRow, newObj, Sem.run, (hs.evo hx : a.eval x = _), hv]⟩
theorem A4 {d : Nat} {t : TypeId} {sz by' : Nat} {zs : List Value} [hI : Q5 P t sz by' zs] (hd : Nat.blt d Γ.n = true) :
  T1 P Γ ⟨env, hp, G⟩ (some d) (.alloc t) ty [] (fun σ' => ∃ b, σ' = ⟨(d, .pointer (some ⟨b, 0, none⟩)) :: env, .blk b zs :: hp, G⟩) :=
 A4N hd fun a w hs => ⟨t, fun _ _ _ _ => by
  obtain ⟨_, hI⟩ := hI.ok
  obtain ⟨inf, g1, _, _, z, g4, g5⟩ := hI.info
  simp [execOp, Instr.alloc, zeroValue, typeInfo, g1, g4, newVar, newRow, newObj, Sem.run, g5]⟩

inductive Sw : List A5 → A5 → A5 → List A5 → Prop
 | here {e e' : A5} {r : List A5} : Sw (e :: r) e e' (e' :: r)
 | there {x e e' : A5} {r r' : List A5} : Sw r e e' r' → Sw (x :: r) e e' (x :: r')

theorem Sw.perm {hp hp' : List A5} {e e' : A5} (h : Sw hp e e' hp') : ∃ rest, hp.Perm ([e] ++ rest) ∧ ([e'] ++ rest).Perm hp' := by
 induction h with
 | @here e e' r => exact ⟨r, List.Perm.refl _, List.Perm.refl _⟩
 | @there x e e' r r' _ ih =>
  obtain ⟨rest, h1, h2⟩ := ih
  refine ⟨x :: rest, (h1.cons x).trans ?_, List.Perm.trans ?_ (h2.cons x)⟩
  ·exact List.Perm.swap _ _ _
  ·exact List.Perm.swap _ _ _
def Q2 : List Value → Nat → List Value → Option (List Value)
 | cs, 0, [] => some cs
 | [], 0, _ :: _ => none
 | _ :: cs, 0, v :: vs => match Q2 cs 0 vs with
  | some r => some (v :: r)
  | none => none
 | [], _ + 1, _ => none
 | c :: cs, o + 1, vs => match Q2 cs o vs with
  | some r => some (c :: r)
  | none => none
theorem A3w : ∀ {cs : List Value} {o : Nat} {vs cs' : List Value}, Q2 cs o vs = some cs' → cs' = cs.take o ++ vs ++ cs.drop (o + vs.length) ∧ o + vs.length ≤ cs.length
 | cs, 0, [], cs', h => by cases cs <;> (simp [Q2] at h; subst h; simp)
 | [], 0, v :: vs, cs', h => by simp [Q2] at h
 | c :: cs, 0, v :: vs, cs', h => by
  simp only [Q2] at h
  split at h
  ·rename_i r hr
   simp at h; subst h
   obtain ⟨h1, h2⟩ := A3w hr
   constructor
   ·simp [h1]
   ·simp at h2 ⊢; omega
  ·cases h
 | [], o + 1, vs, cs', h => by simp [Q2] at h
 | c :: cs, o + 1, vs, cs', h => by
  simp only [Q2] at h
  split at h
  ·rename_i r hr
   simp at h; subst h
   obtain ⟨h1, h2⟩ := A3w hr
   constructor
   ·rw [h1, show o + 1 + vs.length = (o + vs.length) + 1 by omega]; simp
   ·simp; omega
  ·cases h
theorem D7 {cs vs : List Value} (h : cs.length = vs.length) : Q2 cs 0 vs = some vs := by
 induction cs generalizing vs with
 | nil => cases vs with
  | nil => rfl
  | cons v vs => simp at h
 | cons c cs ih => cases vs with
  | nil => simp at h
  | cons v vs => simp only [Q2, ih (vs := vs) (by simpa using h)]

theorem B0g {w : World} {b o : Nat} {cs vs cs' : List Value} (hown : P9 [.blk b cs] G w) (hu : cs' = cs.take o ++ vs ++ cs.drop (o + vs.length)) :
  O5 [.blk b cs] G w [.blk b cs'] G (w.setRow b cs'.toArray) := by
 obtain ⟨e, hb⟩ := hown.ok _ List.mem_cons_self
 refine ⟨⟨?_, ?_, by simp [Fp, A5.fp], ?_⟩, ⟨rfl, rfl, rfl, by simp [World.setRow], fun k _ hk => setRow_other w b k _ (by rintro rfl; simp [Fp, A5.fp] at hk)⟩, D2.refl _, fun _ _ h => .inl h, ?_, fun b l h h0 => absurd h (by rw [h0]; simp)⟩
 ·intro k l hg
  obtain ⟨e', f', h'⟩ := hown.inn k l hg
  refine ⟨e', f', ?_⟩
  rw [setRow_other w b k _ ?_]
  ·exact h'
  ·rintro rfl
   have := hown.disj k (by simp [Fp, A5.fp])
   rw [this] at hg; cases hg
 ·intro x hx
  simp at hx; subst hx
  exact ⟨e, setRow_heap w b cs.toArray cs'.toArray e (0, 0) hb⟩
 ·intro k hk
  exact hown.disj k (by simpa [Fp, A5.fp] using hk)
 ·intro k hk
  exact .inr (by simpa [Fp, A5.fp] using hk)

theorem P9.of_mem {w : World} {e : A5} (h : P9 hp G w) {rest : List A5} (p : hp.Perm ([e] ++ rest)) : P9 [e] G w := (h.perm p).left

theorem A4O {d : Option Nat} {x y : Operand} {t : TypeId} {i : K4} [hI : H2 P t i] {b o : Nat} {v : Value} {vs cs cs' : List Value} {hp' : List A5}
  (hx : evo env x = some (.pointer (some ⟨b, o, none⟩))) (hy : evo env y = some v) (hv : v.cells = ⟨vs⟩) (hsz : vs.length = i.size) (h1 : vs.all (·.oneCell') = true)
  (hu : Q2 cs o vs = some cs') (hm : Sw hp (.blk b cs) (.blk b cs') hp') (hd : dok Γ.n d = true) :
  T1 P Γ ⟨env, hp, G⟩ d (.store t x y) ty [b] (fun σ' => σ' = ⟨dpu d undef env, hp', G⟩) := by
 refine ⟨fun a w hs pos af gd Q next hn => ?_⟩
 obtain ⟨rest, p1, p2⟩ := hm.perm
 have hown : P9 [.blk b cs] G w := hs.res.own.of_mem p1
 obtain ⟨e, hb⟩ := hown.ok _ List.mem_cons_self
 obtain ⟨u1, u2⟩ := A3w hu
 have hst := run_storeCells_at P b o e vs 0 cs.toArray w hb (by simpa using u2) (by simpa using h1)
 simp only [Nat.add_zero, ← u1] at hst
 obtain ⟨inf, g1, g2, _⟩ := hI.info
 have hrun : (execOp a.eval ⟨d, .store t x y, ty, pos, af, gd⟩).run P w = .ok .skip (w.setRow b cs'.toArray) := by
  simp [execOp, Instr.storeAt, Instr.sureAddr, (hs.evo hx : a.eval x = _), (hs.evo hy : a.eval y = _), storeVar, sizeOf, typeInfo, g1, g2, hv, hsz, hst]
 simp only [Oper.wp, hrun, Oper.upon]
 have hr' := B0g (o := o) hown u1
 exact hn _ _ _ (hs.step p1 hr' p2 hd) (by simpa [Fp, A5.fp] using hr'.ext) rfl

structure Fn (P : Program) (f : FuncId) (args : List Value) (ins : List A5) (G : IM) (post : IM → Value → List A5 → Prop) : Prop where
 run : ∀ w, P9 ins G w → Calls P f ⟨args⟩ w fun e w' => ∃ v G' outs, e = .returned v ∧ O5 ins G w outs G' w' ∧ post G' v outs

theorem Fn.mono {f : FuncId} {args : List Value} {ins : List A5} {post post' : IM → Value → List A5 → Prop} (h : Fn P f args ins G post) (hp : ∀ G' v outs, D2 G G' → post G' v outs → post' G' v outs) :
  Fn P f args ins G post' :=
 ⟨fun w hw => (h.run w hw).mono fun _ _ ⟨v, G', outs, h1, h2, h3⟩ => ⟨v, G', outs, h1, h2, hp _ _ _ h2.le h3⟩⟩

theorem A6c {f : FuncId} [hF : B9 P f] (args : Array Value) (w : World) : (callFunc f args).run P w = .ok (.enter f args) w := by
 obtain ⟨fn, h1, h2, h3⟩ := hF.ok
 simp only [callFunc, program, Sem.run_bind, Sem.run, Result.andThen_ok, h1, h2, h3, Bool.false_eq_true, if_false]
 rfl

theorem A4P {d : Nat} {op : Op} {f : FuncId} {vs : List Value} {ins rest : List A5} {post : IM → Value → List A5 → Prop}
  (he : ∀ a w, St Γ ⟨env, hp, G⟩ a w → ∀ d pos af gd, (execOp a.eval ⟨d, op, ty, pos, af, gd⟩).run P w = .ok (.enter f ⟨vs⟩) w)
  (h : Fn P f vs ins G post) (hp' : hp.Perm (ins ++ rest)) (hd : Nat.blt d Γ.n = true) :
  T1 P Γ ⟨env, hp, G⟩ (some d) op ty (Fp ins) (fun σ' => ∃ v G' outs, σ' = ⟨(d, v) :: env, outs ++ rest, G'⟩ ∧ D2 G G' ∧ post G' v outs) := by
 refine ⟨fun a w hs pos af gd Q next hn => ?_⟩
 simp only [Oper.wp, he a w hs, Oper.upon]
 refine (h.run w (hs.res.own.perm hp').left).mono ?_
 rintro e w' ⟨v, G', outs, rfl, h2, h3⟩
 exact hn _ _ _ (hs.step hp' h2 (List.Perm.refl _) (d := some d) hd) h2.ext ⟨v, G', outs, rfl, h2.le, h3⟩

theorem A6d {f : FuncId} [hF : B9 P f] {xs : List Operand} {ats : Array TypeId} {vs : List Value} {a : Act} {w w1 : World} (hs : St Γ ⟨env, hp, G⟩ a w1) (hx : evl env xs = some vs) (d : Option Tmp) (pos : String) (af : Array Edge) (gd : Option (Nat × Bool)) :
  (execOp a.eval ⟨d, .call ⟨.value (.func f), ⟨xs⟩, ats⟩, ty, pos, af, gd⟩).run P w = .ok (.enter f ⟨vs⟩) w := by
 have e2 := hs.evl hx
 simp [execOp, resolve, invoke, Deferred.ofValue, Act.eval, A6c]
 exact e2

theorem A2e {d : Nat} {f : FuncId} [hF : B9 P f] {xs : List Operand} {ats : Array TypeId} {vs : List Value} {post : IM → Value → List A5 → Prop}
  (hx : evl env xs = some vs) (h : Fn P f vs [] G post) (hd : Nat.blt d Γ.n = true) :
  T1 P Γ ⟨env, hp, G⟩ (some d) (.call ⟨.value (.func f), ⟨xs⟩, ats⟩) ty [] (fun σ' => ∃ v G' outs, σ' = ⟨(d, v) :: env, outs ++ hp, G'⟩ ∧ D2 G G' ∧ post G' v outs) :=
 A4P (fun _ _ hs _ _ _ _ => A6d hs hx _ _ _ _) h (List.Perm.refl _) hd
theorem A3x {d : Nat} {f : FuncId} [hF : B9 P f] {xs : List Operand} {ats : Array TypeId} {vs : List Value} {ins rest : List A5} {post : IM → Value → List A5 → Prop}
  (hx : evl env xs = some vs) (h : Fn P f vs ins G post) (hp' : hp.Perm (ins ++ rest)) (hd : Nat.blt d Γ.n = true) :
  T1 P Γ ⟨env, hp, G⟩ (some d) (.call ⟨.value (.func f), ⟨xs⟩, ats⟩) ty (Fp ins) (fun σ' => ∃ v G' outs, σ' = ⟨(d, v) :: env, outs ++ rest, G'⟩ ∧ D2 G G' ∧ post G' v outs) :=
 A4P (fun _ _ hs _ _ _ _ => A6d hs hx _ _ _ _) h hp' hd
theorem A6e {d : Nat} {f : FuncId} [hF : B9 P f] {g : Operand} {xs : List Operand} {ats : Array TypeId} {vs us cs : List Value} {ins rest : List A5} {post : IM → Value → List A5 → Prop}
  (hg : evo env g = some (.func (.func f) ⟨us⟩ ⟨cs⟩)) (hx : evl env xs = some vs) (h : Fn P f (us ++ vs ++ cs) ins G post) (hp' : hp.Perm (ins ++ rest)) (hd : Nat.blt d Γ.n = true) :
  T1 P Γ ⟨env, hp, G⟩ (some d) (.call ⟨.value g, ⟨xs⟩, ats⟩) ty (Fp ins) (fun σ' => ∃ v G' outs, σ' = ⟨(d, v) :: env, outs ++ rest, G'⟩ ∧ D2 G G' ∧ post G' v outs) :=
 A4P (fun a w hs _ _ _ _ => by
  have e1 : a.eval g = _ := hs.evo hg
  have e2 := hs.evl hx
  simp [execOp, resolve, invoke, Deferred.ofValue, e1, e2, A6c]) h hp' hd

def rdR (tmps : Array Value) : ResultVar → Sem Value
 | .tmp t => pure (tmps.getD t undef)
 | .cell x t => do loadVar t (← asAddr (tmps.getD x undef))
theorem B0h (fn : Func) (tmps : Array Value) : results fn tmps = (do let vs ← fn.results.mapM (rdR tmps); pure (if h : vs.size = 1 then vs[0] else .tuple vs)) := by
 unfold results
 congr 1
def V5 (P : Program) (Γ : K7) (σ : Sy) (r : ResultVar) (v : Value) : Prop := ∀ a w, St Γ σ a w →
 (rdR a.tmps r).run P w = .ok v w

theorem rT {t : Nat} {v : Value} (h : U7 env t = some v) : V5 P Γ ⟨env, hp, G⟩ (.tmp t) v :=
 fun a w hs => by simp only [rdR, Sem.run_pure]; rw [hs.env t v h]
theorem rC {x t b o : Nat} {v : Value} (hx : U7 env x = some (.pointer (some ⟨b, o, none⟩))) (h : A00 P Γ ⟨env, hp, G⟩ (.load t (.tmp x)) 0 b v) : V5 P Γ ⟨env, hp, G⟩ (.cell x t) v := by
 intro a w hs
 have h1 := (h.run a w hs).2 w rfl none "" #[] none
 have hx' := hs.env x _ hx
 have he : a.eval (.tmp x) = .pointer (some ⟨b, o, none⟩) := hx'
 simp only [execOp, Sem.run_bind, Instr.loadAt, he, Instr.sureAddr, Sem.run_pure, Result.andThen_ok] at h1
 simp only [rdR, hx', asAddr, Sem.run_bind, Sem.run_pure, Result.andThen_ok]
 cases hl : (loadVar t ⟨b, o, none⟩).run P w with
 | ok u w' => rw [hl] at h1; simp at h1; rw [h1.1, h1.2]
 | halt hh w' => rw [hl] at h1; simp at h1

inductive A05 (P : Program) (Γ : K7) (σ : Sy) : List ResultVar → List Value → Prop
 | nil : A05 P Γ σ [] []
 | cons {r : ResultVar} {v : Value} {rs : List ResultVar} {vs : List Value} : V5 P Γ σ r v → A05 P Γ σ rs vs → A05 P Γ σ (r :: rs) (v :: vs)

def A1I : List Value → Value
 | [v] => v
 | vs => .tuple ⟨vs⟩

theorem A4Q {α β : Type} (f : α → Sem β) (w : World) : ∀ (xs : List α) (ys : List β), xs.length = ys.length → (∀ (j : Nat) (x : α) (y : β), xs[j]? = some x → ys[j]? = some y → (f x).run P w = .ok y w) →
  (xs.mapM f).run P w = .ok ys w
 | [], [], _, _ => by simp
 | x :: xs, y :: ys, hl, h => by
  have h0 := h 0 x y rfl rfl
  have ih := A4Q f w xs ys (by simpa using hl) (fun j a b ha hb => h (j + 1) a b (by simpa using ha) (by simpa using hb))
  simp [List.mapM_cons, h0, ih]
 | [], _ :: _, hl, _ => by simp at hl
 | _ :: _, [], hl, _ => by simp at hl

theorem A05.run {σ : Sy} {rs : List ResultVar} {vs : List Value} (h : A05 P Γ σ rs vs) {a : Act} {w : World} (hs : St Γ σ a w) : rs.length = vs.length ∧ ∀ (j : Nat) (x : ResultVar) (y : Value), rs[j]? = some x → vs[j]? = some y →
  (rdR a.tmps x).run P w = .ok y w := by
 induction h with
 | nil => exact ⟨rfl, fun j x y hx => by simp at hx⟩
 | @cons r v rs vs hr _ ih =>
  refine ⟨by simp [ih.1], fun j x y hx hy => ?_⟩
  cases j with
  | zero => simp at hx hy; subst hx hy; exact hr a w hs
  | succ j => exact ih.2 j x y (by simpa using hx) (by simpa using hy)

structure A0i (P : Program) (Γ : K7) (rs : List ResultVar) (post : IM → Value → List A5 → Prop) (e : Exit) (σ : Sy) : Prop where
 run : match e with
  | .ret | .normal => ∃ vs, A05 P Γ σ rs vs ∧ ∃ outs r, σ.hp.Perm (outs ++ r) ∧ post σ.G (A1I vs) outs
  | _ => False

def A2f : Nat → List Value → L4
 | _, [] => []
 | k, v :: vs => (k, v) :: A2f (k + 1) vs

theorem A6f : ∀ (vs : List Value) (k t : Nat) (v : Value), U7 (A2f k vs) t = some v → k ≤ t ∧ vs[t - k]? = some v
 | [], k, t, v, h => by simp [A2f, U7] at h
 | u :: us, k, t, v, h => by
  simp only [A2f] at h
  rw [A4G] at h
  by_cases e : k = t
  ·subst e; simp at h; subst h; simp
  ·rw [if_neg e] at h
   obtain ⟨h1, h2⟩ := A6f us (k + 1) t v h
   refine ⟨by omega, ?_⟩
   rw [show t - k = (t - (k + 1)) + 1 by omega]
   simpa using h2

theorem D5 {f : FuncId} {fn : Func} {c : Code} {args : List Value} {ins : List A5} {post : IM → Value → List A5 → Prop} {n : Nat} {rs : List ResultVar}
  (hf : P.funcs[f]? = some fn) (hb : fn.body = some c) (hn : fn.ntmps = n) (hr : fn.results = ⟨rs⟩) (hle : Nat.ble args.length n = true)
  (h : ∀ w0, J7 P ⟨n, ins, G, w0⟩ c (A0i P ⟨n, ins, G, w0⟩ rs post) ⟨A2f 0 args, ins, G⟩) : Fn P f args ins G post := by
 refine ⟨fun w hw => ?_⟩
 have hle' : args.length ≤ n := by simpa using hle
 refine calls_of_wp hf hb ?_
 let a : Act := { tmps := (⟨args⟩ : Array Value) ++ Array.replicate (fn.ntmps - (⟨args⟩ : Array Value).size) undef, defers := [] }
 have hs : St ⟨n, ins, G, w⟩ ⟨A2f 0 args, ins, G⟩ a w := by
  refine ⟨?_, rfl, ?_, O5.refl hw⟩
  ·simp [a, hn]; omega
  ·intro t v ht
   obtain ⟨_, h2⟩ := A6f args 0 t v ht
   simp only [Nat.sub_zero] at h2
   have hlt : t < args.length := (List.getElem?_eq_some_iff.1 h2).1
   simp [a, Array.getD_eq_getD_getElem?, Array.getElem?_append, hlt]
   simp [List.getElem?_eq_getElem hlt] at h2
   exact h2
 refine wp_mono ((h w).run a w hs) ?_
 rintro e a' w' ⟨σ, hs', ⟨hk⟩⟩
 have fin : (∃ vs, A05 P ⟨n, ins, G, w⟩ σ rs vs ∧ ∃ outs r, σ.hp.Perm (outs ++ r) ∧ post σ.G (A1I vs) outs) → a'.defers = [] ∧ ∃ v, (results fn a'.tmps).run P w' = .ok v w' ∧
   ∃ v_1 G' outs, Ending.returned v = Ending.returned v_1 ∧ O5 ins G w outs G' w' ∧ post G' v_1 outs := by
  rintro ⟨vs, hra, outs, r, hp', hpost⟩
  refine ⟨hs'.nod, A1I vs, ?_, A1I vs, σ.G, outs, rfl, (hs'.res.perm hp').left, hpost⟩
  obtain ⟨hl, hrun⟩ := hra.run hs'
  have hm : (fn.results.mapM (rdR a'.tmps)).run P w' = .ok ⟨vs⟩ w' := by
   rw [hr, Array.mapM_eq_mapM_toList]
   simp only [Sem.run_map]
   rw [A4Q _ w' rs vs hl hrun]
   rfl
  rw [B0h]
  simp only [Sem.run_bind]
  rw [hm]
  simp only [Result.andThen_ok, Sem.run_pure]
  congr 1
  unfold A1I
  split
  ·rename_i hsz
   match vs, hsz with
   | [v], _ => rfl
  ·rename_i hsz
   split
   ·exact absurd rfl hsz
   ·rfl
 cases e <;> first | exact fin hk | exact hk.elim


theorem nS {y : Code} {K : Po} {σ : Sy} (h : J7 P Γ y K σ) : A0J P Γ y K .normal σ := ⟨h⟩
theorem rS {y : Code} {K : Po} {σ : Sy} (h : K .ret σ) : A0J P Γ y K .ret σ := ⟨h⟩
theorem B0i {y : Code} {K : Po} {σ : Sy} {i : Nat} (h : K (.exit i) σ) : A0J P Γ y K (.exit i) σ := ⟨h⟩
theorem B0j {i : Nat} {K : Po} {σ : Sy} (h : K .normal σ) : A0Y i K .normal σ := ⟨h⟩
theorem rB {i : Nat} {K : Po} {σ : Sy} (h : K .ret σ) : A0Y i K .ret σ := ⟨h⟩
theorem B0k {i : Nat} {K : Po} {σ : Sy} (h : K .normal σ) : A0Y i K (.exit i) σ := ⟨by simp [h]⟩
theorem A6g {rs : List ResultVar} {post : IM → Value → List A5 → Prop} {σ : Sy} {vs : List Value} (h : A05 P Γ σ rs vs) {outs : List A5} (hp : ∃ r, σ.hp.Perm (outs ++ r)) (hk : post σ.G (A1I vs) outs) :
  A0i P Γ rs post .ret σ := ⟨vs, h, outs, hp.choose, hp.choose_spec, hk⟩
theorem A3y {rs : List ResultVar} {post : IM → Value → List A5 → Prop} {σ : Sy} {vs : List Value} (h : A05 P Γ σ rs vs) (hk : post σ.G (A1I vs) []) :
  A0i P Γ rs post .ret σ := ⟨vs, h, [], σ.hp, List.Perm.refl _, hk⟩

theorem B0l {y : Code} {K : Po} (h : X8 K) : X8 (A0J P Γ y K) := fun c σ hk => h c σ hk.run
theorem B0m {i : Nat} {K : Po} (h : X8 K) : X8 (A0Y i K) := fun c σ hk => h c σ hk.run
theorem B0n {rs : List ResultVar} {post : IM → Value → List A5 → Prop} : X8 (A0i P Γ rs post) := fun _ _ h => h.run
class NpC (K : Po) : Prop where
 h : X8 K
theorem C1 {K : Po} [h : NpC K] : X8 K := h.h
instance npC1 {rs : List ResultVar} {post : IM → Value → List A5 → Prop} : NpC (A0i P Γ rs post) := ⟨B0n⟩
instance npC2 {y : Code} {K : Po} [h : NpC K] : NpC (A0J P Γ y K) := ⟨B0l h.h⟩
instance npC3 {i : Nat} {K : Po} [h : NpC K] : NpC (A0Y i K) := ⟨B0m h.h⟩
instance npC4 {ι : Type} {S : ι → Sy} {φ : ι → Prop} {μ : ι → Nat} {i : ι} {K : Po} [h : NpC K] : NpC (A0Z K S φ μ i) := ⟨A92 h.h⟩
section shortAny
variable {P : Program} {Γ : K7} {K : Po} {ops : Array Oper} {H : List (Nat × Nat)} {env : L4} {hp : List A5} {G : IM} {fuel : Nat} {listed l' : List Bool}
variable {op : Op} {ty : TypeId} {pos : String} {af : Array Edge} {gd : Option (Nat × Bool)}
class A0w (l : List Bool) (j : Nat) (l2 : outParam (List Bool)) : Prop where
 h : l.set j true = l2
instance setT0 {b : Bool} {l : List Bool} : A0w (b :: l) 0 (true :: l) := ⟨rfl⟩
instance setTs {b : Bool} {l l2 : List Bool} {n : Nat} [h : A0w l n l2] : A0w (b :: l) (n + 1) (b :: l2) := ⟨congrArg (b :: ·) h.h⟩
instance setTt {l l1 l2 : List Bool} {i j : Nat} [h : A0w l i l1] [h2 : A0w l1 j l2] : A0w (l.set i true) j l2 := ⟨by rw [h.h, h2.h]⟩
theorem aP (i : Nat) {d : Nat} {v : Value} [hl : A0w listed i l'] (hi : ops[i]? = some ⟨some d, op, ty, pos, af, gd⟩)
 (h : I8 P Γ ⟨env, hp, G⟩ op ty v) (hw : (K2 ops env gd, Nat.blt d Γ.n) = (some true, true))
 (k : L9 P Γ ops K H fuel l' ⟨(d, v) :: env, hp, G⟩) (hq : A01 ops listed i = true := by kernel_rfl) [hK : NpC K] : L9 P Γ ops K H (fuel + 1) listed ⟨env, hp, G⟩ :=
 E9 hi hK.h h (congrArg Prod.fst hw) hq (congrArg Prod.snd hw) hl.h k
theorem aL (i : Nat) {d b : Nat} {v : Value} [hl : A0w listed i l'] (hi : ops[i]? = some ⟨some d, op, ty, pos, af, gd⟩)
 (h : A00 P Γ ⟨env, hp, G⟩ op ty b v) (hw : (K2 ops env gd, Nat.blt d Γ.n) = (some true, true))
 (k : L9 P Γ ops K ((i, b) :: H) fuel l' ⟨(d, v) :: env, hp, G⟩) (hq : A01 ops listed i = true := by kernel_rfl) [hK : NpC K] : L9 P Γ ops K H (fuel + 1) listed ⟨env, hp, G⟩ :=
 K3 hi hK.h h (congrArg Prod.fst hw) hq (congrArg Prod.snd hw) hl.h k
theorem C4 (i : Nat) {d : Nat} [hl : A0w listed i l'] (hi : ops[i]? = some ⟨some d, op, ty, pos, af, gd⟩) (hw : K2 ops env gd = some false) (hd : Nat.blt d Γ.n = true)
 (k : L9 P Γ ops K H fuel l' ⟨(d, undef) :: env, hp, G⟩) (hq : A01 ops listed i = true := by kernel_rfl) [hK : NpC K] : L9 P Γ ops K H (fuel + 1) listed ⟨env, hp, G⟩ :=
 aK hi hK.h hw hq hd hl.h k
theorem A0 (j : Nat) {σ : Sy} (h : Q9 P Γ ops K H fuel listed j σ) (hr : Region.ready .any ops listed.toArray = [j] := by kernel_rfl) : L9 P Γ ops K H (fuel + 1) listed σ := aO hr h
theorem aD' {σ : Sy} (h : K .normal σ) (hr : Region.ready .any ops listed.toArray = [] := by kernel_rfl) : L9 P Γ ops K H fuel listed σ := aD hr h
end shortAny


theorem U8 {K : Po} {ops : Array Oper} {rest : List Oper} {pos : String} {af : Array Edge} {gd : Option (Nat × Bool)} {x y : Operand} {t : TypeId} {i : K4} [hI : H2 P t i] {b o : Nat} {v : Value} {vs cs cs' : List Value} {hp' : List A5}
  (hx : evo env x = some (.pointer (some ⟨b, o, none⟩))) (hy : evo env y = some v) (hv : v.cells = ⟨vs⟩) (hsz : vs.length = i.size) (h1 : vs.all (·.oneCell') = true)
  (hw : K2 ops env gd = some true) (hm : Sw hp (.blk b cs) (.blk b cs') hp') (hu : Q2 cs o vs = some cs')
  (k : H6 P Γ ops rest K ⟨env, hp', G⟩) : H6 P Γ ops (⟨none, .store t x y, ty, pos, af, gd⟩ :: rest) K ⟨env, hp, G⟩ :=
 F0 (A4O hx hy hv hsz h1 hu hm rfl) hw (by rintro _ rfl; exact k)

theorem sS {K : Po} {ops : Array Oper} {rest : List Oper} {pos : String} {af : Array Edge} {gd : Option (Nat × Bool)} {x y : Operand} {t : TypeId} {i : K4} [hI : H2 P t i] {b o : Nat} {v : Value} {vs cs cs' : List Value} {hp' : List A5}
 (hx : evo env x = some (.pointer (some ⟨b, o, none⟩))) (hy : evo env y = some v) (hv : v.cells = ⟨vs⟩) (hsz : vs.length = i.size) (h1 : vs.all (·.oneCell') = true)
 (hw : K2 ops env gd = some true)
 (k : H6 P Γ ops rest K ⟨env, hp', G⟩) (hm : Sw hp (.blk b cs) (.blk b cs') hp' := by repeat first | exact Sw.here | apply Sw.there) (hu : Q2 cs o vs = some cs' := by rfl) : H6 P Γ ops (⟨none, .store t x y, ty, pos, af, gd⟩ :: rest) K ⟨env, hp, G⟩ :=
 U8 hx hy hv hsz h1 hw hm hu k
theorem sS' {K : Po} {ops : Array Oper} {rest : List Oper} {pos : String} {af : Array Edge} {gd : Option (Nat × Bool)} {x y : Operand} {t : TypeId} {i : K4} [hI : H2 P t i] {b o : Nat} {v : Value} {vs cs cs' : List Value} {hp' : List A5}
 (k : H6 P Γ ops rest K ⟨env, hp', G⟩) (hx : evo env x = some (.pointer (some ⟨b, o, none⟩)) := by rfl) (hy : evo env y = some v := by rfl) (hv : v.cells = ⟨vs⟩ := by rfl) (hsz : vs.length = i.size := by rfl) (h1 : vs.all (·.oneCell') = true := by rfl)
 (hw : K2 ops env gd = some true := by rfl) (hm : Sw hp (.blk b cs) (.blk b cs') hp' := by repeat first | exact Sw.here | apply Sw.there) (hu : Q2 cs o vs = some cs' := by rfl) : H6 P Γ ops (⟨none, .store t x y, ty, pos, af, gd⟩ :: rest) K ⟨env, hp, G⟩ :=
 U8 hx hy hv hsz h1 hw hm hu k
def B0o : List Bool → Nat → Option Nat
 | [], _ => none
 | false :: _, i => some i
 | true :: r, i => B0o r (i + 1)

section eqs
variable {x y : Operand} {t t' : TypeId} {k : IntKind} {m n : Int}
theorem I1 (hx : evo env x = some (.int k m)) (hy : evo env y = some (.int k n)) (h : m = n) : I8 P Γ ⟨env, hp, G⟩ (.binOp .eql t x y t') ty (.bool true) := by
 have := qE (P := P) (Γ := Γ) (hp := hp) (G := G) (ty := ty) (t := t) (t' := t') hx hy; rwa [decide_eq_true h] at this
theorem E1 (hx : evo env x = some (.int k m)) (hy : evo env y = some (.int k n)) (h : ¬ m = n) : I8 P Γ ⟨env, hp, G⟩ (.binOp .eql t x y t') ty (.bool false) := by
 have := qE (P := P) (Γ := Γ) (hp := hp) (G := G) (ty := ty) (t := t) (t' := t') hx hy; rwa [decide_eq_false h] at this
theorem A2N (hx : evo env x = some (.int k m)) (hy : evo env y = some (.int k n)) (h : m ≠ n) : I8 P Γ ⟨env, hp, G⟩ (.binOp .neq t x y t') ty (.bool true) := by
 have := O6 (P := P) (Γ := Γ) (hp := hp) (G := G) (ty := ty) (t := t) (t' := t') hx hy; rwa [decide_eq_true h] at this
theorem Y9 (hx : evo env x = some (.int k m)) (hy : evo env y = some (.int k n)) (h : m = n) : I8 P Γ ⟨env, hp, G⟩ (.binOp .neq t x y t') ty (.bool false) := by
 have := O6 (P := P) (Γ := Γ) (hp := hp) (G := G) (ty := ty) (t := t) (t' := t') hx hy; rwa [decide_eq_false (by simpa using h)] at this
theorem A1J (hx : evo env x = some (.int k m)) (hy : evo env y = some (.int k n)) (h : m < n) : I8 P Γ ⟨env, hp, G⟩ (.binOp .lss t x y t') ty (.bool true) := by
 have := I3 (P := P) (Γ := Γ) (hp := hp) (G := G) (ty := ty) (t := t) (t' := t') hx hy; rwa [decide_eq_true h] at this
theorem A0j (hx : evo env x = some (.int k m)) (hy : evo env y = some (.int k n)) (h : ¬ m < n) : I8 P Γ ⟨env, hp, G⟩ (.binOp .lss t x y t') ty (.bool false) := by
 have := I3 (P := P) (Γ := Γ) (hp := hp) (G := G) (ty := ty) (t := t) (t' := t') hx hy; rwa [decide_eq_false h] at this
theorem B0p (hx : evo env x = some (.int k m)) (hy : evo env y = some (.int k n)) (h : m ≤ n) : I8 P Γ ⟨env, hp, G⟩ (.binOp .leq t x y t') ty (.bool true) := by
 have := W8 (P := P) (Γ := Γ) (hp := hp) (G := G) (ty := ty) (t := t) (t' := t') hx hy; rwa [decide_eq_true h] at this
theorem A6h (hx : evo env x = some (.int k m)) (hy : evo env y = some (.int k n)) (h : n < m) : I8 P Γ ⟨env, hp, G⟩ (.binOp .gtr t x y t') ty (.bool true) := by
 have := A0h (P := P) (Γ := Γ) (hp := hp) (G := G) (ty := ty) (t := t) (t' := t') hx hy; rwa [decide_eq_true h] at this
end eqs

end steps

class A06 (P : Program) (t : TypeId) (pl : outParam (List (Nat × Nat))) : Prop where
 ok : ∃ fs : List Field, P.underlying t = some (.struct ⟨fs⟩) ∧ ∀ w, ((⟨fs⟩ : Array Field).mapM fun (f : Field) => (do pure (f.offset, ← sizeOf f.type) : Sem (Nat × Nat))).run P w = .ok ⟨pl⟩ w

theorem A1K {P : Program} {t : TypeId} {pl : List (Nat × Nat)} {fs : List Field} (h : P.underlying t = some (.struct ⟨fs⟩)) (hp : (fs.map fun f => (f.offset, P.cellsOf f.type)) = pl)
  (he : (fs.all fun f => (P.info? f.type).isSome) = true) : A06 P t pl := by
 refine ⟨fs, h, fun w => ?_⟩
 rw [Array.mapM_eq_mapM_toList]
 simp only [Sem.run_map]
 rw [A4Q _ w fs pl (by simp [← hp])]
 ·rfl
 ·intro j x y hx hy
  subst hp
  simp [List.getElem?_map, hx] at hy
  subst hy
  have hm : x ∈ fs := List.mem_of_getElem? hx
  have := List.all_eq_true.1 he x hm
  cases hi : P.info? x.type with
  | none => simp [hi] at this
  | some i => simp [sizeOf, typeInfo, hi, Program.cellsOf]

def A1L (pl : Nat → Option (Nat × Nat)) : List Value → List (Nat × Value) → Option (List Value)
 | cs, [] => some cs
 | cs, (i, v) :: r => match pl i with
  | none => none
  | some (off, sz) => match Nat.beq v.cells.toList.length sz with
   | false => none
   | true => match Q2 cs off v.cells.toList with
    | none => none
    | some cs' => A1L pl cs' r

def cpy : List Value → Option (List Value)
 | [] => some []
 | c :: cs => match cpy cs with
  | some r => some (c :: r)
  | none => none
theorem A6i : ∀ cs, cpy cs = some cs
 | [] => rfl
 | c :: cs => by simp only [cpy, A6i cs]
def A4R (pl : Nat → Option (Nat × Nat)) (cs : List Value) (ps : List (Nat × Value)) : Option (List Value) := match A1L pl cs ps with
 | some r => cpy r
 | none => none
theorem B0q {pl : Nat → Option (Nat × Nat)} {cs cs' : List Value} {ps : List (Nat × Value)} (h : A4R pl cs ps = some cs') : A1L pl cs ps = some cs' := by
 unfold A4R at h
 split at h
 ·rename_i r hr; rw [A6i] at h; rw [hr]; exact h
 ·cases h

theorem A6j : ∀ (vs : List Value) (k off : Nat) (cs : List Value), off + k + vs.length ≤ cs.length →
  ((vs.zipIdx k).foldl (fun (a : Array Value) (p : Value × Nat) => a.setIfInBounds (off + p.2) p.1) ⟨cs⟩).toList = cs.take (off + k) ++ vs ++ cs.drop (off + k + vs.length)
 | [], k, off, cs, _ => by simp
 | v :: vs, k, off, cs, h => by
  simp only [List.zipIdx_cons, List.foldl_cons]
  have h1 : ((⟨cs⟩ : Array Value).setIfInBounds (off + k) v) = ⟨cs.set (off + k) v⟩ := by simp
  simp only [List.length_cons] at h
  rw [h1, A6j vs (k + 1) off (cs.set (off + k) v) (by simp; omega)]
  apply List.ext_getElem?
  intro i
  simp only [List.getElem?_append, List.length_append, List.length_take, List.length_set, List.length_cons, List.getElem?_drop, List.getElem?_take, List.getElem?_set]
  have e1 : min (off + (k + 1)) cs.length = off + k + 1 := by omega
  have e2 : min (off + k) cs.length = off + k := by omega
  rw [e1, e2]
  by_cases c1 : i < off + k
  ·rw [if_pos zV, if_pos zV, if_pos zV, if_neg zV, if_pos zV, if_pos zV, if_pos zV]
  ·by_cases c2 : i = off + k
   ·subst c2
    rw [if_pos zV, if_pos zV, if_pos zV, if_pos rfl, if_pos zV, if_pos zV, if_neg zV]
    simp
   ·by_cases c3 : i < off + k + 1 + vs.length
    ·rw [if_pos zV, if_neg zV, if_pos zV, if_neg zV, show i - (off + k) = (i - (off + k + 1)) + 1 by omega]
     simp
    ·rw [if_neg zV, if_neg zV, if_neg zV, show off + (k + 1) + vs.length + (i - (off + k + 1 + vs.length)) = off + k + (vs.length + 1) + (i - (off + k + (vs.length + 1))) by omega]

theorem A3z {pl : Nat → Option (Nat × Nat)} : ∀ {parts : List (Nat × Value)} {cs cs' : List Value}, A1L pl cs parts = some cs' → Instr.fill pl ⟨cs⟩ parts = some ⟨cs'⟩ ∧ cs'.length = cs.length
 | [], cs, cs', h => by cases cs <;> (simp [A1L] at h; subst h; exact ⟨rfl, rfl⟩)
 | (i, v) :: r, cs, cs', h => by
  simp only [A1L] at h
  split at h
  ·cases h
  ·rename_i off sz h1
   split at h
   ·cases h
   ·rename_i h2
    split at h
    ·cases h
    ·rename_i cs1 hu
     obtain ⟨u1, u2⟩ := A3w hu
     obtain ⟨ih1, ih2⟩ := A3z h
     have hl := A6j v.cells.toList 0 off cs (by simpa using u2)
     have e : v.cells.size = sz := by have := Nat.eq_of_beq_eq_true h2; simpa using this
     have hlen : cs1.length = cs.length := by rw [u1]; simp at u2 ⊢; omega
     refine ⟨?_, by rw [ih2, hlen]⟩
     simp only [Instr.fill, h1]
     have u2' : off + v.cells.size ≤ cs.length := by simpa using u2
     rw [if_neg (by simp [e]; omega)]
     rw [← ih1]
     congr 1
     apply Array.ext'
     simp only [Nat.add_zero] at hl
     rw [u1, ← hl]
     rw [← Array.foldl_toList]
     simp

theorem A2g {P : Program} {t : TypeId} {i : K4} [hI : H2 P t i] : ∃ inf z, (∀ w, (typeInfo t).run P w = .ok inf w) ∧ (∀ w, (zeroValue t).run P w = .ok z w) ∧ (∀ w, (sizeOf t).run P w = .ok i.size w) ∧ inf.bytes = i.bytes ∧ z.cells = ⟨i.zs⟩ ∧ P.info? t = some inf ∧ inf.zero = some z ∧ inf.size = i.size := by
 obtain ⟨inf, g1, g2, g3, z, g4, g5⟩ := hI.info
 refine ⟨inf, z, fun w => ?_, fun w => ?_, fun w => ?_, g3, g5, g1, g4, g2⟩
 ·simp [typeInfo, g1]
 ·simp [zeroValue, typeInfo, g1, g4]
 ·simp [sizeOf, typeInfo, g1, g2]

section mem
variable {P : Program} {Γ : K7} {env : L4} {hp : List A5} {G : IM} {ty : TypeId}

def evp (e : L4) : List (Nat × Operand) → Option (List (Nat × Value))
 | [] => some []
 | (i, x) :: r => match evo e x with
  | some v => match evp e r with
   | some vs => some ((i, v) :: vs)
   | none => none
  | none => none
theorem A4S {a : Act} {w : World} (hs : St Γ ⟨env, hp, G⟩ a w) : ∀ {xs : List (Nat × Operand)} {vs : List (Nat × Value)}, evp env xs = some vs → (xs.map fun (p : Nat × Operand) => (p.1, a.eval p.2)) = vs
 | [], vs, h => by simp [evp] at h; subst h; rfl
 | (i, x) :: r, vs, h => by
  simp only [evp] at h
  split at h
  ·rename_i v hv
   split at h
   ·rename_i us hu
    simp at h; subst h
    have e1 : a.eval x = v := hs.evo hv
    simp [e1, A4S hs hu]
   ·cases h
  ·cases h

theorem K8 {t : TypeId} {i : K4} [hI : H2 P t i] {pl : List (Nat × Nat)} [hP : A06 P t pl] {xs : List (Nat × Operand)} {vs : List (Nat × Value)} {cs : List Value}
  (hx : evp env xs = some vs) (hf : A1L (fun (j : Nat) => pl[j]?) i.zs vs = some cs) : I8 P Γ ⟨env, hp, G⟩ (.build t ⟨xs⟩) ty (.agg ⟨cs⟩) := by
 refine ⟨fun a _ hs _ _ _ _ w => ?_⟩
 obtain ⟨inf, z, h1, h2, h3, _, g5, _⟩ := A2g (P := P) (t := t)
 obtain ⟨fs, f1, f2⟩ := hP.ok
 have hv := A4S hs hx
 have hfr := (A3z hf).1
 simp only [execOp, Instr.build, Sem.run_bind, h2, Result.andThen_ok, Sem.run_pure, run_underlying f1, f2 w]
 have e : ((⟨xs⟩ : Array (Nat × Operand)).map fun x => match x with | (i, x) => (i, a.eval x)).toList = vs := by simpa using hv
 rw [e, g5]
 have e2 : (fun (x : Nat) => (⟨pl⟩ : Array (Nat × Nat))[x]?) = (fun (x : Nat) => pl[x]?) := by funext x; simp
 rw [e2, hfr]
 rfl

theorem B0r (w : World) (hin : A2J G w) (el sz n : Nat) (cs : List Value) (hl : cs.length = n * sz) (hm : n ≤ maxLen) :
  O5 [] G w [.slc (some ⟨w.heap.size, 0, none⟩) n el sz n cs] G (w.alloc (.cells cs.toArray el)) := by
 have h := A6b w hin cs el
 have hb : (w.alloc (.cells cs.toArray el)).heap[w.heap.size]? = some (.cells cs.toArray el (0, 0)) := heap_alloc_new w _
 refine ⟨⟨h.own.inn, ?_, by simp [Fp, A5.fp, I2], ?_⟩, h.ext, h.le, h.fresh, ?_, fun b l h h0 => absurd h (by rw [h0]; simp)⟩
 ·intro x hx
  simp at hx; subst hx
  refine ⟨hl, .inr ⟨w.heap.size, n, cs.toArray, rfl, Nat.zero_le _, hb, Nat.le_refl _, hm, by simpa using hl, ?_⟩⟩
  simp [← hl]
 ·intro b hb'; exact h.own.disj b (by simpa [Fp, A5.fp, I2] using hb')
 ·intro b hb'; exact h.ofresh b (by simpa [Fp, A5.fp, I2] using hb')

def T3 (n : Nat) (zs : List Value) : List Value := match n with | 0 => [] | n + 1 => zs ++ T3 n zs
theorem A2O (n : Nat) (zs : List Value) : (T3 n zs).length = n * zs.length := by
 induction n with
 | zero => simp [T3]
 | succ n ih => simp [T3, ih, Nat.succ_mul, Nat.add_comm]
theorem A6k (zs : List Value) : ∀ (n i : Nat), i < n * zs.length → (T3 n zs)[i]? = zs[i % zs.length]?
 | 0, i, h => by simp at h
 | n + 1, i, h => by
  simp only [T3, List.getElem?_append]
  split
  ·rename_i hi; rw [Nat.mod_eq_of_lt hi]
  ·rename_i hi
   rw [A6k zs n (i - zs.length) (by rw [Nat.succ_mul] at h; omega)]
   rw [Nat.mod_eq_sub_mod (a := i) zV]
theorem A6l (z : Array Value) (zs : List Value) (hz : z = ⟨zs⟩) (n : Nat) : ((Array.range (n * zs.length)).map (z[· % z.size]!)) = ⟨T3 n zs⟩ := by
 subst hz
 apply Array.ext'
 simp only [Array.toList_map, Array.toList_range]
 apply List.ext_getElem?
 intro i
 by_cases hi : i < n * zs.length
 ·rw [A6k zs n i hi]
  have hpos : 0 < zs.length := by
   rcases Nat.eq_zero_or_pos zs.length with h | h
   ·rw [h] at hi; simp at hi
   ·exact h
  have hlt := Nat.mod_lt i hpos
  simp [hi, getElem!_def, hlt]
 ·simp [hi]
  have hl := A2O n zs
  omega

theorem A3A (el : TypeId) (cs : List Value) (w : World) : (newRow el ⟨cs⟩).run P w = .ok ⟨w.heap.size, 0, none⟩ (w.alloc (.cells cs.toArray el)) := by
 simp [newRow, newObj, Sem.run]

theorem A6m {d : Nat} {op : Op} {el sz n : Nat} {cs : List Value} (hd : Nat.blt d Γ.n = true) (hl : cs.length = n * sz) (hm : n ≤ maxLen)
  (hrun : ∀ a w, St Γ ⟨env, hp, G⟩ a w → ∀ d pos af gd, (execOp a.eval ⟨d, op, ty, pos, af, gd⟩).run P w = .ok (.value (.slice (some ⟨w.heap.size, 0, none⟩) n n)) (w.alloc (.cells cs.toArray el))) :
  T1 P Γ ⟨env, hp, G⟩ (some d) op ty [] (fun σ' => ∃ b, σ' = ⟨(d, .slice (some ⟨b, 0, none⟩) n n) :: env, .slc (some ⟨b, 0, none⟩) n el sz n cs :: hp, G⟩) := by
 refine ⟨fun a w hs pos af gd Q next hn => ?_⟩
 simp only [Oper.wp, hrun a w hs, Oper.upon]
 have hr' := B0r w hs.res.own.inn el sz n cs hl hm
 exact hn _ _ _ (hs.step (ins := []) (rest := hp) (List.Perm.refl _) hr' (List.Perm.refl _) (d := some d) hd) hr'.ext ⟨w.heap.size, rfl⟩

theorem C0 {d : Nat} {t el : TypeId} {i : K4} {sz by' : Nat} {zs : List Value} [hI : H2 P t i] (hd' : i.desc = .slice el) [hE : Q5 P el sz by' zs] {n : Nat} {xs : List (Nat × Operand)} {vs : List (Nat × Value)} {cs : List Value}
  (hd : Nat.blt d Γ.n = true) (hx : evp env xs = some vs) (hn : n * sz ≤ 16777216) (hm : n ≤ maxLen)
  (hf : A4R (fun j => some (j * sz, sz)) (T3 n zs) vs = some cs) :
  T1 P Γ ⟨env, hp, G⟩ (some d) (.buildSlice t n ⟨xs⟩) ty [] (fun σ' => ∃ b, σ' = ⟨(d, .slice (some ⟨b, 0, none⟩) n n) :: env, .slc (some ⟨b, 0, none⟩) n el sz n cs :: hp, G⟩) := by
 have hz := hE.len
 obtain ⟨_, hE⟩ := hE.ok
 replace hf := B0q hf
 have hlen : cs.length = n * sz := by rw [(A3z hf).2, A2O, hz]
 refine A6m hd hlen hm fun a w hs d pos af gd => ?_
 obtain ⟨inf, z, h1, h2, h3, _, g5, _⟩ := A2g (P := P) (t := el)
 have hu := hI.und
 rw [hd'] at hu
 have hv := A4S hs hx
 have e : ((⟨xs⟩ : Array (Nat × Operand)).map fun x => match x with | (i, x) => (i, a.eval x)).toList = vs := by simpa using hv
 have hfr := (A3z hf).1
 simp only [execOp, Instr.buildSlice, Sem.run_bind, run_underlying hu, Result.andThen_ok, h3, Sem.run_pure]
 rw [if_neg zV]
 by_cases h0 : n * sz = 0
 ·have hz0 : T3 n zs = [] := List.eq_nil_of_length_eq_zero (by rw [A2O, hz, h0])
  rw [hz0] at hfr
  have er : ∀ f : Nat → Value, (Array.range 0).map f = (⟨[]⟩ : Array Value) := fun f => by simp
  simp only [h0, if_true, Sem.run_bind, Sem.run_pure, Result.andThen_ok, er]
  rw [e, hfr]
  simp only [Sem.run_bind, A3A, Result.andThen_ok, Sem.run_pure]
 ·have hc := A6l z.cells zs g5 n
  rw [hz] at hc
  simp only [h0, if_false, Sem.run_bind, Sem.run_pure, Result.andThen_ok, h2, hc]
  rw [e, hfr]
  simp only [Sem.run_bind, A3A, Result.andThen_ok, Sem.run_pure]

theorem B0s {d : Nat} {t el : TypeId} {i : K4} {sz by' : Nat} {zs : List Value} [hI : H2 P t i] (hd' : i.desc = .slice el) [hE : Q5 P el sz by' zs] {x : Operand} {n : Nat}
  (hd : Nat.blt d Γ.n = true) (hx : evo env x = some (.int .i64 (n : Int))) (hb : by' * n ≤ 281474976710656) (hm : n ≤ maxLen) :
  T1 P Γ ⟨env, hp, G⟩ (some d) (.makeSlice t x x) ty [] (fun σ' => ∃ b, σ' = ⟨(d, .slice (some ⟨b, 0, none⟩) n n) :: env, .slc (some ⟨b, 0, none⟩) n el sz n (T3 n zs) :: hp, G⟩) := by
 have hz := hE.len
 obtain ⟨_, hE⟩ := hE.ok
 refine A6m hd (by rw [A2O, hz]) hm fun a w hs d pos af gd => ?_
 obtain ⟨inf, z, h1, h2, h3, h4, g5, _⟩ := A2g (P := P) (t := el)
 have hu := hI.und
 rw [hd'] at hu
 have hm' := hm
 unfold maxLen at hm'
 have hw : IntKind.i64.wrap (n : Int) = n := A2M _ rfl zV zV
 have hbb : ¬ ((by' : Int) * n > 2 ^ 48) := by
  have : ((by' * n : Nat) : Int) ≤ ((281474976710656 : Nat) : Int) := Int.ofNat_le.2 hb
  rw [Int.natCast_mul] at this
  omega
 have hroom : (askRoom (n * by')).run P w = .ok () w := by
  unfold askRoom; split <;> rfl
 have hn0 : ¬ ((n : Int) < 0) := by omega
 have hnn : ¬ ((n : Int) > n) := by omega
 simp only [execOp, Instr.makeSlice, Sem.run_bind, run_underlying hu, Result.andThen_ok, (hs.evo hx : a.eval x = _), asInt, asIntOf, Sem.run_pure, h1, hw, h4, hn0, hnn, hbb, decide_false, Bool.or_false, Bool.false_eq_true, if_false, Int.toNat_natCast, hroom, h3]
 by_cases h0 : n * sz = 0
 ·have hz0 : T3 n zs = [] := List.eq_nil_of_length_eq_zero (by rw [A2O, hz, h0])
  have er : ∀ f : Nat → Value, (Array.range 0).map f = (⟨[]⟩ : Array Value) := fun f => by simp
  simp only [h0, if_true, Sem.run_bind, Sem.run_pure, Result.andThen_ok, er]
  rw [hz0]
  simp only [A3A, Result.andThen_ok]
 ·have hc := A6l z.cells zs g5 n
  rw [hz] at hc
  simp only [h0, if_false, Sem.run_bind, Sem.run_pure, Result.andThen_ok, h2, hc, A3A]

end mem

section rules2
variable {P : Program} {Γ : K7} {env : L4} {hp : List A5} {G : IM} {ty : TypeId} {K : Po} {ops : Array Oper} {rest : List Oper}
variable {pos : String} {af : Array Edge} {gd : Option (Nat × Bool)}

theorem B0t {w w' : World} {p p' : Option Addr} {c c' el sz n n' : Nat} {cs cs' : List Value} (hown : P9 [.slc p c el sz n cs] G w)
  (h' : w'.ownsRow 0 el sz (.slice p' n' c') n' cs') (hg : w.grownBy w' ((Value.slice p n c).ownBlock)) (hnew : ∀ g, p' = some g → (∃ q, p = some q ∧ q.block = g.block) ∨ w.heap.size ≤ g.block) :
  O5 [.slc p c el sz n cs] G w [.slc p' c' el sz n' cs'] G w' := by
 have hfp : ∀ b, b ∈ Fp [.slc p c el sz n cs] ↔ (Value.slice p n c).ownBlock = some b := by
  intro b
  cases p with
  | none => simp [Fp, A5.fp, I2, Value.ownBlock]
  | some q => simp [Fp, A5.fp, I2, Value.ownBlock, eq_comm]
 have hfp' : ∀ b, b ∈ Fp [.slc p' c' el sz n' cs'] ↔ ∃ g, p' = some g ∧ g.block = b := by
  intro b
  cases p' with
  | none => simp [Fp, A5.fp, I2]
  | some q => simp [Fp, A5.fp, I2, eq_comm]
 refine ⟨⟨?_, ?_, ?_, ?_⟩, ⟨hg.os, hg.tape, hg.output, hg.size, ?_⟩, D2.refl _, fun _ _ h => .inl h, ?_, fun b l h h0 => absurd h (by rw [h0]; simp)⟩
 ·intro b l hb
  obtain ⟨e, f, h⟩ := hown.inn b l hb
  refine ⟨e, f, ?_⟩
  rw [hg.block b (A0g h) ?_]
  ·exact h
  ·intro hb'
   have := hown.disj b ((hfp b).2 hb'.symm)
   rw [this] at hb; cases hb
 ·intro x hx
  simp at hx; subst hx; exact h'
 ·cases p' <;> simp [Fp, A5.fp, I2]
 ·intro b hb
  obtain ⟨g, hg1, hg2⟩ := (hfp' b).1 hb
  rcases hnew g hg1 with ⟨q, hq, hqb⟩ | hlt
  ·refine hown.disj b ((hfp b).2 ?_)
   subst hq
   simp [Value.ownBlock, hqb, hg2]
  ·cases hgb : G b with
   | none => rfl
   | some l => exact absurd (hown.inn.lt hgb) zV
 ·intro k hk hkn
  exact hg.block k hk (fun e => hkn ((hfp k).2 e.symm))
 ·intro b hb
  obtain ⟨g, hg1, hg2⟩ := (hfp' b).1 hb
  rcases hnew g hg1 with ⟨q, hq, hqb⟩ | hlt
  ·right
   refine (hfp b).2 ?_
   subst hq
   simp [Value.ownBlock, hqb, hg2]
  ·left; omega

theorem A4T {d : Nat} {x y : Operand} {t el : TypeId} {i : K4} {sz by' : Nat} {zs : List Value} [hI : H2 P t i] (hd' : i.desc = .slice el) [hE : Q5 P el sz by' zs] {p : Option Addr} {c n m b o c' : Nat} {cs news : List Value} {hp' : Option Addr → Nat → List A5}
  (hd : Nat.blt d Γ.n = true) (hx : evo env x = some (.slice p n c)) (hy : evo env y = some (.slice (some ⟨b, o, none⟩) m c')) (hsz : Nat.blt 0 sz = true)
  (hm : ∀ p' c', Sw hp (.slc p c el sz n cs) (.slc p' c' el sz (n + m) (cs ++ news)) (hp' p' c'))
  (hs' : At hp G b o news) (hl : news.length = m * sz) (h1 : ∀ u ∈ news, u.oneCell' = true)
  (h63 : n + m ≤ maxLen) (hb : (n + m) * by' ≤ 140737488355328) :
  T1 P Γ ⟨env, hp, G⟩ (some d) (.call ⟨.builtin .append, ⟨[x, y]⟩, ⟨[t, t]⟩⟩) ty (I2 p) (fun σ' => ∃ p' c', σ' = ⟨(d, .slice p' (n + m) c') :: env, hp' p' c', G⟩) := by
 refine ⟨fun a w hs pos af gd Q next hn => ?_⟩
 have hz := hE.len
 obtain ⟨_, hE⟩ := hE.ok
 obtain ⟨rest, q1, _⟩ := (hm none 0).perm
 have hown : P9 [.slc p c el sz n cs] G w := hs.res.own.of_mem q1
 obtain ⟨inf, z, t1, t2, t3, t4, t5, t6, t7, t8⟩ := A2g (P := P) (t := el)
 have hu := hI.und
 rw [hd'] at hu
 obtain ⟨full, e, f, hfb, hfv⟩ := hs'.read hs
 have hnews : ∀ j u, news[j]? = some u → w.cell? ((⟨b, o, none⟩ : Addr).add j) = some u := fun j u hj => by rw [A2c]; simp [World.cell?, hfb, hfv j u hj]
 have hsz' : 0 < sz := by simpa using hsz
 have hrow := hown.ok _ List.mem_cons_self
 obtain ⟨v', w', hrun, hown', hgrow, _⟩ := run_append_own (P := P) w 0 t ty el inf z sz by' hu t6 t7 t8 t4 (by rw [t5]; exact hz) hsz' (.slice p n c) n cs hrow ⟨b, o, none⟩ m c' news hl hnews h1 h63 hb (Nat.zero_le _)
 have hv' : ∃ p' c', v' = .slice p' (n + m) c' := by
  rcases hown'.2 with ⟨hv, hn0⟩ | ⟨g, cap, cur, hv, _⟩
  ·exact ⟨none, 0, by rw [hv, hn0]⟩
  ·exact ⟨_, _, hv⟩
 obtain ⟨p', c'', rfl⟩ := hv'
 have hexec : (execOp a.eval ⟨some d, .call ⟨.builtin .append, ⟨[x, y]⟩, ⟨[t, t]⟩⟩, ty, pos, af, gd⟩).run P w = .ok (.value (.slice p' (n + m) c'')) w' := by
  simp only [execOp, resolve, invoke, builtin, Sem.run_bind, Sem.run_pure, Result.andThen_ok]
  have e1 : (⟨[x, y]⟩ : Array Operand).map a.eval = #[.slice p n c, .slice (some ⟨b, o, none⟩) m c'] := by
   simp [(hs.evo hx : a.eval x = _), (hs.evo hy : a.eval y = _)]
  rw [e1]
  have : (Builtin.append_ ⟨[t, t]⟩ ty #[.slice p n c, .slice (some ⟨b, o, none⟩) m c']).run P w = .ok (.slice p' (n + m) c'') w' := hrun
  rw [this]; rfl
 simp only [Oper.wp, hexec, Oper.upon]
 have hnew : ∀ g, p' = some g → (∃ q, p = some q ∧ q.block = g.block) ∨ w.heap.size ≤ g.block := by
  intro g hg
  subst hg
  rcases hrow.2 with ⟨hv, hn0⟩ | ⟨g0, cap, cur, hv, _, hg0, hnc, hcm, hcs, htake⟩
  ·right
   cases hv
   obtain ⟨v2, w2, hrun2, hown2, _⟩ := run_append_own (P := P) w w.heap.size t ty el inf z sz by' hu t6 t7 t8 t4 (by rw [t5]; exact hz) hsz' (.slice none 0 0) 0 [] (World.ownsRow_nil w _ el _) ⟨b, o, none⟩ m c' news hl hnews h1 zV zV (Nat.le_refl _)
   rw [hrun] at hrun2
   cases hrun2
   rcases hown2.2 with ⟨hv2, _⟩ | ⟨g2, _, _, hv2, hb2, _⟩
   ·cases hv2
   ·cases hv2; exact hb2
  ·cases hv
   have hcl : cs.length = n * sz := hrow.1
   by_cases hroom : n + m ≤ c
   ·left
    have hfit : n * inf.size + news.length ≤ cur.size := by rw [t8, hl, hcs, ← Nat.add_mul]; exact Nat.mul_le_mul_right _ hroom
    have hr := run_append_room (P := P) w t ty el inf hu t6 g0 n c cur hg0 ⟨b, o, none⟩ m c' news (by rw [t8]; exact hl) hnews h1 hroom hfit
    rw [hrun] at hr
    cases hr
    exact ⟨_, rfl, rfl⟩
   ·right
    have holds : ∀ j u, cs[j]? = some u → w.cell? ((⟨g0, 0, none⟩ : Addr).add j) = some u := hrow.cells (g := g0) rfl
    have hm63 : n + m ≤ 9223372036854775807 := by unfold maxLen at h63; omega
    have hr := run_append_grow (P := P) w t ty el inf z hu t6 t7 ⟨g0, 0, none⟩ n c cs (by rw [t8]; exact hcl) holds ⟨b, o, none⟩ m c' news (by rw [t8]; exact hl) hnews zV zV (by rw [t4]; exact growslice_fits zV hb)
    rw [hrun] at hr
    cases hr
    exact Nat.le_refl _
 have hr := B0t hown hown' hgrow hnew
 obtain ⟨rest, q1, q2⟩ := (hm p' c'').perm
 exact hn _ _ _ (hs.step q1 hr q2 (d := some d) hd) (by
  have := hr.ext
  simpa [Fp, A5.fp] using this) ⟨p', c'', rfl⟩

theorem B0u {x y : Operand} {t el : TypeId} {i : K4} [hI : H2 P t i] (hd' : i.desc = .slice el) {ie : K4} [hE : H2 P el ie] {p q : Option Addr} {c n c' : Nat}
  (hx : evo env x = some (.slice p n c)) (hy : evo env y = some (.slice q 0 c')) (hc : n ≤ c) :
  I8 P Γ ⟨env, hp, G⟩ (.call ⟨.builtin .append, ⟨[x, y]⟩, ⟨[t, t]⟩⟩) ty (.slice p n c) := by
 refine ⟨fun a _ hs _ _ _ _ w => ?_⟩
 have hu := hI.und
 rw [hd'] at hu
 obtain ⟨inf, z, t1, t2, t3, t4, t5, t6, t7, t8⟩ := A2g (P := P) (t := el)
 simp only [execOp, resolve, invoke, builtin, Sem.run_bind, Sem.run_pure, Result.andThen_ok]
 have e1 : (⟨[x, y]⟩ : Array Operand).map a.eval = #[.slice p n c, .slice q 0 c'] := by
  simp [(hs.evo hx : a.eval x = _), (hs.evo hy : a.eval y = _)]
 rw [e1]
 have hf : (Builtin.firstCells ie.size 0 (.slice q 0 c')).run P w = .ok #[] w := by
  cases q <;> simp [Builtin.firstCells, loadCells, loadCellsFrom]
 have : (Builtin.append_ ⟨[t, t]⟩ ty #[.slice p n c, .slice q 0 c']).run P w = .ok (.slice p n c) w := by
  simp only [Builtin.append_, show (⟨[t, t]⟩ : Array TypeId)[0]? = some t from rfl, show (⟨[t, t]⟩ : Array TypeId)[1]? = some t from rfl, show (#[Value.slice p n c, Value.slice q 0 c'] : Array Value)[0]? = some (Value.slice p n c) from rfl, show (#[Value.slice p n c, Value.slice q 0 c'] : Array Value)[1]? = some (Value.slice q 0 c') from rfl,
   Sem.run_bind, run_underlying hu, Result.andThen_ok, t3, Sem.run_pure, Builtin.lenOf, Bool.not_false, if_true, Nat.add_zero, hc, hf, Bool.false_eq_true, if_false]
  cases p <;> simp [hf, storeCells]
 rw [this]; rfl

def Sl (G : IM) (p : Option Addr) (n c sz : Nat) (cs : List Value) : Prop :=
 cs.length = n * sz ∧ n ≤ c ∧ c ≤ maxLen ∧ (n = 0 ∨ ∃ b o full, p = some ⟨b, o, none⟩ ∧ G b = some full ∧ ∀ j v, cs[j]? = some v → full[o + j]? = some v)
theorem Sl.mono {G G' : IM} {p : Option Addr} {n c sz : Nat} {cs : List Value} (h : Sl G p n c sz cs) (hg : D2 G G') : Sl G' p n c sz cs := by
 obtain ⟨h1, h2, h3, h4⟩ := h
 refine ⟨h1, h2, h3, h4.imp id ?_⟩
 rintro ⟨b, o, full, e1, e2, e3⟩
 exact ⟨b, o, full, e1, hg b full e2, e3⟩
theorem Sl.nil (G : IM) (sz : Nat) : Sl G none 0 0 sz [] := ⟨by simp, Nat.le_refl _, Nat.zero_le _, .inl rfl⟩

theorem B0v {w : World} {p : Option Addr} {c el sz n : Nat} {cs : List Value} (hown : P9 [.slc p c el sz n cs] G w) :
  ∃ G', O5 [.slc p c el sz n cs] G w [] G' w ∧ Sl G' p n c sz cs ∧ ∀ b ∈ I2 p, G b = none ∧ G' b ≠ none := by
 obtain ⟨hl, h⟩ := hown.ok _ List.mem_cons_self
 rcases h with ⟨hv, hn⟩ | ⟨g, cap, cur, hv, _, hg, hnc, hcm, hcs, ht⟩
 ·cases hv
  exact ⟨G, ⟨⟨hown.inn, by simp, by simp [Fp], by simp [Fp]⟩, Y8.refl _ _, D2.refl _, fun _ _ h => .inl h, by simp [Fp], fun b l h h0 => absurd h (by rw [h0]; simp)⟩, ⟨hl, Nat.le_refl _, Nat.zero_le _, .inl rfl⟩, by simp [I2]⟩
 ·cases hv
  have hG : G g = none := hown.disj g (by simp [Fp, A5.fp, I2])
  refine ⟨fun b => if b = g then some cur.toList else G b, ⟨⟨?_, by simp, by simp [Fp], by simp [Fp]⟩, Y8.refl _ _, ?_, ?_, by simp [Fp], ?_⟩, ⟨hl, hnc, hcm, ?_⟩, by simp [I2, hG]⟩
  ·intro b l hb
   replace hb : (if b = g then some cur.toList else G b) = some l := hb
   split at hb
   ·rename_i he; subst he; simp at hb; subst hb; exact ⟨el, (0, 0), by simpa using hg⟩
   ·exact hown.inn b l hb
  ·intro b l hb
   show (if b = g then some cur.toList else G b) = some l
   rw [if_neg]
   ·exact hb
   ·rintro rfl; rw [hG] at hb; cases hb
  ·intro b l hb
   replace hb : (if b = g then some cur.toList else G b) = some l := hb
   split at hb
   ·rename_i he; subst he; exact .inr (.inr (by simp [Fp, A5.fp, I2]))
   ·exact .inl hb
  ·intro b l hb h0
   replace hb : (if b = g then some cur.toList else G b) = some l := hb
   split at hb
   ·rename_i he; subst he; simp at hb; subst hb; exact ⟨el, by simpa using hg⟩
   ·rw [h0] at hb; cases hb
  ·rcases Nat.eq_zero_or_pos n with h0 | h0
   ·exact .inl h0
   ·refine .inr ⟨g, 0, cur.toList, rfl, by simp, fun j v hj => ?_⟩
    rw [← ht, List.getElem?_take] at hj
    split at hj
    ·simpa using hj
    ·cases hj

theorem St.nil_slc {a : Act} {w : World} (hs : St Γ ⟨env, hp, G⟩ a w) (el sz : Nat) : St Γ ⟨env, .slc none 0 el sz 0 [] :: hp, G⟩ a w := by
 refine ⟨hs.size, hs.nod, hs.env, ⟨⟨hs.res.own.inn, ?_, ?_, ?_⟩, hs.res.ext, hs.res.le, hs.res.fresh, ?_, hs.res.fz⟩⟩
 ·intro e he
  rcases List.mem_cons.1 he with rfl | he
  ·exact World.ownsRow_nil w 0 el sz
  ·exact hs.res.own.ok e he
 ·simpa [Fp, A5.fp, I2] using hs.res.own.nodup
 ·intro b hb; exact hs.res.own.disj b (by simpa [Fp, A5.fp, I2] using hb)
 ·intro b hb; exact hs.res.ofresh b (by simpa [Fp, A5.fp, I2] using hb)
theorem S7 {cd : Code} (el sz : Nat) (h : J7 P Γ cd K ⟨env, .slc none 0 el sz 0 [] :: hp, G⟩) : J7 P Γ cd K ⟨env, hp, G⟩ := ⟨fun a w hs => h.run a w (hs.nil_slc el sz)⟩
inductive Pk : List A5 → A5 → List A5 → Prop
 | here {e : A5} {r : List A5} : Pk (e :: r) e r
 | there {x e : A5} {r r' : List A5} : Pk r e r' → Pk (x :: r) e (x :: r')
theorem Pk.perm {hp hp' : List A5} {e : A5} (h : Pk hp e hp') : hp.Perm ([e] ++ hp') := by
 induction h with
 | here => exact List.Perm.refl _
 | there _ ih => exact (ih.cons _).trans (List.Perm.swap _ _ _)

theorem St.freeze {a : Act} {w : World} {hp' : List A5} {p : Option Addr} {c el sz n : Nat} {cs : List Value} (hs : St Γ ⟨env, hp, G⟩ a w) (hk : Pk hp (.slc p c el sz n cs) hp') :
  ∃ G', St Γ ⟨env, hp', G'⟩ a w ∧ D2 G G' ∧ Sl G' p n c sz cs ∧ ∀ b ∈ I2 p, G b = none ∧ G' b ≠ none := by
 have hown : P9 [.slc p c el sz n cs] G w := hs.res.own.of_mem hk.perm
 obtain ⟨G', hr, hsl, hno⟩ := B0v hown
 exact ⟨G', ⟨hs.size, hs.nod, hs.env, by have := (hs.res.perm hk.perm).frame hr; simpa using this⟩, hr.le, hsl, hno⟩

theorem A2h {cd : Code} {hp' : List A5} {p : Option Addr} {c el sz n : Nat} {cs : List Value} (hk : Pk hp (.slc p c el sz n cs) hp')
  (h : ∀ G', D2 G G' → Sl G' p n c sz cs → (∀ b ∈ I2 p, G b = none ∧ G' b ≠ none) → J7 P Γ cd K ⟨env, hp', G'⟩) : J7 P Γ cd K ⟨env, hp, G⟩ :=
 ⟨fun a w hs => let ⟨G', h1, h2, h3, h4⟩ := hs.freeze hk; (h G' h2 h3 h4).run a w h1⟩
theorem E0 {hp' : List A5} {p : Option Addr} {c el sz n : Nat} {cs : List Value} (hk : Pk hp (.slc p c el sz n cs) hp')
  (h : ∀ G', D2 G G' → Sl G' p n c sz cs → (∀ b ∈ I2 p, G b = none ∧ G' b ≠ none) → J7 P Γ .ret K ⟨env, hp', G'⟩) : J7 P Γ .ret K ⟨env, hp, G⟩ := A2h hk h
theorem A4U {hp' : List A5} {p : Option Addr} {c el sz n : Nat} {cs : List Value} (hk : Pk hp (.slc p c el sz n cs) hp')
  (h : ∀ G', D2 G G' → Sl G' p n c sz cs → (∀ b ∈ I2 p, G b = none ∧ G' b ≠ none) → H6 P Γ ops rest K ⟨env, hp', G'⟩) : H6 P Γ ops rest K ⟨env, hp, G⟩ :=
 ⟨fun a w hs => let ⟨G', h1, h2, h3, h4⟩ := hs.freeze hk; (h G' h2 h3 h4).run a w h1⟩
theorem A6n {H : List (Nat × Nat)} {fuel : Nat} {listed : List Bool} {hp' : List A5} {p : Option Addr} {c el sz n : Nat} {cs : List Value} (hk : Pk hp (.slc p c el sz n cs) hp')
  (h : ∀ G', D2 G G' → Sl G' p n c sz cs → (∀ b ∈ I2 p, G b = none ∧ G' b ≠ none) → L9 P Γ ops K H fuel listed ⟨env, hp', G'⟩) : L9 P Γ ops K H fuel listed ⟨env, hp, G⟩ :=
 ⟨fun a w hs => let ⟨G', h1, h2, h3, h4⟩ := hs.freeze hk; (h G' h2 h3 h4).run a w h1⟩

def F8 (v0 : Value) (G : IM) : IM → Value → List A5 → Prop := fun G' v outs => G' = G ∧ v = v0 ∧ outs = []
def K9 (Φ : IM → Value → Prop) : IM → Value → List A5 → Prop := fun G' v outs => outs = [] ∧ Φ G' v

theorem E5 {d : Nat} {f : FuncId} [hF : B9 P f] {xs : List Operand} {ats : Array TypeId} {vs : List Value} {v0 : Value}
  (hx : evl env xs = some vs) (h : Fn P f vs [] G (F8 v0 G)) (hw : K2 ops env gd = some true) (hd : Nat.blt d Γ.n = true)
  (k : H6 P Γ ops rest K ⟨(d, v0) :: env, hp, G⟩) : H6 P Γ ops (⟨some d, .call ⟨.value (.func f), ⟨xs⟩, ats⟩, ty, pos, af, gd⟩ :: rest) K ⟨env, hp, G⟩ :=
 F0 (A2e hx h hd) hw (by rintro _ ⟨v, G', outs, rfl, _, rfl, rfl, rfl⟩; exact k)
theorem I5 {d : Nat} {f : FuncId} [hF : B9 P f] {xs : List Operand} {ats : Array TypeId} {vs : List Value} {b : Bool}
  (hx : evl env xs = some vs) (h : Fn P f vs [] G (F8 (.bool b) G)) (hw : K2 ops env gd = some true) (hd : Nat.blt d Γ.n = true)
  (kt : b = true → H6 P Γ ops rest K ⟨(d, .bool true) :: env, hp, G⟩) (kf : b = false → H6 P Γ ops rest K ⟨(d, .bool false) :: env, hp, G⟩) :
  H6 P Γ ops (⟨some d, .call ⟨.value (.func f), ⟨xs⟩, ats⟩, ty, pos, af, gd⟩ :: rest) K ⟨env, hp, G⟩ := by
 cases b
 ·exact E5 hx h hw hd (kf rfl)
 ·exact E5 hx h hw hd (kt rfl)
theorem E7 {d : Nat} {f : FuncId} [hF : B9 P f] {xs : List Operand} {ats : Array TypeId} {vs : List Value} {Φ : IM → Value → Prop}
  (hx : evl env xs = some vs) (h : Fn P f vs [] G (K9 Φ)) (hw : K2 ops env gd = some true) (hd : Nat.blt d Γ.n = true)
  (k : ∀ v G', D2 G G' → Φ G' v → H6 P Γ ops rest K ⟨(d, v) :: env, hp, G'⟩) : H6 P Γ ops (⟨some d, .call ⟨.value (.func f), ⟨xs⟩, ats⟩, ty, pos, af, gd⟩ :: rest) K ⟨env, hp, G⟩ :=
 F0 (A2e hx h hd) hw (by rintro _ ⟨v, G', outs, rfl, hle, rfl, hΦ⟩; exact k v G' hle hΦ)
theorem B0w {d : Nat} {f : FuncId} [hF : B9 P f] {xs : List Operand} {ats : Array TypeId} {vs : List Value} {post : IM → Value → List A5 → Prop}
  (hx : evl env xs = some vs) (h : Fn P f vs [] G post) (hw : K2 ops env gd = some true) (hd : Nat.blt d Γ.n = true)
  (k : ∀ v G' outs, D2 G G' → post G' v outs → H6 P Γ ops rest K ⟨(d, v) :: env, outs ++ hp, G'⟩) : H6 P Γ ops (⟨some d, .call ⟨.value (.func f), ⟨xs⟩, ats⟩, ty, pos, af, gd⟩ :: rest) K ⟨env, hp, G⟩ :=
 F0 (A2e hx h hd) hw (by rintro _ ⟨v, G', outs, rfl, hle, hp⟩; exact k v G' outs hle hp)
def S0 (v0 : Value) (ins : List A5) (G : IM) : IM → Value → List A5 → Prop := fun G' v outs => G' = G ∧ v = v0 ∧ outs = ins
theorem A6o {hp' : List A5} (p : hp.Perm hp') (k : H6 P Γ ops rest K ⟨env, hp', G⟩) : H6 P Γ ops rest K ⟨env, hp, G⟩ :=
 ⟨fun a w hs => k.run a w ⟨hs.size, hs.nod, hs.env, hs.res.perm p⟩⟩
theorem A2P {d : Nat} {f : FuncId} [hF : B9 P f] {xs : List Operand} {ats : Array TypeId} {vs : List Value} {v0 : Value} {ins rst : List A5}
  (hx : evl env xs = some vs) (h : Fn P f vs ins G (S0 v0 ins G)) (hp' : hp.Perm (ins ++ rst)) (hw : K2 ops env gd = some true) (hd : Nat.blt d Γ.n = true)
  (k : H6 P Γ ops rest K ⟨(d, v0) :: env, hp, G⟩) : H6 P Γ ops (⟨some d, .call ⟨.value (.func f), ⟨xs⟩, ats⟩, ty, pos, af, gd⟩ :: rest) K ⟨env, hp, G⟩ :=
 F0 (A3x hx h hp' hd) hw (by rintro _ ⟨v, G', outs, rfl, _, rfl, rfl, rfl⟩; exact A6o hp'.symm k)
theorem A6p {d : Nat} {f : FuncId} [hF : B9 P f] {g : Operand} {xs : List Operand} {ats : Array TypeId} {vs us cs : List Value} {v0 : Value} {ins rst : List A5}
  (hg : evo env g = some (.func (.func f) ⟨us⟩ ⟨cs⟩)) (hx : evl env xs = some vs) (h : Fn P f (us ++ vs ++ cs) ins G (S0 v0 ins G)) (hp' : hp.Perm (ins ++ rst)) (hw : K2 ops env gd = some true) (hd : Nat.blt d Γ.n = true)
  (k : H6 P Γ ops rest K ⟨(d, v0) :: env, hp, G⟩) : H6 P Γ ops (⟨some d, .call ⟨.value g, ⟨xs⟩, ats⟩, ty, pos, af, gd⟩ :: rest) K ⟨env, hp, G⟩ :=
 F0 (A6e hg hx h hp' hd) hw (by rintro _ ⟨v, G', outs, rfl, _, rfl, rfl, rfl⟩; exact A6o hp'.symm k)
theorem A2Q {d : Nat} {f : FuncId} [hF : B9 P f] {xs : List Operand} {ats : Array TypeId} {vs : List Value} {b : Bool} {ins rst : List A5}
  (hx : evl env xs = some vs) (h : Fn P f vs ins G (S0 (.bool b) ins G)) (hp' : hp.Perm (ins ++ rst)) (hw : K2 ops env gd = some true) (hd : Nat.blt d Γ.n = true)
  (kt : b = true → H6 P Γ ops rest K ⟨(d, .bool true) :: env, hp, G⟩) (kf : b = false → H6 P Γ ops rest K ⟨(d, .bool false) :: env, hp, G⟩) :
  H6 P Γ ops (⟨some d, .call ⟨.value (.func f), ⟨xs⟩, ats⟩, ty, pos, af, gd⟩ :: rest) K ⟨env, hp, G⟩ := by
 cases b
 ·exact A2P hx h hp' hw hd (kf rfl)
 ·exact A2P hx h hp' hw hd (kt rfl)
theorem A4V {d : Nat} {f : FuncId} [hF : B9 P f] {g : Operand} {xs : List Operand} {ats : Array TypeId} {vs us cs : List Value} {b : Bool} {ins rst : List A5}
  (hg : evo env g = some (.func (.func f) ⟨us⟩ ⟨cs⟩)) (hx : evl env xs = some vs) (h : Fn P f (us ++ vs ++ cs) ins G (S0 (.bool b) ins G)) (hp' : hp.Perm (ins ++ rst)) (hw : K2 ops env gd = some true) (hd : Nat.blt d Γ.n = true)
  (kt : b = true → H6 P Γ ops rest K ⟨(d, .bool true) :: env, hp, G⟩) (kf : b = false → H6 P Γ ops rest K ⟨(d, .bool false) :: env, hp, G⟩) :
  H6 P Γ ops (⟨some d, .call ⟨.value g, ⟨xs⟩, ats⟩, ty, pos, af, gd⟩ :: rest) K ⟨env, hp, G⟩ := by
 cases b
 ·exact A6p hg hx h hp' hw hd (kf rfl)
 ·exact A6p hg hx h hp' hw hd (kt rfl)

theorem A3B {d : Nat} {f : FuncId} [hF : B9 P f] {xs : List Operand} {ats : Array TypeId} {vs : List Value} {v0 : Value} {ins outs rst : List A5}
  (hx : evl env xs = some vs) (h : Fn P f vs ins G (S0 v0 outs G)) (hp' : hp.Perm (ins ++ rst)) (hw : K2 ops env gd = some true) (hd : Nat.blt d Γ.n = true)
  (k : H6 P Γ ops rest K ⟨(d, v0) :: env, outs ++ rst, G⟩) : H6 P Γ ops (⟨some d, .call ⟨.value (.func f), ⟨xs⟩, ats⟩, ty, pos, af, gd⟩ :: rest) K ⟨env, hp, G⟩ :=
 F0 (A3x hx h hp' hd) hw (by rintro _ ⟨v, G', outs, rfl, _, rfl, rfl, rfl⟩; exact k)
theorem B0x {d : Nat} {f : FuncId} [hF : B9 P f] {xs : List Operand} {ats : Array TypeId} {vs : List Value} {b : Bool} {ins outs rst : List A5}
  (hx : evl env xs = some vs) (h : Fn P f vs ins G (S0 (.bool b) outs G)) (hp' : hp.Perm (ins ++ rst)) (hw : K2 ops env gd = some true) (hd : Nat.blt d Γ.n = true)
  (kt : b = true → H6 P Γ ops rest K ⟨(d, .bool true) :: env, outs ++ rst, G⟩) (kf : b = false → H6 P Γ ops rest K ⟨(d, .bool false) :: env, outs ++ rst, G⟩) :
  H6 P Γ ops (⟨some d, .call ⟨.value (.func f), ⟨xs⟩, ats⟩, ty, pos, af, gd⟩ :: rest) K ⟨env, hp, G⟩ := by
 cases b
 ·exact A3B hx h hp' hw hd (kf rfl)
 ·exact A3B hx h hp' hw hd (kt rfl)
theorem B0y {a b : A5} {r : List A5} : (a :: b :: r).Perm (r ++ [a, b]) := List.perm_append_comm (l₁ := [a, b])
theorem A0k : hp.Perm (hp ++ []) := by simp
inductive L3 (e : L4) : L4 → Prop
 | nil : L3 e []
 | cons {t : Nat} {v : Value} {e' : L4} : U7 e t = some v → L3 e e' → L3 e ((t, v) :: e')
inductive D0 : List A5 → List A5 → Prop
 | nil {h : List A5} : D0 h []
 | refl {h : List A5} : D0 h h
 | cons {h h' r : List A5} {e : A5} : Pk h e r → D0 r h' → D0 h (e :: h')
 | drop {x : A5} {h h' : List A5} : D0 h h' → D0 (x :: h) h'
theorem L3.spec {e e' : L4} (h : L3 e e') : ∀ t v, U7 e' t = some v → U7 e t = some v := by
 induction h with
 | nil => intro t v h; simp [U7] at h
 | @cons t0 v0 e' h0 _ ih =>
  intro t v h
  rw [A4G] at h
  split at h
  ·rename_i he; subst he; simp at h; subst h; exact h0
  ·exact ih t v h
theorem D0.spec {h h' : List A5} (hs : D0 h h') : ∃ r, h.Perm (h' ++ r) := by
 induction hs with
 | @nil h => exact ⟨h, List.Perm.refl _⟩
 | @refl h => exact ⟨[], by simp⟩
 | @cons h h' r e hk _ ih =>
  obtain ⟨r', hr'⟩ := ih
  exact ⟨r', hk.perm.trans (by simpa using hr'.cons e)⟩
 | @drop x h h' _ ih =>
  obtain ⟨r', hr'⟩ := ih
  exact ⟨x :: r', (hr'.cons x).trans List.perm_middle.symm⟩
theorem J4 (es : List (List Value)) (a : List Value) : (es ++ [a]).flatten = es.flatten ++ a := by simp
theorem T4 {e' : L4} {hp' : List A5} (h : L3 env e') (h2 : D0 hp hp') : Sub ⟨env, hp, G⟩ ⟨e', hp', G⟩ := ⟨h.spec, h2.spec, rfl⟩

theorem E3 {e' : L4} {hp' : List A5} (h : L3 env e' := by repeat (first | exact L3.nil | refine L3.cons rfl ?_)) (h2 : D0 hp hp' := by repeat (first | exact D0.refl | exact D0.nil | refine D0.cons (by repeat (first | exact Pk.here | apply Pk.there)) ?_ | apply D0.drop)) : Sub ⟨env, hp, G⟩ ⟨e', hp', G⟩ := T4 h h2
theorem I7 {r : ResultVar} {post : IM → Value → List A5 → Prop} {v : Value} (h : V5 P Γ ⟨env, hp, G⟩ r v) (hk : post G v []) :
  A0i P Γ [r] post .ret ⟨env, hp, G⟩ := A3y (.cons h .nil) hk
theorem I0 {A B : Prop} (h : B) (f : B → A := by intro h; first | (show H6 _ _ _ [] _ _; exact sD h) | (show H6 _ _ _ (⟨_, .assign _, _, _, _, _⟩ :: _) _ _; first | exact sQ (qA rfl) rfl h | exact sK rfl rfl h) | (show H6 _ _ _ (⟨_, .move _, _, _, _, _⟩ :: _) _ _; first | exact sQ (qM rfl) rfl h | exact sK rfl rfl h) | (show H6 _ _ _ (⟨_, .fieldAddr _ _ _, _, _, _, _⟩ :: _) _ _; first | exact sQ (B0 rfl) rfl h | exact sQ (qF rfl) rfl h | exact sK rfl rfl h) | (show H6 _ _ _ (⟨_, .load _ _, _, _, _, _⟩ :: _) _ _; first | exact sL (B3 rfl rfl) rfl rfl h | exact sL (A1 rfl rfl) rfl rfl h | exact sK rfl rfl h) | (show H6 _ _ _ (⟨_, .store _ _ _, _, _, _, _⟩ :: _) _ _; refine sS' ?_; exact h) | (show H6 _ _ _ (⟨_, .pick _ _ _, _, _, _, _⟩ :: _) _ _; first | exact sQ (N7 rfl rfl) rfl h | exact sQ (M2 rfl rfl) rfl h | exact sK rfl rfl h) | (show H6 _ _ _ (⟨_, .extract _ _, _, _, _, _⟩ :: _) _ _; first | exact sQ (pX rfl rfl) rfl h | exact sK rfl rfl h) | (show H6 _ _ _ (⟨_, .build _ _, _, _, _, _⟩ :: _) _ _; first | exact sQ (K8 rfl rfl) rfl h | exact sK rfl rfl h) | (show H6 _ _ _ (⟨_, .unOp _ _ _, _, _, _, _⟩ :: _) _ _; first | exact sQ (Z6 rfl) rfl h | exact sQ (pNf rfl) rfl h | exact sK rfl rfl h) | (show H6 _ _ _ (⟨_, .call _, _, _, _, _⟩ :: _) _ _; first | exact sQ (pLn rfl rfl) rfl h | exact sK rfl rfl h) | (show H6 _ _ _ (_ :: _) _ _; exact sK rfl rfl h) | (show A0J _ _ _ _ .normal _; exact nS h) | (show J7 _ _ (.seq _ _) _ _; exact tS h) | (show J7 _ _ (.region _ _ _) _ _; exact tR h) | (show J7 _ _ (.cond _ _ _) _ _; first | exact qT rfl h | exact cF rfl h) | (show J7 _ _ .skip _ _; exact tK h) | (show J7 _ _ .ret _ _; exact tT h) | (show A0J _ _ _ _ .ret _; exact rS h) | (show A0Y _ _ .ret _; exact rB h) | (show A0Y _ _ .normal _; exact B0j h) | (show J7 _ _ (.exit _) _ _; exact A9T h) | (show A0J _ _ _ _ (.exit _) _; exact B0i h) | (show A0Z _ _ _ _ _ (.exit _) _; exact A9Z h) | (show A0Y _ _ (.exit _) _; exact B0k h) | (show A0Z _ _ _ _ _ .ret _; exact A9Y h) | (show A0i _ _ _ _ .ret _; exact I7 (rT rfl) h) | (show L9 _ _ _ _ _ _ _ _; exact aD' h)) : A := f h
theorem A3 {A B : Prop} (h : B) (f : B → A := by intro h; (iterate 2 (refine I0 ?_)); exact h) : A := f h
theorem B2 {A B : Prop} (h : B) (f : B → A := by intro h; (iterate 3 (refine I0 ?_)); exact h) : A := f h
theorem C3 {A B : Prop} (h : B) (f : B → A := by intro h; (iterate 4 (refine I0 ?_)); exact h) : A := f h
theorem A9 {A B : Prop} (h : B) (f : B → A := by intro h; (iterate 5 (refine I0 ?_)); exact h) : A := f h
theorem A7 {A B : Prop} (h : B) (f : B → A := by intro h; (iterate 6 (refine I0 ?_)); exact h) : A := f h
theorem A8 {A B : Prop} (h : B) (f : B → A := by intro h; (iterate 7 (refine I0 ?_)); exact h) : A := f h
theorem B4 {A B : Prop} (h : B) (f : B → A := by intro h; (iterate 8 (refine I0 ?_)); exact h) : A := f h
theorem C2 {A B : Prop} (h : B) (f : B → A := by intro h; (iterate 9 (refine I0 ?_)); exact h) : A := f h
theorem H3 {A B : Prop} (h : B) (f : B → A := by intro h; (iterate 10 (refine I0 ?_)); exact h) : A := f h
theorem E8 {A B : Prop} (h : B) (f : B → A := by intro h; (iterate 11 (refine I0 ?_)); exact h) : A := f h
theorem K1 {A B : Prop} (h : B) (f : B → A := by intro h; (iterate 12 (refine I0 ?_)); exact h) : A := f h
theorem G9 {A B : Prop} (h : B) (f : B → A := by intro h; (iterate 13 (refine I0 ?_)); exact h) : A := f h
theorem J5 {A B : Prop} (h : B) (f : B → A := by intro h; (iterate 14 (refine I0 ?_)); exact h) : A := f h
theorem I9 {A B : Prop} (h : B) (f : B → A := by intro h; (iterate 15 (refine I0 ?_)); exact h) : A := f h
theorem K0 {A B : Prop} (h : B) (f : B → A := by intro h; (iterate 16 (refine I0 ?_)); exact h) : A := f h
theorem R0 {A B : Prop} (h : B) (f : B → A := by intro h; (iterate 17 (refine I0 ?_)); exact h) : A := f h
theorem U9 {A B : Prop} (h : B) (f : B → A := by intro h; (iterate 18 (refine I0 ?_)); exact h) : A := f h
theorem Z7 {A B : Prop} (h : B) (f : B → A := by intro h; (iterate 19 (refine I0 ?_)); exact h) : A := f h
theorem Z0 {A B : Prop} (h : B) (f : B → A := by intro h; (iterate 20 (refine I0 ?_)); exact h) : A := f h
theorem Z1 {A B : Prop} (h : B) (f : B → A := by intro h; (iterate 21 (refine I0 ?_)); exact h) : A := f h
theorem A2R {A B : Prop} (h : B) (f : B → A := by intro h; (iterate 22 (refine I0 ?_)); exact h) : A := f h
theorem A07 {A B : Prop} (h : B) (f : B → A := by intro h; (iterate 23 (refine I0 ?_)); exact h) : A := f h
theorem A2i {A B : Prop} (h : B) (f : B → A := by intro h; (iterate 24 (refine I0 ?_)); exact h) : A := f h
theorem A4W {A B : Prop} (h : B) (f : B → A := by intro h; (iterate 25 (refine I0 ?_)); exact h) : A := f h
theorem A6q {A B : Prop} (h : B) (f : B → A := by intro h; (iterate 26 (refine I0 ?_)); exact h) : A := f h
theorem A6r {A B : Prop} (h : B) (f : B → A := by intro h; (iterate 27 (refine I0 ?_)); exact h) : A := f h
theorem A6s {A B : Prop} (h : B) (f : B → A := by intro h; (iterate 28 (refine I0 ?_)); exact h) : A := f h
theorem B4U {A B : Prop} (h : B) (f : B → A := by intro h; (iterate 29 (refine I0 ?_)); exact h) : A := f h
theorem V6 {A B : Prop} (h : B) (f : B → A := by intro h; (iterate 30 (refine I0 ?_)); exact h) : A := f h
theorem C5 {r r2 : ResultVar} {post : IM → Value → List A5 → Prop} {v v2 : Value} (h : V5 P Γ ⟨env, hp, G⟩ r v) (h2 : V5 P Γ ⟨env, hp, G⟩ r2 v2) (hk : post G (.tuple ⟨[v, v2]⟩) []) :
  A0i P Γ [r, r2] post .ret ⟨env, hp, G⟩ := A3y (.cons h (.cons h2 .nil)) hk
theorem E4 {r r2 r3 : ResultVar} {post : IM → Value → List A5 → Prop} {v v2 v3 : Value} (h : V5 P Γ ⟨env, hp, G⟩ r v) (h2 : V5 P Γ ⟨env, hp, G⟩ r2 v2) (h3 : V5 P Γ ⟨env, hp, G⟩ r3 v3) (hk : post G (.tuple ⟨[v, v2, v3]⟩) []) :
  A0i P Γ [r, r2, r3] post .ret ⟨env, hp, G⟩ := A3y (.cons h (.cons h2 (.cons h3 .nil))) hk
theorem S1 {r : ResultVar} {post : IM → Value → List A5 → Prop} {v : Value} {outs : List A5} (h : V5 P Γ ⟨env, hp, G⟩ r v) (ho : D0 hp outs) (hk : post G v outs) :
  A0i P Γ [r] post .ret ⟨env, hp, G⟩ := A6g (.cons h .nil) ho.spec hk
theorem B6 {H : List (Nat × Nat)} {fuel : Nat} {listed l' : List Bool} {j : Nat} {d : Option Nat} {op : Op} {K' : Sy → Prop} {σ : Sy} (hi : ops[j]? = some ⟨d, op, ty, pos, af, gd⟩)
  (h : T1 P Γ σ d op ty [] K') (hw : K2 ops σ.env gd = some true) (hl : listed.set j true = l')
  (k : ∀ σ', K' σ' → L9 P Γ ops K H fuel l' σ') : Q9 P Γ ops K H fuel listed j σ := by
 refine ⟨fun a w hs Hs hHs hall hdc hrd => ?_⟩
 unfold wpOp
 simp only [hi, A0K hs.env hw, if_true]
 refine .inl (h.run a w hs pos af gd _ _ fun a' w' σ' h1 h2 h3 => ?_)
 have hkeep : ∀ h ∈ Hs, w'.heap[h.b]? = some h.o := fun x hx => by rw [h2.block x.b (A0g (hall x hx)) zW, hall x hx]
 have hn : ∀ h ∈ Hn ops j Hs, w'.heap[h.b]? = some h.o := fun x hx => hkeep x (List.mem_filter.1 hx).1
 refine ⟨hn, ?_⟩
 have := (k σ' h3).run a' w' h1 Hs hHs hkeep (by rw [← hl]; simpa using hdc.step hrd)
 rw [← hl] at this
 exact A3r _ (fun x hx => (List.mem_filter.1 hx).1) _ _ _ (by simpa using this)

theorem A2S {H H' : List (Nat × Nat)} {fuel : Nat} {listed l' : List Bool} {j : Nat} {d : Option Nat} {op : Op} {mods : List Nat} {K' : Sy → Prop} {σ : Sy} (hi : ops[j]? = some ⟨d, op, ty, pos, af, gd⟩)
  (h : T1 P Γ σ d op ty mods K') (hw : K2 ops σ.env gd = some true) (hl : listed.set j true = l')
  (hm : ∀ a w, St Γ σ a w → ∀ p ∈ H, W7 ops j p.1 = true ∨ p.2 ∉ mods) (hH : H.filter (fun p => !W7 ops j p.1) = H')
  (k : ∀ σ', K' σ' → L9 P Γ ops K H' fuel l' σ') : Q9 P Γ ops K H fuel listed j σ := by
 refine ⟨fun a w hs Hs hHs hall hdc hrd => ?_⟩
 exact (A93 (listed := listed) hi h hw hl (hm a w hs) (fun σ' hσ => by rw [hH]; exact k σ' hσ)).run a w hs Hs hHs hall hdc hrd
theorem B0z {H : List (Nat × Nat)} {fuel : Nat} {listed l' : List Bool} {j : Nat} {d : Option Nat} {op : Op} {mods : List Nat} {K' : Sy → Prop} {σ : Sy} (hi : ops[j]? = some ⟨d, op, ty, pos, af, gd⟩)
  (h : T1 P Γ σ d op ty mods K') (hw : K2 ops σ.env gd = some true) (hl : listed.set j true = l')
  (hm : ((H.map Prod.fst).all fun i => W7 ops j i) = true)
  (k : ∀ σ', K' σ' → L9 P Γ ops K [] fuel l' σ') : Q9 P Γ ops K H fuel listed j σ := by
 have hm' : ∀ p ∈ H, W7 ops j p.1 = true := fun p hp => List.all_eq_true.1 hm p.1 (List.mem_map.2 ⟨p, hp, rfl⟩)
 refine A2S hi h hw hl (fun _ _ _ p hp => .inl (hm' p hp)) ?_ k
 rw [List.filter_eq_nil_iff]
 intro p hp
 simp [hm' p hp]

inductive B5 (ops : Array Oper) (j : Nat) (hp : List A5) (G : IM) (e : A5) : List (Nat × Nat) → List (Nat × Nat) → Prop
 | nil : B5 ops j hp G e [] []
 | dep {i b : Nat} {r r' : List (Nat × Nat)} : W7 ops j i = true → B5 ops j hp G e r r' → B5 ops j hp G e ((i, b) :: r) r'
 | blk {i b : Nat} {cs : List Value} {rest : List A5} {r r' : List (Nat × Nat)} : W7 ops j i = false → Pk hp e rest → A5.blk b cs ∈ rest → B5 ops j hp G e r r' → B5 ops j hp G e ((i, b) :: r) ((i, b) :: r')
 | slc {i b c el sz n : Nat} {cs : List Value} {rest : List A5} {r r' : List (Nat × Nat)} : W7 ops j i = false → Pk hp e rest → A5.slc (some ⟨b, 0, none⟩) c el sz n cs ∈ rest → B5 ops j hp G e r r' → B5 ops j hp G e ((i, b) :: r) ((i, b) :: r')
 | im {i b : Nat} {r r' : List (Nat × Nat)} : W7 ops j i = false → G b ≠ none → e ∈ hp → B5 ops j hp G e r r' → B5 ops j hp G e ((i, b) :: r) ((i, b) :: r')
theorem B5.filter {j : Nat} {e : A5} {H H' : List (Nat × Nat)} (h : B5 ops j hp G e H H') : H.filter (fun p => !W7 ops j p.1) = H' := by
 induction h with
 | nil => rfl
 | dep hd _ ih => simp [hd, ih]
 | blk hd _ _ _ ih => simp [hd, ih]
 | slc hd _ _ _ ih => simp [hd, ih]
 | im hd _ _ _ ih => simp [hd, ih]

theorem B5.spec {j : Nat} {e : A5} {H H' : List (Nat × Nat)} (h : B5 ops j hp G e H H') {a : Act} {w : World} (hs : St Γ ⟨env, hp, G⟩ a w) : ∀ p ∈ H, W7 ops j p.1 = true ∨ p.2 ∉ e.fp := by
 have other : ∀ {rest : List A5} {x : A5}, Pk hp e rest → x ∈ rest → ∀ b ∈ x.fp, b ∉ e.fp := by
  intro rest x hk hx b hb hbe
  have := (hs.res.own.perm hk.perm).nodup
  rw [X7, List.nodup_append] at this
  exact this.2.2 b (by simpa [Fp] using hbe) b (A3q.2 ⟨x, hx, hb⟩) rfl
 induction h with
 | nil => simp
 | dep hd _ ih =>
  intro p hp'
  rcases List.mem_cons.1 hp' with rfl | hp'
  ·exact .inl hd
  ·exact ih p hp'
 | blk _ hk hm _ ih =>
  intro p hp'
  rcases List.mem_cons.1 hp' with rfl | hp'
  ·exact .inr (other hk hm _ (by simp [A5.fp]))
  ·exact ih p hp'
 | slc _ hk hm _ ih =>
  intro p hp'
  rcases List.mem_cons.1 hp' with rfl | hp'
  ·exact .inr (other hk hm _ (by simp [A5.fp, I2]))
  ·exact ih p hp'
 | im _ hg hm _ ih =>
  intro p hp'
  rcases List.mem_cons.1 hp' with rfl | hp'
  ·refine .inr fun hbe => ?_
   exact hg (hs.res.own.disj _ (A3q.2 ⟨e, hm, hbe⟩))
  ·exact ih p hp'


section ones
variable {H : List (Nat × Nat)} {fuel : Nat} {listed l' : List Bool} {j d : Nat} {f : FuncId} {xs : List Operand} {ats : Array TypeId} {vs us cs : List Value} {v0 : Value} {b : Bool} {ins rst : List A5} {g : Operand}
theorem M8 [hF : B9 P f] (hi : ops[j]? = some ⟨some d, .call ⟨.value (.func f), ⟨xs⟩, ats⟩, ty, pos, af, gd⟩) (hx : evl env xs = some vs) (h : Fn P f vs [] G (F8 v0 G)) (hw : K2 ops env gd = some true) (hd : Nat.blt d Γ.n = true) (hl : listed.set j true = l')
  (k : L9 P Γ ops K H fuel l' ⟨(d, v0) :: env, hp, G⟩) : Q9 P Γ ops K H fuel listed j ⟨env, hp, G⟩ :=
 B6 hi (A2e hx h hd) hw hl (by rintro _ ⟨v, G', outs, rfl, _, rfl, rfl, rfl⟩; exact k)
theorem Q3 [hF : B9 P f] (hi : ops[j]? = some ⟨some d, .call ⟨.value (.func f), ⟨xs⟩, ats⟩, ty, pos, af, gd⟩) (hx : evl env xs = some vs) (h : Fn P f vs [] G (F8 (.bool b) G)) (hw : K2 ops env gd = some true) (hd : Nat.blt d Γ.n = true) (hl : listed.set j true = l')
  (kt : b = true → L9 P Γ ops K H fuel l' ⟨(d, .bool true) :: env, hp, G⟩) (kf : b = false → L9 P Γ ops K H fuel l' ⟨(d, .bool false) :: env, hp, G⟩) : Q9 P Γ ops K H fuel listed j ⟨env, hp, G⟩ := by
 cases b
 ·exact M8 hi hx h hw hd hl (kf rfl)
 ·exact M8 hi hx h hw hd hl (kt rfl)
theorem D6 [hF : B9 P f] {Φ : IM → Value → Prop} (hi : ops[j]? = some ⟨some d, .call ⟨.value (.func f), ⟨xs⟩, ats⟩, ty, pos, af, gd⟩) (hx : evl env xs = some vs) (h : Fn P f vs [] G (K9 Φ)) (hw : K2 ops env gd = some true) (hd : Nat.blt d Γ.n = true) (hl : listed.set j true = l')
  (k : ∀ v G', D2 G G' → Φ G' v → L9 P Γ ops K H fuel l' ⟨(d, v) :: env, hp, G'⟩) : Q9 P Γ ops K H fuel listed j ⟨env, hp, G⟩ :=
 B6 hi (A2e hx h hd) hw hl (by rintro _ ⟨v, G', outs, rfl, hle, rfl, hΦ⟩; exact k v G' hle hΦ)
theorem A6t [hF : B9 P f] {post : IM → Value → List A5 → Prop} (hi : ops[j]? = some ⟨some d, .call ⟨.value (.func f), ⟨xs⟩, ats⟩, ty, pos, af, gd⟩) (hx : evl env xs = some vs) (h : Fn P f vs [] G post) (hw : K2 ops env gd = some true) (hd : Nat.blt d Γ.n = true) (hl : listed.set j true = l')
  (k : ∀ v G' outs, D2 G G' → post G' v outs → L9 P Γ ops K H fuel l' ⟨(d, v) :: env, outs ++ hp, G'⟩) : Q9 P Γ ops K H fuel listed j ⟨env, hp, G⟩ :=
 B6 hi (A2e hx h hd) hw hl (by rintro _ ⟨v, G', outs, rfl, hle, hp⟩; exact k v G' outs hle hp)
theorem S2 {x y : Operand} {t : TypeId} {i : K4} [hI : H2 P t i] {bb o : Nat} {v : Value} {cs' : List Value} {hp' : List A5} (hi : ops[j]? = some ⟨none, .store t x y, ty, pos, af, gd⟩)
  (hx : evo env x = some (.pointer (some ⟨bb, o, none⟩))) (hy : evo env y = some v) (hv : v.cells = ⟨vs⟩) (hsz : vs.length = i.size) (h1 : vs.all (·.oneCell') = true)
  (hw : K2 ops env gd = some true) (hl : listed.set j true = l') (hm : ((H.map Prod.fst).all fun i => W7 ops j i) = true)
  (hsw : Sw hp (.blk bb cs) (.blk bb cs') hp') (hu : Q2 cs o vs = some cs')
  (k : L9 P Γ ops K [] fuel l' ⟨env, hp', G⟩) : Q9 P Γ ops K H fuel listed j ⟨env, hp, G⟩ :=
 B0z hi (A4O hx hy hv hsz h1 hu hsw rfl) hw hl hm (by rintro _ rfl; exact k)
theorem P5 {x y : Operand} {t el : TypeId} {i : K4} {sz by' : Nat} {zs : List Value} [hI : H2 P t i] [hE : Q5 P el sz by' zs] {p : Option Addr} {c n m bb o c' : Nat} {news : List Value} {hp' : Option Addr → Nat → List A5} {H' : List (Nat × Nat)}
  (hi : ops[j]? = some ⟨some d, .call ⟨.builtin .append, ⟨[x, y]⟩, ⟨[t, t]⟩⟩, ty, pos, af, gd⟩) (hd' : i.desc = .slice el)
  (hd : Nat.blt d Γ.n = true) (hx : evo env x = some (.slice p n c)) (hy : evo env y = some (.slice (some ⟨bb, o, none⟩) m c')) (hsz : Nat.blt 0 sz = true)
  (hm : ∀ p' c', Sw hp (.slc p c el sz n cs) (.slc p' c' el sz (n + m) (cs ++ news)) (hp' p' c'))
  (hs' : At hp G bb o news) (hln : news.length = m * sz) (h1 : ∀ u ∈ news, u.oneCell' = true)
  (h63 : n + m ≤ maxLen) (hb : (n + m) * by' ≤ 140737488355328) (hw : K2 ops env gd = some true) (hl : listed.set j true = l')
  (hok : B5 ops j hp G (.slc p c el sz n cs) H H')
  (k : ∀ p' c', L9 P Γ ops K H' fuel l' ⟨(d, .slice p' (n + m) c') :: env, hp' p' c', G⟩) : Q9 P Γ ops K H fuel listed j ⟨env, hp, G⟩ :=
 A2S hi (A4T hd' hd hx hy hsz hm hs' hln h1 h63 hb) hw hl (fun _ _ hs => hok.spec hs) hok.filter (by rintro _ ⟨p', c', rfl⟩; exact k p' c')
end ones
theorem A2T {d : Nat} {x y : Operand} {t el : TypeId} {i : K4} {sz by' : Nat} {zs : List Value} [hI : H2 P t i] [hE : Q5 P el sz by' zs] {p : Option Addr} {c n m bb o c' : Nat} {cs news : List Value} {hp' : Option Addr → Nat → List A5}
  (hd' : i.desc = .slice el) (hd : Nat.blt d Γ.n = true) (hx : evo env x = some (.slice p n c)) (hy : evo env y = some (.slice (some ⟨bb, o, none⟩) m c')) (hsz : Nat.blt 0 sz = true)
  (hm : ∀ p' c', Sw hp (.slc p c el sz n cs) (.slc p' c' el sz (n + m) (cs ++ news)) (hp' p' c'))
  (hs' : At hp G bb o news) (hln : news.length = m * sz) (h1 : ∀ u ∈ news, u.oneCell' = true)
  (h63 : n + m ≤ maxLen) (hb : (n + m) * by' ≤ 140737488355328) (hw : K2 ops env gd = some true)
  (k : ∀ p' c', H6 P Γ ops rest K ⟨(d, .slice p' (n + m) c') :: env, hp' p' c', G⟩) : H6 P Γ ops (⟨some d, .call ⟨.builtin .append, ⟨[x, y]⟩, ⟨[t, t]⟩⟩, ty, pos, af, gd⟩ :: rest) K ⟨env, hp, G⟩ :=
 F0 (A4T hd' hd hx hy hsz hm hs' hln h1 h63 hb) hw (by rintro _ ⟨p', c', rfl⟩; exact k p' c')

end rules2
section oneS
variable {P : Program} {Γ : K7} {env : L4} {hp : List A5} {G : IM} {K : Po} {ops : Array Oper} {ty : TypeId} {pos : String} {af : Array Edge} {gd : Option (Nat × Bool)}
theorem A4X {H : List (Nat × Nat)} {fuel : Nat} {listed l' : List Bool} {j d : Nat} {op : Op} (hi : ops[j]? = some ⟨some d, op, ty, pos, af, gd⟩) (hw : K2 ops env gd = some false) (hd : Nat.blt d Γ.n = true) (hl : listed.set j true = l')
  (k : L9 P Γ ops K H fuel l' ⟨(d, undef) :: env, hp, G⟩) : Q9 P Γ ops K H fuel listed j ⟨env, hp, G⟩ := by
 refine ⟨fun a w hs Hs hHs hall hdc hrd => ?_⟩
 unfold wpOp
 simp only [hi, A0K hs.env hw, Bool.false_eq_true, if_false]
 have hn : ∀ h ∈ Hn ops j Hs, w.heap[h.b]? = some h.o := fun x hx => hall x (List.mem_filter.1 hx).1
 refine ⟨hn, ?_⟩
 have := k.run _ w (hs.put d undef (by simpa using hd) hs.res) Hs hHs hall (by rw [← hl]; simpa using hdc.step hrd)
 rw [← hl] at this
 exact A3r _ (fun x hx => (List.mem_filter.1 hx).1) _ _ _ (by simpa using this)
end oneS
section oneM
variable {P : Program} {Γ : K7} {env : L4} {hp : List A5} {G : IM} {K : Po} {ops : Array Oper} {ty : TypeId} {pos : String} {af : Array Edge} {gd : Option (Nat × Bool)}
theorem A4Y {H H' : List (Nat × Nat)} {fuel : Nat} {listed l' : List Bool} {j : Nat} {cs vs : List Value} {x y : Operand} {t : TypeId} {i : K4} [hI : H2 P t i] {bb o : Nat} {v : Value} {cs' : List Value} {hp' : List A5} (hi : ops[j]? = some ⟨none, .store t x y, ty, pos, af, gd⟩)
  (hx : evo env x = some (.pointer (some ⟨bb, o, none⟩))) (hy : evo env y = some v) (hv : v.cells = ⟨vs⟩) (hsz : vs.length = i.size) (h1 : vs.all (·.oneCell') = true)
  (hw : K2 ops env gd = some true) (hl : listed.set j true = l') (hsw : Sw hp (.blk bb cs) (.blk bb cs') hp') (hu : Q2 cs o vs = some cs')
  (hok : B5 ops j hp G (.blk bb cs) H H')
  (k : L9 P Γ ops K H' fuel l' ⟨env, hp', G⟩) : Q9 P Γ ops K H fuel listed j ⟨env, hp, G⟩ :=
 A2S hi (A4O hx hy hv hsz h1 hu hsw rfl) hw hl (fun _ _ hs => by simpa [A5.fp] using hok.spec hs) hok.filter (by rintro _ rfl; exact k)
theorem oS {H H' : List (Nat × Nat)} {fuel : Nat} {listed l' : List Bool} {j : Nat} {cs vs : List Value} {x y : Operand} {t : TypeId} {i : K4} [hI : H2 P t i] {bb o : Nat} {v : Value} {cs' : List Value} {hp' : List A5} (hi : ops[j]? = some ⟨none, .store t x y, ty, pos, af, gd⟩)
 (hx : evo env x = some (.pointer (some ⟨bb, o, none⟩))) (hy : evo env y = some v) (hv : v.cells = ⟨vs⟩) (hsz : vs.length = i.size) (h1 : vs.all (·.oneCell') = true)
 (hw : K2 ops env gd = some true) (hl : listed.set j true = l')
 (k : L9 P Γ ops K H' fuel l' ⟨env, hp', G⟩) (hsw : Sw hp (.blk bb cs) (.blk bb cs') hp' := by repeat first | exact Sw.here | apply Sw.there) (hu : Q2 cs o vs = some cs' := by rfl)
 (hok : B5 ops j hp G (.blk bb cs) H H' := by repeat (first | exact B5.nil | apply B5.dep zR | apply B5.im zR zS (by repeat first | exact mH | apply mT) | apply B5.blk zR (by repeat (first | exact Pk.here | apply Pk.there)) (by repeat first | exact mH | apply mT) | apply B5.slc zR (by repeat (first | exact Pk.here | apply Pk.there)) (by repeat first | exact mH | apply mT))) : Q9 P Γ ops K H fuel listed j ⟨env, hp, G⟩ :=
 A4Y hi hx hy hv hsz h1 hw hl hsw hu hok k
theorem oT {H H' : List (Nat × Nat)} {fuel : Nat} {listed l' : List Bool} {j : Nat} {cs vs : List Value} {x y : Operand} {t : TypeId} {i : K4} [hI : H2 P t i] {bb o : Nat} {v : Value} {cs' : List Value} {hp' : List A5} [hl : A0w listed j l'] (hi : ops[j]? = some ⟨none, .store t x y, ty, pos, af, gd⟩)
 (hx : evo env x = some (.pointer (some ⟨bb, o, none⟩))) (hy : evo env y = some v) (hv : v.cells = ⟨vs⟩) (hsz : vs.length = i.size) (h1 : vs.all (·.oneCell') = true)
 (hw : K2 ops env gd = some true)
 (k : L9 P Γ ops K H' fuel l' ⟨env, hp', G⟩) (hsw : Sw hp (.blk bb cs) (.blk bb cs') hp' := by repeat first | exact Sw.here | apply Sw.there) (hu : Q2 cs o vs = some cs' := by rfl)
 (hok : B5 ops j hp G (.blk bb cs) H H' := by repeat (first | exact B5.nil | apply B5.dep zR | apply B5.im zR zS (by repeat first | exact mH | apply mT) | apply B5.blk zR (by repeat (first | exact Pk.here | apply Pk.there)) (by repeat first | exact mH | apply mT) | apply B5.slc zR (by repeat (first | exact Pk.here | apply Pk.there)) (by repeat first | exact mH | apply mT))) : Q9 P Γ ops K H fuel listed j ⟨env, hp, G⟩ :=
 A4Y hi hx hy hv hsz h1 hw hl.h hsw hu hok k
theorem B8 {H H' : List (Nat × Nat)} {fuel : Nat} {listed l' : List Bool} {j : Nat} {cs vs : List Value} {x y : Operand} {t : TypeId} {i : K4} [hI : H2 P t i] {bb o : Nat} {v : Value} {cs' : List Value} {hp' : List A5} [hl : A0w listed j l']
 (hi : ops[j]? = some ⟨none, .store t x y, ty, pos, af, gd⟩) (k : L9 P Γ ops K H' fuel l' ⟨env, hp', G⟩)
 (hx : evo env x = some (.pointer (some ⟨bb, o, none⟩)) := by rfl) (hy : evo env y = some v := by rfl) (hv : v.cells = ⟨vs⟩ := by rfl) (hsz : vs.length = i.size := by rfl) (h1 : vs.all (·.oneCell') = true := by rfl)
 (hw : K2 ops env gd = some true := by rfl) (hsw : Sw hp (.blk bb cs) (.blk bb cs') hp' := by repeat first | exact Sw.here | apply Sw.there) (hu : Q2 cs o vs = some cs' := by rfl)
 (hok : B5 ops j hp G (.blk bb cs) H H' := by repeat (first | exact B5.nil | apply B5.dep zR | apply B5.im zR zS (by repeat first | exact mH | apply mT) | apply B5.blk zR (by repeat (first | exact Pk.here | apply Pk.there)) (by repeat first | exact mH | apply mT) | apply B5.slc zR (by repeat (first | exact Pk.here | apply Pk.there)) (by repeat first | exact mH | apply mT))) : Q9 P Γ ops K H fuel listed j ⟨env, hp, G⟩ :=
 A4Y hi hx hy hv hsz h1 hw hl.h hsw hu hok k
end oneM

def Wo (G : IM) (F : List Nat) : IM := fun b => if b ∈ F then none else G b
def A08 (bs : List (Nat × List Value)) : List A5 := bs.map fun p => .blk p.1 p.2
theorem A2U : ∀ bs : List (Nat × List Value), Fp (A08 bs) = bs.map Prod.fst
 | [] => rfl
 | p :: bs => by
  show (A5.blk p.1 p.2).fp ++ Fp (A08 bs) = _
  rw [A2U bs]; rfl
theorem B0A {bs : List (Nat × List Value)} {p : Nat × List Value} (h : p ∈ bs) : A5.blk p.1 p.2 ∈ A08 bs := List.mem_map.2 ⟨p, h, rfl⟩

def Wi (G : IM) (bs : List (Nat × List Value)) : IM := fun b => match bs.lookup b with | some l => some l | none => G b
theorem B0B {bs : List (Nat × List Value)} (hn : (bs.map Prod.fst).Nodup) {p : Nat × List Value} (h : p ∈ bs) : bs.lookup p.1 = some p.2 := by
 induction bs with
 | nil => cases h
 | cons q bs ih =>
  obtain ⟨k, v⟩ := q
  simp only [List.map_cons, List.nodup_cons] at hn
  rcases List.mem_cons.1 h with rfl | h
  ·simp [List.lookup]
  ·have hne : p.1 ≠ k := by
    intro he; exact hn.1 (List.mem_map.2 ⟨p, h, he⟩)
   simp only [List.lookup]
   rw [show (p.1 == k) = false from beq_eq_false_iff_ne.2 hne]
   exact ih hn.2 h
theorem A6u {bs : List (Nat × List Value)} {b : Nat} {l : List Value} (h : bs.lookup b = some l) : (b, l) ∈ bs := by
 induction bs with
 | nil => simp [List.lookup] at h
 | cons q bs ih =>
  obtain ⟨k, v⟩ := q
  simp only [List.lookup] at h
  split at h
  ·rename_i he
   have : b = k := by simpa using he
   cases h; rw [this]; exact List.mem_cons_self
  ·exact List.mem_cons_of_mem _ (ih h)
theorem Wi.get {G : IM} {bs : List (Nat × List Value)} {b : Nat} {l : List Value} (h : Wi G bs b = some l) : (b, l) ∈ bs ∨ G b = some l := by
 unfold Wi at h
 split at h
 ·rename_i l' hl; cases h; exact .inl (A6u hl)
 ·exact .inr h
theorem Wi.in {G : IM} {bs : List (Nat × List Value)} (hn : (bs.map Prod.fst).Nodup) {p : Nat × List Value} (h : p ∈ bs) : Wi G bs p.1 = some p.2 := by
 unfold Wi; rw [B0B hn h]
theorem Wi.le {G : IM} {bs : List (Nat × List Value)} (h : ∀ p ∈ bs, G p.1 = none) : D2 G (Wi G bs) := by
 intro b l hb
 unfold Wi
 split
 ·rename_i l' hl
  have := h _ (A6u hl)
  rw [show ((b, l') : Nat × List Value).1 = b from rfl, hb] at this; cases this
 ·exact hb

theorem B0C {w : World} {G : IM} {bs : List (Nat × List Value)} (hown : P9 (A08 bs) G w) (hz : ∀ p ∈ bs, ∃ e, w.heap[p.1]? = some (.cells p.2.toArray e (0, 0))) :
  O5 (A08 bs) G w [] (Wi G bs) w := by
 have hd : ∀ p ∈ bs, G p.1 = none := fun p hp => hown.disj p.1 (by rw [A2U]; exact List.mem_map_of_mem hp)
 refine ⟨⟨?_, by simp, by simp [Fp], by simp [Fp]⟩, Y8.refl _ _, Wi.le hd, ?_, by simp [Fp], ?_⟩
 ·intro b l hb
  rcases Wi.get hb with h | h
  ·obtain ⟨e, he⟩ := hz _ h; exact ⟨e, _, he⟩
  ·exact hown.inn b l h
 ·intro b l hb
  rcases Wi.get hb with h | h
  ·right; right; rw [A2U]; exact List.mem_map.2 ⟨_, h, rfl⟩
  ·exact .inl h
 ·intro b l hb h0
  rcases Wi.get hb with h | h
  ·exact hz _ h
  ·rw [h0] at h; cases h

section rules3
variable {P : Program} {Γ : K7} {env : L4} {hp : List A5} {G : IM} {K : Po} {ops : Array Oper} {rest : List Oper}

theorem St.freezes {a : Act} {w : World} {bs : List (Nat × List Value)} {hp' : List A5} (hs : St Γ ⟨env, hp, G⟩ a w) (p : hp.Perm (A08 bs ++ hp')) :
  St Γ ⟨env, hp', Wi G bs⟩ a w ∧ (bs.map Prod.fst).Nodup ∧ ∀ q ∈ bs, G q.1 = none := by
 have hown : P9 (A08 bs) G w := (hs.res.own.perm p).left
 have hr := B0C hown fun q hq => hown.ok _ (B0A hq)
 refine ⟨⟨hs.size, hs.nod, hs.env, by have := (hs.res.perm p).frame hr; simpa using this⟩, by have := hown.nodup; rwa [A2U] at this, fun q hq => hown.disj q.1 (by rw [A2U]; exact List.mem_map_of_mem hq)⟩
theorem Z8 {cd : Code} {bs : List (Nat × List Value)} {hp' : List A5} (p : hp.Perm (A08 bs ++ hp'))
  (h : (bs.map Prod.fst).Nodup → (∀ q ∈ bs, G q.1 = none) → D2 G (Wi G bs) → J7 P Γ cd K ⟨env, hp', Wi G bs⟩) : J7 P Γ cd K ⟨env, hp, G⟩ :=
 ⟨fun a w hs => let ⟨h1, h2, h3⟩ := hs.freezes p; (h h2 h3 (Wi.le h3)).run a w h1⟩
end rules3
end Gw
end Go.Proofs.YtmceanphadildaaGreatDoor
namespace Go.Proofs.YtmceanphadildaaGreatDoor
open Go
namespace Gw
theorem R1 {P : Program} {t : TypeId} {n b : Nat} {zs : List Value} {d : TypeDesc} (h : (P.info? t).map (fun i => (i.size, i.bytes, i.zero.map Value.cells)) = some (n, b, some ⟨zs⟩)) (hu : P.underlying t = some d) : H2 P t ⟨n, b, zs, d⟩ := by
 refine ⟨?_, hu⟩
 cases hi : P.info? t with
 | none => simp [hi] at h
 | some i =>
  simp only [hi, Option.map_some, Option.some.injEq, Prod.mk.injEq] at h
  obtain ⟨h1, h2, h3⟩ := h
  cases hz : i.zero with
  | none => simp [hz] at h3
  | some z => simp only [hz, Option.map_some, Option.some.injEq] at h3; exact ⟨i, rfl, h1, h2, z, hz, h3⟩
theorem O3 {P : Program} {s f off sz : Nat} {ft : TypeId} {ag : Bool} {fs : Array Field} {d : TypeDesc} {r : K4} (hI : H2 P ft r) (hs : P.underlying s = some (.struct fs)) (hf : (fs[f]?).map (fun x => (x.offset, x.type)) = some (off, ft)) (h1 : r.size = sz) (h2 : sz ≠ 0) (h3 : r.desc = d) (h4 : A02 d = ag) : N8 P s f off sz ag := by
 cases hx : fs[f]? with
 | none => simp [hx] at hf
 | some x =>
  simp [hx] at hf
  obtain ⟨rfl, rfl⟩ := hf
  obtain ⟨inf, g1, g2, _⟩ := hI.info
  exact ⟨fs, x, d, inf, hs, hx, rfl, g1, by rw [g2, h1], h2, by rw [← h3]; exact hI.und, h4⟩
theorem D9 {P : Program} {f : Nat} {fn : Func} (h : P.funcs[f]? = some fn) (h1 : fn.body.isNone = false) (h2 : (fn.name == "runtime.NumGoroutine") = false) : B9 P f := ⟨fn, h, h1, h2⟩
instance ty3 : H2 Tryz.prog 3 ⟨1, 8, [.int .i64 0], (TypeDesc.int IntKind.i64)⟩ := R1 zT Tryz.underlying3
instance ty4 : H2 Tryz.prog 4 ⟨1, 1, [.bool false], TypeDesc.bool⟩ := R1 zT Tryz.underlying4
instance ty5 : H2 Tryz.prog 5 ⟨1, 1, [.int .u8 0], (TypeDesc.int IntKind.u8)⟩ := R1 zT Tryz.underlying5
instance ty9 : H2 Tryz.prog 9 ⟨1, 16, [.string ByteArray.empty], TypeDesc.string⟩ := R1 zT Tryz.underlying9
instance ty22 : H2 Tryz.prog 22 ⟨1, 24, [.slice none 0 0], (TypeDesc.slice 5)⟩ := R1 zT Tryz.underlying22
instance ty23 : H2 Tryz.prog 23 ⟨1, 24, [.slice none 0 0], (TypeDesc.slice 25)⟩ := R1 zT Tryz.underlying23
instance ty25 : H2 Tryz.prog 25 ⟨2, 32, [.int .i64 0, .slice none 0 0], (TypeDesc.struct #[{ name := "Kind", type := 3, offset := 0, embedded := false, tag := "", pkgPath := "", byteOffset := 0 }, { name := "Kids", type := 23, offset := 1, embedded := false, tag := "", pkgPath := "", byteOffset := 8 }])⟩ := R1 zT Tryz.underlying25
instance ty26 : H2 Tryz.prog 26 ⟨1, 24, [.slice none 0 0], (TypeDesc.slice 28)⟩ := R1 zT Tryz.underlying26
instance ty28 : H2 Tryz.prog 28 ⟨9, 128, [.int .i64 0, .string ByteArray.empty, .int .i64 0, .int .i64 0, .slice none 0 0, .int .i64 0, .slice none 0 0, .int .i64 0, .slice none 0 0], (TypeDesc.struct #[{ name := "Kind", type := 3, offset := 0, embedded := false, tag := "", pkgPath := "", byteOffset := 0 }, { name := "Name", type := 9, offset := 1, embedded := false, tag := "", pkgPath := "", byteOffset := 8 }, { name := "Num", type := 3, offset := 2, embedded := false, tag := "", pkgPath := "", byteOffset := 24 }, { name := "Type", type := 25, offset := 3, embedded := false, tag := "", pkgPath := "", byteOffset := 32 }, { name := "From", type := 25, offset := 5, embedded := false, tag := "", pkgPath := "", byteOffset := 64 }, { name := "Label", type := 3, offset := 7, embedded := false, tag := "", pkgPath := "", byteOffset := 96 }, { name := "Kids", type := 26, offset := 8, embedded := false, tag := "", pkgPath := "", byteOffset := 104 }])⟩ := R1 zT Tryz.underlying28
instance ty39 : H2 Tryz.prog 39 ⟨1, 24, [.slice none 0 0], (TypeDesc.slice 41)⟩ := R1 zT Tryz.underlying39
instance ty41 : H2 Tryz.prog 41 ⟨2, 32, [.int .i64 0, .slice none 0 0], (TypeDesc.struct #[{ name := "Kind", type := 3, offset := 0, embedded := false, tag := "", pkgPath := "", byteOffset := 0 }, { name := "Kids", type := 39, offset := 1, embedded := false, tag := "", pkgPath := "", byteOffset := 8 }])⟩ := R1 zT Tryz.underlying41
instance ty42 : H2 Tryz.prog 42 ⟨1, 24, [.slice none 0 0], (TypeDesc.slice 44)⟩ := R1 zT Tryz.underlying42
instance ty44 : H2 Tryz.prog 44 ⟨9, 128, [.int .i64 0, .string ByteArray.empty, .int .i64 0, .int .i64 0, .slice none 0 0, .int .i64 0, .slice none 0 0, .int .i64 0, .slice none 0 0], (TypeDesc.struct #[{ name := "Kind", type := 3, offset := 0, embedded := false, tag := "", pkgPath := "", byteOffset := 0 }, { name := "Name", type := 9, offset := 1, embedded := false, tag := "", pkgPath := "", byteOffset := 8 }, { name := "Num", type := 3, offset := 2, embedded := false, tag := "", pkgPath := "", byteOffset := 24 }, { name := "Type", type := 41, offset := 3, embedded := false, tag := "", pkgPath := "", byteOffset := 32 }, { name := "From", type := 41, offset := 5, embedded := false, tag := "", pkgPath := "", byteOffset := 64 }, { name := "Label", type := 3, offset := 7, embedded := false, tag := "", pkgPath := "", byteOffset := 96 }, { name := "Kids", type := 42, offset := 8, embedded := false, tag := "", pkgPath := "", byteOffset := 104 }])⟩ := R1 zT Tryz.underlying44
instance ty63 : H2 Tryz.prog 63 ⟨1, 24, [.slice none 0 0], (TypeDesc.slice 65)⟩ := R1 zT Tryz.underlying63
instance ty65 : H2 Tryz.prog 65 ⟨4, 48, [.int .i64 0, .int .i64 0, .int .i64 0, .slice none 0 0], (TypeDesc.struct #[{ name := "Kind", type := 3, offset := 0, embedded := false, tag := "", pkgPath := "", byteOffset := 0 }, { name := "Tag", type := 3, offset := 1, embedded := false, tag := "", pkgPath := "", byteOffset := 8 }, { name := "Label", type := 3, offset := 2, embedded := false, tag := "", pkgPath := "", byteOffset := 16 }, { name := "Kids", type := 63, offset := 3, embedded := false, tag := "", pkgPath := "", byteOffset := 24 }])⟩ := R1 zT Tryz.underlying65
instance ty66 : H2 Tryz.prog 66 ⟨1, 24, [.slice none 0 0], (TypeDesc.slice 68)⟩ := R1 zT Tryz.underlying66
instance ty68 : H2 Tryz.prog 68 ⟨14, 200, [.int .i64 0, .string ByteArray.empty, .int .i64 0, .int .i64 0, .slice none 0 0, .int .i64 0, .slice none 0 0, .int .i64 0, .slice none 0 0, .int .i64 0, .int .i64 0, .int .i64 0, .slice none 0 0, .slice none 0 0], (TypeDesc.struct #[{ name := "node", type := 28, offset := 0, embedded := false, tag := "", pkgPath := "loop.example/gradual/impl", byteOffset := 0 }, { name := "co", type := 65, offset := 9, embedded := false, tag := "", pkgPath := "loop.example/gradual/impl", byteOffset := 128 }, { name := "kids", type := 66, offset := 13, embedded := false, tag := "", pkgPath := "loop.example/gradual/impl", byteOffset := 176 }])⟩ := R1 zT Tryz.underlying68
instance ty95 : H2 Tryz.prog 95 ⟨1, 24, [.slice none 0 0], (TypeDesc.slice 98)⟩ := R1 zT Tryz.underlying95
instance ty98 : H2 Tryz.prog 98 ⟨3, 48, [.string ByteArray.empty, .int .i64 0, .slice none 0 0], (TypeDesc.struct #[{ name := "Name", type := 9, offset := 0, embedded := false, tag := "", pkgPath := "", byteOffset := 0 }, { name := "Type", type := 25, offset := 1, embedded := false, tag := "", pkgPath := "", byteOffset := 16 }])⟩ := R1 zT Tryz.underlying98
instance ty112 : H2 Tryz.prog 112 ⟨1, 24, [.slice none 0 0], (TypeDesc.slice 114)⟩ := R1 zT Tryz.underlying112
instance ty114 : H2 Tryz.prog 114 ⟨14, 200, [.int .i64 0, .string ByteArray.empty, .int .i64 0, .int .i64 0, .slice none 0 0, .int .i64 0, .slice none 0 0, .int .i64 0, .slice none 0 0, .int .i64 0, .int .i64 0, .int .i64 0, .slice none 0 0, .slice none 0 0], (TypeDesc.struct #[{ name := "e", type := 28, offset := 0, embedded := false, tag := "", pkgPath := "loop.example/gradual/spec", byteOffset := 0 }, { name := "co", type := 65, offset := 9, embedded := false, tag := "", pkgPath := "loop.example/gradual/spec", byteOffset := 128 }, { name := "kids", type := 112, offset := 13, embedded := false, tag := "", pkgPath := "loop.example/gradual/spec", byteOffset := 176 }])⟩ := R1 zT Tryz.underlying114
instance ty125 : H2 Tryz.prog 125 ⟨1, 8, [.int .i64 0], (TypeDesc.struct #[{ name := "label", type := 3, offset := 0, embedded := false, tag := "", pkgPath := "loop.example/gradual/impl", byteOffset := 0 }])⟩ := R1 zT Tryz.underlying125
instance ty138 : H2 Tryz.prog 138 ⟨1, 24, [.slice none 0 0], (TypeDesc.slice 3)⟩ := R1 zT Tryz.underlying138
instance tz3 : Q5 Tryz.prog 3 1 8 [.int .i64 0] := ⟨⟨_, ty3⟩, rfl⟩
instance tz5 : Q5 Tryz.prog 5 1 1 [.int .u8 0] := ⟨⟨_, ty5⟩, rfl⟩
instance tz25 : Q5 Tryz.prog 25 2 32 [.int .i64 0, .slice none 0 0] := ⟨⟨_, ty25⟩, rfl⟩
instance tz28 : Q5 Tryz.prog 28 9 128 [.int .i64 0, .string ByteArray.empty, .int .i64 0, .int .i64 0, .slice none 0 0, .int .i64 0, .slice none 0 0, .int .i64 0, .slice none 0 0] := ⟨⟨_, ty28⟩, rfl⟩
instance tz41 : Q5 Tryz.prog 41 2 32 [.int .i64 0, .slice none 0 0] := ⟨⟨_, ty41⟩, rfl⟩
instance tz44 : Q5 Tryz.prog 44 9 128 [.int .i64 0, .string ByteArray.empty, .int .i64 0, .int .i64 0, .slice none 0 0, .int .i64 0, .slice none 0 0, .int .i64 0, .slice none 0 0] := ⟨⟨_, ty44⟩, rfl⟩
instance tz65 : Q5 Tryz.prog 65 4 48 [.int .i64 0, .int .i64 0, .int .i64 0, .slice none 0 0] := ⟨⟨_, ty65⟩, rfl⟩
instance tz68 : Q5 Tryz.prog 68 14 200 [.int .i64 0, .string ByteArray.empty, .int .i64 0, .int .i64 0, .slice none 0 0, .int .i64 0, .slice none 0 0, .int .i64 0, .slice none 0 0, .int .i64 0, .int .i64 0, .int .i64 0, .slice none 0 0, .slice none 0 0] := ⟨⟨_, ty68⟩, rfl⟩
instance tz98 : Q5 Tryz.prog 98 3 48 [.string ByteArray.empty, .int .i64 0, .slice none 0 0] := ⟨⟨_, ty98⟩, rfl⟩
instance tz114 : Q5 Tryz.prog 114 14 200 [.int .i64 0, .string ByteArray.empty, .int .i64 0, .int .i64 0, .slice none 0 0, .int .i64 0, .slice none 0 0, .int .i64 0, .slice none 0 0, .int .i64 0, .int .i64 0, .int .i64 0, .slice none 0 0, .slice none 0 0] := ⟨⟨_, ty114⟩, rfl⟩
instance fd25_0 : N8 Tryz.prog 25 0 0 1 false := O3 ty3 Tryz.underlying25 rfl rfl zU rfl rfl
instance fd25_1 : N8 Tryz.prog 25 1 1 1 false := O3 ty23 Tryz.underlying25 rfl rfl zU rfl rfl
instance fd28_0 : N8 Tryz.prog 28 0 0 1 false := O3 ty3 Tryz.underlying28 rfl rfl zU rfl rfl
instance fd28_1 : N8 Tryz.prog 28 1 1 1 false := O3 ty9 Tryz.underlying28 rfl rfl zU rfl rfl
instance fd28_2 : N8 Tryz.prog 28 2 2 1 false := O3 ty3 Tryz.underlying28 rfl rfl zU rfl rfl
instance fd28_3 : N8 Tryz.prog 28 3 3 2 true := O3 ty25 Tryz.underlying28 rfl rfl zU rfl rfl
instance fd28_4 : N8 Tryz.prog 28 4 5 2 true := O3 ty25 Tryz.underlying28 rfl rfl zU rfl rfl
instance fd28_5 : N8 Tryz.prog 28 5 7 1 false := O3 ty3 Tryz.underlying28 rfl rfl zU rfl rfl
instance fd28_6 : N8 Tryz.prog 28 6 8 1 false := O3 ty26 Tryz.underlying28 rfl rfl zU rfl rfl
instance fd41_0 : N8 Tryz.prog 41 0 0 1 false := O3 ty3 Tryz.underlying41 rfl rfl zU rfl rfl
instance fd41_1 : N8 Tryz.prog 41 1 1 1 false := O3 ty39 Tryz.underlying41 rfl rfl zU rfl rfl
instance fd44_0 : N8 Tryz.prog 44 0 0 1 false := O3 ty3 Tryz.underlying44 rfl rfl zU rfl rfl
instance fd44_1 : N8 Tryz.prog 44 1 1 1 false := O3 ty9 Tryz.underlying44 rfl rfl zU rfl rfl
instance fd44_2 : N8 Tryz.prog 44 2 2 1 false := O3 ty3 Tryz.underlying44 rfl rfl zU rfl rfl
instance fd44_3 : N8 Tryz.prog 44 3 3 2 true := O3 ty41 Tryz.underlying44 rfl rfl zU rfl rfl
instance fd44_4 : N8 Tryz.prog 44 4 5 2 true := O3 ty41 Tryz.underlying44 rfl rfl zU rfl rfl
instance fd44_5 : N8 Tryz.prog 44 5 7 1 false := O3 ty3 Tryz.underlying44 rfl rfl zU rfl rfl
instance fd44_6 : N8 Tryz.prog 44 6 8 1 false := O3 ty42 Tryz.underlying44 rfl rfl zU rfl rfl
instance fd65_0 : N8 Tryz.prog 65 0 0 1 false := O3 ty3 Tryz.underlying65 rfl rfl zU rfl rfl
instance fd65_1 : N8 Tryz.prog 65 1 1 1 false := O3 ty3 Tryz.underlying65 rfl rfl zU rfl rfl
instance fd65_2 : N8 Tryz.prog 65 2 2 1 false := O3 ty3 Tryz.underlying65 rfl rfl zU rfl rfl
instance fd65_3 : N8 Tryz.prog 65 3 3 1 false := O3 ty63 Tryz.underlying65 rfl rfl zU rfl rfl
instance fd68_0 : N8 Tryz.prog 68 0 0 9 true := O3 ty28 Tryz.underlying68 rfl rfl zU rfl rfl
instance fd68_1 : N8 Tryz.prog 68 1 9 4 true := O3 ty65 Tryz.underlying68 rfl rfl zU rfl rfl
instance fd68_2 : N8 Tryz.prog 68 2 13 1 false := O3 ty66 Tryz.underlying68 rfl rfl zU rfl rfl
instance fd98_0 : N8 Tryz.prog 98 0 0 1 false := O3 ty9 Tryz.underlying98 rfl rfl zU rfl rfl
instance fd98_1 : N8 Tryz.prog 98 1 1 2 true := O3 ty25 Tryz.underlying98 rfl rfl zU rfl rfl
instance fd114_0 : N8 Tryz.prog 114 0 0 9 true := O3 ty28 Tryz.underlying114 rfl rfl zU rfl rfl
instance fd114_1 : N8 Tryz.prog 114 1 9 4 true := O3 ty65 Tryz.underlying114 rfl rfl zU rfl rfl
instance fd114_2 : N8 Tryz.prog 114 2 13 1 false := O3 ty112 Tryz.underlying114 rfl rfl zU rfl rfl
instance fd125_0 : N8 Tryz.prog 125 0 0 1 false := O3 ty3 Tryz.underlying125 rfl rfl zU rfl rfl
instance fn11 : B9 Tryz.prog 11 := D9 Tryz.func11 zT zT
instance fn13 : B9 Tryz.prog 13 := D9 Tryz.func13 zT zT
instance fn14 : B9 Tryz.prog 14 := D9 Tryz.func14 zT zT
instance fn15 : B9 Tryz.prog 15 := D9 Tryz.func15 zT zT
instance fn16 : B9 Tryz.prog 16 := D9 Tryz.func16 zT zT
instance fn17 : B9 Tryz.prog 17 := D9 Tryz.func17 zT zT
instance fn22 : B9 Tryz.prog 22 := D9 Tryz.func22 zT zT
instance fn23 : B9 Tryz.prog 23 := D9 Tryz.func23 zT zT
instance fn25 : B9 Tryz.prog 25 := D9 Tryz.func25 zT zT
instance fn28 : B9 Tryz.prog 28 := D9 Tryz.func28 zT zT
instance fn29 : B9 Tryz.prog 29 := D9 Tryz.func29 zT zT
instance fn31 : B9 Tryz.prog 31 := D9 Tryz.func31 zT zT
instance fn32 : B9 Tryz.prog 32 := D9 Tryz.func32 zT zT
instance fn33 : B9 Tryz.prog 33 := D9 Tryz.func33 zT zT
instance fn34 : B9 Tryz.prog 34 := D9 Tryz.func34 zT zT
instance fn35 : B9 Tryz.prog 35 := D9 Tryz.func35 zT zT
instance fn36 : B9 Tryz.prog 36 := D9 Tryz.func36 zT zT
instance fn37 : B9 Tryz.prog 37 := D9 Tryz.func37 zT zT
instance fn38 : B9 Tryz.prog 38 := D9 Tryz.func38 zT zT
instance fn39 : B9 Tryz.prog 39 := D9 Tryz.func39 zT zT
instance fn40 : B9 Tryz.prog 40 := D9 Tryz.func40 zT zT
instance fn41 : B9 Tryz.prog 41 := D9 Tryz.func41 zT zT
instance fn42 : B9 Tryz.prog 42 := D9 Tryz.func42 zT zT
instance fn43 : B9 Tryz.prog 43 := D9 Tryz.func43 zT zT
instance fn44 : B9 Tryz.prog 44 := D9 Tryz.func44 zT zT
instance fn45 : B9 Tryz.prog 45 := D9 Tryz.func45 zT zT
instance fn46 : B9 Tryz.prog 46 := D9 Tryz.func46 zT zT
instance fn54 : B9 Tryz.prog 54 := D9 Tryz.func54 zT zT
instance fn56 : B9 Tryz.prog 56 := D9 Tryz.func56 zT zT
instance fn57 : B9 Tryz.prog 57 := D9 Tryz.func57 zT zT
instance fn58 : B9 Tryz.prog 58 := D9 Tryz.func58 zT zT
instance fn59 : B9 Tryz.prog 59 := D9 Tryz.func59 zT zT
instance fn60 : B9 Tryz.prog 60 := D9 Tryz.func60 zT zT
instance fn62 : B9 Tryz.prog 62 := D9 Tryz.func62 zT zT
instance fn63 : B9 Tryz.prog 63 := D9 Tryz.func63 zT zT
instance fn64 : B9 Tryz.prog 64 := D9 Tryz.func64 zT zT
instance fn65 : B9 Tryz.prog 65 := D9 Tryz.func65 zT zT
instance fn66 : B9 Tryz.prog 66 := D9 Tryz.func66 zT zT
instance fn67 : B9 Tryz.prog 67 := D9 Tryz.func67 zT zT
instance fn68 : B9 Tryz.prog 68 := D9 Tryz.func68 zT zT
instance fn69 : B9 Tryz.prog 69 := D9 Tryz.func69 zT zT
instance fn70 : B9 Tryz.prog 70 := D9 Tryz.func70 zT zT
instance fn71 : B9 Tryz.prog 71 := D9 Tryz.func71 zT zT
instance fn72 : B9 Tryz.prog 72 := D9 Tryz.func72 zT zT
instance fn73 : B9 Tryz.prog 73 := D9 Tryz.func73 zT zT
instance fn74 : B9 Tryz.prog 74 := D9 Tryz.func74 zT zT
instance fn75 : B9 Tryz.prog 75 := D9 Tryz.func75 zT zT
instance fn76 : B9 Tryz.prog 76 := D9 Tryz.func76 zT zT
instance fn77 : B9 Tryz.prog 77 := D9 Tryz.func77 zT zT
instance fn78 : B9 Tryz.prog 78 := D9 Tryz.func78 zT zT
instance fn79 : B9 Tryz.prog 79 := D9 Tryz.func79 zT zT
instance fn80 : B9 Tryz.prog 80 := D9 Tryz.func80 zT zT
instance fn81 : B9 Tryz.prog 81 := D9 Tryz.func81 zT zT
instance fn82 : B9 Tryz.prog 82 := D9 Tryz.func82 zT zT
instance fn83 : B9 Tryz.prog 83 := D9 Tryz.func83 zT zT
instance fn84 : B9 Tryz.prog 84 := D9 Tryz.func84 zT zT
instance fn85 : B9 Tryz.prog 85 := D9 Tryz.func85 zT zT
instance fn86 : B9 Tryz.prog 86 := D9 Tryz.func86 zT zT
instance fn87 : B9 Tryz.prog 87 := D9 Tryz.func87 zT zT
instance fn88 : B9 Tryz.prog 88 := D9 Tryz.func88 zT zT
instance fn89 : B9 Tryz.prog 89 := D9 Tryz.func89 zT zT
instance fn90 : B9 Tryz.prog 90 := D9 Tryz.func90 zT zT
instance fn98 : B9 Tryz.prog 98 := D9 Tryz.func98 zT zT
instance fn101 : B9 Tryz.prog 101 := D9 Tryz.func101 zT zT
instance fn102 : B9 Tryz.prog 102 := D9 Tryz.func102 zT zT
instance fn103 : B9 Tryz.prog 103 := D9 Tryz.func103 zT zT
instance fn105 : B9 Tryz.prog 105 := D9 Tryz.func105 zT zT
instance fn108 : B9 Tryz.prog 108 := D9 Tryz.func108 zT zT
instance fn109 : B9 Tryz.prog 109 := D9 Tryz.func109 zT zT
instance fn110 : B9 Tryz.prog 110 := D9 Tryz.func110 zT zT
instance fn111 : B9 Tryz.prog 111 := D9 Tryz.func111 zT zT
instance fn112 : B9 Tryz.prog 112 := D9 Tryz.func112 zT zT
instance fn113 : B9 Tryz.prog 113 := D9 Tryz.func113 zT zT
instance fn114 : B9 Tryz.prog 114 := D9 Tryz.func114 zT zT
instance fn115 : B9 Tryz.prog 115 := D9 Tryz.func115 zT zT
instance fn116 : B9 Tryz.prog 116 := D9 Tryz.func116 zT zT
instance fn117 : B9 Tryz.prog 117 := D9 Tryz.func117 zT zT
instance fn118 : B9 Tryz.prog 118 := D9 Tryz.func118 zT zT
instance fn119 : B9 Tryz.prog 119 := D9 Tryz.func119 zT zT
instance fn120 : B9 Tryz.prog 120 := D9 Tryz.func120 zT zT
instance fn121 : B9 Tryz.prog 121 := D9 Tryz.func121 zT zT
instance fn122 : B9 Tryz.prog 122 := D9 Tryz.func122 zT zT
instance fn124 : B9 Tryz.prog 124 := D9 Tryz.func124 zT zT
instance fn126 : B9 Tryz.prog 126 := D9 Tryz.func126 zT zT
instance fn127 : B9 Tryz.prog 127 := D9 Tryz.func127 zT zT
instance fn129 : B9 Tryz.prog 129 := D9 Tryz.func129 zT zT
instance fn130 : B9 Tryz.prog 130 := D9 Tryz.func130 zT zT
instance fn131 : B9 Tryz.prog 131 := D9 Tryz.func131 zT zT
instance fn132 : B9 Tryz.prog 132 := D9 Tryz.func132 zT zT
instance fn133 : B9 Tryz.prog 133 := D9 Tryz.func133 zT zT
instance fn134 : B9 Tryz.prog 134 := D9 Tryz.func134 zT zT
instance fn135 : B9 Tryz.prog 135 := D9 Tryz.func135 zT zT
instance fn136 : B9 Tryz.prog 136 := D9 Tryz.func136 zT zT
instance fn137 : B9 Tryz.prog 137 := D9 Tryz.func137 zT zT
instance fn138 : B9 Tryz.prog 138 := D9 Tryz.func138 zT zT
instance fn139 : B9 Tryz.prog 139 := D9 Tryz.func139 zT zT
instance fn140 : B9 Tryz.prog 140 := D9 Tryz.func140 zT zT
instance fn141 : B9 Tryz.prog 141 := D9 Tryz.func141 zT zT
instance fn149 : B9 Tryz.prog 149 := D9 Tryz.func149 zT zT
instance fn151 : B9 Tryz.prog 151 := D9 Tryz.func151 zT zT
instance fn152 : B9 Tryz.prog 152 := D9 Tryz.func152 zT zT
instance fn153 : B9 Tryz.prog 153 := D9 Tryz.func153 zT zT
instance fn154 : B9 Tryz.prog 154 := D9 Tryz.func154 zT zT
instance fn155 : B9 Tryz.prog 155 := D9 Tryz.func155 zT zT
instance fn156 : B9 Tryz.prog 156 := D9 Tryz.func156 zT zT
instance fn157 : B9 Tryz.prog 157 := D9 Tryz.func157 zT zT
instance fn158 : B9 Tryz.prog 158 := D9 Tryz.func158 zT zT
instance fn159 : B9 Tryz.prog 159 := D9 Tryz.func159 zT zT
instance fn160 : B9 Tryz.prog 160 := D9 Tryz.func160 zT zT
instance fn161 : B9 Tryz.prog 161 := D9 Tryz.func161 zT zT
instance fn162 : B9 Tryz.prog 162 := D9 Tryz.func162 zT zT
instance fn165 : B9 Tryz.prog 165 := D9 Tryz.func165 zT zT
instance fn166 : B9 Tryz.prog 166 := D9 Tryz.func166 zT zT
instance fn167 : B9 Tryz.prog 167 := D9 Tryz.func167 zT zT
instance fn168 : B9 Tryz.prog 168 := D9 Tryz.func168 zT zT
instance fn169 : B9 Tryz.prog 169 := D9 Tryz.func169 zT zT
instance fn170 : B9 Tryz.prog 170 := D9 Tryz.func170 zT zT
instance fn171 : B9 Tryz.prog 171 := D9 Tryz.func171 zT zT
instance fn172 : B9 Tryz.prog 172 := D9 Tryz.func172 zT zT
instance fn173 : B9 Tryz.prog 173 := D9 Tryz.func173 zT zT
instance fn174 : B9 Tryz.prog 174 := D9 Tryz.func174 zT zT
instance fn175 : B9 Tryz.prog 175 := D9 Tryz.func175 zT zT
instance fn176 : B9 Tryz.prog 176 := D9 Tryz.func176 zT zT
instance fn177 : B9 Tryz.prog 177 := D9 Tryz.func177 zT zT
instance fn178 : B9 Tryz.prog 178 := D9 Tryz.func178 zT zT
instance fn179 : B9 Tryz.prog 179 := D9 Tryz.func179 zT zT
instance fn180 : B9 Tryz.prog 180 := D9 Tryz.func180 zT zT
instance fn181 : B9 Tryz.prog 181 := D9 Tryz.func181 zT zT
instance fn184 : B9 Tryz.prog 184 := D9 Tryz.func184 zT zT
instance fn190 : B9 Tryz.prog 190 := D9 Tryz.func190 zT zT
instance fn191 : B9 Tryz.prog 191 := D9 Tryz.func191 zT zT
instance fn193 : B9 Tryz.prog 193 := D9 Tryz.func193 zT zT
instance fn194 : B9 Tryz.prog 194 := D9 Tryz.func194 zT zT
instance fn195 : B9 Tryz.prog 195 := D9 Tryz.func195 zT zT
instance fn196 : B9 Tryz.prog 196 := D9 Tryz.func196 zT zT
instance fn197 : B9 Tryz.prog 197 := D9 Tryz.func197 zT zT
instance fn198 : B9 Tryz.prog 198 := D9 Tryz.func198 zT zT
instance pl25 : A06 Tryz.prog 25 [(0, 1), (1, 1)] := A1K Tryz.underlying25 zT zT
instance pl28 : A06 Tryz.prog 28 [(0, 1), (1, 1), (2, 1), (3, 2), (5, 2), (7, 1), (8, 1)] := A1K Tryz.underlying28 zT zT
instance pl65 : A06 Tryz.prog 65 [(0, 1), (1, 1), (2, 1), (3, 1)] := A1K Tryz.underlying65 zT zT
instance pl68 : A06 Tryz.prog 68 [(0, 9), (9, 4), (13, 1)] := A1K Tryz.underlying68 zT zT
instance pl98 : A06 Tryz.prog 98 [(0, 1), (1, 2)] := A1K Tryz.underlying98 zT zT
instance pl114 : A06 Tryz.prog 114 [(0, 9), (9, 4), (13, 1)] := A1K Tryz.underlying114 zT zT
instance pl125 : A06 Tryz.prog 125 [(0, 1)] := A1K Tryz.underlying125 zT zT
theorem D4 : Tryz.prog.follows .mixedOrders = true := by kernel_rfl
theorem zA {p : Prop} (h : p := by (cases R with | false => rfl | true => (exfalso; obtain ⟨i1, i2, i3, i4, i5, i6, i7, i8, i9⟩ := hi.1 rfl; first | omega | (have j := i2 (by omega); simp_all; done) | (have j := i3 (by omega); simp_all; done) | (have j := i4 (by omega); simp_all; done) | (have j := i5 (by omega); simp_all; done) | (have j := i6 (by omega); simp_all; done) | (have j := i7 (by omega); simp_all; done) | (have j := i8 (by omega); simp_all; done) | (have j := i9 (by omega); simp_all; done)))) : p := h
theorem zB {p : Prop} (h : p := by (rw [P6, hA]; first | (rw [decide_eq_true (p := k = 1) (by omega)]; rfl) | (rw [decide_eq_false (p := k = 1) (by omega), decide_eq_true (p := k' = 1) (by omega)]; rfl) | (rw [decide_eq_false (p := k = 1) (by omega), decide_eq_false (p := k' = 1) (by omega), decide_eq_false (p := k = k') (by omega)]; rfl) | (rw [decide_eq_false (p := k = 1) (by omega), decide_eq_false (p := k' = 1) (by omega), decide_eq_true (p := k = k') (by omega)]; simp only [*]; rfl))) : p := h
theorem zC {p : Prop} (h : p := by repeat (first | exact B5.nil | apply B5.dep (by decide +kernel) | apply B5.im (by decide +kernel) (by assumption) (by repeat first | exact mH | apply mT) | apply B5.blk (by decide +kernel) (by repeat (first | exact Pk.here | apply Pk.there)) (by repeat first | exact mH | apply mT) | apply B5.slc (by decide +kernel) (by repeat (first | exact Pk.here | apply Pk.there)) (by repeat first | exact mH | apply mT))) : p := h
theorem zD {p : Prop} (h : p := by (cases R with | false => rfl | true => (exfalso; obtain ⟨i1, i2, i3, i4, i5, i6, i7⟩ := hi.1 rfl; first | omega | (have j := i1 (by omega); simp_all; done) | (have j := he (i2 (by omega)); simp_all; done) | (have j := i2 (by omega); simp_all; done) | (have j := i3 (by omega); simp_all; done) | (have j := i4 (by omega); simp_all; done) | (have j := i5 (by omega); simp_all; done)))) : p := h
theorem zE {p : Prop} (h : p := by (unfold H8; first | rw [if_pos (by omega)] | rw [if_neg (by omega), if_pos (by omega)] | rw [if_neg (by omega), if_neg (by omega), if_pos (by omega)] | rw [if_neg (by omega), if_neg (by omega), if_neg (by omega), if_pos (by omega)] | rw [if_neg (by omega), if_neg (by omega), if_neg (by omega), if_neg (by omega)])) : p := h
theorem zF {p : Prop} (h : p := by (rw [J6, R3, hA]; have := M0 k; first | (rw [decide_eq_true (by omega), decide_eq_true (by omega)]; simp only [*]; done) | (rw [decide_eq_true (by omega), decide_eq_true (by omega)]; simp only [*]; rfl) | (rw [decide_eq_false (by omega)]; rfl) | (rw [decide_eq_true (by omega), decide_eq_false (by omega)]; rfl))) : p := h
theorem zG {p : Prop} (h : p := by repeat (first | exact B5.nil | apply B5.dep (by decide +kernel) | apply B5.im (by decide +kernel) (by assumption) (by repeat first | exact mH | apply mT) | apply B5.blk (by decide +kernel) (by repeat (first | exact Pk.here | apply Pk.there)) (by repeat first | exact mH | apply mT))) : p := h
theorem zH {p : Prop} (h : p := by repeat (first | exact B5.nil | apply B5.dep (by decide +kernel) | apply B5.blk (by decide +kernel) (by repeat (first | exact Pk.here | apply Pk.there)) (by repeat first | exact mH | apply mT))) : p := h
theorem zI {p : Prop} (h : p := by repeat (first | exact D0.refl | exact D0.nil | refine D0.cons (by repeat (first | exact Pk.here | apply Pk.there)) ?_ | apply D0.drop)) : p := h
theorem zJ {p : Prop} (h : p := by repeat (first | exact D0.refl | exact D0.nil | refine D0.cons (by repeat (first | exact Pk.here | apply Pk.there)) ?_)) : p := h
theorem zK {p : Prop} (h : p := by (first | assumption | (exfalso; omega) | exact Classical.not_not.1 (by assumption))) : p := h
theorem zL {p : Prop} (h : p := by repeat (first | exact L3.nil | refine L3.cons rfl ?_)) : p := h
theorem zM {p : Prop} (h : p := by repeat (first | exact Pk.here | apply Pk.there)) : p := h
theorem zN {p : Prop} (h : p := by repeat first | exact Sw.here | apply Sw.there) : p := h
theorem zO {p : Prop} (h : p := by repeat first | exact mH | apply mT) : p := h
end Gw
end Go.Proofs.YtmceanphadildaaGreatDoor
