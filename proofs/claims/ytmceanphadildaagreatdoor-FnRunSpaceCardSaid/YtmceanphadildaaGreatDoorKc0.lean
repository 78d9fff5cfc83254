/-
  What every walk of this claim stands on: states told by lists (slots, own blocks.
-/
import Derived.WalkKit
import Derived.OrdersHeld
import Derived.BigCall
import Derived.Test.YtmceanphadildaaGreatDoorChecked
set_option linter.unusedVariables false
set_option linter.unusedSimpArgs false
set_option maxHeartbeats 0
set_option maxRecDepth 100000
set_option synthInstance.maxSize 4000
set_option synthInstance.maxHeartbeats 0
namespace Go.Proofs.YtmceanphadildaaGreatDoor
open Go Go.RowKit Tryz Go.Proofs.Tryz
namespace Gw
abbrev zq9 : List Value := [.int .i64 0, .string ⟨⟨[]⟩⟩, .int .i64 0, .int .i64 0, .slice none 0 0, .int .i64 0, .slice none 0 0, .int .i64 0, .slice none 0 0]
abbrev zq14 : List Value := [.int .i64 0, .string ⟨⟨[]⟩⟩, .int .i64 0, .int .i64 0, .slice none 0 0, .int .i64 0, .slice none 0 0, .int .i64 0, .slice none 0 0, .int .i64 0, .int .i64 0, .int .i64 0, .slice none 0 0, .slice none 0 0]
variable {p : Prop}
theorem zI0 (h : p := by simp [Value.oneCell']) : p := h
theorem zJ0 (h : p := by unfold maxLen; omega) : p := h
theorem zK0 (h : p := by decide +kernel) : p := h
theorem zL0 (h : p := by assumption) : p := h
theorem zM0 (h : p := by kernel_rfl) : p := h
theorem zN0 (h : p := by decide) : p := h
theorem zO0 (h : p := by omega) : p := h
theorem zP0 (h : p := by simp) : p := h
abbrev tt := true
abbrev ff := false
theorem mH {α : Type} {a : α} {l : List α} : a ∈ a :: l := List.Mem.head _
theorem mT {α : Type} {a b : α} {l : List α} (h : a ∈ l) : a ∈ b :: l := List.Mem.tail _ h

abbrev M8 := List (Nat × Value)

def A0h : M8 → Nat → Option Value
 | [], _ => none
 | (k, v) :: r, t => bif Nat.beq k t then some v else A0h r t

def evo (e : M8) : Operand → Option Value
 | .tmp t => A0h e t
 | .const v => some v
 | .global g => some (.pointer (some ⟨g, 0, none⟩))
 | .func f => some (.func (.func f) #[] #[])

def evl (e : M8) : List Operand → Option (List Value)
 | [] => some []
 | x :: r => match evo e x with
  | some v => match evl e r with
   | some vs => some (v :: vs)
   | none => none
  | none => none

inductive A9 where
 | blk (b : Nat) (cs : List Value)
 | slc (p : Option Addr) (c : Nat) (el : TypeId) (sz : Nat) (n : Nat) (cs : List Value)

def K0 : Option Addr → List Nat
 | some p => [p.block]
 | none => []

def A9.fp : A9 → List Nat
 | .blk b _ => [b]
 | .slc p _ _ _ _ _ => K0 p

def A9.ok (w : World) : A9 → Prop
 | .blk b cs => ∃ e, w.heap[b]? = some (.cells cs.toArray e (0, 0))
 | .slc p c el sz n cs => w.ownsRow 0 el sz (.slice p n c) n cs

def Fp (hp : List A9) : List Nat := hp.flatMap A9.fp

abbrev IM := Nat → Option (List Value)

def C3 (G G' : IM) : Prop := ∀ b l, G b = some l → G' b = some l
def A4m (G : IM) (w : World) : Prop := ∀ b l, G b = some l → ∃ e f, w.heap[b]? = some (.cells l.toArray e f)

theorem C3.refl (G : IM) : C3 G G := fun _ _ h => h
variable {G G' : IM}
theorem C3.trans {G'' : IM} (h : C3 G G') (h' : C3 G' G'') : C3 G G'' := fun b l x => h' b l (h b l x)

structure Ext (mods : List Nat) (w w' : World) : Prop where
 os : w'.os = w.os
 tape : w'.tape = w.tape
 output : w'.output = w.output
 size : w.heap.size ≤ w'.heap.size
 block : ∀ k, k < w.heap.size → k ∉ mods → w'.heap[k]? = w.heap[k]?

theorem Ext.refl (m : List Nat) (w : World) : Ext m w w := ⟨rfl, rfl, rfl, Nat.le_refl _, fun _ _ _ => rfl⟩

structure U5 (hp : List A9) (G : IM) (w : World) : Prop where
 inn : A4m G w
 ok : ∀ e ∈ hp, e.ok w
 nodup : (Fp hp).Nodup
 disj : ∀ b ∈ Fp hp, G b = none

structure S0 (ins : List A9) (G0 : IM) (w0 : World) (hp : List A9) (G : IM) (w : World) : Prop where
 own : U5 hp G w
 ext : Ext (Fp ins) w0 w
 le : C3 G0 G
 fresh : ∀ b l, G b = some l → G0 b = some l ∨ w0.heap.size ≤ b ∨ b ∈ Fp ins
 ofresh : ∀ b ∈ Fp hp, w0.heap.size ≤ b ∨ b ∈ Fp ins
 fz : ∀ b l, G b = some l → G0 b = none → ∃ e, w.heap[b]? = some (.cells l.toArray e (0, 0))

variable {b : Nat} {w : World}
theorem A1f {o : Obj} (h : w.heap[b]? = some o) : b < w.heap.size := (Array.getElem?_eq_some_iff.1 h).1

theorem A9.ok_lt {e : A9} (h : e.ok w) : ∀ b ∈ e.fp, b < w.heap.size := by
 cases e with
 | blk b cs => intro k hk; simp [A9.fp] at hk; subst hk; obtain ⟨_, h⟩ := h; exact A1f h
 | slc p c el sz n cs =>
  intro k hk
  rcases h.2 with ⟨he, _⟩ | ⟨g, cap, cur, he, _, hg, _⟩
  ·cases he; simp [A9.fp, K0] at hk
  ·cases he; simp [A9.fp, K0] at hk; subst hk; exact A1f hg

variable {w' : World}
theorem A9.ok_ext {e : A9} (h : e.ok w) (hb : ∀ b ∈ e.fp, w'.heap[b]? = w.heap[b]?) : e.ok w' := by
 cases e with
 | blk b cs => obtain ⟨x, h⟩ := h; exact ⟨x, by rw [hb b (by simp [A9.fp])]; exact h⟩
 | slc p c el sz n cs =>
  refine ⟨h.1, ?_⟩
  rcases h.2 with hn | ⟨g, cap, cur, he, h0, hg, rest⟩
  ·exact .inl hn
  ·cases he; exact .inr ⟨g, _, cur, rfl, h0, by rw [hb g (by simp [A9.fp, K0])]; exact hg, rest⟩

theorem A0G (a b : List A9) : Fp (a ++ b) = Fp a ++ Fp b := by simp [Fp]
theorem A6N {a b : List A9} (h : a.Perm b) : (Fp a).Perm (Fp b) := h.flatMap_right _
variable {hp : List A9}
theorem A5k : b ∈ Fp hp ↔ ∃ e ∈ hp, b ∈ e.fp := by simp [Fp, List.mem_flatMap]

theorem U5.lt (h : U5 hp G w) : ∀ b ∈ Fp hp, b < w.heap.size := by
 intro b hb
 obtain ⟨e, he, hbe⟩ := A5k.1 hb
 exact A9.ok_lt (h.ok e he) b hbe

variable {l : List Value}
theorem A4m.lt (h : A4m G w) (hb : G b = some l) : b < w.heap.size := by
 obtain ⟨_, _, hh⟩ := h b l hb
 exact A1f hh

variable {hp' : List A9}
theorem U5.perm (h : U5 hp G w) (p : hp.Perm hp') : U5 hp' G w :=
 ⟨h.inn, fun e he => h.ok e (p.mem_iff.2 he), (A6N p).nodup_iff.1 h.nodup, fun b hb => h.disj b ((A6N p).mem_iff.2 hb)⟩

theorem U5.left {a b : List A9} (h : U5 (a ++ b) G w) : U5 a G w :=
 ⟨h.inn, fun e he => h.ok e (List.mem_append_left _ he), by have := h.nodup; rw [A0G] at this; exact (List.nodup_append.1 this).1,
  fun x hx => h.disj x (by rw [A0G]; exact List.mem_append_left _ hx)⟩

theorem S0.perm {ins hp hp' : List A9} {G0 G : IM} {w0 w : World} (h : S0 ins G0 w0 hp G w) (p : hp.Perm hp') : S0 ins G0 w0 hp' G w :=
 ⟨h.own.perm p, h.ext, h.le, h.fresh, fun b hb => h.ofresh b ((A6N p).mem_iff.2 hb), h.fz⟩

theorem S0.left {ins a b : List A9} {G0 G : IM} {w0 w : World} (h : S0 ins G0 w0 (a ++ b) G w) : S0 ins G0 w0 a G w :=
 ⟨h.own.left, h.ext, h.le, h.fresh, fun x hx => h.ofresh x (by rw [A0G]; exact List.mem_append_left _ hx), h.fz⟩

theorem S0.refl {ins : List A9} {G : IM} {w : World} (h : U5 ins G w) : S0 ins G w ins G w :=
 ⟨h, Ext.refl _ _, C3.refl _, fun _ _ h => .inl h, fun _ h => .inr h, fun b l h h0 => absurd h (by rw [h0]; simp)⟩

variable {ins outs rest : List A9}
theorem S0.frame {ins0 : List A9} {G0 : IM} {w0 : World}
  (h : S0 ins0 G0 w0 (ins ++ rest) G w) (s : S0 ins G w outs G' w') : S0 ins0 G0 w0 (outs ++ rest) G' w' := by
 have hnd := h.own.nodup
 rw [A0G, List.nodup_append] at hnd
 obtain ⟨_, hndr, hdis⟩ := hnd
 have hrest_lt : ∀ b ∈ Fp rest, b < w.heap.size := fun b hb => h.own.lt b (by rw [A0G]; exact List.mem_append_right _ hb)
 have hrest_not : ∀ b ∈ Fp rest, b ∉ Fp ins := fun b hb hi => hdis b hi b hb rfl
 refine ⟨⟨s.own.inn, ?_, ?_, ?_⟩, ?_, h.le.trans s.le, ?_, ?_, ?_⟩
 ·intro e he
  rcases List.mem_append.1 he with he | he
  ·exact s.own.ok e he
  ·refine A9.ok_ext (h.own.ok e (List.mem_append_right _ he)) fun b hb => ?_
   have hbr : b ∈ Fp rest := A5k.2 ⟨e, he, hb⟩
   exact s.ext.block b (hrest_lt b hbr) (hrest_not b hbr)
 ·rw [A0G, List.nodup_append]
  refine ⟨s.own.nodup, hndr, ?_⟩
  rintro a ha b hb rfl
  rcases s.ofresh a ha with hf | hf
  ·exact absurd (hrest_lt a hb) zO0
  ·exact hrest_not a hb hf
 ·intro b hb
  rw [A0G] at hb
  rcases List.mem_append.1 hb with hb | hb
  ·exact s.own.disj b hb
  ·cases hg : G' b with
   | none => rfl
   | some l =>
    exfalso
    rcases s.fresh b l hg with hf | hf | hf
    ·have := h.own.disj b (by rw [A0G]; exact List.mem_append_right _ hb)
     rw [this] at hf; cases hf
    ·exact absurd (hrest_lt b hb) zO0
    ·exact hrest_not b hb hf
 ·refine ⟨s.ext.os.trans h.ext.os, s.ext.tape.trans h.ext.tape, s.ext.output.trans h.ext.output, Nat.le_trans h.ext.size s.ext.size, ?_⟩
  intro k hk hkn
  rw [s.ext.block k (Nat.lt_of_lt_of_le hk h.ext.size) ?_, h.ext.block k hk hkn]
  intro hki
  rcases h.ofresh k (by rw [A0G]; exact List.mem_append_left _ hki) with hf | hf
  ·omega
  ·exact hkn hf
 ·intro b l hb
  rcases s.fresh b l hb with hf | hf | hf
  ·exact h.fresh b l hf
  ·exact .inr (.inl (Nat.le_trans h.ext.size hf))
  ·exact .inr (h.ofresh b (by rw [A0G]; exact List.mem_append_left _ hf))
 ·intro b hb
  rw [A0G] at hb
  rcases List.mem_append.1 hb with hb | hb
  ·rcases s.ofresh b hb with hf | hf
   ·exact .inl (Nat.le_trans h.ext.size hf)
   ·exact h.ofresh b (by rw [A0G]; exact List.mem_append_left _ hf)
  ·exact h.ofresh b (by rw [A0G]; exact List.mem_append_right _ hb)
 ·intro b l hb h0
  cases hg : G b with
  | none => exact s.fz b l hb hg
  | some l' =>
   have := s.le b l' hg
   rw [hb] at this; cases this
   obtain ⟨e, he⟩ := h.fz b l hg h0
   refine ⟨e, ?_⟩
   rw [s.ext.block b (A1f he) ?_]
   ·exact he
   ·intro hbi
    have := h.own.disj b (by rw [A0G]; exact List.mem_append_left _ hbi)
    rw [hg] at this; cases this

structure M5 where
 n : Nat
 ins : List A9
 G0 : IM
 w0 : World

structure Sy where
 env : M8
 hp : List A9
 G : IM

structure St (Γ : M5) (σ : Sy) (a : Act) (w : World) : Prop where
 size : a.tmps.size = Γ.n
 nod : a.defers = []
 env : ∀ t v, A0h σ.env t = some v → a.tmps.getD t undef = v
 res : S0 Γ.ins Γ.G0 Γ.w0 σ.hp σ.G w

theorem St.evo {Γ : M5} {σ : Sy} {a : Act} {w : World} (h : St Γ σ a w) {x : Operand} {v : Value} (hx : evo σ.env x = some v) : a.eval x = v := by
 cases x with
 | tmp t => exact h.env t v hx
 | const c => simpa [Gw.evo, Act.eval] using hx
 | global g => simpa [Gw.evo, Act.eval] using hx
 | func f => simpa [Gw.evo, Act.eval] using hx

theorem St.evl {Γ : M5} {σ : Sy} {a : Act} {w : World} (h : St Γ σ a w) : ∀ {xs : List Operand} {vs : List Value}, evl σ.env xs = some vs → xs.map a.eval = vs
 | [], vs, hx => by simp [Gw.evl] at hx; subst hx; rfl
 | x :: r, vs, hx => by
  simp only [Gw.evl] at hx
  split at hx
  ·rename_i v hv
   split at hx
   ·rename_i us hu
    simp at hx; subst hx
    simp [h.evo hv, St.evl h hu]
   ·cases hx
  ·cases hx

theorem A6O (k : Nat) (v : Value) (r : M8) (t : Nat) : A0h ((k, v) :: r) t = if k = t then some v else A0h r t := by
 simp only [A0h]
 by_cases h : k = t
 ·subst h; simp
 ·have : Nat.beq k t = false := by
   cases hb : Nat.beq k t with
   | false => rfl
   | true => exact absurd (Nat.eq_of_beq_eq_true hb) h
  simp [this, h]

theorem St.put {Γ : M5} {σ : Sy} {a : Act} {w w' : World} {hp' : List A9} {G' : IM} (h : St Γ σ a w) (t : Nat) (v : Value) (ht : t < Γ.n)
  (hr : S0 Γ.ins Γ.G0 Γ.w0 hp' G' w') : St Γ ⟨(t, v) :: σ.env, hp', G'⟩ (a.put (some t) v) w' := by
 refine ⟨?_, h.nod, ?_, hr⟩
 ·simp [Act.put, h.size]
 ·intro s u hs
  rw [A6O] at hs
  simp only [Act.put]
  by_cases e : t = s
  ·subst e
   simp at hs; subst hs
   have : t < a.tmps.size := by rw [h.size]; exact ht
   simp [Array.getD_eq_getD_getElem?, this]
  ·rw [if_neg e] at hs
   have := h.env s u hs
   simp only [Array.getD_eq_getD_getElem?, Array.getElem?_setIfInBounds, if_neg e] at this ⊢
   exact this

variable {a : Act} {σ : Sy}
theorem St.put_none {Γ : M5} (h : St Γ σ a w) (v : Value)
  (hr : S0 Γ.ins Γ.G0 Γ.w0 hp' G' w') : St Γ ⟨σ.env, hp', G'⟩ (a.put none v) w' := ⟨h.size, h.nod, h.env, hr⟩

def dpu (d : Option Nat) (v : Value) (e : M8) : M8 := match d with | some t => (t, v) :: e | none => e
def dok (n : Nat) : Option Nat → Bool | some t => Nat.blt t n | none => true

theorem St.dput {Γ : M5} (h : St Γ σ a w) (d : Option Nat) (v : Value) (ht : dok Γ.n d = true)
  (hr : S0 Γ.ins Γ.G0 Γ.w0 hp' G' w') : St Γ ⟨dpu d v σ.env, hp', G'⟩ (a.put d v) w' := by
 cases d with
 | none => exact h.put_none v hr
 | some t => exact h.put t v (by simpa [dok] using ht) hr

abbrev Po := Exit → Sy → Prop
def lift (Γ : M5) (K : Po) : Exit → Act → World → Prop := fun e a w => ∃ σ, St Γ σ a w ∧ K e σ

structure J9 (P : Program) (Γ : M5) (c : Code) (K : Po) (σ : Sy) : Prop where
 run : ∀ a w, St Γ σ a w → c.wp P (lift Γ K) a w

structure A1v (P : Program) (Γ : M5) (y : Code) (K : Po) (e : Exit) (σ : Sy) : Prop where
 run : match e with
  | .normal => J9 P Γ y K σ
  | e => K e σ
structure A16 (id : Nat) (K : Po) (e : Exit) (σ : Sy) : Prop where
 run : match e with
  | .exit id' => if id' = id then K .normal σ else K (.exit id') σ
  | e => K e σ

section rules
variable {P : Program} {Γ : M5} {K : Po} {σ : Sy}

theorem A6P {c : Code} {K' : Po} (h : J9 P Γ c K σ) (hk : ∀ e σ, K e σ → K' e σ) : J9 P Γ c K' σ :=
 ⟨fun a w hs => wp_mono (h.run a w hs) fun _ _ _ ⟨s, h1, h2⟩ => ⟨s, h1, hk _ _ h2⟩⟩

theorem tS {x y : Code} (h : J9 P Γ x (A1v P Γ y K) σ) : J9 P Γ (Code.seq x y) K σ := by
 refine ⟨fun a w hs => ?_⟩
 refine wp_seq (wp_mono (h.run a w hs) ?_)
 rintro e a' w' ⟨s, h1, ⟨h2⟩⟩
 cases e <;> first | exact h2.run a' w' h1 | exact ⟨s, h1, h2⟩

theorem tK (h : K .normal σ) : J9 P Γ .skip K σ := ⟨fun _ _ hs => wp_skip ⟨σ, hs, h⟩⟩
theorem tT (h : K .ret σ) : J9 P Γ .ret K σ := ⟨fun _ _ hs => wp_ret ⟨σ, hs, h⟩⟩
variable {id : Nat}
theorem B3Y (h : K (.exit id) σ) : J9 P Γ (.exit id) K σ := ⟨fun _ _ hs => wp_exit ⟨σ, hs, h⟩⟩
theorem C2 {c : Code} (h : J9 P Γ c (A16 id K) σ) : J9 P Γ (.block id c) K σ := by
 refine ⟨fun a w hs => ?_⟩
 refine wp_block (wp_mono (h.run a w hs) ?_)
 rintro e a' w' ⟨s, h1, ⟨h2⟩⟩
 cases e with
 | exit id' =>
  simp only [Exit.inBlock] at h2 ⊢
  split at h2
  ·rename_i hid; simp only [hid, if_true]; exact ⟨s, h1, h2⟩
  ·rename_i hid; simp only [hid, if_false]; exact ⟨s, h1, h2⟩
 | _ => exact ⟨s, h1, h2⟩
theorem A4n {c : Operand} {x y : Code} {b : Bool} (hc : evo σ.env c = some (.bool b)) (ht : b = true → J9 P Γ x K σ) (hf : b = false → J9 P Γ y K σ) :
  J9 P Γ (.cond c x y) K σ := by
 refine ⟨fun a w hs => ?_⟩
 have he := hs.evo hc
 cases b
 ·exact wp_cond_false he ((hf rfl).run a w hs)
 ·exact wp_cond_true he ((ht rfl).run a w hs)
theorem qT {c : Operand} {x y : Code} (hc : evo σ.env c = some (.bool true)) (h : J9 P Γ x K σ) : J9 P Γ (.cond c x y) K σ :=
 ⟨fun a w hs => wp_cond_true (hs.evo hc) (h.run a w hs)⟩
theorem cF {c : Operand} {x y : Code} (hc : evo σ.env c = some (.bool false)) (h : J9 P Γ y K σ) : J9 P Γ (.cond c x y) K σ :=
 ⟨fun a w hs => wp_cond_false (hs.evo hc) (h.run a w hs)⟩

structure Sub (σ σ' : Sy) : Prop where
 env : ∀ t v, A0h σ'.env t = some v → A0h σ.env t = some v
 hp : ∃ r, σ.hp.Perm (σ'.hp ++ r)
 G : σ.G = σ'.G
variable {σ' : Sy}
theorem St.sub (h : St Γ σ a w) (s : Sub σ σ') : St Γ σ' a w := by
 obtain ⟨r, hr⟩ := s.hp
 exact ⟨h.size, h.nod, fun t v ht => h.env t v (s.env t v ht), by rw [← s.G]; exact (h.res.perm hr).left⟩
theorem A8U {c : Code} (s : Sub σ σ') (h : J9 P Γ c K σ') : J9 P Γ c K σ := ⟨fun a w hs => h.run a w (hs.sub s)⟩
structure B3Z (K : Po) (Inv : Nat → Sy → Prop) (m : Nat) (e : Exit) (σ : Sy) : Prop where
 run : match e with
  | .normal => ∃ m' σ', m' < m ∧ Sub σ σ' ∧ Inv m' σ'
  | e => K e σ
theorem B30 {c : Code} (Inv : Nat → Sy → Prop) (m : Nat) (hsub : Sub σ σ') (h0 : Inv m σ') (step : ∀ m σ, Inv m σ → J9 P Γ c (B3Z K Inv m) σ) :
  J9 P Γ (.loop c) K σ := by
 refine ⟨fun a w hs => ?_⟩
 let μ : Act → World → Nat := fun a w => Classical.epsilon fun m => (∃ σ, St Γ σ a w ∧ Inv m σ) ∧ ∀ k, (∃ σ, St Γ σ a w ∧ Inv k σ) → m ≤ k
 have hμ : ∀ a w, (∃ m σ, St Γ σ a w ∧ Inv m σ) → (∃ σ, St Γ σ a w ∧ Inv (μ a w) σ) ∧ ∀ k, (∃ σ, St Γ σ a w ∧ Inv k σ) → μ a w ≤ k := by
  intro a w ⟨m, hm⟩
  have : ∃ m, (∃ σ, St Γ σ a w ∧ Inv m σ) ∧ ∀ k, (∃ σ, St Γ σ a w ∧ Inv k σ) → m ≤ k := by
   induction m using Nat.strongRecOn with
   | _ m ih =>
    by_cases hh : ∃ k, k < m ∧ ∃ σ, St Γ σ a w ∧ Inv k σ
    ·obtain ⟨k, hk, hs⟩ := hh; exact ih k hk hs
    ·exact ⟨m, hm, fun k hk => Nat.le_of_not_lt fun hlt => hh ⟨k, hlt, hk⟩⟩
  exact Classical.epsilon_spec this
 refine wp_loop (fun a w => ∃ m σ, St Γ σ a w ∧ Inv m σ) μ ⟨m, σ', hs.sub hsub, h0⟩ ?_
 intro a w hI
 obtain ⟨⟨σ1, hs1, hi1⟩, _⟩ := hμ a w hI
 refine wp_mono ((step _ σ1 hi1).run a w hs1) ?_
 rintro e a' w' ⟨s, h1, ⟨h2⟩⟩
 cases e with
 | normal =>
  obtain ⟨m', σ2, hlt, hsb, hinv⟩ := h2
  refine ⟨⟨m', σ2, h1.sub hsb, hinv⟩, Nat.lt_of_le_of_lt ?_ hlt⟩
  exact (hμ a' w' ⟨m', σ2, h1.sub hsb, hinv⟩).2 m' ⟨σ2, h1.sub hsb, hinv⟩
 | _ => exact ⟨s, h1, h2⟩

structure A17 {ι : Type} (K : Po) (S : ι → Sy) (φ : ι → Prop) (μ : ι → Nat) (i : ι) (e : Exit) (σ : Sy) : Prop where
 run : match e with
  | .normal => ∃ j, φ j ∧ μ j < μ i ∧ Sub σ (S j)
  | e => K e σ
variable {ι : Type}
theorem K2 {c : Code} (S : ι → Sy) (φ : ι → Prop) (μ : ι → Nat) (i0 : ι) (hsub : Sub σ (S i0)) (h0 : φ i0) (step : ∀ i, φ i → J9 P Γ c (A17 K S φ μ i) (S i)) :
  J9 P Γ (.loop c) K σ := by
 refine B30 (fun m σ => ∃ i, φ i ∧ m = μ i ∧ σ = S i) (μ i0) hsub ⟨i0, h0, rfl, rfl⟩ ?_
 rintro m σ ⟨i, hi, rfl, rfl⟩
 refine A6P (step i hi) ?_
 rintro e σ ⟨h⟩
 cases e with
 | normal =>
  obtain ⟨j, h1, h2, h3⟩ := h
  exact ⟨⟨μ j, S j, h2, h3, j, h1, rfl, rfl⟩⟩
 | _ => exact ⟨h⟩
theorem J7 {S : ι → Sy} {φ : ι → Prop} {μ : ι → Nat} {i : ι} (j : ι) (hs : Sub σ (S j)) (h : φ j) (hlt : μ j < μ i) : A17 K S φ μ i .normal σ := ⟨j, h, hlt, hs⟩
theorem B31 {S : ι → Sy} {φ : ι → Prop} {μ : ι → Nat} {i : ι} (h : K .ret σ) : A17 K S φ μ i .ret σ := ⟨h⟩
theorem B32 {S : ι → Sy} {φ : ι → Prop} {μ : ι → Nat} {i : ι} (h : K (.exit id) σ) : A17 K S φ μ i (.exit id) σ := ⟨h⟩
theorem B33 {S : ι → Sy} {φ : ι → Prop} {μ : ι → Nat} {i : ι} (h : ∀ c σ, ¬ K (.panic c) σ) : ∀ c σ, ¬ A17 K S φ μ i (.panic c) σ := fun c σ hk => h c σ hk.run

end rules

def A4o (e : M8) (a : Act) : Prop := ∀ t v, A0h e t = some v → a.tmps.getD t undef = v

def M6 (ops : Array Oper) (e : M8) : Option (Nat × Bool) → Option Bool
 | none => some true
 | some (j, want) => match (ops[j]?).bind (·.dst) with
  | some t => match A0h e t with
   | some (.bool b) => some (b == want)
   | some (.tuple _) => some false
   | _ => none
  | none => none

variable {af : Array Edge} {op : Op} {ops : Array Oper}
theorem A1L {e : M8} (h : A4o e a) {d : Option Tmp} {ty : TypeId} {pos : String} {gd : Option (Nat × Bool)} {r : Bool}
  (hg : M6 ops e gd = some r) : Region.wanted ⟨d, op, ty, pos, af, gd⟩ (yielded ops a.tmps) = r := by
 cases gd with
 | none => simp [M6] at hg; subst hg; rfl
 | some jw =>
  obtain ⟨j, want⟩ := jw
  simp only [M6] at hg
  split at hg
  ·rename_i t ht
   split at hg
   ·rename_i b hb
    simp at hg; subst hg
    have hv := h t _ hb
    have hs : a.tmps[t]? = some (.bool b) := by
     cases hx : a.tmps[t]? with
     | none => simp [Array.getD_eq_getD_getElem?, hx, undef] at hv
     | some u => simp [Array.getD_eq_getD_getElem?, hx] at hv; rw [hv]
    simp [Region.wanted, yielded, ht, hs]
   ·rename_i b hb
    simp at hg; subst hg
    have hv := h t _ hb
    cases hx : a.tmps[t]? with
    | none => simp [Region.wanted, yielded, ht, hx]
    | some u =>
     simp [Array.getD_eq_getD_getElem?, hx] at hv
     simp [Region.wanted, yielded, ht, hx, hv]
   ·cases hg
  ·cases hg

structure J6 (P : Program) (Γ : M5) (σ : Sy) (op : Op) (ty : TypeId) (v : Value) : Prop where
 run : ∀ a w0, St Γ σ a w0 → ∀ d pos af gd w, (execOp a.eval ⟨d, op, ty, pos, af, gd⟩).run P w = .ok (.value v) w

structure A18 (P : Program) (Γ : M5) (σ : Sy) (op : Op) (ty : TypeId) (b : Nat) (v : Value) : Prop where
 run : ∀ a w, St Γ σ a w → b < w.heap.size ∧ ∀ w', w'.heap[b]? = w.heap[b]? → ∀ d pos af gd, (execOp a.eval ⟨d, op, ty, pos, af, gd⟩).run P w' = .ok (.value v) w'

structure Y9 (P : Program) (Γ : M5) (σ : Sy) (d : Option Tmp) (op : Op) (ty : TypeId) (mods : List Nat) (K' : Sy → Prop) : Prop where
 run : ∀ a w, St Γ σ a w → ∀ pos af gd (Q : Exit → Act → World → Prop) (next : Act → World → Prop),
  (∀ a' w' σ', St Γ σ' a' w' → Ext mods w w' → K' σ' → next a' w') → (⟨d, op, ty, pos, af, gd⟩ : Oper).wp P a w next Q

def wpL (P : Program) (ops : Array Oper) (Q : Exit → Act → World → Prop) : List Oper → Act → World → Prop
 | [], a, w => Q .normal a w
 | o :: r, a, w => if Region.wanted o (yielded ops a.tmps) then o.wp P a w (wpL P ops Q r) Q ∨ (o.asks P a w ∧ LetsOut Q) else wpL P ops Q r (a.put o.dst undef) w

theorem A6Q {P : Program} {ops : Array Oper} {Q : Exit → Act → World → Prop} : ∀ (os : List Oper) (is : List Nat) (a : Act) (w : World),
  is.map (ops[·]?) = os.map some → wpL P ops Q os a w → wpOps P ops Q is a w
 | [], [], _, _, _, h => h
 | [], _ :: _, _, _, hm, _ => by simp at hm
 | _ :: _, [], _, _, hm, _ => by simp at hm
 | o :: os, i :: is, a, w, hm, h => by
  simp only [List.map_cons, List.cons.injEq] at hm
  rw [wpOps_cons]
  unfold wpOp
  simp only [hm.1]
  simp only [wpL] at h
  split
  ·rename_i hw
   simp only [hw, if_true] at h
   exact h.imp (Oper.wp_mono fun a w => A6Q os is a w hm.2) id
  ·rename_i hw
   simp only [hw] at h
   exact A6Q os is _ w hm.2 h

structure J2 (P : Program) (Γ : M5) (ops : Array Oper) (rest : List Oper) (K : Po) (σ : Sy) : Prop where
 run : ∀ a w, St Γ σ a w → wpL P ops (lift Γ K) rest a w

section seq
variable {P : Program} {Γ : M5} {K : Po} {ops : Array Oper} {rest : List Oper} {env : M8} {hp : List A9} {G : IM}
variable {op : Op} {ty : TypeId} {pos : String} {af : Array Edge} {gd : Option (Nat × Bool)}

variable {id : Nat}
theorem tR {os : List Oper} (h : J2 P Γ ⟨os⟩ os K σ) : J9 P Γ (.region id ⟨os⟩ false) K σ := by
 refine ⟨fun a w hs => ?_⟩
 refine wp_region (A6Q os _ a w ?_ (h.run a w hs))
 apply List.ext_getElem?
 intro i
 by_cases hi : i < os.length
 ·simp [hi]
 ·simp [hi]

theorem sD (h : K .normal σ) : J2 P Γ ops [] K σ := ⟨fun _ _ hs => ⟨σ, hs, h⟩⟩

variable {v : Value} {d : Nat}
theorem sP (h : J6 P Γ ⟨env, hp, G⟩ op ty v) (hw : M6 ops env gd = some true) (hd : Nat.blt d Γ.n = true)
  (k : J2 P Γ ops rest K ⟨(d, v) :: env, hp, G⟩) : J2 P Γ ops (⟨some d, op, ty, pos, af, gd⟩ :: rest) K ⟨env, hp, G⟩ := by
 refine ⟨fun a w hs => ?_⟩
 have he : A4o env a := hs.env
 simp only [wpL, A1L he hw, if_true]
 refine .inl ?_
 simp only [Oper.wp, h.run a w hs, Oper.upon]
 exact k.run _ _ (hs.put d v (by simpa using hd) hs.res)

theorem sQ (h : J6 P Γ ⟨env, hp, G⟩ op ty v) (hw : (M6 ops env gd, Nat.blt d Γ.n) = (some true, true))
 (k : J2 P Γ ops rest K ⟨(d, v) :: env, hp, G⟩) : J2 P Γ ops (⟨some d, op, ty, pos, af, gd⟩ :: rest) K ⟨env, hp, G⟩ := sP h (congrArg Prod.fst hw) (congrArg Prod.snd hw) k
theorem sL (h : A18 P Γ ⟨env, hp, G⟩ op ty b v) (hw : M6 ops env gd = some true) (hd : Nat.blt d Γ.n = true)
  (k : J2 P Γ ops rest K ⟨(d, v) :: env, hp, G⟩) : J2 P Γ ops (⟨some d, op, ty, pos, af, gd⟩ :: rest) K ⟨env, hp, G⟩ := by
 refine ⟨fun a w hs => ?_⟩
 have he : A4o env a := hs.env
 simp only [wpL, A1L he hw, if_true]
 refine .inl ?_
 simp only [Oper.wp, (h.run a w hs).2 w rfl, Oper.upon]
 exact k.run _ _ (hs.put d v (by simpa using hd) hs.res)

variable {K' : Sy → Prop} {mods : List Nat}
theorem J0 {d : Option Nat} (h : Y9 P Γ σ d op ty mods K') (hw : M6 ops σ.env gd = some true)
  (k : ∀ σ', K' σ' → J2 P Γ ops rest K σ') : J2 P Γ ops (⟨d, op, ty, pos, af, gd⟩ :: rest) K σ := by
 refine ⟨fun a w hs => ?_⟩
 have he : A4o σ.env a := hs.env
 simp only [wpL, A1L he hw, if_true]
 exact .inl (h.run a w hs pos af gd _ _ fun a' w' σ' h1 _ h3 => (k σ' h3).run a' w' h1)

theorem sE {d : Option Nat} {F : List Nat} {S : Nat → Sy} (h : Y9 P Γ ⟨env, hp, G⟩ d op ty F (fun s => ∃ b, s = S b)) (hw : M6 ops env gd = some true) (k : ∀ b, J2 P Γ ops rest K (S b)) : J2 P Γ ops (⟨d, op, ty, pos, af, gd⟩ :: rest) K ⟨env, hp, G⟩ :=
 J0 h hw (by rintro _ ⟨b, rfl⟩; exact k b)
theorem sK (hw : M6 ops env gd = some false) (hd : Nat.blt d Γ.n = true)
  (k : J2 P Γ ops rest K ⟨(d, undef) :: env, hp, G⟩) : J2 P Γ ops (⟨some d, op, ty, pos, af, gd⟩ :: rest) K ⟨env, hp, G⟩ := by
 refine ⟨fun a w hs => ?_⟩
 have he : A4o env a := hs.env
 simp only [wpL, A1L he hw, Bool.false_eq_true, if_false]
 exact k.run _ _ (hs.put d undef (by simpa using hd) hs.res)
theorem sB [Decidable p] (h : J6 P Γ ⟨env, hp, G⟩ op ty (.bool (decide p))) (hw : M6 ops env gd = some true) (hd : Nat.blt d Γ.n = true)
  (kt : p → J2 P Γ ops rest K ⟨(d, .bool true) :: env, hp, G⟩) (kf : ¬ p → J2 P Γ ops rest K ⟨(d, .bool false) :: env, hp, G⟩) :
  J2 P Γ ops (⟨some d, op, ty, pos, af, gd⟩ :: rest) K ⟨env, hp, G⟩ := by
 by_cases hpp : p
 ·exact sP (by rw [decide_eq_true hpp] at h; exact h) hw hd (kt hpp)
 ·exact sP (by rw [decide_eq_false hpp] at h; exact h) hw hd (kf hpp)

end seq

structure A1w where
 i : Nat
 b : Nat
 o : Obj

def A4p (ops : Array Oper) : Nat → Nat → Nat → Bool
 | 0, _, _ => false
 | n + 1, j, i => match ops[j]? with | some oj => oj.after.any (fun e => Region.binds .any e && (e.on == i || A4p ops n e.on i)) | none => false
def A0B (ops : Array Oper) (j i : Nat) : Bool := A4p ops 4 j i
def DC (ops : Array Oper) (listed : Array Bool) : Prop := ∀ j, listed.getD j false = true → ∀ o, ops[j]? = some o → ∀ e ∈ o.after, Region.binds .any e = true → listed.getD e.on false = true
theorem DC.dep {ops : Array Oper} {listed : Array Bool} (h : DC ops listed) : ∀ (n j i : Nat), (∀ o, ops[j]? = some o → ∀ e ∈ o.after, Region.binds .any e = true → listed.getD e.on false = true) → A4p ops n j i = true → listed.getD i false = true
 | 0, _, _, _, hd => by simp [A4p] at hd
 | n + 1, j, i, hj, hd => by
  simp only [A4p] at hd
  cases ho : ops[j]? with
  | none => simp [ho] at hd
  | some o =>
   simp only [ho] at hd
   obtain ⟨e, he, hb⟩ := Array.any_eq_true'.1 hd
   simp only [Bool.and_eq_true, Bool.or_eq_true, beq_iff_eq] at hb
   have hl := hj o ho e he hb.1
   rcases hb.2 with h1 | h1
   ·rw [← h1]; exact hl
   ·exact h.dep n e.on i (h e.on hl) h1
variable {j : Nat}
theorem DC.step {listed : Array Bool} (h : DC ops listed) (hr : j ∈ Region.ready .any ops listed) : DC ops (listed.setIfInBounds j true) := by
 intro k hk o ho e he hb
 refine getD_set_true ?_
 by_cases hkj : j = k
 ·subst hkj
  obtain ⟨_, o', ho', hall⟩ := mem_ready.1 hr
  rw [ho] at ho'; cases ho'
  exact hall e he hb
 ·rw [getD_set_ne false hkj] at hk
  exact h k hk o ho e he hb
def Hn (ops : Array Oper) (j : Nat) (H : List A1w) : List A1w := H.filter fun h => !A0B ops j h.i

def wpG (P : Program) (ops : Array Oper) (Q : Exit → Act → World → Prop) : Nat → List A1w → Array Bool → Act → World → Prop
 | 0, _, listed, a, w => Region.ready .any ops listed = [] ∧ Q .normal a w
 | fuel + 1, H, listed, a, w =>
  (Region.ready .any ops listed = [] → Q .normal a w) ∧
  ∀ j ∈ Region.ready .any ops listed, wpOp P ops Q j (fun a' w' => (∀ h ∈ Hn ops j H, w'.heap[h.b]? = some h.o) ∧ wpG P ops Q fuel (Hn ops j H) (listed.setIfInBounds j true) a' w') a w

section draw
variable {P : Program} {ops : Array Oper} {Q : Exit → Act → World → Prop}

theorem A8V : ∀ (fuel : Nat) (H : List A1w) (listed : Array Bool) (a : Act) (w : World), wpG P ops Q fuel H listed a w → wpAny P .any ops Q fuel listed a w
 | 0, _, _, _, _, h => h
 | fuel + 1, _, _, _, _, h => ⟨h.1, fun j hj => wpOp_mono (fun a' w' h' => A8V fuel _ _ a' w' h'.2) (h.2 j hj)⟩

theorem A8W {H H' : List A1w} (h : ∀ x ∈ H', x ∈ H) : ∀ x ∈ Hn ops j H', x ∈ Hn ops j H := by
 intro x hx
 simp only [Hn, List.mem_filter] at hx ⊢
 exact ⟨h x hx.1, hx.2⟩
theorem A5l : ∀ (fuel : Nat) {H H' : List A1w} (_ : ∀ x ∈ H', x ∈ H) (listed : Array Bool) (a : Act) (w : World), wpG P ops Q fuel H listed a w → wpG P ops Q fuel H' listed a w
 | 0, _, _, _, _, _, _, h => h
 | fuel + 1, _, _, hs, _, _, _, h => ⟨h.1, fun j hj => wpOp_mono (fun _ _ h' => ⟨fun x hx => h'.1 x (A8W hs x hx), A5l fuel (A8W hs) _ _ _ h'.2⟩) (h.2 j hj)⟩

variable {v : Value}
theorem B34 {i : Nat} {oi : Oper} {S : World → Prop} {Hx : List A1w} (hi : ops[i]? = some oi) (hsel : ∀ (j : Nat) (o : Oper) cs b, ops[j]? = some o → o.op ≠ .select cs b)
  (hQ : ∀ c a w, Q (.panic c) (a.put oi.dst v) w → Q (.panic c) a w) (hxi : ∀ h ∈ Hx, h.i = i) (hxs : ∀ w : World, (∀ h ∈ Hx, w.heap[h.b]? = some h.o) → S w) :
  ∀ (fuel : Nat) (H : List A1w) (listed : Array Bool) (a : Act) (w : World), DC ops listed →
   (∀ j oj, ops[j]? = some oj → j ≠ i → listed.getD j true = false → (∀ e ∈ oj.after, Region.binds .any e = true → e.on ≠ i) → oi.apart ops oj = true) →
   i ∈ Region.ready .any ops listed → YieldsIf P ops S oi v a →
   wpG P ops Q fuel (Hx ++ H) (listed.setIfInBounds i true) (a.put oi.dst v) w → (∀ h ∈ Hx ++ H, w.heap[h.b]? = some h.o) → wpG P ops Q (fuel + 1) H listed a w := by
 intro fuel
 induction fuel with
 | zero =>
  intro H listed a w _ _ hr hy HH hH
  refine ⟨fun h => (by rw [h] at hr; cases hr), fun j hj => ?_⟩
  by_cases hji : j = i
  ·subst hji
   exact hy.wpOp hi (hxs w fun h hh => hH h (List.mem_append_left _ hh)) ⟨fun h hh => hH h (List.mem_append_right _ (List.mem_filter.1 hh).1), HH⟩
  ·have := ready_mono hj hji
   rw [HH.1] at this
   cases this
 | succ fuel ih =>
  intro H listed a w hdc hfree hr hy HH hH
  refine ⟨fun h => (by rw [h] at hr; cases hr), fun j hj => ?_⟩
  by_cases hji : j = i
  ·subst hji
   refine hy.wpOp hi (hxs w fun h hh => hH h (List.mem_append_left _ hh)) ⟨fun h hh => hH h (List.mem_append_right _ (List.mem_filter.1 hh).1), ?_⟩
   exact A5l _ (fun x hx => List.mem_append_right _ (List.mem_filter.1 hx).1) _ _ _ HH
  ·have h1 := HH.2 j (ready_mono hj hji)
   obtain ⟨hjun, oj, hoj, hall⟩ := mem_ready.1 hj
   have hnot : ∀ e ∈ oj.after, Region.binds .any e = true → e.on ≠ i := fun e he hb heq => by
    have h1 := hall e he hb
    have h0 := (mem_ready.1 hr).1
    rw [heq] at h1
    rcases Nat.lt_or_ge i listed.size with h' | h'
    ·simp [h'] at h0 h1; rw [h0] at h1; cases h1
    ·simp [Array.getElem?_eq_none h'] at h1
   have hnodep : A0B ops j i = false := by
    cases hdd : A0B ops j i with
    | false => rfl
    | true =>
     have h1 := hdc.dep 4 j i (fun o ho e he hb => by rw [hoj] at ho; cases ho; exact hall e he hb) hdd
     have h0 := (mem_ready.1 hr).1
     rcases Nat.lt_or_ge i listed.size with h' | h'
     ·simp [h'] at h0 h1; rw [h0] at h1; cases h1
     ·simp [Array.getElem?_eq_none h'] at h1
   have hHn : Hn ops j (Hx ++ H) = Hx ++ Hn ops j H := by
    simp only [Hn, List.filter_append]
    congr 1
    rw [List.filter_eq_self]
    intro x hx
    rw [hxi x hx, hnodep]; rfl
   rw [hHn] at h1
   have h2 := wpOp_putIf hoj (hfree j oj hoj hji hjun hnot) (fun cs b => hsel i oi cs b hi) (fun cs b => hsel j oj cs b hoj) hQ hy h1
   have hfree' : ∀ k ok, ops[k]? = some ok → k ≠ i → (listed.setIfInBounds j true).getD k true = false →
     (∀ e ∈ ok.after, Region.binds .any e = true → e.on ≠ i) → oi.apart ops ok = true := fun k ok hk hki hun hno => by
    refine hfree k ok hk hki ?_ hno
    by_cases hjk : j = k
    ·subst hjk; exact hjun
    ·rw [getD_set_ne true hjk] at hun; exact hun
   refine wpOp_mono (fun a' w' h3 => ?_) h2
   obtain ⟨hy', hkeeps, hrest⟩ := h3
   refine ⟨fun h hh => hkeeps h (List.mem_append_right _ hh), ?_⟩
   refine ih (Hn ops j H) (listed.setIfInBounds j true) a' w' (hdc.step hj) hfree' (ready_mono hr (Ne.symm hji)) hy' ?_ hkeeps
   rw [Array.setIfInBounds_comm _ _ hji]
   exact hrest
end draw

structure N4 (P : Program) (Γ : M5) (ops : Array Oper) (K : Po) (H : List (Nat × Nat)) (fuel : Nat) (listed : List Bool) (σ : Sy) : Prop where
 run : ∀ a w, St Γ σ a w → ∀ Hs : List A1w, (Hs.map fun h => (h.i, h.b)) = H → (∀ h ∈ Hs, w.heap[h.b]? = some h.o) → DC ops listed.toArray → wpG P ops (lift Γ K) fuel Hs listed.toArray a w

def A0q (K : Po) : Prop := ∀ c σ, ¬ K (.panic c) σ

section anyrules
variable {P : Program} {Γ : M5} {K : Po} {ops : Array Oper} {H : List (Nat × Nat)} {env : M8} {hp : List A9} {G : IM} {fuel : Nat} {listed l' : List Bool}
variable {op : Op} {ty : TypeId} {pos : String} {af : Array Edge} {gd : Option (Nat × Bool)}

theorem St.drawn {σ : Sy} {a : Act} {w : World} (h : St Γ σ a w) (n : Nat) : St Γ σ a { w with drawn := n } := by
 have e : ∀ k : Nat, ({ w with drawn := n } : World).heap[k]? = w.heap[k]? := fun _ => rfl
 refine ⟨h.size, h.nod, h.env, ⟨⟨h.res.own.inn, fun x hx => A9.ok_ext (h.res.own.ok x hx) fun b _ => e b, h.res.own.nodup, h.res.own.disj⟩, ⟨h.res.ext.os, h.res.ext.tape, h.res.ext.output, h.res.ext.size, h.res.ext.block⟩, h.res.le, h.res.fresh, h.res.ofresh, h.res.fz⟩⟩

variable {ι : Type}
theorem B35 {S : ι → Sy} {φ : ι → Prop} {μ : ι → Nat} {i : ι} (h : A0q K) : A0q (A17 K S φ μ i) := B33 h

variable {n id : Nat}
theorem D8 (hm : P.follows .mixedOrders = true) (hn : ops.size = n) (h : N4 P Γ ops K [] n (List.replicate n false) σ) : J9 P Γ (.region id ops true) K σ := by
 refine ⟨fun a w hs => ?_⟩
 refine wp_region_any hm ?_
 rw [hn]
 have := h.run a { w with drawn := w.drawn + 1 } (hs.drawn _) [] rfl zP0 (by
  intro j hj
  exfalso
  simp only [List.toArray_replicate] at hj
  by_cases hjn : j < n
  ·simp [hjn] at hj
  ·simp [hjn] at hj)
 have h2 := A8V _ _ _ _ _ this
 simpa using h2

theorem aD (hr : Region.ready .any ops listed.toArray = []) (h : K .normal σ) : N4 P Γ ops K H fuel listed σ := by
 refine ⟨fun a w hs Hs _ _ _ => ?_⟩
 cases fuel with
 | zero => exact ⟨hr, σ, hs, h⟩
 | succ f => exact ⟨fun _ => ⟨σ, hs, h⟩, by rw [hr]; simp⟩

def A19 (ops : Array Oper) (listed : List Bool) (i : Nat) : Bool :=
 Region.noSelect ops && Region.free .any ops listed.toArray i && (Region.ready .any ops listed.toArray).contains i

variable {σ' : Sy} {v : Value}
theorem A6R {i : Nat} {d : Option Nat} {Hx : List (Nat × Nat)} (hi : ops[i]? = some ⟨d, op, ty, pos, af, gd⟩) (hK : A0q K)
  (hxi : ∀ h ∈ Hx, h.1 = i)
  (hy : ∀ a w, St Γ σ a w → ∃ Hr : List A1w, (Hr.map fun h => (h.i, h.b)) = Hx ∧ (∀ h ∈ Hr, w.heap[h.b]? = some h.o) ∧ ∃ S : World → Prop, (∀ w : World, (∀ h ∈ Hr, w.heap[h.b]? = some h.o) → S w) ∧ YieldsIf P ops S ⟨d, op, ty, pos, af, gd⟩ v a)
  (hput : ∀ a w, St Γ σ a w → St Γ σ' (a.put d v) w)
  (hq : A19 ops listed i = true) (hl : listed.set i true = l')
  (k : N4 P Γ ops K (Hx ++ H) fuel l' σ') : N4 P Γ ops K H (fuel + 1) listed σ := by
 refine ⟨fun a w hs Hs hHs hall hdc => ?_⟩
 simp only [A19, Bool.and_eq_true] at hq
 obtain ⟨⟨hs1, hs2⟩, hs3⟩ := hq
 obtain ⟨Hr, hr1, hr2, S', hS', hyi⟩ := hy a w hs
 have hall' : ∀ h ∈ Hr ++ Hs, w.heap[h.b]? = some h.o := by
  intro x hx
  rcases List.mem_append.1 hx with hx | hx
  ·exact hr2 x hx
  ·exact hall x hx
 refine B34 hi (Region.noSelect_spec hs1) (by rintro c a w ⟨σ, _, hh⟩; exact absurd hh (hK c σ)) (Hx := Hr) ?_ hS' fuel Hs listed.toArray a w hdc
  (Region.free_spec hi hs2) (by simpa using hs3) hyi ?_ hall'
 ·intro h hh
  exact hxi (h.i, h.b) (by rw [← hr1]; exact List.mem_map.2 ⟨h, hh, rfl⟩)
 ·have := k.run (a.put d v) w (hput a w hs) (Hr ++ Hs) (by simp [hr1, hHs]) hall' (by rw [← hl]; simpa using hdc.step (j := i) (by simpa using hs3))
  rw [← hl] at this
  simpa using this

variable {d : Nat}
theorem M4 {i : Nat} (hi : ops[i]? = some ⟨some d, op, ty, pos, af, gd⟩) (hK : A0q K)
  (h : A18 P Γ ⟨env, hp, G⟩ op ty b v) (hw : M6 ops env gd = some true) (hq : A19 ops listed i = true) (hd : Nat.blt d Γ.n = true)
  (hl : listed.set i true = l')
  (k : N4 P Γ ops K ((i, b) :: H) fuel l' ⟨(d, v) :: env, hp, G⟩) : N4 P Γ ops K H (fuel + 1) listed ⟨env, hp, G⟩ := by
 refine A6R (Hx := [(i, b)]) hi hK zP0 ?_ (fun a w hs => hs.put d v (by simpa using hd) hs.res) hq hl k
 intro a w hs
 obtain ⟨hb, hrun⟩ := h.run a w hs
 have hob : w.heap[b]? = some w.heap[b] := Array.getElem?_eq_getElem hb
 refine ⟨[⟨i, b, w.heap[b]⟩], rfl, by simp, fun w' => w'.heap[b]? = some w.heap[b], fun w' h => h _ List.mem_cons_self, .inl ⟨A1L hs.env hw, fun w' hw' => hrun w' (by rw [hw', hob]) _ _ _ _⟩⟩

theorem H2 {i : Nat} (hi : ops[i]? = some ⟨some d, op, ty, pos, af, gd⟩) (hK : A0q K)
  (h : J6 P Γ ⟨env, hp, G⟩ op ty v) (hw : M6 ops env gd = some true) (hq : A19 ops listed i = true) (hd : Nat.blt d Γ.n = true)
  (hl : listed.set i true = l')
  (k : N4 P Γ ops K H fuel l' ⟨(d, v) :: env, hp, G⟩) : N4 P Γ ops K H (fuel + 1) listed ⟨env, hp, G⟩ := by
 refine A6R (Hx := []) hi hK zP0 ?_ (fun a w hs => hs.put d v (by simpa using hd) hs.res) hq hl k
 intro a w hs
 exact ⟨[], rfl, by simp, fun _ => True, fun _ _ => trivial, .inl ⟨A1L hs.env hw, fun w' _ => h.run a w hs _ _ _ _ w'⟩⟩

theorem aK {i : Nat} (hi : ops[i]? = some ⟨some d, op, ty, pos, af, gd⟩) (hK : A0q K)
  (hw : M6 ops env gd = some false) (hq : A19 ops listed i = true) (hd : Nat.blt d Γ.n = true)
  (hl : listed.set i true = l')
  (k : N4 P Γ ops K H fuel l' ⟨(d, undef) :: env, hp, G⟩) : N4 P Γ ops K H (fuel + 1) listed ⟨env, hp, G⟩ := by
 refine A6R (Hx := []) hi hK zP0 ?_ (fun a w hs => hs.put d undef (by simpa using hd) hs.res) hq hl k
 intro a w hs
 exact ⟨[], rfl, by simp, fun _ => True, fun _ _ => trivial, .inr ⟨A1L hs.env hw, rfl⟩⟩

theorem A0r {i : Nat} [Decidable p] (hi : ops[i]? = some ⟨some d, op, ty, pos, af, gd⟩) (hK : A0q K)
  (h : J6 P Γ ⟨env, hp, G⟩ op ty (.bool (decide p))) (hw : M6 ops env gd = some true) (hq : A19 ops listed i = true) (hd : Nat.blt d Γ.n = true)
  (hl : listed.set i true = l')
  (kt : p → N4 P Γ ops K H fuel l' ⟨(d, .bool true) :: env, hp, G⟩) (kf : ¬ p → N4 P Γ ops K H fuel l' ⟨(d, .bool false) :: env, hp, G⟩) :
  N4 P Γ ops K H (fuel + 1) listed ⟨env, hp, G⟩ := by
 by_cases hpp : p
 ·exact H2 hi hK (by rw [decide_eq_true hpp] at h; exact h) hw hq hd hl (kt hpp)
 ·exact H2 hi hK (by rw [decide_eq_false hpp] at h; exact h) hw hq hd hl (kf hpp)

structure W6 (P : Program) (Γ : M5) (ops : Array Oper) (K : Po) (H : List (Nat × Nat)) (fuel : Nat) (listed : List Bool) (j : Nat) (σ : Sy) : Prop where
 run : ∀ a w, St Γ σ a w → ∀ Hs : List A1w, (Hs.map fun h => (h.i, h.b)) = H → (∀ h ∈ Hs, w.heap[h.b]? = some h.o) → DC ops listed.toArray → j ∈ Region.ready .any ops listed.toArray →
  wpOp P ops (lift Γ K) j (fun a' w' => (∀ h ∈ Hn ops j Hs, w'.heap[h.b]? = some h.o) ∧ wpG P ops (lift Γ K) fuel (Hn ops j Hs) (listed.toArray.setIfInBounds j true) a' w') a w

theorem aO (hr : Region.ready .any ops listed.toArray = [j]) (h : W6 P Γ ops K H fuel listed j σ) : N4 P Γ ops K H (fuel + 1) listed σ := by
 refine ⟨fun a w hs Hs hHs hall hdc => ?_⟩
 refine ⟨fun h0 => (by rw [hr] at h0; cases h0), fun k hk => ?_⟩
 have hk' := hk
 rw [hr] at hk
 simp at hk; subst hk
 exact h.run a w hs Hs hHs hall hdc hk'
theorem N5 {j' : Nat} (hr : Region.ready .any ops listed.toArray = [j, j']) (h : W6 P Γ ops K H fuel listed j σ) (h' : W6 P Γ ops K H fuel listed j' σ) : N4 P Γ ops K H (fuel + 1) listed σ := by
 refine ⟨fun a w hs Hs hHs hall hdc => ?_⟩
 refine ⟨fun h0 => (by rw [hr] at h0; cases h0), fun k hk => ?_⟩
 have hk' := hk
 rw [hr] at hk
 simp at hk
 rcases hk with rfl | rfl
 ·exact h.run a w hs Hs hHs hall hdc hk'
 ·exact h'.run a w hs Hs hHs hall hdc hk'

variable {K' : Sy → Prop} {mods : List Nat}
theorem B36 {d : Option Nat} (hi : ops[j]? = some ⟨d, op, ty, pos, af, gd⟩)
  (h : Y9 P Γ σ d op ty mods K') (hw : M6 ops σ.env gd = some true) (hl : listed.set j true = l')
  (hm : ∀ p ∈ H, A0B ops j p.1 = true ∨ p.2 ∉ mods)
  (k : ∀ σ', K' σ' → N4 P Γ ops K (H.filter fun p => !A0B ops j p.1) fuel l' σ') : W6 P Γ ops K H fuel listed j σ := by
 refine ⟨fun a w hs Hs hHs hall hdc hrd => ?_⟩
 unfold wpOp
 simp only [hi, A1L hs.env hw, if_true]
 refine .inl (h.run a w hs pos af gd _ _ fun a' w' σ' h1 h2 h3 => ?_)
 have hkeep : ∀ h ∈ Hn ops j Hs, w'.heap[h.b]? = some h.o := by
  intro x hx
  obtain ⟨hx1, hx2⟩ := List.mem_filter.1 hx
  have hp : (x.i, x.b) ∈ H := by rw [← hHs]; exact List.mem_map.2 ⟨x, hx1, rfl⟩
  have ho := hall x hx1
  rcases hm _ hp with h | h
  ·simp [h] at hx2
  ·rw [h2.block x.b (A1f ho) h, ho]
 refine ⟨hkeep, ?_⟩
 have := (k σ' h3).run a' w' h1 (Hn ops j Hs) (by
  subst hHs
  simp [Hn, List.filter_map, Function.comp_def]) hkeep (by rw [← hl]; simpa using hdc.step hrd)
 rw [← hl] at this
 simpa using this

end anyrules

structure L8 where
 size : Nat
 bytes : Nat
 zs : List Value
 desc : TypeDesc

class I4 (P : Program) (t : TypeId) (i : outParam L8) : Prop where
 info : ∃ inf, P.info? t = some inf ∧ inf.size = i.size ∧ inf.bytes = i.bytes ∧ ∃ z, inf.zero = some z ∧ z.cells = ⟨i.zs⟩
 und : P.underlying t = some i.desc

class Y1 (P : Program) (t : TypeId) (sz : outParam Nat) (bytes : outParam Nat) (zs : outParam (List Value)) : Prop where
 ok : ∃ d, I4 P t ⟨sz, bytes, zs, d⟩
 len : zs.length = sz

def A2a : TypeDesc → Bool
 | .struct _ | .array _ _ => true
 | _ => false

variable {t : TypeId} {P : Program}
theorem A8X {d : TypeDesc} (h : P.underlying t = some d) (w : World) : (isAgg t).run P w = .ok (A2a d) w := by
 simp only [isAgg, Sem.run_bind, run_underlying h, Result.andThen_ok]
 cases d <;> rfl

class U2 (P : Program) (s : TypeId) (f : Nat) (off : outParam Nat) (sz : outParam Nat) (agg : outParam Bool) : Prop where
 ok : ∃ fs fl d inf, P.underlying s = some (.struct fs) ∧ fs[f]? = some fl ∧ fl.offset = off ∧ P.info? fl.type = some inf ∧ inf.size = sz ∧ sz ≠ 0 ∧ P.underlying fl.type = some d ∧ A2a d = agg

class C1 (P : Program) (f : FuncId) : Prop where
 ok : ∃ fn, P.funcs[f]? = some fn ∧ fn.body.isNone = false ∧ (fn.name == "runtime.NumGoroutine") = false

def A1x : List Value → Nat → Nat → Option (List Value)
 | _, 0, 0 => some []
 | [], _, _ => none
 | _ :: r, off + 1, n => A1x r off n
 | v :: r, 0, n + 1 => match A1x r 0 n with
  | some l => some (v :: l)
  | none => none

theorem A5m : ∀ {cs : List Value} {off n : Nat} {vs : List Value}, A1x cs off n = some vs → vs.length = n ∧ ∀ j v, vs[j]? = some v → cs[off + j]? = some v
 | cs, 0, 0, vs, h => by cases cs <;> (simp [A1x] at h; subst h; simp)
 | [], 0, n + 1, vs, h => by simp [A1x] at h
 | [], off + 1, n, vs, h => by cases n <;> simp [A1x] at h
 | c :: r, off + 1, n, vs, h => by
  have h' : A1x r off n = some vs := by cases n <;> simpa [A1x] using h
  obtain ⟨h1, h2⟩ := A5m h'
  exact ⟨h1, fun j v hv => by have := h2 j v hv; rw [show off + 1 + j = (off + j) + 1 by omega]; simpa using this⟩
 | c :: r, 0, n + 1, vs, h => by
  simp only [A1x] at h
  split at h
  ·rename_i l hl
   simp at h; subst h
   obtain ⟨h1, h2⟩ := A5m hl
   refine ⟨by simp [h1], fun j v hv => ?_⟩
   cases j with
   | zero => simpa using hv
   | succ j => have := h2 j v (by simpa using hv); simpa using this
  ·cases h

section laws
variable {P : Program} {Γ : M5} {env : M8} {hp : List A9} {G : IM} {ty : TypeId}

variable {v : Value} {x : Operand}
theorem qM (h : evo env x = some v) : J6 P Γ ⟨env, hp, G⟩ (.move x) ty v :=
 by refine ⟨?_⟩; exact fun a _ hs _ _ _ _ w => by simp [execOp, (hs.evo h : a.eval x = v)]
theorem qA (h : evo env x = some v) : J6 P Γ ⟨env, hp, G⟩ (.assign x) ty v :=
 by refine ⟨?_⟩; exact fun a _ hs _ _ _ _ w => by simp [execOp, (hs.evo h : a.eval x = v)]
variable {y : Operand}
theorem N6 {c : Operand} (hc : evo env c = some (.bool true)) (h : evo env x = some v) : J6 P Γ ⟨env, hp, G⟩ (.pick c x y) ty v :=
 by refine ⟨?_⟩; exact fun a _ hs _ _ _ _ w => by simp [execOp, asBool, (hs.evo hc : a.eval c = _), (hs.evo h : a.eval x = v)]
theorem Q2 {c : Operand} (hc : evo env c = some (.bool false)) (h : evo env y = some v) : J6 P Γ ⟨env, hp, G⟩ (.pick c x y) ty v :=
 by refine ⟨?_⟩; exact fun a _ hs _ _ _ _ w => by simp [execOp, asBool, (hs.evo hc : a.eval c = _), (hs.evo h : a.eval y = v)]
theorem A2C {b : Bool} (h : evo env x = some (.bool b)) : J6 P Γ ⟨env, hp, G⟩ (.unOp .not t x) ty (.bool !b) :=
 by refine ⟨?_⟩; exact fun a _ hs _ _ _ _ w => by simp [execOp, Op.unary, (hs.evo h : a.eval x = _)]
theorem pNt (h : evo env x = some (.bool true)) : J6 P Γ ⟨env, hp, G⟩ (.unOp .not t x) ty (.bool false) := A2C h
theorem pNf (h : evo env x = some (.bool false)) : J6 P Γ ⟨env, hp, G⟩ (.unOp .not t x) ty (.bool true) := A2C h
variable {vs : List Value}
theorem pX {i : Nat} (h : evo env x = some (.tuple ⟨vs⟩)) (hv : vs[i]? = some v) : J6 P Γ ⟨env, hp, G⟩ (.extract x i) ty v :=
 by refine ⟨?_⟩; exact fun a _ hs _ _ _ _ w => by simp [execOp, Instr.extract, (hs.evo h : a.eval x = _), hv]
theorem A0s {p : Addr} (h : evo env x = some (.pointer (some p))) : J6 P Γ ⟨env, hp, G⟩ (.nilCheck x) ty (.pointer (some p)) :=
 by refine ⟨?_⟩; exact fun a _ hs _ _ _ _ w => by simp [execOp, (hs.evo h : a.eval x = _)]

theorem A3A (b o n : Nat) : (⟨b, o, none⟩ : Addr).add n = ⟨b, o + n, none⟩ := by
 unfold Addr.add; split
 ·rename_i h; subst h; rfl
 ·rfl

variable {ag : Bool} {o off : Nat}
theorem qF {s : TypeId} {f sz : Nat} [hI : U2 P s f off sz ag] (h : evo env x = some (.pointer (some ⟨b, o, none⟩))) :
  J6 P Γ ⟨env, hp, G⟩ (.fieldAddr s x f) ty (.pointer (some ⟨b, o + off, none⟩)) := by
 refine ⟨fun a _ hs _ _ _ _ w => ?_⟩
 obtain ⟨fs, fl, d, inf, h1, h2, h3, h4, h5, h6, _⟩ := hI.ok
 have hx : a.eval x = _ := hs.evo h
 subst h3 h5
 simp [execOp, Instr.fieldAt, hx, run_underlying h1, h2, Instr.sureAddr, fieldPlace, sizeOf, typeInfo, h4, h6, A3A]
theorem B4 {s : TypeId} {f sz : Nat} [hI : U2 P s f off sz ag] (h : evo env x = some (.pointer (some ⟨b, 0, none⟩))) :
  J6 P Γ ⟨env, hp, G⟩ (.fieldAddr s x f) ty (.pointer (some ⟨b, off, none⟩)) := by
 have := qF (P := P) (Γ := Γ) (hp := hp) (G := G) (ty := ty) (s := s) (f := f) h
 simpa using this

theorem A27 {k : IntKind} (n : Int) (hk : k = .i64) (h1 : -9223372036854775808 ≤ n) (h2 : n ≤ 9223372036854775807) : k.wrap n = n := by
 subst hk; exact IntWalk.i64_in n zO0

variable {t' : TypeId}
theorem J1 {m n : Int} (hx : evo env x = some (.int .i64 m)) (hy : evo env y = some (.int .i64 n))
  (h1 : -9223372036854775808 ≤ m + n) (h2 : m + n ≤ 9223372036854775807) : J6 P Γ ⟨env, hp, G⟩ (.binOp .add t x y t') ty (.int .i64 (m + n)) :=
 by refine ⟨?_⟩; exact fun a _ hs _ _ _ _ w => by simp [execOp, eqGuard, binOp, Op.intArith, (hs.evo hx : a.eval x = _), (hs.evo hy : a.eval y = _), A27 _ rfl h1 h2]
theorem N7 {m n : Int} (hx : evo env x = some (.int .i64 m)) (hy : evo env y = some (.int .i64 n))
  (h1 : -9223372036854775808 ≤ m - n) (h2 : m - n ≤ 9223372036854775807) : J6 P Γ ⟨env, hp, G⟩ (.binOp .sub t x y t') ty (.int .i64 (m - n)) :=
 by refine ⟨?_⟩; exact fun a _ hs _ _ _ _ w => by simp [execOp, eqGuard, binOp, Op.intArith, (hs.evo hx : a.eval x = _), (hs.evo hy : a.eval y = _), A27 _ rfl h1 h2]
theorem B37 {m n : Int} (hx : evo env x = some (.int .i64 m)) (hy : evo env y = some (.int .i64 n))
  (h1 : -9223372036854775808 ≤ m * n) (h2 : m * n ≤ 9223372036854775807) : J6 P Γ ⟨env, hp, G⟩ (.binOp .mul t x y t') ty (.int .i64 (m * n)) :=
 by refine ⟨?_⟩; exact fun a _ hs _ _ _ _ w => by simp [execOp, eqGuard, binOp, Op.intArith, (hs.evo hx : a.eval x = _), (hs.evo hy : a.eval y = _), A27 _ rfl h1 h2]
theorem A3B {n : Int} (hx : evo env x = some (.int .i64 n))
  (h1 : -9223372036854775808 ≤ -n) (h2 : -n ≤ 9223372036854775807) : J6 P Γ ⟨env, hp, G⟩ (.unOp .neg t x) ty (.int .i64 (-n)) :=
 by refine ⟨?_⟩; exact fun a _ hs _ _ _ _ w => by simp [execOp, Op.unary, Op.intArith, (hs.evo hx : a.eval x = _), A27 _ rfl h1 h2]
theorem A3C {m n : Int} (hx : evo env x = some (.int .i64 m)) (hy : evo env y = some (.int .i64 n)) (hn : n ≠ 0) :
  J6 P Γ ⟨env, hp, G⟩ (.binOp .rem t x y t') ty (.int .i64 (m.tmod n)) :=
 by refine ⟨?_⟩; exact fun a _ hs _ _ _ _ w => by simp [execOp, eqGuard, binOp, Op.intDiv, (hs.evo hx : a.eval x = _), (hs.evo hy : a.eval y = _), hn]
theorem B38 {m n : Int} (hx : evo env x = some (.int .i64 m)) (hy : evo env y = some (.int .i64 n)) (hn : n ≠ 0)
  (h1 : -9223372036854775808 ≤ m.tdiv n) (h2 : m.tdiv n ≤ 9223372036854775807) : J6 P Γ ⟨env, hp, G⟩ (.binOp .quo t x y t') ty (.int .i64 (m.tdiv n)) :=
 by refine ⟨?_⟩; exact fun a _ hs _ _ _ _ w => by simp [execOp, eqGuard, binOp, Op.intDiv, (hs.evo hx : a.eval x = _), (hs.evo hy : a.eval y = _), hn, A27 _ rfl h1 h2]

theorem qE {k : IntKind} {m n : Int} (hx : evo env x = some (.int k m)) (hy : evo env y = some (.int k n)) :
  J6 P Γ ⟨env, hp, G⟩ (.binOp .eql t x y t') ty (.bool (decide (m = n))) :=
 by
  refine ⟨fun a _ hs _ _ _ _ w => ?_⟩
  simp [execOp, eqGuard, binOp, Op.intCmp, (hs.evo hx : a.eval x = _), (hs.evo hy : a.eval y = _)]
  by_cases h : m = n <;> simp [h]
theorem R7 {k : IntKind} {m n : Int} (hx : evo env x = some (.int k m)) (hy : evo env y = some (.int k n)) :
  J6 P Γ ⟨env, hp, G⟩ (.binOp .neq t x y t') ty (.bool (decide (m ≠ n))) :=
 by
  refine ⟨fun a _ hs _ _ _ _ w => ?_⟩
  simp [execOp, eqGuard, binOp, Op.intCmp, (hs.evo hx : a.eval x = _), (hs.evo hy : a.eval y = _)]
  by_cases h : m = n <;> simp [h]
theorem J8 {k : IntKind} {m n : Int} (hx : evo env x = some (.int k m)) (hy : evo env y = some (.int k n)) :
  J6 P Γ ⟨env, hp, G⟩ (.binOp .lss t x y t') ty (.bool (decide (m < n))) :=
 by refine ⟨?_⟩; exact fun a _ hs _ _ _ _ w => by simp [execOp, eqGuard, binOp, Op.intCmp, (hs.evo hx : a.eval x = _), (hs.evo hy : a.eval y = _)]
theorem A1y {k : IntKind} {m n : Int} (hx : evo env x = some (.int k m)) (hy : evo env y = some (.int k n)) :
  J6 P Γ ⟨env, hp, G⟩ (.binOp .leq t x y t') ty (.bool (decide (m ≤ n))) :=
 by refine ⟨?_⟩; exact fun a _ hs _ _ _ _ w => by simp [execOp, eqGuard, binOp, Op.intCmp, (hs.evo hx : a.eval x = _), (hs.evo hy : a.eval y = _)]
theorem W7 {k : IntKind} {m n : Int} (hx : evo env x = some (.int k m)) (hy : evo env y = some (.int k n)) :
  J6 P Γ ⟨env, hp, G⟩ (.binOp .gtr t x y t') ty (.bool (decide (n < m))) :=
 by refine ⟨?_⟩; exact fun a _ hs _ _ _ _ w => by simp [execOp, eqGuard, binOp, Op.intCmp, (hs.evo hx : a.eval x = _), (hs.evo hy : a.eval y = _)]
theorem A1g {k : IntKind} {m n : Int} (hx : evo env x = some (.int k m)) (hy : evo env y = some (.int k n)) :
  J6 P Γ ⟨env, hp, G⟩ (.binOp .geq t x y t') ty (.bool (decide (n ≤ m))) :=
 by refine ⟨?_⟩; exact fun a _ hs _ _ _ _ w => by simp [execOp, eqGuard, binOp, Op.intCmp, (hs.evo hx : a.eval x = _), (hs.evo hy : a.eval y = _)]

variable {n c : Nat} {e : TypeId} {i : L8}
theorem pLn [hI : I4 P t i] (hd : i.desc = .slice e) {p : Option Addr} (hx : evo env x = some (.slice p n c)) :
  J6 P Γ ⟨env, hp, G⟩ (.call ⟨.builtin .len, ⟨[x]⟩, ⟨[t]⟩⟩) ty (.int .i64 n) := by
 refine ⟨fun a _ hs _ _ _ _ w => ?_⟩
 have hu := hI.und
 rw [hd] at hu
 simp [execOp, resolve, invoke, builtin, Builtin.len_, (hs.evo hx : a.eval x = _), run_underlying hu, goInt]
variable {s : ByteArray}
theorem A28 [hI : I4 P t i] (hd : i.desc = .string) (hx : evo env x = some (.string s)) :
  J6 P Γ ⟨env, hp, G⟩ (.call ⟨.builtin .len, ⟨[x]⟩, ⟨[t]⟩⟩) ty (.int .i64 s.size) := by
 refine ⟨fun a _ hs _ _ _ _ w => ?_⟩
 have hu := hI.und
 rw [hd] at hu
 simp [execOp, resolve, invoke, builtin, Builtin.len_, (hs.evo hx : a.eval x = _), run_underlying hu, goInt]

theorem A8Y {ie : L8} [hI : I4 P t i] (hd : i.desc = .slice e) [hE : I4 P e ie] {k : IntKind} {j : Int}
  (hx : evo env x = some (.slice (some ⟨b, o, none⟩) n c)) (hy : evo env y = some (.int k j)) (h0 : 0 ≤ j) (h1 : j < n) :
  J6 P Γ ⟨env, hp, G⟩ (.indexAddr t x y) ty (.pointer (some ⟨b, o + j.toNat * ie.size, none⟩)) := by
 refine ⟨fun a _ hs _ _ _ _ w => ?_⟩
 have hu := hI.und
 rw [hd] at hu
 obtain ⟨inf, g1, g2, _⟩ := hE.info
 simp [execOp, Instr.indexAt, (hs.evo hx : a.eval x = _), (hs.evo hy : a.eval y = _), asIntOf, run_underlying hu, h0, h1, sizeOf, typeInfo, g1, g2, A3A]

variable {zs : List Value} {by' : Nat}
theorem B2 {sz : Nat} [hI : I4 P t i] (hd : i.desc = .slice e) [hE : Y1 P e sz by' zs] {k : IntKind}
  (hx : evo env x = some (.slice (some ⟨b, o, none⟩) n c)) (hy : evo env y = some (.int k (j : Int))) (h1 : j < n) :
  J6 P Γ ⟨env, hp, G⟩ (.indexAddr t x y) ty (.pointer (some ⟨b, o + j * sz, none⟩)) := by
 obtain ⟨d, hE⟩ := hE.ok
 have := A8Y (P := P) (Γ := Γ) (hp := hp) (G := G) (ty := ty) (t := t) hd hx hy zO0 zO0
 simpa using this
variable {us : List Value} {xs : List Operand}
theorem A8Z {fn : Fn} {ys : List Operand} (hx : evl env xs = some us) (hy : evl env ys = some vs) :
  J6 P Γ ⟨env, hp, G⟩ (.makeFunc fn ⟨xs⟩ ⟨ys⟩) ty (.func fn ⟨us⟩ ⟨vs⟩) :=
 by refine ⟨?_⟩; exact fun a _ hs _ _ _ _ w => by simp [execOp, Instr.makeFunc, ← hs.evl hx, ← hs.evl hy]

theorem B39 {full : List Value} {f : Nat × Nat} (hb : w.heap[b]? = some (.cells full.toArray e f))
  (hv : ∀ j v, vs[j]? = some v → full[o + j]? = some v) : (loadCells ⟨b, o, none⟩ vs.length).run P w = .ok vs.toArray w :=
 run_loadCells_list w _ vs fun j v h => by rw [A3A]; simp [World.cell?, hb, hv j v h]

theorem B4a [hI : I4 P t i] (hd : A2a i.desc = false) (h : w.cell? ⟨b, o, none⟩ = some v) :
  (Instr.loadAt t (.pointer (some ⟨b, o, none⟩))).run P w = .ok v w := by
 simp [Instr.loadAt, Instr.sureAddr, loadVar, A8X hI.und, hd, h]
theorem B4b [hI : I4 P t i] (hd : A2a i.desc = true)
  (h : (loadCells ⟨b, o, none⟩ vs.length).run P w = .ok vs.toArray w) (hn : vs.length = i.size) :
  (Instr.loadAt t (.pointer (some ⟨b, o, none⟩))).run P w = .ok (.agg ⟨vs⟩) w := by
 obtain ⟨inf, g1, g2, _⟩ := hI.info
 rw [hn] at h
 simp [Instr.loadAt, Instr.sureAddr, loadVar, A8X hI.und, hd, sizeOf, typeInfo, g1, g2, h]

def At (hp : List A9) (G : IM) (b o : Nat) (vs : List Value) : Prop :=
 (∃ cs, A9.blk b cs ∈ hp ∧ ∀ j v, vs[j]? = some v → cs[o + j]? = some v) ∨
 (∃ n c el sz cs, A9.slc (some ⟨b, 0, none⟩) c el sz n cs ∈ hp ∧ ∀ j v, vs[j]? = some v → cs[o + j]? = some v) ∨
 (∃ full, G b = some full ∧ ∀ j v, vs[j]? = some v → full[o + j]? = some v)

theorem At.read (h : At hp G b o vs) (hs : St Γ ⟨env, hp, G⟩ a w) :
  ∃ full e f, w.heap[b]? = some (.cells (full : List Value).toArray e f) ∧ ∀ j v, vs[j]? = some v → full[o + j]? = some v := by
 rcases h with ⟨cs, hm, hv⟩ | ⟨n, c, el, sz, cs, hm, hv⟩ | ⟨full, hg, hv⟩
 ·obtain ⟨e, he⟩ := hs.res.own.ok _ hm
  exact ⟨cs, e, _, he, hv⟩
 ·obtain ⟨_, h2⟩ := hs.res.own.ok _ hm
  rcases h2 with ⟨h2, _⟩ | ⟨g, cap, cur, h2, _, hg, _, _, _, ht⟩
  ·cases h2
  ·cases h2
   refine ⟨cur.toList, el, _, by simpa using hg, fun j v hj => ?_⟩
   have := hv j v hj
   rw [← ht, List.getElem?_take] at this
   split at this
   ·exact this
   ·cases this
 ·obtain ⟨e, f, hb⟩ := hs.res.own.inn b full hg
  exact ⟨full, e, f, hb, hv⟩

theorem A0t [hI : I4 P t i] (hd : A2a i.desc = false)
  (hx : evo env x = some (.pointer (some ⟨b, o, none⟩))) (hv : At hp G b o [v]) : A18 P Γ ⟨env, hp, G⟩ (.load t x) ty b v := by
 refine ⟨fun a w hs => ?_⟩
 obtain ⟨full, e, f, hb, hf⟩ := hv.read hs
 refine ⟨A1f hb, fun w' hw' d pos af gd => ?_⟩
 have hc : w'.cell? ⟨b, o, none⟩ = some v := by simp [World.cell?, hw', hb, show full[o]? = some v from hf 0 v rfl]
 simp only [execOp, Sem.run_bind, (hs.evo hx : a.eval x = _), B4a hd hc]
 rfl
theorem A3 [hI : I4 P t i] (hd : A2a i.desc = true)
  (hx : evo env x = some (.pointer (some ⟨b, o, none⟩))) (hv : At hp G b o vs) (hn : vs.length = i.size) : A18 P Γ ⟨env, hp, G⟩ (.load t x) ty b (.agg ⟨vs⟩) := by
 refine ⟨fun a w hs => ?_⟩
 obtain ⟨full, e, f, hb, hf⟩ := hv.read hs
 refine ⟨A1f hb, fun w' hw' d pos af gd => ?_⟩
 have hc := B39 (P := P) (w := w') (hw'.trans hb) hf
 simp only [execOp, Sem.run_bind, (hs.evo hx : a.eval x = _), B4b hd hc hn]
 rfl

variable {cs : List Value}
theorem B9 (hm : A9.blk b cs ∈ hp) : At hp G b 0 cs := .inl ⟨cs, hm, fun j u hj => by simpa using hj⟩
theorem B4c (hm : A9.blk b cs ∈ hp) (hv : cs[o]? = some v) : At hp G b o [v] :=
 .inl ⟨cs, hm, fun j u hj => by cases j <;> simp_all⟩
theorem B4d (hm : A9.blk b cs ∈ hp) (hv : A1x cs o n = some vs) : At hp G b o vs := .inl ⟨cs, hm, (A5m hv).2⟩

theorem B4e {sz : Nat} (h : I4 P t i) (h' : Y1 P t sz by' zs) : i.size = sz := by
 obtain ⟨d, h'⟩ := h'.ok
 obtain ⟨i1, a1, a2, _⟩ := h.info
 obtain ⟨i2, b1, b2, _⟩ := h'.info
 rw [a1] at b1; cases b1
 rw [← a2, b2]
theorem A4 {sz : Nat} [hI : I4 P t i] [hS : Y1 P t sz by' zs] (hd : A2a i.desc = true)
  (hx : evo env x = some (.pointer (some ⟨b, o, none⟩))) (hm : A9.blk b cs ∈ hp := by repeat first | exact List.Mem.head _ | apply List.Mem.tail) (hv : A1x cs o sz = some vs := by rfl) : A18 P Γ ⟨env, hp, G⟩ (.load t x) ty b (.agg ⟨vs⟩) :=
 A3 hd hx (B4d hm hv) (by rw [B4e hI hS]; exact (A5m hv).1)
theorem C0 [hI : I4 P t i] (hd : A2a i.desc = false)
  (hx : evo env x = some (.pointer (some ⟨b, o, none⟩))) (hm : A9.blk b cs ∈ hp := by repeat first | exact List.Mem.head _ | apply List.Mem.tail) (hv : cs[o]? = some v := by rfl) : A18 P Γ ⟨env, hp, G⟩ (.load t x) ty b v :=
 A0t hd hx (B4c hm hv)
variable {el : Nat}
theorem A80 {sz : Nat} (hm : A9.slc (some ⟨b, 0, none⟩) c el sz n cs ∈ hp) (hv : ∀ j v, vs[j]? = some v → cs[o + j]? = some v) : At hp G b o vs := .inr (.inl ⟨n, c, el, sz, cs, hm, hv⟩)
theorem O4 {sz : Nat} (hm : A9.slc (some ⟨b, 0, none⟩) c el sz n cs ∈ hp) : At hp G b 0 cs := .inr (.inl ⟨n, c, el, sz, cs, hm, fun j v hj => by simpa using hj⟩)
theorem A4q {full : List Value} (hg : G b = some full) (hv : ∀ j v, vs[j]? = some v → full[o + j]? = some v) : At hp G b o vs := .inr (.inr ⟨full, hg, hv⟩)

theorem A5n [hI : I4 P t i] (hd : i.desc = .string) {k : IntKind} {j : Int} {b : UInt8}
  (hx : evo env x = some (.string s)) (hy : evo env y = some (.int k j)) (h0 : 0 ≤ j) (hb : s[j.toNat]? = some b) :
  J6 P Γ ⟨env, hp, G⟩ (.index t x y) ty (.int .u8 b.toNat) := by
 refine ⟨fun a _ hs _ _ _ _ w => ?_⟩
 have hu := hI.und
 rw [hd] at hu
 simp only [execOp, Instr.index, (hs.evo hx : a.eval x = _), (hs.evo hy : a.eval y = _), asIntOf, Sem.run_bind, Sem.run_pure, Result.andThen_ok, run_underlying hu, h0, if_true, hb]
theorem A3D {r : ByteArray} (hx : evo env x = some (.string r)) (hy : evo env y = some (.string s)) (hs' : r.size + s.size ≤ 9223372036854775807) :
  J6 P Γ ⟨env, hp, G⟩ (.binOp .add t x y t') ty (.string (r ++ s)) := by
 refine ⟨fun a _ hs _ _ _ _ w => ?_⟩
 have : ¬ (((r.size + s.size : Nat) : Int) > IntKind.i64.max) := by simp [IntKind.max, IntKind.signed, IntKind.bits]; omega
 simp only [execOp, eqGuard, binOp, Op.stringOp, (hs.evo hx : a.eval x = _), (hs.evo hy : a.eval y = _), this, if_false]
 simp
theorem toList_eq (r s : ByteArray) : (r.toList == s.toList) = decide (r = s) := by
 by_cases h : r = s
 ·subst h; simp
 ·have : r.toList ≠ s.toList := by
   intro e
   apply h
   have := congrArg List.toArray e
   rw [ByteArray.toList_eq, ByteArray.toList_eq] at this
   cases r; cases s; simpa using this
  simp [h, this]
theorem A1h {r : ByteArray} (hx : evo env x = some (.string r)) (hy : evo env y = some (.string s)) :
  J6 P Γ ⟨env, hp, G⟩ (.binOp .eql t x y t') ty (.bool (decide (r = s))) := by
 refine ⟨fun a _ hs _ _ _ _ w => ?_⟩
 simp only [execOp, eqGuard, binOp, Op.stringOp, (hs.evo hx : a.eval x = _), (hs.evo hy : a.eval y = _), toList_eq]
 simp
theorem A5o {r : ByteArray} (hx : evo env x = some (.string r)) (hy : evo env y = some (.string s)) :
  J6 P Γ ⟨env, hp, G⟩ (.binOp .neq t x y t') ty (.bool (decide (r ≠ s))) := by
 refine ⟨fun a _ hs _ _ _ _ w => ?_⟩
 simp only [execOp, eqGuard, binOp, Op.stringOp, (hs.evo hx : a.eval x = _), (hs.evo hy : a.eval y = _), toList_eq]
 simp
theorem B4f [hI : I4 P t i] (hd : i.desc = .bool) (r s : Bool) (w : World) : (Op.equal t (.bool r) (.bool s)).run P w = .ok (r == s) w := by
 have hu := hI.und
 rw [hd] at hu
 have h : ∀ d, (Op.equalIn (d + 1) t (.bool r) (.bool s)).run P w = .ok (r == s) w := fun d => by
  simp only [Op.equalIn, Sem.run_bind, run_underlying hu, Result.andThen_ok, Sem.run_pure]
 exact h 9999
theorem A6S [hI : I4 P t i] (hd : i.desc = .bool) {r s : Bool} (hx : evo env x = some (.bool r)) (hy : evo env y = some (.bool s)) :
  J6 P Γ ⟨env, hp, G⟩ (.binOp .neq t x y t') ty (.bool (decide (r ≠ s))) := by
 refine ⟨fun a _ hs _ _ _ _ w => ?_⟩
 simp only [execOp, eqGuard, binOp, (hs.evo hx : a.eval x = _), (hs.evo hy : a.eval y = _), Sem.run_bind, B4f hd, Sem.run_pure, Result.andThen_ok]
 cases r <;> cases s <;> rfl
theorem B4g [hI : I4 P t i] (hd : i.desc = .slice e) (p : Option Addr) (n c : Nat) (w : World) : (Op.equal t (.slice p n c) (.slice none 0 0)).run P w = .ok p.isNone w := by
 have hu := hI.und
 rw [hd] at hu
 have h : ∀ d, (Op.equalIn (d + 1) t (.slice p n c) (.slice none 0 0)).run P w = .ok p.isNone w := fun d => by
  cases p <;> simp only [Op.equalIn, Sem.run_bind, run_underlying hu, Result.andThen_ok, Sem.run_pure, Option.isNone]
 exact h 9999
theorem A81 [hI : I4 P t i] (hd : i.desc = .slice e) {p : Option Addr} (hx : evo env x = some (.slice p n c)) (hy : evo env y = some (.slice none 0 0)) :
  J6 P Γ ⟨env, hp, G⟩ (.binOp .eql t x y t') ty (.bool (decide (p = none))) := by
 refine ⟨fun a _ hs _ _ _ _ w => ?_⟩
 simp only [execOp, eqGuard, binOp, (hs.evo hx : a.eval x = _), (hs.evo hy : a.eval y = _), Sem.run_bind, B4g hd, Sem.run_pure, Result.andThen_ok]
 cases p <;> rfl
theorem B4h [hI : I4 P t i] (hd : i.desc = .slice e) (hx : evo env x = some (.slice none n c)) (hy : evo env y = some (.slice none 0 0)) :
  J6 P Γ ⟨env, hp, G⟩ (.binOp .eql t x y t') ty (.bool true) := A81 hd hx hy
theorem A6T [hI : I4 P t i] (hd : i.desc = .slice e) {p : Addr} (hx : evo env x = some (.slice (some p) n c)) (hy : evo env y = some (.slice none 0 0)) :
  J6 P Γ ⟨env, hp, G⟩ (.binOp .eql t x y t') ty (.bool false) := A81 hd hx hy
end laws

section steps
variable {P : Program} {Γ : M5} {env : M8} {hp : List A9} {G : IM} {ty : TypeId}

theorem A82 (w : World) (hin : A4m G w) (cs : List Value) (e : TypeId) : S0 [] G w [.blk w.heap.size cs] G (w.alloc (.cells cs.toArray e)) := by
 have hb : (w.alloc (.cells cs.toArray e)).heap[w.heap.size]? = some (.cells cs.toArray e (0, 0)) := heap_alloc_new w _
 have hold : ∀ k, k < w.heap.size → (w.alloc (.cells cs.toArray e)).heap[k]? = w.heap[k]? := fun k hk => Below.heap_alloc w _ k hk
 refine ⟨⟨?_, ?_, by simp [Fp, A9.fp], ?_⟩, ⟨rfl, rfl, rfl, by simp, fun k hk _ => hold k hk⟩, C3.refl _, fun _ _ h => .inl h, ?_, fun b l h h0 => absurd h (by rw [h0]; simp)⟩
 ·intro b l hg
  obtain ⟨e', f', h'⟩ := hin b l hg
  exact ⟨e', f', by rw [hold b (A1f h')]; exact h'⟩
 ·intro x hx
  simp at hx; subst hx
  exact ⟨e, hb⟩
 ·intro b hb
  simp [Fp, A9.fp] at hb; subst hb
  cases hg : G w.heap.size with
  | none => rfl
  | some l => exact absurd (hin.lt hg) zO0
 ·intro b hb
  simp [Fp, A9.fp] at hb; subst hb
  exact .inl (Nat.le_refl _)

theorem St.step (hs : St Γ ⟨env, hp, G⟩ a w) (p : hp.Perm (ins ++ rest)) (r : S0 ins G w outs G' w') (q : (outs ++ rest).Perm hp')
  {d : Option Nat} {v : Value} (hd : dok Γ.n d = true) : St Γ ⟨dpu d v env, hp', G'⟩ (a.put d v) w' :=
 hs.dput d v hd (((hs.res.perm p).frame r).perm q)

variable {cs : List Value} {d : Nat}
theorem A6U {mk : Nat → Value} (hd : Nat.blt d Γ.n = true)
  (hrun : ∀ a w, St Γ ⟨env, hp, G⟩ a w → ∃ e, ∀ d pos af gd, (execOp a.eval ⟨d, op, ty, pos, af, gd⟩).run P w = .ok (.value (mk w.heap.size)) (w.alloc (.cells cs.toArray e))) :
  Y9 P Γ ⟨env, hp, G⟩ (some d) op ty [] (fun σ' => ∃ b, σ' = ⟨(d, mk b) :: env, .blk b cs :: hp, G⟩) := by
 refine ⟨fun a w hs pos af gd Q next hn => ?_⟩
 obtain ⟨e, hr⟩ := hrun a w hs
 simp only [Oper.wp, hr, Oper.upon]
 have hr' := A82 w hs.res.own.inn cs e
 exact hn _ _ _ (hs.step (ins := []) (rest := hp) (List.Perm.refl _) hr' (List.Perm.refl _) (d := some d) hd) hr'.ext ⟨w.heap.size, rfl⟩

variable {vs : List Value} {x : Operand}
theorem D0 (hx : evo env x = some (.agg ⟨vs⟩)) (hd : Nat.blt d Γ.n = true) :
  Y9 P Γ ⟨env, hp, G⟩ (some d) (.box t x) ty [] (fun σ' => ∃ b, σ' = ⟨(d, .pointer (some ⟨b, 0, none⟩)) :: env, .blk b vs :: hp, G⟩) :=
 A6U hd fun a w hs => ⟨t, fun _ _ _ _ => by simp [execOp, Instr.box, newVar, newRow, newObj, Sem.run, (hs.evo hx : a.eval x = _), Value.cells]⟩
variable {v : Value}
theorem B4i (hx : evo env x = some v) (hv : v.cells = ⟨[v]⟩) (hd : Nat.blt d Γ.n = true) :
  Y9 P Γ ⟨env, hp, G⟩ (some d) (.box t x) ty [] (fun σ' => ∃ b, σ' = ⟨(d, .pointer (some ⟨b, 0, none⟩)) :: env, .blk b [v] :: hp, G⟩) :=
 A6U hd fun a w hs => ⟨t, fun _ _ _ _ => by simp [execOp, Instr.box, newVar, newRow, newObj, Sem.run, (hs.evo hx : a.eval x = _), hv]⟩
variable {zs : List Value} {by' : Nat}
theorem A8 {sz : Nat} [hI : Y1 P t sz by' zs] (hd : Nat.blt d Γ.n = true) :
  Y9 P Γ ⟨env, hp, G⟩ (some d) (.alloc t) ty [] (fun σ' => ∃ b, σ' = ⟨(d, .pointer (some ⟨b, 0, none⟩)) :: env, .blk b zs :: hp, G⟩) :=
 A6U hd fun a w hs => ⟨t, fun _ _ _ _ => by
  obtain ⟨_, hI⟩ := hI.ok
  obtain ⟨inf, g1, _, _, z, g4, g5⟩ := hI.info
  simp [execOp, Instr.alloc, zeroValue, typeInfo, g1, g4, newVar, newRow, newObj, Sem.run, g5]⟩

inductive Sw : List A9 → A9 → A9 → List A9 → Prop
 | here {e e' : A9} {r : List A9} : Sw (e :: r) e e' (e' :: r)
 | there {x e e' : A9} {r r' : List A9} : Sw r e e' r' → Sw (x :: r) e e' (x :: r')

theorem Sw.perm {e e' : A9} (h : Sw hp e e' hp') : ∃ rest, hp.Perm ([e] ++ rest) ∧ ([e'] ++ rest).Perm hp' := by
 induction h with
 | @here e e' r => exact ⟨r, List.Perm.refl _, List.Perm.refl _⟩
 | @there x e e' r r' _ ih =>
  obtain ⟨rest, h1, h2⟩ := ih
  refine ⟨x :: rest, (h1.cons x).trans ?_, List.Perm.trans ?_ (h2.cons x)⟩
  ·exact List.Perm.swap _ _ _
  ·exact List.Perm.swap _ _ _
def T4 : List Value → Nat → List Value → Option (List Value)
 | cs, 0, [] => some cs
 | [], 0, _ :: _ => none
 | _ :: cs, 0, v :: vs => match T4 cs 0 vs with
  | some r => some (v :: r)
  | none => none
 | [], _ + 1, _ => none
 | c :: cs, o + 1, vs => match T4 cs o vs with
  | some r => some (c :: r)
  | none => none
theorem A3E : ∀ {cs : List Value} {o : Nat} {vs cs' : List Value}, T4 cs o vs = some cs' → cs' = cs.take o ++ vs ++ cs.drop (o + vs.length) ∧ o + vs.length ≤ cs.length
 | cs, 0, [], cs', h => by cases cs <;> (simp [T4] at h; subst h; simp)
 | [], 0, v :: vs, cs', h => by simp [T4] at h
 | c :: cs, 0, v :: vs, cs', h => by
  simp only [T4] at h
  split at h
  ·rename_i r hr
   simp at h; subst h
   obtain ⟨h1, h2⟩ := A3E hr
   constructor
   ·simp [h1]
   ·simp at h2 ⊢; omega
  ·cases h
 | [], o + 1, vs, cs', h => by simp [T4] at h
 | c :: cs, o + 1, vs, cs', h => by
  simp only [T4] at h
  split at h
  ·rename_i r hr
   simp at h; subst h
   obtain ⟨h1, h2⟩ := A3E hr
   constructor
   ·rw [h1, show o + 1 + vs.length = (o + vs.length) + 1 by omega]; simp
   ·simp; omega
  ·cases h
theorem E0 (h : cs.length = vs.length) : T4 cs 0 vs = some vs := by
 induction cs generalizing vs with
 | nil => cases vs with
  | nil => rfl
  | cons v vs => simp at h
 | cons c cs ih => cases vs with
  | nil => simp at h
  | cons v vs => simp only [T4, ih (vs := vs) (by simpa using h)]

variable {cs' : List Value} {o : Nat}
theorem B4j (hown : U5 [.blk b cs] G w) (hu : cs' = cs.take o ++ vs ++ cs.drop (o + vs.length)) :
  S0 [.blk b cs] G w [.blk b cs'] G (w.setRow b cs'.toArray) := by
 obtain ⟨e, hb⟩ := hown.ok _ List.mem_cons_self
 refine ⟨⟨?_, ?_, by simp [Fp, A9.fp], ?_⟩, ⟨rfl, rfl, rfl, by simp [World.setRow], fun k _ hk => setRow_other w b k _ (by rintro rfl; simp [Fp, A9.fp] at hk)⟩, C3.refl _, fun _ _ h => .inl h, ?_, fun b l h h0 => absurd h (by rw [h0]; simp)⟩
 ·intro k l hg
  obtain ⟨e', f', h'⟩ := hown.inn k l hg
  refine ⟨e', f', ?_⟩
  rw [setRow_other w b k _ ?_]
  ·exact h'
  ·rintro rfl
   have := hown.disj k (by simp [Fp, A9.fp])
   rw [this] at hg; cases hg
 ·intro x hx
  simp at hx; subst hx
  exact ⟨e, setRow_heap w b cs.toArray cs'.toArray e (0, 0) hb⟩
 ·intro k hk
  exact hown.disj k (by simpa [Fp, A9.fp] using hk)
 ·intro k hk
  exact .inr (by simpa [Fp, A9.fp] using hk)

theorem U5.of_mem {e : A9} (h : U5 hp G w) (p : hp.Perm ([e] ++ rest)) : U5 [e] G w := (h.perm p).left

variable {i : L8} {y : Operand}
theorem A6V {d : Option Nat} [hI : I4 P t i]
  (hx : evo env x = some (.pointer (some ⟨b, o, none⟩))) (hy : evo env y = some v) (hv : v.cells = ⟨vs⟩) (hsz : vs.length = i.size) (h1 : vs.all (·.oneCell') = true)
  (hu : T4 cs o vs = some cs') (hm : Sw hp (.blk b cs) (.blk b cs') hp') (hd : dok Γ.n d = true) :
  Y9 P Γ ⟨env, hp, G⟩ d (.store t x y) ty [b] (fun σ' => σ' = ⟨dpu d undef env, hp', G⟩) := by
 refine ⟨fun a w hs pos af gd Q next hn => ?_⟩
 obtain ⟨rest, p1, p2⟩ := hm.perm
 have hown : U5 [.blk b cs] G w := hs.res.own.of_mem p1
 obtain ⟨e, hb⟩ := hown.ok _ List.mem_cons_self
 obtain ⟨u1, u2⟩ := A3E hu
 have hst := run_storeCells_at P b o e vs 0 cs.toArray w hb (by simpa using u2) (by simpa using h1)
 simp only [Nat.add_zero, ← u1] at hst
 obtain ⟨inf, g1, g2, _⟩ := hI.info
 have hrun : (execOp a.eval ⟨d, .store t x y, ty, pos, af, gd⟩).run P w = .ok .skip (w.setRow b cs'.toArray) := by
  simp [execOp, Instr.storeAt, Instr.sureAddr, (hs.evo hx : a.eval x = _), (hs.evo hy : a.eval y = _), storeVar, sizeOf, typeInfo, g1, g2, hv, hsz, hst]
 simp only [Oper.wp, hrun, Oper.upon]
 have hr' := B4j (o := o) hown u1
 exact hn _ _ _ (hs.step p1 hr' p2 hd) (by simpa [Fp, A9.fp] using hr'.ext) rfl

structure Fn (P : Program) (f : FuncId) (args : List Value) (ins : List A9) (G : IM) (post : IM → Value → List A9 → Prop) : Prop where
 run : ∀ w, U5 ins G w → Calls P f ⟨args⟩ w fun e w' => ∃ v G' outs, e = .returned v ∧ S0 ins G w outs G' w' ∧ post G' v outs

theorem Fn.mono {f : FuncId} {args : List Value} {ins : List A9} {post post' : IM → Value → List A9 → Prop} (h : Fn P f args ins G post) (hp : ∀ G' v outs, C3 G G' → post G' v outs → post' G' v outs) :
  Fn P f args ins G post' :=
 ⟨fun w hw => (h.run w hw).mono fun _ _ ⟨v, G', outs, h1, h2, h3⟩ => ⟨v, G', outs, h1, h2, hp _ _ _ h2.le h3⟩⟩

variable {f : FuncId}
theorem A83 [hF : C1 P f] (args : Array Value) (w : World) : (callFunc f args).run P w = .ok (.enter f args) w := by
 obtain ⟨fn, h1, h2, h3⟩ := hF.ok
 simp only [callFunc, program, Sem.run_bind, Sem.run, Result.andThen_ok, h1, h2, h3, Bool.false_eq_true, if_false]
 rfl

variable {post : IM → Value → List A9 → Prop}
theorem A6W
  (he : ∀ a w, St Γ ⟨env, hp, G⟩ a w → ∀ d pos af gd, (execOp a.eval ⟨d, op, ty, pos, af, gd⟩).run P w = .ok (.enter f ⟨vs⟩) w)
  (h : Fn P f vs ins G post) (hp' : hp.Perm (ins ++ rest)) (hd : Nat.blt d Γ.n = true) :
  Y9 P Γ ⟨env, hp, G⟩ (some d) op ty (Fp ins) (fun σ' => ∃ v G' outs, σ' = ⟨(d, v) :: env, outs ++ rest, G'⟩ ∧ C3 G G' ∧ post G' v outs) := by
 refine ⟨fun a w hs pos af gd Q next hn => ?_⟩
 simp only [Oper.wp, he a w hs, Oper.upon]
 refine (h.run w (hs.res.own.perm hp').left).mono ?_
 rintro e w' ⟨v, G', outs, rfl, h2, h3⟩
 exact hn _ _ _ (hs.step hp' h2 (List.Perm.refl _) (d := some d) hd) h2.ext ⟨v, G', outs, rfl, h2.le, h3⟩

variable {ats : Array TypeId} {xs : List Operand}
theorem A84 [hF : C1 P f] {w1 : World} (hs : St Γ ⟨env, hp, G⟩ a w1) (hx : evl env xs = some vs) (d : Option Tmp) (pos : String) (af : Array Edge) (gd : Option (Nat × Bool)) :
  (execOp a.eval ⟨d, .call ⟨.value (.func f), ⟨xs⟩, ats⟩, ty, pos, af, gd⟩).run P w = .ok (.enter f ⟨vs⟩) w := by
 have e2 := hs.evl hx
 simp [execOp, resolve, invoke, Deferred.ofValue, Act.eval, A83]
 exact e2

theorem A3F [hF : C1 P f]
  (hx : evl env xs = some vs) (h : Fn P f vs [] G post) (hd : Nat.blt d Γ.n = true) :
  Y9 P Γ ⟨env, hp, G⟩ (some d) (.call ⟨.value (.func f), ⟨xs⟩, ats⟩) ty [] (fun σ' => ∃ v G' outs, σ' = ⟨(d, v) :: env, outs ++ hp, G'⟩ ∧ C3 G G' ∧ post G' v outs) :=
 A6W (fun _ _ hs _ _ _ _ => A84 hs hx _ _ _ _) h (List.Perm.refl _) hd
theorem A5p [hF : C1 P f]
  (hx : evl env xs = some vs) (h : Fn P f vs ins G post) (hp' : hp.Perm (ins ++ rest)) (hd : Nat.blt d Γ.n = true) :
  Y9 P Γ ⟨env, hp, G⟩ (some d) (.call ⟨.value (.func f), ⟨xs⟩, ats⟩) ty (Fp ins) (fun σ' => ∃ v G' outs, σ' = ⟨(d, v) :: env, outs ++ rest, G'⟩ ∧ C3 G G' ∧ post G' v outs) :=
 A6W (fun _ _ hs _ _ _ _ => A84 hs hx _ _ _ _) h hp' hd
variable {us : List Value} {g : Operand}
theorem A6X [hF : C1 P f]
  (hg : evo env g = some (.func (.func f) ⟨us⟩ ⟨cs⟩)) (hx : evl env xs = some vs) (h : Fn P f (us ++ vs ++ cs) ins G post) (hp' : hp.Perm (ins ++ rest)) (hd : Nat.blt d Γ.n = true) :
  Y9 P Γ ⟨env, hp, G⟩ (some d) (.call ⟨.value g, ⟨xs⟩, ats⟩) ty (Fp ins) (fun σ' => ∃ v G' outs, σ' = ⟨(d, v) :: env, outs ++ rest, G'⟩ ∧ C3 G G' ∧ post G' v outs) :=
 A6W (fun a w hs _ _ _ _ => by
  have e1 : a.eval g = _ := hs.evo hg
  have e2 := hs.evl hx
  simp [execOp, resolve, invoke, Deferred.ofValue, e1, e2, A83]) h hp' hd

def rdR (tmps : Array Value) : ResultVar → Sem Value
 | .tmp t => pure (tmps.getD t undef)
 | .cell x t => do loadVar t (← asAddr (tmps.getD x undef))
theorem B4k (fn : Func) (tmps : Array Value) : results fn tmps = (do let vs ← fn.results.mapM (rdR tmps); pure (if h : vs.size = 1 then vs[0] else .tuple vs)) := by
 unfold results
 congr 1
def A0u (P : Program) (Γ : M5) (σ : Sy) (r : ResultVar) (v : Value) : Prop := ∀ a w, St Γ σ a w →
 (rdR a.tmps r).run P w = .ok v w

theorem rT {t : Nat} (h : A0h env t = some v) : A0u P Γ ⟨env, hp, G⟩ (.tmp t) v :=
 fun a w hs => by simp only [rdR, Sem.run_pure]; rw [hs.env t v h]
theorem rC {x t : Nat} (hx : A0h env x = some (.pointer (some ⟨b, o, none⟩))) (h : A18 P Γ ⟨env, hp, G⟩ (.load t (.tmp x)) 0 b v) : A0u P Γ ⟨env, hp, G⟩ (.cell x t) v := by
 intro a w hs
 have h1 := (h.run a w hs).2 w rfl none "" #[] none
 have hx' := hs.env x _ hx
 have he : a.eval (.tmp x) = .pointer (some ⟨b, o, none⟩) := hx'
 simp only [execOp, Sem.run_bind, Instr.loadAt, he, Instr.sureAddr, Sem.run_pure, Result.andThen_ok] at h1
 simp only [rdR, hx', asAddr, Sem.run_bind, Sem.run_pure, Result.andThen_ok]
 cases hl : (loadVar t ⟨b, o, none⟩).run P w with
 | ok u w' => rw [hl] at h1; simp at h1; rw [h1.1, h1.2]
 | halt hh w' => rw [hl] at h1; simp at h1

inductive A2b (P : Program) (Γ : M5) (σ : Sy) : List ResultVar → List Value → Prop
 | nil : A2b P Γ σ [] []
 | cons {r : ResultVar} {v : Value} {rs : List ResultVar} {vs : List Value} : A0u P Γ σ r v → A2b P Γ σ rs vs → A2b P Γ σ (r :: rs) (v :: vs)

def A29 : List Value → Value
 | [v] => v
 | vs => .tuple ⟨vs⟩

theorem A6Y {α β : Type} (f : α → Sem β) (w : World) : ∀ (xs : List α) (ys : List β), xs.length = ys.length → (∀ (j : Nat) (x : α) (y : β), xs[j]? = some x → ys[j]? = some y → (f x).run P w = .ok y w) →
  (xs.mapM f).run P w = .ok ys w
 | [], [], _, _ => by simp
 | x :: xs, y :: ys, hl, h => by
  have h0 := h 0 x y rfl rfl
  have ih := A6Y f w xs ys (by simpa using hl) (fun j a b ha hb => h (j + 1) a b (by simpa using ha) (by simpa using hb))
  simp [List.mapM_cons, h0, ih]
 | [], _ :: _, hl, _ => by simp at hl
 | _ :: _, [], hl, _ => by simp at hl

theorem A2b.run {σ : Sy} {rs : List ResultVar} {vs : List Value} (h : A2b P Γ σ rs vs) {a : Act} {w : World} (hs : St Γ σ a w) : rs.length = vs.length ∧ ∀ (j : Nat) (x : ResultVar) (y : Value), rs[j]? = some x → vs[j]? = some y →
  (rdR a.tmps x).run P w = .ok y w := by
 induction h with
 | nil => exact ⟨rfl, fun j x y hx => by simp at hx⟩
 | @cons r v rs vs hr _ ih =>
  refine ⟨by simp [ih.1], fun j x y hx hy => ?_⟩
  cases j with
  | zero => simp at hx hy; subst hx hy; exact hr a w hs
  | succ j => exact ih.2 j x y (by simpa using hx) (by simpa using hy)

structure A03 (P : Program) (Γ : M5) (rs : List ResultVar) (post : IM → Value → List A9 → Prop) (e : Exit) (σ : Sy) : Prop where
 run : match e with
  | .ret | .normal => ∃ vs, A2b P Γ σ rs vs ∧ ∃ outs r, σ.hp.Perm (outs ++ r) ∧ post σ.G (A29 vs) outs
  | _ => False

def A3G : Nat → List Value → M8
 | _, [] => []
 | k, v :: vs => (k, v) :: A3G (k + 1) vs

theorem A85 : ∀ (vs : List Value) (k t : Nat) (v : Value), A0h (A3G k vs) t = some v → k ≤ t ∧ vs[t - k]? = some v
 | [], k, t, v, h => by simp [A3G, A0h] at h
 | u :: us, k, t, v, h => by
  simp only [A3G] at h
  rw [A6O] at h
  by_cases e : k = t
  ·subst e; simp at h; subst h; simp
  ·rw [if_neg e] at h
   obtain ⟨h1, h2⟩ := A85 us (k + 1) t v h
   refine ⟨by omega, ?_⟩
   rw [show t - k = (t - (k + 1)) + 1 by omega]
   simpa using h2

variable {rs : List ResultVar} {n : Nat}
theorem C4 {fn : Func} {c : Code} {args : List Value}
  (hf : P.funcs[f]? = some fn) (hb : fn.body = some c) (hn : fn.ntmps = n) (hr : fn.results = ⟨rs⟩) (hle : Nat.ble args.length n = true)
  (h : ∀ w0, J9 P ⟨n, ins, G, w0⟩ c (A03 P ⟨n, ins, G, w0⟩ rs post) ⟨A3G 0 args, ins, G⟩) : Fn P f args ins G post := by
 refine ⟨fun w hw => ?_⟩
 have hle' : args.length ≤ n := by simpa using hle
 refine calls_of_wp hf hb ?_
 let a : Act := { tmps := (⟨args⟩ : Array Value) ++ Array.replicate (fn.ntmps - (⟨args⟩ : Array Value).size) undef, defers := [] }
 have hs : St ⟨n, ins, G, w⟩ ⟨A3G 0 args, ins, G⟩ a w := by
  refine ⟨?_, rfl, ?_, S0.refl hw⟩
  ·simp [a, hn]; omega
  ·intro t v ht
   obtain ⟨_, h2⟩ := A85 args 0 t v ht
   simp only [Nat.sub_zero] at h2
   have hlt : t < args.length := (List.getElem?_eq_some_iff.1 h2).1
   simp [a, Array.getD_eq_getD_getElem?, Array.getElem?_append, hlt]
   simp [List.getElem?_eq_getElem hlt] at h2
   exact h2
 refine wp_mono ((h w).run a w hs) ?_
 rintro e a' w' ⟨σ, hs', ⟨hk⟩⟩
 have fin : (∃ vs, A2b P ⟨n, ins, G, w⟩ σ rs vs ∧ ∃ outs r, σ.hp.Perm (outs ++ r) ∧ post σ.G (A29 vs) outs) → a'.defers = [] ∧ ∃ v, (results fn a'.tmps).run P w' = .ok v w' ∧
   ∃ v_1 G' outs, Ending.returned v = Ending.returned v_1 ∧ S0 ins G w outs G' w' ∧ post G' v_1 outs := by
  rintro ⟨vs, hra, outs, r, hp', hpost⟩
  refine ⟨hs'.nod, A29 vs, ?_, A29 vs, σ.G, outs, rfl, (hs'.res.perm hp').left, hpost⟩
  obtain ⟨hl, hrun⟩ := hra.run hs'
  have hm : (fn.results.mapM (rdR a'.tmps)).run P w' = .ok ⟨vs⟩ w' := by
   rw [hr, Array.mapM_eq_mapM_toList]
   simp only [Sem.run_map]
   rw [A6Y _ w' rs vs hl hrun]
   rfl
  rw [B4k]
  simp only [Sem.run_bind]
  rw [hm]
  simp only [Result.andThen_ok, Sem.run_pure]
  congr 1
  unfold A29
  split
  ·rename_i hsz
   match vs, hsz with
   | [v], _ => rfl
  ·rename_i hsz
   split
   ·exact absurd rfl hsz
   ·rfl
 cases e <;> first | exact fin hk | exact hk.elim


variable {K : Po}
theorem nS {y : Code} (h : J9 P Γ y K σ) : A1v P Γ y K .normal σ := ⟨h⟩
theorem rS {y : Code} (h : K .ret σ) : A1v P Γ y K .ret σ := ⟨h⟩
theorem B4l {y : Code} {i : Nat} (h : K (.exit i) σ) : A1v P Γ y K (.exit i) σ := ⟨h⟩
theorem B4m {i : Nat} (h : K .normal σ) : A16 i K .normal σ := ⟨h⟩
theorem rB {i : Nat} (h : K .ret σ) : A16 i K .ret σ := ⟨h⟩
theorem B4n {i : Nat} (h : K .normal σ) : A16 i K (.exit i) σ := ⟨by simp [h]⟩
theorem A86 (h : A2b P Γ σ rs vs) (hp : ∃ r, σ.hp.Perm (outs ++ r)) (hk : post σ.G (A29 vs) outs) :
  A03 P Γ rs post .ret σ := ⟨vs, h, outs, hp.choose, hp.choose_spec, hk⟩
theorem A5q (h : A2b P Γ σ rs vs) (hk : post σ.G (A29 vs) []) :
  A03 P Γ rs post .ret σ := ⟨vs, h, [], σ.hp, List.Perm.refl _, hk⟩

theorem B4o {y : Code} (h : A0q K) : A0q (A1v P Γ y K) := fun c σ hk => h c σ hk.run
theorem B4p {i : Nat} (h : A0q K) : A0q (A16 i K) := fun c σ hk => h c σ hk.run
theorem B4q : A0q (A03 P Γ rs post) := fun _ _ h => h.run
class NpC (K : Po) : Prop where
 h : A0q K
theorem C7 [h : NpC K] : A0q K := h.h
instance npC1 {rs : List ResultVar} {post : IM → Value → List A9 → Prop} : NpC (A03 P Γ rs post) := ⟨B4q⟩
instance npC2 {y : Code} {K : Po} [h : NpC K] : NpC (A1v P Γ y K) := ⟨B4o h.h⟩
instance npC3 {i : Nat} {K : Po} [h : NpC K] : NpC (A16 i K) := ⟨B4p h.h⟩
instance npC4 {ι : Type} {S : ι → Sy} {φ : ι → Prop} {μ : ι → Nat} {i : ι} {K : Po} [h : NpC K] : NpC (A17 K S φ μ i) := ⟨B35 h.h⟩
section shortAny
variable {P : Program} {Γ : M5} {K : Po} {ops : Array Oper} {H : List (Nat × Nat)} {env : M8} {hp : List A9} {G : IM} {fuel : Nat} {listed l' : List Bool}
variable {op : Op} {ty : TypeId} {pos : String} {af : Array Edge} {gd : Option (Nat × Bool)}
class A1z (l : List Bool) (j : Nat) (l2 : outParam (List Bool)) : Prop where
 h : l.set j true = l2
instance setT0 {b : Bool} {l : List Bool} : A1z (b :: l) 0 (true :: l) := ⟨rfl⟩
instance setTs {b : Bool} {l l2 : List Bool} {n : Nat} [h : A1z l n l2] : A1z (b :: l) (n + 1) (b :: l2) := ⟨congrArg (b :: ·) h.h⟩
instance setTt {l l1 l2 : List Bool} {i j : Nat} [h : A1z l i l1] [h2 : A1z l1 j l2] : A1z (l.set i true) j l2 := ⟨by rw [h.h, h2.h]⟩
theorem aP (i : Nat) [hl : A1z listed i l'] (hi : ops[i]? = some ⟨some d, op, ty, pos, af, gd⟩)
 (h : J6 P Γ ⟨env, hp, G⟩ op ty v) (hw : (M6 ops env gd, Nat.blt d Γ.n) = (some true, true))
 (k : N4 P Γ ops K H fuel l' ⟨(d, v) :: env, hp, G⟩) (hq : A19 ops listed i = true := by kernel_rfl) [hK : NpC K] : N4 P Γ ops K H (fuel + 1) listed ⟨env, hp, G⟩ :=
 H2 hi hK.h h (congrArg Prod.fst hw) hq (congrArg Prod.snd hw) hl.h k
theorem aL (i : Nat) [hl : A1z listed i l'] (hi : ops[i]? = some ⟨some d, op, ty, pos, af, gd⟩)
 (h : A18 P Γ ⟨env, hp, G⟩ op ty b v) (hw : (M6 ops env gd, Nat.blt d Γ.n) = (some true, true))
 (k : N4 P Γ ops K ((i, b) :: H) fuel l' ⟨(d, v) :: env, hp, G⟩) (hq : A19 ops listed i = true := by kernel_rfl) [hK : NpC K] : N4 P Γ ops K H (fuel + 1) listed ⟨env, hp, G⟩ :=
 M4 hi hK.h h (congrArg Prod.fst hw) hq (congrArg Prod.snd hw) hl.h k
theorem D2 (i : Nat) [hl : A1z listed i l'] (hi : ops[i]? = some ⟨some d, op, ty, pos, af, gd⟩) (hw : M6 ops env gd = some false) (hd : Nat.blt d Γ.n = true)
 (k : N4 P Γ ops K H fuel l' ⟨(d, undef) :: env, hp, G⟩) (hq : A19 ops listed i = true := by kernel_rfl) [hK : NpC K] : N4 P Γ ops K H (fuel + 1) listed ⟨env, hp, G⟩ :=
 aK hi hK.h hw hq hd hl.h k
theorem A2 (j : Nat) (h : W6 P Γ ops K H fuel listed j σ) (hr : Region.ready .any ops listed.toArray = [j] := by kernel_rfl) : N4 P Γ ops K H (fuel + 1) listed σ := aO hr h
theorem V0 (h : K .normal σ) (hr : Region.ready .any ops listed.toArray = [] := by kernel_rfl) : N4 P Γ ops K H fuel listed σ := aD hr h
def zIx (_ : Nat) : Prop := True
theorem xP {i : Nat} (_ : zIx i) [hl : A1z listed i l'] (hi : ops[i]? = some ⟨some d, op, ty, pos, af, gd⟩)
 (h : J6 P Γ ⟨env, hp, G⟩ op ty v) (hw : (M6 ops env gd, Nat.blt d Γ.n) = (some true, true))
 (k : N4 P Γ ops K H fuel l' ⟨(d, v) :: env, hp, G⟩) (hq : A19 ops listed i = true := by kernel_rfl) [hK : NpC K] : N4 P Γ ops K H (fuel + 1) listed ⟨env, hp, G⟩ :=
 H2 hi hK.h h (congrArg Prod.fst hw) hq (congrArg Prod.snd hw) hl.h k
theorem xL {i : Nat} (_ : zIx i) [hl : A1z listed i l'] (hi : ops[i]? = some ⟨some d, op, ty, pos, af, gd⟩)
 (h : A18 P Γ ⟨env, hp, G⟩ op ty b v) (hw : (M6 ops env gd, Nat.blt d Γ.n) = (some true, true))
 (k : N4 P Γ ops K ((i, b) :: H) fuel l' ⟨(d, v) :: env, hp, G⟩) (hq : A19 ops listed i = true := by kernel_rfl) [hK : NpC K] : N4 P Γ ops K H (fuel + 1) listed ⟨env, hp, G⟩ :=
 M4 hi hK.h h (congrArg Prod.fst hw) hq (congrArg Prod.snd hw) hl.h k
theorem xD {i : Nat} (_ : zIx i) [hl : A1z listed i l'] (hi : ops[i]? = some ⟨some d, op, ty, pos, af, gd⟩) (hw : M6 ops env gd = some false) (hd : Nat.blt d Γ.n = true)
 (k : N4 P Γ ops K H fuel l' ⟨(d, undef) :: env, hp, G⟩) (hq : A19 ops listed i = true := by kernel_rfl) [hK : NpC K] : N4 P Γ ops K H (fuel + 1) listed ⟨env, hp, G⟩ :=
 aK hi hK.h hw hq hd hl.h k
class zRepL (xs : List Oper) (l : outParam (List Bool)) : Prop where
 h : List.replicate xs.length false = l
instance zRep0 : zRepL [] [] := ⟨rfl⟩
instance zRep1 {x : Oper} {xs : List Oper} {l : List Bool} [h : zRepL xs l] : zRepL (x :: xs) (false :: l) := ⟨congrArg (false :: ·) h.h⟩
class zRep (xs : Array Oper) (l : outParam (List Bool)) : Prop where
 h : List.replicate xs.size false = l
instance zRep2 {xs : List Oper} {l : List Bool} [h : zRepL xs l] : zRep ⟨xs⟩ l := ⟨h.h⟩
instance zRep3 {xs : List Oper} {l : List Bool} [h : zRepL xs l] : zRep xs.toArray l := ⟨h.h⟩
variable {id : Nat}
theorem zdd (hm : P.follows .mixedOrders = true) {l : List Bool} (hn : ops.size = n) [hl : zRep ops l] (h : N4 P Γ ops K [] n l σ) : J9 P Γ (.region id ops true) K σ := D8 hm hn (by subst hn; rw [hl.h]; exact h)
end shortAny


theorem Y2 {rest : List Oper} {pos : String} {gd : Option (Nat × Bool)} [hI : I4 P t i]
  (hx : evo env x = some (.pointer (some ⟨b, o, none⟩))) (hy : evo env y = some v) (hv : v.cells = ⟨vs⟩) (hsz : vs.length = i.size) (h1 : vs.all (·.oneCell') = true)
  (hw : M6 ops env gd = some true) (hm : Sw hp (.blk b cs) (.blk b cs') hp') (hu : T4 cs o vs = some cs')
  (k : J2 P Γ ops rest K ⟨env, hp', G⟩) : J2 P Γ ops (⟨none, .store t x y, ty, pos, af, gd⟩ :: rest) K ⟨env, hp, G⟩ :=
 J0 (A6V hx hy hv hsz h1 hu hm rfl) hw (by rintro _ rfl; exact k)

theorem sS {rest : List Oper} {pos : String} {gd : Option (Nat × Bool)} [hI : I4 P t i]
 (hx : evo env x = some (.pointer (some ⟨b, o, none⟩))) (hy : evo env y = some v) (hv : v.cells = ⟨vs⟩) (hsz : vs.length = i.size) (h1 : vs.all (·.oneCell') = true)
 (hw : M6 ops env gd = some true)
 (k : J2 P Γ ops rest K ⟨env, hp', G⟩) (hm : Sw hp (.blk b cs) (.blk b cs') hp' := by repeat first | exact Sw.here | apply Sw.there) (hu : T4 cs o vs = some cs' := by rfl) : J2 P Γ ops (⟨none, .store t x y, ty, pos, af, gd⟩ :: rest) K ⟨env, hp, G⟩ :=
 Y2 hx hy hv hsz h1 hw hm hu k
theorem sS' {rest : List Oper} {pos : String} {gd : Option (Nat × Bool)} [hI : I4 P t i]
 (k : J2 P Γ ops rest K ⟨env, hp', G⟩) (hx : evo env x = some (.pointer (some ⟨b, o, none⟩)) := by rfl) (hy : evo env y = some v := by rfl) (hv : v.cells = ⟨vs⟩ := by rfl) (hsz : vs.length = i.size := by rfl) (h1 : vs.all (·.oneCell') = true := by rfl)
 (hw : M6 ops env gd = some true := by rfl) (hm : Sw hp (.blk b cs) (.blk b cs') hp' := by repeat first | exact Sw.here | apply Sw.there) (hu : T4 cs o vs = some cs' := by rfl) : J2 P Γ ops (⟨none, .store t x y, ty, pos, af, gd⟩ :: rest) K ⟨env, hp, G⟩ :=
 Y2 hx hy hv hsz h1 hw hm hu k
def B4r : List Bool → Nat → Option Nat
 | [], _ => none
 | false :: _, i => some i
 | true :: r, i => B4r r (i + 1)

section eqs
variable {x y : Operand} {t t' : TypeId} {k : IntKind} {m n : Int}
theorem N8 (hx : evo env x = some (.int k m)) (hy : evo env y = some (.int k n)) (h : m = n) : J6 P Γ ⟨env, hp, G⟩ (.binOp .eql t x y t') ty (.bool true) := by
 have := qE (P := P) (Γ := Γ) (hp := hp) (G := G) (ty := ty) (t := t) (t' := t') hx hy; rwa [decide_eq_true h] at this
theorem K3 (hx : evo env x = some (.int k m)) (hy : evo env y = some (.int k n)) (h : ¬ m = n) : J6 P Γ ⟨env, hp, G⟩ (.binOp .eql t x y t') ty (.bool false) := by
 have := qE (P := P) (Γ := Γ) (hp := hp) (G := G) (ty := ty) (t := t) (t' := t') hx hy; rwa [decide_eq_false h] at this
theorem A2c (hx : evo env x = some (.int k m)) (hy : evo env y = some (.int k n)) (h : m ≠ n) : J6 P Γ ⟨env, hp, G⟩ (.binOp .neq t x y t') ty (.bool true) := by
 have := R7 (P := P) (Γ := Γ) (hp := hp) (G := G) (ty := ty) (t := t) (t' := t') hx hy; rwa [decide_eq_true h] at this
theorem A2D (hx : evo env x = some (.int k m)) (hy : evo env y = some (.int k n)) (h : m = n) : J6 P Γ ⟨env, hp, G⟩ (.binOp .neq t x y t') ty (.bool false) := by
 have := R7 (P := P) (Γ := Γ) (hp := hp) (G := G) (ty := ty) (t := t) (t' := t') hx hy; rwa [decide_eq_false (by simpa using h)] at this
theorem B4s (hx : evo env x = some (.int k m)) (hy : evo env y = some (.int k n)) (h : m < n) : J6 P Γ ⟨env, hp, G⟩ (.binOp .lss t x y t') ty (.bool true) := by
 have := J8 (P := P) (Γ := Γ) (hp := hp) (G := G) (ty := ty) (t := t) (t' := t') hx hy; rwa [decide_eq_true h] at this
theorem A3H (hx : evo env x = some (.int k m)) (hy : evo env y = some (.int k n)) (h : ¬ m < n) : J6 P Γ ⟨env, hp, G⟩ (.binOp .lss t x y t') ty (.bool false) := by
 have := J8 (P := P) (Γ := Γ) (hp := hp) (G := G) (ty := ty) (t := t) (t' := t') hx hy; rwa [decide_eq_false h] at this
theorem B4t (hx : evo env x = some (.int k m)) (hy : evo env y = some (.int k n)) (h : m ≤ n) : J6 P Γ ⟨env, hp, G⟩ (.binOp .leq t x y t') ty (.bool true) := by
 have := A1y (P := P) (Γ := Γ) (hp := hp) (G := G) (ty := ty) (t := t) (t' := t') hx hy; rwa [decide_eq_true h] at this
theorem A3I (hx : evo env x = some (.int k m)) (hy : evo env y = some (.int k n)) (h : n < m) : J6 P Γ ⟨env, hp, G⟩ (.binOp .gtr t x y t') ty (.bool true) := by
 have := W7 (P := P) (Γ := Γ) (hp := hp) (G := G) (ty := ty) (t := t) (t' := t') hx hy; rwa [decide_eq_true h] at this
theorem B4u (hx : evo env x = some (.int k m)) (hy : evo env y = some (.int k n)) (h : ¬ n < m) : J6 P Γ ⟨env, hp, G⟩ (.binOp .gtr t x y t') ty (.bool false) := by
 have := W7 (P := P) (Γ := Γ) (hp := hp) (G := G) (ty := ty) (t := t) (t' := t') hx hy; rwa [decide_eq_false h] at this
end eqs

end steps

class A1M (P : Program) (t : TypeId) (pl : outParam (List (Nat × Nat))) : Prop where
 ok : ∃ fs : List Field, P.underlying t = some (.struct ⟨fs⟩) ∧ ∀ w, ((⟨fs⟩ : Array Field).mapM fun (f : Field) => (do pure (f.offset, ← sizeOf f.type) : Sem (Nat × Nat))).run P w = .ok ⟨pl⟩ w

theorem A2E {pl : List (Nat × Nat)} {fs : List Field} (h : P.underlying t = some (.struct ⟨fs⟩)) (hp : (fs.map fun f => (f.offset, P.cellsOf f.type)) = pl)
  (he : (fs.all fun f => (P.info? f.type).isSome) = true) : A1M P t pl := by
 refine ⟨fs, h, fun w => ?_⟩
 rw [Array.mapM_eq_mapM_toList]
 simp only [Sem.run_map]
 rw [A6Y _ w fs pl (by simp [← hp])]
 ·rfl
 ·intro j x y hx hy
  subst hp
  simp [List.getElem?_map, hx] at hy
  subst hy
  have hm : x ∈ fs := List.mem_of_getElem? hx
  have := List.all_eq_true.1 he x hm
  cases hi : P.info? x.type with
  | none => simp [hi] at this
  | some i => simp [sizeOf, typeInfo, hi, Program.cellsOf]

def A3a (pl : Nat → Option (Nat × Nat)) : List Value → List (Nat × Value) → Option (List Value)
 | cs, [] => some cs
 | cs, (i, v) :: r => match pl i with
  | none => none
  | some (off, sz) => match Nat.beq v.cells.toList.length sz with
   | false => none
   | true => match T4 cs off v.cells.toList with
    | none => none
    | some cs' => A3a pl cs' r

def cpy : List Value → Option (List Value)
 | [] => some []
 | c :: cs => match cpy cs with
  | some r => some (c :: r)
  | none => none
theorem A87 : ∀ cs, cpy cs = some cs
 | [] => rfl
 | c :: cs => by simp only [cpy, A87 cs]
def A6Z (pl : Nat → Option (Nat × Nat)) (cs : List Value) (ps : List (Nat × Value)) : Option (List Value) := match A3a pl cs ps with
 | some r => cpy r
 | none => none
variable {cs cs' : List Value}
theorem B4v {pl : Nat → Option (Nat × Nat)} {ps : List (Nat × Value)} (h : A6Z pl cs ps = some cs') : A3a pl cs ps = some cs' := by
 unfold A6Z at h
 split at h
 ·rename_i r hr; rw [A87] at h; rw [hr]; exact h
 ·cases h

theorem A88 : ∀ (vs : List Value) (k off : Nat) (cs : List Value), off + k + vs.length ≤ cs.length →
  ((vs.zipIdx k).foldl (fun (a : Array Value) (p : Value × Nat) => a.setIfInBounds (off + p.2) p.1) ⟨cs⟩).toList = cs.take (off + k) ++ vs ++ cs.drop (off + k + vs.length)
 | [], k, off, cs, _ => by simp
 | v :: vs, k, off, cs, h => by
  simp only [List.zipIdx_cons, List.foldl_cons]
  have h1 : ((⟨cs⟩ : Array Value).setIfInBounds (off + k) v) = ⟨cs.set (off + k) v⟩ := by simp
  simp only [List.length_cons] at h
  rw [h1, A88 vs (k + 1) off (cs.set (off + k) v) (by simp; omega)]
  apply List.ext_getElem?
  intro i
  simp only [List.getElem?_append, List.length_append, List.length_take, List.length_set, List.length_cons, List.getElem?_drop, List.getElem?_take, List.getElem?_set]
  have e1 : min (off + (k + 1)) cs.length = off + k + 1 := by omega
  have e2 : min (off + k) cs.length = off + k := by omega
  rw [e1, e2]
  by_cases c1 : i < off + k
  ·rw [if_pos zO0, if_pos zO0, if_pos zO0, if_neg zO0, if_pos zO0, if_pos zO0, if_pos zO0]
  ·by_cases c2 : i = off + k
   ·subst c2
    rw [if_pos zO0, if_pos zO0, if_pos zO0, if_pos rfl, if_pos zO0, if_pos zO0, if_neg zO0]
    simp
   ·by_cases c3 : i < off + k + 1 + vs.length
    ·rw [if_pos zO0, if_neg zO0, if_pos zO0, if_neg zO0, show i - (off + k) = (i - (off + k + 1)) + 1 by omega]
     simp
    ·rw [if_neg zO0, if_neg zO0, if_neg zO0, show off + (k + 1) + vs.length + (i - (off + k + 1 + vs.length)) = off + k + (vs.length + 1) + (i - (off + k + (vs.length + 1))) by omega]

theorem A5r {pl : Nat → Option (Nat × Nat)} : ∀ {parts : List (Nat × Value)} {cs cs' : List Value}, A3a pl cs parts = some cs' → Instr.fill pl ⟨cs⟩ parts = some ⟨cs'⟩ ∧ cs'.length = cs.length
 | [], cs, cs', h => by cases cs <;> (simp [A3a] at h; subst h; exact ⟨rfl, rfl⟩)
 | (i, v) :: r, cs, cs', h => by
  simp only [A3a] at h
  split at h
  ·cases h
  ·rename_i off sz h1
   split at h
   ·cases h
   ·rename_i h2
    split at h
    ·cases h
    ·rename_i cs1 hu
     obtain ⟨u1, u2⟩ := A3E hu
     obtain ⟨ih1, ih2⟩ := A5r h
     have hl := A88 v.cells.toList 0 off cs (by simpa using u2)
     have e : v.cells.size = sz := by have := Nat.eq_of_beq_eq_true h2; simpa using this
     have hlen : cs1.length = cs.length := by rw [u1]; simp at u2 ⊢; omega
     refine ⟨?_, by rw [ih2, hlen]⟩
     simp only [Instr.fill, h1]
     have u2' : off + v.cells.size ≤ cs.length := by simpa using u2
     rw [if_neg (by simp [e]; omega)]
     rw [← ih1]
     congr 1
     apply Array.ext'
     simp only [Nat.add_zero] at hl
     rw [u1, ← hl]
     rw [← Array.foldl_toList]
     simp

variable {i : L8}
theorem A4r [hI : I4 P t i] : ∃ inf z, (∀ w, (typeInfo t).run P w = .ok inf w) ∧ (∀ w, (zeroValue t).run P w = .ok z w) ∧ (∀ w, (sizeOf t).run P w = .ok i.size w) ∧ inf.bytes = i.bytes ∧ z.cells = ⟨i.zs⟩ ∧ P.info? t = some inf ∧ inf.zero = some z ∧ inf.size = i.size := by
 obtain ⟨inf, g1, g2, g3, z, g4, g5⟩ := hI.info
 refine ⟨inf, z, fun w => ?_, fun w => ?_, fun w => ?_, g3, g5, g1, g4, g2⟩
 ·simp [typeInfo, g1]
 ·simp [zeroValue, typeInfo, g1, g4]
 ·simp [sizeOf, typeInfo, g1, g2]

section mem
variable {P : Program} {Γ : M5} {env : M8} {hp : List A9} {G : IM} {ty : TypeId}

def evp (e : M8) : List (Nat × Operand) → Option (List (Nat × Value))
 | [] => some []
 | (i, x) :: r => match evo e x with
  | some v => match evp e r with
   | some vs => some ((i, v) :: vs)
   | none => none
  | none => none
theorem A60 {a : Act} {w : World} (hs : St Γ ⟨env, hp, G⟩ a w) : ∀ {xs : List (Nat × Operand)} {vs : List (Nat × Value)}, evp env xs = some vs → (xs.map fun (p : Nat × Operand) => (p.1, a.eval p.2)) = vs
 | [], vs, h => by simp [evp] at h; subst h; rfl
 | (i, x) :: r, vs, h => by
  simp only [evp] at h
  split at h
  ·rename_i v hv
   split at h
   ·rename_i us hu
    simp at h; subst h
    have e1 : a.eval x = v := hs.evo hv
    simp [e1, A60 hs hu]
   ·cases h
  ·cases h

theorem M7 [hI : I4 P t i] {pl : List (Nat × Nat)} [hP : A1M P t pl] {xs : List (Nat × Operand)} {vs : List (Nat × Value)}
  (hx : evp env xs = some vs) (hf : A3a (fun (j : Nat) => pl[j]?) i.zs vs = some cs) : J6 P Γ ⟨env, hp, G⟩ (.build t ⟨xs⟩) ty (.agg ⟨cs⟩) := by
 refine ⟨fun a _ hs _ _ _ _ w => ?_⟩
 obtain ⟨inf, z, h1, h2, h3, _, g5, _⟩ := A4r (P := P) (t := t)
 obtain ⟨fs, f1, f2⟩ := hP.ok
 have hv := A60 hs hx
 have hfr := (A5r hf).1
 simp only [execOp, Instr.build, Sem.run_bind, h2, Result.andThen_ok, Sem.run_pure, run_underlying f1, f2 w]
 have e : ((⟨xs⟩ : Array (Nat × Operand)).map fun x => match x with | (i, x) => (i, a.eval x)).toList = vs := by simpa using hv
 rw [e, g5]
 have e2 : (fun (x : Nat) => (⟨pl⟩ : Array (Nat × Nat))[x]?) = (fun (x : Nat) => pl[x]?) := by funext x; simp
 rw [e2, hfr]
 rfl

theorem B4w (w : World) (hin : A4m G w) (el sz n : Nat) (cs : List Value) (hl : cs.length = n * sz) (hm : n ≤ maxLen) :
  S0 [] G w [.slc (some ⟨w.heap.size, 0, none⟩) n el sz n cs] G (w.alloc (.cells cs.toArray el)) := by
 have h := A82 w hin cs el
 have hb : (w.alloc (.cells cs.toArray el)).heap[w.heap.size]? = some (.cells cs.toArray el (0, 0)) := heap_alloc_new w _
 refine ⟨⟨h.own.inn, ?_, by simp [Fp, A9.fp, K0], ?_⟩, h.ext, h.le, h.fresh, ?_, fun b l h h0 => absurd h (by rw [h0]; simp)⟩
 ·intro x hx
  simp at hx; subst hx
  refine ⟨hl, .inr ⟨w.heap.size, n, cs.toArray, rfl, Nat.zero_le _, hb, Nat.le_refl _, hm, by simpa using hl, ?_⟩⟩
  simp [← hl]
 ·intro b hb'; exact h.own.disj b (by simpa [Fp, A9.fp, K0] using hb')
 ·intro b hb'; exact h.ofresh b (by simpa [Fp, A9.fp, K0] using hb')

def A2d (n : Nat) (zs : List Value) : List Value := match n with | 0 => [] | n + 1 => zs ++ A2d n zs
theorem A61 (n : Nat) (zs : List Value) : (A2d n zs).length = n * zs.length := by
 induction n with
 | zero => simp [A2d]
 | succ n ih => simp [A2d, ih, Nat.succ_mul, Nat.add_comm]
theorem A89 (zs : List Value) : ∀ (n i : Nat), i < n * zs.length → (A2d n zs)[i]? = zs[i % zs.length]?
 | 0, i, h => by simp at h
 | n + 1, i, h => by
  simp only [A2d, List.getElem?_append]
  split
  ·rename_i hi; rw [Nat.mod_eq_of_lt hi]
  ·rename_i hi
   rw [A89 zs n (i - zs.length) (by rw [Nat.succ_mul] at h; omega)]
   rw [Nat.mod_eq_sub_mod (a := i) zO0]
theorem B4x (z : Array Value) (zs : List Value) (hz : z = ⟨zs⟩) (n : Nat) : ((Array.range (n * zs.length)).map (z[· % z.size]!)) = ⟨A2d n zs⟩ := by
 subst hz
 apply Array.ext'
 simp only [Array.toList_map, Array.toList_range]
 apply List.ext_getElem?
 intro i
 by_cases hi : i < n * zs.length
 ·rw [A89 zs n i hi]
  have hpos : 0 < zs.length := by
   rcases Nat.eq_zero_or_pos zs.length with h | h
   ·rw [h] at hi; simp at hi
   ·exact h
  have hlt := Nat.mod_lt i hpos
  simp [hi, getElem!_def, hlt]
 ·simp [hi]
  have hl := A61 n zs
  omega

theorem A9a (el : TypeId) (cs : List Value) (w : World) : (newRow el ⟨cs⟩).run P w = .ok ⟨w.heap.size, 0, none⟩ (w.alloc (.cells cs.toArray el)) := by
 simp [newRow, newObj, Sem.run]

variable {el n d : Nat}
theorem B4y {sz : Nat} (hd : Nat.blt d Γ.n = true) (hl : cs.length = n * sz) (hm : n ≤ maxLen)
  (hrun : ∀ a w, St Γ ⟨env, hp, G⟩ a w → ∀ d pos af gd, (execOp a.eval ⟨d, op, ty, pos, af, gd⟩).run P w = .ok (.value (.slice (some ⟨w.heap.size, 0, none⟩) n n)) (w.alloc (.cells cs.toArray el))) :
  Y9 P Γ ⟨env, hp, G⟩ (some d) op ty [] (fun σ' => ∃ b, σ' = ⟨(d, .slice (some ⟨b, 0, none⟩) n n) :: env, .slc (some ⟨b, 0, none⟩) n el sz n cs :: hp, G⟩) := by
 refine ⟨fun a w hs pos af gd Q next hn => ?_⟩
 simp only [Oper.wp, hrun a w hs, Oper.upon]
 have hr' := B4w w hs.res.own.inn el sz n cs hl hm
 exact hn _ _ _ (hs.step (ins := []) (rest := hp) (List.Perm.refl _) hr' (List.Perm.refl _) (d := some d) hd) hr'.ext ⟨w.heap.size, rfl⟩

variable {zs : List Value} {by' : Nat}
theorem C9 {el : TypeId} {sz : Nat} [hI : I4 P t i] (hd' : i.desc = .slice el) [hE : Y1 P el sz by' zs] {xs : List (Nat × Operand)} {vs : List (Nat × Value)}
  (hd : Nat.blt d Γ.n = true) (hx : evp env xs = some vs) (hn : n * sz ≤ 16777216) (hm : n ≤ maxLen)
  (hf : A6Z (fun j => some (j * sz, sz)) (A2d n zs) vs = some cs) :
  Y9 P Γ ⟨env, hp, G⟩ (some d) (.buildSlice t n ⟨xs⟩) ty [] (fun σ' => ∃ b, σ' = ⟨(d, .slice (some ⟨b, 0, none⟩) n n) :: env, .slc (some ⟨b, 0, none⟩) n el sz n cs :: hp, G⟩) := by
 have hz := hE.len
 obtain ⟨_, hE⟩ := hE.ok
 replace hf := B4v hf
 have hlen : cs.length = n * sz := by rw [(A5r hf).2, A61, hz]
 refine B4y hd hlen hm fun a w hs d pos af gd => ?_
 obtain ⟨inf, z, h1, h2, h3, _, g5, _⟩ := A4r (P := P) (t := el)
 have hu := hI.und
 rw [hd'] at hu
 have hv := A60 hs hx
 have e : ((⟨xs⟩ : Array (Nat × Operand)).map fun x => match x with | (i, x) => (i, a.eval x)).toList = vs := by simpa using hv
 have hfr := (A5r hf).1
 simp only [execOp, Instr.buildSlice, Sem.run_bind, run_underlying hu, Result.andThen_ok, h3, Sem.run_pure]
 rw [if_neg zO0]
 by_cases h0 : n * sz = 0
 ·have hz0 : A2d n zs = [] := List.eq_nil_of_length_eq_zero (by rw [A61, hz, h0])
  rw [hz0] at hfr
  have er : ∀ f : Nat → Value, (Array.range 0).map f = (⟨[]⟩ : Array Value) := fun f => by simp
  simp only [h0, if_true, Sem.run_bind, Sem.run_pure, Result.andThen_ok, er]
  rw [e, hfr]
  simp only [Sem.run_bind, A9a, Result.andThen_ok, Sem.run_pure]
 ·have hc := B4x z.cells zs g5 n
  rw [hz] at hc
  simp only [h0, if_false, Sem.run_bind, Sem.run_pure, Result.andThen_ok, h2, hc]
  rw [e, hfr]
  simp only [Sem.run_bind, A9a, Result.andThen_ok, Sem.run_pure]

end mem

section rules2
variable {P : Program} {Γ : M5} {env : M8} {hp : List A9} {G : IM} {ty : TypeId} {K : Po} {ops : Array Oper} {rest : List Oper}
variable {pos : String} {af : Array Edge} {gd : Option (Nat × Bool)}

variable {c c' el n : Nat}
theorem B4z {p p' : Option Addr} {sz n' : Nat} (hown : U5 [.slc p c el sz n cs] G w)
  (h' : w'.ownsRow 0 el sz (.slice p' n' c') n' cs') (hg : w.grownBy w' ((Value.slice p n c).ownBlock)) (hnew : ∀ g, p' = some g → (∃ q, p = some q ∧ q.block = g.block) ∨ w.heap.size ≤ g.block) :
  S0 [.slc p c el sz n cs] G w [.slc p' c' el sz n' cs'] G w' := by
 have hfp : ∀ b, b ∈ Fp [.slc p c el sz n cs] ↔ (Value.slice p n c).ownBlock = some b := by
  intro b
  cases p with
  | none => simp [Fp, A9.fp, K0, Value.ownBlock]
  | some q => simp [Fp, A9.fp, K0, Value.ownBlock, eq_comm]
 have hfp' : ∀ b, b ∈ Fp [.slc p' c' el sz n' cs'] ↔ ∃ g, p' = some g ∧ g.block = b := by
  intro b
  cases p' with
  | none => simp [Fp, A9.fp, K0]
  | some q => simp [Fp, A9.fp, K0, eq_comm]
 refine ⟨⟨?_, ?_, ?_, ?_⟩, ⟨hg.os, hg.tape, hg.output, hg.size, ?_⟩, C3.refl _, fun _ _ h => .inl h, ?_, fun b l h h0 => absurd h (by rw [h0]; simp)⟩
 ·intro b l hb
  obtain ⟨e, f, h⟩ := hown.inn b l hb
  refine ⟨e, f, ?_⟩
  rw [hg.block b (A1f h) ?_]
  ·exact h
  ·intro hb'
   have := hown.disj b ((hfp b).2 hb'.symm)
   rw [this] at hb; cases hb
 ·intro x hx
  simp at hx; subst hx; exact h'
 ·cases p' <;> simp [Fp, A9.fp, K0]
 ·intro b hb
  obtain ⟨g, hg1, hg2⟩ := (hfp' b).1 hb
  rcases hnew g hg1 with ⟨q, hq, hqb⟩ | hlt
  ·refine hown.disj b ((hfp b).2 ?_)
   subst hq
   simp [Value.ownBlock, hqb, hg2]
  ·cases hgb : G b with
   | none => rfl
   | some l => exact absurd (hown.inn.lt hgb) zO0
 ·intro k hk hkn
  exact hg.block k hk (fun e => hkn ((hfp k).2 e.symm))
 ·intro b hb
  obtain ⟨g, hg1, hg2⟩ := (hfp' b).1 hb
  rcases hnew g hg1 with ⟨q, hq, hqb⟩ | hlt
  ·right
   refine (hfp b).2 ?_
   subst hq
   simp [Value.ownBlock, hqb, hg2]
  ·left; omega

variable {news zs : List Value} {o by' d : Nat} {x y : Operand}
theorem A62 {el : TypeId} {sz : Nat} [hI : I4 P t i] (hd' : i.desc = .slice el) [hE : Y1 P el sz by' zs] {p : Option Addr} {m : Nat} {hp' : Option Addr → Nat → List A9}
  (hd : Nat.blt d Γ.n = true) (hx : evo env x = some (.slice p n c)) (hy : evo env y = some (.slice (some ⟨b, o, none⟩) m c')) (hsz : Nat.blt 0 sz = true)
  (hm : ∀ p' c', Sw hp (.slc p c el sz n cs) (.slc p' c' el sz (n + m) (cs ++ news)) (hp' p' c'))
  (hs' : At hp G b o news) (hl : news.length = m * sz) (h1 : ∀ u ∈ news, u.oneCell' = true)
  (h63 : n + m ≤ maxLen) (hb : (n + m) * by' ≤ 140737488355328) :
  Y9 P Γ ⟨env, hp, G⟩ (some d) (.call ⟨.builtin .append, ⟨[x, y]⟩, ⟨[t, t]⟩⟩) ty (K0 p) (fun σ' => ∃ p' c', σ' = ⟨(d, .slice p' (n + m) c') :: env, hp' p' c', G⟩) := by
 refine ⟨fun a w hs pos af gd Q next hn => ?_⟩
 have hz := hE.len
 obtain ⟨_, hE⟩ := hE.ok
 obtain ⟨rest, q1, _⟩ := (hm none 0).perm
 have hown : U5 [.slc p c el sz n cs] G w := hs.res.own.of_mem q1
 obtain ⟨inf, z, t1, t2, t3, t4, t5, t6, t7, t8⟩ := A4r (P := P) (t := el)
 have hu := hI.und
 rw [hd'] at hu
 obtain ⟨full, e, f, hfb, hfv⟩ := hs'.read hs
 have hnews : ∀ j u, news[j]? = some u → w.cell? ((⟨b, o, none⟩ : Addr).add j) = some u := fun j u hj => by rw [A3A]; simp [World.cell?, hfb, hfv j u hj]
 have hsz' : 0 < sz := by simpa using hsz
 have hrow := hown.ok _ List.mem_cons_self
 obtain ⟨v', w', hrun, hown', hgrow, _⟩ := run_append_own (P := P) w 0 t ty el inf z sz by' hu t6 t7 t8 t4 (by rw [t5]; exact hz) hsz' (.slice p n c) n cs hrow ⟨b, o, none⟩ m c' news hl hnews h1 h63 hb (Nat.zero_le _)
 have hv' : ∃ p' c', v' = .slice p' (n + m) c' := by
  rcases hown'.2 with ⟨hv, hn0⟩ | ⟨g, cap, cur, hv, _⟩
  ·exact ⟨none, 0, by rw [hv, hn0]⟩
  ·exact ⟨_, _, hv⟩
 obtain ⟨p', c'', rfl⟩ := hv'
 have hexec : (execOp a.eval ⟨some d, .call ⟨.builtin .append, ⟨[x, y]⟩, ⟨[t, t]⟩⟩, ty, pos, af, gd⟩).run P w = .ok (.value (.slice p' (n + m) c'')) w' := by
  simp only [execOp, resolve, invoke, builtin, Sem.run_bind, Sem.run_pure, Result.andThen_ok]
  have e1 : (⟨[x, y]⟩ : Array Operand).map a.eval = #[.slice p n c, .slice (some ⟨b, o, none⟩) m c'] := by
   simp [(hs.evo hx : a.eval x = _), (hs.evo hy : a.eval y = _)]
  rw [e1]
  have : (Builtin.append_ ⟨[t, t]⟩ ty #[.slice p n c, .slice (some ⟨b, o, none⟩) m c']).run P w = .ok (.slice p' (n + m) c'') w' := hrun
  rw [this]; rfl
 simp only [Oper.wp, hexec, Oper.upon]
 have hnew : ∀ g, p' = some g → (∃ q, p = some q ∧ q.block = g.block) ∨ w.heap.size ≤ g.block := by
  intro g hg
  subst hg
  rcases hrow.2 with ⟨hv, hn0⟩ | ⟨g0, cap, cur, hv, _, hg0, hnc, hcm, hcs, htake⟩
  ·right
   cases hv
   obtain ⟨v2, w2, hrun2, hown2, _⟩ := run_append_own (P := P) w w.heap.size t ty el inf z sz by' hu t6 t7 t8 t4 (by rw [t5]; exact hz) hsz' (.slice none 0 0) 0 [] (World.ownsRow_nil w _ el _) ⟨b, o, none⟩ m c' news hl hnews h1 zO0 zO0 (Nat.le_refl _)
   rw [hrun] at hrun2
   cases hrun2
   rcases hown2.2 with ⟨hv2, _⟩ | ⟨g2, _, _, hv2, hb2, _⟩
   ·cases hv2
   ·cases hv2; exact hb2
  ·cases hv
   have hcl : cs.length = n * sz := hrow.1
   by_cases hroom : n + m ≤ c
   ·left
    have hfit : n * inf.size + news.length ≤ cur.size := by rw [t8, hl, hcs, ← Nat.add_mul]; exact Nat.mul_le_mul_right _ hroom
    have hr := run_append_room (P := P) w t ty el inf hu t6 g0 n c cur hg0 ⟨b, o, none⟩ m c' news (by rw [t8]; exact hl) hnews h1 hroom hfit
    rw [hrun] at hr
    cases hr
    exact ⟨_, rfl, rfl⟩
   ·right
    have holds : ∀ j u, cs[j]? = some u → w.cell? ((⟨g0, 0, none⟩ : Addr).add j) = some u := hrow.cells (g := g0) rfl
    have hm63 : n + m ≤ 9223372036854775807 := by unfold maxLen at h63; omega
    have hr := run_append_grow (P := P) w t ty el inf z hu t6 t7 ⟨g0, 0, none⟩ n c cs (by rw [t8]; exact hcl) holds ⟨b, o, none⟩ m c' news (by rw [t8]; exact hl) hnews zO0 zO0 (by rw [t4]; exact growslice_fits zO0 hb)
    rw [hrun] at hr
    cases hr
    exact Nat.le_refl _
 have hr := B4z hown hown' hgrow hnew
 obtain ⟨rest, q1, q2⟩ := (hm p' c'').perm
 exact hn _ _ _ (hs.step q1 hr q2 (d := some d) hd) (by
  have := hr.ext
  simpa [Fp, A9.fp] using this) ⟨p', c'', rfl⟩

theorem B4A {el : TypeId} [hI : I4 P t i] (hd' : i.desc = .slice el) {ie : L8} [hE : I4 P el ie] {p q : Option Addr}
  (hx : evo env x = some (.slice p n c)) (hy : evo env y = some (.slice q 0 c')) (hc : n ≤ c) :
  J6 P Γ ⟨env, hp, G⟩ (.call ⟨.builtin .append, ⟨[x, y]⟩, ⟨[t, t]⟩⟩) ty (.slice p n c) := by
 refine ⟨fun a _ hs _ _ _ _ w => ?_⟩
 have hu := hI.und
 rw [hd'] at hu
 obtain ⟨inf, z, t1, t2, t3, t4, t5, t6, t7, t8⟩ := A4r (P := P) (t := el)
 simp only [execOp, resolve, invoke, builtin, Sem.run_bind, Sem.run_pure, Result.andThen_ok]
 have e1 : (⟨[x, y]⟩ : Array Operand).map a.eval = #[.slice p n c, .slice q 0 c'] := by
  simp [(hs.evo hx : a.eval x = _), (hs.evo hy : a.eval y = _)]
 rw [e1]
 have hf : (Builtin.firstCells ie.size 0 (.slice q 0 c')).run P w = .ok #[] w := by
  cases q <;> simp [Builtin.firstCells, loadCells, loadCellsFrom]
 have : (Builtin.append_ ⟨[t, t]⟩ ty #[.slice p n c, .slice q 0 c']).run P w = .ok (.slice p n c) w := by
  simp only [Builtin.append_, show (⟨[t, t]⟩ : Array TypeId)[0]? = some t from rfl, show (⟨[t, t]⟩ : Array TypeId)[1]? = some t from rfl, show (#[Value.slice p n c, Value.slice q 0 c'] : Array Value)[0]? = some (Value.slice p n c) from rfl, show (#[Value.slice p n c, Value.slice q 0 c'] : Array Value)[1]? = some (Value.slice q 0 c') from rfl,
   Sem.run_bind, run_underlying hu, Result.andThen_ok, t3, Sem.run_pure, Builtin.lenOf, Bool.not_false, if_true, Nat.add_zero, hc, hf, Bool.false_eq_true, if_false]
  cases p <;> simp [hf, storeCells]
 rw [this]; rfl

theorem B4B {c : Code} {X : Prop} (hx : ∀ a w, St Γ σ a w → X) (h : X → J9 P Γ c K σ) : J9 P Γ c K σ := ⟨fun a w hs => (h (hx a w hs)).run a w hs⟩
def Sl (G : IM) (p : Option Addr) (n c sz : Nat) (cs : List Value) : Prop :=
 cs.length = n * sz ∧ n ≤ c ∧ c ≤ maxLen ∧ (n = 0 ∨ ∃ b o full, p = some ⟨b, o, none⟩ ∧ G b = some full ∧ ∀ j v, cs[j]? = some v → full[o + j]? = some v)
theorem Sl.mono {p : Option Addr} {sz : Nat} (h : Sl G p n c sz cs) (hg : C3 G G') : Sl G' p n c sz cs := by
 obtain ⟨h1, h2, h3, h4⟩ := h
 refine ⟨h1, h2, h3, h4.imp id ?_⟩
 rintro ⟨b, o, full, e1, e2, e3⟩
 exact ⟨b, o, full, e1, hg b full e2, e3⟩
theorem Sl.nil (G : IM) (sz : Nat) : Sl G none 0 0 sz [] := ⟨by simp, Nat.le_refl _, Nat.zero_le _, .inl rfl⟩

theorem B4C {p : Option Addr} {sz : Nat} (hown : U5 [.slc p c el sz n cs] G w) :
  ∃ G', S0 [.slc p c el sz n cs] G w [] G' w ∧ Sl G' p n c sz cs ∧ ∀ b ∈ K0 p, G b = none ∧ G' b ≠ none := by
 obtain ⟨hl, h⟩ := hown.ok _ List.mem_cons_self
 rcases h with ⟨hv, hn⟩ | ⟨g, cap, cur, hv, _, hg, hnc, hcm, hcs, ht⟩
 ·cases hv
  exact ⟨G, ⟨⟨hown.inn, by simp, by simp [Fp], by simp [Fp]⟩, Ext.refl _ _, C3.refl _, fun _ _ h => .inl h, by simp [Fp], fun b l h h0 => absurd h (by rw [h0]; simp)⟩, ⟨hl, Nat.le_refl _, Nat.zero_le _, .inl rfl⟩, by simp [K0]⟩
 ·cases hv
  have hG : G g = none := hown.disj g (by simp [Fp, A9.fp, K0])
  refine ⟨fun b => if b = g then some cur.toList else G b, ⟨⟨?_, by simp, by simp [Fp], by simp [Fp]⟩, Ext.refl _ _, ?_, ?_, by simp [Fp], ?_⟩, ⟨hl, hnc, hcm, ?_⟩, by simp [K0, hG]⟩
  ·intro b l hb
   replace hb : (if b = g then some cur.toList else G b) = some l := hb
   split at hb
   ·rename_i he; subst he; simp at hb; subst hb; exact ⟨el, (0, 0), by simpa using hg⟩
   ·exact hown.inn b l hb
  ·intro b l hb
   show (if b = g then some cur.toList else G b) = some l
   rw [if_neg]
   ·exact hb
   ·rintro rfl; rw [hG] at hb; cases hb
  ·intro b l hb
   replace hb : (if b = g then some cur.toList else G b) = some l := hb
   split at hb
   ·rename_i he; subst he; exact .inr (.inr (by simp [Fp, A9.fp, K0]))
   ·exact .inl hb
  ·intro b l hb h0
   replace hb : (if b = g then some cur.toList else G b) = some l := hb
   split at hb
   ·rename_i he; subst he; simp at hb; subst hb; exact ⟨el, by simpa using hg⟩
   ·rw [h0] at hb; cases hb
  ·rcases Nat.eq_zero_or_pos n with h0 | h0
   ·exact .inl h0
   ·refine .inr ⟨g, 0, cur.toList, rfl, by simp, fun j v hj => ?_⟩
    rw [← ht, List.getElem?_take] at hj
    split at hj
    ·simpa using hj
    ·cases hj

theorem St.nil_slc (hs : St Γ ⟨env, hp, G⟩ a w) (el sz : Nat) : St Γ ⟨env, .slc none 0 el sz 0 [] :: hp, G⟩ a w := by
 refine ⟨hs.size, hs.nod, hs.env, ⟨⟨hs.res.own.inn, ?_, ?_, ?_⟩, hs.res.ext, hs.res.le, hs.res.fresh, ?_, hs.res.fz⟩⟩
 ·intro e he
  rcases List.mem_cons.1 he with rfl | he
  ·exact World.ownsRow_nil w 0 el sz
  ·exact hs.res.own.ok e he
 ·simpa [Fp, A9.fp, K0] using hs.res.own.nodup
 ·intro b hb; exact hs.res.own.disj b (by simpa [Fp, A9.fp, K0] using hb)
 ·intro b hb; exact hs.res.ofresh b (by simpa [Fp, A9.fp, K0] using hb)
variable {cd : Code}
theorem V1 (el sz : Nat) (h : J9 P Γ cd K ⟨env, .slc none 0 el sz 0 [] :: hp, G⟩) : J9 P Γ cd K ⟨env, hp, G⟩ := ⟨fun a w hs => h.run a w (hs.nil_slc el sz)⟩
inductive Pk : List A9 → A9 → List A9 → Prop
 | here {e : A9} {r : List A9} : Pk (e :: r) e r
 | there {x e : A9} {r r' : List A9} : Pk r e r' → Pk (x :: r) e (x :: r')
theorem Pk.perm {e : A9} (h : Pk hp e hp') : hp.Perm ([e] ++ hp') := by
 induction h with
 | here => exact List.Perm.refl _
 | there _ ih => exact (ih.cons _).trans (List.Perm.swap _ _ _)

theorem St.freeze {p : Option Addr} {sz : Nat} (hs : St Γ ⟨env, hp, G⟩ a w) (hk : Pk hp (.slc p c el sz n cs) hp') :
  ∃ G', St Γ ⟨env, hp', G'⟩ a w ∧ C3 G G' ∧ Sl G' p n c sz cs ∧ ∀ b ∈ K0 p, G b = none ∧ G' b ≠ none := by
 have hown : U5 [.slc p c el sz n cs] G w := hs.res.own.of_mem hk.perm
 obtain ⟨G', hr, hsl, hno⟩ := B4C hown
 exact ⟨G', ⟨hs.size, hs.nod, hs.env, by have := (hs.res.perm hk.perm).frame hr; simpa using this⟩, hr.le, hsl, hno⟩

theorem A2F {p : Option Addr} {sz : Nat} (hk : Pk hp (.slc p c el sz n cs) hp')
  (h : ∀ G', C3 G G' → Sl G' p n c sz cs → (∀ b ∈ K0 p, G b = none ∧ G' b ≠ none) → J9 P Γ cd K ⟨env, hp', G'⟩) : J9 P Γ cd K ⟨env, hp, G⟩ :=
 ⟨fun a w hs => let ⟨G', h1, h2, h3, h4⟩ := hs.freeze hk; (h G' h2 h3 h4).run a w h1⟩
theorem H1 {p : Option Addr} {sz : Nat} (hk : Pk hp (.slc p c el sz n cs) hp')
  (h : ∀ G', C3 G G' → Sl G' p n c sz cs → (∀ b ∈ K0 p, G b = none ∧ G' b ≠ none) → J9 P Γ .ret K ⟨env, hp', G'⟩) : J9 P Γ .ret K ⟨env, hp, G⟩ := A2F hk h
theorem V7 {p : Option Addr} {sz : Nat} (hk : Pk hp (.slc p c el sz n cs) hp')
  (h : ∀ G', C3 G G' → Sl G' p n c sz cs → (∀ b ∈ K0 p, G b = none ∧ G' b ≠ none) → J2 P Γ ops rest K ⟨env, hp', G'⟩) : J2 P Γ ops rest K ⟨env, hp, G⟩ :=
 ⟨fun a w hs => let ⟨G', h1, h2, h3, h4⟩ := hs.freeze hk; (h G' h2 h3 h4).run a w h1⟩
variable {listed : List Bool} {fuel : Nat} {H : List (Nat × Nat)}
theorem A5s {p : Option Addr} {sz : Nat} (hk : Pk hp (.slc p c el sz n cs) hp')
  (h : ∀ G', C3 G G' → Sl G' p n c sz cs → (∀ b ∈ K0 p, G b = none ∧ G' b ≠ none) → N4 P Γ ops K H fuel listed ⟨env, hp', G'⟩) : N4 P Γ ops K H fuel listed ⟨env, hp, G⟩ :=
 ⟨fun a w hs => let ⟨G', h1, h2, h3, h4⟩ := hs.freeze hk; (h G' h2 h3 h4).run a w h1⟩

def I1 (v0 : Value) (G : IM) : IM → Value → List A9 → Prop := fun G' v outs => G' = G ∧ v = v0 ∧ outs = []
def M3 (Φ : IM → Value → Prop) : IM → Value → List A9 → Prop := fun G' v outs => outs = [] ∧ Φ G' v

variable {v0 : Value} {vs : List Value} {ats : Array TypeId} {xs : List Operand} {f : FuncId}
theorem F0 [hF : C1 P f]
  (hx : evl env xs = some vs) (h : Fn P f vs [] G (I1 v0 G)) (hw : M6 ops env gd = some true) (hd : Nat.blt d Γ.n = true)
  (k : J2 P Γ ops rest K ⟨(d, v0) :: env, hp, G⟩) : J2 P Γ ops (⟨some d, .call ⟨.value (.func f), ⟨xs⟩, ats⟩, ty, pos, af, gd⟩ :: rest) K ⟨env, hp, G⟩ :=
 J0 (A3F hx h hd) hw (by rintro _ ⟨v, G', outs, rfl, _, rfl, rfl, rfl⟩; exact k)
theorem L4 [hF : C1 P f] {b : Bool}
  (hx : evl env xs = some vs) (h : Fn P f vs [] G (I1 (.bool b) G)) (hw : M6 ops env gd = some true) (hd : Nat.blt d Γ.n = true)
  (kt : b = true → J2 P Γ ops rest K ⟨(d, .bool true) :: env, hp, G⟩) (kf : b = false → J2 P Γ ops rest K ⟨(d, .bool false) :: env, hp, G⟩) :
  J2 P Γ ops (⟨some d, .call ⟨.value (.func f), ⟨xs⟩, ats⟩, ty, pos, af, gd⟩ :: rest) K ⟨env, hp, G⟩ := by
 cases b
 ·exact F0 hx h hw hd (kf rfl)
 ·exact F0 hx h hw hd (kt rfl)
theorem H6 [hF : C1 P f] {Φ : IM → Value → Prop}
  (hx : evl env xs = some vs) (h : Fn P f vs [] G (M3 Φ)) (hw : M6 ops env gd = some true) (hd : Nat.blt d Γ.n = true)
  (k : ∀ v G', C3 G G' → Φ G' v → J2 P Γ ops rest K ⟨(d, v) :: env, hp, G'⟩) : J2 P Γ ops (⟨some d, .call ⟨.value (.func f), ⟨xs⟩, ats⟩, ty, pos, af, gd⟩ :: rest) K ⟨env, hp, G⟩ :=
 J0 (A3F hx h hd) hw (by rintro _ ⟨v, G', outs, rfl, hle, rfl, hΦ⟩; exact k v G' hle hΦ)
variable {post : IM → Value → List A9 → Prop}
theorem A2e [hF : C1 P f]
  (hx : evl env xs = some vs) (h : Fn P f vs [] G post) (hw : M6 ops env gd = some true) (hd : Nat.blt d Γ.n = true)
  (k : ∀ v G' outs, C3 G G' → post G' v outs → J2 P Γ ops rest K ⟨(d, v) :: env, outs ++ hp, G'⟩) : J2 P Γ ops (⟨some d, .call ⟨.value (.func f), ⟨xs⟩, ats⟩, ty, pos, af, gd⟩ :: rest) K ⟨env, hp, G⟩ :=
 J0 (A3F hx h hd) hw (by rintro _ ⟨v, G', outs, rfl, hle, hp⟩; exact k v G' outs hle hp)
variable {us : List Value} {g : Operand}
theorem A9b [hF : C1 P f]
  (hg : evo env g = some (.func (.func f) ⟨us⟩ ⟨cs⟩)) (hx : evl env xs = some vs) (h : Fn P f (us ++ vs ++ cs) [] G (I1 v0 G)) (hw : M6 ops env gd = some true) (hd : Nat.blt d Γ.n = true)
  (k : J2 P Γ ops rest K ⟨(d, v0) :: env, hp, G⟩) : J2 P Γ ops (⟨some d, .call ⟨.value g, ⟨xs⟩, ats⟩, ty, pos, af, gd⟩ :: rest) K ⟨env, hp, G⟩ :=
 J0 (A6X hg hx h (List.Perm.refl _) hd) hw (by rintro _ ⟨v, G', outs, rfl, _, rfl, rfl, rfl⟩; exact k)
def S5 (v0 : Value) (ins : List A9) (G : IM) : IM → Value → List A9 → Prop := fun G' v outs => G' = G ∧ v = v0 ∧ outs = ins
theorem A9c (p : hp.Perm hp') (k : J2 P Γ ops rest K ⟨env, hp', G⟩) : J2 P Γ ops rest K ⟨env, hp, G⟩ :=
 ⟨fun a w hs => k.run a w ⟨hs.size, hs.nod, hs.env, hs.res.perm p⟩⟩
variable {rst : List A9}
theorem A2f [hF : C1 P f]
  (hx : evl env xs = some vs) (h : Fn P f vs ins G (S5 v0 ins G)) (hp' : hp.Perm (ins ++ rst)) (hw : M6 ops env gd = some true) (hd : Nat.blt d Γ.n = true)
  (k : J2 P Γ ops rest K ⟨(d, v0) :: env, hp, G⟩) : J2 P Γ ops (⟨some d, .call ⟨.value (.func f), ⟨xs⟩, ats⟩, ty, pos, af, gd⟩ :: rest) K ⟨env, hp, G⟩ :=
 J0 (A5p hx h hp' hd) hw (by rintro _ ⟨v, G', outs, rfl, _, rfl, rfl, rfl⟩; exact A9c hp'.symm k)
theorem A9d [hF : C1 P f]
  (hg : evo env g = some (.func (.func f) ⟨us⟩ ⟨cs⟩)) (hx : evl env xs = some vs) (h : Fn P f (us ++ vs ++ cs) ins G (S5 v0 ins G)) (hp' : hp.Perm (ins ++ rst)) (hw : M6 ops env gd = some true) (hd : Nat.blt d Γ.n = true)
  (k : J2 P Γ ops rest K ⟨(d, v0) :: env, hp, G⟩) : J2 P Γ ops (⟨some d, .call ⟨.value g, ⟨xs⟩, ats⟩, ty, pos, af, gd⟩ :: rest) K ⟨env, hp, G⟩ :=
 J0 (A6X hg hx h hp' hd) hw (by rintro _ ⟨v, G', outs, rfl, _, rfl, rfl, rfl⟩; exact A9c hp'.symm k)
theorem B4D [hF : C1 P f] {b : Bool}
  (hx : evl env xs = some vs) (h : Fn P f vs ins G (S5 (.bool b) ins G)) (hp' : hp.Perm (ins ++ rst)) (hw : M6 ops env gd = some true) (hd : Nat.blt d Γ.n = true)
  (kt : b = true → J2 P Γ ops rest K ⟨(d, .bool true) :: env, hp, G⟩) (kf : b = false → J2 P Γ ops rest K ⟨(d, .bool false) :: env, hp, G⟩) :
  J2 P Γ ops (⟨some d, .call ⟨.value (.func f), ⟨xs⟩, ats⟩, ty, pos, af, gd⟩ :: rest) K ⟨env, hp, G⟩ := by
 cases b
 ·exact A2f hx h hp' hw hd (kf rfl)
 ·exact A2f hx h hp' hw hd (kt rfl)
theorem A5t [hF : C1 P f] {b : Bool}
  (hg : evo env g = some (.func (.func f) ⟨us⟩ ⟨cs⟩)) (hx : evl env xs = some vs) (h : Fn P f (us ++ vs ++ cs) ins G (S5 (.bool b) ins G)) (hp' : hp.Perm (ins ++ rst)) (hw : M6 ops env gd = some true) (hd : Nat.blt d Γ.n = true)
  (kt : b = true → J2 P Γ ops rest K ⟨(d, .bool true) :: env, hp, G⟩) (kf : b = false → J2 P Γ ops rest K ⟨(d, .bool false) :: env, hp, G⟩) :
  J2 P Γ ops (⟨some d, .call ⟨.value g, ⟨xs⟩, ats⟩, ty, pos, af, gd⟩ :: rest) K ⟨env, hp, G⟩ := by
 cases b
 ·exact A9d hg hx h hp' hw hd (kf rfl)
 ·exact A9d hg hx h hp' hw hd (kt rfl)

theorem A5u [hF : C1 P f]
  (hx : evl env xs = some vs) (h : Fn P f vs ins G (S5 v0 outs G)) (hp' : hp.Perm (ins ++ rst)) (hw : M6 ops env gd = some true) (hd : Nat.blt d Γ.n = true)
  (k : J2 P Γ ops rest K ⟨(d, v0) :: env, outs ++ rst, G⟩) : J2 P Γ ops (⟨some d, .call ⟨.value (.func f), ⟨xs⟩, ats⟩, ty, pos, af, gd⟩ :: rest) K ⟨env, hp, G⟩ :=
 J0 (A5p hx h hp' hd) hw (by rintro _ ⟨v, G', outs, rfl, _, rfl, rfl, rfl⟩; exact k)
theorem B4E [hF : C1 P f] {b : Bool}
  (hx : evl env xs = some vs) (h : Fn P f vs ins G (S5 (.bool b) outs G)) (hp' : hp.Perm (ins ++ rst)) (hw : M6 ops env gd = some true) (hd : Nat.blt d Γ.n = true)
  (kt : b = true → J2 P Γ ops rest K ⟨(d, .bool true) :: env, outs ++ rst, G⟩) (kf : b = false → J2 P Γ ops rest K ⟨(d, .bool false) :: env, outs ++ rst, G⟩) :
  J2 P Γ ops (⟨some d, .call ⟨.value (.func f), ⟨xs⟩, ats⟩, ty, pos, af, gd⟩ :: rest) K ⟨env, hp, G⟩ := by
 cases b
 ·exact A5u hx h hp' hw hd (kf rfl)
 ·exact A5u hx h hp' hw hd (kt rfl)
theorem B4F {a b : A9} {r : List A9} : (a :: b :: r).Perm (r ++ [a, b]) := List.perm_append_comm (l₁ := [a, b])
theorem A04 : hp.Perm (hp ++ []) := by simp
inductive A6 (e : M8) : M8 → Prop
 | nil : A6 e []
 | cons {t : Nat} {v : Value} {e' : M8} : A0h e t = some v → A6 e e' → A6 e ((t, v) :: e')
inductive A1 : List A9 → List A9 → Prop
 | nil {h : List A9} : A1 h []
 | refl {h : List A9} : A1 h h
 | cons {h h' r : List A9} {e : A9} : Pk h e r → A1 r h' → A1 h (e :: h')
 | drop {x : A9} {h h' : List A9} : A1 h h' → A1 (x :: h) h'
variable {e' : M8}
theorem A6.spec {e : M8} (h : A6 e e') : ∀ t v, A0h e' t = some v → A0h e t = some v := by
 induction h with
 | nil => intro t v h; simp [A0h] at h
 | @cons t0 v0 e' h0 _ ih =>
  intro t v h
  rw [A6O] at h
  split at h
  ·rename_i he; subst he; simp at h; subst h; exact h0
  ·exact ih t v h
theorem A1.spec {h h' : List A9} (hs : A1 h h') : ∃ r, h.Perm (h' ++ r) := by
 induction hs with
 | @nil h => exact ⟨h, List.Perm.refl _⟩
 | @refl h => exact ⟨[], by simp⟩
 | @cons h h' r e hk _ ih =>
  obtain ⟨r', hr'⟩ := ih
  exact ⟨r', hk.perm.trans (by simpa using hr'.cons e)⟩
 | @drop x h h' _ ih =>
  obtain ⟨r', hr'⟩ := ih
  exact ⟨x :: r', (hr'.cons x).trans List.perm_middle.symm⟩
theorem J5 (es : List (List Value)) (a : List Value) : (es ++ [a]).flatten = es.flatten ++ a := by simp
theorem D6 (h : A6 env e') (h2 : A1 hp hp') : Sub ⟨env, hp, G⟩ ⟨e', hp', G⟩ := ⟨h.spec, h2.spec, rfl⟩

theorem E3 (h : A6 env e' := by repeat (first | exact A6.nil | refine A6.cons rfl ?_)) (h2 : A1 hp hp' := by repeat (first | exact A1.refl | exact A1.nil | refine A1.cons (by repeat (first | exact Pk.here | apply Pk.there)) ?_ | apply A1.drop)) : Sub ⟨env, hp, G⟩ ⟨e', hp', G⟩ := D6 h h2
variable {v : Value} {r : ResultVar}
theorem K6 (h : A0u P Γ ⟨env, hp, G⟩ r v) (hk : post G v []) :
  A03 P Γ [r] post .ret ⟨env, hp, G⟩ := A5q (.cons h .nil) hk
variable {A B : Prop}
theorem I0 (h : B) (f : B → A := by intro h; first | (show J2 _ _ _ [] _ _; exact sD h) | (show J2 _ _ _ (⟨_, .assign _, _, _, _, _⟩ :: _) _ _; first | exact sQ (qA rfl) rfl h | exact sK rfl rfl h) | (show J2 _ _ _ (⟨_, .move _, _, _, _, _⟩ :: _) _ _; first | exact sQ (qM rfl) rfl h | exact sK rfl rfl h) | (show J2 _ _ _ (⟨_, .fieldAddr _ _ _, _, _, _, _⟩ :: _) _ _; first | exact sQ (B4 rfl) rfl h | exact sQ (qF rfl) rfl h | exact sK rfl rfl h) | (show J2 _ _ _ (⟨_, .load _ _, _, _, _, _⟩ :: _) _ _; first | exact sL (C0 rfl rfl) rfl rfl h | exact sL (A4 rfl rfl) rfl rfl h | exact sK rfl rfl h) | (show J2 _ _ _ (⟨_, .store _ _ _, _, _, _, _⟩ :: _) _ _; refine sS' ?_; exact h) | (show J2 _ _ _ (⟨_, .pick _ _ _, _, _, _, _⟩ :: _) _ _; first | exact sQ (Q2 rfl rfl) rfl h | exact sQ (N6 rfl rfl) rfl h | exact sK rfl rfl h) | (show J2 _ _ _ (⟨_, .extract _ _, _, _, _, _⟩ :: _) _ _; first | exact sQ (pX rfl rfl) rfl h | exact sK rfl rfl h) | (show J2 _ _ _ (⟨_, .build _ _, _, _, _, _⟩ :: _) _ _; first | exact sQ (M7 rfl rfl) rfl h | exact sK rfl rfl h) | (show J2 _ _ _ (⟨_, .unOp _ _ _, _, _, _, _⟩ :: _) _ _; first | exact sQ (pNt rfl) rfl h | exact sQ (pNf rfl) rfl h | exact sK rfl rfl h) | (show J2 _ _ _ (⟨_, .call _, _, _, _, _⟩ :: _) _ _; first | exact sQ (pLn rfl rfl) rfl h | exact sK rfl rfl h) | (show J2 _ _ _ (_ :: _) _ _; exact sK rfl rfl h) | (show A1v _ _ _ _ .normal _; exact nS h) | (show J9 _ _ (.seq _ _) _ _; exact tS h) | (show J9 _ _ (.region _ _ _) _ _; exact tR h) | (show J9 _ _ (.cond _ _ _) _ _; first | exact qT rfl h | exact cF rfl h) | (show J9 _ _ .skip _ _; exact tK h) | (show J9 _ _ .ret _ _; exact tT h) | (show A1v _ _ _ _ .ret _; exact rS h) | (show A16 _ _ .ret _; exact rB h) | (show A16 _ _ .normal _; exact B4m h) | (show J9 _ _ (.exit _) _ _; exact B3Y h) | (show A1v _ _ _ _ (.exit _) _; exact B4l h) | (show A17 _ _ _ _ _ (.exit _) _; exact B32 h) | (show A16 _ _ (.exit _) _; exact B4n h) | (show A17 _ _ _ _ _ .ret _; exact B31 h) | (show A03 _ _ _ _ .ret _; exact K6 (rT rfl) h) | (show N4 _ _ _ _ _ _ _ _; exact V0 h)) : A := f h
theorem A5 (h : B) (f : B → A := by intro h; (iterate 2 (refine I0 ?_)); exact h) : A := f h
theorem B5 (h : B) (f : B → A := by intro h; (iterate 3 (refine I0 ?_)); exact h) : A := f h
theorem B6 (h : B) (f : B → A := by intro h; (iterate 4 (refine I0 ?_)); exact h) : A := f h
theorem B1 (h : B) (f : B → A := by intro h; (iterate 5 (refine I0 ?_)); exact h) : A := f h
theorem A7 (h : B) (f : B → A := by intro h; (iterate 6 (refine I0 ?_)); exact h) : A := f h
theorem B8 (h : B) (f : B → A := by intro h; (iterate 7 (refine I0 ?_)); exact h) : A := f h
theorem D4 (h : B) (f : B → A := by intro h; (iterate 8 (refine I0 ?_)); exact h) : A := f h
theorem E1 (h : B) (f : B → A := by intro h; (iterate 9 (refine I0 ?_)); exact h) : A := f h
theorem I9 (h : B) (f : B → A := by intro h; (iterate 10 (refine I0 ?_)); exact h) : A := f h
theorem J3 (h : B) (f : B → A := by intro h; (iterate 11 (refine I0 ?_)); exact h) : A := f h
theorem P3 (h : B) (f : B → A := by intro h; (iterate 12 (refine I0 ?_)); exact h) : A := f h
theorem K7 (h : B) (f : B → A := by intro h; (iterate 13 (refine I0 ?_)); exact h) : A := f h
theorem K5 (h : B) (f : B → A := by intro h; (iterate 14 (refine I0 ?_)); exact h) : A := f h
theorem K1 (h : B) (f : B → A := by intro h; (iterate 15 (refine I0 ?_)); exact h) : A := f h
theorem L9 (h : B) (f : B → A := by intro h; (iterate 16 (refine I0 ?_)); exact h) : A := f h
theorem W8 (h : B) (f : B → A := by intro h; (iterate 17 (refine I0 ?_)); exact h) : A := f h
theorem A0H (h : B) (f : B → A := by intro h; (iterate 18 (refine I0 ?_)); exact h) : A := f h
theorem A2G (h : B) (f : B → A := by intro h; (iterate 19 (refine I0 ?_)); exact h) : A := f h
theorem A1A (h : B) (f : B → A := by intro h; (iterate 20 (refine I0 ?_)); exact h) : A := f h
theorem A1i (h : B) (f : B → A := by intro h; (iterate 21 (refine I0 ?_)); exact h) : A := f h
theorem A2H (h : B) (f : B → A := by intro h; (iterate 22 (refine I0 ?_)); exact h) : A := f h
theorem A2I (h : B) (f : B → A := by intro h; (iterate 23 (refine I0 ?_)); exact h) : A := f h
theorem A9e (h : B) (f : B → A := by intro h; (iterate 24 (refine I0 ?_)); exact h) : A := f h
theorem B4G (h : B) (f : B → A := by intro h; (iterate 25 (refine I0 ?_)); exact h) : A := f h
theorem A63 (h : B) (f : B → A := by intro h; (iterate 26 (refine I0 ?_)); exact h) : A := f h
theorem A64 (h : B) (f : B → A := by intro h; (iterate 27 (refine I0 ?_)); exact h) : A := f h
theorem B4H (h : B) (f : B → A := by intro h; (iterate 28 (refine I0 ?_)); exact h) : A := f h
theorem A5v (h : B) (f : B → A := by intro h; (iterate 29 (refine I0 ?_)); exact h) : A := f h
theorem A9f (h : B) (f : B → A := by intro h; (iterate 30 (refine I0 ?_)); exact h) : A := f h
theorem F4 {r2 : ResultVar} {v2 : Value} (h : A0u P Γ ⟨env, hp, G⟩ r v) (h2 : A0u P Γ ⟨env, hp, G⟩ r2 v2) (hk : post G (.tuple ⟨[v, v2]⟩) []) :
  A03 P Γ [r, r2] post .ret ⟨env, hp, G⟩ := A5q (.cons h (.cons h2 .nil)) hk
theorem E5 {r2 r3 : ResultVar} {v2 v3 : Value} (h : A0u P Γ ⟨env, hp, G⟩ r v) (h2 : A0u P Γ ⟨env, hp, G⟩ r2 v2) (h3 : A0u P Γ ⟨env, hp, G⟩ r3 v3) (hk : post G (.tuple ⟨[v, v2, v3]⟩) []) :
  A03 P Γ [r, r2, r3] post .ret ⟨env, hp, G⟩ := A5q (.cons h (.cons h2 (.cons h3 .nil))) hk
theorem I6 (h : A0u P Γ ⟨env, hp, G⟩ r v) (ho : A1 hp outs) (hk : post G v outs) :
  A03 P Γ [r] post .ret ⟨env, hp, G⟩ := A86 (.cons h .nil) ho.spec hk
variable {K' : Sy → Prop} {l' : List Bool}
theorem D5 {d : Option Nat} (hi : ops[j]? = some ⟨d, op, ty, pos, af, gd⟩)
  (h : Y9 P Γ σ d op ty [] K') (hw : M6 ops σ.env gd = some true) (hl : listed.set j true = l')
  (k : ∀ σ', K' σ' → N4 P Γ ops K H fuel l' σ') : W6 P Γ ops K H fuel listed j σ := by
 refine ⟨fun a w hs Hs hHs hall hdc hrd => ?_⟩
 unfold wpOp
 simp only [hi, A1L hs.env hw, if_true]
 refine .inl (h.run a w hs pos af gd _ _ fun a' w' σ' h1 h2 h3 => ?_)
 have hkeep : ∀ h ∈ Hs, w'.heap[h.b]? = some h.o := fun x hx => by rw [h2.block x.b (A1f (hall x hx)) zP0, hall x hx]
 have hn : ∀ h ∈ Hn ops j Hs, w'.heap[h.b]? = some h.o := fun x hx => hkeep x (List.mem_filter.1 hx).1
 refine ⟨hn, ?_⟩
 have := (k σ' h3).run a' w' h1 Hs hHs hkeep (by rw [← hl]; simpa using hdc.step hrd)
 rw [← hl] at this
 exact A5l _ (fun x hx => (List.mem_filter.1 hx).1) _ _ _ (by simpa using this)

variable {mods : List Nat} {H' : List (Nat × Nat)}
theorem A4s {d : Option Nat} (hi : ops[j]? = some ⟨d, op, ty, pos, af, gd⟩)
  (h : Y9 P Γ σ d op ty mods K') (hw : M6 ops σ.env gd = some true) (hl : listed.set j true = l')
  (hm : ∀ a w, St Γ σ a w → ∀ p ∈ H, A0B ops j p.1 = true ∨ p.2 ∉ mods) (hH : H.filter (fun p => !A0B ops j p.1) = H')
  (k : ∀ σ', K' σ' → N4 P Γ ops K H' fuel l' σ') : W6 P Γ ops K H fuel listed j σ := by
 refine ⟨fun a w hs Hs hHs hall hdc hrd => ?_⟩
 exact (B36 (listed := listed) hi h hw hl (hm a w hs) (fun σ' hσ => by rw [hH]; exact k σ' hσ)).run a w hs Hs hHs hall hdc hrd
theorem B4I {d : Option Nat} (hi : ops[j]? = some ⟨d, op, ty, pos, af, gd⟩)
  (h : Y9 P Γ σ d op ty mods K') (hw : M6 ops σ.env gd = some true) (hl : listed.set j true = l')
  (hm : ((H.map Prod.fst).all fun i => A0B ops j i) = true)
  (k : ∀ σ', K' σ' → N4 P Γ ops K [] fuel l' σ') : W6 P Γ ops K H fuel listed j σ := by
 have hm' : ∀ p ∈ H, A0B ops j p.1 = true := fun p hp => List.all_eq_true.1 hm p.1 (List.mem_map.2 ⟨p, hp, rfl⟩)
 refine A4s hi h hw hl (fun _ _ _ p hp => .inl (hm' p hp)) ?_ k
 rw [List.filter_eq_nil_iff]
 intro p hp
 simp [hm' p hp]

inductive B3 (ops : Array Oper) (j : Nat) (hp : List A9) (G : IM) (e : A9) : List (Nat × Nat) → List (Nat × Nat) → Prop
 | nil : B3 ops j hp G e [] []
 | dep {i b : Nat} {r r' : List (Nat × Nat)} : A0B ops j i = true → B3 ops j hp G e r r' → B3 ops j hp G e ((i, b) :: r) r'
 | blk {i b : Nat} {cs : List Value} {rest : List A9} {r r' : List (Nat × Nat)} : A0B ops j i = false → Pk hp e rest → A9.blk b cs ∈ rest → B3 ops j hp G e r r' → B3 ops j hp G e ((i, b) :: r) ((i, b) :: r')
 | slc {i b c el sz n : Nat} {cs : List Value} {rest : List A9} {r r' : List (Nat × Nat)} : A0B ops j i = false → Pk hp e rest → A9.slc (some ⟨b, 0, none⟩) c el sz n cs ∈ rest → B3 ops j hp G e r r' → B3 ops j hp G e ((i, b) :: r) ((i, b) :: r')
 | im {i b : Nat} {r r' : List (Nat × Nat)} : A0B ops j i = false → G b ≠ none → e ∈ hp → B3 ops j hp G e r r' → B3 ops j hp G e ((i, b) :: r) ((i, b) :: r')
theorem B3.filter {j : Nat} {e : A9} {H H' : List (Nat × Nat)} (h : B3 ops j hp G e H H') : H.filter (fun p => !A0B ops j p.1) = H' := by
 induction h with
 | nil => rfl
 | dep hd _ ih => simp [hd, ih]
 | blk hd _ _ _ ih => simp [hd, ih]
 | slc hd _ _ _ ih => simp [hd, ih]
 | im hd _ _ _ ih => simp [hd, ih]

theorem B3.spec {e : A9} (h : B3 ops j hp G e H H') (hs : St Γ ⟨env, hp, G⟩ a w) : ∀ p ∈ H, A0B ops j p.1 = true ∨ p.2 ∉ e.fp := by
 have other : ∀ {rest : List A9} {x : A9}, Pk hp e rest → x ∈ rest → ∀ b ∈ x.fp, b ∉ e.fp := by
  intro rest x hk hx b hb hbe
  have := (hs.res.own.perm hk.perm).nodup
  rw [A0G, List.nodup_append] at this
  exact this.2.2 b (by simpa [Fp] using hbe) b (A5k.2 ⟨x, hx, hb⟩) rfl
 induction h with
 | nil => simp
 | dep hd _ ih =>
  intro p hp'
  rcases List.mem_cons.1 hp' with rfl | hp'
  ·exact .inl hd
  ·exact ih p hp'
 | blk _ hk hm _ ih =>
  intro p hp'
  rcases List.mem_cons.1 hp' with rfl | hp'
  ·exact .inr (other hk hm _ (by simp [A9.fp]))
  ·exact ih p hp'
 | slc _ hk hm _ ih =>
  intro p hp'
  rcases List.mem_cons.1 hp' with rfl | hp'
  ·exact .inr (other hk hm _ (by simp [A9.fp, K0]))
  ·exact ih p hp'
 | im _ hg hm _ ih =>
  intro p hp'
  rcases List.mem_cons.1 hp' with rfl | hp'
  ·refine .inr fun hbe => ?_
   exact hg (hs.res.own.disj _ (A5k.2 ⟨e, hm, hbe⟩))
  ·exact ih p hp'


section ones
variable {H : List (Nat × Nat)} {fuel : Nat} {listed l' : List Bool} {j d : Nat} {f : FuncId} {xs : List Operand} {ats : Array TypeId} {vs us cs : List Value} {v0 : Value} {b : Bool} {ins rst : List A9} {g : Operand}
theorem M9 [hF : C1 P f] (hi : ops[j]? = some ⟨some d, .call ⟨.value (.func f), ⟨xs⟩, ats⟩, ty, pos, af, gd⟩) (hx : evl env xs = some vs) (h : Fn P f vs [] G (I1 v0 G)) (hw : M6 ops env gd = some true) (hd : Nat.blt d Γ.n = true) (hl : listed.set j true = l')
  (k : N4 P Γ ops K H fuel l' ⟨(d, v0) :: env, hp, G⟩) : W6 P Γ ops K H fuel listed j ⟨env, hp, G⟩ :=
 D5 hi (A3F hx h hd) hw hl (by rintro _ ⟨v, G', outs, rfl, _, rfl, rfl, rfl⟩; exact k)
theorem V2 [hF : C1 P f] (hi : ops[j]? = some ⟨some d, .call ⟨.value (.func f), ⟨xs⟩, ats⟩, ty, pos, af, gd⟩) (hx : evl env xs = some vs) (h : Fn P f vs [] G (I1 (.bool b) G)) (hw : M6 ops env gd = some true) (hd : Nat.blt d Γ.n = true) (hl : listed.set j true = l')
  (kt : b = true → N4 P Γ ops K H fuel l' ⟨(d, .bool true) :: env, hp, G⟩) (kf : b = false → N4 P Γ ops K H fuel l' ⟨(d, .bool false) :: env, hp, G⟩) : W6 P Γ ops K H fuel listed j ⟨env, hp, G⟩ := by
 cases b
 ·exact M9 hi hx h hw hd hl (kf rfl)
 ·exact M9 hi hx h hw hd hl (kt rfl)
theorem E6 [hF : C1 P f] {Φ : IM → Value → Prop} (hi : ops[j]? = some ⟨some d, .call ⟨.value (.func f), ⟨xs⟩, ats⟩, ty, pos, af, gd⟩) (hx : evl env xs = some vs) (h : Fn P f vs [] G (M3 Φ)) (hw : M6 ops env gd = some true) (hd : Nat.blt d Γ.n = true) (hl : listed.set j true = l')
  (k : ∀ v G', C3 G G' → Φ G' v → N4 P Γ ops K H fuel l' ⟨(d, v) :: env, hp, G'⟩) : W6 P Γ ops K H fuel listed j ⟨env, hp, G⟩ :=
 D5 hi (A3F hx h hd) hw hl (by rintro _ ⟨v, G', outs, rfl, hle, rfl, hΦ⟩; exact k v G' hle hΦ)
theorem A9g [hF : C1 P f] (hi : ops[j]? = some ⟨some d, .call ⟨.value (.func f), ⟨xs⟩, ats⟩, ty, pos, af, gd⟩) (hx : evl env xs = some vs) (h : Fn P f vs [] G post) (hw : M6 ops env gd = some true) (hd : Nat.blt d Γ.n = true) (hl : listed.set j true = l')
  (k : ∀ v G' outs, C3 G G' → post G' v outs → N4 P Γ ops K H fuel l' ⟨(d, v) :: env, outs ++ hp, G'⟩) : W6 P Γ ops K H fuel listed j ⟨env, hp, G⟩ :=
 D5 hi (A3F hx h hd) hw hl (by rintro _ ⟨v, G', outs, rfl, hle, hp⟩; exact k v G' outs hle hp)
variable {bb : Nat}
theorem R8 [hI : I4 P t i] (hi : ops[j]? = some ⟨none, .store t x y, ty, pos, af, gd⟩)
  (hx : evo env x = some (.pointer (some ⟨bb, o, none⟩))) (hy : evo env y = some v) (hv : v.cells = ⟨vs⟩) (hsz : vs.length = i.size) (h1 : vs.all (·.oneCell') = true)
  (hw : M6 ops env gd = some true) (hl : listed.set j true = l') (hm : ((H.map Prod.fst).all fun i => A0B ops j i) = true)
  (hsw : Sw hp (.blk bb cs) (.blk bb cs') hp') (hu : T4 cs o vs = some cs')
  (k : N4 P Γ ops K [] fuel l' ⟨env, hp', G⟩) : W6 P Γ ops K H fuel listed j ⟨env, hp, G⟩ :=
 B4I hi (A6V hx hy hv hsz h1 hu hsw rfl) hw hl hm (by rintro _ rfl; exact k)
theorem R4 {el : TypeId} {sz : Nat} [hI : I4 P t i] [hE : Y1 P el sz by' zs] {p : Option Addr} {m : Nat} {hp' : Option Addr → Nat → List A9}
  (hi : ops[j]? = some ⟨some d, .call ⟨.builtin .append, ⟨[x, y]⟩, ⟨[t, t]⟩⟩, ty, pos, af, gd⟩) (hd' : i.desc = .slice el)
  (hd : Nat.blt d Γ.n = true) (hx : evo env x = some (.slice p n c)) (hy : evo env y = some (.slice (some ⟨bb, o, none⟩) m c')) (hsz : Nat.blt 0 sz = true)
  (hm : ∀ p' c', Sw hp (.slc p c el sz n cs) (.slc p' c' el sz (n + m) (cs ++ news)) (hp' p' c'))
  (hs' : At hp G bb o news) (hln : news.length = m * sz) (h1 : ∀ u ∈ news, u.oneCell' = true)
  (h63 : n + m ≤ maxLen) (hb : (n + m) * by' ≤ 140737488355328) (hw : M6 ops env gd = some true) (hl : listed.set j true = l')
  (hok : B3 ops j hp G (.slc p c el sz n cs) H H')
  (k : ∀ p' c', N4 P Γ ops K H' fuel l' ⟨(d, .slice p' (n + m) c') :: env, hp' p' c', G⟩) : W6 P Γ ops K H fuel listed j ⟨env, hp, G⟩ :=
 A4s hi (A62 hd' hd hx hy hsz hm hs' hln h1 h63 hb) hw hl (fun _ _ hs => hok.spec hs) hok.filter (by rintro _ ⟨p', c', rfl⟩; exact k p' c')
end ones
variable {bb : Nat}
theorem A2g {el : TypeId} {sz : Nat} [hI : I4 P t i] [hE : Y1 P el sz by' zs] {p : Option Addr} {m : Nat} {hp' : Option Addr → Nat → List A9}
  (hd' : i.desc = .slice el) (hd : Nat.blt d Γ.n = true) (hx : evo env x = some (.slice p n c)) (hy : evo env y = some (.slice (some ⟨bb, o, none⟩) m c')) (hsz : Nat.blt 0 sz = true)
  (hm : ∀ p' c', Sw hp (.slc p c el sz n cs) (.slc p' c' el sz (n + m) (cs ++ news)) (hp' p' c'))
  (hs' : At hp G bb o news) (hln : news.length = m * sz) (h1 : ∀ u ∈ news, u.oneCell' = true)
  (h63 : n + m ≤ maxLen) (hb : (n + m) * by' ≤ 140737488355328) (hw : M6 ops env gd = some true)
  (k : ∀ p' c', J2 P Γ ops rest K ⟨(d, .slice p' (n + m) c') :: env, hp' p' c', G⟩) : J2 P Γ ops (⟨some d, .call ⟨.builtin .append, ⟨[x, y]⟩, ⟨[t, t]⟩⟩, ty, pos, af, gd⟩ :: rest) K ⟨env, hp, G⟩ :=
 J0 (A62 hd' hd hx hy hsz hm hs' hln h1 h63 hb) hw (by rintro _ ⟨p', c', rfl⟩; exact k p' c')

end rules2
section oneS
variable {P : Program} {Γ : M5} {env : M8} {hp : List A9} {G : IM} {K : Po} {ops : Array Oper} {ty : TypeId} {pos : String} {af : Array Edge} {gd : Option (Nat × Bool)}
variable {d fuel : Nat} {listed l' : List Bool} {H : List (Nat × Nat)}
theorem A65 (hi : ops[j]? = some ⟨some d, op, ty, pos, af, gd⟩) (hw : M6 ops env gd = some false) (hd : Nat.blt d Γ.n = true) (hl : listed.set j true = l')
  (k : N4 P Γ ops K H fuel l' ⟨(d, undef) :: env, hp, G⟩) : W6 P Γ ops K H fuel listed j ⟨env, hp, G⟩ := by
 refine ⟨fun a w hs Hs hHs hall hdc hrd => ?_⟩
 unfold wpOp
 simp only [hi, A1L hs.env hw, Bool.false_eq_true, if_false]
 have hn : ∀ h ∈ Hn ops j Hs, w.heap[h.b]? = some h.o := fun x hx => hall x (List.mem_filter.1 hx).1
 refine ⟨hn, ?_⟩
 have := k.run _ w (hs.put d undef (by simpa using hd) hs.res) Hs hHs hall (by rw [← hl]; simpa using hdc.step hrd)
 rw [← hl] at this
 exact A5l _ (fun x hx => (List.mem_filter.1 hx).1) _ _ _ (by simpa using this)
end oneS
section oneM
variable {P : Program} {Γ : M5} {env : M8} {hp : List A9} {G : IM} {K : Po} {ops : Array Oper} {ty : TypeId} {pos : String} {af : Array Edge} {gd : Option (Nat × Bool)}
variable {v : Value} {bb o fuel : Nat} {x y : Operand} {vs : List Value} {listed l' : List Bool} {H H' : List (Nat × Nat)}
theorem A4t [hI : I4 P t i] (hi : ops[j]? = some ⟨none, .store t x y, ty, pos, af, gd⟩)
  (hx : evo env x = some (.pointer (some ⟨bb, o, none⟩))) (hy : evo env y = some v) (hv : v.cells = ⟨vs⟩) (hsz : vs.length = i.size) (h1 : vs.all (·.oneCell') = true)
  (hw : M6 ops env gd = some true) (hl : listed.set j true = l') (hsw : Sw hp (.blk bb cs) (.blk bb cs') hp') (hu : T4 cs o vs = some cs')
  (hok : B3 ops j hp G (.blk bb cs) H H')
  (k : N4 P Γ ops K H' fuel l' ⟨env, hp', G⟩) : W6 P Γ ops K H fuel listed j ⟨env, hp, G⟩ :=
 A4s hi (A6V hx hy hv hsz h1 hu hsw rfl) hw hl (fun _ _ hs => by simpa [A9.fp] using hok.spec hs) hok.filter (by rintro _ rfl; exact k)
theorem oS [hI : I4 P t i] (hi : ops[j]? = some ⟨none, .store t x y, ty, pos, af, gd⟩)
 (hx : evo env x = some (.pointer (some ⟨bb, o, none⟩))) (hy : evo env y = some v) (hv : v.cells = ⟨vs⟩) (hsz : vs.length = i.size) (h1 : vs.all (·.oneCell') = true)
 (hw : M6 ops env gd = some true) (hl : listed.set j true = l')
 (k : N4 P Γ ops K H' fuel l' ⟨env, hp', G⟩) (hsw : Sw hp (.blk bb cs) (.blk bb cs') hp' := by repeat first | exact Sw.here | apply Sw.there) (hu : T4 cs o vs = some cs' := by rfl)
 (hok : B3 ops j hp G (.blk bb cs) H H' := by repeat (first | exact B3.nil | apply B3.dep zK0 | apply B3.im zK0 zL0 (by repeat first | exact mH | apply mT) | apply B3.blk zK0 (by repeat (first | exact Pk.here | apply Pk.there)) (by repeat first | exact mH | apply mT) | apply B3.slc zK0 (by repeat (first | exact Pk.here | apply Pk.there)) (by repeat first | exact mH | apply mT))) : W6 P Γ ops K H fuel listed j ⟨env, hp, G⟩ :=
 A4t hi hx hy hv hsz h1 hw hl hsw hu hok k
theorem oT [hI : I4 P t i] [hl : A1z listed j l'] (hi : ops[j]? = some ⟨none, .store t x y, ty, pos, af, gd⟩)
 (hx : evo env x = some (.pointer (some ⟨bb, o, none⟩))) (hy : evo env y = some v) (hv : v.cells = ⟨vs⟩) (hsz : vs.length = i.size) (h1 : vs.all (·.oneCell') = true)
 (hw : M6 ops env gd = some true)
 (k : N4 P Γ ops K H' fuel l' ⟨env, hp', G⟩) (hsw : Sw hp (.blk bb cs) (.blk bb cs') hp' := by repeat first | exact Sw.here | apply Sw.there) (hu : T4 cs o vs = some cs' := by rfl)
 (hok : B3 ops j hp G (.blk bb cs) H H' := by repeat (first | exact B3.nil | apply B3.dep zK0 | apply B3.im zK0 zL0 (by repeat first | exact mH | apply mT) | apply B3.blk zK0 (by repeat (first | exact Pk.here | apply Pk.there)) (by repeat first | exact mH | apply mT) | apply B3.slc zK0 (by repeat (first | exact Pk.here | apply Pk.there)) (by repeat first | exact mH | apply mT))) : W6 P Γ ops K H fuel listed j ⟨env, hp, G⟩ :=
 A4t hi hx hy hv hsz h1 hw hl.h hsw hu hok k
theorem E9 [hI : I4 P t i] [hl : A1z listed j l']
 (hi : ops[j]? = some ⟨none, .store t x y, ty, pos, af, gd⟩) (k : N4 P Γ ops K H' fuel l' ⟨env, hp', G⟩)
 (hx : evo env x = some (.pointer (some ⟨bb, o, none⟩)) := by rfl) (hy : evo env y = some v := by rfl) (hv : v.cells = ⟨vs⟩ := by rfl) (hsz : vs.length = i.size := by rfl) (h1 : vs.all (·.oneCell') = true := by rfl)
 (hw : M6 ops env gd = some true := by rfl) (hsw : Sw hp (.blk bb cs) (.blk bb cs') hp' := by repeat first | exact Sw.here | apply Sw.there) (hu : T4 cs o vs = some cs' := by rfl)
 (hok : B3 ops j hp G (.blk bb cs) H H' := by repeat (first | exact B3.nil | apply B3.dep zK0 | apply B3.im zK0 zL0 (by repeat first | exact mH | apply mT) | apply B3.blk zK0 (by repeat (first | exact Pk.here | apply Pk.there)) (by repeat first | exact mH | apply mT) | apply B3.slc zK0 (by repeat (first | exact Pk.here | apply Pk.there)) (by repeat first | exact mH | apply mT))) : W6 P Γ ops K H fuel listed j ⟨env, hp, G⟩ :=
 A4t hi hx hy hv hsz h1 hw hl.h hsw hu hok k
end oneM

def Wo (G : IM) (F : List Nat) : IM := fun b => if b ∈ F then none else G b
def A2h (bs : List (Nat × List Value)) : List A9 := bs.map fun p => .blk p.1 p.2
theorem A4u : ∀ bs : List (Nat × List Value), Fp (A2h bs) = bs.map Prod.fst
 | [] => rfl
 | p :: bs => by
  show (A9.blk p.1 p.2).fp ++ Fp (A2h bs) = _
  rw [A4u bs]; rfl
variable {bs : List (Nat × List Value)}
theorem B4J {p : Nat × List Value} (h : p ∈ bs) : A9.blk p.1 p.2 ∈ A2h bs := List.mem_map.2 ⟨p, h, rfl⟩

def Wi (G : IM) (bs : List (Nat × List Value)) : IM := fun b => match bs.lookup b with | some l => some l | none => G b
theorem B4K (hn : (bs.map Prod.fst).Nodup) {p : Nat × List Value} (h : p ∈ bs) : bs.lookup p.1 = some p.2 := by
 induction bs with
 | nil => cases h
 | cons q bs ih =>
  obtain ⟨k, v⟩ := q
  simp only [List.map_cons, List.nodup_cons] at hn
  rcases List.mem_cons.1 h with rfl | h
  ·simp [List.lookup]
  ·have hne : p.1 ≠ k := by
    intro he; exact hn.1 (List.mem_map.2 ⟨p, h, he⟩)
   simp only [List.lookup]
   rw [show (p.1 == k) = false from beq_eq_false_iff_ne.2 hne]
   exact ih hn.2 h
theorem A9h (h : bs.lookup b = some l) : (b, l) ∈ bs := by
 induction bs with
 | nil => simp [List.lookup] at h
 | cons q bs ih =>
  obtain ⟨k, v⟩ := q
  simp only [List.lookup] at h
  split at h
  ·rename_i he
   have : b = k := by simpa using he
   cases h; rw [this]; exact List.mem_cons_self
  ·exact List.mem_cons_of_mem _ (ih h)
theorem Wi.get (h : Wi G bs b = some l) : (b, l) ∈ bs ∨ G b = some l := by
 unfold Wi at h
 split at h
 ·rename_i l' hl; cases h; exact .inl (A9h hl)
 ·exact .inr h
theorem Wi.in (hn : (bs.map Prod.fst).Nodup) {p : Nat × List Value} (h : p ∈ bs) : Wi G bs p.1 = some p.2 := by
 unfold Wi; rw [B4K hn h]
theorem Wi.le (h : ∀ p ∈ bs, G p.1 = none) : C3 G (Wi G bs) := by
 intro b l hb
 unfold Wi
 split
 ·rename_i l' hl
  have := h _ (A9h hl)
  rw [show ((b, l') : Nat × List Value).1 = b from rfl, hb] at this; cases this
 ·exact hb

theorem B4L (hown : U5 (A2h bs) G w) (hz : ∀ p ∈ bs, ∃ e, w.heap[p.1]? = some (.cells p.2.toArray e (0, 0))) :
  S0 (A2h bs) G w [] (Wi G bs) w := by
 have hd : ∀ p ∈ bs, G p.1 = none := fun p hp => hown.disj p.1 (by rw [A4u]; exact List.mem_map_of_mem hp)
 refine ⟨⟨?_, by simp, by simp [Fp], by simp [Fp]⟩, Ext.refl _ _, Wi.le hd, ?_, by simp [Fp], ?_⟩
 ·intro b l hb
  rcases Wi.get hb with h | h
  ·obtain ⟨e, he⟩ := hz _ h; exact ⟨e, _, he⟩
  ·exact hown.inn b l h
 ·intro b l hb
  rcases Wi.get hb with h | h
  ·right; right; rw [A4u]; exact List.mem_map.2 ⟨_, h, rfl⟩
  ·exact .inl h
 ·intro b l hb h0
  rcases Wi.get hb with h | h
  ·exact hz _ h
  ·rw [h0] at h; cases h

section rules3
variable {P : Program} {Γ : M5} {env : M8} {hp : List A9} {G : IM} {K : Po} {ops : Array Oper} {rest : List Oper}

theorem St.freezes (hs : St Γ ⟨env, hp, G⟩ a w) (p : hp.Perm (A2h bs ++ hp')) :
  St Γ ⟨env, hp', Wi G bs⟩ a w ∧ (bs.map Prod.fst).Nodup ∧ ∀ q ∈ bs, G q.1 = none := by
 have hown : U5 (A2h bs) G w := (hs.res.own.perm p).left
 have hr := B4L hown fun q hq => hown.ok _ (B4J hq)
 refine ⟨⟨hs.size, hs.nod, hs.env, by have := (hs.res.perm p).frame hr; simpa using this⟩, by have := hown.nodup; rwa [A4u] at this, fun q hq => hown.disj q.1 (by rw [A4u]; exact List.mem_map_of_mem hq)⟩
variable {cd : Code}
theorem A2i (p : hp.Perm (A2h bs ++ hp'))
  (h : (bs.map Prod.fst).Nodup → (∀ q ∈ bs, G q.1 = none) → C3 G (Wi G bs) → J9 P Γ cd K ⟨env, hp', Wi G bs⟩) : J9 P Γ cd K ⟨env, hp, G⟩ :=
 ⟨fun a w hs => let ⟨h1, h2, h3⟩ := hs.freezes p; (h h2 h3 (Wi.le h3)).run a w h1⟩
end rules3
end Gw
end Go.Proofs.YtmceanphadildaaGreatDoor
namespace Go.Proofs.YtmceanphadildaaGreatDoor
open Go Tryz Go.Proofs.Tryz
namespace Gw
variable {zs : List Value} {n b : Nat} {t : TypeId} {P : Program}
theorem Y3 {d : TypeDesc} (h : (P.info? t).map (fun i => (i.size, i.bytes, i.zero.map Value.cells)) = some (n, b, some ⟨zs⟩)) (hu : P.underlying t = some d) : I4 P t ⟨n, b, zs, d⟩ := by
 refine ⟨?_, hu⟩
 cases hi : P.info? t with
 | none => simp [hi] at h
 | some i =>
  simp only [hi, Option.map_some, Option.some.injEq, Prod.mk.injEq] at h
  obtain ⟨h1, h2, h3⟩ := h
  cases hz : i.zero with
  | none => simp [hz] at h3
  | some z => simp only [hz, Option.map_some, Option.some.injEq] at h3; exact ⟨i, rfl, h1, h2, z, hz, h3⟩
variable {ag : Bool} {off : Nat}
theorem V8 {s f sz : Nat} {ft : TypeId} {fs : Array Field} {d : TypeDesc} {r : L8} (hI : I4 P ft r) (hs : P.underlying s = some (.struct fs)) (hf : (fs[f]?).map (fun x => (x.offset, x.type)) = some (off, ft)) (h1 : r.size = sz) (h2 : sz ≠ 0) (h3 : r.desc = d) (h4 : A2a d = ag) : U2 P s f off sz ag := by
 cases hx : fs[f]? with
 | none => simp [hx] at hf
 | some x =>
  simp [hx] at hf
  obtain ⟨rfl, rfl⟩ := hf
  obtain ⟨inf, g1, g2, _⟩ := hI.info
  exact ⟨fs, x, d, inf, hs, hx, rfl, g1, by rw [g2, h1], h2, by rw [← h3]; exact hI.und, h4⟩
theorem C8 {f : Nat} {fn : Func} (h : P.funcs[f]? = some fn) (h1 : fn.body.isNone = false) (h2 : (fn.name == "runtime.NumGoroutine") = false) : C1 P f := ⟨fn, h, h1, h2⟩
instance ty3 : I4 prog 3 ⟨1, 8, [.int .i64 0], (TypeDesc.int IntKind.i64)⟩ := Y3 zM0 underlying3
instance ty4 : I4 prog 4 ⟨1, 1, [.bool false], TypeDesc.bool⟩ := Y3 zM0 underlying4
instance ty5 : I4 prog 5 ⟨1, 1, [.int .u8 0], (TypeDesc.int IntKind.u8)⟩ := Y3 zM0 underlying5
instance ty9 : I4 prog 9 ⟨1, 16, [.string ByteArray.empty], TypeDesc.string⟩ := Y3 zM0 underlying9
instance ty22 : I4 prog 22 ⟨1, 24, [.slice none 0 0], (TypeDesc.slice 5)⟩ := Y3 zM0 underlying22
instance ty23 : I4 prog 23 ⟨1, 24, [.slice none 0 0], (TypeDesc.slice 25)⟩ := Y3 zM0 underlying23
instance ty25 : I4 prog 25 ⟨2, 32, [.int .i64 0, .slice none 0 0], (TypeDesc.struct #[{ name := "Kind", type := 3, offset := 0, embedded := false, tag := "", pkgPath := "", byteOffset := 0 }, { name := "Kids", type := 23, offset := 1, embedded := false, tag := "", pkgPath := "", byteOffset := 8 }])⟩ := Y3 zM0 underlying25
instance ty26 : I4 prog 26 ⟨1, 24, [.slice none 0 0], (TypeDesc.slice 28)⟩ := Y3 zM0 underlying26
instance ty28 : I4 prog 28 ⟨9, 128, [.int .i64 0, .string ByteArray.empty, .int .i64 0, .int .i64 0, .slice none 0 0, .int .i64 0, .slice none 0 0, .int .i64 0, .slice none 0 0], (TypeDesc.struct #[{ name := "Kind", type := 3, offset := 0, embedded := false, tag := "", pkgPath := "", byteOffset := 0 }, { name := "Name", type := 9, offset := 1, embedded := false, tag := "", pkgPath := "", byteOffset := 8 }, { name := "Num", type := 3, offset := 2, embedded := false, tag := "", pkgPath := "", byteOffset := 24 }, { name := "Type", type := 25, offset := 3, embedded := false, tag := "", pkgPath := "", byteOffset := 32 }, { name := "From", type := 25, offset := 5, embedded := false, tag := "", pkgPath := "", byteOffset := 64 }, { name := "Label", type := 3, offset := 7, embedded := false, tag := "", pkgPath := "", byteOffset := 96 }, { name := "Kids", type := 26, offset := 8, embedded := false, tag := "", pkgPath := "", byteOffset := 104 }])⟩ := Y3 zM0 underlying28
instance ty63 : I4 prog 63 ⟨1, 24, [.slice none 0 0], (TypeDesc.slice 65)⟩ := Y3 zM0 underlying63
instance ty65 : I4 prog 65 ⟨4, 48, [.int .i64 0, .int .i64 0, .int .i64 0, .slice none 0 0], (TypeDesc.struct #[{ name := "Kind", type := 3, offset := 0, embedded := false, tag := "", pkgPath := "", byteOffset := 0 }, { name := "Tag", type := 3, offset := 1, embedded := false, tag := "", pkgPath := "", byteOffset := 8 }, { name := "Label", type := 3, offset := 2, embedded := false, tag := "", pkgPath := "", byteOffset := 16 }, { name := "Kids", type := 63, offset := 3, embedded := false, tag := "", pkgPath := "", byteOffset := 24 }])⟩ := Y3 zM0 underlying65
instance ty66 : I4 prog 66 ⟨1, 24, [.slice none 0 0], (TypeDesc.slice 68)⟩ := Y3 zM0 underlying66
instance ty68 : I4 prog 68 ⟨14, 200, [.int .i64 0, .string ByteArray.empty, .int .i64 0, .int .i64 0, .slice none 0 0, .int .i64 0, .slice none 0 0, .int .i64 0, .slice none 0 0, .int .i64 0, .int .i64 0, .int .i64 0, .slice none 0 0, .slice none 0 0], (TypeDesc.struct #[{ name := "node", type := 28, offset := 0, embedded := false, tag := "", pkgPath := "loop.example/gradual/impl", byteOffset := 0 }, { name := "co", type := 65, offset := 9, embedded := false, tag := "", pkgPath := "loop.example/gradual/impl", byteOffset := 128 }, { name := "kids", type := 66, offset := 13, embedded := false, tag := "", pkgPath := "loop.example/gradual/impl", byteOffset := 176 }])⟩ := Y3 zM0 underlying68
instance ty90 : I4 prog 90 ⟨2, 32, [.slice none 0 0, .int .i64 0], (TypeDesc.struct #[{ name := "b", type := 22, offset := 0, embedded := false, tag := "", pkgPath := "loop.example/gradual/spec", byteOffset := 0 }, { name := "p", type := 3, offset := 1, embedded := false, tag := "", pkgPath := "loop.example/gradual/spec", byteOffset := 24 }])⟩ := Y3 zM0 underlying90
instance ty95 : I4 prog 95 ⟨1, 24, [.slice none 0 0], (TypeDesc.slice 98)⟩ := Y3 zM0 underlying95
instance ty98 : I4 prog 98 ⟨3, 48, [.string ByteArray.empty, .int .i64 0, .slice none 0 0], (TypeDesc.struct #[{ name := "Name", type := 9, offset := 0, embedded := false, tag := "", pkgPath := "", byteOffset := 0 }, { name := "Type", type := 25, offset := 1, embedded := false, tag := "", pkgPath := "", byteOffset := 16 }])⟩ := Y3 zM0 underlying98
instance ty112 : I4 prog 112 ⟨1, 24, [.slice none 0 0], (TypeDesc.slice 114)⟩ := Y3 zM0 underlying112
instance ty114 : I4 prog 114 ⟨14, 200, [.int .i64 0, .string ByteArray.empty, .int .i64 0, .int .i64 0, .slice none 0 0, .int .i64 0, .slice none 0 0, .int .i64 0, .slice none 0 0, .int .i64 0, .int .i64 0, .int .i64 0, .slice none 0 0, .slice none 0 0], (TypeDesc.struct #[{ name := "e", type := 28, offset := 0, embedded := false, tag := "", pkgPath := "loop.example/gradual/spec", byteOffset := 0 }, { name := "co", type := 65, offset := 9, embedded := false, tag := "", pkgPath := "loop.example/gradual/spec", byteOffset := 128 }, { name := "kids", type := 112, offset := 13, embedded := false, tag := "", pkgPath := "loop.example/gradual/spec", byteOffset := 176 }])⟩ := Y3 zM0 underlying114
instance ty125 : I4 prog 125 ⟨1, 8, [.int .i64 0], (TypeDesc.struct #[{ name := "label", type := 3, offset := 0, embedded := false, tag := "", pkgPath := "loop.example/gradual/impl", byteOffset := 0 }])⟩ := Y3 zM0 underlying125
instance ty138 : I4 prog 138 ⟨1, 24, [.slice none 0 0], (TypeDesc.slice 3)⟩ := Y3 zM0 underlying138
instance ty162 : I4 prog 162 ⟨1, 24, [.slice none 0 0], (TypeDesc.slice 9)⟩ := Y3 zM0 underlying162
instance tz3 : Y1 prog 3 1 8 [.int .i64 0] := ⟨⟨_, ty3⟩, rfl⟩
instance tz5 : Y1 prog 5 1 1 [.int .u8 0] := ⟨⟨_, ty5⟩, rfl⟩
instance tz9 : Y1 prog 9 1 16 [.string ByteArray.empty] := ⟨⟨_, ty9⟩, rfl⟩
instance tz25 : Y1 prog 25 2 32 [.int .i64 0, .slice none 0 0] := ⟨⟨_, ty25⟩, rfl⟩
instance tz28 : Y1 prog 28 9 128 [.int .i64 0, .string ByteArray.empty, .int .i64 0, .int .i64 0, .slice none 0 0, .int .i64 0, .slice none 0 0, .int .i64 0, .slice none 0 0] := ⟨⟨_, ty28⟩, rfl⟩
instance tz65 : Y1 prog 65 4 48 [.int .i64 0, .int .i64 0, .int .i64 0, .slice none 0 0] := ⟨⟨_, ty65⟩, rfl⟩
instance tz68 : Y1 prog 68 14 200 [.int .i64 0, .string ByteArray.empty, .int .i64 0, .int .i64 0, .slice none 0 0, .int .i64 0, .slice none 0 0, .int .i64 0, .slice none 0 0, .int .i64 0, .int .i64 0, .int .i64 0, .slice none 0 0, .slice none 0 0] := ⟨⟨_, ty68⟩, rfl⟩
instance tz98 : Y1 prog 98 3 48 [.string ByteArray.empty, .int .i64 0, .slice none 0 0] := ⟨⟨_, ty98⟩, rfl⟩
instance tz114 : Y1 prog 114 14 200 [.int .i64 0, .string ByteArray.empty, .int .i64 0, .int .i64 0, .slice none 0 0, .int .i64 0, .slice none 0 0, .int .i64 0, .slice none 0 0, .int .i64 0, .int .i64 0, .int .i64 0, .slice none 0 0, .slice none 0 0] := ⟨⟨_, ty114⟩, rfl⟩
instance fd25_0 : U2 prog 25 0 0 1 false := V8 ty3 underlying25 rfl rfl zN0 rfl rfl
instance fd25_1 : U2 prog 25 1 1 1 false := V8 ty23 underlying25 rfl rfl zN0 rfl rfl
instance fd28_0 : U2 prog 28 0 0 1 false := V8 ty3 underlying28 rfl rfl zN0 rfl rfl
instance fd28_1 : U2 prog 28 1 1 1 false := V8 ty9 underlying28 rfl rfl zN0 rfl rfl
instance fd28_2 : U2 prog 28 2 2 1 false := V8 ty3 underlying28 rfl rfl zN0 rfl rfl
instance fd28_3 : U2 prog 28 3 3 2 true := V8 ty25 underlying28 rfl rfl zN0 rfl rfl
instance fd28_4 : U2 prog 28 4 5 2 true := V8 ty25 underlying28 rfl rfl zN0 rfl rfl
instance fd28_5 : U2 prog 28 5 7 1 false := V8 ty3 underlying28 rfl rfl zN0 rfl rfl
instance fd28_6 : U2 prog 28 6 8 1 false := V8 ty26 underlying28 rfl rfl zN0 rfl rfl
instance fd65_0 : U2 prog 65 0 0 1 false := V8 ty3 underlying65 rfl rfl zN0 rfl rfl
instance fd65_1 : U2 prog 65 1 1 1 false := V8 ty3 underlying65 rfl rfl zN0 rfl rfl
instance fd65_2 : U2 prog 65 2 2 1 false := V8 ty3 underlying65 rfl rfl zN0 rfl rfl
instance fd65_3 : U2 prog 65 3 3 1 false := V8 ty63 underlying65 rfl rfl zN0 rfl rfl
instance fd68_0 : U2 prog 68 0 0 9 true := V8 ty28 underlying68 rfl rfl zN0 rfl rfl
instance fd68_1 : U2 prog 68 1 9 4 true := V8 ty65 underlying68 rfl rfl zN0 rfl rfl
instance fd68_2 : U2 prog 68 2 13 1 false := V8 ty66 underlying68 rfl rfl zN0 rfl rfl
instance fd90_0 : U2 prog 90 0 0 1 false := V8 ty22 underlying90 rfl rfl zN0 rfl rfl
instance fd90_1 : U2 prog 90 1 1 1 false := V8 ty3 underlying90 rfl rfl zN0 rfl rfl
instance fd98_0 : U2 prog 98 0 0 1 false := V8 ty9 underlying98 rfl rfl zN0 rfl rfl
instance fd98_1 : U2 prog 98 1 1 2 true := V8 ty25 underlying98 rfl rfl zN0 rfl rfl
instance fd114_0 : U2 prog 114 0 0 9 true := V8 ty28 underlying114 rfl rfl zN0 rfl rfl
instance fd114_1 : U2 prog 114 1 9 4 true := V8 ty65 underlying114 rfl rfl zN0 rfl rfl
instance fd114_2 : U2 prog 114 2 13 1 false := V8 ty112 underlying114 rfl rfl zN0 rfl rfl
instance fd125_0 : U2 prog 125 0 0 1 false := V8 ty3 underlying125 rfl rfl zN0 rfl rfl
instance fn11 : C1 prog 11 := C8 func11 zM0 zM0
instance fn14 : C1 prog 14 := C8 func14 zM0 zM0
instance fn16 : C1 prog 16 := C8 func16 zM0 zM0
instance fn18 : C1 prog 18 := C8 func18 zM0 zM0
instance fn19 : C1 prog 19 := C8 func19 zM0 zM0
instance fn21 : C1 prog 21 := C8 func21 zM0 zM0
instance fn22 : C1 prog 22 := C8 func22 zM0 zM0
instance fn23 : C1 prog 23 := C8 func23 zM0 zM0
instance fn25 : C1 prog 25 := C8 func25 zM0 zM0
instance fn28 : C1 prog 28 := C8 func28 zM0 zM0
instance fn29 : C1 prog 29 := C8 func29 zM0 zM0
instance fn31 : C1 prog 31 := C8 func31 zM0 zM0
instance fn32 : C1 prog 32 := C8 func32 zM0 zM0
instance fn33 : C1 prog 33 := C8 func33 zM0 zM0
instance fn34 : C1 prog 34 := C8 func34 zM0 zM0
instance fn35 : C1 prog 35 := C8 func35 zM0 zM0
instance fn36 : C1 prog 36 := C8 func36 zM0 zM0
instance fn37 : C1 prog 37 := C8 func37 zM0 zM0
instance fn40 : C1 prog 40 := C8 func40 zM0 zM0
instance fn41 : C1 prog 41 := C8 func41 zM0 zM0
instance fn44 : C1 prog 44 := C8 func44 zM0 zM0
instance fn47 : C1 prog 47 := C8 func47 zM0 zM0
instance fn48 : C1 prog 48 := C8 func48 zM0 zM0
instance fn49 : C1 prog 49 := C8 func49 zM0 zM0
instance fn52 : C1 prog 52 := C8 func52 zM0 zM0
instance fn54 : C1 prog 54 := C8 func54 zM0 zM0
instance fn56 : C1 prog 56 := C8 func56 zM0 zM0
instance fn57 : C1 prog 57 := C8 func57 zM0 zM0
instance fn58 : C1 prog 58 := C8 func58 zM0 zM0
instance fn59 : C1 prog 59 := C8 func59 zM0 zM0
instance fn60 : C1 prog 60 := C8 func60 zM0 zM0
instance fn62 : C1 prog 62 := C8 func62 zM0 zM0
instance fn63 : C1 prog 63 := C8 func63 zM0 zM0
instance fn64 : C1 prog 64 := C8 func64 zM0 zM0
instance fn65 : C1 prog 65 := C8 func65 zM0 zM0
instance fn66 : C1 prog 66 := C8 func66 zM0 zM0
instance fn67 : C1 prog 67 := C8 func67 zM0 zM0
instance fn68 : C1 prog 68 := C8 func68 zM0 zM0
instance fn69 : C1 prog 69 := C8 func69 zM0 zM0
instance fn70 : C1 prog 70 := C8 func70 zM0 zM0
instance fn71 : C1 prog 71 := C8 func71 zM0 zM0
instance fn72 : C1 prog 72 := C8 func72 zM0 zM0
instance fn73 : C1 prog 73 := C8 func73 zM0 zM0
instance fn74 : C1 prog 74 := C8 func74 zM0 zM0
instance fn75 : C1 prog 75 := C8 func75 zM0 zM0
instance fn76 : C1 prog 76 := C8 func76 zM0 zM0
instance fn78 : C1 prog 78 := C8 func78 zM0 zM0
instance fn79 : C1 prog 79 := C8 func79 zM0 zM0
instance fn80 : C1 prog 80 := C8 func80 zM0 zM0
instance fn81 : C1 prog 81 := C8 func81 zM0 zM0
instance fn82 : C1 prog 82 := C8 func82 zM0 zM0
instance fn83 : C1 prog 83 := C8 func83 zM0 zM0
instance fn84 : C1 prog 84 := C8 func84 zM0 zM0
instance fn85 : C1 prog 85 := C8 func85 zM0 zM0
instance fn87 : C1 prog 87 := C8 func87 zM0 zM0
instance fn88 : C1 prog 88 := C8 func88 zM0 zM0
instance fn89 : C1 prog 89 := C8 func89 zM0 zM0
instance fn91 : C1 prog 91 := C8 func91 zM0 zM0
instance fn92 : C1 prog 92 := C8 func92 zM0 zM0
instance fn93 : C1 prog 93 := C8 func93 zM0 zM0
instance fn94 : C1 prog 94 := C8 func94 zM0 zM0
instance fn95 : C1 prog 95 := C8 func95 zM0 zM0
instance fn96 : C1 prog 96 := C8 func96 zM0 zM0
instance fn97 : C1 prog 97 := C8 func97 zM0 zM0
instance fn98 : C1 prog 98 := C8 func98 zM0 zM0
instance fn99 : C1 prog 99 := C8 func99 zM0 zM0
instance fn100 : C1 prog 100 := C8 func100 zM0 zM0
instance fn101 : C1 prog 101 := C8 func101 zM0 zM0
instance fn102 : C1 prog 102 := C8 func102 zM0 zM0
instance fn103 : C1 prog 103 := C8 func103 zM0 zM0
instance fn105 : C1 prog 105 := C8 func105 zM0 zM0
instance fn106 : C1 prog 106 := C8 func106 zM0 zM0
instance fn107 : C1 prog 107 := C8 func107 zM0 zM0
instance fn108 : C1 prog 108 := C8 func108 zM0 zM0
instance fn109 : C1 prog 109 := C8 func109 zM0 zM0
instance fn110 : C1 prog 110 := C8 func110 zM0 zM0
instance fn111 : C1 prog 111 := C8 func111 zM0 zM0
instance fn112 : C1 prog 112 := C8 func112 zM0 zM0
instance fn113 : C1 prog 113 := C8 func113 zM0 zM0
instance fn114 : C1 prog 114 := C8 func114 zM0 zM0
instance fn115 : C1 prog 115 := C8 func115 zM0 zM0
instance fn116 : C1 prog 116 := C8 func116 zM0 zM0
instance fn117 : C1 prog 117 := C8 func117 zM0 zM0
instance fn118 : C1 prog 118 := C8 func118 zM0 zM0
instance fn119 : C1 prog 119 := C8 func119 zM0 zM0
instance fn120 : C1 prog 120 := C8 func120 zM0 zM0
instance fn121 : C1 prog 121 := C8 func121 zM0 zM0
instance fn122 : C1 prog 122 := C8 func122 zM0 zM0
instance fn124 : C1 prog 124 := C8 func124 zM0 zM0
instance fn126 : C1 prog 126 := C8 func126 zM0 zM0
instance fn127 : C1 prog 127 := C8 func127 zM0 zM0
instance fn128 : C1 prog 128 := C8 func128 zM0 zM0
instance fn129 : C1 prog 129 := C8 func129 zM0 zM0
instance fn130 : C1 prog 130 := C8 func130 zM0 zM0
instance fn131 : C1 prog 131 := C8 func131 zM0 zM0
instance fn132 : C1 prog 132 := C8 func132 zM0 zM0
instance fn133 : C1 prog 133 := C8 func133 zM0 zM0
instance fn134 : C1 prog 134 := C8 func134 zM0 zM0
instance fn135 : C1 prog 135 := C8 func135 zM0 zM0
instance fn136 : C1 prog 136 := C8 func136 zM0 zM0
instance fn137 : C1 prog 137 := C8 func137 zM0 zM0
instance fn138 : C1 prog 138 := C8 func138 zM0 zM0
instance fn139 : C1 prog 139 := C8 func139 zM0 zM0
instance fn140 : C1 prog 140 := C8 func140 zM0 zM0
instance fn141 : C1 prog 141 := C8 func141 zM0 zM0
instance fn142 : C1 prog 142 := C8 func142 zM0 zM0
instance fn143 : C1 prog 143 := C8 func143 zM0 zM0
instance fn144 : C1 prog 144 := C8 func144 zM0 zM0
instance fn145 : C1 prog 145 := C8 func145 zM0 zM0
instance fn146 : C1 prog 146 := C8 func146 zM0 zM0
instance fn147 : C1 prog 147 := C8 func147 zM0 zM0
instance fn148 : C1 prog 148 := C8 func148 zM0 zM0
instance fn149 : C1 prog 149 := C8 func149 zM0 zM0
instance fn151 : C1 prog 151 := C8 func151 zM0 zM0
instance fn152 : C1 prog 152 := C8 func152 zM0 zM0
instance fn153 : C1 prog 153 := C8 func153 zM0 zM0
instance fn154 : C1 prog 154 := C8 func154 zM0 zM0
instance fn155 : C1 prog 155 := C8 func155 zM0 zM0
instance fn156 : C1 prog 156 := C8 func156 zM0 zM0
instance fn157 : C1 prog 157 := C8 func157 zM0 zM0
instance fn158 : C1 prog 158 := C8 func158 zM0 zM0
instance fn159 : C1 prog 159 := C8 func159 zM0 zM0
instance fn160 : C1 prog 160 := C8 func160 zM0 zM0
instance fn161 : C1 prog 161 := C8 func161 zM0 zM0
instance fn162 : C1 prog 162 := C8 func162 zM0 zM0
instance fn165 : C1 prog 165 := C8 func165 zM0 zM0
instance fn166 : C1 prog 166 := C8 func166 zM0 zM0
instance fn167 : C1 prog 167 := C8 func167 zM0 zM0
instance fn168 : C1 prog 168 := C8 func168 zM0 zM0
instance fn169 : C1 prog 169 := C8 func169 zM0 zM0
instance fn170 : C1 prog 170 := C8 func170 zM0 zM0
instance fn171 : C1 prog 171 := C8 func171 zM0 zM0
instance fn172 : C1 prog 172 := C8 func172 zM0 zM0
instance fn173 : C1 prog 173 := C8 func173 zM0 zM0
instance fn174 : C1 prog 174 := C8 func174 zM0 zM0
instance fn175 : C1 prog 175 := C8 func175 zM0 zM0
instance fn176 : C1 prog 176 := C8 func176 zM0 zM0
instance fn177 : C1 prog 177 := C8 func177 zM0 zM0
instance fn178 : C1 prog 178 := C8 func178 zM0 zM0
instance fn179 : C1 prog 179 := C8 func179 zM0 zM0
instance fn180 : C1 prog 180 := C8 func180 zM0 zM0
instance fn181 : C1 prog 181 := C8 func181 zM0 zM0
instance fn182 : C1 prog 182 := C8 func182 zM0 zM0
instance fn183 : C1 prog 183 := C8 func183 zM0 zM0
instance fn184 : C1 prog 184 := C8 func184 zM0 zM0
instance fn185 : C1 prog 185 := C8 func185 zM0 zM0
instance fn186 : C1 prog 186 := C8 func186 zM0 zM0
instance fn187 : C1 prog 187 := C8 func187 zM0 zM0
instance fn188 : C1 prog 188 := C8 func188 zM0 zM0
instance fn189 : C1 prog 189 := C8 func189 zM0 zM0
instance fn190 : C1 prog 190 := C8 func190 zM0 zM0
instance fn191 : C1 prog 191 := C8 func191 zM0 zM0
instance fn193 : C1 prog 193 := C8 func193 zM0 zM0
instance fn194 : C1 prog 194 := C8 func194 zM0 zM0
instance fn195 : C1 prog 195 := C8 func195 zM0 zM0
instance fn196 : C1 prog 196 := C8 func196 zM0 zM0
instance fn197 : C1 prog 197 := C8 func197 zM0 zM0
instance fn198 : C1 prog 198 := C8 func198 zM0 zM0
instance fn199 : C1 prog 199 := C8 func199 zM0 zM0
instance fn200 : C1 prog 200 := C8 func200 zM0 zM0
instance fn201 : C1 prog 201 := C8 func201 zM0 zM0
instance fn202 : C1 prog 202 := C8 func202 zM0 zM0
instance fn203 : C1 prog 203 := C8 func203 zM0 zM0
instance fn204 : C1 prog 204 := C8 func204 zM0 zM0
instance fn205 : C1 prog 205 := C8 func205 zM0 zM0
instance fn206 : C1 prog 206 := C8 func206 zM0 zM0
instance fn211 : C1 prog 211 := C8 func211 zM0 zM0
instance fn212 : C1 prog 212 := C8 func212 zM0 zM0
instance fn213 : C1 prog 213 := C8 func213 zM0 zM0
instance pl25 : A1M prog 25 [(0, 1), (1, 1)] := A2E underlying25 zM0 zM0
instance pl28 : A1M prog 28 [(0, 1), (1, 1), (2, 1), (3, 2), (5, 2), (7, 1), (8, 1)] := A2E underlying28 zM0 zM0
instance pl65 : A1M prog 65 [(0, 1), (1, 1), (2, 1), (3, 1)] := A2E underlying65 zM0 zM0
instance pl68 : A1M prog 68 [(0, 9), (9, 4), (13, 1)] := A2E underlying68 zM0 zM0
instance pl90 : A1M prog 90 [(0, 1), (1, 1)] := A2E underlying90 zM0 zM0
instance pl98 : A1M prog 98 [(0, 1), (1, 2)] := A2E underlying98 zM0 zM0
instance pl114 : A1M prog 114 [(0, 9), (9, 4), (13, 1)] := A2E underlying114 zM0 zM0
instance pl125 : A1M prog 125 [(0, 1)] := A2E underlying125 zM0 zM0
theorem D9 : prog.follows .mixedOrders = true := by kernel_rfl
variable {A B : Prop}
theorem xS {i : Nat} (w : zIx i) (h : B) (f : zIx i → B → A := by intro w h; first | exact xP w rfl (B4 rfl) rfl h | exact xP w rfl (qM rfl) rfl h | exact xP w rfl (qA rfl) rfl h | exact xL w rfl (C0 rfl rfl) rfl h | exact xD w rfl rfl rfl h | exact xL w rfl (A4 rfl rfl) rfl h | exact xP w rfl (pX rfl rfl) rfl h | exact xP w rfl (B2 (j := 0) rfl rfl rfl (by (try clear h); (try clear hh); first | omega | simp)) rfl h | exact xP w rfl (B2 (j := 1) rfl rfl rfl (by (try clear h); (try clear hh); first | omega | simp)) rfl h | exact xP w rfl (M7 rfl rfl) rfl h | exact xP w rfl (N6 rfl rfl) rfl h | exact xP w rfl (Q2 rfl rfl) rfl h | exact xL w rfl (A3 rfl rfl (hat1 _) rfl) rfl h | exact xP w rfl (qF rfl) rfl h | exact xL w rfl (A3 rfl rfl (hat0 _) rfl) rfl h | exact xL w rfl (A3 rfl rfl (hat3 _) hl3) rfl h | exact xL w rfl (A3 rfl rfl (hat1 _) hl1) rfl h | exact xL w rfl (A3 rfl rfl (hat2 _) rfl) rfl h | exact xL w rfl (A3 rfl rfl (hat3 _) rfl) rfl h | exact xP w rfl (pNt rfl) rfl h | exact xP w rfl (pNf rfl) rfl h | exact xP w rfl (pLn rfl rfl) rfl h | exact xL w rfl (A3 rfl rfl (hat2 _) hl2) rfl h | exact xP w rfl (A0s rfl) rfl h | exact xL w rfl (A3 rfl rfl (hat4 _) rfl) rfl h | exact xP w rfl (B2 (j := 2) rfl rfl rfl (by (try clear h); (try clear hh); first | omega | simp)) rfl h) : A := f w h
theorem xx1 (a : Nat) (h : B) (f : zIx a → B → A := by intro a hh; exact xS a hh) : A := f trivial h
theorem xx2 (a b : Nat) (h : B) (f : zIx a → zIx b → B → A := by intro a b hh; refine xS a ?_; exact xS b hh) : A := f trivial trivial h
theorem xx3 (a b c : Nat) (h : B) (f : zIx a → zIx b → zIx c → B → A := by intro a b c hh; refine xS a ?_; refine xS b ?_; exact xS c hh) : A := f trivial trivial trivial h
theorem xx4 (a b c d : Nat) (h : B) (f : zIx a → zIx b → zIx c → zIx d → B → A := by intro a b c d hh; refine xS a ?_; refine xS b ?_; refine xS c ?_; exact xS d hh) : A := f trivial trivial trivial trivial h
theorem xx5 (a b c d e : Nat) (h : B) (f : zIx a → zIx b → zIx c → zIx d → zIx e → B → A := by intro a b c d e hh; refine xS a ?_; refine xS b ?_; refine xS c ?_; refine xS d ?_; exact xS e hh) : A := f trivial trivial trivial trivial trivial h
theorem xx6 (a b c d e i : Nat) (h : B) (f : zIx a → zIx b → zIx c → zIx d → zIx e → zIx i → B → A := by intro a b c d e i hh; refine xS a ?_; refine xS b ?_; refine xS c ?_; refine xS d ?_; refine xS e ?_; exact xS i hh) : A := f trivial trivial trivial trivial trivial trivial h
theorem xx7 (a b c d e i j : Nat) (h : B) (f : zIx a → zIx b → zIx c → zIx d → zIx e → zIx i → zIx j → B → A := by intro a b c d e i j hh; refine xS a ?_; refine xS b ?_; refine xS c ?_; refine xS d ?_; refine xS e ?_; refine xS i ?_; exact xS j hh) : A := f trivial trivial trivial trivial trivial trivial trivial h
theorem xx8 (a b c d e i j k : Nat) (h : B) (f : zIx a → zIx b → zIx c → zIx d → zIx e → zIx i → zIx j → zIx k → B → A := by intro a b c d e i j k hh; refine xS a ?_; refine xS b ?_; refine xS c ?_; refine xS d ?_; refine xS e ?_; refine xS i ?_; refine xS j ?_; exact xS k hh) : A := f trivial trivial trivial trivial trivial trivial trivial trivial h
theorem xx9 (a b c d e i j k l : Nat) (h : B) (f : zIx a → zIx b → zIx c → zIx d → zIx e → zIx i → zIx j → zIx k → zIx l → B → A := by intro a b c d e i j k l hh; refine xS a ?_; refine xS b ?_; refine xS c ?_; refine xS d ?_; refine xS e ?_; refine xS i ?_; refine xS j ?_; refine xS k ?_; exact xS l hh) : A := f trivial trivial trivial trivial trivial trivial trivial trivial trivial h
theorem xx10 (a b c d e i j k l m : Nat) (h : B) (f : zIx a → zIx b → zIx c → zIx d → zIx e → zIx i → zIx j → zIx k → zIx l → zIx m → B → A := by intro a b c d e i j k l m hh; refine xS a ?_; refine xS b ?_; refine xS c ?_; refine xS d ?_; refine xS e ?_; refine xS i ?_; refine xS j ?_; refine xS k ?_; refine xS l ?_; exact xS m hh) : A := f trivial trivial trivial trivial trivial trivial trivial trivial trivial trivial h
theorem xx11 (a b c d e i j k l m n : Nat) (h : B) (f : zIx a → zIx b → zIx c → zIx d → zIx e → zIx i → zIx j → zIx k → zIx l → zIx m → zIx n → B → A := by intro a b c d e i j k l m n hh; refine xS a ?_; refine xS b ?_; refine xS c ?_; refine xS d ?_; refine xS e ?_; refine xS i ?_; refine xS j ?_; refine xS k ?_; refine xS l ?_; refine xS m ?_; exact xS n hh) : A := f trivial trivial trivial trivial trivial trivial trivial trivial trivial trivial trivial h
theorem xx12 (a b c d e i j k l m n o : Nat) (h : B) (f : zIx a → zIx b → zIx c → zIx d → zIx e → zIx i → zIx j → zIx k → zIx l → zIx m → zIx n → zIx o → B → A := by intro a b c d e i j k l m n o hh; refine xS a ?_; refine xS b ?_; refine xS c ?_; refine xS d ?_; refine xS e ?_; refine xS i ?_; refine xS j ?_; refine xS k ?_; refine xS l ?_; refine xS m ?_; refine xS n ?_; exact xS o hh) : A := f trivial trivial trivial trivial trivial trivial trivial trivial trivial trivial trivial trivial h
theorem xx13 (a b c d e i j k l m n o p : Nat) (h : B) (f : zIx a → zIx b → zIx c → zIx d → zIx e → zIx i → zIx j → zIx k → zIx l → zIx m → zIx n → zIx o → zIx p → B → A := by intro a b c d e i j k l m n o p hh; refine xS a ?_; refine xS b ?_; refine xS c ?_; refine xS d ?_; refine xS e ?_; refine xS i ?_; refine xS j ?_; refine xS k ?_; refine xS l ?_; refine xS m ?_; refine xS n ?_; refine xS o ?_; exact xS p hh) : A := f trivial trivial trivial trivial trivial trivial trivial trivial trivial trivial trivial trivial trivial h
theorem xx14 (a b c d e i j k l m n o p q : Nat) (h : B) (f : zIx a → zIx b → zIx c → zIx d → zIx e → zIx i → zIx j → zIx k → zIx l → zIx m → zIx n → zIx o → zIx p → zIx q → B → A := by intro a b c d e i j k l m n o p q hh; refine xS a ?_; refine xS b ?_; refine xS c ?_; refine xS d ?_; refine xS e ?_; refine xS i ?_; refine xS j ?_; refine xS k ?_; refine xS l ?_; refine xS m ?_; refine xS n ?_; refine xS o ?_; refine xS p ?_; exact xS q hh) : A := f trivial trivial trivial trivial trivial trivial trivial trivial trivial trivial trivial trivial trivial trivial h
theorem xx15 (a b c d e i j k l m n o p q r : Nat) (h : B) (f : zIx a → zIx b → zIx c → zIx d → zIx e → zIx i → zIx j → zIx k → zIx l → zIx m → zIx n → zIx o → zIx p → zIx q → zIx r → B → A := by intro a b c d e i j k l m n o p q r hh; refine xS a ?_; refine xS b ?_; refine xS c ?_; refine xS d ?_; refine xS e ?_; refine xS i ?_; refine xS j ?_; refine xS k ?_; refine xS l ?_; refine xS m ?_; refine xS n ?_; refine xS o ?_; refine xS p ?_; refine xS q ?_; exact xS r hh) : A := f trivial trivial trivial trivial trivial trivial trivial trivial trivial trivial trivial trivial trivial trivial trivial h
theorem xx18 (a b c d e i j k l m n o p q r s t u : Nat) (h : B) (f : zIx a → zIx b → zIx c → zIx d → zIx e → zIx i → zIx j → zIx k → zIx l → zIx m → zIx n → zIx o → zIx p → zIx q → zIx r → zIx s → zIx t → zIx u → B → A := by intro a b c d e i j k l m n o p q r s t u hh; refine xS a ?_; refine xS b ?_; refine xS c ?_; refine xS d ?_; refine xS e ?_; refine xS i ?_; refine xS j ?_; refine xS k ?_; refine xS l ?_; refine xS m ?_; refine xS n ?_; refine xS o ?_; refine xS p ?_; refine xS q ?_; refine xS r ?_; refine xS s ?_; refine xS t ?_; exact xS u hh) : A := f trivial trivial trivial trivial trivial trivial trivial trivial trivial trivial trivial trivial trivial trivial trivial trivial trivial trivial h
theorem xx19 (a b c d e i j k l m n o p q r s t u v : Nat) (h : B) (f : zIx a → zIx b → zIx c → zIx d → zIx e → zIx i → zIx j → zIx k → zIx l → zIx m → zIx n → zIx o → zIx p → zIx q → zIx r → zIx s → zIx t → zIx u → zIx v → B → A := by intro a b c d e i j k l m n o p q r s t u v hh; refine xS a ?_; refine xS b ?_; refine xS c ?_; refine xS d ?_; refine xS e ?_; refine xS i ?_; refine xS j ?_; refine xS k ?_; refine xS l ?_; refine xS m ?_; refine xS n ?_; refine xS o ?_; refine xS p ?_; refine xS q ?_; refine xS r ?_; refine xS s ?_; refine xS t ?_; refine xS u ?_; exact xS v hh) : A := f trivial trivial trivial trivial trivial trivial trivial trivial trivial trivial trivial trivial trivial trivial trivial trivial trivial trivial trivial h
theorem xx20 (a b c d e i j k l m n o p q r s t u v w : Nat) (h : B) (f : zIx a → zIx b → zIx c → zIx d → zIx e → zIx i → zIx j → zIx k → zIx l → zIx m → zIx n → zIx o → zIx p → zIx q → zIx r → zIx s → zIx t → zIx u → zIx v → zIx w → B → A := by intro a b c d e i j k l m n o p q r s t u v w hh; refine xS a ?_; refine xS b ?_; refine xS c ?_; refine xS d ?_; refine xS e ?_; refine xS i ?_; refine xS j ?_; refine xS k ?_; refine xS l ?_; refine xS m ?_; refine xS n ?_; refine xS o ?_; refine xS p ?_; refine xS q ?_; refine xS r ?_; refine xS s ?_; refine xS t ?_; refine xS u ?_; refine xS v ?_; exact xS w hh) : A := f trivial trivial trivial trivial trivial trivial trivial trivial trivial trivial trivial trivial trivial trivial trivial trivial trivial trivial trivial trivial h
variable {p : Prop}
theorem zA (h : p := by (cases R with | false => rfl | true => (exfalso; obtain ⟨i1, i2, i3, i4, i5, i6, i7, i8, i9⟩ := hi.1 rfl; first | omega | (have j := i2 (by first | assumption | omega); simp_all; done) | (have j := i3 (by first | assumption | omega); simp_all; done) | (have j := i4 (by first | assumption | omega); simp_all; done) | (have j := i5 (by first | assumption | omega); simp_all; done) | (have j := i6 (by first | assumption | omega); simp_all; done) | (have j := i7 (by first | assumption | omega); simp_all; done) | (have j := i8 (by first | assumption | omega); simp_all; done) | (have j := i9 (by first | assumption | omega); simp_all; done) | (rcases Decidable.em (k = 2) with q | q; have j := i4 q; have q2 := hx6.1 q; subst q2; simp_all; have j := i5 q; have q2 := hx6.2 q; subst q2; simp_all; done)))) : p := h
theorem zB (h : p := by (rw [T6, hA]; first | (rw [decide_eq_true (p := k = 1) (by omega)]; rfl) | (rw [decide_eq_false (p := k = 1) (by omega), decide_eq_true (p := k' = 1) (by omega)]; rfl) | (rw [decide_eq_false (p := k = 1) (by omega), decide_eq_false (p := k' = 1) (by omega), decide_eq_false (p := k = k') (by omega)]; rfl) | (rw [decide_eq_false (p := k = 1) (by omega), decide_eq_false (p := k' = 1) (by omega), decide_eq_true (p := k = k') (by omega)]; simp only [*]; rfl))) : p := h
theorem zC (h : p := by repeat (first | exact B3.nil | apply B3.dep (by decide +kernel) | apply B3.im (by decide +kernel) (by assumption) (by repeat first | exact mH | apply mT) | apply B3.blk (by decide +kernel) (by repeat (first | exact Pk.here | apply Pk.there)) (by repeat first | exact mH | apply mT) | apply B3.slc (by decide +kernel) (by repeat (first | exact Pk.here | apply Pk.there)) (by repeat first | exact mH | apply mT))) : p := h
theorem zD (h : p := by (cases R with | false => rfl | true => (exfalso; obtain ⟨i1, i2, i3, i4, i5, i6, i7⟩ := hi.1 rfl; first | omega | (have j := i1 (by omega); simp_all; done) | (have j := he (i2 (by omega)); simp_all; done) | (have j := i2 (by omega); simp_all; done) | (have j := i3 (by omega); simp_all; done) | (have j := i4 (by omega); simp_all; done) | (have j := i5 (by omega); simp_all; done)))) : p := h
theorem zE (h : p := by repeat (first | exact B3.nil | apply B3.dep (by decide +kernel) | apply B3.im (by decide +kernel) hg0 (by repeat first | exact mH | apply mT) | apply B3.im (by decide +kernel) hg1 (by repeat first | exact mH | apply mT) | apply B3.blk (by decide +kernel) (by repeat (first | exact Pk.here | apply Pk.there)) (by repeat first | exact mH | apply mT))) : p := h
theorem zF (h : p := by simp only [List.flatten_append, List.flatten_cons, List.flatten_nil, List.append_nil, e9, ← Nat.add_assoc]; exact (D6 (by repeat (first | exact A6.nil | refine A6.cons rfl ?_)) (by repeat (first | exact A1.refl | exact A1.nil | refine A1.cons (by repeat (first | exact Pk.here | apply Pk.there)) ?_ | apply A1.drop)))) : p := h
theorem zG (h : p := by (unfold E4; first | rw [if_pos (by omega)] | rw [if_neg (by omega), if_pos (by omega)] | rw [if_neg (by omega), if_neg (by omega), if_pos (by omega)] | rw [if_neg (by omega), if_neg (by omega), if_neg (by omega), if_pos (by omega)] | rw [if_neg (by omega), if_neg (by omega), if_neg (by omega), if_neg (by omega)])) : p := h
theorem zH (h : p := by (rw [Q9, A4v, hA]; have := T5 k; first | (rw [decide_eq_true (by omega), decide_eq_true (by omega)]; simp only [*]; done) | (rw [decide_eq_true (by omega), decide_eq_true (by omega)]; simp only [*]; rfl) | (rw [decide_eq_false (by omega)]; rfl) | (rw [decide_eq_true (by omega), decide_eq_false (by omega)]; rfl))) : p := h
theorem zI (h : p := by repeat (first | exact B3.nil | apply B3.dep (by decide +kernel) | apply B3.im (by decide +kernel) (by assumption) (by repeat first | exact mH | apply mT) | apply B3.blk (by decide +kernel) (by repeat (first | exact Pk.here | apply Pk.there)) (by repeat first | exact mH | apply mT))) : p := h
theorem zJ (h : p := by rw [hL2] at hlen; (try simp only [List.length_append, List.length_singleton] at hlen); first | exact (show a + 1 + (O3 (ks.take i)).length + (R3 ks[i]).length ≤ L.length by omega) | exact (show a + (O3 (ks.take i)).length + (R3 ks[i]).length ≤ L.length by omega)) : p := h
theorem zK (h : p := by repeat (first | exact B3.nil | apply B3.dep (by decide +kernel) | apply B3.blk (by decide +kernel) (by repeat (first | exact Pk.here | apply Pk.there)) (by repeat first | exact mH | apply mT))) : p := h
theorem zL (h : p := by simp only [List.mem_cons, List.not_mem_nil, or_false] at hv; rcases hv with rfl | rfl | rfl | rfl <;> first | exact ⟨0, rfl, by decide⟩ | exact ⟨1, rfl, by decide⟩ | exact ⟨2, rfl, by decide⟩) : p := h
theorem zM (h : p := by have hz := A4h hru2 (by split <;> decide); by_cases hmn : m < n; (rw [if_pos hmn] at hz ⊢; rw [decide_eq_true hmn]; exact hz); (rw [if_neg hmn] at hz ⊢; rw [decide_eq_false hmn]; exact hz)) : p := h
theorem zN (h : p := by repeat (first | exact A1.nil | refine A1.cons Pk.here ?_ | refine A1.cons (Pk.there Pk.here) ?_ | refine A1.cons (Pk.there (Pk.there Pk.here)) ?_ | apply A1.drop)) : p := h
theorem zO (h : p := by rw [hR]; first | omega | exact .inr (.inr (by assumption)) | exact .inr (.inr (by cases R with | false => rfl | true => exact absurd (har rfl) (by omega)))) : p := h
theorem zP (h : p := by simp only [List.mem_cons, List.not_mem_nil, or_false] at hv; rcases hv with rfl | rfl | rfl | rfl | rfl | rfl <;> exact ⟨_, rfl, by unfold F8; omega⟩) : p := h
theorem zQ (h : p := by repeat (first | exact A1.refl | exact A1.nil | refine A1.cons (by repeat (first | exact Pk.here | apply Pk.there)) ?_ | apply A1.drop)) : p := h
theorem zR (h : p := by (first | rw [(T5 k).1 (by omega)] | rw [(T5 k).2.1 (by omega)] | rw [(T5 k).2.2 (by omega) (by omega) (by omega) (by omega) (by omega)])) : p := h
theorem zS (h : p := by (unfold A0W; first | rw [if_pos (by omega)] | rw [if_neg (by omega), if_pos (by omega)] | rw [if_neg (by omega), if_neg (by omega)])) : p := h
theorem zT (h : p := by (cases R with | false => rfl | true => (exfalso; obtain ⟨i1, i2, i3, i4, i5, i6⟩ := hi.1 rfl; first | omega | (simp_all; done)))) : p := h
theorem zU (h : p := by intro x hx; simp only [List.mem_cons, List.not_mem_nil, or_false] at hx; rcases hx with rfl | rfl; exact h.one; exact h'.one) : p := h
theorem zV (h : p := by repeat (first | exact A1.refl | exact A1.nil | refine A1.cons (by repeat (first | exact Pk.here | apply Pk.there)) ?_)) : p := h
theorem zW (h : p := by repeat (first | exact A1.nil | refine A1.cons Pk.here ?_ | refine A1.cons (Pk.there Pk.here) ?_ | apply A1.drop)) : p := h
theorem zX (h : p := by (cases R with | false => rfl | true => (exfalso; have h0 := hi.1 rfl; first | omega | simp_all))) : p := h
theorem zY (h : p := by (first | assumption | (exfalso; omega) | exact Classical.not_not.1 (by assumption))) : p := h
theorem zZ (h : p := by cases R with | false => rfl | true => exact absurd (har rfl) (by omega)) : p := h
theorem zA0 (h : p := by repeat (first | exact A6.nil | refine A6.cons rfl ?_)) : p := h
theorem zB0 (h : p := by repeat (first | exact Pk.here | apply Pk.there)) : p := h
theorem zC0 (h : p := by repeat first | exact Sw.here | apply Sw.there) : p := h
theorem zD0 (h : p := by rintro ⟨h, _⟩; exact absurd h (by decide)) : p := h
theorem zE0 (h : p := by first | exact hle | exact hle1.trans hle) : p := h
theorem zF0 (h : p := by (first | assumption | (exfalso; omega))) : p := h
theorem zG0 (h : p := by repeat first | exact mH | apply mT) : p := h
theorem zH0 (h : p := by first | assumption | omega) : p := h
variable {C D E : Prop}
theorem zf0 (h : B → C) (k : D → E) (f : (B → C) → (D → E) → A := by intro h k; exact sB (qE rfl rfl) rfl rfl h k) : A := f h k
variable {Q : Nat → Prop}
theorem zf1 (h : ∀ b, Q b) (f : (∀ b, Q b) → A := by intro h; exact sE (A8 rfl) rfl h) : A := f h
theorem zf2 (h : ∀ b, Q b) (f : (∀ b, Q b) → A := by intro h; exact sE (D0 rfl rfl) rfl h) : A := f h
theorem zf3 (h : ∀ b, Q b) (f : (∀ b, Q b) → A := by intro h; refine D5 rfl (C9 rfl rfl rfl zO0 zJ0 rfl) rfl rfl ?_; rintro _ ⟨b, rfl⟩; exact h b) : A := f h
theorem zf4 (h : B) (f : B → A := by intro h; exact sP (J1 rfl rfl zO0 zO0) rfl rfl h) : A := f h
theorem zf5 (h : B) (f : B → A := by intro h; exact F4 (rC rfl (A4 rfl rfl)) (rT rfl) h) : A := f h
theorem zf6 (h : B) (f : B → A := by intro h; exact zdd D9 rfl h) : A := f h
theorem zf7 (h : ∀ b, Q b) (f : (∀ b, Q b) → A := by intro h; refine J0 (C9 rfl rfl rfl zO0 zJ0 rfl) rfl ?_; rintro _ ⟨b, rfl⟩; exact h b) : A := f h
theorem zf8 (h : B → C) (k : D → E) (f : (B → C) → (D → E) → A := by intro h k; exact sB (J8 rfl rfl) rfl rfl h k) : A := f h k
theorem zf9 (h : B) (f : B → A := by intro h; exact K6 (rC rfl (A4 rfl rfl)) h) : A := f h
theorem zf10 (h : ∀ b, Q b) (f : (∀ b, Q b) → A := by intro h; refine D5 rfl (A8 rfl) rfl rfl ?_; rintro _ ⟨b, rfl⟩; exact h b) : A := f h
theorem zf11 (h : B) (f : B → A := by intro h; exact sP (K3 rfl rfl zO0) rfl rfl h) : A := f h
theorem zf12 (h : B) (f : B → A := by intro h; exact sP (N8 rfl rfl zO0) rfl rfl h) : A := f h
theorem zf13 (h : B) (f : B → A := by intro h; exact E5 (rT rfl) (rC rfl (A4 rfl rfl)) (rT rfl) h) : A := f h
theorem zf14 (h : B) (f : B → A := by intro h; exact sP (N7 rfl rfl zO0 zO0) rfl rfl h) : A := f h
theorem zf15 (h : B) (f : B → A := by intro h; exact E5 (rC rfl (A4 rfl rfl)) (rT rfl) (rT rfl) h) : A := f h
theorem zf16 (h : B → C) (k : D → E) (f : (B → C) → (D → E) → A := by intro h k; exact sB (R7 rfl rfl) rfl rfl h k) : A := f h k
theorem zf17 (h : B → C) (k : D → E) (f : (B → C) → (D → E) → A := by intro h k; exact sB (W7 rfl rfl) rfl rfl h k) : A := f h k
theorem zf18 (h : B) (f : B → A := by intro h; exact sP (B2 (j := 0) rfl rfl rfl zP0) rfl rfl h) : A := f h
theorem zf19 (h : B) (f : B → A := by intro h; exact oS rfl rfl rfl rfl rfl rfl rfl rfl h) : A := f h
theorem zf20 (h : B) (f : B → A := by intro h; exact E5 (rC rfl (A4 rfl rfl)) (rC rfl (A4 rfl rfl)) (rT rfl) h) : A := f h
theorem zf21 (h : B) (f : B → A := by intro h; exact sP (B2 (j := 1) rfl rfl rfl zP0) rfl rfl h) : A := f h
theorem zf22 (h : B) (f : B → A := by intro h; exact E5 (rT rfl) (rT rfl) (rT rfl) h) : A := f h
end Gw
end Go.Proofs.YtmceanphadildaaGreatDoor
