/-
  What every walk of this claim stands on: states told by lists (slots, own blocks, blocks that no longer change), and the rules by which code moves between them. What one operation does to a state, and how a list of operations is walked: in the order of the text, or in whatever order a region draws. The single operations: what each does to a state. The operations that make or write memory, calls by contract, and the start and the end of a call. Aggregates, slices that the call owns, and blocks that are given up to be changed no more. Appending to an own slice; giving a slice up for good; calls by their posts; a region's drawn order, met operation by operation; what a state may forget. Blocks that were given up become the call's own again, and own blocks are given up. The types, the struct fields and the functions of this translation, as the rules ask for them. The data of the program: types and terms as trees, and how they lie in memory.
-/
import Derived.WalkKit
import Derived.OrdersHeld
import Derived.BigCall
import Derived.Test.YthpdjmbpbdbodaaGreatDoorChecked
set_option linter.unusedVariables false
set_option linter.unusedSimpArgs false
set_option maxHeartbeats 0
set_option maxRecDepth 100000
set_option synthInstance.maxSize 4000
set_option synthInstance.maxHeartbeats 0
namespace Go.Proofs.YthpdjmbpbdbodaaGreatDoor
open Go Go.RowKit
namespace Gw
abbrev tt := true
abbrev ff := false
theorem mH {α : Type} {a : α} {l : List α} : a ∈ a :: l := List.Mem.head _
theorem mT {α : Type} {a b : α} {l : List α} (h : a ∈ l) : a ∈ b :: l := List.Mem.tail _ h

/-- The slots that are known, the newest first. -/
abbrev Env := List (Nat × Value)

def look : Env → Nat → Option Value
 | [], _ => none
 | (k, v) :: r, t => bif Nat.beq k t then some v else look r t

def evo (e : Env) : Operand → Option Value
 | .tmp t => look e t
 | .const v => some v
 | .global g => some (.pointer (some ⟨g, 0, none⟩))
 | .func f => some (.func (.func f) #[] #[])

def evl (e : Env) : List Operand → Option (List Value)
 | [] => some []
 | x :: r => match evo e x with
  | some v => match evl e r with
   | some vs => some (v :: vs)
   | none => none
  | none => none

/-- What the running call alone holds: a block known whole, or a slice that owns its block. -/
inductive Ent where
 | blk (b : Nat) (cs : List Value)
 | slc (p : Option Addr) (c : Nat) (el : TypeId) (sz : Nat) (n : Nat) (cs : List Value)

def vfp : Option Addr → List Nat
 | some p => [p.block]
 | none => []

def Ent.fp : Ent → List Nat
 | .blk b _ => [b]
 | .slc p _ _ _ _ _ => vfp p

def Ent.ok (w : World) : Ent → Prop
 | .blk b cs => ∃ e, w.heap[b]? = some (.cells cs.toArray e (0, 0))
 | .slc p c el sz n cs => w.ownsRow 0 el sz (.slice p n c) n cs

def Fp (hp : List Ent) : List Nat := hp.flatMap Ent.fp

/-- Blocks that no longer change, with all their cells. -/
abbrev IM := Nat → Option (List Value)

def IMle (G G' : IM) : Prop := ∀ b l, G b = some l → G' b = some l
def IMin (G : IM) (w : World) : Prop := ∀ b l, G b = some l → ∃ e f, w.heap[b]? = some (.cells l.toArray e f)

theorem IMle.refl (G : IM) : IMle G G := fun _ _ h => h
theorem IMle.trans {G G' G'' : IM} (h : IMle G G') (h' : IMle G' G'') : IMle G G'' := fun b l x => h' b l (h b l x)

structure Ext (mods : List Nat) (w w' : World) : Prop where
 os : w'.os = w.os
 tape : w'.tape = w.tape
 output : w'.output = w.output
 size : w.heap.size ≤ w'.heap.size
 block : ∀ k, k < w.heap.size → k ∉ mods → w'.heap[k]? = w.heap[k]?

theorem Ext.refl (m : List Nat) (w : World) : Ext m w w := ⟨rfl, rfl, rfl, Nat.le_refl _, fun _ _ _ => rfl⟩

structure Own (hp : List Ent) (G : IM) (w : World) : Prop where
 inn : IMin G w
 ok : ∀ e ∈ hp, e.ok w
 nodup : (Fp hp).Nodup
 disj : ∀ b ∈ Fp hp, G b = none

structure Res (ins : List Ent) (G0 : IM) (w0 : World) (hp : List Ent) (G : IM) (w : World) : Prop where
 own : Own hp G w
 ext : Ext (Fp ins) w0 w
 le : IMle G0 G
 fresh : ∀ b l, G b = some l → G0 b = some l ∨ w0.heap.size ≤ b ∨ b ∈ Fp ins
 ofresh : ∀ b ∈ Fp hp, w0.heap.size ≤ b ∨ b ∈ Fp ins
 fz : ∀ b l, G b = some l → G0 b = none → ∃ e, w.heap[b]? = some (.cells l.toArray e (0, 0))

theorem lt_of_some {w : World} {b : Nat} {o : Obj} (h : w.heap[b]? = some o) : b < w.heap.size := (Array.getElem?_eq_some_iff.1 h).1

theorem Ent.ok_lt {w : World} {e : Ent} (h : e.ok w) : ∀ b ∈ e.fp, b < w.heap.size := by
 cases e with
 | blk b cs => intro k hk; simp [Ent.fp] at hk; subst hk; obtain ⟨_, h⟩ := h; exact lt_of_some h
 | slc p c el sz n cs =>
  intro k hk
  rcases h.2 with ⟨he, _⟩ | ⟨g, cap, cur, he, _, hg, _⟩
  ·cases he; simp [Ent.fp, vfp] at hk
  ·cases he; simp [Ent.fp, vfp] at hk; subst hk; exact lt_of_some hg

theorem Ent.ok_ext {w w' : World} {e : Ent} (h : e.ok w) (hb : ∀ b ∈ e.fp, w'.heap[b]? = w.heap[b]?) : e.ok w' := by
 cases e with
 | blk b cs => obtain ⟨x, h⟩ := h; exact ⟨x, by rw [hb b (by simp [Ent.fp])]; exact h⟩
 | slc p c el sz n cs =>
  refine ⟨h.1, ?_⟩
  rcases h.2 with hn | ⟨g, cap, cur, he, h0, hg, rest⟩
  ·exact .inl hn
  ·cases he; exact .inr ⟨g, _, cur, rfl, h0, by rw [hb g (by simp [Ent.fp, vfp])]; exact hg, rest⟩

theorem Fp_append (a b : List Ent) : Fp (a ++ b) = Fp a ++ Fp b := by simp [Fp]
theorem Fp_perm {a b : List Ent} (h : a.Perm b) : (Fp a).Perm (Fp b) := h.flatMap_right _
theorem mem_Fp {hp : List Ent} {b : Nat} : b ∈ Fp hp ↔ ∃ e ∈ hp, b ∈ e.fp := by simp [Fp, List.mem_flatMap]

theorem Own.lt {hp : List Ent} {G : IM} {w : World} (h : Own hp G w) : ∀ b ∈ Fp hp, b < w.heap.size := by
 intro b hb
 obtain ⟨e, he, hbe⟩ := mem_Fp.1 hb
 exact Ent.ok_lt (h.ok e he) b hbe

theorem IMin.lt {G : IM} {w : World} (h : IMin G w) {b : Nat} {l : List Value} (hb : G b = some l) : b < w.heap.size := by
 obtain ⟨_, _, hh⟩ := h b l hb
 exact lt_of_some hh

theorem Own.perm {hp hp' : List Ent} {G : IM} {w : World} (h : Own hp G w) (p : hp.Perm hp') : Own hp' G w :=
 ⟨h.inn, fun e he => h.ok e (p.mem_iff.2 he), (Fp_perm p).nodup_iff.1 h.nodup, fun b hb => h.disj b ((Fp_perm p).mem_iff.2 hb)⟩

theorem Own.left {a b : List Ent} {G : IM} {w : World} (h : Own (a ++ b) G w) : Own a G w :=
 ⟨h.inn, fun e he => h.ok e (List.mem_append_left _ he), by have := h.nodup; rw [Fp_append] at this; exact (List.nodup_append.1 this).1,
  fun x hx => h.disj x (by rw [Fp_append]; exact List.mem_append_left _ hx)⟩

theorem Res.perm {ins hp hp' : List Ent} {G0 G : IM} {w0 w : World} (h : Res ins G0 w0 hp G w) (p : hp.Perm hp') : Res ins G0 w0 hp' G w :=
 ⟨h.own.perm p, h.ext, h.le, h.fresh, fun b hb => h.ofresh b ((Fp_perm p).mem_iff.2 hb), h.fz⟩

theorem Res.left {ins a b : List Ent} {G0 G : IM} {w0 w : World} (h : Res ins G0 w0 (a ++ b) G w) : Res ins G0 w0 a G w :=
 ⟨h.own.left, h.ext, h.le, h.fresh, fun x hx => h.ofresh x (by rw [Fp_append]; exact List.mem_append_left _ hx), h.fz⟩

theorem Res.refl {ins : List Ent} {G : IM} {w : World} (h : Own ins G w) : Res ins G w ins G w :=
 ⟨h, Ext.refl _ _, IMle.refl _, fun _ _ h => .inl h, fun _ h => .inr h, fun b l h h0 => absurd h (by rw [h0]; simp)⟩

/-- The frame: what a step does not name stays. -/
theorem Res.frame {ins0 ins outs rest : List Ent} {G0 G G' : IM} {w0 w w' : World}
  (h : Res ins0 G0 w0 (ins ++ rest) G w) (s : Res ins G w outs G' w') : Res ins0 G0 w0 (outs ++ rest) G' w' := by
 have hnd := h.own.nodup
 rw [Fp_append, List.nodup_append] at hnd
 obtain ⟨_, hndr, hdis⟩ := hnd
 have hrest_lt : ∀ b ∈ Fp rest, b < w.heap.size := fun b hb => h.own.lt b (by rw [Fp_append]; exact List.mem_append_right _ hb)
 have hrest_not : ∀ b ∈ Fp rest, b ∉ Fp ins := fun b hb hi => hdis b hi b hb rfl
 refine ⟨⟨s.own.inn, ?_, ?_, ?_⟩, ?_, h.le.trans s.le, ?_, ?_, ?_⟩
 ·intro e he
  rcases List.mem_append.1 he with he | he
  ·exact s.own.ok e he
  ·refine Ent.ok_ext (h.own.ok e (List.mem_append_right _ he)) fun b hb => ?_
   have hbr : b ∈ Fp rest := mem_Fp.2 ⟨e, he, hb⟩
   exact s.ext.block b (hrest_lt b hbr) (hrest_not b hbr)
 ·rw [Fp_append, List.nodup_append]
  refine ⟨s.own.nodup, hndr, ?_⟩
  rintro a ha b hb rfl
  rcases s.ofresh a ha with hf | hf
  ·exact absurd (hrest_lt a hb) (by omega)
  ·exact hrest_not a hb hf
 ·intro b hb
  rw [Fp_append] at hb
  rcases List.mem_append.1 hb with hb | hb
  ·exact s.own.disj b hb
  ·cases hg : G' b with
   | none => rfl
   | some l =>
    exfalso
    rcases s.fresh b l hg with hf | hf | hf
    ·have := h.own.disj b (by rw [Fp_append]; exact List.mem_append_right _ hb)
     rw [this] at hf; cases hf
    ·exact absurd (hrest_lt b hb) (by omega)
    ·exact hrest_not b hb hf
 ·refine ⟨s.ext.os.trans h.ext.os, s.ext.tape.trans h.ext.tape, s.ext.output.trans h.ext.output, Nat.le_trans h.ext.size s.ext.size, ?_⟩
  intro k hk hkn
  rw [s.ext.block k (Nat.lt_of_lt_of_le hk h.ext.size) ?_, h.ext.block k hk hkn]
  intro hki
  rcases h.ofresh k (by rw [Fp_append]; exact List.mem_append_left _ hki) with hf | hf
  ·omega
  ·exact hkn hf
 ·intro b l hb
  rcases s.fresh b l hb with hf | hf | hf
  ·exact h.fresh b l hf
  ·exact .inr (.inl (Nat.le_trans h.ext.size hf))
  ·exact .inr (h.ofresh b (by rw [Fp_append]; exact List.mem_append_left _ hf))
 ·intro b hb
  rw [Fp_append] at hb
  rcases List.mem_append.1 hb with hb | hb
  ·rcases s.ofresh b hb with hf | hf
   ·exact .inl (Nat.le_trans h.ext.size hf)
   ·exact h.ofresh b (by rw [Fp_append]; exact List.mem_append_left _ hf)
  ·exact h.ofresh b (by rw [Fp_append]; exact List.mem_append_right _ hb)
 ·intro b l hb h0
  cases hg : G b with
  | none => exact s.fz b l hb hg
  | some l' =>
   have := s.le b l' hg
   rw [hb] at this; cases this
   obtain ⟨e, he⟩ := h.fz b l hg h0
   refine ⟨e, ?_⟩
   rw [s.ext.block b (lt_of_some he) ?_]
   ·exact he
   ·intro hbi
    have := h.own.disj b (by rw [Fp_append]; exact List.mem_append_left _ hbi)
    rw [hg] at this; cases this

/-- A state of a running call: the call began in w0 with the entries ins. -/
structure Ctx where
 n : Nat
 ins : List Ent
 G0 : IM
 w0 : World

structure Sy where
 env : Env
 hp : List Ent
 G : IM

structure St (Γ : Ctx) (σ : Sy) (a : Act) (w : World) : Prop where
 size : a.tmps.size = Γ.n
 nod : a.defers = []
 env : ∀ t v, look σ.env t = some v → a.tmps.getD t undef = v
 res : Res Γ.ins Γ.G0 Γ.w0 σ.hp σ.G w

theorem St.evo {Γ : Ctx} {σ : Sy} {a : Act} {w : World} (h : St Γ σ a w) {x : Operand} {v : Value} (hx : evo σ.env x = some v) : a.eval x = v := by
 cases x with
 | tmp t => exact h.env t v hx
 | const c => simpa [Gw.evo, Act.eval] using hx
 | global g => simpa [Gw.evo, Act.eval] using hx
 | func f => simpa [Gw.evo, Act.eval] using hx

theorem St.evl {Γ : Ctx} {σ : Sy} {a : Act} {w : World} (h : St Γ σ a w) : ∀ {xs : List Operand} {vs : List Value}, evl σ.env xs = some vs → xs.map a.eval = vs
 | [], vs, hx => by simp [Gw.evl] at hx; subst hx; rfl
 | x :: r, vs, hx => by
  simp only [Gw.evl] at hx
  split at hx
  ·rename_i v hv
   split at hx
   ·rename_i us hu
    simp at hx; subst hx
    simp [h.evo hv, St.evl h hu]
   ·cases hx
  ·cases hx

theorem look_cons (k : Nat) (v : Value) (r : Env) (t : Nat) : look ((k, v) :: r) t = if k = t then some v else look r t := by
 simp only [look]
 by_cases h : k = t
 ·subst h; simp
 ·have : Nat.beq k t = false := by
   cases hb : Nat.beq k t with
   | false => rfl
   | true => exact absurd (Nat.eq_of_beq_eq_true hb) h
  simp [this, h]

/-- One slot is written; memory goes on by a step. -/
theorem St.put {Γ : Ctx} {σ : Sy} {a : Act} {w w' : World} {hp' : List Ent} {G' : IM} (h : St Γ σ a w) (t : Nat) (v : Value) (ht : t < Γ.n)
  (hr : Res Γ.ins Γ.G0 Γ.w0 hp' G' w') : St Γ ⟨(t, v) :: σ.env, hp', G'⟩ (a.put (some t) v) w' := by
 refine ⟨?_, h.nod, ?_, hr⟩
 ·simp [Act.put, h.size]
 ·intro s u hs
  rw [look_cons] at hs
  simp only [Act.put]
  by_cases e : t = s
  ·subst e
   simp at hs; subst hs
   have : t < a.tmps.size := by rw [h.size]; exact ht
   simp [Array.getD_eq_getD_getElem?, this]
  ·rw [if_neg e] at hs
   have := h.env s u hs
   simp only [Array.getD_eq_getD_getElem?, Array.getElem?_setIfInBounds, if_neg e] at this ⊢
   exact this

theorem St.put_none {Γ : Ctx} {σ : Sy} {a : Act} {w w' : World} {hp' : List Ent} {G' : IM} (h : St Γ σ a w) (v : Value)
  (hr : Res Γ.ins Γ.G0 Γ.w0 hp' G' w') : St Γ ⟨σ.env, hp', G'⟩ (a.put none v) w' := ⟨h.size, h.nod, h.env, hr⟩

def dpu (d : Option Nat) (v : Value) (e : Env) : Env := match d with | some t => (t, v) :: e | none => e
def dok (n : Nat) : Option Nat → Bool | some t => Nat.blt t n | none => true

theorem St.dput {Γ : Ctx} {σ : Sy} {a : Act} {w w' : World} {hp' : List Ent} {G' : IM} (h : St Γ σ a w) (d : Option Nat) (v : Value) (ht : dok Γ.n d = true)
  (hr : Res Γ.ins Γ.G0 Γ.w0 hp' G' w') : St Γ ⟨dpu d v σ.env, hp', G'⟩ (a.put d v) w' := by
 cases d with
 | none => exact h.put_none v hr
 | some t => exact h.put t v (by simpa [dok] using ht) hr

/-- Post conditions over states. -/
abbrev Po := Exit → Sy → Prop
def lift (Γ : Ctx) (K : Po) : Exit → Act → World → Prop := fun e a w => ∃ σ, St Γ σ a w ∧ K e σ

structure Tri (P : Program) (Γ : Ctx) (c : Code) (K : Po) (σ : Sy) : Prop where
 run : ∀ a w, St Γ σ a w → c.wp P (lift Γ K) a w

structure seqK (P : Program) (Γ : Ctx) (y : Code) (K : Po) (e : Exit) (σ : Sy) : Prop where
 run : match e with
  | .normal => Tri P Γ y K σ
  | e => K e σ
structure blockK (id : Nat) (K : Po) (e : Exit) (σ : Sy) : Prop where
 run : match e with
  | .exit id' => if id' = id then K .normal σ else K (.exit id') σ
  | e => K e σ

section rules
variable {P : Program} {Γ : Ctx} {K : Po} {σ : Sy}

theorem tri_mono {c : Code} {K' : Po} (h : Tri P Γ c K σ) (hk : ∀ e σ, K e σ → K' e σ) : Tri P Γ c K' σ :=
 ⟨fun a w hs => wp_mono (h.run a w hs) fun _ _ _ ⟨s, h1, h2⟩ => ⟨s, h1, hk _ _ h2⟩⟩

theorem tS {x y : Code} (h : Tri P Γ x (seqK P Γ y K) σ) : Tri P Γ (Code.seq x y) K σ := by
 refine ⟨fun a w hs => ?_⟩
 refine wp_seq (wp_mono (h.run a w hs) ?_)
 rintro e a' w' ⟨s, h1, ⟨h2⟩⟩
 cases e <;> first | exact h2.run a' w' h1 | exact ⟨s, h1, h2⟩

theorem tK (h : K .normal σ) : Tri P Γ .skip K σ := ⟨fun _ _ hs => wp_skip ⟨σ, hs, h⟩⟩
theorem tT (h : K .ret σ) : Tri P Γ .ret K σ := ⟨fun _ _ hs => wp_ret ⟨σ, hs, h⟩⟩
theorem tri_exit {id : Nat} (h : K (.exit id) σ) : Tri P Γ (.exit id) K σ := ⟨fun _ _ hs => wp_exit ⟨σ, hs, h⟩⟩
theorem tri_block {id : Nat} {c : Code} (h : Tri P Γ c (blockK id K) σ) : Tri P Γ (.block id c) K σ := by
 refine ⟨fun a w hs => ?_⟩
 refine wp_block (wp_mono (h.run a w hs) ?_)
 rintro e a' w' ⟨s, h1, ⟨h2⟩⟩
 cases e with
 | exit id' =>
  simp only [Exit.inBlock] at h2 ⊢
  split at h2
  ·rename_i hid; simp only [hid, if_true]; exact ⟨s, h1, h2⟩
  ·rename_i hid; simp only [hid, if_false]; exact ⟨s, h1, h2⟩
 | _ => exact ⟨s, h1, h2⟩
theorem tri_cond {c : Operand} {x y : Code} {b : Bool} (hc : evo σ.env c = some (.bool b)) (ht : b = true → Tri P Γ x K σ) (hf : b = false → Tri P Γ y K σ) :
  Tri P Γ (.cond c x y) K σ := by
 refine ⟨fun a w hs => ?_⟩
 have he := hs.evo hc
 cases b
 ·exact wp_cond_false he ((hf rfl).run a w hs)
 ·exact wp_cond_true he ((ht rfl).run a w hs)
theorem qT {c : Operand} {x y : Code} (hc : evo σ.env c = some (.bool true)) (h : Tri P Γ x K σ) : Tri P Γ (.cond c x y) K σ :=
 ⟨fun a w hs => wp_cond_true (hs.evo hc) (h.run a w hs)⟩
theorem cF {c : Operand} {x y : Code} (hc : evo σ.env c = some (.bool false)) (h : Tri P Γ y K σ) : Tri P Γ (.cond c x y) K σ :=
 ⟨fun a w hs => wp_cond_false (hs.evo hc) (h.run a w hs)⟩

/-- A state may forget. -/
structure Sub (σ σ' : Sy) : Prop where
 env : ∀ t v, look σ'.env t = some v → look σ.env t = some v
 hp : ∃ r, σ.hp.Perm (σ'.hp ++ r)
 G : σ.G = σ'.G
theorem St.sub {a : Act} {w : World} {σ' : Sy} (h : St Γ σ a w) (s : Sub σ σ') : St Γ σ' a w := by
 obtain ⟨r, hr⟩ := s.hp
 exact ⟨h.size, h.nod, fun t v ht => h.env t v (s.env t v ht), by rw [← s.G]; exact (h.res.perm hr).left⟩
theorem tri_sub {c : Code} {σ' : Sy} (s : Sub σ σ') (h : Tri P Γ c K σ') : Tri P Γ c K σ := ⟨fun a w hs => h.run a w (hs.sub s)⟩
structure loopK (K : Po) (Inv : Nat → Sy → Prop) (m : Nat) (e : Exit) (σ : Sy) : Prop where
 run : match e with
  | .normal => ∃ m' σ', m' < m ∧ Sub σ σ' ∧ Inv m' σ'
  | e => K e σ
theorem tri_loop {c : Code} (Inv : Nat → Sy → Prop) (m : Nat) {σ' : Sy} (hsub : Sub σ σ') (h0 : Inv m σ') (step : ∀ m σ, Inv m σ → Tri P Γ c (loopK K Inv m) σ) :
  Tri P Γ (.loop c) K σ := by
 refine ⟨fun a w hs => ?_⟩
 let μ : Act → World → Nat := fun a w => Classical.epsilon fun m => (∃ σ, St Γ σ a w ∧ Inv m σ) ∧ ∀ k, (∃ σ, St Γ σ a w ∧ Inv k σ) → m ≤ k
 have hμ : ∀ a w, (∃ m σ, St Γ σ a w ∧ Inv m σ) → (∃ σ, St Γ σ a w ∧ Inv (μ a w) σ) ∧ ∀ k, (∃ σ, St Γ σ a w ∧ Inv k σ) → μ a w ≤ k := by
  intro a w ⟨m, hm⟩
  have : ∃ m, (∃ σ, St Γ σ a w ∧ Inv m σ) ∧ ∀ k, (∃ σ, St Γ σ a w ∧ Inv k σ) → m ≤ k := by
   induction m using Nat.strongRecOn with
   | _ m ih =>
    by_cases hh : ∃ k, k < m ∧ ∃ σ, St Γ σ a w ∧ Inv k σ
    ·obtain ⟨k, hk, hs⟩ := hh; exact ih k hk hs
    ·exact ⟨m, hm, fun k hk => Nat.le_of_not_lt fun hlt => hh ⟨k, hlt, hk⟩⟩
  exact Classical.epsilon_spec this
 refine wp_loop (fun a w => ∃ m σ, St Γ σ a w ∧ Inv m σ) μ ⟨m, σ', hs.sub hsub, h0⟩ ?_
 intro a w hI
 obtain ⟨⟨σ1, hs1, hi1⟩, _⟩ := hμ a w hI
 refine wp_mono ((step _ σ1 hi1).run a w hs1) ?_
 rintro e a' w' ⟨s, h1, ⟨h2⟩⟩
 cases e with
 | normal =>
  obtain ⟨m', σ2, hlt, hsb, hinv⟩ := h2
  refine ⟨⟨m', σ2, h1.sub hsb, hinv⟩, Nat.lt_of_le_of_lt ?_ hlt⟩
  exact (hμ a' w' ⟨m', σ2, h1.sub hsb, hinv⟩).2 m' ⟨σ2, h1.sub hsb, hinv⟩
 | _ => exact ⟨s, h1, h2⟩

structure loopN {ι : Type} (K : Po) (S : ι → Sy) (φ : ι → Prop) (μ : ι → Nat) (i : ι) (e : Exit) (σ : Sy) : Prop where
 run : match e with
  | .normal => ∃ j, φ j ∧ μ j < μ i ∧ Sub σ (S j)
  | e => K e σ
/-- A loop whose head always has one shape: S i, where φ i holds; μ falls. -/
theorem tri_loopN {ι : Type} {c : Code} (S : ι → Sy) (φ : ι → Prop) (μ : ι → Nat) (i0 : ι) (hsub : Sub σ (S i0)) (h0 : φ i0) (step : ∀ i, φ i → Tri P Γ c (loopN K S φ μ i) (S i)) :
  Tri P Γ (.loop c) K σ := by
 refine tri_loop (fun m σ => ∃ i, φ i ∧ m = μ i ∧ σ = S i) (μ i0) hsub ⟨i0, h0, rfl, rfl⟩ ?_
 rintro m σ ⟨i, hi, rfl, rfl⟩
 refine tri_mono (step i hi) ?_
 rintro e σ ⟨h⟩
 cases e with
 | normal =>
  obtain ⟨j, h1, h2, h3⟩ := h
  exact ⟨⟨μ j, S j, h2, h3, j, h1, rfl, rfl⟩⟩
 | _ => exact ⟨h⟩
theorem nrm_loopN {ι : Type} {S : ι → Sy} {φ : ι → Prop} {μ : ι → Nat} {i : ι} {σ : Sy} (j : ι) (hs : Sub σ (S j)) (h : φ j) (hlt : μ j < μ i) : loopN K S φ μ i .normal σ := ⟨j, h, hlt, hs⟩
theorem ret_loopN {ι : Type} {S : ι → Sy} {φ : ι → Prop} {μ : ι → Nat} {i : ι} {σ : Sy} (h : K .ret σ) : loopN K S φ μ i .ret σ := ⟨h⟩
theorem ext_loopN {ι : Type} {S : ι → Sy} {φ : ι → Prop} {μ : ι → Nat} {i : ι} {σ : Sy} {id : Nat} (h : K (.exit id) σ) : loopN K S φ μ i (.exit id) σ := ⟨h⟩
theorem np_loopN {ι : Type} {S : ι → Sy} {φ : ι → Prop} {μ : ι → Nat} {i : ι} (h : ∀ c σ, ¬ K (.panic c) σ) : ∀ c σ, ¬ loopN K S φ μ i (.panic c) σ := fun c σ hk => h c σ hk.run

end rules

def EnvOk (e : Env) (a : Act) : Prop := ∀ t v, look e t = some v → a.tmps.getD t undef = v

def wantG (ops : Array Oper) (e : Env) : Option (Nat × Bool) → Option Bool
 | none => some true
 | some (j, want) => match (ops[j]?).bind (·.dst) with
  | some t => match look e t with
   | some (.bool b) => some (b == want)
   | some (.tuple _) => some false
   | _ => none
  | none => none

theorem wantG_ok {ops : Array Oper} {e : Env} {a : Act} (h : EnvOk e a) {d : Option Tmp} {op : Op} {ty : TypeId} {pos : String} {af : Array Edge} {gd : Option (Nat × Bool)} {r : Bool}
  (hg : wantG ops e gd = some r) : Region.wanted ⟨d, op, ty, pos, af, gd⟩ (yielded ops a.tmps) = r := by
 cases gd with
 | none => simp [wantG] at hg; subst hg; rfl
 | some jw =>
  obtain ⟨j, want⟩ := jw
  simp only [wantG] at hg
  split at hg
  ·rename_i t ht
   split at hg
   ·rename_i b hb
    simp at hg; subst hg
    have hv := h t _ hb
    have hs : a.tmps[t]? = some (.bool b) := by
     cases hx : a.tmps[t]? with
     | none => simp [Array.getD_eq_getD_getElem?, hx, undef] at hv
     | some u => simp [Array.getD_eq_getD_getElem?, hx] at hv; rw [hv]
    simp [Region.wanted, yielded, ht, hs]
   ·rename_i b hb
    simp at hg; subst hg
    have hv := h t _ hb
    cases hx : a.tmps[t]? with
    | none => simp [Region.wanted, yielded, ht, hx]
    | some u =>
     simp [Array.getD_eq_getD_getElem?, hx] at hv
     simp [Region.wanted, yielded, ht, hx, hv]
   ·cases hg
  ·cases hg

/-- The operation gives v and does nothing else, in whatever world. -/
structure PureOp (P : Program) (Γ : Ctx) (σ : Sy) (op : Op) (ty : TypeId) (v : Value) : Prop where
 run : ∀ a w0, St Γ σ a w0 → ∀ d pos af gd w, (execOp a.eval ⟨d, op, ty, pos, af, gd⟩).run P w = .ok (.value v) w

/-- The operation gives v, reading block b alone. -/
structure LoadOp (P : Program) (Γ : Ctx) (σ : Sy) (op : Op) (ty : TypeId) (b : Nat) (v : Value) : Prop where
 run : ∀ a w, St Γ σ a w → b < w.heap.size ∧ ∀ w', w'.heap[b]? = w.heap[b]? → ∀ d pos af gd, (execOp a.eval ⟨d, op, ty, pos, af, gd⟩).run P w' = .ok (.value v) w'

/-- The operation goes on to one of the states of K', writing no old block but those of mods. -/
structure StepOp (P : Program) (Γ : Ctx) (σ : Sy) (d : Option Tmp) (op : Op) (ty : TypeId) (mods : List Nat) (K' : Sy → Prop) : Prop where
 run : ∀ a w, St Γ σ a w → ∀ pos af gd (Q : Exit → Act → World → Prop) (next : Act → World → Prop),
  (∀ a' w' σ', St Γ σ' a' w' → Ext mods w w' → K' σ' → next a' w') → (⟨d, op, ty, pos, af, gd⟩ : Oper).wp P a w next Q

def wpL (P : Program) (ops : Array Oper) (Q : Exit → Act → World → Prop) : List Oper → Act → World → Prop
 | [], a, w => Q .normal a w
 | o :: r, a, w => if Region.wanted o (yielded ops a.tmps) then o.wp P a w (wpL P ops Q r) Q ∨ (o.asks P a w ∧ LetsOut Q) else wpL P ops Q r (a.put o.dst undef) w

theorem wpOps_of_wpL {P : Program} {ops : Array Oper} {Q : Exit → Act → World → Prop} : ∀ (os : List Oper) (is : List Nat) (a : Act) (w : World),
  is.map (ops[·]?) = os.map some → wpL P ops Q os a w → wpOps P ops Q is a w
 | [], [], _, _, _, h => h
 | [], _ :: _, _, _, hm, _ => by simp at hm
 | _ :: _, [], _, _, hm, _ => by simp at hm
 | o :: os, i :: is, a, w, hm, h => by
  simp only [List.map_cons, List.cons.injEq] at hm
  rw [wpOps_cons]
  unfold wpOp
  simp only [hm.1]
  simp only [wpL] at h
  split
  ·rename_i hw
   simp only [hw, if_true] at h
   exact h.imp (Oper.wp_mono fun a w => wpOps_of_wpL os is a w hm.2) id
  ·rename_i hw
   simp only [hw] at h
   exact wpOps_of_wpL os is _ w hm.2 h

structure TriL (P : Program) (Γ : Ctx) (ops : Array Oper) (rest : List Oper) (K : Po) (σ : Sy) : Prop where
 run : ∀ a w, St Γ σ a w → wpL P ops (lift Γ K) rest a w

section seq
variable {P : Program} {Γ : Ctx} {K : Po} {ops : Array Oper} {rest : List Oper} {env : Env} {hp : List Ent} {G : IM}
variable {op : Op} {ty : TypeId} {pos : String} {af : Array Edge} {gd : Option (Nat × Bool)}

theorem tR {id : Nat} {os : List Oper} {σ : Sy} (h : TriL P Γ ⟨os⟩ os K σ) : Tri P Γ (.region id ⟨os⟩ false) K σ := by
 refine ⟨fun a w hs => ?_⟩
 refine wp_region (wpOps_of_wpL os _ a w ?_ (h.run a w hs))
 apply List.ext_getElem?
 intro i
 by_cases hi : i < os.length
 ·simp [hi]
 ·simp [hi]

theorem sD {σ : Sy} (h : K .normal σ) : TriL P Γ ops [] K σ := ⟨fun _ _ hs => ⟨σ, hs, h⟩⟩

theorem sP {d : Nat} {v : Value} (h : PureOp P Γ ⟨env, hp, G⟩ op ty v) (hw : wantG ops env gd = some true) (hd : Nat.blt d Γ.n = true)
  (k : TriL P Γ ops rest K ⟨(d, v) :: env, hp, G⟩) : TriL P Γ ops (⟨some d, op, ty, pos, af, gd⟩ :: rest) K ⟨env, hp, G⟩ := by
 refine ⟨fun a w hs => ?_⟩
 have he : EnvOk env a := hs.env
 simp only [wpL, wantG_ok he hw, if_true]
 refine .inl ?_
 simp only [Oper.wp, h.run a w hs, Oper.upon]
 exact k.run _ _ (hs.put d v (by simpa using hd) hs.res)

theorem sQ {d : Nat} {v : Value} (h : PureOp P Γ ⟨env, hp, G⟩ op ty v) (hw : (wantG ops env gd, Nat.blt d Γ.n) = (some true, true))
 (k : TriL P Γ ops rest K ⟨(d, v) :: env, hp, G⟩) : TriL P Γ ops (⟨some d, op, ty, pos, af, gd⟩ :: rest) K ⟨env, hp, G⟩ := sP h (congrArg Prod.fst hw) (congrArg Prod.snd hw) k
theorem sL {d b : Nat} {v : Value} (h : LoadOp P Γ ⟨env, hp, G⟩ op ty b v) (hw : wantG ops env gd = some true) (hd : Nat.blt d Γ.n = true)
  (k : TriL P Γ ops rest K ⟨(d, v) :: env, hp, G⟩) : TriL P Γ ops (⟨some d, op, ty, pos, af, gd⟩ :: rest) K ⟨env, hp, G⟩ := by
 refine ⟨fun a w hs => ?_⟩
 have he : EnvOk env a := hs.env
 simp only [wpL, wantG_ok he hw, if_true]
 refine .inl ?_
 simp only [Oper.wp, (h.run a w hs).2 w rfl, Oper.upon]
 exact k.run _ _ (hs.put d v (by simpa using hd) hs.res)

theorem seq_step {d : Option Nat} {mods : List Nat} {K' : Sy → Prop} {σ : Sy} (h : StepOp P Γ σ d op ty mods K') (hw : wantG ops σ.env gd = some true)
  (k : ∀ σ', K' σ' → TriL P Γ ops rest K σ') : TriL P Γ ops (⟨d, op, ty, pos, af, gd⟩ :: rest) K σ := by
 refine ⟨fun a w hs => ?_⟩
 have he : EnvOk σ.env a := hs.env
 simp only [wpL, wantG_ok he hw, if_true]
 exact .inl (h.run a w hs pos af gd _ _ fun a' w' σ' h1 _ h3 => (k σ' h3).run a' w' h1)

theorem sE {d : Option Nat} {F : List Nat} {S : Nat → Sy} (h : StepOp P Γ ⟨env, hp, G⟩ d op ty F (fun s => ∃ b, s = S b)) (hw : wantG ops env gd = some true) (k : ∀ b, TriL P Γ ops rest K (S b)) : TriL P Γ ops (⟨d, op, ty, pos, af, gd⟩ :: rest) K ⟨env, hp, G⟩ :=
 seq_step h hw (by rintro _ ⟨b, rfl⟩; exact k b)
theorem sK {d : Nat} (hw : wantG ops env gd = some false) (hd : Nat.blt d Γ.n = true)
  (k : TriL P Γ ops rest K ⟨(d, undef) :: env, hp, G⟩) : TriL P Γ ops (⟨some d, op, ty, pos, af, gd⟩ :: rest) K ⟨env, hp, G⟩ := by
 refine ⟨fun a w hs => ?_⟩
 have he : EnvOk env a := hs.env
 simp only [wpL, wantG_ok he hw, Bool.false_eq_true, if_false]
 exact k.run _ _ (hs.put d undef (by simpa using hd) hs.res)
/-- A truth value is decided on the spot. -/
theorem sB {d : Nat} {p : Prop} [Decidable p] (h : PureOp P Γ ⟨env, hp, G⟩ op ty (.bool (decide p))) (hw : wantG ops env gd = some true) (hd : Nat.blt d Γ.n = true)
  (kt : p → TriL P Γ ops rest K ⟨(d, .bool true) :: env, hp, G⟩) (kf : ¬ p → TriL P Γ ops rest K ⟨(d, .bool false) :: env, hp, G⟩) :
  TriL P Γ ops (⟨some d, op, ty, pos, af, gd⟩ :: rest) K ⟨env, hp, G⟩ := by
 by_cases hpp : p
 ·exact sP (by rw [decide_eq_true hpp] at h; exact h) hw hd (kt hpp)
 ·exact sP (by rw [decide_eq_false hpp] at h; exact h) hw hd (kf hpp)

end seq

/- Regions that draw their order. -/
structure HRec where
 i : Nat
 b : Nat
 o : Obj

/-- Does operation j wait for operation i, within n steps? -/
def depN (ops : Array Oper) : Nat → Nat → Nat → Bool
 | 0, _, _ => false
 | n + 1, j, i => match ops[j]? with | some oj => oj.after.any (fun e => Region.binds .any e && (e.on == i || depN ops n e.on i)) | none => false
def depb (ops : Array Oper) (j i : Nat) : Bool := depN ops 4 j i
/-- What has come up has come up behind all that it waits for. -/
def DC (ops : Array Oper) (listed : Array Bool) : Prop := ∀ j, listed.getD j false = true → ∀ o, ops[j]? = some o → ∀ e ∈ o.after, Region.binds .any e = true → listed.getD e.on false = true
theorem DC.dep {ops : Array Oper} {listed : Array Bool} (h : DC ops listed) : ∀ (n j i : Nat), (∀ o, ops[j]? = some o → ∀ e ∈ o.after, Region.binds .any e = true → listed.getD e.on false = true) → depN ops n j i = true → listed.getD i false = true
 | 0, _, _, _, hd => by simp [depN] at hd
 | n + 1, j, i, hj, hd => by
  simp only [depN] at hd
  cases ho : ops[j]? with
  | none => simp [ho] at hd
  | some o =>
   simp only [ho] at hd
   obtain ⟨e, he, hb⟩ := Array.any_eq_true'.1 hd
   simp only [Bool.and_eq_true, Bool.or_eq_true, beq_iff_eq] at hb
   have hl := hj o ho e he hb.1
   rcases hb.2 with h1 | h1
   ·rw [← h1]; exact hl
   ·exact h.dep n e.on i (h e.on hl) h1
theorem DC.step {ops : Array Oper} {listed : Array Bool} (h : DC ops listed) {j : Nat} (hr : j ∈ Region.ready .any ops listed) : DC ops (listed.setIfInBounds j true) := by
 intro k hk o ho e he hb
 refine getD_set_true ?_
 by_cases hkj : j = k
 ·subst hkj
  obtain ⟨_, o', ho', hall⟩ := mem_ready.1 hr
  rw [ho] at ho'; cases ho'
  exact hall e he hb
 ·rw [getD_set_ne false hkj] at hk
  exact h k hk o ho e he hb
def Hn (ops : Array Oper) (j : Nat) (H : List HRec) : List HRec := H.filter fun h => !depb ops j h.i

def wpG (P : Program) (ops : Array Oper) (Q : Exit → Act → World → Prop) : Nat → List HRec → Array Bool → Act → World → Prop
 | 0, _, listed, a, w => Region.ready .any ops listed = [] ∧ Q .normal a w
 | fuel + 1, H, listed, a, w =>
  (Region.ready .any ops listed = [] → Q .normal a w) ∧
  ∀ j ∈ Region.ready .any ops listed, wpOp P ops Q j (fun a' w' => (∀ h ∈ Hn ops j H, w'.heap[h.b]? = some h.o) ∧ wpG P ops Q fuel (Hn ops j H) (listed.setIfInBounds j true) a' w') a w

section draw
variable {P : Program} {ops : Array Oper} {Q : Exit → Act → World → Prop}

theorem wpAny_of_wpG : ∀ (fuel : Nat) (H : List HRec) (listed : Array Bool) (a : Act) (w : World), wpG P ops Q fuel H listed a w → wpAny P .any ops Q fuel listed a w
 | 0, _, _, _, _, h => h
 | fuel + 1, _, _, _, _, h => ⟨h.1, fun j hj => wpOp_mono (fun a' w' h' => wpAny_of_wpG fuel _ _ a' w' h'.2) (h.2 j hj)⟩

theorem Hn_sub {j : Nat} {H H' : List HRec} (h : ∀ x ∈ H', x ∈ H) : ∀ x ∈ Hn ops j H', x ∈ Hn ops j H := by
 intro x hx
 simp only [Hn, List.mem_filter] at hx ⊢
 exact ⟨h x hx.1, hx.2⟩
theorem wpG_drop : ∀ (fuel : Nat) {H H' : List HRec} (_ : ∀ x ∈ H', x ∈ H) (listed : Array Bool) (a : Act) (w : World), wpG P ops Q fuel H listed a w → wpG P ops Q fuel H' listed a w
 | 0, _, _, _, _, _, _, h => h
 | fuel + 1, _, _, hs, _, _, _, h => ⟨h.1, fun j hj => wpOp_mono (fun _ _ h' => ⟨fun x hx => h'.1 x (Hn_sub hs x hx), wpG_drop fuel (Hn_sub hs) _ _ _ h'.2⟩) (h.2 j hj)⟩

theorem wpG_first {i : Nat} {oi : Oper} {v : Value} {S : World → Prop} {Hx : List HRec} (hi : ops[i]? = some oi) (hsel : ∀ (j : Nat) (o : Oper) cs b, ops[j]? = some o → o.op ≠ .select cs b)
  (hQ : ∀ c a w, Q (.panic c) (a.put oi.dst v) w → Q (.panic c) a w) (hxi : ∀ h ∈ Hx, h.i = i) (hxs : ∀ w : World, (∀ h ∈ Hx, w.heap[h.b]? = some h.o) → S w) :
  ∀ (fuel : Nat) (H : List HRec) (listed : Array Bool) (a : Act) (w : World), DC ops listed →
   (∀ j oj, ops[j]? = some oj → j ≠ i → listed.getD j true = false → (∀ e ∈ oj.after, Region.binds .any e = true → e.on ≠ i) → oi.apart ops oj = true) →
   i ∈ Region.ready .any ops listed → YieldsIf P ops S oi v a →
   wpG P ops Q fuel (Hx ++ H) (listed.setIfInBounds i true) (a.put oi.dst v) w → (∀ h ∈ Hx ++ H, w.heap[h.b]? = some h.o) → wpG P ops Q (fuel + 1) H listed a w := by
 intro fuel
 induction fuel with
 | zero =>
  intro H listed a w _ _ hr hy HH hH
  refine ⟨fun h => (by rw [h] at hr; cases hr), fun j hj => ?_⟩
  by_cases hji : j = i
  ·subst hji
   exact hy.wpOp hi (hxs w fun h hh => hH h (List.mem_append_left _ hh)) ⟨fun h hh => hH h (List.mem_append_right _ (List.mem_filter.1 hh).1), HH⟩
  ·have := ready_mono hj hji
   rw [HH.1] at this
   cases this
 | succ fuel ih =>
  intro H listed a w hdc hfree hr hy HH hH
  refine ⟨fun h => (by rw [h] at hr; cases hr), fun j hj => ?_⟩
  by_cases hji : j = i
  ·subst hji
   refine hy.wpOp hi (hxs w fun h hh => hH h (List.mem_append_left _ hh)) ⟨fun h hh => hH h (List.mem_append_right _ (List.mem_filter.1 hh).1), ?_⟩
   exact wpG_drop _ (fun x hx => List.mem_append_right _ (List.mem_filter.1 hx).1) _ _ _ HH
  ·have h1 := HH.2 j (ready_mono hj hji)
   obtain ⟨hjun, oj, hoj, hall⟩ := mem_ready.1 hj
   have hnot : ∀ e ∈ oj.after, Region.binds .any e = true → e.on ≠ i := fun e he hb heq => by
    have h1 := hall e he hb
    have h0 := (mem_ready.1 hr).1
    rw [heq] at h1
    rcases Nat.lt_or_ge i listed.size with h' | h'
    ·simp [h'] at h0 h1; rw [h0] at h1; cases h1
    ·simp [Array.getElem?_eq_none h'] at h1
   have hnodep : depb ops j i = false := by
    cases hdd : depb ops j i with
    | false => rfl
    | true =>
     have h1 := hdc.dep 4 j i (fun o ho e he hb => by rw [hoj] at ho; cases ho; exact hall e he hb) hdd
     have h0 := (mem_ready.1 hr).1
     rcases Nat.lt_or_ge i listed.size with h' | h'
     ·simp [h'] at h0 h1; rw [h0] at h1; cases h1
     ·simp [Array.getElem?_eq_none h'] at h1
   have hHn : Hn ops j (Hx ++ H) = Hx ++ Hn ops j H := by
    simp only [Hn, List.filter_append]
    congr 1
    rw [List.filter_eq_self]
    intro x hx
    rw [hxi x hx, hnodep]; rfl
   rw [hHn] at h1
   have h2 := wpOp_putIf hoj (hfree j oj hoj hji hjun hnot) (fun cs b => hsel i oi cs b hi) (fun cs b => hsel j oj cs b hoj) hQ hy h1
   have hfree' : ∀ k ok, ops[k]? = some ok → k ≠ i → (listed.setIfInBounds j true).getD k true = false →
     (∀ e ∈ ok.after, Region.binds .any e = true → e.on ≠ i) → oi.apart ops ok = true := fun k ok hk hki hun hno => by
    refine hfree k ok hk hki ?_ hno
    by_cases hjk : j = k
    ·subst hjk; exact hjun
    ·rw [getD_set_ne true hjk] at hun; exact hun
   refine wpOp_mono (fun a' w' h3 => ?_) h2
   obtain ⟨hy', hkeeps, hrest⟩ := h3
   refine ⟨fun h hh => hkeeps h (List.mem_append_right _ hh), ?_⟩
   refine ih (Hn ops j H) (listed.setIfInBounds j true) a' w' (hdc.step hj) hfree' (ready_mono hr (Ne.symm hji)) hy' ?_ hkeeps
   rw [Array.setIfInBounds_comm _ _ hji]
   exact hrest
end draw

/-- What is still to come, in whatever order; H: the loads that were taken first, with the block that each read. -/
structure AnyL (P : Program) (Γ : Ctx) (ops : Array Oper) (K : Po) (H : List (Nat × Nat)) (fuel : Nat) (listed : List Bool) (σ : Sy) : Prop where
 run : ∀ a w, St Γ σ a w → ∀ Hs : List HRec, (Hs.map fun h => (h.i, h.b)) = H → (∀ h ∈ Hs, w.heap[h.b]? = some h.o) → DC ops listed.toArray → wpG P ops (lift Γ K) fuel Hs listed.toArray a w

def noPanic (K : Po) : Prop := ∀ c σ, ¬ K (.panic c) σ

section anyrules
variable {P : Program} {Γ : Ctx} {K : Po} {ops : Array Oper} {H : List (Nat × Nat)} {env : Env} {hp : List Ent} {G : IM} {fuel : Nat} {listed l' : List Bool}
variable {op : Op} {ty : TypeId} {pos : String} {af : Array Edge} {gd : Option (Nat × Bool)}

theorem St.drawn {σ : Sy} {a : Act} {w : World} (h : St Γ σ a w) (n : Nat) : St Γ σ a { w with drawn := n } := by
 have e : ∀ k : Nat, ({ w with drawn := n } : World).heap[k]? = w.heap[k]? := fun _ => rfl
 refine ⟨h.size, h.nod, h.env, ⟨⟨h.res.own.inn, fun x hx => Ent.ok_ext (h.res.own.ok x hx) fun b _ => e b, h.res.own.nodup, h.res.own.disj⟩, ⟨h.res.ext.os, h.res.ext.tape, h.res.ext.output, h.res.ext.size, h.res.ext.block⟩, h.res.le, h.res.fresh, h.res.ofresh, h.res.fz⟩⟩

theorem np_loopN' {ι : Type} {S : ι → Sy} {φ : ι → Prop} {μ : ι → Nat} {i : ι} (h : noPanic K) : noPanic (loopN K S φ μ i) := np_loopN h

theorem tri_draw {id : Nat} {σ : Sy} (hm : P.follows .mixedOrders = true) {n : Nat} (hn : ops.size = n) (h : AnyL P Γ ops K [] n (List.replicate n false) σ) : Tri P Γ (.region id ops true) K σ := by
 refine ⟨fun a w hs => ?_⟩
 refine wp_region_any hm ?_
 rw [hn]
 have := h.run a { w with drawn := w.drawn + 1 } (hs.drawn _) [] rfl (by simp) (by
  intro j hj
  exfalso
  simp only [List.toArray_replicate] at hj
  by_cases hjn : j < n
  ·simp [hjn] at hj
  ·simp [hjn] at hj)
 have h2 := wpAny_of_wpG _ _ _ _ _ this
 simpa using h2

theorem aD {σ : Sy} (hr : Region.ready .any ops listed.toArray = []) (h : K .normal σ) : AnyL P Γ ops K H fuel listed σ := by
 refine ⟨fun a w hs Hs _ _ _ => ?_⟩
 cases fuel with
 | zero => exact ⟨hr, σ, hs, h⟩
 | succ f => exact ⟨fun _ => ⟨σ, hs, h⟩, by rw [hr]; simp⟩

/-- What a quiet operation asks of the region: it may come up now, and what does not wait for it is apart from it. -/
def quietOk (ops : Array Oper) (listed : List Bool) (i : Nat) : Bool :=
 Region.noSelect ops && Region.free .any ops listed.toArray i && (Region.ready .any ops listed.toArray).contains i

theorem any_take {i : Nat} {d : Option Nat} {v : Value} {Hx : List (Nat × Nat)} (hi : ops[i]? = some ⟨d, op, ty, pos, af, gd⟩) (hK : noPanic K) {σ σ' : Sy}
  (hxi : ∀ h ∈ Hx, h.1 = i)
  (hy : ∀ a w, St Γ σ a w → ∃ Hr : List HRec, (Hr.map fun h => (h.i, h.b)) = Hx ∧ (∀ h ∈ Hr, w.heap[h.b]? = some h.o) ∧ ∃ S : World → Prop, (∀ w : World, (∀ h ∈ Hr, w.heap[h.b]? = some h.o) → S w) ∧ YieldsIf P ops S ⟨d, op, ty, pos, af, gd⟩ v a)
  (hput : ∀ a w, St Γ σ a w → St Γ σ' (a.put d v) w)
  (hq : quietOk ops listed i = true) (hl : listed.set i true = l')
  (k : AnyL P Γ ops K (Hx ++ H) fuel l' σ') : AnyL P Γ ops K H (fuel + 1) listed σ := by
 refine ⟨fun a w hs Hs hHs hall hdc => ?_⟩
 simp only [quietOk, Bool.and_eq_true] at hq
 obtain ⟨⟨hs1, hs2⟩, hs3⟩ := hq
 obtain ⟨Hr, hr1, hr2, S', hS', hyi⟩ := hy a w hs
 have hall' : ∀ h ∈ Hr ++ Hs, w.heap[h.b]? = some h.o := by
  intro x hx
  rcases List.mem_append.1 hx with hx | hx
  ·exact hr2 x hx
  ·exact hall x hx
 refine wpG_first hi (Region.noSelect_spec hs1) (by rintro c a w ⟨σ, _, hh⟩; exact absurd hh (hK c σ)) (Hx := Hr) ?_ hS' fuel Hs listed.toArray a w hdc
  (Region.free_spec hi hs2) (by simpa using hs3) hyi ?_ hall'
 ·intro h hh
  exact hxi (h.i, h.b) (by rw [← hr1]; exact List.mem_map.2 ⟨h, hh, rfl⟩)
 ·have := k.run (a.put d v) w (hput a w hs) (Hr ++ Hs) (by simp [hr1, hHs]) hall' (by rw [← hl]; simpa using hdc.step (j := i) (by simpa using hs3))
  rw [← hl] at this
  simpa using this

theorem any_load {i d b : Nat} {v : Value} (hi : ops[i]? = some ⟨some d, op, ty, pos, af, gd⟩) (hK : noPanic K)
  (h : LoadOp P Γ ⟨env, hp, G⟩ op ty b v) (hw : wantG ops env gd = some true) (hq : quietOk ops listed i = true) (hd : Nat.blt d Γ.n = true)
  (hl : listed.set i true = l')
  (k : AnyL P Γ ops K ((i, b) :: H) fuel l' ⟨(d, v) :: env, hp, G⟩) : AnyL P Γ ops K H (fuel + 1) listed ⟨env, hp, G⟩ := by
 refine any_take (Hx := [(i, b)]) hi hK (by simp) ?_ (fun a w hs => hs.put d v (by simpa using hd) hs.res) hq hl k
 intro a w hs
 obtain ⟨hb, hrun⟩ := h.run a w hs
 have hob : w.heap[b]? = some w.heap[b] := Array.getElem?_eq_getElem hb
 refine ⟨[⟨i, b, w.heap[b]⟩], rfl, by simp, fun w' => w'.heap[b]? = some w.heap[b], fun w' h => h _ List.mem_cons_self, .inl ⟨wantG_ok hs.env hw, fun w' hw' => hrun w' (by rw [hw', hob]) _ _ _ _⟩⟩

theorem any_pure {i d : Nat} {v : Value} (hi : ops[i]? = some ⟨some d, op, ty, pos, af, gd⟩) (hK : noPanic K)
  (h : PureOp P Γ ⟨env, hp, G⟩ op ty v) (hw : wantG ops env gd = some true) (hq : quietOk ops listed i = true) (hd : Nat.blt d Γ.n = true)
  (hl : listed.set i true = l')
  (k : AnyL P Γ ops K H fuel l' ⟨(d, v) :: env, hp, G⟩) : AnyL P Γ ops K H (fuel + 1) listed ⟨env, hp, G⟩ := by
 refine any_take (Hx := []) hi hK (by simp) ?_ (fun a w hs => hs.put d v (by simpa using hd) hs.res) hq hl k
 intro a w hs
 exact ⟨[], rfl, by simp, fun _ => True, fun _ _ => trivial, .inl ⟨wantG_ok hs.env hw, fun w' _ => h.run a w hs _ _ _ _ w'⟩⟩

theorem aK {i d : Nat} (hi : ops[i]? = some ⟨some d, op, ty, pos, af, gd⟩) (hK : noPanic K)
  (hw : wantG ops env gd = some false) (hq : quietOk ops listed i = true) (hd : Nat.blt d Γ.n = true)
  (hl : listed.set i true = l')
  (k : AnyL P Γ ops K H fuel l' ⟨(d, undef) :: env, hp, G⟩) : AnyL P Γ ops K H (fuel + 1) listed ⟨env, hp, G⟩ := by
 refine any_take (Hx := []) hi hK (by simp) ?_ (fun a w hs => hs.put d undef (by simpa using hd) hs.res) hq hl k
 intro a w hs
 exact ⟨[], rfl, by simp, fun _ => True, fun _ _ => trivial, .inr ⟨wantG_ok hs.env hw, rfl⟩⟩

theorem any_bool {i d : Nat} {p : Prop} [Decidable p] (hi : ops[i]? = some ⟨some d, op, ty, pos, af, gd⟩) (hK : noPanic K)
  (h : PureOp P Γ ⟨env, hp, G⟩ op ty (.bool (decide p))) (hw : wantG ops env gd = some true) (hq : quietOk ops listed i = true) (hd : Nat.blt d Γ.n = true)
  (hl : listed.set i true = l')
  (kt : p → AnyL P Γ ops K H fuel l' ⟨(d, .bool true) :: env, hp, G⟩) (kf : ¬ p → AnyL P Γ ops K H fuel l' ⟨(d, .bool false) :: env, hp, G⟩) :
  AnyL P Γ ops K H (fuel + 1) listed ⟨env, hp, G⟩ := by
 by_cases hpp : p
 ·exact any_pure hi hK (by rw [decide_eq_true hpp] at h; exact h) hw hq hd hl (kt hpp)
 ·exact any_pure hi hK (by rw [decide_eq_false hpp] at h; exact h) hw hq hd hl (kf hpp)

/-- One that may come up now. -/
structure One (P : Program) (Γ : Ctx) (ops : Array Oper) (K : Po) (H : List (Nat × Nat)) (fuel : Nat) (listed : List Bool) (j : Nat) (σ : Sy) : Prop where
 run : ∀ a w, St Γ σ a w → ∀ Hs : List HRec, (Hs.map fun h => (h.i, h.b)) = H → (∀ h ∈ Hs, w.heap[h.b]? = some h.o) → DC ops listed.toArray → j ∈ Region.ready .any ops listed.toArray →
  wpOp P ops (lift Γ K) j (fun a' w' => (∀ h ∈ Hn ops j Hs, w'.heap[h.b]? = some h.o) ∧ wpG P ops (lift Γ K) fuel (Hn ops j Hs) (listed.toArray.setIfInBounds j true) a' w') a w

theorem aO {j : Nat} {σ : Sy} (hr : Region.ready .any ops listed.toArray = [j]) (h : One P Γ ops K H fuel listed j σ) : AnyL P Γ ops K H (fuel + 1) listed σ := by
 refine ⟨fun a w hs Hs hHs hall hdc => ?_⟩
 refine ⟨fun h0 => (by rw [hr] at h0; cases h0), fun k hk => ?_⟩
 have hk' := hk
 rw [hr] at hk
 simp at hk; subst hk
 exact h.run a w hs Hs hHs hall hdc hk'
theorem any_two {j j' : Nat} {σ : Sy} (hr : Region.ready .any ops listed.toArray = [j, j']) (h : One P Γ ops K H fuel listed j σ) (h' : One P Γ ops K H fuel listed j' σ) : AnyL P Γ ops K H (fuel + 1) listed σ := by
 refine ⟨fun a w hs Hs hHs hall hdc => ?_⟩
 refine ⟨fun h0 => (by rw [hr] at h0; cases h0), fun k hk => ?_⟩
 have hk' := hk
 rw [hr] at hk
 simp at hk
 rcases hk with rfl | rfl
 ·exact h.run a w hs Hs hHs hall hdc hk'
 ·exact h'.run a w hs Hs hHs hall hdc hk'

/-- A step that leaves alone the blocks that the loads taken first have read. -/
theorem one_step {j : Nat} {d : Option Nat} {mods : List Nat} {K' : Sy → Prop} {σ : Sy} (hi : ops[j]? = some ⟨d, op, ty, pos, af, gd⟩)
  (h : StepOp P Γ σ d op ty mods K') (hw : wantG ops σ.env gd = some true) (hl : listed.set j true = l')
  (hm : ∀ p ∈ H, depb ops j p.1 = true ∨ p.2 ∉ mods)
  (k : ∀ σ', K' σ' → AnyL P Γ ops K (H.filter fun p => !depb ops j p.1) fuel l' σ') : One P Γ ops K H fuel listed j σ := by
 refine ⟨fun a w hs Hs hHs hall hdc hrd => ?_⟩
 unfold wpOp
 simp only [hi, wantG_ok hs.env hw, if_true]
 refine .inl (h.run a w hs pos af gd _ _ fun a' w' σ' h1 h2 h3 => ?_)
 have hkeep : ∀ h ∈ Hn ops j Hs, w'.heap[h.b]? = some h.o := by
  intro x hx
  obtain ⟨hx1, hx2⟩ := List.mem_filter.1 hx
  have hp : (x.i, x.b) ∈ H := by rw [← hHs]; exact List.mem_map.2 ⟨x, hx1, rfl⟩
  have ho := hall x hx1
  rcases hm _ hp with h | h
  ·simp [h] at hx2
  ·rw [h2.block x.b (lt_of_some ho) h, ho]
 refine ⟨hkeep, ?_⟩
 have := (k σ' h3).run a' w' h1 (Hn ops j Hs) (by
  subst hHs
  simp [Hn, List.filter_map, Function.comp_def]) hkeep (by rw [← hl]; simpa using hdc.step hrd)
 rw [← hl] at this
 simpa using this

end anyrules

structure TyR where
 size : Nat
 bytes : Nat
 zs : List Value
 desc : TypeDesc

class TyI (P : Program) (t : TypeId) (i : outParam TyR) : Prop where
 info : ∃ inf, P.info? t = some inf ∧ inf.size = i.size ∧ inf.bytes = i.bytes ∧ ∃ z, inf.zero = some z ∧ z.cells = ⟨i.zs⟩
 und : P.underlying t = some i.desc

/-- The same, part by part. -/
class TySz (P : Program) (t : TypeId) (sz : outParam Nat) (bytes : outParam Nat) (zs : outParam (List Value)) : Prop where
 ok : ∃ d, TyI P t ⟨sz, bytes, zs, d⟩
 len : zs.length = sz

def aggD : TypeDesc → Bool
 | .struct _ | .array _ _ => true
 | _ => false

theorem run_isAgg {P : Program} {t : TypeId} {d : TypeDesc} (h : P.underlying t = some d) (w : World) : (isAgg t).run P w = .ok (aggD d) w := by
 simp only [isAgg, Sem.run_bind, run_underlying h, Result.andThen_ok]
 cases d <;> rfl

/-- Field f of the struct type s lies at off. -/
class FldI (P : Program) (s : TypeId) (f : Nat) (off : outParam Nat) (sz : outParam Nat) (agg : outParam Bool) : Prop where
 ok : ∃ fs fl d inf, P.underlying s = some (.struct fs) ∧ fs[f]? = some fl ∧ fl.offset = off ∧ P.info? fl.type = some inf ∧ inf.size = sz ∧ sz ≠ 0 ∧ P.underlying fl.type = some d ∧ aggD d = agg

class FunI (P : Program) (f : FuncId) : Prop where
 ok : ∃ fn, P.funcs[f]? = some fn ∧ fn.body.isNone = false ∧ (fn.name == "runtime.NumGoroutine") = false

def subl : List Value → Nat → Nat → Option (List Value)
 | _, 0, 0 => some []
 | [], _, _ => none
 | _ :: r, off + 1, n => subl r off n
 | v :: r, 0, n + 1 => match subl r 0 n with
  | some l => some (v :: l)
  | none => none

theorem subl_spec : ∀ {cs : List Value} {off n : Nat} {vs : List Value}, subl cs off n = some vs → vs.length = n ∧ ∀ j v, vs[j]? = some v → cs[off + j]? = some v
 | cs, 0, 0, vs, h => by cases cs <;> (simp [subl] at h; subst h; simp)
 | [], 0, n + 1, vs, h => by simp [subl] at h
 | [], off + 1, n, vs, h => by cases n <;> simp [subl] at h
 | c :: r, off + 1, n, vs, h => by
  have h' : subl r off n = some vs := by cases n <;> simpa [subl] using h
  obtain ⟨h1, h2⟩ := subl_spec h'
  exact ⟨h1, fun j v hv => by have := h2 j v hv; rw [show off + 1 + j = (off + j) + 1 by omega]; simpa using this⟩
 | c :: r, 0, n + 1, vs, h => by
  simp only [subl] at h
  split at h
  ·rename_i l hl
   simp at h; subst h
   obtain ⟨h1, h2⟩ := subl_spec hl
   refine ⟨by simp [h1], fun j v hv => ?_⟩
   cases j with
   | zero => simpa using hv
   | succ j => have := h2 j v (by simpa using hv); simpa using this
  ·cases h

section laws
variable {P : Program} {Γ : Ctx} {env : Env} {hp : List Ent} {G : IM} {ty : TypeId}

theorem qM {x : Operand} {v : Value} (h : evo env x = some v) : PureOp P Γ ⟨env, hp, G⟩ (.move x) ty v :=
 by refine ⟨?_⟩; exact fun a _ hs _ _ _ _ w => by simp [execOp, (hs.evo h : a.eval x = v)]
theorem qA {x : Operand} {v : Value} (h : evo env x = some v) : PureOp P Γ ⟨env, hp, G⟩ (.assign x) ty v :=
 by refine ⟨?_⟩; exact fun a _ hs _ _ _ _ w => by simp [execOp, (hs.evo h : a.eval x = v)]
theorem pPt {c x y : Operand} {v : Value} (hc : evo env c = some (.bool true)) (h : evo env x = some v) : PureOp P Γ ⟨env, hp, G⟩ (.pick c x y) ty v :=
 by refine ⟨?_⟩; exact fun a _ hs _ _ _ _ w => by simp [execOp, asBool, (hs.evo hc : a.eval c = _), (hs.evo h : a.eval x = v)]
theorem pPf {c x y : Operand} {v : Value} (hc : evo env c = some (.bool false)) (h : evo env y = some v) : PureOp P Γ ⟨env, hp, G⟩ (.pick c x y) ty v :=
 by refine ⟨?_⟩; exact fun a _ hs _ _ _ _ w => by simp [execOp, asBool, (hs.evo hc : a.eval c = _), (hs.evo h : a.eval y = v)]
theorem pure_not {x : Operand} {t : TypeId} {b : Bool} (h : evo env x = some (.bool b)) : PureOp P Γ ⟨env, hp, G⟩ (.unOp .not t x) ty (.bool !b) :=
 by refine ⟨?_⟩; exact fun a _ hs _ _ _ _ w => by simp [execOp, Op.unary, (hs.evo h : a.eval x = _)]
theorem pNt {x : Operand} {t : TypeId} (h : evo env x = some (.bool true)) : PureOp P Γ ⟨env, hp, G⟩ (.unOp .not t x) ty (.bool false) := pure_not h
theorem pNf {x : Operand} {t : TypeId} (h : evo env x = some (.bool false)) : PureOp P Γ ⟨env, hp, G⟩ (.unOp .not t x) ty (.bool true) := pure_not h
theorem pX {x : Operand} {vs : List Value} {i : Nat} {v : Value} (h : evo env x = some (.tuple ⟨vs⟩)) (hv : vs[i]? = some v) : PureOp P Γ ⟨env, hp, G⟩ (.extract x i) ty v :=
 by refine ⟨?_⟩; exact fun a _ hs _ _ _ _ w => by simp [execOp, Instr.extract, (hs.evo h : a.eval x = _), hv]
theorem pure_nilCheck {x : Operand} {p : Addr} (h : evo env x = some (.pointer (some p))) : PureOp P Γ ⟨env, hp, G⟩ (.nilCheck x) ty (.pointer (some p)) :=
 by refine ⟨?_⟩; exact fun a _ hs _ _ _ _ w => by simp [execOp, (hs.evo h : a.eval x = _)]

theorem add_none (b o n : Nat) : (⟨b, o, none⟩ : Addr).add n = ⟨b, o + n, none⟩ := by
 unfold Addr.add; split
 ·rename_i h; subst h; rfl
 ·rfl

theorem qF {x : Operand} {s : TypeId} {f b o off sz : Nat} {ag : Bool} [hI : FldI P s f off sz ag] (h : evo env x = some (.pointer (some ⟨b, o, none⟩))) :
  PureOp P Γ ⟨env, hp, G⟩ (.fieldAddr s x f) ty (.pointer (some ⟨b, o + off, none⟩)) := by
 refine ⟨fun a _ hs _ _ _ _ w => ?_⟩
 obtain ⟨fs, fl, d, inf, h1, h2, h3, h4, h5, h6, _⟩ := hI.ok
 have hx : a.eval x = _ := hs.evo h
 subst h3 h5
 simp [execOp, Instr.fieldAt, hx, run_underlying h1, h2, Instr.sureAddr, fieldPlace, sizeOf, typeInfo, h4, h6, add_none]
theorem qF0 {x : Operand} {s : TypeId} {f b off sz : Nat} {ag : Bool} [hI : FldI P s f off sz ag] (h : evo env x = some (.pointer (some ⟨b, 0, none⟩))) :
  PureOp P Γ ⟨env, hp, G⟩ (.fieldAddr s x f) ty (.pointer (some ⟨b, off, none⟩)) := by
 have := qF (P := P) (Γ := Γ) (hp := hp) (G := G) (ty := ty) (s := s) (f := f) h
 simpa using this

/- Numbers. -/
theorem wrap_in {k : IntKind} (n : Int) (hk : k = .i64) (h1 : -9223372036854775808 ≤ n) (h2 : n ≤ 9223372036854775807) : k.wrap n = n := by
 subst hk; exact IntWalk.i64_in n (by omega)

theorem pure_add {x y : Operand} {t t' : TypeId} {m n : Int} (hx : evo env x = some (.int .i64 m)) (hy : evo env y = some (.int .i64 n))
  (h1 : -9223372036854775808 ≤ m + n) (h2 : m + n ≤ 9223372036854775807) : PureOp P Γ ⟨env, hp, G⟩ (.binOp .add t x y t') ty (.int .i64 (m + n)) :=
 by refine ⟨?_⟩; exact fun a _ hs _ _ _ _ w => by simp [execOp, eqGuard, binOp, Op.intArith, (hs.evo hx : a.eval x = _), (hs.evo hy : a.eval y = _), wrap_in _ rfl h1 h2]
theorem pure_sub {x y : Operand} {t t' : TypeId} {m n : Int} (hx : evo env x = some (.int .i64 m)) (hy : evo env y = some (.int .i64 n))
  (h1 : -9223372036854775808 ≤ m - n) (h2 : m - n ≤ 9223372036854775807) : PureOp P Γ ⟨env, hp, G⟩ (.binOp .sub t x y t') ty (.int .i64 (m - n)) :=
 by refine ⟨?_⟩; exact fun a _ hs _ _ _ _ w => by simp [execOp, eqGuard, binOp, Op.intArith, (hs.evo hx : a.eval x = _), (hs.evo hy : a.eval y = _), wrap_in _ rfl h1 h2]
theorem pure_mul {x y : Operand} {t t' : TypeId} {m n : Int} (hx : evo env x = some (.int .i64 m)) (hy : evo env y = some (.int .i64 n))
  (h1 : -9223372036854775808 ≤ m * n) (h2 : m * n ≤ 9223372036854775807) : PureOp P Γ ⟨env, hp, G⟩ (.binOp .mul t x y t') ty (.int .i64 (m * n)) :=
 by refine ⟨?_⟩; exact fun a _ hs _ _ _ _ w => by simp [execOp, eqGuard, binOp, Op.intArith, (hs.evo hx : a.eval x = _), (hs.evo hy : a.eval y = _), wrap_in _ rfl h1 h2]
theorem pure_neg {x : Operand} {t : TypeId} {n : Int} (hx : evo env x = some (.int .i64 n))
  (h1 : -9223372036854775808 ≤ -n) (h2 : -n ≤ 9223372036854775807) : PureOp P Γ ⟨env, hp, G⟩ (.unOp .neg t x) ty (.int .i64 (-n)) :=
 by refine ⟨?_⟩; exact fun a _ hs _ _ _ _ w => by simp [execOp, Op.unary, Op.intArith, (hs.evo hx : a.eval x = _), wrap_in _ rfl h1 h2]
theorem pure_rem {x y : Operand} {t t' : TypeId} {m n : Int} (hx : evo env x = some (.int .i64 m)) (hy : evo env y = some (.int .i64 n)) (hn : n ≠ 0) :
  PureOp P Γ ⟨env, hp, G⟩ (.binOp .rem t x y t') ty (.int .i64 (m.tmod n)) :=
 by refine ⟨?_⟩; exact fun a _ hs _ _ _ _ w => by simp [execOp, eqGuard, binOp, Op.intDiv, (hs.evo hx : a.eval x = _), (hs.evo hy : a.eval y = _), hn]
theorem pure_quo {x y : Operand} {t t' : TypeId} {m n : Int} (hx : evo env x = some (.int .i64 m)) (hy : evo env y = some (.int .i64 n)) (hn : n ≠ 0)
  (h1 : -9223372036854775808 ≤ m.tdiv n) (h2 : m.tdiv n ≤ 9223372036854775807) : PureOp P Γ ⟨env, hp, G⟩ (.binOp .quo t x y t') ty (.int .i64 (m.tdiv n)) :=
 by refine ⟨?_⟩; exact fun a _ hs _ _ _ _ w => by simp [execOp, eqGuard, binOp, Op.intDiv, (hs.evo hx : a.eval x = _), (hs.evo hy : a.eval y = _), hn, wrap_in _ rfl h1 h2]

theorem qE {x y : Operand} {t t' : TypeId} {k : IntKind} {m n : Int} (hx : evo env x = some (.int k m)) (hy : evo env y = some (.int k n)) :
  PureOp P Γ ⟨env, hp, G⟩ (.binOp .eql t x y t') ty (.bool (decide (m = n))) :=
 by
  refine ⟨fun a _ hs _ _ _ _ w => ?_⟩
  simp [execOp, eqGuard, binOp, Op.intCmp, (hs.evo hx : a.eval x = _), (hs.evo hy : a.eval y = _)]
  by_cases h : m = n <;> simp [h]
theorem pure_neq {x y : Operand} {t t' : TypeId} {k : IntKind} {m n : Int} (hx : evo env x = some (.int k m)) (hy : evo env y = some (.int k n)) :
  PureOp P Γ ⟨env, hp, G⟩ (.binOp .neq t x y t') ty (.bool (decide (m ≠ n))) :=
 by
  refine ⟨fun a _ hs _ _ _ _ w => ?_⟩
  simp [execOp, eqGuard, binOp, Op.intCmp, (hs.evo hx : a.eval x = _), (hs.evo hy : a.eval y = _)]
  by_cases h : m = n <;> simp [h]
theorem pure_lss {x y : Operand} {t t' : TypeId} {k : IntKind} {m n : Int} (hx : evo env x = some (.int k m)) (hy : evo env y = some (.int k n)) :
  PureOp P Γ ⟨env, hp, G⟩ (.binOp .lss t x y t') ty (.bool (decide (m < n))) :=
 by refine ⟨?_⟩; exact fun a _ hs _ _ _ _ w => by simp [execOp, eqGuard, binOp, Op.intCmp, (hs.evo hx : a.eval x = _), (hs.evo hy : a.eval y = _)]
theorem pure_leq {x y : Operand} {t t' : TypeId} {k : IntKind} {m n : Int} (hx : evo env x = some (.int k m)) (hy : evo env y = some (.int k n)) :
  PureOp P Γ ⟨env, hp, G⟩ (.binOp .leq t x y t') ty (.bool (decide (m ≤ n))) :=
 by refine ⟨?_⟩; exact fun a _ hs _ _ _ _ w => by simp [execOp, eqGuard, binOp, Op.intCmp, (hs.evo hx : a.eval x = _), (hs.evo hy : a.eval y = _)]
theorem pure_gtr {x y : Operand} {t t' : TypeId} {k : IntKind} {m n : Int} (hx : evo env x = some (.int k m)) (hy : evo env y = some (.int k n)) :
  PureOp P Γ ⟨env, hp, G⟩ (.binOp .gtr t x y t') ty (.bool (decide (n < m))) :=
 by refine ⟨?_⟩; exact fun a _ hs _ _ _ _ w => by simp [execOp, eqGuard, binOp, Op.intCmp, (hs.evo hx : a.eval x = _), (hs.evo hy : a.eval y = _)]
theorem pure_geq {x y : Operand} {t t' : TypeId} {k : IntKind} {m n : Int} (hx : evo env x = some (.int k m)) (hy : evo env y = some (.int k n)) :
  PureOp P Γ ⟨env, hp, G⟩ (.binOp .geq t x y t') ty (.bool (decide (n ≤ m))) :=
 by refine ⟨?_⟩; exact fun a _ hs _ _ _ _ w => by simp [execOp, eqGuard, binOp, Op.intCmp, (hs.evo hx : a.eval x = _), (hs.evo hy : a.eval y = _)]

theorem pLn {x : Operand} {t : TypeId} {i : TyR} [hI : TyI P t i] {e : TypeId} (hd : i.desc = .slice e) {p : Option Addr} {n c : Nat} (hx : evo env x = some (.slice p n c)) :
  PureOp P Γ ⟨env, hp, G⟩ (.call ⟨.builtin .len, ⟨[x]⟩, ⟨[t]⟩⟩) ty (.int .i64 n) := by
 refine ⟨fun a _ hs _ _ _ _ w => ?_⟩
 have hu := hI.und
 rw [hd] at hu
 simp [execOp, resolve, invoke, builtin, Builtin.len_, (hs.evo hx : a.eval x = _), run_underlying hu, goInt]
theorem pure_len_str {x : Operand} {t : TypeId} {i : TyR} [hI : TyI P t i] (hd : i.desc = .string) {s : ByteArray} (hx : evo env x = some (.string s)) :
  PureOp P Γ ⟨env, hp, G⟩ (.call ⟨.builtin .len, ⟨[x]⟩, ⟨[t]⟩⟩) ty (.int .i64 s.size) := by
 refine ⟨fun a _ hs _ _ _ _ w => ?_⟩
 have hu := hI.und
 rw [hd] at hu
 simp [execOp, resolve, invoke, builtin, Builtin.len_, (hs.evo hx : a.eval x = _), run_underlying hu, goInt]

theorem pure_indexAddr {x y : Operand} {t e : TypeId} {i ie : TyR} [hI : TyI P t i] (hd : i.desc = .slice e) [hE : TyI P e ie] {b o n c : Nat} {k : IntKind} {j : Int}
  (hx : evo env x = some (.slice (some ⟨b, o, none⟩) n c)) (hy : evo env y = some (.int k j)) (h0 : 0 ≤ j) (h1 : j < n) :
  PureOp P Γ ⟨env, hp, G⟩ (.indexAddr t x y) ty (.pointer (some ⟨b, o + j.toNat * ie.size, none⟩)) := by
 refine ⟨fun a _ hs _ _ _ _ w => ?_⟩
 have hu := hI.und
 rw [hd] at hu
 obtain ⟨inf, g1, g2, _⟩ := hE.info
 simp [execOp, Instr.indexAt, (hs.evo hx : a.eval x = _), (hs.evo hy : a.eval y = _), asIntOf, run_underlying hu, h0, h1, sizeOf, typeInfo, g1, g2, add_none]

theorem pIN {x y : Operand} {t e : TypeId} {i : TyR} {sz by' : Nat} {zs : List Value} [hI : TyI P t i] (hd : i.desc = .slice e) [hE : TySz P e sz by' zs] {b o n c j : Nat} {k : IntKind}
  (hx : evo env x = some (.slice (some ⟨b, o, none⟩) n c)) (hy : evo env y = some (.int k (j : Int))) (h1 : j < n) :
  PureOp P Γ ⟨env, hp, G⟩ (.indexAddr t x y) ty (.pointer (some ⟨b, o + j * sz, none⟩)) := by
 obtain ⟨d, hE⟩ := hE.ok
 have := pure_indexAddr (P := P) (Γ := Γ) (hp := hp) (G := G) (ty := ty) (t := t) hd hx hy (by omega) (by omega)
 simpa using this
theorem pure_makeFunc {fn : Fn} {xs ys : List Operand} {us vs : List Value} (hx : evl env xs = some us) (hy : evl env ys = some vs) :
  PureOp P Γ ⟨env, hp, G⟩ (.makeFunc fn ⟨xs⟩ ⟨ys⟩) ty (.func fn ⟨us⟩ ⟨vs⟩) :=
 by refine ⟨?_⟩; exact fun a _ hs _ _ _ _ w => by simp [execOp, Instr.makeFunc, ← hs.evl hx, ← hs.evl hy]

/- Reading. -/
theorem load_cells {w : World} {b : Nat} {full : List Value} {e : TypeId} {f : Nat × Nat} (hb : w.heap[b]? = some (.cells full.toArray e f)) {o : Nat} {vs : List Value}
  (hv : ∀ j v, vs[j]? = some v → full[o + j]? = some v) : (loadCells ⟨b, o, none⟩ vs.length).run P w = .ok vs.toArray w :=
 run_loadCells_list w _ vs fun j v h => by rw [add_none]; simp [World.cell?, hb, hv j v h]

theorem run_loadAt_s {w : World} {t : TypeId} {i : TyR} [hI : TyI P t i] (hd : aggD i.desc = false) {b o : Nat} {v : Value} (h : w.cell? ⟨b, o, none⟩ = some v) :
  (Instr.loadAt t (.pointer (some ⟨b, o, none⟩))).run P w = .ok v w := by
 simp [Instr.loadAt, Instr.sureAddr, loadVar, run_isAgg hI.und, hd, h]
theorem run_loadAt_a {w : World} {t : TypeId} {i : TyR} [hI : TyI P t i] (hd : aggD i.desc = true) {b o : Nat} {vs : List Value}
  (h : (loadCells ⟨b, o, none⟩ vs.length).run P w = .ok vs.toArray w) (hn : vs.length = i.size) :
  (Instr.loadAt t (.pointer (some ⟨b, o, none⟩))).run P w = .ok (.agg ⟨vs⟩) w := by
 obtain ⟨inf, g1, g2, _⟩ := hI.info
 rw [hn] at h
 simp [Instr.loadAt, Instr.sureAddr, loadVar, run_isAgg hI.und, hd, sizeOf, typeInfo, g1, g2, h]

/-- What is read at an address: in an own block, an own slice, or a block that no longer changes. -/
def At (hp : List Ent) (G : IM) (b o : Nat) (vs : List Value) : Prop :=
 (∃ cs, Ent.blk b cs ∈ hp ∧ ∀ j v, vs[j]? = some v → cs[o + j]? = some v) ∨
 (∃ n c el sz cs, Ent.slc (some ⟨b, 0, none⟩) c el sz n cs ∈ hp ∧ ∀ j v, vs[j]? = some v → cs[o + j]? = some v) ∨
 (∃ full, G b = some full ∧ ∀ j v, vs[j]? = some v → full[o + j]? = some v)

theorem At.read {a : Act} {w : World} {b o : Nat} {vs : List Value} (h : At hp G b o vs) (hs : St Γ ⟨env, hp, G⟩ a w) :
  ∃ full e f, w.heap[b]? = some (.cells (full : List Value).toArray e f) ∧ ∀ j v, vs[j]? = some v → full[o + j]? = some v := by
 rcases h with ⟨cs, hm, hv⟩ | ⟨n, c, el, sz, cs, hm, hv⟩ | ⟨full, hg, hv⟩
 ·obtain ⟨e, he⟩ := hs.res.own.ok _ hm
  exact ⟨cs, e, _, he, hv⟩
 ·obtain ⟨_, h2⟩ := hs.res.own.ok _ hm
  rcases h2 with ⟨h2, _⟩ | ⟨g, cap, cur, h2, _, hg, _, _, _, ht⟩
  ·cases h2
  ·cases h2
   refine ⟨cur.toList, el, _, by simpa using hg, fun j v hj => ?_⟩
   have := hv j v hj
   rw [← ht, List.getElem?_take] at this
   split at this
   ·exact this
   ·cases this
 ·obtain ⟨e, f, hb⟩ := hs.res.own.inn b full hg
  exact ⟨full, e, f, hb, hv⟩

theorem load_s {x : Operand} {t : TypeId} {i : TyR} [hI : TyI P t i] (hd : aggD i.desc = false) {b o : Nat} {v : Value}
  (hx : evo env x = some (.pointer (some ⟨b, o, none⟩))) (hv : At hp G b o [v]) : LoadOp P Γ ⟨env, hp, G⟩ (.load t x) ty b v := by
 refine ⟨fun a w hs => ?_⟩
 obtain ⟨full, e, f, hb, hf⟩ := hv.read hs
 refine ⟨lt_of_some hb, fun w' hw' d pos af gd => ?_⟩
 have hc : w'.cell? ⟨b, o, none⟩ = some v := by simp [World.cell?, hw', hb, show full[o]? = some v from hf 0 v rfl]
 simp only [execOp, Sem.run_bind, (hs.evo hx : a.eval x = _), run_loadAt_s hd hc]
 rfl
theorem load_a {x : Operand} {t : TypeId} {i : TyR} [hI : TyI P t i] (hd : aggD i.desc = true) {b o : Nat} {vs : List Value}
  (hx : evo env x = some (.pointer (some ⟨b, o, none⟩))) (hv : At hp G b o vs) (hn : vs.length = i.size) : LoadOp P Γ ⟨env, hp, G⟩ (.load t x) ty b (.agg ⟨vs⟩) := by
 refine ⟨fun a w hs => ?_⟩
 obtain ⟨full, e, f, hb, hf⟩ := hv.read hs
 refine ⟨lt_of_some hb, fun w' hw' d pos af gd => ?_⟩
 have hc := load_cells (P := P) (w := w') (hw'.trans hb) hf
 simp only [execOp, Sem.run_bind, (hs.evo hx : a.eval x = _), run_loadAt_a hd hc hn]
 rfl

theorem at_blk_all {b : Nat} {cs : List Value} (hm : Ent.blk b cs ∈ hp) : At hp G b 0 cs := .inl ⟨cs, hm, fun j u hj => by simpa using hj⟩
theorem at_blk_s {b o : Nat} {cs : List Value} {v : Value} (hm : Ent.blk b cs ∈ hp) (hv : cs[o]? = some v) : At hp G b o [v] :=
 .inl ⟨cs, hm, fun j u hj => by cases j <;> simp_all⟩
theorem at_blk_a {b o n : Nat} {cs vs : List Value} (hm : Ent.blk b cs ∈ hp) (hv : subl cs o n = some vs) : At hp G b o vs := .inl ⟨cs, hm, (subl_spec hv).2⟩

theorem tyI_sz {t : TypeId} {i : TyR} {sz by' : Nat} {zs : List Value} (h : TyI P t i) (h' : TySz P t sz by' zs) : i.size = sz := by
 obtain ⟨d, h'⟩ := h'.ok
 obtain ⟨i1, a1, a2, _⟩ := h.info
 obtain ⟨i2, b1, b2, _⟩ := h'.info
 rw [a1] at b1; cases b1
 rw [← a2, b2]
theorem lBa {x : Operand} {t : TypeId} {i : TyR} {sz by' : Nat} {zs : List Value} [hI : TyI P t i] [hS : TySz P t sz by' zs] (hd : aggD i.desc = true) {b o : Nat} {cs vs : List Value}
  (hx : evo env x = some (.pointer (some ⟨b, o, none⟩))) (hm : Ent.blk b cs ∈ hp := by repeat first | exact List.Mem.head _ | apply List.Mem.tail) (hv : subl cs o sz = some vs := by rfl) : LoadOp P Γ ⟨env, hp, G⟩ (.load t x) ty b (.agg ⟨vs⟩) :=
 load_a hd hx (at_blk_a hm hv) (by rw [tyI_sz hI hS]; exact (subl_spec hv).1)
theorem lBs {x : Operand} {t : TypeId} {i : TyR} [hI : TyI P t i] (hd : aggD i.desc = false) {b o : Nat} {cs : List Value} {v : Value}
  (hx : evo env x = some (.pointer (some ⟨b, o, none⟩))) (hm : Ent.blk b cs ∈ hp := by repeat first | exact List.Mem.head _ | apply List.Mem.tail) (hv : cs[o]? = some v := by rfl) : LoadOp P Γ ⟨env, hp, G⟩ (.load t x) ty b v :=
 load_s hd hx (at_blk_s hm hv)
theorem at_slc {b o c el sz n : Nat} {cs vs : List Value} (hm : Ent.slc (some ⟨b, 0, none⟩) c el sz n cs ∈ hp) (hv : ∀ j v, vs[j]? = some v → cs[o + j]? = some v) : At hp G b o vs := .inr (.inl ⟨n, c, el, sz, cs, hm, hv⟩)
theorem at_slc_all {b c el sz n : Nat} {cs : List Value} (hm : Ent.slc (some ⟨b, 0, none⟩) c el sz n cs ∈ hp) : At hp G b 0 cs := .inr (.inl ⟨n, c, el, sz, cs, hm, fun j v hj => by simpa using hj⟩)
theorem at_im {b o : Nat} {full vs : List Value} (hg : G b = some full) (hv : ∀ j v, vs[j]? = some v → full[o + j]? = some v) : At hp G b o vs := .inr (.inr ⟨full, hg, hv⟩)

/- Strings. -/
theorem pure_sindex {x y : Operand} {t : TypeId} {i : TyR} [hI : TyI P t i] (hd : i.desc = .string) {s : ByteArray} {k : IntKind} {j : Int} {b : UInt8}
  (hx : evo env x = some (.string s)) (hy : evo env y = some (.int k j)) (h0 : 0 ≤ j) (hb : s[j.toNat]? = some b) :
  PureOp P Γ ⟨env, hp, G⟩ (.index t x y) ty (.int .u8 b.toNat) := by
 refine ⟨fun a _ hs _ _ _ _ w => ?_⟩
 have hu := hI.und
 rw [hd] at hu
 simp only [execOp, Instr.index, (hs.evo hx : a.eval x = _), (hs.evo hy : a.eval y = _), asIntOf, Sem.run_bind, Sem.run_pure, Result.andThen_ok, run_underlying hu, h0, if_true, hb]
theorem pure_cat {x y : Operand} {t t' : TypeId} {r s : ByteArray} (hx : evo env x = some (.string r)) (hy : evo env y = some (.string s)) (hs' : r.size + s.size ≤ 9223372036854775807) :
  PureOp P Γ ⟨env, hp, G⟩ (.binOp .add t x y t') ty (.string (r ++ s)) := by
 refine ⟨fun a _ hs _ _ _ _ w => ?_⟩
 have : ¬ (((r.size + s.size : Nat) : Int) > IntKind.i64.max) := by simp [IntKind.max, IntKind.signed, IntKind.bits]; omega
 simp only [execOp, eqGuard, binOp, Op.stringOp, (hs.evo hx : a.eval x = _), (hs.evo hy : a.eval y = _), this, if_false]
 simp
theorem toList_eq (r s : ByteArray) : (r.toList == s.toList) = decide (r = s) := by
 by_cases h : r = s
 ·subst h; simp
 ·have : r.toList ≠ s.toList := by
   intro e
   apply h
   have := congrArg List.toArray e
   rw [ByteArray.toList_eq, ByteArray.toList_eq] at this
   cases r; cases s; simpa using this
  simp [h, this]
theorem pure_seql {x y : Operand} {t t' : TypeId} {r s : ByteArray} (hx : evo env x = some (.string r)) (hy : evo env y = some (.string s)) :
  PureOp P Γ ⟨env, hp, G⟩ (.binOp .eql t x y t') ty (.bool (decide (r = s))) := by
 refine ⟨fun a _ hs _ _ _ _ w => ?_⟩
 simp only [execOp, eqGuard, binOp, Op.stringOp, (hs.evo hx : a.eval x = _), (hs.evo hy : a.eval y = _), toList_eq]
 simp
theorem pure_sneq {x y : Operand} {t t' : TypeId} {r s : ByteArray} (hx : evo env x = some (.string r)) (hy : evo env y = some (.string s)) :
  PureOp P Γ ⟨env, hp, G⟩ (.binOp .neq t x y t') ty (.bool (decide (r ≠ s))) := by
 refine ⟨fun a _ hs _ _ _ _ w => ?_⟩
 simp only [execOp, eqGuard, binOp, Op.stringOp, (hs.evo hx : a.eval x = _), (hs.evo hy : a.eval y = _), toList_eq]
 simp
theorem run_beq {t : TypeId} {i : TyR} [hI : TyI P t i] (hd : i.desc = .bool) (r s : Bool) (w : World) : (Op.equal t (.bool r) (.bool s)).run P w = .ok (r == s) w := by
 have hu := hI.und
 rw [hd] at hu
 have h : ∀ d, (Op.equalIn (d + 1) t (.bool r) (.bool s)).run P w = .ok (r == s) w := fun d => by
  simp only [Op.equalIn, Sem.run_bind, run_underlying hu, Result.andThen_ok, Sem.run_pure]
 exact h 9999
theorem pure_bneq {x y : Operand} {t t' : TypeId} {i : TyR} [hI : TyI P t i] (hd : i.desc = .bool) {r s : Bool} (hx : evo env x = some (.bool r)) (hy : evo env y = some (.bool s)) :
  PureOp P Γ ⟨env, hp, G⟩ (.binOp .neq t x y t') ty (.bool (decide (r ≠ s))) := by
 refine ⟨fun a _ hs _ _ _ _ w => ?_⟩
 simp only [execOp, eqGuard, binOp, (hs.evo hx : a.eval x = _), (hs.evo hy : a.eval y = _), Sem.run_bind, run_beq hd, Sem.run_pure, Result.andThen_ok]
 cases r <;> cases s <;> rfl
theorem run_slnil {t e : TypeId} {i : TyR} [hI : TyI P t i] (hd : i.desc = .slice e) (p : Option Addr) (n c : Nat) (w : World) : (Op.equal t (.slice p n c) (.slice none 0 0)).run P w = .ok p.isNone w := by
 have hu := hI.und
 rw [hd] at hu
 have h : ∀ d, (Op.equalIn (d + 1) t (.slice p n c) (.slice none 0 0)).run P w = .ok p.isNone w := fun d => by
  cases p <;> simp only [Op.equalIn, Sem.run_bind, run_underlying hu, Result.andThen_ok, Sem.run_pure, Option.isNone]
 exact h 9999
theorem pure_slnil {x y : Operand} {t t' e : TypeId} {i : TyR} [hI : TyI P t i] (hd : i.desc = .slice e) {p : Option Addr} {n c : Nat} (hx : evo env x = some (.slice p n c)) (hy : evo env y = some (.slice none 0 0)) :
  PureOp P Γ ⟨env, hp, G⟩ (.binOp .eql t x y t') ty (.bool (decide (p = none))) := by
 refine ⟨fun a _ hs _ _ _ _ w => ?_⟩
 simp only [execOp, eqGuard, binOp, (hs.evo hx : a.eval x = _), (hs.evo hy : a.eval y = _), Sem.run_bind, run_slnil hd, Sem.run_pure, Result.andThen_ok]
 cases p <;> rfl
theorem pure_slnil_t {x y : Operand} {t t' e : TypeId} {i : TyR} [hI : TyI P t i] (hd : i.desc = .slice e) {n c : Nat} (hx : evo env x = some (.slice none n c)) (hy : evo env y = some (.slice none 0 0)) :
  PureOp P Γ ⟨env, hp, G⟩ (.binOp .eql t x y t') ty (.bool true) := pure_slnil hd hx hy
theorem pure_slnil_f {x y : Operand} {t t' e : TypeId} {i : TyR} [hI : TyI P t i] (hd : i.desc = .slice e) {p : Addr} {n c : Nat} (hx : evo env x = some (.slice (some p) n c)) (hy : evo env y = some (.slice none 0 0)) :
  PureOp P Γ ⟨env, hp, G⟩ (.binOp .eql t x y t') ty (.bool false) := pure_slnil hd hx hy
end laws

section steps
variable {P : Program} {Γ : Ctx} {env : Env} {hp : List Ent} {G : IM} {ty : TypeId}

/-- A new block of cells. -/
theorem res_new (w : World) (hin : IMin G w) (cs : List Value) (e : TypeId) : Res [] G w [.blk w.heap.size cs] G (w.alloc (.cells cs.toArray e)) := by
 have hb : (w.alloc (.cells cs.toArray e)).heap[w.heap.size]? = some (.cells cs.toArray e (0, 0)) := heap_alloc_new w _
 have hold : ∀ k, k < w.heap.size → (w.alloc (.cells cs.toArray e)).heap[k]? = w.heap[k]? := fun k hk => Below.heap_alloc w _ k hk
 refine ⟨⟨?_, ?_, by simp [Fp, Ent.fp], ?_⟩, ⟨rfl, rfl, rfl, by simp, fun k hk _ => hold k hk⟩, IMle.refl _, fun _ _ h => .inl h, ?_, fun b l h h0 => absurd h (by rw [h0]; simp)⟩
 ·intro b l hg
  obtain ⟨e', f', h'⟩ := hin b l hg
  exact ⟨e', f', by rw [hold b (lt_of_some h')]; exact h'⟩
 ·intro x hx
  simp at hx; subst hx
  exact ⟨e, hb⟩
 ·intro b hb
  simp [Fp, Ent.fp] at hb; subst hb
  cases hg : G w.heap.size with
  | none => rfl
  | some l => exact absurd (hin.lt hg) (by omega)
 ·intro b hb
  simp [Fp, Ent.fp] at hb; subst hb
  exact .inl (Nat.le_refl _)

theorem St.step {a : Act} {w w' : World} {ins outs rest hp' : List Ent} {G' : IM} (hs : St Γ ⟨env, hp, G⟩ a w) (p : hp.Perm (ins ++ rest)) (r : Res ins G w outs G' w') (q : (outs ++ rest).Perm hp')
  {d : Option Nat} {v : Value} (hd : dok Γ.n d = true) : St Γ ⟨dpu d v env, hp', G'⟩ (a.put d v) w' :=
 hs.dput d v hd (((hs.res.perm p).frame r).perm q)

theorem step_new {d : Nat} {op : Op} {mk : Nat → Value} {cs : List Value} (hd : Nat.blt d Γ.n = true)
  (hrun : ∀ a w, St Γ ⟨env, hp, G⟩ a w → ∃ e, ∀ d pos af gd, (execOp a.eval ⟨d, op, ty, pos, af, gd⟩).run P w = .ok (.value (mk w.heap.size)) (w.alloc (.cells cs.toArray e))) :
  StepOp P Γ ⟨env, hp, G⟩ (some d) op ty [] (fun σ' => ∃ b, σ' = ⟨(d, mk b) :: env, .blk b cs :: hp, G⟩) := by
 refine ⟨fun a w hs pos af gd Q next hn => ?_⟩
 obtain ⟨e, hr⟩ := hrun a w hs
 simp only [Oper.wp, hr, Oper.upon]
 have hr' := res_new w hs.res.own.inn cs e
 exact hn _ _ _ (hs.step (ins := []) (rest := hp) (List.Perm.refl _) hr' (List.Perm.refl _) (d := some d) hd) hr'.ext ⟨w.heap.size, rfl⟩

theorem step_box_a {d : Nat} {x : Operand} {t : TypeId} {vs : List Value} (hx : evo env x = some (.agg ⟨vs⟩)) (hd : Nat.blt d Γ.n = true) :
  StepOp P Γ ⟨env, hp, G⟩ (some d) (.box t x) ty [] (fun σ' => ∃ b, σ' = ⟨(d, .pointer (some ⟨b, 0, none⟩)) :: env, .blk b vs :: hp, G⟩) :=
 step_new hd fun a w hs => ⟨t, fun _ _ _ _ => by simp [execOp, Instr.box, newVar, newRow, newObj, Sem.run, (hs.evo hx : a.eval x = _), Value.cells]⟩
theorem step_box_s {d : Nat} {x : Operand} {t : TypeId} {v : Value} (hx : evo env x = some v) (hv : v.cells = ⟨[v]⟩) (hd : Nat.blt d Γ.n = true) :
  StepOp P Γ ⟨env, hp, G⟩ (some d) (.box t x) ty [] (fun σ' => ∃ b, σ' = ⟨(d, .pointer (some ⟨b, 0, none⟩)) :: env, .blk b [v] :: hp, G⟩) :=
 step_new hd fun a w hs => ⟨t, fun _ _ _ _ => by simp [execOp, Instr.box, newVar, newRow, newObj, Sem.run, (hs.evo hx : a.eval x = _), hv]⟩
theorem step_alloc {d : Nat} {t : TypeId} {sz by' : Nat} {zs : List Value} [hI : TySz P t sz by' zs] (hd : Nat.blt d Γ.n = true) :
  StepOp P Γ ⟨env, hp, G⟩ (some d) (.alloc t) ty [] (fun σ' => ∃ b, σ' = ⟨(d, .pointer (some ⟨b, 0, none⟩)) :: env, .blk b zs :: hp, G⟩) :=
 step_new hd fun a w hs => ⟨t, fun _ _ _ _ => by
  obtain ⟨_, hI⟩ := hI.ok
  obtain ⟨inf, g1, _, _, z, g4, g5⟩ := hI.info
  simp [execOp, Instr.alloc, zeroValue, typeInfo, g1, g4, newVar, newRow, newObj, Sem.run, g5]⟩

/- Writing into an own block. -/
inductive Sw : List Ent → Ent → Ent → List Ent → Prop
 | here {e e' : Ent} {r : List Ent} : Sw (e :: r) e e' (e' :: r)
 | there {x e e' : Ent} {r r' : List Ent} : Sw r e e' r' → Sw (x :: r) e e' (x :: r')

theorem Sw.perm {hp hp' : List Ent} {e e' : Ent} (h : Sw hp e e' hp') : ∃ rest, hp.Perm ([e] ++ rest) ∧ ([e'] ++ rest).Perm hp' := by
 induction h with
 | @here e e' r => exact ⟨r, List.Perm.refl _, List.Perm.refl _⟩
 | @there x e e' r r' _ ih =>
  obtain ⟨rest, h1, h2⟩ := ih
  refine ⟨x :: rest, (h1.cons x).trans ?_, List.Perm.trans ?_ (h2.cons x)⟩
  ·exact List.Perm.swap _ _ _
  ·exact List.Perm.swap _ _ _
/-- cs with the cells from off on replaced by vs. -/
def upd : List Value → Nat → List Value → Option (List Value)
 | cs, 0, [] => some cs
 | [], 0, _ :: _ => none
 | _ :: cs, 0, v :: vs => match upd cs 0 vs with
  | some r => some (v :: r)
  | none => none
 | [], _ + 1, _ => none
 | c :: cs, o + 1, vs => match upd cs o vs with
  | some r => some (c :: r)
  | none => none
theorem upd_spec : ∀ {cs : List Value} {o : Nat} {vs cs' : List Value}, upd cs o vs = some cs' → cs' = cs.take o ++ vs ++ cs.drop (o + vs.length) ∧ o + vs.length ≤ cs.length
 | cs, 0, [], cs', h => by cases cs <;> (simp [upd] at h; subst h; simp)
 | [], 0, v :: vs, cs', h => by simp [upd] at h
 | c :: cs, 0, v :: vs, cs', h => by
  simp only [upd] at h
  split at h
  ·rename_i r hr
   simp at h; subst h
   obtain ⟨h1, h2⟩ := upd_spec hr
   constructor
   ·simp [h1]
   ·simp at h2 ⊢; omega
  ·cases h
 | [], o + 1, vs, cs', h => by simp [upd] at h
 | c :: cs, o + 1, vs, cs', h => by
  simp only [upd] at h
  split at h
  ·rename_i r hr
   simp at h; subst h
   obtain ⟨h1, h2⟩ := upd_spec hr
   constructor
   ·rw [h1, show o + 1 + vs.length = (o + vs.length) + 1 by omega]; simp
   ·simp; omega
  ·cases h
theorem upd_all {cs vs : List Value} (h : cs.length = vs.length) : upd cs 0 vs = some vs := by
 induction cs generalizing vs with
 | nil => cases vs with
  | nil => rfl
  | cons v vs => simp at h
 | cons c cs ih => cases vs with
  | nil => simp at h
  | cons v vs => simp only [upd, ih (vs := vs) (by simpa using h)]

theorem res_store_blk {w : World} {b o : Nat} {cs vs cs' : List Value} (hown : Own [.blk b cs] G w) (hu : cs' = cs.take o ++ vs ++ cs.drop (o + vs.length)) :
  Res [.blk b cs] G w [.blk b cs'] G (w.setRow b cs'.toArray) := by
 obtain ⟨e, hb⟩ := hown.ok _ List.mem_cons_self
 refine ⟨⟨?_, ?_, by simp [Fp, Ent.fp], ?_⟩, ⟨rfl, rfl, rfl, by simp [World.setRow], fun k _ hk => setRow_other w b k _ (by rintro rfl; simp [Fp, Ent.fp] at hk)⟩, IMle.refl _, fun _ _ h => .inl h, ?_, fun b l h h0 => absurd h (by rw [h0]; simp)⟩
 ·intro k l hg
  obtain ⟨e', f', h'⟩ := hown.inn k l hg
  refine ⟨e', f', ?_⟩
  rw [setRow_other w b k _ ?_]
  ·exact h'
  ·rintro rfl
   have := hown.disj k (by simp [Fp, Ent.fp])
   rw [this] at hg; cases hg
 ·intro x hx
  simp at hx; subst hx
  exact ⟨e, setRow_heap w b cs.toArray cs'.toArray e (0, 0) hb⟩
 ·intro k hk
  exact hown.disj k (by simpa [Fp, Ent.fp] using hk)
 ·intro k hk
  exact .inr (by simpa [Fp, Ent.fp] using hk)

theorem Own.of_mem {w : World} {e : Ent} (h : Own hp G w) {rest : List Ent} (p : hp.Perm ([e] ++ rest)) : Own [e] G w := (h.perm p).left

theorem step_store {d : Option Nat} {x y : Operand} {t : TypeId} {i : TyR} [hI : TyI P t i] {b o : Nat} {v : Value} {vs cs cs' : List Value} {hp' : List Ent}
  (hx : evo env x = some (.pointer (some ⟨b, o, none⟩))) (hy : evo env y = some v) (hv : v.cells = ⟨vs⟩) (hsz : vs.length = i.size) (h1 : vs.all (·.oneCell') = true)
  (hu : upd cs o vs = some cs') (hm : Sw hp (.blk b cs) (.blk b cs') hp') (hd : dok Γ.n d = true) :
  StepOp P Γ ⟨env, hp, G⟩ d (.store t x y) ty [b] (fun σ' => σ' = ⟨dpu d undef env, hp', G⟩) := by
 refine ⟨fun a w hs pos af gd Q next hn => ?_⟩
 obtain ⟨rest, p1, p2⟩ := hm.perm
 have hown : Own [.blk b cs] G w := hs.res.own.of_mem p1
 obtain ⟨e, hb⟩ := hown.ok _ List.mem_cons_self
 obtain ⟨u1, u2⟩ := upd_spec hu
 have hst := run_storeCells_at P b o e vs 0 cs.toArray w hb (by simpa using u2) (by simpa using h1)
 simp only [Nat.add_zero, ← u1] at hst
 obtain ⟨inf, g1, g2, _⟩ := hI.info
 have hrun : (execOp a.eval ⟨d, .store t x y, ty, pos, af, gd⟩).run P w = .ok .skip (w.setRow b cs'.toArray) := by
  simp [execOp, Instr.storeAt, Instr.sureAddr, (hs.evo hx : a.eval x = _), (hs.evo hy : a.eval y = _), storeVar, sizeOf, typeInfo, g1, g2, hv, hsz, hst]
 simp only [Oper.wp, hrun, Oper.upon]
 have hr' := res_store_blk (o := o) hown u1
 exact hn _ _ _ (hs.step p1 hr' p2 hd) (by simpa [Fp, Ent.fp] using hr'.ext) rfl

/- Calls. -/
structure Fn (P : Program) (f : FuncId) (args : List Value) (ins : List Ent) (G : IM) (post : IM → Value → List Ent → Prop) : Prop where
 run : ∀ w, Own ins G w → Calls P f ⟨args⟩ w fun e w' => ∃ v G' outs, e = .returned v ∧ Res ins G w outs G' w' ∧ post G' v outs

theorem Fn.mono {f : FuncId} {args : List Value} {ins : List Ent} {post post' : IM → Value → List Ent → Prop} (h : Fn P f args ins G post) (hp : ∀ G' v outs, IMle G G' → post G' v outs → post' G' v outs) :
  Fn P f args ins G post' :=
 ⟨fun w hw => (h.run w hw).mono fun _ _ ⟨v, G', outs, h1, h2, h3⟩ => ⟨v, G', outs, h1, h2, hp _ _ _ h2.le h3⟩⟩

theorem run_callFunc {f : FuncId} [hF : FunI P f] (args : Array Value) (w : World) : (callFunc f args).run P w = .ok (.enter f args) w := by
 obtain ⟨fn, h1, h2, h3⟩ := hF.ok
 simp only [callFunc, program, Sem.run_bind, Sem.run, Result.andThen_ok, h1, h2, h3, Bool.false_eq_true, if_false]
 rfl

theorem step_enter {d : Nat} {op : Op} {f : FuncId} {vs : List Value} {ins rest : List Ent} {post : IM → Value → List Ent → Prop}
  (he : ∀ a w, St Γ ⟨env, hp, G⟩ a w → ∀ d pos af gd, (execOp a.eval ⟨d, op, ty, pos, af, gd⟩).run P w = .ok (.enter f ⟨vs⟩) w)
  (h : Fn P f vs ins G post) (hp' : hp.Perm (ins ++ rest)) (hd : Nat.blt d Γ.n = true) :
  StepOp P Γ ⟨env, hp, G⟩ (some d) op ty (Fp ins) (fun σ' => ∃ v G' outs, σ' = ⟨(d, v) :: env, outs ++ rest, G'⟩ ∧ IMle G G' ∧ post G' v outs) := by
 refine ⟨fun a w hs pos af gd Q next hn => ?_⟩
 simp only [Oper.wp, he a w hs, Oper.upon]
 refine (h.run w (hs.res.own.perm hp').left).mono ?_
 rintro e w' ⟨v, G', outs, rfl, h2, h3⟩
 exact hn _ _ _ (hs.step hp' h2 (List.Perm.refl _) (d := some d) hd) h2.ext ⟨v, G', outs, rfl, h2.le, h3⟩

theorem run_execCall {f : FuncId} [hF : FunI P f] {xs : List Operand} {ats : Array TypeId} {vs : List Value} {a : Act} {w w1 : World} (hs : St Γ ⟨env, hp, G⟩ a w1) (hx : evl env xs = some vs) (d : Option Tmp) (pos : String) (af : Array Edge) (gd : Option (Nat × Bool)) :
  (execOp a.eval ⟨d, .call ⟨.value (.func f), ⟨xs⟩, ats⟩, ty, pos, af, gd⟩).run P w = .ok (.enter f ⟨vs⟩) w := by
 have e2 := hs.evl hx
 simp [execOp, resolve, invoke, Deferred.ofValue, Act.eval, run_callFunc]
 exact e2

/-- A call of a named function that needs nothing of the caller's own. -/
theorem step_call {d : Nat} {f : FuncId} [hF : FunI P f] {xs : List Operand} {ats : Array TypeId} {vs : List Value} {post : IM → Value → List Ent → Prop}
  (hx : evl env xs = some vs) (h : Fn P f vs [] G post) (hd : Nat.blt d Γ.n = true) :
  StepOp P Γ ⟨env, hp, G⟩ (some d) (.call ⟨.value (.func f), ⟨xs⟩, ats⟩) ty [] (fun σ' => ∃ v G' outs, σ' = ⟨(d, v) :: env, outs ++ hp, G'⟩ ∧ IMle G G' ∧ post G' v outs) :=
 step_enter (fun _ _ hs _ _ _ _ => run_execCall hs hx _ _ _ _) h (List.Perm.refl _) hd
theorem step_call_own {d : Nat} {f : FuncId} [hF : FunI P f] {xs : List Operand} {ats : Array TypeId} {vs : List Value} {ins rest : List Ent} {post : IM → Value → List Ent → Prop}
  (hx : evl env xs = some vs) (h : Fn P f vs ins G post) (hp' : hp.Perm (ins ++ rest)) (hd : Nat.blt d Γ.n = true) :
  StepOp P Γ ⟨env, hp, G⟩ (some d) (.call ⟨.value (.func f), ⟨xs⟩, ats⟩) ty (Fp ins) (fun σ' => ∃ v G' outs, σ' = ⟨(d, v) :: env, outs ++ rest, G'⟩ ∧ IMle G G' ∧ post G' v outs) :=
 step_enter (fun _ _ hs _ _ _ _ => run_execCall hs hx _ _ _ _) h hp' hd
/-- A call of a function value. -/
theorem step_callv {d : Nat} {f : FuncId} [hF : FunI P f] {g : Operand} {xs : List Operand} {ats : Array TypeId} {vs us cs : List Value} {ins rest : List Ent} {post : IM → Value → List Ent → Prop}
  (hg : evo env g = some (.func (.func f) ⟨us⟩ ⟨cs⟩)) (hx : evl env xs = some vs) (h : Fn P f (us ++ vs ++ cs) ins G post) (hp' : hp.Perm (ins ++ rest)) (hd : Nat.blt d Γ.n = true) :
  StepOp P Γ ⟨env, hp, G⟩ (some d) (.call ⟨.value g, ⟨xs⟩, ats⟩) ty (Fp ins) (fun σ' => ∃ v G' outs, σ' = ⟨(d, v) :: env, outs ++ rest, G'⟩ ∧ IMle G G' ∧ post G' v outs) :=
 step_enter (fun a w hs _ _ _ _ => by
  have e1 : a.eval g = _ := hs.evo hg
  have e2 := hs.evl hx
  simp [execOp, resolve, invoke, Deferred.ofValue, e1, e2, run_callFunc]) h hp' hd

/- The end of a call. -/
def rdR (tmps : Array Value) : ResultVar → Sem Value
 | .tmp t => pure (tmps.getD t undef)
 | .cell x t => do loadVar t (← asAddr (tmps.getD x undef))
theorem results_rdR (fn : Func) (tmps : Array Value) : results fn tmps = (do let vs ← fn.results.mapM (rdR tmps); pure (if h : vs.size = 1 then vs[0] else .tuple vs)) := by
 unfold results
 congr 1
def ResOne (P : Program) (Γ : Ctx) (σ : Sy) (r : ResultVar) (v : Value) : Prop := ∀ a w, St Γ σ a w →
 (rdR a.tmps r).run P w = .ok v w

theorem rT {t : Nat} {v : Value} (h : look env t = some v) : ResOne P Γ ⟨env, hp, G⟩ (.tmp t) v :=
 fun a w hs => by simp only [rdR, Sem.run_pure]; rw [hs.env t v h]
theorem rC {x t b o : Nat} {v : Value} (hx : look env x = some (.pointer (some ⟨b, o, none⟩))) (h : LoadOp P Γ ⟨env, hp, G⟩ (.load t (.tmp x)) 0 b v) : ResOne P Γ ⟨env, hp, G⟩ (.cell x t) v := by
 intro a w hs
 have h1 := (h.run a w hs).2 w rfl none "" #[] none
 have hx' := hs.env x _ hx
 have he : a.eval (.tmp x) = .pointer (some ⟨b, o, none⟩) := hx'
 simp only [execOp, Sem.run_bind, Instr.loadAt, he, Instr.sureAddr, Sem.run_pure, Result.andThen_ok] at h1
 simp only [rdR, hx', asAddr, Sem.run_bind, Sem.run_pure, Result.andThen_ok]
 cases hl : (loadVar t ⟨b, o, none⟩).run P w with
 | ok u w' => rw [hl] at h1; simp at h1; rw [h1.1, h1.2]
 | halt hh w' => rw [hl] at h1; simp at h1

inductive ResAll (P : Program) (Γ : Ctx) (σ : Sy) : List ResultVar → List Value → Prop
 | nil : ResAll P Γ σ [] []
 | cons {r : ResultVar} {v : Value} {rs : List ResultVar} {vs : List Value} : ResOne P Γ σ r v → ResAll P Γ σ rs vs → ResAll P Γ σ (r :: rs) (v :: vs)

def tupl : List Value → Value
 | [v] => v
 | vs => .tuple ⟨vs⟩

theorem run_mapM_list {α β : Type} (f : α → Sem β) (w : World) : ∀ (xs : List α) (ys : List β), xs.length = ys.length → (∀ (j : Nat) (x : α) (y : β), xs[j]? = some x → ys[j]? = some y → (f x).run P w = .ok y w) →
  (xs.mapM f).run P w = .ok ys w
 | [], [], _, _ => by simp
 | x :: xs, y :: ys, hl, h => by
  have h0 := h 0 x y rfl rfl
  have ih := run_mapM_list f w xs ys (by simpa using hl) (fun j a b ha hb => h (j + 1) a b (by simpa using ha) (by simpa using hb))
  simp [List.mapM_cons, h0, ih]
 | [], _ :: _, hl, _ => by simp at hl
 | _ :: _, [], hl, _ => by simp at hl

theorem ResAll.run {σ : Sy} {rs : List ResultVar} {vs : List Value} (h : ResAll P Γ σ rs vs) {a : Act} {w : World} (hs : St Γ σ a w) : rs.length = vs.length ∧ ∀ (j : Nat) (x : ResultVar) (y : Value), rs[j]? = some x → vs[j]? = some y →
  (rdR a.tmps x).run P w = .ok y w := by
 induction h with
 | nil => exact ⟨rfl, fun j x y hx => by simp at hx⟩
 | @cons r v rs vs hr _ ih =>
  refine ⟨by simp [ih.1], fun j x y hx hy => ?_⟩
  cases j with
  | zero => simp at hx hy; subst hx hy; exact hr a w hs
  | succ j => exact ih.2 j x y (by simpa using hx) (by simpa using hy)

structure retK (P : Program) (Γ : Ctx) (rs : List ResultVar) (post : IM → Value → List Ent → Prop) (e : Exit) (σ : Sy) : Prop where
 run : match e with
  | .ret | .normal => ∃ vs, ResAll P Γ σ rs vs ∧ ∃ outs r, σ.hp.Perm (outs ++ r) ∧ post σ.G (tupl vs) outs
  | _ => False

def enumEnv : Nat → List Value → Env
 | _, [] => []
 | k, v :: vs => (k, v) :: enumEnv (k + 1) vs

theorem look_enum : ∀ (vs : List Value) (k t : Nat) (v : Value), look (enumEnv k vs) t = some v → k ≤ t ∧ vs[t - k]? = some v
 | [], k, t, v, h => by simp [enumEnv, look] at h
 | u :: us, k, t, v, h => by
  simp only [enumEnv] at h
  rw [look_cons] at h
  by_cases e : k = t
  ·subst e; simp at h; subst h; simp
  ·rw [if_neg e] at h
   obtain ⟨h1, h2⟩ := look_enum us (k + 1) t v h
   refine ⟨by omega, ?_⟩
   rw [show t - k = (t - (k + 1)) + 1 by omega]
   simpa using h2

theorem fn_enter {f : FuncId} {fn : Func} {c : Code} {args : List Value} {ins : List Ent} {post : IM → Value → List Ent → Prop} {n : Nat} {rs : List ResultVar}
  (hf : P.funcs[f]? = some fn) (hb : fn.body = some c) (hn : fn.ntmps = n) (hr : fn.results = ⟨rs⟩) (hle : Nat.ble args.length n = true)
  (h : ∀ w0, Tri P ⟨n, ins, G, w0⟩ c (retK P ⟨n, ins, G, w0⟩ rs post) ⟨enumEnv 0 args, ins, G⟩) : Fn P f args ins G post := by
 refine ⟨fun w hw => ?_⟩
 have hle' : args.length ≤ n := by simpa using hle
 refine calls_of_wp hf hb ?_
 let a : Act := { tmps := (⟨args⟩ : Array Value) ++ Array.replicate (fn.ntmps - (⟨args⟩ : Array Value).size) undef, defers := [] }
 have hs : St ⟨n, ins, G, w⟩ ⟨enumEnv 0 args, ins, G⟩ a w := by
  refine ⟨?_, rfl, ?_, Res.refl hw⟩
  ·simp [a, hn]; omega
  ·intro t v ht
   obtain ⟨_, h2⟩ := look_enum args 0 t v ht
   simp only [Nat.sub_zero] at h2
   have hlt : t < args.length := (List.getElem?_eq_some_iff.1 h2).1
   simp [a, Array.getD_eq_getD_getElem?, Array.getElem?_append, hlt]
   simp [List.getElem?_eq_getElem hlt] at h2
   exact h2
 refine wp_mono ((h w).run a w hs) ?_
 rintro e a' w' ⟨σ, hs', ⟨hk⟩⟩
 have fin : (∃ vs, ResAll P ⟨n, ins, G, w⟩ σ rs vs ∧ ∃ outs r, σ.hp.Perm (outs ++ r) ∧ post σ.G (tupl vs) outs) → a'.defers = [] ∧ ∃ v, (results fn a'.tmps).run P w' = .ok v w' ∧
   ∃ v_1 G' outs, Ending.returned v = Ending.returned v_1 ∧ Res ins G w outs G' w' ∧ post G' v_1 outs := by
  rintro ⟨vs, hra, outs, r, hp', hpost⟩
  refine ⟨hs'.nod, tupl vs, ?_, tupl vs, σ.G, outs, rfl, (hs'.res.perm hp').left, hpost⟩
  obtain ⟨hl, hrun⟩ := hra.run hs'
  have hm : (fn.results.mapM (rdR a'.tmps)).run P w' = .ok ⟨vs⟩ w' := by
   rw [hr, Array.mapM_eq_mapM_toList]
   simp only [Sem.run_map]
   rw [run_mapM_list _ w' rs vs hl hrun]
   rfl
  rw [results_rdR]
  simp only [Sem.run_bind]
  rw [hm]
  simp only [Result.andThen_ok, Sem.run_pure]
  congr 1
  unfold tupl
  split
  ·rename_i hsz
   match vs, hsz with
   | [v], _ => rfl
  ·rename_i hsz
   split
   ·exact absurd rfl hsz
   ·rfl
 cases e <;> first | exact fin hk | exact hk.elim


/- How the posts of the parts meet. -/
theorem nS {y : Code} {K : Po} {σ : Sy} (h : Tri P Γ y K σ) : seqK P Γ y K .normal σ := ⟨h⟩
theorem rS {y : Code} {K : Po} {σ : Sy} (h : K .ret σ) : seqK P Γ y K .ret σ := ⟨h⟩
theorem ext_seq {y : Code} {K : Po} {σ : Sy} {i : Nat} (h : K (.exit i) σ) : seqK P Γ y K (.exit i) σ := ⟨h⟩
theorem nrm_block {i : Nat} {K : Po} {σ : Sy} (h : K .normal σ) : blockK i K .normal σ := ⟨h⟩
theorem rB {i : Nat} {K : Po} {σ : Sy} (h : K .ret σ) : blockK i K .ret σ := ⟨h⟩
theorem ext_block_eq {i : Nat} {K : Po} {σ : Sy} (h : K .normal σ) : blockK i K (.exit i) σ := ⟨by simp [h]⟩
theorem ret_fin {rs : List ResultVar} {post : IM → Value → List Ent → Prop} {σ : Sy} {vs : List Value} (h : ResAll P Γ σ rs vs) {outs : List Ent} (hp : ∃ r, σ.hp.Perm (outs ++ r)) (hk : post σ.G (tupl vs) outs) :
  retK P Γ rs post .ret σ := ⟨vs, h, outs, hp.choose, hp.choose_spec, hk⟩
/-- The caller gets nothing of its own. -/
theorem ret_fin0 {rs : List ResultVar} {post : IM → Value → List Ent → Prop} {σ : Sy} {vs : List Value} (h : ResAll P Γ σ rs vs) (hk : post σ.G (tupl vs) []) :
  retK P Γ rs post .ret σ := ⟨vs, h, [], σ.hp, List.Perm.refl _, hk⟩

theorem np_seq {y : Code} {K : Po} (h : noPanic K) : noPanic (seqK P Γ y K) := fun c σ hk => h c σ hk.run
theorem np_block {i : Nat} {K : Po} (h : noPanic K) : noPanic (blockK i K) := fun c σ hk => h c σ hk.run
theorem np_ret {rs : List ResultVar} {post : IM → Value → List Ent → Prop} : noPanic (retK P Γ rs post) := fun _ _ h => h.run
class NpC (K : Po) : Prop where
 h : noPanic K
theorem npI {K : Po} [h : NpC K] : noPanic K := h.h
instance npC1 {rs : List ResultVar} {post : IM → Value → List Ent → Prop} : NpC (retK P Γ rs post) := ⟨np_ret⟩
instance npC2 {y : Code} {K : Po} [h : NpC K] : NpC (seqK P Γ y K) := ⟨np_seq h.h⟩
instance npC3 {i : Nat} {K : Po} [h : NpC K] : NpC (blockK i K) := ⟨np_block h.h⟩
instance npC4 {ι : Type} {S : ι → Sy} {φ : ι → Prop} {μ : ι → Nat} {i : ι} {K : Po} [h : NpC K] : NpC (loopN K S φ μ i) := ⟨np_loopN' h.h⟩
section shortAny
variable {P : Program} {Γ : Ctx} {K : Po} {ops : Array Oper} {H : List (Nat × Nat)} {env : Env} {hp : List Ent} {G : IM} {fuel : Nat} {listed l' : List Bool}
variable {op : Op} {ty : TypeId} {pos : String} {af : Array Edge} {gd : Option (Nat × Bool)}
class SetT (l : List Bool) (j : Nat) (l2 : outParam (List Bool)) : Prop where
 h : l.set j true = l2
instance setT0 {b : Bool} {l : List Bool} : SetT (b :: l) 0 (true :: l) := ⟨rfl⟩
instance setTs {b : Bool} {l l2 : List Bool} {n : Nat} [h : SetT l n l2] : SetT (b :: l) (n + 1) (b :: l2) := ⟨congrArg (b :: ·) h.h⟩
instance setTt {l l1 l2 : List Bool} {i j : Nat} [h : SetT l i l1] [h2 : SetT l1 j l2] : SetT (l.set i true) j l2 := ⟨by rw [h.h, h2.h]⟩
theorem aP (i : Nat) {d : Nat} {v : Value} [hl : SetT listed i l'] (hi : ops[i]? = some ⟨some d, op, ty, pos, af, gd⟩)
 (h : PureOp P Γ ⟨env, hp, G⟩ op ty v) (hw : (wantG ops env gd, Nat.blt d Γ.n) = (some true, true))
 (k : AnyL P Γ ops K H fuel l' ⟨(d, v) :: env, hp, G⟩) (hq : quietOk ops listed i = true := by kernel_rfl) [hK : NpC K] : AnyL P Γ ops K H (fuel + 1) listed ⟨env, hp, G⟩ :=
 any_pure hi hK.h h (congrArg Prod.fst hw) hq (congrArg Prod.snd hw) hl.h k
theorem aL (i : Nat) {d b : Nat} {v : Value} [hl : SetT listed i l'] (hi : ops[i]? = some ⟨some d, op, ty, pos, af, gd⟩)
 (h : LoadOp P Γ ⟨env, hp, G⟩ op ty b v) (hw : (wantG ops env gd, Nat.blt d Γ.n) = (some true, true))
 (k : AnyL P Γ ops K ((i, b) :: H) fuel l' ⟨(d, v) :: env, hp, G⟩) (hq : quietOk ops listed i = true := by kernel_rfl) [hK : NpC K] : AnyL P Γ ops K H (fuel + 1) listed ⟨env, hp, G⟩ :=
 any_load hi hK.h h (congrArg Prod.fst hw) hq (congrArg Prod.snd hw) hl.h k
theorem aK' (i : Nat) {d : Nat} [hl : SetT listed i l'] (hi : ops[i]? = some ⟨some d, op, ty, pos, af, gd⟩) (hw : wantG ops env gd = some false) (hd : Nat.blt d Γ.n = true)
 (k : AnyL P Γ ops K H fuel l' ⟨(d, undef) :: env, hp, G⟩) (hq : quietOk ops listed i = true := by kernel_rfl) [hK : NpC K] : AnyL P Γ ops K H (fuel + 1) listed ⟨env, hp, G⟩ :=
 aK hi hK.h hw hq hd hl.h k
theorem aO' (j : Nat) {σ : Sy} (h : One P Γ ops K H fuel listed j σ) (hr : Region.ready .any ops listed.toArray = [j] := by kernel_rfl) : AnyL P Γ ops K H (fuel + 1) listed σ := aO hr h
theorem aD' {σ : Sy} (h : K .normal σ) (hr : Region.ready .any ops listed.toArray = [] := by kernel_rfl) : AnyL P Γ ops K H fuel listed σ := aD hr h
end shortAny


theorem seq_store {K : Po} {ops : Array Oper} {rest : List Oper} {pos : String} {af : Array Edge} {gd : Option (Nat × Bool)} {x y : Operand} {t : TypeId} {i : TyR} [hI : TyI P t i] {b o : Nat} {v : Value} {vs cs cs' : List Value} {hp' : List Ent}
  (hx : evo env x = some (.pointer (some ⟨b, o, none⟩))) (hy : evo env y = some v) (hv : v.cells = ⟨vs⟩) (hsz : vs.length = i.size) (h1 : vs.all (·.oneCell') = true)
  (hw : wantG ops env gd = some true) (hm : Sw hp (.blk b cs) (.blk b cs') hp') (hu : upd cs o vs = some cs')
  (k : TriL P Γ ops rest K ⟨env, hp', G⟩) : TriL P Γ ops (⟨none, .store t x y, ty, pos, af, gd⟩ :: rest) K ⟨env, hp, G⟩ :=
 seq_step (step_store hx hy hv hsz h1 hu hm rfl) hw (by rintro _ rfl; exact k)

theorem sS {K : Po} {ops : Array Oper} {rest : List Oper} {pos : String} {af : Array Edge} {gd : Option (Nat × Bool)} {x y : Operand} {t : TypeId} {i : TyR} [hI : TyI P t i] {b o : Nat} {v : Value} {vs cs cs' : List Value} {hp' : List Ent}
 (hx : evo env x = some (.pointer (some ⟨b, o, none⟩))) (hy : evo env y = some v) (hv : v.cells = ⟨vs⟩) (hsz : vs.length = i.size) (h1 : vs.all (·.oneCell') = true)
 (hw : wantG ops env gd = some true)
 (k : TriL P Γ ops rest K ⟨env, hp', G⟩) (hm : Sw hp (.blk b cs) (.blk b cs') hp' := by repeat first | exact Sw.here | apply Sw.there) (hu : upd cs o vs = some cs' := by rfl) : TriL P Γ ops (⟨none, .store t x y, ty, pos, af, gd⟩ :: rest) K ⟨env, hp, G⟩ :=
 seq_store hx hy hv hsz h1 hw hm hu k
theorem sS' {K : Po} {ops : Array Oper} {rest : List Oper} {pos : String} {af : Array Edge} {gd : Option (Nat × Bool)} {x y : Operand} {t : TypeId} {i : TyR} [hI : TyI P t i] {b o : Nat} {v : Value} {vs cs cs' : List Value} {hp' : List Ent}
 (k : TriL P Γ ops rest K ⟨env, hp', G⟩) (hx : evo env x = some (.pointer (some ⟨b, o, none⟩)) := by rfl) (hy : evo env y = some v := by rfl) (hv : v.cells = ⟨vs⟩ := by rfl) (hsz : vs.length = i.size := by rfl) (h1 : vs.all (·.oneCell') = true := by rfl)
 (hw : wantG ops env gd = some true := by rfl) (hm : Sw hp (.blk b cs) (.blk b cs') hp' := by repeat first | exact Sw.here | apply Sw.there) (hu : upd cs o vs = some cs' := by rfl) : TriL P Γ ops (⟨none, .store t x y, ty, pos, af, gd⟩ :: rest) K ⟨env, hp, G⟩ :=
 seq_store hx hy hv hsz h1 hw hm hu k
def firstF : List Bool → Nat → Option Nat
 | [], _ => none
 | false :: _, i => some i
 | true :: r, i => firstF r (i + 1)

section eqs
variable {x y : Operand} {t t' : TypeId} {k : IntKind} {m n : Int}
theorem pure_eql_t (hx : evo env x = some (.int k m)) (hy : evo env y = some (.int k n)) (h : m = n) : PureOp P Γ ⟨env, hp, G⟩ (.binOp .eql t x y t') ty (.bool true) := by
 have := qE (P := P) (Γ := Γ) (hp := hp) (G := G) (ty := ty) (t := t) (t' := t') hx hy; rwa [decide_eq_true h] at this
theorem pure_eql_f (hx : evo env x = some (.int k m)) (hy : evo env y = some (.int k n)) (h : ¬ m = n) : PureOp P Γ ⟨env, hp, G⟩ (.binOp .eql t x y t') ty (.bool false) := by
 have := qE (P := P) (Γ := Γ) (hp := hp) (G := G) (ty := ty) (t := t) (t' := t') hx hy; rwa [decide_eq_false h] at this
theorem pure_neq_t (hx : evo env x = some (.int k m)) (hy : evo env y = some (.int k n)) (h : m ≠ n) : PureOp P Γ ⟨env, hp, G⟩ (.binOp .neq t x y t') ty (.bool true) := by
 have := pure_neq (P := P) (Γ := Γ) (hp := hp) (G := G) (ty := ty) (t := t) (t' := t') hx hy; rwa [decide_eq_true h] at this
theorem pure_neq_f (hx : evo env x = some (.int k m)) (hy : evo env y = some (.int k n)) (h : m = n) : PureOp P Γ ⟨env, hp, G⟩ (.binOp .neq t x y t') ty (.bool false) := by
 have := pure_neq (P := P) (Γ := Γ) (hp := hp) (G := G) (ty := ty) (t := t) (t' := t') hx hy; rwa [decide_eq_false (by simpa using h)] at this
theorem pure_lss_t (hx : evo env x = some (.int k m)) (hy : evo env y = some (.int k n)) (h : m < n) : PureOp P Γ ⟨env, hp, G⟩ (.binOp .lss t x y t') ty (.bool true) := by
 have := pure_lss (P := P) (Γ := Γ) (hp := hp) (G := G) (ty := ty) (t := t) (t' := t') hx hy; rwa [decide_eq_true h] at this
theorem pure_lss_f (hx : evo env x = some (.int k m)) (hy : evo env y = some (.int k n)) (h : ¬ m < n) : PureOp P Γ ⟨env, hp, G⟩ (.binOp .lss t x y t') ty (.bool false) := by
 have := pure_lss (P := P) (Γ := Γ) (hp := hp) (G := G) (ty := ty) (t := t) (t' := t') hx hy; rwa [decide_eq_false h] at this
theorem pure_leq_t (hx : evo env x = some (.int k m)) (hy : evo env y = some (.int k n)) (h : m ≤ n) : PureOp P Γ ⟨env, hp, G⟩ (.binOp .leq t x y t') ty (.bool true) := by
 have := pure_leq (P := P) (Γ := Γ) (hp := hp) (G := G) (ty := ty) (t := t) (t' := t') hx hy; rwa [decide_eq_true h] at this
theorem pure_gtr_t (hx : evo env x = some (.int k m)) (hy : evo env y = some (.int k n)) (h : n < m) : PureOp P Γ ⟨env, hp, G⟩ (.binOp .gtr t x y t') ty (.bool true) := by
 have := pure_gtr (P := P) (Γ := Γ) (hp := hp) (G := G) (ty := ty) (t := t) (t' := t') hx hy; rwa [decide_eq_true h] at this
theorem pure_gtr_f (hx : evo env x = some (.int k m)) (hy : evo env y = some (.int k n)) (h : ¬ n < m) : PureOp P Γ ⟨env, hp, G⟩ (.binOp .gtr t x y t') ty (.bool false) := by
 have := pure_gtr (P := P) (Γ := Γ) (hp := hp) (G := G) (ty := ty) (t := t) (t' := t') hx hy; rwa [decide_eq_false h] at this
end eqs

end steps

class PlcI (P : Program) (t : TypeId) (pl : outParam (List (Nat × Nat))) : Prop where
 ok : ∃ fs : List Field, P.underlying t = some (.struct ⟨fs⟩) ∧ ∀ w, ((⟨fs⟩ : Array Field).mapM fun (f : Field) => (do pure (f.offset, ← sizeOf f.type) : Sem (Nat × Nat))).run P w = .ok ⟨pl⟩ w

theorem plc_of {P : Program} {t : TypeId} {pl : List (Nat × Nat)} {fs : List Field} (h : P.underlying t = some (.struct ⟨fs⟩)) (hp : (fs.map fun f => (f.offset, P.cellsOf f.type)) = pl)
  (he : (fs.all fun f => (P.info? f.type).isSome) = true) : PlcI P t pl := by
 refine ⟨fs, h, fun w => ?_⟩
 rw [Array.mapM_eq_mapM_toList]
 simp only [Sem.run_map]
 rw [run_mapM_list _ w fs pl (by simp [← hp])]
 ·rfl
 ·intro j x y hx hy
  subst hp
  simp [List.getElem?_map, hx] at hy
  subst hy
  have hm : x ∈ fs := List.mem_of_getElem? hx
  have := List.all_eq_true.1 he x hm
  cases hi : P.info? x.type with
  | none => simp [hi] at this
  | some i => simp [sizeOf, typeInfo, hi, Program.cellsOf]

/-- The parts laid one after the other. -/
def fillF (pl : Nat → Option (Nat × Nat)) : List Value → List (Nat × Value) → Option (List Value)
 | cs, [] => some cs
 | cs, (i, v) :: r => match pl i with
  | none => none
  | some (off, sz) => match Nat.beq v.cells.toList.length sz with
   | false => none
   | true => match upd cs off v.cells.toList with
    | none => none
    | some cs' => fillF pl cs' r

def cpy : List Value → Option (List Value)
 | [] => some []
 | c :: cs => match cpy cs with
  | some r => some (c :: r)
  | none => none
theorem cpy_eq : ∀ cs, cpy cs = some cs
 | [] => rfl
 | c :: cs => by simp only [cpy, cpy_eq cs]
def fillC (pl : Nat → Option (Nat × Nat)) (cs : List Value) (ps : List (Nat × Value)) : Option (List Value) := match fillF pl cs ps with
 | some r => cpy r
 | none => none
theorem fillC_eq {pl : Nat → Option (Nat × Nat)} {cs cs' : List Value} {ps : List (Nat × Value)} (h : fillC pl cs ps = some cs') : fillF pl cs ps = some cs' := by
 unfold fillC at h
 split at h
 ·rename_i r hr; rw [cpy_eq] at h; rw [hr]; exact h
 ·cases h

theorem foldl_set : ∀ (vs : List Value) (k off : Nat) (cs : List Value), off + k + vs.length ≤ cs.length →
  ((vs.zipIdx k).foldl (fun (a : Array Value) (p : Value × Nat) => a.setIfInBounds (off + p.2) p.1) ⟨cs⟩).toList = cs.take (off + k) ++ vs ++ cs.drop (off + k + vs.length)
 | [], k, off, cs, _ => by simp
 | v :: vs, k, off, cs, h => by
  simp only [List.zipIdx_cons, List.foldl_cons]
  have h1 : ((⟨cs⟩ : Array Value).setIfInBounds (off + k) v) = ⟨cs.set (off + k) v⟩ := by simp
  simp only [List.length_cons] at h
  rw [h1, foldl_set vs (k + 1) off (cs.set (off + k) v) (by simp; omega)]
  apply List.ext_getElem?
  intro i
  simp only [List.getElem?_append, List.length_append, List.length_take, List.length_set, List.length_cons, List.getElem?_drop, List.getElem?_take, List.getElem?_set]
  have e1 : min (off + (k + 1)) cs.length = off + k + 1 := by omega
  have e2 : min (off + k) cs.length = off + k := by omega
  rw [e1, e2]
  by_cases c1 : i < off + k
  ·rw [if_pos (by omega), if_pos (by omega), if_pos (by omega), if_neg (by omega), if_pos (by omega), if_pos (by omega), if_pos (by omega)]
  ·by_cases c2 : i = off + k
   ·subst c2
    rw [if_pos (by omega), if_pos (by omega), if_pos (by omega), if_pos rfl, if_pos (by omega), if_pos (by omega), if_neg (by omega)]
    simp
   ·by_cases c3 : i < off + k + 1 + vs.length
    ·rw [if_pos (by omega), if_neg (by omega), if_pos (by omega), if_neg (by omega), show i - (off + k) = (i - (off + k + 1)) + 1 by omega]
     simp
    ·rw [if_neg (by omega), if_neg (by omega), if_neg (by omega), show off + (k + 1) + vs.length + (i - (off + k + 1 + vs.length)) = off + k + (vs.length + 1) + (i - (off + k + (vs.length + 1))) by omega]

theorem fillF_run {pl : Nat → Option (Nat × Nat)} : ∀ {parts : List (Nat × Value)} {cs cs' : List Value}, fillF pl cs parts = some cs' → Instr.fill pl ⟨cs⟩ parts = some ⟨cs'⟩ ∧ cs'.length = cs.length
 | [], cs, cs', h => by cases cs <;> (simp [fillF] at h; subst h; exact ⟨rfl, rfl⟩)
 | (i, v) :: r, cs, cs', h => by
  simp only [fillF] at h
  split at h
  ·cases h
  ·rename_i off sz h1
   split at h
   ·cases h
   ·rename_i h2
    split at h
    ·cases h
    ·rename_i cs1 hu
     obtain ⟨u1, u2⟩ := upd_spec hu
     obtain ⟨ih1, ih2⟩ := fillF_run h
     have hl := foldl_set v.cells.toList 0 off cs (by simpa using u2)
     have e : v.cells.size = sz := by have := Nat.eq_of_beq_eq_true h2; simpa using this
     have hlen : cs1.length = cs.length := by rw [u1]; simp at u2 ⊢; omega
     refine ⟨?_, by rw [ih2, hlen]⟩
     simp only [Instr.fill, h1]
     have u2' : off + v.cells.size ≤ cs.length := by simpa using u2
     rw [if_neg (by simp [e]; omega)]
     rw [← ih1]
     congr 1
     apply Array.ext'
     simp only [Nat.add_zero] at hl
     rw [u1, ← hl]
     rw [← Array.foldl_toList]
     simp

theorem run_tyI {P : Program} {t : TypeId} {i : TyR} [hI : TyI P t i] : ∃ inf z, (∀ w, (typeInfo t).run P w = .ok inf w) ∧ (∀ w, (zeroValue t).run P w = .ok z w) ∧ (∀ w, (sizeOf t).run P w = .ok i.size w) ∧ inf.bytes = i.bytes ∧ z.cells = ⟨i.zs⟩ ∧ P.info? t = some inf ∧ inf.zero = some z ∧ inf.size = i.size := by
 obtain ⟨inf, g1, g2, g3, z, g4, g5⟩ := hI.info
 refine ⟨inf, z, fun w => ?_, fun w => ?_, fun w => ?_, g3, g5, g1, g4, g2⟩
 ·simp [typeInfo, g1]
 ·simp [zeroValue, typeInfo, g1, g4]
 ·simp [sizeOf, typeInfo, g1, g2]

section mem
variable {P : Program} {Γ : Ctx} {env : Env} {hp : List Ent} {G : IM} {ty : TypeId}

def evp (e : Env) : List (Nat × Operand) → Option (List (Nat × Value))
 | [] => some []
 | (i, x) :: r => match evo e x with
  | some v => match evp e r with
   | some vs => some ((i, v) :: vs)
   | none => none
  | none => none
theorem evp_ok {a : Act} {w : World} (hs : St Γ ⟨env, hp, G⟩ a w) : ∀ {xs : List (Nat × Operand)} {vs : List (Nat × Value)}, evp env xs = some vs → (xs.map fun (p : Nat × Operand) => (p.1, a.eval p.2)) = vs
 | [], vs, h => by simp [evp] at h; subst h; rfl
 | (i, x) :: r, vs, h => by
  simp only [evp] at h
  split at h
  ·rename_i v hv
   split at h
   ·rename_i us hu
    simp at h; subst h
    have e1 : a.eval x = v := hs.evo hv
    simp [e1, evp_ok hs hu]
   ·cases h
  ·cases h

theorem pBd {t : TypeId} {i : TyR} [hI : TyI P t i] {pl : List (Nat × Nat)} [hP : PlcI P t pl] {xs : List (Nat × Operand)} {vs : List (Nat × Value)} {cs : List Value}
  (hx : evp env xs = some vs) (hf : fillF (fun (j : Nat) => pl[j]?) i.zs vs = some cs) : PureOp P Γ ⟨env, hp, G⟩ (.build t ⟨xs⟩) ty (.agg ⟨cs⟩) := by
 refine ⟨fun a _ hs _ _ _ _ w => ?_⟩
 obtain ⟨inf, z, h1, h2, h3, _, g5, _⟩ := run_tyI (P := P) (t := t)
 obtain ⟨fs, f1, f2⟩ := hP.ok
 have hv := evp_ok hs hx
 have hfr := (fillF_run hf).1
 simp only [execOp, Instr.build, Sem.run_bind, h2, Result.andThen_ok, Sem.run_pure, run_underlying f1, f2 w]
 have e : ((⟨xs⟩ : Array (Nat × Operand)).map fun x => match x with | (i, x) => (i, a.eval x)).toList = vs := by simpa using hv
 rw [e, g5]
 have e2 : (fun (x : Nat) => (⟨pl⟩ : Array (Nat × Nat))[x]?) = (fun (x : Nat) => pl[x]?) := by funext x; simp
 rw [e2, hfr]
 rfl

/- Slices that are made. -/
theorem res_new_slc (w : World) (hin : IMin G w) (el sz n : Nat) (cs : List Value) (hl : cs.length = n * sz) (hm : n ≤ maxLen) :
  Res [] G w [.slc (some ⟨w.heap.size, 0, none⟩) n el sz n cs] G (w.alloc (.cells cs.toArray el)) := by
 have h := res_new w hin cs el
 have hb : (w.alloc (.cells cs.toArray el)).heap[w.heap.size]? = some (.cells cs.toArray el (0, 0)) := heap_alloc_new w _
 refine ⟨⟨h.own.inn, ?_, by simp [Fp, Ent.fp, vfp], ?_⟩, h.ext, h.le, h.fresh, ?_, fun b l h h0 => absurd h (by rw [h0]; simp)⟩
 ·intro x hx
  simp at hx; subst hx
  refine ⟨hl, .inr ⟨w.heap.size, n, cs.toArray, rfl, Nat.zero_le _, hb, Nat.le_refl _, hm, by simpa using hl, ?_⟩⟩
  simp [← hl]
 ·intro b hb'; exact h.own.disj b (by simpa [Fp, Ent.fp, vfp] using hb')
 ·intro b hb'; exact h.ofresh b (by simpa [Fp, Ent.fp, vfp] using hb')

/-- n copies of the zero cells. -/
def zrep (n : Nat) (zs : List Value) : List Value := match n with | 0 => [] | n + 1 => zs ++ zrep n zs
theorem zrep_len (n : Nat) (zs : List Value) : (zrep n zs).length = n * zs.length := by
 induction n with
 | zero => simp [zrep]
 | succ n ih => simp [zrep, ih, Nat.succ_mul, Nat.add_comm]
theorem zrep_get (zs : List Value) : ∀ (n i : Nat), i < n * zs.length → (zrep n zs)[i]? = zs[i % zs.length]?
 | 0, i, h => by simp at h
 | n + 1, i, h => by
  simp only [zrep, List.getElem?_append]
  split
  ·rename_i hi; rw [Nat.mod_eq_of_lt hi]
  ·rename_i hi
   rw [zrep_get zs n (i - zs.length) (by rw [Nat.succ_mul] at h; omega)]
   rw [Nat.mod_eq_sub_mod (a := i) (by omega)]
theorem zero_cells (z : Array Value) (zs : List Value) (hz : z = ⟨zs⟩) (n : Nat) : ((Array.range (n * zs.length)).map (z[· % z.size]!)) = ⟨zrep n zs⟩ := by
 subst hz
 apply Array.ext'
 simp only [Array.toList_map, Array.toList_range]
 apply List.ext_getElem?
 intro i
 by_cases hi : i < n * zs.length
 ·rw [zrep_get zs n i hi]
  have hpos : 0 < zs.length := by
   rcases Nat.eq_zero_or_pos zs.length with h | h
   ·rw [h] at hi; simp at hi
   ·exact h
  have hlt := Nat.mod_lt i hpos
  simp [hi, getElem!_def, hlt]
 ·simp [hi]
  have hl := zrep_len n zs
  omega

theorem run_newRow (el : TypeId) (cs : List Value) (w : World) : (newRow el ⟨cs⟩).run P w = .ok ⟨w.heap.size, 0, none⟩ (w.alloc (.cells cs.toArray el)) := by
 simp [newRow, newObj, Sem.run]

theorem step_slc {d : Nat} {op : Op} {el sz n : Nat} {cs : List Value} (hd : Nat.blt d Γ.n = true) (hl : cs.length = n * sz) (hm : n ≤ maxLen)
  (hrun : ∀ a w, St Γ ⟨env, hp, G⟩ a w → ∀ d pos af gd, (execOp a.eval ⟨d, op, ty, pos, af, gd⟩).run P w = .ok (.value (.slice (some ⟨w.heap.size, 0, none⟩) n n)) (w.alloc (.cells cs.toArray el))) :
  StepOp P Γ ⟨env, hp, G⟩ (some d) op ty [] (fun σ' => ∃ b, σ' = ⟨(d, .slice (some ⟨b, 0, none⟩) n n) :: env, .slc (some ⟨b, 0, none⟩) n el sz n cs :: hp, G⟩) := by
 refine ⟨fun a w hs pos af gd Q next hn => ?_⟩
 simp only [Oper.wp, hrun a w hs, Oper.upon]
 have hr' := res_new_slc w hs.res.own.inn el sz n cs hl hm
 exact hn _ _ _ (hs.step (ins := []) (rest := hp) (List.Perm.refl _) hr' (List.Perm.refl _) (d := some d) hd) hr'.ext ⟨w.heap.size, rfl⟩

theorem step_buildSlice {d : Nat} {t el : TypeId} {i : TyR} {sz by' : Nat} {zs : List Value} [hI : TyI P t i] (hd' : i.desc = .slice el) [hE : TySz P el sz by' zs] {n : Nat} {xs : List (Nat × Operand)} {vs : List (Nat × Value)} {cs : List Value}
  (hd : Nat.blt d Γ.n = true) (hx : evp env xs = some vs) (hn : n * sz ≤ 16777216) (hm : n ≤ maxLen)
  (hf : fillC (fun j => some (j * sz, sz)) (zrep n zs) vs = some cs) :
  StepOp P Γ ⟨env, hp, G⟩ (some d) (.buildSlice t n ⟨xs⟩) ty [] (fun σ' => ∃ b, σ' = ⟨(d, .slice (some ⟨b, 0, none⟩) n n) :: env, .slc (some ⟨b, 0, none⟩) n el sz n cs :: hp, G⟩) := by
 have hz := hE.len
 obtain ⟨_, hE⟩ := hE.ok
 replace hf := fillC_eq hf
 have hlen : cs.length = n * sz := by rw [(fillF_run hf).2, zrep_len, hz]
 refine step_slc hd hlen hm fun a w hs d pos af gd => ?_
 obtain ⟨inf, z, h1, h2, h3, _, g5, _⟩ := run_tyI (P := P) (t := el)
 have hu := hI.und
 rw [hd'] at hu
 have hv := evp_ok hs hx
 have e : ((⟨xs⟩ : Array (Nat × Operand)).map fun x => match x with | (i, x) => (i, a.eval x)).toList = vs := by simpa using hv
 have hfr := (fillF_run hf).1
 simp only [execOp, Instr.buildSlice, Sem.run_bind, run_underlying hu, Result.andThen_ok, h3, Sem.run_pure]
 rw [if_neg (by omega)]
 by_cases h0 : n * sz = 0
 ·have hz0 : zrep n zs = [] := List.eq_nil_of_length_eq_zero (by rw [zrep_len, hz, h0])
  rw [hz0] at hfr
  have er : ∀ f : Nat → Value, (Array.range 0).map f = (⟨[]⟩ : Array Value) := fun f => by simp
  simp only [h0, if_true, Sem.run_bind, Sem.run_pure, Result.andThen_ok, er]
  rw [e, hfr]
  simp only [Sem.run_bind, run_newRow, Result.andThen_ok, Sem.run_pure]
 ·have hc := zero_cells z.cells zs g5 n
  rw [hz] at hc
  simp only [h0, if_false, Sem.run_bind, Sem.run_pure, Result.andThen_ok, h2, hc]
  rw [e, hfr]
  simp only [Sem.run_bind, run_newRow, Result.andThen_ok, Sem.run_pure]

end mem

section rules2
variable {P : Program} {Γ : Ctx} {env : Env} {hp : List Ent} {G : IM} {ty : TypeId} {K : Po} {ops : Array Oper} {rest : List Oper}
variable {pos : String} {af : Array Edge} {gd : Option (Nat × Bool)}

theorem res_grown {w w' : World} {p p' : Option Addr} {c c' el sz n n' : Nat} {cs cs' : List Value} (hown : Own [.slc p c el sz n cs] G w)
  (h' : w'.ownsRow 0 el sz (.slice p' n' c') n' cs') (hg : w.grownBy w' ((Value.slice p n c).ownBlock)) (hnew : ∀ g, p' = some g → (∃ q, p = some q ∧ q.block = g.block) ∨ w.heap.size ≤ g.block) :
  Res [.slc p c el sz n cs] G w [.slc p' c' el sz n' cs'] G w' := by
 have hfp : ∀ b, b ∈ Fp [.slc p c el sz n cs] ↔ (Value.slice p n c).ownBlock = some b := by
  intro b
  cases p with
  | none => simp [Fp, Ent.fp, vfp, Value.ownBlock]
  | some q => simp [Fp, Ent.fp, vfp, Value.ownBlock, eq_comm]
 have hfp' : ∀ b, b ∈ Fp [.slc p' c' el sz n' cs'] ↔ ∃ g, p' = some g ∧ g.block = b := by
  intro b
  cases p' with
  | none => simp [Fp, Ent.fp, vfp]
  | some q => simp [Fp, Ent.fp, vfp, eq_comm]
 refine ⟨⟨?_, ?_, ?_, ?_⟩, ⟨hg.os, hg.tape, hg.output, hg.size, ?_⟩, IMle.refl _, fun _ _ h => .inl h, ?_, fun b l h h0 => absurd h (by rw [h0]; simp)⟩
 ·intro b l hb
  obtain ⟨e, f, h⟩ := hown.inn b l hb
  refine ⟨e, f, ?_⟩
  rw [hg.block b (lt_of_some h) ?_]
  ·exact h
  ·intro hb'
   have := hown.disj b ((hfp b).2 hb'.symm)
   rw [this] at hb; cases hb
 ·intro x hx
  simp at hx; subst hx; exact h'
 ·cases p' <;> simp [Fp, Ent.fp, vfp]
 ·intro b hb
  obtain ⟨g, hg1, hg2⟩ := (hfp' b).1 hb
  rcases hnew g hg1 with ⟨q, hq, hqb⟩ | hlt
  ·refine hown.disj b ((hfp b).2 ?_)
   subst hq
   simp [Value.ownBlock, hqb, hg2]
  ·cases hgb : G b with
   | none => rfl
   | some l => exact absurd (hown.inn.lt hgb) (by omega)
 ·intro k hk hkn
  exact hg.block k hk (fun e => hkn ((hfp k).2 e.symm))
 ·intro b hb
  obtain ⟨g, hg1, hg2⟩ := (hfp' b).1 hb
  rcases hnew g hg1 with ⟨q, hq, hqb⟩ | hlt
  ·right
   refine (hfp b).2 ?_
   subst hq
   simp [Value.ownBlock, hqb, hg2]
  ·left; omega

/-- append(dst, src...) onto an own slice, the source read wherever it lies. -/
theorem step_append {d : Nat} {x y : Operand} {t el : TypeId} {i : TyR} {sz by' : Nat} {zs : List Value} [hI : TyI P t i] (hd' : i.desc = .slice el) [hE : TySz P el sz by' zs] {p : Option Addr} {c n m b o c' : Nat} {cs news : List Value} {hp' : Option Addr → Nat → List Ent}
  (hd : Nat.blt d Γ.n = true) (hx : evo env x = some (.slice p n c)) (hy : evo env y = some (.slice (some ⟨b, o, none⟩) m c')) (hsz : Nat.blt 0 sz = true)
  (hm : ∀ p' c', Sw hp (.slc p c el sz n cs) (.slc p' c' el sz (n + m) (cs ++ news)) (hp' p' c'))
  (hs' : At hp G b o news) (hl : news.length = m * sz) (h1 : ∀ u ∈ news, u.oneCell' = true)
  (h63 : n + m ≤ maxLen) (hb : (n + m) * by' ≤ 140737488355328) :
  StepOp P Γ ⟨env, hp, G⟩ (some d) (.call ⟨.builtin .append, ⟨[x, y]⟩, ⟨[t, t]⟩⟩) ty (vfp p) (fun σ' => ∃ p' c', σ' = ⟨(d, .slice p' (n + m) c') :: env, hp' p' c', G⟩) := by
 refine ⟨fun a w hs pos af gd Q next hn => ?_⟩
 have hz := hE.len
 obtain ⟨_, hE⟩ := hE.ok
 obtain ⟨rest, q1, _⟩ := (hm none 0).perm
 have hown : Own [.slc p c el sz n cs] G w := hs.res.own.of_mem q1
 obtain ⟨inf, z, t1, t2, t3, t4, t5, t6, t7, t8⟩ := run_tyI (P := P) (t := el)
 have hu := hI.und
 rw [hd'] at hu
 obtain ⟨full, e, f, hfb, hfv⟩ := hs'.read hs
 have hnews : ∀ j u, news[j]? = some u → w.cell? ((⟨b, o, none⟩ : Addr).add j) = some u := fun j u hj => by rw [add_none]; simp [World.cell?, hfb, hfv j u hj]
 have hsz' : 0 < sz := by simpa using hsz
 have hrow := hown.ok _ List.mem_cons_self
 obtain ⟨v', w', hrun, hown', hgrow, _⟩ := run_append_own (P := P) w 0 t ty el inf z sz by' hu t6 t7 t8 t4 (by rw [t5]; exact hz) hsz' (.slice p n c) n cs hrow ⟨b, o, none⟩ m c' news hl hnews h1 h63 hb (Nat.zero_le _)
 have hv' : ∃ p' c', v' = .slice p' (n + m) c' := by
  rcases hown'.2 with ⟨hv, hn0⟩ | ⟨g, cap, cur, hv, _⟩
  ·exact ⟨none, 0, by rw [hv, hn0]⟩
  ·exact ⟨_, _, hv⟩
 obtain ⟨p', c'', rfl⟩ := hv'
 have hexec : (execOp a.eval ⟨some d, .call ⟨.builtin .append, ⟨[x, y]⟩, ⟨[t, t]⟩⟩, ty, pos, af, gd⟩).run P w = .ok (.value (.slice p' (n + m) c'')) w' := by
  simp only [execOp, resolve, invoke, builtin, Sem.run_bind, Sem.run_pure, Result.andThen_ok]
  have e1 : (⟨[x, y]⟩ : Array Operand).map a.eval = #[.slice p n c, .slice (some ⟨b, o, none⟩) m c'] := by
   simp [(hs.evo hx : a.eval x = _), (hs.evo hy : a.eval y = _)]
  rw [e1]
  have : (Builtin.append_ ⟨[t, t]⟩ ty #[.slice p n c, .slice (some ⟨b, o, none⟩) m c']).run P w = .ok (.slice p' (n + m) c'') w' := hrun
  rw [this]; rfl
 simp only [Oper.wp, hexec, Oper.upon]
 have hnew : ∀ g, p' = some g → (∃ q, p = some q ∧ q.block = g.block) ∨ w.heap.size ≤ g.block := by
  intro g hg
  subst hg
  rcases hrow.2 with ⟨hv, hn0⟩ | ⟨g0, cap, cur, hv, _, hg0, hnc, hcm, hcs, htake⟩
  ·right
   cases hv
   obtain ⟨v2, w2, hrun2, hown2, _⟩ := run_append_own (P := P) w w.heap.size t ty el inf z sz by' hu t6 t7 t8 t4 (by rw [t5]; exact hz) hsz' (.slice none 0 0) 0 [] (World.ownsRow_nil w _ el _) ⟨b, o, none⟩ m c' news hl hnews h1 (by omega) (by omega) (Nat.le_refl _)
   rw [hrun] at hrun2
   cases hrun2
   rcases hown2.2 with ⟨hv2, _⟩ | ⟨g2, _, _, hv2, hb2, _⟩
   ·cases hv2
   ·cases hv2; exact hb2
  ·cases hv
   have hcl : cs.length = n * sz := hrow.1
   by_cases hroom : n + m ≤ c
   ·left
    have hfit : n * inf.size + news.length ≤ cur.size := by rw [t8, hl, hcs, ← Nat.add_mul]; exact Nat.mul_le_mul_right _ hroom
    have hr := run_append_room (P := P) w t ty el inf hu t6 g0 n c cur hg0 ⟨b, o, none⟩ m c' news (by rw [t8]; exact hl) hnews h1 hroom hfit
    rw [hrun] at hr
    cases hr
    exact ⟨_, rfl, rfl⟩
   ·right
    have holds : ∀ j u, cs[j]? = some u → w.cell? ((⟨g0, 0, none⟩ : Addr).add j) = some u := hrow.cells (g := g0) rfl
    have hm63 : n + m ≤ 9223372036854775807 := by unfold maxLen at h63; omega
    have hr := run_append_grow (P := P) w t ty el inf z hu t6 t7 ⟨g0, 0, none⟩ n c cs (by rw [t8]; exact hcl) holds ⟨b, o, none⟩ m c' news (by rw [t8]; exact hl) hnews (by omega) (by omega) (by rw [t4]; exact growslice_fits (by omega) hb)
    rw [hrun] at hr
    cases hr
    exact Nat.le_refl _
 have hr := res_grown hown hown' hgrow hnew
 obtain ⟨rest, q1, q2⟩ := (hm p' c'').perm
 exact hn _ _ _ (hs.step q1 hr q2 (d := some d) hd) (by
  have := hr.ext
  simpa [Fp, Ent.fp] using this) ⟨p', c'', rfl⟩

/-- append(dst, src...) where the source is empty. -/
theorem pure_append0 {x y : Operand} {t el : TypeId} {i : TyR} [hI : TyI P t i] (hd' : i.desc = .slice el) {ie : TyR} [hE : TyI P el ie] {p q : Option Addr} {c n c' : Nat}
  (hx : evo env x = some (.slice p n c)) (hy : evo env y = some (.slice q 0 c')) (hc : n ≤ c) :
  PureOp P Γ ⟨env, hp, G⟩ (.call ⟨.builtin .append, ⟨[x, y]⟩, ⟨[t, t]⟩⟩) ty (.slice p n c) := by
 refine ⟨fun a _ hs _ _ _ _ w => ?_⟩
 have hu := hI.und
 rw [hd'] at hu
 obtain ⟨inf, z, t1, t2, t3, t4, t5, t6, t7, t8⟩ := run_tyI (P := P) (t := el)
 simp only [execOp, resolve, invoke, builtin, Sem.run_bind, Sem.run_pure, Result.andThen_ok]
 have e1 : (⟨[x, y]⟩ : Array Operand).map a.eval = #[.slice p n c, .slice q 0 c'] := by
  simp [(hs.evo hx : a.eval x = _), (hs.evo hy : a.eval y = _)]
 rw [e1]
 have hf : (Builtin.firstCells ie.size 0 (.slice q 0 c')).run P w = .ok #[] w := by
  cases q <;> simp [Builtin.firstCells, loadCells, loadCellsFrom]
 have : (Builtin.append_ ⟨[t, t]⟩ ty #[.slice p n c, .slice q 0 c']).run P w = .ok (.slice p n c) w := by
  simp only [Builtin.append_, show (⟨[t, t]⟩ : Array TypeId)[0]? = some t from rfl, show (⟨[t, t]⟩ : Array TypeId)[1]? = some t from rfl, show (#[Value.slice p n c, Value.slice q 0 c'] : Array Value)[0]? = some (Value.slice p n c) from rfl, show (#[Value.slice p n c, Value.slice q 0 c'] : Array Value)[1]? = some (Value.slice q 0 c') from rfl,
   Sem.run_bind, run_underlying hu, Result.andThen_ok, t3, Sem.run_pure, Builtin.lenOf, Bool.not_false, if_true, Nat.add_zero, hc, hf, Bool.false_eq_true, if_false]
  cases p <;> simp [hf, storeCells]
 rw [this]; rfl

/- Opening an own slice: where it has elements, it lies at the head of a block. -/
/-- A slice in blocks that no longer change. -/
def Sl (G : IM) (p : Option Addr) (n c sz : Nat) (cs : List Value) : Prop :=
 cs.length = n * sz ∧ n ≤ c ∧ c ≤ maxLen ∧ (n = 0 ∨ ∃ b o full, p = some ⟨b, o, none⟩ ∧ G b = some full ∧ ∀ j v, cs[j]? = some v → full[o + j]? = some v)
theorem Sl.mono {G G' : IM} {p : Option Addr} {n c sz : Nat} {cs : List Value} (h : Sl G p n c sz cs) (hg : IMle G G') : Sl G' p n c sz cs := by
 obtain ⟨h1, h2, h3, h4⟩ := h
 refine ⟨h1, h2, h3, h4.imp id ?_⟩
 rintro ⟨b, o, full, e1, e2, e3⟩
 exact ⟨b, o, full, e1, hg b full e2, e3⟩
theorem Sl.nil (G : IM) (sz : Nat) : Sl G none 0 0 sz [] := ⟨by simp, Nat.le_refl _, Nat.zero_le _, .inl rfl⟩

/-- Giving up an own slice. -/
theorem res_freeze {w : World} {p : Option Addr} {c el sz n : Nat} {cs : List Value} (hown : Own [.slc p c el sz n cs] G w) :
  ∃ G', Res [.slc p c el sz n cs] G w [] G' w ∧ Sl G' p n c sz cs ∧ ∀ b ∈ vfp p, G b = none ∧ G' b ≠ none := by
 obtain ⟨hl, h⟩ := hown.ok _ List.mem_cons_self
 rcases h with ⟨hv, hn⟩ | ⟨g, cap, cur, hv, _, hg, hnc, hcm, hcs, ht⟩
 ·cases hv
  exact ⟨G, ⟨⟨hown.inn, by simp, by simp [Fp], by simp [Fp]⟩, Ext.refl _ _, IMle.refl _, fun _ _ h => .inl h, by simp [Fp], fun b l h h0 => absurd h (by rw [h0]; simp)⟩, ⟨hl, Nat.le_refl _, Nat.zero_le _, .inl rfl⟩, by simp [vfp]⟩
 ·cases hv
  have hG : G g = none := hown.disj g (by simp [Fp, Ent.fp, vfp])
  refine ⟨fun b => if b = g then some cur.toList else G b, ⟨⟨?_, by simp, by simp [Fp], by simp [Fp]⟩, Ext.refl _ _, ?_, ?_, by simp [Fp], ?_⟩, ⟨hl, hnc, hcm, ?_⟩, by simp [vfp, hG]⟩
  ·intro b l hb
   replace hb : (if b = g then some cur.toList else G b) = some l := hb
   split at hb
   ·rename_i he; subst he; simp at hb; subst hb; exact ⟨el, (0, 0), by simpa using hg⟩
   ·exact hown.inn b l hb
  ·intro b l hb
   show (if b = g then some cur.toList else G b) = some l
   rw [if_neg]
   ·exact hb
   ·rintro rfl; rw [hG] at hb; cases hb
  ·intro b l hb
   replace hb : (if b = g then some cur.toList else G b) = some l := hb
   split at hb
   ·rename_i he; subst he; exact .inr (.inr (by simp [Fp, Ent.fp, vfp]))
   ·exact .inl hb
  ·intro b l hb h0
   replace hb : (if b = g then some cur.toList else G b) = some l := hb
   split at hb
   ·rename_i he; subst he; simp at hb; subst hb; exact ⟨el, by simpa using hg⟩
   ·rw [h0] at hb; cases hb
  ·rcases Nat.eq_zero_or_pos n with h0 | h0
   ·exact .inl h0
   ·refine .inr ⟨g, 0, cur.toList, rfl, by simp, fun j v hj => ?_⟩
    rw [← ht, List.getElem?_take] at hj
    split at hj
    ·simpa using hj
    ·cases hj

/-- Nothing is an empty slice of one's own. -/
theorem St.nil_slc {a : Act} {w : World} (hs : St Γ ⟨env, hp, G⟩ a w) (el sz : Nat) : St Γ ⟨env, .slc none 0 el sz 0 [] :: hp, G⟩ a w := by
 refine ⟨hs.size, hs.nod, hs.env, ⟨⟨hs.res.own.inn, ?_, ?_, ?_⟩, hs.res.ext, hs.res.le, hs.res.fresh, ?_, hs.res.fz⟩⟩
 ·intro e he
  rcases List.mem_cons.1 he with rfl | he
  ·exact World.ownsRow_nil w 0 el sz
  ·exact hs.res.own.ok e he
 ·simpa [Fp, Ent.fp, vfp] using hs.res.own.nodup
 ·intro b hb; exact hs.res.own.disj b (by simpa [Fp, Ent.fp, vfp] using hb)
 ·intro b hb; exact hs.res.ofresh b (by simpa [Fp, Ent.fp, vfp] using hb)
theorem tri_nil {cd : Code} (el sz : Nat) (h : Tri P Γ cd K ⟨env, .slc none 0 el sz 0 [] :: hp, G⟩) : Tri P Γ cd K ⟨env, hp, G⟩ := ⟨fun a w hs => h.run a w (hs.nil_slc el sz)⟩
inductive Pk : List Ent → Ent → List Ent → Prop
 | here {e : Ent} {r : List Ent} : Pk (e :: r) e r
 | there {x e : Ent} {r r' : List Ent} : Pk r e r' → Pk (x :: r) e (x :: r')
theorem Pk.perm {hp hp' : List Ent} {e : Ent} (h : Pk hp e hp') : hp.Perm ([e] ++ hp') := by
 induction h with
 | here => exact List.Perm.refl _
 | there _ ih => exact (ih.cons _).trans (List.Perm.swap _ _ _)

theorem St.freeze {a : Act} {w : World} {hp' : List Ent} {p : Option Addr} {c el sz n : Nat} {cs : List Value} (hs : St Γ ⟨env, hp, G⟩ a w) (hk : Pk hp (.slc p c el sz n cs) hp') :
  ∃ G', St Γ ⟨env, hp', G'⟩ a w ∧ IMle G G' ∧ Sl G' p n c sz cs ∧ ∀ b ∈ vfp p, G b = none ∧ G' b ≠ none := by
 have hown : Own [.slc p c el sz n cs] G w := hs.res.own.of_mem hk.perm
 obtain ⟨G', hr, hsl, hno⟩ := res_freeze hown
 exact ⟨G', ⟨hs.size, hs.nod, hs.env, by have := (hs.res.perm hk.perm).frame hr; simpa using this⟩, hr.le, hsl, hno⟩

theorem tri_freeze {cd : Code} {hp' : List Ent} {p : Option Addr} {c el sz n : Nat} {cs : List Value} (hk : Pk hp (.slc p c el sz n cs) hp')
  (h : ∀ G', IMle G G' → Sl G' p n c sz cs → (∀ b ∈ vfp p, G b = none ∧ G' b ≠ none) → Tri P Γ cd K ⟨env, hp', G'⟩) : Tri P Γ cd K ⟨env, hp, G⟩ :=
 ⟨fun a w hs => let ⟨G', h1, h2, h3, h4⟩ := hs.freeze hk; (h G' h2 h3 h4).run a w h1⟩
theorem ret_freeze {hp' : List Ent} {p : Option Addr} {c el sz n : Nat} {cs : List Value} (hk : Pk hp (.slc p c el sz n cs) hp')
  (h : ∀ G', IMle G G' → Sl G' p n c sz cs → (∀ b ∈ vfp p, G b = none ∧ G' b ≠ none) → Tri P Γ .ret K ⟨env, hp', G'⟩) : Tri P Γ .ret K ⟨env, hp, G⟩ := tri_freeze hk h
theorem triL_freeze {hp' : List Ent} {p : Option Addr} {c el sz n : Nat} {cs : List Value} (hk : Pk hp (.slc p c el sz n cs) hp')
  (h : ∀ G', IMle G G' → Sl G' p n c sz cs → (∀ b ∈ vfp p, G b = none ∧ G' b ≠ none) → TriL P Γ ops rest K ⟨env, hp', G'⟩) : TriL P Γ ops rest K ⟨env, hp, G⟩ :=
 ⟨fun a w hs => let ⟨G', h1, h2, h3, h4⟩ := hs.freeze hk; (h G' h2 h3 h4).run a w h1⟩
theorem any_freeze {H : List (Nat × Nat)} {fuel : Nat} {listed : List Bool} {hp' : List Ent} {p : Option Addr} {c el sz n : Nat} {cs : List Value} (hk : Pk hp (.slc p c el sz n cs) hp')
  (h : ∀ G', IMle G G' → Sl G' p n c sz cs → (∀ b ∈ vfp p, G b = none ∧ G' b ≠ none) → AnyL P Γ ops K H fuel listed ⟨env, hp', G'⟩) : AnyL P Γ ops K H fuel listed ⟨env, hp, G⟩ :=
 ⟨fun a w hs => let ⟨G', h1, h2, h3, h4⟩ := hs.freeze hk; (h G' h2 h3 h4).run a w h1⟩

/- Calls by their posts. -/
/-- The call gives just this value and changes nothing. -/
def Val (v0 : Value) (G : IM) : IM → Value → List Ent → Prop := fun G' v outs => G' = G ∧ v = v0 ∧ outs = []
/-- The call gives a value of which this holds, in memory that no longer changes. -/
def Imm (Φ : IM → Value → Prop) : IM → Value → List Ent → Prop := fun G' v outs => outs = [] ∧ Φ G' v

theorem seq_val {d : Nat} {f : FuncId} [hF : FunI P f] {xs : List Operand} {ats : Array TypeId} {vs : List Value} {v0 : Value}
  (hx : evl env xs = some vs) (h : Fn P f vs [] G (Val v0 G)) (hw : wantG ops env gd = some true) (hd : Nat.blt d Γ.n = true)
  (k : TriL P Γ ops rest K ⟨(d, v0) :: env, hp, G⟩) : TriL P Γ ops (⟨some d, .call ⟨.value (.func f), ⟨xs⟩, ats⟩, ty, pos, af, gd⟩ :: rest) K ⟨env, hp, G⟩ :=
 seq_step (step_call hx h hd) hw (by rintro _ ⟨v, G', outs, rfl, _, rfl, rfl, rfl⟩; exact k)
theorem seq_valb {d : Nat} {f : FuncId} [hF : FunI P f] {xs : List Operand} {ats : Array TypeId} {vs : List Value} {b : Bool}
  (hx : evl env xs = some vs) (h : Fn P f vs [] G (Val (.bool b) G)) (hw : wantG ops env gd = some true) (hd : Nat.blt d Γ.n = true)
  (kt : b = true → TriL P Γ ops rest K ⟨(d, .bool true) :: env, hp, G⟩) (kf : b = false → TriL P Γ ops rest K ⟨(d, .bool false) :: env, hp, G⟩) :
  TriL P Γ ops (⟨some d, .call ⟨.value (.func f), ⟨xs⟩, ats⟩, ty, pos, af, gd⟩ :: rest) K ⟨env, hp, G⟩ := by
 cases b
 ·exact seq_val hx h hw hd (kf rfl)
 ·exact seq_val hx h hw hd (kt rfl)
theorem seq_imm {d : Nat} {f : FuncId} [hF : FunI P f] {xs : List Operand} {ats : Array TypeId} {vs : List Value} {Φ : IM → Value → Prop}
  (hx : evl env xs = some vs) (h : Fn P f vs [] G (Imm Φ)) (hw : wantG ops env gd = some true) (hd : Nat.blt d Γ.n = true)
  (k : ∀ v G', IMle G G' → Φ G' v → TriL P Γ ops rest K ⟨(d, v) :: env, hp, G'⟩) : TriL P Γ ops (⟨some d, .call ⟨.value (.func f), ⟨xs⟩, ats⟩, ty, pos, af, gd⟩ :: rest) K ⟨env, hp, G⟩ :=
 seq_step (step_call hx h hd) hw (by rintro _ ⟨v, G', outs, rfl, hle, rfl, hΦ⟩; exact k v G' hle hΦ)
theorem seq_own {d : Nat} {f : FuncId} [hF : FunI P f] {xs : List Operand} {ats : Array TypeId} {vs : List Value} {post : IM → Value → List Ent → Prop}
  (hx : evl env xs = some vs) (h : Fn P f vs [] G post) (hw : wantG ops env gd = some true) (hd : Nat.blt d Γ.n = true)
  (k : ∀ v G' outs, IMle G G' → post G' v outs → TriL P Γ ops rest K ⟨(d, v) :: env, outs ++ hp, G'⟩) : TriL P Γ ops (⟨some d, .call ⟨.value (.func f), ⟨xs⟩, ats⟩, ty, pos, af, gd⟩ :: rest) K ⟨env, hp, G⟩ :=
 seq_step (step_call hx h hd) hw (by rintro _ ⟨v, G', outs, rfl, hle, hp⟩; exact k v G' outs hle hp)
theorem seq_vval {d : Nat} {f : FuncId} [hF : FunI P f] {g : Operand} {xs : List Operand} {ats : Array TypeId} {vs us cs : List Value} {v0 : Value}
  (hg : evo env g = some (.func (.func f) ⟨us⟩ ⟨cs⟩)) (hx : evl env xs = some vs) (h : Fn P f (us ++ vs ++ cs) [] G (Val v0 G)) (hw : wantG ops env gd = some true) (hd : Nat.blt d Γ.n = true)
  (k : TriL P Γ ops rest K ⟨(d, v0) :: env, hp, G⟩) : TriL P Γ ops (⟨some d, .call ⟨.value g, ⟨xs⟩, ats⟩, ty, pos, af, gd⟩ :: rest) K ⟨env, hp, G⟩ :=
 seq_step (step_callv hg hx h (List.Perm.refl _) hd) hw (by rintro _ ⟨v, G', outs, rfl, _, rfl, rfl, rfl⟩; exact k)
/-- The call gives just this value and hands back what it was lent. -/
def ValO (v0 : Value) (ins : List Ent) (G : IM) : IM → Value → List Ent → Prop := fun G' v outs => G' = G ∧ v = v0 ∧ outs = ins
theorem triL_perm {hp' : List Ent} (p : hp.Perm hp') (k : TriL P Γ ops rest K ⟨env, hp', G⟩) : TriL P Γ ops rest K ⟨env, hp, G⟩ :=
 ⟨fun a w hs => k.run a w ⟨hs.size, hs.nod, hs.env, hs.res.perm p⟩⟩
theorem seq_valo {d : Nat} {f : FuncId} [hF : FunI P f] {xs : List Operand} {ats : Array TypeId} {vs : List Value} {v0 : Value} {ins rst : List Ent}
  (hx : evl env xs = some vs) (h : Fn P f vs ins G (ValO v0 ins G)) (hp' : hp.Perm (ins ++ rst)) (hw : wantG ops env gd = some true) (hd : Nat.blt d Γ.n = true)
  (k : TriL P Γ ops rest K ⟨(d, v0) :: env, hp, G⟩) : TriL P Γ ops (⟨some d, .call ⟨.value (.func f), ⟨xs⟩, ats⟩, ty, pos, af, gd⟩ :: rest) K ⟨env, hp, G⟩ :=
 seq_step (step_call_own hx h hp' hd) hw (by rintro _ ⟨v, G', outs, rfl, _, rfl, rfl, rfl⟩; exact triL_perm hp'.symm k)
theorem seq_vvalo {d : Nat} {f : FuncId} [hF : FunI P f] {g : Operand} {xs : List Operand} {ats : Array TypeId} {vs us cs : List Value} {v0 : Value} {ins rst : List Ent}
  (hg : evo env g = some (.func (.func f) ⟨us⟩ ⟨cs⟩)) (hx : evl env xs = some vs) (h : Fn P f (us ++ vs ++ cs) ins G (ValO v0 ins G)) (hp' : hp.Perm (ins ++ rst)) (hw : wantG ops env gd = some true) (hd : Nat.blt d Γ.n = true)
  (k : TriL P Γ ops rest K ⟨(d, v0) :: env, hp, G⟩) : TriL P Γ ops (⟨some d, .call ⟨.value g, ⟨xs⟩, ats⟩, ty, pos, af, gd⟩ :: rest) K ⟨env, hp, G⟩ :=
 seq_step (step_callv hg hx h hp' hd) hw (by rintro _ ⟨v, G', outs, rfl, _, rfl, rfl, rfl⟩; exact triL_perm hp'.symm k)
theorem seq_valbo {d : Nat} {f : FuncId} [hF : FunI P f] {xs : List Operand} {ats : Array TypeId} {vs : List Value} {b : Bool} {ins rst : List Ent}
  (hx : evl env xs = some vs) (h : Fn P f vs ins G (ValO (.bool b) ins G)) (hp' : hp.Perm (ins ++ rst)) (hw : wantG ops env gd = some true) (hd : Nat.blt d Γ.n = true)
  (kt : b = true → TriL P Γ ops rest K ⟨(d, .bool true) :: env, hp, G⟩) (kf : b = false → TriL P Γ ops rest K ⟨(d, .bool false) :: env, hp, G⟩) :
  TriL P Γ ops (⟨some d, .call ⟨.value (.func f), ⟨xs⟩, ats⟩, ty, pos, af, gd⟩ :: rest) K ⟨env, hp, G⟩ := by
 cases b
 ·exact seq_valo hx h hp' hw hd (kf rfl)
 ·exact seq_valo hx h hp' hw hd (kt rfl)
theorem seq_vvalbo {d : Nat} {f : FuncId} [hF : FunI P f] {g : Operand} {xs : List Operand} {ats : Array TypeId} {vs us cs : List Value} {b : Bool} {ins rst : List Ent}
  (hg : evo env g = some (.func (.func f) ⟨us⟩ ⟨cs⟩)) (hx : evl env xs = some vs) (h : Fn P f (us ++ vs ++ cs) ins G (ValO (.bool b) ins G)) (hp' : hp.Perm (ins ++ rst)) (hw : wantG ops env gd = some true) (hd : Nat.blt d Γ.n = true)
  (kt : b = true → TriL P Γ ops rest K ⟨(d, .bool true) :: env, hp, G⟩) (kf : b = false → TriL P Γ ops rest K ⟨(d, .bool false) :: env, hp, G⟩) :
  TriL P Γ ops (⟨some d, .call ⟨.value g, ⟨xs⟩, ats⟩, ty, pos, af, gd⟩ :: rest) K ⟨env, hp, G⟩ := by
 cases b
 ·exact seq_vvalo hg hx h hp' hw hd (kf rfl)
 ·exact seq_vvalo hg hx h hp' hw hd (kt rfl)

/-- The call changes what the callee was handed. -/
theorem seq_valx {d : Nat} {f : FuncId} [hF : FunI P f] {xs : List Operand} {ats : Array TypeId} {vs : List Value} {v0 : Value} {ins outs rst : List Ent}
  (hx : evl env xs = some vs) (h : Fn P f vs ins G (ValO v0 outs G)) (hp' : hp.Perm (ins ++ rst)) (hw : wantG ops env gd = some true) (hd : Nat.blt d Γ.n = true)
  (k : TriL P Γ ops rest K ⟨(d, v0) :: env, outs ++ rst, G⟩) : TriL P Γ ops (⟨some d, .call ⟨.value (.func f), ⟨xs⟩, ats⟩, ty, pos, af, gd⟩ :: rest) K ⟨env, hp, G⟩ :=
 seq_step (step_call_own hx h hp' hd) hw (by rintro _ ⟨v, G', outs, rfl, _, rfl, rfl, rfl⟩; exact k)
theorem seq_valbx {d : Nat} {f : FuncId} [hF : FunI P f] {xs : List Operand} {ats : Array TypeId} {vs : List Value} {b : Bool} {ins outs rst : List Ent}
  (hx : evl env xs = some vs) (h : Fn P f vs ins G (ValO (.bool b) outs G)) (hp' : hp.Perm (ins ++ rst)) (hw : wantG ops env gd = some true) (hd : Nat.blt d Γ.n = true)
  (kt : b = true → TriL P Γ ops rest K ⟨(d, .bool true) :: env, outs ++ rst, G⟩) (kf : b = false → TriL P Γ ops rest K ⟨(d, .bool false) :: env, outs ++ rst, G⟩) :
  TriL P Γ ops (⟨some d, .call ⟨.value (.func f), ⟨xs⟩, ats⟩, ty, pos, af, gd⟩ :: rest) K ⟨env, hp, G⟩ := by
 cases b
 ·exact seq_valx hx h hp' hw hd (kf rfl)
 ·exact seq_valx hx h hp' hw hd (kt rfl)
theorem perm_two {a b : Ent} {r : List Ent} : (a :: b :: r).Perm (r ++ [a, b]) := List.perm_append_comm (l₁ := [a, b])
theorem perm_all : hp.Perm (hp ++ []) := by simp
/- What a state may forget. -/
inductive SubE (e : Env) : Env → Prop
 | nil : SubE e []
 | cons {t : Nat} {v : Value} {e' : Env} : look e t = some v → SubE e e' → SubE e ((t, v) :: e')
inductive SubH : List Ent → List Ent → Prop
 | nil {h : List Ent} : SubH h []
 | refl {h : List Ent} : SubH h h
 | cons {h h' r : List Ent} {e : Ent} : Pk h e r → SubH r h' → SubH h (e :: h')
 | drop {x : Ent} {h h' : List Ent} : SubH h h' → SubH (x :: h) h'
theorem SubE.spec {e e' : Env} (h : SubE e e') : ∀ t v, look e' t = some v → look e t = some v := by
 induction h with
 | nil => intro t v h; simp [look] at h
 | @cons t0 v0 e' h0 _ ih =>
  intro t v h
  rw [look_cons] at h
  split at h
  ·rename_i he; subst he; simp at h; subst h; exact h0
  ·exact ih t v h
theorem SubH.spec {h h' : List Ent} (hs : SubH h h') : ∃ r, h.Perm (h' ++ r) := by
 induction hs with
 | @nil h => exact ⟨h, List.Perm.refl _⟩
 | @refl h => exact ⟨[], by simp⟩
 | @cons h h' r e hk _ ih =>
  obtain ⟨r', hr'⟩ := ih
  exact ⟨r', hk.perm.trans (by simpa using hr'.cons e)⟩
 | @drop x h h' _ ih =>
  obtain ⟨r', hr'⟩ := ih
  exact ⟨x :: r', (hr'.cons x).trans List.perm_middle.symm⟩
theorem flat_snoc (es : List (List Value)) (a : List Value) : (es ++ [a]).flatten = es.flatten ++ a := by simp
theorem sub_mk {e' : Env} {hp' : List Ent} (h : SubE env e') (h2 : SubH hp hp') : Sub ⟨env, hp, G⟩ ⟨e', hp', G⟩ := ⟨h.spec, h2.spec, rfl⟩

theorem sMk {e' : Env} {hp' : List Ent} (h : SubE env e' := by repeat (first | exact SubE.nil | refine SubE.cons rfl ?_)) (h2 : SubH hp hp' := by repeat (first | exact SubH.refl | exact SubH.nil | refine SubH.cons (by repeat (first | exact Pk.here | apply Pk.there)) ?_ | apply SubH.drop)) : Sub ⟨env, hp, G⟩ ⟨e', hp', G⟩ := sub_mk h h2
theorem rF1 {r : ResultVar} {post : IM → Value → List Ent → Prop} {v : Value} (h : ResOne P Γ ⟨env, hp, G⟩ r v) (hk : post G v []) :
  retK P Γ [r] post .ret ⟨env, hp, G⟩ := ret_fin0 (.cons h .nil) hk
theorem rF2 {r r2 : ResultVar} {post : IM → Value → List Ent → Prop} {v v2 : Value} (h : ResOne P Γ ⟨env, hp, G⟩ r v) (h2 : ResOne P Γ ⟨env, hp, G⟩ r2 v2) (hk : post G (.tuple ⟨[v, v2]⟩) []) :
  retK P Γ [r, r2] post .ret ⟨env, hp, G⟩ := ret_fin0 (.cons h (.cons h2 .nil)) hk
theorem rF3 {r r2 r3 : ResultVar} {post : IM → Value → List Ent → Prop} {v v2 v3 : Value} (h : ResOne P Γ ⟨env, hp, G⟩ r v) (h2 : ResOne P Γ ⟨env, hp, G⟩ r2 v2) (h3 : ResOne P Γ ⟨env, hp, G⟩ r3 v3) (hk : post G (.tuple ⟨[v, v2, v3]⟩) []) :
  retK P Γ [r, r2, r3] post .ret ⟨env, hp, G⟩ := ret_fin0 (.cons h (.cons h2 (.cons h3 .nil))) hk
theorem ret_own1 {r : ResultVar} {post : IM → Value → List Ent → Prop} {v : Value} {outs : List Ent} (h : ResOne P Γ ⟨env, hp, G⟩ r v) (ho : SubH hp outs) (hk : post G v outs) :
  retK P Γ [r] post .ret ⟨env, hp, G⟩ := ret_fin (.cons h .nil) ho.spec hk
/- A region's drawn order, one operation after the other. -/
theorem one_step0 {H : List (Nat × Nat)} {fuel : Nat} {listed l' : List Bool} {j : Nat} {d : Option Nat} {op : Op} {K' : Sy → Prop} {σ : Sy} (hi : ops[j]? = some ⟨d, op, ty, pos, af, gd⟩)
  (h : StepOp P Γ σ d op ty [] K') (hw : wantG ops σ.env gd = some true) (hl : listed.set j true = l')
  (k : ∀ σ', K' σ' → AnyL P Γ ops K H fuel l' σ') : One P Γ ops K H fuel listed j σ := by
 refine ⟨fun a w hs Hs hHs hall hdc hrd => ?_⟩
 unfold wpOp
 simp only [hi, wantG_ok hs.env hw, if_true]
 refine .inl (h.run a w hs pos af gd _ _ fun a' w' σ' h1 h2 h3 => ?_)
 have hkeep : ∀ h ∈ Hs, w'.heap[h.b]? = some h.o := fun x hx => by rw [h2.block x.b (lt_of_some (hall x hx)) (by simp), hall x hx]
 have hn : ∀ h ∈ Hn ops j Hs, w'.heap[h.b]? = some h.o := fun x hx => hkeep x (List.mem_filter.1 hx).1
 refine ⟨hn, ?_⟩
 have := (k σ' h3).run a' w' h1 Hs hHs hkeep (by rw [← hl]; simpa using hdc.step hrd)
 rw [← hl] at this
 exact wpG_drop _ (fun x hx => (List.mem_filter.1 hx).1) _ _ _ (by simpa using this)

/-- A step that writes blocks of the call's own, none of them read by a load that was taken first, or every such load waited for. -/
theorem one_stepM {H H' : List (Nat × Nat)} {fuel : Nat} {listed l' : List Bool} {j : Nat} {d : Option Nat} {op : Op} {mods : List Nat} {K' : Sy → Prop} {σ : Sy} (hi : ops[j]? = some ⟨d, op, ty, pos, af, gd⟩)
  (h : StepOp P Γ σ d op ty mods K') (hw : wantG ops σ.env gd = some true) (hl : listed.set j true = l')
  (hm : ∀ a w, St Γ σ a w → ∀ p ∈ H, depb ops j p.1 = true ∨ p.2 ∉ mods) (hH : H.filter (fun p => !depb ops j p.1) = H')
  (k : ∀ σ', K' σ' → AnyL P Γ ops K H' fuel l' σ') : One P Γ ops K H fuel listed j σ := by
 refine ⟨fun a w hs Hs hHs hall hdc hrd => ?_⟩
 exact (one_step (listed := listed) hi h hw hl (hm a w hs) (fun σ' hσ => by rw [hH]; exact k σ' hσ)).run a w hs Hs hHs hall hdc hrd
/-- Every load that was taken first is waited for. -/
theorem one_stepD {H : List (Nat × Nat)} {fuel : Nat} {listed l' : List Bool} {j : Nat} {d : Option Nat} {op : Op} {mods : List Nat} {K' : Sy → Prop} {σ : Sy} (hi : ops[j]? = some ⟨d, op, ty, pos, af, gd⟩)
  (h : StepOp P Γ σ d op ty mods K') (hw : wantG ops σ.env gd = some true) (hl : listed.set j true = l')
  (hm : ((H.map Prod.fst).all fun i => depb ops j i) = true)
  (k : ∀ σ', K' σ' → AnyL P Γ ops K [] fuel l' σ') : One P Γ ops K H fuel listed j σ := by
 have hm' : ∀ p ∈ H, depb ops j p.1 = true := fun p hp => List.all_eq_true.1 hm p.1 (List.mem_map.2 ⟨p, hp, rfl⟩)
 refine one_stepM hi h hw hl (fun _ _ _ p hp => .inl (hm' p hp)) ?_ k
 rw [List.filter_eq_nil_iff]
 intro p hp
 simp [hm' p hp]

inductive HmOk (ops : Array Oper) (j : Nat) (hp : List Ent) (G : IM) (e : Ent) : List (Nat × Nat) → List (Nat × Nat) → Prop
 | nil : HmOk ops j hp G e [] []
 | dep {i b : Nat} {r r' : List (Nat × Nat)} : depb ops j i = true → HmOk ops j hp G e r r' → HmOk ops j hp G e ((i, b) :: r) r'
 | blk {i b : Nat} {cs : List Value} {rest : List Ent} {r r' : List (Nat × Nat)} : depb ops j i = false → Pk hp e rest → Ent.blk b cs ∈ rest → HmOk ops j hp G e r r' → HmOk ops j hp G e ((i, b) :: r) ((i, b) :: r')
 | slc {i b c el sz n : Nat} {cs : List Value} {rest : List Ent} {r r' : List (Nat × Nat)} : depb ops j i = false → Pk hp e rest → Ent.slc (some ⟨b, 0, none⟩) c el sz n cs ∈ rest → HmOk ops j hp G e r r' → HmOk ops j hp G e ((i, b) :: r) ((i, b) :: r')
 | im {i b : Nat} {r r' : List (Nat × Nat)} : depb ops j i = false → G b ≠ none → e ∈ hp → HmOk ops j hp G e r r' → HmOk ops j hp G e ((i, b) :: r) ((i, b) :: r')
theorem HmOk.filter {j : Nat} {e : Ent} {H H' : List (Nat × Nat)} (h : HmOk ops j hp G e H H') : H.filter (fun p => !depb ops j p.1) = H' := by
 induction h with
 | nil => rfl
 | dep hd _ ih => simp [hd, ih]
 | blk hd _ _ _ ih => simp [hd, ih]
 | slc hd _ _ _ ih => simp [hd, ih]
 | im hd _ _ _ ih => simp [hd, ih]

theorem HmOk.spec {j : Nat} {e : Ent} {H H' : List (Nat × Nat)} (h : HmOk ops j hp G e H H') {a : Act} {w : World} (hs : St Γ ⟨env, hp, G⟩ a w) : ∀ p ∈ H, depb ops j p.1 = true ∨ p.2 ∉ e.fp := by
 have other : ∀ {rest : List Ent} {x : Ent}, Pk hp e rest → x ∈ rest → ∀ b ∈ x.fp, b ∉ e.fp := by
  intro rest x hk hx b hb hbe
  have := (hs.res.own.perm hk.perm).nodup
  rw [Fp_append, List.nodup_append] at this
  exact this.2.2 b (by simpa [Fp] using hbe) b (mem_Fp.2 ⟨x, hx, hb⟩) rfl
 induction h with
 | nil => simp
 | dep hd _ ih =>
  intro p hp'
  rcases List.mem_cons.1 hp' with rfl | hp'
  ·exact .inl hd
  ·exact ih p hp'
 | blk _ hk hm _ ih =>
  intro p hp'
  rcases List.mem_cons.1 hp' with rfl | hp'
  ·exact .inr (other hk hm _ (by simp [Ent.fp]))
  ·exact ih p hp'
 | slc _ hk hm _ ih =>
  intro p hp'
  rcases List.mem_cons.1 hp' with rfl | hp'
  ·exact .inr (other hk hm _ (by simp [Ent.fp, vfp]))
  ·exact ih p hp'
 | im _ hg hm _ ih =>
  intro p hp'
  rcases List.mem_cons.1 hp' with rfl | hp'
  ·refine .inr fun hbe => ?_
   exact hg (hs.res.own.disj _ (mem_Fp.2 ⟨e, hm, hbe⟩))
  ·exact ih p hp'


section ones
variable {H : List (Nat × Nat)} {fuel : Nat} {listed l' : List Bool} {j d : Nat} {f : FuncId} {xs : List Operand} {ats : Array TypeId} {vs us cs : List Value} {v0 : Value} {b : Bool} {ins rst : List Ent} {g : Operand}
theorem one_val [hF : FunI P f] (hi : ops[j]? = some ⟨some d, .call ⟨.value (.func f), ⟨xs⟩, ats⟩, ty, pos, af, gd⟩) (hx : evl env xs = some vs) (h : Fn P f vs [] G (Val v0 G)) (hw : wantG ops env gd = some true) (hd : Nat.blt d Γ.n = true) (hl : listed.set j true = l')
  (k : AnyL P Γ ops K H fuel l' ⟨(d, v0) :: env, hp, G⟩) : One P Γ ops K H fuel listed j ⟨env, hp, G⟩ :=
 one_step0 hi (step_call hx h hd) hw hl (by rintro _ ⟨v, G', outs, rfl, _, rfl, rfl, rfl⟩; exact k)
theorem one_valb [hF : FunI P f] (hi : ops[j]? = some ⟨some d, .call ⟨.value (.func f), ⟨xs⟩, ats⟩, ty, pos, af, gd⟩) (hx : evl env xs = some vs) (h : Fn P f vs [] G (Val (.bool b) G)) (hw : wantG ops env gd = some true) (hd : Nat.blt d Γ.n = true) (hl : listed.set j true = l')
  (kt : b = true → AnyL P Γ ops K H fuel l' ⟨(d, .bool true) :: env, hp, G⟩) (kf : b = false → AnyL P Γ ops K H fuel l' ⟨(d, .bool false) :: env, hp, G⟩) : One P Γ ops K H fuel listed j ⟨env, hp, G⟩ := by
 cases b
 ·exact one_val hi hx h hw hd hl (kf rfl)
 ·exact one_val hi hx h hw hd hl (kt rfl)
theorem one_imm [hF : FunI P f] {Φ : IM → Value → Prop} (hi : ops[j]? = some ⟨some d, .call ⟨.value (.func f), ⟨xs⟩, ats⟩, ty, pos, af, gd⟩) (hx : evl env xs = some vs) (h : Fn P f vs [] G (Imm Φ)) (hw : wantG ops env gd = some true) (hd : Nat.blt d Γ.n = true) (hl : listed.set j true = l')
  (k : ∀ v G', IMle G G' → Φ G' v → AnyL P Γ ops K H fuel l' ⟨(d, v) :: env, hp, G'⟩) : One P Γ ops K H fuel listed j ⟨env, hp, G⟩ :=
 one_step0 hi (step_call hx h hd) hw hl (by rintro _ ⟨v, G', outs, rfl, hle, rfl, hΦ⟩; exact k v G' hle hΦ)
theorem one_own [hF : FunI P f] {post : IM → Value → List Ent → Prop} (hi : ops[j]? = some ⟨some d, .call ⟨.value (.func f), ⟨xs⟩, ats⟩, ty, pos, af, gd⟩) (hx : evl env xs = some vs) (h : Fn P f vs [] G post) (hw : wantG ops env gd = some true) (hd : Nat.blt d Γ.n = true) (hl : listed.set j true = l')
  (k : ∀ v G' outs, IMle G G' → post G' v outs → AnyL P Γ ops K H fuel l' ⟨(d, v) :: env, outs ++ hp, G'⟩) : One P Γ ops K H fuel listed j ⟨env, hp, G⟩ :=
 one_step0 hi (step_call hx h hd) hw hl (by rintro _ ⟨v, G', outs, rfl, hle, hp⟩; exact k v G' outs hle hp)
theorem one_store {x y : Operand} {t : TypeId} {i : TyR} [hI : TyI P t i] {bb o : Nat} {v : Value} {cs' : List Value} {hp' : List Ent} (hi : ops[j]? = some ⟨none, .store t x y, ty, pos, af, gd⟩)
  (hx : evo env x = some (.pointer (some ⟨bb, o, none⟩))) (hy : evo env y = some v) (hv : v.cells = ⟨vs⟩) (hsz : vs.length = i.size) (h1 : vs.all (·.oneCell') = true)
  (hw : wantG ops env gd = some true) (hl : listed.set j true = l') (hm : ((H.map Prod.fst).all fun i => depb ops j i) = true)
  (hsw : Sw hp (.blk bb cs) (.blk bb cs') hp') (hu : upd cs o vs = some cs')
  (k : AnyL P Γ ops K [] fuel l' ⟨env, hp', G⟩) : One P Γ ops K H fuel listed j ⟨env, hp, G⟩ :=
 one_stepD hi (step_store hx hy hv hsz h1 hu hsw rfl) hw hl hm (by rintro _ rfl; exact k)
/-- append onto an own slice, among a region's operations. -/
theorem one_append {x y : Operand} {t el : TypeId} {i : TyR} {sz by' : Nat} {zs : List Value} [hI : TyI P t i] [hE : TySz P el sz by' zs] {p : Option Addr} {c n m bb o c' : Nat} {news : List Value} {hp' : Option Addr → Nat → List Ent} {H' : List (Nat × Nat)}
  (hi : ops[j]? = some ⟨some d, .call ⟨.builtin .append, ⟨[x, y]⟩, ⟨[t, t]⟩⟩, ty, pos, af, gd⟩) (hd' : i.desc = .slice el)
  (hd : Nat.blt d Γ.n = true) (hx : evo env x = some (.slice p n c)) (hy : evo env y = some (.slice (some ⟨bb, o, none⟩) m c')) (hsz : Nat.blt 0 sz = true)
  (hm : ∀ p' c', Sw hp (.slc p c el sz n cs) (.slc p' c' el sz (n + m) (cs ++ news)) (hp' p' c'))
  (hs' : At hp G bb o news) (hln : news.length = m * sz) (h1 : ∀ u ∈ news, u.oneCell' = true)
  (h63 : n + m ≤ maxLen) (hb : (n + m) * by' ≤ 140737488355328) (hw : wantG ops env gd = some true) (hl : listed.set j true = l')
  (hok : HmOk ops j hp G (.slc p c el sz n cs) H H')
  (k : ∀ p' c', AnyL P Γ ops K H' fuel l' ⟨(d, .slice p' (n + m) c') :: env, hp' p' c', G⟩) : One P Γ ops K H fuel listed j ⟨env, hp, G⟩ :=
 one_stepM hi (step_append hd' hd hx hy hsz hm hs' hln h1 h63 hb) hw hl (fun _ _ hs => hok.spec hs) hok.filter (by rintro _ ⟨p', c', rfl⟩; exact k p' c')
end ones
theorem seq_append {d : Nat} {x y : Operand} {t el : TypeId} {i : TyR} {sz by' : Nat} {zs : List Value} [hI : TyI P t i] [hE : TySz P el sz by' zs] {p : Option Addr} {c n m bb o c' : Nat} {cs news : List Value} {hp' : Option Addr → Nat → List Ent}
  (hd' : i.desc = .slice el) (hd : Nat.blt d Γ.n = true) (hx : evo env x = some (.slice p n c)) (hy : evo env y = some (.slice (some ⟨bb, o, none⟩) m c')) (hsz : Nat.blt 0 sz = true)
  (hm : ∀ p' c', Sw hp (.slc p c el sz n cs) (.slc p' c' el sz (n + m) (cs ++ news)) (hp' p' c'))
  (hs' : At hp G bb o news) (hln : news.length = m * sz) (h1 : ∀ u ∈ news, u.oneCell' = true)
  (h63 : n + m ≤ maxLen) (hb : (n + m) * by' ≤ 140737488355328) (hw : wantG ops env gd = some true)
  (k : ∀ p' c', TriL P Γ ops rest K ⟨(d, .slice p' (n + m) c') :: env, hp' p' c', G⟩) : TriL P Γ ops (⟨some d, .call ⟨.builtin .append, ⟨[x, y]⟩, ⟨[t, t]⟩⟩, ty, pos, af, gd⟩ :: rest) K ⟨env, hp, G⟩ :=
 seq_step (step_append hd' hd hx hy hsz hm hs' hln h1 h63 hb) hw (by rintro _ ⟨p', c', rfl⟩; exact k p' c')

end rules2
section oneS
variable {P : Program} {Γ : Ctx} {env : Env} {hp : List Ent} {G : IM} {K : Po} {ops : Array Oper} {ty : TypeId} {pos : String} {af : Array Edge} {gd : Option (Nat × Bool)}
/-- An operation that is not asked for. -/
theorem one_skip {H : List (Nat × Nat)} {fuel : Nat} {listed l' : List Bool} {j d : Nat} {op : Op} (hi : ops[j]? = some ⟨some d, op, ty, pos, af, gd⟩) (hw : wantG ops env gd = some false) (hd : Nat.blt d Γ.n = true) (hl : listed.set j true = l')
  (k : AnyL P Γ ops K H fuel l' ⟨(d, undef) :: env, hp, G⟩) : One P Γ ops K H fuel listed j ⟨env, hp, G⟩ := by
 refine ⟨fun a w hs Hs hHs hall hdc hrd => ?_⟩
 unfold wpOp
 simp only [hi, wantG_ok hs.env hw, Bool.false_eq_true, if_false]
 have hn : ∀ h ∈ Hn ops j Hs, w.heap[h.b]? = some h.o := fun x hx => hall x (List.mem_filter.1 hx).1
 refine ⟨hn, ?_⟩
 have := k.run _ w (hs.put d undef (by simpa using hd) hs.res) Hs hHs hall (by rw [← hl]; simpa using hdc.step hrd)
 rw [← hl] at this
 exact wpG_drop _ (fun x hx => (List.mem_filter.1 hx).1) _ _ _ (by simpa using this)
end oneS
section oneM
variable {P : Program} {Γ : Ctx} {env : Env} {hp : List Ent} {G : IM} {K : Po} {ops : Array Oper} {ty : TypeId} {pos : String} {af : Array Edge} {gd : Option (Nat × Bool)}
/-- A store among a region's operations; loads of other blocks may come behind it. -/
theorem one_storeM {H H' : List (Nat × Nat)} {fuel : Nat} {listed l' : List Bool} {j : Nat} {cs vs : List Value} {x y : Operand} {t : TypeId} {i : TyR} [hI : TyI P t i] {bb o : Nat} {v : Value} {cs' : List Value} {hp' : List Ent} (hi : ops[j]? = some ⟨none, .store t x y, ty, pos, af, gd⟩)
  (hx : evo env x = some (.pointer (some ⟨bb, o, none⟩))) (hy : evo env y = some v) (hv : v.cells = ⟨vs⟩) (hsz : vs.length = i.size) (h1 : vs.all (·.oneCell') = true)
  (hw : wantG ops env gd = some true) (hl : listed.set j true = l') (hsw : Sw hp (.blk bb cs) (.blk bb cs') hp') (hu : upd cs o vs = some cs')
  (hok : HmOk ops j hp G (.blk bb cs) H H')
  (k : AnyL P Γ ops K H' fuel l' ⟨env, hp', G⟩) : One P Γ ops K H fuel listed j ⟨env, hp, G⟩ :=
 one_stepM hi (step_store hx hy hv hsz h1 hu hsw rfl) hw hl (fun _ _ hs => by simpa [Ent.fp] using hok.spec hs) hok.filter (by rintro _ rfl; exact k)
theorem oS {H H' : List (Nat × Nat)} {fuel : Nat} {listed l' : List Bool} {j : Nat} {cs vs : List Value} {x y : Operand} {t : TypeId} {i : TyR} [hI : TyI P t i] {bb o : Nat} {v : Value} {cs' : List Value} {hp' : List Ent} (hi : ops[j]? = some ⟨none, .store t x y, ty, pos, af, gd⟩)
 (hx : evo env x = some (.pointer (some ⟨bb, o, none⟩))) (hy : evo env y = some v) (hv : v.cells = ⟨vs⟩) (hsz : vs.length = i.size) (h1 : vs.all (·.oneCell') = true)
 (hw : wantG ops env gd = some true) (hl : listed.set j true = l')
 (k : AnyL P Γ ops K H' fuel l' ⟨env, hp', G⟩) (hsw : Sw hp (.blk bb cs) (.blk bb cs') hp' := by repeat first | exact Sw.here | apply Sw.there) (hu : upd cs o vs = some cs' := by rfl)
 (hok : HmOk ops j hp G (.blk bb cs) H H' := by repeat (first | exact HmOk.nil | apply HmOk.dep (by decide +kernel) | apply HmOk.im (by decide +kernel) (by assumption) (by repeat first | exact mH | apply mT) | apply HmOk.blk (by decide +kernel) (by repeat (first | exact Pk.here | apply Pk.there)) (by repeat first | exact mH | apply mT) | apply HmOk.slc (by decide +kernel) (by repeat (first | exact Pk.here | apply Pk.there)) (by repeat first | exact mH | apply mT))) : One P Γ ops K H fuel listed j ⟨env, hp, G⟩ :=
 one_storeM hi hx hy hv hsz h1 hw hl hsw hu hok k
theorem oT {H H' : List (Nat × Nat)} {fuel : Nat} {listed l' : List Bool} {j : Nat} {cs vs : List Value} {x y : Operand} {t : TypeId} {i : TyR} [hI : TyI P t i] {bb o : Nat} {v : Value} {cs' : List Value} {hp' : List Ent} [hl : SetT listed j l'] (hi : ops[j]? = some ⟨none, .store t x y, ty, pos, af, gd⟩)
 (hx : evo env x = some (.pointer (some ⟨bb, o, none⟩))) (hy : evo env y = some v) (hv : v.cells = ⟨vs⟩) (hsz : vs.length = i.size) (h1 : vs.all (·.oneCell') = true)
 (hw : wantG ops env gd = some true)
 (k : AnyL P Γ ops K H' fuel l' ⟨env, hp', G⟩) (hsw : Sw hp (.blk bb cs) (.blk bb cs') hp' := by repeat first | exact Sw.here | apply Sw.there) (hu : upd cs o vs = some cs' := by rfl)
 (hok : HmOk ops j hp G (.blk bb cs) H H' := by repeat (first | exact HmOk.nil | apply HmOk.dep (by decide +kernel) | apply HmOk.im (by decide +kernel) (by assumption) (by repeat first | exact mH | apply mT) | apply HmOk.blk (by decide +kernel) (by repeat (first | exact Pk.here | apply Pk.there)) (by repeat first | exact mH | apply mT) | apply HmOk.slc (by decide +kernel) (by repeat (first | exact Pk.here | apply Pk.there)) (by repeat first | exact mH | apply mT))) : One P Γ ops K H fuel listed j ⟨env, hp, G⟩ :=
 one_storeM hi hx hy hv hsz h1 hw hl.h hsw hu hok k
theorem oT' {H H' : List (Nat × Nat)} {fuel : Nat} {listed l' : List Bool} {j : Nat} {cs vs : List Value} {x y : Operand} {t : TypeId} {i : TyR} [hI : TyI P t i] {bb o : Nat} {v : Value} {cs' : List Value} {hp' : List Ent} [hl : SetT listed j l']
 (hi : ops[j]? = some ⟨none, .store t x y, ty, pos, af, gd⟩) (k : AnyL P Γ ops K H' fuel l' ⟨env, hp', G⟩)
 (hx : evo env x = some (.pointer (some ⟨bb, o, none⟩)) := by rfl) (hy : evo env y = some v := by rfl) (hv : v.cells = ⟨vs⟩ := by rfl) (hsz : vs.length = i.size := by rfl) (h1 : vs.all (·.oneCell') = true := by rfl)
 (hw : wantG ops env gd = some true := by rfl) (hsw : Sw hp (.blk bb cs) (.blk bb cs') hp' := by repeat first | exact Sw.here | apply Sw.there) (hu : upd cs o vs = some cs' := by rfl)
 (hok : HmOk ops j hp G (.blk bb cs) H H' := by repeat (first | exact HmOk.nil | apply HmOk.dep (by decide +kernel) | apply HmOk.im (by decide +kernel) (by assumption) (by repeat first | exact mH | apply mT) | apply HmOk.blk (by decide +kernel) (by repeat (first | exact Pk.here | apply Pk.there)) (by repeat first | exact mH | apply mT) | apply HmOk.slc (by decide +kernel) (by repeat (first | exact Pk.here | apply Pk.there)) (by repeat first | exact mH | apply mT))) : One P Γ ops K H fuel listed j ⟨env, hp, G⟩ :=
 one_storeM hi hx hy hv hsz h1 hw hl.h hsw hu hok k
end oneM

/-- Without these blocks. -/
def Wo (G : IM) (F : List Nat) : IM := fun b => if b ∈ F then none else G b
def blks (bs : List (Nat × List Value)) : List Ent := bs.map fun p => .blk p.1 p.2
theorem Fp_blks : ∀ bs : List (Nat × List Value), Fp (blks bs) = bs.map Prod.fst
 | [] => rfl
 | p :: bs => by
  show (Ent.blk p.1 p.2).fp ++ Fp (blks bs) = _
  rw [Fp_blks bs]; rfl
theorem mem_blks {bs : List (Nat × List Value)} {p : Nat × List Value} (h : p ∈ bs) : Ent.blk p.1 p.2 ∈ blks bs := List.mem_map.2 ⟨p, h, rfl⟩

/-- With these blocks. -/
def Wi (G : IM) (bs : List (Nat × List Value)) : IM := fun b => match bs.lookup b with | some l => some l | none => G b
theorem lookup_of {bs : List (Nat × List Value)} (hn : (bs.map Prod.fst).Nodup) {p : Nat × List Value} (h : p ∈ bs) : bs.lookup p.1 = some p.2 := by
 induction bs with
 | nil => cases h
 | cons q bs ih =>
  obtain ⟨k, v⟩ := q
  simp only [List.map_cons, List.nodup_cons] at hn
  rcases List.mem_cons.1 h with rfl | h
  ·simp [List.lookup]
  ·have hne : p.1 ≠ k := by
    intro he; exact hn.1 (List.mem_map.2 ⟨p, h, he⟩)
   simp only [List.lookup]
   rw [show (p.1 == k) = false from beq_eq_false_iff_ne.2 hne]
   exact ih hn.2 h
theorem lookup_mem {bs : List (Nat × List Value)} {b : Nat} {l : List Value} (h : bs.lookup b = some l) : (b, l) ∈ bs := by
 induction bs with
 | nil => simp [List.lookup] at h
 | cons q bs ih =>
  obtain ⟨k, v⟩ := q
  simp only [List.lookup] at h
  split at h
  ·rename_i he
   have : b = k := by simpa using he
   cases h; rw [this]; exact List.mem_cons_self
  ·exact List.mem_cons_of_mem _ (ih h)
theorem Wi.get {G : IM} {bs : List (Nat × List Value)} {b : Nat} {l : List Value} (h : Wi G bs b = some l) : (b, l) ∈ bs ∨ G b = some l := by
 unfold Wi at h
 split at h
 ·rename_i l' hl; cases h; exact .inl (lookup_mem hl)
 ·exact .inr h
theorem Wi.in {G : IM} {bs : List (Nat × List Value)} (hn : (bs.map Prod.fst).Nodup) {p : Nat × List Value} (h : p ∈ bs) : Wi G bs p.1 = some p.2 := by
 unfold Wi; rw [lookup_of hn h]
theorem Wi.le {G : IM} {bs : List (Nat × List Value)} (h : ∀ p ∈ bs, G p.1 = none) : IMle G (Wi G bs) := by
 intro b l hb
 unfold Wi
 split
 ·rename_i l' hl
  have := h _ (lookup_mem hl)
  rw [show ((b, l') : Nat × List Value).1 = b from rfl, hb] at this; cases this
 ·exact hb

theorem res_freezes {w : World} {G : IM} {bs : List (Nat × List Value)} (hown : Own (blks bs) G w) (hz : ∀ p ∈ bs, ∃ e, w.heap[p.1]? = some (.cells p.2.toArray e (0, 0))) :
  Res (blks bs) G w [] (Wi G bs) w := by
 have hd : ∀ p ∈ bs, G p.1 = none := fun p hp => hown.disj p.1 (by rw [Fp_blks]; exact List.mem_map_of_mem hp)
 refine ⟨⟨?_, by simp, by simp [Fp], by simp [Fp]⟩, Ext.refl _ _, Wi.le hd, ?_, by simp [Fp], ?_⟩
 ·intro b l hb
  rcases Wi.get hb with h | h
  ·obtain ⟨e, he⟩ := hz _ h; exact ⟨e, _, he⟩
  ·exact hown.inn b l h
 ·intro b l hb
  rcases Wi.get hb with h | h
  ·right; right; rw [Fp_blks]; exact List.mem_map.2 ⟨_, h, rfl⟩
  ·exact .inl h
 ·intro b l hb h0
  rcases Wi.get hb with h | h
  ·exact hz _ h
  ·rw [h0] at h; cases h

section rules3
variable {P : Program} {Γ : Ctx} {env : Env} {hp : List Ent} {G : IM} {K : Po} {ops : Array Oper} {rest : List Oper}

theorem St.freezes {a : Act} {w : World} {bs : List (Nat × List Value)} {hp' : List Ent} (hs : St Γ ⟨env, hp, G⟩ a w) (p : hp.Perm (blks bs ++ hp')) :
  St Γ ⟨env, hp', Wi G bs⟩ a w ∧ (bs.map Prod.fst).Nodup ∧ ∀ q ∈ bs, G q.1 = none := by
 have hown : Own (blks bs) G w := (hs.res.own.perm p).left
 have hr := res_freezes hown fun q hq => hown.ok _ (mem_blks hq)
 refine ⟨⟨hs.size, hs.nod, hs.env, by have := (hs.res.perm p).frame hr; simpa using this⟩, by have := hown.nodup; rwa [Fp_blks] at this, fun q hq => hown.disj q.1 (by rw [Fp_blks]; exact List.mem_map_of_mem hq)⟩
theorem tri_freezes {cd : Code} {bs : List (Nat × List Value)} {hp' : List Ent} (p : hp.Perm (blks bs ++ hp'))
  (h : (bs.map Prod.fst).Nodup → (∀ q ∈ bs, G q.1 = none) → IMle G (Wi G bs) → Tri P Γ cd K ⟨env, hp', Wi G bs⟩) : Tri P Γ cd K ⟨env, hp, G⟩ :=
 ⟨fun a w hs => let ⟨h1, h2, h3⟩ := hs.freezes p; (h h2 h3 (Wi.le h3)).run a w h1⟩
end rules3
end Gw
end Go.Proofs.YthpdjmbpbdbodaaGreatDoor
namespace Go.Proofs.YthpdjmbpbdbodaaGreatDoor
open Go
namespace Gw
theorem tyI_of {P : Program} {t : TypeId} {n b : Nat} {zs : List Value} {d : TypeDesc} (h : (P.info? t).map (fun i => (i.size, i.bytes, i.zero.map Value.cells)) = some (n, b, some ⟨zs⟩)) (hu : P.underlying t = some d) : TyI P t ⟨n, b, zs, d⟩ := by
 refine ⟨?_, hu⟩
 cases hi : P.info? t with
 | none => simp [hi] at h
 | some i =>
  simp only [hi, Option.map_some, Option.some.injEq, Prod.mk.injEq] at h
  obtain ⟨h1, h2, h3⟩ := h
  cases hz : i.zero with
  | none => simp [hz] at h3
  | some z => simp only [hz, Option.map_some, Option.some.injEq] at h3; exact ⟨i, rfl, h1, h2, z, hz, h3⟩
theorem fldI_of {P : Program} {s f off sz : Nat} {ft : TypeId} {ag : Bool} {fs : Array Field} {d : TypeDesc} {r : TyR} (hI : TyI P ft r) (hs : P.underlying s = some (.struct fs)) (hf : (fs[f]?).map (fun x => (x.offset, x.type)) = some (off, ft)) (h1 : r.size = sz) (h2 : sz ≠ 0) (h3 : r.desc = d) (h4 : aggD d = ag) : FldI P s f off sz ag := by
 cases hx : fs[f]? with
 | none => simp [hx] at hf
 | some x =>
  simp [hx] at hf
  obtain ⟨rfl, rfl⟩ := hf
  obtain ⟨inf, g1, g2, _⟩ := hI.info
  exact ⟨fs, x, d, inf, hs, hx, rfl, g1, by rw [g2, h1], h2, by rw [← h3]; exact hI.und, h4⟩
theorem funI_of {P : Program} {f : Nat} {fn : Func} (h : P.funcs[f]? = some fn) (h1 : fn.body.isNone = false) (h2 : (fn.name == "runtime.NumGoroutine") = false) : FunI P f := ⟨fn, h, h1, h2⟩
instance ty3 : TyI Tryz.prog 3 ⟨1, 8, [.int .i64 0], (TypeDesc.int IntKind.i64)⟩ := tyI_of (by kernel_rfl) Tryz.underlying3
instance ty4 : TyI Tryz.prog 4 ⟨1, 1, [.bool false], TypeDesc.bool⟩ := tyI_of (by kernel_rfl) Tryz.underlying4
instance ty5 : TyI Tryz.prog 5 ⟨1, 1, [.int .u8 0], (TypeDesc.int IntKind.u8)⟩ := tyI_of (by kernel_rfl) Tryz.underlying5
instance ty9 : TyI Tryz.prog 9 ⟨1, 16, [.string ByteArray.empty], TypeDesc.string⟩ := tyI_of (by kernel_rfl) Tryz.underlying9
instance ty22 : TyI Tryz.prog 22 ⟨1, 24, [.slice none 0 0], (TypeDesc.slice 5)⟩ := tyI_of (by kernel_rfl) Tryz.underlying22
instance ty23 : TyI Tryz.prog 23 ⟨1, 24, [.slice none 0 0], (TypeDesc.slice 25)⟩ := tyI_of (by kernel_rfl) Tryz.underlying23
instance ty25 : TyI Tryz.prog 25 ⟨2, 32, [.int .i64 0, .slice none 0 0], (TypeDesc.struct #[{ name := "Kind", type := 3, offset := 0, embedded := false, tag := "", pkgPath := "", byteOffset := 0 }, { name := "Kids", type := 23, offset := 1, embedded := false, tag := "", pkgPath := "", byteOffset := 8 }])⟩ := tyI_of (by kernel_rfl) Tryz.underlying25
instance ty26 : TyI Tryz.prog 26 ⟨1, 24, [.slice none 0 0], (TypeDesc.slice 28)⟩ := tyI_of (by kernel_rfl) Tryz.underlying26
instance ty28 : TyI Tryz.prog 28 ⟨9, 128, [.int .i64 0, .string ByteArray.empty, .int .i64 0, .int .i64 0, .slice none 0 0, .int .i64 0, .slice none 0 0, .int .i64 0, .slice none 0 0], (TypeDesc.struct #[{ name := "Kind", type := 3, offset := 0, embedded := false, tag := "", pkgPath := "", byteOffset := 0 }, { name := "Name", type := 9, offset := 1, embedded := false, tag := "", pkgPath := "", byteOffset := 8 }, { name := "Num", type := 3, offset := 2, embedded := false, tag := "", pkgPath := "", byteOffset := 24 }, { name := "Type", type := 25, offset := 3, embedded := false, tag := "", pkgPath := "", byteOffset := 32 }, { name := "From", type := 25, offset := 5, embedded := false, tag := "", pkgPath := "", byteOffset := 64 }, { name := "Label", type := 3, offset := 7, embedded := false, tag := "", pkgPath := "", byteOffset := 96 }, { name := "Kids", type := 26, offset := 8, embedded := false, tag := "", pkgPath := "", byteOffset := 104 }])⟩ := tyI_of (by kernel_rfl) Tryz.underlying28
instance ty69 : TyI Tryz.prog 69 ⟨2, 32, [.slice none 0 0, .int .i64 0], (TypeDesc.struct #[{ name := "b", type := 22, offset := 0, embedded := false, tag := "", pkgPath := "loop.example/gradual/spec", byteOffset := 0 }, { name := "p", type := 3, offset := 1, embedded := false, tag := "", pkgPath := "loop.example/gradual/spec", byteOffset := 24 }])⟩ := tyI_of (by kernel_rfl) Tryz.underlying69
instance ty71 : TyI Tryz.prog 71 ⟨1, 24, [.slice none 0 0], (TypeDesc.slice 3)⟩ := tyI_of (by kernel_rfl) Tryz.underlying71
instance ty80 : TyI Tryz.prog 80 ⟨1, 24, [.slice none 0 0], (TypeDesc.slice 83)⟩ := tyI_of (by kernel_rfl) Tryz.underlying80
instance ty83 : TyI Tryz.prog 83 ⟨3, 48, [.string ByteArray.empty, .int .i64 0, .slice none 0 0], (TypeDesc.struct #[{ name := "Name", type := 9, offset := 0, embedded := false, tag := "", pkgPath := "", byteOffset := 0 }, { name := "Type", type := 25, offset := 1, embedded := false, tag := "", pkgPath := "", byteOffset := 16 }])⟩ := tyI_of (by kernel_rfl) Tryz.underlying83
instance ty89 : TyI Tryz.prog 89 ⟨1, 24, [.slice none 0 0], (TypeDesc.slice 9)⟩ := tyI_of (by kernel_rfl) Tryz.underlying89
instance tz3 : TySz Tryz.prog 3 1 8 [.int .i64 0] := ⟨⟨_, ty3⟩, rfl⟩
instance tz5 : TySz Tryz.prog 5 1 1 [.int .u8 0] := ⟨⟨_, ty5⟩, rfl⟩
instance tz9 : TySz Tryz.prog 9 1 16 [.string ByteArray.empty] := ⟨⟨_, ty9⟩, rfl⟩
instance tz25 : TySz Tryz.prog 25 2 32 [.int .i64 0, .slice none 0 0] := ⟨⟨_, ty25⟩, rfl⟩
instance tz28 : TySz Tryz.prog 28 9 128 [.int .i64 0, .string ByteArray.empty, .int .i64 0, .int .i64 0, .slice none 0 0, .int .i64 0, .slice none 0 0, .int .i64 0, .slice none 0 0] := ⟨⟨_, ty28⟩, rfl⟩
instance tz83 : TySz Tryz.prog 83 3 48 [.string ByteArray.empty, .int .i64 0, .slice none 0 0] := ⟨⟨_, ty83⟩, rfl⟩
instance fd25_0 : FldI Tryz.prog 25 0 0 1 false := fldI_of ty3 Tryz.underlying25 rfl rfl (by decide) rfl rfl
instance fd25_1 : FldI Tryz.prog 25 1 1 1 false := fldI_of ty23 Tryz.underlying25 rfl rfl (by decide) rfl rfl
instance fd28_0 : FldI Tryz.prog 28 0 0 1 false := fldI_of ty3 Tryz.underlying28 rfl rfl (by decide) rfl rfl
instance fd28_1 : FldI Tryz.prog 28 1 1 1 false := fldI_of ty9 Tryz.underlying28 rfl rfl (by decide) rfl rfl
instance fd28_2 : FldI Tryz.prog 28 2 2 1 false := fldI_of ty3 Tryz.underlying28 rfl rfl (by decide) rfl rfl
instance fd28_3 : FldI Tryz.prog 28 3 3 2 true := fldI_of ty25 Tryz.underlying28 rfl rfl (by decide) rfl rfl
instance fd28_4 : FldI Tryz.prog 28 4 5 2 true := fldI_of ty25 Tryz.underlying28 rfl rfl (by decide) rfl rfl
instance fd28_5 : FldI Tryz.prog 28 5 7 1 false := fldI_of ty3 Tryz.underlying28 rfl rfl (by decide) rfl rfl
instance fd28_6 : FldI Tryz.prog 28 6 8 1 false := fldI_of ty26 Tryz.underlying28 rfl rfl (by decide) rfl rfl
instance fd69_0 : FldI Tryz.prog 69 0 0 1 false := fldI_of ty22 Tryz.underlying69 rfl rfl (by decide) rfl rfl
instance fd69_1 : FldI Tryz.prog 69 1 1 1 false := fldI_of ty3 Tryz.underlying69 rfl rfl (by decide) rfl rfl
instance fd83_0 : FldI Tryz.prog 83 0 0 1 false := fldI_of ty9 Tryz.underlying83 rfl rfl (by decide) rfl rfl
instance fd83_1 : FldI Tryz.prog 83 1 1 2 true := fldI_of ty25 Tryz.underlying83 rfl rfl (by decide) rfl rfl
instance fn8 : FunI Tryz.prog 8 := funI_of Tryz.func8 (by kernel_rfl) (by kernel_rfl)
instance fn9 : FunI Tryz.prog 9 := funI_of Tryz.func9 (by kernel_rfl) (by kernel_rfl)
instance fn10 : FunI Tryz.prog 10 := funI_of Tryz.func10 (by kernel_rfl) (by kernel_rfl)
instance fn11 : FunI Tryz.prog 11 := funI_of Tryz.func11 (by kernel_rfl) (by kernel_rfl)
instance fn12 : FunI Tryz.prog 12 := funI_of Tryz.func12 (by kernel_rfl) (by kernel_rfl)
instance fn13 : FunI Tryz.prog 13 := funI_of Tryz.func13 (by kernel_rfl) (by kernel_rfl)
instance fn14 : FunI Tryz.prog 14 := funI_of Tryz.func14 (by kernel_rfl) (by kernel_rfl)
instance fn15 : FunI Tryz.prog 15 := funI_of Tryz.func15 (by kernel_rfl) (by kernel_rfl)
instance fn24 : FunI Tryz.prog 24 := funI_of Tryz.func24 (by kernel_rfl) (by kernel_rfl)
instance fn25 : FunI Tryz.prog 25 := funI_of Tryz.func25 (by kernel_rfl) (by kernel_rfl)
instance fn26 : FunI Tryz.prog 26 := funI_of Tryz.func26 (by kernel_rfl) (by kernel_rfl)
instance fn27 : FunI Tryz.prog 27 := funI_of Tryz.func27 (by kernel_rfl) (by kernel_rfl)
instance fn28 : FunI Tryz.prog 28 := funI_of Tryz.func28 (by kernel_rfl) (by kernel_rfl)
instance fn29 : FunI Tryz.prog 29 := funI_of Tryz.func29 (by kernel_rfl) (by kernel_rfl)
instance fn30 : FunI Tryz.prog 30 := funI_of Tryz.func30 (by kernel_rfl) (by kernel_rfl)
instance fn31 : FunI Tryz.prog 31 := funI_of Tryz.func31 (by kernel_rfl) (by kernel_rfl)
instance fn32 : FunI Tryz.prog 32 := funI_of Tryz.func32 (by kernel_rfl) (by kernel_rfl)
instance fn33 : FunI Tryz.prog 33 := funI_of Tryz.func33 (by kernel_rfl) (by kernel_rfl)
instance fn34 : FunI Tryz.prog 34 := funI_of Tryz.func34 (by kernel_rfl) (by kernel_rfl)
instance fn35 : FunI Tryz.prog 35 := funI_of Tryz.func35 (by kernel_rfl) (by kernel_rfl)
instance fn36 : FunI Tryz.prog 36 := funI_of Tryz.func36 (by kernel_rfl) (by kernel_rfl)
instance fn37 : FunI Tryz.prog 37 := funI_of Tryz.func37 (by kernel_rfl) (by kernel_rfl)
instance fn38 : FunI Tryz.prog 38 := funI_of Tryz.func38 (by kernel_rfl) (by kernel_rfl)
instance fn39 : FunI Tryz.prog 39 := funI_of Tryz.func39 (by kernel_rfl) (by kernel_rfl)
instance fn40 : FunI Tryz.prog 40 := funI_of Tryz.func40 (by kernel_rfl) (by kernel_rfl)
instance fn41 : FunI Tryz.prog 41 := funI_of Tryz.func41 (by kernel_rfl) (by kernel_rfl)
instance fn44 : FunI Tryz.prog 44 := funI_of Tryz.func44 (by kernel_rfl) (by kernel_rfl)
instance fn47 : FunI Tryz.prog 47 := funI_of Tryz.func47 (by kernel_rfl) (by kernel_rfl)
instance fn53 : FunI Tryz.prog 53 := funI_of Tryz.func53 (by kernel_rfl) (by kernel_rfl)
instance fn55 : FunI Tryz.prog 55 := funI_of Tryz.func55 (by kernel_rfl) (by kernel_rfl)
instance fn56 : FunI Tryz.prog 56 := funI_of Tryz.func56 (by kernel_rfl) (by kernel_rfl)
instance fn57 : FunI Tryz.prog 57 := funI_of Tryz.func57 (by kernel_rfl) (by kernel_rfl)
instance fn58 : FunI Tryz.prog 58 := funI_of Tryz.func58 (by kernel_rfl) (by kernel_rfl)
instance fn59 : FunI Tryz.prog 59 := funI_of Tryz.func59 (by kernel_rfl) (by kernel_rfl)
instance fn60 : FunI Tryz.prog 60 := funI_of Tryz.func60 (by kernel_rfl) (by kernel_rfl)
instance fn61 : FunI Tryz.prog 61 := funI_of Tryz.func61 (by kernel_rfl) (by kernel_rfl)
instance fn62 : FunI Tryz.prog 62 := funI_of Tryz.func62 (by kernel_rfl) (by kernel_rfl)
instance fn63 : FunI Tryz.prog 63 := funI_of Tryz.func63 (by kernel_rfl) (by kernel_rfl)
instance fn64 : FunI Tryz.prog 64 := funI_of Tryz.func64 (by kernel_rfl) (by kernel_rfl)
instance fn65 : FunI Tryz.prog 65 := funI_of Tryz.func65 (by kernel_rfl) (by kernel_rfl)
instance fn66 : FunI Tryz.prog 66 := funI_of Tryz.func66 (by kernel_rfl) (by kernel_rfl)
instance fn67 : FunI Tryz.prog 67 := funI_of Tryz.func67 (by kernel_rfl) (by kernel_rfl)
instance fn68 : FunI Tryz.prog 68 := funI_of Tryz.func68 (by kernel_rfl) (by kernel_rfl)
instance fn69 : FunI Tryz.prog 69 := funI_of Tryz.func69 (by kernel_rfl) (by kernel_rfl)
instance fn70 : FunI Tryz.prog 70 := funI_of Tryz.func70 (by kernel_rfl) (by kernel_rfl)
instance fn71 : FunI Tryz.prog 71 := funI_of Tryz.func71 (by kernel_rfl) (by kernel_rfl)
instance fn72 : FunI Tryz.prog 72 := funI_of Tryz.func72 (by kernel_rfl) (by kernel_rfl)
instance fn73 : FunI Tryz.prog 73 := funI_of Tryz.func73 (by kernel_rfl) (by kernel_rfl)
instance fn74 : FunI Tryz.prog 74 := funI_of Tryz.func74 (by kernel_rfl) (by kernel_rfl)
instance fn75 : FunI Tryz.prog 75 := funI_of Tryz.func75 (by kernel_rfl) (by kernel_rfl)
instance fn76 : FunI Tryz.prog 76 := funI_of Tryz.func76 (by kernel_rfl) (by kernel_rfl)
instance fn77 : FunI Tryz.prog 77 := funI_of Tryz.func77 (by kernel_rfl) (by kernel_rfl)
instance fn78 : FunI Tryz.prog 78 := funI_of Tryz.func78 (by kernel_rfl) (by kernel_rfl)
instance fn79 : FunI Tryz.prog 79 := funI_of Tryz.func79 (by kernel_rfl) (by kernel_rfl)
instance fn80 : FunI Tryz.prog 80 := funI_of Tryz.func80 (by kernel_rfl) (by kernel_rfl)
instance fn84 : FunI Tryz.prog 84 := funI_of Tryz.func84 (by kernel_rfl) (by kernel_rfl)
instance fn85 : FunI Tryz.prog 85 := funI_of Tryz.func85 (by kernel_rfl) (by kernel_rfl)
instance fn87 : FunI Tryz.prog 87 := funI_of Tryz.func87 (by kernel_rfl) (by kernel_rfl)
instance fn88 : FunI Tryz.prog 88 := funI_of Tryz.func88 (by kernel_rfl) (by kernel_rfl)
instance fn89 : FunI Tryz.prog 89 := funI_of Tryz.func89 (by kernel_rfl) (by kernel_rfl)
instance fn94 : FunI Tryz.prog 94 := funI_of Tryz.func94 (by kernel_rfl) (by kernel_rfl)
instance fn95 : FunI Tryz.prog 95 := funI_of Tryz.func95 (by kernel_rfl) (by kernel_rfl)
instance fn97 : FunI Tryz.prog 97 := funI_of Tryz.func97 (by kernel_rfl) (by kernel_rfl)
instance fn98 : FunI Tryz.prog 98 := funI_of Tryz.func98 (by kernel_rfl) (by kernel_rfl)
instance fn99 : FunI Tryz.prog 99 := funI_of Tryz.func99 (by kernel_rfl) (by kernel_rfl)
instance fn100 : FunI Tryz.prog 100 := funI_of Tryz.func100 (by kernel_rfl) (by kernel_rfl)
instance fn101 : FunI Tryz.prog 101 := funI_of Tryz.func101 (by kernel_rfl) (by kernel_rfl)
instance fn102 : FunI Tryz.prog 102 := funI_of Tryz.func102 (by kernel_rfl) (by kernel_rfl)
instance fn103 : FunI Tryz.prog 103 := funI_of Tryz.func103 (by kernel_rfl) (by kernel_rfl)
instance fn104 : FunI Tryz.prog 104 := funI_of Tryz.func104 (by kernel_rfl) (by kernel_rfl)
instance fn105 : FunI Tryz.prog 105 := funI_of Tryz.func105 (by kernel_rfl) (by kernel_rfl)
instance fn106 : FunI Tryz.prog 106 := funI_of Tryz.func106 (by kernel_rfl) (by kernel_rfl)
instance fn107 : FunI Tryz.prog 107 := funI_of Tryz.func107 (by kernel_rfl) (by kernel_rfl)
instance fn108 : FunI Tryz.prog 108 := funI_of Tryz.func108 (by kernel_rfl) (by kernel_rfl)
instance fn109 : FunI Tryz.prog 109 := funI_of Tryz.func109 (by kernel_rfl) (by kernel_rfl)
instance fn110 : FunI Tryz.prog 110 := funI_of Tryz.func110 (by kernel_rfl) (by kernel_rfl)
instance fn111 : FunI Tryz.prog 111 := funI_of Tryz.func111 (by kernel_rfl) (by kernel_rfl)
instance fn112 : FunI Tryz.prog 112 := funI_of Tryz.func112 (by kernel_rfl) (by kernel_rfl)
instance fn114 : FunI Tryz.prog 114 := funI_of Tryz.func114 (by kernel_rfl) (by kernel_rfl)
instance fn116 : FunI Tryz.prog 116 := funI_of Tryz.func116 (by kernel_rfl) (by kernel_rfl)
instance fn117 : FunI Tryz.prog 117 := funI_of Tryz.func117 (by kernel_rfl) (by kernel_rfl)
instance fn118 : FunI Tryz.prog 118 := funI_of Tryz.func118 (by kernel_rfl) (by kernel_rfl)
instance fn119 : FunI Tryz.prog 119 := funI_of Tryz.func119 (by kernel_rfl) (by kernel_rfl)
instance fn120 : FunI Tryz.prog 120 := funI_of Tryz.func120 (by kernel_rfl) (by kernel_rfl)
instance fn121 : FunI Tryz.prog 121 := funI_of Tryz.func121 (by kernel_rfl) (by kernel_rfl)
instance fn122 : FunI Tryz.prog 122 := funI_of Tryz.func122 (by kernel_rfl) (by kernel_rfl)
instance fn123 : FunI Tryz.prog 123 := funI_of Tryz.func123 (by kernel_rfl) (by kernel_rfl)
instance fn127 : FunI Tryz.prog 127 := funI_of Tryz.func127 (by kernel_rfl) (by kernel_rfl)
instance fn128 : FunI Tryz.prog 128 := funI_of Tryz.func128 (by kernel_rfl) (by kernel_rfl)
instance fn129 : FunI Tryz.prog 129 := funI_of Tryz.func129 (by kernel_rfl) (by kernel_rfl)
instance fn130 : FunI Tryz.prog 130 := funI_of Tryz.func130 (by kernel_rfl) (by kernel_rfl)
instance fn131 : FunI Tryz.prog 131 := funI_of Tryz.func131 (by kernel_rfl) (by kernel_rfl)
instance fn132 : FunI Tryz.prog 132 := funI_of Tryz.func132 (by kernel_rfl) (by kernel_rfl)
instance fn136 : FunI Tryz.prog 136 := funI_of Tryz.func136 (by kernel_rfl) (by kernel_rfl)
instance fn137 : FunI Tryz.prog 137 := funI_of Tryz.func137 (by kernel_rfl) (by kernel_rfl)
instance fn138 : FunI Tryz.prog 138 := funI_of Tryz.func138 (by kernel_rfl) (by kernel_rfl)
instance fn139 : FunI Tryz.prog 139 := funI_of Tryz.func139 (by kernel_rfl) (by kernel_rfl)
instance fn141 : FunI Tryz.prog 141 := funI_of Tryz.func141 (by kernel_rfl) (by kernel_rfl)
instance fn142 : FunI Tryz.prog 142 := funI_of Tryz.func142 (by kernel_rfl) (by kernel_rfl)
instance fn143 : FunI Tryz.prog 143 := funI_of Tryz.func143 (by kernel_rfl) (by kernel_rfl)
instance fn144 : FunI Tryz.prog 144 := funI_of Tryz.func144 (by kernel_rfl) (by kernel_rfl)
instance fn145 : FunI Tryz.prog 145 := funI_of Tryz.func145 (by kernel_rfl) (by kernel_rfl)
instance fn146 : FunI Tryz.prog 146 := funI_of Tryz.func146 (by kernel_rfl) (by kernel_rfl)
instance fn147 : FunI Tryz.prog 147 := funI_of Tryz.func147 (by kernel_rfl) (by kernel_rfl)
instance fn148 : FunI Tryz.prog 148 := funI_of Tryz.func148 (by kernel_rfl) (by kernel_rfl)
instance fn149 : FunI Tryz.prog 149 := funI_of Tryz.func149 (by kernel_rfl) (by kernel_rfl)
instance fn150 : FunI Tryz.prog 150 := funI_of Tryz.func150 (by kernel_rfl) (by kernel_rfl)
instance fn151 : FunI Tryz.prog 151 := funI_of Tryz.func151 (by kernel_rfl) (by kernel_rfl)
instance fn152 : FunI Tryz.prog 152 := funI_of Tryz.func152 (by kernel_rfl) (by kernel_rfl)
instance fn153 : FunI Tryz.prog 153 := funI_of Tryz.func153 (by kernel_rfl) (by kernel_rfl)
instance fn156 : FunI Tryz.prog 156 := funI_of Tryz.func156 (by kernel_rfl) (by kernel_rfl)
instance fn157 : FunI Tryz.prog 157 := funI_of Tryz.func157 (by kernel_rfl) (by kernel_rfl)
instance fn158 : FunI Tryz.prog 158 := funI_of Tryz.func158 (by kernel_rfl) (by kernel_rfl)
instance fn159 : FunI Tryz.prog 159 := funI_of Tryz.func159 (by kernel_rfl) (by kernel_rfl)
instance fn160 : FunI Tryz.prog 160 := funI_of Tryz.func160 (by kernel_rfl) (by kernel_rfl)
instance fn161 : FunI Tryz.prog 161 := funI_of Tryz.func161 (by kernel_rfl) (by kernel_rfl)
instance fn162 : FunI Tryz.prog 162 := funI_of Tryz.func162 (by kernel_rfl) (by kernel_rfl)
instance fn163 : FunI Tryz.prog 163 := funI_of Tryz.func163 (by kernel_rfl) (by kernel_rfl)
instance fn166 : FunI Tryz.prog 166 := funI_of Tryz.func166 (by kernel_rfl) (by kernel_rfl)
instance fn167 : FunI Tryz.prog 167 := funI_of Tryz.func167 (by kernel_rfl) (by kernel_rfl)
instance fn168 : FunI Tryz.prog 168 := funI_of Tryz.func168 (by kernel_rfl) (by kernel_rfl)
instance fn169 : FunI Tryz.prog 169 := funI_of Tryz.func169 (by kernel_rfl) (by kernel_rfl)
instance fn170 : FunI Tryz.prog 170 := funI_of Tryz.func170 (by kernel_rfl) (by kernel_rfl)
instance fn171 : FunI Tryz.prog 171 := funI_of Tryz.func171 (by kernel_rfl) (by kernel_rfl)
instance fn172 : FunI Tryz.prog 172 := funI_of Tryz.func172 (by kernel_rfl) (by kernel_rfl)
instance fn173 : FunI Tryz.prog 173 := funI_of Tryz.func173 (by kernel_rfl) (by kernel_rfl)
instance fn174 : FunI Tryz.prog 174 := funI_of Tryz.func174 (by kernel_rfl) (by kernel_rfl)
instance fn175 : FunI Tryz.prog 175 := funI_of Tryz.func175 (by kernel_rfl) (by kernel_rfl)
instance fn176 : FunI Tryz.prog 176 := funI_of Tryz.func176 (by kernel_rfl) (by kernel_rfl)
instance fn178 : FunI Tryz.prog 178 := funI_of Tryz.func178 (by kernel_rfl) (by kernel_rfl)
instance fn180 : FunI Tryz.prog 180 := funI_of Tryz.func180 (by kernel_rfl) (by kernel_rfl)
instance fn181 : FunI Tryz.prog 181 := funI_of Tryz.func181 (by kernel_rfl) (by kernel_rfl)
instance fn182 : FunI Tryz.prog 182 := funI_of Tryz.func182 (by kernel_rfl) (by kernel_rfl)
instance fn183 : FunI Tryz.prog 183 := funI_of Tryz.func183 (by kernel_rfl) (by kernel_rfl)
instance fn184 : FunI Tryz.prog 184 := funI_of Tryz.func184 (by kernel_rfl) (by kernel_rfl)
instance pl25 : PlcI Tryz.prog 25 [(0, 1), (1, 1)] := plc_of Tryz.underlying25 (by kernel_rfl) (by kernel_rfl)
instance pl28 : PlcI Tryz.prog 28 [(0, 1), (1, 1), (2, 1), (3, 2), (5, 2), (7, 1), (8, 1)] := plc_of Tryz.underlying28 (by kernel_rfl) (by kernel_rfl)
instance pl69 : PlcI Tryz.prog 69 [(0, 1), (1, 1)] := plc_of Tryz.underlying69 (by kernel_rfl) (by kernel_rfl)
instance pl83 : PlcI Tryz.prog 83 [(0, 1), (1, 2)] := plc_of Tryz.underlying83 (by kernel_rfl) (by kernel_rfl)
theorem mixed : Tryz.prog.follows .mixedOrders = true := by kernel_rfl

/-- A slice of elements of sz cells each, in blocks that no longer change. -/
structure SlE (G : IM) (p : Option Addr) (n c sz : Nat) (es : List (List Value)) : Prop where
 sl : Sl G p n c sz es.flatten
 len : es.length = n
 all : ∀ e ∈ es, e.length = sz
 one : ∀ e ∈ es, e.all (·.oneCell') = true

theorem SlE.mono {G G' : IM} {p : Option Addr} {n c sz : Nat} {es : List (List Value)} (h : SlE G p n c sz es) (hg : IMle G G') : SlE G' p n c sz es := ⟨h.sl.mono hg, h.len, h.all, h.one⟩
theorem SlE.nil (G : IM) (sz : Nat) : SlE G none 0 0 sz [] := ⟨Sl.nil G sz, rfl, by simp, by simp⟩

theorem flat_get {sz : Nat} : ∀ {es : List (List Value)}, (∀ e ∈ es, e.length = sz) → ∀ {i : Nat} {e : List Value}, es[i]? = some e → ∀ j v, e[j]? = some v → es.flatten[i * sz + j]? = some v
 | [], _, i, e, h, _, _, _ => by simp at h
 | a :: r, hall, 0, e, h, j, v, hv => by
  simp at h; subst h
  have : j < a.length := (List.getElem?_eq_some_iff.1 hv).1
  simp [List.getElem?_append, this]
  simpa [List.getElem?_eq_getElem this] using hv
 | a :: r, hall, i + 1, e, h, j, v, hv => by
  have ih := flat_get (es := r) (fun x hx => hall x (List.mem_cons_of_mem _ hx)) (i := i) (e := e) (by simpa using h) j v hv
  have ha := hall a List.mem_cons_self
  rw [List.flatten_cons, List.getElem?_append, if_neg (by rw [ha, Nat.succ_mul]; omega)]
  rw [show (i + 1) * sz + j - a.length = i * sz + j by rw [ha, Nat.succ_mul]; omega]
  exact ih

theorem SlE.at {G : IM} {p : Option Addr} {n c sz : Nat} {es : List (List Value)} (h : SlE G p n c sz es) {i : Nat} {e : List Value} (hi : es[i]? = some e) :
  ∃ b o, p = some ⟨b, o, none⟩ ∧ ∀ hp, At hp G b (o + i * sz) e := by
 have hlt : i < es.length := (List.getElem?_eq_some_iff.1 hi).1
 obtain ⟨_, _, _, h4⟩ := h.sl
 have hn := h.len
 rcases h4 with h0 | ⟨b, o, full, hp, hg, hf⟩
 ·omega
 ·refine ⟨b, o, hp, fun hp => at_im hg fun j v hv => ?_⟩
  rw [Nat.add_assoc]
  exact hf _ v (flat_get h.all hi j v hv)

theorem SlE.get {G : IM} {p : Option Addr} {n c sz : Nat} {es : List (List Value)} (h : SlE G p n c sz es) {i : Nat} (hi : i < n) :
  ∃ e b o, es[i]? = some e ∧ p = some ⟨b, o, none⟩ ∧ e.length = sz ∧ e.all (·.oneCell') = true ∧ (∀ hp, At hp G b (o + i * sz) e) ∧ G b ≠ none := by
 have hlt : i < es.length := by rw [h.len]; exact hi
 have he : es[i]? = some es[i] := List.getElem?_eq_getElem hlt
 obtain ⟨b, o, h1, h2⟩ := h.at he
 refine ⟨es[i], b, o, he, h1, h.all _ (List.getElem_mem hlt), h.one _ (List.getElem_mem hlt), h2, ?_⟩
 obtain ⟨_, _, _, h4⟩ := h.sl
 rcases h4 with h0 | ⟨b', o', full, hp, hg, hf⟩
 ·omega
 ·rw [h1] at hp; cases hp; rw [hg]; simp
theorem SlE.le {G : IM} {p : Option Addr} {n c sz : Nat} {es : List (List Value)} (h : SlE G p n c sz es) : n ≤ 9223372036854775807 := by
 have h1 := h.sl.2.1; have h2 := h.sl.2.2.1; unfold maxLen at h2; omega

/-- An own slice, given up, element by element. -/
theorem SlE.of {G : IM} {p : Option Addr} {n c sz : Nat} {es : List (List Value)} (h : Sl G p n c sz es.flatten) (hl : es.length = n) (ha : ∀ e ∈ es, e.length = sz) (ho : ∀ e ∈ es, e.all (·.oneCell') = true) : SlE G p n c sz es := ⟨h, hl, ha, ho⟩

/-- Numbers that Go's int holds. -/
def I64 (n : Int) : Prop := -9223372036854775808 ≤ n ∧ n ≤ 9223372036854775807

inductive Ty where
 | mk (k : Int) (ks : List Ty)

def Ty.k : Ty → Int | .mk k _ => k
def Ty.ks : Ty → List Ty | .mk _ ks => ks

inductive Tm where
 | mk (k : Int) (nm : ByteArray) (num : Int) (ty fr : Ty) (lb : Int) (ks : List Tm)

def Tm.k : Tm → Int | .mk k _ _ _ _ _ _ => k
def Tm.nm : Tm → ByteArray | .mk _ n _ _ _ _ _ => n
def Tm.num : Tm → Int | .mk _ _ n _ _ _ _ => n
def Tm.ty : Tm → Ty | .mk _ _ _ t _ _ _ => t
def Tm.fr : Tm → Ty | .mk _ _ _ _ f _ _ => f
def Tm.lb : Tm → Int | .mk _ _ _ _ _ l _ => l
def Tm.ks : Tm → List Tm | .mk _ _ _ _ _ _ ks => ks

/- No list of the data is too long. -/
mutual
def Ty.small : Ty → Prop
 | .mk _ ks => ks.length ≤ 4294967296 ∧ Ty.smallL ks
def Ty.smallL : List Ty → Prop
 | [] => True
 | t :: ts => t.small ∧ Ty.smallL ts
end
mutual
def Tm.small : Tm → Prop
 | .mk _ nm _ ty fr _ ks => nm.size ≤ 4294967296 ∧ ty.small ∧ fr.small ∧ ks.length ≤ 4294967296 ∧ Tm.smallL ks
def Tm.smallL : List Tm → Prop
 | [] => True
 | t :: ts => t.small ∧ Tm.smallL ts
end
theorem Ty.smallL_mem : ∀ {ts : List Ty}, Ty.smallL ts → ∀ t ∈ ts, t.small
 | [], _, t, h => by simp at h
 | t' :: ts, h, t, ht => by
  simp only [Ty.smallL] at h
  rcases List.mem_cons.1 ht with rfl | ht
  ·exact h.1
  ·exact Ty.smallL_mem h.2 t ht
theorem Tm.smallL_mem : ∀ {ts : List Tm}, Tm.smallL ts → ∀ t ∈ ts, t.small
 | [], _, t, h => by simp at h
 | t' :: ts, h, t, ht => by
  simp only [Tm.smallL] at h
  rcases List.mem_cons.1 ht with rfl | ht
  ·exact h.1
  ·exact Tm.smallL_mem h.2 t ht

mutual
def RTy (G : IM) : Ty → List Value → Prop
 | .mk k ks, cells => ∃ p c es, cells = [.int .i64 k, .slice p ks.length c] ∧ I64 k ∧ SlE G p ks.length c 2 es ∧ RTyL G ks es
def RTyL (G : IM) : List Ty → List (List Value) → Prop
 | [], es => es = []
 | t :: ts, es => ∃ a r, es = a :: r ∧ RTy G t a ∧ RTyL G ts r
end

mutual
def RTm (G : IM) : Tm → List Value → Prop
 | .mk k nm num ty fr lb ks, cells => ∃ tc fc p c es, cells = [.int .i64 k, .string nm, .int .i64 num] ++ tc ++ fc ++ [.int .i64 lb, .slice p ks.length c] ∧ I64 k ∧ I64 num ∧ I64 lb ∧ RTy G ty tc ∧ RTy G fr fc ∧ SlE G p ks.length c 9 es ∧ RTmL G ks es
def RTmL (G : IM) : List Tm → List (List Value) → Prop
 | [], es => es = []
 | t :: ts, es => ∃ a r, es = a :: r ∧ RTm G t a ∧ RTmL G ts r
end

mutual
theorem RTy.mono {G G' : IM} (hg : IMle G G') : ∀ {t : Ty} {cells : List Value}, RTy G t cells → RTy G' t cells
 | .mk k ks, cells, h => by
  simp only [RTy] at h ⊢
  obtain ⟨p, c, es, h1, h2, h3, h4⟩ := h
  exact ⟨p, c, es, h1, h2, h3.mono hg, RTyL.mono hg h4⟩
theorem RTyL.mono {G G' : IM} (hg : IMle G G') : ∀ {ts : List Ty} {es : List (List Value)}, RTyL G ts es → RTyL G' ts es
 | [], es, h => by simpa only [RTyL] using h
 | t :: ts, es, h => by
  simp only [RTyL] at h ⊢
  obtain ⟨a, r, h1, h2, h3⟩ := h
  exact ⟨a, r, h1, RTy.mono hg h2, RTyL.mono hg h3⟩
end
mutual
theorem RTm.mono {G G' : IM} (hg : IMle G G') : ∀ {t : Tm} {cells : List Value}, RTm G t cells → RTm G' t cells
 | .mk k nm num ty fr lb ks, cells, h => by
  simp only [RTm] at h ⊢
  obtain ⟨tc, fc, p, c, es, h1, h2, h3, h4, h5, h6, h7, h8⟩ := h
  exact ⟨tc, fc, p, c, es, h1, h2, h3, h4, h5.mono hg, h6.mono hg, h7.mono hg, RTmL.mono hg h8⟩
theorem RTmL.mono {G G' : IM} (hg : IMle G G') : ∀ {ts : List Tm} {es : List (List Value)}, RTmL G ts es → RTmL G' ts es
 | [], es, h => by simpa only [RTmL] using h
 | t :: ts, es, h => by
  simp only [RTmL] at h ⊢
  obtain ⟨a, r, h1, h2, h3⟩ := h
  exact ⟨a, r, h1, RTm.mono hg h2, RTmL.mono hg h3⟩
end

theorem RTy.open {G : IM} {t : Ty} {cells : List Value} (h : RTy G t cells) : ∃ p c es, cells = [.int .i64 t.k, .slice p t.ks.length c] ∧ I64 t.k ∧ SlE G p t.ks.length c 2 es ∧ RTyL G t.ks es := by
 cases t; simpa only [RTy, Ty.k, Ty.ks] using h
theorem RTm.open {G : IM} {t : Tm} {cells : List Value} (h : RTm G t cells) : ∃ pt ct et pf cf ef p c es,
  cells = [.int .i64 t.k, .string t.nm, .int .i64 t.num, .int .i64 t.ty.k, .slice pt t.ty.ks.length ct, .int .i64 t.fr.k, .slice pf t.fr.ks.length cf, .int .i64 t.lb, .slice p t.ks.length c] ∧
  I64 t.k ∧ I64 t.num ∧ I64 t.lb ∧ (I64 t.ty.k ∧ SlE G pt t.ty.ks.length ct 2 et ∧ RTyL G t.ty.ks et) ∧ (I64 t.fr.k ∧ SlE G pf t.fr.ks.length cf 2 ef ∧ RTyL G t.fr.ks ef) ∧ SlE G p t.ks.length c 9 es ∧ RTmL G t.ks es := by
 obtain ⟨k, nm, num, ty, fr, lb, ks⟩ := t
 simp only [RTm] at h
 obtain ⟨tc, fc, p, c, es, h1, h2, h3, h4, h5, h6, h7, h8⟩ := h
 obtain ⟨pt, ct, et, rfl, t1, t2, t3⟩ := h5.open
 obtain ⟨pf, cf, ef, rfl, f1, f2, f3⟩ := h6.open
 exact ⟨pt, ct, et, pf, cf, ef, p, c, es, h1, h2, h3, h4, ⟨t1, t2, t3⟩, ⟨f1, f2, f3⟩, h7, h8⟩
theorem RTm.open9 {G : IM} {k : Int} {nm : ByteArray} {num : Int} {tk : Int} {tks : List Ty} {fk : Int} {fks : List Ty} {lb : Int} {ks : List Tm} {cells : List Value} (h : RTm G (.mk k nm num (.mk tk tks) (.mk fk fks) lb ks) cells) :
  ∃ pt ct pf cf p c es, cells = [.int .i64 k, .string nm, .int .i64 num, .int .i64 tk, .slice pt tks.length ct, .int .i64 fk, .slice pf fks.length cf, .int .i64 lb, .slice p ks.length c] ∧
  I64 k ∧ I64 num ∧ I64 lb ∧ RTy G (.mk tk tks) [.int .i64 tk, .slice pt tks.length ct] ∧ RTy G (.mk fk fks) [.int .i64 fk, .slice pf fks.length cf] ∧ SlE G p ks.length c 9 es ∧ RTmL G ks es := by
 obtain ⟨pt, ct, et, pf, cf, ef, p, c, es, h1, h2, h3, h4, ⟨t1, t2, t3⟩, ⟨f1, f2, f3⟩, h7, h8⟩ := h.open
 simp only [Tm.k, Tm.nm, Tm.num, Tm.ty, Tm.fr, Tm.lb, Tm.ks, Ty.k, Ty.ks] at h1 h2 h3 h4 t1 t2 t3 f1 f2 f3 h7 h8
 exact ⟨pt, ct, pf, cf, p, c, es, h1, h2, h3, h4, by simp only [RTy]; exact ⟨_, _, et, rfl, t1, t2, t3⟩, by simp only [RTy]; exact ⟨_, _, ef, rfl, f1, f2, f3⟩, h7, h8⟩
theorem RTy.len {G : IM} {t : Ty} {cells : List Value} (h : RTy G t cells) : cells.length = 2 := by
 obtain ⟨_, _, _, rfl, _⟩ := h.open; rfl
theorem RTm.len {G : IM} {t : Tm} {cells : List Value} (h : RTm G t cells) : cells.length = 9 := by
 obtain ⟨_, _, _, _, _, _, _, _, _, rfl, _⟩ := h.open; rfl

theorem RTyL.len {G : IM} : ∀ {ts : List Ty} {es : List (List Value)}, RTyL G ts es → es.length = ts.length
 | [], es, h => by simp only [RTyL] at h; subst h; rfl
 | t :: ts, es, h => by
  simp only [RTyL] at h
  obtain ⟨a, r, rfl, _, h3⟩ := h
  simp [h3.len]
theorem RTmL.len {G : IM} : ∀ {ts : List Tm} {es : List (List Value)}, RTmL G ts es → es.length = ts.length
 | [], es, h => by simp only [RTmL] at h; subst h; rfl
 | t :: ts, es, h => by
  simp only [RTmL] at h
  obtain ⟨a, r, rfl, _, h3⟩ := h
  simp [h3.len]
theorem RTyL.get {G : IM} : ∀ {ts : List Ty} {es : List (List Value)}, RTyL G ts es → ∀ {i : Nat} {t : Ty}, ts[i]? = some t → ∃ e, es[i]? = some e ∧ RTy G t e
 | [], es, h, i, t, hi => by simp at hi
 | t' :: ts, es, h, i, t, hi => by
  simp only [RTyL] at h
  obtain ⟨a, r, rfl, h2, h3⟩ := h
  cases i with
  | zero => simp at hi; subst hi; exact ⟨a, rfl, h2⟩
  | succ i => obtain ⟨e, he, hr⟩ := h3.get (i := i) (by simpa using hi); exact ⟨e, by simpa using he, hr⟩
theorem RTmL.get {G : IM} : ∀ {ts : List Tm} {es : List (List Value)}, RTmL G ts es → ∀ {i : Nat} {t : Tm}, ts[i]? = some t → ∃ e, es[i]? = some e ∧ RTm G t e
 | [], es, h, i, t, hi => by simp at hi
 | t' :: ts, es, h, i, t, hi => by
  simp only [RTmL] at h
  obtain ⟨a, r, rfl, h2, h3⟩ := h
  cases i with
  | zero => simp at hi; subst hi; exact ⟨a, rfl, h2⟩
  | succ i => obtain ⟨e, he, hr⟩ := h3.get (i := i) (by simpa using hi); exact ⟨e, by simpa using he, hr⟩
theorem RTyL.all {G : IM} {ts : List Ty} {es : List (List Value)} (h : RTyL G ts es) : ∀ e ∈ es, e.length = 2 := by
 intro e he
 obtain ⟨i, hi⟩ := List.getElem?_of_mem he
 have hlt : i < ts.length := by have := (List.getElem?_eq_some_iff.1 hi).1; rw [h.len] at this; exact this
 obtain ⟨e', he', hr⟩ := h.get (i := i) (t := ts[i]) (by simp [hlt])
 rw [hi] at he'; cases he'; exact hr.len
theorem RTmL.all {G : IM} {ts : List Tm} {es : List (List Value)} (h : RTmL G ts es) : ∀ e ∈ es, e.length = 9 := by
 intro e he
 obtain ⟨i, hi⟩ := List.getElem?_of_mem he
 have hlt : i < ts.length := by have := (List.getElem?_eq_some_iff.1 hi).1; rw [h.len] at this; exact this
 obtain ⟨e', he', hr⟩ := h.get (i := i) (t := ts[i]) (by simp [hlt])
 rw [hi] at he'; cases he'; exact hr.len

theorem RTy.one {G : IM} {t : Ty} {cells : List Value} (h : RTy G t cells) : cells.all (·.oneCell') = true := by
 obtain ⟨_, _, _, rfl, _⟩ := h.open; rfl
theorem RTm.one {G : IM} {t : Tm} {cells : List Value} (h : RTm G t cells) : cells.all (·.oneCell') = true := by
 obtain ⟨_, _, _, _, _, _, _, _, _, rfl, _⟩ := h.open; rfl

theorem Ty.ind {C : Ty → Prop} (h : ∀ k ks, (∀ t ∈ ks, C t) → C (.mk k ks)) : ∀ t, C t
 | .mk k ks => h k ks fun t ht => Ty.ind h t
termination_by t => SizeOf.sizeOf t
decreasing_by
 have := List.sizeOf_lt_of_mem ht
 simp only [Ty.mk.sizeOf_spec]; omega
theorem Tm.ind {C : Tm → Prop} (h : ∀ k nm num ty fr lb ks, (∀ t ∈ ks, C t) → C (.mk k nm num ty fr lb ks)) : ∀ t, C t
 | .mk k nm num ty fr lb ks => h k nm num ty fr lb ks fun t ht => Tm.ind h t
termination_by t => SizeOf.sizeOf t
decreasing_by
 have := List.sizeOf_lt_of_mem ht
 simp only [Tm.mk.sizeOf_spec]; omega

/-- What is in G' and not in G. -/
def Dif (G' G : IM) : IM := fun b => match G b with | none => G' b | some _ => none
theorem Dif.le (G' G : IM) : IMle (Dif G' G) G' := by
 intro b l h
 unfold Dif at h
 split at h
 ·exact h
 ·cases h
theorem Dif.mono {G' G'' G : IM} (h : IMle G' G'') : IMle (Dif G' G) (Dif G'' G) := by
 intro b l hb
 unfold Dif at hb ⊢
 split at hb
 ·exact h b l hb
 ·cases hb
theorem Dif.anti {G' G G0 : IM} (h : IMle G0 G) : IMle (Dif G' G) (Dif G' G0) := by
 intro b l hb
 unfold Dif at hb ⊢
 split at hb
 ·rename_i h0
  cases h1 : G0 b with
  | none => exact hb
  | some l' => rw [h b l' h1] at h0; cases h0
 ·cases hb
theorem Dif.out {G' G : IM} {b : Nat} (h : Dif G' G b ≠ none) : G b = none := by
 unfold Dif at h
 split at h
 ·assumption
 ·exact absurd rfl h
theorem Sl.dif {G' G G0 : IM} {p : Option Addr} {n c sz : Nat} {cs : List Value} (h : Sl G' p n c sz cs) (hp : ∀ b ∈ vfp p, G b = none) (hle : IMle G0 G) : Sl (Dif G' G0) p n c sz cs := by
 obtain ⟨h1, h2, h3, h4⟩ := h
 refine ⟨h1, h2, h3, h4.imp id ?_⟩
 rintro ⟨b, o, full, rfl, e2, e3⟩
 refine ⟨b, o, full, rfl, ?_, e3⟩
 have hb := hp b (by simp [vfp])
 have h0 : G0 b = none := by
  cases h1 : G0 b with
  | none => rfl
  | some l => rw [hle b l h1] at hb; cases hb
 simp [Dif, h0, e2]

/- Data in memory of its own: every slice in a block that nothing else of it lies in; F: these blocks. -/
mutual
def STy (G : IM) : Ty → List Value → List Nat → Prop
 | .mk k ks, cells, F => ∃ p c es Fs, cells = [.int .i64 k, .slice p ks.length c] ∧ I64 k ∧ SlE G p ks.length c 2 es ∧ STyL G ks es Fs ∧ F = vfp p ++ Fs ∧ (∀ b ∈ vfp p, G b ≠ none)
def STyL (G : IM) : List Ty → List (List Value) → List Nat → Prop
 | [], es, F => es = [] ∧ F = []
 | t :: ts, es, F => ∃ a r Fa Fr, es = a :: r ∧ STy G t a Fa ∧ STyL G ts r Fr ∧ F = Fa ++ Fr
end
mutual
theorem STy.R {G : IM} : ∀ {t : Ty} {cells : List Value} {F : List Nat}, STy G t cells F → RTy G t cells
 | .mk k ks, cells, F, h => by
  simp only [STy] at h
  obtain ⟨p, c, es, Fs, h1, h2, h3, h4, _⟩ := h
  simp only [RTy]
  exact ⟨p, c, es, h1, h2, h3, STyL.R h4⟩
theorem STyL.R {G : IM} : ∀ {ts : List Ty} {es : List (List Value)} {F : List Nat}, STyL G ts es F → RTyL G ts es
 | [], es, F, h => by simp only [STyL] at h; simp only [RTyL]; exact h.1
 | t :: ts, es, F, h => by
  simp only [STyL] at h
  obtain ⟨a, r, Fa, Fr, h1, h2, h3, _⟩ := h
  simp only [RTyL]
  exact ⟨a, r, h1, STy.R h2, STyL.R h3⟩
end
mutual
theorem STy.mono {G G' : IM} (hg : IMle G G') : ∀ {t : Ty} {cells : List Value} {F : List Nat}, STy G t cells F → STy G' t cells F
 | .mk k ks, cells, F, h => by
  simp only [STy] at h ⊢
  obtain ⟨p, c, es, Fs, h1, h2, h3, h4, h5, h6⟩ := h
  exact ⟨p, c, es, Fs, h1, h2, h3.mono hg, STyL.mono hg h4, h5, fun b hb => by cases hgb : G b with | none => exact absurd hgb (h6 b hb) | some l => rw [hg b l hgb]; simp⟩
theorem STyL.mono {G G' : IM} (hg : IMle G G') : ∀ {ts : List Ty} {es : List (List Value)} {F : List Nat}, STyL G ts es F → STyL G' ts es F
 | [], es, F, h => by simpa only [STyL] using h
 | t :: ts, es, F, h => by
  simp only [STyL] at h ⊢
  obtain ⟨a, r, Fa, Fr, h1, h2, h3, h4⟩ := h
  exact ⟨a, r, Fa, Fr, h1, STy.mono hg h2, STyL.mono hg h3, h4⟩
end
mutual
theorem STy.inG {G : IM} : ∀ {t : Ty} {cells : List Value} {F : List Nat}, STy G t cells F → ∀ b ∈ F, G b ≠ none
 | .mk k ks, cells, F, h => by
  simp only [STy] at h
  obtain ⟨p, c, es, Fs, h1, h2, h3, h4, rfl, h6⟩ := h
  intro b hb
  rcases List.mem_append.1 hb with hb | hb
  ·exact h6 b hb
  ·exact STyL.inG h4 b hb
theorem STyL.inG {G : IM} : ∀ {ts : List Ty} {es : List (List Value)} {F : List Nat}, STyL G ts es F → ∀ b ∈ F, G b ≠ none
 | [], es, F, h => by simp only [STyL] at h; rw [h.2]; simp
 | t :: ts, es, F, h => by
  simp only [STyL] at h
  obtain ⟨a, r, Fa, Fr, h1, h2, h3, rfl⟩ := h
  intro b hb
  rcases List.mem_append.1 hb with hb | hb
  ·exact STy.inG h2 b hb
  ·exact STyL.inG h3 b hb
end
theorem STyL.snoc {G : IM} : ∀ {ts : List Ty} {es : List (List Value)} {F : List Nat} {t : Ty} {a : List Value} {Fa : List Nat}, STyL G ts es F → STy G t a Fa → STyL G (ts ++ [t]) (es ++ [a]) (F ++ Fa)
 | [], es, F, t, a, Fa, h, h2 => by
  simp only [STyL] at h
  obtain ⟨rfl, rfl⟩ := h
  simp only [List.nil_append, STyL]
  exact ⟨a, [], Fa, [], rfl, h2, ⟨rfl, rfl⟩, by simp⟩
 | t' :: ts, es, F, t, a, Fa, h, h2 => by
  simp only [STyL] at h
  obtain ⟨a', r, Fa', Fr, rfl, h3, h4, rfl⟩ := h
  simp only [List.cons_append, STyL]
  exact ⟨a', r ++ [a], Fa', Fr ++ Fa, rfl, h3, STyL.snoc h4 h2, by simp⟩

theorem SlE.kidTy {G : IM} {p : Option Addr} {n c : Nat} {es : List (List Value)} {ks : List Ty} (h : SlE G p n c 2 es) (hk : RTyL G ks es) {i : Nat} (hi : i < n) (hn : i < ks.length) :
  ∃ b o p2 c2, p = some ⟨b, o, none⟩ ∧ (∀ hp, At hp G b (o + i * 2) [.int .i64 ks[i].k, .slice p2 ks[i].ks.length c2]) ∧ RTy G ks[i] [.int .i64 ks[i].k, .slice p2 ks[i].ks.length c2] ∧ G b ≠ none := by
 obtain ⟨e, b, o, he, h1, h2, h3, h4, h5⟩ := h.get hi
 obtain ⟨e', he', hr⟩ := hk.get (i := i) (t := ks[i]) (by simp [hn])
 rw [he] at he'; cases he'
 obtain ⟨p2, c2, _, rfl, _⟩ := hr.open
 exact ⟨b, o, p2, c2, h1, h4, hr, h5⟩

theorem STyL.step {G Gi G1 : IM} {ks : List Ty} {i : Nat} {es : List (List Value)} {F F' : List Nat} {a : List Value} (h : STyL (Dif Gi G) (ks.take i) es F) (hn : F.Nodup) (hle : IMle G Gi) (hle1 : IMle Gi G1) (hi : i < ks.length)
  (ha : STy (Dif G1 Gi) ks[i] a F') (hn' : F'.Nodup) : STyL (Dif G1 G) (ks.take (i + 1)) (es ++ [a]) (F ++ F') ∧ (F ++ F').Nodup := by
 constructor
 ·rw [List.take_succ_eq_append_getElem hi]
  exact STyL.snoc (h.mono (Dif.mono hle1)) (ha.mono (Dif.anti hle))
 ·rw [List.nodup_append]
  refine ⟨hn, hn', ?_⟩
  rintro x hx y hy rfl
  have h1 := h.inG x hx
  have h2 := Dif.out (ha.inG x hy)
  apply h1
  cases hd : Dif Gi G x with
  | none => rfl
  | some l => rw [Dif.le _ _ x l hd] at h2; cases h2
theorem STy.fin {G Gi G2 : IM} {k : Int} {ks : List Ty} {es : List (List Value)} {F : List Nat} {p : Option Addr} {c : Nat} (h : STyL (Dif Gi G) ks es F) (hn : F.Nodup) (hle : IMle G Gi) (hle2 : IMle Gi G2)
  (hsl : Sl G2 p ks.length c 2 es.flatten) (hnn : ∀ b ∈ vfp p, Gi b = none ∧ G2 b ≠ none) (hk : I64 k) :
  ∃ F', STy (Dif G2 G) (.mk k ks) [.int .i64 k, .slice p ks.length c] F' ∧ F'.Nodup := by
 have hno := fun b hb => (hnn b hb).1
 have hin := fun b hb => (hnn b hb).2
 have hR := h.R
 refine ⟨vfp p ++ F, ?_, ?_⟩
 ·simp only [STy]
  refine ⟨p, c, es, F, rfl, hk, SlE.of (hsl.dif hno hle) hR.len hR.all ?_, h.mono (Dif.mono hle2), rfl, ?_⟩
  ·intro e he
   obtain ⟨i, hi⟩ := List.getElem?_of_mem he
   have hlt : i < ks.length := by have := (List.getElem?_eq_some_iff.1 hi).1; rw [hR.len] at this; exact this
   obtain ⟨e', he', hr⟩ := hR.get (i := i) (t := ks[i]) (by simp [hlt])
   rw [hi] at he'; cases he'; exact hr.one
  ·intro b hb
   have h0 := hno b hb
   cases hg : G b with
   | none => simpa [Dif, hg] using hin b hb
   | some l => rw [hle b l hg] at h0; cases h0
 ·rw [List.nodup_append]
  refine ⟨by cases p <;> simp [vfp], hn, ?_⟩
  rintro x hx y hy rfl
  have h1 := h.inG x hy
  have h2 := hno x hx
  apply h1
  cases hd : Dif Gi G x with
  | none => rfl
  | some l => rw [Dif.le _ _ x l hd] at h2; cases h2

/-- The first index below n at which q says yes. -/
def firstIx (q : Nat → Bool) (n : Nat) : Int := match (List.range n).find? q with | some i => i | none => -1
theorem firstIx_none {q : Nat → Bool} {n : Nat} (h : ∀ j, j < n → q j = false) : firstIx q n = -1 := by
 have : (List.range n).find? q = none := by
  rw [List.find?_eq_none]
  intro x hx
  rw [h x (List.mem_range.1 hx)]; simp
 simp [firstIx, this]
theorem firstIx_some {q : Nat → Bool} {n i : Nat} (hi : i < n) (h : ∀ j, j < i → q j = false) (hq : q i = true) : firstIx q n = i := by
 have : (List.range n).find? q = some i := by
  rw [List.find?_eq_some_iff_append]
  refine ⟨hq, List.range i, (List.range n).drop (i + 1), ?_, ?_⟩
  ·apply List.ext_getElem?
   intro k
   simp only [List.getElem?_append, List.length_range, List.getElem?_range', List.getElem?_cons, List.getElem?_drop]
   by_cases h1 : k < i
   ·simp [h1, show k < n by omega]
   ·by_cases h2 : k = i
    ·subst h2; simp [hi]
    ·have h3 : k - i ≠ 0 := by omega
     simp only [h1, if_false, h3]
     rw [show i + 1 + (k - i - 1) = k by omega]
  ·intro a ha
   simp [h a (List.mem_range.1 ha)]
 simp [firstIx, this]
end Gw
end Go.Proofs.YthpdjmbpbdbodaaGreatDoor
