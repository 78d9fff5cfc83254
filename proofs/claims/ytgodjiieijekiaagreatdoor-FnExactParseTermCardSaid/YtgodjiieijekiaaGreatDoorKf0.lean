/-
  What every walk of this claim stands on: states told by lists (slots, own blocks.
-/
import Derived.WalkKit
import Derived.OrdersHeld
import Derived.BigCall
import Derived.Test.YtgodjiieijekiaaGreatDoorChecked
set_option linter.unusedVariables false
set_option linter.unusedSimpArgs false
set_option maxHeartbeats 0
set_option maxRecDepth 100000
set_option synthInstance.maxSize 4000
set_option synthInstance.maxHeartbeats 0
namespace Go.Proofs.YtgodjiieijekiaaGreatDoor
open Go Go.RowKit
namespace Gw
abbrev tt := true
abbrev ff := false
theorem mH {α : Type} {a : α} {l : List α} : a ∈ a :: l := List.Mem.head _
theorem mT {α : Type} {a b : α} {l : List α} (h : a ∈ l) : a ∈ b :: l := List.Mem.tail _ h

abbrev F9 := List (Nat × Value)

def T1 : F9 → Nat → Option Value
 | [], _ => none
 | (k, v) :: r, t => bif Nat.beq k t then some v else T1 r t

def evo (e : F9) : Operand → Option Value
 | .tmp t => T1 e t
 | .const v => some v
 | .global g => some (.pointer (some ⟨g, 0, none⟩))
 | .func f => some (.func (.func f) #[] #[])

def evl (e : F9) : List Operand → Option (List Value)
 | [] => some []
 | x :: r => match evo e x with
  | some v => match evl e r with
   | some vs => some (v :: vs)
   | none => none
  | none => none

inductive A1 where
 | blk (b : Nat) (cs : List Value)
 | slc (p : Option Addr) (c : Nat) (el : TypeId) (sz : Nat) (n : Nat) (cs : List Value)

def E5 : Option Addr → List Nat
 | some p => [p.block]
 | none => []

def A1.fp : A1 → List Nat
 | .blk b _ => [b]
 | .slc p _ _ _ _ _ => E5 p

def A1.ok (w : World) : A1 → Prop
 | .blk b cs => ∃ e, w.heap[b]? = some (.cells cs.toArray e (0, 0))
 | .slc p c el sz n cs => w.ownsRow 0 el sz (.slice p n c) n cs

def Fp (hp : List A1) : List Nat := hp.flatMap A1.fp

abbrev IM := Nat → Option (List Value)

def B4 (G G' : IM) : Prop := ∀ b l, G b = some l → G' b = some l
def A18 (G : IM) (w : World) : Prop := ∀ b l, G b = some l → ∃ e f, w.heap[b]? = some (.cells l.toArray e f)

theorem B4.refl (G : IM) : B4 G G := fun _ _ h => h
theorem B4.trans {G G' G'' : IM} (h : B4 G G') (h' : B4 G' G'') : B4 G G'' := fun b l x => h' b l (h b l x)

structure X3 (mods : List Nat) (w w' : World) : Prop where
 os : w'.os = w.os
 tape : w'.tape = w.tape
 output : w'.output = w.output
 size : w.heap.size ≤ w'.heap.size
 block : ∀ k, k < w.heap.size → k ∉ mods → w'.heap[k]? = w.heap[k]?

theorem X3.refl (m : List Nat) (w : World) : X3 m w w := ⟨rfl, rfl, rfl, Nat.le_refl _, fun _ _ _ => rfl⟩

structure O5 (hp : List A1) (G : IM) (w : World) : Prop where
 inn : A18 G w
 ok : ∀ e ∈ hp, e.ok w
 nodup : (Fp hp).Nodup
 disj : ∀ b ∈ Fp hp, G b = none

structure M2 (ins : List A1) (G0 : IM) (w0 : World) (hp : List A1) (G : IM) (w : World) : Prop where
 own : O5 hp G w
 ext : X3 (Fp ins) w0 w
 le : B4 G0 G
 fresh : ∀ b l, G b = some l → G0 b = some l ∨ w0.heap.size ≤ b ∨ b ∈ Fp ins
 ofresh : ∀ b ∈ Fp hp, w0.heap.size ≤ b ∨ b ∈ Fp ins
 fz : ∀ b l, G b = some l → G0 b = none → ∃ e, w.heap[b]? = some (.cells l.toArray e (0, 0))

theorem W6 {w : World} {b : Nat} {o : Obj} (h : w.heap[b]? = some o) : b < w.heap.size := (Array.getElem?_eq_some_iff.1 h).1

theorem A1.ok_lt {w : World} {e : A1} (h : e.ok w) : ∀ b ∈ e.fp, b < w.heap.size := by
 cases e with
 | blk b cs => intro k hk; simp [A1.fp] at hk; subst hk; obtain ⟨_, h⟩ := h; exact W6 h
 | slc p c el sz n cs =>
  intro k hk
  rcases h.2 with ⟨he, _⟩ | ⟨g, cap, cur, he, _, hg, _⟩
  ·cases he; simp [A1.fp, E5] at hk
  ·cases he; simp [A1.fp, E5] at hk; subst hk; exact W6 hg

theorem A1.ok_ext {w w' : World} {e : A1} (h : e.ok w) (hb : ∀ b ∈ e.fp, w'.heap[b]? = w.heap[b]?) : e.ok w' := by
 cases e with
 | blk b cs => obtain ⟨x, h⟩ := h; exact ⟨x, by rw [hb b (by simp [A1.fp])]; exact h⟩
 | slc p c el sz n cs =>
  refine ⟨h.1, ?_⟩
  rcases h.2 with hn | ⟨g, cap, cur, he, h0, hg, rest⟩
  ·exact .inl hn
  ·cases he; exact .inr ⟨g, _, cur, rfl, h0, by rw [hb g (by simp [A1.fp, E5])]; exact hg, rest⟩

theorem T2 (a b : List A1) : Fp (a ++ b) = Fp a ++ Fp b := by simp [Fp]
theorem A3r {a b : List A1} (h : a.Perm b) : (Fp a).Perm (Fp b) := h.flatMap_right _
theorem A2H {hp : List A1} {b : Nat} : b ∈ Fp hp ↔ ∃ e ∈ hp, b ∈ e.fp := by simp [Fp, List.mem_flatMap]

theorem O5.lt {hp : List A1} {G : IM} {w : World} (h : O5 hp G w) : ∀ b ∈ Fp hp, b < w.heap.size := by
 intro b hb
 obtain ⟨e, he, hbe⟩ := A2H.1 hb
 exact A1.ok_lt (h.ok e he) b hbe

theorem A18.lt {G : IM} {w : World} (h : A18 G w) {b : Nat} {l : List Value} (hb : G b = some l) : b < w.heap.size := by
 obtain ⟨_, _, hh⟩ := h b l hb
 exact W6 hh

theorem O5.perm {hp hp' : List A1} {G : IM} {w : World} (h : O5 hp G w) (p : hp.Perm hp') : O5 hp' G w :=
 ⟨h.inn, fun e he => h.ok e (p.mem_iff.2 he), (A3r p).nodup_iff.1 h.nodup, fun b hb => h.disj b ((A3r p).mem_iff.2 hb)⟩

theorem O5.left {a b : List A1} {G : IM} {w : World} (h : O5 (a ++ b) G w) : O5 a G w :=
 ⟨h.inn, fun e he => h.ok e (List.mem_append_left _ he), by have := h.nodup; rw [T2] at this; exact (List.nodup_append.1 this).1,
  fun x hx => h.disj x (by rw [T2]; exact List.mem_append_left _ hx)⟩

theorem M2.perm {ins hp hp' : List A1} {G0 G : IM} {w0 w : World} (h : M2 ins G0 w0 hp G w) (p : hp.Perm hp') : M2 ins G0 w0 hp' G w :=
 ⟨h.own.perm p, h.ext, h.le, h.fresh, fun b hb => h.ofresh b ((A3r p).mem_iff.2 hb), h.fz⟩

theorem M2.left {ins a b : List A1} {G0 G : IM} {w0 w : World} (h : M2 ins G0 w0 (a ++ b) G w) : M2 ins G0 w0 a G w :=
 ⟨h.own.left, h.ext, h.le, h.fresh, fun x hx => h.ofresh x (by rw [T2]; exact List.mem_append_left _ hx), h.fz⟩

theorem M2.refl {ins : List A1} {G : IM} {w : World} (h : O5 ins G w) : M2 ins G w ins G w :=
 ⟨h, X3.refl _ _, B4.refl _, fun _ _ h => .inl h, fun _ h => .inr h, fun b l h h0 => absurd h (by rw [h0]; simp)⟩

theorem M2.frame {ins0 ins outs rest : List A1} {G0 G G' : IM} {w0 w w' : World}
  (h : M2 ins0 G0 w0 (ins ++ rest) G w) (s : M2 ins G w outs G' w') : M2 ins0 G0 w0 (outs ++ rest) G' w' := by
 have hnd := h.own.nodup
 rw [T2, List.nodup_append] at hnd
 obtain ⟨_, hndr, hdis⟩ := hnd
 have hrest_lt : ∀ b ∈ Fp rest, b < w.heap.size := fun b hb => h.own.lt b (by rw [T2]; exact List.mem_append_right _ hb)
 have hrest_not : ∀ b ∈ Fp rest, b ∉ Fp ins := fun b hb hi => hdis b hi b hb rfl
 refine ⟨⟨s.own.inn, ?_, ?_, ?_⟩, ?_, h.le.trans s.le, ?_, ?_, ?_⟩
 ·intro e he
  rcases List.mem_append.1 he with he | he
  ·exact s.own.ok e he
  ·refine A1.ok_ext (h.own.ok e (List.mem_append_right _ he)) fun b hb => ?_
   have hbr : b ∈ Fp rest := A2H.2 ⟨e, he, hb⟩
   exact s.ext.block b (hrest_lt b hbr) (hrest_not b hbr)
 ·rw [T2, List.nodup_append]
  refine ⟨s.own.nodup, hndr, ?_⟩
  rintro a ha b hb rfl
  rcases s.ofresh a ha with hf | hf
  ·exact absurd (hrest_lt a hb) (by omega)
  ·exact hrest_not a hb hf
 ·intro b hb
  rw [T2] at hb
  rcases List.mem_append.1 hb with hb | hb
  ·exact s.own.disj b hb
  ·cases hg : G' b with
   | none => rfl
   | some l =>
    exfalso
    rcases s.fresh b l hg with hf | hf | hf
    ·have := h.own.disj b (by rw [T2]; exact List.mem_append_right _ hb)
     rw [this] at hf; cases hf
    ·exact absurd (hrest_lt b hb) (by omega)
    ·exact hrest_not b hb hf
 ·refine ⟨s.ext.os.trans h.ext.os, s.ext.tape.trans h.ext.tape, s.ext.output.trans h.ext.output, Nat.le_trans h.ext.size s.ext.size, ?_⟩
  intro k hk hkn
  rw [s.ext.block k (Nat.lt_of_lt_of_le hk h.ext.size) ?_, h.ext.block k hk hkn]
  intro hki
  rcases h.ofresh k (by rw [T2]; exact List.mem_append_left _ hki) with hf | hf
  ·omega
  ·exact hkn hf
 ·intro b l hb
  rcases s.fresh b l hb with hf | hf | hf
  ·exact h.fresh b l hf
  ·exact .inr (.inl (Nat.le_trans h.ext.size hf))
  ·exact .inr (h.ofresh b (by rw [T2]; exact List.mem_append_left _ hf))
 ·intro b hb
  rw [T2] at hb
  rcases List.mem_append.1 hb with hb | hb
  ·rcases s.ofresh b hb with hf | hf
   ·exact .inl (Nat.le_trans h.ext.size hf)
   ·exact h.ofresh b (by rw [T2]; exact List.mem_append_left _ hf)
  ·exact h.ofresh b (by rw [T2]; exact List.mem_append_right _ hb)
 ·intro b l hb h0
  cases hg : G b with
  | none => exact s.fz b l hb hg
  | some l' =>
   have := s.le b l' hg
   rw [hb] at this; cases this
   obtain ⟨e, he⟩ := h.fz b l hg h0
   refine ⟨e, ?_⟩
   rw [s.ext.block b (W6 he) ?_]
   ·exact he
   ·intro hbi
    have := h.own.disj b (by rw [T2]; exact List.mem_append_left _ hbi)
    rw [hg] at this; cases this

structure E6 where
 n : Nat
 ins : List A1
 G0 : IM
 w0 : World

structure Sy where
 env : F9
 hp : List A1
 G : IM

structure St (Γ : E6) (σ : Sy) (a : Act) (w : World) : Prop where
 size : a.tmps.size = Γ.n
 nod : a.defers = []
 env : ∀ t v, T1 σ.env t = some v → a.tmps.getD t undef = v
 res : M2 Γ.ins Γ.G0 Γ.w0 σ.hp σ.G w

theorem St.evo {Γ : E6} {σ : Sy} {a : Act} {w : World} (h : St Γ σ a w) {x : Operand} {v : Value} (hx : evo σ.env x = some v) : a.eval x = v := by
 cases x with
 | tmp t => exact h.env t v hx
 | const c => simpa [Gw.evo, Act.eval] using hx
 | global g => simpa [Gw.evo, Act.eval] using hx
 | func f => simpa [Gw.evo, Act.eval] using hx

theorem St.evl {Γ : E6} {σ : Sy} {a : Act} {w : World} (h : St Γ σ a w) : ∀ {xs : List Operand} {vs : List Value}, evl σ.env xs = some vs → xs.map a.eval = vs
 | [], vs, hx => by simp [Gw.evl] at hx; subst hx; rfl
 | x :: r, vs, hx => by
  simp only [Gw.evl] at hx
  split at hx
  ·rename_i v hv
   split at hx
   ·rename_i us hu
    simp at hx; subst hx
    simp [h.evo hv, St.evl h hu]
   ·cases hx
  ·cases hx

theorem A3s (k : Nat) (v : Value) (r : F9) (t : Nat) : T1 ((k, v) :: r) t = if k = t then some v else T1 r t := by
 simp only [T1]
 by_cases h : k = t
 ·subst h; simp
 ·have : Nat.beq k t = false := by
   cases hb : Nat.beq k t with
   | false => rfl
   | true => exact absurd (Nat.eq_of_beq_eq_true hb) h
  simp [this, h]

theorem St.put {Γ : E6} {σ : Sy} {a : Act} {w w' : World} {hp' : List A1} {G' : IM} (h : St Γ σ a w) (t : Nat) (v : Value) (ht : t < Γ.n)
  (hr : M2 Γ.ins Γ.G0 Γ.w0 hp' G' w') : St Γ ⟨(t, v) :: σ.env, hp', G'⟩ (a.put (some t) v) w' := by
 refine ⟨?_, h.nod, ?_, hr⟩
 ·simp [Act.put, h.size]
 ·intro s u hs
  rw [A3s] at hs
  simp only [Act.put]
  by_cases e : t = s
  ·subst e
   simp at hs; subst hs
   have : t < a.tmps.size := by rw [h.size]; exact ht
   simp [Array.getD_eq_getD_getElem?, this]
  ·rw [if_neg e] at hs
   have := h.env s u hs
   simp only [Array.getD_eq_getD_getElem?, Array.getElem?_setIfInBounds, if_neg e] at this ⊢
   exact this

theorem St.put_none {Γ : E6} {σ : Sy} {a : Act} {w w' : World} {hp' : List A1} {G' : IM} (h : St Γ σ a w) (v : Value)
  (hr : M2 Γ.ins Γ.G0 Γ.w0 hp' G' w') : St Γ ⟨σ.env, hp', G'⟩ (a.put none v) w' := ⟨h.size, h.nod, h.env, hr⟩

def dpu (d : Option Nat) (v : Value) (e : F9) : F9 := match d with | some t => (t, v) :: e | none => e
def dok (n : Nat) : Option Nat → Bool | some t => Nat.blt t n | none => true

theorem St.dput {Γ : E6} {σ : Sy} {a : Act} {w w' : World} {hp' : List A1} {G' : IM} (h : St Γ σ a w) (d : Option Nat) (v : Value) (ht : dok Γ.n d = true)
  (hr : M2 Γ.ins Γ.G0 Γ.w0 hp' G' w') : St Γ ⟨dpu d v σ.env, hp', G'⟩ (a.put d v) w' := by
 cases d with
 | none => exact h.put_none v hr
 | some t => exact h.put t v (by simpa [dok] using ht) hr

abbrev Po := Exit → Sy → Prop
def A19 (Γ : E6) (K : Po) : Exit → Act → World → Prop := fun e a w => ∃ σ, St Γ σ a w ∧ K e σ

structure M3 (P : Program) (Γ : E6) (c : Code) (K : Po) (σ : Sy) : Prop where
 run : ∀ a w, St Γ σ a w → c.wp P (A19 Γ K) a w

structure A0B (P : Program) (Γ : E6) (y : Code) (K : Po) (e : Exit) (σ : Sy) : Prop where
 run : match e with
  | .normal => M3 P Γ y K σ
  | e => K e σ
structure A0C (id : Nat) (K : Po) (e : Exit) (σ : Sy) : Prop where
 run : match e with
  | .exit id' => if id' = id then K .normal σ else K (.exit id') σ
  | e => K e σ

section rules
variable {P : Program} {Γ : E6} {K : Po} {σ : Sy}

theorem A78 {c : Code} {K' : Po} (h : M3 P Γ c K σ) (hk : ∀ e σ, K e σ → K' e σ) : M3 P Γ c K' σ :=
 ⟨fun a w hs => wp_mono (h.run a w hs) fun _ _ _ ⟨s, h1, h2⟩ => ⟨s, h1, hk _ _ h2⟩⟩

theorem tS {x y : Code} (h : M3 P Γ x (A0B P Γ y K) σ) : M3 P Γ (Code.seq x y) K σ := by
 refine ⟨fun a w hs => ?_⟩
 refine wp_seq (wp_mono (h.run a w hs) ?_)
 rintro e a' w' ⟨s, h1, ⟨h2⟩⟩
 cases e <;> first | exact h2.run a' w' h1 | exact ⟨s, h1, h2⟩

theorem tK (h : K .normal σ) : M3 P Γ .skip K σ := ⟨fun _ _ hs => wp_skip ⟨σ, hs, h⟩⟩
theorem tT (h : K .ret σ) : M3 P Γ .ret K σ := ⟨fun _ _ hs => wp_ret ⟨σ, hs, h⟩⟩
theorem A79 {id : Nat} (h : K (.exit id) σ) : M3 P Γ (.exit id) K σ := ⟨fun _ _ hs => wp_exit ⟨σ, hs, h⟩⟩
theorem D0 {id : Nat} {c : Code} (h : M3 P Γ c (A0C id K) σ) : M3 P Γ (.block id c) K σ := by
 refine ⟨fun a w hs => ?_⟩
 refine wp_block (wp_mono (h.run a w hs) ?_)
 rintro e a' w' ⟨s, h1, ⟨h2⟩⟩
 cases e with
 | exit id' =>
  simp only [Exit.inBlock] at h2 ⊢
  split at h2
  ·rename_i hid; simp only [hid, if_true]; exact ⟨s, h1, h2⟩
  ·rename_i hid; simp only [hid, if_false]; exact ⟨s, h1, h2⟩
 | _ => exact ⟨s, h1, h2⟩
theorem qT {c : Operand} {x y : Code} (hc : evo σ.env c = some (.bool true)) (h : M3 P Γ x K σ) : M3 P Γ (.cond c x y) K σ :=
 ⟨fun a w hs => wp_cond_true (hs.evo hc) (h.run a w hs)⟩
theorem cF {c : Operand} {x y : Code} (hc : evo σ.env c = some (.bool false)) (h : M3 P Γ y K σ) : M3 P Γ (.cond c x y) K σ :=
 ⟨fun a w hs => wp_cond_false (hs.evo hc) (h.run a w hs)⟩

structure Sub (σ σ' : Sy) : Prop where
 env : ∀ t v, T1 σ'.env t = some v → T1 σ.env t = some v
 hp : ∃ r, σ.hp.Perm (σ'.hp ++ r)
 G : σ.G = σ'.G
theorem St.sub {a : Act} {w : World} {σ' : Sy} (h : St Γ σ a w) (s : Sub σ σ') : St Γ σ' a w := by
 obtain ⟨r, hr⟩ := s.hp
 exact ⟨h.size, h.nod, fun t v ht => h.env t v (s.env t v ht), by rw [← s.G]; exact (h.res.perm hr).left⟩
structure A8a (K : Po) (Inv : Nat → Sy → Prop) (m : Nat) (e : Exit) (σ : Sy) : Prop where
 run : match e with
  | .normal => ∃ m' σ', m' < m ∧ Sub σ σ' ∧ Inv m' σ'
  | e => K e σ
theorem A8b {c : Code} (Inv : Nat → Sy → Prop) (m : Nat) {σ' : Sy} (hsub : Sub σ σ') (h0 : Inv m σ') (step : ∀ m σ, Inv m σ → M3 P Γ c (A8a K Inv m) σ) :
  M3 P Γ (.loop c) K σ := by
 refine ⟨fun a w hs => ?_⟩
 let μ : Act → World → Nat := fun a w => Classical.epsilon fun m => (∃ σ, St Γ σ a w ∧ Inv m σ) ∧ ∀ k, (∃ σ, St Γ σ a w ∧ Inv k σ) → m ≤ k
 have hμ : ∀ a w, (∃ m σ, St Γ σ a w ∧ Inv m σ) → (∃ σ, St Γ σ a w ∧ Inv (μ a w) σ) ∧ ∀ k, (∃ σ, St Γ σ a w ∧ Inv k σ) → μ a w ≤ k := by
  intro a w ⟨m, hm⟩
  have : ∃ m, (∃ σ, St Γ σ a w ∧ Inv m σ) ∧ ∀ k, (∃ σ, St Γ σ a w ∧ Inv k σ) → m ≤ k := by
   induction m using Nat.strongRecOn with
   | _ m ih =>
    by_cases hh : ∃ k, k < m ∧ ∃ σ, St Γ σ a w ∧ Inv k σ
    ·obtain ⟨k, hk, hs⟩ := hh; exact ih k hk hs
    ·exact ⟨m, hm, fun k hk => Nat.le_of_not_lt fun hlt => hh ⟨k, hlt, hk⟩⟩
  exact Classical.epsilon_spec this
 refine wp_loop (fun a w => ∃ m σ, St Γ σ a w ∧ Inv m σ) μ ⟨m, σ', hs.sub hsub, h0⟩ ?_
 intro a w hI
 obtain ⟨⟨σ1, hs1, hi1⟩, _⟩ := hμ a w hI
 refine wp_mono ((step _ σ1 hi1).run a w hs1) ?_
 rintro e a' w' ⟨s, h1, ⟨h2⟩⟩
 cases e with
 | normal =>
  obtain ⟨m', σ2, hlt, hsb, hinv⟩ := h2
  refine ⟨⟨m', σ2, h1.sub hsb, hinv⟩, Nat.lt_of_le_of_lt ?_ hlt⟩
  exact (hμ a' w' ⟨m', σ2, h1.sub hsb, hinv⟩).2 m' ⟨σ2, h1.sub hsb, hinv⟩
 | _ => exact ⟨s, h1, h2⟩

structure A0D {ι : Type} (K : Po) (S : ι → Sy) (φ : ι → Prop) (μ : ι → Nat) (i : ι) (e : Exit) (σ : Sy) : Prop where
 run : match e with
  | .normal => ∃ j, φ j ∧ μ j < μ i ∧ Sub σ (S j)
  | e => K e σ
theorem O9 {ι : Type} {c : Code} (S : ι → Sy) (φ : ι → Prop) (μ : ι → Nat) (i0 : ι) (hsub : Sub σ (S i0)) (h0 : φ i0) (step : ∀ i, φ i → M3 P Γ c (A0D K S φ μ i) (S i)) :
  M3 P Γ (.loop c) K σ := by
 refine A8b (fun m σ => ∃ i, φ i ∧ m = μ i ∧ σ = S i) (μ i0) hsub ⟨i0, h0, rfl, rfl⟩ ?_
 rintro m σ ⟨i, hi, rfl, rfl⟩
 refine A78 (step i hi) ?_
 rintro e σ ⟨h⟩
 cases e with
 | normal =>
  obtain ⟨j, h1, h2, h3⟩ := h
  exact ⟨⟨μ j, S j, h2, h3, j, h1, rfl, rfl⟩⟩
 | _ => exact ⟨h⟩
theorem P6 {ι : Type} {S : ι → Sy} {φ : ι → Prop} {μ : ι → Nat} {i : ι} {σ : Sy} (j : ι) (hs : Sub σ (S j)) (h : φ j) (hlt : μ j < μ i) : A0D K S φ μ i .normal σ := ⟨j, h, hlt, hs⟩
theorem A8c {ι : Type} {S : ι → Sy} {φ : ι → Prop} {μ : ι → Nat} {i : ι} {σ : Sy} (h : K .ret σ) : A0D K S φ μ i .ret σ := ⟨h⟩
theorem A8d {ι : Type} {S : ι → Sy} {φ : ι → Prop} {μ : ι → Nat} {i : ι} {σ : Sy} {id : Nat} (h : K (.exit id) σ) : A0D K S φ μ i (.exit id) σ := ⟨h⟩
theorem A8e {ι : Type} {S : ι → Sy} {φ : ι → Prop} {μ : ι → Nat} {i : ι} (h : ∀ c σ, ¬ K (.panic c) σ) : ∀ c σ, ¬ A0D K S φ μ i (.panic c) σ := fun c σ hk => h c σ hk.run

end rules

def A2a (e : F9) (a : Act) : Prop := ∀ t v, T1 e t = some v → a.tmps.getD t undef = v

def J0 (ops : Array Oper) (e : F9) : Option (Nat × Bool) → Option Bool
 | none => some true
 | some (j, want) => match (ops[j]?).bind (·.dst) with
  | some t => match T1 e t with
   | some (.bool b) => some (b == want)
   | some (.tuple _) => some false
   | _ => none
  | none => none

theorem A0E {ops : Array Oper} {e : F9} {a : Act} (h : A2a e a) {d : Option Tmp} {op : Op} {ty : TypeId} {pos : String} {af : Array Edge} {gd : Option (Nat × Bool)} {r : Bool}
  (hg : J0 ops e gd = some r) : Region.wanted ⟨d, op, ty, pos, af, gd⟩ (yielded ops a.tmps) = r := by
 cases gd with
 | none => simp [J0] at hg; subst hg; rfl
 | some jw =>
  obtain ⟨j, want⟩ := jw
  simp only [J0] at hg
  split at hg
  ·rename_i t ht
   split at hg
   ·rename_i b hb
    simp at hg; subst hg
    have hv := h t _ hb
    have hs : a.tmps[t]? = some (.bool b) := by
     cases hx : a.tmps[t]? with
     | none => simp [Array.getD_eq_getD_getElem?, hx, undef] at hv
     | some u => simp [Array.getD_eq_getD_getElem?, hx] at hv; rw [hv]
    simp [Region.wanted, yielded, ht, hs]
   ·rename_i b hb
    simp at hg; subst hg
    have hv := h t _ hb
    cases hx : a.tmps[t]? with
    | none => simp [Region.wanted, yielded, ht, hx]
    | some u =>
     simp [Array.getD_eq_getD_getElem?, hx] at hv
     simp [Region.wanted, yielded, ht, hx, hv]
   ·cases hg
  ·cases hg

structure C9 (P : Program) (Γ : E6) (σ : Sy) (op : Op) (ty : TypeId) (v : Value) : Prop where
 run : ∀ a w0, St Γ σ a w0 → ∀ d pos af gd w, (execOp a.eval ⟨d, op, ty, pos, af, gd⟩).run P w = .ok (.value v) w

structure A0F (P : Program) (Γ : E6) (σ : Sy) (op : Op) (ty : TypeId) (b : Nat) (v : Value) : Prop where
 run : ∀ a w, St Γ σ a w → b < w.heap.size ∧ ∀ w', w'.heap[b]? = w.heap[b]? → ∀ d pos af gd, (execOp a.eval ⟨d, op, ty, pos, af, gd⟩).run P w' = .ok (.value v) w'

structure T3 (P : Program) (Γ : E6) (σ : Sy) (d : Option Tmp) (op : Op) (ty : TypeId) (mods : List Nat) (K' : Sy → Prop) : Prop where
 run : ∀ a w, St Γ σ a w → ∀ pos af gd (Q : Exit → Act → World → Prop) (next : Act → World → Prop),
  (∀ a' w' σ', St Γ σ' a' w' → X3 mods w w' → K' σ' → next a' w') → (⟨d, op, ty, pos, af, gd⟩ : Oper).wp P a w next Q

def wpL (P : Program) (ops : Array Oper) (Q : Exit → Act → World → Prop) : List Oper → Act → World → Prop
 | [], a, w => Q .normal a w
 | o :: r, a, w => if Region.wanted o (yielded ops a.tmps) then o.wp P a w (wpL P ops Q r) Q ∨ (o.asks P a w ∧ LetsOut Q) else wpL P ops Q r (a.put o.dst undef) w

theorem A3t {P : Program} {ops : Array Oper} {Q : Exit → Act → World → Prop} : ∀ (os : List Oper) (is : List Nat) (a : Act) (w : World),
  is.map (ops[·]?) = os.map some → wpL P ops Q os a w → wpOps P ops Q is a w
 | [], [], _, _, _, h => h
 | [], _ :: _, _, _, hm, _ => by simp at hm
 | _ :: _, [], _, _, hm, _ => by simp at hm
 | o :: os, i :: is, a, w, hm, h => by
  simp only [List.map_cons, List.cons.injEq] at hm
  rw [wpOps_cons]
  unfold wpOp
  simp only [hm.1]
  simp only [wpL] at h
  split
  ·rename_i hw
   simp only [hw, if_true] at h
   exact h.imp (Oper.wp_mono fun a w => A3t os is a w hm.2) id
  ·rename_i hw
   simp only [hw] at h
   exact A3t os is _ w hm.2 h

structure C4 (P : Program) (Γ : E6) (ops : Array Oper) (rest : List Oper) (K : Po) (σ : Sy) : Prop where
 run : ∀ a w, St Γ σ a w → wpL P ops (A19 Γ K) rest a w

section seq
variable {P : Program} {Γ : E6} {K : Po} {ops : Array Oper} {rest : List Oper} {env : F9} {hp : List A1} {G : IM}
variable {op : Op} {ty : TypeId} {pos : String} {af : Array Edge} {gd : Option (Nat × Bool)}

theorem tR {id : Nat} {os : List Oper} {σ : Sy} (h : C4 P Γ ⟨os⟩ os K σ) : M3 P Γ (.region id ⟨os⟩ false) K σ := by
 refine ⟨fun a w hs => ?_⟩
 refine wp_region (A3t os _ a w ?_ (h.run a w hs))
 apply List.ext_getElem?
 intro i
 by_cases hi : i < os.length
 ·simp [hi]
 ·simp [hi]

theorem sD {σ : Sy} (h : K .normal σ) : C4 P Γ ops [] K σ := ⟨fun _ _ hs => ⟨σ, hs, h⟩⟩

theorem sP {d : Nat} {v : Value} (h : C9 P Γ ⟨env, hp, G⟩ op ty v) (hw : J0 ops env gd = some true) (hd : Nat.blt d Γ.n = true)
  (k : C4 P Γ ops rest K ⟨(d, v) :: env, hp, G⟩) : C4 P Γ ops (⟨some d, op, ty, pos, af, gd⟩ :: rest) K ⟨env, hp, G⟩ := by
 refine ⟨fun a w hs => ?_⟩
 have he : A2a env a := hs.env
 simp only [wpL, A0E he hw, if_true]
 refine .inl ?_
 simp only [Oper.wp, h.run a w hs, Oper.upon]
 exact k.run _ _ (hs.put d v (by simpa using hd) hs.res)

theorem sQ {d : Nat} {v : Value} (h : C9 P Γ ⟨env, hp, G⟩ op ty v) (hw : (J0 ops env gd, Nat.blt d Γ.n) = (some true, true))
 (k : C4 P Γ ops rest K ⟨(d, v) :: env, hp, G⟩) : C4 P Γ ops (⟨some d, op, ty, pos, af, gd⟩ :: rest) K ⟨env, hp, G⟩ := sP h (congrArg Prod.fst hw) (congrArg Prod.snd hw) k
theorem sL {d b : Nat} {v : Value} (h : A0F P Γ ⟨env, hp, G⟩ op ty b v) (hw : J0 ops env gd = some true) (hd : Nat.blt d Γ.n = true)
  (k : C4 P Γ ops rest K ⟨(d, v) :: env, hp, G⟩) : C4 P Γ ops (⟨some d, op, ty, pos, af, gd⟩ :: rest) K ⟨env, hp, G⟩ := by
 refine ⟨fun a w hs => ?_⟩
 have he : A2a env a := hs.env
 simp only [wpL, A0E he hw, if_true]
 refine .inl ?_
 simp only [Oper.wp, (h.run a w hs).2 w rfl, Oper.upon]
 exact k.run _ _ (hs.put d v (by simpa using hd) hs.res)

theorem F3 {d : Option Nat} {mods : List Nat} {K' : Sy → Prop} {σ : Sy} (h : T3 P Γ σ d op ty mods K') (hw : J0 ops σ.env gd = some true)
  (k : ∀ σ', K' σ' → C4 P Γ ops rest K σ') : C4 P Γ ops (⟨d, op, ty, pos, af, gd⟩ :: rest) K σ := by
 refine ⟨fun a w hs => ?_⟩
 have he : A2a σ.env a := hs.env
 simp only [wpL, A0E he hw, if_true]
 exact .inl (h.run a w hs pos af gd _ _ fun a' w' σ' h1 _ h3 => (k σ' h3).run a' w' h1)

theorem sE {d : Option Nat} {F : List Nat} {S : Nat → Sy} (h : T3 P Γ ⟨env, hp, G⟩ d op ty F (fun s => ∃ b, s = S b)) (hw : J0 ops env gd = some true) (k : ∀ b, C4 P Γ ops rest K (S b)) : C4 P Γ ops (⟨d, op, ty, pos, af, gd⟩ :: rest) K ⟨env, hp, G⟩ :=
 F3 h hw (by rintro _ ⟨b, rfl⟩; exact k b)
theorem sK {d : Nat} (hw : J0 ops env gd = some false) (hd : Nat.blt d Γ.n = true)
  (k : C4 P Γ ops rest K ⟨(d, undef) :: env, hp, G⟩) : C4 P Γ ops (⟨some d, op, ty, pos, af, gd⟩ :: rest) K ⟨env, hp, G⟩ := by
 refine ⟨fun a w hs => ?_⟩
 have he : A2a env a := hs.env
 simp only [wpL, A0E he hw, Bool.false_eq_true, if_false]
 exact k.run _ _ (hs.put d undef (by simpa using hd) hs.res)
theorem sB {d : Nat} {p : Prop} [Decidable p] (h : C9 P Γ ⟨env, hp, G⟩ op ty (.bool (decide p))) (hw : J0 ops env gd = some true) (hd : Nat.blt d Γ.n = true)
  (kt : p → C4 P Γ ops rest K ⟨(d, .bool true) :: env, hp, G⟩) (kf : ¬ p → C4 P Γ ops rest K ⟨(d, .bool false) :: env, hp, G⟩) :
  C4 P Γ ops (⟨some d, op, ty, pos, af, gd⟩ :: rest) K ⟨env, hp, G⟩ := by
 by_cases hpp : p
 ·exact sP (by rw [decide_eq_true hpp] at h; exact h) hw hd (kt hpp)
 ·exact sP (by rw [decide_eq_false hpp] at h; exact h) hw hd (kf hpp)

end seq

structure Y9 where
 i : Nat
 b : Nat
 o : Obj

def A2b (ops : Array Oper) : Nat → Nat → Nat → Bool
 | 0, _, _ => false
 | n + 1, j, i => match ops[j]? with | some oj => oj.after.any (fun e => Region.binds .any e && (e.on == i || A2b ops n e.on i)) | none => false
def U4 (ops : Array Oper) (j i : Nat) : Bool := A2b ops 4 j i
def DC (ops : Array Oper) (listed : Array Bool) : Prop := ∀ j, listed.getD j false = true → ∀ o, ops[j]? = some o → ∀ e ∈ o.after, Region.binds .any e = true → listed.getD e.on false = true
theorem DC.dep {ops : Array Oper} {listed : Array Bool} (h : DC ops listed) : ∀ (n j i : Nat), (∀ o, ops[j]? = some o → ∀ e ∈ o.after, Region.binds .any e = true → listed.getD e.on false = true) → A2b ops n j i = true → listed.getD i false = true
 | 0, _, _, _, hd => by simp [A2b] at hd
 | n + 1, j, i, hj, hd => by
  simp only [A2b] at hd
  cases ho : ops[j]? with
  | none => simp [ho] at hd
  | some o =>
   simp only [ho] at hd
   obtain ⟨e, he, hb⟩ := Array.any_eq_true'.1 hd
   simp only [Bool.and_eq_true, Bool.or_eq_true, beq_iff_eq] at hb
   have hl := hj o ho e he hb.1
   rcases hb.2 with h1 | h1
   ·rw [← h1]; exact hl
   ·exact h.dep n e.on i (h e.on hl) h1
theorem DC.step {ops : Array Oper} {listed : Array Bool} (h : DC ops listed) {j : Nat} (hr : j ∈ Region.ready .any ops listed) : DC ops (listed.setIfInBounds j true) := by
 intro k hk o ho e he hb
 refine getD_set_true ?_
 by_cases hkj : j = k
 ·subst hkj
  obtain ⟨_, o', ho', hall⟩ := mem_ready.1 hr
  rw [ho] at ho'; cases ho'
  exact hall e he hb
 ·rw [getD_set_ne false hkj] at hk
  exact h k hk o ho e he hb
def Hn (ops : Array Oper) (j : Nat) (H : List Y9) : List Y9 := H.filter fun h => !U4 ops j h.i

def wpG (P : Program) (ops : Array Oper) (Q : Exit → Act → World → Prop) : Nat → List Y9 → Array Bool → Act → World → Prop
 | 0, _, listed, a, w => Region.ready .any ops listed = [] ∧ Q .normal a w
 | fuel + 1, H, listed, a, w =>
  (Region.ready .any ops listed = [] → Q .normal a w) ∧
  ∀ j ∈ Region.ready .any ops listed, wpOp P ops Q j (fun a' w' => (∀ h ∈ Hn ops j H, w'.heap[h.b]? = some h.o) ∧ wpG P ops Q fuel (Hn ops j H) (listed.setIfInBounds j true) a' w') a w

section draw
variable {P : Program} {ops : Array Oper} {Q : Exit → Act → World → Prop}

theorem A4T : ∀ (fuel : Nat) (H : List Y9) (listed : Array Bool) (a : Act) (w : World), wpG P ops Q fuel H listed a w → wpAny P .any ops Q fuel listed a w
 | 0, _, _, _, _, h => h
 | fuel + 1, _, _, _, _, h => ⟨h.1, fun j hj => wpOp_mono (fun a' w' h' => A4T fuel _ _ a' w' h'.2) (h.2 j hj)⟩

theorem A4U {j : Nat} {H H' : List Y9} (h : ∀ x ∈ H', x ∈ H) : ∀ x ∈ Hn ops j H', x ∈ Hn ops j H := by
 intro x hx
 simp only [Hn, List.mem_filter] at hx ⊢
 exact ⟨h x hx.1, hx.2⟩
theorem A3u : ∀ (fuel : Nat) {H H' : List Y9} (_ : ∀ x ∈ H', x ∈ H) (listed : Array Bool) (a : Act) (w : World), wpG P ops Q fuel H listed a w → wpG P ops Q fuel H' listed a w
 | 0, _, _, _, _, _, _, h => h
 | fuel + 1, _, _, hs, _, _, _, h => ⟨h.1, fun j hj => wpOp_mono (fun _ _ h' => ⟨fun x hx => h'.1 x (A4U hs x hx), A3u fuel (A4U hs) _ _ _ h'.2⟩) (h.2 j hj)⟩

theorem A8f {i : Nat} {oi : Oper} {v : Value} {S : World → Prop} {Hx : List Y9} (hi : ops[i]? = some oi) (hsel : ∀ (j : Nat) (o : Oper) cs b, ops[j]? = some o → o.op ≠ .select cs b)
  (hQ : ∀ c a w, Q (.panic c) (a.put oi.dst v) w → Q (.panic c) a w) (hxi : ∀ h ∈ Hx, h.i = i) (hxs : ∀ w : World, (∀ h ∈ Hx, w.heap[h.b]? = some h.o) → S w) :
  ∀ (fuel : Nat) (H : List Y9) (listed : Array Bool) (a : Act) (w : World), DC ops listed →
   (∀ j oj, ops[j]? = some oj → j ≠ i → listed.getD j true = false → (∀ e ∈ oj.after, Region.binds .any e = true → e.on ≠ i) → oi.apart ops oj = true) →
   i ∈ Region.ready .any ops listed → YieldsIf P ops S oi v a →
   wpG P ops Q fuel (Hx ++ H) (listed.setIfInBounds i true) (a.put oi.dst v) w → (∀ h ∈ Hx ++ H, w.heap[h.b]? = some h.o) → wpG P ops Q (fuel + 1) H listed a w := by
 intro fuel
 induction fuel with
 | zero =>
  intro H listed a w _ _ hr hy HH hH
  refine ⟨fun h => (by rw [h] at hr; cases hr), fun j hj => ?_⟩
  by_cases hji : j = i
  ·subst hji
   exact hy.wpOp hi (hxs w fun h hh => hH h (List.mem_append_left _ hh)) ⟨fun h hh => hH h (List.mem_append_right _ (List.mem_filter.1 hh).1), HH⟩
  ·have := ready_mono hj hji
   rw [HH.1] at this
   cases this
 | succ fuel ih =>
  intro H listed a w hdc hfree hr hy HH hH
  refine ⟨fun h => (by rw [h] at hr; cases hr), fun j hj => ?_⟩
  by_cases hji : j = i
  ·subst hji
   refine hy.wpOp hi (hxs w fun h hh => hH h (List.mem_append_left _ hh)) ⟨fun h hh => hH h (List.mem_append_right _ (List.mem_filter.1 hh).1), ?_⟩
   exact A3u _ (fun x hx => List.mem_append_right _ (List.mem_filter.1 hx).1) _ _ _ HH
  ·have h1 := HH.2 j (ready_mono hj hji)
   obtain ⟨hjun, oj, hoj, hall⟩ := mem_ready.1 hj
   have hnot : ∀ e ∈ oj.after, Region.binds .any e = true → e.on ≠ i := fun e he hb heq => by
    have h1 := hall e he hb
    have h0 := (mem_ready.1 hr).1
    rw [heq] at h1
    rcases Nat.lt_or_ge i listed.size with h' | h'
    ·simp [h'] at h0 h1; rw [h0] at h1; cases h1
    ·simp [Array.getElem?_eq_none h'] at h1
   have hnodep : U4 ops j i = false := by
    cases hdd : U4 ops j i with
    | false => rfl
    | true =>
     have h1 := hdc.dep 4 j i (fun o ho e he hb => by rw [hoj] at ho; cases ho; exact hall e he hb) hdd
     have h0 := (mem_ready.1 hr).1
     rcases Nat.lt_or_ge i listed.size with h' | h'
     ·simp [h'] at h0 h1; rw [h0] at h1; cases h1
     ·simp [Array.getElem?_eq_none h'] at h1
   have hHn : Hn ops j (Hx ++ H) = Hx ++ Hn ops j H := by
    simp only [Hn, List.filter_append]
    congr 1
    rw [List.filter_eq_self]
    intro x hx
    rw [hxi x hx, hnodep]; rfl
   rw [hHn] at h1
   have h2 := wpOp_putIf hoj (hfree j oj hoj hji hjun hnot) (fun cs b => hsel i oi cs b hi) (fun cs b => hsel j oj cs b hoj) hQ hy h1
   have hfree' : ∀ k ok, ops[k]? = some ok → k ≠ i → (listed.setIfInBounds j true).getD k true = false →
     (∀ e ∈ ok.after, Region.binds .any e = true → e.on ≠ i) → oi.apart ops ok = true := fun k ok hk hki hun hno => by
    refine hfree k ok hk hki ?_ hno
    by_cases hjk : j = k
    ·subst hjk; exact hjun
    ·rw [getD_set_ne true hjk] at hun; exact hun
   refine wpOp_mono (fun a' w' h3 => ?_) h2
   obtain ⟨hy', hkeeps, hrest⟩ := h3
   refine ⟨fun h hh => hkeeps h (List.mem_append_right _ hh), ?_⟩
   refine ih (Hn ops j H) (listed.setIfInBounds j true) a' w' (hdc.step hj) hfree' (ready_mono hr (Ne.symm hji)) hy' ?_ hkeeps
   rw [Array.setIfInBounds_comm _ _ hji]
   exact hrest
end draw

structure L6 (P : Program) (Γ : E6) (ops : Array Oper) (K : Po) (H : List (Nat × Nat)) (fuel : Nat) (listed : List Bool) (σ : Sy) : Prop where
 run : ∀ a w, St Γ σ a w → ∀ Hs : List Y9, (Hs.map fun h => (h.i, h.b)) = H → (∀ h ∈ Hs, w.heap[h.b]? = some h.o) → DC ops listed.toArray → wpG P ops (A19 Γ K) fuel Hs listed.toArray a w

def V8 (K : Po) : Prop := ∀ c σ, ¬ K (.panic c) σ

section anyrules
variable {P : Program} {Γ : E6} {K : Po} {ops : Array Oper} {H : List (Nat × Nat)} {env : F9} {hp : List A1} {G : IM} {fuel : Nat} {listed l' : List Bool}
variable {op : Op} {ty : TypeId} {pos : String} {af : Array Edge} {gd : Option (Nat × Bool)}

theorem St.drawn {σ : Sy} {a : Act} {w : World} (h : St Γ σ a w) (n : Nat) : St Γ σ a { w with drawn := n } := by
 have e : ∀ k : Nat, ({ w with drawn := n } : World).heap[k]? = w.heap[k]? := fun _ => rfl
 refine ⟨h.size, h.nod, h.env, ⟨⟨h.res.own.inn, fun x hx => A1.ok_ext (h.res.own.ok x hx) fun b _ => e b, h.res.own.nodup, h.res.own.disj⟩, ⟨h.res.ext.os, h.res.ext.tape, h.res.ext.output, h.res.ext.size, h.res.ext.block⟩, h.res.le, h.res.fresh, h.res.ofresh, h.res.fz⟩⟩

theorem A8g {ι : Type} {S : ι → Sy} {φ : ι → Prop} {μ : ι → Nat} {i : ι} (h : V8 K) : V8 (A0D K S φ μ i) := A8e h

theorem K7 {id : Nat} {σ : Sy} (hm : P.follows .mixedOrders = true) {n : Nat} (hn : ops.size = n) (h : L6 P Γ ops K [] n (List.replicate n false) σ) : M3 P Γ (.region id ops true) K σ := by
 refine ⟨fun a w hs => ?_⟩
 refine wp_region_any hm ?_
 rw [hn]
 have := h.run a { w with drawn := w.drawn + 1 } (hs.drawn _) [] rfl (by simp) (by
  intro j hj
  exfalso
  simp only [List.toArray_replicate] at hj
  by_cases hjn : j < n
  ·simp [hjn] at hj
  ·simp [hjn] at hj)
 have h2 := A4T _ _ _ _ _ this
 simpa using h2

theorem aD {σ : Sy} (hr : Region.ready .any ops listed.toArray = []) (h : K .normal σ) : L6 P Γ ops K H fuel listed σ := by
 refine ⟨fun a w hs Hs _ _ _ => ?_⟩
 cases fuel with
 | zero => exact ⟨hr, σ, hs, h⟩
 | succ f => exact ⟨fun _ => ⟨σ, hs, h⟩, by rw [hr]; simp⟩

def A0G (ops : Array Oper) (listed : List Bool) (i : Nat) : Bool :=
 Region.noSelect ops && Region.free .any ops listed.toArray i && (Region.ready .any ops listed.toArray).contains i

theorem A3v {i : Nat} {d : Option Nat} {v : Value} {Hx : List (Nat × Nat)} (hi : ops[i]? = some ⟨d, op, ty, pos, af, gd⟩) (hK : V8 K) {σ σ' : Sy}
  (hxi : ∀ h ∈ Hx, h.1 = i)
  (hy : ∀ a w, St Γ σ a w → ∃ Hr : List Y9, (Hr.map fun h => (h.i, h.b)) = Hx ∧ (∀ h ∈ Hr, w.heap[h.b]? = some h.o) ∧ ∃ S : World → Prop, (∀ w : World, (∀ h ∈ Hr, w.heap[h.b]? = some h.o) → S w) ∧ YieldsIf P ops S ⟨d, op, ty, pos, af, gd⟩ v a)
  (hput : ∀ a w, St Γ σ a w → St Γ σ' (a.put d v) w)
  (hq : A0G ops listed i = true) (hl : listed.set i true = l')
  (k : L6 P Γ ops K (Hx ++ H) fuel l' σ') : L6 P Γ ops K H (fuel + 1) listed σ := by
 refine ⟨fun a w hs Hs hHs hall hdc => ?_⟩
 simp only [A0G, Bool.and_eq_true] at hq
 obtain ⟨⟨hs1, hs2⟩, hs3⟩ := hq
 obtain ⟨Hr, hr1, hr2, S', hS', hyi⟩ := hy a w hs
 have hall' : ∀ h ∈ Hr ++ Hs, w.heap[h.b]? = some h.o := by
  intro x hx
  rcases List.mem_append.1 hx with hx | hx
  ·exact hr2 x hx
  ·exact hall x hx
 refine A8f hi (Region.noSelect_spec hs1) (by rintro c a w ⟨σ, _, hh⟩; exact absurd hh (hK c σ)) (Hx := Hr) ?_ hS' fuel Hs listed.toArray a w hdc
  (Region.free_spec hi hs2) (by simpa using hs3) hyi ?_ hall'
 ·intro h hh
  exact hxi (h.i, h.b) (by rw [← hr1]; exact List.mem_map.2 ⟨h, hh, rfl⟩)
 ·have := k.run (a.put d v) w (hput a w hs) (Hr ++ Hs) (by simp [hr1, hHs]) hall' (by rw [← hl]; simpa using hdc.step (j := i) (by simpa using hs3))
  rw [← hl] at this
  simpa using this

theorem A4V {i d b : Nat} {v : Value} (hi : ops[i]? = some ⟨some d, op, ty, pos, af, gd⟩) (hK : V8 K)
  (h : A0F P Γ ⟨env, hp, G⟩ op ty b v) (hw : J0 ops env gd = some true) (hq : A0G ops listed i = true) (hd : Nat.blt d Γ.n = true)
  (hl : listed.set i true = l')
  (k : L6 P Γ ops K ((i, b) :: H) fuel l' ⟨(d, v) :: env, hp, G⟩) : L6 P Γ ops K H (fuel + 1) listed ⟨env, hp, G⟩ := by
 refine A3v (Hx := [(i, b)]) hi hK (by simp) ?_ (fun a w hs => hs.put d v (by simpa using hd) hs.res) hq hl k
 intro a w hs
 obtain ⟨hb, hrun⟩ := h.run a w hs
 have hob : w.heap[b]? = some w.heap[b] := Array.getElem?_eq_getElem hb
 refine ⟨[⟨i, b, w.heap[b]⟩], rfl, by simp, fun w' => w'.heap[b]? = some w.heap[b], fun w' h => h _ List.mem_cons_self, .inl ⟨A0E hs.env hw, fun w' hw' => hrun w' (by rw [hw', hob]) _ _ _ _⟩⟩

theorem I0 {i d : Nat} {v : Value} (hi : ops[i]? = some ⟨some d, op, ty, pos, af, gd⟩) (hK : V8 K)
  (h : C9 P Γ ⟨env, hp, G⟩ op ty v) (hw : J0 ops env gd = some true) (hq : A0G ops listed i = true) (hd : Nat.blt d Γ.n = true)
  (hl : listed.set i true = l')
  (k : L6 P Γ ops K H fuel l' ⟨(d, v) :: env, hp, G⟩) : L6 P Γ ops K H (fuel + 1) listed ⟨env, hp, G⟩ := by
 refine A3v (Hx := []) hi hK (by simp) ?_ (fun a w hs => hs.put d v (by simpa using hd) hs.res) hq hl k
 intro a w hs
 exact ⟨[], rfl, by simp, fun _ => True, fun _ _ => trivial, .inl ⟨A0E hs.env hw, fun w' _ => h.run a w hs _ _ _ _ w'⟩⟩

theorem aK {i d : Nat} (hi : ops[i]? = some ⟨some d, op, ty, pos, af, gd⟩) (hK : V8 K)
  (hw : J0 ops env gd = some false) (hq : A0G ops listed i = true) (hd : Nat.blt d Γ.n = true)
  (hl : listed.set i true = l')
  (k : L6 P Γ ops K H fuel l' ⟨(d, undef) :: env, hp, G⟩) : L6 P Γ ops K H (fuel + 1) listed ⟨env, hp, G⟩ := by
 refine A3v (Hx := []) hi hK (by simp) ?_ (fun a w hs => hs.put d undef (by simpa using hd) hs.res) hq hl k
 intro a w hs
 exact ⟨[], rfl, by simp, fun _ => True, fun _ _ => trivial, .inr ⟨A0E hs.env hw, rfl⟩⟩

theorem X4 {i d : Nat} {p : Prop} [Decidable p] (hi : ops[i]? = some ⟨some d, op, ty, pos, af, gd⟩) (hK : V8 K)
  (h : C9 P Γ ⟨env, hp, G⟩ op ty (.bool (decide p))) (hw : J0 ops env gd = some true) (hq : A0G ops listed i = true) (hd : Nat.blt d Γ.n = true)
  (hl : listed.set i true = l')
  (kt : p → L6 P Γ ops K H fuel l' ⟨(d, .bool true) :: env, hp, G⟩) (kf : ¬ p → L6 P Γ ops K H fuel l' ⟨(d, .bool false) :: env, hp, G⟩) :
  L6 P Γ ops K H (fuel + 1) listed ⟨env, hp, G⟩ := by
 by_cases hpp : p
 ·exact I0 hi hK (by rw [decide_eq_true hpp] at h; exact h) hw hq hd hl (kt hpp)
 ·exact I0 hi hK (by rw [decide_eq_false hpp] at h; exact h) hw hq hd hl (kf hpp)

structure U5 (P : Program) (Γ : E6) (ops : Array Oper) (K : Po) (H : List (Nat × Nat)) (fuel : Nat) (listed : List Bool) (j : Nat) (σ : Sy) : Prop where
 run : ∀ a w, St Γ σ a w → ∀ Hs : List Y9, (Hs.map fun h => (h.i, h.b)) = H → (∀ h ∈ Hs, w.heap[h.b]? = some h.o) → DC ops listed.toArray → j ∈ Region.ready .any ops listed.toArray →
  wpOp P ops (A19 Γ K) j (fun a' w' => (∀ h ∈ Hn ops j Hs, w'.heap[h.b]? = some h.o) ∧ wpG P ops (A19 Γ K) fuel (Hn ops j Hs) (listed.toArray.setIfInBounds j true) a' w') a w

theorem aO {j : Nat} {σ : Sy} (hr : Region.ready .any ops listed.toArray = [j]) (h : U5 P Γ ops K H fuel listed j σ) : L6 P Γ ops K H (fuel + 1) listed σ := by
 refine ⟨fun a w hs Hs hHs hall hdc => ?_⟩
 refine ⟨fun h0 => (by rw [hr] at h0; cases h0), fun k hk => ?_⟩
 have hk' := hk
 rw [hr] at hk
 simp at hk; subst hk
 exact h.run a w hs Hs hHs hall hdc hk'
theorem A8h {j : Nat} {d : Option Nat} {mods : List Nat} {K' : Sy → Prop} {σ : Sy} (hi : ops[j]? = some ⟨d, op, ty, pos, af, gd⟩)
  (h : T3 P Γ σ d op ty mods K') (hw : J0 ops σ.env gd = some true) (hl : listed.set j true = l')
  (hm : ∀ p ∈ H, U4 ops j p.1 = true ∨ p.2 ∉ mods)
  (k : ∀ σ', K' σ' → L6 P Γ ops K (H.filter fun p => !U4 ops j p.1) fuel l' σ') : U5 P Γ ops K H fuel listed j σ := by
 refine ⟨fun a w hs Hs hHs hall hdc hrd => ?_⟩
 unfold wpOp
 simp only [hi, A0E hs.env hw, if_true]
 refine .inl (h.run a w hs pos af gd _ _ fun a' w' σ' h1 h2 h3 => ?_)
 have hkeep : ∀ h ∈ Hn ops j Hs, w'.heap[h.b]? = some h.o := by
  intro x hx
  obtain ⟨hx1, hx2⟩ := List.mem_filter.1 hx
  have hp : (x.i, x.b) ∈ H := by rw [← hHs]; exact List.mem_map.2 ⟨x, hx1, rfl⟩
  have ho := hall x hx1
  rcases hm _ hp with h | h
  ·simp [h] at hx2
  ·rw [h2.block x.b (W6 ho) h, ho]
 refine ⟨hkeep, ?_⟩
 have := (k σ' h3).run a' w' h1 (Hn ops j Hs) (by
  subst hHs
  simp [Hn, List.filter_map, Function.comp_def]) hkeep (by rw [← hl]; simpa using hdc.step hrd)
 rw [← hl] at this
 simpa using this

end anyrules

structure K1 where
 size : Nat
 bytes : Nat
 zs : List Value
 desc : TypeDesc

class E8 (P : Program) (t : TypeId) (i : outParam K1) : Prop where
 info : ∃ inf, P.info? t = some inf ∧ inf.size = i.size ∧ inf.bytes = i.bytes ∧ ∃ z, inf.zero = some z ∧ z.cells = ⟨i.zs⟩
 und : P.underlying t = some i.desc

class W7 (P : Program) (t : TypeId) (sz : outParam Nat) (bytes : outParam Nat) (zs : outParam (List Value)) : Prop where
 ok : ∃ d, E8 P t ⟨sz, bytes, zs, d⟩
 len : zs.length = sz

def A0H : TypeDesc → Bool
 | .struct _ | .array _ _ => true
 | _ => false

theorem A4W {P : Program} {t : TypeId} {d : TypeDesc} (h : P.underlying t = some d) (w : World) : (isAgg t).run P w = .ok (A0H d) w := by
 simp only [isAgg, Sem.run_bind, run_underlying h, Result.andThen_ok]
 cases d <;> rfl

class V9 (P : Program) (s : TypeId) (f : Nat) (off : outParam Nat) (sz : outParam Nat) (agg : outParam Bool) : Prop where
 ok : ∃ fs fl d inf, P.underlying s = some (.struct fs) ∧ fs[f]? = some fl ∧ fl.offset = off ∧ P.info? fl.type = some inf ∧ inf.size = sz ∧ sz ≠ 0 ∧ P.underlying fl.type = some d ∧ A0H d = agg

class A8 (P : Program) (f : FuncId) : Prop where
 ok : ∃ fn, P.funcs[f]? = some fn ∧ fn.body.isNone = false ∧ (fn.name == "runtime.NumGoroutine") = false

def Z0 : List Value → Nat → Nat → Option (List Value)
 | _, 0, 0 => some []
 | [], _, _ => none
 | _ :: r, off + 1, n => Z0 r off n
 | v :: r, 0, n + 1 => match Z0 r 0 n with
  | some l => some (v :: l)
  | none => none

theorem A2I : ∀ {cs : List Value} {off n : Nat} {vs : List Value}, Z0 cs off n = some vs → vs.length = n ∧ ∀ j v, vs[j]? = some v → cs[off + j]? = some v
 | cs, 0, 0, vs, h => by cases cs <;> (simp [Z0] at h; subst h; simp)
 | [], 0, n + 1, vs, h => by simp [Z0] at h
 | [], off + 1, n, vs, h => by cases n <;> simp [Z0] at h
 | c :: r, off + 1, n, vs, h => by
  have h' : Z0 r off n = some vs := by cases n <;> simpa [Z0] using h
  obtain ⟨h1, h2⟩ := A2I h'
  exact ⟨h1, fun j v hv => by have := h2 j v hv; rw [show off + 1 + j = (off + j) + 1 by omega]; simpa using this⟩
 | c :: r, 0, n + 1, vs, h => by
  simp only [Z0] at h
  split at h
  ·rename_i l hl
   simp at h; subst h
   obtain ⟨h1, h2⟩ := A2I hl
   refine ⟨by simp [h1], fun j v hv => ?_⟩
   cases j with
   | zero => simpa using hv
   | succ j => have := h2 j v (by simpa using hv); simpa using this
  ·cases h

section laws
variable {P : Program} {Γ : E6} {env : F9} {hp : List A1} {G : IM} {ty : TypeId}

theorem qM {x : Operand} {v : Value} (h : evo env x = some v) : C9 P Γ ⟨env, hp, G⟩ (.move x) ty v :=
 by refine ⟨?_⟩; exact fun a _ hs _ _ _ _ w => by simp [execOp, (hs.evo h : a.eval x = v)]
theorem qA {x : Operand} {v : Value} (h : evo env x = some v) : C9 P Γ ⟨env, hp, G⟩ (.assign x) ty v :=
 by refine ⟨?_⟩; exact fun a _ hs _ _ _ _ w => by simp [execOp, (hs.evo h : a.eval x = v)]
theorem I4 {c x y : Operand} {v : Value} (hc : evo env c = some (.bool true)) (h : evo env x = some v) : C9 P Γ ⟨env, hp, G⟩ (.pick c x y) ty v :=
 by refine ⟨?_⟩; exact fun a _ hs _ _ _ _ w => by simp [execOp, asBool, (hs.evo hc : a.eval c = _), (hs.evo h : a.eval x = v)]
theorem L7 {c x y : Operand} {v : Value} (hc : evo env c = some (.bool false)) (h : evo env y = some v) : C9 P Γ ⟨env, hp, G⟩ (.pick c x y) ty v :=
 by refine ⟨?_⟩; exact fun a _ hs _ _ _ _ w => by simp [execOp, asBool, (hs.evo hc : a.eval c = _), (hs.evo h : a.eval y = v)]
theorem A4X {x : Operand} {t : TypeId} {b : Bool} (h : evo env x = some (.bool b)) : C9 P Γ ⟨env, hp, G⟩ (.unOp .not t x) ty (.bool !b) :=
 by refine ⟨?_⟩; exact fun a _ hs _ _ _ _ w => by simp [execOp, Op.unary, (hs.evo h : a.eval x = _)]
theorem X5 {x : Operand} {t : TypeId} (h : evo env x = some (.bool true)) : C9 P Γ ⟨env, hp, G⟩ (.unOp .not t x) ty (.bool false) := A4X h
theorem pNf {x : Operand} {t : TypeId} (h : evo env x = some (.bool false)) : C9 P Γ ⟨env, hp, G⟩ (.unOp .not t x) ty (.bool true) := A4X h
theorem pX {x : Operand} {vs : List Value} {i : Nat} {v : Value} (h : evo env x = some (.tuple ⟨vs⟩)) (hv : vs[i]? = some v) : C9 P Γ ⟨env, hp, G⟩ (.extract x i) ty v :=
 by refine ⟨?_⟩; exact fun a _ hs _ _ _ _ w => by simp [execOp, Instr.extract, (hs.evo h : a.eval x = _), hv]
theorem A6 {x : Operand} {p : Addr} (h : evo env x = some (.pointer (some p))) : C9 P Γ ⟨env, hp, G⟩ (.nilCheck x) ty (.pointer (some p)) :=
 by refine ⟨?_⟩; exact fun a _ hs _ _ _ _ w => by simp [execOp, (hs.evo h : a.eval x = _)]

theorem A2J (b o n : Nat) : (⟨b, o, none⟩ : Addr).add n = ⟨b, o + n, none⟩ := by
 unfold Addr.add; split
 ·rename_i h; subst h; rfl
 ·rfl

theorem qF {x : Operand} {s : TypeId} {f b o off sz : Nat} {ag : Bool} [hI : V9 P s f off sz ag] (h : evo env x = some (.pointer (some ⟨b, o, none⟩))) :
  C9 P Γ ⟨env, hp, G⟩ (.fieldAddr s x f) ty (.pointer (some ⟨b, o + off, none⟩)) := by
 refine ⟨fun a _ hs _ _ _ _ w => ?_⟩
 obtain ⟨fs, fl, d, inf, h1, h2, h3, h4, h5, h6, _⟩ := hI.ok
 have hx : a.eval x = _ := hs.evo h
 subst h3 h5
 simp [execOp, Instr.fieldAt, hx, run_underlying h1, h2, Instr.sureAddr, fieldPlace, sizeOf, typeInfo, h4, h6, A2J]
theorem A4 {x : Operand} {s : TypeId} {f b off sz : Nat} {ag : Bool} [hI : V9 P s f off sz ag] (h : evo env x = some (.pointer (some ⟨b, 0, none⟩))) :
  C9 P Γ ⟨env, hp, G⟩ (.fieldAddr s x f) ty (.pointer (some ⟨b, off, none⟩)) := by
 have := qF (P := P) (Γ := Γ) (hp := hp) (G := G) (ty := ty) (s := s) (f := f) h
 simpa using this

theorem A1C {k : IntKind} (n : Int) (hk : k = .i64) (h1 : -9223372036854775808 ≤ n) (h2 : n ≤ 9223372036854775807) : k.wrap n = n := by
 subst hk; exact IntWalk.i64_in n (by omega)

theorem K2 {x y : Operand} {t t' : TypeId} {m n : Int} (hx : evo env x = some (.int .i64 m)) (hy : evo env y = some (.int .i64 n))
  (h1 : -9223372036854775808 ≤ m + n) (h2 : m + n ≤ 9223372036854775807) : C9 P Γ ⟨env, hp, G⟩ (.binOp .add t x y t') ty (.int .i64 (m + n)) :=
 by refine ⟨?_⟩; exact fun a _ hs _ _ _ _ w => by simp [execOp, eqGuard, binOp, Op.intArith, (hs.evo hx : a.eval x = _), (hs.evo hy : a.eval y = _), A1C _ rfl h1 h2]
theorem A0i {x y : Operand} {t t' : TypeId} {m n : Int} (hx : evo env x = some (.int .i64 m)) (hy : evo env y = some (.int .i64 n))
  (h1 : -9223372036854775808 ≤ m - n) (h2 : m - n ≤ 9223372036854775807) : C9 P Γ ⟨env, hp, G⟩ (.binOp .sub t x y t') ty (.int .i64 (m - n)) :=
 by refine ⟨?_⟩; exact fun a _ hs _ _ _ _ w => by simp [execOp, eqGuard, binOp, Op.intArith, (hs.evo hx : a.eval x = _), (hs.evo hy : a.eval y = _), A1C _ rfl h1 h2]
theorem A3w {x y : Operand} {t t' : TypeId} {m n : Int} (hx : evo env x = some (.int .i64 m)) (hy : evo env y = some (.int .i64 n))
  (h1 : -9223372036854775808 ≤ m * n) (h2 : m * n ≤ 9223372036854775807) : C9 P Γ ⟨env, hp, G⟩ (.binOp .mul t x y t') ty (.int .i64 (m * n)) :=
 by refine ⟨?_⟩; exact fun a _ hs _ _ _ _ w => by simp [execOp, eqGuard, binOp, Op.intArith, (hs.evo hx : a.eval x = _), (hs.evo hy : a.eval y = _), A1C _ rfl h1 h2]
theorem A4Y {x : Operand} {t : TypeId} {n : Int} (hx : evo env x = some (.int .i64 n))
  (h1 : -9223372036854775808 ≤ -n) (h2 : -n ≤ 9223372036854775807) : C9 P Γ ⟨env, hp, G⟩ (.unOp .neg t x) ty (.int .i64 (-n)) :=
 by refine ⟨?_⟩; exact fun a _ hs _ _ _ _ w => by simp [execOp, Op.unary, Op.intArith, (hs.evo hx : a.eval x = _), A1C _ rfl h1 h2]
theorem A8i {x y : Operand} {t t' : TypeId} {m n : Int} (hx : evo env x = some (.int .i64 m)) (hy : evo env y = some (.int .i64 n)) (hn : n ≠ 0) :
  C9 P Γ ⟨env, hp, G⟩ (.binOp .rem t x y t') ty (.int .i64 (m.tmod n)) :=
 by refine ⟨?_⟩; exact fun a _ hs _ _ _ _ w => by simp [execOp, eqGuard, binOp, Op.intDiv, (hs.evo hx : a.eval x = _), (hs.evo hy : a.eval y = _), hn]
theorem A8j {x y : Operand} {t t' : TypeId} {m n : Int} (hx : evo env x = some (.int .i64 m)) (hy : evo env y = some (.int .i64 n)) (hn : n ≠ 0)
  (h1 : -9223372036854775808 ≤ m.tdiv n) (h2 : m.tdiv n ≤ 9223372036854775807) : C9 P Γ ⟨env, hp, G⟩ (.binOp .quo t x y t') ty (.int .i64 (m.tdiv n)) :=
 by refine ⟨?_⟩; exact fun a _ hs _ _ _ _ w => by simp [execOp, eqGuard, binOp, Op.intDiv, (hs.evo hx : a.eval x = _), (hs.evo hy : a.eval y = _), hn, A1C _ rfl h1 h2]

theorem qE {x y : Operand} {t t' : TypeId} {k : IntKind} {m n : Int} (hx : evo env x = some (.int k m)) (hy : evo env y = some (.int k n)) :
  C9 P Γ ⟨env, hp, G⟩ (.binOp .eql t x y t') ty (.bool (decide (m = n))) :=
 by
  refine ⟨fun a _ hs _ _ _ _ w => ?_⟩
  simp [execOp, eqGuard, binOp, Op.intCmp, (hs.evo hx : a.eval x = _), (hs.evo hy : a.eval y = _)]
  by_cases h : m = n <;> simp [h]
theorem N1 {x y : Operand} {t t' : TypeId} {k : IntKind} {m n : Int} (hx : evo env x = some (.int k m)) (hy : evo env y = some (.int k n)) :
  C9 P Γ ⟨env, hp, G⟩ (.binOp .neq t x y t') ty (.bool (decide (m ≠ n))) :=
 by
  refine ⟨fun a _ hs _ _ _ _ w => ?_⟩
  simp [execOp, eqGuard, binOp, Op.intCmp, (hs.evo hx : a.eval x = _), (hs.evo hy : a.eval y = _)]
  by_cases h : m = n <;> simp [h]
theorem N2 {x y : Operand} {t t' : TypeId} {k : IntKind} {m n : Int} (hx : evo env x = some (.int k m)) (hy : evo env y = some (.int k n)) :
  C9 P Γ ⟨env, hp, G⟩ (.binOp .lss t x y t') ty (.bool (decide (m < n))) :=
 by refine ⟨?_⟩; exact fun a _ hs _ _ _ _ w => by simp [execOp, eqGuard, binOp, Op.intCmp, (hs.evo hx : a.eval x = _), (hs.evo hy : a.eval y = _)]
theorem S8 {x y : Operand} {t t' : TypeId} {k : IntKind} {m n : Int} (hx : evo env x = some (.int k m)) (hy : evo env y = some (.int k n)) :
  C9 P Γ ⟨env, hp, G⟩ (.binOp .leq t x y t') ty (.bool (decide (m ≤ n))) :=
 by refine ⟨?_⟩; exact fun a _ hs _ _ _ _ w => by simp [execOp, eqGuard, binOp, Op.intCmp, (hs.evo hx : a.eval x = _), (hs.evo hy : a.eval y = _)]
theorem Z1 {x y : Operand} {t t' : TypeId} {k : IntKind} {m n : Int} (hx : evo env x = some (.int k m)) (hy : evo env y = some (.int k n)) :
  C9 P Γ ⟨env, hp, G⟩ (.binOp .gtr t x y t') ty (.bool (decide (n < m))) :=
 by refine ⟨?_⟩; exact fun a _ hs _ _ _ _ w => by simp [execOp, eqGuard, binOp, Op.intCmp, (hs.evo hx : a.eval x = _), (hs.evo hy : a.eval y = _)]
theorem Q2 {x y : Operand} {t t' : TypeId} {k : IntKind} {m n : Int} (hx : evo env x = some (.int k m)) (hy : evo env y = some (.int k n)) :
  C9 P Γ ⟨env, hp, G⟩ (.binOp .geq t x y t') ty (.bool (decide (n ≤ m))) :=
 by refine ⟨?_⟩; exact fun a _ hs _ _ _ _ w => by simp [execOp, eqGuard, binOp, Op.intCmp, (hs.evo hx : a.eval x = _), (hs.evo hy : a.eval y = _)]

theorem pLn {x : Operand} {t : TypeId} {i : K1} [hI : E8 P t i] {e : TypeId} (hd : i.desc = .slice e) {p : Option Addr} {n c : Nat} (hx : evo env x = some (.slice p n c)) :
  C9 P Γ ⟨env, hp, G⟩ (.call ⟨.builtin .len, ⟨[x]⟩, ⟨[t]⟩⟩) ty (.int .i64 n) := by
 refine ⟨fun a _ hs _ _ _ _ w => ?_⟩
 have hu := hI.und
 rw [hd] at hu
 simp [execOp, resolve, invoke, builtin, Builtin.len_, (hs.evo hx : a.eval x = _), run_underlying hu, goInt]
theorem M6 {x : Operand} {t : TypeId} {i : K1} [hI : E8 P t i] (hd : i.desc = .string) {s : ByteArray} (hx : evo env x = some (.string s)) :
  C9 P Γ ⟨env, hp, G⟩ (.call ⟨.builtin .len, ⟨[x]⟩, ⟨[t]⟩⟩) ty (.int .i64 s.size) := by
 refine ⟨fun a _ hs _ _ _ _ w => ?_⟩
 have hu := hI.und
 rw [hd] at hu
 simp [execOp, resolve, invoke, builtin, Builtin.len_, (hs.evo hx : a.eval x = _), run_underlying hu, goInt]

theorem A4Z {x y : Operand} {t e : TypeId} {i ie : K1} [hI : E8 P t i] (hd : i.desc = .slice e) [hE : E8 P e ie] {b o n c : Nat} {k : IntKind} {j : Int}
  (hx : evo env x = some (.slice (some ⟨b, o, none⟩) n c)) (hy : evo env y = some (.int k j)) (h0 : 0 ≤ j) (h1 : j < n) :
  C9 P Γ ⟨env, hp, G⟩ (.indexAddr t x y) ty (.pointer (some ⟨b, o + j.toNat * ie.size, none⟩)) := by
 refine ⟨fun a _ hs _ _ _ _ w => ?_⟩
 have hu := hI.und
 rw [hd] at hu
 obtain ⟨inf, g1, g2, _⟩ := hE.info
 simp [execOp, Instr.indexAt, (hs.evo hx : a.eval x = _), (hs.evo hy : a.eval y = _), asIntOf, run_underlying hu, h0, h1, sizeOf, typeInfo, g1, g2, A2J]

theorem H2 {x y : Operand} {t e : TypeId} {i : K1} {sz by' : Nat} {zs : List Value} [hI : E8 P t i] (hd : i.desc = .slice e) [hE : W7 P e sz by' zs] {b o n c j : Nat} {k : IntKind}
  (hx : evo env x = some (.slice (some ⟨b, o, none⟩) n c)) (hy : evo env y = some (.int k (j : Int))) (h1 : j < n) :
  C9 P Γ ⟨env, hp, G⟩ (.indexAddr t x y) ty (.pointer (some ⟨b, o + j * sz, none⟩)) := by
 obtain ⟨d, hE⟩ := hE.ok
 have := A4Z (P := P) (Γ := Γ) (hp := hp) (G := G) (ty := ty) (t := t) hd hx hy (by omega) (by omega)
 simpa using this
theorem A0j {fn : Fn} {xs ys : List Operand} {us vs : List Value} (hx : evl env xs = some us) (hy : evl env ys = some vs) :
  C9 P Γ ⟨env, hp, G⟩ (.makeFunc fn ⟨xs⟩ ⟨ys⟩) ty (.func fn ⟨us⟩ ⟨vs⟩) :=
 by refine ⟨?_⟩; exact fun a _ hs _ _ _ _ w => by simp [execOp, Instr.makeFunc, ← hs.evl hx, ← hs.evl hy]

theorem A8k {w : World} {b : Nat} {full : List Value} {e : TypeId} {f : Nat × Nat} (hb : w.heap[b]? = some (.cells full.toArray e f)) {o : Nat} {vs : List Value}
  (hv : ∀ j v, vs[j]? = some v → full[o + j]? = some v) : (loadCells ⟨b, o, none⟩ vs.length).run P w = .ok vs.toArray w :=
 run_loadCells_list w _ vs fun j v h => by rw [A2J]; simp [World.cell?, hb, hv j v h]

theorem A8l {w : World} {t : TypeId} {i : K1} [hI : E8 P t i] (hd : A0H i.desc = false) {b o : Nat} {v : Value} (h : w.cell? ⟨b, o, none⟩ = some v) :
  (Instr.loadAt t (.pointer (some ⟨b, o, none⟩))).run P w = .ok v w := by
 simp [Instr.loadAt, Instr.sureAddr, loadVar, A4W hI.und, hd, h]
theorem A8m {w : World} {t : TypeId} {i : K1} [hI : E8 P t i] (hd : A0H i.desc = true) {b o : Nat} {vs : List Value}
  (h : (loadCells ⟨b, o, none⟩ vs.length).run P w = .ok vs.toArray w) (hn : vs.length = i.size) :
  (Instr.loadAt t (.pointer (some ⟨b, o, none⟩))).run P w = .ok (.agg ⟨vs⟩) w := by
 obtain ⟨inf, g1, g2, _⟩ := hI.info
 rw [hn] at h
 simp [Instr.loadAt, Instr.sureAddr, loadVar, A4W hI.und, hd, sizeOf, typeInfo, g1, g2, h]

def At (hp : List A1) (G : IM) (b o : Nat) (vs : List Value) : Prop :=
 (∃ cs, A1.blk b cs ∈ hp ∧ ∀ j v, vs[j]? = some v → cs[o + j]? = some v) ∨
 (∃ n c el sz cs, A1.slc (some ⟨b, 0, none⟩) c el sz n cs ∈ hp ∧ ∀ j v, vs[j]? = some v → cs[o + j]? = some v) ∨
 (∃ full, G b = some full ∧ ∀ j v, vs[j]? = some v → full[o + j]? = some v)

theorem At.read {a : Act} {w : World} {b o : Nat} {vs : List Value} (h : At hp G b o vs) (hs : St Γ ⟨env, hp, G⟩ a w) :
  ∃ full e f, w.heap[b]? = some (.cells (full : List Value).toArray e f) ∧ ∀ j v, vs[j]? = some v → full[o + j]? = some v := by
 rcases h with ⟨cs, hm, hv⟩ | ⟨n, c, el, sz, cs, hm, hv⟩ | ⟨full, hg, hv⟩
 ·obtain ⟨e, he⟩ := hs.res.own.ok _ hm
  exact ⟨cs, e, _, he, hv⟩
 ·obtain ⟨_, h2⟩ := hs.res.own.ok _ hm
  rcases h2 with ⟨h2, _⟩ | ⟨g, cap, cur, h2, _, hg, _, _, _, ht⟩
  ·cases h2
  ·cases h2
   refine ⟨cur.toList, el, _, by simpa using hg, fun j v hj => ?_⟩
   have := hv j v hj
   rw [← ht, List.getElem?_take] at this
   split at this
   ·exact this
   ·cases this
 ·obtain ⟨e, f, hb⟩ := hs.res.own.inn b full hg
  exact ⟨full, e, f, hb, hv⟩

theorem H3 {x : Operand} {t : TypeId} {i : K1} [hI : E8 P t i] (hd : A0H i.desc = false) {b o : Nat} {v : Value}
  (hx : evo env x = some (.pointer (some ⟨b, o, none⟩))) (hv : At hp G b o [v]) : A0F P Γ ⟨env, hp, G⟩ (.load t x) ty b v := by
 refine ⟨fun a w hs => ?_⟩
 obtain ⟨full, e, f, hb, hf⟩ := hv.read hs
 refine ⟨W6 hb, fun w' hw' d pos af gd => ?_⟩
 have hc : w'.cell? ⟨b, o, none⟩ = some v := by simp [World.cell?, hw', hb, show full[o]? = some v from hf 0 v rfl]
 simp only [execOp, Sem.run_bind, (hs.evo hx : a.eval x = _), A8l hd hc]
 rfl
theorem D5 {x : Operand} {t : TypeId} {i : K1} [hI : E8 P t i] (hd : A0H i.desc = true) {b o : Nat} {vs : List Value}
  (hx : evo env x = some (.pointer (some ⟨b, o, none⟩))) (hv : At hp G b o vs) (hn : vs.length = i.size) : A0F P Γ ⟨env, hp, G⟩ (.load t x) ty b (.agg ⟨vs⟩) := by
 refine ⟨fun a w hs => ?_⟩
 obtain ⟨full, e, f, hb, hf⟩ := hv.read hs
 refine ⟨W6 hb, fun w' hw' d pos af gd => ?_⟩
 have hc := A8k (P := P) (w := w') (hw'.trans hb) hf
 simp only [execOp, Sem.run_bind, (hs.evo hx : a.eval x = _), A8m hd hc hn]
 rfl

theorem K8 {b : Nat} {cs : List Value} (hm : A1.blk b cs ∈ hp) : At hp G b 0 cs := .inl ⟨cs, hm, fun j u hj => by simpa using hj⟩
theorem A40 {b o : Nat} {cs : List Value} {v : Value} (hm : A1.blk b cs ∈ hp) (hv : cs[o]? = some v) : At hp G b o [v] :=
 .inl ⟨cs, hm, fun j u hj => by cases j <;> simp_all⟩
theorem A8n {b o n : Nat} {cs vs : List Value} (hm : A1.blk b cs ∈ hp) (hv : Z0 cs o n = some vs) : At hp G b o vs := .inl ⟨cs, hm, (A2I hv).2⟩

theorem A8o {t : TypeId} {i : K1} {sz by' : Nat} {zs : List Value} (h : E8 P t i) (h' : W7 P t sz by' zs) : i.size = sz := by
 obtain ⟨d, h'⟩ := h'.ok
 obtain ⟨i1, a1, a2, _⟩ := h.info
 obtain ⟨i2, b1, b2, _⟩ := h'.info
 rw [a1] at b1; cases b1
 rw [← a2, b2]
theorem A7 {x : Operand} {t : TypeId} {i : K1} {sz by' : Nat} {zs : List Value} [hI : E8 P t i] [hS : W7 P t sz by' zs] (hd : A0H i.desc = true) {b o : Nat} {cs vs : List Value}
  (hx : evo env x = some (.pointer (some ⟨b, o, none⟩))) (hm : A1.blk b cs ∈ hp := by repeat first | exact List.Mem.head _ | apply List.Mem.tail) (hv : Z0 cs o sz = some vs := by rfl) : A0F P Γ ⟨env, hp, G⟩ (.load t x) ty b (.agg ⟨vs⟩) :=
 D5 hd hx (A8n hm hv) (by rw [A8o hI hS]; exact (A2I hv).1)
theorem C2 {x : Operand} {t : TypeId} {i : K1} [hI : E8 P t i] (hd : A0H i.desc = false) {b o : Nat} {cs : List Value} {v : Value}
  (hx : evo env x = some (.pointer (some ⟨b, o, none⟩))) (hm : A1.blk b cs ∈ hp := by repeat first | exact List.Mem.head _ | apply List.Mem.tail) (hv : cs[o]? = some v := by rfl) : A0F P Γ ⟨env, hp, G⟩ (.load t x) ty b v :=
 H3 hd hx (A40 hm hv)
theorem A8p {b o c el sz n : Nat} {cs vs : List Value} (hm : A1.slc (some ⟨b, 0, none⟩) c el sz n cs ∈ hp) (hv : ∀ j v, vs[j]? = some v → cs[o + j]? = some v) : At hp G b o vs := .inr (.inl ⟨n, c, el, sz, cs, hm, hv⟩)
theorem A0k {b c el sz n : Nat} {cs : List Value} (hm : A1.slc (some ⟨b, 0, none⟩) c el sz n cs ∈ hp) : At hp G b 0 cs := .inr (.inl ⟨n, c, el, sz, cs, hm, fun j v hj => by simpa using hj⟩)
theorem M4 {b o : Nat} {full vs : List Value} (hg : G b = some full) (hv : ∀ j v, vs[j]? = some v → full[o + j]? = some v) : At hp G b o vs := .inr (.inr ⟨full, hg, hv⟩)

theorem N3 {x y : Operand} {t : TypeId} {i : K1} [hI : E8 P t i] (hd : i.desc = .string) {s : ByteArray} {k : IntKind} {j : Int} {b : UInt8}
  (hx : evo env x = some (.string s)) (hy : evo env y = some (.int k j)) (h0 : 0 ≤ j) (hb : s[j.toNat]? = some b) :
  C9 P Γ ⟨env, hp, G⟩ (.index t x y) ty (.int .u8 b.toNat) := by
 refine ⟨fun a _ hs _ _ _ _ w => ?_⟩
 have hu := hI.und
 rw [hd] at hu
 simp only [execOp, Instr.index, (hs.evo hx : a.eval x = _), (hs.evo hy : a.eval y = _), asIntOf, Sem.run_bind, Sem.run_pure, Result.andThen_ok, run_underlying hu, h0, if_true, hb]
theorem A2c {x y : Operand} {t t' : TypeId} {r s : ByteArray} (hx : evo env x = some (.string r)) (hy : evo env y = some (.string s)) (hs' : r.size + s.size ≤ 9223372036854775807) :
  C9 P Γ ⟨env, hp, G⟩ (.binOp .add t x y t') ty (.string (r ++ s)) := by
 refine ⟨fun a _ hs _ _ _ _ w => ?_⟩
 have : ¬ (((r.size + s.size : Nat) : Int) > IntKind.i64.max) := by simp [IntKind.max, IntKind.signed, IntKind.bits]; omega
 simp only [execOp, eqGuard, binOp, Op.stringOp, (hs.evo hx : a.eval x = _), (hs.evo hy : a.eval y = _), this, if_false]
 simp
theorem toList_eq (r s : ByteArray) : (r.toList == s.toList) = decide (r = s) := by
 by_cases h : r = s
 ·subst h; simp
 ·have : r.toList ≠ s.toList := by
   intro e
   apply h
   have := congrArg List.toArray e
   rw [ByteArray.toList_eq, ByteArray.toList_eq] at this
   cases r; cases s; simpa using this
  simp [h, this]
theorem A1h {x y : Operand} {t t' : TypeId} {r s : ByteArray} (hx : evo env x = some (.string r)) (hy : evo env y = some (.string s)) :
  C9 P Γ ⟨env, hp, G⟩ (.binOp .eql t x y t') ty (.bool (decide (r = s))) := by
 refine ⟨fun a _ hs _ _ _ _ w => ?_⟩
 simp only [execOp, eqGuard, binOp, Op.stringOp, (hs.evo hx : a.eval x = _), (hs.evo hy : a.eval y = _), toList_eq]
 simp
theorem Z2 {x y : Operand} {t t' : TypeId} {r s : ByteArray} (hx : evo env x = some (.string r)) (hy : evo env y = some (.string s)) :
  C9 P Γ ⟨env, hp, G⟩ (.binOp .neq t x y t') ty (.bool (decide (r ≠ s))) := by
 refine ⟨fun a _ hs _ _ _ _ w => ?_⟩
 simp only [execOp, eqGuard, binOp, Op.stringOp, (hs.evo hx : a.eval x = _), (hs.evo hy : a.eval y = _), toList_eq]
 simp
theorem A8q {t : TypeId} {i : K1} [hI : E8 P t i] (hd : i.desc = .bool) (r s : Bool) (w : World) : (Op.equal t (.bool r) (.bool s)).run P w = .ok (r == s) w := by
 have hu := hI.und
 rw [hd] at hu
 have h : ∀ d, (Op.equalIn (d + 1) t (.bool r) (.bool s)).run P w = .ok (r == s) w := fun d => by
  simp only [Op.equalIn, Sem.run_bind, run_underlying hu, Result.andThen_ok, Sem.run_pure]
 exact h 9999
theorem A3x {x y : Operand} {t t' : TypeId} {i : K1} [hI : E8 P t i] (hd : i.desc = .bool) {r s : Bool} (hx : evo env x = some (.bool r)) (hy : evo env y = some (.bool s)) :
  C9 P Γ ⟨env, hp, G⟩ (.binOp .neq t x y t') ty (.bool (decide (r ≠ s))) := by
 refine ⟨fun a _ hs _ _ _ _ w => ?_⟩
 simp only [execOp, eqGuard, binOp, (hs.evo hx : a.eval x = _), (hs.evo hy : a.eval y = _), Sem.run_bind, A8q hd, Sem.run_pure, Result.andThen_ok]
 cases r <;> cases s <;> rfl
end laws

section steps
variable {P : Program} {Γ : E6} {env : F9} {hp : List A1} {G : IM} {ty : TypeId}

theorem A41 (w : World) (hin : A18 G w) (cs : List Value) (e : TypeId) : M2 [] G w [.blk w.heap.size cs] G (w.alloc (.cells cs.toArray e)) := by
 have hb : (w.alloc (.cells cs.toArray e)).heap[w.heap.size]? = some (.cells cs.toArray e (0, 0)) := heap_alloc_new w _
 have hold : ∀ k, k < w.heap.size → (w.alloc (.cells cs.toArray e)).heap[k]? = w.heap[k]? := fun k hk => Below.heap_alloc w _ k hk
 refine ⟨⟨?_, ?_, by simp [Fp, A1.fp], ?_⟩, ⟨rfl, rfl, rfl, by simp, fun k hk _ => hold k hk⟩, B4.refl _, fun _ _ h => .inl h, ?_, fun b l h h0 => absurd h (by rw [h0]; simp)⟩
 ·intro b l hg
  obtain ⟨e', f', h'⟩ := hin b l hg
  exact ⟨e', f', by rw [hold b (W6 h')]; exact h'⟩
 ·intro x hx
  simp at hx; subst hx
  exact ⟨e, hb⟩
 ·intro b hb
  simp [Fp, A1.fp] at hb; subst hb
  cases hg : G w.heap.size with
  | none => rfl
  | some l => exact absurd (hin.lt hg) (by omega)
 ·intro b hb
  simp [Fp, A1.fp] at hb; subst hb
  exact .inl (Nat.le_refl _)

theorem St.step {a : Act} {w w' : World} {ins outs rest hp' : List A1} {G' : IM} (hs : St Γ ⟨env, hp, G⟩ a w) (p : hp.Perm (ins ++ rest)) (r : M2 ins G w outs G' w') (q : (outs ++ rest).Perm hp')
  {d : Option Nat} {v : Value} (hd : dok Γ.n d = true) : St Γ ⟨dpu d v env, hp', G'⟩ (a.put d v) w' :=
 hs.dput d v hd (((hs.res.perm p).frame r).perm q)

theorem A3y {d : Nat} {op : Op} {mk : Nat → Value} {cs : List Value} (hd : Nat.blt d Γ.n = true)
  (hrun : ∀ a w, St Γ ⟨env, hp, G⟩ a w → ∃ e, ∀ d pos af gd, (execOp a.eval ⟨d, op, ty, pos, af, gd⟩).run P w = .ok (.value (mk w.heap.size)) (w.alloc (.cells cs.toArray e))) :
  T3 P Γ ⟨env, hp, G⟩ (some d) op ty [] (fun σ' => ∃ b, σ' = ⟨(d, mk b) :: env, .blk b cs :: hp, G⟩) := by
 refine ⟨fun a w hs pos af gd Q next hn => ?_⟩
 obtain ⟨e, hr⟩ := hrun a w hs
 simp only [Oper.wp, hr, Oper.upon]
 have hr' := A41 w hs.res.own.inn cs e
 exact hn _ _ _ (hs.step (ins := []) (rest := hp) (List.Perm.refl _) hr' (List.Perm.refl _) (d := some d) hd) hr'.ext ⟨w.heap.size, rfl⟩

theorem J6 {d : Nat} {x : Operand} {t : TypeId} {vs : List Value} (hx : evo env x = some (.agg ⟨vs⟩)) (hd : Nat.blt d Γ.n = true) :
  T3 P Γ ⟨env, hp, G⟩ (some d) (.box t x) ty [] (fun σ' => ∃ b, σ' = ⟨(d, .pointer (some ⟨b, 0, none⟩)) :: env, .blk b vs :: hp, G⟩) :=
 A3y hd fun a w hs => ⟨t, fun _ _ _ _ => by simp [execOp, Instr.box, newVar, newRow, newObj, Sem.run, (hs.evo hx : a.eval x = _), Value.cells]⟩
theorem A2d {d : Nat} {x : Operand} {t : TypeId} {v : Value} (hx : evo env x = some v) (hv : v.cells = ⟨[v]⟩) (hd : Nat.blt d Γ.n = true) :
  T3 P Γ ⟨env, hp, G⟩ (some d) (.box t x) ty [] (fun σ' => ∃ b, σ' = ⟨(d, .pointer (some ⟨b, 0, none⟩)) :: env, .blk b [v] :: hp, G⟩) :=
 A3y hd fun a w hs => ⟨t, fun _ _ _ _ => by simp [execOp, Instr.box, newVar, newRow, newObj, Sem.run, (hs.evo hx : a.eval x = _), hv]⟩
theorem D6 {d : Nat} {t : TypeId} {sz by' : Nat} {zs : List Value} [hI : W7 P t sz by' zs] (hd : Nat.blt d Γ.n = true) :
  T3 P Γ ⟨env, hp, G⟩ (some d) (.alloc t) ty [] (fun σ' => ∃ b, σ' = ⟨(d, .pointer (some ⟨b, 0, none⟩)) :: env, .blk b zs :: hp, G⟩) :=
 A3y hd fun a w hs => ⟨t, fun _ _ _ _ => by
  obtain ⟨_, hI⟩ := hI.ok
  obtain ⟨inf, g1, _, _, z, g4, g5⟩ := hI.info
  simp [execOp, Instr.alloc, zeroValue, typeInfo, g1, g4, newVar, newRow, newObj, Sem.run, g5]⟩

inductive Sw : List A1 → A1 → A1 → List A1 → Prop
 | here {e e' : A1} {r : List A1} : Sw (e :: r) e e' (e' :: r)
 | there {x e e' : A1} {r r' : List A1} : Sw r e e' r' → Sw (x :: r) e e' (x :: r')

theorem Sw.perm {hp hp' : List A1} {e e' : A1} (h : Sw hp e e' hp') : ∃ rest, hp.Perm ([e] ++ rest) ∧ ([e'] ++ rest).Perm hp' := by
 induction h with
 | @here e e' r => exact ⟨r, List.Perm.refl _, List.Perm.refl _⟩
 | @there x e e' r r' _ ih =>
  obtain ⟨rest, h1, h2⟩ := ih
  refine ⟨x :: rest, (h1.cons x).trans ?_, List.Perm.trans ?_ (h2.cons x)⟩
  ·exact List.Perm.swap _ _ _
  ·exact List.Perm.swap _ _ _
def N8 : List Value → Nat → List Value → Option (List Value)
 | cs, 0, [] => some cs
 | [], 0, _ :: _ => none
 | _ :: cs, 0, v :: vs => match N8 cs 0 vs with
  | some r => some (v :: r)
  | none => none
 | [], _ + 1, _ => none
 | c :: cs, o + 1, vs => match N8 cs o vs with
  | some r => some (c :: r)
  | none => none
theorem A2e : ∀ {cs : List Value} {o : Nat} {vs cs' : List Value}, N8 cs o vs = some cs' → cs' = cs.take o ++ vs ++ cs.drop (o + vs.length) ∧ o + vs.length ≤ cs.length
 | cs, 0, [], cs', h => by cases cs <;> (simp [N8] at h; subst h; simp)
 | [], 0, v :: vs, cs', h => by simp [N8] at h
 | c :: cs, 0, v :: vs, cs', h => by
  simp only [N8] at h
  split at h
  ·rename_i r hr
   simp at h; subst h
   obtain ⟨h1, h2⟩ := A2e hr
   constructor
   ·simp [h1]
   ·simp at h2 ⊢; omega
  ·cases h
 | [], o + 1, vs, cs', h => by simp [N8] at h
 | c :: cs, o + 1, vs, cs', h => by
  simp only [N8] at h
  split at h
  ·rename_i r hr
   simp at h; subst h
   obtain ⟨h1, h2⟩ := A2e hr
   constructor
   ·rw [h1, show o + 1 + vs.length = (o + vs.length) + 1 by omega]; simp
   ·simp; omega
  ·cases h
theorem P0 {cs vs : List Value} (h : cs.length = vs.length) : N8 cs 0 vs = some vs := by
 induction cs generalizing vs with
 | nil => cases vs with
  | nil => rfl
  | cons v vs => simp at h
 | cons c cs ih => cases vs with
  | nil => simp at h
  | cons v vs => simp only [N8, ih (vs := vs) (by simpa using h)]

theorem A8r {w : World} {b o : Nat} {cs vs cs' : List Value} (hown : O5 [.blk b cs] G w) (hu : cs' = cs.take o ++ vs ++ cs.drop (o + vs.length)) :
  M2 [.blk b cs] G w [.blk b cs'] G (w.setRow b cs'.toArray) := by
 obtain ⟨e, hb⟩ := hown.ok _ List.mem_cons_self
 refine ⟨⟨?_, ?_, by simp [Fp, A1.fp], ?_⟩, ⟨rfl, rfl, rfl, by simp [World.setRow], fun k _ hk => setRow_other w b k _ (by rintro rfl; simp [Fp, A1.fp] at hk)⟩, B4.refl _, fun _ _ h => .inl h, ?_, fun b l h h0 => absurd h (by rw [h0]; simp)⟩
 ·intro k l hg
  obtain ⟨e', f', h'⟩ := hown.inn k l hg
  refine ⟨e', f', ?_⟩
  rw [setRow_other w b k _ ?_]
  ·exact h'
  ·rintro rfl
   have := hown.disj k (by simp [Fp, A1.fp])
   rw [this] at hg; cases hg
 ·intro x hx
  simp at hx; subst hx
  exact ⟨e, setRow_heap w b cs.toArray cs'.toArray e (0, 0) hb⟩
 ·intro k hk
  exact hown.disj k (by simpa [Fp, A1.fp] using hk)
 ·intro k hk
  exact .inr (by simpa [Fp, A1.fp] using hk)

theorem O5.of_mem {w : World} {e : A1} (h : O5 hp G w) {rest : List A1} (p : hp.Perm ([e] ++ rest)) : O5 [e] G w := (h.perm p).left

theorem A3z {d : Option Nat} {x y : Operand} {t : TypeId} {i : K1} [hI : E8 P t i] {b o : Nat} {v : Value} {vs cs cs' : List Value} {hp' : List A1}
  (hx : evo env x = some (.pointer (some ⟨b, o, none⟩))) (hy : evo env y = some v) (hv : v.cells = ⟨vs⟩) (hsz : vs.length = i.size) (h1 : vs.all (·.oneCell') = true)
  (hu : N8 cs o vs = some cs') (hm : Sw hp (.blk b cs) (.blk b cs') hp') (hd : dok Γ.n d = true) :
  T3 P Γ ⟨env, hp, G⟩ d (.store t x y) ty [b] (fun σ' => σ' = ⟨dpu d undef env, hp', G⟩) := by
 refine ⟨fun a w hs pos af gd Q next hn => ?_⟩
 obtain ⟨rest, p1, p2⟩ := hm.perm
 have hown : O5 [.blk b cs] G w := hs.res.own.of_mem p1
 obtain ⟨e, hb⟩ := hown.ok _ List.mem_cons_self
 obtain ⟨u1, u2⟩ := A2e hu
 have hst := run_storeCells_at P b o e vs 0 cs.toArray w hb (by simpa using u2) (by simpa using h1)
 simp only [Nat.add_zero, ← u1] at hst
 obtain ⟨inf, g1, g2, _⟩ := hI.info
 have hrun : (execOp a.eval ⟨d, .store t x y, ty, pos, af, gd⟩).run P w = .ok .skip (w.setRow b cs'.toArray) := by
  simp [execOp, Instr.storeAt, Instr.sureAddr, (hs.evo hx : a.eval x = _), (hs.evo hy : a.eval y = _), storeVar, sizeOf, typeInfo, g1, g2, hv, hsz, hst]
 simp only [Oper.wp, hrun, Oper.upon]
 have hr' := A8r (o := o) hown u1
 exact hn _ _ _ (hs.step p1 hr' p2 hd) (by simpa [Fp, A1.fp] using hr'.ext) rfl

structure Fn (P : Program) (f : FuncId) (args : List Value) (ins : List A1) (G : IM) (post : IM → Value → List A1 → Prop) : Prop where
 run : ∀ w, O5 ins G w → Calls P f ⟨args⟩ w fun e w' => ∃ v G' outs, e = .returned v ∧ M2 ins G w outs G' w' ∧ post G' v outs

theorem A42 {f : FuncId} [hF : A8 P f] (args : Array Value) (w : World) : (callFunc f args).run P w = .ok (.enter f args) w := by
 obtain ⟨fn, h1, h2, h3⟩ := hF.ok
 simp only [callFunc, program, Sem.run_bind, Sem.run, Result.andThen_ok, h1, h2, h3, Bool.false_eq_true, if_false]
 rfl

theorem A3A {d : Nat} {op : Op} {f : FuncId} {vs : List Value} {ins rest : List A1} {post : IM → Value → List A1 → Prop}
  (he : ∀ a w, St Γ ⟨env, hp, G⟩ a w → ∀ d pos af gd, (execOp a.eval ⟨d, op, ty, pos, af, gd⟩).run P w = .ok (.enter f ⟨vs⟩) w)
  (h : Fn P f vs ins G post) (hp' : hp.Perm (ins ++ rest)) (hd : Nat.blt d Γ.n = true) :
  T3 P Γ ⟨env, hp, G⟩ (some d) op ty (Fp ins) (fun σ' => ∃ v G' outs, σ' = ⟨(d, v) :: env, outs ++ rest, G'⟩ ∧ B4 G G' ∧ post G' v outs) := by
 refine ⟨fun a w hs pos af gd Q next hn => ?_⟩
 simp only [Oper.wp, he a w hs, Oper.upon]
 refine (h.run w (hs.res.own.perm hp').left).mono ?_
 rintro e w' ⟨v, G', outs, rfl, h2, h3⟩
 exact hn _ _ _ (hs.step hp' h2 (List.Perm.refl _) (d := some d) hd) h2.ext ⟨v, G', outs, rfl, h2.le, h3⟩

theorem A43 {f : FuncId} [hF : A8 P f] {xs : List Operand} {ats : Array TypeId} {vs : List Value} {a : Act} {w w1 : World} (hs : St Γ ⟨env, hp, G⟩ a w1) (hx : evl env xs = some vs) (d : Option Tmp) (pos : String) (af : Array Edge) (gd : Option (Nat × Bool)) :
  (execOp a.eval ⟨d, .call ⟨.value (.func f), ⟨xs⟩, ats⟩, ty, pos, af, gd⟩).run P w = .ok (.enter f ⟨vs⟩) w := by
 have e2 := hs.evl hx
 simp [execOp, resolve, invoke, Deferred.ofValue, Act.eval, A42]
 exact e2

theorem A3B {d : Nat} {f : FuncId} [hF : A8 P f] {xs : List Operand} {ats : Array TypeId} {vs : List Value} {post : IM → Value → List A1 → Prop}
  (hx : evl env xs = some vs) (h : Fn P f vs [] G post) (hd : Nat.blt d Γ.n = true) :
  T3 P Γ ⟨env, hp, G⟩ (some d) (.call ⟨.value (.func f), ⟨xs⟩, ats⟩) ty [] (fun σ' => ∃ v G' outs, σ' = ⟨(d, v) :: env, outs ++ hp, G'⟩ ∧ B4 G G' ∧ post G' v outs) :=
 A3A (fun _ _ hs _ _ _ _ => A43 hs hx _ _ _ _) h (List.Perm.refl _) hd
theorem A1D {d : Nat} {f : FuncId} [hF : A8 P f] {xs : List Operand} {ats : Array TypeId} {vs : List Value} {ins rest : List A1} {post : IM → Value → List A1 → Prop}
  (hx : evl env xs = some vs) (h : Fn P f vs ins G post) (hp' : hp.Perm (ins ++ rest)) (hd : Nat.blt d Γ.n = true) :
  T3 P Γ ⟨env, hp, G⟩ (some d) (.call ⟨.value (.func f), ⟨xs⟩, ats⟩) ty (Fp ins) (fun σ' => ∃ v G' outs, σ' = ⟨(d, v) :: env, outs ++ rest, G'⟩ ∧ B4 G G' ∧ post G' v outs) :=
 A3A (fun _ _ hs _ _ _ _ => A43 hs hx _ _ _ _) h hp' hd
theorem N9 {d : Nat} {f : FuncId} [hF : A8 P f] {g : Operand} {xs : List Operand} {ats : Array TypeId} {vs us cs : List Value} {ins rest : List A1} {post : IM → Value → List A1 → Prop}
  (hg : evo env g = some (.func (.func f) ⟨us⟩ ⟨cs⟩)) (hx : evl env xs = some vs) (h : Fn P f (us ++ vs ++ cs) ins G post) (hp' : hp.Perm (ins ++ rest)) (hd : Nat.blt d Γ.n = true) :
  T3 P Γ ⟨env, hp, G⟩ (some d) (.call ⟨.value g, ⟨xs⟩, ats⟩) ty (Fp ins) (fun σ' => ∃ v G' outs, σ' = ⟨(d, v) :: env, outs ++ rest, G'⟩ ∧ B4 G G' ∧ post G' v outs) :=
 A3A (fun a w hs _ _ _ _ => by
  have e1 : a.eval g = _ := hs.evo hg
  have e2 := hs.evl hx
  simp [execOp, resolve, invoke, Deferred.ofValue, e1, e2, A42]) h hp' hd

def rdR (tmps : Array Value) : ResultVar → Sem Value
 | .tmp t => pure (tmps.getD t undef)
 | .cell x t => do loadVar t (← asAddr (tmps.getD x undef))
theorem A8s (fn : Func) (tmps : Array Value) : results fn tmps = (do let vs ← fn.results.mapM (rdR tmps); pure (if h : vs.size = 1 then vs[0] else .tuple vs)) := by
 unfold results
 congr 1
def A1i (P : Program) (Γ : E6) (σ : Sy) (r : ResultVar) (v : Value) : Prop := ∀ a w, St Γ σ a w →
 (rdR a.tmps r).run P w = .ok v w

theorem rT {t : Nat} {v : Value} (h : T1 env t = some v) : A1i P Γ ⟨env, hp, G⟩ (.tmp t) v :=
 fun a w hs => by simp only [rdR, Sem.run_pure]; rw [hs.env t v h]
theorem rC {x t b o : Nat} {v : Value} (hx : T1 env x = some (.pointer (some ⟨b, o, none⟩))) (h : A0F P Γ ⟨env, hp, G⟩ (.load t (.tmp x)) 0 b v) : A1i P Γ ⟨env, hp, G⟩ (.cell x t) v := by
 intro a w hs
 have h1 := (h.run a w hs).2 w rfl none "" #[] none
 have hx' := hs.env x _ hx
 have he : a.eval (.tmp x) = .pointer (some ⟨b, o, none⟩) := hx'
 simp only [execOp, Sem.run_bind, Instr.loadAt, he, Instr.sureAddr, Sem.run_pure, Result.andThen_ok] at h1
 simp only [rdR, hx', asAddr, Sem.run_bind, Sem.run_pure, Result.andThen_ok]
 cases hl : (loadVar t ⟨b, o, none⟩).run P w with
 | ok u w' => rw [hl] at h1; simp at h1; rw [h1.1, h1.2]
 | halt hh w' => rw [hl] at h1; simp at h1

inductive A0I (P : Program) (Γ : E6) (σ : Sy) : List ResultVar → List Value → Prop
 | nil : A0I P Γ σ [] []
 | cons {r : ResultVar} {v : Value} {rs : List ResultVar} {vs : List Value} : A1i P Γ σ r v → A0I P Γ σ rs vs → A0I P Γ σ (r :: rs) (v :: vs)

def A1j : List Value → Value
 | [v] => v
 | vs => .tuple ⟨vs⟩

theorem A3C {α β : Type} (f : α → Sem β) (w : World) : ∀ (xs : List α) (ys : List β), xs.length = ys.length → (∀ (j : Nat) (x : α) (y : β), xs[j]? = some x → ys[j]? = some y → (f x).run P w = .ok y w) →
  (xs.mapM f).run P w = .ok ys w
 | [], [], _, _ => by simp
 | x :: xs, y :: ys, hl, h => by
  have h0 := h 0 x y rfl rfl
  have ih := A3C f w xs ys (by simpa using hl) (fun j a b ha hb => h (j + 1) a b (by simpa using ha) (by simpa using hb))
  simp [List.mapM_cons, h0, ih]
 | [], _ :: _, hl, _ => by simp at hl
 | _ :: _, [], hl, _ => by simp at hl

theorem A0I.run {σ : Sy} {rs : List ResultVar} {vs : List Value} (h : A0I P Γ σ rs vs) {a : Act} {w : World} (hs : St Γ σ a w) : rs.length = vs.length ∧ ∀ (j : Nat) (x : ResultVar) (y : Value), rs[j]? = some x → vs[j]? = some y →
  (rdR a.tmps x).run P w = .ok y w := by
 induction h with
 | nil => exact ⟨rfl, fun j x y hx => by simp at hx⟩
 | @cons r v rs vs hr _ ih =>
  refine ⟨by simp [ih.1], fun j x y hx hy => ?_⟩
  cases j with
  | zero => simp at hx hy; subst hx hy; exact hr a w hs
  | succ j => exact ih.2 j x y (by simpa using hx) (by simpa using hy)

structure A0l (P : Program) (Γ : E6) (rs : List ResultVar) (post : IM → Value → List A1 → Prop) (e : Exit) (σ : Sy) : Prop where
 run : match e with
  | .ret | .normal => ∃ vs, A0I P Γ σ rs vs ∧ ∃ outs r, σ.hp.Perm (outs ++ r) ∧ post σ.G (A1j vs) outs
  | _ => False

def A1E : Nat → List Value → F9
 | _, [] => []
 | k, v :: vs => (k, v) :: A1E (k + 1) vs

theorem A44 : ∀ (vs : List Value) (k t : Nat) (v : Value), T1 (A1E k vs) t = some v → k ≤ t ∧ vs[t - k]? = some v
 | [], k, t, v, h => by simp [A1E, T1] at h
 | u :: us, k, t, v, h => by
  simp only [A1E] at h
  rw [A3s] at h
  by_cases e : k = t
  ·subst e; simp at h; subst h; simp
  ·rw [if_neg e] at h
   obtain ⟨h1, h2⟩ := A44 us (k + 1) t v h
   refine ⟨by omega, ?_⟩
   rw [show t - k = (t - (k + 1)) + 1 by omega]
   simpa using h2

theorem B3 {f : FuncId} {fn : Func} {c : Code} {args : List Value} {ins : List A1} {post : IM → Value → List A1 → Prop} {n : Nat} {rs : List ResultVar}
  (hf : P.funcs[f]? = some fn) (hb : fn.body = some c) (hn : fn.ntmps = n) (hr : fn.results = ⟨rs⟩) (hle : Nat.ble args.length n = true)
  (h : ∀ w0, M3 P ⟨n, ins, G, w0⟩ c (A0l P ⟨n, ins, G, w0⟩ rs post) ⟨A1E 0 args, ins, G⟩) : Fn P f args ins G post := by
 refine ⟨fun w hw => ?_⟩
 have hle' : args.length ≤ n := by simpa using hle
 refine calls_of_wp hf hb ?_
 let a : Act := { tmps := (⟨args⟩ : Array Value) ++ Array.replicate (fn.ntmps - (⟨args⟩ : Array Value).size) undef, defers := [] }
 have hs : St ⟨n, ins, G, w⟩ ⟨A1E 0 args, ins, G⟩ a w := by
  refine ⟨?_, rfl, ?_, M2.refl hw⟩
  ·simp [a, hn]; omega
  ·intro t v ht
   obtain ⟨_, h2⟩ := A44 args 0 t v ht
   simp only [Nat.sub_zero] at h2
   have hlt : t < args.length := (List.getElem?_eq_some_iff.1 h2).1
   simp [a, Array.getD_eq_getD_getElem?, Array.getElem?_append, hlt]
   simp [List.getElem?_eq_getElem hlt] at h2
   exact h2
 refine wp_mono ((h w).run a w hs) ?_
 rintro e a' w' ⟨σ, hs', ⟨hk⟩⟩
 have fin : (∃ vs, A0I P ⟨n, ins, G, w⟩ σ rs vs ∧ ∃ outs r, σ.hp.Perm (outs ++ r) ∧ post σ.G (A1j vs) outs) → a'.defers = [] ∧ ∃ v, (results fn a'.tmps).run P w' = .ok v w' ∧
   ∃ v_1 G' outs, Ending.returned v = Ending.returned v_1 ∧ M2 ins G w outs G' w' ∧ post G' v_1 outs := by
  rintro ⟨vs, hra, outs, r, hp', hpost⟩
  refine ⟨hs'.nod, A1j vs, ?_, A1j vs, σ.G, outs, rfl, (hs'.res.perm hp').left, hpost⟩
  obtain ⟨hl, hrun⟩ := hra.run hs'
  have hm : (fn.results.mapM (rdR a'.tmps)).run P w' = .ok ⟨vs⟩ w' := by
   rw [hr, Array.mapM_eq_mapM_toList]
   simp only [Sem.run_map]
   rw [A3C _ w' rs vs hl hrun]
   rfl
  rw [A8s]
  simp only [Sem.run_bind]
  rw [hm]
  simp only [Result.andThen_ok, Sem.run_pure]
  congr 1
  unfold A1j
  split
  ·rename_i hsz
   match vs, hsz with
   | [v], _ => rfl
  ·rename_i hsz
   split
   ·exact absurd rfl hsz
   ·rfl
 cases e <;> first | exact fin hk | exact hk.elim


theorem nS {y : Code} {K : Po} {σ : Sy} (h : M3 P Γ y K σ) : A0B P Γ y K .normal σ := ⟨h⟩
theorem rS {y : Code} {K : Po} {σ : Sy} (h : K .ret σ) : A0B P Γ y K .ret σ := ⟨h⟩
theorem A8t {y : Code} {K : Po} {σ : Sy} {i : Nat} (h : K (.exit i) σ) : A0B P Γ y K (.exit i) σ := ⟨h⟩
theorem A1k {i : Nat} {K : Po} {σ : Sy} (h : K .normal σ) : A0C i K .normal σ := ⟨h⟩
theorem rB {i : Nat} {K : Po} {σ : Sy} (h : K .ret σ) : A0C i K .ret σ := ⟨h⟩
theorem A8u {i : Nat} {K : Po} {σ : Sy} (h : K .normal σ) : A0C i K (.exit i) σ := ⟨by simp [h]⟩
theorem A8v {rs : List ResultVar} {post : IM → Value → List A1 → Prop} {σ : Sy} {vs : List Value} (h : A0I P Γ σ rs vs) {outs : List A1} (hp : ∃ r, σ.hp.Perm (outs ++ r)) (hk : post σ.G (A1j vs) outs) :
  A0l P Γ rs post .ret σ := ⟨vs, h, outs, hp.choose, hp.choose_spec, hk⟩
theorem A45 {rs : List ResultVar} {post : IM → Value → List A1 → Prop} {σ : Sy} {vs : List Value} (h : A0I P Γ σ rs vs) (hk : post σ.G (A1j vs) []) :
  A0l P Γ rs post .ret σ := ⟨vs, h, [], σ.hp, List.Perm.refl _, hk⟩

theorem A8w {y : Code} {K : Po} (h : V8 K) : V8 (A0B P Γ y K) := fun c σ hk => h c σ hk.run
theorem A8x {i : Nat} {K : Po} (h : V8 K) : V8 (A0C i K) := fun c σ hk => h c σ hk.run
theorem A8y {rs : List ResultVar} {post : IM → Value → List A1 → Prop} : V8 (A0l P Γ rs post) := fun _ _ h => h.run
class Z3 (K : Po) : Prop where
 h : V8 K
theorem E9 {K : Po} [h : Z3 K] : V8 K := h.h
instance npC1 {rs : List ResultVar} {post : IM → Value → List A1 → Prop} : Z3 (A0l P Γ rs post) := ⟨A8y⟩
instance npC2 {y : Code} {K : Po} [h : Z3 K] : Z3 (A0B P Γ y K) := ⟨A8w h.h⟩
instance npC3 {i : Nat} {K : Po} [h : Z3 K] : Z3 (A0C i K) := ⟨A8x h.h⟩
instance npC4 {ι : Type} {S : ι → Sy} {φ : ι → Prop} {μ : ι → Nat} {i : ι} {K : Po} [h : Z3 K] : Z3 (A0D K S φ μ i) := ⟨A8g h.h⟩
section shortAny
variable {P : Program} {Γ : E6} {K : Po} {ops : Array Oper} {H : List (Nat × Nat)} {env : F9} {hp : List A1} {G : IM} {fuel : Nat} {listed l' : List Bool}
variable {op : Op} {ty : TypeId} {pos : String} {af : Array Edge} {gd : Option (Nat × Bool)}
class Z4 (l : List Bool) (j : Nat) (l2 : outParam (List Bool)) : Prop where
 h : l.set j true = l2
instance setT0 {b : Bool} {l : List Bool} : Z4 (b :: l) 0 (true :: l) := ⟨rfl⟩
instance setTs {b : Bool} {l l2 : List Bool} {n : Nat} [h : Z4 l n l2] : Z4 (b :: l) (n + 1) (b :: l2) := ⟨congrArg (b :: ·) h.h⟩
instance setTt {l l1 l2 : List Bool} {i j : Nat} [h : Z4 l i l1] [h2 : Z4 l1 j l2] : Z4 (l.set i true) j l2 := ⟨by rw [h.h, h2.h]⟩
theorem aP (i : Nat) {d : Nat} {v : Value} [hl : Z4 listed i l'] (hi : ops[i]? = some ⟨some d, op, ty, pos, af, gd⟩)
 (h : C9 P Γ ⟨env, hp, G⟩ op ty v) (hw : (J0 ops env gd, Nat.blt d Γ.n) = (some true, true))
 (k : L6 P Γ ops K H fuel l' ⟨(d, v) :: env, hp, G⟩) (hq : A0G ops listed i = true := by kernel_rfl) [hK : Z3 K] : L6 P Γ ops K H (fuel + 1) listed ⟨env, hp, G⟩ :=
 I0 hi hK.h h (congrArg Prod.fst hw) hq (congrArg Prod.snd hw) hl.h k
theorem aL (i : Nat) {d b : Nat} {v : Value} [hl : Z4 listed i l'] (hi : ops[i]? = some ⟨some d, op, ty, pos, af, gd⟩)
 (h : A0F P Γ ⟨env, hp, G⟩ op ty b v) (hw : (J0 ops env gd, Nat.blt d Γ.n) = (some true, true))
 (k : L6 P Γ ops K ((i, b) :: H) fuel l' ⟨(d, v) :: env, hp, G⟩) (hq : A0G ops listed i = true := by kernel_rfl) [hK : Z3 K] : L6 P Γ ops K H (fuel + 1) listed ⟨env, hp, G⟩ :=
 A4V hi hK.h h (congrArg Prod.fst hw) hq (congrArg Prod.snd hw) hl.h k
theorem A5 (i : Nat) {d : Nat} [hl : Z4 listed i l'] (hi : ops[i]? = some ⟨some d, op, ty, pos, af, gd⟩) (hw : J0 ops env gd = some false) (hd : Nat.blt d Γ.n = true)
 (k : L6 P Γ ops K H fuel l' ⟨(d, undef) :: env, hp, G⟩) (hq : A0G ops listed i = true := by kernel_rfl) [hK : Z3 K] : L6 P Γ ops K H (fuel + 1) listed ⟨env, hp, G⟩ :=
 aK hi hK.h hw hq hd hl.h k
theorem B6 (j : Nat) {σ : Sy} (h : U5 P Γ ops K H fuel listed j σ) (hr : Region.ready .any ops listed.toArray = [j] := by kernel_rfl) : L6 P Γ ops K H (fuel + 1) listed σ := aO hr h
theorem R5 {σ : Sy} (h : K .normal σ) (hr : Region.ready .any ops listed.toArray = [] := by kernel_rfl) : L6 P Γ ops K H fuel listed σ := aD hr h
end shortAny


theorem M7 {K : Po} {ops : Array Oper} {rest : List Oper} {pos : String} {af : Array Edge} {gd : Option (Nat × Bool)} {x y : Operand} {t : TypeId} {i : K1} [hI : E8 P t i] {b o : Nat} {v : Value} {vs cs cs' : List Value} {hp' : List A1}
  (hx : evo env x = some (.pointer (some ⟨b, o, none⟩))) (hy : evo env y = some v) (hv : v.cells = ⟨vs⟩) (hsz : vs.length = i.size) (h1 : vs.all (·.oneCell') = true)
  (hw : J0 ops env gd = some true) (hm : Sw hp (.blk b cs) (.blk b cs') hp') (hu : N8 cs o vs = some cs')
  (k : C4 P Γ ops rest K ⟨env, hp', G⟩) : C4 P Γ ops (⟨none, .store t x y, ty, pos, af, gd⟩ :: rest) K ⟨env, hp, G⟩ :=
 F3 (A3z hx hy hv hsz h1 hu hm rfl) hw (by rintro _ rfl; exact k)

theorem sS {K : Po} {ops : Array Oper} {rest : List Oper} {pos : String} {af : Array Edge} {gd : Option (Nat × Bool)} {x y : Operand} {t : TypeId} {i : K1} [hI : E8 P t i] {b o : Nat} {v : Value} {vs cs cs' : List Value} {hp' : List A1}
 (hx : evo env x = some (.pointer (some ⟨b, o, none⟩))) (hy : evo env y = some v) (hv : v.cells = ⟨vs⟩) (hsz : vs.length = i.size) (h1 : vs.all (·.oneCell') = true)
 (hw : J0 ops env gd = some true)
 (k : C4 P Γ ops rest K ⟨env, hp', G⟩) (hm : Sw hp (.blk b cs) (.blk b cs') hp' := by repeat first | exact Sw.here | apply Sw.there) (hu : N8 cs o vs = some cs' := by rfl) : C4 P Γ ops (⟨none, .store t x y, ty, pos, af, gd⟩ :: rest) K ⟨env, hp, G⟩ :=
 M7 hx hy hv hsz h1 hw hm hu k
theorem O6 {K : Po} {ops : Array Oper} {rest : List Oper} {pos : String} {af : Array Edge} {gd : Option (Nat × Bool)} {x y : Operand} {t : TypeId} {i : K1} [hI : E8 P t i] {b o : Nat} {v : Value} {vs cs cs' : List Value} {hp' : List A1}
 (k : C4 P Γ ops rest K ⟨env, hp', G⟩) (hx : evo env x = some (.pointer (some ⟨b, o, none⟩)) := by rfl) (hy : evo env y = some v := by rfl) (hv : v.cells = ⟨vs⟩ := by rfl) (hsz : vs.length = i.size := by rfl) (h1 : vs.all (·.oneCell') = true := by rfl)
 (hw : J0 ops env gd = some true := by rfl) (hm : Sw hp (.blk b cs) (.blk b cs') hp' := by repeat first | exact Sw.here | apply Sw.there) (hu : N8 cs o vs = some cs' := by rfl) : C4 P Γ ops (⟨none, .store t x y, ty, pos, af, gd⟩ :: rest) K ⟨env, hp, G⟩ :=
 M7 hx hy hv hsz h1 hw hm hu k
def A8z : List Bool → Nat → Option Nat
 | [], _ => none
 | false :: _, i => some i
 | true :: r, i => A8z r (i + 1)

section eqs
variable {x y : Operand} {t t' : TypeId} {k : IntKind} {m n : Int}
theorem A1F (hx : evo env x = some (.int k m)) (hy : evo env y = some (.int k n)) (h : m = n) : C9 P Γ ⟨env, hp, G⟩ (.binOp .eql t x y t') ty (.bool true) := by
 have := qE (P := P) (Γ := Γ) (hp := hp) (G := G) (ty := ty) (t := t) (t' := t') hx hy; rwa [decide_eq_true h] at this
theorem I1 (hx : evo env x = some (.int k m)) (hy : evo env y = some (.int k n)) (h : ¬ m = n) : C9 P Γ ⟨env, hp, G⟩ (.binOp .eql t x y t') ty (.bool false) := by
 have := qE (P := P) (Γ := Γ) (hp := hp) (G := G) (ty := ty) (t := t) (t' := t') hx hy; rwa [decide_eq_false h] at this
theorem T8 (hx : evo env x = some (.int k m)) (hy : evo env y = some (.int k n)) (h : m ≠ n) : C9 P Γ ⟨env, hp, G⟩ (.binOp .neq t x y t') ty (.bool true) := by
 have := N1 (P := P) (Γ := Γ) (hp := hp) (G := G) (ty := ty) (t := t) (t' := t') hx hy; rwa [decide_eq_true h] at this
theorem R0 (hx : evo env x = some (.int k m)) (hy : evo env y = some (.int k n)) (h : m = n) : C9 P Γ ⟨env, hp, G⟩ (.binOp .neq t x y t') ty (.bool false) := by
 have := N1 (P := P) (Γ := Γ) (hp := hp) (G := G) (ty := ty) (t := t) (t' := t') hx hy; rwa [decide_eq_false (by simpa using h)] at this
theorem X6 (hx : evo env x = some (.int k m)) (hy : evo env y = some (.int k n)) (h : m < n) : C9 P Γ ⟨env, hp, G⟩ (.binOp .lss t x y t') ty (.bool true) := by
 have := N2 (P := P) (Γ := Γ) (hp := hp) (G := G) (ty := ty) (t := t) (t' := t') hx hy; rwa [decide_eq_true h] at this
theorem M8 (hx : evo env x = some (.int k m)) (hy : evo env y = some (.int k n)) (h : ¬ m < n) : C9 P Γ ⟨env, hp, G⟩ (.binOp .lss t x y t') ty (.bool false) := by
 have := N2 (P := P) (Γ := Γ) (hp := hp) (G := G) (ty := ty) (t := t) (t' := t') hx hy; rwa [decide_eq_false h] at this
theorem A46 (hx : evo env x = some (.int k m)) (hy : evo env y = some (.int k n)) (h : ¬ m ≤ n) : C9 P Γ ⟨env, hp, G⟩ (.binOp .leq t x y t') ty (.bool false) := by
 have := S8 (P := P) (Γ := Γ) (hp := hp) (G := G) (ty := ty) (t := t) (t' := t') hx hy; rwa [decide_eq_false h] at this
theorem A3D (hx : evo env x = some (.int k m)) (hy : evo env y = some (.int k n)) (h : n < m) : C9 P Γ ⟨env, hp, G⟩ (.binOp .gtr t x y t') ty (.bool true) := by
 have := Z1 (P := P) (Γ := Γ) (hp := hp) (G := G) (ty := ty) (t := t) (t' := t') hx hy; rwa [decide_eq_true h] at this
theorem A2f (hx : evo env x = some (.int k m)) (hy : evo env y = some (.int k n)) (h : ¬ n < m) : C9 P Γ ⟨env, hp, G⟩ (.binOp .gtr t x y t') ty (.bool false) := by
 have := Z1 (P := P) (Γ := Γ) (hp := hp) (G := G) (ty := ty) (t := t) (t' := t') hx hy; rwa [decide_eq_false h] at this
theorem A2K (hx : evo env x = some (.int k m)) (hy : evo env y = some (.int k n)) (h : n ≤ m) : C9 P Γ ⟨env, hp, G⟩ (.binOp .geq t x y t') ty (.bool true) := by
 have := Q2 (P := P) (Γ := Γ) (hp := hp) (G := G) (ty := ty) (t := t) (t' := t') hx hy; rwa [decide_eq_true h] at this
theorem A2L (hx : evo env x = some (.int k m)) (hy : evo env y = some (.int k n)) (h : ¬ n ≤ m) : C9 P Γ ⟨env, hp, G⟩ (.binOp .geq t x y t') ty (.bool false) := by
 have := Q2 (P := P) (Γ := Γ) (hp := hp) (G := G) (ty := ty) (t := t) (t' := t') hx hy; rwa [decide_eq_false h] at this
end eqs

end steps

class A2g (P : Program) (t : TypeId) (pl : outParam (List (Nat × Nat))) : Prop where
 ok : ∃ fs : List Field, P.underlying t = some (.struct ⟨fs⟩) ∧ ∀ w, ((⟨fs⟩ : Array Field).mapM fun (f : Field) => (do pure (f.offset, ← sizeOf f.type) : Sem (Nat × Nat))).run P w = .ok ⟨pl⟩ w

theorem A3E {P : Program} {t : TypeId} {pl : List (Nat × Nat)} {fs : List Field} (h : P.underlying t = some (.struct ⟨fs⟩)) (hp : (fs.map fun f => (f.offset, P.cellsOf f.type)) = pl)
  (he : (fs.all fun f => (P.info? f.type).isSome) = true) : A2g P t pl := by
 refine ⟨fs, h, fun w => ?_⟩
 rw [Array.mapM_eq_mapM_toList]
 simp only [Sem.run_map]
 rw [A3C _ w fs pl (by simp [← hp])]
 ·rfl
 ·intro j x y hx hy
  subst hp
  simp [List.getElem?_map, hx] at hy
  subst hy
  have hm : x ∈ fs := List.mem_of_getElem? hx
  have := List.all_eq_true.1 he x hm
  cases hi : P.info? x.type with
  | none => simp [hi] at this
  | some i => simp [sizeOf, typeInfo, hi, Program.cellsOf]

def A1l (pl : Nat → Option (Nat × Nat)) : List Value → List (Nat × Value) → Option (List Value)
 | cs, [] => some cs
 | cs, (i, v) :: r => match pl i with
  | none => none
  | some (off, sz) => match Nat.beq v.cells.toList.length sz with
   | false => none
   | true => match N8 cs off v.cells.toList with
    | none => none
    | some cs' => A1l pl cs' r

def cpy : List Value → Option (List Value)
 | [] => some []
 | c :: cs => match cpy cs with
  | some r => some (c :: r)
  | none => none
theorem A47 : ∀ cs, cpy cs = some cs
 | [] => rfl
 | c :: cs => by simp only [cpy, A47 cs]
def A3F (pl : Nat → Option (Nat × Nat)) (cs : List Value) (ps : List (Nat × Value)) : Option (List Value) := match A1l pl cs ps with
 | some r => cpy r
 | none => none
theorem A8A {pl : Nat → Option (Nat × Nat)} {cs cs' : List Value} {ps : List (Nat × Value)} (h : A3F pl cs ps = some cs') : A1l pl cs ps = some cs' := by
 unfold A3F at h
 split at h
 ·rename_i r hr; rw [A47] at h; rw [hr]; exact h
 ·cases h

theorem A48 : ∀ (vs : List Value) (k off : Nat) (cs : List Value), off + k + vs.length ≤ cs.length →
  ((vs.zipIdx k).foldl (fun (a : Array Value) (p : Value × Nat) => a.setIfInBounds (off + p.2) p.1) ⟨cs⟩).toList = cs.take (off + k) ++ vs ++ cs.drop (off + k + vs.length)
 | [], k, off, cs, _ => by simp
 | v :: vs, k, off, cs, h => by
  simp only [List.zipIdx_cons, List.foldl_cons]
  have h1 : ((⟨cs⟩ : Array Value).setIfInBounds (off + k) v) = ⟨cs.set (off + k) v⟩ := by simp
  simp only [List.length_cons] at h
  rw [h1, A48 vs (k + 1) off (cs.set (off + k) v) (by simp; omega)]
  apply List.ext_getElem?
  intro i
  simp only [List.getElem?_append, List.length_append, List.length_take, List.length_set, List.length_cons, List.getElem?_drop, List.getElem?_take, List.getElem?_set]
  have e1 : min (off + (k + 1)) cs.length = off + k + 1 := by omega
  have e2 : min (off + k) cs.length = off + k := by omega
  rw [e1, e2]
  by_cases c1 : i < off + k
  ·rw [if_pos (by omega), if_pos (by omega), if_pos (by omega), if_neg (by omega), if_pos (by omega), if_pos (by omega), if_pos (by omega)]
  ·by_cases c2 : i = off + k
   ·subst c2
    rw [if_pos (by omega), if_pos (by omega), if_pos (by omega), if_pos rfl, if_pos (by omega), if_pos (by omega), if_neg (by omega)]
    simp
   ·by_cases c3 : i < off + k + 1 + vs.length
    ·rw [if_pos (by omega), if_neg (by omega), if_pos (by omega), if_neg (by omega), show i - (off + k) = (i - (off + k + 1)) + 1 by omega]
     simp
    ·rw [if_neg (by omega), if_neg (by omega), if_neg (by omega), show off + (k + 1) + vs.length + (i - (off + k + 1 + vs.length)) = off + k + (vs.length + 1) + (i - (off + k + (vs.length + 1))) by omega]

theorem A2M {pl : Nat → Option (Nat × Nat)} : ∀ {parts : List (Nat × Value)} {cs cs' : List Value}, A1l pl cs parts = some cs' → Instr.fill pl ⟨cs⟩ parts = some ⟨cs'⟩ ∧ cs'.length = cs.length
 | [], cs, cs', h => by cases cs <;> (simp [A1l] at h; subst h; exact ⟨rfl, rfl⟩)
 | (i, v) :: r, cs, cs', h => by
  simp only [A1l] at h
  split at h
  ·cases h
  ·rename_i off sz h1
   split at h
   ·cases h
   ·rename_i h2
    split at h
    ·cases h
    ·rename_i W8 hu
     obtain ⟨u1, u2⟩ := A2e hu
     obtain ⟨ih1, ih2⟩ := A2M h
     have hl := A48 v.cells.toList 0 off cs (by simpa using u2)
     have e : v.cells.size = sz := by have := Nat.eq_of_beq_eq_true h2; simpa using this
     have hlen : W8.length = cs.length := by rw [u1]; simp at u2 ⊢; omega
     refine ⟨?_, by rw [ih2, hlen]⟩
     simp only [Instr.fill, h1]
     have u2' : off + v.cells.size ≤ cs.length := by simpa using u2
     rw [if_neg (by simp [e]; omega)]
     rw [← ih1]
     congr 1
     apply Array.ext'
     simp only [Nat.add_zero] at hl
     rw [u1, ← hl]
     rw [← Array.foldl_toList]
     simp

theorem A3G {P : Program} {t : TypeId} {i : K1} [hI : E8 P t i] : ∃ inf z, (∀ w, (typeInfo t).run P w = .ok inf w) ∧ (∀ w, (zeroValue t).run P w = .ok z w) ∧ (∀ w, (sizeOf t).run P w = .ok i.size w) ∧ inf.bytes = i.bytes ∧ z.cells = ⟨i.zs⟩ ∧ P.info? t = some inf ∧ inf.zero = some z ∧ inf.size = i.size := by
 obtain ⟨inf, g1, g2, g3, z, g4, g5⟩ := hI.info
 refine ⟨inf, z, fun w => ?_, fun w => ?_, fun w => ?_, g3, g5, g1, g4, g2⟩
 ·simp [typeInfo, g1]
 ·simp [zeroValue, typeInfo, g1, g4]
 ·simp [sizeOf, typeInfo, g1, g2]

section mem
variable {P : Program} {Γ : E6} {env : F9} {hp : List A1} {G : IM} {ty : TypeId}

def evp (e : F9) : List (Nat × Operand) → Option (List (Nat × Value))
 | [] => some []
 | (i, x) :: r => match evo e x with
  | some v => match evp e r with
   | some vs => some ((i, v) :: vs)
   | none => none
  | none => none
theorem A3H {a : Act} {w : World} (hs : St Γ ⟨env, hp, G⟩ a w) : ∀ {xs : List (Nat × Operand)} {vs : List (Nat × Value)}, evp env xs = some vs → (xs.map fun (p : Nat × Operand) => (p.1, a.eval p.2)) = vs
 | [], vs, h => by simp [evp] at h; subst h; rfl
 | (i, x) :: r, vs, h => by
  simp only [evp] at h
  split at h
  ·rename_i v hv
   split at h
   ·rename_i us hu
    simp at h; subst h
    have e1 : a.eval x = v := hs.evo hv
    simp [e1, A3H hs hu]
   ·cases h
  ·cases h

theorem Z5 {t : TypeId} {i : K1} [hI : E8 P t i] {pl : List (Nat × Nat)} [hP : A2g P t pl] {xs : List (Nat × Operand)} {vs : List (Nat × Value)} {cs : List Value}
  (hx : evp env xs = some vs) (hf : A1l (fun (j : Nat) => pl[j]?) i.zs vs = some cs) : C9 P Γ ⟨env, hp, G⟩ (.build t ⟨xs⟩) ty (.agg ⟨cs⟩) := by
 refine ⟨fun a _ hs _ _ _ _ w => ?_⟩
 obtain ⟨inf, z, h1, h2, h3, _, g5, _⟩ := A3G (P := P) (t := t)
 obtain ⟨fs, f1, f2⟩ := hP.ok
 have hv := A3H hs hx
 have hfr := (A2M hf).1
 simp only [execOp, Instr.build, Sem.run_bind, h2, Result.andThen_ok, Sem.run_pure, run_underlying f1, f2 w]
 have e : ((⟨xs⟩ : Array (Nat × Operand)).map fun x => match x with | (i, x) => (i, a.eval x)).toList = vs := by simpa using hv
 rw [e, g5]
 have e2 : (fun (x : Nat) => (⟨pl⟩ : Array (Nat × Nat))[x]?) = (fun (x : Nat) => pl[x]?) := by funext x; simp
 rw [e2, hfr]
 rfl

theorem A8B (w : World) (hin : A18 G w) (el sz n : Nat) (cs : List Value) (hl : cs.length = n * sz) (hm : n ≤ maxLen) :
  M2 [] G w [.slc (some ⟨w.heap.size, 0, none⟩) n el sz n cs] G (w.alloc (.cells cs.toArray el)) := by
 have h := A41 w hin cs el
 have hb : (w.alloc (.cells cs.toArray el)).heap[w.heap.size]? = some (.cells cs.toArray el (0, 0)) := heap_alloc_new w _
 refine ⟨⟨h.own.inn, ?_, by simp [Fp, A1.fp, E5], ?_⟩, h.ext, h.le, h.fresh, ?_, fun b l h h0 => absurd h (by rw [h0]; simp)⟩
 ·intro x hx
  simp at hx; subst hx
  refine ⟨hl, .inr ⟨w.heap.size, n, cs.toArray, rfl, Nat.zero_le _, hb, Nat.le_refl _, hm, by simpa using hl, ?_⟩⟩
  simp [← hl]
 ·intro b hb'; exact h.own.disj b (by simpa [Fp, A1.fp, E5] using hb')
 ·intro b hb'; exact h.ofresh b (by simpa [Fp, A1.fp, E5] using hb')

def A0J (n : Nat) (zs : List Value) : List Value := match n with | 0 => [] | n + 1 => zs ++ A0J n zs
theorem A3I (n : Nat) (zs : List Value) : (A0J n zs).length = n * zs.length := by
 induction n with
 | zero => simp [A0J]
 | succ n ih => simp [A0J, ih, Nat.succ_mul, Nat.add_comm]
theorem A49 (zs : List Value) : ∀ (n i : Nat), i < n * zs.length → (A0J n zs)[i]? = zs[i % zs.length]?
 | 0, i, h => by simp at h
 | n + 1, i, h => by
  simp only [A0J, List.getElem?_append]
  split
  ·rename_i hi; rw [Nat.mod_eq_of_lt hi]
  ·rename_i hi
   rw [A49 zs n (i - zs.length) (by rw [Nat.succ_mul] at h; omega)]
   rw [Nat.mod_eq_sub_mod (a := i) (by omega)]
theorem A8C (z : Array Value) (zs : List Value) (hz : z = ⟨zs⟩) (n : Nat) : ((Array.range (n * zs.length)).map (z[· % z.size]!)) = ⟨A0J n zs⟩ := by
 subst hz
 apply Array.ext'
 simp only [Array.toList_map, Array.toList_range]
 apply List.ext_getElem?
 intro i
 by_cases hi : i < n * zs.length
 ·rw [A49 zs n i hi]
  have hpos : 0 < zs.length := by
   rcases Nat.eq_zero_or_pos zs.length with h | h
   ·rw [h] at hi; simp at hi
   ·exact h
  have hlt := Nat.mod_lt i hpos
  simp [hi, getElem!_def, hlt]
 ·simp [hi]
  have hl := A3I n zs
  omega

theorem A5a (el : TypeId) (cs : List Value) (w : World) : (newRow el ⟨cs⟩).run P w = .ok ⟨w.heap.size, 0, none⟩ (w.alloc (.cells cs.toArray el)) := by
 simp [newRow, newObj, Sem.run]

theorem A8D {d : Nat} {op : Op} {el sz n : Nat} {cs : List Value} (hd : Nat.blt d Γ.n = true) (hl : cs.length = n * sz) (hm : n ≤ maxLen)
  (hrun : ∀ a w, St Γ ⟨env, hp, G⟩ a w → ∀ d pos af gd, (execOp a.eval ⟨d, op, ty, pos, af, gd⟩).run P w = .ok (.value (.slice (some ⟨w.heap.size, 0, none⟩) n n)) (w.alloc (.cells cs.toArray el))) :
  T3 P Γ ⟨env, hp, G⟩ (some d) op ty [] (fun σ' => ∃ b, σ' = ⟨(d, .slice (some ⟨b, 0, none⟩) n n) :: env, .slc (some ⟨b, 0, none⟩) n el sz n cs :: hp, G⟩) := by
 refine ⟨fun a w hs pos af gd Q next hn => ?_⟩
 simp only [Oper.wp, hrun a w hs, Oper.upon]
 have hr' := A8B w hs.res.own.inn el sz n cs hl hm
 exact hn _ _ _ (hs.step (ins := []) (rest := hp) (List.Perm.refl _) hr' (List.Perm.refl _) (d := some d) hd) hr'.ext ⟨w.heap.size, rfl⟩

theorem P1 {d : Nat} {t el : TypeId} {i : K1} {sz by' : Nat} {zs : List Value} [hI : E8 P t i] (hd' : i.desc = .slice el) [hE : W7 P el sz by' zs] {n : Nat} {xs : List (Nat × Operand)} {vs : List (Nat × Value)} {cs : List Value}
  (hd : Nat.blt d Γ.n = true) (hx : evp env xs = some vs) (hn : n * sz ≤ 16777216) (hm : n ≤ maxLen)
  (hf : A3F (fun j => some (j * sz, sz)) (A0J n zs) vs = some cs) :
  T3 P Γ ⟨env, hp, G⟩ (some d) (.buildSlice t n ⟨xs⟩) ty [] (fun σ' => ∃ b, σ' = ⟨(d, .slice (some ⟨b, 0, none⟩) n n) :: env, .slc (some ⟨b, 0, none⟩) n el sz n cs :: hp, G⟩) := by
 have hz := hE.len
 obtain ⟨_, hE⟩ := hE.ok
 replace hf := A8A hf
 have hlen : cs.length = n * sz := by rw [(A2M hf).2, A3I, hz]
 refine A8D hd hlen hm fun a w hs d pos af gd => ?_
 obtain ⟨inf, z, h1, h2, h3, _, g5, _⟩ := A3G (P := P) (t := el)
 have hu := hI.und
 rw [hd'] at hu
 have hv := A3H hs hx
 have e : ((⟨xs⟩ : Array (Nat × Operand)).map fun x => match x with | (i, x) => (i, a.eval x)).toList = vs := by simpa using hv
 have hfr := (A2M hf).1
 simp only [execOp, Instr.buildSlice, Sem.run_bind, run_underlying hu, Result.andThen_ok, h3, Sem.run_pure]
 rw [if_neg (by omega)]
 by_cases h0 : n * sz = 0
 ·have hz0 : A0J n zs = [] := List.eq_nil_of_length_eq_zero (by rw [A3I, hz, h0])
  rw [hz0] at hfr
  have er : ∀ f : Nat → Value, (Array.range 0).map f = (⟨[]⟩ : Array Value) := fun f => by simp
  simp only [h0, if_true, Sem.run_bind, Sem.run_pure, Result.andThen_ok, er]
  rw [e, hfr]
  simp only [Sem.run_bind, A5a, Result.andThen_ok, Sem.run_pure]
 ·have hc := A8C z.cells zs g5 n
  rw [hz] at hc
  simp only [h0, if_false, Sem.run_bind, Sem.run_pure, Result.andThen_ok, h2, hc]
  rw [e, hfr]
  simp only [Sem.run_bind, A5a, Result.andThen_ok, Sem.run_pure]

end mem

section rules2
variable {P : Program} {Γ : E6} {env : F9} {hp : List A1} {G : IM} {ty : TypeId} {K : Po} {ops : Array Oper} {rest : List Oper}
variable {pos : String} {af : Array Edge} {gd : Option (Nat × Bool)}

theorem A8E {w w' : World} {p p' : Option Addr} {c c' el sz n n' : Nat} {cs cs' : List Value} (hown : O5 [.slc p c el sz n cs] G w)
  (h' : w'.ownsRow 0 el sz (.slice p' n' c') n' cs') (hg : w.grownBy w' ((Value.slice p n c).ownBlock)) (hnew : ∀ g, p' = some g → (∃ q, p = some q ∧ q.block = g.block) ∨ w.heap.size ≤ g.block) :
  M2 [.slc p c el sz n cs] G w [.slc p' c' el sz n' cs'] G w' := by
 have hfp : ∀ b, b ∈ Fp [.slc p c el sz n cs] ↔ (Value.slice p n c).ownBlock = some b := by
  intro b
  cases p with
  | none => simp [Fp, A1.fp, E5, Value.ownBlock]
  | some q => simp [Fp, A1.fp, E5, Value.ownBlock, eq_comm]
 have hfp' : ∀ b, b ∈ Fp [.slc p' c' el sz n' cs'] ↔ ∃ g, p' = some g ∧ g.block = b := by
  intro b
  cases p' with
  | none => simp [Fp, A1.fp, E5]
  | some q => simp [Fp, A1.fp, E5, eq_comm]
 refine ⟨⟨?_, ?_, ?_, ?_⟩, ⟨hg.os, hg.tape, hg.output, hg.size, ?_⟩, B4.refl _, fun _ _ h => .inl h, ?_, fun b l h h0 => absurd h (by rw [h0]; simp)⟩
 ·intro b l hb
  obtain ⟨e, f, h⟩ := hown.inn b l hb
  refine ⟨e, f, ?_⟩
  rw [hg.block b (W6 h) ?_]
  ·exact h
  ·intro hb'
   have := hown.disj b ((hfp b).2 hb'.symm)
   rw [this] at hb; cases hb
 ·intro x hx
  simp at hx; subst hx; exact h'
 ·cases p' <;> simp [Fp, A1.fp, E5]
 ·intro b hb
  obtain ⟨g, hg1, hg2⟩ := (hfp' b).1 hb
  rcases hnew g hg1 with ⟨q, hq, hqb⟩ | hlt
  ·refine hown.disj b ((hfp b).2 ?_)
   subst hq
   simp [Value.ownBlock, hqb, hg2]
  ·cases hgb : G b with
   | none => rfl
   | some l => exact absurd (hown.inn.lt hgb) (by omega)
 ·intro k hk hkn
  exact hg.block k hk (fun e => hkn ((hfp k).2 e.symm))
 ·intro b hb
  obtain ⟨g, hg1, hg2⟩ := (hfp' b).1 hb
  rcases hnew g hg1 with ⟨q, hq, hqb⟩ | hlt
  ·right
   refine (hfp b).2 ?_
   subst hq
   simp [Value.ownBlock, hqb, hg2]
  ·left; omega

theorem A5b {d : Nat} {x y : Operand} {t el : TypeId} {i : K1} {sz by' : Nat} {zs : List Value} [hI : E8 P t i] (hd' : i.desc = .slice el) [hE : W7 P el sz by' zs] {p : Option Addr} {c n m b o c' : Nat} {cs news : List Value} {hp' : Option Addr → Nat → List A1}
  (hd : Nat.blt d Γ.n = true) (hx : evo env x = some (.slice p n c)) (hy : evo env y = some (.slice (some ⟨b, o, none⟩) m c')) (hsz : Nat.blt 0 sz = true)
  (hm : ∀ p' c', Sw hp (.slc p c el sz n cs) (.slc p' c' el sz (n + m) (cs ++ news)) (hp' p' c'))
  (hs' : At hp G b o news) (hl : news.length = m * sz) (h1 : ∀ u ∈ news, u.oneCell' = true)
  (h63 : n + m ≤ maxLen) (hb : (n + m) * by' ≤ 140737488355328) :
  T3 P Γ ⟨env, hp, G⟩ (some d) (.call ⟨.builtin .append, ⟨[x, y]⟩, ⟨[t, t]⟩⟩) ty (E5 p) (fun σ' => ∃ p' c', σ' = ⟨(d, .slice p' (n + m) c') :: env, hp' p' c', G⟩) := by
 refine ⟨fun a w hs pos af gd Q next hn => ?_⟩
 have hz := hE.len
 obtain ⟨_, hE⟩ := hE.ok
 obtain ⟨rest, q1, _⟩ := (hm none 0).perm
 have hown : O5 [.slc p c el sz n cs] G w := hs.res.own.of_mem q1
 obtain ⟨inf, z, t1, t2, t3, t4, t5, t6, t7, t8⟩ := A3G (P := P) (t := el)
 have hu := hI.und
 rw [hd'] at hu
 obtain ⟨full, e, f, hfb, hfv⟩ := hs'.read hs
 have hnews : ∀ j u, news[j]? = some u → w.cell? ((⟨b, o, none⟩ : Addr).add j) = some u := fun j u hj => by rw [A2J]; simp [World.cell?, hfb, hfv j u hj]
 have hsz' : 0 < sz := by simpa using hsz
 have hrow := hown.ok _ List.mem_cons_self
 obtain ⟨v', w', hrun, hown', hgrow, _⟩ := run_append_own (P := P) w 0 t ty el inf z sz by' hu t6 t7 t8 t4 (by rw [t5]; exact hz) hsz' (.slice p n c) n cs hrow ⟨b, o, none⟩ m c' news hl hnews h1 h63 hb (Nat.zero_le _)
 have hv' : ∃ p' c', v' = .slice p' (n + m) c' := by
  rcases hown'.2 with ⟨hv, hn0⟩ | ⟨g, cap, cur, hv, _⟩
  ·exact ⟨none, 0, by rw [hv, hn0]⟩
  ·exact ⟨_, _, hv⟩
 obtain ⟨p', c'', rfl⟩ := hv'
 have hexec : (execOp a.eval ⟨some d, .call ⟨.builtin .append, ⟨[x, y]⟩, ⟨[t, t]⟩⟩, ty, pos, af, gd⟩).run P w = .ok (.value (.slice p' (n + m) c'')) w' := by
  simp only [execOp, resolve, invoke, builtin, Sem.run_bind, Sem.run_pure, Result.andThen_ok]
  have e1 : (⟨[x, y]⟩ : Array Operand).map a.eval = #[.slice p n c, .slice (some ⟨b, o, none⟩) m c'] := by
   simp [(hs.evo hx : a.eval x = _), (hs.evo hy : a.eval y = _)]
  rw [e1]
  have : (Builtin.append_ ⟨[t, t]⟩ ty #[.slice p n c, .slice (some ⟨b, o, none⟩) m c']).run P w = .ok (.slice p' (n + m) c'') w' := hrun
  rw [this]; rfl
 simp only [Oper.wp, hexec, Oper.upon]
 have hnew : ∀ g, p' = some g → (∃ q, p = some q ∧ q.block = g.block) ∨ w.heap.size ≤ g.block := by
  intro g hg
  subst hg
  rcases hrow.2 with ⟨hv, hn0⟩ | ⟨g0, cap, cur, hv, _, hg0, hnc, hcm, hcs, htake⟩
  ·right
   cases hv
   obtain ⟨v2, w2, hrun2, hown2, _⟩ := run_append_own (P := P) w w.heap.size t ty el inf z sz by' hu t6 t7 t8 t4 (by rw [t5]; exact hz) hsz' (.slice none 0 0) 0 [] (World.ownsRow_nil w _ el _) ⟨b, o, none⟩ m c' news hl hnews h1 (by omega) (by omega) (Nat.le_refl _)
   rw [hrun] at hrun2
   cases hrun2
   rcases hown2.2 with ⟨hv2, _⟩ | ⟨g2, _, _, hv2, hb2, _⟩
   ·cases hv2
   ·cases hv2; exact hb2
  ·cases hv
   have hcl : cs.length = n * sz := hrow.1
   by_cases hroom : n + m ≤ c
   ·left
    have hfit : n * inf.size + news.length ≤ cur.size := by rw [t8, hl, hcs, ← Nat.add_mul]; exact Nat.mul_le_mul_right _ hroom
    have hr := run_append_room (P := P) w t ty el inf hu t6 g0 n c cur hg0 ⟨b, o, none⟩ m c' news (by rw [t8]; exact hl) hnews h1 hroom hfit
    rw [hrun] at hr
    cases hr
    exact ⟨_, rfl, rfl⟩
   ·right
    have holds : ∀ j u, cs[j]? = some u → w.cell? ((⟨g0, 0, none⟩ : Addr).add j) = some u := hrow.cells (g := g0) rfl
    have hm63 : n + m ≤ 9223372036854775807 := by unfold maxLen at h63; omega
    have hr := run_append_grow (P := P) w t ty el inf z hu t6 t7 ⟨g0, 0, none⟩ n c cs (by rw [t8]; exact hcl) holds ⟨b, o, none⟩ m c' news (by rw [t8]; exact hl) hnews (by omega) (by omega) (by rw [t4]; exact growslice_fits (by omega) hb)
    rw [hrun] at hr
    cases hr
    exact Nat.le_refl _
 have hr := A8E hown hown' hgrow hnew
 obtain ⟨rest, q1, q2⟩ := (hm p' c'').perm
 exact hn _ _ _ (hs.step q1 hr q2 (d := some d) hd) (by
  have := hr.ext
  simpa [Fp, A1.fp] using this) ⟨p', c'', rfl⟩

def Sl (G : IM) (p : Option Addr) (n c sz : Nat) (cs : List Value) : Prop :=
 cs.length = n * sz ∧ n ≤ c ∧ c ≤ maxLen ∧ (n = 0 ∨ ∃ b o full, p = some ⟨b, o, none⟩ ∧ G b = some full ∧ ∀ j v, cs[j]? = some v → full[o + j]? = some v)
theorem Sl.mono {G G' : IM} {p : Option Addr} {n c sz : Nat} {cs : List Value} (h : Sl G p n c sz cs) (hg : B4 G G') : Sl G' p n c sz cs := by
 obtain ⟨h1, h2, h3, h4⟩ := h
 refine ⟨h1, h2, h3, h4.imp id ?_⟩
 rintro ⟨b, o, full, e1, e2, e3⟩
 exact ⟨b, o, full, e1, hg b full e2, e3⟩
theorem Sl.nil (G : IM) (sz : Nat) : Sl G none 0 0 sz [] := ⟨by simp, Nat.le_refl _, Nat.zero_le _, .inl rfl⟩

theorem A8F {w : World} {p : Option Addr} {c el sz n : Nat} {cs : List Value} (hown : O5 [.slc p c el sz n cs] G w) :
  ∃ G', M2 [.slc p c el sz n cs] G w [] G' w ∧ Sl G' p n c sz cs ∧ ∀ b ∈ E5 p, G b = none ∧ G' b ≠ none := by
 obtain ⟨hl, h⟩ := hown.ok _ List.mem_cons_self
 rcases h with ⟨hv, hn⟩ | ⟨g, cap, cur, hv, _, hg, hnc, hcm, hcs, ht⟩
 ·cases hv
  exact ⟨G, ⟨⟨hown.inn, by simp, by simp [Fp], by simp [Fp]⟩, X3.refl _ _, B4.refl _, fun _ _ h => .inl h, by simp [Fp], fun b l h h0 => absurd h (by rw [h0]; simp)⟩, ⟨hl, Nat.le_refl _, Nat.zero_le _, .inl rfl⟩, by simp [E5]⟩
 ·cases hv
  have hG : G g = none := hown.disj g (by simp [Fp, A1.fp, E5])
  refine ⟨fun b => if b = g then some cur.toList else G b, ⟨⟨?_, by simp, by simp [Fp], by simp [Fp]⟩, X3.refl _ _, ?_, ?_, by simp [Fp], ?_⟩, ⟨hl, hnc, hcm, ?_⟩, by simp [E5, hG]⟩
  ·intro b l hb
   replace hb : (if b = g then some cur.toList else G b) = some l := hb
   split at hb
   ·rename_i he; subst he; simp at hb; subst hb; exact ⟨el, (0, 0), by simpa using hg⟩
   ·exact hown.inn b l hb
  ·intro b l hb
   show (if b = g then some cur.toList else G b) = some l
   rw [if_neg]
   ·exact hb
   ·rintro rfl; rw [hG] at hb; cases hb
  ·intro b l hb
   replace hb : (if b = g then some cur.toList else G b) = some l := hb
   split at hb
   ·rename_i he; subst he; exact .inr (.inr (by simp [Fp, A1.fp, E5]))
   ·exact .inl hb
  ·intro b l hb h0
   replace hb : (if b = g then some cur.toList else G b) = some l := hb
   split at hb
   ·rename_i he; subst he; simp at hb; subst hb; exact ⟨el, by simpa using hg⟩
   ·rw [h0] at hb; cases hb
  ·rcases Nat.eq_zero_or_pos n with h0 | h0
   ·exact .inl h0
   ·refine .inr ⟨g, 0, cur.toList, rfl, by simp, fun j v hj => ?_⟩
    rw [← ht, List.getElem?_take] at hj
    split at hj
    ·simpa using hj
    ·cases hj

theorem St.nil_slc {a : Act} {w : World} (hs : St Γ ⟨env, hp, G⟩ a w) (el sz : Nat) : St Γ ⟨env, .slc none 0 el sz 0 [] :: hp, G⟩ a w := by
 refine ⟨hs.size, hs.nod, hs.env, ⟨⟨hs.res.own.inn, ?_, ?_, ?_⟩, hs.res.ext, hs.res.le, hs.res.fresh, ?_, hs.res.fz⟩⟩
 ·intro e he
  rcases List.mem_cons.1 he with rfl | he
  ·exact World.ownsRow_nil w 0 el sz
  ·exact hs.res.own.ok e he
 ·simpa [Fp, A1.fp, E5] using hs.res.own.nodup
 ·intro b hb; exact hs.res.own.disj b (by simpa [Fp, A1.fp, E5] using hb)
 ·intro b hb; exact hs.res.ofresh b (by simpa [Fp, A1.fp, E5] using hb)
theorem A5c (el sz : Nat) (h : C4 P Γ ops rest K ⟨env, .slc none 0 el sz 0 [] :: hp, G⟩) : C4 P Γ ops rest K ⟨env, hp, G⟩ := ⟨fun a w hs => h.run a w (hs.nil_slc el sz)⟩
inductive Pk : List A1 → A1 → List A1 → Prop
 | here {e : A1} {r : List A1} : Pk (e :: r) e r
 | there {x e : A1} {r r' : List A1} : Pk r e r' → Pk (x :: r) e (x :: r')
theorem Pk.perm {hp hp' : List A1} {e : A1} (h : Pk hp e hp') : hp.Perm ([e] ++ hp') := by
 induction h with
 | here => exact List.Perm.refl _
 | there _ ih => exact (ih.cons _).trans (List.Perm.swap _ _ _)

theorem St.freeze {a : Act} {w : World} {hp' : List A1} {p : Option Addr} {c el sz n : Nat} {cs : List Value} (hs : St Γ ⟨env, hp, G⟩ a w) (hk : Pk hp (.slc p c el sz n cs) hp') :
  ∃ G', St Γ ⟨env, hp', G'⟩ a w ∧ B4 G G' ∧ Sl G' p n c sz cs ∧ ∀ b ∈ E5 p, G b = none ∧ G' b ≠ none := by
 have hown : O5 [.slc p c el sz n cs] G w := hs.res.own.of_mem hk.perm
 obtain ⟨G', hr, hsl, hno⟩ := A8F hown
 exact ⟨G', ⟨hs.size, hs.nod, hs.env, by have := (hs.res.perm hk.perm).frame hr; simpa using this⟩, hr.le, hsl, hno⟩

theorem A5d {cd : Code} {hp' : List A1} {p : Option Addr} {c el sz n : Nat} {cs : List Value} (hk : Pk hp (.slc p c el sz n cs) hp')
  (h : ∀ G', B4 G G' → Sl G' p n c sz cs → (∀ b ∈ E5 p, G b = none ∧ G' b ≠ none) → M3 P Γ cd K ⟨env, hp', G'⟩) : M3 P Γ cd K ⟨env, hp, G⟩ :=
 ⟨fun a w hs => let ⟨G', h1, h2, h3, h4⟩ := hs.freeze hk; (h G' h2 h3 h4).run a w h1⟩
theorem A1m {hp' : List A1} {p : Option Addr} {c el sz n : Nat} {cs : List Value} (hk : Pk hp (.slc p c el sz n cs) hp')
  (h : ∀ G', B4 G G' → Sl G' p n c sz cs → (∀ b ∈ E5 p, G b = none ∧ G' b ≠ none) → M3 P Γ .ret K ⟨env, hp', G'⟩) : M3 P Γ .ret K ⟨env, hp, G⟩ := A5d hk h
theorem X7 {hp' : List A1} {p : Option Addr} {c el sz n : Nat} {cs : List Value} (hk : Pk hp (.slc p c el sz n cs) hp')
  (h : ∀ G', B4 G G' → Sl G' p n c sz cs → (∀ b ∈ E5 p, G b = none ∧ G' b ≠ none) → C4 P Γ ops rest K ⟨env, hp', G'⟩) : C4 P Γ ops rest K ⟨env, hp, G⟩ :=
 ⟨fun a w hs => let ⟨G', h1, h2, h3, h4⟩ := hs.freeze hk; (h G' h2 h3 h4).run a w h1⟩
def H4 (v0 : Value) (G : IM) : IM → Value → List A1 → Prop := fun G' v outs => G' = G ∧ v = v0 ∧ outs = []
def J1 (Φ : IM → Value → Prop) : IM → Value → List A1 → Prop := fun G' v outs => outs = [] ∧ Φ G' v

theorem I5 {d : Nat} {f : FuncId} [hF : A8 P f] {xs : List Operand} {ats : Array TypeId} {vs : List Value} {v0 : Value}
  (hx : evl env xs = some vs) (h : Fn P f vs [] G (H4 v0 G)) (hw : J0 ops env gd = some true) (hd : Nat.blt d Γ.n = true)
  (k : C4 P Γ ops rest K ⟨(d, v0) :: env, hp, G⟩) : C4 P Γ ops (⟨some d, .call ⟨.value (.func f), ⟨xs⟩, ats⟩, ty, pos, af, gd⟩ :: rest) K ⟨env, hp, G⟩ :=
 F3 (A3B hx h hd) hw (by rintro _ ⟨v, G', outs, rfl, _, rfl, rfl, rfl⟩; exact k)
theorem H6 {d : Nat} {f : FuncId} [hF : A8 P f] {xs : List Operand} {ats : Array TypeId} {vs : List Value} {b : Bool}
  (hx : evl env xs = some vs) (h : Fn P f vs [] G (H4 (.bool b) G)) (hw : J0 ops env gd = some true) (hd : Nat.blt d Γ.n = true)
  (kt : b = true → C4 P Γ ops rest K ⟨(d, .bool true) :: env, hp, G⟩) (kf : b = false → C4 P Γ ops rest K ⟨(d, .bool false) :: env, hp, G⟩) :
  C4 P Γ ops (⟨some d, .call ⟨.value (.func f), ⟨xs⟩, ats⟩, ty, pos, af, gd⟩ :: rest) K ⟨env, hp, G⟩ := by
 cases b
 ·exact I5 hx h hw hd (kf rfl)
 ·exact I5 hx h hw hd (kt rfl)
theorem M9 {d : Nat} {f : FuncId} [hF : A8 P f] {xs : List Operand} {ats : Array TypeId} {vs : List Value} {Φ : IM → Value → Prop}
  (hx : evl env xs = some vs) (h : Fn P f vs [] G (J1 Φ)) (hw : J0 ops env gd = some true) (hd : Nat.blt d Γ.n = true)
  (k : ∀ v G', B4 G G' → Φ G' v → C4 P Γ ops rest K ⟨(d, v) :: env, hp, G'⟩) : C4 P Γ ops (⟨some d, .call ⟨.value (.func f), ⟨xs⟩, ats⟩, ty, pos, af, gd⟩ :: rest) K ⟨env, hp, G⟩ :=
 F3 (A3B hx h hd) hw (by rintro _ ⟨v, G', outs, rfl, hle, rfl, hΦ⟩; exact k v G' hle hΦ)
def U6 (v0 : Value) (ins : List A1) (G : IM) : IM → Value → List A1 → Prop := fun G' v outs => G' = G ∧ v = v0 ∧ outs = ins
theorem A3J {hp' : List A1} (p : hp.Perm hp') (k : C4 P Γ ops rest K ⟨env, hp', G⟩) : C4 P Γ ops rest K ⟨env, hp, G⟩ :=
 ⟨fun a w hs => k.run a w ⟨hs.size, hs.nod, hs.env, hs.res.perm p⟩⟩
theorem A3K {d : Nat} {f : FuncId} [hF : A8 P f] {xs : List Operand} {ats : Array TypeId} {vs : List Value} {v0 : Value} {ins rst : List A1}
  (hx : evl env xs = some vs) (h : Fn P f vs ins G (U6 v0 ins G)) (hp' : hp.Perm (ins ++ rst)) (hw : J0 ops env gd = some true) (hd : Nat.blt d Γ.n = true)
  (k : C4 P Γ ops rest K ⟨(d, v0) :: env, hp, G⟩) : C4 P Γ ops (⟨some d, .call ⟨.value (.func f), ⟨xs⟩, ats⟩, ty, pos, af, gd⟩ :: rest) K ⟨env, hp, G⟩ :=
 F3 (A1D hx h hp' hd) hw (by rintro _ ⟨v, G', outs, rfl, _, rfl, rfl, rfl⟩; exact A3J hp'.symm k)
theorem A5e {d : Nat} {f : FuncId} [hF : A8 P f] {g : Operand} {xs : List Operand} {ats : Array TypeId} {vs us cs : List Value} {v0 : Value} {ins rst : List A1}
  (hg : evo env g = some (.func (.func f) ⟨us⟩ ⟨cs⟩)) (hx : evl env xs = some vs) (h : Fn P f (us ++ vs ++ cs) ins G (U6 v0 ins G)) (hp' : hp.Perm (ins ++ rst)) (hw : J0 ops env gd = some true) (hd : Nat.blt d Γ.n = true)
  (k : C4 P Γ ops rest K ⟨(d, v0) :: env, hp, G⟩) : C4 P Γ ops (⟨some d, .call ⟨.value g, ⟨xs⟩, ats⟩, ty, pos, af, gd⟩ :: rest) K ⟨env, hp, G⟩ :=
 F3 (N9 hg hx h hp' hd) hw (by rintro _ ⟨v, G', outs, rfl, _, rfl, rfl, rfl⟩; exact A3J hp'.symm k)
theorem A2h {d : Nat} {f : FuncId} [hF : A8 P f] {xs : List Operand} {ats : Array TypeId} {vs : List Value} {b : Bool} {ins rst : List A1}
  (hx : evl env xs = some vs) (h : Fn P f vs ins G (U6 (.bool b) ins G)) (hp' : hp.Perm (ins ++ rst)) (hw : J0 ops env gd = some true) (hd : Nat.blt d Γ.n = true)
  (kt : b = true → C4 P Γ ops rest K ⟨(d, .bool true) :: env, hp, G⟩) (kf : b = false → C4 P Γ ops rest K ⟨(d, .bool false) :: env, hp, G⟩) :
  C4 P Γ ops (⟨some d, .call ⟨.value (.func f), ⟨xs⟩, ats⟩, ty, pos, af, gd⟩ :: rest) K ⟨env, hp, G⟩ := by
 cases b
 ·exact A3K hx h hp' hw hd (kf rfl)
 ·exact A3K hx h hp' hw hd (kt rfl)
theorem A5f {d : Nat} {f : FuncId} [hF : A8 P f] {g : Operand} {xs : List Operand} {ats : Array TypeId} {vs us cs : List Value} {b : Bool} {ins rst : List A1}
  (hg : evo env g = some (.func (.func f) ⟨us⟩ ⟨cs⟩)) (hx : evl env xs = some vs) (h : Fn P f (us ++ vs ++ cs) ins G (U6 (.bool b) ins G)) (hp' : hp.Perm (ins ++ rst)) (hw : J0 ops env gd = some true) (hd : Nat.blt d Γ.n = true)
  (kt : b = true → C4 P Γ ops rest K ⟨(d, .bool true) :: env, hp, G⟩) (kf : b = false → C4 P Γ ops rest K ⟨(d, .bool false) :: env, hp, G⟩) :
  C4 P Γ ops (⟨some d, .call ⟨.value g, ⟨xs⟩, ats⟩, ty, pos, af, gd⟩ :: rest) K ⟨env, hp, G⟩ := by
 cases b
 ·exact A5e hg hx h hp' hw hd (kf rfl)
 ·exact A5e hg hx h hp' hw hd (kt rfl)

theorem A2N {d : Nat} {f : FuncId} [hF : A8 P f] {xs : List Operand} {ats : Array TypeId} {vs : List Value} {v0 : Value} {ins outs rst : List A1}
  (hx : evl env xs = some vs) (h : Fn P f vs ins G (U6 v0 outs G)) (hp' : hp.Perm (ins ++ rst)) (hw : J0 ops env gd = some true) (hd : Nat.blt d Γ.n = true)
  (k : C4 P Γ ops rest K ⟨(d, v0) :: env, outs ++ rst, G⟩) : C4 P Γ ops (⟨some d, .call ⟨.value (.func f), ⟨xs⟩, ats⟩, ty, pos, af, gd⟩ :: rest) K ⟨env, hp, G⟩ :=
 F3 (A1D hx h hp' hd) hw (by rintro _ ⟨v, G', outs, rfl, _, rfl, rfl, rfl⟩; exact k)
theorem A8G {d : Nat} {f : FuncId} [hF : A8 P f] {xs : List Operand} {ats : Array TypeId} {vs : List Value} {b : Bool} {ins outs rst : List A1}
  (hx : evl env xs = some vs) (h : Fn P f vs ins G (U6 (.bool b) outs G)) (hp' : hp.Perm (ins ++ rst)) (hw : J0 ops env gd = some true) (hd : Nat.blt d Γ.n = true)
  (kt : b = true → C4 P Γ ops rest K ⟨(d, .bool true) :: env, outs ++ rst, G⟩) (kf : b = false → C4 P Γ ops rest K ⟨(d, .bool false) :: env, outs ++ rst, G⟩) :
  C4 P Γ ops (⟨some d, .call ⟨.value (.func f), ⟨xs⟩, ats⟩, ty, pos, af, gd⟩ :: rest) K ⟨env, hp, G⟩ := by
 cases b
 ·exact A2N hx h hp' hw hd (kf rfl)
 ·exact A2N hx h hp' hw hd (kt rfl)
theorem A8H {a b : A1} {r : List A1} : (a :: b :: r).Perm (r ++ [a, b]) := List.perm_append_comm (l₁ := [a, b])
theorem A0K : hp.Perm (hp ++ []) := by simp
inductive Z6 (e : F9) : F9 → Prop
 | nil : Z6 e []
 | cons {t : Nat} {v : Value} {e' : F9} : T1 e t = some v → Z6 e e' → Z6 e ((t, v) :: e')
inductive H0 : List A1 → List A1 → Prop
 | nil {h : List A1} : H0 h []
 | refl {h : List A1} : H0 h h
 | cons {h h' r : List A1} {e : A1} : Pk h e r → H0 r h' → H0 h (e :: h')
 | drop {x : A1} {h h' : List A1} : H0 h h' → H0 (x :: h) h'
theorem Z6.spec {e e' : F9} (h : Z6 e e') : ∀ t v, T1 e' t = some v → T1 e t = some v := by
 induction h with
 | nil => intro t v h; simp [T1] at h
 | @cons t0 v0 e' h0 _ ih =>
  intro t v h
  rw [A3s] at h
  split at h
  ·rename_i he; subst he; simp at h; subst h; exact h0
  ·exact ih t v h
theorem H0.spec {h h' : List A1} (hs : H0 h h') : ∃ r, h.Perm (h' ++ r) := by
 induction hs with
 | @nil h => exact ⟨h, List.Perm.refl _⟩
 | @refl h => exact ⟨[], by simp⟩
 | @cons h h' r e hk _ ih =>
  obtain ⟨r', hr'⟩ := ih
  exact ⟨r', hk.perm.trans (by simpa using hr'.cons e)⟩
 | @drop x h h' _ ih =>
  obtain ⟨r', hr'⟩ := ih
  exact ⟨x :: r', (hr'.cons x).trans List.perm_middle.symm⟩
theorem T9 (es : List (List Value)) (a : List Value) : (es ++ [a]).flatten = es.flatten ++ a := by simp
theorem A5g {e' : F9} {hp' : List A1} (h : Z6 env e') (h2 : H0 hp hp') : Sub ⟨env, hp, G⟩ ⟨e', hp', G⟩ := ⟨h.spec, h2.spec, rfl⟩

theorem I6 {e' : F9} {hp' : List A1} (h : Z6 env e' := by repeat (first | exact Z6.nil | refine Z6.cons rfl ?_)) (h2 : H0 hp hp' := by repeat (first | exact H0.refl | exact H0.nil | refine H0.cons (by repeat (first | exact Pk.here | apply Pk.there)) ?_ | apply H0.drop)) : Sub ⟨env, hp, G⟩ ⟨e', hp', G⟩ := A5g h h2
theorem F0 {r : ResultVar} {post : IM → Value → List A1 → Prop} {v : Value} (h : A1i P Γ ⟨env, hp, G⟩ r v) (hk : post G v []) :
  A0l P Γ [r] post .ret ⟨env, hp, G⟩ := A45 (.cons h .nil) hk
theorem N6 {A B : Prop} (h : B) (f : B → A := by intro h; first | (show C4 _ _ _ [] _ _; exact sD h) | (show C4 _ _ _ (⟨_, .assign _, _, _, _, _⟩ :: _) _ _; first | exact sQ (qA rfl) rfl h | exact sK rfl rfl h) | (show C4 _ _ _ (⟨_, .move _, _, _, _, _⟩ :: _) _ _; first | exact sQ (qM rfl) rfl h | exact sK rfl rfl h) | (show C4 _ _ _ (⟨_, .fieldAddr _ _ _, _, _, _, _⟩ :: _) _ _; first | exact sQ (A4 rfl) rfl h | exact sQ (qF rfl) rfl h | exact sK rfl rfl h) | (show C4 _ _ _ (⟨_, .load _ _, _, _, _, _⟩ :: _) _ _; first | exact sL (C2 rfl rfl) rfl rfl h | exact sL (A7 rfl rfl) rfl rfl h | exact sK rfl rfl h) | (show C4 _ _ _ (⟨_, .store _ _ _, _, _, _, _⟩ :: _) _ _; refine O6 ?_; exact h) | (show C4 _ _ _ (⟨_, .pick _ _ _, _, _, _, _⟩ :: _) _ _; first | exact sQ (L7 rfl rfl) rfl h | exact sQ (I4 rfl rfl) rfl h | exact sK rfl rfl h) | (show C4 _ _ _ (⟨_, .extract _ _, _, _, _, _⟩ :: _) _ _; first | exact sQ (pX rfl rfl) rfl h | exact sK rfl rfl h) | (show C4 _ _ _ (⟨_, .build _ _, _, _, _, _⟩ :: _) _ _; first | exact sQ (Z5 rfl rfl) rfl h | exact sK rfl rfl h) | (show C4 _ _ _ (⟨_, .unOp _ _ _, _, _, _, _⟩ :: _) _ _; first | exact sQ (X5 rfl) rfl h | exact sQ (pNf rfl) rfl h | exact sK rfl rfl h) | (show C4 _ _ _ (⟨_, .call _, _, _, _, _⟩ :: _) _ _; first | exact sQ (pLn rfl rfl) rfl h | exact sK rfl rfl h) | (show C4 _ _ _ (_ :: _) _ _; exact sK rfl rfl h) | (show A0B _ _ _ _ .normal _; exact nS h) | (show M3 _ _ (.seq _ _) _ _; exact tS h) | (show M3 _ _ (.region _ _ _) _ _; exact tR h) | (show M3 _ _ (.cond _ _ _) _ _; first | exact qT rfl h | exact cF rfl h) | (show M3 _ _ .skip _ _; exact tK h) | (show M3 _ _ .ret _ _; exact tT h) | (show A0B _ _ _ _ .ret _; exact rS h) | (show A0C _ _ .ret _; exact rB h) | (show A0C _ _ .normal _; exact A1k h) | (show M3 _ _ (.exit _) _ _; exact A79 h) | (show A0B _ _ _ _ (.exit _) _; exact A8t h) | (show A0D _ _ _ _ _ (.exit _) _; exact A8d h) | (show A0C _ _ (.exit _) _; exact A8u h) | (show A0D _ _ _ _ _ .ret _; exact A8c h) | (show A0l _ _ _ _ .ret _; exact F0 (rT rfl) h) | (show L6 _ _ _ _ _ _ _ _; exact R5 h)) : A := f h
theorem wk2 {A B : Prop} (h : B) (f : B → A := by intro h; (iterate 2 (refine N6 ?_)); exact h) : A := f h
theorem F5 {A B : Prop} (h : B) (f : B → A := by intro h; (iterate 3 (refine N6 ?_)); exact h) : A := f h
theorem H9 {A B : Prop} (h : B) (f : B → A := by intro h; (iterate 4 (refine N6 ?_)); exact h) : A := f h
theorem R6 {A B : Prop} (h : B) (f : B → A := by intro h; (iterate 5 (refine N6 ?_)); exact h) : A := f h
theorem I2 {A B : Prop} (h : B) (f : B → A := by intro h; (iterate 6 (refine N6 ?_)); exact h) : A := f h
theorem B1 {A B : Prop} (h : B) (f : B → A := by intro h; (iterate 7 (refine N6 ?_)); exact h) : A := f h
theorem C6 {A B : Prop} (h : B) (f : B → A := by intro h; (iterate 8 (refine N6 ?_)); exact h) : A := f h
theorem C1 {A B : Prop} (h : B) (f : B → A := by intro h; (iterate 9 (refine N6 ?_)); exact h) : A := f h
theorem M0 {A B : Prop} (h : B) (f : B → A := by intro h; (iterate 10 (refine N6 ?_)); exact h) : A := f h
theorem D7 {A B : Prop} (h : B) (f : B → A := by intro h; (iterate 11 (refine N6 ?_)); exact h) : A := f h
theorem O0 {A B : Prop} (h : B) (f : B → A := by intro h; (iterate 12 (refine N6 ?_)); exact h) : A := f h
theorem D9 {A B : Prop} (h : B) (f : B → A := by intro h; (iterate 13 (refine N6 ?_)); exact h) : A := f h
theorem S2 {A B : Prop} (h : B) (f : B → A := by intro h; (iterate 14 (refine N6 ?_)); exact h) : A := f h
theorem I7 {A B : Prop} (h : B) (f : B → A := by intro h; (iterate 15 (refine N6 ?_)); exact h) : A := f h
theorem N4 {A B : Prop} (h : B) (f : B → A := by intro h; (iterate 16 (refine N6 ?_)); exact h) : A := f h
theorem W0 {A B : Prop} (h : B) (f : B → A := by intro h; (iterate 17 (refine N6 ?_)); exact h) : A := f h
theorem W1 {A B : Prop} (h : B) (f : B → A := by intro h; (iterate 18 (refine N6 ?_)); exact h) : A := f h
theorem U7 {A B : Prop} (h : B) (f : B → A := by intro h; (iterate 19 (refine N6 ?_)); exact h) : A := f h
theorem X8 {A B : Prop} (h : B) (f : B → A := by intro h; (iterate 20 (refine N6 ?_)); exact h) : A := f h
theorem A0m {A B : Prop} (h : B) (f : B → A := by intro h; (iterate 21 (refine N6 ?_)); exact h) : A := f h
theorem A2i {A B : Prop} (h : B) (f : B → A := by intro h; (iterate 22 (refine N6 ?_)); exact h) : A := f h
theorem A0n {A B : Prop} (h : B) (f : B → A := by intro h; (iterate 23 (refine N6 ?_)); exact h) : A := f h
theorem A0o {A B : Prop} (h : B) (f : B → A := by intro h; (iterate 24 (refine N6 ?_)); exact h) : A := f h
theorem A1n {A B : Prop} (h : B) (f : B → A := by intro h; (iterate 25 (refine N6 ?_)); exact h) : A := f h
theorem A1G {A B : Prop} (h : B) (f : B → A := by intro h; (iterate 26 (refine N6 ?_)); exact h) : A := f h
theorem A3L {A B : Prop} (h : B) (f : B → A := by intro h; (iterate 27 (refine N6 ?_)); exact h) : A := f h
theorem A8I {A B : Prop} (h : B) (f : B → A := by intro h; (iterate 28 (refine N6 ?_)); exact h) : A := f h
theorem A8J {A B : Prop} (h : B) (f : B → A := by intro h; (iterate 29 (refine N6 ?_)); exact h) : A := f h
theorem S3 {A B : Prop} (h : B) (f : B → A := by intro h; (iterate 30 (refine N6 ?_)); exact h) : A := f h
theorem B8 {r r2 : ResultVar} {post : IM → Value → List A1 → Prop} {v v2 : Value} (h : A1i P Γ ⟨env, hp, G⟩ r v) (h2 : A1i P Γ ⟨env, hp, G⟩ r2 v2) (hk : post G (.tuple ⟨[v, v2]⟩) []) :
  A0l P Γ [r, r2] post .ret ⟨env, hp, G⟩ := A45 (.cons h (.cons h2 .nil)) hk
theorem C8 {r : ResultVar} {post : IM → Value → List A1 → Prop} {v : Value} {outs : List A1} (h : A1i P Γ ⟨env, hp, G⟩ r v) (ho : H0 hp outs) (hk : post G v outs) :
  A0l P Γ [r] post .ret ⟨env, hp, G⟩ := A8v (.cons h .nil) ho.spec hk
theorem A0W {H : List (Nat × Nat)} {fuel : Nat} {listed l' : List Bool} {j : Nat} {d : Option Nat} {op : Op} {K' : Sy → Prop} {σ : Sy} (hi : ops[j]? = some ⟨d, op, ty, pos, af, gd⟩)
  (h : T3 P Γ σ d op ty [] K') (hw : J0 ops σ.env gd = some true) (hl : listed.set j true = l')
  (k : ∀ σ', K' σ' → L6 P Γ ops K H fuel l' σ') : U5 P Γ ops K H fuel listed j σ := by
 refine ⟨fun a w hs Hs hHs hall hdc hrd => ?_⟩
 unfold wpOp
 simp only [hi, A0E hs.env hw, if_true]
 refine .inl (h.run a w hs pos af gd _ _ fun a' w' σ' h1 h2 h3 => ?_)
 have hkeep : ∀ h ∈ Hs, w'.heap[h.b]? = some h.o := fun x hx => by rw [h2.block x.b (W6 (hall x hx)) (by simp), hall x hx]
 have hn : ∀ h ∈ Hn ops j Hs, w'.heap[h.b]? = some h.o := fun x hx => hkeep x (List.mem_filter.1 hx).1
 refine ⟨hn, ?_⟩
 have := (k σ' h3).run a' w' h1 Hs hHs hkeep (by rw [← hl]; simpa using hdc.step hrd)
 rw [← hl] at this
 exact A3u _ (fun x hx => (List.mem_filter.1 hx).1) _ _ _ (by simpa using this)

theorem A2j {H H' : List (Nat × Nat)} {fuel : Nat} {listed l' : List Bool} {j : Nat} {d : Option Nat} {op : Op} {mods : List Nat} {K' : Sy → Prop} {σ : Sy} (hi : ops[j]? = some ⟨d, op, ty, pos, af, gd⟩)
  (h : T3 P Γ σ d op ty mods K') (hw : J0 ops σ.env gd = some true) (hl : listed.set j true = l')
  (hm : ∀ a w, St Γ σ a w → ∀ p ∈ H, U4 ops j p.1 = true ∨ p.2 ∉ mods) (hH : H.filter (fun p => !U4 ops j p.1) = H')
  (k : ∀ σ', K' σ' → L6 P Γ ops K H' fuel l' σ') : U5 P Γ ops K H fuel listed j σ := by
 refine ⟨fun a w hs Hs hHs hall hdc hrd => ?_⟩
 exact (A8h (listed := listed) hi h hw hl (hm a w hs) (fun σ' hσ => by rw [hH]; exact k σ' hσ)).run a w hs Hs hHs hall hdc hrd
theorem A8K {H : List (Nat × Nat)} {fuel : Nat} {listed l' : List Bool} {j : Nat} {d : Option Nat} {op : Op} {mods : List Nat} {K' : Sy → Prop} {σ : Sy} (hi : ops[j]? = some ⟨d, op, ty, pos, af, gd⟩)
  (h : T3 P Γ σ d op ty mods K') (hw : J0 ops σ.env gd = some true) (hl : listed.set j true = l')
  (hm : ((H.map Prod.fst).all fun i => U4 ops j i) = true)
  (k : ∀ σ', K' σ' → L6 P Γ ops K [] fuel l' σ') : U5 P Γ ops K H fuel listed j σ := by
 have hm' : ∀ p ∈ H, U4 ops j p.1 = true := fun p hp => List.all_eq_true.1 hm p.1 (List.mem_map.2 ⟨p, hp, rfl⟩)
 refine A2j hi h hw hl (fun _ _ _ p hp => .inl (hm' p hp)) ?_ k
 rw [List.filter_eq_nil_iff]
 intro p hp
 simp [hm' p hp]

inductive E4 (ops : Array Oper) (j : Nat) (hp : List A1) (G : IM) (e : A1) : List (Nat × Nat) → List (Nat × Nat) → Prop
 | nil : E4 ops j hp G e [] []
 | dep {i b : Nat} {r r' : List (Nat × Nat)} : U4 ops j i = true → E4 ops j hp G e r r' → E4 ops j hp G e ((i, b) :: r) r'
 | blk {i b : Nat} {cs : List Value} {rest : List A1} {r r' : List (Nat × Nat)} : U4 ops j i = false → Pk hp e rest → A1.blk b cs ∈ rest → E4 ops j hp G e r r' → E4 ops j hp G e ((i, b) :: r) ((i, b) :: r')
 | slc {i b c el sz n : Nat} {cs : List Value} {rest : List A1} {r r' : List (Nat × Nat)} : U4 ops j i = false → Pk hp e rest → A1.slc (some ⟨b, 0, none⟩) c el sz n cs ∈ rest → E4 ops j hp G e r r' → E4 ops j hp G e ((i, b) :: r) ((i, b) :: r')
 | im {i b : Nat} {r r' : List (Nat × Nat)} : U4 ops j i = false → G b ≠ none → e ∈ hp → E4 ops j hp G e r r' → E4 ops j hp G e ((i, b) :: r) ((i, b) :: r')
theorem E4.filter {j : Nat} {e : A1} {H H' : List (Nat × Nat)} (h : E4 ops j hp G e H H') : H.filter (fun p => !U4 ops j p.1) = H' := by
 induction h with
 | nil => rfl
 | dep hd _ ih => simp [hd, ih]
 | blk hd _ _ _ ih => simp [hd, ih]
 | slc hd _ _ _ ih => simp [hd, ih]
 | im hd _ _ _ ih => simp [hd, ih]

theorem E4.spec {j : Nat} {e : A1} {H H' : List (Nat × Nat)} (h : E4 ops j hp G e H H') {a : Act} {w : World} (hs : St Γ ⟨env, hp, G⟩ a w) : ∀ p ∈ H, U4 ops j p.1 = true ∨ p.2 ∉ e.fp := by
 have other : ∀ {rest : List A1} {x : A1}, Pk hp e rest → x ∈ rest → ∀ b ∈ x.fp, b ∉ e.fp := by
  intro rest x hk hx b hb hbe
  have := (hs.res.own.perm hk.perm).nodup
  rw [T2, List.nodup_append] at this
  exact this.2.2 b (by simpa [Fp] using hbe) b (A2H.2 ⟨x, hx, hb⟩) rfl
 induction h with
 | nil => simp
 | dep hd _ ih =>
  intro p hp'
  rcases List.mem_cons.1 hp' with rfl | hp'
  ·exact .inl hd
  ·exact ih p hp'
 | blk _ hk hm _ ih =>
  intro p hp'
  rcases List.mem_cons.1 hp' with rfl | hp'
  ·exact .inr (other hk hm _ (by simp [A1.fp]))
  ·exact ih p hp'
 | slc _ hk hm _ ih =>
  intro p hp'
  rcases List.mem_cons.1 hp' with rfl | hp'
  ·exact .inr (other hk hm _ (by simp [A1.fp, E5]))
  ·exact ih p hp'
 | im _ hg hm _ ih =>
  intro p hp'
  rcases List.mem_cons.1 hp' with rfl | hp'
  ·refine .inr fun hbe => ?_
   exact hg (hs.res.own.disj _ (A2H.2 ⟨e, hm, hbe⟩))
  ·exact ih p hp'


section ones
variable {H : List (Nat × Nat)} {fuel : Nat} {listed l' : List Bool} {j d : Nat} {f : FuncId} {xs : List Operand} {ats : Array TypeId} {vs us cs : List Value} {v0 : Value} {b : Bool} {ins rst : List A1} {g : Operand}
theorem N5 [hF : A8 P f] (hi : ops[j]? = some ⟨some d, .call ⟨.value (.func f), ⟨xs⟩, ats⟩, ty, pos, af, gd⟩) (hx : evl env xs = some vs) (h : Fn P f vs [] G (H4 v0 G)) (hw : J0 ops env gd = some true) (hd : Nat.blt d Γ.n = true) (hl : listed.set j true = l')
  (k : L6 P Γ ops K H fuel l' ⟨(d, v0) :: env, hp, G⟩) : U5 P Γ ops K H fuel listed j ⟨env, hp, G⟩ :=
 A0W hi (A3B hx h hd) hw hl (by rintro _ ⟨v, G', outs, rfl, _, rfl, rfl, rfl⟩; exact k)
theorem A2O [hF : A8 P f] (hi : ops[j]? = some ⟨some d, .call ⟨.value (.func f), ⟨xs⟩, ats⟩, ty, pos, af, gd⟩) (hx : evl env xs = some vs) (h : Fn P f vs [] G (H4 (.bool b) G)) (hw : J0 ops env gd = some true) (hd : Nat.blt d Γ.n = true) (hl : listed.set j true = l')
  (kt : b = true → L6 P Γ ops K H fuel l' ⟨(d, .bool true) :: env, hp, G⟩) (kf : b = false → L6 P Γ ops K H fuel l' ⟨(d, .bool false) :: env, hp, G⟩) : U5 P Γ ops K H fuel listed j ⟨env, hp, G⟩ := by
 cases b
 ·exact N5 hi hx h hw hd hl (kf rfl)
 ·exact N5 hi hx h hw hd hl (kt rfl)
theorem Q3 {x y : Operand} {t : TypeId} {i : K1} [hI : E8 P t i] {bb o : Nat} {v : Value} {cs' : List Value} {hp' : List A1} (hi : ops[j]? = some ⟨none, .store t x y, ty, pos, af, gd⟩)
  (hx : evo env x = some (.pointer (some ⟨bb, o, none⟩))) (hy : evo env y = some v) (hv : v.cells = ⟨vs⟩) (hsz : vs.length = i.size) (h1 : vs.all (·.oneCell') = true)
  (hw : J0 ops env gd = some true) (hl : listed.set j true = l') (hm : ((H.map Prod.fst).all fun i => U4 ops j i) = true)
  (hsw : Sw hp (.blk bb cs) (.blk bb cs') hp') (hu : N8 cs o vs = some cs')
  (k : L6 P Γ ops K [] fuel l' ⟨env, hp', G⟩) : U5 P Γ ops K H fuel listed j ⟨env, hp, G⟩ :=
 A8K hi (A3z hx hy hv hsz h1 hu hsw rfl) hw hl hm (by rintro _ rfl; exact k)
theorem A3M {x y : Operand} {t el : TypeId} {i : K1} {sz by' : Nat} {zs : List Value} [hI : E8 P t i] [hE : W7 P el sz by' zs] {p : Option Addr} {c n m bb o c' : Nat} {news : List Value} {hp' : Option Addr → Nat → List A1} {H' : List (Nat × Nat)}
  (hi : ops[j]? = some ⟨some d, .call ⟨.builtin .append, ⟨[x, y]⟩, ⟨[t, t]⟩⟩, ty, pos, af, gd⟩) (hd' : i.desc = .slice el)
  (hd : Nat.blt d Γ.n = true) (hx : evo env x = some (.slice p n c)) (hy : evo env y = some (.slice (some ⟨bb, o, none⟩) m c')) (hsz : Nat.blt 0 sz = true)
  (hm : ∀ p' c', Sw hp (.slc p c el sz n cs) (.slc p' c' el sz (n + m) (cs ++ news)) (hp' p' c'))
  (hs' : At hp G bb o news) (hln : news.length = m * sz) (h1 : ∀ u ∈ news, u.oneCell' = true)
  (h63 : n + m ≤ maxLen) (hb : (n + m) * by' ≤ 140737488355328) (hw : J0 ops env gd = some true) (hl : listed.set j true = l')
  (hok : E4 ops j hp G (.slc p c el sz n cs) H H')
  (k : ∀ p' c', L6 P Γ ops K H' fuel l' ⟨(d, .slice p' (n + m) c') :: env, hp' p' c', G⟩) : U5 P Γ ops K H fuel listed j ⟨env, hp, G⟩ :=
 A2j hi (A5b hd' hd hx hy hsz hm hs' hln h1 h63 hb) hw hl (fun _ _ hs => hok.spec hs) hok.filter (by rintro _ ⟨p', c', rfl⟩; exact k p' c')
end ones
theorem A5h {d : Nat} {x y : Operand} {t el : TypeId} {i : K1} {sz by' : Nat} {zs : List Value} [hI : E8 P t i] [hE : W7 P el sz by' zs] {p : Option Addr} {c n m bb o c' : Nat} {cs news : List Value} {hp' : Option Addr → Nat → List A1}
  (hd' : i.desc = .slice el) (hd : Nat.blt d Γ.n = true) (hx : evo env x = some (.slice p n c)) (hy : evo env y = some (.slice (some ⟨bb, o, none⟩) m c')) (hsz : Nat.blt 0 sz = true)
  (hm : ∀ p' c', Sw hp (.slc p c el sz n cs) (.slc p' c' el sz (n + m) (cs ++ news)) (hp' p' c'))
  (hs' : At hp G bb o news) (hln : news.length = m * sz) (h1 : ∀ u ∈ news, u.oneCell' = true)
  (h63 : n + m ≤ maxLen) (hb : (n + m) * by' ≤ 140737488355328) (hw : J0 ops env gd = some true)
  (k : ∀ p' c', C4 P Γ ops rest K ⟨(d, .slice p' (n + m) c') :: env, hp' p' c', G⟩) : C4 P Γ ops (⟨some d, .call ⟨.builtin .append, ⟨[x, y]⟩, ⟨[t, t]⟩⟩, ty, pos, af, gd⟩ :: rest) K ⟨env, hp, G⟩ :=
 F3 (A5b hd' hd hx hy hsz hm hs' hln h1 h63 hb) hw (by rintro _ ⟨p', c', rfl⟩; exact k p' c')

end rules2
section oneS
variable {P : Program} {Γ : E6} {env : F9} {hp : List A1} {G : IM} {K : Po} {ops : Array Oper} {ty : TypeId} {pos : String} {af : Array Edge} {gd : Option (Nat × Bool)}
end oneS
section oneM
variable {P : Program} {Γ : E6} {env : F9} {hp : List A1} {G : IM} {K : Po} {ops : Array Oper} {ty : TypeId} {pos : String} {af : Array Edge} {gd : Option (Nat × Bool)}
theorem A3N {H H' : List (Nat × Nat)} {fuel : Nat} {listed l' : List Bool} {j : Nat} {cs vs : List Value} {x y : Operand} {t : TypeId} {i : K1} [hI : E8 P t i] {bb o : Nat} {v : Value} {cs' : List Value} {hp' : List A1} (hi : ops[j]? = some ⟨none, .store t x y, ty, pos, af, gd⟩)
  (hx : evo env x = some (.pointer (some ⟨bb, o, none⟩))) (hy : evo env y = some v) (hv : v.cells = ⟨vs⟩) (hsz : vs.length = i.size) (h1 : vs.all (·.oneCell') = true)
  (hw : J0 ops env gd = some true) (hl : listed.set j true = l') (hsw : Sw hp (.blk bb cs) (.blk bb cs') hp') (hu : N8 cs o vs = some cs')
  (hok : E4 ops j hp G (.blk bb cs) H H')
  (k : L6 P Γ ops K H' fuel l' ⟨env, hp', G⟩) : U5 P Γ ops K H fuel listed j ⟨env, hp, G⟩ :=
 A2j hi (A3z hx hy hv hsz h1 hu hsw rfl) hw hl (fun _ _ hs => by simpa [A1.fp] using hok.spec hs) hok.filter (by rintro _ rfl; exact k)
theorem oS {H H' : List (Nat × Nat)} {fuel : Nat} {listed l' : List Bool} {j : Nat} {cs vs : List Value} {x y : Operand} {t : TypeId} {i : K1} [hI : E8 P t i] {bb o : Nat} {v : Value} {cs' : List Value} {hp' : List A1} (hi : ops[j]? = some ⟨none, .store t x y, ty, pos, af, gd⟩)
 (hx : evo env x = some (.pointer (some ⟨bb, o, none⟩))) (hy : evo env y = some v) (hv : v.cells = ⟨vs⟩) (hsz : vs.length = i.size) (h1 : vs.all (·.oneCell') = true)
 (hw : J0 ops env gd = some true) (hl : listed.set j true = l')
 (k : L6 P Γ ops K H' fuel l' ⟨env, hp', G⟩) (hsw : Sw hp (.blk bb cs) (.blk bb cs') hp' := by repeat first | exact Sw.here | apply Sw.there) (hu : N8 cs o vs = some cs' := by rfl)
 (hok : E4 ops j hp G (.blk bb cs) H H' := by repeat (first | exact E4.nil | apply E4.dep (by decide +kernel) | apply E4.im (by decide +kernel) (by assumption) (by repeat first | exact mH | apply mT) | apply E4.blk (by decide +kernel) (by repeat (first | exact Pk.here | apply Pk.there)) (by repeat first | exact mH | apply mT) | apply E4.slc (by decide +kernel) (by repeat (first | exact Pk.here | apply Pk.there)) (by repeat first | exact mH | apply mT))) : U5 P Γ ops K H fuel listed j ⟨env, hp, G⟩ :=
 A3N hi hx hy hv hsz h1 hw hl hsw hu hok k
theorem oT {H H' : List (Nat × Nat)} {fuel : Nat} {listed l' : List Bool} {j : Nat} {cs vs : List Value} {x y : Operand} {t : TypeId} {i : K1} [hI : E8 P t i] {bb o : Nat} {v : Value} {cs' : List Value} {hp' : List A1} [hl : Z4 listed j l'] (hi : ops[j]? = some ⟨none, .store t x y, ty, pos, af, gd⟩)
 (hx : evo env x = some (.pointer (some ⟨bb, o, none⟩))) (hy : evo env y = some v) (hv : v.cells = ⟨vs⟩) (hsz : vs.length = i.size) (h1 : vs.all (·.oneCell') = true)
 (hw : J0 ops env gd = some true)
 (k : L6 P Γ ops K H' fuel l' ⟨env, hp', G⟩) (hsw : Sw hp (.blk bb cs) (.blk bb cs') hp' := by repeat first | exact Sw.here | apply Sw.there) (hu : N8 cs o vs = some cs' := by rfl)
 (hok : E4 ops j hp G (.blk bb cs) H H' := by repeat (first | exact E4.nil | apply E4.dep (by decide +kernel) | apply E4.im (by decide +kernel) (by assumption) (by repeat first | exact mH | apply mT) | apply E4.blk (by decide +kernel) (by repeat (first | exact Pk.here | apply Pk.there)) (by repeat first | exact mH | apply mT) | apply E4.slc (by decide +kernel) (by repeat (first | exact Pk.here | apply Pk.there)) (by repeat first | exact mH | apply mT))) : U5 P Γ ops K H fuel listed j ⟨env, hp, G⟩ :=
 A3N hi hx hy hv hsz h1 hw hl.h hsw hu hok k
theorem R1 {H H' : List (Nat × Nat)} {fuel : Nat} {listed l' : List Bool} {j : Nat} {cs vs : List Value} {x y : Operand} {t : TypeId} {i : K1} [hI : E8 P t i] {bb o : Nat} {v : Value} {cs' : List Value} {hp' : List A1} [hl : Z4 listed j l']
 (hi : ops[j]? = some ⟨none, .store t x y, ty, pos, af, gd⟩) (k : L6 P Γ ops K H' fuel l' ⟨env, hp', G⟩)
 (hx : evo env x = some (.pointer (some ⟨bb, o, none⟩)) := by rfl) (hy : evo env y = some v := by rfl) (hv : v.cells = ⟨vs⟩ := by rfl) (hsz : vs.length = i.size := by rfl) (h1 : vs.all (·.oneCell') = true := by rfl)
 (hw : J0 ops env gd = some true := by rfl) (hsw : Sw hp (.blk bb cs) (.blk bb cs') hp' := by repeat first | exact Sw.here | apply Sw.there) (hu : N8 cs o vs = some cs' := by rfl)
 (hok : E4 ops j hp G (.blk bb cs) H H' := by repeat (first | exact E4.nil | apply E4.dep (by decide +kernel) | apply E4.im (by decide +kernel) (by assumption) (by repeat first | exact mH | apply mT) | apply E4.blk (by decide +kernel) (by repeat (first | exact Pk.here | apply Pk.there)) (by repeat first | exact mH | apply mT) | apply E4.slc (by decide +kernel) (by repeat (first | exact Pk.here | apply Pk.there)) (by repeat first | exact mH | apply mT))) : U5 P Γ ops K H fuel listed j ⟨env, hp, G⟩ :=
 A3N hi hx hy hv hsz h1 hw hl.h hsw hu hok k
end oneM

def Wo (G : IM) (F : List Nat) : IM := fun b => if b ∈ F then none else G b
theorem Wo.out {G : IM} {F : List Nat} {b : Nat} (h : b ∈ F) : Wo G F b = none := if_pos h
theorem Wo.at {G : IM} {F : List Nat} {b : Nat} (h : b ∉ F) : Wo G F b = G b := if_neg h
theorem Wo.le (G : IM) (F : List Nat) : B4 (Wo G F) G := by
 intro b l h
 unfold Wo at h
 split at h
 ·cases h
 ·exact h
theorem Wo.keep {H G : IM} {F : List Nat} (h : B4 H G) (hF : ∀ b ∈ F, H b = none) : B4 H (Wo G F) := by
 intro b l hb
 rw [Wo.at]
 ·exact h b l hb
 ·intro hf; rw [hF b hf] at hb; cases hb

def blks (bs : List (Nat × List Value)) : List A1 := bs.map fun p => .blk p.1 p.2
theorem A0X : ∀ bs : List (Nat × List Value), Fp (blks bs) = bs.map Prod.fst
 | [] => rfl
 | p :: bs => by
  show (A1.blk p.1 p.2).fp ++ Fp (blks bs) = _
  rw [A0X bs]; rfl
theorem A8L (a b : List (Nat × List Value)) : blks (a ++ b) = blks a ++ blks b := by simp [blks]
theorem A8M {bs : List (Nat × List Value)} {p : Nat × List Value} (h : p ∈ bs) : A1.blk p.1 p.2 ∈ blks bs := List.mem_map.2 ⟨p, h, rfl⟩

theorem M2.thaw {ins hp : List A1} {G0 G : IM} {w0 w : World} {bs : List (Nat × List Value)} (h : M2 ins G0 w0 hp G w) (hn : (bs.map Prod.fst).Nodup)
  (hg : ∀ p ∈ bs, G p.1 = some p.2 ∧ G0 p.1 = none) : M2 ins G0 w0 (blks bs ++ hp) (Wo G (bs.map Prod.fst)) w := by
 have hF : ∀ b ∈ bs.map Prod.fst, ∃ l, (b, l) ∈ bs ∧ G b = some l ∧ G0 b = none := by
  intro b hb
  obtain ⟨p, hp, rfl⟩ := List.mem_map.1 hb
  exact ⟨p.2, hp, hg p hp⟩
 refine ⟨⟨?_, ?_, ?_, ?_⟩, h.ext, ?_, ?_, ?_, ?_⟩
 ·intro b l hb; exact h.own.inn b l (Wo.le _ _ b l hb)
 ·intro e he
  rcases List.mem_append.1 he with he | he
  ·obtain ⟨p, hp, rfl⟩ := List.mem_map.1 he
   exact h.fz p.1 p.2 (hg p hp).1 (hg p hp).2
  ·exact h.own.ok e he
 ·rw [T2, List.nodup_append, A0X]
  refine ⟨hn, h.own.nodup, ?_⟩
  rintro a ha b hb rfl
  obtain ⟨l, _, h1, _⟩ := hF a ha
  rw [h.own.disj a hb] at h1; cases h1
 ·intro b hb
  rw [T2, A0X] at hb
  rcases List.mem_append.1 hb with hb | hb
  ·exact Wo.out hb
  ·have := h.own.disj b hb
   unfold Wo; split
   ·rfl
   ·exact this
 ·exact Wo.keep h.le fun b hb => (hF b hb).choose_spec.2.2
 ·intro b l hb; exact h.fresh b l (Wo.le _ _ b l hb)
 ·intro b hb
  rw [T2, A0X] at hb
  rcases List.mem_append.1 hb with hb | hb
  ·obtain ⟨l, _, h1, h2⟩ := hF b hb
   rcases h.fresh b l h1 with hf | hf
   ·rw [h2] at hf; cases hf
   ·exact hf
  ·exact h.ofresh b hb
 ·intro b l hb h0; exact h.fz b l (Wo.le _ _ b l hb) h0

def Wi (G : IM) (bs : List (Nat × List Value)) : IM := fun b => match bs.lookup b with | some l => some l | none => G b
theorem A8N {bs : List (Nat × List Value)} (hn : (bs.map Prod.fst).Nodup) {p : Nat × List Value} (h : p ∈ bs) : bs.lookup p.1 = some p.2 := by
 induction bs with
 | nil => cases h
 | cons q bs ih =>
  obtain ⟨k, v⟩ := q
  simp only [List.map_cons, List.nodup_cons] at hn
  rcases List.mem_cons.1 h with rfl | h
  ·simp [List.lookup]
  ·have hne : p.1 ≠ k := by
    intro he; exact hn.1 (List.mem_map.2 ⟨p, h, he⟩)
   simp only [List.lookup]
   rw [show (p.1 == k) = false from beq_eq_false_iff_ne.2 hne]
   exact ih hn.2 h
theorem A5i {bs : List (Nat × List Value)} {b : Nat} {l : List Value} (h : bs.lookup b = some l) : (b, l) ∈ bs := by
 induction bs with
 | nil => simp [List.lookup] at h
 | cons q bs ih =>
  obtain ⟨k, v⟩ := q
  simp only [List.lookup] at h
  split at h
  ·rename_i he
   have : b = k := by simpa using he
   cases h; rw [this]; exact List.mem_cons_self
  ·exact List.mem_cons_of_mem _ (ih h)
theorem Wi.get {G : IM} {bs : List (Nat × List Value)} {b : Nat} {l : List Value} (h : Wi G bs b = some l) : (b, l) ∈ bs ∨ G b = some l := by
 unfold Wi at h
 split at h
 ·rename_i l' hl; cases h; exact .inl (A5i hl)
 ·exact .inr h
theorem Wi.in {G : IM} {bs : List (Nat × List Value)} (hn : (bs.map Prod.fst).Nodup) {p : Nat × List Value} (h : p ∈ bs) : Wi G bs p.1 = some p.2 := by
 unfold Wi; rw [A8N hn h]
theorem Wi.le {G : IM} {bs : List (Nat × List Value)} (h : ∀ p ∈ bs, G p.1 = none) : B4 G (Wi G bs) := by
 intro b l hb
 unfold Wi
 split
 ·rename_i l' hl
  have := h _ (A5i hl)
  rw [show ((b, l') : Nat × List Value).1 = b from rfl, hb] at this; cases this
 ·exact hb

theorem A8O {w : World} {G : IM} {bs : List (Nat × List Value)} (hown : O5 (blks bs) G w) (hz : ∀ p ∈ bs, ∃ e, w.heap[p.1]? = some (.cells p.2.toArray e (0, 0))) :
  M2 (blks bs) G w [] (Wi G bs) w := by
 have hd : ∀ p ∈ bs, G p.1 = none := fun p hp => hown.disj p.1 (by rw [A0X]; exact List.mem_map_of_mem hp)
 refine ⟨⟨?_, by simp, by simp [Fp], by simp [Fp]⟩, X3.refl _ _, Wi.le hd, ?_, by simp [Fp], ?_⟩
 ·intro b l hb
  rcases Wi.get hb with h | h
  ·obtain ⟨e, he⟩ := hz _ h; exact ⟨e, _, he⟩
  ·exact hown.inn b l h
 ·intro b l hb
  rcases Wi.get hb with h | h
  ·right; right; rw [A0X]; exact List.mem_map.2 ⟨_, h, rfl⟩
  ·exact .inl h
 ·intro b l hb h0
  rcases Wi.get hb with h | h
  ·exact hz _ h
  ·rw [h0] at h; cases h

section rules3
variable {P : Program} {Γ : E6} {env : F9} {hp : List A1} {G : IM} {K : Po} {ops : Array Oper} {rest : List Oper}

theorem St.thaw {a : Act} {w : World} {bs : List (Nat × List Value)} (hs : St Γ ⟨env, hp, G⟩ a w) (hn : (bs.map Prod.fst).Nodup) (hg : ∀ p ∈ bs, G p.1 = some p.2 ∧ Γ.G0 p.1 = none) :
  St Γ ⟨env, blks bs ++ hp, Wo G (bs.map Prod.fst)⟩ a w := ⟨hs.size, hs.nod, hs.env, hs.res.thaw hn hg⟩
theorem A8P (bs : List (Nat × List Value)) (hn : (bs.map Prod.fst).Nodup) (hg : ∀ p ∈ bs, G p.1 = some p.2 ∧ Γ.G0 p.1 = none)
  (h : C4 P Γ ops rest K ⟨env, blks bs ++ hp, Wo G (bs.map Prod.fst)⟩) : C4 P Γ ops rest K ⟨env, hp, G⟩ := ⟨fun a w hs => h.run a w (hs.thaw hn hg)⟩
theorem St.freezes {a : Act} {w : World} {bs : List (Nat × List Value)} {hp' : List A1} (hs : St Γ ⟨env, hp, G⟩ a w) (p : hp.Perm (blks bs ++ hp')) :
  St Γ ⟨env, hp', Wi G bs⟩ a w ∧ (bs.map Prod.fst).Nodup ∧ ∀ q ∈ bs, G q.1 = none := by
 have hown : O5 (blks bs) G w := (hs.res.own.perm p).left
 have hr := A8O hown fun q hq => hown.ok _ (A8M hq)
 refine ⟨⟨hs.size, hs.nod, hs.env, by have := (hs.res.perm p).frame hr; simpa using this⟩, by have := hown.nodup; rwa [A0X] at this, fun q hq => hown.disj q.1 (by rw [A0X]; exact List.mem_map_of_mem hq)⟩
theorem A5j {cd : Code} {bs : List (Nat × List Value)} {hp' : List A1} (p : hp.Perm (blks bs ++ hp'))
  (h : (bs.map Prod.fst).Nodup → (∀ q ∈ bs, G q.1 = none) → B4 G (Wi G bs) → M3 P Γ cd K ⟨env, hp', Wi G bs⟩) : M3 P Γ cd K ⟨env, hp, G⟩ :=
 ⟨fun a w hs => let ⟨h1, h2, h3⟩ := hs.freezes p; (h h2 h3 (Wi.le h3)).run a w h1⟩
theorem A8Q {bs : List (Nat × List Value)} {hp' : List A1} (p : hp.Perm (blks bs ++ hp'))
  (h : (bs.map Prod.fst).Nodup → (∀ q ∈ bs, G q.1 = none) → B4 G (Wi G bs) → C4 P Γ ops rest K ⟨env, hp', Wi G bs⟩) : C4 P Γ ops rest K ⟨env, hp, G⟩ :=
 ⟨fun a w hs => let ⟨h1, h2, h3⟩ := hs.freezes p; (h h2 h3 (Wi.le h3)).run a w h1⟩
end rules3
end Gw
end Go.Proofs.YtgodjiieijekiaaGreatDoor
namespace Go.Proofs.YtgodjiieijekiaaGreatDoor
open Go
namespace Gw
theorem W9 {P : Program} {t : TypeId} {n b : Nat} {zs : List Value} {d : TypeDesc} (h : (P.info? t).map (fun i => (i.size, i.bytes, i.zero.map Value.cells)) = some (n, b, some ⟨zs⟩)) (hu : P.underlying t = some d) : E8 P t ⟨n, b, zs, d⟩ := by
 refine ⟨?_, hu⟩
 cases hi : P.info? t with
 | none => simp [hi] at h
 | some i =>
  simp only [hi, Option.map_some, Option.some.injEq, Prod.mk.injEq] at h
  obtain ⟨h1, h2, h3⟩ := h
  cases hz : i.zero with
  | none => simp [hz] at h3
  | some z => simp only [hz, Option.map_some, Option.some.injEq] at h3; exact ⟨i, rfl, h1, h2, z, hz, h3⟩
theorem Z7 {P : Program} {s f off sz : Nat} {ft : TypeId} {ag : Bool} {fs : Array Field} {d : TypeDesc} {r : K1} (hI : E8 P ft r) (hs : P.underlying s = some (.struct fs)) (hf : (fs[f]?).map (fun x => (x.offset, x.type)) = some (off, ft)) (h1 : r.size = sz) (h2 : sz ≠ 0) (h3 : r.desc = d) (h4 : A0H d = ag) : V9 P s f off sz ag := by
 cases hx : fs[f]? with
 | none => simp [hx] at hf
 | some x =>
  simp [hx] at hf
  obtain ⟨rfl, rfl⟩ := hf
  obtain ⟨inf, g1, g2, _⟩ := hI.info
  exact ⟨fs, x, d, inf, hs, hx, rfl, g1, by rw [g2, h1], h2, by rw [← h3]; exact hI.und, h4⟩
theorem C3 {P : Program} {f : Nat} {fn : Func} (h : P.funcs[f]? = some fn) (h1 : fn.body.isNone = false) (h2 : (fn.name == "runtime.NumGoroutine") = false) : A8 P f := ⟨fn, h, h1, h2⟩
instance ty3 : E8 Tryz.prog 3 ⟨1, 8, [.int .i64 0], (TypeDesc.int IntKind.i64)⟩ := W9 (by kernel_rfl) Tryz.underlying3
instance ty4 : E8 Tryz.prog 4 ⟨1, 1, [.bool false], TypeDesc.bool⟩ := W9 (by kernel_rfl) Tryz.underlying4
instance ty5 : E8 Tryz.prog 5 ⟨1, 1, [.int .u8 0], (TypeDesc.int IntKind.u8)⟩ := W9 (by kernel_rfl) Tryz.underlying5
instance ty9 : E8 Tryz.prog 9 ⟨1, 16, [.string ByteArray.empty], TypeDesc.string⟩ := W9 (by kernel_rfl) Tryz.underlying9
instance ty22 : E8 Tryz.prog 22 ⟨1, 24, [.slice none 0 0], (TypeDesc.slice 5)⟩ := W9 (by kernel_rfl) Tryz.underlying22
instance ty23 : E8 Tryz.prog 23 ⟨1, 24, [.slice none 0 0], (TypeDesc.slice 25)⟩ := W9 (by kernel_rfl) Tryz.underlying23
instance ty25 : E8 Tryz.prog 25 ⟨2, 32, [.int .i64 0, .slice none 0 0], (TypeDesc.struct #[{ name := "Kind", type := 3, offset := 0, embedded := false, tag := "", pkgPath := "", byteOffset := 0 }, { name := "Kids", type := 23, offset := 1, embedded := false, tag := "", pkgPath := "", byteOffset := 8 }])⟩ := W9 (by kernel_rfl) Tryz.underlying25
instance ty26 : E8 Tryz.prog 26 ⟨1, 24, [.slice none 0 0], (TypeDesc.slice 28)⟩ := W9 (by kernel_rfl) Tryz.underlying26
instance ty28 : E8 Tryz.prog 28 ⟨9, 128, [.int .i64 0, .string ByteArray.empty, .int .i64 0, .int .i64 0, .slice none 0 0, .int .i64 0, .slice none 0 0, .int .i64 0, .slice none 0 0], (TypeDesc.struct #[{ name := "Kind", type := 3, offset := 0, embedded := false, tag := "", pkgPath := "", byteOffset := 0 }, { name := "Name", type := 9, offset := 1, embedded := false, tag := "", pkgPath := "", byteOffset := 8 }, { name := "Num", type := 3, offset := 2, embedded := false, tag := "", pkgPath := "", byteOffset := 24 }, { name := "Type", type := 25, offset := 3, embedded := false, tag := "", pkgPath := "", byteOffset := 32 }, { name := "From", type := 25, offset := 5, embedded := false, tag := "", pkgPath := "", byteOffset := 64 }, { name := "Label", type := 3, offset := 7, embedded := false, tag := "", pkgPath := "", byteOffset := 96 }, { name := "Kids", type := 26, offset := 8, embedded := false, tag := "", pkgPath := "", byteOffset := 104 }])⟩ := W9 (by kernel_rfl) Tryz.underlying28
instance ty60 : E8 Tryz.prog 60 ⟨1, 24, [.slice none 0 0], (TypeDesc.slice 9)⟩ := W9 (by kernel_rfl) Tryz.underlying60
instance ty95 : E8 Tryz.prog 95 ⟨1, 8, [.pointer none], (TypeDesc.pointer 97)⟩ := W9 (by kernel_rfl) Tryz.underlying95
instance ty97 : E8 Tryz.prog 97 ⟨2, 24, [.string ByteArray.empty, .bool false], (TypeDesc.struct #[{ name := "s", type := 9, offset := 0, embedded := false, tag := "", pkgPath := "loop.example/gradual/impl", byteOffset := 0 }, { name := "bad", type := 4, offset := 1, embedded := false, tag := "", pkgPath := "loop.example/gradual/impl", byteOffset := 16 }])⟩ := W9 (by kernel_rfl) Tryz.underlying97
instance ty106 : E8 Tryz.prog 106 ⟨1, 24, [.slice none 0 0], (TypeDesc.slice 3)⟩ := W9 (by kernel_rfl) Tryz.underlying106
instance tz3 : W7 Tryz.prog 3 1 8 [.int .i64 0] := ⟨⟨_, ty3⟩, rfl⟩
instance tz5 : W7 Tryz.prog 5 1 1 [.int .u8 0] := ⟨⟨_, ty5⟩, rfl⟩
instance tz9 : W7 Tryz.prog 9 1 16 [.string ByteArray.empty] := ⟨⟨_, ty9⟩, rfl⟩
instance tz25 : W7 Tryz.prog 25 2 32 [.int .i64 0, .slice none 0 0] := ⟨⟨_, ty25⟩, rfl⟩
instance tz28 : W7 Tryz.prog 28 9 128 [.int .i64 0, .string ByteArray.empty, .int .i64 0, .int .i64 0, .slice none 0 0, .int .i64 0, .slice none 0 0, .int .i64 0, .slice none 0 0] := ⟨⟨_, ty28⟩, rfl⟩
instance fd25_0 : V9 Tryz.prog 25 0 0 1 false := Z7 ty3 Tryz.underlying25 rfl rfl (by decide) rfl rfl
instance fd25_1 : V9 Tryz.prog 25 1 1 1 false := Z7 ty23 Tryz.underlying25 rfl rfl (by decide) rfl rfl
instance fd28_0 : V9 Tryz.prog 28 0 0 1 false := Z7 ty3 Tryz.underlying28 rfl rfl (by decide) rfl rfl
instance fd28_1 : V9 Tryz.prog 28 1 1 1 false := Z7 ty9 Tryz.underlying28 rfl rfl (by decide) rfl rfl
instance fd28_2 : V9 Tryz.prog 28 2 2 1 false := Z7 ty3 Tryz.underlying28 rfl rfl (by decide) rfl rfl
instance fd28_3 : V9 Tryz.prog 28 3 3 2 true := Z7 ty25 Tryz.underlying28 rfl rfl (by decide) rfl rfl
instance fd28_4 : V9 Tryz.prog 28 4 5 2 true := Z7 ty25 Tryz.underlying28 rfl rfl (by decide) rfl rfl
instance fd28_5 : V9 Tryz.prog 28 5 7 1 false := Z7 ty3 Tryz.underlying28 rfl rfl (by decide) rfl rfl
instance fd28_6 : V9 Tryz.prog 28 6 8 1 false := Z7 ty26 Tryz.underlying28 rfl rfl (by decide) rfl rfl
instance fd97_0 : V9 Tryz.prog 97 0 0 1 false := Z7 ty9 Tryz.underlying97 rfl rfl (by decide) rfl rfl
instance fd97_1 : V9 Tryz.prog 97 1 1 1 false := Z7 ty4 Tryz.underlying97 rfl rfl (by decide) rfl rfl
instance fn12 : A8 Tryz.prog 12 := C3 Tryz.func12 (by kernel_rfl) (by kernel_rfl)
instance fn13 : A8 Tryz.prog 13 := C3 Tryz.func13 (by kernel_rfl) (by kernel_rfl)
instance fn14 : A8 Tryz.prog 14 := C3 Tryz.func14 (by kernel_rfl) (by kernel_rfl)
instance fn15 : A8 Tryz.prog 15 := C3 Tryz.func15 (by kernel_rfl) (by kernel_rfl)
instance fn18 : A8 Tryz.prog 18 := C3 Tryz.func18 (by kernel_rfl) (by kernel_rfl)
instance fn19 : A8 Tryz.prog 19 := C3 Tryz.func19 (by kernel_rfl) (by kernel_rfl)
instance fn20 : A8 Tryz.prog 20 := C3 Tryz.func20 (by kernel_rfl) (by kernel_rfl)
instance fn21 : A8 Tryz.prog 21 := C3 Tryz.func21 (by kernel_rfl) (by kernel_rfl)
instance fn22 : A8 Tryz.prog 22 := C3 Tryz.func22 (by kernel_rfl) (by kernel_rfl)
instance fn23 : A8 Tryz.prog 23 := C3 Tryz.func23 (by kernel_rfl) (by kernel_rfl)
instance fn35 : A8 Tryz.prog 35 := C3 Tryz.func35 (by kernel_rfl) (by kernel_rfl)
instance fn36 : A8 Tryz.prog 36 := C3 Tryz.func36 (by kernel_rfl) (by kernel_rfl)
instance fn37 : A8 Tryz.prog 37 := C3 Tryz.func37 (by kernel_rfl) (by kernel_rfl)
instance fn40 : A8 Tryz.prog 40 := C3 Tryz.func40 (by kernel_rfl) (by kernel_rfl)
instance fn41 : A8 Tryz.prog 41 := C3 Tryz.func41 (by kernel_rfl) (by kernel_rfl)
instance fn42 : A8 Tryz.prog 42 := C3 Tryz.func42 (by kernel_rfl) (by kernel_rfl)
instance fn43 : A8 Tryz.prog 43 := C3 Tryz.func43 (by kernel_rfl) (by kernel_rfl)
instance fn44 : A8 Tryz.prog 44 := C3 Tryz.func44 (by kernel_rfl) (by kernel_rfl)
instance fn45 : A8 Tryz.prog 45 := C3 Tryz.func45 (by kernel_rfl) (by kernel_rfl)
instance fn51 : A8 Tryz.prog 51 := C3 Tryz.func51 (by kernel_rfl) (by kernel_rfl)
instance fn52 : A8 Tryz.prog 52 := C3 Tryz.func52 (by kernel_rfl) (by kernel_rfl)
instance fn53 : A8 Tryz.prog 53 := C3 Tryz.func53 (by kernel_rfl) (by kernel_rfl)
instance fn54 : A8 Tryz.prog 54 := C3 Tryz.func54 (by kernel_rfl) (by kernel_rfl)
instance fn55 : A8 Tryz.prog 55 := C3 Tryz.func55 (by kernel_rfl) (by kernel_rfl)
instance fn56 : A8 Tryz.prog 56 := C3 Tryz.func56 (by kernel_rfl) (by kernel_rfl)
instance fn57 : A8 Tryz.prog 57 := C3 Tryz.func57 (by kernel_rfl) (by kernel_rfl)
instance fn69 : A8 Tryz.prog 69 := C3 Tryz.func69 (by kernel_rfl) (by kernel_rfl)
instance fn73 : A8 Tryz.prog 73 := C3 Tryz.func73 (by kernel_rfl) (by kernel_rfl)
instance fn82 : A8 Tryz.prog 82 := C3 Tryz.func82 (by kernel_rfl) (by kernel_rfl)
instance fn84 : A8 Tryz.prog 84 := C3 Tryz.func84 (by kernel_rfl) (by kernel_rfl)
instance fn85 : A8 Tryz.prog 85 := C3 Tryz.func85 (by kernel_rfl) (by kernel_rfl)
instance fn86 : A8 Tryz.prog 86 := C3 Tryz.func86 (by kernel_rfl) (by kernel_rfl)
instance fn87 : A8 Tryz.prog 87 := C3 Tryz.func87 (by kernel_rfl) (by kernel_rfl)
instance fn88 : A8 Tryz.prog 88 := C3 Tryz.func88 (by kernel_rfl) (by kernel_rfl)
instance fn89 : A8 Tryz.prog 89 := C3 Tryz.func89 (by kernel_rfl) (by kernel_rfl)
instance fn90 : A8 Tryz.prog 90 := C3 Tryz.func90 (by kernel_rfl) (by kernel_rfl)
instance fn91 : A8 Tryz.prog 91 := C3 Tryz.func91 (by kernel_rfl) (by kernel_rfl)
instance fn92 : A8 Tryz.prog 92 := C3 Tryz.func92 (by kernel_rfl) (by kernel_rfl)
instance fn93 : A8 Tryz.prog 93 := C3 Tryz.func93 (by kernel_rfl) (by kernel_rfl)
instance fn94 : A8 Tryz.prog 94 := C3 Tryz.func94 (by kernel_rfl) (by kernel_rfl)
instance fn95 : A8 Tryz.prog 95 := C3 Tryz.func95 (by kernel_rfl) (by kernel_rfl)
instance fn101 : A8 Tryz.prog 101 := C3 Tryz.func101 (by kernel_rfl) (by kernel_rfl)
instance fn102 : A8 Tryz.prog 102 := C3 Tryz.func102 (by kernel_rfl) (by kernel_rfl)
instance fn103 : A8 Tryz.prog 103 := C3 Tryz.func103 (by kernel_rfl) (by kernel_rfl)
instance fn104 : A8 Tryz.prog 104 := C3 Tryz.func104 (by kernel_rfl) (by kernel_rfl)
instance fn105 : A8 Tryz.prog 105 := C3 Tryz.func105 (by kernel_rfl) (by kernel_rfl)
instance fn106 : A8 Tryz.prog 106 := C3 Tryz.func106 (by kernel_rfl) (by kernel_rfl)
instance fn107 : A8 Tryz.prog 107 := C3 Tryz.func107 (by kernel_rfl) (by kernel_rfl)
instance fn108 : A8 Tryz.prog 108 := C3 Tryz.func108 (by kernel_rfl) (by kernel_rfl)
instance fn109 : A8 Tryz.prog 109 := C3 Tryz.func109 (by kernel_rfl) (by kernel_rfl)
instance fn123 : A8 Tryz.prog 123 := C3 Tryz.func123 (by kernel_rfl) (by kernel_rfl)
instance fn136 : A8 Tryz.prog 136 := C3 Tryz.func136 (by kernel_rfl) (by kernel_rfl)
instance fn142 : A8 Tryz.prog 142 := C3 Tryz.func142 (by kernel_rfl) (by kernel_rfl)
instance fn145 : A8 Tryz.prog 145 := C3 Tryz.func145 (by kernel_rfl) (by kernel_rfl)
instance fn148 : A8 Tryz.prog 148 := C3 Tryz.func148 (by kernel_rfl) (by kernel_rfl)
instance fn149 : A8 Tryz.prog 149 := C3 Tryz.func149 (by kernel_rfl) (by kernel_rfl)
instance fn150 : A8 Tryz.prog 150 := C3 Tryz.func150 (by kernel_rfl) (by kernel_rfl)
instance fn151 : A8 Tryz.prog 151 := C3 Tryz.func151 (by kernel_rfl) (by kernel_rfl)
instance fn152 : A8 Tryz.prog 152 := C3 Tryz.func152 (by kernel_rfl) (by kernel_rfl)
instance fn153 : A8 Tryz.prog 153 := C3 Tryz.func153 (by kernel_rfl) (by kernel_rfl)
instance fn154 : A8 Tryz.prog 154 := C3 Tryz.func154 (by kernel_rfl) (by kernel_rfl)
instance fn155 : A8 Tryz.prog 155 := C3 Tryz.func155 (by kernel_rfl) (by kernel_rfl)
instance fn156 : A8 Tryz.prog 156 := C3 Tryz.func156 (by kernel_rfl) (by kernel_rfl)
instance fn157 : A8 Tryz.prog 157 := C3 Tryz.func157 (by kernel_rfl) (by kernel_rfl)
instance fn158 : A8 Tryz.prog 158 := C3 Tryz.func158 (by kernel_rfl) (by kernel_rfl)
instance fn159 : A8 Tryz.prog 159 := C3 Tryz.func159 (by kernel_rfl) (by kernel_rfl)
instance fn160 : A8 Tryz.prog 160 := C3 Tryz.func160 (by kernel_rfl) (by kernel_rfl)
instance fn161 : A8 Tryz.prog 161 := C3 Tryz.func161 (by kernel_rfl) (by kernel_rfl)
instance fn162 : A8 Tryz.prog 162 := C3 Tryz.func162 (by kernel_rfl) (by kernel_rfl)
instance fn163 : A8 Tryz.prog 163 := C3 Tryz.func163 (by kernel_rfl) (by kernel_rfl)
instance fn164 : A8 Tryz.prog 164 := C3 Tryz.func164 (by kernel_rfl) (by kernel_rfl)
instance fn166 : A8 Tryz.prog 166 := C3 Tryz.func166 (by kernel_rfl) (by kernel_rfl)
instance fn167 : A8 Tryz.prog 167 := C3 Tryz.func167 (by kernel_rfl) (by kernel_rfl)
instance fn168 : A8 Tryz.prog 168 := C3 Tryz.func168 (by kernel_rfl) (by kernel_rfl)
instance fn175 : A8 Tryz.prog 175 := C3 Tryz.func175 (by kernel_rfl) (by kernel_rfl)
instance fn185 : A8 Tryz.prog 185 := C3 Tryz.func185 (by kernel_rfl) (by kernel_rfl)
instance fn189 : A8 Tryz.prog 189 := C3 Tryz.func189 (by kernel_rfl) (by kernel_rfl)
instance fn190 : A8 Tryz.prog 190 := C3 Tryz.func190 (by kernel_rfl) (by kernel_rfl)
instance fn191 : A8 Tryz.prog 191 := C3 Tryz.func191 (by kernel_rfl) (by kernel_rfl)
instance fn192 : A8 Tryz.prog 192 := C3 Tryz.func192 (by kernel_rfl) (by kernel_rfl)
instance fn193 : A8 Tryz.prog 193 := C3 Tryz.func193 (by kernel_rfl) (by kernel_rfl)
instance fn194 : A8 Tryz.prog 194 := C3 Tryz.func194 (by kernel_rfl) (by kernel_rfl)
instance fn216 : A8 Tryz.prog 216 := C3 Tryz.func216 (by kernel_rfl) (by kernel_rfl)
instance fn217 : A8 Tryz.prog 217 := C3 Tryz.func217 (by kernel_rfl) (by kernel_rfl)
instance pl25 : A2g Tryz.prog 25 [(0, 1), (1, 1)] := A3E Tryz.underlying25 (by kernel_rfl) (by kernel_rfl)
instance pl28 : A2g Tryz.prog 28 [(0, 1), (1, 1), (2, 1), (3, 2), (5, 2), (7, 1), (8, 1)] := A3E Tryz.underlying28 (by kernel_rfl) (by kernel_rfl)
instance pl97 : A2g Tryz.prog 97 [(0, 1), (1, 1)] := A3E Tryz.underlying97 (by kernel_rfl) (by kernel_rfl)
theorem K9 : Tryz.prog.follows .mixedOrders = true := by kernel_rfl

structure B7 (G : IM) (p : Option Addr) (n c sz : Nat) (es : List (List Value)) : Prop where
 sl : Sl G p n c sz es.flatten
 len : es.length = n
 all : ∀ e ∈ es, e.length = sz
 one : ∀ e ∈ es, e.all (·.oneCell') = true

theorem B7.mono {G G' : IM} {p : Option Addr} {n c sz : Nat} {es : List (List Value)} (h : B7 G p n c sz es) (hg : B4 G G') : B7 G' p n c sz es := ⟨h.sl.mono hg, h.len, h.all, h.one⟩
theorem B7.nil (G : IM) (sz : Nat) : B7 G none 0 0 sz [] := ⟨Sl.nil G sz, rfl, by simp, by simp⟩

theorem A5k {sz : Nat} : ∀ {es : List (List Value)}, (∀ e ∈ es, e.length = sz) → ∀ {i : Nat} {e : List Value}, es[i]? = some e → ∀ j v, e[j]? = some v → es.flatten[i * sz + j]? = some v
 | [], _, i, e, h, _, _, _ => by simp at h
 | a :: r, hall, 0, e, h, j, v, hv => by
  simp at h; subst h
  have : j < a.length := (List.getElem?_eq_some_iff.1 hv).1
  simp [List.getElem?_append, this]
  simpa [List.getElem?_eq_getElem this] using hv
 | a :: r, hall, i + 1, e, h, j, v, hv => by
  have ih := A5k (es := r) (fun x hx => hall x (List.mem_cons_of_mem _ hx)) (i := i) (e := e) (by simpa using h) j v hv
  have ha := hall a List.mem_cons_self
  rw [List.flatten_cons, List.getElem?_append, if_neg (by rw [ha, Nat.succ_mul]; omega)]
  rw [show (i + 1) * sz + j - a.length = i * sz + j by rw [ha, Nat.succ_mul]; omega]
  exact ih

theorem B7.at {G : IM} {p : Option Addr} {n c sz : Nat} {es : List (List Value)} (h : B7 G p n c sz es) {i : Nat} {e : List Value} (hi : es[i]? = some e) :
  ∃ b o, p = some ⟨b, o, none⟩ ∧ ∀ hp, At hp G b (o + i * sz) e := by
 have hlt : i < es.length := (List.getElem?_eq_some_iff.1 hi).1
 obtain ⟨_, _, _, h4⟩ := h.sl
 have hn := h.len
 rcases h4 with h0 | ⟨b, o, full, hp, hg, hf⟩
 ·omega
 ·refine ⟨b, o, hp, fun hp => M4 hg fun j v hv => ?_⟩
  rw [Nat.add_assoc]
  exact hf _ v (A5k h.all hi j v hv)

theorem B7.get {G : IM} {p : Option Addr} {n c sz : Nat} {es : List (List Value)} (h : B7 G p n c sz es) {i : Nat} (hi : i < n) :
  ∃ e b o, es[i]? = some e ∧ p = some ⟨b, o, none⟩ ∧ e.length = sz ∧ e.all (·.oneCell') = true ∧ (∀ hp, At hp G b (o + i * sz) e) ∧ G b ≠ none := by
 have hlt : i < es.length := by rw [h.len]; exact hi
 have he : es[i]? = some es[i] := List.getElem?_eq_getElem hlt
 obtain ⟨b, o, h1, h2⟩ := h.at he
 refine ⟨es[i], b, o, he, h1, h.all _ (List.getElem_mem hlt), h.one _ (List.getElem_mem hlt), h2, ?_⟩
 obtain ⟨_, _, _, h4⟩ := h.sl
 rcases h4 with h0 | ⟨b', o', full, hp, hg, hf⟩
 ·omega
 ·rw [h1] at hp; cases hp; rw [hg]; simp
theorem B7.le {G : IM} {p : Option Addr} {n c sz : Nat} {es : List (List Value)} (h : B7 G p n c sz es) : n ≤ 9223372036854775807 := by
 have h1 := h.sl.2.1; have h2 := h.sl.2.2.1; unfold maxLen at h2; omega

theorem B7.of {G : IM} {p : Option Addr} {n c sz : Nat} {es : List (List Value)} (h : Sl G p n c sz es.flatten) (hl : es.length = n) (ha : ∀ e ∈ es, e.length = sz) (ho : ∀ e ∈ es, e.all (·.oneCell') = true) : B7 G p n c sz es := ⟨h, hl, ha, ho⟩

def F1 (n : Int) : Prop := -9223372036854775808 ≤ n ∧ n ≤ 9223372036854775807

inductive Ty where
 | mk (k : Int) (ks : List Ty)

def Ty.k : Ty → Int | .mk k _ => k
def Ty.ks : Ty → List Ty | .mk _ ks => ks

inductive Tm where
 | mk (k : Int) (nm : ByteArray) (num : Int) (ty fr : Ty) (lb : Int) (ks : List Tm)

def Tm.k : Tm → Int | .mk k _ _ _ _ _ _ => k
def Tm.nm : Tm → ByteArray | .mk _ n _ _ _ _ _ => n
def Tm.num : Tm → Int | .mk _ _ n _ _ _ _ => n
def Tm.ty : Tm → Ty | .mk _ _ _ t _ _ _ => t
def Tm.fr : Tm → Ty | .mk _ _ _ _ f _ _ => f
def Tm.lb : Tm → Int | .mk _ _ _ _ _ l _ => l
def Tm.ks : Tm → List Tm | .mk _ _ _ _ _ _ ks => ks

mutual
def Ty.small : Ty → Prop
 | .mk _ ks => ks.length ≤ 4294967296 ∧ Ty.smallL ks
def Ty.smallL : List Ty → Prop
 | [] => True
 | t :: ts => t.small ∧ Ty.smallL ts
end
mutual
def Tm.small : Tm → Prop
 | .mk _ nm _ ty fr _ ks => nm.size ≤ 4294967296 ∧ ty.small ∧ fr.small ∧ ks.length ≤ 4294967296 ∧ Tm.smallL ks
def Tm.smallL : List Tm → Prop
 | [] => True
 | t :: ts => t.small ∧ Tm.smallL ts
end
mutual
def C5 (G : IM) : Ty → List Value → Prop
 | .mk k ks, cells => ∃ p c es, cells = [.int .i64 k, .slice p ks.length c] ∧ F1 k ∧ B7 G p ks.length c 2 es ∧ H5 G ks es
def H5 (G : IM) : List Ty → List (List Value) → Prop
 | [], es => es = []
 | t :: ts, es => ∃ a r, es = a :: r ∧ C5 G t a ∧ H5 G ts r
end

mutual
def C7 (G : IM) : Tm → List Value → Prop
 | .mk k nm num ty fr lb ks, cells => ∃ tc fc p c es, cells = [.int .i64 k, .string nm, .int .i64 num] ++ tc ++ fc ++ [.int .i64 lb, .slice p ks.length c] ∧ F1 k ∧ F1 num ∧ F1 lb ∧ C5 G ty tc ∧ C5 G fr fc ∧ B7 G p ks.length c 9 es ∧ E7 G ks es
def E7 (G : IM) : List Tm → List (List Value) → Prop
 | [], es => es = []
 | t :: ts, es => ∃ a r, es = a :: r ∧ C7 G t a ∧ E7 G ts r
end

mutual
theorem C5.mono {G G' : IM} (hg : B4 G G') : ∀ {t : Ty} {cells : List Value}, C5 G t cells → C5 G' t cells
 | .mk k ks, cells, h => by
  simp only [C5] at h ⊢
  obtain ⟨p, c, es, h1, h2, h3, h4⟩ := h
  exact ⟨p, c, es, h1, h2, h3.mono hg, H5.mono hg h4⟩
theorem H5.mono {G G' : IM} (hg : B4 G G') : ∀ {ts : List Ty} {es : List (List Value)}, H5 G ts es → H5 G' ts es
 | [], es, h => by simpa only [H5] using h
 | t :: ts, es, h => by
  simp only [H5] at h ⊢
  obtain ⟨a, r, h1, h2, h3⟩ := h
  exact ⟨a, r, h1, C5.mono hg h2, H5.mono hg h3⟩
end
mutual
theorem C7.mono {G G' : IM} (hg : B4 G G') : ∀ {t : Tm} {cells : List Value}, C7 G t cells → C7 G' t cells
 | .mk k nm num ty fr lb ks, cells, h => by
  simp only [C7] at h ⊢
  obtain ⟨tc, fc, p, c, es, h1, h2, h3, h4, h5, h6, h7, h8⟩ := h
  exact ⟨tc, fc, p, c, es, h1, h2, h3, h4, h5.mono hg, h6.mono hg, h7.mono hg, E7.mono hg h8⟩
theorem E7.mono {G G' : IM} (hg : B4 G G') : ∀ {ts : List Tm} {es : List (List Value)}, E7 G ts es → E7 G' ts es
 | [], es, h => by simpa only [E7] using h
 | t :: ts, es, h => by
  simp only [E7] at h ⊢
  obtain ⟨a, r, h1, h2, h3⟩ := h
  exact ⟨a, r, h1, C7.mono hg h2, E7.mono hg h3⟩
end

theorem C5.open {G : IM} {t : Ty} {cells : List Value} (h : C5 G t cells) : ∃ p c es, cells = [.int .i64 t.k, .slice p t.ks.length c] ∧ F1 t.k ∧ B7 G p t.ks.length c 2 es ∧ H5 G t.ks es := by
 cases t; simpa only [C5, Ty.k, Ty.ks] using h
theorem C7.open {G : IM} {t : Tm} {cells : List Value} (h : C7 G t cells) : ∃ pt ct et pf cf ef p c es,
  cells = [.int .i64 t.k, .string t.nm, .int .i64 t.num, .int .i64 t.ty.k, .slice pt t.ty.ks.length ct, .int .i64 t.fr.k, .slice pf t.fr.ks.length cf, .int .i64 t.lb, .slice p t.ks.length c] ∧
  F1 t.k ∧ F1 t.num ∧ F1 t.lb ∧ (F1 t.ty.k ∧ B7 G pt t.ty.ks.length ct 2 et ∧ H5 G t.ty.ks et) ∧ (F1 t.fr.k ∧ B7 G pf t.fr.ks.length cf 2 ef ∧ H5 G t.fr.ks ef) ∧ B7 G p t.ks.length c 9 es ∧ E7 G t.ks es := by
 obtain ⟨k, nm, num, ty, fr, lb, ks⟩ := t
 simp only [C7] at h
 obtain ⟨tc, fc, p, c, es, h1, h2, h3, h4, h5, h6, h7, h8⟩ := h
 obtain ⟨pt, ct, et, rfl, t1, t2, t3⟩ := h5.open
 obtain ⟨pf, cf, ef, rfl, f1, f2, f3⟩ := h6.open
 exact ⟨pt, ct, et, pf, cf, ef, p, c, es, h1, h2, h3, h4, ⟨t1, t2, t3⟩, ⟨f1, f2, f3⟩, h7, h8⟩
theorem C7.open9 {G : IM} {k : Int} {nm : ByteArray} {num : Int} {tk : Int} {tks : List Ty} {fk : Int} {fks : List Ty} {lb : Int} {ks : List Tm} {cells : List Value} (h : C7 G (.mk k nm num (.mk tk tks) (.mk fk fks) lb ks) cells) :
  ∃ pt ct pf cf p c es, cells = [.int .i64 k, .string nm, .int .i64 num, .int .i64 tk, .slice pt tks.length ct, .int .i64 fk, .slice pf fks.length cf, .int .i64 lb, .slice p ks.length c] ∧
  F1 k ∧ F1 num ∧ F1 lb ∧ C5 G (.mk tk tks) [.int .i64 tk, .slice pt tks.length ct] ∧ C5 G (.mk fk fks) [.int .i64 fk, .slice pf fks.length cf] ∧ B7 G p ks.length c 9 es ∧ E7 G ks es := by
 obtain ⟨pt, ct, et, pf, cf, ef, p, c, es, h1, h2, h3, h4, ⟨t1, t2, t3⟩, ⟨f1, f2, f3⟩, h7, h8⟩ := h.open
 simp only [Tm.k, Tm.nm, Tm.num, Tm.ty, Tm.fr, Tm.lb, Tm.ks, Ty.k, Ty.ks] at h1 h2 h3 h4 t1 t2 t3 f1 f2 f3 h7 h8
 exact ⟨pt, ct, pf, cf, p, c, es, h1, h2, h3, h4, by simp only [C5]; exact ⟨_, _, et, rfl, t1, t2, t3⟩, by simp only [C5]; exact ⟨_, _, ef, rfl, f1, f2, f3⟩, h7, h8⟩
theorem C5.len {G : IM} {t : Ty} {cells : List Value} (h : C5 G t cells) : cells.length = 2 := by
 obtain ⟨_, _, _, rfl, _⟩ := h.open; rfl
theorem C7.len {G : IM} {t : Tm} {cells : List Value} (h : C7 G t cells) : cells.length = 9 := by
 obtain ⟨_, _, _, _, _, _, _, _, _, rfl, _⟩ := h.open; rfl

theorem H5.len {G : IM} : ∀ {ts : List Ty} {es : List (List Value)}, H5 G ts es → es.length = ts.length
 | [], es, h => by simp only [H5] at h; subst h; rfl
 | t :: ts, es, h => by
  simp only [H5] at h
  obtain ⟨a, r, rfl, _, h3⟩ := h
  simp [h3.len]
theorem E7.len {G : IM} : ∀ {ts : List Tm} {es : List (List Value)}, E7 G ts es → es.length = ts.length
 | [], es, h => by simp only [E7] at h; subst h; rfl
 | t :: ts, es, h => by
  simp only [E7] at h
  obtain ⟨a, r, rfl, _, h3⟩ := h
  simp [h3.len]
theorem H5.get {G : IM} : ∀ {ts : List Ty} {es : List (List Value)}, H5 G ts es → ∀ {i : Nat} {t : Ty}, ts[i]? = some t → ∃ e, es[i]? = some e ∧ C5 G t e
 | [], es, h, i, t, hi => by simp at hi
 | t' :: ts, es, h, i, t, hi => by
  simp only [H5] at h
  obtain ⟨a, r, rfl, h2, h3⟩ := h
  cases i with
  | zero => simp at hi; subst hi; exact ⟨a, rfl, h2⟩
  | succ i => obtain ⟨e, he, hr⟩ := h3.get (i := i) (by simpa using hi); exact ⟨e, by simpa using he, hr⟩
theorem E7.get {G : IM} : ∀ {ts : List Tm} {es : List (List Value)}, E7 G ts es → ∀ {i : Nat} {t : Tm}, ts[i]? = some t → ∃ e, es[i]? = some e ∧ C7 G t e
 | [], es, h, i, t, hi => by simp at hi
 | t' :: ts, es, h, i, t, hi => by
  simp only [E7] at h
  obtain ⟨a, r, rfl, h2, h3⟩ := h
  cases i with
  | zero => simp at hi; subst hi; exact ⟨a, rfl, h2⟩
  | succ i => obtain ⟨e, he, hr⟩ := h3.get (i := i) (by simpa using hi); exact ⟨e, by simpa using he, hr⟩
theorem H5.all {G : IM} {ts : List Ty} {es : List (List Value)} (h : H5 G ts es) : ∀ e ∈ es, e.length = 2 := by
 intro e he
 obtain ⟨i, hi⟩ := List.getElem?_of_mem he
 have hlt : i < ts.length := by have := (List.getElem?_eq_some_iff.1 hi).1; rw [h.len] at this; exact this
 obtain ⟨e', he', hr⟩ := h.get (i := i) (t := ts[i]) (by simp [hlt])
 rw [hi] at he'; cases he'; exact hr.len
theorem E7.all {G : IM} {ts : List Tm} {es : List (List Value)} (h : E7 G ts es) : ∀ e ∈ es, e.length = 9 := by
 intro e he
 obtain ⟨i, hi⟩ := List.getElem?_of_mem he
 have hlt : i < ts.length := by have := (List.getElem?_eq_some_iff.1 hi).1; rw [h.len] at this; exact this
 obtain ⟨e', he', hr⟩ := h.get (i := i) (t := ts[i]) (by simp [hlt])
 rw [hi] at he'; cases he'; exact hr.len

theorem C5.one {G : IM} {t : Ty} {cells : List Value} (h : C5 G t cells) : cells.all (·.oneCell') = true := by
 obtain ⟨_, _, _, rfl, _⟩ := h.open; rfl
theorem C7.one {G : IM} {t : Tm} {cells : List Value} (h : C7 G t cells) : cells.all (·.oneCell') = true := by
 obtain ⟨_, _, _, _, _, _, _, _, _, rfl, _⟩ := h.open; rfl

theorem Ty.ind {C : Ty → Prop} (h : ∀ k ks, (∀ t ∈ ks, C t) → C (.mk k ks)) : ∀ t, C t
 | .mk k ks => h k ks fun t ht => Ty.ind h t
termination_by t => SizeOf.sizeOf t
decreasing_by
 have := List.sizeOf_lt_of_mem ht
 simp only [Ty.mk.sizeOf_spec]; omega
theorem Tm.ind {C : Tm → Prop} (h : ∀ k nm num ty fr lb ks, (∀ t ∈ ks, C t) → C (.mk k nm num ty fr lb ks)) : ∀ t, C t
 | .mk k nm num ty fr lb ks => h k nm num ty fr lb ks fun t ht => Tm.ind h t
termination_by t => SizeOf.sizeOf t
decreasing_by
 have := List.sizeOf_lt_of_mem ht
 simp only [Tm.mk.sizeOf_spec]; omega

def B2 (G' G : IM) : IM := fun b => match G b with | none => G' b | some _ => none
theorem B2.le (G' G : IM) : B4 (B2 G' G) G' := by
 intro b l h
 unfold B2 at h
 split at h
 ·exact h
 ·cases h
theorem B2.mono {G' G'' G : IM} (h : B4 G' G'') : B4 (B2 G' G) (B2 G'' G) := by
 intro b l hb
 unfold B2 at hb ⊢
 split at hb
 ·exact h b l hb
 ·cases hb
theorem B2.anti {G' G G0 : IM} (h : B4 G0 G) : B4 (B2 G' G) (B2 G' G0) := by
 intro b l hb
 unfold B2 at hb ⊢
 split at hb
 ·rename_i h0
  cases h1 : G0 b with
  | none => exact hb
  | some l' => rw [h b l' h1] at h0; cases h0
 ·cases hb
theorem B2.out {G' G : IM} {b : Nat} (h : B2 G' G b ≠ none) : G b = none := by
 unfold B2 at h
 split at h
 ·assumption
 ·exact absurd rfl h
theorem Sl.dif {G' G G0 : IM} {p : Option Addr} {n c sz : Nat} {cs : List Value} (h : Sl G' p n c sz cs) (hp : ∀ b ∈ E5 p, G b = none) (hle : B4 G0 G) : Sl (B2 G' G0) p n c sz cs := by
 obtain ⟨h1, h2, h3, h4⟩ := h
 refine ⟨h1, h2, h3, h4.imp id ?_⟩
 rintro ⟨b, o, full, rfl, e2, e3⟩
 refine ⟨b, o, full, rfl, ?_, e3⟩
 have hb := hp b (by simp [E5])
 have h0 : G0 b = none := by
  cases h1 : G0 b with
  | none => rfl
  | some l => rw [hle b l h1] at hb; cases hb
 simp [B2, h0, e2]

mutual
def K6 (G : IM) : Ty → List Value → List Nat → Prop
 | .mk k ks, cells, F => ∃ p c es Fs, cells = [.int .i64 k, .slice p ks.length c] ∧ F1 k ∧ B7 G p ks.length c 2 es ∧ I8 G ks es Fs ∧ F = E5 p ++ Fs ∧ (∀ b ∈ E5 p, G b ≠ none)
def I8 (G : IM) : List Ty → List (List Value) → List Nat → Prop
 | [], es, F => es = [] ∧ F = []
 | t :: ts, es, F => ∃ a r Fa Fr, es = a :: r ∧ K6 G t a Fa ∧ I8 G ts r Fr ∧ F = Fa ++ Fr
end
mutual
theorem K6.R {G : IM} : ∀ {t : Ty} {cells : List Value} {F : List Nat}, K6 G t cells F → C5 G t cells
 | .mk k ks, cells, F, h => by
  simp only [K6] at h
  obtain ⟨p, c, es, Fs, h1, h2, h3, h4, _⟩ := h
  simp only [C5]
  exact ⟨p, c, es, h1, h2, h3, I8.R h4⟩
theorem I8.R {G : IM} : ∀ {ts : List Ty} {es : List (List Value)} {F : List Nat}, I8 G ts es F → H5 G ts es
 | [], es, F, h => by simp only [I8] at h; simp only [H5]; exact h.1
 | t :: ts, es, F, h => by
  simp only [I8] at h
  obtain ⟨a, r, Fa, Fr, h1, h2, h3, _⟩ := h
  simp only [H5]
  exact ⟨a, r, h1, K6.R h2, I8.R h3⟩
end
mutual
theorem K6.mono {G G' : IM} (hg : B4 G G') : ∀ {t : Ty} {cells : List Value} {F : List Nat}, K6 G t cells F → K6 G' t cells F
 | .mk k ks, cells, F, h => by
  simp only [K6] at h ⊢
  obtain ⟨p, c, es, Fs, h1, h2, h3, h4, h5, h6⟩ := h
  exact ⟨p, c, es, Fs, h1, h2, h3.mono hg, I8.mono hg h4, h5, fun b hb => by cases hgb : G b with | none => exact absurd hgb (h6 b hb) | some l => rw [hg b l hgb]; simp⟩
theorem I8.mono {G G' : IM} (hg : B4 G G') : ∀ {ts : List Ty} {es : List (List Value)} {F : List Nat}, I8 G ts es F → I8 G' ts es F
 | [], es, F, h => by simpa only [I8] using h
 | t :: ts, es, F, h => by
  simp only [I8] at h ⊢
  obtain ⟨a, r, Fa, Fr, h1, h2, h3, h4⟩ := h
  exact ⟨a, r, Fa, Fr, h1, K6.mono hg h2, I8.mono hg h3, h4⟩
end
mutual
theorem K6.inG {G : IM} : ∀ {t : Ty} {cells : List Value} {F : List Nat}, K6 G t cells F → ∀ b ∈ F, G b ≠ none
 | .mk k ks, cells, F, h => by
  simp only [K6] at h
  obtain ⟨p, c, es, Fs, h1, h2, h3, h4, rfl, h6⟩ := h
  intro b hb
  rcases List.mem_append.1 hb with hb | hb
  ·exact h6 b hb
  ·exact I8.inG h4 b hb
theorem I8.inG {G : IM} : ∀ {ts : List Ty} {es : List (List Value)} {F : List Nat}, I8 G ts es F → ∀ b ∈ F, G b ≠ none
 | [], es, F, h => by simp only [I8] at h; rw [h.2]; simp
 | t :: ts, es, F, h => by
  simp only [I8] at h
  obtain ⟨a, r, Fa, Fr, h1, h2, h3, rfl⟩ := h
  intro b hb
  rcases List.mem_append.1 hb with hb | hb
  ·exact K6.inG h2 b hb
  ·exact I8.inG h3 b hb
end
theorem I8.snoc {G : IM} : ∀ {ts : List Ty} {es : List (List Value)} {F : List Nat} {t : Ty} {a : List Value} {Fa : List Nat}, I8 G ts es F → K6 G t a Fa → I8 G (ts ++ [t]) (es ++ [a]) (F ++ Fa)
 | [], es, F, t, a, Fa, h, h2 => by
  simp only [I8] at h
  obtain ⟨rfl, rfl⟩ := h
  simp only [List.nil_append, I8]
  exact ⟨a, [], Fa, [], rfl, h2, ⟨rfl, rfl⟩, by simp⟩
 | t' :: ts, es, F, t, a, Fa, h, h2 => by
  simp only [I8] at h
  obtain ⟨a', r, Fa', Fr, rfl, h3, h4, rfl⟩ := h
  simp only [List.cons_append, I8]
  exact ⟨a', r ++ [a], Fa', Fr ++ Fa, rfl, h3, I8.snoc h4 h2, by simp⟩

theorem B7.kidTy {G : IM} {p : Option Addr} {n c : Nat} {es : List (List Value)} {ks : List Ty} (h : B7 G p n c 2 es) (hk : H5 G ks es) {i : Nat} (hi : i < n) (hn : i < ks.length) :
  ∃ b o p2 c2, p = some ⟨b, o, none⟩ ∧ (∀ hp, At hp G b (o + i * 2) [.int .i64 ks[i].k, .slice p2 ks[i].ks.length c2]) ∧ C5 G ks[i] [.int .i64 ks[i].k, .slice p2 ks[i].ks.length c2] ∧ G b ≠ none := by
 obtain ⟨e, b, o, he, h1, h2, h3, h4, h5⟩ := h.get hi
 obtain ⟨e', he', hr⟩ := hk.get (i := i) (t := ks[i]) (by simp [hn])
 rw [he] at he'; cases he'
 obtain ⟨p2, c2, _, rfl, _⟩ := hr.open
 exact ⟨b, o, p2, c2, h1, h4, hr, h5⟩

theorem I8.step {G Gi G1 : IM} {ks : List Ty} {i : Nat} {es : List (List Value)} {F F' : List Nat} {a : List Value} (h : I8 (B2 Gi G) (ks.take i) es F) (hn : F.Nodup) (hle : B4 G Gi) (hle1 : B4 Gi G1) (hi : i < ks.length)
  (ha : K6 (B2 G1 Gi) ks[i] a F') (hn' : F'.Nodup) : I8 (B2 G1 G) (ks.take (i + 1)) (es ++ [a]) (F ++ F') ∧ (F ++ F').Nodup := by
 constructor
 ·rw [List.take_succ_eq_append_getElem hi]
  exact I8.snoc (h.mono (B2.mono hle1)) (ha.mono (B2.anti hle))
 ·rw [List.nodup_append]
  refine ⟨hn, hn', ?_⟩
  rintro x hx y hy rfl
  have h1 := h.inG x hx
  have h2 := B2.out (ha.inG x hy)
  apply h1
  cases hd : B2 Gi G x with
  | none => rfl
  | some l => rw [B2.le _ _ x l hd] at h2; cases h2
theorem K6.fin {G Gi G2 : IM} {k : Int} {ks : List Ty} {es : List (List Value)} {F : List Nat} {p : Option Addr} {c : Nat} (h : I8 (B2 Gi G) ks es F) (hn : F.Nodup) (hle : B4 G Gi) (hle2 : B4 Gi G2)
  (hsl : Sl G2 p ks.length c 2 es.flatten) (hnn : ∀ b ∈ E5 p, Gi b = none ∧ G2 b ≠ none) (hk : F1 k) :
  ∃ F', K6 (B2 G2 G) (.mk k ks) [.int .i64 k, .slice p ks.length c] F' ∧ F'.Nodup := by
 have hno := fun b hb => (hnn b hb).1
 have hin := fun b hb => (hnn b hb).2
 have hR := h.R
 refine ⟨E5 p ++ F, ?_, ?_⟩
 ·simp only [K6]
  refine ⟨p, c, es, F, rfl, hk, B7.of (hsl.dif hno hle) hR.len hR.all ?_, h.mono (B2.mono hle2), rfl, ?_⟩
  ·intro e he
   obtain ⟨i, hi⟩ := List.getElem?_of_mem he
   have hlt : i < ks.length := by have := (List.getElem?_eq_some_iff.1 hi).1; rw [hR.len] at this; exact this
   obtain ⟨e', he', hr⟩ := hR.get (i := i) (t := ks[i]) (by simp [hlt])
   rw [hi] at he'; cases he'; exact hr.one
  ·intro b hb
   have h0 := hno b hb
   cases hg : G b with
   | none => simpa [B2, hg] using hin b hb
   | some l => rw [hle b l hg] at h0; cases h0
 ·rw [List.nodup_append]
  refine ⟨by cases p <;> simp [E5], hn, ?_⟩
  rintro x hx y hy rfl
  have h1 := h.inG x hy
  have h2 := hno x hx
  apply h1
  cases hd : B2 Gi G x with
  | none => rfl
  | some l => rw [B2.le _ _ x l hd] at h2; cases h2

def Z8 (q : Nat → Bool) (n : Nat) : Int := match (List.range n).find? q with | some i => i | none => -1
theorem A5l {q : Nat → Bool} {n : Nat} (h : ∀ j, j < n → q j = false) : Z8 q n = -1 := by
 have : (List.range n).find? q = none := by
  rw [List.find?_eq_none]
  intro x hx
  rw [h x (List.mem_range.1 hx)]; simp
 simp [Z8, this]
theorem A8R {q : Nat → Bool} {n i : Nat} (hi : i < n) (h : ∀ j, j < i → q j = false) (hq : q i = true) : Z8 q n = i := by
 have : (List.range n).find? q = some i := by
  rw [List.find?_eq_some_iff_append]
  refine ⟨hq, List.range i, (List.range n).drop (i + 1), ?_, ?_⟩
  ·apply List.ext_getElem?
   intro k
   simp only [List.getElem?_append, List.length_range, List.getElem?_range', List.getElem?_cons, List.getElem?_drop]
   by_cases h1 : k < i
   ·simp [h1, show k < n by omega]
   ·by_cases h2 : k = i
    ·subst h2; simp [hi]
    ·have h3 : k - i ≠ 0 := by omega
     simp only [h1, if_false, h3]
     rw [show i + 1 + (k - i - 1) = k by omega]
  ·intro a ha
   simp [h a (List.mem_range.1 ha)]
 simp [Z8, this]
end Gw
end Go.Proofs.YtgodjiieijekiaaGreatDoor
