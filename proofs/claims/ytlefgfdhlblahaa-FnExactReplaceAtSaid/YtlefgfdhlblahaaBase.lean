/-
  What every walk of this claim stands on: states told by lists (slots, own blocks, blocks that no longer change), and the rules by which code moves between them.
-/
import Derived.WalkKit
namespace Go.Proofs.Ytlefgfdhlblahaa
open Go Go.RowKit
namespace Gw

/-- The slots that are known, the newest first. -/
abbrev Env := List (Nat × Value)

def look : Env → Nat → Option Value
  | [], _ => none
  | (k, v) :: r, t => bif Nat.beq k t then some v else look r t

def evo (e : Env) : Operand → Option Value
  | .tmp t => look e t
  | .const v => some v
  | .global g => some (.pointer (some ⟨g, 0, none⟩))
  | .func f => some (.func (.func f) #[] #[])

def evl (e : Env) : List Operand → Option (List Value)
  | [] => some []
  | x :: r => match evo e x with
    | some v => match evl e r with
      | some vs => some (v :: vs)
      | none => none
    | none => none

/-- What the running call alone holds: a block known whole, or a slice that owns its block. -/
inductive Ent where
  | blk (b : Nat) (cs : List Value)
  | slc (p : Option Addr) (c : Nat) (el : TypeId) (sz : Nat) (n : Nat) (cs : List Value)

def vfp : Option Addr → List Nat
  | some p => [p.block]
  | none => []

def Ent.fp : Ent → List Nat
  | .blk b _ => [b]
  | .slc p _ _ _ _ _ => vfp p

def Ent.ok (w : World) : Ent → Prop
  | .blk b cs => ∃ e, w.heap[b]? = some (.cells cs.toArray e (0, 0))
  | .slc p c el sz n cs => w.ownsRow 0 el sz (.slice p n c) n cs

def Fp (hp : List Ent) : List Nat := hp.flatMap Ent.fp

/-- Blocks that no longer change, with all their cells. -/
abbrev IM := Nat → Option (List Value)

def IMle (G G' : IM) : Prop := ∀ b l, G b = some l → G' b = some l
def IMin (G : IM) (w : World) : Prop := ∀ b l, G b = some l → ∃ e f, w.heap[b]? = some (.cells l.toArray e f)

theorem IMle.refl (G : IM) : IMle G G := fun _ _ h => h
theorem IMle.trans {G G' G'' : IM} (h : IMle G G') (h' : IMle G' G'') : IMle G G'' := fun b l x => h' b l (h b l x)

structure Ext (mods : List Nat) (w w' : World) : Prop where
  os : w'.os = w.os
  tape : w'.tape = w.tape
  output : w'.output = w.output
  size : w.heap.size ≤ w'.heap.size
  block : ∀ k, k < w.heap.size → k ∉ mods → w'.heap[k]? = w.heap[k]?

theorem Ext.refl (m : List Nat) (w : World) : Ext m w w := ⟨rfl, rfl, rfl, Nat.le_refl _, fun _ _ _ => rfl⟩

structure Own (hp : List Ent) (G : IM) (w : World) : Prop where
  inn : IMin G w
  ok : ∀ e ∈ hp, e.ok w
  nodup : (Fp hp).Nodup
  disj : ∀ b ∈ Fp hp, G b = none

structure Res (ins : List Ent) (G0 : IM) (w0 : World) (hp : List Ent) (G : IM) (w : World) : Prop where
  own : Own hp G w
  ext : Ext (Fp ins) w0 w
  le : IMle G0 G
  fresh : ∀ b l, G b = some l → G0 b = some l ∨ w0.heap.size ≤ b ∨ b ∈ Fp ins
  ofresh : ∀ b ∈ Fp hp, w0.heap.size ≤ b ∨ b ∈ Fp ins
  fz : ∀ b l, G b = some l → G0 b = none → ∃ e, w.heap[b]? = some (.cells l.toArray e (0, 0))

theorem lt_of_some {w : World} {b : Nat} {o : Obj} (h : w.heap[b]? = some o) : b < w.heap.size := (Array.getElem?_eq_some_iff.1 h).1

theorem Ent.ok_lt {w : World} {e : Ent} (h : e.ok w) : ∀ b ∈ e.fp, b < w.heap.size := by
  cases e with
  | blk b cs => intro k hk; simp [Ent.fp] at hk; subst hk; obtain ⟨_, h⟩ := h; exact lt_of_some h
  | slc p c el sz n cs =>
    intro k hk
    rcases h.2 with ⟨he, _⟩ | ⟨g, cap, cur, he, _, hg, _⟩
    · cases he; simp [Ent.fp, vfp] at hk
    · cases he; simp [Ent.fp, vfp] at hk; subst hk; exact lt_of_some hg

theorem Ent.ok_ext {w w' : World} {e : Ent} (h : e.ok w) (hb : ∀ b ∈ e.fp, w'.heap[b]? = w.heap[b]?) : e.ok w' := by
  cases e with
  | blk b cs => obtain ⟨x, h⟩ := h; exact ⟨x, by rw [hb b (by simp [Ent.fp])]; exact h⟩
  | slc p c el sz n cs =>
    refine ⟨h.1, ?_⟩
    rcases h.2 with hn | ⟨g, cap, cur, he, h0, hg, rest⟩
    · exact .inl hn
    · cases he; exact .inr ⟨g, _, cur, rfl, h0, by rw [hb g (by simp [Ent.fp, vfp])]; exact hg, rest⟩

theorem Fp_cons (e : Ent) (hp : List Ent) : Fp (e :: hp) = e.fp ++ Fp hp := rfl
theorem Fp_append (a b : List Ent) : Fp (a ++ b) = Fp a ++ Fp b := by simp [Fp]
theorem Fp_perm {a b : List Ent} (h : a.Perm b) : (Fp a).Perm (Fp b) := h.flatMap_right _
theorem mem_Fp {hp : List Ent} {b : Nat} : b ∈ Fp hp ↔ ∃ e ∈ hp, b ∈ e.fp := by simp [Fp, List.mem_flatMap]

theorem Own.lt {hp : List Ent} {G : IM} {w : World} (h : Own hp G w) : ∀ b ∈ Fp hp, b < w.heap.size := by
  intro b hb
  obtain ⟨e, he, hbe⟩ := mem_Fp.1 hb
  exact Ent.ok_lt (h.ok e he) b hbe

theorem IMin.lt {G : IM} {w : World} (h : IMin G w) {b : Nat} {l : List Value} (hb : G b = some l) : b < w.heap.size := by
  obtain ⟨_, _, hh⟩ := h b l hb
  exact lt_of_some hh

theorem Own.perm {hp hp' : List Ent} {G : IM} {w : World} (h : Own hp G w) (p : hp.Perm hp') : Own hp' G w :=
  ⟨h.inn, fun e he => h.ok e (p.mem_iff.2 he), (Fp_perm p).nodup_iff.1 h.nodup, fun b hb => h.disj b ((Fp_perm p).mem_iff.2 hb)⟩

theorem Own.left {a b : List Ent} {G : IM} {w : World} (h : Own (a ++ b) G w) : Own a G w :=
  ⟨h.inn, fun e he => h.ok e (List.mem_append_left _ he), by have := h.nodup; rw [Fp_append] at this; exact (List.nodup_append.1 this).1,
   fun x hx => h.disj x (by rw [Fp_append]; exact List.mem_append_left _ hx)⟩

theorem Res.perm {ins hp hp' : List Ent} {G0 G : IM} {w0 w : World} (h : Res ins G0 w0 hp G w) (p : hp.Perm hp') : Res ins G0 w0 hp' G w :=
  ⟨h.own.perm p, h.ext, h.le, h.fresh, fun b hb => h.ofresh b ((Fp_perm p).mem_iff.2 hb), h.fz⟩

theorem Res.left {ins a b : List Ent} {G0 G : IM} {w0 w : World} (h : Res ins G0 w0 (a ++ b) G w) : Res ins G0 w0 a G w :=
  ⟨h.own.left, h.ext, h.le, h.fresh, fun x hx => h.ofresh x (by rw [Fp_append]; exact List.mem_append_left _ hx), h.fz⟩

theorem Res.refl {ins : List Ent} {G : IM} {w : World} (h : Own ins G w) : Res ins G w ins G w :=
  ⟨h, Ext.refl _ _, IMle.refl _, fun _ _ h => .inl h, fun _ h => .inr h, fun b l h h0 => absurd h (by rw [h0]; simp)⟩

/-- The frame: what a step does not name stays. -/
theorem Res.frame {ins0 ins outs rest : List Ent} {G0 G G' : IM} {w0 w w' : World}
    (h : Res ins0 G0 w0 (ins ++ rest) G w) (s : Res ins G w outs G' w') : Res ins0 G0 w0 (outs ++ rest) G' w' := by
  have hnd := h.own.nodup
  rw [Fp_append, List.nodup_append] at hnd
  obtain ⟨_, hndr, hdis⟩ := hnd
  have hrest_lt : ∀ b ∈ Fp rest, b < w.heap.size := fun b hb => h.own.lt b (by rw [Fp_append]; exact List.mem_append_right _ hb)
  have hrest_not : ∀ b ∈ Fp rest, b ∉ Fp ins := fun b hb hi => hdis b hi b hb rfl
  refine ⟨⟨s.own.inn, ?_, ?_, ?_⟩, ?_, h.le.trans s.le, ?_, ?_, ?_⟩
  · intro e he
    rcases List.mem_append.1 he with he | he
    · exact s.own.ok e he
    · refine Ent.ok_ext (h.own.ok e (List.mem_append_right _ he)) fun b hb => ?_
      have hbr : b ∈ Fp rest := mem_Fp.2 ⟨e, he, hb⟩
      exact s.ext.block b (hrest_lt b hbr) (hrest_not b hbr)
  · rw [Fp_append, List.nodup_append]
    refine ⟨s.own.nodup, hndr, ?_⟩
    rintro a ha b hb rfl
    rcases s.ofresh a ha with hf | hf
    · exact absurd (hrest_lt a hb) (by omega)
    · exact hrest_not a hb hf
  · intro b hb
    rw [Fp_append] at hb
    rcases List.mem_append.1 hb with hb | hb
    · exact s.own.disj b hb
    · cases hg : G' b with
      | none => rfl
      | some l =>
        exfalso
        rcases s.fresh b l hg with hf | hf | hf
        · have := h.own.disj b (by rw [Fp_append]; exact List.mem_append_right _ hb)
          rw [this] at hf; cases hf
        · exact absurd (hrest_lt b hb) (by omega)
        · exact hrest_not b hb hf
  · refine ⟨s.ext.os.trans h.ext.os, s.ext.tape.trans h.ext.tape, s.ext.output.trans h.ext.output, Nat.le_trans h.ext.size s.ext.size, ?_⟩
    intro k hk hkn
    rw [s.ext.block k (Nat.lt_of_lt_of_le hk h.ext.size) ?_, h.ext.block k hk hkn]
    intro hki
    rcases h.ofresh k (by rw [Fp_append]; exact List.mem_append_left _ hki) with hf | hf
    · omega
    · exact hkn hf
  · intro b l hb
    rcases s.fresh b l hb with hf | hf | hf
    · exact h.fresh b l hf
    · exact .inr (.inl (Nat.le_trans h.ext.size hf))
    · exact .inr (h.ofresh b (by rw [Fp_append]; exact List.mem_append_left _ hf))
  · intro b hb
    rw [Fp_append] at hb
    rcases List.mem_append.1 hb with hb | hb
    · rcases s.ofresh b hb with hf | hf
      · exact .inl (Nat.le_trans h.ext.size hf)
      · exact h.ofresh b (by rw [Fp_append]; exact List.mem_append_left _ hf)
    · exact h.ofresh b (by rw [Fp_append]; exact List.mem_append_right _ hb)
  · intro b l hb h0
    cases hg : G b with
    | none => exact s.fz b l hb hg
    | some l' =>
      have := s.le b l' hg
      rw [hb] at this; cases this
      obtain ⟨e, he⟩ := h.fz b l hg h0
      refine ⟨e, ?_⟩
      rw [s.ext.block b (lt_of_some he) ?_]
      · exact he
      · intro hbi
        have := h.own.disj b (by rw [Fp_append]; exact List.mem_append_left _ hbi)
        rw [hg] at this; cases this

/-- A state of a running call: the call began in w0 with the entries ins. -/
structure Ctx where
  n : Nat
  ins : List Ent
  G0 : IM
  w0 : World

structure Sy where
  env : Env
  hp : List Ent
  G : IM

structure St (Γ : Ctx) (σ : Sy) (a : Act) (w : World) : Prop where
  size : a.tmps.size = Γ.n
  nod : a.defers = []
  env : ∀ t v, look σ.env t = some v → a.tmps.getD t undef = v
  res : Res Γ.ins Γ.G0 Γ.w0 σ.hp σ.G w

theorem St.evo {Γ : Ctx} {σ : Sy} {a : Act} {w : World} (h : St Γ σ a w) {x : Operand} {v : Value} (hx : evo σ.env x = some v) : a.eval x = v := by
  cases x with
  | tmp t => exact h.env t v hx
  | const c => simpa [Gw.evo, Act.eval] using hx
  | global g => simpa [Gw.evo, Act.eval] using hx
  | func f => simpa [Gw.evo, Act.eval] using hx

theorem St.evl {Γ : Ctx} {σ : Sy} {a : Act} {w : World} (h : St Γ σ a w) : ∀ {xs : List Operand} {vs : List Value}, evl σ.env xs = some vs → xs.map a.eval = vs
  | [], vs, hx => by simp [Gw.evl] at hx; subst hx; rfl
  | x :: r, vs, hx => by
    simp only [Gw.evl] at hx
    split at hx
    · rename_i v hv
      split at hx
      · rename_i us hu
        simp at hx; subst hx
        simp [h.evo hv, St.evl h hu]
      · cases hx
    · cases hx

theorem look_cons (k : Nat) (v : Value) (r : Env) (t : Nat) : look ((k, v) :: r) t = if k = t then some v else look r t := by
  simp only [look]
  by_cases h : k = t
  · subst h; simp
  · have : Nat.beq k t = false := by
      cases hb : Nat.beq k t with
      | false => rfl
      | true => exact absurd (Nat.eq_of_beq_eq_true hb) h
    simp [this, h]

/-- One slot is written; memory goes on by a step. -/
theorem St.put {Γ : Ctx} {σ : Sy} {a : Act} {w w' : World} {hp' : List Ent} {G' : IM} (h : St Γ σ a w) (t : Nat) (v : Value) (ht : t < Γ.n)
    (hr : Res Γ.ins Γ.G0 Γ.w0 hp' G' w') : St Γ ⟨(t, v) :: σ.env, hp', G'⟩ (a.put (some t) v) w' := by
  refine ⟨?_, h.nod, ?_, hr⟩
  · simp [Act.put, h.size]
  · intro s u hs
    rw [look_cons] at hs
    simp only [Act.put]
    by_cases e : t = s
    · subst e
      simp at hs; subst hs
      have : t < a.tmps.size := by rw [h.size]; exact ht
      simp [Array.getD_eq_getD_getElem?, this]
    · rw [if_neg e] at hs
      have := h.env s u hs
      simp only [Array.getD_eq_getD_getElem?, Array.getElem?_setIfInBounds, if_neg e] at this ⊢
      exact this

theorem St.put_none {Γ : Ctx} {σ : Sy} {a : Act} {w w' : World} {hp' : List Ent} {G' : IM} (h : St Γ σ a w) (v : Value)
    (hr : Res Γ.ins Γ.G0 Γ.w0 hp' G' w') : St Γ ⟨σ.env, hp', G'⟩ (a.put none v) w' := ⟨h.size, h.nod, h.env, hr⟩

def dpu (d : Option Nat) (v : Value) (e : Env) : Env := match d with | some t => (t, v) :: e | none => e
def dok (n : Nat) : Option Nat → Bool | some t => Nat.blt t n | none => true

theorem St.dput {Γ : Ctx} {σ : Sy} {a : Act} {w w' : World} {hp' : List Ent} {G' : IM} (h : St Γ σ a w) (d : Option Nat) (v : Value) (ht : dok Γ.n d = true)
    (hr : Res Γ.ins Γ.G0 Γ.w0 hp' G' w') : St Γ ⟨dpu d v σ.env, hp', G'⟩ (a.put d v) w' := by
  cases d with
  | none => exact h.put_none v hr
  | some t => exact h.put t v (by simpa [dok] using ht) hr

/-- Post conditions over states. -/
abbrev Po := Exit → Sy → Prop
def lift (Γ : Ctx) (K : Po) : Exit → Act → World → Prop := fun e a w => ∃ σ, St Γ σ a w ∧ K e σ

structure Tri (P : Program) (Γ : Ctx) (c : Code) (K : Po) (σ : Sy) : Prop where
  run : ∀ a w, St Γ σ a w → c.wp P (lift Γ K) a w

structure seqK (P : Program) (Γ : Ctx) (y : Code) (K : Po) (e : Exit) (σ : Sy) : Prop where
  run : match e with
    | .normal => Tri P Γ y K σ
    | e => K e σ
structure blockK (id : Nat) (K : Po) (e : Exit) (σ : Sy) : Prop where
  run : match e with
    | .exit id' => if id' = id then K .normal σ else K (.exit id') σ
    | e => K e σ

section rules
variable {P : Program} {Γ : Ctx} {K : Po} {σ : Sy}

theorem tri_mono {c : Code} {K' : Po} (h : Tri P Γ c K σ) (hk : ∀ e σ, K e σ → K' e σ) : Tri P Γ c K' σ :=
  ⟨fun a w hs => wp_mono (h.run a w hs) fun _ _ _ ⟨s, h1, h2⟩ => ⟨s, h1, hk _ _ h2⟩⟩

theorem tri_seq {x y : Code} (h : Tri P Γ x (seqK P Γ y K) σ) : Tri P Γ (Code.seq x y) K σ := by
  refine ⟨fun a w hs => ?_⟩
  refine wp_seq (wp_mono (h.run a w hs) ?_)
  rintro e a' w' ⟨s, h1, ⟨h2⟩⟩
  cases e <;> first | exact h2.run a' w' h1 | exact ⟨s, h1, h2⟩

theorem tri_skip (h : K .normal σ) : Tri P Γ .skip K σ := ⟨fun _ _ hs => wp_skip ⟨σ, hs, h⟩⟩
theorem tri_ret (h : K .ret σ) : Tri P Γ .ret K σ := ⟨fun _ _ hs => wp_ret ⟨σ, hs, h⟩⟩
theorem tri_exit {id : Nat} (h : K (.exit id) σ) : Tri P Γ (.exit id) K σ := ⟨fun _ _ hs => wp_exit ⟨σ, hs, h⟩⟩
theorem tri_block {id : Nat} {c : Code} (h : Tri P Γ c (blockK id K) σ) : Tri P Γ (.block id c) K σ := by
  refine ⟨fun a w hs => ?_⟩
  refine wp_block (wp_mono (h.run a w hs) ?_)
  rintro e a' w' ⟨s, h1, ⟨h2⟩⟩
  cases e with
  | exit id' =>
    simp only [Exit.inBlock] at h2 ⊢
    split at h2
    · rename_i hid; simp only [hid, if_true]; exact ⟨s, h1, h2⟩
    · rename_i hid; simp only [hid, if_false]; exact ⟨s, h1, h2⟩
  | _ => exact ⟨s, h1, h2⟩
theorem tri_cond {c : Operand} {x y : Code} {b : Bool} (hc : evo σ.env c = some (.bool b)) (ht : b = true → Tri P Γ x K σ) (hf : b = false → Tri P Γ y K σ) :
    Tri P Γ (.cond c x y) K σ := by
  refine ⟨fun a w hs => ?_⟩
  have he := hs.evo hc
  cases b
  · exact wp_cond_false he ((hf rfl).run a w hs)
  · exact wp_cond_true he ((ht rfl).run a w hs)
theorem tri_cond_t {c : Operand} {x y : Code} (hc : evo σ.env c = some (.bool true)) (h : Tri P Γ x K σ) : Tri P Γ (.cond c x y) K σ :=
  ⟨fun a w hs => wp_cond_true (hs.evo hc) (h.run a w hs)⟩
theorem tri_cond_f {c : Operand} {x y : Code} (hc : evo σ.env c = some (.bool false)) (h : Tri P Γ y K σ) : Tri P Γ (.cond c x y) K σ :=
  ⟨fun a w hs => wp_cond_false (hs.evo hc) (h.run a w hs)⟩

/-- A state may forget. -/
structure Sub (σ σ' : Sy) : Prop where
  env : ∀ t v, look σ'.env t = some v → look σ.env t = some v
  hp : ∃ r, σ.hp.Perm (σ'.hp ++ r)
  G : σ.G = σ'.G
theorem St.sub {a : Act} {w : World} {σ' : Sy} (h : St Γ σ a w) (s : Sub σ σ') : St Γ σ' a w := by
  obtain ⟨r, hr⟩ := s.hp
  exact ⟨h.size, h.nod, fun t v ht => h.env t v (s.env t v ht), by rw [← s.G]; exact (h.res.perm hr).left⟩
theorem tri_sub {c : Code} {σ' : Sy} (s : Sub σ σ') (h : Tri P Γ c K σ') : Tri P Γ c K σ := ⟨fun a w hs => h.run a w (hs.sub s)⟩
/-- What is known of a state besides. -/
theorem tri_ghost {c : Code} {X : Sy → Prop} (hx : ∀ a w, St Γ σ a w → ∃ σ', St Γ σ' a w ∧ X σ') (h : ∀ σ', X σ' → Tri P Γ c K σ') : Tri P Γ c K σ :=
  ⟨fun a w hs => let ⟨σ', h1, h2⟩ := hx a w hs; (h σ' h2).run a w h1⟩

structure loopK (K : Po) (Inv : Nat → Sy → Prop) (m : Nat) (e : Exit) (σ : Sy) : Prop where
  run : match e with
    | .normal => ∃ m' σ', m' < m ∧ Sub σ σ' ∧ Inv m' σ'
    | e => K e σ
theorem tri_loop {c : Code} (Inv : Nat → Sy → Prop) (m : Nat) {σ' : Sy} (hsub : Sub σ σ') (h0 : Inv m σ') (step : ∀ m σ, Inv m σ → Tri P Γ c (loopK K Inv m) σ) :
    Tri P Γ (.loop c) K σ := by
  refine ⟨fun a w hs => ?_⟩
  let μ : Act → World → Nat := fun a w => Classical.epsilon fun m => (∃ σ, St Γ σ a w ∧ Inv m σ) ∧ ∀ k, (∃ σ, St Γ σ a w ∧ Inv k σ) → m ≤ k
  have hμ : ∀ a w, (∃ m σ, St Γ σ a w ∧ Inv m σ) → (∃ σ, St Γ σ a w ∧ Inv (μ a w) σ) ∧ ∀ k, (∃ σ, St Γ σ a w ∧ Inv k σ) → μ a w ≤ k := by
    intro a w ⟨m, hm⟩
    have : ∃ m, (∃ σ, St Γ σ a w ∧ Inv m σ) ∧ ∀ k, (∃ σ, St Γ σ a w ∧ Inv k σ) → m ≤ k := by
      induction m using Nat.strongRecOn with
      | _ m ih =>
        by_cases hh : ∃ k, k < m ∧ ∃ σ, St Γ σ a w ∧ Inv k σ
        · obtain ⟨k, hk, hs⟩ := hh; exact ih k hk hs
        · exact ⟨m, hm, fun k hk => Nat.le_of_not_lt fun hlt => hh ⟨k, hlt, hk⟩⟩
    exact Classical.epsilon_spec this
  refine wp_loop (fun a w => ∃ m σ, St Γ σ a w ∧ Inv m σ) μ ⟨m, σ', hs.sub hsub, h0⟩ ?_
  intro a w hI
  obtain ⟨⟨σ1, hs1, hi1⟩, _⟩ := hμ a w hI
  refine wp_mono ((step _ σ1 hi1).run a w hs1) ?_
  rintro e a' w' ⟨s, h1, ⟨h2⟩⟩
  cases e with
  | normal =>
    obtain ⟨m', σ2, hlt, hsb, hinv⟩ := h2
    refine ⟨⟨m', σ2, h1.sub hsb, hinv⟩, Nat.lt_of_le_of_lt ?_ hlt⟩
    exact (hμ a' w' ⟨m', σ2, h1.sub hsb, hinv⟩).2 m' ⟨σ2, h1.sub hsb, hinv⟩
  | _ => exact ⟨s, h1, h2⟩

structure loopN {ι : Type} (K : Po) (S : ι → Sy) (φ : ι → Prop) (μ : ι → Nat) (i : ι) (e : Exit) (σ : Sy) : Prop where
  run : match e with
    | .normal => ∃ j, φ j ∧ μ j < μ i ∧ Sub σ (S j)
    | e => K e σ
/-- A loop whose head always has one shape: S i, where φ i holds; μ falls. -/
theorem tri_loopN {ι : Type} {c : Code} (S : ι → Sy) (φ : ι → Prop) (μ : ι → Nat) (i0 : ι) (hsub : Sub σ (S i0)) (h0 : φ i0) (step : ∀ i, φ i → Tri P Γ c (loopN K S φ μ i) (S i)) :
    Tri P Γ (.loop c) K σ := by
  refine tri_loop (fun m σ => ∃ i, φ i ∧ m = μ i ∧ σ = S i) (μ i0) hsub ⟨i0, h0, rfl, rfl⟩ ?_
  rintro m σ ⟨i, hi, rfl, rfl⟩
  refine tri_mono (step i hi) ?_
  rintro e σ ⟨h⟩
  cases e with
  | normal =>
    obtain ⟨j, h1, h2, h3⟩ := h
    exact ⟨⟨μ j, S j, h2, h3, j, h1, rfl, rfl⟩⟩
  | _ => exact ⟨h⟩
theorem nrm_loopN {ι : Type} {S : ι → Sy} {φ : ι → Prop} {μ : ι → Nat} {i : ι} {σ : Sy} (j : ι) (hs : Sub σ (S j)) (h : φ j) (hlt : μ j < μ i) : loopN K S φ μ i .normal σ := ⟨j, h, hlt, hs⟩
theorem ret_loopN {ι : Type} {S : ι → Sy} {φ : ι → Prop} {μ : ι → Nat} {i : ι} {σ : Sy} (h : K .ret σ) : loopN K S φ μ i .ret σ := ⟨h⟩
theorem ext_loopN {ι : Type} {S : ι → Sy} {φ : ι → Prop} {μ : ι → Nat} {i : ι} {σ : Sy} {id : Nat} (h : K (.exit id) σ) : loopN K S φ μ i (.exit id) σ := ⟨h⟩
theorem np_loopN {ι : Type} {S : ι → Sy} {φ : ι → Prop} {μ : ι → Nat} {i : ι} (h : ∀ c σ, ¬ K (.panic c) σ) : ∀ c σ, ¬ loopN K S φ μ i (.panic c) σ := fun c σ hk => h c σ hk.run

end rules
end Gw
end Go.Proofs.Ytlefgfdhlblahaa
