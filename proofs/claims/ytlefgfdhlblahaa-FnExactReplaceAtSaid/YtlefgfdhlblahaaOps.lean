/-
  What one operation does to a state, and how a list of operations is walked: in the order of the text, or in whatever order a region draws.
-/
import Derived.Test.YtlefgfdhlblahaaBase
import Derived.OrdersHeld
namespace Go.Proofs.Ytlefgfdhlblahaa
open Go Go.RowKit
namespace Gw

def EnvOk (e : Env) (a : Act) : Prop := ∀ t v, look e t = some v → a.tmps.getD t undef = v

theorem EnvOk.evo {e : Env} {a : Act} (h : EnvOk e a) {x : Operand} {v : Value} (hx : evo e x = some v) : a.eval x = v := by
  cases x with
  | tmp t => exact h t v hx
  | const c => simpa [Gw.evo, Act.eval] using hx
  | global g => simpa [Gw.evo, Act.eval] using hx
  | func f => simpa [Gw.evo, Act.eval] using hx

theorem EnvOk.evl {e : Env} {a : Act} (h : EnvOk e a) : ∀ {xs : List Operand} {vs : List Value}, evl e xs = some vs → xs.map a.eval = vs
  | [], vs, hx => by simp [Gw.evl] at hx; subst hx; rfl
  | x :: r, vs, hx => by
    simp only [Gw.evl] at hx
    split at hx
    · rename_i v hv
      split at hx
      · rename_i us hu
        simp at hx; subst hx
        simp [h.evo hv, EnvOk.evl h hu]
      · cases hx
    · cases hx

def wantG (ops : Array Oper) (e : Env) : Option (Nat × Bool) → Option Bool
  | none => some true
  | some (j, want) => match (ops[j]?).bind (·.dst) with
    | some t => match look e t with
      | some (.bool b) => some (b == want)
      | some (.tuple _) => some false
      | _ => none
    | none => none

theorem wantG_ok {ops : Array Oper} {e : Env} {a : Act} (h : EnvOk e a) {d : Option Tmp} {op : Op} {ty : TypeId} {pos : String} {af : Array Edge} {gd : Option (Nat × Bool)} {r : Bool}
    (hg : wantG ops e gd = some r) : Region.wanted ⟨d, op, ty, pos, af, gd⟩ (yielded ops a.tmps) = r := by
  cases gd with
  | none => simp [wantG] at hg; subst hg; rfl
  | some jw =>
    obtain ⟨j, want⟩ := jw
    simp only [wantG] at hg
    split at hg
    · rename_i t ht
      split at hg
      · rename_i b hb
        simp at hg; subst hg
        have hv := h t _ hb
        have hs : a.tmps[t]? = some (.bool b) := by
          cases hx : a.tmps[t]? with
          | none => simp [Array.getD_eq_getD_getElem?, hx, undef] at hv
          | some u => simp [Array.getD_eq_getD_getElem?, hx] at hv; rw [hv]
        simp [Region.wanted, yielded, ht, hs]
      · rename_i b hb
        simp at hg; subst hg
        have hv := h t _ hb
        cases hx : a.tmps[t]? with
        | none => simp [Region.wanted, yielded, ht, hx]
        | some u =>
          simp [Array.getD_eq_getD_getElem?, hx] at hv
          simp [Region.wanted, yielded, ht, hx, hv]
      · cases hg
    · cases hg

/-- The operation gives v and does nothing else, in whatever world. -/
structure PureOp (P : Program) (Γ : Ctx) (σ : Sy) (op : Op) (ty : TypeId) (v : Value) : Prop where
  run : ∀ a w0, St Γ σ a w0 → ∀ d pos af gd w, (execOp a.eval ⟨d, op, ty, pos, af, gd⟩).run P w = .ok (.value v) w

/-- The operation gives v, reading block b alone. -/
structure LoadOp (P : Program) (Γ : Ctx) (σ : Sy) (op : Op) (ty : TypeId) (b : Nat) (v : Value) : Prop where
  run : ∀ a w, St Γ σ a w → b < w.heap.size ∧ ∀ w', w'.heap[b]? = w.heap[b]? → ∀ d pos af gd, (execOp a.eval ⟨d, op, ty, pos, af, gd⟩).run P w' = .ok (.value v) w'

/-- The operation goes on to one of the states of K', writing no old block but those of mods. -/
structure StepOp (P : Program) (Γ : Ctx) (σ : Sy) (d : Option Tmp) (op : Op) (ty : TypeId) (mods : List Nat) (K' : Sy → Prop) : Prop where
  run : ∀ a w, St Γ σ a w → ∀ pos af gd (Q : Exit → Act → World → Prop) (next : Act → World → Prop),
    (∀ a' w' σ', St Γ σ' a' w' → Ext mods w w' → K' σ' → next a' w') → (⟨d, op, ty, pos, af, gd⟩ : Oper).wp P a w next Q

def wpL (P : Program) (ops : Array Oper) (Q : Exit → Act → World → Prop) : List Oper → Act → World → Prop
  | [], a, w => Q .normal a w
  | o :: r, a, w => if Region.wanted o (yielded ops a.tmps) then o.wp P a w (wpL P ops Q r) Q ∨ (o.asks P a w ∧ LetsOut Q) else wpL P ops Q r (a.put o.dst undef) w

theorem wpOps_of_wpL {P : Program} {ops : Array Oper} {Q : Exit → Act → World → Prop} : ∀ (os : List Oper) (is : List Nat) (a : Act) (w : World),
    is.map (ops[·]?) = os.map some → wpL P ops Q os a w → wpOps P ops Q is a w
  | [], [], _, _, _, h => h
  | [], _ :: _, _, _, hm, _ => by simp at hm
  | _ :: _, [], _, _, hm, _ => by simp at hm
  | o :: os, i :: is, a, w, hm, h => by
    simp only [List.map_cons, List.cons.injEq] at hm
    rw [wpOps_cons]
    unfold wpOp
    simp only [hm.1]
    simp only [wpL] at h
    split
    · rename_i hw
      simp only [hw, if_true] at h
      exact h.imp (Oper.wp_mono fun a w => wpOps_of_wpL os is a w hm.2) id
    · rename_i hw
      simp only [hw] at h
      exact wpOps_of_wpL os is _ w hm.2 h

structure TriL (P : Program) (Γ : Ctx) (ops : Array Oper) (rest : List Oper) (K : Po) (σ : Sy) : Prop where
  run : ∀ a w, St Γ σ a w → wpL P ops (lift Γ K) rest a w

section seq
variable {P : Program} {Γ : Ctx} {K : Po} {ops : Array Oper} {rest : List Oper} {env : Env} {hp : List Ent} {G : IM}
variable {op : Op} {ty : TypeId} {pos : String} {af : Array Edge} {gd : Option (Nat × Bool)}

theorem tri_region {id : Nat} {os : List Oper} {σ : Sy} (h : TriL P Γ ⟨os⟩ os K σ) : Tri P Γ (.region id ⟨os⟩ false) K σ := by
  refine ⟨fun a w hs => ?_⟩
  refine wp_region (wpOps_of_wpL os _ a w ?_ (h.run a w hs))
  apply List.ext_getElem?
  intro i
  by_cases hi : i < os.length
  · simp [hi]
  · simp [hi]

theorem seq_done {σ : Sy} (h : K .normal σ) : TriL P Γ ops [] K σ := ⟨fun _ _ hs => ⟨σ, hs, h⟩⟩

theorem seq_pure {d : Nat} {v : Value} (h : PureOp P Γ ⟨env, hp, G⟩ op ty v) (hw : wantG ops env gd = some true) (hd : Nat.blt d Γ.n = true)
    (k : TriL P Γ ops rest K ⟨(d, v) :: env, hp, G⟩) : TriL P Γ ops (⟨some d, op, ty, pos, af, gd⟩ :: rest) K ⟨env, hp, G⟩ := by
  refine ⟨fun a w hs => ?_⟩
  have he : EnvOk env a := hs.env
  simp only [wpL, wantG_ok he hw, if_true]
  refine .inl ?_
  simp only [Oper.wp, h.run a w hs, Oper.upon]
  exact k.run _ _ (hs.put d v (by simpa using hd) hs.res)

theorem seq_load {d b : Nat} {v : Value} (h : LoadOp P Γ ⟨env, hp, G⟩ op ty b v) (hw : wantG ops env gd = some true) (hd : Nat.blt d Γ.n = true)
    (k : TriL P Γ ops rest K ⟨(d, v) :: env, hp, G⟩) : TriL P Γ ops (⟨some d, op, ty, pos, af, gd⟩ :: rest) K ⟨env, hp, G⟩ := by
  refine ⟨fun a w hs => ?_⟩
  have he : EnvOk env a := hs.env
  simp only [wpL, wantG_ok he hw, if_true]
  refine .inl ?_
  simp only [Oper.wp, (h.run a w hs).2 w rfl, Oper.upon]
  exact k.run _ _ (hs.put d v (by simpa using hd) hs.res)

theorem seq_step {d : Option Nat} {mods : List Nat} {K' : Sy → Prop} {σ : Sy} (h : StepOp P Γ σ d op ty mods K') (hw : wantG ops σ.env gd = some true)
    (k : ∀ σ', K' σ' → TriL P Γ ops rest K σ') : TriL P Γ ops (⟨d, op, ty, pos, af, gd⟩ :: rest) K σ := by
  refine ⟨fun a w hs => ?_⟩
  have he : EnvOk σ.env a := hs.env
  simp only [wpL, wantG_ok he hw, if_true]
  exact .inl (h.run a w hs pos af gd _ _ fun a' w' σ' h1 _ h3 => (k σ' h3).run a' w' h1)

theorem seq_skip {d : Nat} (hw : wantG ops env gd = some false) (hd : Nat.blt d Γ.n = true)
    (k : TriL P Γ ops rest K ⟨(d, undef) :: env, hp, G⟩) : TriL P Γ ops (⟨some d, op, ty, pos, af, gd⟩ :: rest) K ⟨env, hp, G⟩ := by
  refine ⟨fun a w hs => ?_⟩
  have he : EnvOk env a := hs.env
  simp only [wpL, wantG_ok he hw, Bool.false_eq_true, if_false]
  exact k.run _ _ (hs.put d undef (by simpa using hd) hs.res)
theorem seq_skip0 (hw : wantG ops env gd = some false)
    (k : TriL P Γ ops rest K ⟨env, hp, G⟩) : TriL P Γ ops (⟨none, op, ty, pos, af, gd⟩ :: rest) K ⟨env, hp, G⟩ := by
  refine ⟨fun a w hs => ?_⟩
  have he : EnvOk env a := hs.env
  simp only [wpL, wantG_ok he hw, Bool.false_eq_true, if_false]
  exact k.run _ _ (hs.put_none undef hs.res)

/-- A truth value is decided on the spot. -/
theorem seq_bool {d : Nat} {p : Prop} [Decidable p] (h : PureOp P Γ ⟨env, hp, G⟩ op ty (.bool (decide p))) (hw : wantG ops env gd = some true) (hd : Nat.blt d Γ.n = true)
    (kt : p → TriL P Γ ops rest K ⟨(d, .bool true) :: env, hp, G⟩) (kf : ¬ p → TriL P Γ ops rest K ⟨(d, .bool false) :: env, hp, G⟩) :
    TriL P Γ ops (⟨some d, op, ty, pos, af, gd⟩ :: rest) K ⟨env, hp, G⟩ := by
  by_cases hpp : p
  · exact seq_pure (by rw [decide_eq_true hpp] at h; exact h) hw hd (kt hpp)
  · exact seq_pure (by rw [decide_eq_false hpp] at h; exact h) hw hd (kf hpp)

end seq

/- Regions that draw their order. -/
structure HRec where
  i : Nat
  b : Nat
  o : Obj

/-- Does operation j wait for operation i, within n steps? -/
def depN (ops : Array Oper) : Nat → Nat → Nat → Bool
  | 0, _, _ => false
  | n + 1, j, i => match ops[j]? with | some oj => oj.after.any (fun e => Region.binds .any e && (e.on == i || depN ops n e.on i)) | none => false
def depb (ops : Array Oper) (j i : Nat) : Bool := depN ops 4 j i
/-- What has come up has come up behind all that it waits for. -/
def DC (ops : Array Oper) (listed : Array Bool) : Prop := ∀ j, listed.getD j false = true → ∀ o, ops[j]? = some o → ∀ e ∈ o.after, Region.binds .any e = true → listed.getD e.on false = true
theorem DC.dep {ops : Array Oper} {listed : Array Bool} (h : DC ops listed) : ∀ (n j i : Nat), (∀ o, ops[j]? = some o → ∀ e ∈ o.after, Region.binds .any e = true → listed.getD e.on false = true) → depN ops n j i = true → listed.getD i false = true
  | 0, _, _, _, hd => by simp [depN] at hd
  | n + 1, j, i, hj, hd => by
    simp only [depN] at hd
    cases ho : ops[j]? with
    | none => simp [ho] at hd
    | some o =>
      simp only [ho] at hd
      obtain ⟨e, he, hb⟩ := Array.any_eq_true'.1 hd
      simp only [Bool.and_eq_true, Bool.or_eq_true, beq_iff_eq] at hb
      have hl := hj o ho e he hb.1
      rcases hb.2 with h1 | h1
      · rw [← h1]; exact hl
      · exact h.dep n e.on i (h e.on hl) h1
theorem DC.step {ops : Array Oper} {listed : Array Bool} (h : DC ops listed) {j : Nat} (hr : j ∈ Region.ready .any ops listed) : DC ops (listed.setIfInBounds j true) := by
  intro k hk o ho e he hb
  refine getD_set_true ?_
  by_cases hkj : j = k
  · subst hkj
    obtain ⟨_, o', ho', hall⟩ := mem_ready.1 hr
    rw [ho] at ho'; cases ho'
    exact hall e he hb
  · rw [getD_set_ne false hkj] at hk
    exact h k hk o ho e he hb
def Hn (ops : Array Oper) (j : Nat) (H : List HRec) : List HRec := H.filter fun h => !depb ops j h.i

def wpG (P : Program) (ops : Array Oper) (Q : Exit → Act → World → Prop) : Nat → List HRec → Array Bool → Act → World → Prop
  | 0, _, listed, a, w => Region.ready .any ops listed = [] ∧ Q .normal a w
  | fuel + 1, H, listed, a, w =>
    (Region.ready .any ops listed = [] → Q .normal a w) ∧
    ∀ j ∈ Region.ready .any ops listed, wpOp P ops Q j (fun a' w' => (∀ h ∈ Hn ops j H, w'.heap[h.b]? = some h.o) ∧ wpG P ops Q fuel (Hn ops j H) (listed.setIfInBounds j true) a' w') a w

section draw
variable {P : Program} {ops : Array Oper} {Q : Exit → Act → World → Prop}

theorem wpAny_of_wpG : ∀ (fuel : Nat) (H : List HRec) (listed : Array Bool) (a : Act) (w : World), wpG P ops Q fuel H listed a w → wpAny P .any ops Q fuel listed a w
  | 0, _, _, _, _, h => h
  | fuel + 1, _, _, _, _, h => ⟨h.1, fun j hj => wpOp_mono (fun a' w' h' => wpAny_of_wpG fuel _ _ a' w' h'.2) (h.2 j hj)⟩

theorem Hn_sub {j : Nat} {H H' : List HRec} (h : ∀ x ∈ H', x ∈ H) : ∀ x ∈ Hn ops j H', x ∈ Hn ops j H := by
  intro x hx
  simp only [Hn, List.mem_filter] at hx ⊢
  exact ⟨h x hx.1, hx.2⟩
theorem wpG_drop : ∀ (fuel : Nat) {H H' : List HRec} (_ : ∀ x ∈ H', x ∈ H) (listed : Array Bool) (a : Act) (w : World), wpG P ops Q fuel H listed a w → wpG P ops Q fuel H' listed a w
  | 0, _, _, _, _, _, _, h => h
  | fuel + 1, _, _, hs, _, _, _, h => ⟨h.1, fun j hj => wpOp_mono (fun _ _ h' => ⟨fun x hx => h'.1 x (Hn_sub hs x hx), wpG_drop fuel (Hn_sub hs) _ _ _ h'.2⟩) (h.2 j hj)⟩

theorem wpG_first {i : Nat} {oi : Oper} {v : Value} {S : World → Prop} {Hx : List HRec} (hi : ops[i]? = some oi) (hsel : ∀ (j : Nat) (o : Oper) cs b, ops[j]? = some o → o.op ≠ .select cs b)
    (hQ : ∀ c a w, Q (.panic c) (a.put oi.dst v) w → Q (.panic c) a w) (hxi : ∀ h ∈ Hx, h.i = i) (hxs : ∀ w : World, (∀ h ∈ Hx, w.heap[h.b]? = some h.o) → S w) :
    ∀ (fuel : Nat) (H : List HRec) (listed : Array Bool) (a : Act) (w : World), DC ops listed →
      (∀ j oj, ops[j]? = some oj → j ≠ i → listed.getD j true = false → (∀ e ∈ oj.after, Region.binds .any e = true → e.on ≠ i) → oi.apart ops oj = true) →
      i ∈ Region.ready .any ops listed → YieldsIf P ops S oi v a →
      wpG P ops Q fuel (Hx ++ H) (listed.setIfInBounds i true) (a.put oi.dst v) w → (∀ h ∈ Hx ++ H, w.heap[h.b]? = some h.o) → wpG P ops Q (fuel + 1) H listed a w := by
  intro fuel
  induction fuel with
  | zero =>
    intro H listed a w _ _ hr hy HH hH
    refine ⟨fun h => (by rw [h] at hr; cases hr), fun j hj => ?_⟩
    by_cases hji : j = i
    · subst hji
      exact hy.wpOp hi (hxs w fun h hh => hH h (List.mem_append_left _ hh)) ⟨fun h hh => hH h (List.mem_append_right _ (List.mem_filter.1 hh).1), HH⟩
    · have := ready_mono hj hji
      rw [HH.1] at this
      cases this
  | succ fuel ih =>
    intro H listed a w hdc hfree hr hy HH hH
    refine ⟨fun h => (by rw [h] at hr; cases hr), fun j hj => ?_⟩
    by_cases hji : j = i
    · subst hji
      refine hy.wpOp hi (hxs w fun h hh => hH h (List.mem_append_left _ hh)) ⟨fun h hh => hH h (List.mem_append_right _ (List.mem_filter.1 hh).1), ?_⟩
      exact wpG_drop _ (fun x hx => List.mem_append_right _ (List.mem_filter.1 hx).1) _ _ _ HH
    · have h1 := HH.2 j (ready_mono hj hji)
      obtain ⟨hjun, oj, hoj, hall⟩ := mem_ready.1 hj
      have hnot : ∀ e ∈ oj.after, Region.binds .any e = true → e.on ≠ i := fun e he hb heq => by
        have h1 := hall e he hb
        have h0 := (mem_ready.1 hr).1
        rw [heq] at h1
        rcases Nat.lt_or_ge i listed.size with h' | h'
        · simp [h'] at h0 h1; rw [h0] at h1; cases h1
        · simp [Array.getElem?_eq_none h'] at h1
      have hnodep : depb ops j i = false := by
        cases hdd : depb ops j i with
        | false => rfl
        | true =>
          have h1 := hdc.dep 4 j i (fun o ho e he hb => by rw [hoj] at ho; cases ho; exact hall e he hb) hdd
          have h0 := (mem_ready.1 hr).1
          rcases Nat.lt_or_ge i listed.size with h' | h'
          · simp [h'] at h0 h1; rw [h0] at h1; cases h1
          · simp [Array.getElem?_eq_none h'] at h1
      have hHn : Hn ops j (Hx ++ H) = Hx ++ Hn ops j H := by
        simp only [Hn, List.filter_append]
        congr 1
        rw [List.filter_eq_self]
        intro x hx
        rw [hxi x hx, hnodep]; rfl
      rw [hHn] at h1
      have h2 := wpOp_putIf hoj (hfree j oj hoj hji hjun hnot) (fun cs b => hsel i oi cs b hi) (fun cs b => hsel j oj cs b hoj) hQ hy h1
      have hfree' : ∀ k ok, ops[k]? = some ok → k ≠ i → (listed.setIfInBounds j true).getD k true = false →
          (∀ e ∈ ok.after, Region.binds .any e = true → e.on ≠ i) → oi.apart ops ok = true := fun k ok hk hki hun hno => by
        refine hfree k ok hk hki ?_ hno
        by_cases hjk : j = k
        · subst hjk; exact hjun
        · rw [getD_set_ne true hjk] at hun; exact hun
      refine wpOp_mono (fun a' w' h3 => ?_) h2
      obtain ⟨hy', hkeeps, hrest⟩ := h3
      refine ⟨fun h hh => hkeeps h (List.mem_append_right _ hh), ?_⟩
      refine ih (Hn ops j H) (listed.setIfInBounds j true) a' w' (hdc.step hj) hfree' (ready_mono hr (Ne.symm hji)) hy' ?_ hkeeps
      rw [Array.setIfInBounds_comm _ _ hji]
      exact hrest
end draw

/-- What is still to come, in whatever order; H: the loads that were taken first, with the block that each read. -/
structure AnyL (P : Program) (Γ : Ctx) (ops : Array Oper) (K : Po) (H : List (Nat × Nat)) (fuel : Nat) (listed : List Bool) (σ : Sy) : Prop where
  run : ∀ a w, St Γ σ a w → ∀ Hs : List HRec, (Hs.map fun h => (h.i, h.b)) = H → (∀ h ∈ Hs, w.heap[h.b]? = some h.o) → DC ops listed.toArray → wpG P ops (lift Γ K) fuel Hs listed.toArray a w

def noPanic (K : Po) : Prop := ∀ c σ, ¬ K (.panic c) σ

section anyrules
variable {P : Program} {Γ : Ctx} {K : Po} {ops : Array Oper} {H : List (Nat × Nat)} {env : Env} {hp : List Ent} {G : IM} {fuel : Nat} {listed listed' : List Bool}
variable {op : Op} {ty : TypeId} {pos : String} {af : Array Edge} {gd : Option (Nat × Bool)}

theorem St.drawn {σ : Sy} {a : Act} {w : World} (h : St Γ σ a w) (n : Nat) : St Γ σ a { w with drawn := n } := by
  have e : ∀ k : Nat, ({ w with drawn := n } : World).heap[k]? = w.heap[k]? := fun _ => rfl
  refine ⟨h.size, h.nod, h.env, ⟨⟨h.res.own.inn, fun x hx => Ent.ok_ext (h.res.own.ok x hx) fun b _ => e b, h.res.own.nodup, h.res.own.disj⟩, ⟨h.res.ext.os, h.res.ext.tape, h.res.ext.output, h.res.ext.size, h.res.ext.block⟩, h.res.le, h.res.fresh, h.res.ofresh, h.res.fz⟩⟩

theorem np_loopN' {ι : Type} {S : ι → Sy} {φ : ι → Prop} {μ : ι → Nat} {i : ι} (h : noPanic K) : noPanic (loopN K S φ μ i) := np_loopN h

theorem tri_draw {id : Nat} {σ : Sy} (hm : P.follows .mixedOrders = true) {n : Nat} (hn : ops.size = n) (h : AnyL P Γ ops K [] n (List.replicate n false) σ) : Tri P Γ (.region id ops true) K σ := by
  refine ⟨fun a w hs => ?_⟩
  refine wp_region_any hm ?_
  rw [hn]
  have := h.run a { w with drawn := w.drawn + 1 } (hs.drawn _) [] rfl (by simp) (by
    intro j hj
    exfalso
    simp only [List.toArray_replicate] at hj
    by_cases hjn : j < n
    · simp [hjn] at hj
    · simp [hjn] at hj)
  have h2 := wpAny_of_wpG _ _ _ _ _ this
  simpa using h2

theorem any_done {σ : Sy} (hr : Region.ready .any ops listed.toArray = []) (h : K .normal σ) : AnyL P Γ ops K H fuel listed σ := by
  refine ⟨fun a w hs Hs _ _ _ => ?_⟩
  cases fuel with
  | zero => exact ⟨hr, σ, hs, h⟩
  | succ f => exact ⟨fun _ => ⟨σ, hs, h⟩, by rw [hr]; simp⟩

/-- What a quiet operation asks of the region: it may come up now, and what does not wait for it is apart from it. -/
def quietOk (ops : Array Oper) (listed : List Bool) (i : Nat) : Bool :=
  Region.noSelect ops && Region.free .any ops listed.toArray i && (Region.ready .any ops listed.toArray).contains i

theorem any_take {i : Nat} {d : Option Nat} {v : Value} {Hx : List (Nat × Nat)} (hi : ops[i]? = some ⟨d, op, ty, pos, af, gd⟩) (hK : noPanic K) {σ σ' : Sy}
    (hxi : ∀ h ∈ Hx, h.1 = i)
    (hy : ∀ a w, St Γ σ a w → ∃ Hr : List HRec, (Hr.map fun h => (h.i, h.b)) = Hx ∧ (∀ h ∈ Hr, w.heap[h.b]? = some h.o) ∧ ∃ S : World → Prop, (∀ w : World, (∀ h ∈ Hr, w.heap[h.b]? = some h.o) → S w) ∧ YieldsIf P ops S ⟨d, op, ty, pos, af, gd⟩ v a)
    (hput : ∀ a w, St Γ σ a w → St Γ σ' (a.put d v) w)
    (hq : quietOk ops listed i = true) (hl : listed.set i true = listed')
    (k : AnyL P Γ ops K (Hx ++ H) fuel listed' σ') : AnyL P Γ ops K H (fuel + 1) listed σ := by
  refine ⟨fun a w hs Hs hHs hall hdc => ?_⟩
  simp only [quietOk, Bool.and_eq_true] at hq
  obtain ⟨⟨hs1, hs2⟩, hs3⟩ := hq
  obtain ⟨Hr, hr1, hr2, S', hS', hyi⟩ := hy a w hs
  have hall' : ∀ h ∈ Hr ++ Hs, w.heap[h.b]? = some h.o := by
    intro x hx
    rcases List.mem_append.1 hx with hx | hx
    · exact hr2 x hx
    · exact hall x hx
  refine wpG_first hi (Region.noSelect_spec hs1) (by rintro c a w ⟨σ, _, hh⟩; exact absurd hh (hK c σ)) (Hx := Hr) ?_ hS' fuel Hs listed.toArray a w hdc
    (Region.free_spec hi hs2) (by simpa using hs3) hyi ?_ hall'
  · intro h hh
    exact hxi (h.i, h.b) (by rw [← hr1]; exact List.mem_map.2 ⟨h, hh, rfl⟩)
  · have := k.run (a.put d v) w (hput a w hs) (Hr ++ Hs) (by simp [hr1, hHs]) hall' (by rw [← hl]; simpa using hdc.step (j := i) (by simpa using hs3))
    rw [← hl] at this
    simpa using this

theorem any_load {i d b : Nat} {v : Value} (hi : ops[i]? = some ⟨some d, op, ty, pos, af, gd⟩) (hK : noPanic K)
    (h : LoadOp P Γ ⟨env, hp, G⟩ op ty b v) (hw : wantG ops env gd = some true) (hq : quietOk ops listed i = true) (hd : Nat.blt d Γ.n = true)
    (hl : listed.set i true = listed')
    (k : AnyL P Γ ops K ((i, b) :: H) fuel listed' ⟨(d, v) :: env, hp, G⟩) : AnyL P Γ ops K H (fuel + 1) listed ⟨env, hp, G⟩ := by
  refine any_take (Hx := [(i, b)]) hi hK (by simp) ?_ (fun a w hs => hs.put d v (by simpa using hd) hs.res) hq hl k
  intro a w hs
  obtain ⟨hb, hrun⟩ := h.run a w hs
  have hob : w.heap[b]? = some w.heap[b] := Array.getElem?_eq_getElem hb
  refine ⟨[⟨i, b, w.heap[b]⟩], rfl, by simp, fun w' => w'.heap[b]? = some w.heap[b], fun w' h => h _ List.mem_cons_self, .inl ⟨wantG_ok hs.env hw, fun w' hw' => hrun w' (by rw [hw', hob]) _ _ _ _⟩⟩

theorem any_pure {i d : Nat} {v : Value} (hi : ops[i]? = some ⟨some d, op, ty, pos, af, gd⟩) (hK : noPanic K)
    (h : PureOp P Γ ⟨env, hp, G⟩ op ty v) (hw : wantG ops env gd = some true) (hq : quietOk ops listed i = true) (hd : Nat.blt d Γ.n = true)
    (hl : listed.set i true = listed')
    (k : AnyL P Γ ops K H fuel listed' ⟨(d, v) :: env, hp, G⟩) : AnyL P Γ ops K H (fuel + 1) listed ⟨env, hp, G⟩ := by
  refine any_take (Hx := []) hi hK (by simp) ?_ (fun a w hs => hs.put d v (by simpa using hd) hs.res) hq hl k
  intro a w hs
  exact ⟨[], rfl, by simp, fun _ => True, fun _ _ => trivial, .inl ⟨wantG_ok hs.env hw, fun w' _ => h.run a w hs _ _ _ _ w'⟩⟩

theorem any_skip {i d : Nat} (hi : ops[i]? = some ⟨some d, op, ty, pos, af, gd⟩) (hK : noPanic K)
    (hw : wantG ops env gd = some false) (hq : quietOk ops listed i = true) (hd : Nat.blt d Γ.n = true)
    (hl : listed.set i true = listed')
    (k : AnyL P Γ ops K H fuel listed' ⟨(d, undef) :: env, hp, G⟩) : AnyL P Γ ops K H (fuel + 1) listed ⟨env, hp, G⟩ := by
  refine any_take (Hx := []) hi hK (by simp) ?_ (fun a w hs => hs.put d undef (by simpa using hd) hs.res) hq hl k
  intro a w hs
  exact ⟨[], rfl, by simp, fun _ => True, fun _ _ => trivial, .inr ⟨wantG_ok hs.env hw, rfl⟩⟩

theorem any_bool {i d : Nat} {p : Prop} [Decidable p] (hi : ops[i]? = some ⟨some d, op, ty, pos, af, gd⟩) (hK : noPanic K)
    (h : PureOp P Γ ⟨env, hp, G⟩ op ty (.bool (decide p))) (hw : wantG ops env gd = some true) (hq : quietOk ops listed i = true) (hd : Nat.blt d Γ.n = true)
    (hl : listed.set i true = listed')
    (kt : p → AnyL P Γ ops K H fuel listed' ⟨(d, .bool true) :: env, hp, G⟩) (kf : ¬ p → AnyL P Γ ops K H fuel listed' ⟨(d, .bool false) :: env, hp, G⟩) :
    AnyL P Γ ops K H (fuel + 1) listed ⟨env, hp, G⟩ := by
  by_cases hpp : p
  · exact any_pure hi hK (by rw [decide_eq_true hpp] at h; exact h) hw hq hd hl (kt hpp)
  · exact any_pure hi hK (by rw [decide_eq_false hpp] at h; exact h) hw hq hd hl (kf hpp)

/-- One that may come up now. -/
structure One (P : Program) (Γ : Ctx) (ops : Array Oper) (K : Po) (H : List (Nat × Nat)) (fuel : Nat) (listed : List Bool) (j : Nat) (σ : Sy) : Prop where
  run : ∀ a w, St Γ σ a w → ∀ Hs : List HRec, (Hs.map fun h => (h.i, h.b)) = H → (∀ h ∈ Hs, w.heap[h.b]? = some h.o) → DC ops listed.toArray → j ∈ Region.ready .any ops listed.toArray →
    wpOp P ops (lift Γ K) j (fun a' w' => (∀ h ∈ Hn ops j Hs, w'.heap[h.b]? = some h.o) ∧ wpG P ops (lift Γ K) fuel (Hn ops j Hs) (listed.toArray.setIfInBounds j true) a' w') a w

theorem any_one {j : Nat} {σ : Sy} (hr : Region.ready .any ops listed.toArray = [j]) (h : One P Γ ops K H fuel listed j σ) : AnyL P Γ ops K H (fuel + 1) listed σ := by
  refine ⟨fun a w hs Hs hHs hall hdc => ?_⟩
  refine ⟨fun h0 => (by rw [hr] at h0; cases h0), fun k hk => ?_⟩
  have hk' := hk
  rw [hr] at hk
  simp at hk; subst hk
  exact h.run a w hs Hs hHs hall hdc hk'
theorem any_two {j j' : Nat} {σ : Sy} (hr : Region.ready .any ops listed.toArray = [j, j']) (h : One P Γ ops K H fuel listed j σ) (h' : One P Γ ops K H fuel listed j' σ) : AnyL P Γ ops K H (fuel + 1) listed σ := by
  refine ⟨fun a w hs Hs hHs hall hdc => ?_⟩
  refine ⟨fun h0 => (by rw [hr] at h0; cases h0), fun k hk => ?_⟩
  have hk' := hk
  rw [hr] at hk
  simp at hk
  rcases hk with rfl | rfl
  · exact h.run a w hs Hs hHs hall hdc hk'
  · exact h'.run a w hs Hs hHs hall hdc hk'

/-- A step that leaves alone the blocks that the loads taken first have read. -/
theorem one_step {j : Nat} {d : Option Nat} {mods : List Nat} {K' : Sy → Prop} {σ : Sy} (hi : ops[j]? = some ⟨d, op, ty, pos, af, gd⟩)
    (h : StepOp P Γ σ d op ty mods K') (hw : wantG ops σ.env gd = some true) (hl : listed.set j true = listed')
    (hm : ∀ p ∈ H, depb ops j p.1 = true ∨ p.2 ∉ mods)
    (k : ∀ σ', K' σ' → AnyL P Γ ops K (H.filter fun p => !depb ops j p.1) fuel listed' σ') : One P Γ ops K H fuel listed j σ := by
  refine ⟨fun a w hs Hs hHs hall hdc hrd => ?_⟩
  unfold wpOp
  simp only [hi, wantG_ok hs.env hw, if_true]
  refine .inl (h.run a w hs pos af gd _ _ fun a' w' σ' h1 h2 h3 => ?_)
  have hkeep : ∀ h ∈ Hn ops j Hs, w'.heap[h.b]? = some h.o := by
    intro x hx
    obtain ⟨hx1, hx2⟩ := List.mem_filter.1 hx
    have hp : (x.i, x.b) ∈ H := by rw [← hHs]; exact List.mem_map.2 ⟨x, hx1, rfl⟩
    have ho := hall x hx1
    rcases hm _ hp with h | h
    · simp [h] at hx2
    · rw [h2.block x.b (lt_of_some ho) h, ho]
  refine ⟨hkeep, ?_⟩
  have := (k σ' h3).run a' w' h1 (Hn ops j Hs) (by
    subst hHs
    simp [Hn, List.filter_map, Function.comp_def]) hkeep (by rw [← hl]; simpa using hdc.step hrd)
  rw [← hl] at this
  simpa using this

theorem one_skip0 {j : Nat} (hi : ops[j]? = some ⟨none, op, ty, pos, af, gd⟩) (hw : wantG ops env gd = some false) (hl : listed.set j true = listed')
    (k : AnyL P Γ ops K (H.filter fun p => !depb ops j p.1) fuel listed' ⟨env, hp, G⟩) : One P Γ ops K H fuel listed j ⟨env, hp, G⟩ := by
  refine ⟨fun a w hs Hs hHs hall hdc hrd => ?_⟩
  unfold wpOp
  simp only [hi, wantG_ok hs.env hw, Bool.false_eq_true, if_false]
  have hkeep : ∀ h ∈ Hn ops j Hs, w.heap[h.b]? = some h.o := fun x hx => hall x (List.mem_filter.1 hx).1
  refine ⟨hkeep, ?_⟩
  have := k.run _ w (hs.put_none undef hs.res) (Hn ops j Hs) (by
    subst hHs
    simp [Hn, List.filter_map, Function.comp_def]) hkeep (by rw [← hl]; simpa using hdc.step hrd)
  rw [← hl] at this
  simpa using this

end anyrules
end Gw
end Go.Proofs.Ytlefgfdhlblahaa
