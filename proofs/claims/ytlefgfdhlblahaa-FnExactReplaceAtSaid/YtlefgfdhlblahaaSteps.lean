/-
  The operations that make or write memory, calls by contract, and the start and the end of a call.
-/
import Derived.Test.YtlefgfdhlblahaaLaws
namespace Go.Proofs.Ytlefgfdhlblahaa
open Go Go.RowKit
namespace Gw

section steps
variable {P : Program} {Γ : Ctx} {env : Env} {hp : List Ent} {G : IM} {ty : TypeId}

theorem alloc_heap (w : World) (o : Obj) : (w.alloc o).heap = w.heap.push o := rfl

/-- A new block of cells. -/
theorem res_new (w : World) (hin : IMin G w) (cs : List Value) (e : TypeId) : Res [] G w [.blk w.heap.size cs] G (w.alloc (.cells cs.toArray e)) := by
  have hb : (w.alloc (.cells cs.toArray e)).heap[w.heap.size]? = some (.cells cs.toArray e (0, 0)) := heap_alloc_new w _
  have hold : ∀ k, k < w.heap.size → (w.alloc (.cells cs.toArray e)).heap[k]? = w.heap[k]? := fun k hk => Below.heap_alloc w _ k hk
  refine ⟨⟨?_, ?_, by simp [Fp, Ent.fp], ?_⟩, ⟨rfl, rfl, rfl, by simp, fun k hk _ => hold k hk⟩, IMle.refl _, fun _ _ h => .inl h, ?_, fun b l h h0 => absurd h (by rw [h0]; simp)⟩
  · intro b l hg
    obtain ⟨e', f', h'⟩ := hin b l hg
    exact ⟨e', f', by rw [hold b (lt_of_some h')]; exact h'⟩
  · intro x hx
    simp at hx; subst hx
    exact ⟨e, hb⟩
  · intro b hb
    simp [Fp, Ent.fp] at hb; subst hb
    cases hg : G w.heap.size with
    | none => rfl
    | some l => exact absurd (hin.lt hg) (by omega)
  · intro b hb
    simp [Fp, Ent.fp] at hb; subst hb
    exact .inl (Nat.le_refl _)

theorem St.step {a : Act} {w w' : World} {ins outs rest hp' : List Ent} {G' : IM} (hs : St Γ ⟨env, hp, G⟩ a w) (p : hp.Perm (ins ++ rest)) (r : Res ins G w outs G' w') (q : (outs ++ rest).Perm hp')
    {d : Option Nat} {v : Value} (hd : dok Γ.n d = true) : St Γ ⟨dpu d v env, hp', G'⟩ (a.put d v) w' :=
  hs.dput d v hd (((hs.res.perm p).frame r).perm q)

theorem step_new {d : Nat} {op : Op} {mk : Nat → Value} {cs : List Value} (hd : Nat.blt d Γ.n = true)
    (hrun : ∀ a w, St Γ ⟨env, hp, G⟩ a w → ∃ e, ∀ d pos af gd, (execOp a.eval ⟨d, op, ty, pos, af, gd⟩).run P w = .ok (.value (mk w.heap.size)) (w.alloc (.cells cs.toArray e))) :
    StepOp P Γ ⟨env, hp, G⟩ (some d) op ty [] (fun σ' => ∃ b, σ' = ⟨(d, mk b) :: env, .blk b cs :: hp, G⟩) := by
  refine ⟨fun a w hs pos af gd Q next hn => ?_⟩
  obtain ⟨e, hr⟩ := hrun a w hs
  simp only [Oper.wp, hr, Oper.upon]
  have hr' := res_new w hs.res.own.inn cs e
  exact hn _ _ _ (hs.step (ins := []) (rest := hp) (List.Perm.refl _) hr' (List.Perm.refl _) (d := some d) hd) hr'.ext ⟨w.heap.size, rfl⟩

theorem step_box_a {d : Nat} {x : Operand} {t : TypeId} {vs : List Value} (hx : evo env x = some (.agg ⟨vs⟩)) (hd : Nat.blt d Γ.n = true) :
    StepOp P Γ ⟨env, hp, G⟩ (some d) (.box t x) ty [] (fun σ' => ∃ b, σ' = ⟨(d, .pointer (some ⟨b, 0, none⟩)) :: env, .blk b vs :: hp, G⟩) :=
  step_new hd fun a w hs => ⟨t, fun _ _ _ _ => by simp [execOp, Instr.box, newVar, newRow, newObj, Sem.run, (hs.evo hx : a.eval x = _), Value.cells]⟩
theorem step_box_s {d : Nat} {x : Operand} {t : TypeId} {v : Value} (hx : evo env x = some v) (hv : v.cells = ⟨[v]⟩) (hd : Nat.blt d Γ.n = true) :
    StepOp P Γ ⟨env, hp, G⟩ (some d) (.box t x) ty [] (fun σ' => ∃ b, σ' = ⟨(d, .pointer (some ⟨b, 0, none⟩)) :: env, .blk b [v] :: hp, G⟩) :=
  step_new hd fun a w hs => ⟨t, fun _ _ _ _ => by simp [execOp, Instr.box, newVar, newRow, newObj, Sem.run, (hs.evo hx : a.eval x = _), hv]⟩
theorem step_alloc {d : Nat} {t : TypeId} {sz by' : Nat} {zs : List Value} [hI : TySz P t sz by' zs] (hd : Nat.blt d Γ.n = true) :
    StepOp P Γ ⟨env, hp, G⟩ (some d) (.alloc t) ty [] (fun σ' => ∃ b, σ' = ⟨(d, .pointer (some ⟨b, 0, none⟩)) :: env, .blk b zs :: hp, G⟩) :=
  step_new hd fun a w hs => ⟨t, fun _ _ _ _ => by
    obtain ⟨_, hI⟩ := hI.ok
    obtain ⟨inf, g1, _, _, z, g4, g5⟩ := hI.info
    simp [execOp, Instr.alloc, zeroValue, typeInfo, g1, g4, newVar, newRow, newObj, Sem.run, g5]⟩

/- Writing into an own block. -/
inductive Sw : List Ent → Ent → Ent → List Ent → Prop
  | here {e e' : Ent} {r : List Ent} : Sw (e :: r) e e' (e' :: r)
  | there {x e e' : Ent} {r r' : List Ent} : Sw r e e' r' → Sw (x :: r) e e' (x :: r')

theorem Sw.perm {hp hp' : List Ent} {e e' : Ent} (h : Sw hp e e' hp') : ∃ rest, hp.Perm ([e] ++ rest) ∧ ([e'] ++ rest).Perm hp' := by
  induction h with
  | @here e e' r => exact ⟨r, List.Perm.refl _, List.Perm.refl _⟩
  | @there x e e' r r' _ ih =>
    obtain ⟨rest, h1, h2⟩ := ih
    refine ⟨x :: rest, (h1.cons x).trans ?_, List.Perm.trans ?_ (h2.cons x)⟩
    · exact List.Perm.swap _ _ _
    · exact List.Perm.swap _ _ _
theorem Sw.mem {hp hp' : List Ent} {e e' : Ent} (h : Sw hp e e' hp') : e ∈ hp := by
  induction h with
  | here => exact List.mem_cons_self
  | there _ ih => exact List.mem_cons_of_mem _ ih

/-- cs with the cells from off on replaced by vs. -/
def upd : List Value → Nat → List Value → Option (List Value)
  | cs, 0, [] => some cs
  | [], 0, _ :: _ => none
  | _ :: cs, 0, v :: vs => match upd cs 0 vs with
    | some r => some (v :: r)
    | none => none
  | [], _ + 1, _ => none
  | c :: cs, o + 1, vs => match upd cs o vs with
    | some r => some (c :: r)
    | none => none
theorem upd_spec : ∀ {cs : List Value} {o : Nat} {vs cs' : List Value}, upd cs o vs = some cs' → cs' = cs.take o ++ vs ++ cs.drop (o + vs.length) ∧ o + vs.length ≤ cs.length
  | cs, 0, [], cs', h => by cases cs <;> (simp [upd] at h; subst h; simp)
  | [], 0, v :: vs, cs', h => by simp [upd] at h
  | c :: cs, 0, v :: vs, cs', h => by
    simp only [upd] at h
    split at h
    · rename_i r hr
      simp at h; subst h
      obtain ⟨h1, h2⟩ := upd_spec hr
      constructor
      · simp [h1]
      · simp at h2 ⊢; omega
    · cases h
  | [], o + 1, vs, cs', h => by simp [upd] at h
  | c :: cs, o + 1, vs, cs', h => by
    simp only [upd] at h
    split at h
    · rename_i r hr
      simp at h; subst h
      obtain ⟨h1, h2⟩ := upd_spec hr
      constructor
      · rw [h1, show o + 1 + vs.length = (o + vs.length) + 1 by omega]; simp
      · simp; omega
    · cases h
theorem upd_all {cs vs : List Value} (h : cs.length = vs.length) : upd cs 0 vs = some vs := by
  induction cs generalizing vs with
  | nil => cases vs with
    | nil => rfl
    | cons v vs => simp at h
  | cons c cs ih => cases vs with
    | nil => simp at h
    | cons v vs => simp only [upd, ih (vs := vs) (by simpa using h)]

theorem res_store_blk {w : World} {b o : Nat} {cs vs cs' : List Value} (hown : Own [.blk b cs] G w) (hu : cs' = cs.take o ++ vs ++ cs.drop (o + vs.length)) :
    Res [.blk b cs] G w [.blk b cs'] G (w.setRow b cs'.toArray) := by
  obtain ⟨e, hb⟩ := hown.ok _ List.mem_cons_self
  refine ⟨⟨?_, ?_, by simp [Fp, Ent.fp], ?_⟩, ⟨rfl, rfl, rfl, by simp [World.setRow], fun k _ hk => setRow_other w b k _ (by rintro rfl; simp [Fp, Ent.fp] at hk)⟩, IMle.refl _, fun _ _ h => .inl h, ?_, fun b l h h0 => absurd h (by rw [h0]; simp)⟩
  · intro k l hg
    obtain ⟨e', f', h'⟩ := hown.inn k l hg
    refine ⟨e', f', ?_⟩
    rw [setRow_other w b k _ ?_]
    · exact h'
    · rintro rfl
      have := hown.disj k (by simp [Fp, Ent.fp])
      rw [this] at hg; cases hg
  · intro x hx
    simp at hx; subst hx
    exact ⟨e, setRow_heap w b cs.toArray cs'.toArray e (0, 0) hb⟩
  · intro k hk
    exact hown.disj k (by simpa [Fp, Ent.fp] using hk)
  · intro k hk
    exact .inr (by simpa [Fp, Ent.fp] using hk)

theorem Own.of_mem {w : World} {e : Ent} (h : Own hp G w) {rest : List Ent} (p : hp.Perm ([e] ++ rest)) : Own [e] G w := (h.perm p).left

theorem step_store {d : Option Nat} {x y : Operand} {t : TypeId} {i : TyR} [hI : TyI P t i] {b o : Nat} {v : Value} {vs cs cs' : List Value} {hp' : List Ent}
    (hx : evo env x = some (.pointer (some ⟨b, o, none⟩))) (hy : evo env y = some v) (hv : v.cells = ⟨vs⟩) (hsz : vs.length = i.size) (h1 : vs.all (·.oneCell') = true)
    (hu : upd cs o vs = some cs') (hm : Sw hp (.blk b cs) (.blk b cs') hp') (hd : dok Γ.n d = true) :
    StepOp P Γ ⟨env, hp, G⟩ d (.store t x y) ty [b] (fun σ' => σ' = ⟨dpu d undef env, hp', G⟩) := by
  refine ⟨fun a w hs pos af gd Q next hn => ?_⟩
  obtain ⟨rest, p1, p2⟩ := hm.perm
  have hown : Own [.blk b cs] G w := hs.res.own.of_mem p1
  obtain ⟨e, hb⟩ := hown.ok _ List.mem_cons_self
  obtain ⟨u1, u2⟩ := upd_spec hu
  have hst := run_storeCells_at P b o e vs 0 cs.toArray w hb (by simpa using u2) (by simpa using h1)
  simp only [Nat.add_zero, ← u1] at hst
  obtain ⟨inf, g1, g2, _⟩ := hI.info
  have hrun : (execOp a.eval ⟨d, .store t x y, ty, pos, af, gd⟩).run P w = .ok .skip (w.setRow b cs'.toArray) := by
    simp [execOp, Instr.storeAt, Instr.sureAddr, (hs.evo hx : a.eval x = _), (hs.evo hy : a.eval y = _), storeVar, sizeOf, typeInfo, g1, g2, hv, hsz, hst]
  simp only [Oper.wp, hrun, Oper.upon]
  have hr' := res_store_blk (o := o) hown u1
  exact hn _ _ _ (hs.step p1 hr' p2 hd) (by simpa [Fp, Ent.fp] using hr'.ext) rfl

/- Calls. -/
structure Fn (P : Program) (f : FuncId) (args : List Value) (ins : List Ent) (G : IM) (post : IM → Value → List Ent → Prop) : Prop where
  run : ∀ w, Own ins G w → Calls P f ⟨args⟩ w fun e w' => ∃ v G' outs, e = .returned v ∧ Res ins G w outs G' w' ∧ post G' v outs

theorem Fn.mono {f : FuncId} {args : List Value} {ins : List Ent} {post post' : IM → Value → List Ent → Prop} (h : Fn P f args ins G post) (hp : ∀ G' v outs, IMle G G' → post G' v outs → post' G' v outs) :
    Fn P f args ins G post' :=
  ⟨fun w hw => (h.run w hw).mono fun _ _ ⟨v, G', outs, h1, h2, h3⟩ => ⟨v, G', outs, h1, h2, hp _ _ _ h2.le h3⟩⟩

theorem run_callFunc {f : FuncId} [hF : FunI P f] (args : Array Value) (w : World) : (callFunc f args).run P w = .ok (.enter f args) w := by
  obtain ⟨fn, h1, h2, h3⟩ := hF.ok
  simp only [callFunc, program, Sem.run_bind, Sem.run, Result.andThen_ok, h1, h2, h3, Bool.false_eq_true, if_false]
  rfl

theorem step_enter {d : Nat} {op : Op} {f : FuncId} {vs : List Value} {ins rest : List Ent} {post : IM → Value → List Ent → Prop}
    (he : ∀ a w, St Γ ⟨env, hp, G⟩ a w → ∀ d pos af gd, (execOp a.eval ⟨d, op, ty, pos, af, gd⟩).run P w = .ok (.enter f ⟨vs⟩) w)
    (h : Fn P f vs ins G post) (hp' : hp.Perm (ins ++ rest)) (hd : Nat.blt d Γ.n = true) :
    StepOp P Γ ⟨env, hp, G⟩ (some d) op ty (Fp ins) (fun σ' => ∃ v G' outs, σ' = ⟨(d, v) :: env, outs ++ rest, G'⟩ ∧ IMle G G' ∧ post G' v outs) := by
  refine ⟨fun a w hs pos af gd Q next hn => ?_⟩
  simp only [Oper.wp, he a w hs, Oper.upon]
  refine (h.run w (hs.res.own.perm hp').left).mono ?_
  rintro e w' ⟨v, G', outs, rfl, h2, h3⟩
  exact hn _ _ _ (hs.step hp' h2 (List.Perm.refl _) (d := some d) hd) h2.ext ⟨v, G', outs, rfl, h2.le, h3⟩

theorem run_execCall {f : FuncId} [hF : FunI P f] {xs : List Operand} {ats : Array TypeId} {vs : List Value} {a : Act} {w w1 : World} (hs : St Γ ⟨env, hp, G⟩ a w1) (hx : evl env xs = some vs) (d : Option Tmp) (pos : String) (af : Array Edge) (gd : Option (Nat × Bool)) :
    (execOp a.eval ⟨d, .call ⟨.value (.func f), ⟨xs⟩, ats⟩, ty, pos, af, gd⟩).run P w = .ok (.enter f ⟨vs⟩) w := by
  have e2 := hs.evl hx
  simp [execOp, resolve, invoke, Deferred.ofValue, Act.eval, run_callFunc]
  exact e2

/-- A call of a named function that needs nothing of the caller's own. -/
theorem step_call {d : Nat} {f : FuncId} [hF : FunI P f] {xs : List Operand} {ats : Array TypeId} {vs : List Value} {post : IM → Value → List Ent → Prop}
    (hx : evl env xs = some vs) (h : Fn P f vs [] G post) (hd : Nat.blt d Γ.n = true) :
    StepOp P Γ ⟨env, hp, G⟩ (some d) (.call ⟨.value (.func f), ⟨xs⟩, ats⟩) ty [] (fun σ' => ∃ v G' outs, σ' = ⟨(d, v) :: env, outs ++ hp, G'⟩ ∧ IMle G G' ∧ post G' v outs) :=
  step_enter (fun _ _ hs _ _ _ _ => run_execCall hs hx _ _ _ _) h (List.Perm.refl _) hd
theorem step_call_own {d : Nat} {f : FuncId} [hF : FunI P f] {xs : List Operand} {ats : Array TypeId} {vs : List Value} {ins rest : List Ent} {post : IM → Value → List Ent → Prop}
    (hx : evl env xs = some vs) (h : Fn P f vs ins G post) (hp' : hp.Perm (ins ++ rest)) (hd : Nat.blt d Γ.n = true) :
    StepOp P Γ ⟨env, hp, G⟩ (some d) (.call ⟨.value (.func f), ⟨xs⟩, ats⟩) ty (Fp ins) (fun σ' => ∃ v G' outs, σ' = ⟨(d, v) :: env, outs ++ rest, G'⟩ ∧ IMle G G' ∧ post G' v outs) :=
  step_enter (fun _ _ hs _ _ _ _ => run_execCall hs hx _ _ _ _) h hp' hd
/-- A call of a function value. -/
theorem step_callv {d : Nat} {f : FuncId} [hF : FunI P f] {g : Operand} {xs : List Operand} {ats : Array TypeId} {vs us cs : List Value} {ins rest : List Ent} {post : IM → Value → List Ent → Prop}
    (hg : evo env g = some (.func (.func f) ⟨us⟩ ⟨cs⟩)) (hx : evl env xs = some vs) (h : Fn P f (us ++ vs ++ cs) ins G post) (hp' : hp.Perm (ins ++ rest)) (hd : Nat.blt d Γ.n = true) :
    StepOp P Γ ⟨env, hp, G⟩ (some d) (.call ⟨.value g, ⟨xs⟩, ats⟩) ty (Fp ins) (fun σ' => ∃ v G' outs, σ' = ⟨(d, v) :: env, outs ++ rest, G'⟩ ∧ IMle G G' ∧ post G' v outs) :=
  step_enter (fun a w hs _ _ _ _ => by
    have e1 : a.eval g = _ := hs.evo hg
    have e2 := hs.evl hx
    simp [execOp, resolve, invoke, Deferred.ofValue, e1, e2, run_callFunc]) h hp' hd

/- The end of a call. -/
def rdR (tmps : Array Value) : ResultVar → Sem Value
  | .tmp t => pure (tmps.getD t undef)
  | .cell x t => do loadVar t (← asAddr (tmps.getD x undef))
theorem results_rdR (fn : Func) (tmps : Array Value) : results fn tmps = (do let vs ← fn.results.mapM (rdR tmps); pure (if h : vs.size = 1 then vs[0] else .tuple vs)) := by
  unfold results
  congr 1
def ResOne (P : Program) (Γ : Ctx) (σ : Sy) (r : ResultVar) (v : Value) : Prop := ∀ a w, St Γ σ a w →
  (rdR a.tmps r).run P w = .ok v w

theorem res_tmp {t : Nat} {v : Value} (h : look env t = some v) : ResOne P Γ ⟨env, hp, G⟩ (.tmp t) v :=
  fun a w hs => by simp only [rdR, Sem.run_pure]; rw [hs.env t v h]
theorem res_cell {x t b o : Nat} {v : Value} (hx : look env x = some (.pointer (some ⟨b, o, none⟩))) (h : LoadOp P Γ ⟨env, hp, G⟩ (.load t (.tmp x)) 0 b v) : ResOne P Γ ⟨env, hp, G⟩ (.cell x t) v := by
  intro a w hs
  have h1 := (h.run a w hs).2 w rfl none "" #[] none
  have hx' := hs.env x _ hx
  have he : a.eval (.tmp x) = .pointer (some ⟨b, o, none⟩) := hx'
  simp only [execOp, Sem.run_bind, Instr.loadAt, he, Instr.sureAddr, Sem.run_pure, Result.andThen_ok] at h1
  simp only [rdR, hx', asAddr, Sem.run_bind, Sem.run_pure, Result.andThen_ok]
  cases hl : (loadVar t ⟨b, o, none⟩).run P w with
  | ok u w' => rw [hl] at h1; simp at h1; rw [h1.1, h1.2]
  | halt hh w' => rw [hl] at h1; simp at h1

inductive ResAll (P : Program) (Γ : Ctx) (σ : Sy) : List ResultVar → List Value → Prop
  | nil : ResAll P Γ σ [] []
  | cons {r : ResultVar} {v : Value} {rs : List ResultVar} {vs : List Value} : ResOne P Γ σ r v → ResAll P Γ σ rs vs → ResAll P Γ σ (r :: rs) (v :: vs)

def tupl : List Value → Value
  | [v] => v
  | vs => .tuple ⟨vs⟩

theorem run_mapM_list {α β : Type} (f : α → Sem β) (w : World) : ∀ (xs : List α) (ys : List β), xs.length = ys.length → (∀ (j : Nat) (x : α) (y : β), xs[j]? = some x → ys[j]? = some y → (f x).run P w = .ok y w) →
    (xs.mapM f).run P w = .ok ys w
  | [], [], _, _ => by simp
  | x :: xs, y :: ys, hl, h => by
    have h0 := h 0 x y rfl rfl
    have ih := run_mapM_list f w xs ys (by simpa using hl) (fun j a b ha hb => h (j + 1) a b (by simpa using ha) (by simpa using hb))
    simp [List.mapM_cons, h0, ih]
  | [], _ :: _, hl, _ => by simp at hl
  | _ :: _, [], hl, _ => by simp at hl

theorem ResAll.run {σ : Sy} {rs : List ResultVar} {vs : List Value} (h : ResAll P Γ σ rs vs) {a : Act} {w : World} (hs : St Γ σ a w) : rs.length = vs.length ∧ ∀ (j : Nat) (x : ResultVar) (y : Value), rs[j]? = some x → vs[j]? = some y →
    (rdR a.tmps x).run P w = .ok y w := by
  induction h with
  | nil => exact ⟨rfl, fun j x y hx => by simp at hx⟩
  | @cons r v rs vs hr _ ih =>
    refine ⟨by simp [ih.1], fun j x y hx hy => ?_⟩
    cases j with
    | zero => simp at hx hy; subst hx hy; exact hr a w hs
    | succ j => exact ih.2 j x y (by simpa using hx) (by simpa using hy)

structure retK (P : Program) (Γ : Ctx) (rs : List ResultVar) (post : IM → Value → List Ent → Prop) (e : Exit) (σ : Sy) : Prop where
  run : match e with
    | .ret | .normal => ∃ vs, ResAll P Γ σ rs vs ∧ ∃ outs r, σ.hp.Perm (outs ++ r) ∧ post σ.G (tupl vs) outs
    | _ => False

def enumEnv : Nat → List Value → Env
  | _, [] => []
  | k, v :: vs => (k, v) :: enumEnv (k + 1) vs

theorem look_enum : ∀ (vs : List Value) (k t : Nat) (v : Value), look (enumEnv k vs) t = some v → k ≤ t ∧ vs[t - k]? = some v
  | [], k, t, v, h => by simp [enumEnv, look] at h
  | u :: us, k, t, v, h => by
    simp only [enumEnv] at h
    rw [look_cons] at h
    by_cases e : k = t
    · subst e; simp at h; subst h; simp
    · rw [if_neg e] at h
      obtain ⟨h1, h2⟩ := look_enum us (k + 1) t v h
      refine ⟨by omega, ?_⟩
      rw [show t - k = (t - (k + 1)) + 1 by omega]
      simpa using h2

theorem fn_enter {f : FuncId} {fn : Func} {c : Code} {args : List Value} {ins : List Ent} {post : IM → Value → List Ent → Prop} {n : Nat} {rs : List ResultVar}
    (hf : P.funcs[f]? = some fn) (hb : fn.body = some c) (hn : fn.ntmps = n) (hr : fn.results = ⟨rs⟩) (hle : Nat.ble args.length n = true)
    (h : ∀ w0, Tri P ⟨n, ins, G, w0⟩ c (retK P ⟨n, ins, G, w0⟩ rs post) ⟨enumEnv 0 args, ins, G⟩) : Fn P f args ins G post := by
  refine ⟨fun w hw => ?_⟩
  have hle' : args.length ≤ n := by simpa using hle
  refine calls_of_wp hf hb ?_
  let a : Act := { tmps := (⟨args⟩ : Array Value) ++ Array.replicate (fn.ntmps - (⟨args⟩ : Array Value).size) undef, defers := [] }
  have hs : St ⟨n, ins, G, w⟩ ⟨enumEnv 0 args, ins, G⟩ a w := by
    refine ⟨?_, rfl, ?_, Res.refl hw⟩
    · simp [a, hn]; omega
    · intro t v ht
      obtain ⟨_, h2⟩ := look_enum args 0 t v ht
      simp only [Nat.sub_zero] at h2
      have hlt : t < args.length := (List.getElem?_eq_some_iff.1 h2).1
      simp [a, Array.getD_eq_getD_getElem?, Array.getElem?_append, hlt]
      simp [List.getElem?_eq_getElem hlt] at h2
      exact h2
  refine wp_mono ((h w).run a w hs) ?_
  rintro e a' w' ⟨σ, hs', ⟨hk⟩⟩
  have fin : (∃ vs, ResAll P ⟨n, ins, G, w⟩ σ rs vs ∧ ∃ outs r, σ.hp.Perm (outs ++ r) ∧ post σ.G (tupl vs) outs) → a'.defers = [] ∧ ∃ v, (results fn a'.tmps).run P w' = .ok v w' ∧
      ∃ v_1 G' outs, Ending.returned v = Ending.returned v_1 ∧ Res ins G w outs G' w' ∧ post G' v_1 outs := by
    rintro ⟨vs, hra, outs, r, hp', hpost⟩
    refine ⟨hs'.nod, tupl vs, ?_, tupl vs, σ.G, outs, rfl, (hs'.res.perm hp').left, hpost⟩
    obtain ⟨hl, hrun⟩ := hra.run hs'
    have hm : (fn.results.mapM (rdR a'.tmps)).run P w' = .ok ⟨vs⟩ w' := by
      rw [hr, Array.mapM_eq_mapM_toList]
      simp only [Sem.run_map]
      rw [run_mapM_list _ w' rs vs hl hrun]
      rfl
    rw [results_rdR]
    simp only [Sem.run_bind]
    rw [hm]
    simp only [Result.andThen_ok, Sem.run_pure]
    congr 1
    unfold tupl
    split
    · rename_i hsz
      match vs, hsz with
      | [v], _ => rfl
    · rename_i hsz
      split
      · exact absurd rfl hsz
      · rfl
  cases e <;> first | exact fin hk | exact hk.elim


/- How the posts of the parts meet. -/
theorem nrm_seq {y : Code} {K : Po} {σ : Sy} (h : Tri P Γ y K σ) : seqK P Γ y K .normal σ := ⟨h⟩
theorem ret_seq {y : Code} {K : Po} {σ : Sy} (h : K .ret σ) : seqK P Γ y K .ret σ := ⟨h⟩
theorem ext_seq {y : Code} {K : Po} {σ : Sy} {i : Nat} (h : K (.exit i) σ) : seqK P Γ y K (.exit i) σ := ⟨h⟩
theorem nrm_block {i : Nat} {K : Po} {σ : Sy} (h : K .normal σ) : blockK i K .normal σ := ⟨h⟩
theorem ret_block {i : Nat} {K : Po} {σ : Sy} (h : K .ret σ) : blockK i K .ret σ := ⟨h⟩
theorem ext_block_eq {i : Nat} {K : Po} {σ : Sy} (h : K .normal σ) : blockK i K (.exit i) σ := ⟨by simp [h]⟩
theorem ext_block_ne {i j : Nat} {K : Po} {σ : Sy} (hne : j ≠ i) (h : K (.exit j) σ) : blockK i K (.exit j) σ := ⟨by simp [hne, h]⟩
theorem nrm_loop {K : Po} {Inv : Nat → Sy → Prop} {m m' : Nat} {σ σ' : Sy} (hlt : m' < m) (hs : Sub σ σ') (h : Inv m' σ') : loopK K Inv m .normal σ := ⟨m', σ', hlt, hs, h⟩
theorem ret_loop {K : Po} {Inv : Nat → Sy → Prop} {m : Nat} {σ : Sy} (h : K .ret σ) : loopK K Inv m .ret σ := ⟨h⟩
theorem ext_loop {K : Po} {Inv : Nat → Sy → Prop} {m i : Nat} {σ : Sy} (h : K (.exit i) σ) : loopK K Inv m (.exit i) σ := ⟨h⟩
theorem ret_fin {rs : List ResultVar} {post : IM → Value → List Ent → Prop} {σ : Sy} {vs : List Value} (h : ResAll P Γ σ rs vs) {outs : List Ent} (hp : ∃ r, σ.hp.Perm (outs ++ r)) (hk : post σ.G (tupl vs) outs) :
    retK P Γ rs post .ret σ := ⟨vs, h, outs, hp.choose, hp.choose_spec, hk⟩
/-- The caller gets nothing of its own. -/
theorem ret_fin0 {rs : List ResultVar} {post : IM → Value → List Ent → Prop} {σ : Sy} {vs : List Value} (h : ResAll P Γ σ rs vs) (hk : post σ.G (tupl vs) []) :
    retK P Γ rs post .ret σ := ⟨vs, h, [], σ.hp, List.Perm.refl _, hk⟩

theorem np_seq {y : Code} {K : Po} (h : noPanic K) : noPanic (seqK P Γ y K) := fun c σ hk => h c σ hk.run
theorem np_block {i : Nat} {K : Po} (h : noPanic K) : noPanic (blockK i K) := fun c σ hk => h c σ hk.run
theorem np_loop {K : Po} {Inv : Nat → Sy → Prop} {m : Nat} (h : noPanic K) : noPanic (loopK K Inv m) := fun c σ hk => h c σ hk.run
theorem np_ret {rs : List ResultVar} {post : IM → Value → List Ent → Prop} : noPanic (retK P Γ rs post) := fun _ _ h => h.run

theorem seq_store {K : Po} {ops : Array Oper} {rest : List Oper} {pos : String} {af : Array Edge} {gd : Option (Nat × Bool)} {x y : Operand} {t : TypeId} {i : TyR} [hI : TyI P t i] {b o : Nat} {v : Value} {vs cs cs' : List Value} {hp' : List Ent}
    (hx : evo env x = some (.pointer (some ⟨b, o, none⟩))) (hy : evo env y = some v) (hv : v.cells = ⟨vs⟩) (hsz : vs.length = i.size) (h1 : vs.all (·.oneCell') = true)
    (hw : wantG ops env gd = some true) (hm : Sw hp (.blk b cs) (.blk b cs') hp') (hu : upd cs o vs = some cs')
    (k : TriL P Γ ops rest K ⟨env, hp', G⟩) : TriL P Γ ops (⟨none, .store t x y, ty, pos, af, gd⟩ :: rest) K ⟨env, hp, G⟩ :=
  seq_step (step_store hx hy hv hsz h1 hu hm rfl) hw (by rintro _ rfl; exact k)

def firstF : List Bool → Nat → Option Nat
  | [], _ => none
  | false :: _, i => some i
  | true :: r, i => firstF r (i + 1)

section eqs
variable {x y : Operand} {t t' : TypeId} {k : IntKind} {m n : Int}
theorem pure_eql_t (hx : evo env x = some (.int k m)) (hy : evo env y = some (.int k n)) (h : m = n) : PureOp P Γ ⟨env, hp, G⟩ (.binOp .eql t x y t') ty (.bool true) := by
  have := pure_eql (P := P) (Γ := Γ) (hp := hp) (G := G) (ty := ty) (t := t) (t' := t') hx hy; rwa [decide_eq_true h] at this
theorem pure_eql_f (hx : evo env x = some (.int k m)) (hy : evo env y = some (.int k n)) (h : ¬ m = n) : PureOp P Γ ⟨env, hp, G⟩ (.binOp .eql t x y t') ty (.bool false) := by
  have := pure_eql (P := P) (Γ := Γ) (hp := hp) (G := G) (ty := ty) (t := t) (t' := t') hx hy; rwa [decide_eq_false h] at this
theorem pure_neq_t (hx : evo env x = some (.int k m)) (hy : evo env y = some (.int k n)) (h : m ≠ n) : PureOp P Γ ⟨env, hp, G⟩ (.binOp .neq t x y t') ty (.bool true) := by
  have := pure_neq (P := P) (Γ := Γ) (hp := hp) (G := G) (ty := ty) (t := t) (t' := t') hx hy; rwa [decide_eq_true h] at this
theorem pure_neq_f (hx : evo env x = some (.int k m)) (hy : evo env y = some (.int k n)) (h : m = n) : PureOp P Γ ⟨env, hp, G⟩ (.binOp .neq t x y t') ty (.bool false) := by
  have := pure_neq (P := P) (Γ := Γ) (hp := hp) (G := G) (ty := ty) (t := t) (t' := t') hx hy; rwa [decide_eq_false (by simpa using h)] at this
theorem pure_lss_t (hx : evo env x = some (.int k m)) (hy : evo env y = some (.int k n)) (h : m < n) : PureOp P Γ ⟨env, hp, G⟩ (.binOp .lss t x y t') ty (.bool true) := by
  have := pure_lss (P := P) (Γ := Γ) (hp := hp) (G := G) (ty := ty) (t := t) (t' := t') hx hy; rwa [decide_eq_true h] at this
theorem pure_lss_f (hx : evo env x = some (.int k m)) (hy : evo env y = some (.int k n)) (h : ¬ m < n) : PureOp P Γ ⟨env, hp, G⟩ (.binOp .lss t x y t') ty (.bool false) := by
  have := pure_lss (P := P) (Γ := Γ) (hp := hp) (G := G) (ty := ty) (t := t) (t' := t') hx hy; rwa [decide_eq_false h] at this
theorem pure_leq_t (hx : evo env x = some (.int k m)) (hy : evo env y = some (.int k n)) (h : m ≤ n) : PureOp P Γ ⟨env, hp, G⟩ (.binOp .leq t x y t') ty (.bool true) := by
  have := pure_leq (P := P) (Γ := Γ) (hp := hp) (G := G) (ty := ty) (t := t) (t' := t') hx hy; rwa [decide_eq_true h] at this
theorem pure_leq_f (hx : evo env x = some (.int k m)) (hy : evo env y = some (.int k n)) (h : ¬ m ≤ n) : PureOp P Γ ⟨env, hp, G⟩ (.binOp .leq t x y t') ty (.bool false) := by
  have := pure_leq (P := P) (Γ := Γ) (hp := hp) (G := G) (ty := ty) (t := t) (t' := t') hx hy; rwa [decide_eq_false h] at this
theorem pure_gtr_t (hx : evo env x = some (.int k m)) (hy : evo env y = some (.int k n)) (h : n < m) : PureOp P Γ ⟨env, hp, G⟩ (.binOp .gtr t x y t') ty (.bool true) := by
  have := pure_gtr (P := P) (Γ := Γ) (hp := hp) (G := G) (ty := ty) (t := t) (t' := t') hx hy; rwa [decide_eq_true h] at this
theorem pure_gtr_f (hx : evo env x = some (.int k m)) (hy : evo env y = some (.int k n)) (h : ¬ n < m) : PureOp P Γ ⟨env, hp, G⟩ (.binOp .gtr t x y t') ty (.bool false) := by
  have := pure_gtr (P := P) (Γ := Γ) (hp := hp) (G := G) (ty := ty) (t := t) (t' := t') hx hy; rwa [decide_eq_false h] at this
theorem pure_geq_t (hx : evo env x = some (.int k m)) (hy : evo env y = some (.int k n)) (h : n ≤ m) : PureOp P Γ ⟨env, hp, G⟩ (.binOp .geq t x y t') ty (.bool true) := by
  have := pure_geq (P := P) (Γ := Γ) (hp := hp) (G := G) (ty := ty) (t := t) (t' := t') hx hy; rwa [decide_eq_true h] at this
theorem pure_geq_f (hx : evo env x = some (.int k m)) (hy : evo env y = some (.int k n)) (h : ¬ n ≤ m) : PureOp P Γ ⟨env, hp, G⟩ (.binOp .geq t x y t') ty (.bool false) := by
  have := pure_geq (P := P) (Γ := Γ) (hp := hp) (G := G) (ty := ty) (t := t) (t' := t') hx hy; rwa [decide_eq_false h] at this
end eqs

end steps
end Gw
end Go.Proofs.Ytlefgfdhlblahaa
