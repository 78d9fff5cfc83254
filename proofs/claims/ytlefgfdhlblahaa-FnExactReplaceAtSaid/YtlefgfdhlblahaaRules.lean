/-
  Appending to an own slice; giving a slice up for good; calls by their posts; a region's drawn order, met operation by operation; what a state may forget.
-/
import Derived.Test.YtlefgfdhlblahaaMem
namespace Go.Proofs.Ytlefgfdhlblahaa
open Go Go.RowKit
namespace Gw

section rules2
variable {P : Program} {Γ : Ctx} {env : Env} {hp : List Ent} {G : IM} {ty : TypeId} {K : Po} {ops : Array Oper} {rest : List Oper}
variable {pos : String} {af : Array Edge} {gd : Option (Nat × Bool)}

theorem res_grown {w w' : World} {p p' : Option Addr} {c c' el sz n n' : Nat} {cs cs' : List Value} (hown : Own [.slc p c el sz n cs] G w)
    (h' : w'.ownsRow 0 el sz (.slice p' n' c') n' cs') (hg : w.grownBy w' ((Value.slice p n c).ownBlock)) (hnew : ∀ g, p' = some g → (∃ q, p = some q ∧ q.block = g.block) ∨ w.heap.size ≤ g.block) :
    Res [.slc p c el sz n cs] G w [.slc p' c' el sz n' cs'] G w' := by
  have hfp : ∀ b, b ∈ Fp [.slc p c el sz n cs] ↔ (Value.slice p n c).ownBlock = some b := by
    intro b
    cases p with
    | none => simp [Fp, Ent.fp, vfp, Value.ownBlock]
    | some q => simp [Fp, Ent.fp, vfp, Value.ownBlock, eq_comm]
  have hfp' : ∀ b, b ∈ Fp [.slc p' c' el sz n' cs'] ↔ ∃ g, p' = some g ∧ g.block = b := by
    intro b
    cases p' with
    | none => simp [Fp, Ent.fp, vfp]
    | some q => simp [Fp, Ent.fp, vfp, eq_comm]
  refine ⟨⟨?_, ?_, ?_, ?_⟩, ⟨hg.os, hg.tape, hg.output, hg.size, ?_⟩, IMle.refl _, fun _ _ h => .inl h, ?_, fun b l h h0 => absurd h (by rw [h0]; simp)⟩
  · intro b l hb
    obtain ⟨e, f, h⟩ := hown.inn b l hb
    refine ⟨e, f, ?_⟩
    rw [hg.block b (lt_of_some h) ?_]
    · exact h
    · intro hb'
      have := hown.disj b ((hfp b).2 hb'.symm)
      rw [this] at hb; cases hb
  · intro x hx
    simp at hx; subst hx; exact h'
  · cases p' <;> simp [Fp, Ent.fp, vfp]
  · intro b hb
    obtain ⟨g, hg1, hg2⟩ := (hfp' b).1 hb
    rcases hnew g hg1 with ⟨q, hq, hqb⟩ | hlt
    · refine hown.disj b ((hfp b).2 ?_)
      subst hq
      simp [Value.ownBlock, hqb, hg2]
    · cases hgb : G b with
      | none => rfl
      | some l => exact absurd (hown.inn.lt hgb) (by omega)
  · intro k hk hkn
    exact hg.block k hk (fun e => hkn ((hfp k).2 e.symm))
  · intro b hb
    obtain ⟨g, hg1, hg2⟩ := (hfp' b).1 hb
    rcases hnew g hg1 with ⟨q, hq, hqb⟩ | hlt
    · right
      refine (hfp b).2 ?_
      subst hq
      simp [Value.ownBlock, hqb, hg2]
    · left; omega

/-- append(dst, src...) onto an own slice, the source read wherever it lies. -/
theorem step_append {d : Nat} {x y : Operand} {t el : TypeId} {i : TyR} {sz by' : Nat} {zs : List Value} [hI : TyI P t i] (hd' : i.desc = .slice el) [hE : TySz P el sz by' zs] {p : Option Addr} {c n m b o c' : Nat} {cs news : List Value} {hp' : Option Addr → Nat → List Ent}
    (hd : Nat.blt d Γ.n = true) (hx : evo env x = some (.slice p n c)) (hy : evo env y = some (.slice (some ⟨b, o, none⟩) m c')) (hsz : Nat.blt 0 sz = true)
    (hm : ∀ p' c', Sw hp (.slc p c el sz n cs) (.slc p' c' el sz (n + m) (cs ++ news)) (hp' p' c'))
    (hs' : At hp G b o news) (hl : news.length = m * sz) (h1 : ∀ u ∈ news, u.oneCell' = true)
    (h63 : n + m ≤ maxLen) (hb : (n + m) * by' ≤ 140737488355328) :
    StepOp P Γ ⟨env, hp, G⟩ (some d) (.call ⟨.builtin .append, ⟨[x, y]⟩, ⟨[t, t]⟩⟩) ty (vfp p) (fun σ' => ∃ p' c', σ' = ⟨(d, .slice p' (n + m) c') :: env, hp' p' c', G⟩) := by
  refine ⟨fun a w hs pos af gd Q next hn => ?_⟩
  have hz := hE.len
  obtain ⟨_, hE⟩ := hE.ok
  obtain ⟨rest, q1, _⟩ := (hm none 0).perm
  have hown : Own [.slc p c el sz n cs] G w := hs.res.own.of_mem q1
  obtain ⟨inf, z, t1, t2, t3, t4, t5, t6, t7, t8⟩ := run_tyI (P := P) (t := el)
  have hu := hI.und
  rw [hd'] at hu
  obtain ⟨full, e, f, hfb, hfv⟩ := hs'.read hs
  have hnews : ∀ j u, news[j]? = some u → w.cell? ((⟨b, o, none⟩ : Addr).add j) = some u := fun j u hj => by rw [add_none]; simp [World.cell?, hfb, hfv j u hj]
  have hsz' : 0 < sz := by simpa using hsz
  have hrow := hown.ok _ List.mem_cons_self
  obtain ⟨v', w', hrun, hown', hgrow, _⟩ := run_append_own (P := P) w 0 t ty el inf z sz by' hu t6 t7 t8 t4 (by rw [t5]; exact hz) hsz' (.slice p n c) n cs hrow ⟨b, o, none⟩ m c' news hl hnews h1 h63 hb (Nat.zero_le _)
  have hv' : ∃ p' c', v' = .slice p' (n + m) c' := by
    rcases hown'.2 with ⟨hv, hn0⟩ | ⟨g, cap, cur, hv, _⟩
    · exact ⟨none, 0, by rw [hv, hn0]⟩
    · exact ⟨_, _, hv⟩
  obtain ⟨p', c'', rfl⟩ := hv'
  have hexec : (execOp a.eval ⟨some d, .call ⟨.builtin .append, ⟨[x, y]⟩, ⟨[t, t]⟩⟩, ty, pos, af, gd⟩).run P w = .ok (.value (.slice p' (n + m) c'')) w' := by
    simp only [execOp, resolve, invoke, builtin, Sem.run_bind, Sem.run_pure, Result.andThen_ok]
    have e1 : (⟨[x, y]⟩ : Array Operand).map a.eval = #[.slice p n c, .slice (some ⟨b, o, none⟩) m c'] := by
      simp [(hs.evo hx : a.eval x = _), (hs.evo hy : a.eval y = _)]
    rw [e1]
    have : (Builtin.append_ ⟨[t, t]⟩ ty #[.slice p n c, .slice (some ⟨b, o, none⟩) m c']).run P w = .ok (.slice p' (n + m) c'') w' := hrun
    rw [this]; rfl
  simp only [Oper.wp, hexec, Oper.upon]
  have hnew : ∀ g, p' = some g → (∃ q, p = some q ∧ q.block = g.block) ∨ w.heap.size ≤ g.block := by
    intro g hg
    subst hg
    rcases hrow.2 with ⟨hv, hn0⟩ | ⟨g0, cap, cur, hv, _, hg0, hnc, hcm, hcs, htake⟩
    · right
      cases hv
      obtain ⟨v2, w2, hrun2, hown2, _⟩ := run_append_own (P := P) w w.heap.size t ty el inf z sz by' hu t6 t7 t8 t4 (by rw [t5]; exact hz) hsz' (.slice none 0 0) 0 [] (World.ownsRow_nil w _ el _) ⟨b, o, none⟩ m c' news hl hnews h1 (by omega) (by omega) (Nat.le_refl _)
      rw [hrun] at hrun2
      cases hrun2
      rcases hown2.2 with ⟨hv2, _⟩ | ⟨g2, _, _, hv2, hb2, _⟩
      · cases hv2
      · cases hv2; exact hb2
    · cases hv
      have hcl : cs.length = n * sz := hrow.1
      by_cases hroom : n + m ≤ c
      · left
        have hfit : n * inf.size + news.length ≤ cur.size := by rw [t8, hl, hcs, ← Nat.add_mul]; exact Nat.mul_le_mul_right _ hroom
        have hr := run_append_room (P := P) w t ty el inf hu t6 g0 n c cur hg0 ⟨b, o, none⟩ m c' news (by rw [t8]; exact hl) hnews h1 hroom hfit
        rw [hrun] at hr
        cases hr
        exact ⟨_, rfl, rfl⟩
      · right
        have holds : ∀ j u, cs[j]? = some u → w.cell? ((⟨g0, 0, none⟩ : Addr).add j) = some u := hrow.cells (g := g0) rfl
        have hm63 : n + m ≤ 9223372036854775807 := by unfold maxLen at h63; omega
        have hr := run_append_grow (P := P) w t ty el inf z hu t6 t7 ⟨g0, 0, none⟩ n c cs (by rw [t8]; exact hcl) holds ⟨b, o, none⟩ m c' news (by rw [t8]; exact hl) hnews (by omega) (by omega) (by rw [t4]; exact growslice_fits (by omega) hb)
        rw [hrun] at hr
        cases hr
        exact Nat.le_refl _
  have hr := res_grown hown hown' hgrow hnew
  obtain ⟨rest, q1, q2⟩ := (hm p' c'').perm
  exact hn _ _ _ (hs.step q1 hr q2 (d := some d) hd) (by
    have := hr.ext
    simpa [Fp, Ent.fp] using this) ⟨p', c'', rfl⟩

/-- append(dst, src...) where the source is empty. -/
theorem pure_append0 {x y : Operand} {t el : TypeId} {i : TyR} [hI : TyI P t i] (hd' : i.desc = .slice el) {ie : TyR} [hE : TyI P el ie] {p q : Option Addr} {c n c' : Nat}
    (hx : evo env x = some (.slice p n c)) (hy : evo env y = some (.slice q 0 c')) (hc : n ≤ c) :
    PureOp P Γ ⟨env, hp, G⟩ (.call ⟨.builtin .append, ⟨[x, y]⟩, ⟨[t, t]⟩⟩) ty (.slice p n c) := by
  refine ⟨fun a _ hs _ _ _ _ w => ?_⟩
  have hu := hI.und
  rw [hd'] at hu
  obtain ⟨inf, z, t1, t2, t3, t4, t5, t6, t7, t8⟩ := run_tyI (P := P) (t := el)
  simp only [execOp, resolve, invoke, builtin, Sem.run_bind, Sem.run_pure, Result.andThen_ok]
  have e1 : (⟨[x, y]⟩ : Array Operand).map a.eval = #[.slice p n c, .slice q 0 c'] := by
    simp [(hs.evo hx : a.eval x = _), (hs.evo hy : a.eval y = _)]
  rw [e1]
  have hf : (Builtin.firstCells ie.size 0 (.slice q 0 c')).run P w = .ok #[] w := by
    cases q <;> simp [Builtin.firstCells, loadCells, loadCellsFrom]
  have : (Builtin.append_ ⟨[t, t]⟩ ty #[.slice p n c, .slice q 0 c']).run P w = .ok (.slice p n c) w := by
    simp only [Builtin.append_, show (⟨[t, t]⟩ : Array TypeId)[0]? = some t from rfl, show (⟨[t, t]⟩ : Array TypeId)[1]? = some t from rfl, show (#[Value.slice p n c, Value.slice q 0 c'] : Array Value)[0]? = some (Value.slice p n c) from rfl, show (#[Value.slice p n c, Value.slice q 0 c'] : Array Value)[1]? = some (Value.slice q 0 c') from rfl,
      Sem.run_bind, run_underlying hu, Result.andThen_ok, t3, Sem.run_pure, Builtin.lenOf, Bool.not_false, if_true, Nat.add_zero, hc, hf, Bool.false_eq_true, if_false]
    cases p <;> simp [hf, storeCells]
  rw [this]; rfl

/- Opening an own slice: where it has elements, it lies at the head of a block. -/
theorem St.slc_form {a : Act} {w : World} {p : Option Addr} {c el sz n : Nat} {cs : List Value} (hs : St Γ ⟨env, hp, G⟩ a w) (hm : Ent.slc p c el sz n cs ∈ hp) :
    cs.length = n * sz ∧ n ≤ c ∧ (0 < n → ∃ g, p = some ⟨g, 0, none⟩) := by
  have h := hs.res.own.ok _ hm
  refine ⟨h.1, ?_⟩
  rcases h.2 with ⟨hv, hn⟩ | ⟨g, cap, cur, hv, _, _, hnc, _⟩
  · cases hv; exact ⟨Nat.le_refl _, fun h => absurd h (by omega)⟩
  · cases hv; exact ⟨hnc, fun _ => ⟨g, rfl⟩⟩

/-- What any state of this shape lets us say. -/
theorem triL_know {σ : Sy} {X : Prop} (hx : ∀ a w, St Γ σ a w → X) (h : X → TriL P Γ ops rest K σ) : TriL P Γ ops rest K σ := ⟨fun a w hs => (h (hx a w hs)).run a w hs⟩
theorem tri_know {σ : Sy} {c : Code} {X : Prop} (hx : ∀ a w, St Γ σ a w → X) (h : X → Tri P Γ c K σ) : Tri P Γ c K σ := ⟨fun a w hs => (h (hx a w hs)).run a w hs⟩
theorem any_know {σ : Sy} {H : List (Nat × Nat)} {fuel : Nat} {listed : List Bool} {X : Prop} (hx : ∀ a w, St Γ σ a w → X) (h : X → AnyL P Γ ops K H fuel listed σ) : AnyL P Γ ops K H fuel listed σ := ⟨fun a w hs => (h (hx a w hs)).run a w hs⟩

/-- A slice in blocks that no longer change. -/
def Sl (G : IM) (p : Option Addr) (n c sz : Nat) (cs : List Value) : Prop :=
  cs.length = n * sz ∧ n ≤ c ∧ c ≤ maxLen ∧ (n = 0 ∨ ∃ b o full, p = some ⟨b, o, none⟩ ∧ G b = some full ∧ ∀ j v, cs[j]? = some v → full[o + j]? = some v)
theorem Sl.mono {G G' : IM} {p : Option Addr} {n c sz : Nat} {cs : List Value} (h : Sl G p n c sz cs) (hg : IMle G G') : Sl G' p n c sz cs := by
  obtain ⟨h1, h2, h3, h4⟩ := h
  refine ⟨h1, h2, h3, h4.imp id ?_⟩
  rintro ⟨b, o, full, e1, e2, e3⟩
  exact ⟨b, o, full, e1, hg b full e2, e3⟩
theorem Sl.nil (G : IM) (sz : Nat) : Sl G none 0 0 sz [] := ⟨by simp, Nat.le_refl _, Nat.zero_le _, .inl rfl⟩

/-- Giving up an own slice. -/
theorem res_freeze {w : World} {p : Option Addr} {c el sz n : Nat} {cs : List Value} (hown : Own [.slc p c el sz n cs] G w) :
    ∃ G', Res [.slc p c el sz n cs] G w [] G' w ∧ Sl G' p n c sz cs ∧ ∀ b ∈ vfp p, G b = none ∧ G' b ≠ none := by
  obtain ⟨hl, h⟩ := hown.ok _ List.mem_cons_self
  rcases h with ⟨hv, hn⟩ | ⟨g, cap, cur, hv, _, hg, hnc, hcm, hcs, ht⟩
  · cases hv
    exact ⟨G, ⟨⟨hown.inn, by simp, by simp [Fp], by simp [Fp]⟩, Ext.refl _ _, IMle.refl _, fun _ _ h => .inl h, by simp [Fp], fun b l h h0 => absurd h (by rw [h0]; simp)⟩, ⟨hl, Nat.le_refl _, Nat.zero_le _, .inl rfl⟩, by simp [vfp]⟩
  · cases hv
    have hG : G g = none := hown.disj g (by simp [Fp, Ent.fp, vfp])
    refine ⟨fun b => if b = g then some cur.toList else G b, ⟨⟨?_, by simp, by simp [Fp], by simp [Fp]⟩, Ext.refl _ _, ?_, ?_, by simp [Fp], ?_⟩, ⟨hl, hnc, hcm, ?_⟩, by simp [vfp, hG]⟩
    · intro b l hb
      replace hb : (if b = g then some cur.toList else G b) = some l := hb
      split at hb
      · rename_i he; subst he; simp at hb; subst hb; exact ⟨el, (0, 0), by simpa using hg⟩
      · exact hown.inn b l hb
    · intro b l hb
      show (if b = g then some cur.toList else G b) = some l
      rw [if_neg]
      · exact hb
      · rintro rfl; rw [hG] at hb; cases hb
    · intro b l hb
      replace hb : (if b = g then some cur.toList else G b) = some l := hb
      split at hb
      · rename_i he; subst he; exact .inr (.inr (by simp [Fp, Ent.fp, vfp]))
      · exact .inl hb
    · intro b l hb h0
      replace hb : (if b = g then some cur.toList else G b) = some l := hb
      split at hb
      · rename_i he; subst he; simp at hb; subst hb; exact ⟨el, by simpa using hg⟩
      · rw [h0] at hb; cases hb
    · rcases Nat.eq_zero_or_pos n with h0 | h0
      · exact .inl h0
      · refine .inr ⟨g, 0, cur.toList, rfl, by simp, fun j v hj => ?_⟩
        rw [← ht, List.getElem?_take] at hj
        split at hj
        · simpa using hj
        · cases hj

/-- Nothing is an empty slice of one's own. -/
theorem St.nil_slc {a : Act} {w : World} (hs : St Γ ⟨env, hp, G⟩ a w) (el sz : Nat) : St Γ ⟨env, .slc none 0 el sz 0 [] :: hp, G⟩ a w := by
  refine ⟨hs.size, hs.nod, hs.env, ⟨⟨hs.res.own.inn, ?_, ?_, ?_⟩, hs.res.ext, hs.res.le, hs.res.fresh, ?_, hs.res.fz⟩⟩
  · intro e he
    rcases List.mem_cons.1 he with rfl | he
    · exact World.ownsRow_nil w 0 el sz
    · exact hs.res.own.ok e he
  · simpa [Fp, Ent.fp, vfp] using hs.res.own.nodup
  · intro b hb; exact hs.res.own.disj b (by simpa [Fp, Ent.fp, vfp] using hb)
  · intro b hb; exact hs.res.ofresh b (by simpa [Fp, Ent.fp, vfp] using hb)
theorem tri_nil {cd : Code} (el sz : Nat) (h : Tri P Γ cd K ⟨env, .slc none 0 el sz 0 [] :: hp, G⟩) : Tri P Γ cd K ⟨env, hp, G⟩ := ⟨fun a w hs => h.run a w (hs.nil_slc el sz)⟩
theorem triL_nil (el sz : Nat) (h : TriL P Γ ops rest K ⟨env, .slc none 0 el sz 0 [] :: hp, G⟩) : TriL P Γ ops rest K ⟨env, hp, G⟩ := ⟨fun a w hs => h.run a w (hs.nil_slc el sz)⟩
theorem any_nil {H : List (Nat × Nat)} {fuel : Nat} {listed : List Bool} (el sz : Nat) (h : AnyL P Γ ops K H fuel listed ⟨env, .slc none 0 el sz 0 [] :: hp, G⟩) : AnyL P Γ ops K H fuel listed ⟨env, hp, G⟩ := ⟨fun a w hs => h.run a w (hs.nil_slc el sz)⟩

inductive Pk : List Ent → Ent → List Ent → Prop
  | here {e : Ent} {r : List Ent} : Pk (e :: r) e r
  | there {x e : Ent} {r r' : List Ent} : Pk r e r' → Pk (x :: r) e (x :: r')
theorem Pk.perm {hp hp' : List Ent} {e : Ent} (h : Pk hp e hp') : hp.Perm ([e] ++ hp') := by
  induction h with
  | here => exact List.Perm.refl _
  | there _ ih => exact (ih.cons _).trans (List.Perm.swap _ _ _)

theorem St.freeze {a : Act} {w : World} {hp' : List Ent} {p : Option Addr} {c el sz n : Nat} {cs : List Value} (hs : St Γ ⟨env, hp, G⟩ a w) (hk : Pk hp (.slc p c el sz n cs) hp') :
    ∃ G', St Γ ⟨env, hp', G'⟩ a w ∧ IMle G G' ∧ Sl G' p n c sz cs ∧ ∀ b ∈ vfp p, G b = none ∧ G' b ≠ none := by
  have hown : Own [.slc p c el sz n cs] G w := hs.res.own.of_mem hk.perm
  obtain ⟨G', hr, hsl, hno⟩ := res_freeze hown
  exact ⟨G', ⟨hs.size, hs.nod, hs.env, by have := (hs.res.perm hk.perm).frame hr; simpa using this⟩, hr.le, hsl, hno⟩

theorem tri_freeze {cd : Code} {hp' : List Ent} {p : Option Addr} {c el sz n : Nat} {cs : List Value} (hk : Pk hp (.slc p c el sz n cs) hp')
    (h : ∀ G', IMle G G' → Sl G' p n c sz cs → (∀ b ∈ vfp p, G b = none ∧ G' b ≠ none) → Tri P Γ cd K ⟨env, hp', G'⟩) : Tri P Γ cd K ⟨env, hp, G⟩ :=
  ⟨fun a w hs => let ⟨G', h1, h2, h3, h4⟩ := hs.freeze hk; (h G' h2 h3 h4).run a w h1⟩
theorem ret_freeze {hp' : List Ent} {p : Option Addr} {c el sz n : Nat} {cs : List Value} (hk : Pk hp (.slc p c el sz n cs) hp')
    (h : ∀ G', IMle G G' → Sl G' p n c sz cs → (∀ b ∈ vfp p, G b = none ∧ G' b ≠ none) → Tri P Γ .ret K ⟨env, hp', G'⟩) : Tri P Γ .ret K ⟨env, hp, G⟩ := tri_freeze hk h
theorem triL_freeze {hp' : List Ent} {p : Option Addr} {c el sz n : Nat} {cs : List Value} (hk : Pk hp (.slc p c el sz n cs) hp')
    (h : ∀ G', IMle G G' → Sl G' p n c sz cs → (∀ b ∈ vfp p, G b = none ∧ G' b ≠ none) → TriL P Γ ops rest K ⟨env, hp', G'⟩) : TriL P Γ ops rest K ⟨env, hp, G⟩ :=
  ⟨fun a w hs => let ⟨G', h1, h2, h3, h4⟩ := hs.freeze hk; (h G' h2 h3 h4).run a w h1⟩
theorem any_freeze {H : List (Nat × Nat)} {fuel : Nat} {listed : List Bool} {hp' : List Ent} {p : Option Addr} {c el sz n : Nat} {cs : List Value} (hk : Pk hp (.slc p c el sz n cs) hp')
    (h : ∀ G', IMle G G' → Sl G' p n c sz cs → (∀ b ∈ vfp p, G b = none ∧ G' b ≠ none) → AnyL P Γ ops K H fuel listed ⟨env, hp', G'⟩) : AnyL P Γ ops K H fuel listed ⟨env, hp, G⟩ :=
  ⟨fun a w hs => let ⟨G', h1, h2, h3, h4⟩ := hs.freeze hk; (h G' h2 h3 h4).run a w h1⟩

/- Calls by their posts. -/
/-- The call gives just this value and changes nothing. -/
def Val (v0 : Value) (G : IM) : IM → Value → List Ent → Prop := fun G' v outs => G' = G ∧ v = v0 ∧ outs = []
/-- The call gives a value of which this holds, in memory that no longer changes. -/
def Imm (Φ : IM → Value → Prop) : IM → Value → List Ent → Prop := fun G' v outs => outs = [] ∧ Φ G' v

theorem seq_val {d : Nat} {f : FuncId} [hF : FunI P f] {xs : List Operand} {ats : Array TypeId} {vs : List Value} {v0 : Value}
    (hx : evl env xs = some vs) (h : Fn P f vs [] G (Val v0 G)) (hw : wantG ops env gd = some true) (hd : Nat.blt d Γ.n = true)
    (k : TriL P Γ ops rest K ⟨(d, v0) :: env, hp, G⟩) : TriL P Γ ops (⟨some d, .call ⟨.value (.func f), ⟨xs⟩, ats⟩, ty, pos, af, gd⟩ :: rest) K ⟨env, hp, G⟩ :=
  seq_step (step_call hx h hd) hw (by rintro _ ⟨v, G', outs, rfl, _, rfl, rfl, rfl⟩; exact k)
theorem seq_valb {d : Nat} {f : FuncId} [hF : FunI P f] {xs : List Operand} {ats : Array TypeId} {vs : List Value} {b : Bool}
    (hx : evl env xs = some vs) (h : Fn P f vs [] G (Val (.bool b) G)) (hw : wantG ops env gd = some true) (hd : Nat.blt d Γ.n = true)
    (kt : b = true → TriL P Γ ops rest K ⟨(d, .bool true) :: env, hp, G⟩) (kf : b = false → TriL P Γ ops rest K ⟨(d, .bool false) :: env, hp, G⟩) :
    TriL P Γ ops (⟨some d, .call ⟨.value (.func f), ⟨xs⟩, ats⟩, ty, pos, af, gd⟩ :: rest) K ⟨env, hp, G⟩ := by
  cases b
  · exact seq_val hx h hw hd (kf rfl)
  · exact seq_val hx h hw hd (kt rfl)
theorem seq_imm {d : Nat} {f : FuncId} [hF : FunI P f] {xs : List Operand} {ats : Array TypeId} {vs : List Value} {Φ : IM → Value → Prop}
    (hx : evl env xs = some vs) (h : Fn P f vs [] G (Imm Φ)) (hw : wantG ops env gd = some true) (hd : Nat.blt d Γ.n = true)
    (k : ∀ v G', IMle G G' → Φ G' v → TriL P Γ ops rest K ⟨(d, v) :: env, hp, G'⟩) : TriL P Γ ops (⟨some d, .call ⟨.value (.func f), ⟨xs⟩, ats⟩, ty, pos, af, gd⟩ :: rest) K ⟨env, hp, G⟩ :=
  seq_step (step_call hx h hd) hw (by rintro _ ⟨v, G', outs, rfl, hle, rfl, hΦ⟩; exact k v G' hle hΦ)
theorem seq_own {d : Nat} {f : FuncId} [hF : FunI P f] {xs : List Operand} {ats : Array TypeId} {vs : List Value} {post : IM → Value → List Ent → Prop}
    (hx : evl env xs = some vs) (h : Fn P f vs [] G post) (hw : wantG ops env gd = some true) (hd : Nat.blt d Γ.n = true)
    (k : ∀ v G' outs, IMle G G' → post G' v outs → TriL P Γ ops rest K ⟨(d, v) :: env, outs ++ hp, G'⟩) : TriL P Γ ops (⟨some d, .call ⟨.value (.func f), ⟨xs⟩, ats⟩, ty, pos, af, gd⟩ :: rest) K ⟨env, hp, G⟩ :=
  seq_step (step_call hx h hd) hw (by rintro _ ⟨v, G', outs, rfl, hle, hp⟩; exact k v G' outs hle hp)
theorem seq_vval {d : Nat} {f : FuncId} [hF : FunI P f] {g : Operand} {xs : List Operand} {ats : Array TypeId} {vs us cs : List Value} {v0 : Value}
    (hg : evo env g = some (.func (.func f) ⟨us⟩ ⟨cs⟩)) (hx : evl env xs = some vs) (h : Fn P f (us ++ vs ++ cs) [] G (Val v0 G)) (hw : wantG ops env gd = some true) (hd : Nat.blt d Γ.n = true)
    (k : TriL P Γ ops rest K ⟨(d, v0) :: env, hp, G⟩) : TriL P Γ ops (⟨some d, .call ⟨.value g, ⟨xs⟩, ats⟩, ty, pos, af, gd⟩ :: rest) K ⟨env, hp, G⟩ :=
  seq_step (step_callv hg hx h (List.Perm.refl _) hd) hw (by rintro _ ⟨v, G', outs, rfl, _, rfl, rfl, rfl⟩; exact k)
theorem seq_vvalb {d : Nat} {f : FuncId} [hF : FunI P f] {g : Operand} {xs : List Operand} {ats : Array TypeId} {vs us cs : List Value} {b : Bool}
    (hg : evo env g = some (.func (.func f) ⟨us⟩ ⟨cs⟩)) (hx : evl env xs = some vs) (h : Fn P f (us ++ vs ++ cs) [] G (Val (.bool b) G)) (hw : wantG ops env gd = some true) (hd : Nat.blt d Γ.n = true)
    (kt : b = true → TriL P Γ ops rest K ⟨(d, .bool true) :: env, hp, G⟩) (kf : b = false → TriL P Γ ops rest K ⟨(d, .bool false) :: env, hp, G⟩) :
    TriL P Γ ops (⟨some d, .call ⟨.value g, ⟨xs⟩, ats⟩, ty, pos, af, gd⟩ :: rest) K ⟨env, hp, G⟩ := by
  cases b
  · exact seq_vval hg hx h hw hd (kf rfl)
  · exact seq_vval hg hx h hw hd (kt rfl)

/-- The call gives just this value and hands back what it was lent. -/
def ValO (v0 : Value) (ins : List Ent) (G : IM) : IM → Value → List Ent → Prop := fun G' v outs => G' = G ∧ v = v0 ∧ outs = ins
theorem triL_perm {hp' : List Ent} (p : hp.Perm hp') (k : TriL P Γ ops rest K ⟨env, hp', G⟩) : TriL P Γ ops rest K ⟨env, hp, G⟩ :=
  ⟨fun a w hs => k.run a w ⟨hs.size, hs.nod, hs.env, hs.res.perm p⟩⟩
theorem seq_valo {d : Nat} {f : FuncId} [hF : FunI P f] {xs : List Operand} {ats : Array TypeId} {vs : List Value} {v0 : Value} {ins rst : List Ent}
    (hx : evl env xs = some vs) (h : Fn P f vs ins G (ValO v0 ins G)) (hp' : hp.Perm (ins ++ rst)) (hw : wantG ops env gd = some true) (hd : Nat.blt d Γ.n = true)
    (k : TriL P Γ ops rest K ⟨(d, v0) :: env, hp, G⟩) : TriL P Γ ops (⟨some d, .call ⟨.value (.func f), ⟨xs⟩, ats⟩, ty, pos, af, gd⟩ :: rest) K ⟨env, hp, G⟩ :=
  seq_step (step_call_own hx h hp' hd) hw (by rintro _ ⟨v, G', outs, rfl, _, rfl, rfl, rfl⟩; exact triL_perm hp'.symm k)
theorem seq_vvalo {d : Nat} {f : FuncId} [hF : FunI P f] {g : Operand} {xs : List Operand} {ats : Array TypeId} {vs us cs : List Value} {v0 : Value} {ins rst : List Ent}
    (hg : evo env g = some (.func (.func f) ⟨us⟩ ⟨cs⟩)) (hx : evl env xs = some vs) (h : Fn P f (us ++ vs ++ cs) ins G (ValO v0 ins G)) (hp' : hp.Perm (ins ++ rst)) (hw : wantG ops env gd = some true) (hd : Nat.blt d Γ.n = true)
    (k : TriL P Γ ops rest K ⟨(d, v0) :: env, hp, G⟩) : TriL P Γ ops (⟨some d, .call ⟨.value g, ⟨xs⟩, ats⟩, ty, pos, af, gd⟩ :: rest) K ⟨env, hp, G⟩ :=
  seq_step (step_callv hg hx h hp' hd) hw (by rintro _ ⟨v, G', outs, rfl, _, rfl, rfl, rfl⟩; exact triL_perm hp'.symm k)
theorem seq_valbo {d : Nat} {f : FuncId} [hF : FunI P f] {xs : List Operand} {ats : Array TypeId} {vs : List Value} {b : Bool} {ins rst : List Ent}
    (hx : evl env xs = some vs) (h : Fn P f vs ins G (ValO (.bool b) ins G)) (hp' : hp.Perm (ins ++ rst)) (hw : wantG ops env gd = some true) (hd : Nat.blt d Γ.n = true)
    (kt : b = true → TriL P Γ ops rest K ⟨(d, .bool true) :: env, hp, G⟩) (kf : b = false → TriL P Γ ops rest K ⟨(d, .bool false) :: env, hp, G⟩) :
    TriL P Γ ops (⟨some d, .call ⟨.value (.func f), ⟨xs⟩, ats⟩, ty, pos, af, gd⟩ :: rest) K ⟨env, hp, G⟩ := by
  cases b
  · exact seq_valo hx h hp' hw hd (kf rfl)
  · exact seq_valo hx h hp' hw hd (kt rfl)
theorem seq_vvalbo {d : Nat} {f : FuncId} [hF : FunI P f] {g : Operand} {xs : List Operand} {ats : Array TypeId} {vs us cs : List Value} {b : Bool} {ins rst : List Ent}
    (hg : evo env g = some (.func (.func f) ⟨us⟩ ⟨cs⟩)) (hx : evl env xs = some vs) (h : Fn P f (us ++ vs ++ cs) ins G (ValO (.bool b) ins G)) (hp' : hp.Perm (ins ++ rst)) (hw : wantG ops env gd = some true) (hd : Nat.blt d Γ.n = true)
    (kt : b = true → TriL P Γ ops rest K ⟨(d, .bool true) :: env, hp, G⟩) (kf : b = false → TriL P Γ ops rest K ⟨(d, .bool false) :: env, hp, G⟩) :
    TriL P Γ ops (⟨some d, .call ⟨.value g, ⟨xs⟩, ats⟩, ty, pos, af, gd⟩ :: rest) K ⟨env, hp, G⟩ := by
  cases b
  · exact seq_vvalo hg hx h hp' hw hd (kf rfl)
  · exact seq_vvalo hg hx h hp' hw hd (kt rfl)

/-- The call changes what the callee was handed. -/
theorem seq_valx {d : Nat} {f : FuncId} [hF : FunI P f] {xs : List Operand} {ats : Array TypeId} {vs : List Value} {v0 : Value} {ins outs rst : List Ent}
    (hx : evl env xs = some vs) (h : Fn P f vs ins G (ValO v0 outs G)) (hp' : hp.Perm (ins ++ rst)) (hw : wantG ops env gd = some true) (hd : Nat.blt d Γ.n = true)
    (k : TriL P Γ ops rest K ⟨(d, v0) :: env, outs ++ rst, G⟩) : TriL P Γ ops (⟨some d, .call ⟨.value (.func f), ⟨xs⟩, ats⟩, ty, pos, af, gd⟩ :: rest) K ⟨env, hp, G⟩ :=
  seq_step (step_call_own hx h hp' hd) hw (by rintro _ ⟨v, G', outs, rfl, _, rfl, rfl, rfl⟩; exact k)
theorem seq_valbx {d : Nat} {f : FuncId} [hF : FunI P f] {xs : List Operand} {ats : Array TypeId} {vs : List Value} {b : Bool} {ins outs rst : List Ent}
    (hx : evl env xs = some vs) (h : Fn P f vs ins G (ValO (.bool b) outs G)) (hp' : hp.Perm (ins ++ rst)) (hw : wantG ops env gd = some true) (hd : Nat.blt d Γ.n = true)
    (kt : b = true → TriL P Γ ops rest K ⟨(d, .bool true) :: env, outs ++ rst, G⟩) (kf : b = false → TriL P Γ ops rest K ⟨(d, .bool false) :: env, outs ++ rst, G⟩) :
    TriL P Γ ops (⟨some d, .call ⟨.value (.func f), ⟨xs⟩, ats⟩, ty, pos, af, gd⟩ :: rest) K ⟨env, hp, G⟩ := by
  cases b
  · exact seq_valx hx h hp' hw hd (kf rfl)
  · exact seq_valx hx h hp' hw hd (kt rfl)
theorem perm_two {a b : Ent} {r : List Ent} : (a :: b :: r).Perm (r ++ [a, b]) := List.perm_append_comm (l₁ := [a, b])
theorem perm_all : hp.Perm (hp ++ []) := by simp
/- What a state may forget. -/
inductive SubE (e : Env) : Env → Prop
  | nil : SubE e []
  | cons {t : Nat} {v : Value} {e' : Env} : look e t = some v → SubE e e' → SubE e ((t, v) :: e')
inductive SubH : List Ent → List Ent → Prop
  | nil {h : List Ent} : SubH h []
  | refl {h : List Ent} : SubH h h
  | cons {h h' r : List Ent} {e : Ent} : Pk h e r → SubH r h' → SubH h (e :: h')
  | drop {x : Ent} {h h' : List Ent} : SubH h h' → SubH (x :: h) h'
theorem SubE.spec {e e' : Env} (h : SubE e e') : ∀ t v, look e' t = some v → look e t = some v := by
  induction h with
  | nil => intro t v h; simp [look] at h
  | @cons t0 v0 e' h0 _ ih =>
    intro t v h
    rw [look_cons] at h
    split at h
    · rename_i he; subst he; simp at h; subst h; exact h0
    · exact ih t v h
theorem SubH.spec {h h' : List Ent} (hs : SubH h h') : ∃ r, h.Perm (h' ++ r) := by
  induction hs with
  | @nil h => exact ⟨h, List.Perm.refl _⟩
  | @refl h => exact ⟨[], by simp⟩
  | @cons h h' r e hk _ ih =>
    obtain ⟨r', hr'⟩ := ih
    exact ⟨r', hk.perm.trans (by simpa using hr'.cons e)⟩
  | @drop x h h' _ ih =>
    obtain ⟨r', hr'⟩ := ih
    exact ⟨x :: r', (hr'.cons x).trans List.perm_middle.symm⟩
theorem flat_snoc (es : List (List Value)) (a : List Value) : (es ++ [a]).flatten = es.flatten ++ a := by simp
theorem sub_mk {e' : Env} {hp' : List Ent} (h : SubE env e') (h2 : SubH hp hp') : Sub ⟨env, hp, G⟩ ⟨e', hp', G⟩ := ⟨h.spec, h2.spec, rfl⟩

theorem ret_fin1 {r : ResultVar} {post : IM → Value → List Ent → Prop} {v : Value} (h : ResOne P Γ ⟨env, hp, G⟩ r v) (hk : post G v []) :
    retK P Γ [r] post .ret ⟨env, hp, G⟩ := ret_fin0 (.cons h .nil) hk
theorem ret_fin2 {r r2 : ResultVar} {post : IM → Value → List Ent → Prop} {v v2 : Value} (h : ResOne P Γ ⟨env, hp, G⟩ r v) (h2 : ResOne P Γ ⟨env, hp, G⟩ r2 v2) (hk : post G (.tuple ⟨[v, v2]⟩) []) :
    retK P Γ [r, r2] post .ret ⟨env, hp, G⟩ := ret_fin0 (.cons h (.cons h2 .nil)) hk
theorem ret_fin3 {r r2 r3 : ResultVar} {post : IM → Value → List Ent → Prop} {v v2 v3 : Value} (h : ResOne P Γ ⟨env, hp, G⟩ r v) (h2 : ResOne P Γ ⟨env, hp, G⟩ r2 v2) (h3 : ResOne P Γ ⟨env, hp, G⟩ r3 v3) (hk : post G (.tuple ⟨[v, v2, v3]⟩) []) :
    retK P Γ [r, r2, r3] post .ret ⟨env, hp, G⟩ := ret_fin0 (.cons h (.cons h2 (.cons h3 .nil))) hk
theorem ret_own1 {r : ResultVar} {post : IM → Value → List Ent → Prop} {v : Value} {outs : List Ent} (h : ResOne P Γ ⟨env, hp, G⟩ r v) (ho : SubH hp outs) (hk : post G v outs) :
    retK P Γ [r] post .ret ⟨env, hp, G⟩ := ret_fin (.cons h .nil) ho.spec hk
theorem ret_own2 {r r2 : ResultVar} {post : IM → Value → List Ent → Prop} {v v2 : Value} {outs : List Ent} (h : ResOne P Γ ⟨env, hp, G⟩ r v) (h2 : ResOne P Γ ⟨env, hp, G⟩ r2 v2) (ho : SubH hp outs) (hk : post G (.tuple ⟨[v, v2]⟩) outs) :
    retK P Γ [r, r2] post .ret ⟨env, hp, G⟩ := ret_fin (.cons h (.cons h2 .nil)) ho.spec hk
/- A region's drawn order, one operation after the other. -/
theorem one_step0 {H : List (Nat × Nat)} {fuel : Nat} {listed listed' : List Bool} {j : Nat} {d : Option Nat} {op : Op} {K' : Sy → Prop} {σ : Sy} (hi : ops[j]? = some ⟨d, op, ty, pos, af, gd⟩)
    (h : StepOp P Γ σ d op ty [] K') (hw : wantG ops σ.env gd = some true) (hl : listed.set j true = listed')
    (k : ∀ σ', K' σ' → AnyL P Γ ops K H fuel listed' σ') : One P Γ ops K H fuel listed j σ := by
  refine ⟨fun a w hs Hs hHs hall hdc hrd => ?_⟩
  unfold wpOp
  simp only [hi, wantG_ok hs.env hw, if_true]
  refine .inl (h.run a w hs pos af gd _ _ fun a' w' σ' h1 h2 h3 => ?_)
  have hkeep : ∀ h ∈ Hs, w'.heap[h.b]? = some h.o := fun x hx => by rw [h2.block x.b (lt_of_some (hall x hx)) (by simp), hall x hx]
  have hn : ∀ h ∈ Hn ops j Hs, w'.heap[h.b]? = some h.o := fun x hx => hkeep x (List.mem_filter.1 hx).1
  refine ⟨hn, ?_⟩
  have := (k σ' h3).run a' w' h1 Hs hHs hkeep (by rw [← hl]; simpa using hdc.step hrd)
  rw [← hl] at this
  exact wpG_drop _ (fun x hx => (List.mem_filter.1 hx).1) _ _ _ (by simpa using this)

/-- A step that writes blocks of the call's own, none of them read by a load that was taken first, or every such load waited for. -/
theorem one_stepM {H H' : List (Nat × Nat)} {fuel : Nat} {listed listed' : List Bool} {j : Nat} {d : Option Nat} {op : Op} {mods : List Nat} {K' : Sy → Prop} {σ : Sy} (hi : ops[j]? = some ⟨d, op, ty, pos, af, gd⟩)
    (h : StepOp P Γ σ d op ty mods K') (hw : wantG ops σ.env gd = some true) (hl : listed.set j true = listed')
    (hm : ∀ a w, St Γ σ a w → ∀ p ∈ H, depb ops j p.1 = true ∨ p.2 ∉ mods) (hH : H.filter (fun p => !depb ops j p.1) = H')
    (k : ∀ σ', K' σ' → AnyL P Γ ops K H' fuel listed' σ') : One P Γ ops K H fuel listed j σ := by
  refine ⟨fun a w hs Hs hHs hall hdc hrd => ?_⟩
  exact (one_step (listed := listed) hi h hw hl (hm a w hs) (fun σ' hσ => by rw [hH]; exact k σ' hσ)).run a w hs Hs hHs hall hdc hrd
/-- Every load that was taken first is waited for. -/
theorem one_stepD {H : List (Nat × Nat)} {fuel : Nat} {listed listed' : List Bool} {j : Nat} {d : Option Nat} {op : Op} {mods : List Nat} {K' : Sy → Prop} {σ : Sy} (hi : ops[j]? = some ⟨d, op, ty, pos, af, gd⟩)
    (h : StepOp P Γ σ d op ty mods K') (hw : wantG ops σ.env gd = some true) (hl : listed.set j true = listed')
    (hm : ((H.map Prod.fst).all fun i => depb ops j i) = true)
    (k : ∀ σ', K' σ' → AnyL P Γ ops K [] fuel listed' σ') : One P Γ ops K H fuel listed j σ := by
  have hm' : ∀ p ∈ H, depb ops j p.1 = true := fun p hp => List.all_eq_true.1 hm p.1 (List.mem_map.2 ⟨p, hp, rfl⟩)
  refine one_stepM hi h hw hl (fun _ _ _ p hp => .inl (hm' p hp)) ?_ k
  rw [List.filter_eq_nil_iff]
  intro p hp
  simp [hm' p hp]

inductive HmOk (ops : Array Oper) (j : Nat) (hp : List Ent) (G : IM) (e : Ent) : List (Nat × Nat) → List (Nat × Nat) → Prop
  | nil : HmOk ops j hp G e [] []
  | dep {i b : Nat} {r r' : List (Nat × Nat)} : depb ops j i = true → HmOk ops j hp G e r r' → HmOk ops j hp G e ((i, b) :: r) r'
  | blk {i b : Nat} {cs : List Value} {rest : List Ent} {r r' : List (Nat × Nat)} : depb ops j i = false → Pk hp e rest → Ent.blk b cs ∈ rest → HmOk ops j hp G e r r' → HmOk ops j hp G e ((i, b) :: r) ((i, b) :: r')
  | slc {i b c el sz n : Nat} {cs : List Value} {rest : List Ent} {r r' : List (Nat × Nat)} : depb ops j i = false → Pk hp e rest → Ent.slc (some ⟨b, 0, none⟩) c el sz n cs ∈ rest → HmOk ops j hp G e r r' → HmOk ops j hp G e ((i, b) :: r) ((i, b) :: r')
  | im {i b : Nat} {r r' : List (Nat × Nat)} : depb ops j i = false → G b ≠ none → e ∈ hp → HmOk ops j hp G e r r' → HmOk ops j hp G e ((i, b) :: r) ((i, b) :: r')
theorem HmOk.filter {j : Nat} {e : Ent} {H H' : List (Nat × Nat)} (h : HmOk ops j hp G e H H') : H.filter (fun p => !depb ops j p.1) = H' := by
  induction h with
  | nil => rfl
  | dep hd _ ih => simp [hd, ih]
  | blk hd _ _ _ ih => simp [hd, ih]
  | slc hd _ _ _ ih => simp [hd, ih]
  | im hd _ _ _ ih => simp [hd, ih]

theorem HmOk.spec {j : Nat} {e : Ent} {H H' : List (Nat × Nat)} (h : HmOk ops j hp G e H H') {a : Act} {w : World} (hs : St Γ ⟨env, hp, G⟩ a w) : ∀ p ∈ H, depb ops j p.1 = true ∨ p.2 ∉ e.fp := by
  have other : ∀ {rest : List Ent} {x : Ent}, Pk hp e rest → x ∈ rest → ∀ b ∈ x.fp, b ∉ e.fp := by
    intro rest x hk hx b hb hbe
    have := (hs.res.own.perm hk.perm).nodup
    rw [Fp_append, List.nodup_append] at this
    exact this.2.2 b (by simpa [Fp] using hbe) b (mem_Fp.2 ⟨x, hx, hb⟩) rfl
  induction h with
  | nil => simp
  | dep hd _ ih =>
    intro p hp'
    rcases List.mem_cons.1 hp' with rfl | hp'
    · exact .inl hd
    · exact ih p hp'
  | blk _ hk hm _ ih =>
    intro p hp'
    rcases List.mem_cons.1 hp' with rfl | hp'
    · exact .inr (other hk hm _ (by simp [Ent.fp]))
    · exact ih p hp'
  | slc _ hk hm _ ih =>
    intro p hp'
    rcases List.mem_cons.1 hp' with rfl | hp'
    · exact .inr (other hk hm _ (by simp [Ent.fp, vfp]))
    · exact ih p hp'
  | im _ hg hm _ ih =>
    intro p hp'
    rcases List.mem_cons.1 hp' with rfl | hp'
    · refine .inr fun hbe => ?_
      exact hg (hs.res.own.disj _ (mem_Fp.2 ⟨e, hm, hbe⟩))
    · exact ih p hp'


section ones
variable {H : List (Nat × Nat)} {fuel : Nat} {listed listed' : List Bool} {j d : Nat} {f : FuncId} {xs : List Operand} {ats : Array TypeId} {vs us cs : List Value} {v0 : Value} {b : Bool} {ins rst : List Ent} {g : Operand}
theorem any_perm {hp' : List Ent} (p : hp.Perm hp') (k : AnyL P Γ ops K H fuel listed ⟨env, hp', G⟩) : AnyL P Γ ops K H fuel listed ⟨env, hp, G⟩ :=
  ⟨fun a w hs => k.run a w ⟨hs.size, hs.nod, hs.env, hs.res.perm p⟩⟩
theorem one_val [hF : FunI P f] (hi : ops[j]? = some ⟨some d, .call ⟨.value (.func f), ⟨xs⟩, ats⟩, ty, pos, af, gd⟩) (hx : evl env xs = some vs) (h : Fn P f vs [] G (Val v0 G)) (hw : wantG ops env gd = some true) (hd : Nat.blt d Γ.n = true) (hl : listed.set j true = listed')
    (k : AnyL P Γ ops K H fuel listed' ⟨(d, v0) :: env, hp, G⟩) : One P Γ ops K H fuel listed j ⟨env, hp, G⟩ :=
  one_step0 hi (step_call hx h hd) hw hl (by rintro _ ⟨v, G', outs, rfl, _, rfl, rfl, rfl⟩; exact k)
theorem one_valb [hF : FunI P f] (hi : ops[j]? = some ⟨some d, .call ⟨.value (.func f), ⟨xs⟩, ats⟩, ty, pos, af, gd⟩) (hx : evl env xs = some vs) (h : Fn P f vs [] G (Val (.bool b) G)) (hw : wantG ops env gd = some true) (hd : Nat.blt d Γ.n = true) (hl : listed.set j true = listed')
    (kt : b = true → AnyL P Γ ops K H fuel listed' ⟨(d, .bool true) :: env, hp, G⟩) (kf : b = false → AnyL P Γ ops K H fuel listed' ⟨(d, .bool false) :: env, hp, G⟩) : One P Γ ops K H fuel listed j ⟨env, hp, G⟩ := by
  cases b
  · exact one_val hi hx h hw hd hl (kf rfl)
  · exact one_val hi hx h hw hd hl (kt rfl)
theorem one_imm [hF : FunI P f] {Φ : IM → Value → Prop} (hi : ops[j]? = some ⟨some d, .call ⟨.value (.func f), ⟨xs⟩, ats⟩, ty, pos, af, gd⟩) (hx : evl env xs = some vs) (h : Fn P f vs [] G (Imm Φ)) (hw : wantG ops env gd = some true) (hd : Nat.blt d Γ.n = true) (hl : listed.set j true = listed')
    (k : ∀ v G', IMle G G' → Φ G' v → AnyL P Γ ops K H fuel listed' ⟨(d, v) :: env, hp, G'⟩) : One P Γ ops K H fuel listed j ⟨env, hp, G⟩ :=
  one_step0 hi (step_call hx h hd) hw hl (by rintro _ ⟨v, G', outs, rfl, hle, rfl, hΦ⟩; exact k v G' hle hΦ)
theorem one_own [hF : FunI P f] {post : IM → Value → List Ent → Prop} (hi : ops[j]? = some ⟨some d, .call ⟨.value (.func f), ⟨xs⟩, ats⟩, ty, pos, af, gd⟩) (hx : evl env xs = some vs) (h : Fn P f vs [] G post) (hw : wantG ops env gd = some true) (hd : Nat.blt d Γ.n = true) (hl : listed.set j true = listed')
    (k : ∀ v G' outs, IMle G G' → post G' v outs → AnyL P Γ ops K H fuel listed' ⟨(d, v) :: env, outs ++ hp, G'⟩) : One P Γ ops K H fuel listed j ⟨env, hp, G⟩ :=
  one_step0 hi (step_call hx h hd) hw hl (by rintro _ ⟨v, G', outs, rfl, hle, hp⟩; exact k v G' outs hle hp)
theorem one_vvalb [hF : FunI P f] (hi : ops[j]? = some ⟨some d, .call ⟨.value g, ⟨xs⟩, ats⟩, ty, pos, af, gd⟩) (hg : evo env g = some (.func (.func f) ⟨us⟩ ⟨cs⟩)) (hx : evl env xs = some vs) (h : Fn P f (us ++ vs ++ cs) [] G (Val (.bool b) G)) (hw : wantG ops env gd = some true) (hd : Nat.blt d Γ.n = true) (hl : listed.set j true = listed')
    (kt : b = true → AnyL P Γ ops K H fuel listed' ⟨(d, .bool true) :: env, hp, G⟩) (kf : b = false → AnyL P Γ ops K H fuel listed' ⟨(d, .bool false) :: env, hp, G⟩) : One P Γ ops K H fuel listed j ⟨env, hp, G⟩ := by
  cases b
  · exact one_step0 hi (step_callv hg hx h (List.Perm.refl _) hd) hw hl (by rintro _ ⟨v, G', outs, rfl, _, rfl, rfl, rfl⟩; exact kf rfl)
  · exact one_step0 hi (step_callv hg hx h (List.Perm.refl _) hd) hw hl (by rintro _ ⟨v, G', outs, rfl, _, rfl, rfl, rfl⟩; exact kt rfl)
theorem one_store {x y : Operand} {t : TypeId} {i : TyR} [hI : TyI P t i] {bb o : Nat} {v : Value} {cs' : List Value} {hp' : List Ent} (hi : ops[j]? = some ⟨none, .store t x y, ty, pos, af, gd⟩)
    (hx : evo env x = some (.pointer (some ⟨bb, o, none⟩))) (hy : evo env y = some v) (hv : v.cells = ⟨vs⟩) (hsz : vs.length = i.size) (h1 : vs.all (·.oneCell') = true)
    (hw : wantG ops env gd = some true) (hl : listed.set j true = listed') (hm : ((H.map Prod.fst).all fun i => depb ops j i) = true)
    (hsw : Sw hp (.blk bb cs) (.blk bb cs') hp') (hu : upd cs o vs = some cs')
    (k : AnyL P Γ ops K [] fuel listed' ⟨env, hp', G⟩) : One P Γ ops K H fuel listed j ⟨env, hp, G⟩ :=
  one_stepD hi (step_store hx hy hv hsz h1 hu hsw rfl) hw hl hm (by rintro _ rfl; exact k)
/-- append onto an own slice, among a region's operations. -/
theorem one_append {x y : Operand} {t el : TypeId} {i : TyR} {sz by' : Nat} {zs : List Value} [hI : TyI P t i] [hE : TySz P el sz by' zs] {p : Option Addr} {c n m bb o c' : Nat} {news : List Value} {hp' : Option Addr → Nat → List Ent} {H' : List (Nat × Nat)}
    (hi : ops[j]? = some ⟨some d, .call ⟨.builtin .append, ⟨[x, y]⟩, ⟨[t, t]⟩⟩, ty, pos, af, gd⟩) (hd' : i.desc = .slice el)
    (hd : Nat.blt d Γ.n = true) (hx : evo env x = some (.slice p n c)) (hy : evo env y = some (.slice (some ⟨bb, o, none⟩) m c')) (hsz : Nat.blt 0 sz = true)
    (hm : ∀ p' c', Sw hp (.slc p c el sz n cs) (.slc p' c' el sz (n + m) (cs ++ news)) (hp' p' c'))
    (hs' : At hp G bb o news) (hln : news.length = m * sz) (h1 : ∀ u ∈ news, u.oneCell' = true)
    (h63 : n + m ≤ maxLen) (hb : (n + m) * by' ≤ 140737488355328) (hw : wantG ops env gd = some true) (hl : listed.set j true = listed')
    (hok : HmOk ops j hp G (.slc p c el sz n cs) H H')
    (k : ∀ p' c', AnyL P Γ ops K H' fuel listed' ⟨(d, .slice p' (n + m) c') :: env, hp' p' c', G⟩) : One P Γ ops K H fuel listed j ⟨env, hp, G⟩ :=
  one_stepM hi (step_append hd' hd hx hy hsz hm hs' hln h1 h63 hb) hw hl (fun _ _ hs => hok.spec hs) hok.filter (by rintro _ ⟨p', c', rfl⟩; exact k p' c')
end ones
theorem seq_append {d : Nat} {x y : Operand} {t el : TypeId} {i : TyR} {sz by' : Nat} {zs : List Value} [hI : TyI P t i] [hE : TySz P el sz by' zs] {p : Option Addr} {c n m bb o c' : Nat} {cs news : List Value} {hp' : Option Addr → Nat → List Ent}
    (hd' : i.desc = .slice el) (hd : Nat.blt d Γ.n = true) (hx : evo env x = some (.slice p n c)) (hy : evo env y = some (.slice (some ⟨bb, o, none⟩) m c')) (hsz : Nat.blt 0 sz = true)
    (hm : ∀ p' c', Sw hp (.slc p c el sz n cs) (.slc p' c' el sz (n + m) (cs ++ news)) (hp' p' c'))
    (hs' : At hp G bb o news) (hln : news.length = m * sz) (h1 : ∀ u ∈ news, u.oneCell' = true)
    (h63 : n + m ≤ maxLen) (hb : (n + m) * by' ≤ 140737488355328) (hw : wantG ops env gd = some true)
    (k : ∀ p' c', TriL P Γ ops rest K ⟨(d, .slice p' (n + m) c') :: env, hp' p' c', G⟩) : TriL P Γ ops (⟨some d, .call ⟨.builtin .append, ⟨[x, y]⟩, ⟨[t, t]⟩⟩, ty, pos, af, gd⟩ :: rest) K ⟨env, hp, G⟩ :=
  seq_step (step_append hd' hd hx hy hsz hm hs' hln h1 h63 hb) hw (by rintro _ ⟨p', c', rfl⟩; exact k p' c')

end rules2
end Gw
end Go.Proofs.Ytlefgfdhlblahaa
