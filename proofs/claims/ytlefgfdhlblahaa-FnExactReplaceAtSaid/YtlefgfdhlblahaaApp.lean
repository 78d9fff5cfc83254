/-
  append of a slice in memory that no longer changes, empty or not.
-/
import Derived.Test.YtlefgfdhlblahaaRep
namespace Go.Proofs.Ytlefgfdhlblahaa
open Go Go.RowKit
namespace Gw
theorem Sw.same {hp hp' : List Ent} {e : Ent} (h : Sw hp e e hp') : hp' = hp := by
  generalize he : e = e' at h
  have : ∀ {hp e e' hp'}, Sw hp e e' hp' → e = e' → hp' = hp := by
    intro hp e e' hp' h
    induction h with
    | here => rintro rfl; rfl
    | there _ ih => intro he; rw [ih he]
  subst he
  exact this h rfl
section
variable {P : Program} {Γ : Ctx} {env : Env} {hp : List Ent} {G : IM} {ty : TypeId}
theorem step_appendSl {d : Nat} {x y : Operand} {t el : TypeId} {i : TyR} {sz by' : Nat} {zs : List Value} [hI : TyI P t i] {ie : TyR} [hEl : TyI P el ie] (hd' : i.desc = .slice el) [hE : TySz P el sz by' zs] {p q : Option Addr} {c n m c2 : Nat} {cs news : List Value} {hp' : Option Addr → Nat → List Ent}
    (hd : Nat.blt d Γ.n = true) (hx : evo env x = some (.slice p n c)) (hy : evo env y = some (.slice q m c2)) (hsz : Nat.blt 0 sz = true)
    (hm : ∀ p' c', Sw hp (.slc p c el sz n cs) (.slc p' c' el sz (n + m) (cs ++ news)) (hp' p' c'))
    (hS : Sl G q m c2 sz news) (h1 : ∀ u ∈ news, u.oneCell' = true) (hc : n ≤ c)
    (h63 : n + m ≤ maxLen) (hb : (n + m) * by' ≤ 140737488355328) :
    StepOp P Γ ⟨env, hp, G⟩ (some d) (.call ⟨.builtin .append, ⟨[x, y]⟩, ⟨[t, t]⟩⟩) ty (vfp p) (fun σ' => ∃ p' c', σ' = ⟨(d, .slice p' (n + m) c') :: env, hp' p' c', G⟩) := by
  obtain ⟨hl, _, _, hat⟩ := hS
  rcases Nat.eq_zero_or_pos m with rfl | hm0
  · obtain rfl : news = [] := List.length_eq_zero_iff.1 (by omega)
    have hpu := pure_append0 (P := P) (Γ := Γ) (hp := hp) (G := G) (ty := ty) (t := t) (el := el) hd' hx hy hc
    refine ⟨fun a w hs pos af gd Q next hn => ?_⟩
    simp only [Oper.wp, hpu.run a w hs, Oper.upon]
    refine hn _ _ _ (hs.put d _ (by simpa using hd) hs.res) (Ext.refl _ _) ⟨p, c, ?_⟩
    have h0 := hm p c
    simp only [Nat.add_zero, List.append_nil] at h0 ⊢
    rw [h0.same]
  · obtain ⟨b, o, full, rfl, hg, hv⟩ := hat.resolve_left (by omega)
    exact step_append hd' hd hx hy hsz hm (at_im hg hv) hl h1 h63 hb
variable {K : Po} {ops : Array Oper} {rest : List Oper} {pos : String} {af : Array Edge} {gd : Option (Nat × Bool)}
theorem seq_appendSl {d : Nat} {x y : Operand} {t el : TypeId} {i : TyR} {sz by' : Nat} {zs : List Value} [hI : TyI P t i] {ie : TyR} [hEl : TyI P el ie] [hE : TySz P el sz by' zs] {p q : Option Addr} {c n m c2 : Nat} {cs news : List Value} {hp' : Option Addr → Nat → List Ent}
    (hd' : i.desc = .slice el) (hd : Nat.blt d Γ.n = true) (hx : evo env x = some (.slice p n c)) (hy : evo env y = some (.slice q m c2)) (hsz : Nat.blt 0 sz = true)
    (hm : ∀ p' c', Sw hp (.slc p c el sz n cs) (.slc p' c' el sz (n + m) (cs ++ news)) (hp' p' c'))
    (hS : Sl G q m c2 sz news) (h1 : ∀ u ∈ news, u.oneCell' = true) (hc : n ≤ c)
    (h63 : n + m ≤ maxLen) (hb : (n + m) * by' ≤ 140737488355328) (hw : wantG ops env gd = some true)
    (k : ∀ p' c', TriL P Γ ops rest K ⟨(d, .slice p' (n + m) c') :: env, hp' p' c', G⟩) : TriL P Γ ops (⟨some d, .call ⟨.builtin .append, ⟨[x, y]⟩, ⟨[t, t]⟩⟩, ty, pos, af, gd⟩ :: rest) K ⟨env, hp, G⟩ :=
  seq_step (step_appendSl hd' hd hx hy hsz hm hS h1 hc h63 hb) hw (by rintro _ ⟨p', c', rfl⟩; exact k p' c')
theorem one_appendSl {H : List (Nat × Nat)} {fuel : Nat} {listed listed' : List Bool} {j d : Nat} {cs : List Value} {x y : Operand} {t el : TypeId} {i : TyR} {sz by' : Nat} {zs : List Value} [hI : TyI P t i] {ie : TyR} [hEl : TyI P el ie] [hE : TySz P el sz by' zs] {p q : Option Addr} {c n m c2 : Nat} {news : List Value} {hp' : Option Addr → Nat → List Ent} {H' : List (Nat × Nat)}
    (hi : ops[j]? = some ⟨some d, .call ⟨.builtin .append, ⟨[x, y]⟩, ⟨[t, t]⟩⟩, ty, pos, af, gd⟩) (hd' : i.desc = .slice el)
    (hd : Nat.blt d Γ.n = true) (hx : evo env x = some (.slice p n c)) (hy : evo env y = some (.slice q m c2)) (hsz : Nat.blt 0 sz = true)
    (hm : ∀ p' c', Sw hp (.slc p c el sz n cs) (.slc p' c' el sz (n + m) (cs ++ news)) (hp' p' c'))
    (hS : Sl G q m c2 sz news) (h1 : ∀ u ∈ news, u.oneCell' = true) (hc : n ≤ c)
    (h63 : n + m ≤ maxLen) (hb : (n + m) * by' ≤ 140737488355328) (hw : wantG ops env gd = some true) (hl : listed.set j true = listed')
    (hok : HmOk ops j hp G (.slc p c el sz n cs) H H')
    (k : ∀ p' c', AnyL P Γ ops K H' fuel listed' ⟨(d, .slice p' (n + m) c') :: env, hp' p' c', G⟩) : One P Γ ops K H fuel listed j ⟨env, hp, G⟩ :=
  one_stepM hi (step_appendSl hd' hd hx hy hsz hm hS h1 hc h63 hb) hw hl (fun _ _ hs => hok.spec hs) hok.filter (by rintro _ ⟨p', c', rfl⟩; exact k p' c')
/-- The callee is handed an own entry; what it hands back comes in its place. -/
theorem one_take {H H' : List (Nat × Nat)} {fuel : Nat} {listed listed' : List Bool} {j d : Nat} {f : FuncId} [hF : FunI P f] {xs : List Operand} {ats : Array TypeId} {vs : List Value} {e : Ent} {rst : List Ent} {post : IM → Value → List Ent → Prop}
    (hi : ops[j]? = some ⟨some d, .call ⟨.value (.func f), ⟨xs⟩, ats⟩, ty, pos, af, gd⟩) (hx : evl env xs = some vs) (h : Fn P f vs [e] G post) (hp' : hp.Perm ([e] ++ rst)) (hw : wantG ops env gd = some true) (hd : Nat.blt d Γ.n = true) (hl : listed.set j true = listed')
    (hok : HmOk ops j hp G e H H')
    (k : ∀ v G' outs, IMle G G' → post G' v outs → AnyL P Γ ops K H' fuel listed' ⟨(d, v) :: env, outs ++ rst, G'⟩) : One P Γ ops K H fuel listed j ⟨env, hp, G⟩ :=
  one_stepM hi (step_call_own hx h hp' hd) hw hl (fun _ _ hs => by simpa [Fp] using hok.spec hs) hok.filter (by rintro _ ⟨v, G', outs, rfl, hle, hq⟩; exact k v G' outs hle hq)
end
end Gw
end Go.Proofs.Ytlefgfdhlblahaa
