/-
  Slices of slices; slices of the call's own opened as blocks; one element of a slice of terms replaced.
-/
import Derived.Test.YtlefgfdhlblahaaMapped
import Derived.Test.YtlefgfdhlblahaaAt
import Derived.Laws.Slices
namespace Go.Proofs.Ytlefgfdhlblahaa
open Go Go.RowKit
namespace Gw
section slaw
variable {P : Program} {Γ : Ctx} {env : Env} {hp : List Ent} {G : IM} {ty : TypeId} {K : Po} {ops : Array Oper} {rest : List Oper}
theorem pure_slice_from {x y : Operand} {t el : TypeId} {i : TyR} {sz by' : Nat} {zs : List Value} [hI : TyI P t i] (hd' : i.desc = .slice el) [hE : TySz P el sz by' zs] {b o n c l : Nat}
    (hx : evo env x = some (.slice (some ⟨b, o, none⟩) n c)) (hy : evo env y = some (.int .i64 (l : Int))) (hl : l ≤ n) :
    PureOp P Γ ⟨env, hp, G⟩ (.slice t x (some y) none none) ty (.slice (some ⟨b, if c = l then o else o + l * sz, none⟩) (n - l) (c - l)) := by
  refine ⟨fun a _ hs _ _ _ _ w => ?_⟩
  have hu := hI.und
  rw [hd'] at hu
  obtain ⟨d, hE⟩ := hE.ok
  obtain ⟨inf, z, t1, t2, t3, _⟩ := run_tyI (P := P) (t := el)
  have e1 : a.eval x = _ := hs.evo hx
  have e2 : a.eval y = _ := hs.evo hy
  have hb : ∀ code, (Instr.sliceBound (.int .i64 (l : Int)) n code).run P w = .ok l w := fun code => by
    have := run_sliceBound (P := P) w .i64 (l : Int) n code (by omega) (by omega)
    simpa using this
  simp only [execOp, Option.map, e1, e2, Instr.sliceAt, Sem.run_bind, run_underlying hu, Result.andThen_ok, Instr.slice, Instr.sliceBounds, Sem.run_pure, hb, t3]
  by_cases h : c = l
  · simp [h]
  · simp [h, add_none]
theorem Sl.from {G : IM} {b o n c l sz : Nat} {cs : List Value} (h : Sl G (some ⟨b, o, none⟩) n c sz cs) (hl : l ≤ n) : Sl G (some ⟨b, if c = l then o else o + l * sz, none⟩) (n - l) (c - l) sz (cs.drop (l * sz)) := by
  obtain ⟨h1, h2, h3, h4⟩ := h
  refine ⟨by rw [List.length_drop, h1, Nat.sub_mul], by omega, by omega, ?_⟩
  by_cases h : c = l
  · left; omega
  · rcases h4 with h0 | ⟨b', o', full, he, hg, hv⟩
    · left; omega
    · right
      cases he
      rw [if_neg h]
      refine ⟨b, _, full, rfl, hg, fun j v hj => ?_⟩
      rw [List.getElem?_drop] at hj
      have := hv _ v hj
      rw [Nat.add_assoc]; exact this
/-- An own slice that is not empty is the head of its block. -/
theorem St.slc_open {a : Act} {w : World} {p : Option Addr} {c el sz n : Nat} {cs : List Value} {hp' : List Ent} (hs : St Γ ⟨env, hp, G⟩ a w) (hk : Pk hp (.slc p c el sz n cs) hp') (h0 : 0 < n) :
    ∃ b C, p = some ⟨b, 0, none⟩ ∧ n ≤ c ∧ c ≤ maxLen ∧ St Γ ⟨env, .blk b (cs ++ C) :: hp', G⟩ a w := by
  have hown : Own [.slc p c el sz n cs] G w := hs.res.own.of_mem hk.perm
  obtain ⟨hl, h⟩ := hown.ok _ List.mem_cons_self
  rcases h with ⟨hv, hn⟩ | ⟨g, cap, cur, hv, _, hg, hnc, hcm, hsz, ht⟩
  · omega
  · cases hv
    refine ⟨g, cur.toList.drop cs.length, rfl, hnc, hcm, ?_⟩
    have hcur : cur.toList = cs ++ cur.toList.drop cs.length := by
      have e : cs.length = n * sz := hl
      rw [e]
      conv => lhs; rw [← List.take_append_drop (n * sz) cur.toList, ht]
    have hr : Res [.slc (some ⟨g, 0, none⟩) c el sz n cs] G w [.blk g (cs ++ cur.toList.drop cs.length)] G w := by
      refine ⟨⟨hown.inn, ?_, by simp [Fp, Ent.fp], ?_⟩, Ext.refl _ _, IMle.refl _, fun _ _ h => .inl h, ?_, fun b l h h0 => absurd h (by rw [h0]; simp)⟩
      · intro e he
        simp at he; subst he
        refine ⟨el, ?_⟩
        rw [← hcur]; simpa using hg
      · intro b' hb; exact hown.disj b' (by simpa [Fp, Ent.fp, vfp] using hb)
      · intro b' hb; exact .inr (by simpa [Fp, Ent.fp, vfp] using hb)
    exact ⟨hs.size, hs.nod, hs.env, by have := (hs.res.perm hk.perm).frame hr; simpa using this⟩
theorem triL_open {p : Option Addr} {c el sz n : Nat} {cs : List Value} {hp' : List Ent} (hk : Pk hp (.slc p c el sz n cs) hp') (h0 : 0 < n)
    (h : ∀ b C, p = some ⟨b, 0, none⟩ → n ≤ c → c ≤ maxLen → TriL P Γ ops rest K ⟨env, .blk b (cs ++ C) :: hp', G⟩) : TriL P Γ ops rest K ⟨env, hp, G⟩ :=
  ⟨fun a w hs => let ⟨b, C, h1, h2, h3, h4⟩ := hs.slc_open hk h0; (h b C h1 h2 h3).run a w h4⟩
end slaw
theorem flat_set {es : List (List Value)} {j : Nat} {vs : List Value} (hj : j < es.length) : (es.set j vs).flatten = (es.take j).flatten ++ (vs ++ (es.drop (j + 1)).flatten) := by
  rw [List.set_eq_take_append_cons_drop, if_pos hj]; simp
theorem flat_at {es : List (List Value)} {j : Nat} (hj : j < es.length) : es.flatten = (es.take j).flatten ++ (es[j] ++ (es.drop (j + 1)).flatten) := by
  have h := congrArg List.flatten (List.take_append_drop j es).symm
  rw [List.drop_eq_getElem_cons hj, List.flatten_append, List.flatten_cons] at h
  exact h
theorem upd_set {es : List (List Value)} {C vs : List Value} {j sz : Nat} (hj : j < es.length) (ha : ∀ e ∈ es, e.length = sz) (hv : vs.length = sz) : upd (es.flatten ++ C) (0 + j * sz) vs = some ((es.set j vs).flatten ++ C) := by
  have := upd_at (A := (es.take j).flatten) (B := es[j]) (C := (es.drop (j + 1)).flatten ++ C) (V := vs) (o := 0 + j * sz)
    (by rw [flat_len (fun e he => ha e (List.mem_of_mem_take he)), List.length_take]; rw [Nat.min_eq_left (by omega)]; omega) (by rw [ha _ (List.getElem_mem hj), hv])
  rw [flat_at hj, flat_set hj]
  simp only [List.append_assoc] at this ⊢
  exact this
theorem RTmL.set {G : IM} : ∀ {ks : List Tm} {es : List (List Value)} {j : Nat} {y : Tm} {v : List Value}, RTmL G ks es → RTm G y v → RTmL G (ks.set j y) (es.set j v)
  | [], es, j, y, v, h, h2 => by simp only [RTmL] at h; subst h; simp [RTmL]
  | t :: ts, es, 0, y, v, h, h2 => by
    simp only [RTmL] at h
    obtain ⟨a, r, rfl, h3, h4⟩ := h
    simp only [List.set_cons_zero, RTmL]
    exact ⟨v, r, rfl, h2, h4⟩
  | t :: ts, es, j + 1, y, v, h, h2 => by
    simp only [RTmL] at h
    obtain ⟨a, r, rfl, h3, h4⟩ := h
    simp only [List.set_cons_succ, RTmL]
    exact ⟨a, r.set j v, rfl, h3, RTmL.set h4 h2⟩
/- Data outside taken-back blocks. -/
theorem SlE.wo {G : IM} {B : List Nat} {p : Option Addr} {n c sz : Nat} {es : List (List Value)} (h : SlE G p n c sz es) (hB : ∀ b ∈ vfp p, b ∉ B) : SlE (Wo G B) p n c sz es := by
  refine ⟨?_, h.len, h.all, h.one⟩
  obtain ⟨h1, h2, h3, h4⟩ := h.sl
  refine ⟨h1, h2, h3, h4.imp id ?_⟩
  rintro ⟨b, o, full, rfl, e2, e3⟩
  exact ⟨b, o, full, rfl, by rw [Wo.at (hB b (by simp [vfp]))]; exact e2, e3⟩
mutual
theorem STy.wo {G : IM} {B : List Nat} : ∀ {t : Ty} {cells : List Value} {F : List Nat}, STy G t cells F → (∀ b ∈ F, b ∉ B) → STy (Wo G B) t cells F
  | .mk k ks, cells, F, h, hB => by
    simp only [STy] at h ⊢
    obtain ⟨p, c, es, Fs, h1, h2, h3, h4, rfl, h6⟩ := h
    exact ⟨p, c, es, Fs, h1, h2, h3.wo (fun b hb => hB b (List.mem_append_left _ hb)), STyL.wo h4 (fun b hb => hB b (List.mem_append_right _ hb)), rfl, fun b hb => by rw [Wo.at (hB b (List.mem_append_left _ hb))]; exact h6 b hb⟩
theorem STyL.wo {G : IM} {B : List Nat} : ∀ {ts : List Ty} {es : List (List Value)} {F : List Nat}, STyL G ts es F → (∀ b ∈ F, b ∉ B) → STyL (Wo G B) ts es F
  | [], es, F, h, _ => by simpa only [STyL] using h
  | t :: ts, es, F, h, hB => by
    simp only [STyL] at h ⊢
    obtain ⟨a, r, Fa, Fr, h1, h2, h3, rfl⟩ := h
    exact ⟨a, r, Fa, Fr, h1, STy.wo h2 (fun b hb => hB b (List.mem_append_left _ hb)), STyL.wo h3 (fun b hb => hB b (List.mem_append_right _ hb)), rfl⟩
end
mutual
theorem STm.wo {G : IM} {B : List Nat} : ∀ {t : Tm} {cells : List Value} {F : List Nat}, STm G t cells F → (∀ b ∈ F, b ∉ B) → STm (Wo G B) t cells F
  | .mk k nm num ty fr lb ks, cells, F, h, hB => by
    simp only [STm] at h ⊢
    obtain ⟨tc, fc, p, c, es, Ft, Ff, Fs, h1, h2, h3, h4, h5, h6, h7, h8, rfl, h10⟩ := h
    simp only [List.mem_append] at hB
    exact ⟨tc, fc, p, c, es, Ft, Ff, Fs, h1, h2, h3, h4, h5.wo (fun b hb => hB b (.inl hb)), h6.wo (fun b hb => hB b (.inr (.inl hb))), h7.wo (fun b hb => hB b (.inr (.inr (.inl hb)))), STmL.wo h8 (fun b hb => hB b (.inr (.inr (.inr hb)))), rfl,
      fun b hb => by rw [Wo.at (hB b (.inr (.inr (.inl hb))))]; exact h10 b hb⟩
theorem STmL.wo {G : IM} {B : List Nat} : ∀ {ts : List Tm} {es : List (List Value)} {F : List Nat}, STmL G ts es F → (∀ b ∈ F, b ∉ B) → STmL (Wo G B) ts es F
  | [], es, F, h, _ => by simpa only [STmL] using h
  | t :: ts, es, F, h, hB => by
    simp only [STmL] at h ⊢
    obtain ⟨a, r, Fa, Fr, h1, h2, h3, rfl⟩ := h
    exact ⟨a, r, Fa, Fr, h1, STm.wo h2 (fun b hb => hB b (List.mem_append_left _ hb)), STmL.wo h3 (fun b hb => hB b (List.mem_append_right _ hb)), rfl⟩
end
theorem STmL.set {G : IM} : ∀ {ks : List Tm} {es : List (List Value)} {F F' : List Nat} {j : Nat} {y : Tm} {v : List Value}, STmL G ks es F → STm G y v F' → j < ks.length →
    ∃ F2, STmL G (ks.set j y) (es.set j v) F2 ∧ (∀ x ∈ F2, x ∈ F ∨ x ∈ F') ∧ (F.Nodup → F'.Nodup → (∀ x ∈ F, x ∉ F') → F2.Nodup)
  | [], es, F, F', j, y, v, h, h2, hj => by simp at hj
  | t :: ts, es, F, F', 0, y, v, h, h2, hj => by
    simp only [STmL] at h
    obtain ⟨a, r, Fa, Fr, rfl, h3, h4, rfl⟩ := h
    refine ⟨F' ++ Fr, ?_, ?_, ?_⟩
    · simp only [List.set_cons_zero, STmL]; exact ⟨v, r, F', Fr, rfl, h2, h4, rfl⟩
    · intro x hx
      rcases List.mem_append.1 hx with hx | hx
      · exact .inr hx
      · exact .inl (List.mem_append_right _ hx)
    · intro hn hn' hd
      rw [List.nodup_append] at hn ⊢
      refine ⟨hn', hn.2.1, ?_⟩
      rintro x hx z hz rfl
      exact hd x (List.mem_append_right _ hz) hx
  | t :: ts, es, F, F', j + 1, y, v, h, h2, hj => by
    simp only [STmL] at h
    obtain ⟨a, r, Fa, Fr, rfl, h3, h4, rfl⟩ := h
    obtain ⟨F2, g1, g2, g3⟩ := STmL.set (j := j) h4 h2 (by simpa using hj)
    refine ⟨Fa ++ F2, ?_, ?_, ?_⟩
    · simp only [List.set_cons_succ, STmL]; exact ⟨a, r.set j v, Fa, F2, rfl, h3, g1, rfl⟩
    · intro x hx
      rcases List.mem_append.1 hx with hx | hx
      · exact .inl (List.mem_append_left _ hx)
      · exact (g2 x hx).imp (fun h => List.mem_append_right _ h) id
    · intro hn hn' hd
      rw [List.nodup_append] at hn ⊢
      refine ⟨hn.1, g3 hn.2.1 hn' (fun x hx => hd x (List.mem_append_right _ hx)), ?_⟩
      rintro x hx z hz rfl
      rcases g2 x hz with hz | hz
      · exact hn.2.2 x hx x hz rfl
      · exact hd x (List.mem_append_left _ hx) hz
/-- A node replaced. -/
def mPut : Tm → List Int → Tm → Tm
  | _, [], x => x
  | .mk k nm num ty fr lb ks, i :: is, x => if h : 0 ≤ i ∧ i < ks.length then .mk k nm num ty fr lb (ks.set i.toNat (mPut (ks[i.toNat]'(by omega)) is x)) else .mk k nm num ty fr lb ks
theorem mPut_nil (t x : Tm) : mPut t [] x = x := by cases t; rw [mPut]
theorem mPut_go {k : Int} {nm : ByteArray} {num : Int} {ty fr : Ty} {lb : Int} {ks : List Tm} {j : Nat} {is : List Int} {x : Tm} (h : j < ks.length) : mPut (.mk k nm num ty fr lb ks) ((j : Int) :: is) x = .mk k nm num ty fr lb (ks.set j (mPut ks[j] is x)) := by
  rw [mPut, dif_pos ⟨by omega, by omega⟩]; rfl
/-- Where there is a node. -/
theorem tAt_some {t y : Tm} {i : Int} {is : List Int} (h : tAt t (i :: is) = some y) : ∃ j : Nat, i = j ∧ ∃ hj : j < t.ks.length, tAt t.ks[j] is = some y := by
  by_cases hi : 0 ≤ i ∧ i < t.ks.length
  · rw [tAt_go hi.1 hi.2] at h
    exact ⟨i.toNat, by omega, by omega, h⟩
  · rw [tAt_no hi] at h; cases h
end Gw
end Go.Proofs.Ytlefgfdhlblahaa
