/-
  Blocks that were given up become the call's own again, and own blocks are given up.
-/
import Derived.Test.YtlefgfdhlblahaaRules
namespace Go.Proofs.Ytlefgfdhlblahaa
open Go Go.RowKit
namespace Gw

/-- Without these blocks. -/
def Wo (G : IM) (F : List Nat) : IM := fun b => if b ∈ F then none else G b
theorem Wo.out {G : IM} {F : List Nat} {b : Nat} (h : b ∈ F) : Wo G F b = none := if_pos h
theorem Wo.at {G : IM} {F : List Nat} {b : Nat} (h : b ∉ F) : Wo G F b = G b := if_neg h
theorem Wo.le (G : IM) (F : List Nat) : IMle (Wo G F) G := by
  intro b l h
  unfold Wo at h
  split at h
  · cases h
  · exact h
theorem Wo.get {G : IM} {F : List Nat} {b : Nat} {l : List Value} (h : Wo G F b = some l) : G b = some l ∧ b ∉ F := by
  unfold Wo at h
  split at h
  · cases h
  · exact ⟨h, ‹_›⟩
/-- What lies outside these blocks stays. -/
theorem Wo.keep {H G : IM} {F : List Nat} (h : IMle H G) (hF : ∀ b ∈ F, H b = none) : IMle H (Wo G F) := by
  intro b l hb
  rw [Wo.at]
  · exact h b l hb
  · intro hf; rw [hF b hf] at hb; cases hb

def blks (bs : List (Nat × List Value)) : List Ent := bs.map fun p => .blk p.1 p.2
theorem Fp_blks : ∀ bs : List (Nat × List Value), Fp (blks bs) = bs.map Prod.fst
  | [] => rfl
  | p :: bs => by
    show (Ent.blk p.1 p.2).fp ++ Fp (blks bs) = _
    rw [Fp_blks bs]; rfl
theorem blks_append (a b : List (Nat × List Value)) : blks (a ++ b) = blks a ++ blks b := by simp [blks]
theorem mem_blks {bs : List (Nat × List Value)} {p : Nat × List Value} (h : p ∈ bs) : Ent.blk p.1 p.2 ∈ blks bs := List.mem_map.2 ⟨p, h, rfl⟩

theorem Res.thaw {ins hp : List Ent} {G0 G : IM} {w0 w : World} {bs : List (Nat × List Value)} (h : Res ins G0 w0 hp G w) (hn : (bs.map Prod.fst).Nodup)
    (hg : ∀ p ∈ bs, G p.1 = some p.2 ∧ G0 p.1 = none) : Res ins G0 w0 (blks bs ++ hp) (Wo G (bs.map Prod.fst)) w := by
  have hF : ∀ b ∈ bs.map Prod.fst, ∃ l, (b, l) ∈ bs ∧ G b = some l ∧ G0 b = none := by
    intro b hb
    obtain ⟨p, hp, rfl⟩ := List.mem_map.1 hb
    exact ⟨p.2, hp, hg p hp⟩
  refine ⟨⟨?_, ?_, ?_, ?_⟩, h.ext, ?_, ?_, ?_, ?_⟩
  · intro b l hb; exact h.own.inn b l (Wo.le _ _ b l hb)
  · intro e he
    rcases List.mem_append.1 he with he | he
    · obtain ⟨p, hp, rfl⟩ := List.mem_map.1 he
      exact h.fz p.1 p.2 (hg p hp).1 (hg p hp).2
    · exact h.own.ok e he
  · rw [Fp_append, List.nodup_append, Fp_blks]
    refine ⟨hn, h.own.nodup, ?_⟩
    rintro a ha b hb rfl
    obtain ⟨l, _, h1, _⟩ := hF a ha
    rw [h.own.disj a hb] at h1; cases h1
  · intro b hb
    rw [Fp_append, Fp_blks] at hb
    rcases List.mem_append.1 hb with hb | hb
    · exact Wo.out hb
    · have := h.own.disj b hb
      unfold Wo; split
      · rfl
      · exact this
  · exact Wo.keep h.le fun b hb => (hF b hb).choose_spec.2.2
  · intro b l hb; exact h.fresh b l (Wo.le _ _ b l hb)
  · intro b hb
    rw [Fp_append, Fp_blks] at hb
    rcases List.mem_append.1 hb with hb | hb
    · obtain ⟨l, _, h1, h2⟩ := hF b hb
      rcases h.fresh b l h1 with hf | hf
      · rw [h2] at hf; cases hf
      · exact hf
    · exact h.ofresh b hb
  · intro b l hb h0; exact h.fz b l (Wo.le _ _ b l hb) h0

/-- With these blocks. -/
def Wi (G : IM) (bs : List (Nat × List Value)) : IM := fun b => match bs.lookup b with | some l => some l | none => G b
theorem lookup_of {bs : List (Nat × List Value)} (hn : (bs.map Prod.fst).Nodup) {p : Nat × List Value} (h : p ∈ bs) : bs.lookup p.1 = some p.2 := by
  induction bs with
  | nil => cases h
  | cons q bs ih =>
    obtain ⟨k, v⟩ := q
    simp only [List.map_cons, List.nodup_cons] at hn
    rcases List.mem_cons.1 h with rfl | h
    · simp [List.lookup]
    · have hne : p.1 ≠ k := by
        intro he; exact hn.1 (List.mem_map.2 ⟨p, h, he⟩)
      simp only [List.lookup]
      rw [show (p.1 == k) = false from beq_eq_false_iff_ne.2 hne]
      exact ih hn.2 h
theorem lookup_mem {bs : List (Nat × List Value)} {b : Nat} {l : List Value} (h : bs.lookup b = some l) : (b, l) ∈ bs := by
  induction bs with
  | nil => simp [List.lookup] at h
  | cons q bs ih =>
    obtain ⟨k, v⟩ := q
    simp only [List.lookup] at h
    split at h
    · rename_i he
      have : b = k := by simpa using he
      cases h; rw [this]; exact List.mem_cons_self
    · exact List.mem_cons_of_mem _ (ih h)
theorem Wi.get {G : IM} {bs : List (Nat × List Value)} {b : Nat} {l : List Value} (h : Wi G bs b = some l) : (b, l) ∈ bs ∨ G b = some l := by
  unfold Wi at h
  split at h
  · rename_i l' hl; cases h; exact .inl (lookup_mem hl)
  · exact .inr h
theorem Wi.in {G : IM} {bs : List (Nat × List Value)} (hn : (bs.map Prod.fst).Nodup) {p : Nat × List Value} (h : p ∈ bs) : Wi G bs p.1 = some p.2 := by
  unfold Wi; rw [lookup_of hn h]
theorem Wi.le {G : IM} {bs : List (Nat × List Value)} (h : ∀ p ∈ bs, G p.1 = none) : IMle G (Wi G bs) := by
  intro b l hb
  unfold Wi
  split
  · rename_i l' hl
    have := h _ (lookup_mem hl)
    rw [show ((b, l') : Nat × List Value).1 = b from rfl, hb] at this; cases this
  · exact hb

theorem res_freezes {w : World} {G : IM} {bs : List (Nat × List Value)} (hown : Own (blks bs) G w) (hz : ∀ p ∈ bs, ∃ e, w.heap[p.1]? = some (.cells p.2.toArray e (0, 0))) :
    Res (blks bs) G w [] (Wi G bs) w := by
  have hd : ∀ p ∈ bs, G p.1 = none := fun p hp => hown.disj p.1 (by rw [Fp_blks]; exact List.mem_map_of_mem hp)
  refine ⟨⟨?_, by simp, by simp [Fp], by simp [Fp]⟩, Ext.refl _ _, Wi.le hd, ?_, by simp [Fp], ?_⟩
  · intro b l hb
    rcases Wi.get hb with h | h
    · obtain ⟨e, he⟩ := hz _ h; exact ⟨e, _, he⟩
    · exact hown.inn b l h
  · intro b l hb
    rcases Wi.get hb with h | h
    · right; right; rw [Fp_blks]; exact List.mem_map.2 ⟨_, h, rfl⟩
    · exact .inl h
  · intro b l hb h0
    rcases Wi.get hb with h | h
    · exact hz _ h
    · rw [h0] at h; cases h

section rules3
variable {P : Program} {Γ : Ctx} {env : Env} {hp : List Ent} {G : IM} {K : Po} {ops : Array Oper} {rest : List Oper}

theorem St.thaw {a : Act} {w : World} {bs : List (Nat × List Value)} (hs : St Γ ⟨env, hp, G⟩ a w) (hn : (bs.map Prod.fst).Nodup) (hg : ∀ p ∈ bs, G p.1 = some p.2 ∧ Γ.G0 p.1 = none) :
    St Γ ⟨env, blks bs ++ hp, Wo G (bs.map Prod.fst)⟩ a w := ⟨hs.size, hs.nod, hs.env, hs.res.thaw hn hg⟩
theorem tri_thaw {cd : Code} (bs : List (Nat × List Value)) (hn : (bs.map Prod.fst).Nodup) (hg : ∀ p ∈ bs, G p.1 = some p.2 ∧ Γ.G0 p.1 = none)
    (h : Tri P Γ cd K ⟨env, blks bs ++ hp, Wo G (bs.map Prod.fst)⟩) : Tri P Γ cd K ⟨env, hp, G⟩ := ⟨fun a w hs => h.run a w (hs.thaw hn hg)⟩
theorem triL_thaw (bs : List (Nat × List Value)) (hn : (bs.map Prod.fst).Nodup) (hg : ∀ p ∈ bs, G p.1 = some p.2 ∧ Γ.G0 p.1 = none)
    (h : TriL P Γ ops rest K ⟨env, blks bs ++ hp, Wo G (bs.map Prod.fst)⟩) : TriL P Γ ops rest K ⟨env, hp, G⟩ := ⟨fun a w hs => h.run a w (hs.thaw hn hg)⟩
theorem any_thaw {H : List (Nat × Nat)} {fuel : Nat} {listed : List Bool} (bs : List (Nat × List Value)) (hn : (bs.map Prod.fst).Nodup) (hg : ∀ p ∈ bs, G p.1 = some p.2 ∧ Γ.G0 p.1 = none)
    (h : AnyL P Γ ops K H fuel listed ⟨env, blks bs ++ hp, Wo G (bs.map Prod.fst)⟩) : AnyL P Γ ops K H fuel listed ⟨env, hp, G⟩ := ⟨fun a w hs => h.run a w (hs.thaw hn hg)⟩

theorem St.freezes {a : Act} {w : World} {bs : List (Nat × List Value)} {hp' : List Ent} (hs : St Γ ⟨env, hp, G⟩ a w) (p : hp.Perm (blks bs ++ hp')) :
    St Γ ⟨env, hp', Wi G bs⟩ a w ∧ (bs.map Prod.fst).Nodup ∧ ∀ q ∈ bs, G q.1 = none := by
  have hown : Own (blks bs) G w := (hs.res.own.perm p).left
  have hr := res_freezes hown fun q hq => hown.ok _ (mem_blks hq)
  refine ⟨⟨hs.size, hs.nod, hs.env, by have := (hs.res.perm p).frame hr; simpa using this⟩, by have := hown.nodup; rwa [Fp_blks] at this, fun q hq => hown.disj q.1 (by rw [Fp_blks]; exact List.mem_map_of_mem hq)⟩
theorem tri_freezes {cd : Code} {bs : List (Nat × List Value)} {hp' : List Ent} (p : hp.Perm (blks bs ++ hp'))
    (h : (bs.map Prod.fst).Nodup → (∀ q ∈ bs, G q.1 = none) → IMle G (Wi G bs) → Tri P Γ cd K ⟨env, hp', Wi G bs⟩) : Tri P Γ cd K ⟨env, hp, G⟩ :=
  ⟨fun a w hs => let ⟨h1, h2, h3⟩ := hs.freezes p; (h h2 h3 (Wi.le h3)).run a w h1⟩
theorem triL_freezes {bs : List (Nat × List Value)} {hp' : List Ent} (p : hp.Perm (blks bs ++ hp'))
    (h : (bs.map Prod.fst).Nodup → (∀ q ∈ bs, G q.1 = none) → IMle G (Wi G bs) → TriL P Γ ops rest K ⟨env, hp', Wi G bs⟩) : TriL P Γ ops rest K ⟨env, hp, G⟩ :=
  ⟨fun a w hs => let ⟨h1, h2, h3⟩ := hs.freezes p; (h h2 h3 (Wi.le h3)).run a w h1⟩
theorem any_freezes {H : List (Nat × Nat)} {fuel : Nat} {listed : List Bool} {bs : List (Nat × List Value)} {hp' : List Ent} (p : hp.Perm (blks bs ++ hp'))
    (h : (bs.map Prod.fst).Nodup → (∀ q ∈ bs, G q.1 = none) → IMle G (Wi G bs) → AnyL P Γ ops K H fuel listed ⟨env, hp', Wi G bs⟩) : AnyL P Γ ops K H fuel listed ⟨env, hp, G⟩ :=
  ⟨fun a w hs => let ⟨h1, h2, h3⟩ := hs.freezes p; (h h2 h3 (Wi.le h3)).run a w h1⟩
end rules3
end Gw
end Go.Proofs.Ytlefgfdhlblahaa
