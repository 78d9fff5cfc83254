/-
  Terms in memory of their own; slices that were made, filled and given up.
-/
import Derived.Test.YtlefgfdhlblahaaThaw
import Derived.Test.YtlefgfdhlblahaaModel
namespace Go.Proofs.Ytlefgfdhlblahaa
open Go Go.RowKit
namespace Gw
section blk
variable {P : Program} {Γ : Ctx} {env : Env} {hp : List Ent} {G : IM} {K : Po} {ops : Array Oper} {rest : List Oper}
/-- An own slice that fills its block is that block. -/
theorem St.slc_blk {a : Act} {w : World} {b el sz n : Nat} {cs : List Value} {hp' : List Ent} (hs : St Γ ⟨env, hp, G⟩ a w) (hk : Pk hp (.slc (some ⟨b, 0, none⟩) n el sz n cs) hp') :
    St Γ ⟨env, .blk b cs :: hp', G⟩ a w := by
  have hown : Own [.slc (some ⟨b, 0, none⟩) n el sz n cs] G w := hs.res.own.of_mem hk.perm
  have hr : Res [.slc (some ⟨b, 0, none⟩) n el sz n cs] G w [.blk b cs] G w := by
    refine ⟨⟨hown.inn, ?_, by simp [Fp, Ent.fp], ?_⟩, Ext.refl _ _, IMle.refl _, fun _ _ h => .inl h, ?_, fun b l h h0 => absurd h (by rw [h0]; simp)⟩
    · intro e he
      simp at he; subst he
      obtain ⟨hl, h⟩ := hown.ok _ List.mem_cons_self
      rcases h with ⟨hv, _⟩ | ⟨g, cap, cur, hv, _, hg, _, _, hsz, ht⟩
      · cases hv
      · cases hv
        refine ⟨el, ?_⟩
        rw [hg]
        have : cur.toList = cs := by rw [← ht, List.take_of_length_le]; simp [hsz]
        rw [← this]
    · intro b' hb; exact hown.disj b' (by simpa [Fp, Ent.fp, vfp] using hb)
    · intro b' hb; exact .inr (by simpa [Fp, Ent.fp, vfp] using hb)
  exact ⟨hs.size, hs.nod, hs.env, by have := (hs.res.perm hk.perm).frame hr; simpa using this⟩
theorem triL_slcblk {b el sz n : Nat} {cs : List Value} {hp' : List Ent} (hk : Pk hp (.slc (some ⟨b, 0, none⟩) n el sz n cs) hp') (h : TriL P Γ ops rest K ⟨env, .blk b cs :: hp', G⟩) : TriL P Γ ops rest K ⟨env, hp, G⟩ :=
  ⟨fun a w hs => h.run a w (hs.slc_blk hk)⟩
theorem seq_makeBlk {d : Nat} {t el : TypeId} {i : TyR} {sz by' : Nat} {zs : List Value} {ty : TypeId} {pos : String} {af : Array Edge} {gd : Option (Nat × Bool)} [hI : TyI P t i] (hd' : i.desc = .slice el) [hE : TySz P el sz by' zs] {x : Operand} {n : Nat}
    (hd : Nat.blt d Γ.n = true) (hx : evo env x = some (.int .i64 (n : Int))) (hb : by' * n ≤ 281474976710656) (hm : n ≤ maxLen) (hw : wantG ops env gd = some true)
    (k : ∀ b, TriL P Γ ops rest K ⟨(d, .slice (some ⟨b, 0, none⟩) n n) :: env, .blk b (zrep n zs) :: hp, G⟩) :
    TriL P Γ ops (⟨some d, .makeSlice t x x, ty, pos, af, gd⟩ :: rest) K ⟨env, hp, G⟩ :=
  seq_step (step_makeSlice hd' hd hx hb hm) hw (by rintro _ ⟨b, rfl⟩; exact triL_slcblk .here (k b))
end blk

theorem upd_at : ∀ {A B C V : List Value} {o : Nat}, A.length = o → B.length = V.length → upd (A ++ (B ++ C)) o V = some (A ++ (V ++ C))
  | [], B, C, V, o, h, hv => by
    simp at h; subst h
    simp only [List.nil_append]
    induction B generalizing V with
    | nil => cases V with
      | nil => cases C <;> rfl
      | cons v V => simp at hv
    | cons b B ih => cases V with
      | nil => simp at hv
      | cons v V =>
        simp only [List.cons_append, upd, ih (V := V) (by simpa using hv)]
  | a :: A, B, C, V, o, h, hv => by
    simp at h; subst h
    simp only [List.cons_append, upd, upd_at (A := A) (B := B) (C := C) rfl hv]
theorem flat_len {sz : Nat} : ∀ {es : List (List Value)}, (∀ e ∈ es, e.length = sz) → es.flatten.length = es.length * sz
  | [], _ => by simp
  | e :: es, h => by
    rw [List.flatten_cons, List.length_append, h e List.mem_cons_self, flat_len (es := es) fun x hx => h x (List.mem_cons_of_mem _ hx), List.length_cons, Nat.succ_mul]; omega
theorem upd_next {es : List (List Value)} {n i sz : Nat} {Z V : List Value} (hl : es.length = i) (ha : ∀ e ∈ es, e.length = sz) (hz : Z.length = sz) (hv : V.length = sz) (hi : i < n) :
    upd (es.flatten ++ zrep (n - i) Z) (0 + i * sz) V = some ((es ++ [V]).flatten ++ zrep (n - (i + 1)) Z) := by
  have hz' : zrep (n - i) Z = Z ++ zrep (n - (i + 1)) Z := by
    rw [show n - i = (n - (i + 1)) + 1 by omega]; rfl
  rw [hz', upd_at (by rw [flat_len ha, hl]; omega) (by rw [hz, hv])]
  simp
theorem zrep_self (X Z : List Value) (n : Nat) : X ++ zrep (n - n) Z = X := by rw [Nat.sub_self]; simp [zrep]
theorem sl_wi {G : IM} {b n sz : Nat} {cs : List Value} (hl : cs.length = n * sz) (hn : n ≤ maxLen) : Sl (Wi G [(b, cs)]) (some ⟨b, 0, none⟩) n n sz cs :=
  ⟨hl, Nat.le_refl _, hn, .inr ⟨b, 0, cs, rfl, by simp [Wi, List.lookup], fun j v h => by simpa using h⟩⟩
theorem wi_no {G : IM} {b : Nat} {cs : List Value} (hd : ∀ q ∈ [((b, cs) : Nat × List Value)], G q.1 = none) : ∀ x ∈ vfp (some ⟨b, 0, none⟩), G x = none ∧ Wi G [(b, cs)] x ≠ none := by
  intro x hx
  simp [vfp] at hx; subst hx
  exact ⟨hd _ List.mem_cons_self, by simp [Wi, List.lookup]⟩

/-- A slice of types in memory of its own. -/
def STyS (G : IM) (ks : List Ty) (p : Option Addr) (c : Nat) (F : List Nat) : Prop := ∃ es Fs, SlE G p ks.length c 2 es ∧ STyL G ks es Fs ∧ F = vfp p ++ Fs ∧ (∀ b ∈ vfp p, G b ≠ none)
theorem STyS.ty {G : IM} {k : Int} {ks : List Ty} {p : Option Addr} {c : Nat} {F : List Nat} (h : STyS G ks p c F) (hk : I64 k) : STy G (.mk k ks) [.int .i64 k, .slice p ks.length c] F := by
  obtain ⟨es, Fs, h1, h2, h3, h4⟩ := h
  simp only [STy]
  exact ⟨p, c, es, Fs, rfl, hk, h1, h2, h3, h4⟩
theorem STy.open {G : IM} {t : Ty} {cells : List Value} {F : List Nat} (h : STy G t cells F) : ∃ p c, cells = [.int .i64 t.k, .slice p t.ks.length c] ∧ I64 t.k ∧ STyS G t.ks p c F := by
  cases t
  simp only [STy] at h
  obtain ⟨p, c, es, Fs, h0, hk, h1, h2, h3, h4⟩ := h
  exact ⟨p, c, h0, hk, es, Fs, h1, h2, h3, h4⟩
theorem STyS.fin {G Gi G2 : IM} {ks : List Ty} {es : List (List Value)} {F : List Nat} {p : Option Addr} {c : Nat} (h : STyL (Dif Gi G) ks es F) (hn : F.Nodup) (hle : IMle G Gi) (hle2 : IMle Gi G2)
    (hsl : Sl G2 p ks.length c 2 es.flatten) (hnn : ∀ b ∈ vfp p, Gi b = none ∧ G2 b ≠ none) :
    ∃ F', STyS (Dif G2 G) ks p c F' ∧ F'.Nodup := by
  obtain ⟨F', h1, h2⟩ := STy.fin (k := 0) h hn hle hle2 hsl hnn ⟨by omega, by omega⟩
  obtain ⟨p', c', h3, _, h4⟩ := h1.open
  simp only [Ty.ks, Ty.k, List.cons.injEq, Value.slice.injEq, true_and, and_true] at h3
  obtain ⟨rfl, rfl⟩ := h3
  exact ⟨F', h4, h2⟩

mutual
def STm (G : IM) : Tm → List Value → List Nat → Prop
  | .mk k nm num ty fr lb ks, cells, F => ∃ tc fc p c es Ft Ff Fs, cells = [.int .i64 k, .string nm, .int .i64 num] ++ tc ++ fc ++ [.int .i64 lb, .slice p ks.length c] ∧ I64 k ∧ I64 num ∧ I64 lb ∧ STy G ty tc Ft ∧ STy G fr fc Ff ∧
      SlE G p ks.length c 9 es ∧ STmL G ks es Fs ∧ F = Ft ++ (Ff ++ (vfp p ++ Fs)) ∧ (∀ b ∈ vfp p, G b ≠ none)
def STmL (G : IM) : List Tm → List (List Value) → List Nat → Prop
  | [], es, F => es = [] ∧ F = []
  | t :: ts, es, F => ∃ a r Fa Fr, es = a :: r ∧ STm G t a Fa ∧ STmL G ts r Fr ∧ F = Fa ++ Fr
end
/-- A slice of terms in memory of its own. -/
def STmS (G : IM) (ks : List Tm) (p : Option Addr) (c : Nat) (F : List Nat) : Prop := ∃ es Fs, SlE G p ks.length c 9 es ∧ STmL G ks es Fs ∧ F = vfp p ++ Fs ∧ (∀ b ∈ vfp p, G b ≠ none)
mutual
theorem STm.R {G : IM} : ∀ {t : Tm} {cells : List Value} {F : List Nat}, STm G t cells F → RTm G t cells
  | .mk k nm num ty fr lb ks, cells, F, h => by
    simp only [STm] at h
    obtain ⟨tc, fc, p, c, es, Ft, Ff, Fs, h1, h2, h3, h4, h5, h6, h7, h8, _⟩ := h
    simp only [RTm]
    exact ⟨tc, fc, p, c, es, h1, h2, h3, h4, h5.R, h6.R, h7, STmL.R h8⟩
theorem STmL.R {G : IM} : ∀ {ts : List Tm} {es : List (List Value)} {F : List Nat}, STmL G ts es F → RTmL G ts es
  | [], es, F, h => by simp only [STmL] at h; simp only [RTmL]; exact h.1
  | t :: ts, es, F, h => by
    simp only [STmL] at h
    obtain ⟨a, r, Fa, Fr, h1, h2, h3, _⟩ := h
    simp only [RTmL]
    exact ⟨a, r, h1, STm.R h2, STmL.R h3⟩
end
theorem dmono {G G' : IM} (hg : IMle G G') {F : List Nat} (h : ∀ b ∈ F, G b ≠ none) : ∀ b ∈ F, G' b ≠ none := fun b hb => by
  cases hgb : G b with
  | none => exact absurd hgb (h b hb)
  | some l => rw [hg b l hgb]; simp
mutual
theorem STm.mono {G G' : IM} (hg : IMle G G') : ∀ {t : Tm} {cells : List Value} {F : List Nat}, STm G t cells F → STm G' t cells F
  | .mk k nm num ty fr lb ks, cells, F, h => by
    simp only [STm] at h ⊢
    obtain ⟨tc, fc, p, c, es, Ft, Ff, Fs, h1, h2, h3, h4, h5, h6, h7, h8, h9, h10⟩ := h
    exact ⟨tc, fc, p, c, es, Ft, Ff, Fs, h1, h2, h3, h4, h5.mono hg, h6.mono hg, h7.mono hg, STmL.mono hg h8, h9, dmono hg h10⟩
theorem STmL.mono {G G' : IM} (hg : IMle G G') : ∀ {ts : List Tm} {es : List (List Value)} {F : List Nat}, STmL G ts es F → STmL G' ts es F
  | [], es, F, h => by simpa only [STmL] using h
  | t :: ts, es, F, h => by
    simp only [STmL] at h ⊢
    obtain ⟨a, r, Fa, Fr, h1, h2, h3, h4⟩ := h
    exact ⟨a, r, Fa, Fr, h1, STm.mono hg h2, STmL.mono hg h3, h4⟩
end
mutual
theorem STm.inG {G : IM} : ∀ {t : Tm} {cells : List Value} {F : List Nat}, STm G t cells F → ∀ b ∈ F, G b ≠ none
  | .mk k nm num ty fr lb ks, cells, F, h => by
    simp only [STm] at h
    obtain ⟨tc, fc, p, c, es, Ft, Ff, Fs, h1, h2, h3, h4, h5, h6, h7, h8, rfl, h10⟩ := h
    intro b hb
    simp only [List.mem_append] at hb
    rcases hb with hb | hb | hb | hb
    · exact h5.inG b hb
    · exact h6.inG b hb
    · exact h10 b hb
    · exact STmL.inG h8 b hb
theorem STmL.inG {G : IM} : ∀ {ts : List Tm} {es : List (List Value)} {F : List Nat}, STmL G ts es F → ∀ b ∈ F, G b ≠ none
  | [], es, F, h => by simp only [STmL] at h; rw [h.2]; simp
  | t :: ts, es, F, h => by
    simp only [STmL] at h
    obtain ⟨a, r, Fa, Fr, h1, h2, h3, rfl⟩ := h
    intro b hb
    rcases List.mem_append.1 hb with hb | hb
    · exact STm.inG h2 b hb
    · exact STmL.inG h3 b hb
end
theorem STmL.snoc {G : IM} : ∀ {ts : List Tm} {es : List (List Value)} {F : List Nat} {t : Tm} {a : List Value} {Fa : List Nat}, STmL G ts es F → STm G t a Fa → STmL G (ts ++ [t]) (es ++ [a]) (F ++ Fa)
  | [], es, F, t, a, Fa, h, h2 => by
    simp only [STmL] at h
    obtain ⟨rfl, rfl⟩ := h
    simp only [List.nil_append, STmL]
    exact ⟨a, [], Fa, [], rfl, h2, ⟨rfl, rfl⟩, by simp⟩
  | t' :: ts, es, F, t, a, Fa, h, h2 => by
    simp only [STmL] at h
    obtain ⟨a', r, Fa', Fr, rfl, h3, h4, rfl⟩ := h
    simp only [List.cons_append, STmL]
    exact ⟨a', r ++ [a], Fa', Fr ++ Fa, rfl, h3, STmL.snoc h4 h2, by simp⟩
theorem dif_no {G Gi : IM} {F F' : List Nat} {G1 : IM} (h : ∀ b ∈ F, Dif Gi G b ≠ none) (h' : ∀ b ∈ F', Dif G1 Gi b ≠ none) : ∀ x ∈ F, ∀ y ∈ F', x ≠ y := by
  rintro x hx y hy rfl
  have h1 := h x hx
  have h2 := Dif.out (h' x hy)
  apply h1
  cases hd : Dif Gi G x with
  | none => rfl
  | some l => rw [Dif.le _ _ x l hd] at h2; cases h2
theorem STmL.step {G Gi G1 : IM} {ks : List Tm} {i : Nat} {es : List (List Value)} {F F' : List Nat} {a : List Value} (h : STmL (Dif Gi G) (ks.take i) es F) (hn : F.Nodup) (hle : IMle G Gi) (hle1 : IMle Gi G1) (hi : i < ks.length)
    (ha : STm (Dif G1 Gi) ks[i] a F') (hn' : F'.Nodup) : STmL (Dif G1 G) (ks.take (i + 1)) (es ++ [a]) (F ++ F') ∧ (F ++ F').Nodup := by
  constructor
  · rw [List.take_succ_eq_append_getElem hi]
    exact STmL.snoc (h.mono (Dif.mono hle1)) (ha.mono (Dif.anti hle))
  · rw [List.nodup_append]
    exact ⟨hn, hn', dif_no h.inG ha.inG⟩
theorem vfp_nodup (p : Option Addr) : (vfp p).Nodup := by cases p <;> simp [vfp]
theorem STmS.fin {G Gi G2 : IM} {ks : List Tm} {es : List (List Value)} {F : List Nat} {p : Option Addr} {c : Nat} (h : STmL (Dif Gi G) ks es F) (hn : F.Nodup) (hle : IMle G Gi) (hle2 : IMle Gi G2)
    (hsl : Sl G2 p ks.length c 9 es.flatten) (hnn : ∀ b ∈ vfp p, Gi b = none ∧ G2 b ≠ none) :
    ∃ F', STmS (Dif G2 G) ks p c F' ∧ F'.Nodup := by
  have hR := h.R
  have hin : ∀ b ∈ vfp p, Dif G2 G b ≠ none := by
    intro b hb
    have h0 := (hnn b hb).1
    cases hg : G b with
    | none => simpa [Dif, hg] using (hnn b hb).2
    | some l => rw [hle b l hg] at h0; cases h0
  refine ⟨vfp p ++ F, ⟨es, F, SlE.of (hsl.dif (fun b hb => (hnn b hb).1) hle) hR.len hR.all ?_, h.mono (Dif.mono hle2), rfl, hin⟩, ?_⟩
  · intro e he
    obtain ⟨i, hi⟩ := List.getElem?_of_mem he
    have hlt : i < ks.length := by have := (List.getElem?_eq_some_iff.1 hi).1; rw [hR.len] at this; exact this
    obtain ⟨e', he', hr⟩ := hR.get (i := i) (t := ks[i]) (by simp [hlt])
    rw [hi] at he'; cases he'; exact hr.one
  · rw [List.nodup_append]
    refine ⟨vfp_nodup p, hn, ?_⟩
    rintro x hx y hy rfl
    have h1 := h.inG x hy
    have h2 := (hnn x hx).1
    apply h1
    cases hd : Dif Gi G x with
    | none => rfl
    | some l => rw [Dif.le _ _ x l hd] at h2; cases h2
/-- A term put together out of parts that came one after the other. -/
theorem STm.mk3 {G G1 G2 G3 : IM} {k : Int} {nm : ByteArray} {num : Int} {ty fr : Ty} {lb : Int} {ks : List Tm} {tc fc : List Value} {p : Option Addr} {c : Nat} {F1 F2 F3 : List Nat} (hk : I64 k) (hnum : I64 num) (hlb : I64 lb)
    (hl1 : IMle G G1) (hl2 : IMle G1 G2) (hl3 : IMle G2 G3) (h1 : STy (Dif G1 G) ty tc F1) (n1 : F1.Nodup) (h2 : STy (Dif G2 G1) fr fc F2) (n2 : F2.Nodup) (h3 : STmS (Dif G3 G2) ks p c F3) (n3 : F3.Nodup) :
    ∃ F, STm (Dif G3 G) (.mk k nm num ty fr lb ks) ([.int .i64 k, .string nm, .int .i64 num] ++ tc ++ fc ++ [.int .i64 lb, .slice p ks.length c]) F ∧ F.Nodup := by
  obtain ⟨es, Fs, e1, e2, rfl, e4⟩ := h3
  have i3 : ∀ b ∈ vfp p ++ Fs, Dif G3 G2 b ≠ none := by
    intro b hb
    rcases List.mem_append.1 hb with hb | hb
    · exact e4 b hb
    · exact e2.inG b hb
  have a2 : IMle (Dif G2 G1) (Dif G3 G) := fun b l h => Dif.mono hl3 b l (Dif.anti hl1 b l h)
  have a3 : IMle (Dif G3 G2) (Dif G3 G) := Dif.anti (hl1.trans hl2)
  refine ⟨F1 ++ (F2 ++ (vfp p ++ Fs)), ?_, ?_⟩
  · simp only [STm]
    exact ⟨tc, fc, p, c, es, F1, F2, Fs, rfl, hk, hnum, hlb, h1.mono (Dif.mono (hl2.trans hl3)), h2.mono a2, e1.mono a3, e2.mono a3, rfl, dmono a3 e4⟩
  · rw [List.nodup_append, List.nodup_append]
    refine ⟨n1, ⟨n2, n3, dif_no h2.inG i3⟩, ?_⟩
    rintro x hx y hy rfl
    rcases List.mem_append.1 hy with hy | hy
    · exact dif_no h1.inG h2.inG x hx x hy rfl
    · have h1' : ∀ b ∈ F1, Dif G2 G b ≠ none := dmono (Dif.mono hl2) h1.inG
      exact dif_no h1' i3 x hx x hy rfl
end Gw
end Go.Proofs.Ytlefgfdhlblahaa
