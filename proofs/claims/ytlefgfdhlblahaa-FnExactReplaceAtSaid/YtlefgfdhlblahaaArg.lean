/-
  Arguments that can be read as data lie in memory as trees do; a law that answers true in memory that was there before meets its row.
-/
import Derived.Test.YtlefgfdhlblahaaSz
import Derived.WalkKit
import Derived.ProofKit
import Derived.OpenShut
import Derived.Carry
namespace Go.Proofs.Ytlefgfdhlblahaa
open Go Go.RowKit Go.ChangeShapes Go.WideShapes Go.ChangeAt
namespace Gw
/-- All that is there. -/
def GW (w : World) : IM := fun b => match w.heap[b]? with
  | some (.cells c _ _) => some c.toList
  | _ => none
theorem own_GW (w : World) : Own [] (GW w) w := by
  refine ⟨?_, by simp, by simp [Fp], by simp [Fp]⟩
  intro b l h
  unfold GW at h
  split at h
  · rename_i c e f hb; cases h; exact ⟨e, f, by simpa using hb⟩
  · cases h
theorem cell_GW {w : World} {b o : Nat} {v : Value} (h : w.cell? ⟨b, o, none⟩ = some v) : ∃ full, GW w b = some full ∧ full[o]? = some v := by
  unfold World.cell? at h
  simp only at h
  split at h
  · rename_i c e f hb
    exact ⟨c.toList, by simp [GW, hb], by simpa using h⟩
  · cases h
theorem flat_inv {sz : Nat} : ∀ {es : List (List Value)}, (∀ e ∈ es, e.length = sz) → ∀ {j : Nat} {v : Value}, es.flatten[j]? = some v → ∃ i e r, es[i]? = some e ∧ e[r]? = some v ∧ j = i * sz + r
  | [], _, j, v, h => by simp at h
  | a :: es, hall, j, v, h => by
    have ha := hall a List.mem_cons_self
    rw [List.flatten_cons, List.getElem?_append] at h
    split at h
    · exact ⟨0, a, j, rfl, h, by simp⟩
    · rename_i hj
      obtain ⟨i, e, r, h1, h2, h3⟩ := flat_inv (fun x hx => hall x (List.mem_cons_of_mem _ hx)) h
      exact ⟨i + 1, e, r, by simpa using h1, h2, by rw [Nat.succ_mul]; omega⟩
theorem sl_read {w : World} {a : Addr} {n c sz : Nat} {es : List (List Value)} (hl : es.length = n) (hsz : 0 < sz) (hc : n ≤ c) (hm : c ≤ maxLen) (h : ∀ i e, es[i]? = some e → w.cells? 0 (a.add (i * sz)) sz = some e) : Sl (GW w) (some a) n c sz es.flatten := by
  have hall : ∀ e ∈ es, e.length = sz := by
    intro e he
    obtain ⟨i, hi⟩ := List.getElem?_of_mem he
    exact (World.cells?_some (h i e hi)).2.1
  refine ⟨by rw [flat_len hall, hl], hc, hm, ?_⟩
  rcases Nat.eq_zero_or_pos n with h0 | h0
  · exact .inl h0
  · right
    obtain ⟨b, o, s⟩ := a
    have hs : s = none := by
      have h1 := (World.cells?_some (h 0 es[0] (List.getElem?_eq_getElem (by omega)))).2
      have h2 := h1.2 0 hsz
      rw [List.getElem?_eq_getElem (by omega)] at h2
      simp only [Nat.zero_mul, Addr.add, if_true] at h2
      unfold World.cell? at h2
      split at h2
      · split at h2
        · cases h2
        · rename_i hn; cases s with
          | none => rfl
          | some x => simp at hn
      · cases h2
    subst hs
    have key : ∀ j v, es.flatten[j]? = some v → w.cell? ⟨b, o + j, none⟩ = some v := by
      intro j v hj
      obtain ⟨i, e, r, h1, h2, rfl⟩ := flat_inv hall hj
      have h3 := (World.cells?_some (h i e h1)).2
      have hr : r < e.length := (List.getElem?_eq_some_iff.1 h2).1
      have h4 := h3.2 r (by omega)
      rw [h2, add_none, add_none] at h4
      rw [← Nat.add_assoc]; exact h4
    have hpos : 0 < es.flatten.length := by rw [flat_len hall, hl]; exact Nat.mul_pos h0 hsz
    obtain ⟨full, hg, _⟩ := cell_GW (key 0 es.flatten[0] (List.getElem?_eq_getElem hpos))
    refine ⟨b, o, full, rfl, hg, fun j v hj => ?_⟩
    obtain ⟨full', hg', hv⟩ := cell_GW (key j v hj)
    rw [hg] at hg'; cases hg'; exact hv
theorem RTyL.snoc {G : IM} : ∀ {ts : List Ty} {es : List (List Value)} {t : Ty} {e : List Value}, RTyL G ts es → RTy G t e → RTyL G (ts ++ [t]) (es ++ [e])
  | [], es, t, e, h, h2 => by
    simp only [RTyL] at h; subst h
    simp only [List.nil_append, RTyL]
    exact ⟨e, [], rfl, h2, rfl⟩
  | t' :: ts, es, t, e, h, h2 => by
    simp only [RTyL] at h
    obtain ⟨a, r, rfl, h3, h4⟩ := h
    simp only [List.cons_append, RTyL]
    exact ⟨a, r ++ [e], rfl, h3, RTyL.snoc h4 h2⟩
theorem RTmL.snoc {G : IM} : ∀ {ts : List Tm} {es : List (List Value)} {t : Tm} {e : List Value}, RTmL G ts es → RTm G t e → RTmL G (ts ++ [t]) (es ++ [e])
  | [], es, t, e, h, h2 => by
    simp only [RTmL] at h; subst h
    simp only [List.nil_append, RTmL]
    exact ⟨e, [], rfl, h2, rfl⟩
  | t' :: ts, es, t, e, h, h2 => by
    simp only [RTmL] at h
    obtain ⟨a, r, rfl, h3, h4⟩ := h
    simp only [List.cons_append, RTmL]
    exact ⟨a, r ++ [e], rfl, h3, RTmL.snoc h4 h2⟩
theorem Tm.nokL_snoc : ∀ {ts : List Tm} {t : Tm}, Tm.nokL ts → t.nok → Tm.nokL (ts ++ [t])
  | [], t, _, h => by simp only [List.nil_append, Tm.nokL]; exact ⟨h, trivial⟩
  | t' :: ts, t, h, h2 => by
    simp only [Tm.nokL] at h
    simp only [List.cons_append, Tm.nokL]
    exact ⟨h.1, Tm.nokL_snoc h.2 h2⟩
theorem build_ty {G : IM} {q : Nat → List Value → Prop} : ∀ {n : Nat}, (∀ i, i < n → ∃ e t, q i e ∧ RTy G t e) → ∃ ts es, ts.length = n ∧ RTyL G ts es ∧ ∀ i e, es[i]? = some e → q i e
  | 0, _ => ⟨[], [], rfl, by simp only [RTyL], by simp⟩
  | n + 1, h => by
    obtain ⟨ts, es, h1, h2, h3⟩ := build_ty (n := n) fun i hi => h i (by omega)
    obtain ⟨e, t, h4, h5⟩ := h n (by omega)
    refine ⟨ts ++ [t], es ++ [e], by simp [h1], h2.snoc h5, fun i x hx => ?_⟩
    have hl := h2.len
    rw [List.getElem?_append] at hx
    split at hx
    · exact h3 i x hx
    · rename_i hi
      have : i - es.length = 0 := by
        have := (List.getElem?_eq_some_iff.1 hx).1; simp at this; omega
      rw [this] at hx; simp at hx; subst hx
      rw [show i = n by omega]; exact h4
theorem build_tm {G : IM} {q : Nat → List Value → Prop} : ∀ {n : Nat}, (∀ i, i < n → ∃ e t, q i e ∧ RTm G t e ∧ t.nok) → ∃ ts es, ts.length = n ∧ RTmL G ts es ∧ Tm.nokL ts ∧ ∀ i e, es[i]? = some e → q i e
  | 0, _ => ⟨[], [], rfl, by simp only [RTmL], by simp only [Tm.nokL], by simp⟩
  | n + 1, h => by
    obtain ⟨ts, es, h1, h2, hn, h3⟩ := build_tm (n := n) fun i hi => h i (by omega)
    obtain ⟨e, t, h4, h5, h6⟩ := h n (by omega)
    refine ⟨ts ++ [t], es ++ [e], by simp [h1], h2.snoc h5, Tm.nokL_snoc hn h6, fun i x hx => ?_⟩
    have hl := h2.len
    rw [List.getElem?_append] at hx
    split at hx
    · exact h3 i x hx
    · rename_i hi
      have : i - es.length = 0 := by
        have := (List.getElem?_eq_some_iff.1 hx).1; simp at this; omega
      rw [this] at hx; simp at hx; subst hx
      rw [show i = n by omega]; exact h4
theorem SlE.mk' {G : IM} {p : Option Addr} {n c sz : Nat} {es : List (List Value)} (h : Sl G p n c sz es.flatten) (hl : es.length = n) (ha : ∀ e ∈ es, e.length = sz ∧ e.all (·.oneCell') = true) : SlE G p n c sz es := ⟨h, hl, fun e he => (ha e he).1, fun e he => (ha e he).2⟩
theorem RTyL.each {G : IM} {ts : List Ty} {es : List (List Value)} (h : RTyL G ts es) : ∀ e ∈ es, e.length = 2 ∧ e.all (·.oneCell') = true := by
  intro e he
  obtain ⟨i, hi⟩ := List.getElem?_of_mem he
  have := (h.inv hi ty0).2
  exact ⟨this.len, this.one⟩
theorem RTmL.each {G : IM} {ts : List Tm} {es : List (List Value)} (h : RTmL G ts es) : ∀ e ∈ es, e.length = 9 ∧ e.all (·.oneCell') = true := by
  intro e he
  obtain ⟨i, hi⟩ := List.getElem?_of_mem he
  have := (h.inv hi (.mk 0 ⟨#[]⟩ 0 ty0 ty0 0 [])).2
  exact ⟨this.len, this.one⟩
theorem i64_of {n : Int} (h : (Lit.int .i64 n).wf = true) : I64 n := by
  simpa [Lit.wf, IntKind.min, IntKind.max, IntKind.signed, IntKind.bits, I64] using h
section read
variable {H : Type} {enc : TypeId × Value → H} {w : World} {sp : Nat → Bool} {held : Bool}
theorem cells2 : Try.prog.cellsOf 40 = 2 := by kernel_rfl
theorem cells9 : Try.prog.cellsOf 43 = 9 := by kernel_rfl
theorem cellsI : Try.prog.cellsOf 3 = 1 := by kernel_rfl
theorem cellsS : Try.prog.cellsOf 9 = 1 := by kernel_rfl
theorem cellsT : Try.prog.cellsOf 38 = 1 := by kernel_rfl
theorem cellsM : Try.prog.cellsOf 41 = 1 := by kernel_rfl
theorem idx2 {α : Type} {xs : List α} {i : Nat} (h : i < xs.length) : ∃ y, xs[i]? = some y := ⟨_, List.getElem?_eq_getElem h⟩
set_option maxRecDepth 100000 in
theorem read_ty : ∀ (n : Nat) (cs : List Value) (x : DataW H × List MemPlace), DataW.trod enc Try.prog w 0 sp held n 40 cs = some x → ∃ t, RTy (GW w) t cs := by
  intro n
  induction n using Nat.strongRecOn with
  | _ n ih =>
  intro cs x h
  obtain ⟨xs, m, rfl, _, hl, hxl, hf⟩ := DataW.trod_struct Try.underlying40 h
  rw [cells2] at hl
  match cs, hl with
  | [a, b], _ =>
  obtain ⟨y0, e0⟩ := idx2 (xs := xs) (i := 0) (by simp [hxl])
  obtain ⟨y1, e1⟩ := idx2 (xs := xs) (i := 1) (by simp [hxl])
  have h0 := hf 0 _ rfl
  have h1 := hf 1 _ rfl
  rw [e0] at h0
  rw [e1] at h1
  simp only [List.getElem_toArray, List.getElem_cons_zero, List.getElem_cons_succ] at h0 h1
  simp only [cellsI, cellsT, List.drop, List.take] at h0 h1
  obtain ⟨k, hk, _, hwf⟩ := DataW.trod_int Try.underlying3 h0
  simp only [List.cons.injEq, and_true] at hk
  subst hk
  rcases DataW.trod_slice Try.underlying38 h1 with ⟨hb, _⟩ | ⟨ad, len, cap, elems, rest, n', rfl, hb, _, _, hlc, hcm, hel, hele, _, _⟩
  · simp only [List.cons.injEq, and_true] at hb
    subst hb
    exact ⟨.mk k [], by simp only [RTy]; exact ⟨none, 0, [], rfl, i64_of hwf, SlE.nil _ _, by simp only [RTyL]⟩⟩
  · simp only [List.cons.injEq, and_true] at hb
    subst hb
    rw [cells2] at hele
    obtain ⟨ts, es, t1, t2, t3⟩ := build_ty (G := GW w) (q := fun i e => w.cells? 0 (ad.add (i * 2)) 2 = some e) (n := len) fun i hi => by
      have := hele i hi
      rw [List.getElem?_eq_getElem (by omega)] at this
      obtain ⟨cs', c1, c2⟩ := Option.bind_eq_some_iff.1 this
      obtain ⟨t, ht⟩ := ih n' (by omega) cs' _ c2
      exact ⟨cs', t, c1, ht⟩
    subst t1
    refine ⟨.mk k ts, ?_⟩
    simp only [RTy]
    exact ⟨some ad, cap, es, rfl, i64_of hwf, SlE.mk' (sl_read t2.len (by omega) hlc hcm t3) t2.len t2.each, t2⟩
set_option maxRecDepth 100000 in
theorem read_tm : ∀ (n : Nat) (cs : List Value) (x : DataW H × List MemPlace), DataW.trod enc Try.prog w 0 sp held n 43 cs = some x → ∃ t, RTm (GW w) t cs ∧ t.nok := by
  intro n
  induction n using Nat.strongRecOn with
  | _ n ih =>
  intro cs x h
  obtain ⟨xs, m, rfl, _, hl, hxl, hf⟩ := DataW.trod_struct Try.underlying43 h
  rw [cells9] at hl
  match cs, hl with
  | [a0, a1, a2, a3, a4, a5, a6, a7, a8], _ =>
  obtain ⟨y0, e0⟩ := idx2 (xs := xs) (i := 0) (by simp [hxl])
  obtain ⟨y1, e1⟩ := idx2 (xs := xs) (i := 1) (by simp [hxl])
  obtain ⟨y2, e2⟩ := idx2 (xs := xs) (i := 2) (by simp [hxl])
  obtain ⟨y3, e3⟩ := idx2 (xs := xs) (i := 3) (by simp [hxl])
  obtain ⟨y4, e4⟩ := idx2 (xs := xs) (i := 4) (by simp [hxl])
  obtain ⟨y5, e5⟩ := idx2 (xs := xs) (i := 5) (by simp [hxl])
  obtain ⟨y6, e6⟩ := idx2 (xs := xs) (i := 6) (by simp [hxl])
  have h0 := hf 0 _ rfl
  have h1 := hf 1 _ rfl
  have h2 := hf 2 _ rfl
  have h3 := hf 3 _ rfl
  have h4 := hf 4 _ rfl
  have h5 := hf 5 _ rfl
  have h6 := hf 6 _ rfl
  rw [e0] at h0
  rw [e1] at h1
  rw [e2] at h2
  rw [e3] at h3
  rw [e4] at h4
  rw [e5] at h5
  rw [e6] at h6
  simp only [List.getElem_toArray, List.getElem_cons_zero, List.getElem_cons_succ] at h0 h1 h2 h3 h4 h5 h6
  simp only [cellsI, cellsS, cells2, cellsM, List.drop, List.take] at h0 h1 h2 h3 h4 h5 h6
  obtain ⟨k, hk, _, hwk⟩ := DataW.trod_int Try.underlying3 h0
  obtain ⟨nm, hnm, _, hsz⟩ := DataW.trod_string Try.underlying9 h1
  obtain ⟨num, hnum, _, hwn⟩ := DataW.trod_int Try.underlying3 h2
  obtain ⟨ty, hty⟩ := read_ty _ _ _ h3
  obtain ⟨fr, hfr⟩ := read_ty _ _ _ h4
  obtain ⟨lb, hlb, _, hwl⟩ := DataW.trod_int Try.underlying3 h5
  simp only [List.cons.injEq, and_true] at hk hnm hnum hlb
  subst hk hnm hnum hlb
  have hsz' : nm.size ≤ 9223372036854775807 := by unfold maxLen at hsz; omega
  rcases DataW.trod_slice Try.underlying41 h6 with ⟨hb, _⟩ | ⟨ad, len, cap, elems, rest, n', rfl, hb, _, _, hlc, hcm, hel, hele, _, _⟩
  · simp only [List.cons.injEq, and_true] at hb
    subst hb
    refine ⟨.mk k nm num ty fr lb [], ?_, by simp only [Tm.nok, Tm.nokL]; exact ⟨hsz', trivial⟩⟩
    simp only [RTm]
    exact ⟨[a3, a4], [a5, a6], none, 0, [], rfl, i64_of hwk, i64_of hwn, i64_of hwl, hty, hfr, SlE.nil _ _, by simp only [RTmL]⟩
  · simp only [List.cons.injEq, and_true] at hb
    subst hb
    rw [cells9] at hele
    obtain ⟨ts, es, t1, t2, t4, t3⟩ := build_tm (G := GW w) (q := fun i e => w.cells? 0 (ad.add (i * 9)) 9 = some e) (n := len) fun i hi => by
      have := hele i hi
      rw [List.getElem?_eq_getElem (by omega)] at this
      obtain ⟨cs', c1, c2⟩ := Option.bind_eq_some_iff.1 this
      obtain ⟨t, ht, hno⟩ := ih n' (by omega) cs' _ c2
      exact ⟨cs', t, c1, ht, hno⟩
    subst t1
    refine ⟨.mk k nm num ty fr lb ts, ?_, by simp only [Tm.nok]; exact ⟨hsz', t4⟩⟩
    simp only [RTm]
    exact ⟨[a3, a4], [a5, a6], some ad, cap, es, rfl, i64_of hwk, i64_of hwn, i64_of hwl, hty, hfr, SlE.mk' (sl_read t2.len (by omega) hlc hcm t3) t2.len t2.each, t2⟩
end read
theorem Ext.below {w w' : World} (h : Ext (Fp []) w w') : Below w.heap.size w w' := ⟨h.os, h.tape, h.output, h.size, fun k hk => h.block k hk (by simp [Fp])⟩
section post
variable {H : Type} {enc : TypeId × Value → H} {P : Program}
/-- Nothing that was there has turned: the arguments read as they did. -/
theorem post_below {f : Func} {s : ChangeSpec} {apart fresh handsOn again : Bool} {W W' : World} {args : Array Value} {v : Value} {ds gs : List (DataW H)} {before : List MemPlace}
    (hW : DataW.Whole enc P f.params.toList s.vars apart W args.toList ds gs before) (hb : Below W.heap.size W W') (hgs : s.vars = [])
    (hres : ∀ (b : Nat) (sp : Nat → Bool) (hd : Bool), DataW.TrodAll enc P W' b sp hd f.resultTypes.toList (v.resultList f.resultTypes.size) (s.fn H (ds ++ gs)).results [])
    (hargs : ∀ sp : Nat → Bool, (∀ p ∈ before, sp p.block = true) → DataW.TrodAll enc P W' 0 sp true f.params.toList args.toList (s.fn H (ds ++ gs)).args before)
    (hv : (s.fn H (ds ++ gs)).vars = [])
    (hok : ∀ (j : Nat) (t : TypeId) (r : Value), f.resultTypes[j]? = some t → (v.resultList f.resultTypes.size)[j]? = some r → Value.okWide P W' .any 0 t r) :
    s.post enc P f apart fresh handsOn again W args v W' := by
  have hold : ∀ p ∈ before, (fun b => decide (b < W.heap.size)) p.block = true := fun p hp => by simpa using hW.lt p hp
  have hvars : ∀ sp : Nat → Bool, DataW.TrodVars enc P W' sp s.vars (s.fn H (ds ++ gs)).vars [] := fun sp => by rw [hgs, hv]; rfl
  have hkept : W.keptBut W' (fun _ => False) := by
    refine ⟨hb.os, hb.output, fun i hi => ?_⟩
    rw [hb.block i hi]
    split
    · rename_i h1 h2; cases h1.symm.trans h2; exact ⟨rfl, rfl, rfl, fun _ _ => rfl⟩
    · rename_i h1 h2; cases h1.symm.trans h2; exact .inr ⟨rfl, rfl⟩
    · rfl
  refine ⟨ds, gs, before, [], before, [], hW, hres _ _ _, hargs _ hold, hvars _, World.keptBut_mono (fun p hp => hp.elim) hkept, fun _ => ?_⟩
  obtain ⟨_, _, _, _, _, hz, hn⟩ := hW
  refine ⟨hok, _, _, ([] ++ before) ++ [], ⟨[] ++ before, [], trodAll_append (hargs _ (fun _ _ => rfl)) (hres _ _ _), hvars _, rfl, ?_, ?_⟩, ?_⟩
  · intro b off hp
    have hp' : MemPlace.cell b off ∈ before := by simpa using hp
    have hlt : b < W.heap.size := of_decide_eq_true (hold _ hp')
    have := hz b off hp'
    unfold World.frozen? at this ⊢
    simp only [hb.block b hlt]
    exact this
  · intro ha; simpa using hn ha
  · intro p hp _; simpa using hp
end post
end Gw
end Go.Proofs.Ytlefgfdhlblahaa
