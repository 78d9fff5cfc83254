/-
  Fresh data taken back into the call's own hands, and given up again; sizes.
-/
import Derived.Test.YtlefgfdhlblahaaSz
namespace Go.Proofs.Ytlefgfdhlblahaa
open Go Go.RowKit
namespace Gw
theorem split_full {full cs : List Value} {o : Nat} (h : ∀ j v, cs[j]? = some v → full[o + j]? = some v) (hc : cs ≠ []) : full = full.take o ++ (cs ++ full.drop (o + cs.length)) ∧ (full.take o).length = o := by
  have hpos : 0 < cs.length := List.length_pos_iff.2 hc
  have hl : o + cs.length ≤ full.length := by
    have := h (cs.length - 1) cs[cs.length - 1] (List.getElem?_eq_getElem (by omega))
    have := (List.getElem?_eq_some_iff.1 this).1; omega
  have ho : (full.take o).length = o := by simp; omega
  refine ⟨?_, ho⟩
  apply List.ext_getElem?
  intro i
  rw [List.getElem?_append, ho]
  split
  · rename_i hi; rw [List.getElem?_take, if_pos hi]
  · rename_i hi
    rw [List.getElem?_append]
    split
    · rename_i h2
      have := h (i - o) cs[i - o] (List.getElem?_eq_getElem h2)
      rw [show o + (i - o) = i by omega] at this
      rw [this, List.getElem?_eq_getElem h2]
    · rename_i h2
      rw [List.getElem?_drop, show o + cs.length + (i - o - cs.length) = i by omega]
theorem Sl.blk {G : IM} {p : Option Addr} {n c sz : Nat} {cs : List Value} (h : Sl G p n c sz cs) (hc : cs ≠ []) : ∃ b A C, p = some ⟨b, A.length, none⟩ ∧ G b = some (A ++ (cs ++ C)) := by
  obtain ⟨h1, h2, h3, h4⟩ := h
  have hn : n ≠ 0 := by
    rintro rfl
    simp at h1; exact hc h1
  obtain ⟨b, o, full, rfl, hg, hv⟩ := h4.resolve_left hn
  obtain ⟨e1, e2⟩ := split_full hv hc
  exact ⟨b, full.take o, full.drop (o + cs.length), by rw [e2], by rw [← e1]; exact hg⟩
theorem Sl.of_blk {G : IM} {b n c sz : Nat} {A C cs : List Value} (hl : cs.length = n * sz) (hc : n ≤ c) (hm : c ≤ maxLen) (hg : G b = some (A ++ (cs ++ C))) : Sl G (some ⟨b, A.length, none⟩) n c sz cs := by
  refine ⟨hl, hc, hm, .inr ⟨b, A.length, _, rfl, hg, fun j v hj => ?_⟩⟩
  have hlt : j < cs.length := (List.getElem?_eq_some_iff.1 hj).1
  rw [List.getElem?_append, if_neg (by omega), List.getElem?_append, if_pos (by omega), show A.length + j - A.length = j by omega]
  exact hj
/-- These blocks lie in G, and among F. -/
def InG (G : IM) (bs : Blks) (F : List Nat) : Prop := (bs.map Prod.fst).Sublist F ∧ ∀ q ∈ bs, G q.1 = some q.2
theorem InG.nil (G : IM) (F : List Nat) : InG G [] F := ⟨by simp, by simp⟩
theorem InG.app {G : IM} {a b : Blks} {F F' : List Nat} (h : InG G a F) (h' : InG G b F') : InG G (a ++ b) (F ++ F') := by
  refine ⟨by rw [List.map_append]; exact h.1.append h'.1, fun q hq => ?_⟩
  rcases List.mem_append.1 hq with hq | hq
  · exact h.2 q hq
  · exact h'.2 q hq
theorem InG.wid {G : IM} {b : Blks} {F F' : List Nat} (h : InG G b F') : InG G b (F ++ F') := ⟨h.1.trans (List.sublist_append_right _ _), h.2⟩
mutual
theorem STy.blks {G : IM} : ∀ {t : Ty} {cells : List Value} {F : List Nat}, STy G t cells F → ∃ bs, OTy t cells bs ∧ InG G bs F
  | .mk k ks, cells, F, h => by
    simp only [STy] at h
    obtain ⟨p, c, es, Fs, h1, hk, h2, h3, rfl, h5⟩ := h
    obtain ⟨r, hr1, hr2⟩ := STyL.blks h3
    simp only [OTy]
    have hc := h2.sl.2.1
    have hm := h2.sl.2.2.1
    cases ks with
    | nil => exact ⟨[], ⟨p, c, h1, hk, hc, hm, .inl ⟨rfl, rfl⟩⟩, InG.nil _ _⟩
    | cons t ts =>
      have hne : es.flatten ≠ [] := by
        intro h0
        have hl := h2.sl.1
        rw [h0] at hl; simp at hl
      obtain ⟨b, A, C, rfl, hg⟩ := h2.sl.blk hne
      refine ⟨(b, A ++ (es.flatten ++ C)) :: r, ⟨_, c, h1, hk, hc, hm, .inr ⟨b, A, C, es, r, rfl, rfl, hr1⟩⟩, ?_, ?_⟩
      · simpa [vfp] using hr2.1
      · intro q hq
        rcases List.mem_cons.1 hq with rfl | hq
        · exact hg
        · exact hr2.2 q hq
theorem STyL.blks {G : IM} : ∀ {ts : List Ty} {es : List (List Value)} {F : List Nat}, STyL G ts es F → ∃ bs, OTyL ts es bs ∧ InG G bs F
  | [], es, F, h => by
    simp only [STyL] at h
    exact ⟨[], by simp only [OTyL]; exact ⟨h.1, trivial⟩, InG.nil _ _⟩
  | t :: ts, es, F, h => by
    simp only [STyL] at h
    obtain ⟨a, r, Fa, Fr, rfl, h2, h3, rfl⟩ := h
    obtain ⟨b1, o1, i1⟩ := STy.blks h2
    obtain ⟨b2, o2, i2⟩ := STyL.blks h3
    exact ⟨b1 ++ b2, by simp only [OTyL]; exact ⟨a, r, b1, b2, rfl, rfl, o1, o2⟩, i1.app i2⟩
end
mutual
theorem STm.blks {G : IM} : ∀ {t : Tm} {cells : List Value} {F : List Nat}, STm G t cells F → ∃ bs, OTm t cells bs ∧ InG G bs F
  | .mk k nm num ty fr lb ks, cells, F, h => by
    simp only [STm] at h
    obtain ⟨tc, fc, p, c, es, Ft, Ff, Fs, h1, hk, hn, hl, h5, h6, h2, h3, rfl, h10⟩ := h
    obtain ⟨bt, ot, it⟩ := h5.blks
    obtain ⟨bf, of', if'⟩ := h6.blks
    obtain ⟨r, hr1, hr2⟩ := STmL.blks h3
    simp only [OTm]
    have hc := h2.sl.2.1
    have hm := h2.sl.2.2.1
    cases ks with
    | nil => exact ⟨bt ++ (bf ++ []), ⟨tc, fc, p, c, bt, bf, [], h1, hk, hn, hl, ot, of', hc, hm, .inl ⟨rfl, rfl⟩, rfl⟩, it.app (if'.app (InG.nil _ _))⟩
    | cons t ts =>
      have hne : es.flatten ≠ [] := by
        intro h0
        have hl := h2.sl.1
        rw [h0] at hl; simp at hl
      obtain ⟨b, A, C, rfl, hg⟩ := h2.sl.blk hne
      refine ⟨bt ++ (bf ++ ((b, A ++ (es.flatten ++ C)) :: r)), ⟨tc, fc, _, c, bt, bf, _, h1, hk, hn, hl, ot, of', hc, hm, .inr ⟨b, A, C, es, r, rfl, rfl, hr1⟩, rfl⟩, it.app (if'.app ⟨?_, ?_⟩)⟩
      · simpa [vfp] using hr2.1
      · intro q hq
        rcases List.mem_cons.1 hq with rfl | hq
        · exact hg
        · exact hr2.2 q hq
theorem STmL.blks {G : IM} : ∀ {ts : List Tm} {es : List (List Value)} {F : List Nat}, STmL G ts es F → ∃ bs, OTmL ts es bs ∧ InG G bs F
  | [], es, F, h => by
    simp only [STmL] at h
    exact ⟨[], by simp only [OTmL]; exact ⟨h.1, trivial⟩, InG.nil _ _⟩
  | t :: ts, es, F, h => by
    simp only [STmL] at h
    obtain ⟨a, r, Fa, Fr, rfl, h2, h3, rfl⟩ := h
    obtain ⟨b1, o1, i1⟩ := STm.blks h2
    obtain ⟨b2, o2, i2⟩ := STmL.blks h3
    exact ⟨b1 ++ b2, by simp only [OTmL]; exact ⟨a, r, b1, b2, rfl, rfl, o1, o2⟩, i1.app i2⟩
end
theorem SPs.blks {G : IM} : ∀ {ls : List (List Int)} {es : List Value} {F : List Nat}, SPs G ls es F → ∃ bs, OPs ls es bs ∧ InG G bs F
  | [], es, F, h => ⟨[], ⟨h.1, rfl⟩, InG.nil _ _⟩
  | l :: ls, es, F, ⟨p, c, r, Fr, h1, h2, h3, h4, h5, h6⟩ => by
    obtain ⟨b2, o2, i2⟩ := h6.blks
    have hc := h3.2.1
    have hm := h3.2.2.1
    cases l with
    | nil => exact ⟨[] ++ b2, ⟨p, c, r, [], b2, h1, rfl, ⟨hc, hm, .inl ⟨rfl, rfl⟩⟩, o2⟩, by rw [h2]; exact (InG.nil _ _).app i2⟩
    | cons x xs =>
      obtain ⟨b, A, C, rfl, hg⟩ := h3.blk (by simp [ints])
      exact ⟨[(b, A ++ (ints (x :: xs) ++ C))] ++ b2, ⟨_, c, r, _, b2, h1, rfl, ⟨hc, hm, .inr ⟨b, A, C, rfl, rfl⟩⟩, o2⟩, by rw [h2]; exact InG.app ⟨by simp [vfp], by simpa using hg⟩ i2⟩
theorem OIs.sl {G : IM} {l : List Int} {p : Option Addr} {c : Nat} {bs : Blks} (h : OIs l p c bs) (hg : ∀ q ∈ bs, G q.1 = some q.2) : Sl G p l.length c 1 (ints l) := by
  obtain ⟨hc, hm, h⟩ := h
  rcases h with ⟨rfl, rfl⟩ | ⟨b, A, C, rfl, rfl⟩
  · exact ⟨rfl, hc, hm, .inl rfl⟩
  · exact Sl.of_blk (by rw [ints_len]; omega) hc hm (hg _ List.mem_cons_self)
theorem OPs.q {G : IM} : ∀ {ls : List (List Int)} {es : List Value} {bs : Blks}, OPs ls es bs → (∀ q ∈ bs, G q.1 = some q.2) → QPs G ls es
  | [], es, bs, h, _ => h.1
  | l :: ls, es, bs, ⟨p, c, e', r1, r2, h1, h2, h3, h4⟩, hg => by
    subst h2
    exact ⟨p, c, e', h1, h3.sl fun q hq => hg q (List.mem_append_left _ hq), h4.q fun q hq => hg q (List.mem_append_right _ hq)⟩
mutual
theorem OTy.r {G : IM} : ∀ {t : Ty} {cells : List Value} {bs : Blks}, OTy t cells bs → (∀ q ∈ bs, G q.1 = some q.2) → RTy G t cells
  | .mk k ks, cells, bs, h, hg => by
    simp only [OTy] at h
    obtain ⟨p, c, h1, hk, hc, hm, h⟩ := h
    simp only [RTy]
    rcases h with ⟨rfl, rfl⟩ | ⟨b, A, C, es, r, rfl, rfl, hL⟩
    · exact ⟨p, c, [], h1, hk, SlE.of ⟨rfl, hc, hm, .inl rfl⟩ rfl (by simp) (by simp), by simp [RTyL]⟩
    · have hR := OTyL.r hL fun q hq => hg q (List.mem_cons_of_mem _ hq)
      refine ⟨_, c, es, h1, hk, SlE.of (Sl.of_blk (by rw [flat_len hR.all, hR.len]) hc hm (hg _ List.mem_cons_self)) hR.len hR.all (fun e he => ?_), hR⟩
      obtain ⟨i, hi⟩ := List.getElem?_of_mem he
      exact (hR.inv hi ty0).2.one
theorem OTyL.r {G : IM} : ∀ {ts : List Ty} {es : List (List Value)} {bs : Blks}, OTyL ts es bs → (∀ q ∈ bs, G q.1 = some q.2) → RTyL G ts es
  | [], es, bs, h, _ => by simp only [OTyL] at h; simp only [RTyL]; exact h.1
  | t :: ts, es, bs, h, hg => by
    simp only [OTyL] at h
    obtain ⟨e, e', r1, r2, rfl, rfl, h1, h2⟩ := h
    simp only [RTyL]
    exact ⟨e, e', rfl, OTy.r h1 fun q hq => hg q (List.mem_append_left _ hq), OTyL.r h2 fun q hq => hg q (List.mem_append_right _ hq)⟩
end
mutual
theorem OTm.r {G : IM} : ∀ {t : Tm} {cells : List Value} {bs : Blks}, OTm t cells bs → (∀ q ∈ bs, G q.1 = some q.2) → RTm G t cells
  | .mk k nm num ty fr lb ks, cells, bs, h, hg => by
    simp only [OTm] at h
    obtain ⟨tc, fc, p, c, bt, bf, bk, h1, hk, hn, hl, h5, h6, hc, hm, h, rfl⟩ := h
    simp only [RTm]
    have ht := h5.r fun q hq => hg q (List.mem_append_left _ hq)
    have hf := h6.r fun q hq => hg q (List.mem_append_right _ (List.mem_append_left _ hq))
    rcases h with ⟨rfl, rfl⟩ | ⟨b, A, C, es, r, rfl, rfl, hL⟩
    · exact ⟨tc, fc, p, c, [], h1, hk, hn, hl, ht, hf, SlE.of ⟨rfl, hc, hm, .inl rfl⟩ rfl (by simp) (by simp), by simp [RTmL]⟩
    · have hg' : ∀ q ∈ (b, A ++ (es.flatten ++ C)) :: r, G q.1 = some q.2 := fun q hq => hg q (List.mem_append_right _ (List.mem_append_right _ hq))
      have hR := OTmL.r hL fun q hq => hg' q (List.mem_cons_of_mem _ hq)
      refine ⟨tc, fc, _, c, es, h1, hk, hn, hl, ht, hf, SlE.of (Sl.of_blk (by rw [flat_len hR.all, hR.len]) hc hm (hg' _ List.mem_cons_self)) hR.len hR.all (fun e he => ?_), hR⟩
      obtain ⟨i, hi⟩ := List.getElem?_of_mem he
      exact (hR.inv hi (.mk 0 ⟨#[]⟩ 0 ty0 ty0 0 [])).2.one
theorem OTmL.r {G : IM} : ∀ {ts : List Tm} {es : List (List Value)} {bs : Blks}, OTmL ts es bs → (∀ q ∈ bs, G q.1 = some q.2) → RTmL G ts es
  | [], es, bs, h, _ => by simp only [OTmL] at h; simp only [RTmL]; exact h.1
  | t :: ts, es, bs, h, hg => by
    simp only [OTmL] at h
    obtain ⟨e, e', r1, r2, rfl, rfl, h1, h2⟩ := h
    simp only [RTmL]
    exact ⟨e, e', rfl, OTm.r h1 fun q hq => hg q (List.mem_append_left _ hq), OTmL.r h2 fun q hq => hg q (List.mem_append_right _ hq)⟩
end
theorem OTyS.r {G : IM} {ks : List Ty} {p : Option Addr} {c : Nat} {bs : Blks} (h : OTyS ks p c bs) (hg : ∀ q ∈ bs, G q.1 = some q.2) : ∃ es, SlE G p ks.length c 2 es ∧ RTyL G ks es := by
  have := (h.ty (k := 0) ⟨by omega, by omega⟩).r hg
  simp only [RTy] at this
  obtain ⟨p', c', es, he, _, h1, h2⟩ := this
  simp only [List.cons.injEq, Value.slice.injEq, true_and, and_true] at he
  obtain ⟨rfl, rfl⟩ := he
  exact ⟨es, h1, h2⟩
theorem OTmS.r {G : IM} {ks : List Tm} {p : Option Addr} {c : Nat} {bs : Blks} (h : OTmS ks p c bs) (hg : ∀ q ∈ bs, G q.1 = some q.2) : ∃ es, SlE G p ks.length c 9 es ∧ RTmL G ks es := by
  have hz : OTyS [] none 0 [] := ⟨by simp, by simp, .inl ⟨rfl, rfl⟩⟩
  have hi : I64 0 := ⟨by omega, by omega⟩
  have := (OTm.mk (nm := ⟨#[]⟩) hi hi hi hi hi hz hz h).r (G := G) (by simpa using hg)
  obtain ⟨_, _, _, _, p', c', es, he, _, _, _, _, _, h1, h2⟩ := this.open9
  simp only [List.cons.injEq, Value.slice.injEq, true_and, and_true] at he
  obtain ⟨_, _, rfl, rfl⟩ := he
  exact ⟨es, h1, h2⟩

/- Sizes. -/
mutual
theorem small_ty : ∀ t : Ty, szTy t ≤ 4294967296 → t.small
  | .mk _ ks, h => by
    rw [szTy] at h
    have := sumTy_nn ks
    simp only [Ty.small]
    exact ⟨by omega, small_tyL ks (by omega)⟩
theorem small_tyL : ∀ ts : List Ty, sumTy ts ≤ 4294967296 → Ty.smallL ts
  | [], _ => by simp [Ty.smallL]
  | t :: ts, h => by
    rw [sumTy] at h
    have := szTy_nn t
    have := sumTy_nn ts
    simp only [Ty.smallL]
    exact ⟨small_ty t (by omega), small_tyL ts (by omega)⟩
end
mutual
theorem small_tm : ∀ t : Tm, szTm t ≤ 4294967296 → t.small
  | .mk _ nm _ ty fr _ ks, h => by
    rw [szTm] at h
    have := sumTm_nn ks
    have := szTy_nn ty
    have := szTy_nn fr
    simp only [Tm.small]
    exact ⟨by omega, small_ty ty (by omega), small_ty fr (by omega), by omega, small_tmL ks (by omega)⟩
theorem small_tmL : ∀ ts : List Tm, sumTm ts ≤ 4294967296 → Tm.smallL ts
  | [], _ => by simp [Tm.smallL]
  | t :: ts, h => by
    rw [sumTm] at h
    have := szTm_nn t
    have := sumTm_nn ts
    simp only [Tm.smallL]
    exact ⟨small_tm t (by omega), small_tmL ts (by omega)⟩
end
mutual
theorem count_sz : ∀ t : Tm, (tmCount t : Int) ≤ szTm t + 1
  | .mk _ nm _ ty fr _ ks => by
    have := count_szL ks
    have := szTy_nn ty
    have := szTy_nn fr
    rw [szTm, tmCount]; omega
theorem count_szL : ∀ ts : List Tm, (tmCountL ts : Int) ≤ ts.length + sumTm ts
  | [] => by rw [sumTm, tmCountL]; simp
  | t :: ts => by
    have := count_sz t
    have := count_szL ts
    rw [sumTm, tmCountL, List.length_cons]; omega
end
mutual
theorem cnt_szTy : ∀ t : Ty, cntTy t = 1 + szTy t
  | .mk _ ks => by
    have := cnt_szTyL ks
    rw [cntTy, szTy]; omega
theorem cnt_szTyL : ∀ ts : List Ty, cntTyL ts = ts.length + sumTy ts
  | [] => by rw [cntTyL, sumTy]; simp
  | t :: ts => by
    have := cnt_szTy t
    have := cnt_szTyL ts
    rw [cntTyL, sumTy, List.length_cons]; omega
end
theorem szTy_eq (t : Ty) : szTy t = t.ks.length + sumTy t.ks := by cases t; rw [szTy]; rfl
mutual
theorem cnt_szTm : ∀ t : Tm, cntTm t ≤ 6 + 6 * szTm t
  | .mk _ nm _ ty fr _ ks => by
    have := cnt_szTmL ks
    have := cnt_szTyL ty.ks
    have := cnt_szTyL fr.ks
    have := szTy_eq ty
    have := szTy_eq fr
    have := szTy_nn ty
    have := szTy_nn fr
    rw [cntTm, szTm]; omega
theorem cnt_szTmL : ∀ ts : List Tm, cntTmL ts ≤ 6 * (ts.length + sumTm ts)
  | [] => by rw [cntTmL, sumTm]; simp
  | t :: ts => by
    have := cnt_szTm t
    have := cnt_szTmL ts
    rw [cntTmL, sumTm, List.length_cons]; omega
end
/-- How many marks a term takes. -/
theorem marks_sz (t : Tm) : cntTyL t.ty.ks + cntTyL t.fr.ks + cntTmL t.ks ≤ 6 * szTm t := by
  have h := cnt_szTm t
  rw [cntTm_eq] at h; omega
mutual
theorem paths_len : ∀ (t : Tm) (path : List Int), ∀ l ∈ mPaths t path, l.length ≤ path.length + tmCount t
  | .mk _ _ _ _ _ _ ks, path, l, h => by
    rw [mPaths] at h
    rw [tmCount]
    rcases List.mem_cons.1 h with rfl | h
    · omega
    · have := pathsL_len ks 0 path l h; omega
theorem pathsL_len : ∀ (ts : List Tm) (i : Nat) (path : List Int), ∀ l ∈ mPathsL ts i path, l.length ≤ path.length + 1 + tmCountL ts
  | [], i, path, l, h => by rw [mPathsL] at h; cases h
  | t :: ts, i, path, l, h => by
    rw [mPathsL] at h
    rw [tmCountL]
    rcases List.mem_append.1 h with h | h
    · have := paths_len t _ l h
      simp at this; omega
    · have := pathsL_len ts (i + 1) path l h; omega
end
theorem cntIs_le : ∀ (ls : List (List Int)) (m : Nat), (∀ l ∈ ls, l.length ≤ m) → cntIs ls ≤ ls.length * m
  | [], m, _ => by rw [cntIs]; simp
  | l :: ls, m, h => by
    have h1 := h l List.mem_cons_self
    have h2 := cntIs_le ls m fun x hx => h x (List.mem_cons_of_mem _ hx)
    rw [cntIs, List.length_cons]
    have : ((ls.length + 1 : Nat) : Int) * (m : Int) = (ls.length : Int) * m + m := by
      rw [Int.natCast_add, Int.add_mul]; simp
    omega
theorem mAll_cnt (t : Tm) : cntIs (mAll t) ≤ 1000000 := by
  unfold mAll
  split
  · rename_i h
    have hc := castValid_count h
    have h1 := cntIs_le (mPaths t []) 200 (fun l hl => by have := paths_len t [] l hl; simp at this; omega)
    rw [mPaths_len] at h1
    omega
  · rw [cntIs]; omega
end Gw
end Go.Proofs.Ytlefgfdhlblahaa
