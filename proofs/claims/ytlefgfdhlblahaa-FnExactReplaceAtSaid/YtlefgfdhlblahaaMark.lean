/-
  Data that the call owns, block by block: what the laws' marking writes.
-/
import Derived.Test.YtlefgfdhlblahaaText
import Derived.Test.YtlefgfdhlblahaaEq
namespace Go.Proofs.Ytlefgfdhlblahaa
open Go Go.RowKit
namespace Gw

abbrev Blks := List (Nat × List Value)

/- Types: each slice in a block of the call's own. -/
mutual
def OTy : Ty → List Value → Blks → Prop
  | .mk k ks, cells, bs => ∃ p c, cells = [.int .i64 k, .slice p ks.length c] ∧ I64 k ∧ ks.length ≤ c ∧ c ≤ maxLen ∧ ((ks = [] ∧ bs = []) ∨ ∃ b A C es r, p = some ⟨b, A.length, none⟩ ∧ bs = (b, A ++ (es.flatten ++ C)) :: r ∧ OTyL ks es r)
def OTyL : List Ty → List (List Value) → Blks → Prop
  | [], es, bs => es = [] ∧ bs = []
  | t :: ts, es, bs => ∃ e e' r1 r2, es = e :: e' ∧ bs = r1 ++ r2 ∧ OTy t e r1 ∧ OTyL ts e' r2
end
def OTyS (ks : List Ty) (p : Option Addr) (c : Nat) (bs : Blks) : Prop :=
  ks.length ≤ c ∧ c ≤ maxLen ∧ ((ks = [] ∧ bs = []) ∨ ∃ b A C es r, p = some ⟨b, A.length, none⟩ ∧ bs = (b, A ++ (es.flatten ++ C)) :: r ∧ OTyL ks es r)
theorem OTy.open {t : Ty} {cells : List Value} {bs : Blks} (h : OTy t cells bs) : ∃ p c, cells = [.int .i64 t.k, .slice p t.ks.length c] ∧ I64 t.k ∧ OTyS t.ks p c bs := by
  cases t
  simp only [OTy] at h
  obtain ⟨p, c, h1, h2, h3, h4, h5⟩ := h
  exact ⟨p, c, h1, h2, h3, h4, h5⟩
theorem OTyS.ty {k : Int} {ks : List Ty} {p : Option Addr} {c : Nat} {bs : Blks} (h : OTyS ks p c bs) (hk : I64 k) : OTy (.mk k ks) [.int .i64 k, .slice p ks.length c] bs := by
  simp only [OTy]
  exact ⟨p, c, rfl, hk, h.1, h.2.1, h.2.2⟩
theorem OTy.len {t : Ty} {cells : List Value} {bs : Blks} (h : OTy t cells bs) : cells.length = 2 := by
  obtain ⟨_, _, rfl, _⟩ := h.open; rfl
theorem OTyL.len : ∀ {ts : List Ty} {es : List (List Value)} {bs : Blks}, OTyL ts es bs → es.length = ts.length
  | [], es, bs, h => by simp only [OTyL] at h; rw [h.1]; rfl
  | t :: ts, es, bs, h => by
    simp only [OTyL] at h
    obtain ⟨e, e', r1, r2, rfl, rfl, h1, h2⟩ := h
    simp [OTyL.len h2]
theorem OTyL.all : ∀ {ts : List Ty} {es : List (List Value)} {bs : Blks}, OTyL ts es bs → ∀ e ∈ es, e.length = 2
  | [], es, bs, h => by simp only [OTyL] at h; rw [h.1]; simp
  | t :: ts, es, bs, h => by
    simp only [OTyL] at h
    obtain ⟨e, e', r1, r2, rfl, rfl, h1, h2⟩ := h
    intro x hx
    rcases List.mem_cons.1 hx with rfl | hx
    · exact h1.len
    · exact OTyL.all h2 x hx
theorem OTyL.snoc : ∀ {ts : List Ty} {es : List (List Value)} {bs : Blks} {t : Ty} {e : List Value} {r : Blks}, OTyL ts es bs → OTy t e r → OTyL (ts ++ [t]) (es ++ [e]) (bs ++ r)
  | [], es, bs, t, e, r, h, h2 => by
    simp only [OTyL] at h
    obtain ⟨rfl, rfl⟩ := h
    simp only [List.nil_append, OTyL]
    exact ⟨e, [], r, [], rfl, by simp, h2, rfl, rfl⟩
  | t' :: ts, es, bs, t, e, r, h, h2 => by
    simp only [OTyL] at h
    obtain ⟨a, a', r1, r2, rfl, rfl, h3, h4⟩ := h
    simp only [List.cons_append, OTyL]
    exact ⟨a, a' ++ [e], r1, r2 ++ r, rfl, by rw [List.append_assoc], h3, OTyL.snoc h4 h2⟩
theorem OTyL.cons {t : Ty} {ts : List Ty} {es : List (List Value)} {bs : Blks} (h : OTyL (t :: ts) es bs) : ∃ p c e' r1 r2, es = [.int .i64 t.k, .slice p t.ks.length c] :: e' ∧ bs = r1 ++ r2 ∧ OTyS t.ks p c r1 ∧ OTyL ts e' r2 := by
  simp only [OTyL] at h
  obtain ⟨e, e', r1, r2, rfl, rfl, h3, h4⟩ := h
  obtain ⟨p, c, rfl, _, h5⟩ := h3.open
  exact ⟨p, c, e', r1, r2, rfl, rfl, h5, h4⟩

/- Terms. -/
mutual
def OTm : Tm → List Value → Blks → Prop
  | .mk k nm num ty fr lb ks, cells, bs => ∃ tc fc p c bt bf bk, cells = [.int .i64 k, .string nm, .int .i64 num] ++ tc ++ fc ++ [.int .i64 lb, .slice p ks.length c] ∧ I64 k ∧ I64 num ∧ I64 lb ∧ OTy ty tc bt ∧ OTy fr fc bf ∧
      ks.length ≤ c ∧ c ≤ maxLen ∧ ((ks = [] ∧ bk = []) ∨ ∃ b A C es r, p = some ⟨b, A.length, none⟩ ∧ bk = (b, A ++ (es.flatten ++ C)) :: r ∧ OTmL ks es r) ∧ bs = bt ++ (bf ++ bk)
def OTmL : List Tm → List (List Value) → Blks → Prop
  | [], es, bs => es = [] ∧ bs = []
  | t :: ts, es, bs => ∃ e e' r1 r2, es = e :: e' ∧ bs = r1 ++ r2 ∧ OTm t e r1 ∧ OTmL ts e' r2
end
def OTmS (ks : List Tm) (p : Option Addr) (c : Nat) (bs : Blks) : Prop :=
  ks.length ≤ c ∧ c ≤ maxLen ∧ ((ks = [] ∧ bs = []) ∨ ∃ b A C es r, p = some ⟨b, A.length, none⟩ ∧ bs = (b, A ++ (es.flatten ++ C)) :: r ∧ OTmL ks es r)
theorem OTm.open {t : Tm} {cells : List Value} {bs : Blks} (h : OTm t cells bs) : ∃ pt ct pf cf p c bt bf bk,
    cells = [.int .i64 t.k, .string t.nm, .int .i64 t.num, .int .i64 t.ty.k, .slice pt t.ty.ks.length ct, .int .i64 t.fr.k, .slice pf t.fr.ks.length cf, .int .i64 t.lb, .slice p t.ks.length c] ∧
    OTyS t.ty.ks pt ct bt ∧ OTyS t.fr.ks pf cf bf ∧ OTmS t.ks p c bk ∧ bs = bt ++ (bf ++ bk) := by
  cases t
  simp only [OTm] at h
  obtain ⟨tc, fc, p, c, bt, bf, bk, h1, _, _, _, h5, h6, h7, h8, h9, h10⟩ := h
  obtain ⟨pt, ct, rfl, _, ht⟩ := h5.open
  obtain ⟨pf, cf, rfl, _, hf⟩ := h6.open
  exact ⟨pt, ct, pf, cf, p, c, bt, bf, bk, h1, ht, hf, ⟨h7, h8, h9⟩, h10⟩
theorem OTm.mk {k : Int} {nm : ByteArray} {num tk fk lb : Int} {tks fks : List Ty} {ks : List Tm} {pt pf p : Option Addr} {ct cf c : Nat} {bt bf bk : Blks} (hk : I64 k) (hn : I64 num) (htk : I64 tk) (hfk : I64 fk) (hlb : I64 lb)
    (ht : OTyS tks pt ct bt) (hf : OTyS fks pf cf bf) (h : OTmS ks p c bk) :
    OTm (.mk k nm num (.mk tk tks) (.mk fk fks) lb ks) [.int .i64 k, .string nm, .int .i64 num, .int .i64 tk, .slice pt tks.length ct, .int .i64 fk, .slice pf fks.length cf, .int .i64 lb, .slice p ks.length c] (bt ++ (bf ++ bk)) := by
  simp only [OTm]
  exact ⟨_, _, p, c, bt, bf, bk, rfl, hk, hn, hlb, ht.ty htk, hf.ty hfk, h.1, h.2.1, h.2.2, rfl⟩
theorem OTm.len {t : Tm} {cells : List Value} {bs : Blks} (h : OTm t cells bs) : cells.length = 9 := by
  obtain ⟨_, _, _, _, _, _, _, _, _, rfl, _⟩ := h.open; rfl
theorem OTmL.len : ∀ {ts : List Tm} {es : List (List Value)} {bs : Blks}, OTmL ts es bs → es.length = ts.length
  | [], es, bs, h => by simp only [OTmL] at h; rw [h.1]; rfl
  | t :: ts, es, bs, h => by
    simp only [OTmL] at h
    obtain ⟨e, e', r1, r2, rfl, rfl, h1, h2⟩ := h
    simp [OTmL.len h2]
theorem OTmL.all : ∀ {ts : List Tm} {es : List (List Value)} {bs : Blks}, OTmL ts es bs → ∀ e ∈ es, e.length = 9
  | [], es, bs, h => by simp only [OTmL] at h; rw [h.1]; simp
  | t :: ts, es, bs, h => by
    simp only [OTmL] at h
    obtain ⟨e, e', r1, r2, rfl, rfl, h1, h2⟩ := h
    intro x hx
    rcases List.mem_cons.1 hx with rfl | hx
    · exact h1.len
    · exact OTmL.all h2 x hx
theorem OTmL.snoc : ∀ {ts : List Tm} {es : List (List Value)} {bs : Blks} {t : Tm} {e : List Value} {r : Blks}, OTmL ts es bs → OTm t e r → OTmL (ts ++ [t]) (es ++ [e]) (bs ++ r)
  | [], es, bs, t, e, r, h, h2 => by
    simp only [OTmL] at h
    obtain ⟨rfl, rfl⟩ := h
    simp only [List.nil_append, OTmL]
    exact ⟨e, [], r, [], rfl, by simp, h2, rfl, rfl⟩
  | t' :: ts, es, bs, t, e, r, h, h2 => by
    simp only [OTmL] at h
    obtain ⟨a, a', r1, r2, rfl, rfl, h3, h4⟩ := h
    simp only [List.cons_append, OTmL]
    exact ⟨a, a' ++ [e], r1, r2 ++ r, rfl, by rw [List.append_assoc], h3, OTmL.snoc h4 h2⟩
theorem OTmL.cons {t : Tm} {ts : List Tm} {es : List (List Value)} {bs : Blks} (h : OTmL (t :: ts) es bs) : ∃ e e' r1 r2, es = e :: e' ∧ bs = r1 ++ r2 ∧ OTm t e r1 ∧ OTmL ts e' r2 := by
  simpa only [OTmL] using h

/- How many marks are written, and what the data are then. -/
mutual
def cntTy : Ty → Int
  | .mk _ ks => 1 + cntTyL ks
def cntTyL : List Ty → Int
  | [] => 0
  | t :: ts => cntTy t + cntTyL ts
end
mutual
def mkTy : Ty → Int → Ty
  | .mk _ ks, k => .mk k (mkTyL ks (k + 1))
def mkTyL : List Ty → Int → List Ty
  | [], _ => []
  | t :: ts, k => mkTy t k :: mkTyL ts (k + cntTy t)
end
mutual
def cntTm : Tm → Int
  | .mk _ _ _ ty fr _ ks => 6 + cntTyL ty.ks + cntTyL fr.ks + cntTmL ks
def cntTmL : List Tm → Int
  | [] => 0
  | t :: ts => cntTm t + cntTmL ts
end
mutual
def mkTm : Tm → Int → Tm
  | .mk _ _ _ ty fr _ ks, k => .mk k (mText (k + 1).toNat) (k + 1 + 1) (.mk (k + 1 + 1 + 1) (mkTyL ty.ks (k + 1 + 1 + 1 + 1))) (.mk (k + 1 + 1 + 1 + 1 + cntTyL ty.ks) (mkTyL fr.ks (k + 1 + 1 + 1 + 1 + cntTyL ty.ks + 1))) (k + 1 + 1 + 1 + 1 + cntTyL ty.ks + 1 + cntTyL fr.ks) (mkTmL ks (k + 1 + 1 + 1 + 1 + cntTyL ty.ks + 1 + cntTyL fr.ks + 1))
def mkTmL : List Tm → Int → List Tm
  | [], _ => []
  | t :: ts, k => mkTm t k :: mkTmL ts (k + cntTm t)
end
mutual
theorem cntTy_pos : ∀ t : Ty, 1 ≤ cntTy t
  | .mk _ ks => by have := cntTyL_nn ks; rw [cntTy]; omega
theorem cntTyL_nn : ∀ ts : List Ty, 0 ≤ cntTyL ts
  | [] => by rw [cntTyL]; omega
  | t :: ts => by have := cntTy_pos t; have := cntTyL_nn ts; rw [cntTyL]; omega
end
mutual
theorem cntTm_pos : ∀ t : Tm, 6 ≤ cntTm t
  | .mk _ _ _ ty fr _ ks => by have := cntTmL_nn ks; have := cntTyL_nn ty.ks; have := cntTyL_nn fr.ks; rw [cntTm]; omega
theorem cntTmL_nn : ∀ ts : List Tm, 0 ≤ cntTmL ts
  | [] => by rw [cntTmL]; omega
  | t :: ts => by have := cntTm_pos t; have := cntTmL_nn ts; rw [cntTmL]; omega
end
theorem cntTyL_append : ∀ a b : List Ty, cntTyL (a ++ b) = cntTyL a + cntTyL b
  | [], b => by simp [cntTyL]
  | t :: a, b => by rw [List.cons_append, cntTyL, cntTyL, cntTyL_append a b]; omega
theorem cntTmL_append : ∀ a b : List Tm, cntTmL (a ++ b) = cntTmL a + cntTmL b
  | [], b => by simp [cntTmL]
  | t :: a, b => by rw [List.cons_append, cntTmL, cntTmL, cntTmL_append a b]; omega
theorem cntTyL_succ {ks : List Ty} {i : Nat} (hi : i < ks.length) : cntTyL (ks.take (i + 1)) = cntTyL (ks.take i) + cntTy ks[i] := by
  rw [List.take_succ_eq_append_getElem hi, cntTyL_append, cntTyL, cntTyL]; omega
theorem cntTmL_succ {ks : List Tm} {i : Nat} (hi : i < ks.length) : cntTmL (ks.take (i + 1)) = cntTmL (ks.take i) + cntTm ks[i] := by
  rw [List.take_succ_eq_append_getElem hi, cntTmL_append, cntTmL, cntTmL]; omega
theorem cntTyL_take (ks : List Ty) (i : Nat) : cntTyL (ks.take i) ≤ cntTyL ks := by
  have h := cntTyL_append (ks.take i) (ks.drop i)
  rw [List.take_append_drop] at h
  have := cntTyL_nn (ks.drop i); omega
theorem cntTmL_take (ks : List Tm) (i : Nat) : cntTmL (ks.take i) ≤ cntTmL ks := by
  have h := cntTmL_append (ks.take i) (ks.drop i)
  rw [List.take_append_drop] at h
  have := cntTmL_nn (ks.drop i); omega
theorem cntTy_eq (t : Ty) : cntTy t = 1 + cntTyL t.ks := by cases t; rw [cntTy]; rfl
theorem cntTm_eq (t : Tm) : cntTm t = 6 + cntTyL t.ty.ks + cntTyL t.fr.ks + cntTmL t.ks := by cases t; rw [cntTm]; rfl
theorem mkTyL_snoc : ∀ (ts : List Ty) (t : Ty) (k : Int), mkTyL (ts ++ [t]) k = mkTyL ts k ++ [mkTy t (k + cntTyL ts)]
  | [], t, k => by simp [mkTyL, cntTyL]
  | t' :: ts, t, k => by rw [List.cons_append, mkTyL, mkTyL_snoc ts t, mkTyL, cntTyL, List.cons_append, Int.add_assoc]
theorem mkTmL_snoc : ∀ (ts : List Tm) (t : Tm) (k : Int), mkTmL (ts ++ [t]) k = mkTmL ts k ++ [mkTm t (k + cntTmL ts)]
  | [], t, k => by simp [mkTmL, cntTmL]
  | t' :: ts, t, k => by rw [List.cons_append, mkTmL, mkTmL_snoc ts t, mkTmL, cntTmL, List.cons_append, Int.add_assoc]
theorem mkTyL_take {ks : List Ty} {i : Nat} (hi : i < ks.length) (k : Int) : mkTyL (ks.take (i + 1)) k = mkTyL (ks.take i) k ++ [mkTy ks[i] (k + cntTyL (ks.take i))] := by
  rw [List.take_succ_eq_append_getElem hi, mkTyL_snoc]
theorem mkTmL_take {ks : List Tm} {i : Nat} (hi : i < ks.length) (k : Int) : mkTmL (ks.take (i + 1)) k = mkTmL (ks.take i) k ++ [mkTm ks[i] (k + cntTmL (ks.take i))] := by
  rw [List.take_succ_eq_append_getElem hi, mkTmL_snoc]
theorem mkTyL_len : ∀ (ts : List Ty) (k : Int), (mkTyL ts k).length = ts.length
  | [], k => rfl
  | t :: ts, k => by rw [mkTyL, List.length_cons, mkTyL_len ts, List.length_cons]
theorem mkTmL_len : ∀ (ts : List Tm) (k : Int), (mkTmL ts k).length = ts.length
  | [], k => rfl
  | t :: ts, k => by rw [mkTmL, List.length_cons, mkTmL_len ts, List.length_cons]
theorem mkTy_eq (t : Ty) (k : Int) : mkTy t k = .mk k (mkTyL t.ks (k + 1)) := by cases t; rw [mkTy]; rfl
theorem mkTm_eq (t : Tm) (k : Int) : mkTm t k = .mk k (mText (k + 1).toNat) (k + 1 + 1) (.mk (k + 1 + 1 + 1) (mkTyL t.ty.ks (k + 1 + 1 + 1 + 1))) (.mk (k + 1 + 1 + 1 + 1 + cntTyL t.ty.ks) (mkTyL t.fr.ks (k + 1 + 1 + 1 + 1 + cntTyL t.ty.ks + 1))) (k + 1 + 1 + 1 + 1 + cntTyL t.ty.ks + 1 + cntTyL t.fr.ks) (mkTmL t.ks (k + 1 + 1 + 1 + 1 + cntTyL t.ty.ks + 1 + cntTyL t.fr.ks + 1)) := by cases t; rw [mkTm]; rfl

/- One element of a block. -/
theorem upd_in : ∀ {X e e' Y vs : List Value} {o : Nat}, upd e o vs = some e' → upd (X ++ (e ++ Y)) (X.length + o) vs = some (X ++ (e' ++ Y))
  | [], e, e', Y, vs, o, h => by
    obtain ⟨h1, h2⟩ := upd_spec h
    simp only [List.nil_append, List.length_nil, Nat.zero_add]
    have := upd_at (A := e.take o) (B := (e.drop o).take vs.length) (C := (e.drop o).drop vs.length ++ Y) (V := vs) (o := o) (by simp; omega) (by simp; omega)
    rw [show e.take o ++ ((e.drop o).take vs.length ++ ((e.drop o).drop vs.length ++ Y)) = e ++ Y from by
      rw [← List.append_assoc ((e.drop o).take vs.length), List.take_append_drop, ← List.append_assoc, List.take_append_drop]] at this
    rw [this, h1, List.drop_drop]
    simp
  | x :: X, e, e', Y, vs, o, h => by
    have := upd_in (X := X) (Y := Y) h
    rw [List.length_cons, show X.length + 1 + o = (X.length + o) + 1 by omega]
    simp only [List.cons_append, upd, this]
theorem upd_el {A : List Value} {D : List (List Value)} {e e' R vs : List Value} {i sz off : Nat} (hD : D.length = i) (ha : ∀ x ∈ D, x.length = sz) (he : upd e off vs = some e') :
    upd (A ++ (D.flatten ++ (e ++ R))) (A.length + i * sz + off) vs = some (A ++ (D.flatten ++ (e' ++ R))) := by
  have := upd_in (X := A ++ D.flatten) (Y := R) he
  rw [List.length_append, flat_len ha, hD, List.append_assoc, List.append_assoc] at this
  exact this
theorem get_el {A : List Value} {D : List (List Value)} {e R : List Value} {i sz off : Nat} {v : Value} (hD : D.length = i) (ha : ∀ x ∈ D, x.length = sz) (he : e[off]? = some v) :
    (A ++ (D.flatten ++ (e ++ R)))[A.length + i * sz + off]? = some v := by
  have hlt : off < e.length := (List.getElem?_eq_some_iff.1 he).1
  have hf := flat_len ha
  rw [hD] at hf
  rw [List.getElem?_append, if_neg (by omega), List.getElem?_append, if_neg (by omega), List.getElem?_append, if_pos (by omega)]
  rw [show A.length + i * sz + off - A.length - D.flatten.length = off by omega]
  exact he
theorem at_el {hp : List Ent} {G : IM} {b : Nat} {A : List Value} {D : List (List Value)} {e R : List Value} {i sz off : Nat} {v : Value} (hm : Ent.blk b (A ++ (D.flatten ++ (e ++ R))) ∈ hp) (hD : D.length = i) (ha : ∀ x ∈ D, x.length = sz) (he : e[off]? = some v) :
    At hp G b (A.length + i * sz + off) [v] := at_blk_s hm (get_el hD ha he)

section lend
variable {P : Program} {Γ : Ctx} {env : Env} {hp : List Ent} {G : IM} {K : Po} {ops : Array Oper} {rest : List Oper} {ty : TypeId} {pos : String} {af : Array Edge} {gd : Option (Nat × Bool)}
/-- A call that is lent blocks, gives a value and hands blocks back. -/
def Lent (v0 : Value) (G : IM) (Φ : Blks → Prop) : IM → Value → List Ent → Prop := fun G' v outs => G' = G ∧ v = v0 ∧ ∃ bs', outs = blks bs' ∧ Φ bs'
theorem perm_lend (x : Ent) (r0 r1 r2 : Blks) : (x :: blks (r0 ++ (r1 ++ r2))).Perm (blks r1 ++ (x :: blks (r0 ++ r2))) := by
  simp only [blks_append]
  refine List.Perm.trans ?_ List.perm_middle.symm
  refine List.Perm.cons x ?_
  rw [← List.append_assoc, ← List.append_assoc]
  exact List.Perm.append_right _ List.perm_append_comm
theorem seq_lend {d : Nat} {f : FuncId} [hF : FunI P f] {xs : List Operand} {ats : Array TypeId} {vs : List Value} {v0 : Value} {Φ : Blks → Prop} {x : Ent} {R r0 r1 r2 : Blks}
    (hx : evl env xs = some vs) (h : Fn P f vs (blks r1) G (Lent v0 G Φ)) (hR : R = r0 ++ (r1 ++ r2)) (hw : wantG ops env gd = some true) (hd : Nat.blt d Γ.n = true)
    (k : ∀ r1', Φ r1' → TriL P Γ ops rest K ⟨(d, v0) :: env, x :: blks (r0 ++ (r1' ++ r2)), G⟩) : TriL P Γ ops (⟨some d, .call ⟨.value (.func f), ⟨xs⟩, ats⟩, ty, pos, af, gd⟩ :: rest) K ⟨env, x :: blks R, G⟩ := by
  subst hR
  refine seq_step (step_call_own hx h (perm_lend x r0 r1 r2) hd) hw ?_
  rintro _ ⟨v, G', outs, rfl, _, rfl, rfl, r1', rfl, hΦ⟩
  exact triL_perm (perm_lend x r0 r1' r2).symm (k r1' hΦ)
theorem res_tmp' {t : Nat} {v : Value} {P : Program} {Γ : Ctx} {env : Env} {hp : List Ent} {G : IM} (h : look env t = some v) : ResOne P Γ ⟨env, hp, G⟩ (.tmp t) v := res_tmp h
end lend
end Gw
end Go.Proofs.Ytlefgfdhlblahaa
