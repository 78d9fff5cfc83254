/-
  Nodes at paths, casts by their labels. Slices of slices; slices of the call's own opened as blocks; one element of a slice of terms replaced. Values of the stack machine: as trees, and as they lie in memory; what an instruction does, in plain words. What an instruction does, case by case; what stays true of a state: no list is long, each number is small. The reference model's source of numbers: each draw stays in its bounds. Where ways meet again. How high and how wide types are. The reference model's drawn types: what they are made of, and how big they are. The node of a term at a path. The reference model's TermValid. The reference model's drawn types, changed at random. The reference model's drawn types, changed at random. Terms without casts and types, in plain words. Nodes at paths, in plain words: paths concatenate. The program's stack machine: own slices cut short and written; number, expects, clone, pop, push. Strings: cut, put together, compared. The program's stack machine: clone, pop, push. The reference's decimal digits of a number. The reference model's drawn terms: what they are made of, and how big they are. The reference model's drawn terms. The reference model's source is opened; drawn closed terms and valid terms. The reference model's functions on types: they end, and what they give has operands as it must. The laws' reading of marks in types and terms. Contexts of bindings: looked up, made longer. The reference's stack machine: pushing, popping. Nodes replaced: the program's put, the reference model's l16Replace. The reference model's replacing of nodes. The reference's stack machine: instructions that take values from the stack.
-/
import Derived.Test.YtaoaeilognhfpaaDoorKa0
import Derived.Laws.Slices
import Derived.Lib.ItoaNum
namespace Go.Proofs.YtaoaeilognhfpaaDoor
open Go Go.RowKit
namespace Gw
/-- The node at a path. -/
def tAt : Tm → List Int → Option Tm
 | t, [] => some t
 | .mk _ _ _ _ _ _ ks, i :: is => if h : 0 ≤ i ∧ i < ks.length then tAt (ks[i.toNat]'(by omega)) is else none
def z9 : List Value := [.int .i64 0, .string ⟨⟨[]⟩⟩, .int .i64 0, .int .i64 0, .slice none 0 0, .int .i64 0, .slice none 0 0, .int .i64 0, .slice none 0 0]
def AtP (t : Tm) (path : List Int) (G : IM) : IM → Value → List Ent → Prop := fun G' v outs => G' = G ∧ outs = [] ∧
 ((∃ x cells, tAt t path = some x ∧ RTm G x cells ∧ v = .tuple ⟨[.agg ⟨cells⟩, .bool true]⟩) ∨ (tAt t path = none ∧ v = .tuple ⟨[.agg ⟨z9⟩, .bool false]⟩))
end Gw
end Go.Proofs.YtaoaeilognhfpaaDoor
namespace Go.Proofs.YtaoaeilognhfpaaDoor
open Go Go.RowKit
namespace Gw
section slaw
variable {P : Program} {Γ : Ctx} {env : Env} {hp : List Ent} {G : IM} {ty : TypeId} {K : Po} {ops : Array Oper} {rest : List Oper}
theorem pure_slice_from {x y : Operand} {t el : TypeId} {i : TyR} {sz by' : Nat} {zs : List Value} [hI : TyI P t i] (hd' : i.desc = .slice el) [hE : TySz P el sz by' zs] {b o n c l : Nat}
  (hx : evo env x = some (.slice (some ⟨b, o, none⟩) n c)) (hy : evo env y = some (.int .i64 (l : Int))) (hl : l ≤ n) :
  PureOp P Γ ⟨env, hp, G⟩ (.slice t x (some y) none none) ty (.slice (some ⟨b, if c = l then o else o + l * sz, none⟩) (n - l) (c - l)) := by
 refine ⟨fun a _ hs _ _ _ _ w => ?_⟩
 have hu := hI.und
 rw [hd'] at hu
 obtain ⟨d, hE⟩ := hE.ok
 obtain ⟨inf, z, t1, t2, t3, _⟩ := run_tyI (P := P) (t := el)
 have e1 : a.eval x = _ := hs.evo hx
 have e2 : a.eval y = _ := hs.evo hy
 have hb : ∀ code, (Instr.sliceBound (.int .i64 (l : Int)) n code).run P w = .ok l w := fun code => by
  have := run_sliceBound (P := P) w .i64 (l : Int) n code (by omega) (by omega)
  simpa using this
 simp only [execOp, Option.map, e1, e2, Instr.sliceAt, Sem.run_bind, run_underlying hu, Result.andThen_ok, Instr.slice, Instr.sliceBounds, Sem.run_pure, hb, t3]
 by_cases h : c = l
 ·simp [h]
 ·simp [h, add_none]
theorem Sl.from {G : IM} {b o n c l sz : Nat} {cs : List Value} (h : Sl G (some ⟨b, o, none⟩) n c sz cs) (hl : l ≤ n) : Sl G (some ⟨b, if c = l then o else o + l * sz, none⟩) (n - l) (c - l) sz (cs.drop (l * sz)) := by
 obtain ⟨h1, h2, h3, h4⟩ := h
 refine ⟨by rw [List.length_drop, h1, Nat.sub_mul], by omega, by omega, ?_⟩
 by_cases h : c = l
 ·left; omega
 ·rcases h4 with h0 | ⟨b', o', full, he, hg, hv⟩
  ·left; omega
  ·right
   cases he
   rw [if_neg h]
   refine ⟨b, _, full, rfl, hg, fun j v hj => ?_⟩
   rw [List.getElem?_drop] at hj
   have := hv _ v hj
   rw [Nat.add_assoc]; exact this
end slaw
/- Data outside taken-back blocks. -/
/-- A node replaced. -/
def mPut : Tm → List Int → Tm → Tm
 | _, [], x => x
 | .mk k nm num ty fr lb ks, i :: is, x => if h : 0 ≤ i ∧ i < ks.length then .mk k nm num ty fr lb (ks.set i.toNat (mPut (ks[i.toNat]'(by omega)) is x)) else .mk k nm num ty fr lb ks
end Gw
end Go.Proofs.YtaoaeilognhfpaaDoor
namespace Go.Proofs.YtaoaeilognhfpaaDoor
open Go Go.RowKit
namespace Gw
theorem pure_sub_nat {P : Program} {Γ : Ctx} {env : Env} {hp : List Ent} {G : IM} {ty : TypeId} {x y : Operand} {t t' : TypeId} {m n : Int} {z : Nat} (hx : evo env x = some (.int .i64 m)) (hy : evo env y = some (.int .i64 n)) (h : m - n = z) (hb : z ≤ 9223372036854775807) :
  PureOp P Γ ⟨env, hp, G⟩ (.binOp .sub t x y t') ty (.int .i64 (z : Int)) := by
 have := pure_sub (P := P) (Γ := Γ) (hp := hp) (G := G) (ty := ty) (t := t) (t' := t') hx hy (by omega) (by omega)
 rwa [h] at this
inductive MV where
 | mk (k num : Int) (env parts : List MV)
def MV.k : MV → Int | .mk k _ _ _ => k
def MV.num : MV → Int | .mk _ n _ _ => n
def MV.env : MV → List MV | .mk _ _ e _ => e
def MV.parts : MV → List MV | .mk _ _ _ p => p
theorem all_snoc {α : Type} {P : α → Prop} {us : List α} {u : α} (h : ∀ x ∈ us, P x) (hu : P u) : ∀ x ∈ us ++ [u], P x := by
 intro x hx
 rcases List.mem_append.1 hx with hx | hx
 ·exact h x hx
 ·obtain rfl := List.mem_singleton.1 hx; exact hu
def mv0 : MV := .mk 0 0 [] []
/- How it lies in memory; kc says how a kind is written. -/
mutual
def RMv (kc : Int → Int) (G : IM) : MV → List Value → Prop
 | .mk k num env parts, cells => ∃ p c es q d fs, cells = [.int .i64 (kc k), .int .i64 num, .slice p env.length c, .slice q parts.length d] ∧ I64 num ∧ I64 (kc k) ∧ SlE G p env.length c 4 es ∧ RMvL kc G env es ∧ SlE G q parts.length d 4 fs ∧ RMvL kc G parts fs
def RMvL (kc : Int → Int) (G : IM) : List MV → List (List Value) → Prop
 | [], es => es = []
 | t :: ts, es => ∃ a r, es = a :: r ∧ RMv kc G t a ∧ RMvL kc G ts r
end
mutual
theorem RMv.mono {kc : Int → Int} {G G' : IM} (hg : IMle G G') : ∀ {t : MV} {cells : List Value}, RMv kc G t cells → RMv kc G' t cells
 | .mk k num env parts, cells, h => by
  simp only [RMv] at h ⊢
  obtain ⟨p, c, es, q, d, fs, h1, h2, h3, h4, h5, h6, h7⟩ := h
  exact ⟨p, c, es, q, d, fs, h1, h2, h3, h4.mono hg, RMvL.mono hg h5, h6.mono hg, RMvL.mono hg h7⟩
theorem RMvL.mono {kc : Int → Int} {G G' : IM} (hg : IMle G G') : ∀ {ts : List MV} {es : List (List Value)}, RMvL kc G ts es → RMvL kc G' ts es
 | [], es, h => by simpa only [RMvL] using h
 | t :: ts, es, h => by
  simp only [RMvL] at h ⊢
  obtain ⟨a, r, h1, h2, h3⟩ := h
  exact ⟨a, r, h1, RMv.mono hg h2, RMvL.mono hg h3⟩
end
section
variable {kc : Int → Int} {G : IM}
theorem RMv.open {t : MV} {cells : List Value} (h : RMv kc G t cells) : ∃ p c es q d fs, cells = [.int .i64 (kc t.k), .int .i64 t.num, .slice p t.env.length c, .slice q t.parts.length d] ∧ I64 t.num ∧ I64 (kc t.k) ∧ SlE G p t.env.length c 4 es ∧ RMvL kc G t.env es ∧ SlE G q t.parts.length d 4 fs ∧ RMvL kc G t.parts fs := by
 obtain ⟨k, num, env, parts⟩ := t
 simp only [RMv] at h
 exact h
theorem RMv.mk {k num : Int} {env parts : List MV} {p q : Option Addr} {c d n m : Nat} {es fs : List (List Value)} (h1 : I64 num) (h2 : I64 (kc k)) (hn : n = env.length) (hm : m = parts.length) (h3 : SlE G p n c 4 es) (h4 : RMvL kc G env es) (h5 : SlE G q m d 4 fs) (h6 : RMvL kc G parts fs) :
  RMv kc G (.mk k num env parts) [.int .i64 (kc k), .int .i64 num, .slice p n c, .slice q m d] := by
 subst hn hm
 simp only [RMv]
 exact ⟨p, c, es, q, d, fs, rfl, h1, h2, h3, h4, h5, h6⟩
theorem RMv.leaf {k num : Int} (h1 : I64 num) (h2 : I64 (kc k)) : RMv kc G (.mk k num [] []) [.int .i64 (kc k), .int .i64 num, .slice none 0 0, .slice none 0 0] :=
 RMv.mk h1 h2 rfl rfl (SlE.nil G 4) rfl (SlE.nil G 4) rfl
theorem RMv.kids {t : MV} {a b : Value} {p q : Option Addr} {n m c d : Nat} (h : RMv kc G t [a, b, .slice p n c, .slice q m d]) : ∃ es fs, SlE G p t.env.length c 4 es ∧ RMvL kc G t.env es ∧ SlE G q t.parts.length d 4 fs ∧ RMvL kc G t.parts fs := by
 obtain ⟨p', c', es, q', d', fs, he, _, _, h3, h4, h5, h6⟩ := h.open
 simp only [List.cons.injEq, Value.slice.injEq, and_true] at he
 obtain ⟨_, _, ⟨rfl, _, rfl⟩, rfl, _, rfl⟩ := he
 exact ⟨es, fs, h3, h4, h5, h6⟩
theorem RMv.len {t : MV} {cells : List Value} (h : RMv kc G t cells) : cells.length = 4 := by
 obtain ⟨p, c, es, q, d, fs, rfl, _⟩ := h.open; rfl
theorem RMv.one {t : MV} {cells : List Value} (h : RMv kc G t cells) : cells.all (·.oneCell') = true := by
 obtain ⟨p, c, es, q, d, fs, rfl, _⟩ := h.open; rfl
theorem RMvL.len : ∀ {ts : List MV} {es : List (List Value)}, RMvL kc G ts es → es.length = ts.length
 | [], es, h => by simp only [RMvL] at h; subst h; rfl
 | t :: ts, es, h => by
  simp only [RMvL] at h
  obtain ⟨a, r, rfl, _, h3⟩ := h
  simp [RMvL.len h3]
theorem RMvL.get : ∀ {ts : List MV} {es : List (List Value)}, RMvL kc G ts es → ∀ {i : Nat} {t : MV}, ts[i]? = some t → ∃ e, es[i]? = some e ∧ RMv kc G t e
 | [], es, h, i, t, ht => by simp at ht
 | t' :: ts, es, h, i, t, ht => by
  simp only [RMvL] at h
  obtain ⟨a, r, rfl, h2, h3⟩ := h
  cases i with
  | zero => simp at ht; subst ht; exact ⟨a, by simp, h2⟩
  | succ i =>
   obtain ⟨e, he, hr⟩ := RMvL.get h3 (by simpa using ht)
   exact ⟨e, by simpa using he, hr⟩
theorem RMvL.each : ∀ {ts : List MV} {es : List (List Value)}, RMvL kc G ts es → ∀ e ∈ es, e.length = 4 ∧ e.all (·.oneCell') = true
 | [], es, h, e, he => by simp only [RMvL] at h; subst h; simp at he
 | t :: ts, es, h, e, he => by
  simp only [RMvL] at h
  obtain ⟨a, r, rfl, h2, h3⟩ := h
  rcases List.mem_cons.1 he with rfl | he
  ·exact ⟨h2.len, h2.one⟩
  ·exact RMvL.each h3 e he
theorem RMvL.all {ts : List MV} {es : List (List Value)} (h : RMvL kc G ts es) : ∀ e ∈ es, e.length = 4 := fun e he => (h.each e he).1
theorem RMvL.ones {ts : List MV} {es : List (List Value)} (h : RMvL kc G ts es) : ∀ e ∈ es, e.all (·.oneCell') = true := fun e he => (h.each e he).2
theorem RMvL.flat1 {ts : List MV} {es : List (List Value)} (h : RMvL kc G ts es) : ∀ u ∈ es.flatten, u.oneCell' = true := by
 intro u hu
 obtain ⟨e, he, hue⟩ := List.mem_flatten.1 hu
 exact List.all_eq_true.1 (h.ones e he) u hue
theorem RMvL.append : ∀ {ts us : List MV} {es fs : List (List Value)}, RMvL kc G ts es → RMvL kc G us fs → RMvL kc G (ts ++ us) (es ++ fs)
 | [], us, es, fs, h, h2 => by simp only [RMvL] at h; subst h; simpa using h2
 | t :: ts, us, es, fs, h, h2 => by
  simp only [RMvL] at h
  obtain ⟨a, r, rfl, h3, h4⟩ := h
  simp only [List.cons_append, RMvL]
  exact ⟨a, r ++ fs, rfl, h3, RMvL.append h4 h2⟩
theorem RMvL.one' {t : MV} {e : List Value} (h : RMv kc G t e) : RMvL kc G [t] [e] := by
 simp only [RMvL]; exact ⟨e, [], rfl, h, rfl⟩
theorem RMvL.snoc {ts : List MV} {es : List (List Value)} {t : MV} {e : List Value} (h : RMvL kc G ts es) (h2 : RMv kc G t e) : RMvL kc G (ts ++ [t]) (es ++ [e]) := h.append (.one' h2)
theorem RMvL.take : ∀ {ts : List MV} {es : List (List Value)} (n : Nat), RMvL kc G ts es → RMvL kc G (ts.take n) (es.take n)
 | ts, es, 0, _ => by simp [RMvL]
 | [], es, n + 1, h => by simp only [RMvL] at h; subst h; simp [RMvL]
 | t :: ts, es, n + 1, h => by
  simp only [RMvL] at h
  obtain ⟨a, r, rfl, h3, h4⟩ := h
  simp only [List.take_succ_cons, RMvL]
  exact ⟨a, r.take n, rfl, h3, RMvL.take n h4⟩
theorem RMvL.drop : ∀ {ts : List MV} {es : List (List Value)} (n : Nat), RMvL kc G ts es → RMvL kc G (ts.drop n) (es.drop n)
 | ts, es, 0, h => by simpa using h
 | [], es, n + 1, h => by simp only [RMvL] at h; subst h; simp [RMvL]
 | t :: ts, es, n + 1, h => by
  simp only [RMvL] at h
  obtain ⟨a, r, rfl, h3, h4⟩ := h
  simp only [List.drop_succ_cons]
  exact RMvL.drop n h4
/-- The cells of an element of a slice of values. -/
theorem SlE.mvAt {p : Option Addr} {n c : Nat} {es : List (List Value)} {ts : List MV} (h : SlE G p n c 4 es) (hk : RMvL kc G ts es) {i : Nat} {t : MV} (ht : ts[i]? = some t) :
  ∃ b o q d q' d', p = some ⟨b, o, none⟩ ∧ (∀ hp, At hp G b (o + i * 4) [.int .i64 (kc t.k), .int .i64 t.num, .slice q t.env.length d, .slice q' t.parts.length d']) ∧ RMv kc G t [.int .i64 (kc t.k), .int .i64 t.num, .slice q t.env.length d, .slice q' t.parts.length d'] ∧ G b ≠ none := by
 obtain ⟨e, he, hr⟩ := hk.get ht
 have hi : i < n := by rw [← h.len]; exact (List.getElem?_eq_some_iff.1 he).1
 obtain ⟨e', b, o, he', hp, _, _, hat, hg⟩ := h.get hi
 rw [he] at he'; cases he'
 obtain ⟨q, d, _, q', d', _, rfl, _⟩ := hr.open
 exact ⟨b, o, q, d, q', d', hp, hat, hr, hg⟩
end

/- Where to go back to, and with what environment. -/
def RFr (kc : Int → Int) (G : IM) (f : Int × List MV) (cells : List Value) : Prop := ∃ p c es, cells = [.int .i64 f.1, .slice p f.2.length c] ∧ I64 f.1 ∧ SlE G p f.2.length c 4 es ∧ RMvL kc G f.2 es
def RFrL (kc : Int → Int) (G : IM) : List (Int × List MV) → List (List Value) → Prop
 | [], es => es = []
 | t :: ts, es => ∃ a r, es = a :: r ∧ RFr kc G t a ∧ RFrL kc G ts r
section
variable {kc : Int → Int} {G : IM}
theorem RFr.mono {G' : IM} (hg : IMle G G') {f : Int × List MV} {cells : List Value} (h : RFr kc G f cells) : RFr kc G' f cells := by
 obtain ⟨p, c, es, h1, h2, h3, h4⟩ := h
 exact ⟨p, c, es, h1, h2, h3.mono hg, h4.mono hg⟩
theorem RFrL.mono {G' : IM} (hg : IMle G G') : ∀ {ts : List (Int × List MV)} {es : List (List Value)}, RFrL kc G ts es → RFrL kc G' ts es
 | [], es, h => by simpa only [RFrL] using h
 | t :: ts, es, h => by
  simp only [RFrL] at h ⊢
  obtain ⟨a, r, h1, h2, h3⟩ := h
  exact ⟨a, r, h1, h2.mono hg, RFrL.mono hg h3⟩
theorem RFr.mk {a : Int} {env : List MV} {p : Option Addr} {c n : Nat} {es : List (List Value)} (h1 : I64 a) (hn : n = env.length) (h3 : SlE G p n c 4 es) (h4 : RMvL kc G env es) : RFr kc G (a, env) [.int .i64 a, .slice p n c] := by
 subst hn; exact ⟨p, c, es, rfl, h1, h3, h4⟩
theorem RFrL.get : ∀ {ts : List (Int × List MV)} {es : List (List Value)}, RFrL kc G ts es → ∀ {i : Nat} {t : Int × List MV}, ts[i]? = some t → ∃ e, es[i]? = some e ∧ RFr kc G t e
 | [], es, h, i, t, ht => by simp at ht
 | t' :: ts, es, h, i, t, ht => by
  simp only [RFrL] at h
  obtain ⟨a, r, rfl, h2, h3⟩ := h
  cases i with
  | zero => simp at ht; subst ht; exact ⟨a, by simp, h2⟩
  | succ i =>
   obtain ⟨e, he, hr⟩ := RFrL.get h3 (by simpa using ht)
   exact ⟨e, by simpa using he, hr⟩
theorem RFrL.each : ∀ {ts : List (Int × List MV)} {es : List (List Value)}, RFrL kc G ts es → ∀ e ∈ es, e.length = 2 ∧ e.all (·.oneCell') = true
 | [], es, h, e, he => by simp only [RFrL] at h; subst h; simp at he
 | t :: ts, es, h, e, he => by
  simp only [RFrL] at h
  obtain ⟨a, r, rfl, h2, h3⟩ := h
  rcases List.mem_cons.1 he with rfl | he
  ·obtain ⟨p, c, es, rfl, _⟩ := h2; exact ⟨rfl, rfl⟩
  ·exact RFrL.each h3 e he
theorem RFrL.all {ts : List (Int × List MV)} {es : List (List Value)} (h : RFrL kc G ts es) : ∀ e ∈ es, e.length = 2 := fun e he => (h.each e he).1
theorem RFrL.ones {ts : List (Int × List MV)} {es : List (List Value)} (h : RFrL kc G ts es) : ∀ e ∈ es, e.all (·.oneCell') = true := fun e he => (h.each e he).2
theorem RFrL.flat1 {ts : List (Int × List MV)} {es : List (List Value)} (h : RFrL kc G ts es) : ∀ u ∈ es.flatten, u.oneCell' = true := by
 intro u hu
 obtain ⟨e, he, hue⟩ := List.mem_flatten.1 hu
 exact List.all_eq_true.1 (h.ones e he) u hue
theorem RFrL.snoc : ∀ {ts : List (Int × List MV)} {es : List (List Value)} {t : Int × List MV} {e : List Value}, RFrL kc G ts es → RFr kc G t e → RFrL kc G (ts ++ [t]) (es ++ [e])
 | [], es, t, e, h, h2 => by simp only [RFrL] at h; subst h; simp only [List.nil_append, RFrL]; exact ⟨e, [], rfl, h2, rfl⟩
 | t' :: ts, es, t, e, h, h2 => by
  simp only [RFrL] at h
  obtain ⟨a, r, rfl, h3, h4⟩ := h
  simp only [List.cons_append, RFrL]
  exact ⟨a, r ++ [e], rfl, h3, RFrL.snoc h4 h2⟩
theorem RFrL.take : ∀ {ts : List (Int × List MV)} {es : List (List Value)} (n : Nat), RFrL kc G ts es → RFrL kc G (ts.take n) (es.take n)
 | ts, es, 0, _ => by simp [RFrL]
 | [], es, n + 1, h => by simp only [RFrL] at h; subst h; simp [RFrL]
 | t :: ts, es, n + 1, h => by
  simp only [RFrL] at h
  obtain ⟨a, r, rfl, h3, h4⟩ := h
  simp only [List.take_succ_cons, RFrL]
  exact ⟨a, r.take n, rfl, h3, RFrL.take n h4⟩
theorem SlE.frAt {p : Option Addr} {n c : Nat} {es : List (List Value)} {ts : List (Int × List MV)} (h : SlE G p n c 2 es) (hk : RFrL kc G ts es) {i : Nat} {t : Int × List MV} (ht : ts[i]? = some t) :
  ∃ b o q d, p = some ⟨b, o, none⟩ ∧ (∀ hp, At hp G b (o + i * 2) [.int .i64 t.1, .slice q t.2.length d]) ∧ I64 t.1 ∧ (∃ fs, SlE G q t.2.length d 4 fs ∧ RMvL kc G t.2 fs) ∧ G b ≠ none := by
 obtain ⟨e, he, hr⟩ := hk.get ht
 have hi : i < n := by rw [← h.len]; exact (List.getElem?_eq_some_iff.1 he).1
 obtain ⟨e', b, o, he', hp, _, _, hat, hg⟩ := h.get hi
 rw [he] at he'; cases he'
 obtain ⟨q, d, fs, rfl, h1, h2, h3⟩ := hr
 exact ⟨b, o, q, d, hp, hat, h1, ⟨fs, h2, h3⟩, hg⟩
end

theorem flat_drop {sz : Nat} : ∀ {es : List (List Value)} (l : Nat), (∀ e ∈ es, e.length = sz) → es.flatten.drop (l * sz) = (es.drop l).flatten
 | [], l, _ => by simp
 | e :: es, 0, _ => by simp
 | e :: es, l + 1, h => by
  have he : e.length = sz := h e List.mem_cons_self
  rw [List.flatten_cons, List.drop_succ_cons, List.drop_append, show (l + 1) * sz - e.length = l * sz by rw [he, Nat.succ_mul]; omega, List.drop_eq_nil_of_le (by rw [he, Nat.succ_mul]; omega), List.nil_append]
  exact flat_drop l fun x hx => h x (List.mem_cons_of_mem _ hx)
theorem flat_take {sz : Nat} : ∀ {es : List (List Value)} (l : Nat), (∀ e ∈ es, e.length = sz) → es.flatten.take (l * sz) = (es.take l).flatten
 | [], l, _ => by simp
 | e :: es, 0, _ => by simp
 | e :: es, l + 1, h => by
  have he : e.length = sz := h e List.mem_cons_self
  rw [List.flatten_cons, List.take_succ_cons, List.flatten_cons, List.take_append, show (l + 1) * sz - e.length = l * sz by rw [he, Nat.succ_mul]; omega, List.take_of_length_le (by rw [he, Nat.succ_mul]; omega)]
  rw [flat_take l fun x hx => h x (List.mem_cons_of_mem _ hx)]
theorem SlE.from {G : IM} {b o n c l sz : Nat} {es : List (List Value)} (h : SlE G (some ⟨b, o, none⟩) n c sz es) (hl : l ≤ n) : SlE G (some ⟨b, if c = l then o else o + l * sz, none⟩) (n - l) (c - l) sz (es.drop l) :=
 SlE.of (by rw [← flat_drop l h.all]; exact h.sl.from hl) (by rw [List.length_drop, h.len]) (fun e he => h.all e (List.mem_of_mem_drop he)) (fun e he => h.one e (List.mem_of_mem_drop he))
theorem SlE.to {G : IM} {p : Option Addr} {n c l sz : Nat} {es : List (List Value)} (h : SlE G p n c sz es) (hl : l ≤ n) : SlE G p l c sz (es.take l) := by
 refine SlE.of ?_ (by rw [List.length_take, h.len]; omega) (fun e he => h.all e (List.mem_of_mem_take he)) (fun e he => h.one e (List.mem_of_mem_take he))
 obtain ⟨h1, h2, h3, h4⟩ := h.sl
 rw [← flat_take l h.all]
 refine ⟨by rw [List.length_take, h1]; exact Nat.min_eq_left (Nat.mul_le_mul_right _ hl), by omega, h3, ?_⟩
 rcases h4 with h0 | ⟨b, o, full, hp, hg, hv⟩
 ·left; omega
 ·right
  refine ⟨b, o, full, hp, hg, fun j v hj => hv j v ?_⟩
  rw [List.getElem?_take] at hj
  split at hj
  ·exact hj
  ·cases hj
theorem SlE.some {G : IM} {p : Option Addr} {n c sz : Nat} {es : List (List Value)} (h : SlE G p n c sz es) (hn : 0 < n) : ∃ b o, p = some ⟨b, o, none⟩ ∧ G b ≠ none := by
 obtain ⟨e, b, o, _, hp, _, _, _, hg⟩ := h.get hn
 exact ⟨b, o, hp, hg⟩
theorem ne_mono {G G' : IM} {b : Nat} (hg : IMle G G') (h : G b ≠ none) : G' b ≠ none := by
 cases hb : G b with
 | none => exact absurd hb h
 | some l => rw [hg b l hb]; simp
/-- A state: what runs next, the stack, the environment, where to go back to. -/
structure MSt where
 at' : Int
 st : List MV
 env : List MV
 fr : List (Int × List MV)
/-- A state in memory that no longer changes. -/
def RSs (kc : Int → Int) (G : IM) (s : MSt) (cells : List Value) : Prop := ∃ pe ce ps cs pf cf ee es ef, cells = [.int .i64 s.at', .slice pe s.env.length ce, .slice ps s.st.length cs, .slice pf s.fr.length cf] ∧ I64 s.at' ∧
 SlE G pe s.env.length ce 4 ee ∧ RMvL kc G s.env ee ∧ SlE G ps s.st.length cs 4 es ∧ RMvL kc G s.st es ∧ SlE G pf s.fr.length cf 2 ef ∧ RFrL kc G s.fr ef
theorem RSs.mk {kc : Int → Int} {G : IM} {a : Int} {st env : List MV} {fr : List (Int × List MV)} {pe ps pf : Option Addr} {ne ce ns cs nf cf : Nat} {ee es ef : List (List Value)} (h1 : I64 a) (hn1 : ne = env.length) (hn2 : ns = st.length) (hn3 : nf = fr.length)
  (h2 : SlE G pe ne ce 4 ee) (h3 : RMvL kc G env ee) (h4 : SlE G ps ns cs 4 es) (h5 : RMvL kc G st es) (h6 : SlE G pf nf cf 2 ef) (h7 : RFrL kc G fr ef) :
  RSs kc G ⟨a, st, env, fr⟩ [.int .i64 a, .slice pe ne ce, .slice ps ns cs, .slice pf nf cf] := by
 subst hn1 hn2 hn3
 exact ⟨pe, ce, ps, cs, pf, cf, ee, es, ef, rfl, h1, h2, h3, h4, h5, h6, h7⟩
theorem RSs.opn {kc : Int → Int} {G : IM} {a : Int} {st env : List MV} {fr : List (Int × List MV)} {cells : List Value} (h : RSs kc G ⟨a, st, env, fr⟩ cells) : ∃ pe ce ps cs pf cf ee es ef, cells = [.int .i64 a, .slice pe env.length ce, .slice ps st.length cs, .slice pf fr.length cf] ∧ I64 a ∧
 SlE G pe env.length ce 4 ee ∧ RMvL kc G env ee ∧ SlE G ps st.length cs 4 es ∧ RMvL kc G st es ∧ SlE G pf fr.length cf 2 ef ∧ RFrL kc G fr ef := h
theorem RSs.len {kc : Int → Int} {G : IM} {s : MSt} {cells : List Value} (h : RSs kc G s cells) : cells.length = 4 := by
 obtain ⟨pe, ce, ps, cs, pf, cf, ee, es, ef, rfl, _⟩ := h; rfl
theorem RSs.one {kc : Int → Int} {G : IM} {s : MSt} {cells : List Value} (h : RSs kc G s cells) : cells.all (·.oneCell') = true := by
 obtain ⟨pe, ce, ps, cs, pf, cf, ee, es, ef, rfl, _⟩ := h; rfl
def mPops (k : Int) : Nat := if k = 6 ∨ k = 7 ∨ k = 8 ∨ k = 11 then 2 else if k = 9 ∨ k = 12 ∨ k = 13 then 1 else 0
/-- The kind that is wanted, of how many, and the error of another one. -/
def mWant (k : Int) : Int × Nat × Int := if k = 6 then (2, 1, 1) else if k = 7 ∨ k = 8 then (0, 2, 2) else if k = 9 then (1, 1, 3) else if k = 12 ∨ k = 13 then (3, 1, 4) else (0, 0, 0)
def mPush (s : MSt) (v : MV) : MSt := { s with st := s.st ++ [v] }
/-- What an instruction does, once its operands v are popped and at' is past it. -/
def mGo (k a : Int) (s : MSt) (v : List MV) : MSt ⊕ (Int × Int) :=
 if k = 1 then .inl (mPush s (.mk 0 a [] []))
 else if k = 2 then .inl (mPush s (.mk 1 a [] []))
 else if k = 3 then (if (s.env.length : Int) - 1 - a < 0 then .inr (3, 0) else .inl (mPush s (s.env.getD ((s.env.length : Int) - 1 - a).toNat mv0)))
 else if k = 4 then .inl { mPush s (.mk 2 s.at' s.env []) with at' := s.at' + a }
 else if k = 5 then (if s.fr.length = 0 then .inr (3, 0) else .inl { s with at' := (s.fr.getD (s.fr.length - 1) (0, [])).1, env := (s.fr.getD (s.fr.length - 1) (0, [])).2, fr := s.fr.take (s.fr.length - 1) })
 else if k = 6 then .inl { s with at' := (v.getD 0 mv0).num, env := (v.getD 0 mv0).env ++ [v.getD 1 mv0], fr := s.fr ++ [(s.at', s.env)] }
 else if k = 7 then .inl (mPush s (.mk 0 (((v.getD 0 mv0).num + (v.getD 1 mv0).num) % 1000) [] []))
 else if k = 8 then .inl (mPush s (.mk 1 (if (v.getD 0 mv0).num < (v.getD 1 mv0).num then 1 else 0) [] []))
 else if k = 9 then .inl (if (v.getD 0 mv0).num = 0 then { s with at' := s.at' + a } else s)
 else if k = 10 then .inl { s with at' := s.at' + a }
 else if k = 11 then .inl (mPush s (.mk 3 0 [] v))
 else .inl (mPush s ((v.getD 0 mv0).parts.getD (k - 12).toNat mv0))
def mKinds (k : Int) (v : List MV) : Bool := (v.take (mWant k).2.1).all fun u => decide (u.k = (mWant k).1)
/-- An instruction of kind k with the number a: the next state, or a code and an error. -/
def mStep (k a : Int) (s : MSt) : MSt ⊕ (Int × Int) :=
 if s.st.length < mPops k then .inr (3, 0)
 else if mKinds k (s.st.drop (s.st.length - mPops k)) = true then mGo k a { s with at' := s.at' + 1, st := s.st.take (s.st.length - mPops k) } (s.st.drop (s.st.length - mPops k))
 else .inr (2, (mWant k).2.2)
/-- A number as it is written. -/
def mvText (v : MV) : ByteArray := if v.k = 0 then ⟨(Lib.decDigits v.num.toNat).toArray⟩ else if v.k = 1 then (if v.num = 0 then ⟨#[70]⟩ else ⟨#[84]⟩) else if v.k = 2 then ⟨⟨[102, 117, 110, 99, 116, 105, 111, 110]⟩⟩ else ⟨⟨[112, 97, 105, 114]⟩⟩
theorem mvText0 {v : MV} {j : Nat} (h : v.k = 0) (hj : v.num = j) : mvText v = ⟨(Lib.decDigits j).toArray⟩ := by unfold mvText; rw [if_pos h, hj, Int.toNat_natCast]
theorem mvText1f {v : MV} (h : v.k = 1) (hj : v.num = 0) : mvText v = ⟨#[70]⟩ := by unfold mvText; rw [if_neg (by omega), if_pos h, if_pos hj]
theorem mvText1t {v : MV} (h : v.k = 1) (hj : v.num = 1) : mvText v = ⟨#[84]⟩ := by unfold mvText; rw [if_neg (by omega), if_pos h, if_neg (by omega)]
theorem mvText2 {v : MV} (h : v.k = 2) : mvText v = ⟨⟨[102, 117, 110, 99, 116, 105, 111, 110]⟩⟩ := by unfold mvText; rw [if_neg (by omega), if_neg (by omega), if_pos h]
theorem mvText3 {v : MV} (h : v.k = 3) : mvText v = ⟨⟨[112, 97, 105, 114]⟩⟩ := by unfold mvText; rw [if_neg (by omega), if_neg (by omega), if_neg (by omega)]
theorem ft_cut {v : MV} {j : Nat} (h : v.k = 1) (hj : v.num = j) (h1 : j ≤ 1) : (⟨⟨[70, 84]⟩⟩ : ByteArray).extract j (j + 1) = mvText v := by
 have : j = 0 ∨ j = 1 := by omega
 rcases this with rfl | rfl
 ·rw [mvText1f h hj]; rfl
 ·rw [mvText1t h hj]; rfl
def mEnd (s : MSt) : ByteArray × Int × Int := if s.st.length ≠ 1 ∨ 0 < s.fr.length then (⟨#[]⟩, 3, 0) else (mvText (s.st.getD 0 mv0), 0, 0)
/-- The run of a code from a state, so many instructions long at most. -/
def mRun (ops : List (Int × Int)) : Nat → MSt → ByteArray × Int × Int
 | t, s => if (ops.length : Int) ≤ s.at' then mEnd s else match t with
  | 0 => (⟨#[]⟩, 5, 0)
  | t + 1 => match mStep (ops.getD s.at'.toNat (0, 0)).1 (ops.getD s.at'.toNat (0, 0)).2 s with
   | .inl s' => mRun ops t s'
   | .inr (c, e) => (⟨#[]⟩, c, e)
def mMost (k behind : Int) : Int := if k = 1 then 999 else if k = 2 then 1 else if k = 3 then 11 else if k = 4 ∨ k = 9 ∨ k = 10 then behind else 0
def mOpOk (n : Nat) (i : Nat) (x : Int × Int) : Bool := decide (1 ≤ x.1 ∧ x.1 ≤ 13 ∧ 0 ≤ x.2 ∧ x.2 ≤ mMost x.1 ((n : Int) - 1 - i))
def mOpsOk (ops : List (Int × Int)) : Bool := decide (1 ≤ ops.length ∧ ops.length ≤ 120) && (List.range ops.length).all fun i => mOpOk ops.length i (ops.getD i (0, 0))
def mRunOps (ops : List (Int × Int)) (ticks : Int) : ByteArray × Int × Int :=
 if mOpsOk ops = true ∧ 0 ≤ ticks ∧ ticks ≤ 2000 then mRun ops ticks.toNat ⟨0, [], [], []⟩ else (⟨#[]⟩, 3, 0)
end Gw
end Go.Proofs.YtaoaeilognhfpaaDoor
namespace Go.Proofs.YtaoaeilognhfpaaDoor
open Go Go.RowKit
namespace Gw
/-- The step, once there are enough operands. -/
def mTake (k a : Int) (s : MSt) : MSt ⊕ (Int × Int) :=
 if mKinds k (s.st.drop (s.st.length - mPops k)) = true then mGo k a { s with at' := s.at' + 1, st := s.st.take (s.st.length - mPops k) } (s.st.drop (s.st.length - mPops k))
 else .inr (2, (mWant k).2.2)
theorem mStep_few {k a : Int} {s : MSt} (h : s.st.length < mPops k) : mStep k a s = .inr (3, 0) := by unfold mStep; rw [if_pos h]
theorem mStep_take {k a : Int} {s : MSt} (h : ¬s.st.length < mPops k) : mStep k a s = mTake k a s := by unfold mStep mTake; rw [if_neg h]
theorem mPops2 {k : Int} (h : k = 6 ∨ k = 7 ∨ k = 8 ∨ k = 11) : mPops k = 2 := by unfold mPops; rw [if_pos h]
theorem mPops1 {k : Int} (h : k = 9 ∨ k = 12 ∨ k = 13) : mPops k = 1 := by unfold mPops; rw [if_neg (by omega), if_pos h]
theorem mPops0 {k : Int} (h : ¬(k = 6 ∨ k = 7 ∨ k = 8 ∨ k = 11)) (h2 : ¬(k = 9 ∨ k = 12 ∨ k = 13)) : mPops k = 0 := by unfold mPops; rw [if_neg h, if_neg h2]
section
variable {a : Int} {s : MSt} {v0 v1 : MV}
theorem mTake6 (h : s.st.drop (s.st.length - 2) = [v0, v1]) : mTake 6 a s = if v0.k = 2 then .inl ⟨v0.num, s.st.take (s.st.length - 2), v0.env ++ [v1], s.fr ++ [(s.at' + 1, s.env)]⟩ else .inr (2, 1) := by
 have hp : mPops 6 = 2 := rfl
 have hw : mWant 6 = (2, 1, 1) := rfl
 unfold mTake mKinds
 rw [hp, h, hw]
 by_cases hk : v0.k = 2 <;> simp [hk, mGo]
theorem mTake7 (h : s.st.drop (s.st.length - 2) = [v0, v1]) : mTake 7 a s = if v0.k = 0 ∧ v1.k = 0 then .inl ⟨s.at' + 1, s.st.take (s.st.length - 2) ++ [.mk 0 ((v0.num + v1.num) % 1000) [] []], s.env, s.fr⟩ else .inr (2, 2) := by
 have hp : mPops 7 = 2 := rfl
 have hw : mWant 7 = (0, 2, 2) := rfl
 unfold mTake mKinds
 rw [hp, h, hw]
 by_cases hk : v0.k = 0 <;> by_cases hk1 : v1.k = 0 <;> simp [hk, hk1, mGo, mPush]
theorem mTake8 (h : s.st.drop (s.st.length - 2) = [v0, v1]) : mTake 8 a s = if v0.k = 0 ∧ v1.k = 0 then .inl ⟨s.at' + 1, s.st.take (s.st.length - 2) ++ [.mk 1 (if v0.num < v1.num then 1 else 0) [] []], s.env, s.fr⟩ else .inr (2, 2) := by
 have hp : mPops 8 = 2 := rfl
 have hw : mWant 8 = (0, 2, 2) := rfl
 unfold mTake mKinds
 rw [hp, h, hw]
 by_cases hk : v0.k = 0 <;> by_cases hk1 : v1.k = 0 <;> simp [hk, hk1, mGo, mPush]
theorem mTake11 (h : s.st.drop (s.st.length - 2) = [v0, v1]) : mTake 11 a s = .inl ⟨s.at' + 1, s.st.take (s.st.length - 2) ++ [.mk 3 0 [] [v0, v1]], s.env, s.fr⟩ := by
 have hp : mPops 11 = 2 := rfl
 have hw : mWant 11 = (0, 0, 0) := rfl
 unfold mTake mKinds
 rw [hp, h, hw]
 simp [mGo, mPush]
theorem mTake9 (h : s.st.drop (s.st.length - 1) = [v0]) : mTake 9 a s = if v0.k = 1 then .inl ⟨if v0.num = 0 then s.at' + 1 + a else s.at' + 1, s.st.take (s.st.length - 1), s.env, s.fr⟩ else .inr (2, 3) := by
 have hp : mPops 9 = 1 := rfl
 have hw : mWant 9 = (1, 1, 3) := rfl
 unfold mTake mKinds
 rw [hp, h, hw]
 by_cases hk : v0.k = 1 <;> by_cases hn : v0.num = 0 <;> simp [hk, hn, mGo]
theorem mTake12 {k : Int} (hk : k = 12 ∨ k = 13) (h : s.st.drop (s.st.length - 1) = [v0]) : mTake k a s = if v0.k = 3 then .inl ⟨s.at' + 1, s.st.take (s.st.length - 1) ++ [v0.parts.getD (k - 12).toNat mv0], s.env, s.fr⟩ else .inr (2, 4) := by
 rcases hk with rfl | rfl
 ·have hp : mPops 12 = 1 := rfl
  have hw : mWant 12 = (3, 1, 4) := rfl
  unfold mTake mKinds
  rw [hp, h, hw]
  by_cases hk : v0.k = 3 <;> simp [hk, mGo, mPush]
 ·have hp : mPops 13 = 1 := rfl
  have hw : mWant 13 = (3, 1, 4) := rfl
  unfold mTake mKinds
  rw [hp, h, hw]
  by_cases hk : v0.k = 3 <;> simp [hk, mGo, mPush]
theorem mTake0 {k : Int} (h : ¬(k = 6 ∨ k = 7 ∨ k = 8 ∨ k = 11)) (h2 : ¬(k = 9 ∨ k = 12 ∨ k = 13)) : mTake k a s = mGo k a { s with at' := s.at' + 1 } [] := by
 have hw : mWant k = (0, 0, 0) := by unfold mWant; rw [if_neg (by omega), if_neg (by omega), if_neg (by omega), if_neg (by omega)]
 unfold mTake mKinds
 rw [mPops0 h h2, hw]
 simp
theorem mTake1 : mTake 1 a s = .inl ⟨s.at' + 1, s.st ++ [.mk 0 a [] []], s.env, s.fr⟩ := by rw [mTake0 (by omega) (by omega)]; rfl
theorem mTake2 : mTake 2 a s = .inl ⟨s.at' + 1, s.st ++ [.mk 1 a [] []], s.env, s.fr⟩ := by rw [mTake0 (by omega) (by omega)]; rfl
theorem mTake3 : mTake 3 a s = if (s.env.length : Int) - 1 - a < 0 then .inr (3, 0) else .inl ⟨s.at' + 1, s.st ++ [s.env.getD ((s.env.length : Int) - 1 - a).toNat mv0], s.env, s.fr⟩ := by rw [mTake0 (by omega) (by omega)]; rfl
theorem mTake4 : mTake 4 a s = .inl ⟨s.at' + 1 + a, s.st ++ [.mk 2 (s.at' + 1) s.env []], s.env, s.fr⟩ := by rw [mTake0 (by omega) (by omega)]; rfl
theorem mTake5 : mTake 5 a s = if s.fr.length = 0 then .inr (3, 0) else .inl ⟨(s.fr.getD (s.fr.length - 1) (0, [])).1, s.st, (s.fr.getD (s.fr.length - 1) (0, [])).2, s.fr.take (s.fr.length - 1)⟩ := by rw [mTake0 (by omega) (by omega)]; rfl
theorem mTake10 : mTake 10 a s = .inl ⟨s.at' + 1 + a, s.st, s.env, s.fr⟩ := by rw [mTake0 (by omega) (by omega)]; rfl
end
/- What stays true: n is the length of the code, N the number of steps. -/
mutual
def MV.ok (n : Int) (N : Nat) : MV → Prop
 | .mk k num env parts => 0 ≤ k ∧ k ≤ 3 ∧ 0 ≤ num ∧ num ≤ 999 ∧ (k = 1 → num ≤ 1) ∧ (k = 2 → num ≤ n) ∧ (k = 3 → parts.length = 2) ∧ env.length ≤ N ∧ MV.okL n N env ∧ MV.okL n N parts
def MV.okL (n : Int) (N : Nat) : List MV → Prop
 | [] => True
 | v :: vs => v.ok n N ∧ MV.okL n N vs
end
mutual
theorem MV.ok.mono {n : Int} {N M : Nat} (hN : N ≤ M) : ∀ {v : MV}, v.ok n N → v.ok n M
 | .mk k num env parts, h => by
  simp only [MV.ok] at h ⊢
  obtain ⟨h1, h2, h3, h4, h5, h6, h7, h8, h9, h10⟩ := h
  exact ⟨h1, h2, h3, h4, h5, h6, h7, by omega, MV.okL.mono hN h9, MV.okL.mono hN h10⟩
theorem MV.okL.mono {n : Int} {N M : Nat} (hN : N ≤ M) : ∀ {vs : List MV}, MV.okL n N vs → MV.okL n M vs
 | [], h => by simp only [MV.okL]
 | v :: vs, h => by
  simp only [MV.okL] at h ⊢
  exact ⟨MV.ok.mono hN h.1, MV.okL.mono hN h.2⟩
end
theorem okL_iff {n : Int} {N : Nat} : ∀ {vs : List MV}, MV.okL n N vs ↔ ∀ v ∈ vs, v.ok n N
 | [] => by simp [MV.okL]
 | v :: vs => by simp only [MV.okL, okL_iff (vs := vs), List.forall_mem_cons]
theorem MV.ok.spec {n : Int} {N : Nat} {v : MV} (h : v.ok n N) : 0 ≤ v.k ∧ v.k ≤ 3 ∧ 0 ≤ v.num ∧ v.num ≤ 999 ∧ (v.k = 1 → v.num ≤ 1) ∧ (v.k = 2 → v.num ≤ n) ∧ (v.k = 3 → v.parts.length = 2) ∧ v.env.length ≤ N ∧ (∀ u ∈ v.env, u.ok n N) ∧ (∀ u ∈ v.parts, u.ok n N) := by
 obtain ⟨k, num, env, parts⟩ := v
 simp only [MV.ok, okL_iff] at h
 exact h
theorem MV.ok.mk {n : Int} {N : Nat} {k num : Int} {env parts : List MV} (h1 : 0 ≤ k ∧ k ≤ 3) (h2 : 0 ≤ num ∧ num ≤ 999) (h3 : k = 1 → num ≤ 1) (h4 : k = 2 → num ≤ n) (h5 : k = 3 → parts.length = 2) (h6 : env.length ≤ N) (h7 : ∀ u ∈ env, u.ok n N) (h8 : ∀ u ∈ parts, u.ok n N) : (MV.mk k num env parts).ok n N := by
 simp only [MV.ok, okL_iff]
 exact ⟨h1.1, h1.2, h2.1, h2.2, h3, h4, h5, h6, h7, h8⟩
structure MSt.ok (n : Int) (N : Nat) (s : MSt) : Prop where
 lo : 0 ≤ s.at'
 hi : s.at' ≤ n
 st : s.st.length ≤ N
 env : s.env.length ≤ N
 fr : s.fr.length ≤ N
 sto : ∀ v ∈ s.st, v.ok n N
 envo : ∀ v ∈ s.env, v.ok n N
 fro : ∀ f ∈ s.fr, 0 ≤ f.1 ∧ f.1 ≤ n ∧ f.2.length ≤ N ∧ ∀ v ∈ f.2, v.ok n N
theorem two_of {l : List MV} (h : 2 ≤ l.length) : ∃ v0 v1, l.drop (l.length - 2) = [v0, v1] ∧ v0 ∈ l ∧ v1 ∈ l := by
 have hl : (l.drop (l.length - 2)).length = 2 := by rw [List.length_drop]; omega
 match hd : l.drop (l.length - 2), hl with
 | [v0, v1], _ => exact ⟨v0, v1, rfl, List.mem_of_mem_drop (i := l.length - 2) (by rw [hd]; simp), List.mem_of_mem_drop (i := l.length - 2) (by rw [hd]; simp)⟩
theorem one_of {l : List MV} (h : 1 ≤ l.length) : ∃ v0, l.drop (l.length - 1) = [v0] ∧ v0 ∈ l := by
 have hl : (l.drop (l.length - 1)).length = 1 := by rw [List.length_drop]; omega
 match hd : l.drop (l.length - 1), hl with
 | [v0], _ => exact ⟨v0, rfl, List.mem_of_mem_drop (i := l.length - 1) (by rw [hd]; simp)⟩
theorem getD_mem' {α : Type} {l : List α} {d : α} {i : Nat} (h : i < l.length) : l.getD i d ∈ l := by
 rw [List.getD_eq_getElem?_getD, List.getElem?_eq_getElem h, Option.getD_some]; exact List.getElem_mem h
theorem getD_some' {α : Type} {l : List α} {d : α} {i : Nat} (h : i < l.length) : l[i]? = some (l.getD i d) := by
 rw [List.getD_eq_getElem?_getD, List.getElem?_eq_getElem h, Option.getD_some]
theorem mOpOk_at {n : Nat} {i : Nat} {k a : Int} (h : mOpOk n i (k, a) = true) (hi : i < n) : 1 ≤ k ∧ k ≤ 13 ∧ 0 ≤ a ∧ a ≤ 4294967296 + (n : Int) ∧ (k = 1 → a ≤ 999) ∧ (k = 2 → a ≤ 1) ∧ (k = 3 → a ≤ 11) ∧ (k = 4 ∨ k = 9 ∨ k = 10 → (i : Int) + 1 + a ≤ n) := by
 unfold mOpOk mMost at h
 rw [decide_eq_true_eq] at h
 dsimp only at h
 obtain ⟨h1, h2, h3, h4⟩ := h
 refine ⟨h1, h2, h3, ?_, ?_, ?_, ?_, ?_⟩ <;> (repeat' split at h4) <;> omega
/-- A step keeps what is true of a state. -/
theorem step_ok {n : Nat} {N : Nat} {k a : Int} {s s' : MSt} (hn : n ≤ 120) (hs : s.ok n N) (hlt : s.at' < n) (ho : mOpOk n s.at'.toNat (k, a) = true) (h : mStep k a s = .inl s') : s'.ok n (N + 1) := by
 obtain ⟨k1, k2, a1, a2, b1, b2, b3, b4⟩ := mOpOk_at ho (by have := hs.lo; omega)
 have hlo := hs.lo; have hst := hs.st; have henv := hs.env; have hfr := hs.fr
 have at0 : (s.at'.toNat : Int) = s.at' := by omega
 rw [at0] at b4
 have stm : ∀ v ∈ s.st, v.ok n (N + 1) := fun v hv => (hs.sto v hv).mono (by omega)
 have envm : ∀ v ∈ s.env, v.ok n (N + 1) := fun v hv => (hs.envo v hv).mono (by omega)
 have frm : ∀ f ∈ s.fr, 0 ≤ f.1 ∧ f.1 ≤ n ∧ f.2.length ≤ N + 1 ∧ ∀ v ∈ f.2, v.ok n (N + 1) := fun f hf => by
  obtain ⟨c1, c2, c3, c4⟩ := hs.fro f hf
  exact ⟨c1, c2, by omega, fun v hv => (c4 v hv).mono (by omega)⟩
 have stt : ∀ m, ∀ v ∈ s.st.take m, v.ok n (N + 1) := fun m v hv => stm v (List.mem_of_mem_take hv)
 have tl : ∀ m, (s.st.take m).length ≤ N := fun m => by rw [List.length_take]; omega
 have push : ∀ {m v}, v.ok n (N + 1) → ∀ u ∈ s.st.take m ++ [v], u.ok n (N + 1) := fun hv => all_snoc (stt _) hv
 by_cases hf : s.st.length < mPops k
 ·rw [mStep_few hf] at h; cases h
 rw [mStep_take hf] at h
 have hkk : k = 1 ∨ k = 2 ∨ k = 3 ∨ k = 4 ∨ k = 5 ∨ k = 6 ∨ k = 7 ∨ k = 8 ∨ k = 9 ∨ k = 10 ∨ k = 11 ∨ (k = 12 ∨ k = 13) := by omega
 rcases hkk with rfl | rfl | rfl | rfl | rfl | rfl | rfl | rfl | rfl | rfl | rfl | hk
 ·rw [mTake1] at h; cases h
  exact ⟨by dsimp only; omega, by dsimp only; omega, by simp; omega, by dsimp only; omega, by dsimp only; omega, all_snoc stm (MV.ok.mk (by omega) (by omega) (by omega) (by omega) (by omega) (by simp) (by simp) (by simp)), envm, frm⟩
 ·rw [mTake2] at h; cases h
  exact ⟨by dsimp only; omega, by dsimp only; omega, by simp; omega, by dsimp only; omega, by dsimp only; omega, all_snoc stm (MV.ok.mk (by omega) (by omega) (by omega) (by omega) (by omega) (by simp) (by simp) (by simp)), envm, frm⟩
 ·rw [mTake3] at h
  split at h
  ·cases h
  ·cases h
   exact ⟨by dsimp only; omega, by dsimp only; omega, by simp; omega, by dsimp only; omega, by dsimp only; omega, all_snoc stm (envm _ (getD_mem' (by omega))), envm, frm⟩
 ·rw [mTake4] at h; cases h
  exact ⟨by dsimp only; omega, by dsimp only; omega, by simp; omega, by dsimp only; omega, by dsimp only; omega, all_snoc stm (MV.ok.mk (by omega) (by omega) (by omega) (by omega) (by omega) (by omega) envm (by simp)), envm, frm⟩
 ·rw [mTake5] at h
  split at h
  ·cases h
  ·cases h
   obtain ⟨c1, c2, c3, c4⟩ := frm _ (getD_mem' (d := (0, [])) (i := s.fr.length - 1) (by omega))
   exact ⟨c1, c2, by dsimp only; omega, c3, by simp; omega, stm, c4, fun f hf => frm f (List.mem_of_mem_take hf)⟩
 ·obtain ⟨v0, v1, hd, m0, m1⟩ := two_of (l := s.st) (by have : mPops 6 = 2 := rfl; omega)
  rw [mTake6 hd] at h
  split at h
  ·cases h
   obtain ⟨c1, c2, c3, c4, c5, c6, c7, c8, c9, c10⟩ := (hs.sto _ m0).spec
   refine ⟨c3, c6 (by assumption), by have := tl (s.st.length - 2); dsimp only; omega, by simp; omega, by simp; omega, stt _, ?_, ?_⟩
   ·exact all_snoc (fun u hu => (c9 u hu).mono (by omega)) (stm _ m1)
   ·exact all_snoc frm ⟨by dsimp only; omega, by dsimp only; omega, by dsimp only; omega, envm⟩
  ·cases h
 ·obtain ⟨v0, v1, hd, m0, m1⟩ := two_of (l := s.st) (by have : mPops 7 = 2 := rfl; omega)
  rw [mTake7 hd] at h
  split at h
  ·cases h
   obtain ⟨c1, c2, c3, c4, _⟩ := (hs.sto _ m0).spec
   obtain ⟨e1, e2, e3, e4, _⟩ := (hs.sto _ m1).spec
   exact ⟨by dsimp only; omega, by dsimp only; omega, by simp; omega, by dsimp only; omega, by dsimp only; omega, push (MV.ok.mk (by omega) (by omega) (by omega) (by omega) (by omega) (by simp) (by simp) (by simp)), envm, frm⟩
  ·cases h
 ·obtain ⟨v0, v1, hd, m0, m1⟩ := two_of (l := s.st) (by have : mPops 8 = 2 := rfl; omega)
  rw [mTake8 hd] at h
  split at h
  ·cases h
   have hb : 0 ≤ (if v0.num < v1.num then (1 : Int) else 0) ∧ (if v0.num < v1.num then (1 : Int) else 0) ≤ 1 := by split <;> omega
   exact ⟨by dsimp only; omega, by dsimp only; omega, by simp; omega, by dsimp only; omega, by dsimp only; omega, push (MV.ok.mk (by omega) (by omega) (by omega) (by omega) (by omega) (by simp) (by simp) (by simp)), envm, frm⟩
  ·cases h
 ·obtain ⟨v0, hd, m0⟩ := one_of (l := s.st) (by have : mPops 9 = 1 := rfl; omega)
  rw [mTake9 hd] at h
  split at h
  ·cases h
   exact ⟨by dsimp only; split <;> omega, by dsimp only; split <;> omega, by have := tl (s.st.length - 1); dsimp only; omega, by dsimp only; omega, by dsimp only; omega, stt _, envm, frm⟩
  ·cases h
 ·rw [mTake10] at h; cases h
  exact ⟨by dsimp only; omega, by dsimp only; omega, by dsimp only; omega, by dsimp only; omega, by dsimp only; omega, stm, envm, frm⟩
 ·obtain ⟨v0, v1, hd, m0, m1⟩ := two_of (l := s.st) (by have : mPops 11 = 2 := rfl; omega)
  rw [mTake11 hd] at h; cases h
  exact ⟨by dsimp only; omega, by dsimp only; omega, by simp; omega, by dsimp only; omega, by dsimp only; omega, push (MV.ok.mk (by omega) (by omega) (by omega) (by omega) (by simp) (by simp) (by simp) (by simp [stm _ m0, stm _ m1])), envm, frm⟩
 ·obtain ⟨v0, hd, m0⟩ := one_of (l := s.st) (by have : mPops k = 1 := mPops1 (by omega); omega)
  rw [mTake12 hk hd] at h
  split at h
  ·cases h
   obtain ⟨c1, c2, c3, c4, c5, c6, c7, c8, c9, c10⟩ := (hs.sto _ m0).spec
   have c7' := c7 (by assumption)
   exact ⟨by dsimp only; omega, by dsimp only; omega, by simp; omega, by dsimp only; omega, by dsimp only; omega, push ((c10 _ (getD_mem' (by omega))).mono (by omega)), envm, frm⟩
  ·cases h
section
variable {ops : List (Int × Int)} {t : Nat} {s s' : MSt}
theorem mRun_end (h : (ops.length : Int) ≤ s.at') : mRun ops t s = mEnd s := by cases t <;> rw [mRun, if_pos h]
theorem mRun_much (h : ¬(ops.length : Int) ≤ s.at') : mRun ops 0 s = (⟨#[]⟩, 5, 0) := by rw [mRun, if_neg h]
theorem mRun_go (h : ¬(ops.length : Int) ≤ s.at') (hs : mStep (ops.getD s.at'.toNat (0, 0)).1 (ops.getD s.at'.toNat (0, 0)).2 s = .inl s') : mRun ops (t + 1) s = mRun ops t s' := by rw [mRun, if_neg h]; simp only [hs]
theorem mRun_stop {c e : Int} (h : ¬(ops.length : Int) ≤ s.at') (hs : mStep (ops.getD s.at'.toNat (0, 0)).1 (ops.getD s.at'.toNat (0, 0)).2 s = .inr (c, e)) : mRun ops (t + 1) s = (⟨#[]⟩, c, e) := by rw [mRun, if_neg h]; simp only [hs]
end
theorem mGo_err {k a : Int} {s : MSt} {v : List MV} {x : Int × Int} (h : mGo k a s v = .inr x) : x = (3, 0) := by
 unfold mGo at h
 by_cases h1 : k = 1
 ·rw [if_pos h1] at h
  cases h
 rw [if_neg h1] at h
 by_cases h2 : k = 2
 ·rw [if_pos h2] at h
  cases h
 rw [if_neg h2] at h
 by_cases h3 : k = 3
 ·rw [if_pos h3] at h
  split at h <;> cases h
  rfl
 rw [if_neg h3] at h
 by_cases h4 : k = 4
 ·rw [if_pos h4] at h
  cases h
 rw [if_neg h4] at h
 by_cases h5 : k = 5
 ·rw [if_pos h5] at h
  split at h <;> cases h
  rfl
 rw [if_neg h5] at h
 by_cases h6 : k = 6
 ·rw [if_pos h6] at h
  cases h
 rw [if_neg h6] at h
 by_cases h7 : k = 7
 ·rw [if_pos h7] at h
  cases h
 rw [if_neg h7] at h
 by_cases h8 : k = 8
 ·rw [if_pos h8] at h
  cases h
 rw [if_neg h8] at h
 by_cases h9 : k = 9
 ·rw [if_pos h9] at h
  cases h
 rw [if_neg h9] at h
 by_cases h10 : k = 10
 ·rw [if_pos h10] at h
  cases h
 rw [if_neg h10] at h
 by_cases h11 : k = 11
 ·rw [if_pos h11] at h
  cases h
 rw [if_neg h11] at h
 cases h
theorem mStep_err {k a : Int} {s : MSt} {c e : Int} (h : mStep k a s = .inr (c, e)) : c = 2 ∨ c = 3 := by
 unfold mStep at h
 split at h
 ·cases h; omega
 ·split at h
  ·have := mGo_err h; cases this; omega
  ·cases h; omega
theorem st0_ok (n : Nat) : MSt.ok (n : Int) 0 ⟨0, [], [], []⟩ := ⟨by simp, by simp, by simp, by simp, by simp, by simp, by simp, by simp⟩
end Gw
end Go.Proofs.YtaoaeilognhfpaaDoor
namespace Go.Proofs.YtaoaeilognhfpaaDoor
open Go Go.RowKit
namespace Gw
section rlaws
variable {P : Program} {Γ : Ctx} {env : Env} {hp : List Ent} {G : IM} {ty : TypeId}
theorem pure_slice_to {x y : Operand} {t el : TypeId} {i : TyR} {sz by' : Nat} {zs : List Value} [hI : TyI P t i] (hd' : i.desc = .slice el) [hE : TySz P el sz by' zs] {p : Option Addr} {n c l : Nat}
  (hx : evo env x = some (.slice p n c)) (hy : evo env y = some (.int .i64 (l : Int))) (hl : l ≤ c) :
  PureOp P Γ ⟨env, hp, G⟩ (.slice t x none (some y) none) ty (.slice p l c) := by
 refine ⟨fun a _ hs _ _ _ _ w => ?_⟩
 have hu := hI.und
 rw [hd'] at hu
 obtain ⟨d, hE⟩ := hE.ok
 obtain ⟨inf, z, t1, t2, t3, _⟩ := run_tyI (P := P) (t := el)
 have e1 : a.eval x = _ := hs.evo hx
 have e2 : a.eval y = _ := hs.evo hy
 have hb : ∀ code, (Instr.sliceBound (.int .i64 (l : Int)) c code).run P w = .ok l w := fun code => by
  unfold Instr.sliceBound
  simp only [asIntOf, Sem.run_bind, Sem.run_pure, Result.andThen_ok]
  rw [if_pos ⟨by omega, by omega⟩]
  simp
 simp only [execOp, Option.map, e1, e2, Instr.sliceAt, Sem.run_bind, run_underlying hu, Result.andThen_ok, Instr.slice, Instr.sliceBounds, Sem.run_pure, hb, t3]
 by_cases h : c = 0
 ·subst h; simp
 ·rw [if_neg h]; simp; cases p <;> simp [Addr.add]
end rlaws
def byts (bs : List UInt8) : List Value := bs.map fun b => .int .u8 (b.toNat : Int)
/-- The source: where it lies, and how many numbers were drawn. -/
def rd (br : Nat) (pb : Option Addr) (nb cb p : Nat) : Ent := .blk br [.slice pb nb cb, .int .i64 (p : Int)]
/-- What a draw of numbers leaves behind. -/
def Drew (br : Nat) (pb : Option Addr) (nb cb p B : Nat) (Φ : IM → Value → Prop) : IM → Value → List Ent → Prop := fun G' v outs => ∃ p', p ≤ p' ∧ p' ≤ p + B ∧ outs = [rd br pb nb cb p'] ∧ Φ G' v
end Gw
end Go.Proofs.YtaoaeilognhfpaaDoor
namespace Go.Proofs.YtaoaeilognhfpaaDoor
open Go Go.RowKit
namespace Gw
structure cutK {ι : Type} (S : ι → Sy) (φ : ι → Prop) (e : Exit) (σ : Sy) : Prop where
 run : match e with
  | .normal => ∃ i, φ i ∧ Sub σ (S i)
  | _ => False
section cut
variable {P : Program} {Γ : Ctx} {K : Po} {σ : Sy} {ι : Type}
end cut
end Gw
end Go.Proofs.YtaoaeilognhfpaaDoor
namespace Go.Proofs.YtaoaeilognhfpaaDoor
open Go Go.RowKit
namespace Gw
def tyAny : Ty := .mk 1 []
/-- A type of at most that height whose nodes have the operands that they must have. -/
def tAh : Nat → Ty → Prop
 | 0, .mk k ks => ks = [] ∧ k ≠ 4 ∧ k ≠ 5
 | n + 1, .mk k ks => (k = 4 ∨ k = 5 → ks.length = 2) ∧ (k ≠ 4 → k ≠ 5 → ks.length = 0) ∧ ∀ t ∈ ks, tAh n t
mutual
/-- The nodes have the operands that they must have. -/
def tAr : Ty → Prop
 | .mk k ks => (k = 4 ∨ k = 5 → ks.length = 2) ∧ (k ≠ 4 → k ≠ 5 → ks.length = 0) ∧ tArL ks
def tArL : List Ty → Prop
 | [] => True
 | t :: ts => tAr t ∧ tArL ts
end
end Gw
end Go.Proofs.YtaoaeilognhfpaaDoor
namespace Go.Proofs.YtaoaeilognhfpaaDoor
open Go Go.RowKit
namespace Gw
section take
variable {P : Program} {Γ : Ctx} {env : Env} {hp : List Ent} {G : IM} {K : Po} {ops : Array Oper} {rest : List Oper} {ty : TypeId} {pos : String} {af : Array Edge} {gd : Option (Nat × Bool)}
theorem seq_take {d : Nat} {f : FuncId} [hF : FunI P f] {xs : List Operand} {ats : Array TypeId} {vs : List Value} {ins rst : List Ent} {post : IM → Value → List Ent → Prop}
  (hx : evl env xs = some vs) (h : Fn P f vs ins G post) (hp' : hp.Perm (ins ++ rst)) (hw : wantG ops env gd = some true) (hd : Nat.blt d Γ.n = true)
  (k : ∀ v G' outs, IMle G G' → post G' v outs → TriL P Γ ops rest K ⟨(d, v) :: env, outs ++ rst, G'⟩) : TriL P Γ ops (⟨some d, .call ⟨.value (.func f), ⟨xs⟩, ats⟩, ty, pos, af, gd⟩ :: rest) K ⟨env, hp, G⟩ :=
 seq_step (step_call_own hx h hp' hd) hw (by rintro _ ⟨v, G', outs, rfl, hle, hq⟩; exact k v G' outs hle hq)
end take
/-- How big a drawn type is. -/
def dB : Nat → Nat
 | 0 => 0
 | d + 1 => 2 * dB d + 2
end Gw
end Go.Proofs.YtaoaeilognhfpaaDoor
namespace Go.Proofs.YtaoaeilognhfpaaDoor
open Go Go.RowKit
namespace Gw
def tm0 : Tm := .mk 0 ⟨⟨[]⟩⟩ 0 (.mk 0 []) (.mk 0 []) 0 []
/-- TermAt in plain words. -/
def mTermAt (t : Tm) (path : List Int) : Tm × Bool := if castValid t = true then (match tAt t path with | some x => (x, true) | none => (tm0, false)) else (tm0, false)
/-- A term and a truth value, the term in memory of its own. -/
def TbP (r : Tm × Bool) (G : IM) : IM → Value → List Ent → Prop := Imm fun G' v => ∃ cells F, v = .tuple ⟨[.agg ⟨cells⟩, .bool r.2]⟩ ∧ STm (Dif G' G) r.1 cells F ∧ F.Nodup
end Gw
end Go.Proofs.YtaoaeilognhfpaaDoor
namespace Go.Proofs.YtaoaeilognhfpaaDoor
open Go Go.RowKit
namespace Gw
end Gw
end Go.Proofs.YtaoaeilognhfpaaDoor
namespace Go.Proofs.YtaoaeilognhfpaaDoor
open Go Go.RowKit
namespace Gw
end Gw
end Go.Proofs.YtaoaeilognhfpaaDoor
namespace Go.Proofs.YtaoaeilognhfpaaDoor
open Go Go.RowKit
namespace Gw
end Gw
end Go.Proofs.YtaoaeilognhfpaaDoor
namespace Go.Proofs.YtaoaeilognhfpaaDoor
open Go Go.RowKit
namespace Gw
mutual
def mBare : Tm → Tm
 | .mk k nm num ty fr lb ks => if k = 13 ∨ k = 14 then (mBareL ks).headD tm0 else .mk k nm num (if k = 5 then tyAny else ty0) ty0 0 (mBareL ks)
def mBareL : List Tm → List Tm
 | [] => []
 | t :: ts => mBare t :: mBareL ts
end
/-- The change that is made at a node. -/
def bareG : Tm → Tm
 | .mk k nm num ty fr lb ks => if k = 13 ∨ k = 14 then ks.headD tm0 else if k = 5 then .mk k nm num tyAny fr lb ks else .mk k nm num ty fr lb ks
def bareQ : Tm → Prop
 | .mk k _ _ _ _ _ ks => k = 13 ∨ k = 14 → ks ≠ []
end Gw
end Go.Proofs.YtaoaeilognhfpaaDoor
namespace Go.Proofs.YtaoaeilognhfpaaDoor
open Go Go.RowKit
namespace Gw
end Gw
end Go.Proofs.YtaoaeilognhfpaaDoor
namespace Go.Proofs.YtaoaeilognhfpaaDoor
open Go Go.RowKit
namespace Gw
section own
variable {P : Program} {Γ : Ctx} {env : Env} {hp : List Ent} {G : IM} {ty : TypeId} {K : Po} {ops : Array Oper} {rest : List Oper}
/-- An own slice, cut short. -/
theorem St.trim {a : Act} {w : World} {hp' : List Ent} {p : Option Addr} {c el sz n k : Nat} {cs : List Value} (hs : St Γ ⟨env, hp, G⟩ a w) (hk : Pk hp (.slc p c el sz n cs) hp') (hkn : k ≤ n) :
  St Γ ⟨env, .slc p c el sz k (cs.take (k * sz)) :: hp', G⟩ a w := by
 have hown : Own [.slc p c el sz n cs] G w := hs.res.own.of_mem hk.perm
 obtain ⟨hl, h⟩ := hown.ok _ List.mem_cons_self
 have hok : Ent.ok w (.slc p c el sz k (cs.take (k * sz))) := by
  have hle : k * sz ≤ n * sz := Nat.mul_le_mul_right _ hkn
  refine ⟨by rw [List.length_take, hl]; exact Nat.min_eq_left hle, ?_⟩
  rcases h with ⟨hv, hn⟩ | ⟨g, cap, cur, hv, hb, hg, hnc, hcm, hsz, ht⟩
  ·cases hv; left; exact ⟨by rw [show k = 0 by omega], by omega⟩
  ·cases hv
   refine .inr ⟨g, _, cur, rfl, hb, hg, by omega, hcm, hsz, ?_⟩
   rw [← ht, List.take_take, Nat.min_eq_left hle]
 have hr : Res [.slc p c el sz n cs] G w [.slc p c el sz k (cs.take (k * sz))] G w := by
  refine ⟨⟨hown.inn, ?_, ?_, ?_⟩, Ext.refl _ _, IMle.refl _, fun _ _ h => .inl h, ?_, fun b l h h0 => absurd h (by rw [h0]; simp)⟩
  ·intro e he
   simp at he; subst he; exact hok
  ·have := hown.nodup; simpa [Fp, Ent.fp] using this
  ·intro b hb; exact hown.disj b (by simpa [Fp, Ent.fp] using hb)
  ·intro b hb; exact .inr (by simpa [Fp, Ent.fp] using hb)
 exact ⟨hs.size, hs.nod, hs.env, by have := (hs.res.perm hk.perm).frame hr; simpa using this⟩
theorem triL_trim {p : Option Addr} {c el sz n k : Nat} {cs : List Value} {hp' : List Ent} (hk : Pk hp (.slc p c el sz n cs) hp') (hkn : k ≤ n)
  (h : TriL P Γ ops rest K ⟨env, .slc p c el sz k (cs.take (k * sz)) :: hp', G⟩) : TriL P Γ ops rest K ⟨env, hp, G⟩ := ⟨fun a w hs => h.run a w (hs.trim hk hkn)⟩
theorem Pk2 {e1 e2 : Ent} {h1 h2 : List Ent} (a : Pk hp e1 h1) (b : Pk h1 e2 h2) : hp.Perm ([e1, e2] ++ h2) := a.perm.trans (List.Perm.cons _ b.perm)
theorem Pk3 {e1 e2 e3 : Ent} {h1 h2 h3 : List Ent} (a : Pk hp e1 h1) (b : Pk h1 e2 h2) (c : Pk h2 e3 h3) : hp.Perm ([e1, e2, e3] ++ h3) := a.perm.trans (List.Perm.cons _ (b.perm.trans (List.Perm.cons _ c.perm)))
theorem upd_app {cs vs cs' C : List Value} {o : Nat} (h : upd cs o vs = some cs') : cs' ++ C = (cs ++ C).take o ++ vs ++ (cs ++ C).drop (o + vs.length) := by
 obtain ⟨h1, h2⟩ := upd_spec h
 rw [h1, List.take_append_of_le_length (by omega), List.drop_append_of_le_length (by omega)]
 simp
/-- Writing into an own slice. -/
theorem step_store_slc {d : Option Nat} {x y : Operand} {t : TypeId} {i : TyR} [hI : TyI P t i] {b o c el sz n : Nat} {v : Value} {vs cs cs' : List Value} {hp' : List Ent}
  (hx : evo env x = some (.pointer (some ⟨b, o, none⟩))) (hy : evo env y = some v) (hv : v.cells = ⟨vs⟩) (hsz : vs.length = i.size) (h1 : vs.all (·.oneCell') = true)
  (hu : upd cs o vs = some cs') (hm : Sw hp (.slc (some ⟨b, 0, none⟩) c el sz n cs) (.slc (some ⟨b, 0, none⟩) c el sz n cs') hp') (hd : dok Γ.n d = true) :
  StepOp P Γ ⟨env, hp, G⟩ d (.store t x y) ty [b] (fun σ' => σ' = ⟨dpu d undef env, hp', G⟩) := by
 refine ⟨fun a w hs pos af gd Q next hn => ?_⟩
 obtain ⟨rest, p1, p2⟩ := hm.perm
 have hown : Own [.slc (some ⟨b, 0, none⟩) c el sz n cs] G w := hs.res.own.of_mem p1
 obtain ⟨hl, h⟩ := hown.ok _ List.mem_cons_self
 rcases h with ⟨hv', _⟩ | ⟨g, cap, cur, hv', hbg, hg, hnc, hcm, hcs, ht⟩
 ·cases hv'
 cases hv'
 obtain ⟨u1, u2⟩ := upd_spec hu
 have hcur : cur.toList = cs ++ cur.toList.drop (n * sz) := by
  conv => lhs; rw [← List.take_append_drop (n * sz) cur.toList, ht]
 have hlen : cs.length ≤ cur.size := by
  rw [hl, hcs]; exact Nat.mul_le_mul_right _ hnc
 have hst := run_storeCells_at P b o el vs 0 cur w hg (by omega) (by simpa using h1)
 obtain ⟨cur', hcur'⟩ : ∃ l : List Value, l = cs' ++ cur.toList.drop (n * sz) := ⟨_, rfl⟩
 have hcc : cur.toList.take (o + 0) ++ vs ++ cur.toList.drop (o + 0 + vs.length) = cur' := by
  rw [hcur', Nat.add_zero, upd_app hu, ← hcur]
 rw [hcc] at hst
 have hl' : cs'.length = cs.length := by rw [u1]; simp; omega
 have hsz' : cur'.length = cur.size := by
  have := congrArg List.length hcur
  rw [hcur', List.length_append, hl']
  simpa using this.symm
 obtain ⟨inf, g1, g2, _⟩ := hI.info
 have hrun : (execOp a.eval ⟨d, .store t x y, ty, pos, af, gd⟩).run P w = .ok .skip (w.setRow b cur'.toArray) := by
  simp [execOp, Instr.storeAt, Instr.sureAddr, (hs.evo hx : a.eval x = _), (hs.evo hy : a.eval y = _), storeVar, sizeOf, typeInfo, g1, g2, hv, hsz, hst]
 simp only [Oper.wp, hrun, Oper.upon]
 have hr' : Res [.slc (some ⟨b, 0, none⟩) c el sz n cs] G w [.slc (some ⟨b, 0, none⟩) c el sz n cs'] G (w.setRow b cur'.toArray) := by
  refine ⟨⟨?_, ?_, by simp [Fp, Ent.fp, vfp], ?_⟩, ⟨rfl, rfl, rfl, by simp [World.setRow], fun k _ hk => setRow_other w b k _ (by rintro rfl; simp [Fp, Ent.fp, vfp] at hk)⟩, IMle.refl _, fun _ _ h => .inl h, ?_, fun b l h h0 => absurd h (by rw [h0]; simp)⟩
  ·intro k l hg'
   obtain ⟨e', f', h'⟩ := hown.inn k l hg'
   refine ⟨e', f', ?_⟩
   rw [setRow_other w b k _ ?_]
   ·exact h'
   ·rintro rfl
    have := hown.disj k (by simp [Fp, Ent.fp, vfp])
    rw [this] at hg'; cases hg'
  ·intro x hx
   simp at hx; subst hx
   refine ⟨by rw [hl', hl], .inr ⟨b, _, cur'.toArray, rfl, hbg, setRow_heap w b cur cur'.toArray el (0, 0) hg, hnc, hcm, by rw [List.size_toArray, hsz', hcs], ?_⟩⟩
   rw [hcur', List.take_left' (by rw [hl', hl])]
  ·intro k hk
   exact hown.disj k (by simpa [Fp, Ent.fp, vfp] using hk)
  ·intro k hk
   exact .inr (by simpa [Fp, Ent.fp, vfp] using hk)
 exact hn _ _ _ (hs.step p1 hr' p2 hd) (by simpa [Fp, Ent.fp, vfp] using hr'.ext) rfl
variable {pos : String} {af : Array Edge} {gd : Option (Nat × Bool)}
theorem one_storeS {H : List (Nat × Nat)} {fuel : Nat} {listed listed' : List Bool} {j c el sz n : Nat} {cs vs : List Value} {x y : Operand} {t : TypeId} {i : TyR} [hI : TyI P t i] {bb o : Nat} {v : Value} {cs' : List Value} {hp' : List Ent} (hi : ops[j]? = some ⟨none, .store t x y, ty, pos, af, gd⟩)
  (hx : evo env x = some (.pointer (some ⟨bb, o, none⟩))) (hy : evo env y = some v) (hv : v.cells = ⟨vs⟩) (hsz : vs.length = i.size) (h1 : vs.all (·.oneCell') = true)
  (hw : wantG ops env gd = some true) (hl : listed.set j true = listed') (hm : ((H.map Prod.fst).all fun i => depb ops j i) = true) (hsw : Sw hp (.slc (some ⟨bb, 0, none⟩) c el sz n cs) (.slc (some ⟨bb, 0, none⟩) c el sz n cs') hp') (hu : upd cs o vs = some cs')
  (k : AnyL P Γ ops K [] fuel listed' ⟨env, hp', G⟩) : One P Γ ops K H fuel listed j ⟨env, hp, G⟩ :=
 one_stepD hi (step_store_slc hx hy hv hsz h1 hu hsw rfl) hw hl hm (by rintro _ rfl; exact k)
theorem one_takeD {H : List (Nat × Nat)} {fuel : Nat} {listed listed' : List Bool} {j d : Nat} {f : FuncId} [hF : FunI P f] {xs : List Operand} {ats : Array TypeId} {vs : List Value} {ins rst : List Ent} {post : IM → Value → List Ent → Prop}
  (hi : ops[j]? = some ⟨some d, .call ⟨.value (.func f), ⟨xs⟩, ats⟩, ty, pos, af, gd⟩) (hx : evl env xs = some vs) (h : Fn P f vs ins G post) (hp' : hp.Perm (ins ++ rst)) (hw : wantG ops env gd = some true) (hd : Nat.blt d Γ.n = true) (hl : listed.set j true = listed')
  (hm : ((H.map Prod.fst).all fun i => depb ops j i) = true)
  (k : ∀ v G' outs, IMle G G' → post G' v outs → AnyL P Γ ops K [] fuel listed' ⟨(d, v) :: env, outs ++ rst, G'⟩) : One P Γ ops K H fuel listed j ⟨env, hp, G⟩ :=
 one_stepD hi (step_call_own hx h hp' hd) hw hl hm (by rintro _ ⟨v, G', outs, rfl, hle, hq⟩; exact k v G' outs hle hq)
end own
/-- How the program writes a kind. -/
abbrev kI (k : Int) : Int := k
set_option maxRecDepth 100000 in
theorem number_fn (k n : Int) (G : IM) : Fn Tryd.prog 33 [.int .i64 k, .int .i64 n] [] G (Val (.agg ⟨[.int .i64 k, .int .i64 n, .slice none 0 0, .slice none 0 0]⟩) G) := by
 refine fn_enter Tryd.func33 rfl Tryd.ntmps33 Tryd.results33 rfl ?_
 intro w0
 refine tri_seq (tri_region ?_)
 (refine seq_step (step_alloc rfl) rfl ?_; rintro _ ⟨b3, rfl⟩)
 refine seq_done (nrm_seq (tri_seq (tri_region (seq_pure (pure_move rfl) rfl rfl ?_))))
 refine seq_pure (pure_move rfl) rfl rfl ?_
 refine seq_pure (pure_build rfl rfl) rfl rfl ?_
 refine seq_store rfl rfl rfl rfl rfl rfl (by repeat first | exact Sw.here | apply Sw.there) (by rfl) ?_
 refine seq_done (nrm_seq (tri_ret (ret_fin1 (res_cell rfl (load_ba rfl rfl (by repeat first | exact mH | apply mT) (by rfl))) ?_)))
 exact ⟨rfl, rfl, rfl⟩
theorem ret_fin4 {P : Program} {Γ : Ctx} {env : Env} {hp : List Ent} {G : IM} {r r2 r3 r4 : ResultVar} {post : IM → Value → List Ent → Prop} {v v2 v3 v4 : Value} (h : ResOne P Γ ⟨env, hp, G⟩ r v) (h2 : ResOne P Γ ⟨env, hp, G⟩ r2 v2) (h3 : ResOne P Γ ⟨env, hp, G⟩ r3 v3) (h4 : ResOne P Γ ⟨env, hp, G⟩ r4 v4)
  (hk : post G (.tuple ⟨[v, v2, v3, v4]⟩) []) : retK P Γ [r, r2, r3, r4] post .ret ⟨env, hp, G⟩ := ret_fin0 (.cons h (.cons h2 (.cons h3 (.cons h4 .nil)))) hk
theorem mPW (k : Int) : (k = 6 ∧ mPops k = 2 ∧ mWant k = (2, 1, 1)) ∨ ((k = 7 ∨ k = 8) ∧ mPops k = 2 ∧ mWant k = (0, 2, 2)) ∨ (k = 9 ∧ mPops k = 1 ∧ mWant k = (1, 1, 3)) ∨ (k = 11 ∧ mPops k = 2 ∧ mWant k = (0, 0, 0)) ∨ ((k = 12 ∨ k = 13) ∧ mPops k = 1 ∧ mWant k = (3, 1, 4)) ∨ ((k ≠ 6 ∧ k ≠ 7 ∧ k ≠ 8 ∧ k ≠ 9 ∧ k ≠ 11 ∧ k ≠ 12 ∧ k ≠ 13) ∧ mPops k = 0 ∧ mWant k = (0, 0, 0)) := by
 by_cases h6 : k = 6
 ·subst h6; exact .inl ⟨rfl, rfl, rfl⟩
 by_cases h7 : k = 7
 ·subst h7; exact .inr (.inl ⟨.inl rfl, rfl, rfl⟩)
 by_cases h8 : k = 8
 ·subst h8; exact .inr (.inl ⟨.inr rfl, rfl, rfl⟩)
 by_cases h9 : k = 9
 ·subst h9; exact .inr (.inr (.inl ⟨rfl, rfl, rfl⟩))
 by_cases h11 : k = 11
 ·subst h11; exact .inr (.inr (.inr (.inl ⟨rfl, rfl, rfl⟩)))
 by_cases h12 : k = 12
 ·subst h12; exact .inr (.inr (.inr (.inr (.inl ⟨.inl rfl, rfl, rfl⟩))))
 by_cases h13 : k = 13
 ·subst h13; exact .inr (.inr (.inr (.inr (.inl ⟨.inr rfl, rfl, rfl⟩))))
 refine .inr (.inr (.inr (.inr (.inr ⟨⟨h6, h7, h8, h9, h11, h12, h13⟩, mPops0 (by omega) (by omega), ?_⟩))))
 unfold mWant
 rw [if_neg h6, if_neg (by omega), if_neg h9, if_neg (by omega)]
set_option maxRecDepth 100000 in
theorem expects_fn (k : Int) (G : IM) : Fn Tryd.prog 30 [.int .i64 k] [] G (Val (.tuple ⟨[.int .i64 (mPops k), .int .i64 (mWant k).1, .int .i64 (mWant k).2.1, .int .i64 (mWant k).2.2]⟩) G) := by
 refine fn_enter Tryd.func30 rfl Tryd.ntmps30 Tryd.results30 rfl ?_
 intro w0
 refine tri_seq (tri_region (seq_pure (pure_assign rfl) rfl rfl ?_))
 refine seq_pure (pure_assign rfl) rfl rfl ?_
 refine seq_pure (pure_assign rfl) rfl rfl ?_
 refine seq_pure (pure_assign rfl) rfl rfl ?_
 refine seq_done (nrm_seq (tri_seq (tri_seq (tri_region (seq_pure (pure_move rfl) rfl rfl ?_)))))
 refine seq_done (nrm_seq (tri_block (tri_seq (tri_region (seq_bool (pure_eql rfl rfl) rfl rfl (fun h18 => ?_) (fun h18 => ?_))))))
 refine seq_pure (pure_assign rfl) rfl rfl ?_
 refine seq_done (nrm_seq (tri_cond_t rfl ?_))
 refine tri_seq (tri_region (seq_pure (pure_assign rfl) rfl rfl ?_))
 refine seq_pure (pure_assign rfl) rfl rfl ?_
 refine seq_pure (pure_assign rfl) rfl rfl ?_
 refine seq_pure (pure_assign rfl) rfl rfl ?_
 refine seq_done (nrm_seq (tri_ret (ret_block (ret_seq (ret_fin4 (res_tmp rfl) (res_tmp rfl) (res_tmp rfl) (res_tmp rfl) ?_)))))
 (refine ⟨rfl, ?_, rfl⟩; rcases mPW k with ⟨h1, h2, h3⟩ | ⟨h1, h2, h3⟩ | ⟨h1, h2, h3⟩ | ⟨h1, h2, h3⟩ | ⟨h1, h2, h3⟩ | ⟨h1, h2, h3⟩ <;> first | (exfalso; omega) | (rw [h2, h3]; rfl))
 refine seq_pure (pure_assign rfl) rfl rfl ?_
 refine seq_done (nrm_seq (tri_cond_f rfl ?_))
 refine tri_seq (tri_seq (tri_region (seq_bool (pure_eql rfl rfl) rfl rfl (fun h43 => ?_) (fun h43 => ?_))))
 refine seq_pure (pure_assign rfl) rfl rfl ?_
 refine seq_done (nrm_seq (tri_cond_t rfl ?_))
 refine tri_skip (nrm_seq (tri_cond_t rfl ?_))
 refine tri_seq (tri_region (seq_pure (pure_assign rfl) rfl rfl ?_))
 refine seq_pure (pure_assign rfl) rfl rfl ?_
 refine seq_pure (pure_assign rfl) rfl rfl ?_
 refine seq_pure (pure_assign rfl) rfl rfl ?_
 refine seq_done (nrm_seq (tri_ret (ret_block (ret_seq (ret_fin4 (res_tmp rfl) (res_tmp rfl) (res_tmp rfl) (res_tmp rfl) ?_)))))
 (refine ⟨rfl, ?_, rfl⟩; rcases mPW k with ⟨h1, h2, h3⟩ | ⟨h1, h2, h3⟩ | ⟨h1, h2, h3⟩ | ⟨h1, h2, h3⟩ | ⟨h1, h2, h3⟩ | ⟨h1, h2, h3⟩ <;> first | (exfalso; omega) | (rw [h2, h3]; rfl))
 refine seq_pure (pure_assign rfl) rfl rfl ?_
 refine seq_done (nrm_seq (tri_cond_f rfl ?_))
 refine tri_region (seq_bool (pure_eql rfl rfl) rfl rfl (fun h69 => ?_) (fun h69 => ?_))
 refine seq_pure (pure_assign rfl) rfl rfl ?_
 refine seq_done (nrm_seq (tri_cond_t rfl ?_))
 refine tri_seq (tri_region (seq_pure (pure_assign rfl) rfl rfl ?_))
 refine seq_pure (pure_assign rfl) rfl rfl ?_
 refine seq_pure (pure_assign rfl) rfl rfl ?_
 refine seq_pure (pure_assign rfl) rfl rfl ?_
 refine seq_done (nrm_seq (tri_ret (ret_block (ret_seq (ret_fin4 (res_tmp rfl) (res_tmp rfl) (res_tmp rfl) (res_tmp rfl) ?_)))))
 (refine ⟨rfl, ?_, rfl⟩; rcases mPW k with ⟨h1, h2, h3⟩ | ⟨h1, h2, h3⟩ | ⟨h1, h2, h3⟩ | ⟨h1, h2, h3⟩ | ⟨h1, h2, h3⟩ | ⟨h1, h2, h3⟩ <;> first | (exfalso; omega) | (rw [h2, h3]; rfl))
 refine seq_pure (pure_assign rfl) rfl rfl ?_
 refine seq_done (nrm_seq (tri_cond_f rfl ?_))
 refine tri_seq (tri_region (seq_bool (pure_eql rfl rfl) rfl rfl (fun h93 => ?_) (fun h93 => ?_)))
 refine seq_pure (pure_assign rfl) rfl rfl ?_
 refine seq_done (nrm_seq (tri_cond_t rfl ?_))
 refine tri_seq (tri_region (seq_pure (pure_assign rfl) rfl rfl ?_))
 refine seq_pure (pure_assign rfl) rfl rfl ?_
 refine seq_pure (pure_assign rfl) rfl rfl ?_
 refine seq_pure (pure_assign rfl) rfl rfl ?_
 refine seq_done (nrm_seq (tri_ret (ret_block (ret_seq (ret_fin4 (res_tmp rfl) (res_tmp rfl) (res_tmp rfl) (res_tmp rfl) ?_)))))
 (refine ⟨rfl, ?_, rfl⟩; rcases mPW k with ⟨h1, h2, h3⟩ | ⟨h1, h2, h3⟩ | ⟨h1, h2, h3⟩ | ⟨h1, h2, h3⟩ | ⟨h1, h2, h3⟩ | ⟨h1, h2, h3⟩ <;> first | (exfalso; omega) | (rw [h2, h3]; rfl))
 refine seq_pure (pure_assign rfl) rfl rfl ?_
 refine seq_done (nrm_seq (tri_cond_f rfl ?_))
 refine tri_seq (tri_region (seq_bool (pure_eql rfl rfl) rfl rfl (fun h117 => ?_) (fun h117 => ?_)))
 refine seq_pure (pure_assign rfl) rfl rfl ?_
 refine seq_done (nrm_seq (tri_cond_t rfl ?_))
 refine tri_seq (tri_region (seq_pure (pure_assign rfl) rfl rfl ?_))
 refine seq_pure (pure_assign rfl) rfl rfl ?_
 refine seq_pure (pure_assign rfl) rfl rfl ?_
 refine seq_pure (pure_assign rfl) rfl rfl ?_
 refine seq_done (nrm_seq (tri_ret (ret_block (ret_seq (ret_fin4 (res_tmp rfl) (res_tmp rfl) (res_tmp rfl) (res_tmp rfl) ?_)))))
 (refine ⟨rfl, ?_, rfl⟩; rcases mPW k with ⟨h1, h2, h3⟩ | ⟨h1, h2, h3⟩ | ⟨h1, h2, h3⟩ | ⟨h1, h2, h3⟩ | ⟨h1, h2, h3⟩ | ⟨h1, h2, h3⟩ <;> first | (exfalso; omega) | (rw [h2, h3]; rfl))
 refine seq_pure (pure_assign rfl) rfl rfl ?_
 refine seq_done (nrm_seq (tri_cond_f rfl ?_))
 refine tri_seq (tri_seq (tri_region (seq_bool (pure_eql rfl rfl) rfl rfl (fun h142 => ?_) (fun h142 => ?_))))
 refine seq_pure (pure_assign rfl) rfl rfl ?_
 refine seq_done (nrm_seq (tri_cond_t rfl ?_))
 refine tri_skip (nrm_seq (tri_cond_t rfl ?_))
 refine tri_seq (tri_region (seq_pure (pure_assign rfl) rfl rfl ?_))
 refine seq_pure (pure_assign rfl) rfl rfl ?_
 refine seq_pure (pure_assign rfl) rfl rfl ?_
 refine seq_pure (pure_assign rfl) rfl rfl ?_
 refine seq_done (nrm_seq (tri_ret (ret_block (ret_seq (ret_fin4 (res_tmp rfl) (res_tmp rfl) (res_tmp rfl) (res_tmp rfl) ?_)))))
 (refine ⟨rfl, ?_, rfl⟩; rcases mPW k with ⟨h1, h2, h3⟩ | ⟨h1, h2, h3⟩ | ⟨h1, h2, h3⟩ | ⟨h1, h2, h3⟩ | ⟨h1, h2, h3⟩ | ⟨h1, h2, h3⟩ <;> first | (exfalso; omega) | (rw [h2, h3]; rfl))
 refine seq_pure (pure_assign rfl) rfl rfl ?_
 refine seq_done (nrm_seq (tri_cond_f rfl ?_))
 refine tri_region (seq_bool (pure_eql rfl rfl) rfl rfl (fun h168 => ?_) (fun h168 => ?_))
 refine seq_pure (pure_assign rfl) rfl rfl ?_
 refine seq_done (nrm_seq (tri_cond_t rfl ?_))
 refine tri_seq (tri_region (seq_pure (pure_assign rfl) rfl rfl ?_))
 refine seq_pure (pure_assign rfl) rfl rfl ?_
 refine seq_pure (pure_assign rfl) rfl rfl ?_
 refine seq_pure (pure_assign rfl) rfl rfl ?_
 refine seq_done (nrm_seq (tri_ret (ret_block (ret_seq (ret_fin4 (res_tmp rfl) (res_tmp rfl) (res_tmp rfl) (res_tmp rfl) ?_)))))
 (refine ⟨rfl, ?_, rfl⟩; rcases mPW k with ⟨h1, h2, h3⟩ | ⟨h1, h2, h3⟩ | ⟨h1, h2, h3⟩ | ⟨h1, h2, h3⟩ | ⟨h1, h2, h3⟩ | ⟨h1, h2, h3⟩ <;> first | (exfalso; omega) | (rw [h2, h3]; rfl))
 refine seq_pure (pure_assign rfl) rfl rfl ?_
 refine seq_done (nrm_seq (tri_cond_f rfl ?_))
 refine tri_skip (nrm_block (nrm_seq (tri_seq (tri_region (seq_pure (pure_assign rfl) rfl rfl ?_)))))
 refine seq_pure (pure_assign rfl) rfl rfl ?_
 refine seq_pure (pure_assign rfl) rfl rfl ?_
 refine seq_pure (pure_assign rfl) rfl rfl ?_
 refine seq_done (nrm_seq (tri_ret (ret_fin4 (res_tmp rfl) (res_tmp rfl) (res_tmp rfl) (res_tmp rfl) ?_)))
 (refine ⟨rfl, ?_, rfl⟩; rcases mPW k with ⟨h1, h2, h3⟩ | ⟨h1, h2, h3⟩ | ⟨h1, h2, h3⟩ | ⟨h1, h2, h3⟩ | ⟨h1, h2, h3⟩ | ⟨h1, h2, h3⟩ <;> first | (exfalso; omega) | (rw [h2, h3]; rfl))
end Gw
end Go.Proofs.YtaoaeilognhfpaaDoor
namespace Go.Proofs.YtaoaeilognhfpaaDoor
open Go Go.RowKit
namespace Gw
section slaws
variable {P : Program} {Γ : Ctx} {env : Env} {hp : List Ent} {G : IM} {ty : TypeId}
theorem run_bound {P : Program} {w : World} {l c : Nat} (hl : l ≤ c) (code : BoundsCode) : (Instr.sliceBound (.int .i64 (l : Int)) c code).run P w = .ok l w := by
 unfold Instr.sliceBound
 simp only [asIntOf, Sem.run_bind, Sem.run_pure, Result.andThen_ok]
 rw [if_pos ⟨by omega, by omega⟩]
 simp
theorem pure_sslice {x y z : Operand} {t : TypeId} {i : TyR} [hI : TyI P t i] (hd' : i.desc = .string) {s : ByteArray} {l h : Nat}
  (hx : evo env x = some (.string s)) (hy : evo env y = some (.int .i64 (l : Int))) (hz : evo env z = some (.int .i64 (h : Int))) (hl : l ≤ h) (hh : h ≤ s.size) :
  PureOp P Γ ⟨env, hp, G⟩ (.slice t x (some y) (some z) none) ty (.string (s.extract l h)) := by
 refine ⟨fun a _ hs _ _ _ _ w => ?_⟩
 have hu := hI.und
 rw [hd'] at hu
 simp [execOp, (hs.evo hx : a.eval x = _), (hs.evo hy : a.eval y = _), (hs.evo hz : a.eval z = _), Instr.sliceAt, Sem.run_bind, run_underlying hu, Instr.slice, Instr.sliceBounds, run_bound hl, run_bound hh]
end slaws
end Gw
end Go.Proofs.YtaoaeilognhfpaaDoor
namespace Go.Proofs.YtaoaeilognhfpaaDoor
open Go Go.RowKit
namespace Gw
section
variable {P : Program} {Γ : Ctx} {env : Env} {hp : List Ent} {G : IM} {ty : TypeId}
theorem pure_slice_fr0 {x y : Operand} {t el : TypeId} {i : TyR} {sz by' : Nat} {zs : List Value} [hI : TyI P t i] (hd' : i.desc = .slice el) [hE : TySz P el sz by' zs] {p : Option Addr} {n c : Nat}
  (hx : evo env x = some (.slice p n c)) (hy : evo env y = some (.int .i64 ((0 : Nat) : Int))) :
  PureOp P Γ ⟨env, hp, G⟩ (.slice t x (some y) none none) ty (.slice p n c) := by
 refine ⟨fun a _ hs _ _ _ _ w => ?_⟩
 have hu := hI.und
 rw [hd'] at hu
 obtain ⟨d, hE⟩ := hE.ok
 obtain ⟨inf, z, t1, t2, t3, _⟩ := run_tyI (P := P) (t := el)
 have e1 : a.eval x = _ := hs.evo hx
 have e2 : a.eval y = _ := hs.evo hy
 have hb : ∀ code, (Instr.sliceBound (.int .i64 ((0 : Nat) : Int)) n code).run P w = .ok 0 w := fun code => run_bound (Nat.zero_le n) code
 simp only [execOp, Option.map, e1, e2, Instr.sliceAt, Sem.run_bind, run_underlying hu, Result.andThen_ok, Instr.slice, Instr.sliceBounds, Sem.run_pure, hb, t3]
 by_cases h : c = 0
 ·subst h; simp
 ·simp [h]; cases p <;> simp [Addr.add]
end
theorem St.slc_pt {Γ : Ctx} {env : Env} {hp : List Ent} {G : IM} {a : Act} {w : World} {p : Option Addr} {c el sz n : Nat} {cs : List Value} (hs : St Γ ⟨env, hp, G⟩ a w) (hm : Ent.slc p c el sz n cs ∈ hp) :
  (p = none ∧ n = 0 ∧ c = 0) ∨ ∃ g, p = some ⟨g, 0, none⟩ ∧ n ≤ c := by
 obtain ⟨_, h⟩ := hs.res.own.ok _ hm
 rcases h with ⟨hv, hn⟩ | ⟨g, cap, cur, hv, _, _, hnc, _⟩
 ·cases hv; exact .inl ⟨rfl, hn, rfl⟩
 ·cases hv; exact .inr ⟨g, rfl, hnc⟩
theorem nrm_own0 {P : Program} {Γ : Ctx} {env : Env} {hp : List Ent} {G : IM} {post : IM → Value → List Ent → Prop} {outs : List Ent} (ho : SubH hp outs) (hk : post G (.tuple ⟨[]⟩) outs) : retK P Γ [] post .normal ⟨env, hp, G⟩ :=
 ⟨⟨[], .nil, outs, ho.spec.choose, ho.spec.choose_spec, hk⟩⟩
theorem upd_tail {cs Z V : List Value} {n : Nat} (h : cs.length = n * 4) (hz : Z.length = V.length) : upd (cs ++ Z) (0 + n * 4) V = some (cs ++ V) := by
 have := upd_at (A := cs) (B := Z) (C := []) (V := V) (o := 0 + n * 4) (by omega) hz
 simpa using this
set_option maxHeartbeats 0 in
set_option maxRecDepth 100000 in
/-- A copy of a part of an own slice. -/
theorem cloneV_own (G : IM) (b o m c' c n : Nat) (cs news : List Value) (hv : ∀ j v, news[j]? = some v → cs[o + j]? = some v) (hl : news.length = m * 4) (h1 : ∀ u ∈ news, u.oneCell' = true) (hm : m ≤ 4294967296) :
  Fn Tryd.prog 34 [.slice (some ⟨b, o, none⟩) m c'] [.slc (some ⟨b, 0, none⟩) c 58 4 n cs] G (fun G' v outs => G' = G ∧ ∃ p' c'', v = .slice p' m c'' ∧ outs = [.slc p' c'' 58 4 m news, .slc (some ⟨b, 0, none⟩) c 58 4 n cs]) := by
 refine fn_enter Tryd.func34 rfl Tryd.ntmps34 Tryd.results34 rfl ?_
 intro w0
 refine tri_seq (tri_region (seq_pure (pure_assign rfl) rfl rfl ?_))
 refine seq_done (nrm_seq (tri_seq (tri_seq (tri_region (seq_pure (pure_move rfl) rfl rfl ?_)))))
 refine seq_pure (pure_slnil_f rfl rfl rfl) rfl rfl ?_
 refine seq_done (nrm_seq (tri_cond_f rfl ?_))
 refine tri_skip (nrm_seq (tri_seq (tri_region ?_)))
 (refine seq_step (step_buildSlice rfl rfl rfl (by omega) (by unfold maxLen; omega) rfl) rfl ?_; rintro _ ⟨b18, rfl⟩)
 refine seq_pure (pure_move rfl) rfl rfl ?_
 refine seq_append rfl rfl rfl rfl rfl (fun _ _ => by repeat (first | exact Sw.here | apply Sw.there)) (at_slc (by repeat first | exact mH | apply mT) hv) hl h1 (by unfold maxLen; omega) (by omega) rfl (fun pn cn => ?_)
 refine seq_pure (pure_assign rfl) rfl rfl ?_
 refine seq_done (nrm_seq (tri_ret (ret_own1 (res_tmp rfl) SubH.refl ?_)))
 exact ⟨rfl, _, _, by rw [Nat.zero_add], by rw [Nat.zero_add]; rfl⟩
set_option maxHeartbeats 0 in
set_option maxRecDepth 100000 in
theorem cloneV_nil (G : IM) : Fn Tryd.prog 34 [.slice none 0 0] [] G (Val (.slice none 0 0) G) := by
 refine fn_enter Tryd.func34 rfl Tryd.ntmps34 Tryd.results34 rfl ?_
 intro w0
 refine tri_seq (tri_region (seq_pure (pure_assign rfl) rfl rfl ?_))
 refine seq_done (nrm_seq (tri_seq (tri_seq (tri_region (seq_pure (pure_move rfl) rfl rfl ?_)))))
 refine seq_pure (pure_slnil_t rfl rfl rfl) rfl rfl ?_
 refine seq_done (nrm_seq (tri_cond_t rfl ?_))
 refine tri_seq (tri_region (seq_pure (pure_assign rfl) rfl rfl ?_))
 refine seq_done (nrm_seq (tri_ret (ret_seq (ret_fin1 (res_tmp rfl) ?_))))
 exact ⟨rfl, rfl, rfl⟩
set_option maxHeartbeats 0 in
set_option maxRecDepth 100000 in
theorem cloneV_im (G : IM) (p : Option Addr) (n c : Nat) (es : List (List Value)) (h : SlE G p n c 4 es) (hn : n ≤ 4294967296) :
  Fn Tryd.prog 34 [.slice p n c] [] G (fun G' v outs => G' = G ∧ ∃ p' c', v = .slice p' n c' ∧ outs = [.slc p' c' 58 4 n es.flatten]) := by
 have hp := h.sl.nn
 have hS := h.sl
 have hone : ∀ u ∈ es.flatten, u.oneCell' = true := by
  intro u hu
  obtain ⟨e, he, hue⟩ := List.mem_flatten.1 hu
  exact List.all_eq_true.1 (h.one e he) u hue
 refine fn_enter Tryd.func34 rfl Tryd.ntmps34 Tryd.results34 rfl ?_
 intro w0
 cases p with
 | none =>
  obtain rfl := hp rfl
  obtain rfl : es = [] := List.length_eq_zero_iff.1 h.len
  refine tri_nil 58 4 ?_
  refine tri_seq ?_
  refine tri_region ?_
  refine seq_pure (pure_assign rfl) rfl rfl ?_
  refine seq_done ?_
  refine nrm_seq ?_
  refine tri_seq ?_
  refine tri_seq ?_
  refine tri_region ?_
  refine seq_pure (pure_move rfl) rfl rfl ?_
  refine seq_pure (pure_slnil_t rfl rfl rfl) rfl rfl ?_
  refine seq_done ?_
  refine nrm_seq ?_
  refine tri_cond_t rfl ?_
  refine tri_seq ?_
  refine tri_region ?_
  refine seq_pure (pure_assign rfl) rfl rfl ?_
  refine seq_done ?_
  refine nrm_seq ?_
  refine tri_ret ?_
  refine ret_seq ?_
  refine ret_own1 (res_tmp rfl) SubH.refl ?_
  exact ⟨rfl, _, _, rfl, rfl⟩
 | some a =>
  refine tri_seq ?_
  refine tri_region ?_
  refine seq_pure (pure_assign rfl) rfl rfl ?_
  refine seq_done ?_
  refine nrm_seq ?_
  refine tri_seq ?_
  refine tri_seq ?_
  refine tri_region ?_
  refine seq_pure (pure_move rfl) rfl rfl ?_
  refine seq_pure (pure_slnil_f rfl rfl rfl) rfl rfl ?_
  refine seq_done ?_
  refine nrm_seq ?_
  refine tri_cond_f rfl ?_
  refine tri_skip ?_
  refine nrm_seq ?_
  refine tri_seq ?_
  refine tri_region ?_
  (refine seq_step (step_buildSlice rfl rfl rfl (by omega) (by unfold maxLen; omega) rfl) rfl ?_; rintro _ ⟨b18, rfl⟩)
  refine seq_pure (pure_move rfl) rfl rfl ?_
  refine seq_appendSl rfl rfl rfl rfl rfl (fun _ _ => by repeat (first | exact Sw.here | apply Sw.there)) hS hone (Nat.zero_le _) (by unfold maxLen; omega) (by omega) rfl (fun pn cn => ?_)
  refine seq_pure (pure_assign rfl) rfl rfl ?_
  refine seq_done ?_
  refine nrm_seq ?_
  refine tri_ret ?_
  refine ret_own1 (res_tmp rfl) SubH.refl ?_
  exact ⟨rfl, _, _, by rw [Nat.zero_add], by rw [Nat.zero_add]; rfl⟩
/-- Popped values, and what is left. -/
def PopP (b : Nat) (A E F : Value) (p : Option Addr) (n c m : Nat) (cs : List Value) (es : List (List Value)) : IM → Value → List Ent → Prop := fun G' v outs =>
 if n < m then v = .tuple ⟨[.slice none 0 0, .bool false]⟩
 else ∃ q d, v = .tuple ⟨[.slice q m d, .bool true]⟩ ∧ outs = [.blk b [A, .slice p (n - m) c, E, F], .slc p c 58 4 (n - m) ((es.take (n - m)).flatten)] ∧ SlE G' q m d 4 (es.drop (n - m))
theorem flat_in {es : List (List Value)} (l : Nat) (ha : ∀ e ∈ es, e.length = 4) : ∀ j v, (es.drop l).flatten[j]? = some v → es.flatten[l * 4 + j]? = some v := by
 intro j v hj
 rw [← flat_drop l ha, List.getElem?_drop] at hj
 exact hj
set_option maxHeartbeats 0 in
set_option maxRecDepth 100000 in
theorem pop_fn (b m n c : Nat) (A E F : Value) (p : Option Addr) (es : List (List Value)) (G : IM) (hm : m ≤ 2) (hn : n ≤ 4294967296) (hl : es.length = n) (ha : ∀ e ∈ es, e.length = 4) (ho : ∀ e ∈ es, e.all (·.oneCell') = true) (hA : A.cells = ⟨[A]⟩ ∧ E.cells = ⟨[E]⟩ ∧ F.cells = ⟨[F]⟩) :
  Fn Tryd.prog 31 [.pointer (some ⟨b, 0, none⟩), .int .i64 (m : Int)] [.blk b [A, .slice p n c, E, F], .slc p c 58 4 n es.flatten] G (PopP b A E F p n c m es.flatten es) := by
 refine fn_enter Tryd.func31 rfl Tryd.ntmps31 Tryd.results31 rfl ?_
 intro w0
 refine tri_know (fun a w hs => hs.slc_pt (p := p) (c := c) (el := 58) (sz := 4) (n := n) (cs := es.flatten) (by repeat first | exact mH | apply mT)) (fun hq => ?_)
 rcases hq with ⟨rfl, rfl, rfl⟩ | ⟨g, rfl, hnc⟩
 ·obtain rfl : es = [] := List.length_eq_zero_iff.1 hl
  refine tri_seq ?_
  refine tri_region ?_
  refine seq_pure (pure_assign rfl) rfl rfl ?_
  refine seq_pure (pure_assign rfl) rfl rfl ?_
  refine seq_done ?_
  refine nrm_seq ?_
  refine tri_seq ?_
  refine tri_region ?_
  refine seq_pure (pure_move rfl) rfl rfl ?_
  refine seq_pure (pure_nilCheck rfl) rfl rfl ?_
  refine seq_pure (pure_fieldAddr0 rfl) rfl rfl ?_
  refine seq_load (load_bs rfl rfl (by repeat first | exact mH | apply mT) (by rfl)) rfl rfl ?_
  refine seq_pure (pure_len rfl rfl) rfl rfl ?_
  refine seq_pure (pure_move rfl) rfl rfl ?_
  refine seq_pure (pure_sub rfl rfl (by omega) (by omega)) rfl rfl ?_
  refine seq_pure (pure_assign rfl) rfl rfl ?_
  refine seq_done ?_
  refine nrm_seq ?_
  refine tri_seq ?_
  refine tri_seq ?_
  refine tri_region ?_
  refine seq_pure (pure_move rfl) rfl rfl ?_
  refine seq_bool (pure_lss rfl rfl) rfl rfl (fun h23 => ?_) (fun h23 => ?_)
  ·refine seq_done ?_
   refine nrm_seq ?_
   refine tri_cond_t rfl ?_
   refine tri_seq ?_
   refine tri_region ?_
   refine seq_pure (pure_assign rfl) rfl rfl ?_
   refine seq_pure (pure_assign rfl) rfl rfl ?_
   refine seq_done ?_
   refine nrm_seq ?_
   refine tri_ret ?_
   refine ret_seq ?_
   refine ret_own2 (outs := [.blk b [A, .slice none 0 0, E, F], .slc none 0 58 4 0 []]) (res_tmp rfl) (res_tmp rfl) (by repeat (first | exact SubH.refl | exact SubH.nil | refine SubH.cons (by repeat (first | exact Pk.here | apply Pk.there)) ?_)) ?_
   (show PopP _ _ _ _ _ _ _ _ _ _ _ _ _; unfold PopP; rw [if_pos (by omega)])
  ·refine seq_done ?_
   refine nrm_seq ?_
   refine tri_cond_f rfl ?_
   refine tri_skip ?_
   refine nrm_seq ?_
   refine tri_seq ?_
   (rw [show (((0 : Nat) : Int) - (m : Int)) = ((0 : Nat) : Int) from (by omega)])
   refine tri_region ?_
   refine seq_pure (pure_move rfl) rfl rfl ?_
   refine seq_pure (pure_nilCheck rfl) rfl rfl ?_
   refine seq_pure (pure_fieldAddr0 rfl) rfl rfl ?_
   refine seq_load (load_bs rfl rfl (by repeat first | exact mH | apply mT) (by rfl)) rfl rfl ?_
   refine seq_pure (pure_move rfl) rfl rfl ?_
   (obtain rfl : m = 0 := (by omega); refine seq_pure (pure_slice_fr0 rfl rfl rfl) rfl rfl ?_)
   refine seq_val rfl ((cloneV_nil G)) rfl rfl ?_
   refine seq_pure (pure_assign rfl) rfl rfl ?_
   refine seq_done ?_
   refine nrm_seq ?_
   refine tri_seq ?_
   refine tri_region ?_
   refine seq_pure (pure_move rfl) rfl rfl ?_
   refine seq_pure (pure_move rfl) rfl rfl ?_
   refine seq_pure (pure_nilCheck rfl) rfl rfl ?_
   refine seq_pure (pure_fieldAddr0 rfl) rfl rfl ?_
   refine seq_load (load_bs rfl rfl (by repeat first | exact mH | apply mT) (by rfl)) rfl rfl ?_
   refine seq_pure (pure_move rfl) rfl rfl ?_
   (refine seq_pure (pure_slice_to (l := 0) rfl rfl rfl (by omega)) rfl rfl ?_)
   refine seq_pure (pure_nilCheck rfl) rfl rfl ?_
   refine seq_pure (pure_fieldAddr0 rfl) rfl rfl ?_
   refine seq_store rfl rfl rfl rfl rfl rfl (by repeat first | exact Sw.here | apply Sw.there) (by rfl) ?_
   refine seq_done ?_
   refine nrm_seq ?_
   refine tri_seq ?_
   refine tri_region ?_
   refine seq_pure (pure_move rfl) rfl rfl ?_
   refine seq_pure (pure_assign rfl) rfl rfl ?_
   refine seq_pure (pure_assign rfl) rfl rfl ?_
   refine seq_done ?_
   refine nrm_seq ?_
   refine tri_ret ?_
   refine ret_own2 (outs := [.blk b [A, .slice none 0 0, E, F], .slc none 0 58 4 0 []]) (res_tmp rfl) (res_tmp rfl) (by repeat (first | exact SubH.refl | exact SubH.nil | refine SubH.cons (by repeat (first | exact Pk.here | apply Pk.there)) ?_)) ?_
   (show PopP _ _ _ _ _ _ _ _ _ _ _ _ _; unfold PopP; rw [if_neg (by omega)]; exact ⟨none, 0, rfl, rfl, SlE.nil G 4⟩)
 ·have hdl : (es.drop (n - m)).length = n - (n - m) := by rw [List.length_drop, hl]
  have hfl : (es.drop (n - m)).flatten.length = (n - (n - m)) * 4 := by rw [flat_len (fun e he => ha e (List.mem_of_mem_drop he)), hdl]
  have hf1 : ∀ u ∈ (es.drop (n - m)).flatten, u.oneCell' = true := by
   intro u hu
   obtain ⟨e, he, hue⟩ := List.mem_flatten.1 hu
   exact List.all_eq_true.1 (ho e (List.mem_of_mem_drop he)) u hue
  have hvv : ∀ j v, (es.drop (n - m)).flatten[j]? = some v → es.flatten[(if c = n - m then 0 else 0 + (n - m) * 4) + j]? = some v := by
   intro j v hj
   split
   ·rw [List.drop_eq_nil_of_le (by omega)] at hj; simp at hj
   ·rw [Nat.zero_add]; exact flat_in _ ha j v hj
  have hC := cloneV_own G g (if c = n - m then 0 else 0 + (n - m) * 4) (n - (n - m)) (c - (n - m)) c n es.flatten (es.drop (n - m)).flatten hvv hfl hf1 (by omega)
  refine tri_seq ?_
  refine tri_region ?_
  refine seq_pure (pure_assign rfl) rfl rfl ?_
  refine seq_pure (pure_assign rfl) rfl rfl ?_
  refine seq_done ?_
  refine nrm_seq ?_
  refine tri_seq ?_
  refine tri_region ?_
  refine seq_pure (pure_move rfl) rfl rfl ?_
  refine seq_pure (pure_nilCheck rfl) rfl rfl ?_
  refine seq_pure (pure_fieldAddr0 rfl) rfl rfl ?_
  refine seq_load (load_bs rfl rfl (by repeat first | exact mH | apply mT) (by rfl)) rfl rfl ?_
  refine seq_pure (pure_len rfl rfl) rfl rfl ?_
  refine seq_pure (pure_move rfl) rfl rfl ?_
  refine seq_pure (pure_sub rfl rfl (by omega) (by omega)) rfl rfl ?_
  refine seq_pure (pure_assign rfl) rfl rfl ?_
  refine seq_done ?_
  refine nrm_seq ?_
  refine tri_seq ?_
  refine tri_seq ?_
  refine tri_region ?_
  refine seq_pure (pure_move rfl) rfl rfl ?_
  refine seq_bool (pure_lss rfl rfl) rfl rfl (fun h23 => ?_) (fun h23 => ?_)
  ·refine seq_done ?_
   refine nrm_seq ?_
   refine tri_cond_t rfl ?_
   refine tri_seq ?_
   refine tri_region ?_
   refine seq_pure (pure_assign rfl) rfl rfl ?_
   refine seq_pure (pure_assign rfl) rfl rfl ?_
   refine seq_done ?_
   refine nrm_seq ?_
   refine tri_ret ?_
   refine ret_seq ?_
   refine ret_fin2 (res_tmp rfl) (res_tmp rfl) ?_
   (show PopP _ _ _ _ _ _ _ _ _ _ _ _ _; unfold PopP; rw [if_pos (by omega)])
  ·refine seq_done ?_
   refine nrm_seq ?_
   refine tri_cond_f rfl ?_
   refine tri_skip ?_
   refine nrm_seq ?_
   refine tri_seq ?_
   (rw [show ((n : Int) - (m : Int)) = ((n - m : Nat) : Int) from (by omega)])
   refine tri_region ?_
   refine seq_pure (pure_move rfl) rfl rfl ?_
   refine seq_pure (pure_nilCheck rfl) rfl rfl ?_
   refine seq_pure (pure_fieldAddr0 rfl) rfl rfl ?_
   refine seq_load (load_bs rfl rfl (by repeat first | exact mH | apply mT) (by rfl)) rfl rfl ?_
   refine seq_pure (pure_move rfl) rfl rfl ?_
   refine seq_pure (pure_slice_from (l := n - m) rfl rfl rfl (by omega)) rfl rfl ?_
   (refine seq_take rfl hC (Pk.perm (by repeat (first | exact Pk.here | apply Pk.there))) rfl rfl (fun v Gn outs hle1 hh => ?_); obtain ⟨hG, p', c'', rfl, rfl⟩ := hh; subst hG; refine triL_freeze (cs := (es.drop (n - m)).flatten) (by repeat (first | exact Pk.here | apply Pk.there)) (fun Gf hleF hslF hnoF => ?_); have hslN := SlE.of hslF hdl (fun e he => ha e (List.mem_of_mem_drop he)) (fun e he => ho e (List.mem_of_mem_drop he)))
   refine seq_pure (pure_assign rfl) rfl rfl ?_
   refine seq_done ?_
   refine nrm_seq ?_
   refine tri_seq ?_
   refine tri_region ?_
   refine seq_pure (pure_move rfl) rfl rfl ?_
   refine seq_pure (pure_move rfl) rfl rfl ?_
   refine seq_pure (pure_nilCheck rfl) rfl rfl ?_
   refine seq_pure (pure_fieldAddr0 rfl) rfl rfl ?_
   refine seq_load (load_bs rfl rfl (by repeat first | exact mH | apply mT) (by rfl)) rfl rfl ?_
   refine seq_pure (pure_move rfl) rfl rfl ?_
   refine seq_pure (pure_slice_to (l := n - m) rfl rfl rfl (by omega)) rfl rfl ?_
   refine seq_pure (pure_nilCheck rfl) rfl rfl ?_
   refine seq_pure (pure_fieldAddr0 rfl) rfl rfl ?_
   (refine triL_trim (k := n - m) (p := some ⟨g, 0, none⟩) (by repeat (first | exact Pk.here | apply Pk.there)) (by omega) ?_; refine seq_store rfl rfl rfl rfl rfl rfl (by repeat first | exact Sw.here | apply Sw.there) (by rfl) ?_)
   refine seq_done ?_
   refine nrm_seq ?_
   refine tri_seq ?_
   refine tri_region ?_
   refine seq_pure (pure_move rfl) rfl rfl ?_
   refine seq_pure (pure_assign rfl) rfl rfl ?_
   refine seq_pure (pure_assign rfl) rfl rfl ?_
   refine seq_done ?_
   refine nrm_seq ?_
   refine tri_ret ?_
   refine ret_own2 (outs := [.blk b [A, .slice (some ⟨g, 0, none⟩) (n - m) c, E, F], .slc (some ⟨g, 0, none⟩) c 58 4 (n - m) (es.flatten.take ((n - m) * 4))]) (res_tmp rfl) (res_tmp rfl) (by repeat (first | exact SubH.refl | exact SubH.nil | refine SubH.cons (by repeat (first | exact Pk.here | apply Pk.there)) ?_)) ?_
   (show PopP _ _ _ _ _ _ _ _ _ _ _ _ _; unfold PopP; rw [if_neg (by omega)]; have hmm : n - (n - m) = m := (by omega); rw [hmm] at hslN; exact ⟨_, _, by rw [hmm], by rw [flat_take _ ha], hslN⟩)
set_option maxHeartbeats 0 in
set_option maxRecDepth 100000 in
theorem push_fn (b n c : Nat) (A E F x1 x2 x3 x4 : Value) (p : Option Addr) (cs : List Value) (G : IM) (hn : n ≤ 4294967296) (hx : [x1, x2, x3, x4].all (·.oneCell') = true) :
  Fn Tryd.prog 32 [.pointer (some ⟨b, 0, none⟩), .agg ⟨[x1, x2, x3, x4]⟩] [.blk b [A, .slice p n c, E, F], .slc p c 58 4 n cs] G (fun G' v outs => G' = G ∧ v = .tuple ⟨[]⟩ ∧ ∃ p' c', outs = [.blk b [A, .slice p' (n + 1) c', E, F], .slc p' c' 58 4 (n + 1) (cs ++ [x1, x2, x3, x4])]) := by
 refine fn_enter Tryd.func32 rfl Tryd.ntmps32 Tryd.results32 rfl ?_
 intro w0
 refine tri_know (fun a w hs => hs.slc_form (p := p) (c := c) (el := 58) (sz := 4) (n := n) (cs := cs) (by repeat first | exact mH | apply mT)) (fun hq => ?_)
 obtain ⟨hcl, hnc, _⟩ := hq
 refine tri_seq (tri_region ?_)
 (refine seq_step (step_box_a rfl rfl) rfl ?_; rintro _ ⟨b3, rfl⟩)
 refine seq_done (nrm_seq (tri_draw mixed rfl ?_))
 refine any_pure (i := 0) (listed' := [tt,ff,ff,ff,ff,ff,ff,ff,ff,ff,ff,ff,ff]) rfl npI (pure_move rfl) rfl (by kernel_rfl) rfl rfl ?_
 refine any_pure (i := 1) (listed' := [tt,tt,ff,ff,ff,ff,ff,ff,ff,ff,ff,ff,ff]) rfl npI (pure_nilCheck rfl) rfl (by kernel_rfl) rfl rfl ?_
 refine any_pure (i := 2) (listed' := [tt,tt,tt,ff,ff,ff,ff,ff,ff,ff,ff,ff,ff]) rfl npI (pure_fieldAddr0 rfl) rfl (by kernel_rfl) rfl rfl ?_
 refine any_load (i := 3) (listed' := [tt,tt,tt,tt,ff,ff,ff,ff,ff,ff,ff,ff,ff]) rfl npI (load_bs rfl rfl (by repeat first | exact mH | apply mT) (by rfl)) rfl (by kernel_rfl) rfl rfl ?_
 refine any_load (i := 4) (listed' := [tt,tt,tt,tt,tt,ff,ff,ff,ff,ff,ff,ff,ff]) rfl npI (load_ba rfl rfl (by repeat first | exact mH | apply mT) (by rfl)) rfl (by kernel_rfl) rfl rfl ?_
 refine any_pure (i := 5) (listed' := [tt,tt,tt,tt,tt,tt,ff,ff,ff,ff,ff,ff,ff]) rfl npI (pure_len rfl rfl) rfl (by kernel_rfl) rfl rfl ?_
 refine any_one (j := 6) (by kernel_rfl) ?_
 (refine one_step0 (listed' := [tt,tt,tt,tt,tt,tt,tt,ff,ff,ff,ff,ff,ff]) rfl (step_buildSlice rfl rfl rfl (by omega) (by unfold maxLen; omega) rfl) rfl rfl ?_; rintro _ ⟨b14, rfl⟩)
 refine any_one (j := 7) (by kernel_rfl) ?_
 (refine one_append (listed' := [tt,tt,tt,tt,tt,tt,tt,tt,ff,ff,ff,ff,ff]) rfl rfl rfl rfl rfl rfl (fun _ _ => by repeat (first | exact Sw.here | apply Sw.there)) (at_slc_all (by repeat first | exact mH | apply mT)) rfl (by simp [Value.oneCell']) (by unfold maxLen; omega) (by omega) rfl rfl (by repeat (first | exact HmOk.nil | apply HmOk.dep (by decide +kernel) | apply HmOk.blk (by decide +kernel) (by repeat (first | exact Pk.here | apply Pk.there)) (by repeat first | exact mH | apply mT))) (fun p5 c5 => ?_); refine any_know (fun a w hs => (hs.slc_form (p := p5) (c := c5) (el := 58) (sz := 4) (n := n + 1) (by repeat first | exact mH | apply mT)).2.2 (Nat.succ_pos _)) (fun hq => ?_); obtain ⟨g5, rfl⟩ := hq)
 refine any_pure (i := 8) (listed' := [tt,tt,tt,tt,tt,tt,tt,tt,tt,ff,ff,ff,ff]) rfl npI (pure_indexAddrN (j := n) rfl rfl rfl (by omega)) rfl (by kernel_rfl) rfl rfl ?_
 refine any_pure (i := 10) (listed' := [tt,tt,tt,tt,tt,tt,tt,tt,tt,ff,tt,ff,ff]) rfl npI (pure_nilCheck rfl) rfl (by kernel_rfl) rfl rfl ?_
 refine any_pure (i := 11) (listed' := [tt,tt,tt,tt,tt,tt,tt,tt,tt,ff,tt,tt,ff]) rfl npI (pure_fieldAddr0 rfl) rfl (by kernel_rfl) rfl rfl ?_
 refine any_two (j := 9) (j' := 12) (by kernel_rfl) ?_ ?_
 (refine one_storeS (listed' := [tt,tt,tt,tt,tt,tt,tt,tt,tt,tt,tt,tt,ff]) rfl rfl rfl rfl rfl hx rfl rfl (by decide +kernel) (by repeat first | exact Sw.here | apply Sw.there) (by exact upd_tail hcl rfl) ?_)
 refine any_one (j := 12) (by kernel_rfl) ?_
 refine one_store (listed' := [tt,tt,tt,tt,tt,tt,tt,tt,tt,tt,tt,tt,tt]) rfl rfl rfl rfl rfl rfl rfl rfl (by decide +kernel) (by repeat first | exact Sw.here | apply Sw.there) (by rfl) ?_
 refine any_done (by kernel_rfl) ?_
 refine nrm_own0 (outs := [.blk b [A, .slice (some ⟨g5, 0, none⟩) (n + 1) c5, E, F], .slc (some ⟨g5, 0, none⟩) c5 58 4 (n + 1) (cs ++ [x1, x2, x3, x4])]) (by repeat (first | exact SubH.refl | exact SubH.nil | refine SubH.cons (by repeat (first | exact Pk.here | apply Pk.there)) ?_)) ?_
 (exact ⟨rfl, rfl, _, _, rfl⟩)
 refine one_store (listed' := [tt,tt,tt,tt,tt,tt,tt,tt,tt,ff,tt,tt,tt]) rfl rfl rfl rfl rfl rfl rfl rfl (by decide +kernel) (by repeat first | exact Sw.here | apply Sw.there) (by rfl) ?_
 refine any_one (j := 9) (by kernel_rfl) ?_
 (refine one_storeS (listed' := [tt,tt,tt,tt,tt,tt,tt,tt,tt,tt,tt,tt,tt]) rfl rfl rfl rfl rfl hx rfl rfl (by decide +kernel) (by repeat first | exact Sw.here | apply Sw.there) (by exact upd_tail hcl rfl) ?_)
 refine any_done (by kernel_rfl) ?_
 refine nrm_own0 (outs := [.blk b [A, .slice (some ⟨g5, 0, none⟩) (n + 1) c5, E, F], .slc (some ⟨g5, 0, none⟩) c5 58 4 (n + 1) (cs ++ [x1, x2, x3, x4])]) (by repeat (first | exact SubH.refl | exact SubH.nil | refine SubH.cons (by repeat (first | exact Pk.here | apply Pk.there)) ?_)) ?_
 (exact ⟨rfl, rfl, _, _, rfl⟩)
end Gw
end Go.Proofs.YtaoaeilognhfpaaDoor
namespace Go.Proofs.YtaoaeilognhfpaaDoor
open Go Go.RowKit
namespace Gw
theorem str_one (k : Nat) : strOfNums [dgi k] = (⟨[UInt8.ofNat (48 + k % 10)].toArray⟩ : ByteArray) := by
 have : (dgi k).toNat = 48 + k % 10 := by unfold dgi; omega
 simp [strOfNums, this]
theorem bytes_app (a b : List UInt8) : (⟨a.toArray⟩ : ByteArray) ++ ⟨b.toArray⟩ = ⟨(a ++ b).toArray⟩ := by
 apply ByteArray.ext; simp
theorem dec_go {k : Nat} {out : ByteArray} (h : 9 < k) : (⟨(Lib.decDigits (k / 10)).toArray⟩ : ByteArray) ++ (strOfNums [dgi k] ++ out) = ⟨(Lib.decDigits k).toArray⟩ ++ out := by
 have e : (⟨(Lib.decDigits k).toArray⟩ : ByteArray) = ⟨(Lib.decDigits (k / 10)).toArray⟩ ++ ⟨[UInt8.ofNat (48 + k % 10)].toArray⟩ := by
  rw [bytes_app (Lib.decDigits (k / 10))]
  congr 2
  rw [Lib.decDigits, dif_neg (by omega)]
 rw [e, str_one, ByteArray.append_assoc]
theorem dec_end {k : Nat} {out : ByteArray} (h : ¬9 < k) : strOfNums [dgi k] ++ out = ⟨(Lib.decDigits k).toArray⟩ ++ out := by
 rw [str_one, Lib.decDigits, dif_pos (by omega), Nat.mod_eq_of_lt (by omega)]
theorem dgi_small {k : Nat} (h : ¬9 < k) : dgi k = 48 + (k : Int) := by unfold dgi; omega
set_option maxRecDepth 100000 in
theorem dec_fn (k : Nat) (hk : k < 10000) (G : IM) : Fn Tryd.prog 26 [.int .i64 (k : Int)] [] G (Val (.string ⟨(Lib.decDigits k).toArray⟩) G) := by
 refine fn_enter Tryd.func26 rfl Tryd.ntmps26 Tryd.results26 rfl ?_
 intro w0
 refine tri_seq (tri_region (seq_pure (pure_assign rfl) rfl rfl ?_))
 refine seq_done (nrm_seq (tri_seq (tri_seq (tri_region (seq_pure (pure_move rfl) rfl rfl ?_)))))
 refine seq_pure (pure_lss_f rfl rfl (by omega)) rfl rfl ?_
 refine seq_done (nrm_seq (tri_cond_f rfl ?_))
 refine tri_skip (nrm_seq (tri_seq (tri_seq (tri_region (seq_pure (pure_move rfl) rfl rfl ?_)))))
 refine seq_pure (pure_lss_f rfl rfl (by omega)) rfl rfl ?_
 refine seq_done (nrm_seq (tri_cond_f rfl ?_))
 refine tri_skip (nrm_seq (tri_seq (tri_region (seq_pure (pure_assign rfl) rfl rfl ?_))))
 refine seq_done (nrm_seq (tri_seq (tri_block (tri_loopN (fun (x : Nat × ByteArray) => ⟨[(0, .int .i64 (x.1 : Int)), (2, .string ⟨#[]⟩), (3, .string x.2)], [], G⟩) (fun x => x.1 < 10000 ∧ x.1 + x.2.size < 10020 ∧ (⟨(Lib.decDigits x.1).toArray⟩ : ByteArray) ++ x.2 = ⟨(Lib.decDigits k).toArray⟩) (fun x => x.1) (k, ⟨#[]⟩) ?_ ?_ ?_))))
 (simp only [flat_snoc]; exact sub_mk (by repeat (first | exact SubE.nil | refine SubE.cons rfl ?_)) (by repeat (first | exact SubH.refl | exact SubH.nil | refine SubH.cons (by repeat (first | exact Pk.here | apply Pk.there)) ?_ | apply SubH.drop)))
 (dsimp only; exact ⟨hk, by have : (⟨#[]⟩ : ByteArray).size = 0 := rfl; omega, ByteArray.append_empty⟩)
 (rintro ⟨j, out⟩ ⟨hj, hsz, hd⟩; simp only [] at hj hsz hd ⊢)
 refine tri_seq (tri_seq (tri_region (seq_pure (pure_move rfl) rfl rfl ?_)))
 refine seq_bool (pure_gtr rfl rfl) rfl rfl (fun h41 => ?_) (fun h41 => ?_)
 refine seq_done (nrm_seq (tri_cond_t rfl ?_))
 refine tri_skip (nrm_seq (tri_block (tri_seq (tri_region (seq_pure (pure_move rfl) rfl rfl ?_)))))
 refine seq_pure (pure_rem_nat (n := 10) rfl rfl (by omega)) rfl rfl ?_
 refine seq_pure (pure_add rfl rfl (by omega) (by omega)) rfl rfl ?_
 refine seq_pure (pure_conv_u8 rfl rfl rfl (by omega) (by omega)) rfl rfl ?_
 (refine seq_step (step_buildSlice rfl rfl rfl (by omega) (by unfold maxLen; omega) rfl) rfl ?_; rintro _ ⟨b54, rfl⟩)
 refine seq_load (load_conv_str (xs := [dgi j]) rfl rfl rfl rfl rfl (at_slc_all (by repeat first | exact mH | apply mT))) rfl rfl ?_
 refine seq_pure (pure_move rfl) rfl rfl ?_
 (have hs1 := strOfNums_size [dgi j]; have hs2 : [dgi j].length = 1 := rfl; refine seq_pure (pure_cat rfl rfl (by omega)) rfl rfl ?_)
 refine seq_pure (pure_assign rfl) rfl rfl ?_
 refine seq_done (nrm_seq (tri_region (seq_pure (pure_move rfl) rfl rfl ?_)))
 refine seq_pure (pure_quo_nat (n := 10) rfl rfl (by omega) (by omega)) rfl rfl ?_
 refine seq_pure (pure_assign rfl) rfl rfl ?_
 refine seq_done (nrm_block (nrm_loopN (j / 10, strOfNums [dgi j] ++ out) ?_ ?_ ?_))
 (simp only [flat_snoc]; exact sub_mk (by repeat (first | exact SubE.nil | refine SubE.cons rfl ?_)) (by repeat (first | exact SubH.refl | exact SubH.nil | refine SubH.cons (by repeat (first | exact Pk.here | apply Pk.there)) ?_ | apply SubH.drop)))
 (dsimp only; exact ⟨by omega, by (rw [ByteArray.size_append]; omega), by rw [← hd]; exact dec_go (by omega)⟩)
 (show j / 10 < j; omega)
 refine seq_done (nrm_seq (tri_cond_f rfl ?_))
 refine tri_exit ?_
 refine ext_seq ?_
 refine ext_loopN ?_
 refine ext_block_eq ?_
 refine nrm_seq (tri_seq (tri_region (seq_pure (pure_move rfl) rfl rfl ?_)))
 refine seq_pure (pure_add rfl rfl (by omega) (by omega)) rfl rfl ?_
 refine seq_pure (pure_conv_u8 rfl rfl rfl (by omega) (by omega)) rfl rfl ?_
 (refine seq_step (step_buildSlice rfl rfl rfl (by omega) (by unfold maxLen; omega) rfl) rfl ?_; rintro _ ⟨b84, rfl⟩)
 (have hs9 := dgi_small (k := j) (by omega); refine seq_load (load_conv_str (xs := [48 + (j : Int)]) rfl rfl rfl rfl rfl (at_slc_all (by repeat first | exact mH | apply mT))) rfl rfl ?_; rw [← hs9])
 refine seq_pure (pure_move rfl) rfl rfl ?_
 (have hs1 := strOfNums_size [dgi j]; have hs2 : [dgi j].length = 1 := rfl; refine seq_pure (pure_cat rfl rfl (by omega)) rfl rfl ?_)
 refine seq_pure (pure_assign rfl) rfl rfl ?_
 refine seq_done (nrm_seq (tri_ret (ret_fin1 (res_tmp rfl) ?_)))
 exact ⟨rfl, by rw [dec_end (by omega), hd], rfl⟩
end Gw
end Go.Proofs.YtaoaeilognhfpaaDoor
namespace Go.Proofs.YtaoaeilognhfpaaDoor
open Go Go.RowKit
namespace Gw
end Gw
end Go.Proofs.YtaoaeilognhfpaaDoor
namespace Go.Proofs.YtaoaeilognhfpaaDoor
open Go Go.RowKit
namespace Gw
/-- How big a drawn term is. -/
def tB : Nat → Nat
 | 0 => 3
 | d + 1 => 3 * tB d + 20
end Gw
end Go.Proofs.YtaoaeilognhfpaaDoor
namespace Go.Proofs.YtaoaeilognhfpaaDoor
open Go Go.RowKit
namespace Gw
/-- A new source. -/
def Opened (G : IM) : IM → Value → List Ent → Prop := fun G' v outs => G' = G ∧ ∃ br pb nb cb bs, v = .pointer (some ⟨br, 0, none⟩) ∧ outs = [rd br pb nb cb 0] ∧ nb ≤ 2000 ∧ Sl G pb nb cb 1 (byts bs)
end Gw
end Go.Proofs.YtaoaeilognhfpaaDoor
namespace Go.Proofs.YtaoaeilognhfpaaDoor
open Go Go.RowKit
namespace Gw
/-- A type and a truth value. -/
def TyB (B : Int) (G : IM) : IM → Value → List Ent → Prop := Imm fun G' v => ∃ t cells b, v = .tuple ⟨[.agg ⟨cells⟩, .bool b]⟩ ∧ RTy G' t cells ∧ tAr t ∧ szTy t ≤ B
/-- Two types and a truth value. -/
def TyTyB (B : Int) (G : IM) : IM → Value → List Ent → Prop := Imm fun G' v => ∃ a ca b cb x, v = .tuple ⟨[.agg ⟨ca⟩, .agg ⟨cb⟩, .bool x]⟩ ∧ RTy G' a ca ∧ tAr a ∧ szTy a ≤ B ∧ RTy G' b cb ∧ tAr b ∧ szTy b ≤ B
/-- A type. -/
def TyP (B : Int) (Q : Ty → Prop) (G : IM) : IM → Value → List Ent → Prop := Imm fun G' v => ∃ t cells, v = .agg ⟨cells⟩ ∧ RTy G' t cells ∧ tAr t ∧ szTy t ≤ B ∧ Q t
end Gw
end Go.Proofs.YtaoaeilognhfpaaDoor
namespace Go.Proofs.YtaoaeilognhfpaaDoor
open Go Go.RowKit
namespace Gw
theorem At.sub {hp : List Ent} {G : IM} {b o j : Nat} {vs : List Value} {v : Value} (h : At hp G b o vs) (hj : vs[j]? = some v) : At hp G b (o + j) [v] := by
 have key : ∀ {cs : List Value}, (∀ i u, vs[i]? = some u → cs[o + i]? = some u) → ∀ i u, [v][i]? = some u → cs[o + j + i]? = some u := by
  intro cs hc i u hu
  cases i with
  | zero => simp at hu; subst hu; simpa using hc j v hj
  | succ i => simp at hu
 rcases h with ⟨cs, hm, hv⟩ | ⟨n, c, el, sz, cs, hm, hv⟩ | ⟨full, hg, hv⟩
 ·exact .inl ⟨cs, hm, key hv⟩
 ·exact .inr (.inl ⟨n, c, el, sz, cs, hm, key hv⟩)
 ·exact .inr (.inr ⟨full, hg, key hv⟩)
/-- A marked term in memory that no longer changes. -/
def HTm (G : IM) (t : Tm) (k : Int) (cells : List Value) : Prop := ∃ pt ct et pf cf ef p c es,
 cells = [.int .i64 t.k, .string t.nm, .int .i64 t.num, .int .i64 t.ty.k, .slice pt t.ty.ks.length ct, .int .i64 t.fr.k, .slice pf t.fr.ks.length cf, .int .i64 t.lb, .slice p t.ks.length c] ∧
 SlE G pt t.ty.ks.length ct 2 et ∧ RTyL G (mkTyL t.ty.ks k) et ∧ SlE G pf t.fr.ks.length cf 2 ef ∧ RTyL G (mkTyL t.fr.ks (k + cntTyL t.ty.ks)) ef ∧ SlE G p t.ks.length c 9 es ∧ RTmL G (mkTmL t.ks (k + cntTyL t.ty.ks + cntTyL t.fr.ks)) es
end Gw
end Go.Proofs.YtaoaeilognhfpaaDoor
namespace Go.Proofs.YtaoaeilognhfpaaDoor
open Go Go.RowKit
namespace Gw
/-- A binding in memory. -/
def RBd (G : IM) (e : List Value) : Prop := ∃ nm t q d, e = [.string nm, .int .i64 t.k, .slice q t.ks.length d] ∧ RTy G t [.int .i64 t.k, .slice q t.ks.length d] ∧ tAr t ∧ szTy t ≤ 30
/-- A context in memory. -/
def GCx (G : IM) (p : Option Addr) (n c : Nat) : Prop := ∃ es, es.length = n ∧ SlE G p n c 3 es ∧ ∀ e ∈ es, RBd G e
end Gw
end Go.Proofs.YtaoaeilognhfpaaDoor
namespace Go.Proofs.YtaoaeilognhfpaaDoor
open Go Go.RowKit
namespace Gw
/-- How the reference writes a kind. -/
def kS (k : Int) : Int := if k = 0 then 1 else if k = 1 then 2 else if k = 2 then 4 else 11
theorem kS_i64 (k : Int) : I64 (kS k) := by unfold kS I64; repeat' split <;> omega
set_option maxRecDepth 100000 in
theorem l14Need_fn (k : Int) (G : IM) : Fn Tryd.prog 27 [.int .i64 k] [] G (Val (.int .i64 (mPops k)) G) := by
 refine fn_enter Tryd.func27 rfl Tryd.ntmps27 Tryd.results27 rfl ?_
 intro w0
 refine tri_seq (tri_region (seq_pure (pure_assign rfl) rfl rfl ?_))
 refine seq_done (nrm_seq (tri_seq (tri_seq (tri_region (seq_pure (pure_move rfl) rfl rfl ?_)))))
 refine seq_done (nrm_seq (tri_block (tri_seq (tri_seq (tri_region (seq_bool (pure_eql rfl rfl) rfl rfl (fun h16 => ?_) (fun h16 => ?_)))))))
 refine seq_pure (pure_assign rfl) rfl rfl ?_
 refine seq_done (nrm_seq (tri_cond_t rfl ?_))
 refine tri_skip (nrm_seq (tri_cond_t rfl ?_))
 refine tri_seq (tri_region (seq_pure (pure_assign rfl) rfl rfl ?_))
 refine seq_done (nrm_seq (tri_ret (ret_block (ret_seq (ret_fin1 (res_tmp rfl) ?_)))))
 exact ⟨rfl, congrArg (Value.int .i64) (by (unfold mPops; (repeat' split) <;> first | rfl | omega)), rfl⟩
 refine seq_pure (pure_assign rfl) rfl rfl ?_
 refine seq_done (nrm_seq (tri_cond_f rfl ?_))
 refine tri_seq (tri_region (seq_bool (pure_eql rfl rfl) rfl rfl (fun h40 => ?_) (fun h40 => ?_)))
 refine seq_pure (pure_assign rfl) rfl rfl ?_
 refine seq_done (nrm_seq (tri_cond_t rfl ?_))
 refine tri_skip (nrm_seq (tri_cond_t rfl ?_))
 refine tri_seq (tri_region (seq_pure (pure_assign rfl) rfl rfl ?_))
 refine seq_done (nrm_seq (tri_ret (ret_block (ret_seq (ret_fin1 (res_tmp rfl) ?_)))))
 exact ⟨rfl, congrArg (Value.int .i64) (by (unfold mPops; (repeat' split) <;> first | rfl | omega)), rfl⟩
 refine seq_pure (pure_assign rfl) rfl rfl ?_
 refine seq_done (nrm_seq (tri_cond_f rfl ?_))
 refine tri_seq (tri_region (seq_bool (pure_eql rfl rfl) rfl rfl (fun h64 => ?_) (fun h64 => ?_)))
 refine seq_pure (pure_assign rfl) rfl rfl ?_
 refine seq_done (nrm_seq (tri_cond_t rfl ?_))
 refine tri_skip (nrm_seq (tri_cond_t rfl ?_))
 refine tri_seq (tri_region (seq_pure (pure_assign rfl) rfl rfl ?_))
 refine seq_done (nrm_seq (tri_ret (ret_block (ret_seq (ret_fin1 (res_tmp rfl) ?_)))))
 exact ⟨rfl, congrArg (Value.int .i64) (by (unfold mPops; (repeat' split) <;> first | rfl | omega)), rfl⟩
 refine seq_pure (pure_assign rfl) rfl rfl ?_
 refine seq_done (nrm_seq (tri_cond_f rfl ?_))
 refine tri_region (seq_bool (pure_eql rfl rfl) rfl rfl (fun h87 => ?_) (fun h87 => ?_))
 refine seq_pure (pure_assign rfl) rfl rfl ?_
 refine seq_done (nrm_seq (tri_cond_t rfl ?_))
 refine tri_seq (tri_region (seq_pure (pure_assign rfl) rfl rfl ?_))
 refine seq_done (nrm_seq (tri_ret (ret_block (ret_seq (ret_fin1 (res_tmp rfl) ?_)))))
 exact ⟨rfl, congrArg (Value.int .i64) (by (unfold mPops; (repeat' split) <;> first | rfl | omega)), rfl⟩
 refine seq_pure (pure_assign rfl) rfl rfl ?_
 refine seq_done (nrm_seq (tri_cond_f rfl ?_))
 refine tri_seq (tri_seq (tri_region (seq_bool (pure_eql rfl rfl) rfl rfl (fun h109 => ?_) (fun h109 => ?_))))
 refine seq_pure (pure_assign rfl) rfl rfl ?_
 refine seq_done (nrm_seq (tri_cond_t rfl ?_))
 refine tri_skip (nrm_seq (tri_cond_t rfl ?_))
 refine tri_seq (tri_region (seq_pure (pure_assign rfl) rfl rfl ?_))
 refine seq_done (nrm_seq (tri_ret (ret_block (ret_seq (ret_fin1 (res_tmp rfl) ?_)))))
 exact ⟨rfl, congrArg (Value.int .i64) (by (unfold mPops; (repeat' split) <;> first | rfl | omega)), rfl⟩
 refine seq_pure (pure_assign rfl) rfl rfl ?_
 refine seq_done (nrm_seq (tri_cond_f rfl ?_))
 refine tri_seq (tri_region (seq_bool (pure_eql rfl rfl) rfl rfl (fun h133 => ?_) (fun h133 => ?_)))
 refine seq_pure (pure_assign rfl) rfl rfl ?_
 refine seq_done (nrm_seq (tri_cond_t rfl ?_))
 refine tri_skip (nrm_seq (tri_cond_t rfl ?_))
 refine tri_seq (tri_region (seq_pure (pure_assign rfl) rfl rfl ?_))
 refine seq_done (nrm_seq (tri_ret (ret_block (ret_seq (ret_fin1 (res_tmp rfl) ?_)))))
 exact ⟨rfl, congrArg (Value.int .i64) (by (unfold mPops; (repeat' split) <;> first | rfl | omega)), rfl⟩
 refine seq_pure (pure_assign rfl) rfl rfl ?_
 refine seq_done (nrm_seq (tri_cond_f rfl ?_))
 refine tri_region (seq_bool (pure_eql rfl rfl) rfl rfl (fun h156 => ?_) (fun h156 => ?_))
 refine seq_pure (pure_assign rfl) rfl rfl ?_
 refine seq_done (nrm_seq (tri_cond_t rfl ?_))
 refine tri_seq (tri_region (seq_pure (pure_assign rfl) rfl rfl ?_))
 refine seq_done (nrm_seq (tri_ret (ret_block (ret_seq (ret_fin1 (res_tmp rfl) ?_)))))
 exact ⟨rfl, congrArg (Value.int .i64) (by (unfold mPops; (repeat' split) <;> first | rfl | omega)), rfl⟩
 refine seq_pure (pure_assign rfl) rfl rfl ?_
 refine seq_done (nrm_seq (tri_cond_f rfl ?_))
 refine tri_skip (nrm_block (nrm_seq (tri_seq (tri_region (seq_pure (pure_assign rfl) rfl rfl ?_)))))
 refine seq_done (nrm_seq (tri_ret (ret_fin1 (res_tmp rfl) ?_)))
 exact ⟨rfl, congrArg (Value.int .i64) (by (unfold mPops; (repeat' split) <;> first | rfl | omega)), rfl⟩
/-- A state is given back. -/
def RetS (kc : Int → Int) (s : MSt) (G : IM) : IM → Value → List Ent → Prop := Imm fun G' v => ∃ cells, v = .agg ⟨cells⟩ ∧ RSs kc G' s cells
set_option maxHeartbeats 0 in
set_option maxRecDepth 100000 in
theorem l14Push_fn (s : MSt) (v : MV) (G : IM) (cells vc : List Value) (hs : RSs kS G s cells) (hv : RMv kS G v vc) (hl : s.st.length ≤ 4294967296) (ha : 0 ≤ s.at' ∧ s.at' ≤ 4294967296) :
  Fn Tryd.prog 28 [.agg ⟨cells⟩, .agg ⟨vc⟩] [] G (RetS kS ⟨s.at' + 1, s.st ++ [v], s.env, s.fr⟩ G) := by
 obtain ⟨pe, ce, ps, cs, pf, cf, ee, es, ef, rfl, hat, hse, hre, hss, hrs, hsf, hrf⟩ := hs
 have hv0 := hv
 obtain ⟨p, c, e1, q, d, f1, rfl, _⟩ := hv.open
 have h1 := hrs.flat1
 refine fn_enter Tryd.func28 rfl Tryd.ntmps28 Tryd.results28 rfl ?_
 intro w0
 refine tri_seq (tri_region ?_)
 (refine seq_step (step_box_a rfl rfl) rfl ?_; rintro _ ⟨b3, rfl⟩)
 (refine seq_step (step_box_a rfl rfl) rfl ?_; rintro _ ⟨b4, rfl⟩)
 (refine seq_step (step_alloc rfl) rfl ?_; rintro _ ⟨b5, rfl⟩)
 refine seq_done (nrm_seq (tri_seq (tri_draw mixed rfl ?_)))
 refine any_pure (i := 1) (listed' := [ff,tt,ff,ff,ff,ff,ff,ff,ff]) rfl npI (pure_fieldAddr0 rfl) rfl (by kernel_rfl) rfl rfl ?_
 refine any_load (i := 2) (listed' := [ff,tt,tt,ff,ff,ff,ff,ff,ff]) rfl npI (load_bs rfl rfl (by repeat first | exact mH | apply mT) (by rfl)) rfl (by kernel_rfl) rfl rfl ?_
 refine any_load (i := 4) (listed' := [ff,tt,tt,ff,tt,ff,ff,ff,ff]) rfl npI (load_ba rfl rfl (by repeat first | exact mH | apply mT) (by rfl)) rfl (by kernel_rfl) rfl rfl ?_
 refine any_two (j := 0) (j' := 5) (by kernel_rfl) ?_ ?_
 (refine one_step0 (listed' := [tt,tt,tt,ff,tt,ff,ff,ff,ff]) rfl (step_buildSlice rfl rfl rfl (by omega) (by unfold maxLen; omega) rfl) rfl rfl ?_; rintro _ ⟨b14, rfl⟩)
 refine any_two (j := 3) (j' := 5) (by kernel_rfl) ?_ ?_
 (refine one_appendSl (listed' := [tt,tt,tt,tt,tt,ff,ff,ff,ff]) rfl rfl rfl rfl rfl rfl (fun _ _ => by repeat (first | exact Sw.here | apply Sw.there)) hss.sl h1 (Nat.zero_le _) (by unfold maxLen; omega) (by omega) rfl rfl (by repeat (first | exact HmOk.nil | apply HmOk.dep (by decide +kernel) | apply HmOk.blk (by decide +kernel) (by repeat (first | exact Pk.here | apply Pk.there)) (by repeat first | exact mH | apply mT))) (fun p4 c4 => ?_); simp only [Nat.zero_add, List.nil_append])
 refine any_one (j := 5) (by kernel_rfl) ?_
 (refine one_step0 (listed' := [tt,tt,tt,tt,tt,tt,ff,ff,ff]) rfl (step_buildSlice rfl rfl rfl (by omega) (by unfold maxLen; omega) rfl) rfl rfl ?_; rintro _ ⟨b18, rfl⟩)
 refine any_one (j := 6) (by kernel_rfl) ?_
 (refine one_append (listed' := [tt,tt,tt,tt,tt,tt,tt,ff,ff]) rfl rfl rfl rfl rfl rfl (fun _ _ => by repeat (first | exact Sw.here | apply Sw.there)) (at_slc_all (by repeat first | exact mH | apply mT)) rfl (by simp [Value.oneCell']) (by unfold maxLen; omega) (by omega) rfl rfl (by repeat (first | exact HmOk.nil | apply HmOk.dep (by decide +kernel) | apply HmOk.blk (by decide +kernel) (by repeat (first | exact Pk.here | apply Pk.there)) (by repeat first | exact mH | apply mT))) (fun p5 c5 => ?_); refine any_freeze (cs := es.flatten ++ [.int .i64 (kS v.k), .int .i64 v.num, .slice p v.env.length c, .slice q v.parts.length d]) (by repeat (first | exact Pk.here | apply Pk.there)) (fun Gf hleF hslF hnoF => ?_); have hslN := SlE.of (es := es ++ [[.int .i64 (kS v.k), .int .i64 v.num, .slice p v.env.length c, .slice q v.parts.length d]]) (by simpa using hslF) (by simp [hss.len]) (all_snoc hss.all rfl) (all_snoc hss.one rfl))
 refine any_pure (i := 7) (listed' := [tt,tt,tt,tt,tt,tt,tt,tt,ff]) rfl npI (pure_fieldAddr0 rfl) rfl (by kernel_rfl) rfl rfl ?_
 refine any_one (j := 8) (by kernel_rfl) ?_
 refine one_store (listed' := [tt,tt,tt,tt,tt,tt,tt,tt,tt]) rfl rfl rfl rfl rfl rfl rfl rfl (by decide +kernel) (by repeat first | exact Sw.here | apply Sw.there) (by rfl) ?_
 refine any_done (by kernel_rfl) ?_
 refine nrm_seq (tri_seq (tri_region (seq_pure (pure_fieldAddr0 rfl) rfl rfl ?_)))
 refine seq_load (load_bs rfl rfl (by repeat first | exact mH | apply mT) (by rfl)) rfl rfl ?_
 refine seq_pure (pure_add rfl rfl (by omega) (by omega)) rfl rfl ?_
 refine seq_pure (pure_fieldAddr0 rfl) rfl rfl ?_
 refine seq_store rfl rfl rfl rfl rfl rfl (by repeat first | exact Sw.here | apply Sw.there) (by rfl) ?_
 refine seq_done (nrm_seq (tri_seq (tri_region (seq_load (load_ba rfl rfl (by repeat first | exact mH | apply mT) (by rfl)) rfl rfl ?_))))
 refine seq_store rfl rfl rfl rfl rfl rfl (by repeat first | exact Sw.here | apply Sw.there) (by rfl) ?_
 refine seq_done (nrm_seq (tri_ret (ret_fin1 (res_cell rfl (load_ba rfl rfl (by repeat first | exact mH | apply mT) (by rfl))) ?_)))
 exact ⟨rfl, _, rfl, RSs.mk ⟨by omega, by omega⟩ rfl (by simp) rfl (hse.mono hleF) (hre.mono hleF) hslN ((hrs.mono hleF).snoc (hv0.mono hleF)) (hsf.mono hleF) (hrf.mono hleF)⟩
 (refine one_step0 (listed' := [tt,tt,tt,ff,tt,tt,ff,ff,ff]) rfl (step_buildSlice rfl rfl rfl (by omega) (by unfold maxLen; omega) rfl) rfl rfl ?_; rintro _ ⟨b44, rfl⟩)
 refine any_one (j := 3) (by kernel_rfl) ?_
 (refine one_appendSl (listed' := [tt,tt,tt,tt,tt,tt,ff,ff,ff]) rfl rfl rfl rfl rfl rfl (fun _ _ => by repeat (first | exact Sw.here | apply Sw.there)) hss.sl h1 (Nat.zero_le _) (by unfold maxLen; omega) (by omega) rfl rfl (by repeat (first | exact HmOk.nil | apply HmOk.dep (by decide +kernel) | apply HmOk.blk (by decide +kernel) (by repeat (first | exact Pk.here | apply Pk.there)) (by repeat first | exact mH | apply mT))) (fun p4 c4 => ?_); simp only [Nat.zero_add, List.nil_append])
 refine any_one (j := 6) (by kernel_rfl) ?_
 (refine one_append (listed' := [tt,tt,tt,tt,tt,tt,tt,ff,ff]) rfl rfl rfl rfl rfl rfl (fun _ _ => by repeat (first | exact Sw.here | apply Sw.there)) (at_slc_all (by repeat first | exact mH | apply mT)) rfl (by simp [Value.oneCell']) (by unfold maxLen; omega) (by omega) rfl rfl (by repeat (first | exact HmOk.nil | apply HmOk.dep (by decide +kernel) | apply HmOk.blk (by decide +kernel) (by repeat (first | exact Pk.here | apply Pk.there)) (by repeat first | exact mH | apply mT))) (fun p5 c5 => ?_); refine any_freeze (cs := es.flatten ++ [.int .i64 (kS v.k), .int .i64 v.num, .slice p v.env.length c, .slice q v.parts.length d]) (by repeat (first | exact Pk.here | apply Pk.there)) (fun Gf hleF hslF hnoF => ?_); have hslN := SlE.of (es := es ++ [[.int .i64 (kS v.k), .int .i64 v.num, .slice p v.env.length c, .slice q v.parts.length d]]) (by simpa using hslF) (by simp [hss.len]) (all_snoc hss.all rfl) (all_snoc hss.one rfl))
 refine any_pure (i := 7) (listed' := [tt,tt,tt,tt,tt,tt,tt,tt,ff]) rfl npI (pure_fieldAddr0 rfl) rfl (by kernel_rfl) rfl rfl ?_
 refine any_one (j := 8) (by kernel_rfl) ?_
 refine one_store (listed' := [tt,tt,tt,tt,tt,tt,tt,tt,tt]) rfl rfl rfl rfl rfl rfl rfl rfl (by decide +kernel) (by repeat first | exact Sw.here | apply Sw.there) (by rfl) ?_
 refine any_done (by kernel_rfl) ?_
 refine nrm_seq (tri_seq (tri_region (seq_pure (pure_fieldAddr0 rfl) rfl rfl ?_)))
 refine seq_load (load_bs rfl rfl (by repeat first | exact mH | apply mT) (by rfl)) rfl rfl ?_
 refine seq_pure (pure_add rfl rfl (by omega) (by omega)) rfl rfl ?_
 refine seq_pure (pure_fieldAddr0 rfl) rfl rfl ?_
 refine seq_store rfl rfl rfl rfl rfl rfl (by repeat first | exact Sw.here | apply Sw.there) (by rfl) ?_
 refine seq_done (nrm_seq (tri_seq (tri_region (seq_load (load_ba rfl rfl (by repeat first | exact mH | apply mT) (by rfl)) rfl rfl ?_))))
 refine seq_store rfl rfl rfl rfl rfl rfl (by repeat first | exact Sw.here | apply Sw.there) (by rfl) ?_
 refine seq_done (nrm_seq (tri_ret (ret_fin1 (res_cell rfl (load_ba rfl rfl (by repeat first | exact mH | apply mT) (by rfl))) ?_)))
 exact ⟨rfl, _, rfl, RSs.mk ⟨by omega, by omega⟩ rfl (by simp) rfl (hse.mono hleF) (hre.mono hleF) hslN ((hrs.mono hleF).snoc (hv0.mono hleF)) (hsf.mono hleF) (hrf.mono hleF)⟩
 (refine one_step0 (listed' := [ff,tt,tt,ff,tt,tt,ff,ff,ff]) rfl (step_buildSlice rfl rfl rfl (by omega) (by unfold maxLen; omega) rfl) rfl rfl ?_; rintro _ ⟨b72, rfl⟩)
 refine any_one (j := 0) (by kernel_rfl) ?_
 (refine one_step0 (listed' := [tt,tt,tt,ff,tt,tt,ff,ff,ff]) rfl (step_buildSlice rfl rfl rfl (by omega) (by unfold maxLen; omega) rfl) rfl rfl ?_; rintro _ ⟨b74, rfl⟩)
 refine any_one (j := 3) (by kernel_rfl) ?_
 (refine one_appendSl (listed' := [tt,tt,tt,tt,tt,tt,ff,ff,ff]) rfl rfl rfl rfl rfl rfl (fun _ _ => by repeat (first | exact Sw.here | apply Sw.there)) hss.sl h1 (Nat.zero_le _) (by unfold maxLen; omega) (by omega) rfl rfl (by repeat (first | exact HmOk.nil | apply HmOk.dep (by decide +kernel) | apply HmOk.blk (by decide +kernel) (by repeat (first | exact Pk.here | apply Pk.there)) (by repeat first | exact mH | apply mT))) (fun p4 c4 => ?_); simp only [Nat.zero_add, List.nil_append])
 refine any_one (j := 6) (by kernel_rfl) ?_
 (refine one_append (listed' := [tt,tt,tt,tt,tt,tt,tt,ff,ff]) rfl rfl rfl rfl rfl rfl (fun _ _ => by repeat (first | exact Sw.here | apply Sw.there)) (at_slc_all (by repeat first | exact mH | apply mT)) rfl (by simp [Value.oneCell']) (by unfold maxLen; omega) (by omega) rfl rfl (by repeat (first | exact HmOk.nil | apply HmOk.dep (by decide +kernel) | apply HmOk.blk (by decide +kernel) (by repeat (first | exact Pk.here | apply Pk.there)) (by repeat first | exact mH | apply mT))) (fun p5 c5 => ?_); refine any_freeze (cs := es.flatten ++ [.int .i64 (kS v.k), .int .i64 v.num, .slice p v.env.length c, .slice q v.parts.length d]) (by repeat (first | exact Pk.here | apply Pk.there)) (fun Gf hleF hslF hnoF => ?_); have hslN := SlE.of (es := es ++ [[.int .i64 (kS v.k), .int .i64 v.num, .slice p v.env.length c, .slice q v.parts.length d]]) (by simpa using hslF) (by simp [hss.len]) (all_snoc hss.all rfl) (all_snoc hss.one rfl))
 refine any_pure (i := 7) (listed' := [tt,tt,tt,tt,tt,tt,tt,tt,ff]) rfl npI (pure_fieldAddr0 rfl) rfl (by kernel_rfl) rfl rfl ?_
 refine any_one (j := 8) (by kernel_rfl) ?_
 refine one_store (listed' := [tt,tt,tt,tt,tt,tt,tt,tt,tt]) rfl rfl rfl rfl rfl rfl rfl rfl (by decide +kernel) (by repeat first | exact Sw.here | apply Sw.there) (by rfl) ?_
 refine any_done (by kernel_rfl) ?_
 refine nrm_seq (tri_seq (tri_region (seq_pure (pure_fieldAddr0 rfl) rfl rfl ?_)))
 refine seq_load (load_bs rfl rfl (by repeat first | exact mH | apply mT) (by rfl)) rfl rfl ?_
 refine seq_pure (pure_add rfl rfl (by omega) (by omega)) rfl rfl ?_
 refine seq_pure (pure_fieldAddr0 rfl) rfl rfl ?_
 refine seq_store rfl rfl rfl rfl rfl rfl (by repeat first | exact Sw.here | apply Sw.there) (by rfl) ?_
 refine seq_done (nrm_seq (tri_seq (tri_region (seq_load (load_ba rfl rfl (by repeat first | exact mH | apply mT) (by rfl)) rfl rfl ?_))))
 refine seq_store rfl rfl rfl rfl rfl rfl (by repeat first | exact Sw.here | apply Sw.there) (by rfl) ?_
 refine seq_done (nrm_seq (tri_ret (ret_fin1 (res_cell rfl (load_ba rfl rfl (by repeat first | exact mH | apply mT) (by rfl))) ?_)))
 exact ⟨rfl, _, rfl, RSs.mk ⟨by omega, by omega⟩ rfl (by simp) rfl (hse.mono hleF) (hre.mono hleF) hslN ((hrs.mono hleF).snoc (hv0.mono hleF)) (hsf.mono hleF) (hrf.mono hleF)⟩
/-- A state and values are given back. -/
def PopS (kc : Int → Int) (s : MSt) (l : List MV) (G : IM) : IM → Value → List Ent → Prop := Imm fun G' v => ∃ cells p c fs, v = .tuple ⟨[.agg ⟨cells⟩, .slice p l.length c]⟩ ∧ RSs kc G' s cells ∧ SlE G' p l.length c 4 fs ∧ RMvL kc G' l fs
set_option maxHeartbeats 0 in
set_option maxRecDepth 100000 in
theorem l14Pop_fn (s : MSt) (m : Nat) (G : IM) (cells : List Value) (hs : RSs kS G s cells) (hm : 1 ≤ m ∧ m ≤ s.st.length) (hl : s.st.length ≤ 4294967296) :
  Fn Tryd.prog 41 [.agg ⟨cells⟩, .int .i64 (m : Int)] [] G (PopS kS { s with st := s.st.take (s.st.length - m) } (s.st.drop (s.st.length - m)) G) := by
 obtain ⟨pe, ce, ps, cs, pf, cf, ee, es, ef, rfl, hat, hse, hre, hss, hrs, hsf, hrf⟩ := hs
 obtain ⟨b, o, rfl, hgb⟩ := hss.some (by omega)
 have hdl : (s.st.drop (s.st.length - m)).length = s.st.length - (s.st.length - m) := List.length_drop
 have htl : (s.st.take (s.st.length - m)).length = s.st.length - m := by rw [List.length_take]; omega
 have hsd := hss.from (l := s.st.length - m) (by omega)
 have hst := hss.to (l := s.st.length - m) (by omega)
 have hrd := hrs.drop (s.st.length - m)
 have hrt := hrs.take (s.st.length - m)
 have h1 := hrd.flat1
 have h2 := hrt.flat1
 refine fn_enter Tryd.func41 rfl Tryd.ntmps41 Tryd.results41 rfl ?_
 intro w0
 refine tri_seq (tri_region ?_)
 (refine seq_step (step_box_a rfl rfl) rfl ?_; rintro _ ⟨b3, rfl⟩)
 (refine seq_step (step_alloc rfl) rfl ?_; rintro _ ⟨b4, rfl⟩)
 refine seq_pure (pure_assign rfl) rfl rfl ?_
 refine seq_done (nrm_seq (tri_seq (tri_region (seq_pure (pure_fieldAddr0 rfl) rfl rfl ?_))))
 refine seq_load (load_bs rfl rfl (by repeat first | exact mH | apply mT) (by rfl)) rfl rfl ?_
 refine seq_pure (pure_len rfl rfl) rfl rfl ?_
 refine seq_pure (pure_move rfl) rfl rfl ?_
 (refine seq_pure (pure_sub rfl rfl (by omega) (by omega)) rfl rfl ?_; rw [show ((s.st.length : Int) - (m : Int)) = ((s.st.length - m : Nat) : Int) from by omega])
 refine seq_pure (pure_assign rfl) rfl rfl ?_
 refine seq_done (nrm_seq (tri_seq (tri_region ?_)))
 (refine seq_step (step_buildSlice rfl rfl rfl (by omega) (by unfold maxLen; omega) rfl) rfl ?_; rintro _ ⟨b20, rfl⟩)
 refine seq_pure (pure_fieldAddr0 rfl) rfl rfl ?_
 refine seq_load (load_bs rfl rfl (by repeat first | exact mH | apply mT) (by rfl)) rfl rfl ?_
 refine seq_pure (pure_move rfl) rfl rfl ?_
 refine seq_pure (pure_slice_from rfl rfl rfl (by omega)) rfl rfl ?_
 (refine seq_appendSl rfl rfl rfl rfl rfl (fun _ _ => by repeat (first | exact Sw.here | apply Sw.there)) hsd.sl h1 (Nat.zero_le _) (by unfold maxLen; omega) (by omega) rfl (fun p4 c4 => ?_); simp only [Nat.zero_add, List.nil_append]; refine triL_freeze (cs := (es.drop (s.st.length - m)).flatten) (by repeat (first | exact Pk.here | apply Pk.there)) (fun Gf hleF hslF hnoF => ?_); have hslN := SlE.of hslF hsd.len hsd.all hsd.one; replace hst := hst.mono hleF)
 refine seq_pure (pure_assign rfl) rfl rfl ?_
 refine seq_done (nrm_seq (tri_seq (tri_region ?_)))
 (refine seq_step (step_buildSlice rfl rfl rfl (by omega) (by unfold maxLen; omega) rfl) rfl ?_; rintro _ ⟨b31, rfl⟩)
 refine seq_pure (pure_fieldAddr0 rfl) rfl rfl ?_
 refine seq_load (load_bs rfl rfl (by repeat first | exact mH | apply mT) (by rfl)) rfl rfl ?_
 refine seq_pure (pure_move rfl) rfl rfl ?_
 refine seq_pure (pure_slice_to rfl rfl rfl (by have := hss.sl.2.1; omega)) rfl rfl ?_
 (refine seq_appendSl rfl rfl rfl rfl rfl (fun _ _ => by repeat (first | exact Sw.here | apply Sw.there)) hst.sl h2 (Nat.zero_le _) (by unfold maxLen; omega) (by omega) rfl (fun p5 c5 => ?_); simp only [Nat.zero_add, List.nil_append]; refine triL_freeze (cs := (es.take (s.st.length - m)).flatten) (by repeat (first | exact Pk.here | apply Pk.there)) (fun G5 hle5 hsl5 hno5 => ?_); have hslT := SlE.of hsl5 hst.len hst.all hst.one; have hleA := hleF.trans hle5)
 refine seq_pure (pure_fieldAddr0 rfl) rfl rfl ?_
 refine seq_store rfl rfl rfl rfl rfl rfl (by repeat first | exact Sw.here | apply Sw.there) (by rfl) ?_
 refine seq_done (nrm_seq (tri_seq (tri_region (seq_load (load_ba rfl rfl (by repeat first | exact mH | apply mT) (by rfl)) rfl rfl ?_))))
 refine seq_pure (pure_move rfl) rfl rfl ?_
 refine seq_store rfl rfl rfl rfl rfl rfl (by repeat first | exact Sw.here | apply Sw.there) (by rfl) ?_
 refine seq_pure (pure_assign rfl) rfl rfl ?_
 refine seq_done (nrm_seq (tri_ret (ret_fin2 (res_cell rfl (load_ba rfl rfl (by repeat first | exact mH | apply mT) (by rfl))) (res_tmp rfl) ?_)))
 exact ⟨rfl, _, _, _, _, by rw [hdl], RSs.mk hat rfl htl.symm rfl (hse.mono hleA) (hre.mono hleA) hslT (hrt.mono hleA) (hsf.mono hleA) (hrf.mono hleA), by rw [hdl]; exact hslN.mono hle5, hrd.mono hleA⟩
end Gw
end Go.Proofs.YtaoaeilognhfpaaDoor
namespace Go.Proofs.YtaoaeilognhfpaaDoor
open Go Go.RowKit
namespace Gw
end Gw
end Go.Proofs.YtaoaeilognhfpaaDoor
namespace Go.Proofs.YtaoaeilognhfpaaDoor
open Go Go.RowKit
namespace Gw
theorem At.mono' {hp : List Ent} {G G' : IM} {b o : Nat} {vs : List Value} (hg : IMle G G') (h : At [] G b o vs) : At hp G' b o vs := by
 rcases h with ⟨cs, hm, hv⟩ | ⟨n, c, el, sz, cs, hm, hv⟩ | ⟨full, hx, hv⟩
 ·cases hm
 ·cases hm
 ·exact .inr (.inr ⟨full, hg _ _ hx, hv⟩)
end Gw
end Go.Proofs.YtaoaeilognhfpaaDoor
namespace Go.Proofs.YtaoaeilognhfpaaDoor
open Go Go.RowKit
namespace Gw
theorem kS4 {k : Int} : kS k = 4 ↔ k = 2 := by unfold kS; (repeat' split) <;> omega
theorem kS1 {k : Int} : kS k = 1 ↔ k = 0 := by unfold kS; (repeat' split) <;> omega
theorem kS2 {k : Int} : kS k = 2 ↔ k = 1 := by unfold kS; (repeat' split) <;> omega
theorem kS11 {k : Int} (h : 0 ≤ k ∧ k ≤ 3) : kS k = 11 ↔ k = 3 := by unfold kS; (repeat' split) <;> omega
/-- What a step answers. -/
def StepS (kc : Int → Int) (r : MSt ⊕ (Int × Int)) (G : IM) : IM → Value → List Ent → Prop := Imm fun G' v => ∃ cells c e, v = .tuple ⟨[.agg ⟨cells⟩, .int .i64 c, .int .i64 e]⟩ ∧ cells.length = 4 ∧ cells.all (·.oneCell') = true ∧
 (∀ s, r = .inl s → c = 1 ∧ e = 0 ∧ RSs kc G' s cells) ∧ (∀ x, r = .inr x → c = x.1 ∧ e = x.2)
theorem StepS.go {kc : Int → Int} {r : MSt ⊕ (Int × Int)} {G G' : IM} {s : MSt} {cells : List Value} (h : r = .inl s) (hs : RSs kc G' s cells) : StepS kc r G G' (.tuple ⟨[.agg ⟨cells⟩, .int .i64 1, .int .i64 0]⟩) [] := by
 subst h
 exact ⟨rfl, cells, 1, 0, rfl, hs.len, hs.one, fun s' h => (by cases h; exact ⟨rfl, rfl, hs⟩), fun x h => (by cases h)⟩
theorem StepS.no {kc : Int → Int} {r : MSt ⊕ (Int × Int)} {G G' : IM} {c e : Int} {cells : List Value} (h : r = .inr (c, e)) (h1 : cells.length = 4) (h2 : cells.all (·.oneCell') = true) : StepS kc r G G' (.tuple ⟨[.agg ⟨cells⟩, .int .i64 c, .int .i64 e]⟩) [] := by
 subst h
 exact ⟨rfl, cells, c, e, rfl, h1, h2, fun s' h => (by cases h), fun x h => by cases h; exact ⟨rfl, rfl⟩⟩
theorem tmod_1000 {a b : Int} (h : 0 ≤ a ∧ a ≤ 999) (h2 : 0 ≤ b ∧ b ≤ 999) : (a + b).tmod 1000 = (a + b) % 1000 := Int.tmod_eq_emod_of_nonneg (by omega)
set_option maxHeartbeats 0 in
set_option maxRecDepth 100000 in
theorem l14Take2_fn (k a : Int) (s : MSt) (n N : Nat) (v0 v1 : MV) (G : IM) (cells : List Value) (hk : k = 6 ∨ k = 7 ∨ k = 8 ∨ k = 11) (hn : n ≤ 120) (hN : N ≤ 2000) (ho : s.ok n N) (hd : s.st.drop (s.st.length - 2) = [v0, v1]) (hl : 2 ≤ s.st.length) (hs : RSs kS G s cells) :
  Fn Tryd.prog 29 [.agg ⟨cells⟩, .agg ⟨[.int .i64 k, .int .i64 a]⟩] [] G (StepS kS (mTake k a s) G) := by
 have hp : mPops k = 2 := mPops2 hk
 have hlo := ho.lo; have hhi := ho.hi; have hst := ho.st; have henv := ho.env; have hfr := ho.fr
 obtain ⟨c1, c2, c3, c4, c5, c6, c7, c8, _, _⟩ := (ho.sto v0 (List.mem_of_mem_drop (i := s.st.length - 2) (by rw [hd]; simp))).spec
 obtain ⟨d1, d2, d3, d4, d5, d6, d7, d8, _, _⟩ := (ho.sto v1 (List.mem_of_mem_drop (i := s.st.length - 2) (by rw [hd]; simp))).spec
 have hP := l14Pop_fn s 2 G cells hs ⟨by omega, hl⟩ (by omega)
 rw [hd] at hP
 have hNd := l14Need_fn k G
 rw [hp] at hNd
 have htl : (s.st.take (s.st.length - 2)).length = s.st.length - 2 := by rw [List.length_take]; omega
 have hs0 := hs
 obtain ⟨pe, ce, ps, cs, pf, cf, ee, es, ef, rfl, _⟩ := hs
 refine fn_enter Tryd.func29 rfl Tryd.ntmps29 Tryd.results29 rfl ?_
 intro w0
 refine tri_seq (tri_region ?_)
 (refine seq_step (step_box_a rfl rfl) rfl ?_; rintro _ ⟨b3, rfl⟩)
 (refine seq_step (step_box_a rfl rfl) rfl ?_; rintro _ ⟨b4, rfl⟩)
 (refine seq_step (step_alloc rfl) rfl ?_; rintro _ ⟨b5, rfl⟩)
 refine seq_pure (pure_assign rfl) rfl rfl ?_
 refine seq_pure (pure_assign rfl) rfl rfl ?_
 refine seq_done (nrm_seq (tri_seq (tri_draw mixed rfl ?_)))
 refine any_load (i := 0) (listed' := [tt,ff,ff,ff,ff,ff,ff,ff,ff,ff]) rfl npI (load_ba rfl rfl (by repeat first | exact mH | apply mT) (by rfl)) rfl (by kernel_rfl) rfl rfl ?_
 refine any_pure (i := 1) (listed' := [tt,tt,ff,ff,ff,ff,ff,ff,ff,ff]) rfl npI (pure_fieldAddr0 rfl) rfl (by kernel_rfl) rfl rfl ?_
 refine any_load (i := 2) (listed' := [tt,tt,tt,ff,ff,ff,ff,ff,ff,ff]) rfl npI (load_bs rfl rfl (by repeat first | exact mH | apply mT) (by rfl)) rfl (by kernel_rfl) rfl rfl ?_
 refine any_one (j := 3) (by kernel_rfl) ?_
 refine one_val (listed' := [tt,tt,tt,tt,ff,ff,ff,ff,ff,ff]) rfl rfl (hNd) rfl rfl rfl ?_
 refine any_one (j := 4) (by kernel_rfl) ?_
 (refine one_imm (listed' := [tt,tt,tt,tt,tt,ff,ff,ff,ff,ff]) rfl rfl hP rfl rfl rfl (fun v G1 hle1 hh => ?_); obtain ⟨c1s, pL, cL, fs, rfl, hs1, hslL, hrL⟩ := hh; obtain ⟨pe1, ce1, ps1, cs1, pf1, cf1, ee1, es1, ef1, rfl, hat1, hse1, hre1, hss1, hrs1, hsf1, hrf1⟩ := hs1.opn; obtain ⟨b0, o0, q0, dd0, q0', dd0', rfl, hv0at, hv0, hg0⟩ := hslL.mvAt hrL (i := 0) (t := v0) rfl; obtain ⟨b1, o1, q1, dd1, q1', dd1', hp1, hv1at, hv1, hg1⟩ := hslL.mvAt hrL (i := 1) (t := v1) rfl; cases hp1)
 refine any_pure (i := 5) (listed' := [tt,tt,tt,tt,tt,tt,ff,ff,ff,ff]) rfl npI (pure_move rfl) rfl (by kernel_rfl) rfl rfl ?_
 refine any_pure (i := 6) (listed' := [tt,tt,tt,tt,tt,tt,tt,ff,ff,ff]) rfl npI (pure_extract rfl rfl) rfl (by kernel_rfl) rfl rfl ?_
 refine any_pure (i := 7) (listed' := [tt,tt,tt,tt,tt,tt,tt,tt,ff,ff]) rfl npI (pure_extract rfl rfl) rfl (by kernel_rfl) rfl rfl ?_
 refine any_one (j := 8) (by kernel_rfl) ?_
 refine one_storeM (listed' := [tt,tt,tt,tt,tt,tt,tt,tt,tt,ff]) rfl rfl rfl rfl rfl rfl rfl rfl (by repeat first | exact Sw.here | apply Sw.there) (by rfl) (by repeat (first | exact HmOk.nil | apply HmOk.dep (by decide +kernel) | apply HmOk.im (by decide +kernel) (by assumption) (by repeat first | exact mH | apply mT) | apply HmOk.blk (by decide +kernel) (by repeat (first | exact Pk.here | apply Pk.there)) (by repeat first | exact mH | apply mT))) ?_
 refine any_pure (i := 9) (listed' := [tt,tt,tt,tt,tt,tt,tt,tt,tt,tt]) rfl npI (pure_assign rfl) rfl (by kernel_rfl) rfl rfl ?_
 refine any_done (by kernel_rfl) ?_
 refine nrm_seq (tri_seq (tri_region (seq_pure (pure_move rfl) rfl rfl ?_)))
 refine seq_pure (pure_indexAddrN (j := 0) rfl rfl rfl (by simp)) rfl rfl ?_
 refine seq_load (load_a rfl rfl (hv0at _) rfl) rfl rfl ?_
 (refine seq_step (step_alloc rfl) rfl ?_; rintro _ ⟨b32, rfl⟩)
 refine seq_store rfl rfl rfl rfl rfl rfl (by repeat first | exact Sw.here | apply Sw.there) (by rfl) ?_
 refine seq_done (nrm_seq (tri_seq (tri_seq (tri_region (seq_pure (pure_fieldAddr0 rfl) rfl rfl ?_)))))
 refine seq_load (load_bs rfl rfl (by repeat first | exact mH | apply mT) (by rfl)) rfl rfl ?_
 refine seq_done (nrm_seq (tri_block (tri_seq (tri_region (seq_bool (pure_eql rfl rfl) rfl rfl (fun h46 => ?_) (fun h46 => ?_))))))
 refine seq_pure (pure_assign rfl) rfl rfl ?_
 refine seq_done (nrm_seq (tri_cond_t rfl ?_))
 refine tri_seq (tri_seq (tri_region (seq_pure (pure_fieldAddr0 rfl) rfl rfl ?_)))
 refine seq_load (load_bs rfl rfl (by repeat first | exact mH | apply mT) (by rfl)) rfl rfl ?_
 refine seq_bool (pure_neq rfl rfl) rfl rfl (fun h56 => ?_) (fun h56 => ?_)
 refine seq_done (nrm_seq (tri_cond_t rfl ?_))
 refine tri_seq (tri_region (seq_load (load_ba rfl rfl (by repeat first | exact mH | apply mT) (by rfl)) rfl rfl ?_))
 refine seq_store rfl rfl rfl rfl rfl rfl (by repeat first | exact Sw.here | apply Sw.there) (by rfl) ?_
 refine seq_pure (pure_assign rfl) rfl rfl ?_
 refine seq_pure (pure_assign rfl) rfl rfl ?_
 refine seq_done (nrm_seq (tri_ret (ret_seq (ret_block (ret_seq (ret_fin3 (res_cell rfl (load_ba rfl rfl (by repeat first | exact mH | apply mT) (by rfl))) (res_tmp rfl) (res_tmp rfl) ?_))))))
 (obtain rfl : k = 6 := (by omega); exact StepS.no (by rw [mTake6 hd, if_neg (fun hc => absurd (kS4.2 hc) (by omega))]) rfl rfl)
 refine seq_done (nrm_seq (tri_cond_f rfl ?_))
 refine tri_skip (nrm_seq (tri_seq (tri_draw mixed rfl ?_)))
 refine any_pure (i := 1) (listed' := [ff,tt,ff,ff,ff,ff,ff,ff,ff,ff,ff,ff,ff,ff]) rfl npI (pure_fieldAddr0 rfl) rfl (by kernel_rfl) rfl rfl ?_
 refine any_load (i := 2) (listed' := [ff,tt,tt,ff,ff,ff,ff,ff,ff,ff,ff,ff,ff,ff]) rfl npI (load_bs rfl rfl (by repeat first | exact mH | apply mT) (by rfl)) rfl (by kernel_rfl) rfl rfl ?_
 refine any_pure (i := 4) (listed' := [ff,tt,tt,ff,tt,ff,ff,ff,ff,ff,ff,ff,ff,ff]) rfl npI (pure_fieldAddr0 rfl) rfl (by kernel_rfl) rfl rfl ?_
 refine any_load (i := 5) (listed' := [ff,tt,tt,ff,tt,tt,ff,ff,ff,ff,ff,ff,ff,ff]) rfl npI (load_bs rfl rfl (by repeat first | exact mH | apply mT) (by rfl)) rfl (by kernel_rfl) rfl rfl ?_
 refine any_pure (i := 6) (listed' := [ff,tt,tt,ff,tt,tt,tt,ff,ff,ff,ff,ff,ff,ff]) rfl npI (pure_add rfl rfl (by omega) (by omega)) rfl (by kernel_rfl) rfl rfl ?_
 refine any_pure (i := 7) (listed' := [ff,tt,tt,ff,tt,tt,tt,tt,ff,ff,ff,ff,ff,ff]) rfl npI (pure_fieldAddr0 rfl) rfl (by kernel_rfl) rfl rfl ?_
 refine any_load (i := 8) (listed' := [ff,tt,tt,ff,tt,tt,tt,tt,tt,ff,ff,ff,ff,ff]) rfl npI (load_bs rfl rfl (by repeat first | exact mH | apply mT) (by rfl)) rfl (by kernel_rfl) rfl rfl ?_
 refine any_pure (i := 9) (listed' := [ff,tt,tt,ff,tt,tt,tt,tt,tt,tt,ff,ff,ff,ff]) rfl npI (pure_build rfl rfl) rfl (by kernel_rfl) rfl rfl ?_
 refine any_two (j := 0) (j' := 10) (by kernel_rfl) ?_ ?_
 (refine one_step0 (listed' := [tt,tt,tt,ff,tt,tt,tt,tt,tt,tt,ff,ff,ff,ff]) rfl (step_buildSlice rfl rfl rfl (by omega) (by unfold maxLen; omega) rfl) rfl rfl ?_; rintro _ ⟨b90, rfl⟩)
 refine any_two (j := 3) (j' := 10) (by kernel_rfl) ?_ ?_
 (refine one_appendSl (listed' := [tt,tt,tt,tt,tt,tt,tt,tt,tt,tt,ff,ff,ff,ff]) rfl rfl rfl rfl rfl rfl (fun _ _ => by repeat (first | exact Sw.here | apply Sw.there)) hsf1.sl hrf1.flat1 (Nat.zero_le _) (by unfold maxLen; omega) (by omega) rfl rfl (by repeat (first | exact HmOk.nil | apply HmOk.dep (by decide +kernel) | apply HmOk.im (by decide +kernel) (by assumption) (by repeat first | exact mH | apply mT) | apply HmOk.blk (by decide +kernel) (by repeat (first | exact Pk.here | apply Pk.there)) (by repeat first | exact mH | apply mT))) (fun p4 c4 => ?_); simp only [Nat.zero_add, List.nil_append])
 refine any_one (j := 10) (by kernel_rfl) ?_
 (refine one_step0 (listed' := [tt,tt,tt,tt,tt,tt,tt,tt,tt,tt,tt,ff,ff,ff]) rfl (step_buildSlice rfl rfl rfl (by omega) (by unfold maxLen; omega) rfl) rfl rfl ?_; rintro _ ⟨b94, rfl⟩)
 refine any_one (j := 11) (by kernel_rfl) ?_
 (refine one_append (listed' := [tt,tt,tt,tt,tt,tt,tt,tt,tt,tt,tt,tt,ff,ff]) rfl rfl rfl rfl rfl rfl (fun _ _ => by repeat (first | exact Sw.here | apply Sw.there)) (at_slc_all (by repeat first | exact mH | apply mT)) rfl (by simp [Value.oneCell']) (by unfold maxLen; omega) (by omega) rfl rfl (by repeat (first | exact HmOk.nil | apply HmOk.dep (by decide +kernel) | apply HmOk.im (by decide +kernel) (by assumption) (by repeat first | exact mH | apply mT) | apply HmOk.blk (by decide +kernel) (by repeat (first | exact Pk.here | apply Pk.there)) (by repeat first | exact mH | apply mT))) (fun p5 c5 => ?_); refine any_freeze (cs := ef1.flatten ++ [.int .i64 (s.at' + 1), .slice pe1 s.env.length ce1]) (by repeat (first | exact Pk.here | apply Pk.there)) (fun Gf hleF hslF hnoF => ?_); have hslN := SlE.of (es := ef1 ++ [[.int .i64 (s.at' + 1), .slice pe1 s.env.length ce1]]) (by simpa using hslF) (by simp [hsf1.len]) (all_snoc hsf1.all rfl) (all_snoc hsf1.one rfl); have hrN := (hrf1.mono hleF).snoc (RFr.mk (a := s.at' + 1) ⟨by omega, by omega⟩ rfl (hse1.mono hleF) (hre1.mono hleF)); replace hss1 := hss1.mono hleF; replace hrs1 := hrs1.mono hleF; replace hv0 := hv0.mono hleF; replace hv1 := hv1.mono hleF; replace hv0at := (fun (hp : List Ent) => At.mono' (hp := hp) hleF (hv0at [])); replace hv1at := (fun (hp : List Ent) => At.mono' (hp := hp) hleF (hv1at [])); replace hg1 := ne_mono hleF hg1; replace hg0 := ne_mono hleF hg0; obtain ⟨e0, f0, hse0, hre0, _, _⟩ := hv0.kids)
 refine any_pure (i := 12) (listed' := [tt,tt,tt,tt,tt,tt,tt,tt,tt,tt,tt,tt,tt,ff]) rfl npI (pure_fieldAddr0 rfl) rfl (by kernel_rfl) rfl rfl ?_
 refine any_one (j := 13) (by kernel_rfl) ?_
 refine one_store (listed' := [tt,tt,tt,tt,tt,tt,tt,tt,tt,tt,tt,tt,tt,tt]) rfl rfl rfl rfl rfl rfl rfl rfl (by decide +kernel) (by repeat first | exact Sw.here | apply Sw.there) (by rfl) ?_
 refine any_done (by kernel_rfl) ?_
 refine nrm_seq (tri_seq (tri_draw mixed rfl ?_))
 refine any_pure (i := 1) (listed' := [ff,tt,ff,ff,ff,ff,ff,ff,ff,ff,ff]) rfl npI (pure_fieldAddr0 rfl) rfl (by kernel_rfl) rfl rfl ?_
 refine any_load (i := 2) (listed' := [ff,tt,tt,ff,ff,ff,ff,ff,ff,ff,ff]) rfl npI (load_bs rfl rfl (by repeat first | exact mH | apply mT) (by rfl)) rfl (by kernel_rfl) rfl rfl ?_
 refine any_pure (i := 4) (listed' := [ff,tt,tt,ff,tt,ff,ff,ff,ff,ff,ff]) rfl npI (pure_move rfl) rfl (by kernel_rfl) rfl rfl ?_
 refine any_pure (i := 5) (listed' := [ff,tt,tt,ff,tt,tt,ff,ff,ff,ff,ff]) rfl npI (pure_indexAddrN (j := 1) rfl rfl rfl (by simp)) rfl (by kernel_rfl) rfl rfl ?_
 refine any_load (i := 6) (listed' := [ff,tt,tt,ff,tt,tt,tt,ff,ff,ff,ff]) rfl npI (load_a rfl rfl (hv1at _) rfl) rfl (by kernel_rfl) rfl rfl ?_
 refine any_two (j := 0) (j' := 7) (by kernel_rfl) ?_ ?_
 (refine one_step0 (listed' := [tt,tt,tt,ff,tt,tt,tt,ff,ff,ff,ff]) rfl (step_buildSlice rfl rfl rfl (by omega) (by unfold maxLen; omega) rfl) rfl rfl ?_; rintro _ ⟨b110, rfl⟩)
 refine any_two (j := 3) (j' := 7) (by kernel_rfl) ?_ ?_
 (refine one_appendSl (listed' := [tt,tt,tt,tt,tt,tt,tt,ff,ff,ff,ff]) rfl rfl rfl rfl rfl rfl (fun _ _ => by repeat (first | exact Sw.here | apply Sw.there)) hse0.sl hre0.flat1 (Nat.zero_le _) (by unfold maxLen; omega) (by omega) rfl rfl (by repeat (first | exact HmOk.nil | apply HmOk.dep (by decide +kernel) | apply HmOk.im (by decide +kernel) (by assumption) (by repeat first | exact mH | apply mT) | apply HmOk.blk (by decide +kernel) (by repeat (first | exact Pk.here | apply Pk.there)) (by repeat first | exact mH | apply mT))) (fun p4 c4 => ?_); simp only [Nat.zero_add, List.nil_append])
 refine any_one (j := 7) (by kernel_rfl) ?_
 (refine one_step0 (listed' := [tt,tt,tt,tt,tt,tt,tt,tt,ff,ff,ff]) rfl (step_buildSlice rfl rfl rfl (by omega) (by unfold maxLen; omega) rfl) rfl rfl ?_; rintro _ ⟨b114, rfl⟩)
 refine any_one (j := 8) (by kernel_rfl) ?_
 (refine one_append (listed' := [tt,tt,tt,tt,tt,tt,tt,tt,tt,ff,ff]) rfl rfl rfl rfl rfl rfl (fun _ _ => by repeat (first | exact Sw.here | apply Sw.there)) (at_slc_all (by repeat first | exact mH | apply mT)) rfl (by simp [Value.oneCell']) (by unfold maxLen; omega) (by omega) rfl rfl (by repeat (first | exact HmOk.nil | apply HmOk.dep (by decide +kernel) | apply HmOk.im (by decide +kernel) (by assumption) (by repeat first | exact mH | apply mT) | apply HmOk.blk (by decide +kernel) (by repeat (first | exact Pk.here | apply Pk.there)) (by repeat first | exact mH | apply mT))) (fun p5 c5 => ?_); refine any_freeze (cs := e0.flatten ++ [.int .i64 (kS v1.k), .int .i64 v1.num, .slice q1 v1.env.length dd1, .slice q1' v1.parts.length dd1']) (by repeat (first | exact Pk.here | apply Pk.there)) (fun Gg hleG hslG hnoG => ?_); have hslE := SlE.of (es := e0 ++ [[.int .i64 (kS v1.k), .int .i64 v1.num, .slice q1 v1.env.length dd1, .slice q1' v1.parts.length dd1']]) (by simpa using hslG) (by simp [hse0.len]) (all_snoc hse0.all rfl) (all_snoc hse0.one rfl); have hrE := (hre0.mono hleG).snoc (hv1.mono hleG))
 refine any_pure (i := 9) (listed' := [tt,tt,tt,tt,tt,tt,tt,tt,tt,tt,ff]) rfl npI (pure_fieldAddr0 rfl) rfl (by kernel_rfl) rfl rfl ?_
 refine any_one (j := 10) (by kernel_rfl) ?_
 refine one_store (listed' := [tt,tt,tt,tt,tt,tt,tt,tt,tt,tt,tt]) rfl rfl rfl rfl rfl rfl rfl rfl (by decide +kernel) (by repeat first | exact Sw.here | apply Sw.there) (by rfl) ?_
 refine any_done (by kernel_rfl) ?_
 refine nrm_seq (tri_seq (tri_region (seq_pure (pure_fieldAddr0 rfl) rfl rfl ?_)))
 refine seq_load (load_bs rfl rfl (by repeat first | exact mH | apply mT) (by rfl)) rfl rfl ?_
 refine seq_pure (pure_fieldAddr0 rfl) rfl rfl ?_
 refine seq_store rfl rfl rfl rfl rfl rfl (by repeat first | exact Sw.here | apply Sw.there) (by rfl) ?_
 refine seq_done (nrm_seq (tri_seq (tri_region (seq_load (load_ba rfl rfl (by repeat first | exact mH | apply mT) (by rfl)) rfl rfl ?_))))
 refine seq_store rfl rfl rfl rfl rfl rfl (by repeat first | exact Sw.here | apply Sw.there) (by rfl) ?_
 refine seq_pure (pure_assign rfl) rfl rfl ?_
 refine seq_pure (pure_assign rfl) rfl rfl ?_
 refine seq_done (nrm_seq (tri_ret (ret_block (ret_seq (ret_fin3 (res_cell rfl (load_ba rfl rfl (by repeat first | exact mH | apply mT) (by rfl))) (res_tmp rfl) (res_tmp rfl) ?_)))))
 (obtain rfl : k = 6 := (by omega); exact StepS.go (by rw [mTake6 hd, if_pos (kS4.1 (by omega))]) (RSs.mk ⟨by omega, by omega⟩ (by simp) rfl (by simp) hslE hrE (hss1.mono hleG) (hrs1.mono hleG) (hslN.mono hleG) (hrN.mono hleG)))
 (refine one_step0 (listed' := [tt,tt,tt,ff,tt,tt,tt,tt,ff,ff,ff]) rfl (step_buildSlice rfl rfl rfl (by omega) (by unfold maxLen; omega) rfl) rfl rfl ?_; rintro _ ⟨b143, rfl⟩)
 refine any_one (j := 3) (by kernel_rfl) ?_
 (refine one_appendSl (listed' := [tt,tt,tt,tt,tt,tt,tt,tt,ff,ff,ff]) rfl rfl rfl rfl rfl rfl (fun _ _ => by repeat (first | exact Sw.here | apply Sw.there)) hse0.sl hre0.flat1 (Nat.zero_le _) (by unfold maxLen; omega) (by omega) rfl rfl (by repeat (first | exact HmOk.nil | apply HmOk.dep (by decide +kernel) | apply HmOk.im (by decide +kernel) (by assumption) (by repeat first | exact mH | apply mT) | apply HmOk.blk (by decide +kernel) (by repeat (first | exact Pk.here | apply Pk.there)) (by repeat first | exact mH | apply mT))) (fun p4 c4 => ?_); simp only [Nat.zero_add, List.nil_append])
 refine any_one (j := 8) (by kernel_rfl) ?_
 (refine one_append (listed' := [tt,tt,tt,tt,tt,tt,tt,tt,tt,ff,ff]) rfl rfl rfl rfl rfl rfl (fun _ _ => by repeat (first | exact Sw.here | apply Sw.there)) (at_slc_all (by repeat first | exact mH | apply mT)) rfl (by simp [Value.oneCell']) (by unfold maxLen; omega) (by omega) rfl rfl (by repeat (first | exact HmOk.nil | apply HmOk.dep (by decide +kernel) | apply HmOk.im (by decide +kernel) (by assumption) (by repeat first | exact mH | apply mT) | apply HmOk.blk (by decide +kernel) (by repeat (first | exact Pk.here | apply Pk.there)) (by repeat first | exact mH | apply mT))) (fun p5 c5 => ?_); refine any_freeze (cs := e0.flatten ++ [.int .i64 (kS v1.k), .int .i64 v1.num, .slice q1 v1.env.length dd1, .slice q1' v1.parts.length dd1']) (by repeat (first | exact Pk.here | apply Pk.there)) (fun Gg hleG hslG hnoG => ?_); have hslE := SlE.of (es := e0 ++ [[.int .i64 (kS v1.k), .int .i64 v1.num, .slice q1 v1.env.length dd1, .slice q1' v1.parts.length dd1']]) (by simpa using hslG) (by simp [hse0.len]) (all_snoc hse0.all rfl) (all_snoc hse0.one rfl); have hrE := (hre0.mono hleG).snoc (hv1.mono hleG))
 refine any_pure (i := 9) (listed' := [tt,tt,tt,tt,tt,tt,tt,tt,tt,tt,ff]) rfl npI (pure_fieldAddr0 rfl) rfl (by kernel_rfl) rfl rfl ?_
 refine any_one (j := 10) (by kernel_rfl) ?_
 refine one_store (listed' := [tt,tt,tt,tt,tt,tt,tt,tt,tt,tt,tt]) rfl rfl rfl rfl rfl rfl rfl rfl (by decide +kernel) (by repeat first | exact Sw.here | apply Sw.there) (by rfl) ?_
 refine any_done (by kernel_rfl) ?_
 refine nrm_seq (tri_seq (tri_region (seq_pure (pure_fieldAddr0 rfl) rfl rfl ?_)))
 refine seq_load (load_bs rfl rfl (by repeat first | exact mH | apply mT) (by rfl)) rfl rfl ?_
 refine seq_pure (pure_fieldAddr0 rfl) rfl rfl ?_
 refine seq_store rfl rfl rfl rfl rfl rfl (by repeat first | exact Sw.here | apply Sw.there) (by rfl) ?_
 refine seq_done (nrm_seq (tri_seq (tri_region (seq_load (load_ba rfl rfl (by repeat first | exact mH | apply mT) (by rfl)) rfl rfl ?_))))
 refine seq_store rfl rfl rfl rfl rfl rfl (by repeat first | exact Sw.here | apply Sw.there) (by rfl) ?_
 refine seq_pure (pure_assign rfl) rfl rfl ?_
 refine seq_pure (pure_assign rfl) rfl rfl ?_
 refine seq_done (nrm_seq (tri_ret (ret_block (ret_seq (ret_fin3 (res_cell rfl (load_ba rfl rfl (by repeat first | exact mH | apply mT) (by rfl))) (res_tmp rfl) (res_tmp rfl) ?_)))))
 (obtain rfl : k = 6 := (by omega); exact StepS.go (by rw [mTake6 hd, if_pos (kS4.1 (by omega))]) (RSs.mk ⟨by omega, by omega⟩ (by simp) rfl (by simp) hslE hrE (hss1.mono hleG) (hrs1.mono hleG) (hslN.mono hleG) (hrN.mono hleG)))
 (refine one_step0 (listed' := [ff,tt,tt,ff,tt,tt,tt,tt,ff,ff,ff]) rfl (step_buildSlice rfl rfl rfl (by omega) (by unfold maxLen; omega) rfl) rfl rfl ?_; rintro _ ⟨b174, rfl⟩)
 refine any_one (j := 0) (by kernel_rfl) ?_
 (refine one_step0 (listed' := [tt,tt,tt,ff,tt,tt,tt,tt,ff,ff,ff]) rfl (step_buildSlice rfl rfl rfl (by omega) (by unfold maxLen; omega) rfl) rfl rfl ?_; rintro _ ⟨b176, rfl⟩)
 refine any_one (j := 3) (by kernel_rfl) ?_
 (refine one_appendSl (listed' := [tt,tt,tt,tt,tt,tt,tt,tt,ff,ff,ff]) rfl rfl rfl rfl rfl rfl (fun _ _ => by repeat (first | exact Sw.here | apply Sw.there)) hse0.sl hre0.flat1 (Nat.zero_le _) (by unfold maxLen; omega) (by omega) rfl rfl (by repeat (first | exact HmOk.nil | apply HmOk.dep (by decide +kernel) | apply HmOk.im (by decide +kernel) (by assumption) (by repeat first | exact mH | apply mT) | apply HmOk.blk (by decide +kernel) (by repeat (first | exact Pk.here | apply Pk.there)) (by repeat first | exact mH | apply mT))) (fun p4 c4 => ?_); simp only [Nat.zero_add, List.nil_append])
 refine any_one (j := 8) (by kernel_rfl) ?_
 (refine one_append (listed' := [tt,tt,tt,tt,tt,tt,tt,tt,tt,ff,ff]) rfl rfl rfl rfl rfl rfl (fun _ _ => by repeat (first | exact Sw.here | apply Sw.there)) (at_slc_all (by repeat first | exact mH | apply mT)) rfl (by simp [Value.oneCell']) (by unfold maxLen; omega) (by omega) rfl rfl (by repeat (first | exact HmOk.nil | apply HmOk.dep (by decide +kernel) | apply HmOk.im (by decide +kernel) (by assumption) (by repeat first | exact mH | apply mT) | apply HmOk.blk (by decide +kernel) (by repeat (first | exact Pk.here | apply Pk.there)) (by repeat first | exact mH | apply mT))) (fun p5 c5 => ?_); refine any_freeze (cs := e0.flatten ++ [.int .i64 (kS v1.k), .int .i64 v1.num, .slice q1 v1.env.length dd1, .slice q1' v1.parts.length dd1']) (by repeat (first | exact Pk.here | apply Pk.there)) (fun Gg hleG hslG hnoG => ?_); have hslE := SlE.of (es := e0 ++ [[.int .i64 (kS v1.k), .int .i64 v1.num, .slice q1 v1.env.length dd1, .slice q1' v1.parts.length dd1']]) (by simpa using hslG) (by simp [hse0.len]) (all_snoc hse0.all rfl) (all_snoc hse0.one rfl); have hrE := (hre0.mono hleG).snoc (hv1.mono hleG))
 refine any_pure (i := 9) (listed' := [tt,tt,tt,tt,tt,tt,tt,tt,tt,tt,ff]) rfl npI (pure_fieldAddr0 rfl) rfl (by kernel_rfl) rfl rfl ?_
 refine any_one (j := 10) (by kernel_rfl) ?_
 refine one_store (listed' := [tt,tt,tt,tt,tt,tt,tt,tt,tt,tt,tt]) rfl rfl rfl rfl rfl rfl rfl rfl (by decide +kernel) (by repeat first | exact Sw.here | apply Sw.there) (by rfl) ?_
 refine any_done (by kernel_rfl) ?_
 refine nrm_seq (tri_seq (tri_region (seq_pure (pure_fieldAddr0 rfl) rfl rfl ?_)))
 refine seq_load (load_bs rfl rfl (by repeat first | exact mH | apply mT) (by rfl)) rfl rfl ?_
 refine seq_pure (pure_fieldAddr0 rfl) rfl rfl ?_
 refine seq_store rfl rfl rfl rfl rfl rfl (by repeat first | exact Sw.here | apply Sw.there) (by rfl) ?_
 refine seq_done (nrm_seq (tri_seq (tri_region (seq_load (load_ba rfl rfl (by repeat first | exact mH | apply mT) (by rfl)) rfl rfl ?_))))
 refine seq_store rfl rfl rfl rfl rfl rfl (by repeat first | exact Sw.here | apply Sw.there) (by rfl) ?_
 refine seq_pure (pure_assign rfl) rfl rfl ?_
 refine seq_pure (pure_assign rfl) rfl rfl ?_
 refine seq_done (nrm_seq (tri_ret (ret_block (ret_seq (ret_fin3 (res_cell rfl (load_ba rfl rfl (by repeat first | exact mH | apply mT) (by rfl))) (res_tmp rfl) (res_tmp rfl) ?_)))))
 (obtain rfl : k = 6 := (by omega); exact StepS.go (by rw [mTake6 hd, if_pos (kS4.1 (by omega))]) (RSs.mk ⟨by omega, by omega⟩ (by simp) rfl (by simp) hslE hrE (hss1.mono hleG) (hrs1.mono hleG) (hslN.mono hleG) (hrN.mono hleG)))
 (refine one_step0 (listed' := [tt,tt,tt,ff,tt,tt,tt,tt,tt,tt,tt,ff,ff,ff]) rfl (step_buildSlice rfl rfl rfl (by omega) (by unfold maxLen; omega) rfl) rfl rfl ?_; rintro _ ⟨b207, rfl⟩)
 refine any_one (j := 3) (by kernel_rfl) ?_
 (refine one_appendSl (listed' := [tt,tt,tt,tt,tt,tt,tt,tt,tt,tt,tt,ff,ff,ff]) rfl rfl rfl rfl rfl rfl (fun _ _ => by repeat (first | exact Sw.here | apply Sw.there)) hsf1.sl hrf1.flat1 (Nat.zero_le _) (by unfold maxLen; omega) (by omega) rfl rfl (by repeat (first | exact HmOk.nil | apply HmOk.dep (by decide +kernel) | apply HmOk.im (by decide +kernel) (by assumption) (by repeat first | exact mH | apply mT) | apply HmOk.blk (by decide +kernel) (by repeat (first | exact Pk.here | apply Pk.there)) (by repeat first | exact mH | apply mT))) (fun p4 c4 => ?_); simp only [Nat.zero_add, List.nil_append])
 refine any_one (j := 11) (by kernel_rfl) ?_
 (refine one_append (listed' := [tt,tt,tt,tt,tt,tt,tt,tt,tt,tt,tt,tt,ff,ff]) rfl rfl rfl rfl rfl rfl (fun _ _ => by repeat (first | exact Sw.here | apply Sw.there)) (at_slc_all (by repeat first | exact mH | apply mT)) rfl (by simp [Value.oneCell']) (by unfold maxLen; omega) (by omega) rfl rfl (by repeat (first | exact HmOk.nil | apply HmOk.dep (by decide +kernel) | apply HmOk.im (by decide +kernel) (by assumption) (by repeat first | exact mH | apply mT) | apply HmOk.blk (by decide +kernel) (by repeat (first | exact Pk.here | apply Pk.there)) (by repeat first | exact mH | apply mT))) (fun p5 c5 => ?_); refine any_freeze (cs := ef1.flatten ++ [.int .i64 (s.at' + 1), .slice pe1 s.env.length ce1]) (by repeat (first | exact Pk.here | apply Pk.there)) (fun Gf hleF hslF hnoF => ?_); have hslN := SlE.of (es := ef1 ++ [[.int .i64 (s.at' + 1), .slice pe1 s.env.length ce1]]) (by simpa using hslF) (by simp [hsf1.len]) (all_snoc hsf1.all rfl) (all_snoc hsf1.one rfl); have hrN := (hrf1.mono hleF).snoc (RFr.mk (a := s.at' + 1) ⟨by omega, by omega⟩ rfl (hse1.mono hleF) (hre1.mono hleF)); replace hss1 := hss1.mono hleF; replace hrs1 := hrs1.mono hleF; replace hv0 := hv0.mono hleF; replace hv1 := hv1.mono hleF; replace hv0at := (fun (hp : List Ent) => At.mono' (hp := hp) hleF (hv0at [])); replace hv1at := (fun (hp : List Ent) => At.mono' (hp := hp) hleF (hv1at [])); replace hg1 := ne_mono hleF hg1; replace hg0 := ne_mono hleF hg0; obtain ⟨e0, f0, hse0, hre0, _, _⟩ := hv0.kids)
 refine any_pure (i := 12) (listed' := [tt,tt,tt,tt,tt,tt,tt,tt,tt,tt,tt,tt,tt,ff]) rfl npI (pure_fieldAddr0 rfl) rfl (by kernel_rfl) rfl rfl ?_
 refine any_one (j := 13) (by kernel_rfl) ?_
 refine one_store (listed' := [tt,tt,tt,tt,tt,tt,tt,tt,tt,tt,tt,tt,tt,tt]) rfl rfl rfl rfl rfl rfl rfl rfl (by decide +kernel) (by repeat first | exact Sw.here | apply Sw.there) (by rfl) ?_
 refine any_done (by kernel_rfl) ?_
 refine nrm_seq (tri_seq (tri_draw mixed rfl ?_))
 refine any_pure (i := 1) (listed' := [ff,tt,ff,ff,ff,ff,ff,ff,ff,ff,ff]) rfl npI (pure_fieldAddr0 rfl) rfl (by kernel_rfl) rfl rfl ?_
 refine any_load (i := 2) (listed' := [ff,tt,tt,ff,ff,ff,ff,ff,ff,ff,ff]) rfl npI (load_bs rfl rfl (by repeat first | exact mH | apply mT) (by rfl)) rfl (by kernel_rfl) rfl rfl ?_
 refine any_pure (i := 4) (listed' := [ff,tt,tt,ff,tt,ff,ff,ff,ff,ff,ff]) rfl npI (pure_move rfl) rfl (by kernel_rfl) rfl rfl ?_
 refine any_pure (i := 5) (listed' := [ff,tt,tt,ff,tt,tt,ff,ff,ff,ff,ff]) rfl npI (pure_indexAddrN (j := 1) rfl rfl rfl (by simp)) rfl (by kernel_rfl) rfl rfl ?_
 refine any_load (i := 6) (listed' := [ff,tt,tt,ff,tt,tt,tt,ff,ff,ff,ff]) rfl npI (load_a rfl rfl (hv1at _) rfl) rfl (by kernel_rfl) rfl rfl ?_
 refine any_two (j := 0) (j' := 7) (by kernel_rfl) ?_ ?_
 (refine one_step0 (listed' := [tt,tt,tt,ff,tt,tt,tt,ff,ff,ff,ff]) rfl (step_buildSlice rfl rfl rfl (by omega) (by unfold maxLen; omega) rfl) rfl rfl ?_; rintro _ ⟨b225, rfl⟩)
 refine any_two (j := 3) (j' := 7) (by kernel_rfl) ?_ ?_
 (refine one_appendSl (listed' := [tt,tt,tt,tt,tt,tt,tt,ff,ff,ff,ff]) rfl rfl rfl rfl rfl rfl (fun _ _ => by repeat (first | exact Sw.here | apply Sw.there)) hse0.sl hre0.flat1 (Nat.zero_le _) (by unfold maxLen; omega) (by omega) rfl rfl (by repeat (first | exact HmOk.nil | apply HmOk.dep (by decide +kernel) | apply HmOk.im (by decide +kernel) (by assumption) (by repeat first | exact mH | apply mT) | apply HmOk.blk (by decide +kernel) (by repeat (first | exact Pk.here | apply Pk.there)) (by repeat first | exact mH | apply mT))) (fun p4 c4 => ?_); simp only [Nat.zero_add, List.nil_append])
 refine any_one (j := 7) (by kernel_rfl) ?_
 (refine one_step0 (listed' := [tt,tt,tt,tt,tt,tt,tt,tt,ff,ff,ff]) rfl (step_buildSlice rfl rfl rfl (by omega) (by unfold maxLen; omega) rfl) rfl rfl ?_; rintro _ ⟨b229, rfl⟩)
 refine any_one (j := 8) (by kernel_rfl) ?_
 (refine one_append (listed' := [tt,tt,tt,tt,tt,tt,tt,tt,tt,ff,ff]) rfl rfl rfl rfl rfl rfl (fun _ _ => by repeat (first | exact Sw.here | apply Sw.there)) (at_slc_all (by repeat first | exact mH | apply mT)) rfl (by simp [Value.oneCell']) (by unfold maxLen; omega) (by omega) rfl rfl (by repeat (first | exact HmOk.nil | apply HmOk.dep (by decide +kernel) | apply HmOk.im (by decide +kernel) (by assumption) (by repeat first | exact mH | apply mT) | apply HmOk.blk (by decide +kernel) (by repeat (first | exact Pk.here | apply Pk.there)) (by repeat first | exact mH | apply mT))) (fun p5 c5 => ?_); refine any_freeze (cs := e0.flatten ++ [.int .i64 (kS v1.k), .int .i64 v1.num, .slice q1 v1.env.length dd1, .slice q1' v1.parts.length dd1']) (by repeat (first | exact Pk.here | apply Pk.there)) (fun Gg hleG hslG hnoG => ?_); have hslE := SlE.of (es := e0 ++ [[.int .i64 (kS v1.k), .int .i64 v1.num, .slice q1 v1.env.length dd1, .slice q1' v1.parts.length dd1']]) (by simpa using hslG) (by simp [hse0.len]) (all_snoc hse0.all rfl) (all_snoc hse0.one rfl); have hrE := (hre0.mono hleG).snoc (hv1.mono hleG))
 refine any_pure (i := 9) (listed' := [tt,tt,tt,tt,tt,tt,tt,tt,tt,tt,ff]) rfl npI (pure_fieldAddr0 rfl) rfl (by kernel_rfl) rfl rfl ?_
 refine any_one (j := 10) (by kernel_rfl) ?_
 refine one_store (listed' := [tt,tt,tt,tt,tt,tt,tt,tt,tt,tt,tt]) rfl rfl rfl rfl rfl rfl rfl rfl (by decide +kernel) (by repeat first | exact Sw.here | apply Sw.there) (by rfl) ?_
 refine any_done (by kernel_rfl) ?_
 refine nrm_seq (tri_seq (tri_region (seq_pure (pure_fieldAddr0 rfl) rfl rfl ?_)))
 refine seq_load (load_bs rfl rfl (by repeat first | exact mH | apply mT) (by rfl)) rfl rfl ?_
 refine seq_pure (pure_fieldAddr0 rfl) rfl rfl ?_
 refine seq_store rfl rfl rfl rfl rfl rfl (by repeat first | exact Sw.here | apply Sw.there) (by rfl) ?_
 refine seq_done (nrm_seq (tri_seq (tri_region (seq_load (load_ba rfl rfl (by repeat first | exact mH | apply mT) (by rfl)) rfl rfl ?_))))
 refine seq_store rfl rfl rfl rfl rfl rfl (by repeat first | exact Sw.here | apply Sw.there) (by rfl) ?_
 refine seq_pure (pure_assign rfl) rfl rfl ?_
 refine seq_pure (pure_assign rfl) rfl rfl ?_
 refine seq_done (nrm_seq (tri_ret (ret_block (ret_seq (ret_fin3 (res_cell rfl (load_ba rfl rfl (by repeat first | exact mH | apply mT) (by rfl))) (res_tmp rfl) (res_tmp rfl) ?_)))))
 (obtain rfl : k = 6 := (by omega); exact StepS.go (by rw [mTake6 hd, if_pos (kS4.1 (by omega))]) (RSs.mk ⟨by omega, by omega⟩ (by simp) rfl (by simp) hslE hrE (hss1.mono hleG) (hrs1.mono hleG) (hslN.mono hleG) (hrN.mono hleG)))
 (refine one_step0 (listed' := [tt,tt,tt,ff,tt,tt,tt,tt,ff,ff,ff]) rfl (step_buildSlice rfl rfl rfl (by omega) (by unfold maxLen; omega) rfl) rfl rfl ?_; rintro _ ⟨b258, rfl⟩)
 refine any_one (j := 3) (by kernel_rfl) ?_
 (refine one_appendSl (listed' := [tt,tt,tt,tt,tt,tt,tt,tt,ff,ff,ff]) rfl rfl rfl rfl rfl rfl (fun _ _ => by repeat (first | exact Sw.here | apply Sw.there)) hse0.sl hre0.flat1 (Nat.zero_le _) (by unfold maxLen; omega) (by omega) rfl rfl (by repeat (first | exact HmOk.nil | apply HmOk.dep (by decide +kernel) | apply HmOk.im (by decide +kernel) (by assumption) (by repeat first | exact mH | apply mT) | apply HmOk.blk (by decide +kernel) (by repeat (first | exact Pk.here | apply Pk.there)) (by repeat first | exact mH | apply mT))) (fun p4 c4 => ?_); simp only [Nat.zero_add, List.nil_append])
 refine any_one (j := 8) (by kernel_rfl) ?_
 (refine one_append (listed' := [tt,tt,tt,tt,tt,tt,tt,tt,tt,ff,ff]) rfl rfl rfl rfl rfl rfl (fun _ _ => by repeat (first | exact Sw.here | apply Sw.there)) (at_slc_all (by repeat first | exact mH | apply mT)) rfl (by simp [Value.oneCell']) (by unfold maxLen; omega) (by omega) rfl rfl (by repeat (first | exact HmOk.nil | apply HmOk.dep (by decide +kernel) | apply HmOk.im (by decide +kernel) (by assumption) (by repeat first | exact mH | apply mT) | apply HmOk.blk (by decide +kernel) (by repeat (first | exact Pk.here | apply Pk.there)) (by repeat first | exact mH | apply mT))) (fun p5 c5 => ?_); refine any_freeze (cs := e0.flatten ++ [.int .i64 (kS v1.k), .int .i64 v1.num, .slice q1 v1.env.length dd1, .slice q1' v1.parts.length dd1']) (by repeat (first | exact Pk.here | apply Pk.there)) (fun Gg hleG hslG hnoG => ?_); have hslE := SlE.of (es := e0 ++ [[.int .i64 (kS v1.k), .int .i64 v1.num, .slice q1 v1.env.length dd1, .slice q1' v1.parts.length dd1']]) (by simpa using hslG) (by simp [hse0.len]) (all_snoc hse0.all rfl) (all_snoc hse0.one rfl); have hrE := (hre0.mono hleG).snoc (hv1.mono hleG))
 refine any_pure (i := 9) (listed' := [tt,tt,tt,tt,tt,tt,tt,tt,tt,tt,ff]) rfl npI (pure_fieldAddr0 rfl) rfl (by kernel_rfl) rfl rfl ?_
 refine any_one (j := 10) (by kernel_rfl) ?_
 refine one_store (listed' := [tt,tt,tt,tt,tt,tt,tt,tt,tt,tt,tt]) rfl rfl rfl rfl rfl rfl rfl rfl (by decide +kernel) (by repeat first | exact Sw.here | apply Sw.there) (by rfl) ?_
 refine any_done (by kernel_rfl) ?_
 refine nrm_seq (tri_seq (tri_region (seq_pure (pure_fieldAddr0 rfl) rfl rfl ?_)))
 refine seq_load (load_bs rfl rfl (by repeat first | exact mH | apply mT) (by rfl)) rfl rfl ?_
 refine seq_pure (pure_fieldAddr0 rfl) rfl rfl ?_
 refine seq_store rfl rfl rfl rfl rfl rfl (by repeat first | exact Sw.here | apply Sw.there) (by rfl) ?_
 refine seq_done (nrm_seq (tri_seq (tri_region (seq_load (load_ba rfl rfl (by repeat first | exact mH | apply mT) (by rfl)) rfl rfl ?_))))
 refine seq_store rfl rfl rfl rfl rfl rfl (by repeat first | exact Sw.here | apply Sw.there) (by rfl) ?_
 refine seq_pure (pure_assign rfl) rfl rfl ?_
 refine seq_pure (pure_assign rfl) rfl rfl ?_
 refine seq_done (nrm_seq (tri_ret (ret_block (ret_seq (ret_fin3 (res_cell rfl (load_ba rfl rfl (by repeat first | exact mH | apply mT) (by rfl))) (res_tmp rfl) (res_tmp rfl) ?_)))))
 (obtain rfl : k = 6 := (by omega); exact StepS.go (by rw [mTake6 hd, if_pos (kS4.1 (by omega))]) (RSs.mk ⟨by omega, by omega⟩ (by simp) rfl (by simp) hslE hrE (hss1.mono hleG) (hrs1.mono hleG) (hslN.mono hleG) (hrN.mono hleG)))
 (refine one_step0 (listed' := [ff,tt,tt,ff,tt,tt,tt,tt,ff,ff,ff]) rfl (step_buildSlice rfl rfl rfl (by omega) (by unfold maxLen; omega) rfl) rfl rfl ?_; rintro _ ⟨b289, rfl⟩)
 refine any_one (j := 0) (by kernel_rfl) ?_
 (refine one_step0 (listed' := [tt,tt,tt,ff,tt,tt,tt,tt,ff,ff,ff]) rfl (step_buildSlice rfl rfl rfl (by omega) (by unfold maxLen; omega) rfl) rfl rfl ?_; rintro _ ⟨b291, rfl⟩)
 refine any_one (j := 3) (by kernel_rfl) ?_
 (refine one_appendSl (listed' := [tt,tt,tt,tt,tt,tt,tt,tt,ff,ff,ff]) rfl rfl rfl rfl rfl rfl (fun _ _ => by repeat (first | exact Sw.here | apply Sw.there)) hse0.sl hre0.flat1 (Nat.zero_le _) (by unfold maxLen; omega) (by omega) rfl rfl (by repeat (first | exact HmOk.nil | apply HmOk.dep (by decide +kernel) | apply HmOk.im (by decide +kernel) (by assumption) (by repeat first | exact mH | apply mT) | apply HmOk.blk (by decide +kernel) (by repeat (first | exact Pk.here | apply Pk.there)) (by repeat first | exact mH | apply mT))) (fun p4 c4 => ?_); simp only [Nat.zero_add, List.nil_append])
 refine any_one (j := 8) (by kernel_rfl) ?_
 (refine one_append (listed' := [tt,tt,tt,tt,tt,tt,tt,tt,tt,ff,ff]) rfl rfl rfl rfl rfl rfl (fun _ _ => by repeat (first | exact Sw.here | apply Sw.there)) (at_slc_all (by repeat first | exact mH | apply mT)) rfl (by simp [Value.oneCell']) (by unfold maxLen; omega) (by omega) rfl rfl (by repeat (first | exact HmOk.nil | apply HmOk.dep (by decide +kernel) | apply HmOk.im (by decide +kernel) (by assumption) (by repeat first | exact mH | apply mT) | apply HmOk.blk (by decide +kernel) (by repeat (first | exact Pk.here | apply Pk.there)) (by repeat first | exact mH | apply mT))) (fun p5 c5 => ?_); refine any_freeze (cs := e0.flatten ++ [.int .i64 (kS v1.k), .int .i64 v1.num, .slice q1 v1.env.length dd1, .slice q1' v1.parts.length dd1']) (by repeat (first | exact Pk.here | apply Pk.there)) (fun Gg hleG hslG hnoG => ?_); have hslE := SlE.of (es := e0 ++ [[.int .i64 (kS v1.k), .int .i64 v1.num, .slice q1 v1.env.length dd1, .slice q1' v1.parts.length dd1']]) (by simpa using hslG) (by simp [hse0.len]) (all_snoc hse0.all rfl) (all_snoc hse0.one rfl); have hrE := (hre0.mono hleG).snoc (hv1.mono hleG))
 refine any_pure (i := 9) (listed' := [tt,tt,tt,tt,tt,tt,tt,tt,tt,tt,ff]) rfl npI (pure_fieldAddr0 rfl) rfl (by kernel_rfl) rfl rfl ?_
 refine any_one (j := 10) (by kernel_rfl) ?_
 refine one_store (listed' := [tt,tt,tt,tt,tt,tt,tt,tt,tt,tt,tt]) rfl rfl rfl rfl rfl rfl rfl rfl (by decide +kernel) (by repeat first | exact Sw.here | apply Sw.there) (by rfl) ?_
 refine any_done (by kernel_rfl) ?_
 refine nrm_seq (tri_seq (tri_region (seq_pure (pure_fieldAddr0 rfl) rfl rfl ?_)))
 refine seq_load (load_bs rfl rfl (by repeat first | exact mH | apply mT) (by rfl)) rfl rfl ?_
 refine seq_pure (pure_fieldAddr0 rfl) rfl rfl ?_
 refine seq_store rfl rfl rfl rfl rfl rfl (by repeat first | exact Sw.here | apply Sw.there) (by rfl) ?_
 refine seq_done (nrm_seq (tri_seq (tri_region (seq_load (load_ba rfl rfl (by repeat first | exact mH | apply mT) (by rfl)) rfl rfl ?_))))
 refine seq_store rfl rfl rfl rfl rfl rfl (by repeat first | exact Sw.here | apply Sw.there) (by rfl) ?_
 refine seq_pure (pure_assign rfl) rfl rfl ?_
 refine seq_pure (pure_assign rfl) rfl rfl ?_
 refine seq_done (nrm_seq (tri_ret (ret_block (ret_seq (ret_fin3 (res_cell rfl (load_ba rfl rfl (by repeat first | exact mH | apply mT) (by rfl))) (res_tmp rfl) (res_tmp rfl) ?_)))))
 (obtain rfl : k = 6 := (by omega); exact StepS.go (by rw [mTake6 hd, if_pos (kS4.1 (by omega))]) (RSs.mk ⟨by omega, by omega⟩ (by simp) rfl (by simp) hslE hrE (hss1.mono hleG) (hrs1.mono hleG) (hslN.mono hleG) (hrN.mono hleG)))
 (refine one_step0 (listed' := [ff,tt,tt,ff,tt,tt,tt,tt,tt,tt,tt,ff,ff,ff]) rfl (step_buildSlice rfl rfl rfl (by omega) (by unfold maxLen; omega) rfl) rfl rfl ?_; rintro _ ⟨b322, rfl⟩)
 refine any_one (j := 0) (by kernel_rfl) ?_
 (refine one_step0 (listed' := [tt,tt,tt,ff,tt,tt,tt,tt,tt,tt,tt,ff,ff,ff]) rfl (step_buildSlice rfl rfl rfl (by omega) (by unfold maxLen; omega) rfl) rfl rfl ?_; rintro _ ⟨b324, rfl⟩)
 refine any_one (j := 3) (by kernel_rfl) ?_
 (refine one_appendSl (listed' := [tt,tt,tt,tt,tt,tt,tt,tt,tt,tt,tt,ff,ff,ff]) rfl rfl rfl rfl rfl rfl (fun _ _ => by repeat (first | exact Sw.here | apply Sw.there)) hsf1.sl hrf1.flat1 (Nat.zero_le _) (by unfold maxLen; omega) (by omega) rfl rfl (by repeat (first | exact HmOk.nil | apply HmOk.dep (by decide +kernel) | apply HmOk.im (by decide +kernel) (by assumption) (by repeat first | exact mH | apply mT) | apply HmOk.blk (by decide +kernel) (by repeat (first | exact Pk.here | apply Pk.there)) (by repeat first | exact mH | apply mT))) (fun p4 c4 => ?_); simp only [Nat.zero_add, List.nil_append])
 refine any_one (j := 11) (by kernel_rfl) ?_
 (refine one_append (listed' := [tt,tt,tt,tt,tt,tt,tt,tt,tt,tt,tt,tt,ff,ff]) rfl rfl rfl rfl rfl rfl (fun _ _ => by repeat (first | exact Sw.here | apply Sw.there)) (at_slc_all (by repeat first | exact mH | apply mT)) rfl (by simp [Value.oneCell']) (by unfold maxLen; omega) (by omega) rfl rfl (by repeat (first | exact HmOk.nil | apply HmOk.dep (by decide +kernel) | apply HmOk.im (by decide +kernel) (by assumption) (by repeat first | exact mH | apply mT) | apply HmOk.blk (by decide +kernel) (by repeat (first | exact Pk.here | apply Pk.there)) (by repeat first | exact mH | apply mT))) (fun p5 c5 => ?_); refine any_freeze (cs := ef1.flatten ++ [.int .i64 (s.at' + 1), .slice pe1 s.env.length ce1]) (by repeat (first | exact Pk.here | apply Pk.there)) (fun Gf hleF hslF hnoF => ?_); have hslN := SlE.of (es := ef1 ++ [[.int .i64 (s.at' + 1), .slice pe1 s.env.length ce1]]) (by simpa using hslF) (by simp [hsf1.len]) (all_snoc hsf1.all rfl) (all_snoc hsf1.one rfl); have hrN := (hrf1.mono hleF).snoc (RFr.mk (a := s.at' + 1) ⟨by omega, by omega⟩ rfl (hse1.mono hleF) (hre1.mono hleF)); replace hss1 := hss1.mono hleF; replace hrs1 := hrs1.mono hleF; replace hv0 := hv0.mono hleF; replace hv1 := hv1.mono hleF; replace hv0at := (fun (hp : List Ent) => At.mono' (hp := hp) hleF (hv0at [])); replace hv1at := (fun (hp : List Ent) => At.mono' (hp := hp) hleF (hv1at [])); replace hg1 := ne_mono hleF hg1; replace hg0 := ne_mono hleF hg0; obtain ⟨e0, f0, hse0, hre0, _, _⟩ := hv0.kids)
 refine any_pure (i := 12) (listed' := [tt,tt,tt,tt,tt,tt,tt,tt,tt,tt,tt,tt,tt,ff]) rfl npI (pure_fieldAddr0 rfl) rfl (by kernel_rfl) rfl rfl ?_
 refine any_one (j := 13) (by kernel_rfl) ?_
 refine one_store (listed' := [tt,tt,tt,tt,tt,tt,tt,tt,tt,tt,tt,tt,tt,tt]) rfl rfl rfl rfl rfl rfl rfl rfl (by decide +kernel) (by repeat first | exact Sw.here | apply Sw.there) (by rfl) ?_
 refine any_done (by kernel_rfl) ?_
 refine nrm_seq (tri_seq (tri_draw mixed rfl ?_))
 refine any_pure (i := 1) (listed' := [ff,tt,ff,ff,ff,ff,ff,ff,ff,ff,ff]) rfl npI (pure_fieldAddr0 rfl) rfl (by kernel_rfl) rfl rfl ?_
 refine any_load (i := 2) (listed' := [ff,tt,tt,ff,ff,ff,ff,ff,ff,ff,ff]) rfl npI (load_bs rfl rfl (by repeat first | exact mH | apply mT) (by rfl)) rfl (by kernel_rfl) rfl rfl ?_
 refine any_pure (i := 4) (listed' := [ff,tt,tt,ff,tt,ff,ff,ff,ff,ff,ff]) rfl npI (pure_move rfl) rfl (by kernel_rfl) rfl rfl ?_
 refine any_pure (i := 5) (listed' := [ff,tt,tt,ff,tt,tt,ff,ff,ff,ff,ff]) rfl npI (pure_indexAddrN (j := 1) rfl rfl rfl (by simp)) rfl (by kernel_rfl) rfl rfl ?_
 refine any_load (i := 6) (listed' := [ff,tt,tt,ff,tt,tt,tt,ff,ff,ff,ff]) rfl npI (load_a rfl rfl (hv1at _) rfl) rfl (by kernel_rfl) rfl rfl ?_
 refine any_two (j := 0) (j' := 7) (by kernel_rfl) ?_ ?_
 (refine one_step0 (listed' := [tt,tt,tt,ff,tt,tt,tt,ff,ff,ff,ff]) rfl (step_buildSlice rfl rfl rfl (by omega) (by unfold maxLen; omega) rfl) rfl rfl ?_; rintro _ ⟨b342, rfl⟩)
 refine any_two (j := 3) (j' := 7) (by kernel_rfl) ?_ ?_
 (refine one_appendSl (listed' := [tt,tt,tt,tt,tt,tt,tt,ff,ff,ff,ff]) rfl rfl rfl rfl rfl rfl (fun _ _ => by repeat (first | exact Sw.here | apply Sw.there)) hse0.sl hre0.flat1 (Nat.zero_le _) (by unfold maxLen; omega) (by omega) rfl rfl (by repeat (first | exact HmOk.nil | apply HmOk.dep (by decide +kernel) | apply HmOk.im (by decide +kernel) (by assumption) (by repeat first | exact mH | apply mT) | apply HmOk.blk (by decide +kernel) (by repeat (first | exact Pk.here | apply Pk.there)) (by repeat first | exact mH | apply mT))) (fun p4 c4 => ?_); simp only [Nat.zero_add, List.nil_append])
 refine any_one (j := 7) (by kernel_rfl) ?_
 (refine one_step0 (listed' := [tt,tt,tt,tt,tt,tt,tt,tt,ff,ff,ff]) rfl (step_buildSlice rfl rfl rfl (by omega) (by unfold maxLen; omega) rfl) rfl rfl ?_; rintro _ ⟨b346, rfl⟩)
 refine any_one (j := 8) (by kernel_rfl) ?_
 (refine one_append (listed' := [tt,tt,tt,tt,tt,tt,tt,tt,tt,ff,ff]) rfl rfl rfl rfl rfl rfl (fun _ _ => by repeat (first | exact Sw.here | apply Sw.there)) (at_slc_all (by repeat first | exact mH | apply mT)) rfl (by simp [Value.oneCell']) (by unfold maxLen; omega) (by omega) rfl rfl (by repeat (first | exact HmOk.nil | apply HmOk.dep (by decide +kernel) | apply HmOk.im (by decide +kernel) (by assumption) (by repeat first | exact mH | apply mT) | apply HmOk.blk (by decide +kernel) (by repeat (first | exact Pk.here | apply Pk.there)) (by repeat first | exact mH | apply mT))) (fun p5 c5 => ?_); refine any_freeze (cs := e0.flatten ++ [.int .i64 (kS v1.k), .int .i64 v1.num, .slice q1 v1.env.length dd1, .slice q1' v1.parts.length dd1']) (by repeat (first | exact Pk.here | apply Pk.there)) (fun Gg hleG hslG hnoG => ?_); have hslE := SlE.of (es := e0 ++ [[.int .i64 (kS v1.k), .int .i64 v1.num, .slice q1 v1.env.length dd1, .slice q1' v1.parts.length dd1']]) (by simpa using hslG) (by simp [hse0.len]) (all_snoc hse0.all rfl) (all_snoc hse0.one rfl); have hrE := (hre0.mono hleG).snoc (hv1.mono hleG))
 refine any_pure (i := 9) (listed' := [tt,tt,tt,tt,tt,tt,tt,tt,tt,tt,ff]) rfl npI (pure_fieldAddr0 rfl) rfl (by kernel_rfl) rfl rfl ?_
 refine any_one (j := 10) (by kernel_rfl) ?_
 refine one_store (listed' := [tt,tt,tt,tt,tt,tt,tt,tt,tt,tt,tt]) rfl rfl rfl rfl rfl rfl rfl rfl (by decide +kernel) (by repeat first | exact Sw.here | apply Sw.there) (by rfl) ?_
 refine any_done (by kernel_rfl) ?_
 refine nrm_seq (tri_seq (tri_region (seq_pure (pure_fieldAddr0 rfl) rfl rfl ?_)))
 refine seq_load (load_bs rfl rfl (by repeat first | exact mH | apply mT) (by rfl)) rfl rfl ?_
 refine seq_pure (pure_fieldAddr0 rfl) rfl rfl ?_
 refine seq_store rfl rfl rfl rfl rfl rfl (by repeat first | exact Sw.here | apply Sw.there) (by rfl) ?_
 refine seq_done (nrm_seq (tri_seq (tri_region (seq_load (load_ba rfl rfl (by repeat first | exact mH | apply mT) (by rfl)) rfl rfl ?_))))
 refine seq_store rfl rfl rfl rfl rfl rfl (by repeat first | exact Sw.here | apply Sw.there) (by rfl) ?_
 refine seq_pure (pure_assign rfl) rfl rfl ?_
 refine seq_pure (pure_assign rfl) rfl rfl ?_
 refine seq_done (nrm_seq (tri_ret (ret_block (ret_seq (ret_fin3 (res_cell rfl (load_ba rfl rfl (by repeat first | exact mH | apply mT) (by rfl))) (res_tmp rfl) (res_tmp rfl) ?_)))))
 (obtain rfl : k = 6 := (by omega); exact StepS.go (by rw [mTake6 hd, if_pos (kS4.1 (by omega))]) (RSs.mk ⟨by omega, by omega⟩ (by simp) rfl (by simp) hslE hrE (hss1.mono hleG) (hrs1.mono hleG) (hslN.mono hleG) (hrN.mono hleG)))
 (refine one_step0 (listed' := [tt,tt,tt,ff,tt,tt,tt,tt,ff,ff,ff]) rfl (step_buildSlice rfl rfl rfl (by omega) (by unfold maxLen; omega) rfl) rfl rfl ?_; rintro _ ⟨b375, rfl⟩)
 refine any_one (j := 3) (by kernel_rfl) ?_
 (refine one_appendSl (listed' := [tt,tt,tt,tt,tt,tt,tt,tt,ff,ff,ff]) rfl rfl rfl rfl rfl rfl (fun _ _ => by repeat (first | exact Sw.here | apply Sw.there)) hse0.sl hre0.flat1 (Nat.zero_le _) (by unfold maxLen; omega) (by omega) rfl rfl (by repeat (first | exact HmOk.nil | apply HmOk.dep (by decide +kernel) | apply HmOk.im (by decide +kernel) (by assumption) (by repeat first | exact mH | apply mT) | apply HmOk.blk (by decide +kernel) (by repeat (first | exact Pk.here | apply Pk.there)) (by repeat first | exact mH | apply mT))) (fun p4 c4 => ?_); simp only [Nat.zero_add, List.nil_append])
 refine any_one (j := 8) (by kernel_rfl) ?_
 (refine one_append (listed' := [tt,tt,tt,tt,tt,tt,tt,tt,tt,ff,ff]) rfl rfl rfl rfl rfl rfl (fun _ _ => by repeat (first | exact Sw.here | apply Sw.there)) (at_slc_all (by repeat first | exact mH | apply mT)) rfl (by simp [Value.oneCell']) (by unfold maxLen; omega) (by omega) rfl rfl (by repeat (first | exact HmOk.nil | apply HmOk.dep (by decide +kernel) | apply HmOk.im (by decide +kernel) (by assumption) (by repeat first | exact mH | apply mT) | apply HmOk.blk (by decide +kernel) (by repeat (first | exact Pk.here | apply Pk.there)) (by repeat first | exact mH | apply mT))) (fun p5 c5 => ?_); refine any_freeze (cs := e0.flatten ++ [.int .i64 (kS v1.k), .int .i64 v1.num, .slice q1 v1.env.length dd1, .slice q1' v1.parts.length dd1']) (by repeat (first | exact Pk.here | apply Pk.there)) (fun Gg hleG hslG hnoG => ?_); have hslE := SlE.of (es := e0 ++ [[.int .i64 (kS v1.k), .int .i64 v1.num, .slice q1 v1.env.length dd1, .slice q1' v1.parts.length dd1']]) (by simpa using hslG) (by simp [hse0.len]) (all_snoc hse0.all rfl) (all_snoc hse0.one rfl); have hrE := (hre0.mono hleG).snoc (hv1.mono hleG))
 refine any_pure (i := 9) (listed' := [tt,tt,tt,tt,tt,tt,tt,tt,tt,tt,ff]) rfl npI (pure_fieldAddr0 rfl) rfl (by kernel_rfl) rfl rfl ?_
 refine any_one (j := 10) (by kernel_rfl) ?_
 refine one_store (listed' := [tt,tt,tt,tt,tt,tt,tt,tt,tt,tt,tt]) rfl rfl rfl rfl rfl rfl rfl rfl (by decide +kernel) (by repeat first | exact Sw.here | apply Sw.there) (by rfl) ?_
 refine any_done (by kernel_rfl) ?_
 refine nrm_seq (tri_seq (tri_region (seq_pure (pure_fieldAddr0 rfl) rfl rfl ?_)))
 refine seq_load (load_bs rfl rfl (by repeat first | exact mH | apply mT) (by rfl)) rfl rfl ?_
 refine seq_pure (pure_fieldAddr0 rfl) rfl rfl ?_
 refine seq_store rfl rfl rfl rfl rfl rfl (by repeat first | exact Sw.here | apply Sw.there) (by rfl) ?_
 refine seq_done (nrm_seq (tri_seq (tri_region (seq_load (load_ba rfl rfl (by repeat first | exact mH | apply mT) (by rfl)) rfl rfl ?_))))
 refine seq_store rfl rfl rfl rfl rfl rfl (by repeat first | exact Sw.here | apply Sw.there) (by rfl) ?_
 refine seq_pure (pure_assign rfl) rfl rfl ?_
 refine seq_pure (pure_assign rfl) rfl rfl ?_
 refine seq_done (nrm_seq (tri_ret (ret_block (ret_seq (ret_fin3 (res_cell rfl (load_ba rfl rfl (by repeat first | exact mH | apply mT) (by rfl))) (res_tmp rfl) (res_tmp rfl) ?_)))))
 (obtain rfl : k = 6 := (by omega); exact StepS.go (by rw [mTake6 hd, if_pos (kS4.1 (by omega))]) (RSs.mk ⟨by omega, by omega⟩ (by simp) rfl (by simp) hslE hrE (hss1.mono hleG) (hrs1.mono hleG) (hslN.mono hleG) (hrN.mono hleG)))
 (refine one_step0 (listed' := [ff,tt,tt,ff,tt,tt,tt,tt,ff,ff,ff]) rfl (step_buildSlice rfl rfl rfl (by omega) (by unfold maxLen; omega) rfl) rfl rfl ?_; rintro _ ⟨b406, rfl⟩)
 refine any_one (j := 0) (by kernel_rfl) ?_
 (refine one_step0 (listed' := [tt,tt,tt,ff,tt,tt,tt,tt,ff,ff,ff]) rfl (step_buildSlice rfl rfl rfl (by omega) (by unfold maxLen; omega) rfl) rfl rfl ?_; rintro _ ⟨b408, rfl⟩)
 refine any_one (j := 3) (by kernel_rfl) ?_
 (refine one_appendSl (listed' := [tt,tt,tt,tt,tt,tt,tt,tt,ff,ff,ff]) rfl rfl rfl rfl rfl rfl (fun _ _ => by repeat (first | exact Sw.here | apply Sw.there)) hse0.sl hre0.flat1 (Nat.zero_le _) (by unfold maxLen; omega) (by omega) rfl rfl (by repeat (first | exact HmOk.nil | apply HmOk.dep (by decide +kernel) | apply HmOk.im (by decide +kernel) (by assumption) (by repeat first | exact mH | apply mT) | apply HmOk.blk (by decide +kernel) (by repeat (first | exact Pk.here | apply Pk.there)) (by repeat first | exact mH | apply mT))) (fun p4 c4 => ?_); simp only [Nat.zero_add, List.nil_append])
 refine any_one (j := 8) (by kernel_rfl) ?_
 (refine one_append (listed' := [tt,tt,tt,tt,tt,tt,tt,tt,tt,ff,ff]) rfl rfl rfl rfl rfl rfl (fun _ _ => by repeat (first | exact Sw.here | apply Sw.there)) (at_slc_all (by repeat first | exact mH | apply mT)) rfl (by simp [Value.oneCell']) (by unfold maxLen; omega) (by omega) rfl rfl (by repeat (first | exact HmOk.nil | apply HmOk.dep (by decide +kernel) | apply HmOk.im (by decide +kernel) (by assumption) (by repeat first | exact mH | apply mT) | apply HmOk.blk (by decide +kernel) (by repeat (first | exact Pk.here | apply Pk.there)) (by repeat first | exact mH | apply mT))) (fun p5 c5 => ?_); refine any_freeze (cs := e0.flatten ++ [.int .i64 (kS v1.k), .int .i64 v1.num, .slice q1 v1.env.length dd1, .slice q1' v1.parts.length dd1']) (by repeat (first | exact Pk.here | apply Pk.there)) (fun Gg hleG hslG hnoG => ?_); have hslE := SlE.of (es := e0 ++ [[.int .i64 (kS v1.k), .int .i64 v1.num, .slice q1 v1.env.length dd1, .slice q1' v1.parts.length dd1']]) (by simpa using hslG) (by simp [hse0.len]) (all_snoc hse0.all rfl) (all_snoc hse0.one rfl); have hrE := (hre0.mono hleG).snoc (hv1.mono hleG))
 refine any_pure (i := 9) (listed' := [tt,tt,tt,tt,tt,tt,tt,tt,tt,tt,ff]) rfl npI (pure_fieldAddr0 rfl) rfl (by kernel_rfl) rfl rfl ?_
 refine any_one (j := 10) (by kernel_rfl) ?_
 refine one_store (listed' := [tt,tt,tt,tt,tt,tt,tt,tt,tt,tt,tt]) rfl rfl rfl rfl rfl rfl rfl rfl (by decide +kernel) (by repeat first | exact Sw.here | apply Sw.there) (by rfl) ?_
 refine any_done (by kernel_rfl) ?_
 refine nrm_seq (tri_seq (tri_region (seq_pure (pure_fieldAddr0 rfl) rfl rfl ?_)))
 refine seq_load (load_bs rfl rfl (by repeat first | exact mH | apply mT) (by rfl)) rfl rfl ?_
 refine seq_pure (pure_fieldAddr0 rfl) rfl rfl ?_
 refine seq_store rfl rfl rfl rfl rfl rfl (by repeat first | exact Sw.here | apply Sw.there) (by rfl) ?_
 refine seq_done (nrm_seq (tri_seq (tri_region (seq_load (load_ba rfl rfl (by repeat first | exact mH | apply mT) (by rfl)) rfl rfl ?_))))
 refine seq_store rfl rfl rfl rfl rfl rfl (by repeat first | exact Sw.here | apply Sw.there) (by rfl) ?_
 refine seq_pure (pure_assign rfl) rfl rfl ?_
 refine seq_pure (pure_assign rfl) rfl rfl ?_
 refine seq_done (nrm_seq (tri_ret (ret_block (ret_seq (ret_fin3 (res_cell rfl (load_ba rfl rfl (by repeat first | exact mH | apply mT) (by rfl))) (res_tmp rfl) (res_tmp rfl) ?_)))))
 (obtain rfl : k = 6 := (by omega); exact StepS.go (by rw [mTake6 hd, if_pos (kS4.1 (by omega))]) (RSs.mk ⟨by omega, by omega⟩ (by simp) rfl (by simp) hslE hrE (hss1.mono hleG) (hrs1.mono hleG) (hslN.mono hleG) (hrN.mono hleG)))
 refine seq_pure (pure_assign rfl) rfl rfl ?_
 refine seq_done (nrm_seq (tri_cond_f rfl ?_))
 refine tri_seq (tri_seq (tri_region (seq_bool (pure_eql rfl rfl) rfl rfl (fun h446 => ?_) (fun h446 => ?_))))
 refine seq_pure (pure_assign rfl) rfl rfl ?_
 refine seq_done (nrm_seq (tri_cond_t rfl ?_))
 refine tri_skip (nrm_seq (tri_cond_t rfl ?_))
 refine tri_seq (tri_seq (tri_region (seq_pure (pure_fieldAddr0 rfl) rfl rfl ?_)))
 refine seq_load (load_bs rfl rfl (by repeat first | exact mH | apply mT) (by rfl)) rfl rfl ?_
 refine seq_bool (pure_neq rfl rfl) rfl rfl (fun h459 => ?_) (fun h459 => ?_)
 refine seq_pure (pure_move rfl) rfl rfl ?_
 refine seq_skip rfl rfl ?_
 refine seq_skip rfl rfl ?_
 refine seq_skip rfl rfl ?_
 refine seq_skip rfl rfl ?_
 refine seq_skip rfl rfl ?_
 refine seq_pure (pure_pick_t rfl rfl) rfl rfl ?_
 refine seq_done (nrm_seq (tri_cond_t rfl ?_))
 refine tri_seq (tri_region (seq_load (load_ba rfl rfl (by repeat first | exact mH | apply mT) (by rfl)) rfl rfl ?_))
 refine seq_store rfl rfl rfl rfl rfl rfl (by repeat first | exact Sw.here | apply Sw.there) (by rfl) ?_
 refine seq_pure (pure_assign rfl) rfl rfl ?_
 refine seq_pure (pure_assign rfl) rfl rfl ?_
 refine seq_done (nrm_seq (tri_ret (ret_seq (ret_block (ret_seq (ret_fin3 (res_cell rfl (load_ba rfl rfl (by repeat first | exact mH | apply mT) (by rfl))) (res_tmp rfl) (res_tmp rfl) ?_))))))
 (obtain rfl : k = 7 := (by omega); exact StepS.no (by rw [mTake7 hd, if_neg (fun hc => by first | exact absurd (kS1.2 hc.1) (by omega) | exact absurd (kS1.2 hc.2) (by omega))]) rfl rfl)
 refine seq_pure (pure_move rfl) rfl rfl ?_
 refine seq_pure (pure_move rfl) rfl rfl ?_
 refine seq_pure (pure_indexAddrN (j := 1) rfl rfl rfl (by simp)) rfl rfl ?_
 refine seq_pure (pure_fieldAddr rfl) rfl rfl ?_
 refine seq_load (load_s rfl rfl ((hv1at _).sub (j := 0) rfl)) rfl rfl ?_
 refine seq_bool (pure_neq rfl rfl) rfl rfl (fun h489 => ?_) (fun h489 => ?_)
 refine seq_pure (pure_pick_f rfl rfl) rfl rfl ?_
 refine seq_done (nrm_seq (tri_cond_t rfl ?_))
 refine tri_seq (tri_region (seq_load (load_ba rfl rfl (by repeat first | exact mH | apply mT) (by rfl)) rfl rfl ?_))
 refine seq_store rfl rfl rfl rfl rfl rfl (by repeat first | exact Sw.here | apply Sw.there) (by rfl) ?_
 refine seq_pure (pure_assign rfl) rfl rfl ?_
 refine seq_pure (pure_assign rfl) rfl rfl ?_
 refine seq_done (nrm_seq (tri_ret (ret_seq (ret_block (ret_seq (ret_fin3 (res_cell rfl (load_ba rfl rfl (by repeat first | exact mH | apply mT) (by rfl))) (res_tmp rfl) (res_tmp rfl) ?_))))))
 (obtain rfl : k = 7 := (by omega); exact StepS.no (by rw [mTake7 hd, if_neg (fun hc => by first | exact absurd (kS1.2 hc.1) (by omega) | exact absurd (kS1.2 hc.2) (by omega))]) rfl rfl)
 refine seq_pure (pure_pick_f rfl rfl) rfl rfl ?_
 refine seq_done (nrm_seq (tri_cond_f rfl ?_))
 refine tri_skip (nrm_seq (tri_seq (tri_seq (tri_region (seq_pure (pure_fieldAddr0 rfl) rfl rfl ?_)))))
 refine seq_load (load_bs rfl rfl (by repeat first | exact mH | apply mT) (by rfl)) rfl rfl ?_
 refine seq_pure (pure_eql_t rfl rfl (by omega)) rfl rfl ?_
 refine seq_done (nrm_seq (tri_cond_t rfl ?_))
 refine tri_seq (tri_draw mixed rfl ?_)
 refine any_load (i := 0) (listed' := [tt,ff,ff,ff,ff,ff,ff,ff,ff,ff,ff,ff,ff,ff]) rfl npI (load_ba rfl rfl (by repeat first | exact mH | apply mT) (by rfl)) rfl (by kernel_rfl) rfl rfl ?_
 refine any_pure (i := 1) (listed' := [tt,tt,ff,ff,ff,ff,ff,ff,ff,ff,ff,ff,ff,ff]) rfl npI (pure_fieldAddr0 rfl) rfl (by kernel_rfl) rfl rfl ?_
 refine any_load (i := 2) (listed' := [tt,tt,tt,ff,ff,ff,ff,ff,ff,ff,ff,ff,ff,ff]) rfl npI (load_bs rfl rfl (by repeat first | exact mH | apply mT) (by rfl)) rfl (by kernel_rfl) rfl rfl ?_
 refine any_pure (i := 3) (listed' := [tt,tt,tt,tt,ff,ff,ff,ff,ff,ff,ff,ff,ff,ff]) rfl npI (pure_move rfl) rfl (by kernel_rfl) rfl rfl ?_
 refine any_pure (i := 4) (listed' := [tt,tt,tt,tt,tt,ff,ff,ff,ff,ff,ff,ff,ff,ff]) rfl npI (pure_indexAddrN (j := 1) rfl rfl rfl (by simp)) rfl (by kernel_rfl) rfl rfl ?_
 refine any_pure (i := 5) (listed' := [tt,tt,tt,tt,tt,tt,ff,ff,ff,ff,ff,ff,ff,ff]) rfl npI (pure_fieldAddr rfl) rfl (by kernel_rfl) rfl rfl ?_
 refine any_load (i := 6) (listed' := [tt,tt,tt,tt,tt,tt,tt,ff,ff,ff,ff,ff,ff,ff]) rfl npI (load_s rfl rfl ((hv1at _).sub (j := 1) rfl)) rfl (by kernel_rfl) rfl rfl ?_
 refine any_pure (i := 7) (listed' := [tt,tt,tt,tt,tt,tt,tt,tt,ff,ff,ff,ff,ff,ff]) rfl npI (pure_add rfl rfl (by omega) (by omega)) rfl (by kernel_rfl) rfl rfl ?_
 refine any_pure (i := 8) (listed' := [tt,tt,tt,tt,tt,tt,tt,tt,tt,ff,ff,ff,ff,ff]) rfl npI (pure_rem rfl rfl (by omega)) rfl (by kernel_rfl) rfl rfl ?_
 refine any_pure (i := 9) (listed' := [tt,tt,tt,tt,tt,tt,tt,tt,tt,tt,ff,ff,ff,ff]) rfl npI (pure_build rfl rfl) rfl (by kernel_rfl) rfl rfl ?_
 refine any_one (j := 10) (by kernel_rfl) ?_
 (obtain rfl : k = 7 := (by omega); have hPu := l14Push_fn ⟨s.at', s.st.take (s.st.length - 2), s.env, s.fr⟩ (.mk 0 ((v0.num + v1.num).tmod 1000) [] []) G1 _ _ hs1 (RMv.leaf (k := 0) (by have := tmod_1000 ⟨c3, c4⟩ ⟨d3, d4⟩; unfold I64; omega) (kS_i64 _)) (by dsimp only; omega) (by dsimp only; omega); refine one_imm (listed' := [tt,tt,tt,tt,tt,tt,tt,tt,tt,tt,tt,ff,ff,ff]) rfl rfl hPu rfl rfl rfl (fun v G2 hle2 hh => ?_); obtain ⟨c2s, rfl, hs2⟩ := hh; obtain ⟨pe2, ce2, ps2, cs2, pf2, cf2, ee2, es2, ef2, rfl, _⟩ := hs2.opn)
 refine any_one (j := 11) (by kernel_rfl) ?_
 refine one_storeM (listed' := [tt,tt,tt,tt,tt,tt,tt,tt,tt,tt,tt,tt,ff,ff]) rfl rfl rfl rfl rfl rfl rfl rfl (by repeat first | exact Sw.here | apply Sw.there) (by rfl) (by repeat (first | exact HmOk.nil | apply HmOk.dep (by decide +kernel) | apply HmOk.im (by decide +kernel) (by assumption) (by repeat first | exact mH | apply mT) | apply HmOk.blk (by decide +kernel) (by repeat (first | exact Pk.here | apply Pk.there)) (by repeat first | exact mH | apply mT))) ?_
 refine any_pure (i := 12) (listed' := [tt,tt,tt,tt,tt,tt,tt,tt,tt,tt,tt,tt,tt,ff]) rfl npI (pure_assign rfl) rfl (by kernel_rfl) rfl rfl ?_
 refine any_pure (i := 13) (listed' := [tt,tt,tt,tt,tt,tt,tt,tt,tt,tt,tt,tt,tt,tt]) rfl npI (pure_assign rfl) rfl (by kernel_rfl) rfl rfl ?_
 refine any_done (by kernel_rfl) ?_
 refine nrm_seq (tri_ret (ret_seq (ret_block (ret_seq (ret_fin3 (res_cell rfl (load_ba rfl rfl (by repeat first | exact mH | apply mT) (by rfl))) (res_tmp rfl) (res_tmp rfl) ?_)))))
 (exact StepS.go (by rw [mTake7 hd, if_pos ⟨kS1.1 (by omega), kS1.1 (by omega)⟩, ← tmod_1000 ⟨c3, c4⟩ ⟨d3, d4⟩]) hs2)
 refine seq_pure (pure_assign rfl) rfl rfl ?_
 refine seq_done (nrm_seq (tri_cond_f rfl ?_))
 refine tri_region (seq_bool (pure_eql rfl rfl) rfl rfl (fun h554 => ?_) (fun h554 => ?_))
 refine seq_pure (pure_assign rfl) rfl rfl ?_
 refine seq_done (nrm_seq (tri_cond_t rfl ?_))
 refine tri_seq (tri_seq (tri_region (seq_pure (pure_fieldAddr0 rfl) rfl rfl ?_)))
 refine seq_load (load_bs rfl rfl (by repeat first | exact mH | apply mT) (by rfl)) rfl rfl ?_
 refine seq_bool (pure_neq rfl rfl) rfl rfl (fun h564 => ?_) (fun h564 => ?_)
 refine seq_pure (pure_move rfl) rfl rfl ?_
 refine seq_skip rfl rfl ?_
 refine seq_skip rfl rfl ?_
 refine seq_skip rfl rfl ?_
 refine seq_skip rfl rfl ?_
 refine seq_skip rfl rfl ?_
 refine seq_pure (pure_pick_t rfl rfl) rfl rfl ?_
 refine seq_done (nrm_seq (tri_cond_t rfl ?_))
 refine tri_seq (tri_region (seq_load (load_ba rfl rfl (by repeat first | exact mH | apply mT) (by rfl)) rfl rfl ?_))
 refine seq_store rfl rfl rfl rfl rfl rfl (by repeat first | exact Sw.here | apply Sw.there) (by rfl) ?_
 refine seq_pure (pure_assign rfl) rfl rfl ?_
 refine seq_pure (pure_assign rfl) rfl rfl ?_
 refine seq_done (nrm_seq (tri_ret (ret_seq (ret_block (ret_seq (ret_fin3 (res_cell rfl (load_ba rfl rfl (by repeat first | exact mH | apply mT) (by rfl))) (res_tmp rfl) (res_tmp rfl) ?_))))))
 (obtain rfl : k = 8 := (by omega); exact StepS.no (by rw [mTake8 hd, if_neg (fun hc => by first | exact absurd (kS1.2 hc.1) (by omega) | exact absurd (kS1.2 hc.2) (by omega))]) rfl rfl)
 refine seq_pure (pure_move rfl) rfl rfl ?_
 refine seq_pure (pure_move rfl) rfl rfl ?_
 refine seq_pure (pure_indexAddrN (j := 1) rfl rfl rfl (by simp)) rfl rfl ?_
 refine seq_pure (pure_fieldAddr rfl) rfl rfl ?_
 refine seq_load (load_s rfl rfl ((hv1at _).sub (j := 0) rfl)) rfl rfl ?_
 refine seq_bool (pure_neq rfl rfl) rfl rfl (fun h594 => ?_) (fun h594 => ?_)
 refine seq_pure (pure_pick_f rfl rfl) rfl rfl ?_
 refine seq_done (nrm_seq (tri_cond_t rfl ?_))
 refine tri_seq (tri_region (seq_load (load_ba rfl rfl (by repeat first | exact mH | apply mT) (by rfl)) rfl rfl ?_))
 refine seq_store rfl rfl rfl rfl rfl rfl (by repeat first | exact Sw.here | apply Sw.there) (by rfl) ?_
 refine seq_pure (pure_assign rfl) rfl rfl ?_
 refine seq_pure (pure_assign rfl) rfl rfl ?_
 refine seq_done (nrm_seq (tri_ret (ret_seq (ret_block (ret_seq (ret_fin3 (res_cell rfl (load_ba rfl rfl (by repeat first | exact mH | apply mT) (by rfl))) (res_tmp rfl) (res_tmp rfl) ?_))))))
 (obtain rfl : k = 8 := (by omega); exact StepS.no (by rw [mTake8 hd, if_neg (fun hc => by first | exact absurd (kS1.2 hc.1) (by omega) | exact absurd (kS1.2 hc.2) (by omega))]) rfl rfl)
 refine seq_pure (pure_pick_f rfl rfl) rfl rfl ?_
 refine seq_done (nrm_seq (tri_cond_f rfl ?_))
 refine tri_skip (nrm_seq (tri_seq (tri_seq (tri_region (seq_pure (pure_fieldAddr0 rfl) rfl rfl ?_)))))
 refine seq_load (load_bs rfl rfl (by repeat first | exact mH | apply mT) (by rfl)) rfl rfl ?_
 refine seq_pure (pure_eql_f rfl rfl (by omega)) rfl rfl ?_
 refine seq_done (nrm_seq (tri_cond_f rfl ?_))
 refine tri_skip (nrm_seq (tri_seq (tri_region (seq_pure (pure_build rfl rfl) rfl rfl ?_))))
 (refine seq_step (step_alloc rfl) rfl ?_; rintro _ ⟨b633, rfl⟩)
 refine seq_store rfl rfl rfl rfl rfl rfl (by repeat first | exact Sw.here | apply Sw.there) (by rfl) ?_
 refine seq_done (nrm_seq (tri_seq (tri_seq (tri_draw mixed rfl ?_))))
 refine any_pure (i := 0) (listed' := [tt,ff,ff,ff,ff,ff,ff]) rfl npI (pure_fieldAddr0 rfl) rfl (by kernel_rfl) rfl rfl ?_
 refine any_load (i := 1) (listed' := [tt,tt,ff,ff,ff,ff,ff]) rfl npI (load_bs rfl rfl (by repeat first | exact mH | apply mT) (by rfl)) rfl (by kernel_rfl) rfl rfl ?_
 refine any_pure (i := 2) (listed' := [tt,tt,tt,ff,ff,ff,ff]) rfl npI (pure_move rfl) rfl (by kernel_rfl) rfl rfl ?_
 refine any_pure (i := 3) (listed' := [tt,tt,tt,tt,ff,ff,ff]) rfl npI (pure_indexAddrN (j := 1) rfl rfl rfl (by simp)) rfl (by kernel_rfl) rfl rfl ?_
 refine any_pure (i := 4) (listed' := [tt,tt,tt,tt,tt,ff,ff]) rfl npI (pure_fieldAddr rfl) rfl (by kernel_rfl) rfl rfl ?_
 refine any_load (i := 5) (listed' := [tt,tt,tt,tt,tt,tt,ff]) rfl npI (load_s rfl rfl ((hv1at _).sub (j := 1) rfl)) rfl (by kernel_rfl) rfl rfl ?_
 refine any_bool (i := 6) (listed' := [tt,tt,tt,tt,tt,tt,tt]) rfl npI (pure_lss rfl rfl) rfl (by kernel_rfl) rfl rfl (fun h646 => ?_) (fun h646 => ?_)
 refine any_done (by kernel_rfl) ?_
 refine nrm_seq (tri_cond_t rfl ?_)
 refine tri_region (seq_pure (pure_fieldAddr0 rfl) rfl rfl ?_)
 refine seq_store rfl rfl rfl rfl rfl rfl (by repeat first | exact Sw.here | apply Sw.there) (by rfl) ?_
 refine seq_done (nrm_seq (tri_seq (tri_region (seq_load (load_ba rfl rfl (by repeat first | exact mH | apply mT) (by rfl)) rfl rfl ?_))))
 refine seq_load (load_ba rfl rfl (by repeat first | exact mH | apply mT) (by rfl)) rfl rfl ?_
 (obtain rfl : k = 8 := (by omega); have hlt : v0.num < v1.num := (by omega); have hPu := l14Push_fn ⟨s.at', s.st.take (s.st.length - 2), s.env, s.fr⟩ (.mk 1 1 [] []) G1 _ _ hs1 (RMv.leaf (k := 1) ⟨by omega, by omega⟩ (kS_i64 _)) (by dsimp only; omega) (by dsimp only; omega); refine seq_imm rfl hPu rfl rfl (fun v G2 hle2 hh => ?_); obtain ⟨c2s, rfl, hs2⟩ := hh; obtain ⟨pe2, ce2, ps2, cs2, pf2, cf2, ee2, es2, ef2, rfl, _⟩ := hs2.opn)
 refine seq_store rfl rfl rfl rfl rfl rfl (by repeat first | exact Sw.here | apply Sw.there) (by rfl) ?_
 refine seq_pure (pure_assign rfl) rfl rfl ?_
 refine seq_pure (pure_assign rfl) rfl rfl ?_
 refine seq_done (nrm_seq (tri_ret (ret_block (ret_seq (ret_fin3 (res_cell rfl (load_ba rfl rfl (by repeat first | exact mH | apply mT) (by rfl))) (res_tmp rfl) (res_tmp rfl) ?_)))))
 (exact StepS.go (by rw [mTake8 hd, if_pos ⟨kS1.1 (by omega), kS1.1 (by omega)⟩]; first | rw [if_pos hlt] | rw [if_neg hlt]) hs2)
 refine any_done (by kernel_rfl) ?_
 refine nrm_seq (tri_cond_f rfl ?_)
 refine tri_skip (nrm_seq (tri_seq (tri_region (seq_load (load_ba rfl rfl (by repeat first | exact mH | apply mT) (by rfl)) rfl rfl ?_))))
 refine seq_load (load_ba rfl rfl (by repeat first | exact mH | apply mT) (by rfl)) rfl rfl ?_
 (obtain rfl : k = 8 := (by omega); have hlt : ¬v0.num < v1.num := (by omega); have hPu := l14Push_fn ⟨s.at', s.st.take (s.st.length - 2), s.env, s.fr⟩ (.mk 1 0 [] []) G1 _ _ hs1 (RMv.leaf (k := 1) ⟨by omega, by omega⟩ (kS_i64 _)) (by dsimp only; omega) (by dsimp only; omega); refine seq_imm rfl hPu rfl rfl (fun v G2 hle2 hh => ?_); obtain ⟨c2s, rfl, hs2⟩ := hh; obtain ⟨pe2, ce2, ps2, cs2, pf2, cf2, ee2, es2, ef2, rfl, _⟩ := hs2.opn)
 refine seq_store rfl rfl rfl rfl rfl rfl (by repeat first | exact Sw.here | apply Sw.there) (by rfl) ?_
 refine seq_pure (pure_assign rfl) rfl rfl ?_
 refine seq_pure (pure_assign rfl) rfl rfl ?_
 refine seq_done (nrm_seq (tri_ret (ret_block (ret_seq (ret_fin3 (res_cell rfl (load_ba rfl rfl (by repeat first | exact mH | apply mT) (by rfl))) (res_tmp rfl) (res_tmp rfl) ?_)))))
 (exact StepS.go (by rw [mTake8 hd, if_pos ⟨kS1.1 (by omega), kS1.1 (by omega)⟩]; first | rw [if_pos hlt] | rw [if_neg hlt]) hs2)
 refine seq_pure (pure_assign rfl) rfl rfl ?_
 refine seq_done (nrm_seq (tri_cond_f rfl ?_))
 refine tri_seq (tri_region (seq_pure (pure_eql_t rfl rfl (by omega)) rfl rfl ?_))
 refine seq_pure (pure_assign rfl) rfl rfl ?_
 refine seq_done (nrm_seq (tri_cond_t rfl ?_))
 refine tri_seq (tri_region (seq_load (load_ba rfl rfl (by repeat first | exact mH | apply mT) (by rfl)) rfl rfl ?_))
 refine seq_pure (pure_move rfl) rfl rfl ?_
 refine seq_pure (pure_build rfl rfl) rfl rfl ?_
 (obtain rfl : k = 11 := (by omega); have hPu := l14Push_fn ⟨s.at', s.st.take (s.st.length - 2), s.env, s.fr⟩ (.mk 3 0 [] [v0, v1]) G1 _ _ hs1 (RMv.mk (k := 3) ⟨by omega, by omega⟩ (kS_i64 _) rfl rfl (SlE.nil G1 4) rfl hslL hrL) (by dsimp only; omega) (by dsimp only; omega); refine seq_imm rfl hPu rfl rfl (fun v G2 hle2 hh => ?_); obtain ⟨c2s, rfl, hs2⟩ := hh; obtain ⟨pe2, ce2, ps2, cs2, pf2, cf2, ee2, es2, ef2, rfl, _⟩ := hs2.opn)
 refine seq_store rfl rfl rfl rfl rfl rfl (by repeat first | exact Sw.here | apply Sw.there) (by rfl) ?_
 refine seq_pure (pure_assign rfl) rfl rfl ?_
 refine seq_pure (pure_assign rfl) rfl rfl ?_
 refine seq_done (nrm_seq (tri_ret (ret_block (ret_seq (ret_fin3 (res_cell rfl (load_ba rfl rfl (by repeat first | exact mH | apply mT) (by rfl))) (res_tmp rfl) (res_tmp rfl) ?_)))))
 (exact StepS.go (by rw [mTake11 hd]) hs2)
end Gw
end Go.Proofs.YtaoaeilognhfpaaDoor
