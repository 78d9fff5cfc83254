/-
  The single operations: what each does to a state.
-/
import Derived.Test.YtlefgfdhlblahaaOps
import Derived.BigCall
namespace Go.Proofs.Ytlefgfdhlblahaa
open Go Go.RowKit
namespace Gw

structure TyR where
  size : Nat
  bytes : Nat
  zs : List Value
  desc : TypeDesc

class TyI (P : Program) (t : TypeId) (i : outParam TyR) : Prop where
  info : ∃ inf, P.info? t = some inf ∧ inf.size = i.size ∧ inf.bytes = i.bytes ∧ ∃ z, inf.zero = some z ∧ z.cells = ⟨i.zs⟩
  und : P.underlying t = some i.desc

/-- The same, part by part. -/
class TySz (P : Program) (t : TypeId) (sz : outParam Nat) (bytes : outParam Nat) (zs : outParam (List Value)) : Prop where
  ok : ∃ d, TyI P t ⟨sz, bytes, zs, d⟩
  len : zs.length = sz

def aggD : TypeDesc → Bool
  | .struct _ | .array _ _ => true
  | _ => false

theorem run_isAgg {P : Program} {t : TypeId} {d : TypeDesc} (h : P.underlying t = some d) (w : World) : (isAgg t).run P w = .ok (aggD d) w := by
  simp only [isAgg, Sem.run_bind, run_underlying h, Result.andThen_ok]
  cases d <;> rfl

/-- Field f of the struct type s lies at off. -/
class FldI (P : Program) (s : TypeId) (f : Nat) (off : outParam Nat) (sz : outParam Nat) (agg : outParam Bool) : Prop where
  ok : ∃ fs fl d inf, P.underlying s = some (.struct fs) ∧ fs[f]? = some fl ∧ fl.offset = off ∧ P.info? fl.type = some inf ∧ inf.size = sz ∧ sz ≠ 0 ∧ P.underlying fl.type = some d ∧ aggD d = agg

class FunI (P : Program) (f : FuncId) : Prop where
  ok : ∃ fn, P.funcs[f]? = some fn ∧ fn.body.isNone = false ∧ (fn.name == "runtime.NumGoroutine") = false

def subl : List Value → Nat → Nat → Option (List Value)
  | _, 0, 0 => some []
  | [], _, _ => none
  | _ :: r, off + 1, n => subl r off n
  | v :: r, 0, n + 1 => match subl r 0 n with
    | some l => some (v :: l)
    | none => none

theorem subl_spec : ∀ {cs : List Value} {off n : Nat} {vs : List Value}, subl cs off n = some vs → vs.length = n ∧ ∀ j v, vs[j]? = some v → cs[off + j]? = some v
  | cs, 0, 0, vs, h => by cases cs <;> (simp [subl] at h; subst h; simp)
  | [], 0, n + 1, vs, h => by simp [subl] at h
  | [], off + 1, n, vs, h => by cases n <;> simp [subl] at h
  | c :: r, off + 1, n, vs, h => by
    have h' : subl r off n = some vs := by cases n <;> simpa [subl] using h
    obtain ⟨h1, h2⟩ := subl_spec h'
    exact ⟨h1, fun j v hv => by have := h2 j v hv; rw [show off + 1 + j = (off + j) + 1 by omega]; simpa using this⟩
  | c :: r, 0, n + 1, vs, h => by
    simp only [subl] at h
    split at h
    · rename_i l hl
      simp at h; subst h
      obtain ⟨h1, h2⟩ := subl_spec hl
      refine ⟨by simp [h1], fun j v hv => ?_⟩
      cases j with
      | zero => simpa using hv
      | succ j => have := h2 j v (by simpa using hv); simpa using this
    · cases h

section laws
variable {P : Program} {Γ : Ctx} {env : Env} {hp : List Ent} {G : IM} {ty : TypeId}

theorem pure_move {x : Operand} {v : Value} (h : evo env x = some v) : PureOp P Γ ⟨env, hp, G⟩ (.move x) ty v :=
  by refine ⟨?_⟩; exact fun a _ hs _ _ _ _ w => by simp [execOp, (hs.evo h : a.eval x = v)]
theorem pure_assign {x : Operand} {v : Value} (h : evo env x = some v) : PureOp P Γ ⟨env, hp, G⟩ (.assign x) ty v :=
  by refine ⟨?_⟩; exact fun a _ hs _ _ _ _ w => by simp [execOp, (hs.evo h : a.eval x = v)]
theorem pure_pick_t {c x y : Operand} {v : Value} (hc : evo env c = some (.bool true)) (h : evo env x = some v) : PureOp P Γ ⟨env, hp, G⟩ (.pick c x y) ty v :=
  by refine ⟨?_⟩; exact fun a _ hs _ _ _ _ w => by simp [execOp, asBool, (hs.evo hc : a.eval c = _), (hs.evo h : a.eval x = v)]
theorem pure_pick_f {c x y : Operand} {v : Value} (hc : evo env c = some (.bool false)) (h : evo env y = some v) : PureOp P Γ ⟨env, hp, G⟩ (.pick c x y) ty v :=
  by refine ⟨?_⟩; exact fun a _ hs _ _ _ _ w => by simp [execOp, asBool, (hs.evo hc : a.eval c = _), (hs.evo h : a.eval y = v)]
theorem pure_not {x : Operand} {t : TypeId} {b : Bool} (h : evo env x = some (.bool b)) : PureOp P Γ ⟨env, hp, G⟩ (.unOp .not t x) ty (.bool !b) :=
  by refine ⟨?_⟩; exact fun a _ hs _ _ _ _ w => by simp [execOp, Op.unary, (hs.evo h : a.eval x = _)]
theorem pure_not_t {x : Operand} {t : TypeId} (h : evo env x = some (.bool true)) : PureOp P Γ ⟨env, hp, G⟩ (.unOp .not t x) ty (.bool false) := pure_not h
theorem pure_not_f {x : Operand} {t : TypeId} (h : evo env x = some (.bool false)) : PureOp P Γ ⟨env, hp, G⟩ (.unOp .not t x) ty (.bool true) := pure_not h
theorem pure_extract {x : Operand} {vs : List Value} {i : Nat} {v : Value} (h : evo env x = some (.tuple ⟨vs⟩)) (hv : vs[i]? = some v) : PureOp P Γ ⟨env, hp, G⟩ (.extract x i) ty v :=
  by refine ⟨?_⟩; exact fun a _ hs _ _ _ _ w => by simp [execOp, Instr.extract, (hs.evo h : a.eval x = _), hv]
theorem pure_nilCheck {x : Operand} {p : Addr} (h : evo env x = some (.pointer (some p))) : PureOp P Γ ⟨env, hp, G⟩ (.nilCheck x) ty (.pointer (some p)) :=
  by refine ⟨?_⟩; exact fun a _ hs _ _ _ _ w => by simp [execOp, (hs.evo h : a.eval x = _)]

theorem add_none (b o n : Nat) : (⟨b, o, none⟩ : Addr).add n = ⟨b, o + n, none⟩ := by
  unfold Addr.add; split
  · rename_i h; subst h; rfl
  · rfl

theorem pure_fieldAddr {x : Operand} {s : TypeId} {f b o off sz : Nat} {ag : Bool} [hI : FldI P s f off sz ag] (h : evo env x = some (.pointer (some ⟨b, o, none⟩))) :
    PureOp P Γ ⟨env, hp, G⟩ (.fieldAddr s x f) ty (.pointer (some ⟨b, o + off, none⟩)) := by
  refine ⟨fun a _ hs _ _ _ _ w => ?_⟩
  obtain ⟨fs, fl, d, inf, h1, h2, h3, h4, h5, h6, _⟩ := hI.ok
  have hx : a.eval x = _ := hs.evo h
  subst h3 h5
  simp [execOp, Instr.fieldAt, hx, run_underlying h1, h2, Instr.sureAddr, fieldPlace, sizeOf, typeInfo, h4, h6, add_none]
theorem pure_fieldAddr0 {x : Operand} {s : TypeId} {f b off sz : Nat} {ag : Bool} [hI : FldI P s f off sz ag] (h : evo env x = some (.pointer (some ⟨b, 0, none⟩))) :
    PureOp P Γ ⟨env, hp, G⟩ (.fieldAddr s x f) ty (.pointer (some ⟨b, off, none⟩)) := by
  have := pure_fieldAddr (P := P) (Γ := Γ) (hp := hp) (G := G) (ty := ty) (s := s) (f := f) h
  simpa using this

theorem pure_field_s {x : Operand} {s : TypeId} {f off sz : Nat} [hI : FldI P s f off sz false] {vs : List Value} {v : Value} (h : evo env x = some (.agg ⟨vs⟩)) (hv : vs[off]? = some v) :
    PureOp P Γ ⟨env, hp, G⟩ (.field s x f) ty v := by
  refine ⟨fun a _ hs _ _ _ _ w => ?_⟩
  obtain ⟨fs, fl, d, inf, h1, h2, h3, h4, h5, h6, h7, h8⟩ := hI.ok
  have hx : a.eval x = _ := hs.evo h
  subst h3
  simp [execOp, Instr.field, hx, run_underlying h1, h2, asAgg, part, run_isAgg h7, h8, hv]
theorem pure_field_a {x : Operand} {s : TypeId} {f off sz : Nat} [hI : FldI P s f off sz true] {vs us : List Value} (h : evo env x = some (.agg ⟨vs⟩)) (hv : subl vs off sz = some us) :
    PureOp P Γ ⟨env, hp, G⟩ (.field s x f) ty (.agg ⟨us⟩) := by
  refine ⟨fun a _ hs _ _ _ _ w => ?_⟩
  obtain ⟨fs, fl, d, inf, h1, h2, h3, h4, h5, h6, h7, h8⟩ := hI.ok
  have hx : a.eval x = _ := hs.evo h
  subst h3
  obtain ⟨g1, g2⟩ := subl_spec hv
  have hex : (⟨vs⟩ : Array Value).extract fl.offset (fl.offset + sz) = ⟨us⟩ := by
    apply Array.ext'
    rw [Array.toList_extract]
    apply List.ext_getElem?
    intro j
    simp only [List.extract_eq_take_drop, List.getElem?_take, List.getElem?_drop]
    by_cases hj : j < sz
    · have : j < us.length := by omega
      have e := g2 j us[j] (by simp [this])
      rw [if_pos (by omega), e]
      simp [this]
    · rw [if_neg (by omega)]
      exact (List.getElem?_eq_none (by omega)).symm
  have hex' : List.take sz (List.drop fl.offset vs) = us := by have := congrArg Array.toList hex; simpa using this
  simp [execOp, Instr.field, hx, run_underlying h1, h2, asAgg, part, run_isAgg h7, h8, sizeOf, typeInfo, h4, h5, hex']

/- Numbers. -/
theorem wrap_in {k : IntKind} (n : Int) (hk : k = .i64) (h1 : -9223372036854775808 ≤ n) (h2 : n ≤ 9223372036854775807) : k.wrap n = n := by
  subst hk; exact IntWalk.i64_in n (by omega)

theorem pure_add {x y : Operand} {t t' : TypeId} {m n : Int} (hx : evo env x = some (.int .i64 m)) (hy : evo env y = some (.int .i64 n))
    (h1 : -9223372036854775808 ≤ m + n) (h2 : m + n ≤ 9223372036854775807) : PureOp P Γ ⟨env, hp, G⟩ (.binOp .add t x y t') ty (.int .i64 (m + n)) :=
  by refine ⟨?_⟩; exact fun a _ hs _ _ _ _ w => by simp [execOp, eqGuard, binOp, Op.intArith, (hs.evo hx : a.eval x = _), (hs.evo hy : a.eval y = _), wrap_in _ rfl h1 h2]
theorem pure_sub {x y : Operand} {t t' : TypeId} {m n : Int} (hx : evo env x = some (.int .i64 m)) (hy : evo env y = some (.int .i64 n))
    (h1 : -9223372036854775808 ≤ m - n) (h2 : m - n ≤ 9223372036854775807) : PureOp P Γ ⟨env, hp, G⟩ (.binOp .sub t x y t') ty (.int .i64 (m - n)) :=
  by refine ⟨?_⟩; exact fun a _ hs _ _ _ _ w => by simp [execOp, eqGuard, binOp, Op.intArith, (hs.evo hx : a.eval x = _), (hs.evo hy : a.eval y = _), wrap_in _ rfl h1 h2]
theorem pure_mul {x y : Operand} {t t' : TypeId} {m n : Int} (hx : evo env x = some (.int .i64 m)) (hy : evo env y = some (.int .i64 n))
    (h1 : -9223372036854775808 ≤ m * n) (h2 : m * n ≤ 9223372036854775807) : PureOp P Γ ⟨env, hp, G⟩ (.binOp .mul t x y t') ty (.int .i64 (m * n)) :=
  by refine ⟨?_⟩; exact fun a _ hs _ _ _ _ w => by simp [execOp, eqGuard, binOp, Op.intArith, (hs.evo hx : a.eval x = _), (hs.evo hy : a.eval y = _), wrap_in _ rfl h1 h2]
theorem pure_neg {x : Operand} {t : TypeId} {n : Int} (hx : evo env x = some (.int .i64 n))
    (h1 : -9223372036854775808 ≤ -n) (h2 : -n ≤ 9223372036854775807) : PureOp P Γ ⟨env, hp, G⟩ (.unOp .neg t x) ty (.int .i64 (-n)) :=
  by refine ⟨?_⟩; exact fun a _ hs _ _ _ _ w => by simp [execOp, Op.unary, Op.intArith, (hs.evo hx : a.eval x = _), wrap_in _ rfl h1 h2]
theorem pure_rem {x y : Operand} {t t' : TypeId} {m n : Int} (hx : evo env x = some (.int .i64 m)) (hy : evo env y = some (.int .i64 n)) (hn : n ≠ 0) :
    PureOp P Γ ⟨env, hp, G⟩ (.binOp .rem t x y t') ty (.int .i64 (m.tmod n)) :=
  by refine ⟨?_⟩; exact fun a _ hs _ _ _ _ w => by simp [execOp, eqGuard, binOp, Op.intDiv, (hs.evo hx : a.eval x = _), (hs.evo hy : a.eval y = _), hn]
theorem pure_quo {x y : Operand} {t t' : TypeId} {m n : Int} (hx : evo env x = some (.int .i64 m)) (hy : evo env y = some (.int .i64 n)) (hn : n ≠ 0)
    (h1 : -9223372036854775808 ≤ m.tdiv n) (h2 : m.tdiv n ≤ 9223372036854775807) : PureOp P Γ ⟨env, hp, G⟩ (.binOp .quo t x y t') ty (.int .i64 (m.tdiv n)) :=
  by refine ⟨?_⟩; exact fun a _ hs _ _ _ _ w => by simp [execOp, eqGuard, binOp, Op.intDiv, (hs.evo hx : a.eval x = _), (hs.evo hy : a.eval y = _), hn, wrap_in _ rfl h1 h2]

theorem pure_eql {x y : Operand} {t t' : TypeId} {k : IntKind} {m n : Int} (hx : evo env x = some (.int k m)) (hy : evo env y = some (.int k n)) :
    PureOp P Γ ⟨env, hp, G⟩ (.binOp .eql t x y t') ty (.bool (decide (m = n))) :=
  by
    refine ⟨fun a _ hs _ _ _ _ w => ?_⟩
    simp [execOp, eqGuard, binOp, Op.intCmp, (hs.evo hx : a.eval x = _), (hs.evo hy : a.eval y = _)]
    by_cases h : m = n <;> simp [h]
theorem pure_neq {x y : Operand} {t t' : TypeId} {k : IntKind} {m n : Int} (hx : evo env x = some (.int k m)) (hy : evo env y = some (.int k n)) :
    PureOp P Γ ⟨env, hp, G⟩ (.binOp .neq t x y t') ty (.bool (decide (m ≠ n))) :=
  by
    refine ⟨fun a _ hs _ _ _ _ w => ?_⟩
    simp [execOp, eqGuard, binOp, Op.intCmp, (hs.evo hx : a.eval x = _), (hs.evo hy : a.eval y = _)]
    by_cases h : m = n <;> simp [h]
theorem pure_lss {x y : Operand} {t t' : TypeId} {k : IntKind} {m n : Int} (hx : evo env x = some (.int k m)) (hy : evo env y = some (.int k n)) :
    PureOp P Γ ⟨env, hp, G⟩ (.binOp .lss t x y t') ty (.bool (decide (m < n))) :=
  by refine ⟨?_⟩; exact fun a _ hs _ _ _ _ w => by simp [execOp, eqGuard, binOp, Op.intCmp, (hs.evo hx : a.eval x = _), (hs.evo hy : a.eval y = _)]
theorem pure_leq {x y : Operand} {t t' : TypeId} {k : IntKind} {m n : Int} (hx : evo env x = some (.int k m)) (hy : evo env y = some (.int k n)) :
    PureOp P Γ ⟨env, hp, G⟩ (.binOp .leq t x y t') ty (.bool (decide (m ≤ n))) :=
  by refine ⟨?_⟩; exact fun a _ hs _ _ _ _ w => by simp [execOp, eqGuard, binOp, Op.intCmp, (hs.evo hx : a.eval x = _), (hs.evo hy : a.eval y = _)]
theorem pure_gtr {x y : Operand} {t t' : TypeId} {k : IntKind} {m n : Int} (hx : evo env x = some (.int k m)) (hy : evo env y = some (.int k n)) :
    PureOp P Γ ⟨env, hp, G⟩ (.binOp .gtr t x y t') ty (.bool (decide (n < m))) :=
  by refine ⟨?_⟩; exact fun a _ hs _ _ _ _ w => by simp [execOp, eqGuard, binOp, Op.intCmp, (hs.evo hx : a.eval x = _), (hs.evo hy : a.eval y = _)]
theorem pure_geq {x y : Operand} {t t' : TypeId} {k : IntKind} {m n : Int} (hx : evo env x = some (.int k m)) (hy : evo env y = some (.int k n)) :
    PureOp P Γ ⟨env, hp, G⟩ (.binOp .geq t x y t') ty (.bool (decide (n ≤ m))) :=
  by refine ⟨?_⟩; exact fun a _ hs _ _ _ _ w => by simp [execOp, eqGuard, binOp, Op.intCmp, (hs.evo hx : a.eval x = _), (hs.evo hy : a.eval y = _)]

theorem pure_len {x : Operand} {t : TypeId} {i : TyR} [hI : TyI P t i] {e : TypeId} (hd : i.desc = .slice e) {p : Option Addr} {n c : Nat} (hx : evo env x = some (.slice p n c)) :
    PureOp P Γ ⟨env, hp, G⟩ (.call ⟨.builtin .len, ⟨[x]⟩, ⟨[t]⟩⟩) ty (.int .i64 n) := by
  refine ⟨fun a _ hs _ _ _ _ w => ?_⟩
  have hu := hI.und
  rw [hd] at hu
  simp [execOp, resolve, invoke, builtin, Builtin.len_, (hs.evo hx : a.eval x = _), run_underlying hu, goInt]
theorem pure_len_str {x : Operand} {t : TypeId} {i : TyR} [hI : TyI P t i] (hd : i.desc = .string) {s : ByteArray} (hx : evo env x = some (.string s)) :
    PureOp P Γ ⟨env, hp, G⟩ (.call ⟨.builtin .len, ⟨[x]⟩, ⟨[t]⟩⟩) ty (.int .i64 s.size) := by
  refine ⟨fun a _ hs _ _ _ _ w => ?_⟩
  have hu := hI.und
  rw [hd] at hu
  simp [execOp, resolve, invoke, builtin, Builtin.len_, (hs.evo hx : a.eval x = _), run_underlying hu, goInt]

theorem pure_indexAddr {x y : Operand} {t e : TypeId} {i ie : TyR} [hI : TyI P t i] (hd : i.desc = .slice e) [hE : TyI P e ie] {b o n c : Nat} {k : IntKind} {j : Int}
    (hx : evo env x = some (.slice (some ⟨b, o, none⟩) n c)) (hy : evo env y = some (.int k j)) (h0 : 0 ≤ j) (h1 : j < n) :
    PureOp P Γ ⟨env, hp, G⟩ (.indexAddr t x y) ty (.pointer (some ⟨b, o + j.toNat * ie.size, none⟩)) := by
  refine ⟨fun a _ hs _ _ _ _ w => ?_⟩
  have hu := hI.und
  rw [hd] at hu
  obtain ⟨inf, g1, g2, _⟩ := hE.info
  simp [execOp, Instr.indexAt, (hs.evo hx : a.eval x = _), (hs.evo hy : a.eval y = _), asIntOf, run_underlying hu, h0, h1, sizeOf, typeInfo, g1, g2, add_none]

theorem pure_indexAddrN {x y : Operand} {t e : TypeId} {i : TyR} {sz by' : Nat} {zs : List Value} [hI : TyI P t i] (hd : i.desc = .slice e) [hE : TySz P e sz by' zs] {b o n c j : Nat} {k : IntKind}
    (hx : evo env x = some (.slice (some ⟨b, o, none⟩) n c)) (hy : evo env y = some (.int k (j : Int))) (h1 : j < n) :
    PureOp P Γ ⟨env, hp, G⟩ (.indexAddr t x y) ty (.pointer (some ⟨b, o + j * sz, none⟩)) := by
  obtain ⟨d, hE⟩ := hE.ok
  have := pure_indexAddr (P := P) (Γ := Γ) (hp := hp) (G := G) (ty := ty) (t := t) hd hx hy (by omega) (by omega)
  simpa using this
theorem pure_makeFunc {fn : Fn} {xs ys : List Operand} {us vs : List Value} (hx : evl env xs = some us) (hy : evl env ys = some vs) :
    PureOp P Γ ⟨env, hp, G⟩ (.makeFunc fn ⟨xs⟩ ⟨ys⟩) ty (.func fn ⟨us⟩ ⟨vs⟩) :=
  by refine ⟨?_⟩; exact fun a _ hs _ _ _ _ w => by simp [execOp, Instr.makeFunc, ← hs.evl hx, ← hs.evl hy]

/- Reading. -/
theorem load_cells {w : World} {b : Nat} {full : List Value} {e : TypeId} {f : Nat × Nat} (hb : w.heap[b]? = some (.cells full.toArray e f)) {o : Nat} {vs : List Value}
    (hv : ∀ j v, vs[j]? = some v → full[o + j]? = some v) : (loadCells ⟨b, o, none⟩ vs.length).run P w = .ok vs.toArray w :=
  run_loadCells_list w _ vs fun j v h => by rw [add_none]; simp [World.cell?, hb, hv j v h]

theorem run_loadAt_s {w : World} {t : TypeId} {i : TyR} [hI : TyI P t i] (hd : aggD i.desc = false) {b o : Nat} {v : Value} (h : w.cell? ⟨b, o, none⟩ = some v) :
    (Instr.loadAt t (.pointer (some ⟨b, o, none⟩))).run P w = .ok v w := by
  simp [Instr.loadAt, Instr.sureAddr, loadVar, run_isAgg hI.und, hd, h]
theorem run_loadAt_a {w : World} {t : TypeId} {i : TyR} [hI : TyI P t i] (hd : aggD i.desc = true) {b o : Nat} {vs : List Value}
    (h : (loadCells ⟨b, o, none⟩ vs.length).run P w = .ok vs.toArray w) (hn : vs.length = i.size) :
    (Instr.loadAt t (.pointer (some ⟨b, o, none⟩))).run P w = .ok (.agg ⟨vs⟩) w := by
  obtain ⟨inf, g1, g2, _⟩ := hI.info
  rw [hn] at h
  simp [Instr.loadAt, Instr.sureAddr, loadVar, run_isAgg hI.und, hd, sizeOf, typeInfo, g1, g2, h]

/-- What is read at an address: in an own block, an own slice, or a block that no longer changes. -/
def At (hp : List Ent) (G : IM) (b o : Nat) (vs : List Value) : Prop :=
  (∃ cs, Ent.blk b cs ∈ hp ∧ ∀ j v, vs[j]? = some v → cs[o + j]? = some v) ∨
  (∃ n c el sz cs, Ent.slc (some ⟨b, 0, none⟩) c el sz n cs ∈ hp ∧ ∀ j v, vs[j]? = some v → cs[o + j]? = some v) ∨
  (∃ full, G b = some full ∧ ∀ j v, vs[j]? = some v → full[o + j]? = some v)

theorem At.read {a : Act} {w : World} {b o : Nat} {vs : List Value} (h : At hp G b o vs) (hs : St Γ ⟨env, hp, G⟩ a w) :
    ∃ full e f, w.heap[b]? = some (.cells (full : List Value).toArray e f) ∧ ∀ j v, vs[j]? = some v → full[o + j]? = some v := by
  rcases h with ⟨cs, hm, hv⟩ | ⟨n, c, el, sz, cs, hm, hv⟩ | ⟨full, hg, hv⟩
  · obtain ⟨e, he⟩ := hs.res.own.ok _ hm
    exact ⟨cs, e, _, he, hv⟩
  · obtain ⟨_, h2⟩ := hs.res.own.ok _ hm
    rcases h2 with ⟨h2, _⟩ | ⟨g, cap, cur, h2, _, hg, _, _, _, ht⟩
    · cases h2
    · cases h2
      refine ⟨cur.toList, el, _, by simpa using hg, fun j v hj => ?_⟩
      have := hv j v hj
      rw [← ht, List.getElem?_take] at this
      split at this
      · exact this
      · cases this
  · obtain ⟨e, f, hb⟩ := hs.res.own.inn b full hg
    exact ⟨full, e, f, hb, hv⟩

theorem load_s {x : Operand} {t : TypeId} {i : TyR} [hI : TyI P t i] (hd : aggD i.desc = false) {b o : Nat} {v : Value}
    (hx : evo env x = some (.pointer (some ⟨b, o, none⟩))) (hv : At hp G b o [v]) : LoadOp P Γ ⟨env, hp, G⟩ (.load t x) ty b v := by
  refine ⟨fun a w hs => ?_⟩
  obtain ⟨full, e, f, hb, hf⟩ := hv.read hs
  refine ⟨lt_of_some hb, fun w' hw' d pos af gd => ?_⟩
  have hc : w'.cell? ⟨b, o, none⟩ = some v := by simp [World.cell?, hw', hb, show full[o]? = some v from hf 0 v rfl]
  simp only [execOp, Sem.run_bind, (hs.evo hx : a.eval x = _), run_loadAt_s hd hc]
  rfl
theorem load_a {x : Operand} {t : TypeId} {i : TyR} [hI : TyI P t i] (hd : aggD i.desc = true) {b o : Nat} {vs : List Value}
    (hx : evo env x = some (.pointer (some ⟨b, o, none⟩))) (hv : At hp G b o vs) (hn : vs.length = i.size) : LoadOp P Γ ⟨env, hp, G⟩ (.load t x) ty b (.agg ⟨vs⟩) := by
  refine ⟨fun a w hs => ?_⟩
  obtain ⟨full, e, f, hb, hf⟩ := hv.read hs
  refine ⟨lt_of_some hb, fun w' hw' d pos af gd => ?_⟩
  have hc := load_cells (P := P) (w := w') (hw'.trans hb) hf
  simp only [execOp, Sem.run_bind, (hs.evo hx : a.eval x = _), run_loadAt_a hd hc hn]
  rfl

theorem at_blk_all {b : Nat} {cs : List Value} (hm : Ent.blk b cs ∈ hp) : At hp G b 0 cs := .inl ⟨cs, hm, fun j u hj => by simpa using hj⟩
theorem at_blk_s {b o : Nat} {cs : List Value} {v : Value} (hm : Ent.blk b cs ∈ hp) (hv : cs[o]? = some v) : At hp G b o [v] :=
  .inl ⟨cs, hm, fun j u hj => by cases j <;> simp_all⟩
theorem at_blk_a {b o n : Nat} {cs vs : List Value} (hm : Ent.blk b cs ∈ hp) (hv : subl cs o n = some vs) : At hp G b o vs := .inl ⟨cs, hm, (subl_spec hv).2⟩

theorem tyI_sz {t : TypeId} {i : TyR} {sz by' : Nat} {zs : List Value} (h : TyI P t i) (h' : TySz P t sz by' zs) : i.size = sz := by
  obtain ⟨d, h'⟩ := h'.ok
  obtain ⟨i1, a1, a2, _⟩ := h.info
  obtain ⟨i2, b1, b2, _⟩ := h'.info
  rw [a1] at b1; cases b1
  rw [← a2, b2]
theorem load_ba {x : Operand} {t : TypeId} {i : TyR} {sz by' : Nat} {zs : List Value} [hI : TyI P t i] [hS : TySz P t sz by' zs] (hd : aggD i.desc = true) {b o : Nat} {cs vs : List Value}
    (hx : evo env x = some (.pointer (some ⟨b, o, none⟩))) (hm : Ent.blk b cs ∈ hp) (hv : subl cs o sz = some vs) : LoadOp P Γ ⟨env, hp, G⟩ (.load t x) ty b (.agg ⟨vs⟩) :=
  load_a hd hx (at_blk_a hm hv) (by rw [tyI_sz hI hS]; exact (subl_spec hv).1)
theorem load_bs {x : Operand} {t : TypeId} {i : TyR} [hI : TyI P t i] (hd : aggD i.desc = false) {b o : Nat} {cs : List Value} {v : Value}
    (hx : evo env x = some (.pointer (some ⟨b, o, none⟩))) (hm : Ent.blk b cs ∈ hp) (hv : cs[o]? = some v) : LoadOp P Γ ⟨env, hp, G⟩ (.load t x) ty b v :=
  load_s hd hx (at_blk_s hm hv)
theorem at_slc {b o c el sz n : Nat} {cs vs : List Value} (hm : Ent.slc (some ⟨b, 0, none⟩) c el sz n cs ∈ hp) (hv : ∀ j v, vs[j]? = some v → cs[o + j]? = some v) : At hp G b o vs := .inr (.inl ⟨n, c, el, sz, cs, hm, hv⟩)
theorem at_slc_all {b c el sz n : Nat} {cs : List Value} (hm : Ent.slc (some ⟨b, 0, none⟩) c el sz n cs ∈ hp) : At hp G b 0 cs := .inr (.inl ⟨n, c, el, sz, cs, hm, fun j v hj => by simpa using hj⟩)
theorem at_slc_a {b o c el sz n k : Nat} {cs vs : List Value} (hm : Ent.slc (some ⟨b, 0, none⟩) c el sz n cs ∈ hp) (hv : subl cs o k = some vs) : At hp G b o vs := .inr (.inl ⟨n, c, el, sz, cs, hm, (subl_spec hv).2⟩)
theorem load_la {x : Operand} {t : TypeId} {i : TyR} {sz by' : Nat} {zs : List Value} [hI : TyI P t i] [hS : TySz P t sz by' zs] (hd : aggD i.desc = true) {b o c el z n : Nat} {cs vs : List Value}
    (hx : evo env x = some (.pointer (some ⟨b, o, none⟩))) (hm : Ent.slc (some ⟨b, 0, none⟩) c el z n cs ∈ hp) (hv : subl cs o sz = some vs) : LoadOp P Γ ⟨env, hp, G⟩ (.load t x) ty b (.agg ⟨vs⟩) :=
  load_a hd hx (at_slc_a hm hv) (by rw [tyI_sz hI hS]; exact (subl_spec hv).1)
theorem at_im {b o : Nat} {full vs : List Value} (hg : G b = some full) (hv : ∀ j v, vs[j]? = some v → full[o + j]? = some v) : At hp G b o vs := .inr (.inr ⟨full, hg, hv⟩)

/- Strings. -/
theorem pure_sindex {x y : Operand} {t : TypeId} {i : TyR} [hI : TyI P t i] (hd : i.desc = .string) {s : ByteArray} {k : IntKind} {j : Int} {b : UInt8}
    (hx : evo env x = some (.string s)) (hy : evo env y = some (.int k j)) (h0 : 0 ≤ j) (hb : s[j.toNat]? = some b) :
    PureOp P Γ ⟨env, hp, G⟩ (.index t x y) ty (.int .u8 b.toNat) := by
  refine ⟨fun a _ hs _ _ _ _ w => ?_⟩
  have hu := hI.und
  rw [hd] at hu
  simp only [execOp, Instr.index, (hs.evo hx : a.eval x = _), (hs.evo hy : a.eval y = _), asIntOf, Sem.run_bind, Sem.run_pure, Result.andThen_ok, run_underlying hu, h0, if_true, hb]
theorem pure_cat {x y : Operand} {t t' : TypeId} {r s : ByteArray} (hx : evo env x = some (.string r)) (hy : evo env y = some (.string s)) (hs' : r.size + s.size ≤ 9223372036854775807) :
    PureOp P Γ ⟨env, hp, G⟩ (.binOp .add t x y t') ty (.string (r ++ s)) := by
  refine ⟨fun a _ hs _ _ _ _ w => ?_⟩
  have : ¬ (((r.size + s.size : Nat) : Int) > IntKind.i64.max) := by simp [IntKind.max, IntKind.signed, IntKind.bits]; omega
  simp only [execOp, eqGuard, binOp, Op.stringOp, (hs.evo hx : a.eval x = _), (hs.evo hy : a.eval y = _), this, if_false]
  simp
theorem toList_eq (r s : ByteArray) : (r.toList == s.toList) = decide (r = s) := by
  by_cases h : r = s
  · subst h; simp
  · have : r.toList ≠ s.toList := by
      intro e
      apply h
      have := congrArg List.toArray e
      rw [ByteArray.toList_eq, ByteArray.toList_eq] at this
      cases r; cases s; simpa using this
    simp [h, this]
theorem pure_seql {x y : Operand} {t t' : TypeId} {r s : ByteArray} (hx : evo env x = some (.string r)) (hy : evo env y = some (.string s)) :
    PureOp P Γ ⟨env, hp, G⟩ (.binOp .eql t x y t') ty (.bool (decide (r = s))) := by
  refine ⟨fun a _ hs _ _ _ _ w => ?_⟩
  simp only [execOp, eqGuard, binOp, Op.stringOp, (hs.evo hx : a.eval x = _), (hs.evo hy : a.eval y = _), toList_eq]
  simp
theorem pure_sneq {x y : Operand} {t t' : TypeId} {r s : ByteArray} (hx : evo env x = some (.string r)) (hy : evo env y = some (.string s)) :
    PureOp P Γ ⟨env, hp, G⟩ (.binOp .neq t x y t') ty (.bool (decide (r ≠ s))) := by
  refine ⟨fun a _ hs _ _ _ _ w => ?_⟩
  simp only [execOp, eqGuard, binOp, Op.stringOp, (hs.evo hx : a.eval x = _), (hs.evo hy : a.eval y = _), toList_eq]
  simp
theorem run_beq {t : TypeId} {i : TyR} [hI : TyI P t i] (hd : i.desc = .bool) (r s : Bool) (w : World) : (Op.equal t (.bool r) (.bool s)).run P w = .ok (r == s) w := by
  have hu := hI.und
  rw [hd] at hu
  have h : ∀ d, (Op.equalIn (d + 1) t (.bool r) (.bool s)).run P w = .ok (r == s) w := fun d => by
    simp only [Op.equalIn, Sem.run_bind, run_underlying hu, Result.andThen_ok, Sem.run_pure]
  exact h 9999
theorem pure_beql {x y : Operand} {t t' : TypeId} {i : TyR} [hI : TyI P t i] (hd : i.desc = .bool) {r s : Bool} (hx : evo env x = some (.bool r)) (hy : evo env y = some (.bool s)) :
    PureOp P Γ ⟨env, hp, G⟩ (.binOp .eql t x y t') ty (.bool (decide (r = s))) := by
  refine ⟨fun a _ hs _ _ _ _ w => ?_⟩
  simp only [execOp, eqGuard, binOp, (hs.evo hx : a.eval x = _), (hs.evo hy : a.eval y = _), Sem.run_bind, run_beq hd, Sem.run_pure, Result.andThen_ok]
  cases r <;> cases s <;> rfl
theorem pure_bneq {x y : Operand} {t t' : TypeId} {i : TyR} [hI : TyI P t i] (hd : i.desc = .bool) {r s : Bool} (hx : evo env x = some (.bool r)) (hy : evo env y = some (.bool s)) :
    PureOp P Γ ⟨env, hp, G⟩ (.binOp .neq t x y t') ty (.bool (decide (r ≠ s))) := by
  refine ⟨fun a _ hs _ _ _ _ w => ?_⟩
  simp only [execOp, eqGuard, binOp, (hs.evo hx : a.eval x = _), (hs.evo hy : a.eval y = _), Sem.run_bind, run_beq hd, Sem.run_pure, Result.andThen_ok]
  cases r <;> cases s <;> rfl
theorem run_slnil {t e : TypeId} {i : TyR} [hI : TyI P t i] (hd : i.desc = .slice e) (p : Option Addr) (n c : Nat) (w : World) : (Op.equal t (.slice p n c) (.slice none 0 0)).run P w = .ok p.isNone w := by
  have hu := hI.und
  rw [hd] at hu
  have h : ∀ d, (Op.equalIn (d + 1) t (.slice p n c) (.slice none 0 0)).run P w = .ok p.isNone w := fun d => by
    cases p <;> simp only [Op.equalIn, Sem.run_bind, run_underlying hu, Result.andThen_ok, Sem.run_pure, Option.isNone]
  exact h 9999
theorem pure_slnil {x y : Operand} {t t' e : TypeId} {i : TyR} [hI : TyI P t i] (hd : i.desc = .slice e) {p : Option Addr} {n c : Nat} (hx : evo env x = some (.slice p n c)) (hy : evo env y = some (.slice none 0 0)) :
    PureOp P Γ ⟨env, hp, G⟩ (.binOp .eql t x y t') ty (.bool (decide (p = none))) := by
  refine ⟨fun a _ hs _ _ _ _ w => ?_⟩
  simp only [execOp, eqGuard, binOp, (hs.evo hx : a.eval x = _), (hs.evo hy : a.eval y = _), Sem.run_bind, run_slnil hd, Sem.run_pure, Result.andThen_ok]
  cases p <;> rfl
theorem pure_slnil_t {x y : Operand} {t t' e : TypeId} {i : TyR} [hI : TyI P t i] (hd : i.desc = .slice e) {n c : Nat} (hx : evo env x = some (.slice none n c)) (hy : evo env y = some (.slice none 0 0)) :
    PureOp P Γ ⟨env, hp, G⟩ (.binOp .eql t x y t') ty (.bool true) := pure_slnil hd hx hy
theorem pure_slnil_f {x y : Operand} {t t' e : TypeId} {i : TyR} [hI : TyI P t i] (hd : i.desc = .slice e) {p : Addr} {n c : Nat} (hx : evo env x = some (.slice (some p) n c)) (hy : evo env y = some (.slice none 0 0)) :
    PureOp P Γ ⟨env, hp, G⟩ (.binOp .eql t x y t') ty (.bool false) := pure_slnil hd hx hy
end laws
end Gw
end Go.Proofs.Ytlefgfdhlblahaa
