/-
  Aggregates, slices that the call owns, and blocks that are given up to be changed no more.
-/
import Derived.Test.YtlefgfdhlblahaaSteps
namespace Go.Proofs.Ytlefgfdhlblahaa
open Go Go.RowKit
namespace Gw

class PlcI (P : Program) (t : TypeId) (pl : outParam (List (Nat × Nat))) : Prop where
  ok : ∃ fs : List Field, P.underlying t = some (.struct ⟨fs⟩) ∧ ∀ w, ((⟨fs⟩ : Array Field).mapM fun (f : Field) => (do pure (f.offset, ← sizeOf f.type) : Sem (Nat × Nat))).run P w = .ok ⟨pl⟩ w

theorem plc_of {P : Program} {t : TypeId} {pl : List (Nat × Nat)} {fs : List Field} (h : P.underlying t = some (.struct ⟨fs⟩)) (hp : (fs.map fun f => (f.offset, P.cellsOf f.type)) = pl)
    (he : (fs.all fun f => (P.info? f.type).isSome) = true) : PlcI P t pl := by
  refine ⟨fs, h, fun w => ?_⟩
  rw [Array.mapM_eq_mapM_toList]
  simp only [Sem.run_map]
  rw [run_mapM_list _ w fs pl (by simp [← hp])]
  · rfl
  · intro j x y hx hy
    subst hp
    simp [List.getElem?_map, hx] at hy
    subst hy
    have hm : x ∈ fs := List.mem_of_getElem? hx
    have := List.all_eq_true.1 he x hm
    cases hi : P.info? x.type with
    | none => simp [hi] at this
    | some i => simp [sizeOf, typeInfo, hi, Program.cellsOf]

/-- The parts laid one after the other. -/
def fillF (pl : Nat → Option (Nat × Nat)) : List Value → List (Nat × Value) → Option (List Value)
  | cs, [] => some cs
  | cs, (i, v) :: r => match pl i with
    | none => none
    | some (off, sz) => match Nat.beq v.cells.toList.length sz with
      | false => none
      | true => match upd cs off v.cells.toList with
        | none => none
        | some cs' => fillF pl cs' r

def cpy : List Value → Option (List Value)
  | [] => some []
  | c :: cs => match cpy cs with
    | some r => some (c :: r)
    | none => none
theorem cpy_eq : ∀ cs, cpy cs = some cs
  | [] => rfl
  | c :: cs => by simp only [cpy, cpy_eq cs]
def fillC (pl : Nat → Option (Nat × Nat)) (cs : List Value) (ps : List (Nat × Value)) : Option (List Value) := match fillF pl cs ps with
  | some r => cpy r
  | none => none
theorem fillC_eq {pl : Nat → Option (Nat × Nat)} {cs cs' : List Value} {ps : List (Nat × Value)} (h : fillC pl cs ps = some cs') : fillF pl cs ps = some cs' := by
  unfold fillC at h
  split at h
  · rename_i r hr; rw [cpy_eq] at h; rw [hr]; exact h
  · cases h

theorem foldl_set : ∀ (vs : List Value) (k off : Nat) (cs : List Value), off + k + vs.length ≤ cs.length →
    ((vs.zipIdx k).foldl (fun (a : Array Value) (p : Value × Nat) => a.setIfInBounds (off + p.2) p.1) ⟨cs⟩).toList = cs.take (off + k) ++ vs ++ cs.drop (off + k + vs.length)
  | [], k, off, cs, _ => by simp
  | v :: vs, k, off, cs, h => by
    simp only [List.zipIdx_cons, List.foldl_cons]
    have h1 : ((⟨cs⟩ : Array Value).setIfInBounds (off + k) v) = ⟨cs.set (off + k) v⟩ := by simp
    simp only [List.length_cons] at h
    rw [h1, foldl_set vs (k + 1) off (cs.set (off + k) v) (by simp; omega)]
    apply List.ext_getElem?
    intro i
    simp only [List.getElem?_append, List.length_append, List.length_take, List.length_set, List.length_cons, List.getElem?_drop, List.getElem?_take, List.getElem?_set]
    have e1 : min (off + (k + 1)) cs.length = off + k + 1 := by omega
    have e2 : min (off + k) cs.length = off + k := by omega
    rw [e1, e2]
    by_cases c1 : i < off + k
    · rw [if_pos (by omega), if_pos (by omega), if_pos (by omega), if_neg (by omega), if_pos (by omega), if_pos (by omega), if_pos (by omega)]
    · by_cases c2 : i = off + k
      · subst c2
        rw [if_pos (by omega), if_pos (by omega), if_pos (by omega), if_pos rfl, if_pos (by omega), if_pos (by omega), if_neg (by omega)]
        simp
      · by_cases c3 : i < off + k + 1 + vs.length
        · rw [if_pos (by omega), if_neg (by omega), if_pos (by omega), if_neg (by omega), show i - (off + k) = (i - (off + k + 1)) + 1 by omega]
          simp
        · rw [if_neg (by omega), if_neg (by omega), if_neg (by omega), show off + (k + 1) + vs.length + (i - (off + k + 1 + vs.length)) = off + k + (vs.length + 1) + (i - (off + k + (vs.length + 1))) by omega]

theorem fillF_run {pl : Nat → Option (Nat × Nat)} : ∀ {parts : List (Nat × Value)} {cs cs' : List Value}, fillF pl cs parts = some cs' → Instr.fill pl ⟨cs⟩ parts = some ⟨cs'⟩ ∧ cs'.length = cs.length
  | [], cs, cs', h => by cases cs <;> (simp [fillF] at h; subst h; exact ⟨rfl, rfl⟩)
  | (i, v) :: r, cs, cs', h => by
    simp only [fillF] at h
    split at h
    · cases h
    · rename_i off sz h1
      split at h
      · cases h
      · rename_i h2
        split at h
        · cases h
        · rename_i cs1 hu
          obtain ⟨u1, u2⟩ := upd_spec hu
          obtain ⟨ih1, ih2⟩ := fillF_run h
          have hl := foldl_set v.cells.toList 0 off cs (by simpa using u2)
          have e : v.cells.size = sz := by have := Nat.eq_of_beq_eq_true h2; simpa using this
          have hlen : cs1.length = cs.length := by rw [u1]; simp at u2 ⊢; omega
          refine ⟨?_, by rw [ih2, hlen]⟩
          simp only [Instr.fill, h1]
          have u2' : off + v.cells.size ≤ cs.length := by simpa using u2
          rw [if_neg (by simp [e]; omega)]
          rw [← ih1]
          congr 1
          apply Array.ext'
          simp only [Nat.add_zero] at hl
          rw [u1, ← hl]
          rw [← Array.foldl_toList]
          simp

theorem run_tyI {P : Program} {t : TypeId} {i : TyR} [hI : TyI P t i] : ∃ inf z, (∀ w, (typeInfo t).run P w = .ok inf w) ∧ (∀ w, (zeroValue t).run P w = .ok z w) ∧ (∀ w, (sizeOf t).run P w = .ok i.size w) ∧ inf.bytes = i.bytes ∧ z.cells = ⟨i.zs⟩ ∧ P.info? t = some inf ∧ inf.zero = some z ∧ inf.size = i.size := by
  obtain ⟨inf, g1, g2, g3, z, g4, g5⟩ := hI.info
  refine ⟨inf, z, fun w => ?_, fun w => ?_, fun w => ?_, g3, g5, g1, g4, g2⟩
  · simp [typeInfo, g1]
  · simp [zeroValue, typeInfo, g1, g4]
  · simp [sizeOf, typeInfo, g1, g2]

section mem
variable {P : Program} {Γ : Ctx} {env : Env} {hp : List Ent} {G : IM} {ty : TypeId}

def evp (e : Env) : List (Nat × Operand) → Option (List (Nat × Value))
  | [] => some []
  | (i, x) :: r => match evo e x with
    | some v => match evp e r with
      | some vs => some ((i, v) :: vs)
      | none => none
    | none => none
theorem evp_ok {a : Act} {w : World} (hs : St Γ ⟨env, hp, G⟩ a w) : ∀ {xs : List (Nat × Operand)} {vs : List (Nat × Value)}, evp env xs = some vs → (xs.map fun (p : Nat × Operand) => (p.1, a.eval p.2)) = vs
  | [], vs, h => by simp [evp] at h; subst h; rfl
  | (i, x) :: r, vs, h => by
    simp only [evp] at h
    split at h
    · rename_i v hv
      split at h
      · rename_i us hu
        simp at h; subst h
        have e1 : a.eval x = v := hs.evo hv
        simp [e1, evp_ok hs hu]
      · cases h
    · cases h

theorem pure_build {t : TypeId} {i : TyR} [hI : TyI P t i] {pl : List (Nat × Nat)} [hP : PlcI P t pl] {xs : List (Nat × Operand)} {vs : List (Nat × Value)} {cs : List Value}
    (hx : evp env xs = some vs) (hf : fillF (fun (j : Nat) => pl[j]?) i.zs vs = some cs) : PureOp P Γ ⟨env, hp, G⟩ (.build t ⟨xs⟩) ty (.agg ⟨cs⟩) := by
  refine ⟨fun a _ hs _ _ _ _ w => ?_⟩
  obtain ⟨inf, z, h1, h2, h3, _, g5, _⟩ := run_tyI (P := P) (t := t)
  obtain ⟨fs, f1, f2⟩ := hP.ok
  have hv := evp_ok hs hx
  have hfr := (fillF_run hf).1
  simp only [execOp, Instr.build, Sem.run_bind, h2, Result.andThen_ok, Sem.run_pure, run_underlying f1, f2 w]
  have e : ((⟨xs⟩ : Array (Nat × Operand)).map fun x => match x with | (i, x) => (i, a.eval x)).toList = vs := by simpa using hv
  rw [e, g5]
  have e2 : (fun (x : Nat) => (⟨pl⟩ : Array (Nat × Nat))[x]?) = (fun (x : Nat) => pl[x]?) := by funext x; simp
  rw [e2, hfr]
  rfl

/- Slices that are made. -/
theorem res_new_slc (w : World) (hin : IMin G w) (el sz n : Nat) (cs : List Value) (hl : cs.length = n * sz) (hm : n ≤ maxLen) :
    Res [] G w [.slc (some ⟨w.heap.size, 0, none⟩) n el sz n cs] G (w.alloc (.cells cs.toArray el)) := by
  have h := res_new w hin cs el
  have hb : (w.alloc (.cells cs.toArray el)).heap[w.heap.size]? = some (.cells cs.toArray el (0, 0)) := heap_alloc_new w _
  refine ⟨⟨h.own.inn, ?_, by simp [Fp, Ent.fp, vfp], ?_⟩, h.ext, h.le, h.fresh, ?_, fun b l h h0 => absurd h (by rw [h0]; simp)⟩
  · intro x hx
    simp at hx; subst hx
    refine ⟨hl, .inr ⟨w.heap.size, n, cs.toArray, rfl, Nat.zero_le _, hb, Nat.le_refl _, hm, by simpa using hl, ?_⟩⟩
    simp [← hl]
  · intro b hb'; exact h.own.disj b (by simpa [Fp, Ent.fp, vfp] using hb')
  · intro b hb'; exact h.ofresh b (by simpa [Fp, Ent.fp, vfp] using hb')

/-- n copies of the zero cells. -/
def zrep (n : Nat) (zs : List Value) : List Value := match n with | 0 => [] | n + 1 => zs ++ zrep n zs
theorem zrep_len (n : Nat) (zs : List Value) : (zrep n zs).length = n * zs.length := by
  induction n with
  | zero => simp [zrep]
  | succ n ih => simp [zrep, ih, Nat.succ_mul, Nat.add_comm]
theorem zrep_get (zs : List Value) : ∀ (n i : Nat), i < n * zs.length → (zrep n zs)[i]? = zs[i % zs.length]?
  | 0, i, h => by simp at h
  | n + 1, i, h => by
    simp only [zrep, List.getElem?_append]
    split
    · rename_i hi; rw [Nat.mod_eq_of_lt hi]
    · rename_i hi
      rw [zrep_get zs n (i - zs.length) (by rw [Nat.succ_mul] at h; omega)]
      rw [Nat.mod_eq_sub_mod (a := i) (by omega)]
theorem zero_cells (z : Array Value) (zs : List Value) (hz : z = ⟨zs⟩) (n : Nat) : ((Array.range (n * zs.length)).map (z[· % z.size]!)) = ⟨zrep n zs⟩ := by
  subst hz
  apply Array.ext'
  simp only [Array.toList_map, Array.toList_range]
  apply List.ext_getElem?
  intro i
  by_cases hi : i < n * zs.length
  · rw [zrep_get zs n i hi]
    have hpos : 0 < zs.length := by
      rcases Nat.eq_zero_or_pos zs.length with h | h
      · rw [h] at hi; simp at hi
      · exact h
    have hlt := Nat.mod_lt i hpos
    simp [hi, getElem!_def, hlt]
  · simp [hi]
    have hl := zrep_len n zs
    omega

theorem run_newRow (el : TypeId) (cs : List Value) (w : World) : (newRow el ⟨cs⟩).run P w = .ok ⟨w.heap.size, 0, none⟩ (w.alloc (.cells cs.toArray el)) := by
  simp [newRow, newObj, Sem.run]

theorem step_slc {d : Nat} {op : Op} {el sz n : Nat} {cs : List Value} (hd : Nat.blt d Γ.n = true) (hl : cs.length = n * sz) (hm : n ≤ maxLen)
    (hrun : ∀ a w, St Γ ⟨env, hp, G⟩ a w → ∀ d pos af gd, (execOp a.eval ⟨d, op, ty, pos, af, gd⟩).run P w = .ok (.value (.slice (some ⟨w.heap.size, 0, none⟩) n n)) (w.alloc (.cells cs.toArray el))) :
    StepOp P Γ ⟨env, hp, G⟩ (some d) op ty [] (fun σ' => ∃ b, σ' = ⟨(d, .slice (some ⟨b, 0, none⟩) n n) :: env, .slc (some ⟨b, 0, none⟩) n el sz n cs :: hp, G⟩) := by
  refine ⟨fun a w hs pos af gd Q next hn => ?_⟩
  simp only [Oper.wp, hrun a w hs, Oper.upon]
  have hr' := res_new_slc w hs.res.own.inn el sz n cs hl hm
  exact hn _ _ _ (hs.step (ins := []) (rest := hp) (List.Perm.refl _) hr' (List.Perm.refl _) (d := some d) hd) hr'.ext ⟨w.heap.size, rfl⟩

theorem step_buildSlice {d : Nat} {t el : TypeId} {i : TyR} {sz by' : Nat} {zs : List Value} [hI : TyI P t i] (hd' : i.desc = .slice el) [hE : TySz P el sz by' zs] {n : Nat} {xs : List (Nat × Operand)} {vs : List (Nat × Value)} {cs : List Value}
    (hd : Nat.blt d Γ.n = true) (hx : evp env xs = some vs) (hn : n * sz ≤ 16777216) (hm : n ≤ maxLen)
    (hf : fillC (fun j => some (j * sz, sz)) (zrep n zs) vs = some cs) :
    StepOp P Γ ⟨env, hp, G⟩ (some d) (.buildSlice t n ⟨xs⟩) ty [] (fun σ' => ∃ b, σ' = ⟨(d, .slice (some ⟨b, 0, none⟩) n n) :: env, .slc (some ⟨b, 0, none⟩) n el sz n cs :: hp, G⟩) := by
  have hz := hE.len
  obtain ⟨_, hE⟩ := hE.ok
  replace hf := fillC_eq hf
  have hlen : cs.length = n * sz := by rw [(fillF_run hf).2, zrep_len, hz]
  refine step_slc hd hlen hm fun a w hs d pos af gd => ?_
  obtain ⟨inf, z, h1, h2, h3, _, g5, _⟩ := run_tyI (P := P) (t := el)
  have hu := hI.und
  rw [hd'] at hu
  have hv := evp_ok hs hx
  have e : ((⟨xs⟩ : Array (Nat × Operand)).map fun x => match x with | (i, x) => (i, a.eval x)).toList = vs := by simpa using hv
  have hfr := (fillF_run hf).1
  simp only [execOp, Instr.buildSlice, Sem.run_bind, run_underlying hu, Result.andThen_ok, h3, Sem.run_pure]
  rw [if_neg (by omega)]
  by_cases h0 : n * sz = 0
  · have hz0 : zrep n zs = [] := List.eq_nil_of_length_eq_zero (by rw [zrep_len, hz, h0])
    rw [hz0] at hfr
    have er : ∀ f : Nat → Value, (Array.range 0).map f = (⟨[]⟩ : Array Value) := fun f => by simp
    simp only [h0, if_true, Sem.run_bind, Sem.run_pure, Result.andThen_ok, er]
    rw [e, hfr]
    simp only [Sem.run_bind, run_newRow, Result.andThen_ok, Sem.run_pure]
  · have hc := zero_cells z.cells zs g5 n
    rw [hz] at hc
    simp only [h0, if_false, Sem.run_bind, Sem.run_pure, Result.andThen_ok, h2, hc]
    rw [e, hfr]
    simp only [Sem.run_bind, run_newRow, Result.andThen_ok, Sem.run_pure]

theorem step_makeSlice {d : Nat} {t el : TypeId} {i : TyR} {sz by' : Nat} {zs : List Value} [hI : TyI P t i] (hd' : i.desc = .slice el) [hE : TySz P el sz by' zs] {x : Operand} {n : Nat}
    (hd : Nat.blt d Γ.n = true) (hx : evo env x = some (.int .i64 (n : Int))) (hb : by' * n ≤ 281474976710656) (hm : n ≤ maxLen) :
    StepOp P Γ ⟨env, hp, G⟩ (some d) (.makeSlice t x x) ty [] (fun σ' => ∃ b, σ' = ⟨(d, .slice (some ⟨b, 0, none⟩) n n) :: env, .slc (some ⟨b, 0, none⟩) n el sz n (zrep n zs) :: hp, G⟩) := by
  have hz := hE.len
  obtain ⟨_, hE⟩ := hE.ok
  refine step_slc hd (by rw [zrep_len, hz]) hm fun a w hs d pos af gd => ?_
  obtain ⟨inf, z, h1, h2, h3, h4, g5, _⟩ := run_tyI (P := P) (t := el)
  have hu := hI.und
  rw [hd'] at hu
  have hm' := hm
  unfold maxLen at hm'
  have hw : IntKind.i64.wrap (n : Int) = n := wrap_in _ rfl (by omega) (by omega)
  have hbb : ¬ ((by' : Int) * n > 2 ^ 48) := by
    have : ((by' * n : Nat) : Int) ≤ ((281474976710656 : Nat) : Int) := Int.ofNat_le.2 hb
    rw [Int.natCast_mul] at this
    omega
  have hroom : (askRoom (n * by')).run P w = .ok () w := by
    unfold askRoom; split <;> rfl
  have hn0 : ¬ ((n : Int) < 0) := by omega
  have hnn : ¬ ((n : Int) > n) := by omega
  simp only [execOp, Instr.makeSlice, Sem.run_bind, run_underlying hu, Result.andThen_ok, (hs.evo hx : a.eval x = _), asInt, asIntOf, Sem.run_pure, h1, hw, h4, hn0, hnn, hbb, decide_false, Bool.or_false, Bool.false_eq_true, if_false, Int.toNat_natCast, hroom, h3]
  by_cases h0 : n * sz = 0
  · have hz0 : zrep n zs = [] := List.eq_nil_of_length_eq_zero (by rw [zrep_len, hz, h0])
    have er : ∀ f : Nat → Value, (Array.range 0).map f = (⟨[]⟩ : Array Value) := fun f => by simp
    simp only [h0, if_true, Sem.run_bind, Sem.run_pure, Result.andThen_ok, er]
    rw [hz0]
    simp only [run_newRow, Result.andThen_ok]
  · have hc := zero_cells z.cells zs g5 n
    rw [hz] at hc
    simp only [h0, if_false, Sem.run_bind, Sem.run_pure, Result.andThen_ok, h2, hc, run_newRow]

end mem
end Gw
end Go.Proofs.Ytlefgfdhlblahaa
