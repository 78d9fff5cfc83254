/-
  The reference model's source of numbers: each draw stays in its bounds. Arguments that can be read as data lie in memory as trees do; a law that answers true in memory that was there before meets its row. Where ways meet again. How high and how wide types are. The reference model's drawn types: what they are made of, and how big they are. The reference model's drawn types, changed at random. The reference model's drawn types, changed at random. Terms without casts and types, in plain words. Nodes at paths, in plain words: paths concatenate. All paths of a term, in plain words: they are different, each has a node, none goes on to where no operand is. The first cast with a label. The casts of a term, in plain words: the first one with a label is the node at the first path to such a cast. Strings: cut, put together, compared. The reference model's drawn terms: what they are made of, and how big they are.
-/
import Derived.Test.YteneckdjdfnjoaaKc1
import Derived.WalkKit
import Derived.ProofKit
import Derived.OpenShut
import Derived.Carry
import Derived.Test.YteneckdjdfnjoaaKc0
import Derived.Test.YteneckdjdfnjoaaKc2
import Derived.Test.YteneckdjdfnjoaaKc3
namespace Go.Proofs.Yteneckdjdfnjoaa
open Go Go.RowKit
namespace Gw
section rlaws
variable {P : Program} {Γ : Ctx} {env : Env} {hp : List Ent} {G : IM} {ty : TypeId}
theorem xor_lt {m n : Nat} (hm : m < 4611686018427387904) (hn : n < 4611686018427387904) : m ^^^ n < 4611686018427387904 := by
 have := @Nat.xor_lt_two_pow m n 62 (by omega) (by omega)
 simpa using this
theorem pure_xor_nat {x y : Operand} {t t' : TypeId} {m n : Nat} (hx : evo env x = some (.int .i64 (m : Int))) (hy : evo env y = some (.int .i64 (n : Int))) (hm : m < 4611686018427387904) (hn : n < 4611686018427387904) :
  PureOp P Γ ⟨env, hp, G⟩ (.binOp .xor t x y t') ty (.int .i64 ((m ^^^ n : Nat) : Int)) := by
 refine ⟨fun a _ hs _ _ _ _ w => ?_⟩
 have hlt := xor_lt hm hn
 have e : (BitVec.ofInt 64 (m : Int) ^^^ BitVec.ofInt 64 (n : Int)).toNat = m ^^^ n := by
  rw [BitVec.toNat_xor, BitVec.toNat_ofInt, BitVec.toNat_ofInt]
  congr 1 <;> omega
 have hw : IntKind.i64.wrap (((BitVec.ofInt 64 (m : Int) ^^^ BitVec.ofInt 64 (n : Int)).toNat : Nat) : Int) = ((m ^^^ n : Nat) : Int) := by
  rw [e]; exact wrap_in _ rfl (by omega) (by omega)
 simp only [execOp, eqGuard, binOp, Op.intBits, (hs.evo hx : a.eval x = _), (hs.evo hy : a.eval y = _), ne_eq, not_true_eq_false, if_false, Sem.run_bind, Sem.run_pure, Result.andThen_ok]
 rw [show IntKind.bits .i64 = 64 from rfl] at *
 simp only [hw]
 simp
theorem pure_mul_nat {x y : Operand} {t t' : TypeId} {m n : Nat} (hx : evo env x = some (.int .i64 (m : Int))) (hy : evo env y = some (.int .i64 (n : Int))) (h : m * n ≤ 9223372036854775807) :
  PureOp P Γ ⟨env, hp, G⟩ (.binOp .mul t x y t') ty (.int .i64 ((m * n : Nat) : Int)) := by
 have e : ((m : Int) * (n : Int)) = ((m * n : Nat) : Int) := by simp
 have h2 := pure_mul (P := P) (Γ := Γ) (hp := hp) (G := G) (ty := ty) (t := t) (t' := t') hx hy (by rw [e]; omega) (by rw [e]; omega)
 rwa [e] at h2
theorem pure_add_nat {x y : Operand} {t t' : TypeId} {m n : Nat} (hx : evo env x = some (.int .i64 (m : Int))) (hy : evo env y = some (.int .i64 (n : Int))) (h : m + n ≤ 9223372036854775807) :
  PureOp P Γ ⟨env, hp, G⟩ (.binOp .add t x y t') ty (.int .i64 ((m + n : Nat) : Int)) := by
 have e : ((m : Int) + (n : Int)) = ((m + n : Nat) : Int) := by simp
 have h2 := pure_add (P := P) (Γ := Γ) (hp := hp) (G := G) (ty := ty) (t := t) (t' := t') hx hy (by rw [e]; omega) (by rw [e]; omega)
 rwa [e] at h2
theorem pure_dec {x y : Operand} {t t' : TypeId} {m : Nat} (hx : evo env x = some (.int .i64 ((m + 1 : Nat) : Int))) (hy : evo env y = some (.int .i64 1)) (h : m ≤ 9223372036854775807) :
  PureOp P Γ ⟨env, hp, G⟩ (.binOp .sub t x y t') ty (.int .i64 (m : Int)) := by
 have e : (((m + 1 : Nat) : Int) - 1) = (m : Int) := by omega
 have h2 := pure_sub (P := P) (Γ := Γ) (hp := hp) (G := G) (ty := ty) (t := t) (t' := t') hx hy (by rw [e]; omega) (by rw [e]; omega)
 rwa [e] at h2
theorem pure_conv_i64 {s d : TypeId} {is id : TyR} [hS : TyI P s is] [hD : TyI P d id] (hd : id.desc = .int .i64) {k : IntKind} (hs : is.desc = .int k) {x : Operand} {n : Int} (hx : evo env x = some (.int k n)) (h0 : -9223372036854775808 ≤ n) (h1 : n ≤ 9223372036854775807) :
  PureOp P Γ ⟨env, hp, G⟩ (.convert s d x) ty (.int .i64 n) := by
 refine ⟨fun a _ hst _ _ _ _ w => ?_⟩
 have hu := hD.und
 rw [hd] at hu
 have hus := hS.und
 rw [hs] at hus
 have hw : IntKind.i64.wrap n = n := wrap_in n rfl h0 h1
 simp [execOp, convert, run_underlying hus, run_underlying hu, (hst.evo hx : a.eval x = _), Conv.intToInt, hw]
theorem pure_slice_to {x y : Operand} {t el : TypeId} {i : TyR} {sz by' : Nat} {zs : List Value} [hI : TyI P t i] (hd' : i.desc = .slice el) [hE : TySz P el sz by' zs] {p : Option Addr} {n c l : Nat}
  (hx : evo env x = some (.slice p n c)) (hy : evo env y = some (.int .i64 (l : Int))) (hl : l ≤ c) :
  PureOp P Γ ⟨env, hp, G⟩ (.slice t x none (some y) none) ty (.slice p l c) := by
 refine ⟨fun a _ hs _ _ _ _ w => ?_⟩
 have hu := hI.und
 rw [hd'] at hu
 obtain ⟨d, hE⟩ := hE.ok
 obtain ⟨inf, z, t1, t2, t3, _⟩ := run_tyI (P := P) (t := el)
 have e1 : a.eval x = _ := hs.evo hx
 have e2 : a.eval y = _ := hs.evo hy
 have hb : ∀ code, (Instr.sliceBound (.int .i64 (l : Int)) c code).run P w = .ok l w := fun code => by
  unfold Instr.sliceBound
  simp only [asIntOf, Sem.run_bind, Sem.run_pure, Result.andThen_ok]
  rw [if_pos ⟨by omega, by omega⟩]
  simp
 simp only [execOp, Option.map, e1, e2, Instr.sliceAt, Sem.run_bind, run_underlying hu, Result.andThen_ok, Instr.slice, Instr.sliceBounds, Sem.run_pure, hb, t3]
 by_cases h : c = 0
 ·subst h; simp
 ·rw [if_neg h]; simp; cases p <;> simp [Addr.add]
end rlaws
def byts (bs : List UInt8) : List Value := bs.map fun b => .int .u8 (b.toNat : Int)
theorem byts_len (bs : List UInt8) : (byts bs).length = bs.length := by simp [byts]
theorem byts_get {bs : List UInt8} {i : Nat} {v : Value} (h : (byts bs)[i]? = some v) : ∃ b : Nat, b < 256 ∧ v = .int .u8 (b : Int) := by
 unfold byts at h
 rw [List.getElem?_map] at h
 cases hb : bs[i]? with
 | none => rw [hb] at h; simp at h
 | some b => rw [hb] at h; simp at h; exact ⟨b.toNat, b.toNat_lt, h.symm⟩
/-- The source: where it lies, and how many numbers were drawn. -/
def rd (br : Nat) (pb : Option Addr) (nb cb p : Nat) : Ent := .blk br [.slice pb nb cb, .int .i64 (p : Int)]
/-- What a draw of numbers leaves behind. -/
def Drew (br : Nat) (pb : Option Addr) (nb cb p B : Nat) (Φ : IM → Value → Prop) : IM → Value → List Ent → Prop := fun G' v outs => ∃ p', p ≤ p' ∧ p' ≤ p + B ∧ outs = [rd br pb nb cb p'] ∧ Φ G' v
set_option maxHeartbeats 0 in
set_option maxRecDepth 100000 in
theorem pick_fn (G : IM) (br : Nat) (pb : Option Addr) (nb cb p : Nat) (bs : List UInt8) (n : Int) (hb : Sl G pb nb cb 1 (byts bs)) (hnb : nb ≤ 2000) (hp : p < 1099511627776) :
  Fn Try.prog 52 [.pointer (some ⟨br, 0, none⟩), .int .i64 n] [rd br pb nb cb p] G (fun G' v outs => G' = G ∧ outs = [rd br pb nb cb (p + 1)] ∧ ∃ k, v = .int .i64 k ∧ 0 ≤ k ∧ (1 ≤ n → k < n)) := by
 unfold rd
 have hm1 : ∀ q, 0 < nb → q % nb < nb := fun q h => Nat.mod_lt _ h
 have hdv : p / nb ≤ p := Nat.div_le_self _ _
 refine fn_enter Try.func52 rfl Try.ntmps52 Try.results52 rfl ?_
 intro w0
 refine tri_seq ?_
 refine tri_region ?_
 refine seq_pure (pure_assign rfl) rfl rfl ?_
 refine seq_done ?_
 refine nrm_seq ?_
 refine tri_seq ?_
 refine tri_region ?_
 refine seq_pure (pure_move rfl) rfl rfl ?_
 refine seq_pure (pure_move rfl) rfl rfl ?_
 refine seq_pure (pure_nilCheck rfl) rfl rfl ?_
 refine seq_pure (pure_fieldAddr0 rfl) rfl rfl ?_
 refine seq_load (load_bs rfl rfl (by repeat (first | exact List.Mem.head _ | apply List.Mem.tail)) (by rfl)) rfl rfl ?_
 refine seq_pure (pure_add_nat (n := 1) rfl rfl (by omega)) rfl rfl ?_
 refine seq_pure (pure_nilCheck rfl) rfl rfl ?_
 refine seq_pure (pure_fieldAddr0 rfl) rfl rfl ?_
 refine seq_store rfl rfl rfl rfl rfl rfl (by repeat (first | exact Sw.here | apply Sw.there)) (by rfl) ?_
 refine seq_done ?_
 refine nrm_seq ?_
 refine tri_seq ?_
 refine tri_seq ?_
 refine tri_region ?_
 refine seq_pure (pure_move rfl) rfl rfl ?_
 refine seq_bool (pure_lss rfl rfl) rfl rfl (fun h23 => ?_) (fun h23 => ?_)
 ·refine seq_pure (pure_move rfl) rfl rfl ?_
  refine seq_skip rfl rfl ?_
  refine seq_skip rfl rfl ?_
  refine seq_skip rfl rfl ?_
  refine seq_skip rfl rfl ?_
  refine seq_skip rfl rfl ?_
  refine seq_skip rfl rfl ?_
  refine seq_pure (pure_pick_t rfl rfl) rfl rfl ?_
  refine seq_done ?_
  refine nrm_seq ?_
  refine tri_cond_t rfl ?_
  refine tri_seq ?_
  refine tri_region ?_
  refine seq_pure (pure_assign rfl) rfl rfl ?_
  refine seq_done ?_
  refine nrm_seq ?_
  refine tri_ret ?_
  refine ret_seq ?_
  refine ret_own1 (res_tmp rfl) SubH.refl ?_
  exact ⟨rfl, rfl, 0, rfl, Int.le_refl _, fun h => by omega⟩
 ·refine seq_pure (pure_move rfl) rfl rfl ?_
  refine seq_pure (pure_move rfl) rfl rfl ?_
  refine seq_pure (pure_nilCheck rfl) rfl rfl ?_
  refine seq_pure (pure_fieldAddr0 rfl) rfl rfl ?_
  refine seq_load (load_bs rfl rfl (by repeat (first | exact List.Mem.head _ | apply List.Mem.tail)) (by rfl)) rfl rfl ?_
  refine seq_pure (pure_len rfl rfl) rfl rfl ?_
  refine seq_bool (pure_eql rfl rfl) rfl rfl (fun h50 => ?_) (fun h50 => ?_)
  ·refine seq_pure (pure_pick_f rfl rfl) rfl rfl ?_
   refine seq_done ?_
   refine nrm_seq ?_
   refine tri_cond_t rfl ?_
   refine tri_seq ?_
   refine tri_region ?_
   refine seq_pure (pure_assign rfl) rfl rfl ?_
   refine seq_done ?_
   refine nrm_seq ?_
   refine tri_ret ?_
   refine ret_seq ?_
   refine ret_own1 (res_tmp rfl) SubH.refl ?_
   exact ⟨rfl, rfl, 0, rfl, Int.le_refl _, fun h => by omega⟩
  ·refine seq_pure (pure_pick_f rfl rfl) rfl rfl ?_
   refine seq_done ?_
   refine nrm_seq ?_
   refine tri_cond_f rfl ?_
   refine tri_skip ?_
   refine nrm_seq ?_
   refine tri_seq ?_
   refine tri_region ?_
   refine seq_pure (pure_move rfl) rfl rfl ?_
   refine seq_pure (pure_nilCheck rfl) rfl rfl ?_
   refine seq_pure (pure_fieldAddr0 rfl) rfl rfl ?_
   refine seq_load (load_bs rfl rfl (by repeat (first | exact List.Mem.head _ | apply List.Mem.tail)) (by rfl)) rfl rfl ?_
   refine seq_pure (pure_dec rfl rfl (by omega)) rfl rfl ?_
   refine seq_pure (pure_assign rfl) rfl rfl ?_
   refine seq_done ?_
   refine nrm_seq ?_
   refine tri_seq ?_
   refine tri_seq ?_
   refine tri_region ?_
   refine seq_pure (pure_move rfl) rfl rfl ?_
   refine seq_pure (pure_move rfl) rfl rfl ?_
   refine seq_pure (pure_nilCheck rfl) rfl rfl ?_
   refine seq_pure (pure_fieldAddr0 rfl) rfl rfl ?_
   refine seq_load (load_bs rfl rfl (by repeat (first | exact List.Mem.head _ | apply List.Mem.tail)) (by rfl)) rfl rfl ?_
   refine seq_pure (pure_len rfl rfl) rfl rfl ?_
   refine seq_bool (pure_lss rfl rfl) rfl rfl (fun h89 => ?_) (fun h89 => ?_)
   ·refine seq_done ?_
    refine nrm_seq ?_
    refine tri_cond_t rfl ?_
    refine tri_seq ?_
    refine tri_region ?_
    refine seq_pure (pure_move rfl) rfl rfl ?_
    refine seq_pure (pure_nilCheck rfl) rfl rfl ?_
    refine seq_pure (pure_fieldAddr0 rfl) rfl rfl ?_
    refine seq_load (load_bs rfl rfl (by repeat (first | exact List.Mem.head _ | apply List.Mem.tail)) (by rfl)) rfl rfl ?_
    refine seq_pure (pure_move rfl) rfl rfl ?_
    (obtain ⟨b, o, v, rfl, hv, hat, hgb⟩ := hb.kid (i := p) (by omega); obtain ⟨y, hy, rfl⟩ := byts_get hv; refine seq_pure (pure_indexAddrN rfl rfl rfl (by omega)) rfl rfl ?_)
    refine seq_load (load_s rfl rfl (hat _)) rfl rfl ?_
    refine seq_pure (pure_conv_i64 rfl rfl rfl (by omega) (by omega)) rfl rfl ?_
    refine seq_pure (pure_move rfl) rfl rfl ?_
    refine seq_pure (pure_rem rfl rfl (by omega)) rfl rfl ?_
    refine seq_pure (pure_assign rfl) rfl rfl ?_
    refine seq_done ?_
    refine nrm_seq ?_
    refine tri_ret ?_
    refine ret_seq ?_
    refine ret_own1 (res_tmp rfl) SubH.refl ?_
    exact ⟨rfl, rfl, _, rfl, Int.tmod_nonneg _ (by omega), fun h => Int.tmod_lt_of_pos _ (by omega)⟩
   ·refine seq_done ?_
    refine nrm_seq ?_
    refine tri_cond_f rfl ?_
    refine tri_skip ?_
    refine nrm_seq ?_
    refine tri_seq ?_
    (obtain ⟨b, o, v1, rfl, hv1, hat1, _⟩ := hb.kid (i := HMod.hMod p nb) (hm1 _ (by omega)); obtain ⟨y1, hy1, rfl⟩ := byts_get hv1; obtain ⟨b', o', v2, hbb, hv2, hat2, _⟩ := hb.kid (i := HMod.hMod (p * 7 + 3) nb) (hm1 _ (by omega)); obtain ⟨y2, hy2, rfl⟩ := byts_get hv2; cases hbb; have hl1 := hm1 p (by omega); have hl2 := hm1 (p * 7 + 3) (by omega); refine tri_draw mixed rfl ?_)
    refine any_pure (i := 0) (listed' := [tt,ff,ff,ff,ff,ff,ff,ff,ff,ff,ff,ff,ff,ff,ff,ff,ff,ff,ff,ff,ff,ff,ff,ff,ff,ff,ff,ff,ff,ff,ff,ff,ff,ff,ff,ff,ff,ff,ff,ff,ff,ff,ff,ff,ff,ff]) rfl (by repeat (first | exact np_ret | exact np_cut | apply np_seq | apply np_block | apply np_loopN')) (pure_move rfl) rfl (by kernel_rfl) rfl rfl ?_
    refine any_pure (i := 1) (listed' := [tt,tt,ff,ff,ff,ff,ff,ff,ff,ff,ff,ff,ff,ff,ff,ff,ff,ff,ff,ff,ff,ff,ff,ff,ff,ff,ff,ff,ff,ff,ff,ff,ff,ff,ff,ff,ff,ff,ff,ff,ff,ff,ff,ff,ff,ff]) rfl (by repeat (first | exact np_ret | exact np_cut | apply np_seq | apply np_block | apply np_loopN')) (pure_nilCheck rfl) rfl (by kernel_rfl) rfl rfl ?_
    refine any_pure (i := 2) (listed' := [tt,tt,tt,ff,ff,ff,ff,ff,ff,ff,ff,ff,ff,ff,ff,ff,ff,ff,ff,ff,ff,ff,ff,ff,ff,ff,ff,ff,ff,ff,ff,ff,ff,ff,ff,ff,ff,ff,ff,ff,ff,ff,ff,ff,ff,ff]) rfl (by repeat (first | exact np_ret | exact np_cut | apply np_seq | apply np_block | apply np_loopN')) (pure_fieldAddr0 rfl) rfl (by kernel_rfl) rfl rfl ?_
    refine any_load (i := 3) (listed' := [tt,tt,tt,tt,ff,ff,ff,ff,ff,ff,ff,ff,ff,ff,ff,ff,ff,ff,ff,ff,ff,ff,ff,ff,ff,ff,ff,ff,ff,ff,ff,ff,ff,ff,ff,ff,ff,ff,ff,ff,ff,ff,ff,ff,ff,ff]) rfl (by repeat (first | exact np_ret | exact np_cut | apply np_seq | apply np_block | apply np_loopN')) (load_bs rfl rfl (by repeat (first | exact List.Mem.head _ | apply List.Mem.tail)) (by rfl)) rfl (by kernel_rfl) rfl rfl ?_
    refine any_pure (i := 4) (listed' := [tt,tt,tt,tt,tt,ff,ff,ff,ff,ff,ff,ff,ff,ff,ff,ff,ff,ff,ff,ff,ff,ff,ff,ff,ff,ff,ff,ff,ff,ff,ff,ff,ff,ff,ff,ff,ff,ff,ff,ff,ff,ff,ff,ff,ff,ff]) rfl (by repeat (first | exact np_ret | exact np_cut | apply np_seq | apply np_block | apply np_loopN')) (pure_move rfl) rfl (by kernel_rfl) rfl rfl ?_
    refine any_pure (i := 5) (listed' := [tt,tt,tt,tt,tt,tt,ff,ff,ff,ff,ff,ff,ff,ff,ff,ff,ff,ff,ff,ff,ff,ff,ff,ff,ff,ff,ff,ff,ff,ff,ff,ff,ff,ff,ff,ff,ff,ff,ff,ff,ff,ff,ff,ff,ff,ff]) rfl (by repeat (first | exact np_ret | exact np_cut | apply np_seq | apply np_block | apply np_loopN')) (pure_move rfl) rfl (by kernel_rfl) rfl rfl ?_
    refine any_pure (i := 6) (listed' := [tt,tt,tt,tt,tt,tt,tt,ff,ff,ff,ff,ff,ff,ff,ff,ff,ff,ff,ff,ff,ff,ff,ff,ff,ff,ff,ff,ff,ff,ff,ff,ff,ff,ff,ff,ff,ff,ff,ff,ff,ff,ff,ff,ff,ff,ff]) rfl (by repeat (first | exact np_ret | exact np_cut | apply np_seq | apply np_block | apply np_loopN')) (pure_nilCheck rfl) rfl (by kernel_rfl) rfl rfl ?_
    refine any_pure (i := 7) (listed' := [tt,tt,tt,tt,tt,tt,tt,tt,ff,ff,ff,ff,ff,ff,ff,ff,ff,ff,ff,ff,ff,ff,ff,ff,ff,ff,ff,ff,ff,ff,ff,ff,ff,ff,ff,ff,ff,ff,ff,ff,ff,ff,ff,ff,ff,ff]) rfl (by repeat (first | exact np_ret | exact np_cut | apply np_seq | apply np_block | apply np_loopN')) (pure_fieldAddr0 rfl) rfl (by kernel_rfl) rfl rfl ?_
    refine any_load (i := 8) (listed' := [tt,tt,tt,tt,tt,tt,tt,tt,tt,ff,ff,ff,ff,ff,ff,ff,ff,ff,ff,ff,ff,ff,ff,ff,ff,ff,ff,ff,ff,ff,ff,ff,ff,ff,ff,ff,ff,ff,ff,ff,ff,ff,ff,ff,ff,ff]) rfl (by repeat (first | exact np_ret | exact np_cut | apply np_seq | apply np_block | apply np_loopN')) (load_bs rfl rfl (by repeat (first | exact List.Mem.head _ | apply List.Mem.tail)) (by rfl)) rfl (by kernel_rfl) rfl rfl ?_
    refine any_pure (i := 9) (listed' := [tt,tt,tt,tt,tt,tt,tt,tt,tt,tt,ff,ff,ff,ff,ff,ff,ff,ff,ff,ff,ff,ff,ff,ff,ff,ff,ff,ff,ff,ff,ff,ff,ff,ff,ff,ff,ff,ff,ff,ff,ff,ff,ff,ff,ff,ff]) rfl (by repeat (first | exact np_ret | exact np_cut | apply np_seq | apply np_block | apply np_loopN')) (pure_len rfl rfl) rfl (by kernel_rfl) rfl rfl ?_
    refine any_pure (i := 10) (listed' := [tt,tt,tt,tt,tt,tt,tt,tt,tt,tt,tt,ff,ff,ff,ff,ff,ff,ff,ff,ff,ff,ff,ff,ff,ff,ff,ff,ff,ff,ff,ff,ff,ff,ff,ff,ff,ff,ff,ff,ff,ff,ff,ff,ff,ff,ff]) rfl (by repeat (first | exact np_ret | exact np_cut | apply np_seq | apply np_block | apply np_loopN')) (pure_rem_nat rfl rfl (by omega)) rfl (by kernel_rfl) rfl rfl ?_
    refine any_pure (i := 11) (listed' := [tt,tt,tt,tt,tt,tt,tt,tt,tt,tt,tt,tt,ff,ff,ff,ff,ff,ff,ff,ff,ff,ff,ff,ff,ff,ff,ff,ff,ff,ff,ff,ff,ff,ff,ff,ff,ff,ff,ff,ff,ff,ff,ff,ff,ff,ff]) rfl (by repeat (first | exact np_ret | exact np_cut | apply np_seq | apply np_block | apply np_loopN')) (pure_indexAddrN rfl rfl rfl (by first | exact hl1 | exact hl2)) rfl (by kernel_rfl) rfl rfl ?_
    refine any_load (i := 12) (listed' := [tt,tt,tt,tt,tt,tt,tt,tt,tt,tt,tt,tt,tt,ff,ff,ff,ff,ff,ff,ff,ff,ff,ff,ff,ff,ff,ff,ff,ff,ff,ff,ff,ff,ff,ff,ff,ff,ff,ff,ff,ff,ff,ff,ff,ff,ff]) rfl (by repeat (first | exact np_ret | exact np_cut | apply np_seq | apply np_block | apply np_loopN')) (load_s rfl rfl (hat1 _)) rfl (by kernel_rfl) rfl rfl ?_
    refine any_pure (i := 13) (listed' := [tt,tt,tt,tt,tt,tt,tt,tt,tt,tt,tt,tt,tt,tt,ff,ff,ff,ff,ff,ff,ff,ff,ff,ff,ff,ff,ff,ff,ff,ff,ff,ff,ff,ff,ff,ff,ff,ff,ff,ff,ff,ff,ff,ff,ff,ff]) rfl (by repeat (first | exact np_ret | exact np_cut | apply np_seq | apply np_block | apply np_loopN')) (pure_conv_i64 rfl rfl rfl (by omega) (by omega)) rfl (by kernel_rfl) rfl rfl ?_
    refine any_pure (i := 14) (listed' := [tt,tt,tt,tt,tt,tt,tt,tt,tt,tt,tt,tt,tt,tt,tt,ff,ff,ff,ff,ff,ff,ff,ff,ff,ff,ff,ff,ff,ff,ff,ff,ff,ff,ff,ff,ff,ff,ff,ff,ff,ff,ff,ff,ff,ff,ff]) rfl (by repeat (first | exact np_ret | exact np_cut | apply np_seq | apply np_block | apply np_loopN')) (pure_mul_nat (n := 131) rfl rfl (by omega)) rfl (by kernel_rfl) rfl rfl ?_
    refine any_pure (i := 15) (listed' := [tt,tt,tt,tt,tt,tt,tt,tt,tt,tt,tt,tt,tt,tt,tt,tt,ff,ff,ff,ff,ff,ff,ff,ff,ff,ff,ff,ff,ff,ff,ff,ff,ff,ff,ff,ff,ff,ff,ff,ff,ff,ff,ff,ff,ff,ff]) rfl (by repeat (first | exact np_ret | exact np_cut | apply np_seq | apply np_block | apply np_loopN')) (pure_move rfl) rfl (by kernel_rfl) rfl rfl ?_
    refine any_pure (i := 16) (listed' := [tt,tt,tt,tt,tt,tt,tt,tt,tt,tt,tt,tt,tt,tt,tt,tt,tt,ff,ff,ff,ff,ff,ff,ff,ff,ff,ff,ff,ff,ff,ff,ff,ff,ff,ff,ff,ff,ff,ff,ff,ff,ff,ff,ff,ff,ff]) rfl (by repeat (first | exact np_ret | exact np_cut | apply np_seq | apply np_block | apply np_loopN')) (pure_nilCheck rfl) rfl (by kernel_rfl) rfl rfl ?_
    refine any_pure (i := 17) (listed' := [tt,tt,tt,tt,tt,tt,tt,tt,tt,tt,tt,tt,tt,tt,tt,tt,tt,tt,ff,ff,ff,ff,ff,ff,ff,ff,ff,ff,ff,ff,ff,ff,ff,ff,ff,ff,ff,ff,ff,ff,ff,ff,ff,ff,ff,ff]) rfl (by repeat (first | exact np_ret | exact np_cut | apply np_seq | apply np_block | apply np_loopN')) (pure_fieldAddr0 rfl) rfl (by kernel_rfl) rfl rfl ?_
    refine any_load (i := 18) (listed' := [tt,tt,tt,tt,tt,tt,tt,tt,tt,tt,tt,tt,tt,tt,tt,tt,tt,tt,tt,ff,ff,ff,ff,ff,ff,ff,ff,ff,ff,ff,ff,ff,ff,ff,ff,ff,ff,ff,ff,ff,ff,ff,ff,ff,ff,ff]) rfl (by repeat (first | exact np_ret | exact np_cut | apply np_seq | apply np_block | apply np_loopN')) (load_bs rfl rfl (by repeat (first | exact List.Mem.head _ | apply List.Mem.tail)) (by rfl)) rfl (by kernel_rfl) rfl rfl ?_
    refine any_pure (i := 19) (listed' := [tt,tt,tt,tt,tt,tt,tt,tt,tt,tt,tt,tt,tt,tt,tt,tt,tt,tt,tt,tt,ff,ff,ff,ff,ff,ff,ff,ff,ff,ff,ff,ff,ff,ff,ff,ff,ff,ff,ff,ff,ff,ff,ff,ff,ff,ff]) rfl (by repeat (first | exact np_ret | exact np_cut | apply np_seq | apply np_block | apply np_loopN')) (pure_move rfl) rfl (by kernel_rfl) rfl rfl ?_
    refine any_pure (i := 20) (listed' := [tt,tt,tt,tt,tt,tt,tt,tt,tt,tt,tt,tt,tt,tt,tt,tt,tt,tt,tt,tt,tt,ff,ff,ff,ff,ff,ff,ff,ff,ff,ff,ff,ff,ff,ff,ff,ff,ff,ff,ff,ff,ff,ff,ff,ff,ff]) rfl (by repeat (first | exact np_ret | exact np_cut | apply np_seq | apply np_block | apply np_loopN')) (pure_mul_nat (n := 7) rfl rfl (by omega)) rfl (by kernel_rfl) rfl rfl ?_
    refine any_pure (i := 21) (listed' := [tt,tt,tt,tt,tt,tt,tt,tt,tt,tt,tt,tt,tt,tt,tt,tt,tt,tt,tt,tt,tt,tt,ff,ff,ff,ff,ff,ff,ff,ff,ff,ff,ff,ff,ff,ff,ff,ff,ff,ff,ff,ff,ff,ff,ff,ff]) rfl (by repeat (first | exact np_ret | exact np_cut | apply np_seq | apply np_block | apply np_loopN')) (pure_add_nat (n := 3) rfl rfl (by omega)) rfl (by kernel_rfl) rfl rfl ?_
    refine any_pure (i := 22) (listed' := [tt,tt,tt,tt,tt,tt,tt,tt,tt,tt,tt,tt,tt,tt,tt,tt,tt,tt,tt,tt,tt,tt,tt,ff,ff,ff,ff,ff,ff,ff,ff,ff,ff,ff,ff,ff,ff,ff,ff,ff,ff,ff,ff,ff,ff,ff]) rfl (by repeat (first | exact np_ret | exact np_cut | apply np_seq | apply np_block | apply np_loopN')) (pure_move rfl) rfl (by kernel_rfl) rfl rfl ?_
    refine any_pure (i := 23) (listed' := [tt,tt,tt,tt,tt,tt,tt,tt,tt,tt,tt,tt,tt,tt,tt,tt,tt,tt,tt,tt,tt,tt,tt,tt,ff,ff,ff,ff,ff,ff,ff,ff,ff,ff,ff,ff,ff,ff,ff,ff,ff,ff,ff,ff,ff,ff]) rfl (by repeat (first | exact np_ret | exact np_cut | apply np_seq | apply np_block | apply np_loopN')) (pure_nilCheck rfl) rfl (by kernel_rfl) rfl rfl ?_
    refine any_pure (i := 24) (listed' := [tt,tt,tt,tt,tt,tt,tt,tt,tt,tt,tt,tt,tt,tt,tt,tt,tt,tt,tt,tt,tt,tt,tt,tt,tt,ff,ff,ff,ff,ff,ff,ff,ff,ff,ff,ff,ff,ff,ff,ff,ff,ff,ff,ff,ff,ff]) rfl (by repeat (first | exact np_ret | exact np_cut | apply np_seq | apply np_block | apply np_loopN')) (pure_fieldAddr0 rfl) rfl (by kernel_rfl) rfl rfl ?_
    refine any_load (i := 25) (listed' := [tt,tt,tt,tt,tt,tt,tt,tt,tt,tt,tt,tt,tt,tt,tt,tt,tt,tt,tt,tt,tt,tt,tt,tt,tt,tt,ff,ff,ff,ff,ff,ff,ff,ff,ff,ff,ff,ff,ff,ff,ff,ff,ff,ff,ff,ff]) rfl (by repeat (first | exact np_ret | exact np_cut | apply np_seq | apply np_block | apply np_loopN')) (load_bs rfl rfl (by repeat (first | exact List.Mem.head _ | apply List.Mem.tail)) (by rfl)) rfl (by kernel_rfl) rfl rfl ?_
    refine any_pure (i := 26) (listed' := [tt,tt,tt,tt,tt,tt,tt,tt,tt,tt,tt,tt,tt,tt,tt,tt,tt,tt,tt,tt,tt,tt,tt,tt,tt,tt,tt,ff,ff,ff,ff,ff,ff,ff,ff,ff,ff,ff,ff,ff,ff,ff,ff,ff,ff,ff]) rfl (by repeat (first | exact np_ret | exact np_cut | apply np_seq | apply np_block | apply np_loopN')) (pure_len rfl rfl) rfl (by kernel_rfl) rfl rfl ?_
    refine any_pure (i := 27) (listed' := [tt,tt,tt,tt,tt,tt,tt,tt,tt,tt,tt,tt,tt,tt,tt,tt,tt,tt,tt,tt,tt,tt,tt,tt,tt,tt,tt,tt,ff,ff,ff,ff,ff,ff,ff,ff,ff,ff,ff,ff,ff,ff,ff,ff,ff,ff]) rfl (by repeat (first | exact np_ret | exact np_cut | apply np_seq | apply np_block | apply np_loopN')) (pure_rem_nat rfl rfl (by omega)) rfl (by kernel_rfl) rfl rfl ?_
    refine any_pure (i := 28) (listed' := [tt,tt,tt,tt,tt,tt,tt,tt,tt,tt,tt,tt,tt,tt,tt,tt,tt,tt,tt,tt,tt,tt,tt,tt,tt,tt,tt,tt,tt,ff,ff,ff,ff,ff,ff,ff,ff,ff,ff,ff,ff,ff,ff,ff,ff,ff]) rfl (by repeat (first | exact np_ret | exact np_cut | apply np_seq | apply np_block | apply np_loopN')) (pure_indexAddrN rfl rfl rfl (by first | exact hl1 | exact hl2)) rfl (by kernel_rfl) rfl rfl ?_
    refine any_load (i := 29) (listed' := [tt,tt,tt,tt,tt,tt,tt,tt,tt,tt,tt,tt,tt,tt,tt,tt,tt,tt,tt,tt,tt,tt,tt,tt,tt,tt,tt,tt,tt,tt,ff,ff,ff,ff,ff,ff,ff,ff,ff,ff,ff,ff,ff,ff,ff,ff]) rfl (by repeat (first | exact np_ret | exact np_cut | apply np_seq | apply np_block | apply np_loopN')) (load_s rfl rfl (hat2 _)) rfl (by kernel_rfl) rfl rfl ?_
    refine any_pure (i := 30) (listed' := [tt,tt,tt,tt,tt,tt,tt,tt,tt,tt,tt,tt,tt,tt,tt,tt,tt,tt,tt,tt,tt,tt,tt,tt,tt,tt,tt,tt,tt,tt,tt,ff,ff,ff,ff,ff,ff,ff,ff,ff,ff,ff,ff,ff,ff,ff]) rfl (by repeat (first | exact np_ret | exact np_cut | apply np_seq | apply np_block | apply np_loopN')) (pure_conv_i64 rfl rfl rfl (by omega) (by omega)) rfl (by kernel_rfl) rfl rfl ?_
    refine any_pure (i := 31) (listed' := [tt,tt,tt,tt,tt,tt,tt,tt,tt,tt,tt,tt,tt,tt,tt,tt,tt,tt,tt,tt,tt,tt,tt,tt,tt,tt,tt,tt,tt,tt,tt,tt,ff,ff,ff,ff,ff,ff,ff,ff,ff,ff,ff,ff,ff,ff]) rfl (by repeat (first | exact np_ret | exact np_cut | apply np_seq | apply np_block | apply np_loopN')) (pure_mul_nat (n := 1117) rfl rfl (by omega)) rfl (by kernel_rfl) rfl rfl ?_
    refine any_pure (i := 32) (listed' := [tt,tt,tt,tt,tt,tt,tt,tt,tt,tt,tt,tt,tt,tt,tt,tt,tt,tt,tt,tt,tt,tt,tt,tt,tt,tt,tt,tt,tt,tt,tt,tt,tt,ff,ff,ff,ff,ff,ff,ff,ff,ff,ff,ff,ff,ff]) rfl (by repeat (first | exact np_ret | exact np_cut | apply np_seq | apply np_block | apply np_loopN')) (pure_add_nat rfl rfl (by omega)) rfl (by kernel_rfl) rfl rfl ?_
    refine any_pure (i := 33) (listed' := [tt,tt,tt,tt,tt,tt,tt,tt,tt,tt,tt,tt,tt,tt,tt,tt,tt,tt,tt,tt,tt,tt,tt,tt,tt,tt,tt,tt,tt,tt,tt,tt,tt,tt,ff,ff,ff,ff,ff,ff,ff,ff,ff,ff,ff,ff]) rfl (by repeat (first | exact np_ret | exact np_cut | apply np_seq | apply np_block | apply np_loopN')) (pure_move rfl) rfl (by kernel_rfl) rfl rfl ?_
    refine any_pure (i := 34) (listed' := [tt,tt,tt,tt,tt,tt,tt,tt,tt,tt,tt,tt,tt,tt,tt,tt,tt,tt,tt,tt,tt,tt,tt,tt,tt,tt,tt,tt,tt,tt,tt,tt,tt,tt,tt,ff,ff,ff,ff,ff,ff,ff,ff,ff,ff,ff]) rfl (by repeat (first | exact np_ret | exact np_cut | apply np_seq | apply np_block | apply np_loopN')) (pure_mul_nat (n := 29) rfl rfl (by omega)) rfl (by kernel_rfl) rfl rfl ?_
    refine any_pure (i := 35) (listed' := [tt,tt,tt,tt,tt,tt,tt,tt,tt,tt,tt,tt,tt,tt,tt,tt,tt,tt,tt,tt,tt,tt,tt,tt,tt,tt,tt,tt,tt,tt,tt,tt,tt,tt,tt,tt,ff,ff,ff,ff,ff,ff,ff,ff,ff,ff]) rfl (by repeat (first | exact np_ret | exact np_cut | apply np_seq | apply np_block | apply np_loopN')) (pure_add_nat rfl rfl (by omega)) rfl (by kernel_rfl) rfl rfl ?_
    refine any_pure (i := 36) (listed' := [tt,tt,tt,tt,tt,tt,tt,tt,tt,tt,tt,tt,tt,tt,tt,tt,tt,tt,tt,tt,tt,tt,tt,tt,tt,tt,tt,tt,tt,tt,tt,tt,tt,tt,tt,tt,tt,ff,ff,ff,ff,ff,ff,ff,ff,ff]) rfl (by repeat (first | exact np_ret | exact np_cut | apply np_seq | apply np_block | apply np_loopN')) (pure_move rfl) rfl (by kernel_rfl) rfl rfl ?_
    refine any_pure (i := 37) (listed' := [tt,tt,tt,tt,tt,tt,tt,tt,tt,tt,tt,tt,tt,tt,tt,tt,tt,tt,tt,tt,tt,tt,tt,tt,tt,tt,tt,tt,tt,tt,tt,tt,tt,tt,tt,tt,tt,tt,ff,ff,ff,ff,ff,ff,ff,ff]) rfl (by repeat (first | exact np_ret | exact np_cut | apply np_seq | apply np_block | apply np_loopN')) (pure_move rfl) rfl (by kernel_rfl) rfl rfl ?_
    refine any_pure (i := 38) (listed' := [tt,tt,tt,tt,tt,tt,tt,tt,tt,tt,tt,tt,tt,tt,tt,tt,tt,tt,tt,tt,tt,tt,tt,tt,tt,tt,tt,tt,tt,tt,tt,tt,tt,tt,tt,tt,tt,tt,tt,ff,ff,ff,ff,ff,ff,ff]) rfl (by repeat (first | exact np_ret | exact np_cut | apply np_seq | apply np_block | apply np_loopN')) (pure_nilCheck rfl) rfl (by kernel_rfl) rfl rfl ?_
    refine any_pure (i := 39) (listed' := [tt,tt,tt,tt,tt,tt,tt,tt,tt,tt,tt,tt,tt,tt,tt,tt,tt,tt,tt,tt,tt,tt,tt,tt,tt,tt,tt,tt,tt,tt,tt,tt,tt,tt,tt,tt,tt,tt,tt,tt,ff,ff,ff,ff,ff,ff]) rfl (by repeat (first | exact np_ret | exact np_cut | apply np_seq | apply np_block | apply np_loopN')) (pure_fieldAddr0 rfl) rfl (by kernel_rfl) rfl rfl ?_
    refine any_load (i := 40) (listed' := [tt,tt,tt,tt,tt,tt,tt,tt,tt,tt,tt,tt,tt,tt,tt,tt,tt,tt,tt,tt,tt,tt,tt,tt,tt,tt,tt,tt,tt,tt,tt,tt,tt,tt,tt,tt,tt,tt,tt,tt,tt,ff,ff,ff,ff,ff]) rfl (by repeat (first | exact np_ret | exact np_cut | apply np_seq | apply np_block | apply np_loopN')) (load_bs rfl rfl (by repeat (first | exact List.Mem.head _ | apply List.Mem.tail)) (by rfl)) rfl (by kernel_rfl) rfl rfl ?_
    refine any_pure (i := 41) (listed' := [tt,tt,tt,tt,tt,tt,tt,tt,tt,tt,tt,tt,tt,tt,tt,tt,tt,tt,tt,tt,tt,tt,tt,tt,tt,tt,tt,tt,tt,tt,tt,tt,tt,tt,tt,tt,tt,tt,tt,tt,tt,tt,ff,ff,ff,ff]) rfl (by repeat (first | exact np_ret | exact np_cut | apply np_seq | apply np_block | apply np_loopN')) (pure_len rfl rfl) rfl (by kernel_rfl) rfl rfl ?_
    refine any_pure (i := 42) (listed' := [tt,tt,tt,tt,tt,tt,tt,tt,tt,tt,tt,tt,tt,tt,tt,tt,tt,tt,tt,tt,tt,tt,tt,tt,tt,tt,tt,tt,tt,tt,tt,tt,tt,tt,tt,tt,tt,tt,tt,tt,tt,tt,tt,ff,ff,ff]) rfl (by repeat (first | exact np_ret | exact np_cut | apply np_seq | apply np_block | apply np_loopN')) (pure_quo_nat rfl rfl (by omega) (by omega)) rfl (by kernel_rfl) rfl rfl ?_
    refine any_pure (i := 43) (listed' := [tt,tt,tt,tt,tt,tt,tt,tt,tt,tt,tt,tt,tt,tt,tt,tt,tt,tt,tt,tt,tt,tt,tt,tt,tt,tt,tt,tt,tt,tt,tt,tt,tt,tt,tt,tt,tt,tt,tt,tt,tt,tt,tt,tt,ff,ff]) rfl (by repeat (first | exact np_ret | exact np_cut | apply np_seq | apply np_block | apply np_loopN')) (pure_mul_nat (n := 53) rfl rfl (by omega)) rfl (by kernel_rfl) rfl rfl ?_
    refine any_pure (i := 44) (listed' := [tt,tt,tt,tt,tt,tt,tt,tt,tt,tt,tt,tt,tt,tt,tt,tt,tt,tt,tt,tt,tt,tt,tt,tt,tt,tt,tt,tt,tt,tt,tt,tt,tt,tt,tt,tt,tt,tt,tt,tt,tt,tt,tt,tt,tt,ff]) rfl (by repeat (first | exact np_ret | exact np_cut | apply np_seq | apply np_block | apply np_loopN')) (pure_add_nat rfl rfl (by omega)) rfl (by kernel_rfl) rfl rfl ?_
    refine any_pure (i := 45) (listed' := [tt,tt,tt,tt,tt,tt,tt,tt,tt,tt,tt,tt,tt,tt,tt,tt,tt,tt,tt,tt,tt,tt,tt,tt,tt,tt,tt,tt,tt,tt,tt,tt,tt,tt,tt,tt,tt,tt,tt,tt,tt,tt,tt,tt,tt,tt]) rfl (by repeat (first | exact np_ret | exact np_cut | apply np_seq | apply np_block | apply np_loopN')) (pure_assign rfl) rfl (by kernel_rfl) rfl rfl ?_
    refine any_done (by kernel_rfl) ?_
    refine nrm_seq ?_
    refine tri_seq ?_
    refine tri_region ?_
    refine seq_pure (pure_move rfl) rfl rfl ?_
    refine seq_pure (pure_move rfl) rfl rfl ?_
    refine seq_pure (pure_quo_nat (n := 64) rfl rfl (by omega) (by omega)) rfl rfl ?_
    refine seq_pure (pure_xor_nat rfl rfl (by omega) (by omega)) rfl rfl ?_
    refine seq_pure (pure_assign rfl) rfl rfl ?_
    refine seq_done ?_
    refine nrm_seq ?_
    refine tri_seq ?_
    refine tri_region ?_
    refine seq_pure (pure_move rfl) rfl rfl ?_
    refine seq_pure (pure_move rfl) rfl rfl ?_
    refine seq_pure (pure_rem rfl rfl (by omega)) rfl rfl ?_
    refine seq_pure (pure_assign rfl) rfl rfl ?_
    refine seq_done ?_
    refine nrm_seq ?_
    refine tri_ret ?_
    refine ret_own1 (res_tmp rfl) SubH.refl ?_
    exact ⟨rfl, rfl, _, rfl, Int.tmod_nonneg _ (by omega), fun h => Int.tmod_lt_of_pos _ (by omega)⟩
end Gw
end Go.Proofs.Yteneckdjdfnjoaa
namespace Go.Proofs.Yteneckdjdfnjoaa
open Go Go.RowKit Go.ChangeShapes Go.WideShapes Go.ChangeAt
namespace Gw
/-- All that is there. -/
def GW (w : World) : IM := fun b => match w.heap[b]? with
 | some (.cells c _ _) => some c.toList
 | _ => none
theorem own_GW (w : World) : Own [] (GW w) w := by
 refine ⟨?_, by simp, by simp [Fp], by simp [Fp]⟩
 intro b l h
 unfold GW at h
 split at h
 ·rename_i c e f hb; cases h; exact ⟨e, f, by simpa using hb⟩
 ·cases h
theorem cell_GW {w : World} {b o : Nat} {v : Value} (h : w.cell? ⟨b, o, none⟩ = some v) : ∃ full, GW w b = some full ∧ full[o]? = some v := by
 unfold World.cell? at h
 simp only at h
 split at h
 ·rename_i c e f hb
  exact ⟨c.toList, by simp [GW, hb], by simpa using h⟩
 ·cases h
theorem flat_inv {sz : Nat} : ∀ {es : List (List Value)}, (∀ e ∈ es, e.length = sz) → ∀ {j : Nat} {v : Value}, es.flatten[j]? = some v → ∃ i e r, es[i]? = some e ∧ e[r]? = some v ∧ j = i * sz + r
 | [], _, j, v, h => by simp at h
 | a :: es, hall, j, v, h => by
  have ha := hall a List.mem_cons_self
  rw [List.flatten_cons, List.getElem?_append] at h
  split at h
  ·exact ⟨0, a, j, rfl, h, by simp⟩
  ·rename_i hj
   obtain ⟨i, e, r, h1, h2, h3⟩ := flat_inv (fun x hx => hall x (List.mem_cons_of_mem _ hx)) h
   exact ⟨i + 1, e, r, by simpa using h1, h2, by rw [Nat.succ_mul]; omega⟩
theorem sl_read {w : World} {a : Addr} {n c sz : Nat} {es : List (List Value)} (hl : es.length = n) (hsz : 0 < sz) (hc : n ≤ c) (hm : c ≤ maxLen) (h : ∀ i e, es[i]? = some e → w.cells? 0 (a.add (i * sz)) sz = some e) : Sl (GW w) (some a) n c sz es.flatten := by
 have hall : ∀ e ∈ es, e.length = sz := by
  intro e he
  obtain ⟨i, hi⟩ := List.getElem?_of_mem he
  exact (World.cells?_some (h i e hi)).2.1
 refine ⟨by rw [flat_len hall, hl], hc, hm, ?_⟩
 rcases Nat.eq_zero_or_pos n with h0 | h0
 ·exact .inl h0
 ·right
  obtain ⟨b, o, s⟩ := a
  have hs : s = none := by
   have h1 := (World.cells?_some (h 0 es[0] (List.getElem?_eq_getElem (by omega)))).2
   have h2 := h1.2 0 hsz
   rw [List.getElem?_eq_getElem (by omega)] at h2
   simp only [Nat.zero_mul, Addr.add, if_true] at h2
   unfold World.cell? at h2
   split at h2
   ·split at h2
    ·cases h2
    ·rename_i hn; cases s with
     | none => rfl
     | some x => simp at hn
   ·cases h2
  subst hs
  have key : ∀ j v, es.flatten[j]? = some v → w.cell? ⟨b, o + j, none⟩ = some v := by
   intro j v hj
   obtain ⟨i, e, r, h1, h2, rfl⟩ := flat_inv hall hj
   have h3 := (World.cells?_some (h i e h1)).2
   have hr : r < e.length := (List.getElem?_eq_some_iff.1 h2).1
   have h4 := h3.2 r (by omega)
   rw [h2, add_none, add_none] at h4
   rw [← Nat.add_assoc]; exact h4
  have hpos : 0 < es.flatten.length := by rw [flat_len hall, hl]; exact Nat.mul_pos h0 hsz
  obtain ⟨full, hg, _⟩ := cell_GW (key 0 es.flatten[0] (List.getElem?_eq_getElem hpos))
  refine ⟨b, o, full, rfl, hg, fun j v hj => ?_⟩
  obtain ⟨full', hg', hv⟩ := cell_GW (key j v hj)
  rw [hg] at hg'; cases hg'; exact hv
theorem RTyL.snoc {G : IM} : ∀ {ts : List Ty} {es : List (List Value)} {t : Ty} {e : List Value}, RTyL G ts es → RTy G t e → RTyL G (ts ++ [t]) (es ++ [e])
 | [], es, t, e, h, h2 => by
  simp only [RTyL] at h; subst h
  simp only [List.nil_append, RTyL]
  exact ⟨e, [], rfl, h2, rfl⟩
 | t' :: ts, es, t, e, h, h2 => by
  simp only [RTyL] at h
  obtain ⟨a, r, rfl, h3, h4⟩ := h
  simp only [List.cons_append, RTyL]
  exact ⟨a, r ++ [e], rfl, h3, RTyL.snoc h4 h2⟩
theorem RTmL.snoc {G : IM} : ∀ {ts : List Tm} {es : List (List Value)} {t : Tm} {e : List Value}, RTmL G ts es → RTm G t e → RTmL G (ts ++ [t]) (es ++ [e])
 | [], es, t, e, h, h2 => by
  simp only [RTmL] at h; subst h
  simp only [List.nil_append, RTmL]
  exact ⟨e, [], rfl, h2, rfl⟩
 | t' :: ts, es, t, e, h, h2 => by
  simp only [RTmL] at h
  obtain ⟨a, r, rfl, h3, h4⟩ := h
  simp only [List.cons_append, RTmL]
  exact ⟨a, r ++ [e], rfl, h3, RTmL.snoc h4 h2⟩
theorem RTyL.each {G : IM} {ts : List Ty} {es : List (List Value)} (h : RTyL G ts es) : ∀ e ∈ es, e.length = 2 ∧ e.all (·.oneCell') = true := by
 intro e he
 obtain ⟨i, hi⟩ := List.getElem?_of_mem he
 have := (h.inv hi ty0).2
 exact ⟨this.len, this.one⟩
theorem RTmL.each {G : IM} {ts : List Tm} {es : List (List Value)} (h : RTmL G ts es) : ∀ e ∈ es, e.length = 9 ∧ e.all (·.oneCell') = true := by
 intro e he
 obtain ⟨i, hi⟩ := List.getElem?_of_mem he
 have := (h.inv hi (.mk 0 ⟨#[]⟩ 0 ty0 ty0 0 [])).2
 exact ⟨this.len, this.one⟩
section read
variable {H : Type} {enc : TypeId × Value → H} {w : World} {sp : Nat → Bool} {held : Bool}
end read
theorem Ext.below {w w' : World} (h : Ext (Fp []) w w') : Below w.heap.size w w' := ⟨h.os, h.tape, h.output, h.size, fun k hk => h.block k hk (by simp [Fp])⟩
section post
variable {H : Type} {enc : TypeId × Value → H} {P : Program}
/-- Nothing that was there has turned: the arguments read as they did. -/
theorem post_below {f : Func} {s : ChangeSpec} {apart fresh handsOn again : Bool} {W W' : World} {args : Array Value} {v : Value} {ds gs : List (DataW H)} {before : List MemPlace}
  (hW : DataW.Whole enc P f.params.toList s.vars apart W args.toList ds gs before) (hb : Below W.heap.size W W') (hgs : s.vars = [])
  (hres : ∀ (b : Nat) (sp : Nat → Bool) (hd : Bool), DataW.TrodAll enc P W' b sp hd f.resultTypes.toList (v.resultList f.resultTypes.size) (s.fn H (ds ++ gs)).results [])
  (hargs : ∀ sp : Nat → Bool, (∀ p ∈ before, sp p.block = true) → DataW.TrodAll enc P W' 0 sp true f.params.toList args.toList (s.fn H (ds ++ gs)).args before)
  (hv : (s.fn H (ds ++ gs)).vars = [])
  (hok : ∀ (j : Nat) (t : TypeId) (r : Value), f.resultTypes[j]? = some t → (v.resultList f.resultTypes.size)[j]? = some r → Value.okWide P W' .any 0 t r) :
  s.post enc P f apart fresh handsOn again W args v W' := by
 have hold : ∀ p ∈ before, (fun b => decide (b < W.heap.size)) p.block = true := fun p hp => by simpa using hW.lt p hp
 have hvars : ∀ sp : Nat → Bool, DataW.TrodVars enc P W' sp s.vars (s.fn H (ds ++ gs)).vars [] := fun sp => by rw [hgs, hv]; rfl
 have hkept : W.keptBut W' (fun _ => False) := by
  refine ⟨hb.os, hb.output, fun i hi => ?_⟩
  rw [hb.block i hi]
  split
  ·rename_i h1 h2; cases h1.symm.trans h2; exact ⟨rfl, rfl, rfl, fun _ _ => rfl⟩
  ·rename_i h1 h2; cases h1.symm.trans h2; exact .inr ⟨rfl, rfl⟩
  ·rfl
 refine ⟨ds, gs, before, [], before, [], hW, hres _ _ _, hargs _ hold, hvars _, World.keptBut_mono (fun p hp => hp.elim) hkept, fun _ => ?_⟩
 obtain ⟨_, _, _, _, _, hz, hn⟩ := hW
 refine ⟨hok, _, _, ([] ++ before) ++ [], ⟨[] ++ before, [], trodAll_append (hargs _ (fun _ _ => rfl)) (hres _ _ _), hvars _, rfl, ?_, ?_⟩, ?_⟩
 ·intro b off hp
  have hp' : MemPlace.cell b off ∈ before := by simpa using hp
  have hlt : b < W.heap.size := of_decide_eq_true (hold _ hp')
  have := hz b off hp'
  unfold World.frozen? at this ⊢
  simp only [hb.block b hlt]
  exact this
 ·intro ha; simpa using hn ha
 ·intro p hp _; simpa using hp
end post
end Gw
end Go.Proofs.Yteneckdjdfnjoaa
namespace Go.Proofs.Yteneckdjdfnjoaa
open Go Go.RowKit
namespace Gw
structure cutK {ι : Type} (S : ι → Sy) (φ : ι → Prop) (e : Exit) (σ : Sy) : Prop where
 run : match e with
  | .normal => ∃ i, φ i ∧ Sub σ (S i)
  | _ => False
section cut
variable {P : Program} {Γ : Ctx} {K : Po} {σ : Sy} {ι : Type}
/-- All that comes behind a piece of code is walked once. -/
theorem tri_cut {c y : Code} (S : ι → Sy) (φ : ι → Prop) (h : Tri P Γ c (cutK S φ) σ) (k : ∀ i, φ i → Tri P Γ y K (S i)) : Tri P Γ c (seqK P Γ y K) σ := by
 refine tri_post h ?_
 rintro e σ ⟨hk⟩
 cases e with
 | normal => obtain ⟨i, hi, hs⟩ := hk; exact ⟨tri_sub hs (k i hi)⟩
 | _ => exact hk.elim
where
 tri_post {c : Code} {K K' : Po} {σ : Sy} (h : Tri P Γ c K σ) (hk : ∀ e σ, K e σ → K' e σ) : Tri P Γ c K' σ := tri_mono h hk
theorem nrm_cut {S : ι → Sy} {φ : ι → Prop} {σ : Sy} (i : ι) (hs : Sub σ (S i)) (h : φ i) : cutK S φ .normal σ := ⟨⟨i, h, hs⟩⟩
theorem np_cut {S : ι → Sy} {φ : ι → Prop} : noPanic (cutK S φ) := fun _ _ h => h.run
end cut
end Gw
end Go.Proofs.Yteneckdjdfnjoaa
namespace Go.Proofs.Yteneckdjdfnjoaa
open Go Go.RowKit
namespace Gw
def tyAny : Ty := .mk 1 []
/-- A type of at most that height whose nodes have the operands that they must have. -/
def tAh : Nat → Ty → Prop
 | 0, .mk k ks => ks = [] ∧ k ≠ 4 ∧ k ≠ 5
 | n + 1, .mk k ks => (k = 4 ∨ k = 5 → ks.length = 2) ∧ (k ≠ 4 → k ≠ 5 → ks.length = 0) ∧ ∀ t ∈ ks, tAh n t
mutual
/-- The nodes have the operands that they must have. -/
def tAr : Ty → Prop
 | .mk k ks => (k = 4 ∨ k = 5 → ks.length = 2) ∧ (k ≠ 4 → k ≠ 5 → ks.length = 0) ∧ tArL ks
def tArL : List Ty → Prop
 | [] => True
 | t :: ts => tAr t ∧ tArL ts
end
theorem tArL_mem : ∀ {ts : List Ty}, tArL ts ↔ ∀ t ∈ ts, tAr t
 | [] => by simp [tArL]
 | t :: ts => by simp only [tArL, tArL_mem (ts := ts), List.forall_mem_cons]
theorem tAh.ar : ∀ {n : Nat} {t : Ty}, tAh n t → tAr t
 | 0, .mk k ks, h => by
  obtain ⟨rfl, h1, h2⟩ := h
  rw [tAr]
  exact ⟨fun h => by omega, fun _ _ => rfl, by rw [tArL]; trivial⟩
 | n + 1, .mk k ks, h => by
  obtain ⟨h1, h2, h3⟩ := h
  rw [tAr]
  exact ⟨h1, h2, tArL_mem.2 fun t ht => (h3 t ht).ar⟩
theorem tAh.up : ∀ {n : Nat} {t : Ty}, tAh n t → tAh (n + 1) t
 | 0, .mk k ks, h => by
  obtain ⟨rfl, h1, h2⟩ := h
  exact ⟨fun h => by omega, fun _ _ => rfl, by simp⟩
 | n + 1, .mk k ks, h => by
  obtain ⟨h1, h2, h3⟩ := h
  exact ⟨h1, h2, fun t ht => (h3 t ht).up⟩
theorem tAh.le {n m : Nat} {t : Ty} (h : tAh n t) (hm : n ≤ m) : tAh m t := by
 induction hm with
 | refl => exact h
 | step _ ih => exact ih.up
theorem tAh_mk {d : Nat} {k : Int} {ts : List Ty} (h0 : d = 0 → k < 4) (hl : (ts.length : Int) = tyOps k) (h1 : 1 ≤ k) (h5 : k ≤ 5) (ha : ∀ u ∈ ts, tAh (d - 1) u) : tAh d (.mk k ts) := by
 have hk : k = 1 ∨ k = 2 ∨ k = 3 ∨ k = 4 ∨ k = 5 := by omega
 cases d with
 | zero =>
  have hk4 := h0 rfl
  refine ⟨?_, by omega, by omega⟩
  have : tyOps k = 0 := by
   rcases hk with rfl | rfl | rfl | rfl | rfl <;> first | rfl | omega
  exact List.length_eq_zero_iff.1 (by omega)
 | succ d =>
  refine ⟨?_, ?_, ha⟩
  ·rintro (rfl | rfl)
   ·have : tyOps 4 = 2 := rfl
    omega
   ·have : tyOps 5 = 2 := rfl
    omega
  ·intro h4 h5
   have : tyOps k = 0 := by
    rcases hk with rfl | rfl | rfl | rfl | rfl <;> first | rfl | omega
   omega
theorem tAh_any (n : Nat) : tAh n tyAny := by
 refine tAh.le (n := 0) ⟨rfl, by decide, by decide⟩ (Nat.zero_le n)
theorem tAh_leaf (n : Nat) {k : Int} (h4 : k ≠ 4) (h5 : k ≠ 5) : tAh n (.mk k []) := tAh.le (n := 0) ⟨rfl, h4, h5⟩ (Nat.zero_le n)
theorem tAr_any : tAr tyAny := (tAh_any 0).ar
mutual
theorem tAr.small : ∀ {t : Ty}, tAr t → t.small
 | .mk k ks, h => by
  rw [tAr] at h
  rw [Ty.small]
  exact ⟨by have h1 := h.1; have h2 := h.2.1; omega, tArL.small h.2.2⟩
theorem tArL.small : ∀ {ts : List Ty}, tArL ts → Ty.smallL ts
 | [], _ => by rw [Ty.smallL]; trivial
 | t :: ts, h => by
  rw [tArL] at h
  rw [Ty.smallL]
  exact ⟨h.1.small, tArL.small h.2⟩
end
theorem tAh_sz : ∀ {n : Nat} {t : Ty}, tAh n t → szTy t ≤ ((2 ^ (n + 1) - 2 : Nat) : Int)
 | 0, .mk k ks, h => by
  obtain ⟨rfl, h1, h2⟩ := h
  rw [szTy, sumTy]; simp
 | n + 1, .mk k ks, h => by
  obtain ⟨h1, h2, h3⟩ := h
  have hp : 2 ≤ 2 ^ (n + 1) := by
   have := Nat.pow_le_pow_right (n := 2) (by omega) (show 1 ≤ n + 1 by omega)
   simpa using this
  have e : 2 ^ (n + 1 + 1) = 2 ^ (n + 1) * 2 := Nat.pow_succ ..
  have hl : ks.length = 0 ∨ ks.length = 2 := by omega
  rw [szTy]
  match ks, hl, h3 with
  | [], _, _ => rw [sumTy]; simp
  | [a, b], _, h3 =>
   have := tAh_sz (h3 a (by simp))
   have := tAh_sz (h3 b (by simp))
   simp only [sumTy, List.length_cons, List.length_nil]; omega
theorem tAh_like {k : Int} {ks us : List Ty} : ∀ {n : Nat}, tAh n (.mk k ks) → us.length = ks.length → (∀ u ∈ us, tAh (n - 1) u) → tAh n (.mk k us)
 | 0, h, hl, _ => by
  obtain ⟨rfl, h1, h2⟩ := h
  exact ⟨List.length_eq_zero_iff.1 (by simpa using hl), h1, h2⟩
 | n + 1, h, hl, hu => by
  obtain ⟨h1, h2, h3⟩ := h
  exact ⟨fun hk => by rw [hl]; exact h1 hk, fun a b => by rw [hl]; exact h2 a b, hu⟩
theorem tAh_kid {k : Int} {ks : List Ty} {t : Ty} : ∀ {n : Nat}, tAh n (.mk k ks) → t ∈ ks → tAh (n - 1) t
 | 0, h, ht => by
  obtain ⟨rfl, h1, h2⟩ := h
  simp at ht
 | n + 1, h, ht => h.2.2 t ht
end Gw
end Go.Proofs.Yteneckdjdfnjoaa
namespace Go.Proofs.Yteneckdjdfnjoaa
open Go Go.RowKit
namespace Gw
section take
variable {P : Program} {Γ : Ctx} {env : Env} {hp : List Ent} {G : IM} {K : Po} {ops : Array Oper} {rest : List Oper} {ty : TypeId} {pos : String} {af : Array Edge} {gd : Option (Nat × Bool)}
theorem seq_take {d : Nat} {f : FuncId} [hF : FunI P f] {xs : List Operand} {ats : Array TypeId} {vs : List Value} {ins rst : List Ent} {post : IM → Value → List Ent → Prop}
  (hx : evl env xs = some vs) (h : Fn P f vs ins G post) (hp' : hp.Perm (ins ++ rst)) (hw : wantG ops env gd = some true) (hd : Nat.blt d Γ.n = true)
  (k : ∀ v G' outs, IMle G G' → post G' v outs → TriL P Γ ops rest K ⟨(d, v) :: env, outs ++ rst, G'⟩) : TriL P Γ ops (⟨some d, .call ⟨.value (.func f), ⟨xs⟩, ats⟩, ty, pos, af, gd⟩ :: rest) K ⟨env, hp, G⟩ :=
 seq_step (step_call_own hx h hp' hd) hw (by rintro _ ⟨v, G', outs, rfl, hle, hq⟩; exact k v G' outs hle hq)
end take
set_option maxRecDepth 100000 in
theorem num_fn (G : IM) (br : Nat) (pb : Option Addr) (nb cb p : Nat) (bs : List UInt8) (q : Option Addr) (n c : Nat) (xs : List Value) (hb : Sl G pb nb cb 1 (byts bs)) (hnb : nb ≤ 2000) (hp : p < 1099511627776) (hx : Sl G q n c 1 xs) (hn : 0 < n) :
  Fn Try.prog 57 [.pointer (some ⟨br, 0, none⟩), .slice q n c] [rd br pb nb cb p] G (fun G' v outs => G' = G ∧ outs = [rd br pb nb cb (p + 1)] ∧ v ∈ xs) := by
 refine fn_enter Try.func57 rfl Try.ntmps57 Try.results57 rfl ?_
 intro w0
 refine tri_seq ?_
 refine tri_region ?_
 refine seq_pure (pure_assign rfl) rfl rfl ?_
 refine seq_done ?_
 refine nrm_seq ?_
 refine tri_seq ?_
 refine tri_region ?_
 refine seq_pure (pure_move rfl) rfl rfl ?_
 refine seq_pure (pure_move rfl) rfl rfl ?_
 refine seq_pure (pure_move rfl) rfl rfl ?_
 refine seq_pure (pure_len rfl rfl) rfl rfl ?_
 (refine seq_take rfl (pick_fn G br pb nb cb p bs (n : Int) hb hnb hp) (List.Perm.refl _) rfl rfl (fun v G1 outs hle1 hh => ?_); obtain ⟨rfl, rfl, k, rfl, hk0, hkn⟩ := hh; obtain ⟨j, rfl⟩ := Int.eq_ofNat_of_zero_le hk0)
 (obtain ⟨b, o, v, rfl, hv, hat, _⟩ := hx.kid (i := j) (by omega); refine seq_pure (pure_indexAddrN rfl rfl rfl (by omega)) rfl rfl ?_)
 refine seq_load (load_s rfl rfl (hat _)) rfl rfl ?_
 refine seq_pure (pure_assign rfl) rfl rfl ?_
 refine seq_done ?_
 refine nrm_seq ?_
 refine tri_ret ?_
 refine ret_own1 (res_tmp rfl) SubH.refl ?_
 exact ⟨rfl, rfl, List.mem_of_getElem? hv⟩
set_option maxRecDepth 100000 in
theorem of_fn (G : IM) (br : Nat) (pb : Option Addr) (nb cb p : Nat) (bs : List UInt8) (q : Option Addr) (n c : Nat) (xs : List Value) (hb : Sl G pb nb cb 1 (byts bs)) (hnb : nb ≤ 2000) (hp : p < 1099511627776) (hx : Sl G q n c 1 xs) (hn : 0 < n) :
  Fn Try.prog 79 [.pointer (some ⟨br, 0, none⟩), .slice q n c] [rd br pb nb cb p] G (fun G' v outs => G' = G ∧ outs = [rd br pb nb cb (p + 1)] ∧ v ∈ xs) := by
 refine fn_enter Try.func79 rfl Try.ntmps79 Try.results79 rfl ?_
 intro w0
 refine tri_seq ?_
 refine tri_region ?_
 refine seq_pure (pure_assign rfl) rfl rfl ?_
 refine seq_done ?_
 refine nrm_seq ?_
 refine tri_seq ?_
 refine tri_region ?_
 refine seq_pure (pure_move rfl) rfl rfl ?_
 refine seq_pure (pure_move rfl) rfl rfl ?_
 refine seq_pure (pure_move rfl) rfl rfl ?_
 refine seq_pure (pure_len rfl rfl) rfl rfl ?_
 (refine seq_take rfl (pick_fn G br pb nb cb p bs (n : Int) hb hnb hp) (List.Perm.refl _) rfl rfl (fun v G1 outs hle1 hh => ?_); obtain ⟨rfl, rfl, k, rfl, hk0, hkn⟩ := hh; obtain ⟨j, rfl⟩ := Int.eq_ofNat_of_zero_le hk0)
 (obtain ⟨b, o, v, rfl, hv, hat, _⟩ := hx.kid (i := j) (by omega); refine seq_pure (pure_indexAddrN rfl rfl rfl (by omega)) rfl rfl ?_)
 refine seq_load (load_s rfl rfl (hat _)) rfl rfl ?_
 refine seq_pure (pure_assign rfl) rfl rfl ?_
 refine seq_done ?_
 refine nrm_seq ?_
 refine tri_ret ?_
 refine ret_own1 (res_tmp rfl) SubH.refl ?_
 exact ⟨rfl, rfl, List.mem_of_getElem? hv⟩
theorem l1Any_fn (G : IM) : Fn Try.prog 76 [] [] G (Val (.agg ⟨[.int .i64 1, .slice none 0 0]⟩) G) := by
 refine fn_enter Try.func76 rfl Try.ntmps76 Try.results76 rfl ?_
 intro w0
 refine tri_seq ?_
 refine tri_region ?_
 (refine seq_step (step_alloc rfl) rfl ?_; rintro _ ⟨b3, rfl⟩)
 refine seq_done ?_
 refine nrm_seq ?_
 refine tri_seq ?_
 refine tri_region ?_
 refine seq_pure (pure_build rfl rfl) rfl rfl ?_
 refine seq_store rfl rfl rfl rfl rfl rfl (by repeat (first | exact Sw.here | apply Sw.there)) (by rfl) ?_
 refine seq_done ?_
 refine nrm_seq ?_
 refine tri_ret ?_
 refine ret_fin1 (res_cell rfl (load_ba rfl rfl (by repeat (first | exact List.Mem.head _ | apply List.Mem.tail)) (by rfl))) ?_
 exact ⟨rfl, rfl, rfl⟩
/-- How big a drawn type is. -/
def dB : Nat → Nat
 | 0 => 0
 | d + 1 => 2 * dB d + 2
theorem dB_le {d : Nat} (h : d ≤ 3) : dB (d + 1) ≤ 30 := by
 have : d = 0 ∨ d = 1 ∨ d = 2 ∨ d = 3 := by omega
 rcases this with rfl | rfl | rfl | rfl <;> decide
theorem tyOps_le (k : Int) : tyOps k ≤ 2 := by
 unfold tyOps; split <;> try split
 all_goals omega
theorem sumTy_snoc : ∀ (ts : List Ty) (t : Ty), sumTy (ts ++ [t]) = sumTy ts + szTy t
 | [], t => by simp [sumTy]
 | a :: ts, t => by simp only [List.cons_append, sumTy, sumTy_snoc ts t]; omega
theorem RTyL.ty {G : IM} {k : Int} {ts : List Ty} {es : List (List Value)} {p : Option Addr} {n c : Nat} (h : RTyL G ts es) (hn : ts.length = n) (hs : Sl G p n c 2 es.flatten) (hk : I64 k) : RTy G (.mk k ts) [.int .i64 k, .slice p n c] := by
 subst hn
 simp only [RTy]
 exact ⟨p, c, es, rfl, hk, SlE.of hs h.len h.all (fun e he => (h.each e he).2), h⟩
set_option maxHeartbeats 0 in
set_option maxRecDepth 100000 in
theorem l1DrawA_fn (br : Nat) (pb : Option Addr) (nb cb : Nat) (bs : List UInt8) (hnb : nb ≤ 2000) : ∀ (d p : Nat) (G : IM), d ≤ 1000 → Sl G pb nb cb 1 (byts bs) → p + dB (d + 1) < 1099511627776 →
  Fn Try.prog 74 [.pointer (some ⟨br, 0, none⟩), .int .i64 ((d + 1 : Nat) : Int)] [rd br pb nb cb p] G
   (Drew br pb nb cb p (dB (d + 1)) (fun G' v => ∃ t cells, v = .agg ⟨cells⟩ ∧ RTy G' t cells ∧ szTy t ≤ ((dB (d + 1) : Nat) : Int) ∧ tAh d t)) := by
 refine fun d => Nat.strongRecOn d fun d ih p G hd hb hp => ?_
 rw [dB] at hp ⊢
 refine fn_enter Try.func74 rfl Try.ntmps74 Try.results74 rfl ?_
 intro w0
 refine tri_seq ?_
 refine tri_region ?_
 (refine seq_step (step_alloc rfl) rfl ?_; rintro _ ⟨b3, rfl⟩)
 refine seq_done ?_
 refine nrm_seq ?_
 refine tri_seq ?_
 refine tri_region ?_
 refine seq_pure (pure_move rfl) rfl rfl ?_
 (refine seq_step (step_buildSlice rfl rfl rfl (by omega) (by unfold maxLen; omega) rfl) rfl ?_; rintro _ ⟨b9, rfl⟩)
 (refine triL_freeze (by repeat (first | exact Pk.here | apply Pk.there)) (fun G1 hle1 hsl1 _ => ?_); refine seq_take rfl (num_fn G1 br pb nb cb p bs _ _ _ _ (hb.mono hle1) hnb (by omega) hsl1 (by decide)) (Pk.perm (by repeat (first | exact Pk.here | apply Pk.there))) rfl rfl (fun v G2 outs hle2 hh => ?_); obtain ⟨rfl, rfl, hv⟩ := hh; replace hb := hb.mono hle1; obtain ⟨k, rfl, hk1⟩ : ∃ k, v = .int .i64 k ∧ 1 ≤ k ∧ k ≤ 5 := (by simp only [List.mem_cons, List.not_mem_nil, or_false] at hv; rcases hv with rfl | rfl | rfl | rfl | rfl | rfl | rfl <;> exact ⟨_, rfl, by decide, by decide⟩))
 refine seq_pure (pure_assign rfl) rfl rfl ?_
 refine seq_done ?_
 refine nrm_seq ?_
 refine tri_seq ?_
 refine tri_seq ?_
 (have hv' := hv; refine tri_cut (fun (x : Bool) => ⟨(16, .bool x) :: [(5, .int .i64 k), (4, .pointer (some ⟨b3, 0, none⟩)), (0, .pointer (some ⟨br, 0, none⟩)), (1, .int .i64 ((d + 1 : Nat) : Int))], [rd br pb nb cb (p + 1), .blk b3 [.int .i64 0, .slice none 0 0]], G2⟩) (fun x => x = false → d = 0 → k < 4) ?_ ?_)
 ·refine tri_region ?_
  refine seq_pure (pure_move rfl) rfl rfl ?_
  refine seq_bool (pure_lss rfl rfl) rfl rfl (fun h19 => ?_) (fun h19 => ?_)
  ·refine seq_pure (pure_move rfl) rfl rfl ?_
   refine seq_pure (pure_move rfl) rfl rfl ?_
   refine seq_bool (pure_geq rfl rfl) rfl rfl (fun h22 => ?_) (fun h22 => ?_)
   ·refine seq_pure (pure_pick_t rfl rfl) rfl rfl ?_
    refine seq_done ?_
    refine nrm_cut true (sub_mk (by repeat (first | exact SubE.nil | refine SubE.cons rfl ?_)) (by repeat (first | exact SubH.refl | exact SubH.nil | refine SubH.cons (by repeat (first | exact Pk.here | apply Pk.there)) ?_ | apply SubH.drop))) ?_
    (show _ = false → d = 0 → k < 4; intro hf h0; first | exact absurd hf (by decide) | omega)
   ·refine seq_pure (pure_pick_t rfl rfl) rfl rfl ?_
    refine seq_done ?_
    refine nrm_cut false (sub_mk (by repeat (first | exact SubE.nil | refine SubE.cons rfl ?_)) (by repeat (first | exact SubH.refl | exact SubH.nil | refine SubH.cons (by repeat (first | exact Pk.here | apply Pk.there)) ?_ | apply SubH.drop))) ?_
    (show _ = false → d = 0 → k < 4; intro hf h0; first | exact absurd hf (by decide) | omega)
  ·refine seq_pure (pure_move rfl) rfl rfl ?_
   refine seq_skip rfl rfl ?_
   refine seq_skip rfl rfl ?_
   refine seq_pure (pure_pick_f rfl rfl) rfl rfl ?_
   refine seq_done ?_
   refine nrm_cut false (sub_mk (by repeat (first | exact SubE.nil | refine SubE.cons rfl ?_)) (by repeat (first | exact SubH.refl | exact SubH.nil | refine SubH.cons (by repeat (first | exact Pk.here | apply Pk.there)) ?_ | apply SubH.drop))) ?_
   (show _ = false → d = 0 → k < 4; intro hf h0; first | exact absurd hf (by decide) | omega)
 ·(rintro x hx; clear hv)
  (show Tri _ _ (.cond (.tmp 16) _ _) _ _; refine tri_cut (fun (x : Int) => ⟨[(5, .int .i64 x), (4, .pointer (some ⟨b3, 0, none⟩)), (0, .pointer (some ⟨br, 0, none⟩)), (1, .int .i64 ((d + 1 : Nat) : Int))], [rd br pb nb cb (p + 1), .blk b3 [.int .i64 0, .slice none 0 0]], G2⟩) (fun x => 1 ≤ x ∧ x ≤ 5 ∧ (d = 0 → x < 4)) (tri_cond rfl (fun hxt => ?_) (fun hxf => ?_)) ?_)
  ·refine tri_region ?_
   refine seq_pure (pure_assign rfl) rfl rfl ?_
   refine seq_done ?_
   refine nrm_cut 1 (sub_mk (by repeat (first | exact SubE.nil | refine SubE.cons rfl ?_)) (by repeat (first | exact SubH.refl | exact SubH.nil | refine SubH.cons (by repeat (first | exact Pk.here | apply Pk.there)) ?_ | apply SubH.drop))) ?_
   (first | exact ⟨by omega, by omega, by omega⟩ | exact ⟨by omega, by omega, fun h0 => by have := hx hxf h0; omega⟩)
  ·refine tri_skip ?_
   refine nrm_cut k (sub_mk (by repeat (first | exact SubE.nil | refine SubE.cons rfl ?_)) (by repeat (first | exact SubH.refl | exact SubH.nil | refine SubH.cons (by repeat (first | exact Pk.here | apply Pk.there)) ?_ | apply SubH.drop))) ?_
   (first | exact ⟨by omega, by omega, by omega⟩ | exact ⟨by omega, by omega, fun h0 => by have := hx hxf h0; omega⟩)
  ·(rintro kk ⟨hk2, hk3, hk4⟩; have hop := tyOps_le kk; have hk5 := (tyOps_spec kk).1; have hk6 := (tyOps_spec kk).2.1; have hK := l1Kids_fn kk)
   refine tri_seq ?_
   refine tri_region ?_
   refine seq_pure (pure_move rfl) rfl rfl ?_
   refine seq_pure (pure_build rfl rfl) rfl rfl ?_
   (refine seq_step (step_alloc rfl) rfl ?_; rintro _ ⟨b53, rfl⟩)
   refine seq_store rfl rfl rfl rfl rfl rfl (by repeat (first | exact Sw.here | apply Sw.there)) (by rfl) ?_
   refine seq_done ?_
   refine nrm_seq ?_
   refine tri_seq ?_
   refine tri_seq ?_
   refine tri_region ?_
   refine seq_pure (pure_assign rfl) rfl rfl ?_
   refine seq_done ?_
   refine nrm_seq ?_
   refine tri_block ?_
   (refine tri_nil 25 2 ?_; refine tri_loopN (fun (x : Nat × Option Addr × Nat × List Ty × List (List Value) × Nat × IM) => ⟨[(7, .int .i64 x.1), (5, .int .i64 kk), (6, .pointer (some ⟨b53, 0, none⟩)), (4, .pointer (some ⟨b3, 0, none⟩)), (0, .pointer (some ⟨br, 0, none⟩)), (1, .int .i64 ((d + 1 : Nat) : Int))], [.blk b53 [.int .i64 kk, .slice x.2.1 x.1 x.2.2.1], .slc x.2.1 x.2.2.1 25 2 x.1 x.2.2.2.2.1.flatten, rd br pb nb cb x.2.2.2.2.2.1, .blk b3 [.int .i64 0, .slice none 0 0]], x.2.2.2.2.2.2⟩) (fun x => (∀ u ∈ x.2.2.2.1, tAh (d - 1) u) ∧ (x.1 : Int) ≤ tyOps kk ∧ IMle G2 x.2.2.2.2.2.2 ∧ x.2.2.2.1.length = x.1 ∧ RTyL x.2.2.2.2.2.2 x.2.2.2.1 x.2.2.2.2.1 ∧ sumTy x.2.2.2.1 ≤ ((x.1 * dB d : Nat) : Int) ∧ p + 1 ≤ x.2.2.2.2.2.1 ∧ x.2.2.2.2.2.1 ≤ p + 1 + x.1 * dB d) (fun x => (tyOps kk).toNat - x.1) (0, none, 0, [], [], p + 1, G2) ?_ ?_ ?_)
   ·(simp only [flat_snoc]; exact sub_mk (by repeat (first | exact SubE.nil | refine SubE.cons rfl ?_)) (by repeat (first | exact SubH.refl | exact SubH.nil | refine SubH.cons (by repeat (first | exact Pk.here | apply Pk.there)) ?_ | apply SubH.drop)))
   ·(exact ⟨by simp, by dsimp only; omega, IMle.refl _, rfl, by simp [RTyL], by simp [sumTy], by dsimp only; omega, by dsimp only; omega⟩)
   ·(rintro ⟨i, pn, cn, ts, es', p', Gi⟩ ⟨hah, hi, hle, hlt, hst, hsum, hq1, hq2⟩; simp only [] at hah hi hle hlt hst hsum hq1 hq2 ⊢; have hid : i * dB d ≤ 2 * dB d := Nat.mul_le_mul_right _ (by omega))
    refine tri_seq ?_
    refine tri_seq ?_
    refine tri_region ?_
    refine seq_pure (pure_move rfl) rfl rfl ?_
    refine seq_pure (pure_move rfl) rfl rfl ?_
    refine seq_val rfl ((hK _)) rfl rfl ?_
    refine seq_bool (pure_lss rfl rfl) rfl rfl (fun h74 => ?_) (fun h74 => ?_)
    ·refine seq_done ?_
     refine nrm_seq ?_
     refine tri_cond_t rfl ?_
     refine tri_skip ?_
     refine nrm_seq ?_
     refine tri_seq ?_
     refine tri_block ?_
     (obtain ⟨d', rfl⟩ : ∃ d', d = d' + 1 := ⟨d - 1, by omega⟩; have hih := ih d' (by omega) p' Gi (by omega) (hb.mono hle) (by have := Nat.mul_le_mul_right (dB (d' + 1)) (show i + 1 ≤ 2 by omega); rw [Nat.succ_mul] at this; omega); refine tri_draw mixed rfl ?_)
     refine any_pure (i := 0) (listed' := [tt,ff,ff,ff,ff,ff,ff,ff,ff,ff]) rfl (by repeat (first | exact np_ret | exact np_cut | apply np_seq | apply np_block | apply np_loopN')) (pure_fieldAddr0 rfl) rfl (by kernel_rfl) rfl rfl ?_
     refine any_load (i := 1) (listed' := [tt,tt,ff,ff,ff,ff,ff,ff,ff,ff]) rfl (by repeat (first | exact np_ret | exact np_cut | apply np_seq | apply np_block | apply np_loopN')) (load_bs rfl rfl (by repeat (first | exact List.Mem.head _ | apply List.Mem.tail)) (by rfl)) rfl (by kernel_rfl) rfl rfl ?_
     refine any_pure (i := 2) (listed' := [tt,tt,tt,ff,ff,ff,ff,ff,ff,ff]) rfl (by repeat (first | exact np_ret | exact np_cut | apply np_seq | apply np_block | apply np_loopN')) (pure_move rfl) rfl (by kernel_rfl) rfl rfl ?_
     refine any_pure (i := 3) (listed' := [tt,tt,tt,tt,ff,ff,ff,ff,ff,ff]) rfl (by repeat (first | exact np_ret | exact np_cut | apply np_seq | apply np_block | apply np_loopN')) (pure_move rfl) rfl (by kernel_rfl) rfl rfl ?_
     refine any_pure (i := 4) (listed' := [tt,tt,tt,tt,tt,ff,ff,ff,ff,ff]) rfl (by repeat (first | exact np_ret | exact np_cut | apply np_seq | apply np_block | apply np_loopN')) (pure_dec rfl rfl (by omega)) rfl (by kernel_rfl) rfl rfl ?_
     refine any_one (j := 5) (by kernel_rfl) ?_
     (refine one_take (listed' := [tt,tt,tt,tt,tt,tt,ff,ff,ff,ff]) rfl rfl hih (Pk.perm (by repeat (first | exact Pk.here | apply Pk.there))) rfl rfl rfl (by repeat (first | exact HmOk.nil | apply HmOk.dep (by decide +kernel) | apply HmOk.blk (by decide +kernel) (by repeat (first | exact Pk.here | apply Pk.there)) (by repeat (first | exact List.Mem.head _ | apply List.Mem.tail)))) (fun v G3 outs hle3 hh => ?_); obtain ⟨p3, hp31, hp32, rfl, t3, cells3, rfl, hr3, hs3, ha3⟩ := hh; obtain ⟨q3, c3, es3, rfl, _⟩ := hr3.open)
     refine any_one (j := 6) (by kernel_rfl) ?_
     (refine one_step0 (listed' := [tt,tt,tt,tt,tt,tt,tt,ff,ff,ff]) rfl (step_buildSlice rfl rfl rfl (by omega) (by unfold maxLen; omega) rfl) rfl rfl ?_; rintro _ ⟨b91, rfl⟩)
     refine any_one (j := 7) (by kernel_rfl) ?_
     refine one_append (listed' := [tt,tt,tt,tt,tt,tt,tt,tt,ff,ff]) rfl rfl rfl rfl rfl rfl (fun _ _ => by repeat (first | exact Sw.here | apply Sw.there)) (at_slc_all (by repeat (first | exact List.Mem.head _ | apply List.Mem.tail))) rfl (by simp [Value.oneCell']) (by unfold maxLen; omega) (by omega) rfl rfl (by repeat (first | exact HmOk.nil | apply HmOk.dep (by decide +kernel) | apply HmOk.blk (by decide +kernel) (by repeat (first | exact Pk.here | apply Pk.there)) (by repeat (first | exact List.Mem.head _ | apply List.Mem.tail)))) (fun pn' cn' => ?_)
     refine any_pure (i := 8) (listed' := [tt,tt,tt,tt,tt,tt,tt,tt,tt,ff]) rfl (by repeat (first | exact np_ret | exact np_cut | apply np_seq | apply np_block | apply np_loopN')) (pure_fieldAddr0 rfl) rfl (by kernel_rfl) rfl rfl ?_
     refine any_one (j := 9) (by kernel_rfl) ?_
     refine one_store (listed' := [tt,tt,tt,tt,tt,tt,tt,tt,tt,tt]) rfl rfl rfl rfl rfl rfl rfl rfl (by kernel_rfl) (by repeat (first | exact Sw.here | apply Sw.there)) (by rfl) ?_
     refine any_done (by kernel_rfl) ?_
     refine nrm_block ?_
     refine nrm_seq ?_
     refine tri_region ?_
     refine seq_pure (pure_move rfl) rfl rfl ?_
     refine seq_pure (pure_add rfl rfl (by omega) (by omega)) rfl rfl ?_
     refine seq_pure (pure_assign rfl) rfl rfl ?_
     refine seq_done ?_
     refine nrm_loopN (i + 1, pn', cn', ts ++ [t3], es' ++ [[.int .i64 t3.k, .slice q3 t3.ks.length c3]], p3, G3) ?_ ?_ ?_
     ·(simp only [flat_snoc]; exact sub_mk (by repeat (first | exact SubE.nil | refine SubE.cons rfl ?_)) (by repeat (first | exact SubH.refl | exact SubH.nil | refine SubH.cons (by repeat (first | exact Pk.here | apply Pk.there)) ?_ | apply SubH.drop)))
     ·(dsimp only; have e1 : (i + 1) * dB (d' + 1) = i * dB (d' + 1) + dB (d' + 1) := Nat.succ_mul _ _; have e2 := sumTy_snoc ts t3; exact ⟨by simp only [List.forall_mem_append, List.forall_mem_singleton]; exact ⟨hah, ha3⟩, by omega, hle.trans hle3, by simp [hlt], RTyL.snoc (hst.mono hle3) hr3, by omega, by omega, by omega⟩)
     ·(show (tyOps kk).toNat - (i + 1) < (tyOps kk).toNat - i; omega)
    ·refine seq_done ?_
     refine nrm_seq ?_
     refine tri_cond_f rfl ?_
     refine tri_exit ?_
     refine ext_seq ?_
     refine ext_loopN ?_
     refine ext_block_eq ?_
     refine nrm_seq ?_
     refine tri_seq ?_
     refine tri_region ?_
     refine seq_load (load_ba rfl rfl (by repeat (first | exact List.Mem.head _ | apply List.Mem.tail)) (by rfl)) rfl rfl ?_
     refine seq_store rfl rfl rfl rfl rfl rfl (by repeat (first | exact Sw.here | apply Sw.there)) (by rfl) ?_
     refine seq_done ?_
     refine nrm_seq ?_
     (refine ret_freeze (by repeat (first | exact Pk.here | apply Pk.there)) (fun G5 hle5 hsl5 hno5 => ?_))
     refine tri_ret ?_
     refine ret_own1 (outs := [rd br pb nb cb p']) (res_cell rfl (load_ba rfl rfl (by repeat (first | exact List.Mem.head _ | apply List.Mem.tail)) (by rfl))) (by repeat (first | exact SubH.nil | refine SubH.cons Pk.here ?_ | refine SubH.cons (Pk.there Pk.here) ?_ | apply SubH.drop)) ?_
     (refine ⟨p', by omega, by omega, rfl, .mk kk ts, _, rfl, (hst.mono hle5).ty hlt hsl5 ⟨by omega, by omega⟩, ?_, tAh_mk hk4 (by omega) hk2 hk3 hah⟩; rw [szTy]; omega)
theorem l1Draw_fn (br : Nat) (pb : Option Addr) (nb cb : Nat) (bs : List UInt8) (hnb : nb ≤ 2000) (d p : Nat) (G : IM) (hd : d ≤ 1000) (hb : Sl G pb nb cb 1 (byts bs)) (hp : p + dB (d + 1) < 1099511627776) :
  Fn Try.prog 74 [.pointer (some ⟨br, 0, none⟩), .int .i64 ((d + 1 : Nat) : Int)] [rd br pb nb cb p] G
   (Drew br pb nb cb p (dB (d + 1)) (fun G' v => ∃ t cells, v = .agg ⟨cells⟩ ∧ RTy G' t cells ∧ szTy t ≤ ((dB (d + 1) : Nat) : Int))) :=
 (l1DrawA_fn br pb nb cb bs hnb d p G hd hb hp).mono fun G' v outs _ ⟨p', h1, h2, h3, t, cells, h4, h5, h6, _⟩ => ⟨p', h1, h2, h3, t, cells, h4, h5, h6⟩
end Gw
end Go.Proofs.Yteneckdjdfnjoaa
namespace Go.Proofs.Yteneckdjdfnjoaa
open Go Go.RowKit
namespace Gw
set_option maxHeartbeats 0 in
set_option maxRecDepth 100000 in
theorem l1TypeA_fn (br : Nat) (pb : Option Addr) (nb cb : Nat) (bs : List UInt8) (hnb : nb ≤ 2000) (p : Nat) (G : IM) (hb : Sl G pb nb cb 1 (byts bs)) (hp : p + 31 < 1099511627776) :
  Fn Try.prog 54 [.pointer (some ⟨br, 0, none⟩)] [rd br pb nb cb p] G
   (Drew br pb nb cb p 31 (fun G' v => ∃ t cells, v = .agg ⟨cells⟩ ∧ RTy G' t cells ∧ szTy t ≤ 30 ∧ tAh 3 t)) := by
 refine fn_enter Try.func54 rfl Try.ntmps54 Try.results54 rfl ?_
 intro w0
 refine tri_seq ?_
 refine tri_region ?_
 (refine seq_step (step_alloc rfl) rfl ?_; rintro _ ⟨b3, rfl⟩)
 refine seq_done ?_
 refine nrm_seq ?_
 refine tri_seq ?_
 refine tri_region ?_
 refine seq_pure (pure_move rfl) rfl rfl ?_
 refine seq_pure (pure_move rfl) rfl rfl ?_
 (refine seq_step (step_buildSlice rfl rfl rfl (by omega) (by unfold maxLen; omega) rfl) rfl ?_; rintro _ ⟨b10, rfl⟩)
 (refine triL_freeze (by repeat (first | exact Pk.here | apply Pk.there)) (fun G1 hle1 hsl1 _ => ?_); refine seq_take rfl (num_fn G1 br pb nb cb p bs _ _ _ _ (hb.mono hle1) hnb (by omega) hsl1 (by decide)) (Pk.perm (by repeat (first | exact Pk.here | apply Pk.there))) rfl rfl (fun v G2 outs hle2 hh => ?_); obtain ⟨rfl, rfl, hv⟩ := hh; replace hb := hb.mono hle1; obtain ⟨d, rfl, hd⟩ : ∃ d : Nat, v = .int .i64 ((d + 1 : Nat) : Int) ∧ d ≤ 3 := (by simp only [List.mem_cons, List.not_mem_nil, or_false] at hv; rcases hv with rfl | rfl | rfl | rfl | rfl <;> first | exact ⟨0, rfl, by decide⟩ | exact ⟨1, rfl, by decide⟩ | exact ⟨2, rfl, by decide⟩ | exact ⟨3, rfl, by decide⟩))
 (have hdB := dB_le hd; refine seq_take rfl (l1DrawA_fn br pb nb cb bs hnb d (p + 1) G2 (by omega) hb (by omega)) (Pk.perm (by repeat (first | exact Pk.here | apply Pk.there))) rfl rfl (fun v G3 outs hle3 hh => ?_); obtain ⟨p3, hp31, hp32, rfl, t3, cells3, rfl, hr3, hs3, ha3⟩ := hh; obtain ⟨q3, c3, es3, rfl, _⟩ := hr3.open)
 refine seq_store rfl rfl rfl rfl rfl rfl (by repeat (first | exact Sw.here | apply Sw.there)) (by rfl) ?_
 refine seq_done ?_
 refine nrm_seq ?_
 refine tri_ret ?_
 refine ret_own1 (outs := [rd br pb nb cb p3]) (res_cell rfl (load_ba rfl rfl (by repeat (first | exact List.Mem.head _ | apply List.Mem.tail)) (by rfl))) (by repeat (first | exact SubH.nil | refine SubH.cons Pk.here ?_ | refine SubH.cons (Pk.there Pk.here) ?_ | apply SubH.drop)) ?_
 exact ⟨p3, by omega, by omega, rfl, t3, _, rfl, hr3, by omega, ha3.le hd⟩
theorem l1Type_fn (br : Nat) (pb : Option Addr) (nb cb : Nat) (bs : List UInt8) (hnb : nb ≤ 2000) (p : Nat) (G : IM) (hb : Sl G pb nb cb 1 (byts bs)) (hp : p + 31 < 1099511627776) :
  Fn Try.prog 54 [.pointer (some ⟨br, 0, none⟩)] [rd br pb nb cb p] G
   (Drew br pb nb cb p 31 (fun G' v => ∃ t cells, v = .agg ⟨cells⟩ ∧ RTy G' t cells ∧ szTy t ≤ 30)) :=
 (l1TypeA_fn br pb nb cb bs hnb p G hb hp).mono fun G' v outs _ ⟨p', h1, h2, h3, t, cells, h4, h5, h6, _⟩ => ⟨p', h1, h2, h3, t, cells, h4, h5, h6⟩
set_option maxHeartbeats 0 in
set_option maxRecDepth 100000 in
theorem l1CopyO_fn (k : Int) (ks : List Ty) (G : IM) (p : Option Addr) (c : Nat) (hts : (Ty.mk k ks).small) (hr : RTy G (.mk k ks) [.int .i64 k, .slice p ks.length c]) : Fn Try.prog 78 [.agg ⟨[.int .i64 k, .slice p ks.length c]⟩] [] G
  (fun G' v outs => ∃ p c es, v = .agg ⟨[.int .i64 k, .slice p ks.length c]⟩ ∧ outs = [.slc p c 25 2 ks.length es.flatten] ∧ RTyL G' ks es) := by
 simp only [Ty.small] at hts
 obtain ⟨hsm, hks⟩ := hts
 obtain ⟨p', c', es, he, hk, hsl, hkl⟩ := hr.open
 simp only [Ty.k, Ty.ks, List.cons.injEq, Value.slice.injEq, true_and, and_true] at he hk hsl hkl
 obtain ⟨rfl, rfl⟩ := he
 have hn := hsl.le
 refine fn_enter Try.func78 rfl Try.ntmps78 Try.results78 rfl ?_
 intro w0
 refine tri_seq ?_
 refine tri_region ?_
 (refine seq_step (step_box_a rfl rfl) rfl ?_; rintro _ ⟨b3, rfl⟩)
 (refine seq_step (step_alloc rfl) rfl ?_; rintro _ ⟨b4, rfl⟩)
 refine seq_done ?_
 refine nrm_seq ?_
 refine tri_seq ?_
 refine tri_region ?_
 refine seq_pure (pure_fieldAddr0 rfl) rfl rfl ?_
 refine seq_load (load_bs rfl rfl (by repeat (first | exact List.Mem.head _ | apply List.Mem.tail)) (by rfl)) rfl rfl ?_
 refine seq_pure (pure_build rfl rfl) rfl rfl ?_
 (refine seq_step (step_alloc rfl) rfl ?_; rintro _ ⟨b12, rfl⟩)
 refine seq_store rfl rfl rfl rfl rfl rfl (by repeat (first | exact Sw.here | apply Sw.there)) (by rfl) ?_
 refine seq_done ?_
 refine nrm_seq ?_
 refine tri_seq ?_
 refine tri_seq ?_
 refine tri_region ?_
 refine seq_pure (pure_assign rfl) rfl rfl ?_
 refine seq_done ?_
 refine nrm_seq ?_
 refine tri_block ?_
 (refine tri_nil 25 2 ?_; refine tri_loopN (fun (x : Nat × Option Addr × Nat × List (List Value) × IM) => ⟨[(4, .int .i64 x.1), (3, .pointer (some ⟨b12, 0, none⟩)), (1, .pointer (some ⟨b3, 0, none⟩)), (2, .pointer (some ⟨b4, 0, none⟩))], [.blk b12 [.int .i64 k, .slice x.2.1 x.1 x.2.2.1], .slc x.2.1 x.2.2.1 25 2 x.1 x.2.2.2.1.flatten, .blk b4 [.int .i64 0, .slice none 0 0], .blk b3 [.int .i64 k, .slice p ks.length c]], x.2.2.2.2⟩) (fun x => x.1 ≤ ks.length ∧ IMle G x.2.2.2.2 ∧ RTyL x.2.2.2.2 (ks.take x.1) x.2.2.2.1) (fun x => ks.length - x.1) (0, none, 0, [], G) ?_ ?_ ?_)
 ·(simp only [flat_snoc]; exact sub_mk (by repeat (first | exact SubE.nil | refine SubE.cons rfl ?_)) (by repeat (first | exact SubH.refl | exact SubH.nil | refine SubH.cons (by repeat (first | exact Pk.here | apply Pk.there)) ?_ | apply SubH.drop)))
 ·exact ⟨by simp, IMle.refl _, by simp [RTyL]⟩
 ·(rintro ⟨i, pn, cn, es', Gi⟩ ⟨hi, hle, hst⟩; simp only [] at hi hle hst ⊢; replace hsl := hsl.mono hle; replace hkl := hkl.mono hle)
  refine tri_seq ?_
  refine tri_seq ?_
  refine tri_region ?_
  refine seq_pure (pure_move rfl) rfl rfl ?_
  refine seq_pure (pure_fieldAddr0 rfl) rfl rfl ?_
  refine seq_load (load_bs rfl rfl (by repeat (first | exact List.Mem.head _ | apply List.Mem.tail)) (by rfl)) rfl rfl ?_
  refine seq_pure (pure_len rfl rfl) rfl rfl ?_
  refine seq_bool (pure_lss rfl rfl) rfl rfl (fun h34 => ?_) (fun h34 => ?_)
  ·refine seq_done ?_
   refine nrm_seq ?_
   refine tri_cond_t rfl ?_
   refine tri_skip ?_
   refine nrm_seq ?_
   refine tri_seq ?_
   refine tri_block ?_
   (obtain ⟨b, o, p2, c2, rfl, hat, hre, hgb⟩ := hsl.kidTy hkl (i := i) (by omega) (by omega); refine tri_draw mixed rfl ?_)
   refine any_pure (i := 0) (listed' := [tt,ff,ff,ff,ff,ff,ff,ff,ff,ff,ff,ff]) rfl (by repeat (first | exact np_ret | exact np_cut | apply np_seq | apply np_block | apply np_loopN')) (pure_fieldAddr0 rfl) rfl (by kernel_rfl) rfl rfl ?_
   refine any_load (i := 1) (listed' := [tt,tt,ff,ff,ff,ff,ff,ff,ff,ff,ff,ff]) rfl (by repeat (first | exact np_ret | exact np_cut | apply np_seq | apply np_block | apply np_loopN')) (load_bs rfl rfl (by repeat (first | exact List.Mem.head _ | apply List.Mem.tail)) (by rfl)) rfl (by kernel_rfl) rfl rfl ?_
   refine any_pure (i := 2) (listed' := [tt,tt,tt,ff,ff,ff,ff,ff,ff,ff,ff,ff]) rfl (by repeat (first | exact np_ret | exact np_cut | apply np_seq | apply np_block | apply np_loopN')) (pure_fieldAddr0 rfl) rfl (by kernel_rfl) rfl rfl ?_
   refine any_load (i := 3) (listed' := [tt,tt,tt,tt,ff,ff,ff,ff,ff,ff,ff,ff]) rfl (by repeat (first | exact np_ret | exact np_cut | apply np_seq | apply np_block | apply np_loopN')) (load_bs rfl rfl (by repeat (first | exact List.Mem.head _ | apply List.Mem.tail)) (by rfl)) rfl (by kernel_rfl) rfl rfl ?_
   refine any_pure (i := 4) (listed' := [tt,tt,tt,tt,tt,ff,ff,ff,ff,ff,ff,ff]) rfl (by repeat (first | exact np_ret | exact np_cut | apply np_seq | apply np_block | apply np_loopN')) (pure_move rfl) rfl (by kernel_rfl) rfl rfl ?_
   refine any_pure (i := 5) (listed' := [tt,tt,tt,tt,tt,tt,ff,ff,ff,ff,ff,ff]) rfl (by repeat (first | exact np_ret | exact np_cut | apply np_seq | apply np_block | apply np_loopN')) (pure_indexAddrN rfl rfl rfl (by omega)) rfl (by kernel_rfl) rfl rfl ?_
   refine any_load (i := 6) (listed' := [tt,tt,tt,tt,tt,tt,tt,ff,ff,ff,ff,ff]) rfl (by repeat (first | exact np_ret | exact np_cut | apply np_seq | apply np_block | apply np_loopN')) (load_a rfl rfl (hat _) rfl) rfl (by kernel_rfl) rfl rfl ?_
   refine any_one (j := 7) (by kernel_rfl) ?_
   (refine one_imm (listed' := [tt,tt,tt,tt,tt,tt,tt,tt,ff,ff,ff,ff]) rfl rfl (l1Copy_fn ks[i] _ _ (Ty.smallL_mem hks _ (List.getElem_mem (by omega))) hre) rfl rfl rfl (fun v G1 hle1 hh => ?_); obtain ⟨cells', F', rfl, hs', hnd'⟩ := hh; have hr' := hs'.R.mono (Dif.le _ _); obtain ⟨p3, c3, es3, rfl, _⟩ := hr'.open)
   refine any_one (j := 8) (by kernel_rfl) ?_
   (refine one_step0 (listed' := [tt,tt,tt,tt,tt,tt,tt,tt,tt,ff,ff,ff]) rfl (step_buildSlice rfl rfl rfl (by omega) (by unfold maxLen; omega) rfl) rfl rfl ?_; rintro _ ⟨b53, rfl⟩)
   refine any_one (j := 9) (by kernel_rfl) ?_
   refine one_append (listed' := [tt,tt,tt,tt,tt,tt,tt,tt,tt,tt,ff,ff]) rfl rfl rfl rfl rfl rfl (fun _ _ => by repeat (first | exact Sw.here | apply Sw.there)) (at_slc_all (by repeat (first | exact List.Mem.head _ | apply List.Mem.tail))) rfl (by simp [Value.oneCell']) (by unfold maxLen; omega) (by omega) rfl rfl (by repeat (first | exact HmOk.nil | apply HmOk.dep (by decide +kernel) | apply HmOk.blk (by decide +kernel) (by repeat (first | exact Pk.here | apply Pk.there)) (by repeat (first | exact List.Mem.head _ | apply List.Mem.tail)))) (fun pn' cn' => ?_)
   refine any_pure (i := 10) (listed' := [tt,tt,tt,tt,tt,tt,tt,tt,tt,tt,tt,ff]) rfl (by repeat (first | exact np_ret | exact np_cut | apply np_seq | apply np_block | apply np_loopN')) (pure_fieldAddr0 rfl) rfl (by kernel_rfl) rfl rfl ?_
   refine any_one (j := 11) (by kernel_rfl) ?_
   refine one_store (listed' := [tt,tt,tt,tt,tt,tt,tt,tt,tt,tt,tt,tt]) rfl rfl rfl rfl rfl rfl rfl rfl (by kernel_rfl) (by repeat (first | exact Sw.here | apply Sw.there)) (by rfl) ?_
   refine any_done (by kernel_rfl) ?_
   refine nrm_block ?_
   refine nrm_seq ?_
   refine tri_region ?_
   refine seq_pure (pure_move rfl) rfl rfl ?_
   refine seq_pure (pure_add rfl rfl (by omega) (by omega)) rfl rfl ?_
   refine seq_pure (pure_assign rfl) rfl rfl ?_
   refine seq_done ?_
   refine nrm_loopN (i + 1, pn', cn', es' ++ [[.int .i64 ks[i].k, .slice p3 ks[i].ks.length c3]], G1) ?_ ?_ ?_
   ·(simp only [flat_snoc]; exact sub_mk (by repeat (first | exact SubE.nil | refine SubE.cons rfl ?_)) (by repeat (first | exact SubH.refl | exact SubH.nil | refine SubH.cons (by repeat (first | exact Pk.here | apply Pk.there)) ?_ | apply SubH.drop)))
   ·(dsimp only; exact ⟨by omega, hle.trans hle1, by rw [List.take_succ_eq_append_getElem (by omega)]; exact RTyL.snoc (hst.mono hle1) hr'⟩)
   ·(show ks.length - (i + 1) < ks.length - i; omega)
  ·refine seq_done ?_
   refine nrm_seq ?_
   refine tri_cond_f rfl ?_
   refine tri_exit ?_
   refine ext_seq ?_
   refine ext_loopN ?_
   refine ext_block_eq ?_
   refine nrm_seq ?_
   refine tri_seq ?_
   refine tri_region ?_
   refine seq_load (load_ba rfl rfl (by repeat (first | exact List.Mem.head _ | apply List.Mem.tail)) (by rfl)) rfl rfl ?_
   refine seq_store rfl rfl rfl rfl rfl rfl (by repeat (first | exact Sw.here | apply Sw.there)) (by rfl) ?_
   refine seq_done ?_
   refine nrm_seq ?_
   refine tri_ret ?_
   (obtain rfl : i = ks.length := (by omega); refine ret_own1 (outs := [.slc pn cn 25 2 ks.length es'.flatten]) (res_cell rfl (load_ba rfl rfl (by repeat (first | exact List.Mem.head _ | apply List.Mem.tail)) (by rfl))) (by repeat (first | exact SubH.nil | refine SubH.cons Pk.here ?_ | refine SubH.cons (Pk.there Pk.here) ?_ | apply SubH.drop)) ?_)
   (rw [List.take_length] at hst; exact ⟨pn, cn, es', rfl, rfl, hst⟩)
end Gw
end Go.Proofs.Yteneckdjdfnjoaa
namespace Go.Proofs.Yteneckdjdfnjoaa
open Go Go.RowKit
namespace Gw
theorem tyAny_r (G : IM) : RTy G tyAny [.int .i64 1, .slice none 0 0] := by
 simp only [tyAny, RTy]
 exact ⟨none, 0, [], rfl, ⟨by omega, by omega⟩, SlE.of (Sl.nil _ _) rfl (by simp) (by simp), by simp [RTyL]⟩
theorem tyAny_sz : szTy tyAny = 0 := rfl
set_option maxHeartbeats 0 in
set_option maxRecDepth 100000 in
theorem l1Mutate_fn (br : Nat) (pb : Option Addr) (nb cb : Nat) (bs : List UInt8) (hnb : nb ≤ 2000) (p : Nat) (G : IM) (hb : Sl G pb nb cb 1 (byts bs)) (hp : p + 31 < 1099511627776) (t : Ty) (cells : List Value) (hr : RTy G t cells) (hsz : szTy t ≤ 30) :
  Fn Try.prog 59 [.pointer (some ⟨br, 0, none⟩), .agg ⟨cells⟩] [rd br pb nb cb p] G
   (Drew br pb nb cb p 2 (fun G' v => ∃ t cells, v = .agg ⟨cells⟩ ∧ RTy G' t cells ∧ szTy t ≤ 38)) := by
 have hts := small_ty t (by omega)
 obtain ⟨k, ks⟩ := t
 rw [szTy] at hsz
 have hsn := sumTy_nn ks
 obtain ⟨q0, c0, es0, rfl, hk, _⟩ := hr.open
 simp only [Ty.k, Ty.ks] at hk hr ⊢
 refine fn_enter Try.func59 rfl Try.ntmps59 Try.results59 rfl ?_
 intro w0
 refine tri_seq ?_
 refine tri_region ?_
 (refine seq_step (step_box_a rfl rfl) rfl ?_; rintro _ ⟨b3, rfl⟩)
 (refine seq_step (step_alloc rfl) rfl ?_; rintro _ ⟨b4, rfl⟩)
 refine seq_done ?_
 refine nrm_seq ?_
 refine tri_seq ?_
 refine tri_region ?_
 refine seq_load (load_ba rfl rfl (by repeat (first | exact List.Mem.head _ | apply List.Mem.tail)) (by rfl)) rfl rfl ?_
 (refine seq_own rfl (l1CopyO_fn k ks G q0 c0 hts hr) rfl rfl (fun v G1 outs hle1 hh => ?_); obtain ⟨q, c, es, rfl, rfl, hst⟩ := hh)
 (refine seq_step (step_alloc rfl) rfl ?_; rintro _ ⟨b11, rfl⟩)
 refine seq_store rfl rfl rfl rfl rfl rfl (by repeat (first | exact Sw.here | apply Sw.there)) (by rfl) ?_
 refine seq_done ?_
 refine nrm_seq ?_
 refine tri_seq ?_
 refine tri_seq ?_
 refine tri_region ?_
 refine seq_pure (pure_move rfl) rfl rfl ?_
 (refine seq_take rfl (pick_fn G1 br pb nb cb p bs 40 (hb.mono hle1) hnb (by omega)) (Pk.perm (by repeat (first | exact Pk.here | apply Pk.there))) rfl rfl (fun v G2 outs hle2 hh => ?_); obtain ⟨rfl, rfl, j, rfl, hj0, hj1⟩ := hh; replace hb := hb.mono hle1)
 refine seq_done ?_
 refine nrm_seq ?_
 (show Tri _ _ (.block 0 _) _ _; refine tri_cut (fun (x : Ty × Option Addr × Nat × Nat × IM) => ⟨[(5, .pointer (some ⟨b11, 0, none⟩)), (4, .pointer (some ⟨b4, 0, none⟩))], [.blk b11 [.int .i64 x.1.k, .slice x.2.1 x.1.ks.length x.2.2.1], .blk b4 [.int .i64 0, .slice none 0 0], rd br pb nb cb x.2.2.2.1], x.2.2.2.2⟩) (fun x => IMle G2 x.2.2.2.2 ∧ RTy x.2.2.2.2 x.1 [.int .i64 x.1.k, .slice x.2.1 x.1.ks.length x.2.2.1] ∧ szTy x.1 ≤ 38 ∧ p ≤ x.2.2.2.1 ∧ x.2.2.2.1 ≤ p + 2) ?_ ?_)
 ·refine tri_block ?_
  refine tri_seq ?_
  refine tri_region ?_
  refine seq_bool (pure_eql rfl rfl) rfl rfl (fun h26 => ?_) (fun h26 => ?_)
  ·refine seq_pure (pure_assign rfl) rfl rfl ?_
   refine seq_done ?_
   refine nrm_seq ?_
   refine tri_cond_t rfl ?_
   refine tri_region ?_
   refine seq_pure (pure_move rfl) rfl rfl ?_
   (refine seq_step (step_buildSlice rfl rfl rfl (by omega) (by unfold maxLen; omega) rfl) rfl ?_; rintro _ ⟨b33, rfl⟩)
   (refine triL_freeze (by repeat (first | exact Pk.here | apply Pk.there)) (fun G3 hle3 hsl3 _ => ?_); refine triL_freeze (by repeat (first | exact Pk.here | apply Pk.there)) (fun G4 hle4 hsl4 _ => ?_); refine seq_take rfl (num_fn G4 br pb nb cb (p + 1) bs _ _ _ _ (hb.mono (hle3.trans hle4)) hnb (by omega) (hsl3.mono hle4) (by decide)) (Pk.perm (by repeat (first | exact Pk.here | apply Pk.there))) rfl rfl (fun v G5 outs hle5 hh => ?_); obtain ⟨rfl, rfl, hv⟩ := hh; obtain ⟨k', rfl, hk'⟩ : ∃ k', v = .int .i64 k' ∧ I64 k' := (by simp only [List.mem_cons, List.not_mem_nil, or_false] at hv; rcases hv with rfl | rfl | rfl | rfl | rfl <;> exact ⟨_, rfl, by unfold I64; omega⟩))
   refine seq_pure (pure_fieldAddr0 rfl) rfl rfl ?_
   refine seq_store rfl rfl rfl rfl rfl rfl (by repeat (first | exact Sw.here | apply Sw.there)) (by rfl) ?_
   refine seq_done ?_
   refine nrm_block ?_
   refine nrm_cut (.mk k' ks, q, c, p + 2, G5) ?_ ?_
   ·(simp only [flat_snoc]; exact sub_mk (by repeat (first | exact SubE.nil | refine SubE.cons rfl ?_)) (by repeat (first | exact SubH.refl | exact SubH.nil | refine SubH.cons (by repeat (first | exact Pk.here | apply Pk.there)) ?_ | apply SubH.drop)))
   ·(dsimp only; exact ⟨hle3.trans hle4, (hst.mono (hle3.trans hle4)).ty rfl hsl4 hk', by (rw [szTy]; omega), by omega, by omega⟩)
  ·refine seq_pure (pure_assign rfl) rfl rfl ?_
   refine seq_done ?_
   refine nrm_seq ?_
   refine tri_cond_f rfl ?_
   refine tri_seq ?_
   refine tri_region ?_
   refine seq_bool (pure_eql rfl rfl) rfl rfl (fun h48 => ?_) (fun h48 => ?_)
   ·refine seq_pure (pure_assign rfl) rfl rfl ?_
    refine seq_done ?_
    refine nrm_seq ?_
    refine tri_cond_t rfl ?_
    refine tri_draw mixed rfl ?_
    refine any_pure (i := 0) (listed' := [tt,ff,ff,ff,ff,ff,ff]) rfl (by repeat (first | exact np_ret | exact np_cut | apply np_seq | apply np_block | apply np_loopN')) (pure_fieldAddr0 rfl) rfl (by kernel_rfl) rfl rfl ?_
    refine any_load (i := 1) (listed' := [tt,tt,ff,ff,ff,ff,ff]) rfl (by repeat (first | exact np_ret | exact np_cut | apply np_seq | apply np_block | apply np_loopN')) (load_bs rfl rfl (by repeat (first | exact List.Mem.head _ | apply List.Mem.tail)) (by rfl)) rfl (by kernel_rfl) rfl rfl ?_
    refine any_one (j := 2) (by kernel_rfl) ?_
    refine one_val (listed' := [tt,tt,tt,ff,ff,ff,ff]) rfl rfl ((l1Any_fn _)) rfl rfl rfl ?_
    refine any_one (j := 3) (by kernel_rfl) ?_
    (refine one_step0 (listed' := [tt,tt,tt,tt,ff,ff,ff]) rfl (step_buildSlice rfl rfl rfl (by omega) (by unfold maxLen; omega) rfl) rfl rfl ?_; rintro _ ⟨b59, rfl⟩)
    refine any_one (j := 4) (by kernel_rfl) ?_
    refine one_append (listed' := [tt,tt,tt,tt,tt,ff,ff]) rfl rfl rfl rfl rfl rfl (fun _ _ => by repeat (first | exact Sw.here | apply Sw.there)) (at_slc_all (by repeat (first | exact List.Mem.head _ | apply List.Mem.tail))) rfl (by simp [Value.oneCell']) (by unfold maxLen; omega) (by omega) rfl rfl (by repeat (first | exact HmOk.nil | apply HmOk.dep (by decide +kernel) | apply HmOk.blk (by decide +kernel) (by repeat (first | exact Pk.here | apply Pk.there)) (by repeat (first | exact List.Mem.head _ | apply List.Mem.tail)))) (fun qn cn => ?_)
    (refine any_freeze (cs := es.flatten ++ [.int .i64 1, .slice none 0 0]) (by repeat (first | exact Pk.here | apply Pk.there)) (fun G6 hle6 hsl6 _ => ?_))
    refine any_pure (i := 5) (listed' := [tt,tt,tt,tt,tt,tt,ff]) rfl (by repeat (first | exact np_ret | exact np_cut | apply np_seq | apply np_block | apply np_loopN')) (pure_fieldAddr0 rfl) rfl (by kernel_rfl) rfl rfl ?_
    refine any_one (j := 6) (by kernel_rfl) ?_
    refine one_store (listed' := [tt,tt,tt,tt,tt,tt,tt]) rfl rfl rfl rfl rfl rfl rfl rfl (by kernel_rfl) (by repeat (first | exact Sw.here | apply Sw.there)) (by rfl) ?_
    refine any_done (by kernel_rfl) ?_
    refine nrm_block ?_
    refine nrm_cut (.mk k (ks ++ [tyAny]), qn, cn, p + 1, G6) (by rw [show (Ty.mk k (ks ++ [tyAny])).ks.length = ks.length + 1 from by simp [Ty.ks]]; exact sub_mk (by repeat (first | exact SubE.nil | refine SubE.cons rfl ?_)) (by repeat (first | exact SubH.refl | exact SubH.nil | refine SubH.cons (by repeat (first | exact Pk.here | apply Pk.there)) ?_ | apply SubH.drop))) ?_
    (dsimp only; refine ⟨hle6, RTyL.ty (ts := ks ++ [tyAny]) (es := es ++ [[.int .i64 1, .slice none 0 0]]) (RTyL.snoc (hst.mono hle6) (tyAny_r _)) rfl (by simpa [Ty.ks] using hsl6) hk, ?_, by omega, by omega⟩; rw [szTy, sumTy_snoc, tyAny_sz, List.length_append]; simp only [List.length_singleton]; omega)
   ·refine seq_pure (pure_assign rfl) rfl rfl ?_
    refine seq_done ?_
    refine nrm_seq ?_
    refine tri_cond_f rfl ?_
    refine tri_seq ?_
    refine tri_region ?_
    refine seq_bool (pure_eql rfl rfl) rfl rfl (fun h76 => ?_) (fun h76 => ?_)
    ·refine seq_pure (pure_assign rfl) rfl rfl ?_
     refine seq_done ?_
     refine nrm_seq ?_
     refine tri_cond_t rfl ?_
     refine tri_seq ?_
     refine tri_region ?_
     refine seq_pure (pure_assign rfl) rfl rfl ?_
     refine seq_done ?_
     refine nrm_seq ?_
     refine tri_block ?_
     (refine tri_freeze (by repeat (first | exact Pk.here | apply Pk.there)) (fun G3 hle3 hsl3 _ => ?_); refine tri_loopN (fun (x : Nat × Ty × Option Addr × Nat × IM) => ⟨[(6, .int .i64 x.1), (5, .pointer (some ⟨b11, 0, none⟩)), (4, .pointer (some ⟨b4, 0, none⟩))], [.blk b11 [.int .i64 x.2.1.k, .slice x.2.2.1 x.2.1.ks.length x.2.2.2.1], .blk b4 [.int .i64 0, .slice none 0 0], rd br pb nb cb (p + 1)], x.2.2.2.2⟩) (fun x => x.1 ≤ 4 ∧ IMle G3 x.2.2.2.2 ∧ RTy x.2.2.2.2 x.2.1 [.int .i64 x.2.1.k, .slice x.2.2.1 x.2.1.ks.length x.2.2.2.1] ∧ szTy x.2.1 ≤ 30 + 2 * x.1) (fun x => 4 - x.1) (0, .mk k ks, q, c, G3) ?_ ?_ ?_)
     ·(simp only [flat_snoc]; exact sub_mk (by repeat (first | exact SubE.nil | refine SubE.cons rfl ?_)) (by repeat (first | exact SubH.refl | exact SubH.nil | refine SubH.cons (by repeat (first | exact Pk.here | apply Pk.there)) ?_ | apply SubH.drop)))
     ·(dsimp only; exact ⟨by omega, IMle.refl _, (hst.mono hle3).ty rfl hsl3 hk, by (rw [szTy]; omega)⟩)
     ·(rintro ⟨i, ⟨tk, tks⟩, qi, ci, Gi⟩ ⟨hi, hlei, hri, hsi⟩; simp only [Ty.k, Ty.ks] at hi hlei hri hsi ⊢)
      refine tri_seq ?_
      refine tri_seq ?_
      refine tri_region ?_
      refine seq_pure (pure_move rfl) rfl rfl ?_
      refine seq_bool (pure_lss rfl rfl) rfl rfl (fun h95 => ?_) (fun h95 => ?_)
      ·refine seq_done ?_
       refine nrm_seq ?_
       refine tri_cond_t rfl ?_
       refine tri_skip ?_
       refine nrm_seq ?_
       refine tri_seq ?_
       refine tri_block ?_
       refine tri_draw mixed rfl ?_
       refine any_load (i := 1) (listed' := [ff,tt,ff,ff,ff]) rfl (by repeat (first | exact np_ret | exact np_cut | apply np_seq | apply np_block | apply np_loopN')) (load_ba rfl rfl (by repeat (first | exact List.Mem.head _ | apply List.Mem.tail)) (by rfl)) rfl (by kernel_rfl) rfl rfl ?_
       refine any_one (j := 0) (by kernel_rfl) ?_
       refine one_val (listed' := [tt,tt,ff,ff,ff]) rfl rfl ((l1Any_fn _)) rfl rfl rfl ?_
       refine any_one (j := 2) (by kernel_rfl) ?_
       (refine one_step0 (listed' := [tt,tt,tt,ff,ff]) rfl (step_buildSlice rfl rfl rfl (by omega) (by unfold maxLen; omega) rfl) rfl rfl ?_; rintro _ ⟨b108, rfl⟩)
       (refine any_freeze (cs := [.int .i64 1, .slice none 0 0, .int .i64 tk, .slice qi tks.length ci]) (by repeat (first | exact Pk.here | apply Pk.there)) (fun G7 hle7 hsl7 _ => ?_))
       refine any_pure (i := 3) (listed' := [tt,tt,tt,tt,ff]) rfl (by repeat (first | exact np_ret | exact np_cut | apply np_seq | apply np_block | apply np_loopN')) (pure_build rfl rfl) rfl (by kernel_rfl) rfl rfl ?_
       refine any_one (j := 4) (by kernel_rfl) ?_
       refine one_store (listed' := [tt,tt,tt,tt,tt]) rfl rfl rfl rfl rfl rfl rfl rfl (by kernel_rfl) (by repeat (first | exact Sw.here | apply Sw.there)) (by rfl) ?_
       refine any_done (by kernel_rfl) ?_
       refine nrm_block ?_
       refine nrm_seq ?_
       refine tri_region ?_
       refine seq_pure (pure_move rfl) rfl rfl ?_
       refine seq_pure (pure_add rfl rfl (by omega) (by omega)) rfl rfl ?_
       refine seq_pure (pure_assign rfl) rfl rfl ?_
       refine seq_done ?_
       refine nrm_loopN (i + 1, .mk 4 [tyAny, .mk tk tks], some ⟨b108, 0, none⟩, 2, G7) ?_ ?_ ?_
       ·(simp only [flat_snoc]; exact sub_mk (by repeat (first | exact SubE.nil | refine SubE.cons rfl ?_)) (by repeat (first | exact SubH.refl | exact SubH.nil | refine SubH.cons (by repeat (first | exact Pk.here | apply Pk.there)) ?_ | apply SubH.drop)))
       ·(dsimp only; refine ⟨by omega, hlei.trans hle7, RTyL.ty (ts := [tyAny, .mk tk tks]) (es := [[.int .i64 1, .slice none 0 0], [.int .i64 tk, .slice qi tks.length ci]]) ⟨_, _, rfl, tyAny_r _, _, _, rfl, hri.mono hle7, rfl⟩ rfl hsl7 ⟨by omega, by omega⟩, ?_⟩; rw [szTy, sumTy, sumTy, sumTy, tyAny_sz]; simp only [List.length_cons, List.length_nil]; omega)
       ·(show 4 - (i + 1) < 4 - i; omega)
      ·refine seq_done ?_
       refine nrm_seq ?_
       refine tri_cond_f rfl ?_
       refine tri_exit ?_
       refine ext_seq ?_
       refine ext_loopN ?_
       refine ext_block_eq ?_
       refine nrm_block ?_
       refine nrm_cut (.mk tk tks, qi, ci, p + 1, Gi) ?_ ?_
       ·(simp only [flat_snoc]; exact sub_mk (by repeat (first | exact SubE.nil | refine SubE.cons rfl ?_)) (by repeat (first | exact SubH.refl | exact SubH.nil | refine SubH.cons (by repeat (first | exact Pk.here | apply Pk.there)) ?_ | apply SubH.drop)))
       ·(dsimp only; exact ⟨hle3.trans hlei, hri, by omega, by omega, by omega⟩)
    ·refine seq_pure (pure_assign rfl) rfl rfl ?_
     refine seq_done ?_
     refine nrm_seq ?_
     refine tri_cond_f rfl ?_
     (refine tri_freeze (by repeat (first | exact Pk.here | apply Pk.there)) (fun G8 hle8 hsl8 _ => ?_); refine tri_skip ?_)
     refine nrm_block ?_
     refine nrm_cut (.mk k ks, q, c, p + 1, G8) ?_ ?_
     ·(simp only [flat_snoc]; exact sub_mk (by repeat (first | exact SubE.nil | refine SubE.cons rfl ?_)) (by repeat (first | exact SubH.refl | exact SubH.nil | refine SubH.cons (by repeat (first | exact Pk.here | apply Pk.there)) ?_ | apply SubH.drop)))
     ·(dsimp only; exact ⟨hle8, (hst.mono hle8).ty rfl hsl8 hk, by (rw [szTy]; omega), by omega, by omega⟩)
 ·(rintro ⟨t', q', c', p', G'⟩ ⟨hle9, hr9, hs9, hp9, hp9'⟩; simp only [] at hle9 hr9 hs9 hp9 hp9' ⊢)
  refine tri_seq ?_
  refine tri_region ?_
  refine seq_load (load_ba rfl rfl (by repeat (first | exact List.Mem.head _ | apply List.Mem.tail)) (by rfl)) rfl rfl ?_
  refine seq_store rfl rfl rfl rfl rfl rfl (by repeat (first | exact Sw.here | apply Sw.there)) (by rfl) ?_
  refine seq_done ?_
  refine nrm_seq ?_
  refine tri_ret ?_
  refine ret_own1 (outs := [rd br pb nb cb p']) (res_cell rfl (load_ba rfl rfl (by repeat (first | exact List.Mem.head _ | apply List.Mem.tail)) (by rfl))) (by repeat (first | exact SubH.nil | refine SubH.cons Pk.here ?_ | refine SubH.cons (Pk.there Pk.here) ?_ | apply SubH.drop)) ?_
  (exact ⟨p', by omega, by omega, rfl, t', _, rfl, hr9, by omega⟩)
end Gw
end Go.Proofs.Yteneckdjdfnjoaa
namespace Go.Proofs.Yteneckdjdfnjoaa
open Go Go.RowKit
namespace Gw
mutual
def mBare : Tm → Tm
 | .mk k nm num ty fr lb ks => if k = 13 ∨ k = 14 then (mBareL ks).headD tm0 else .mk k nm num (if k = 5 then tyAny else ty0) ty0 0 (mBareL ks)
def mBareL : List Tm → List Tm
 | [] => []
 | t :: ts => mBare t :: mBareL ts
end
/-- The change that is made at a node. -/
def bareG : Tm → Tm
 | .mk k nm num ty fr lb ks => if k = 13 ∨ k = 14 then ks.headD tm0 else if k = 5 then .mk k nm num tyAny fr lb ks else .mk k nm num ty fr lb ks
def bareQ : Tm → Prop
 | .mk k _ _ _ _ _ ks => k = 13 ∨ k = 14 → ks ≠ []
theorem tNone_eq {t : Ty} (h : tNone t = true) : t = ty0 := by
 obtain ⟨k, ks⟩ := t
 obtain ⟨h1, h2⟩ : (Ty.mk k ks).k = 0 ∧ (Ty.mk k ks).ks.length = 0 := of_decide_eq_true h
 simp only [Ty.k, Ty.ks] at h1 h2
 have h3 : ks = [] := List.length_eq_zero_iff.1 (by omega)
 rw [h3, ty0]
 congr
theorem sShape_go2 {D N : Int} {k : Int} {nm : ByteArray} {num : Int} {ty fr : Ty} {lb : Int} {ks : List Tm} {d : Int} (h : sShape D N (.mk k nm num ty fr lb ks) d = true) : d ≤ D ∧ k ≠ N ∧ tmNode k nm num ty fr lb ks.length = true ∧ sShapeL D N ks (d + 1) = true := by
 rw [sShape] at h
 simp only [Bool.and_eq_true, decide_eq_true_eq] at h
 exact ⟨h.1.1.1, h.1.1.2, h.1.2, h.2⟩
end Gw
end Go.Proofs.Yteneckdjdfnjoaa
namespace Go.Proofs.Yteneckdjdfnjoaa
open Go Go.RowKit
namespace Gw
end Gw
end Go.Proofs.Yteneckdjdfnjoaa
namespace Go.Proofs.Yteneckdjdfnjoaa
open Go Go.RowKit
namespace Gw
theorem tAt_goM {k : Int} {nm : ByteArray} {num : Int} {ty fr : Ty} {lb : Int} {ks : List Tm} {j : Nat} {is : List Int} (h : j < ks.length) : tAt (.mk k nm num ty fr lb ks) ((j : Int) :: is) = tAt ks[j] is := by
 rw [tAt, dif_pos ⟨by omega, by omega⟩]
 rfl
end Gw
end Go.Proofs.Yteneckdjdfnjoaa
namespace Go.Proofs.Yteneckdjdfnjoaa
open Go Go.RowKit
namespace Gw
def pAt (t : Tm) (label : Int) (l : List Int) : Bool := match tAt t l with
 | some x => decide (x.k = 14 ∧ x.lb = label)
 | none => false
def mCast (t : Tm) (label : Int) : List Int × Bool := match (mAll t).find? (pAt t label) with
 | some l => (l, true)
 | none => ([], false)
theorem mCast_some {t : Tm} {label : Int} {i : Nat} (hi : i < (mAll t).length) (hno : ∀ j, j < i → ∀ h : j < (mAll t).length, pAt t label (mAll t)[j] = false) (hy : pAt t label (mAll t)[i] = true) : mCast t label = ((mAll t)[i], true) := by
 have : (mAll t).find? (pAt t label) = some (mAll t)[i] := by
  rw [List.find?_eq_some_iff_getElem]
  exact ⟨hy, i, hi, rfl, fun j hj => by rw [hno j hj (by omega)]; rfl⟩
 unfold mCast; rw [this]
theorem mCast_none {t : Tm} {label : Int} (hno : ∀ j, j < (mAll t).length → ∀ h : j < (mAll t).length, pAt t label (mAll t)[j] = false) : mCast t label = ([], false) := by
 have : (mAll t).find? (pAt t label) = none := by
  rw [List.find?_eq_none]
  intro x hx
  obtain ⟨j, hj, rfl⟩ := List.getElem_of_mem hx
  rw [hno j hj hj]; simp
 unfold mCast; rw [this]
theorem pAt_step {t : Tm} {label : Int} {i : Nat} (hno : ∀ j, j < i → ∀ h : j < (mAll t).length, pAt t label (mAll t)[j] = false) (hi : i < (mAll t).length) (hn : pAt t label (mAll t)[i] = false) : ∀ j, j < i + 1 → ∀ h : j < (mAll t).length, pAt t label (mAll t)[j] = false := by
 intro j hj h
 rcases Nat.lt_or_ge j i with hlt | hge
 ·exact hno j hlt h
 ·obtain rfl : j = i := by omega
  exact hn
theorem pAt_t {t : Tm} {label : Int} {l : List Int} {x : Tm} (h : tAt t l = some x) (h1 : x.k = 14) (h2 : x.lb = label) : pAt t label l = true := by
 unfold pAt; rw [h]; exact decide_eq_true ⟨h1, h2⟩
theorem pAt_f {t : Tm} {label : Int} {l : List Int} {x : Tm} (h : tAt t l = some x) (h1 : ¬ (x.k = 14 ∧ x.lb = label)) : pAt t label l = false := by
 unfold pAt; rw [h]; exact decide_eq_false h1
theorem pAt_n {t : Tm} {label : Int} {l : List Int} (h : tAt t l = none) : pAt t label l = false := by
 unfold pAt; rw [h]
/-- A path in memory of its own. -/
def SP1 (G : IM) (l : List Int) (p : Option Addr) (c : Nat) : Prop := Sl G p l.length c 1 (ints l) ∧ ∀ b ∈ vfp p, G b ≠ none
theorem SPs.get1 {G : IM} : ∀ {ls : List (List Int)} {es : List Value} {F : List Nat}, SPs G ls es F → ∀ {i : Nat} (hi : i < ls.length), ∃ p c, es[i]? = some (.slice p ls[i].length c) ∧ SP1 G ls[i] p c
 | [], es, F, h, i, hi => by simp at hi
 | l :: ls, es, F, ⟨p, c, r, Fr, h1, h2, h3, h4, h5, h6⟩, i, hi => by
  subst h1
  cases i with
  | zero => exact ⟨p, c, rfl, h3, h4⟩
  | succ i => simpa using h6.get1 (i := i) (by simpa using hi)
def CpP (t : Tm) (label : Int) (G : IM) : IM → Value → List Ent → Prop := Imm fun G' v => ∃ p c, v = .tuple ⟨[.slice p (mCast t label).1.length c, .bool (mCast t label).2]⟩ ∧ SP1 (Dif G' G) (mCast t label).1 p c
theorem CpP.mk {t : Tm} {label : Int} {G G' : IM} {l : List Int} {b : Bool} {p : Option Addr} {c : Nat} (h : mCast t label = (l, b)) (hs : SP1 (Dif G' G) l p c) : CpP t label G G' (.tuple ⟨[.slice p l.length c, .bool b]⟩) [] := by
 refine ⟨rfl, p, c, ?_, ?_⟩
 ·rw [h]
 ·rw [h]; exact hs
theorem SP1.nil (G : IM) : SP1 G [] none 0 := ⟨Sl.nil G 1, by simp [vfp]⟩
set_option maxHeartbeats 0 in
set_option maxRecDepth 100000 in
theorem castPath_fn (t : Tm) (label : Int) (G : IM) (cells : List Value) (hr : RTm G t cells) :
  Fn Try.prog 18 [.agg ⟨cells⟩, .int .i64 label] [] G (CpP t label G) := by
 have hl := hr.len
 have hI := allPaths_fn t G cells hr
 refine fn_enter Try.func18 rfl Try.ntmps18 Try.results18 rfl ?_
 intro w0
 refine tri_seq ?_
 refine tri_region ?_
 (refine seq_step (step_box_a rfl rfl) rfl ?_; rintro _ ⟨b3, rfl⟩)
 refine seq_pure (pure_assign rfl) rfl rfl ?_
 refine seq_pure (pure_assign rfl) rfl rfl ?_
 refine seq_done ?_
 refine nrm_seq ?_
 refine tri_seq ?_
 refine tri_seq ?_
 refine tri_region ?_
 refine seq_load (load_a rfl rfl (at_blk_all (by repeat (first | exact List.Mem.head _ | apply List.Mem.tail))) (by assumption)) rfl rfl ?_
 (refine seq_imm rfl hI rfl rfl (fun v1 G1 hle1 hh => ?_); obtain ⟨p1, c1, rfl, es1, F1, hp1, hb1, hq1, hd1⟩ := hh; have hn1 := hp1.le; have hr1 := hr.mono hle1; have hp1' := hp1.mono (Dif.le G1 G))
 refine seq_pure (pure_len rfl rfl) rfl rfl ?_
 refine seq_pure (pure_move rfl) rfl rfl ?_
 refine seq_done ?_
 refine nrm_seq ?_
 refine tri_block ?_
 refine tri_loopN (fun (i : Nat) => ⟨[(13, .int .i64 i), (12, .int .i64 (mAll t).length), (11, .slice p1 (mAll t).length c1), (2, .pointer (some ⟨b3, 0, none⟩)), (1, .int .i64 label)], [.blk b3 cells], G1⟩) (fun i => i ≤ (mAll t).length ∧ ∀ j, j < i → ∀ h : j < (mAll t).length, pAt t label (mAll t)[j] = false) (fun i => (mAll t).length - i) 0 ?_ ?_ ?_
 ·exact sub_mk (by repeat (first | exact SubE.nil | refine SubE.cons rfl ?_)) (by repeat (first | exact SubH.refl | exact SubH.nil | refine SubH.cons (by repeat (first | exact Pk.here | apply Pk.there)) ?_ | apply SubH.drop))
 ·exact ⟨Nat.zero_le _, fun j hj => absurd hj (by omega)⟩
 ·(rintro i ⟨hi, hno⟩)
  refine tri_seq ?_
  refine tri_region ?_
  refine seq_bool (pure_lss rfl rfl) rfl rfl (fun h24 => ?_) (fun h24 => ?_)
  ·refine seq_done ?_
   refine nrm_seq ?_
   refine tri_seq ?_
   refine tri_cond_t rfl ?_
   refine tri_skip ?_
   refine nrm_seq ?_
   refine tri_seq ?_
   refine tri_block ?_
   refine tri_seq ?_
   refine tri_region ?_
   (obtain ⟨b, o, v, rfl, hv, hatc, hgb⟩ := hp1'.kid (i := i) (by omega); obtain ⟨p3, c3, hv3, hs3⟩ := hq1.get1 (i := i) (by omega); rw [hv3] at hv; obtain rfl := Option.some.inj hv; refine seq_pure (pure_indexAddrN rfl rfl rfl (by omega)) rfl rfl ?_)
   refine seq_load (load_s rfl rfl (hatc _)) rfl rfl ?_
   refine seq_pure (pure_assign rfl) rfl rfl ?_
   refine seq_done ?_
   refine nrm_seq ?_
   refine tri_seq ?_
   refine tri_region ?_
   refine seq_load (load_a rfl rfl (at_blk_all (by repeat (first | exact List.Mem.head _ | apply List.Mem.tail))) (by assumption)) rfl rfl ?_
   refine seq_pure (pure_move rfl) rfl rfl ?_
   (refine seq_own rfl (at_fn t (mAll t)[i] G1 cells p3 c3 hr1 (hs3.1.mono (Dif.le _ _))) rfl rfl (fun v44 G44 outs44 hle44 h44 => ?_); obtain ⟨hG, rfl, hh⟩ := h44; replace hG := hG.symm; subst hG; rcases hh with ⟨x, cx, hx, hrx, rfl⟩ | ⟨hx, rfl⟩ <;> (first | obtain ⟨pt, ct, et, pf, cf, ef, pk, ck, ek, rfl, hxk, hxn, hxl, _⟩ := hrx.open | skip))
   ·refine seq_pure (pure_move rfl) rfl rfl ?_
    refine seq_pure (pure_extract rfl rfl) rfl rfl ?_
    refine seq_pure (pure_extract rfl rfl) rfl rfl ?_
    (refine seq_step (step_alloc rfl) rfl ?_; rintro _ ⟨b48, rfl⟩)
    refine seq_store rfl rfl rfl rfl rfl rfl (by repeat (first | exact Sw.here | apply Sw.there)) (by rfl) ?_
    refine seq_pure (pure_assign rfl) rfl rfl ?_
    refine seq_done ?_
    refine nrm_seq ?_
    refine tri_seq ?_
    refine tri_region ?_
    refine seq_pure (pure_fieldAddr0 rfl) rfl rfl ?_
    refine seq_load (load_bs rfl rfl (by repeat (first | exact List.Mem.head _ | apply List.Mem.tail)) (by rfl)) rfl rfl ?_
    refine seq_bool (pure_eql rfl rfl) rfl rfl (fun h57 => ?_) (fun h57 => ?_)
    ·refine seq_pure (pure_move rfl) rfl rfl ?_
     refine seq_pure (pure_fieldAddr0 rfl) rfl rfl ?_
     refine seq_load (load_bs rfl rfl (by repeat (first | exact List.Mem.head _ | apply List.Mem.tail)) (by rfl)) rfl rfl ?_
     refine seq_pure (pure_move rfl) rfl rfl ?_
     refine seq_bool (pure_eql rfl rfl) rfl rfl (fun h62 => ?_) (fun h62 => ?_)
     ·refine seq_pure (pure_pick_t rfl rfl) rfl rfl ?_
      refine seq_done ?_
      refine nrm_seq ?_
      refine tri_cond_t rfl ?_
      refine tri_seq ?_
      refine tri_region ?_
      refine seq_pure (pure_move rfl) rfl rfl ?_
      refine seq_pure (pure_assign rfl) rfl rfl ?_
      refine seq_pure (pure_assign rfl) rfl rfl ?_
      refine seq_done ?_
      refine nrm_seq ?_
      refine tri_ret ?_
      refine ret_block ?_
      refine ret_seq ?_
      refine ret_loopN ?_
      refine ret_block ?_
      refine ret_seq ?_
      refine ret_fin2 (res_tmp rfl) (res_tmp rfl) ?_
      exact CpP.mk (mCast_some (by omega) hno (pAt_t hx (by assumption) (by assumption))) hs3
     ·refine seq_pure (pure_pick_t rfl rfl) rfl rfl ?_
      refine seq_done ?_
      refine nrm_seq ?_
      refine tri_cond_f rfl ?_
      refine tri_skip ?_
      refine nrm_block ?_
      refine nrm_seq ?_
      refine tri_region ?_
      refine seq_pure (pure_add rfl rfl (by omega) (by omega)) rfl rfl ?_
      refine seq_pure (pure_move rfl) rfl rfl ?_
      refine seq_done ?_
      (refine nrm_loopN (i + 1) ?_ ?_ ?_)
      ·exact sub_mk (by repeat (first | exact SubE.nil | refine SubE.cons rfl ?_)) (by repeat (first | exact SubH.refl | exact SubH.nil | refine SubH.cons (by repeat (first | exact Pk.here | apply Pk.there)) ?_ | apply SubH.drop))
      ·exact ⟨by omega, pAt_step hno (by omega) (pAt_f hx (by omega))⟩
      ·omega
    ·refine seq_pure (pure_move rfl) rfl rfl ?_
     refine seq_skip rfl rfl ?_
     refine seq_skip rfl rfl ?_
     refine seq_skip rfl rfl ?_
     refine seq_skip rfl rfl ?_
     refine seq_pure (pure_pick_f rfl rfl) rfl rfl ?_
     refine seq_done ?_
     refine nrm_seq ?_
     refine tri_cond_f rfl ?_
     refine tri_skip ?_
     refine nrm_block ?_
     refine nrm_seq ?_
     refine tri_region ?_
     refine seq_pure (pure_add rfl rfl (by omega) (by omega)) rfl rfl ?_
     refine seq_pure (pure_move rfl) rfl rfl ?_
     refine seq_done ?_
     (refine nrm_loopN (i + 1) ?_ ?_ ?_)
     ·exact sub_mk (by repeat (first | exact SubE.nil | refine SubE.cons rfl ?_)) (by repeat (first | exact SubH.refl | exact SubH.nil | refine SubH.cons (by repeat (first | exact Pk.here | apply Pk.there)) ?_ | apply SubH.drop))
     ·exact ⟨by omega, pAt_step hno (by omega) (pAt_f hx (by omega))⟩
     ·omega
   ·refine seq_pure (pure_move rfl) rfl rfl ?_
    refine seq_pure (pure_extract rfl rfl) rfl rfl ?_
    refine seq_pure (pure_extract rfl rfl) rfl rfl ?_
    (refine seq_step (step_alloc rfl) rfl ?_; rintro _ ⟨b120, rfl⟩)
    refine seq_store rfl rfl rfl rfl rfl rfl (by repeat (first | exact Sw.here | apply Sw.there)) (by rfl) ?_
    refine seq_pure (pure_assign rfl) rfl rfl ?_
    refine seq_done ?_
    refine nrm_seq ?_
    refine tri_seq ?_
    refine tri_region ?_
    refine seq_pure (pure_fieldAddr0 rfl) rfl rfl ?_
    refine seq_load (load_bs rfl rfl (by repeat (first | exact List.Mem.head _ | apply List.Mem.tail)) (by rfl)) rfl rfl ?_
    refine seq_pure (pure_eql_f rfl rfl (by omega)) rfl rfl ?_
    refine seq_pure (pure_move rfl) rfl rfl ?_
    refine seq_skip rfl rfl ?_
    refine seq_skip rfl rfl ?_
    refine seq_skip rfl rfl ?_
    refine seq_skip rfl rfl ?_
    refine seq_pure (pure_pick_f rfl rfl) rfl rfl ?_
    refine seq_done ?_
    refine nrm_seq ?_
    refine tri_cond_f rfl ?_
    refine tri_skip ?_
    refine nrm_block ?_
    refine nrm_seq ?_
    refine tri_region ?_
    refine seq_pure (pure_add rfl rfl (by omega) (by omega)) rfl rfl ?_
    refine seq_pure (pure_move rfl) rfl rfl ?_
    refine seq_done ?_
    (refine nrm_loopN (i + 1) ?_ ?_ ?_)
    ·exact sub_mk (by repeat (first | exact SubE.nil | refine SubE.cons rfl ?_)) (by repeat (first | exact SubH.refl | exact SubH.nil | refine SubH.cons (by repeat (first | exact Pk.here | apply Pk.there)) ?_ | apply SubH.drop))
    ·exact ⟨by omega, pAt_step hno (by omega) (pAt_n hx)⟩
    ·omega
  ·refine seq_done ?_
   refine nrm_seq ?_
   refine tri_seq ?_
   refine tri_cond_f rfl ?_
   refine tri_exit ?_
   refine ext_seq ?_
   refine ext_loopN ?_
   refine ext_block_eq ?_
   refine nrm_seq ?_
   refine tri_seq ?_
   refine tri_region ?_
   refine seq_pure (pure_assign rfl) rfl rfl ?_
   refine seq_pure (pure_assign rfl) rfl rfl ?_
   refine seq_done ?_
   refine nrm_seq ?_
   refine tri_ret ?_
   refine ret_fin2 (res_tmp rfl) (res_tmp rfl) ?_
   (obtain rfl : i = (mAll t).length := (by omega); exact CpP.mk (l := []) (mCast_none hno) (SP1.nil _))
set_option maxHeartbeats 0 in
set_option maxRecDepth 100000 in
theorem sCastPath_fn (t : Tm) (label : Int) (G : IM) (cells : List Value) (hcnt : tmCount t ≤ 4294967296) (hr : RTm G t cells) :
  Fn Try.prog 19 [.agg ⟨cells⟩, .int .i64 label] [] G (CpP t label G) := by
 have hl := hr.len
 have hI := sAllPaths_fn t G cells hcnt hr
 refine fn_enter Try.func19 rfl Try.ntmps19 Try.results19 rfl ?_
 intro w0
 refine tri_seq ?_
 refine tri_region ?_
 (refine seq_step (step_box_a rfl rfl) rfl ?_; rintro _ ⟨b3, rfl⟩)
 refine seq_pure (pure_assign rfl) rfl rfl ?_
 refine seq_pure (pure_assign rfl) rfl rfl ?_
 refine seq_done ?_
 refine nrm_seq ?_
 refine tri_seq ?_
 refine tri_region ?_
 refine seq_load (load_a rfl rfl (at_blk_all (by repeat (first | exact List.Mem.head _ | apply List.Mem.tail))) (by assumption)) rfl rfl ?_
 (refine seq_imm rfl hI rfl rfl (fun v1 G1 hle1 hh => ?_); obtain ⟨p1, c1, rfl, es1, F1, hp1, hb1, hq1, hd1⟩ := hh; have hn1 := hp1.le; have hr1 := hr.mono hle1; have hp1' := hp1.mono (Dif.le G1 G))
 refine seq_pure (pure_assign rfl) rfl rfl ?_
 refine seq_done ?_
 refine nrm_seq ?_
 refine tri_seq ?_
 refine tri_seq ?_
 refine tri_region ?_
 refine seq_pure (pure_assign rfl) rfl rfl ?_
 refine seq_done ?_
 refine nrm_seq ?_
 refine tri_block ?_
 refine tri_loopN (fun (i : Nat) => ⟨[(7, .int .i64 i), (6, .slice p1 (mAll t).length c1), (2, .pointer (some ⟨b3, 0, none⟩)), (1, .int .i64 label)], [.blk b3 cells], G1⟩) (fun i => i ≤ (mAll t).length ∧ ∀ j, j < i → ∀ h : j < (mAll t).length, pAt t label (mAll t)[j] = false) (fun i => (mAll t).length - i) 0 ?_ ?_ ?_
 ·exact sub_mk (by repeat (first | exact SubE.nil | refine SubE.cons rfl ?_)) (by repeat (first | exact SubH.refl | exact SubH.nil | refine SubH.cons (by repeat (first | exact Pk.here | apply Pk.there)) ?_ | apply SubH.drop))
 ·exact ⟨Nat.zero_le _, fun j hj => absurd hj (by omega)⟩
 ·(rintro i ⟨hi, hno⟩)
  refine tri_seq ?_
  refine tri_seq ?_
  refine tri_region ?_
  refine seq_pure (pure_move rfl) rfl rfl ?_
  refine seq_pure (pure_move rfl) rfl rfl ?_
  refine seq_pure (pure_len rfl rfl) rfl rfl ?_
  refine seq_bool (pure_lss rfl rfl) rfl rfl (fun h32 => ?_) (fun h32 => ?_)
  ·refine seq_done ?_
   refine nrm_seq ?_
   refine tri_cond_t rfl ?_
   refine tri_skip ?_
   refine nrm_seq ?_
   refine tri_seq ?_
   refine tri_block ?_
   refine tri_seq ?_
   (obtain ⟨b, o, v, rfl, hv, hatc, hgb⟩ := hp1'.kid (i := i) (by omega); obtain ⟨p3, c3, hv3, hs3⟩ := hq1.get1 (i := i) (by omega); rw [hv3] at hv; obtain rfl := Option.some.inj hv; refine tri_draw mixed rfl ?_)
   refine any_load (i := 0) (listed' := [tt,ff,ff,ff,ff,ff,ff,ff,ff,ff,ff,ff]) rfl (by repeat (first | exact np_ret | apply np_seq | apply np_block | apply np_loopN')) (load_a rfl rfl (at_blk_all (by repeat (first | exact List.Mem.head _ | apply List.Mem.tail))) (by assumption)) rfl (by kernel_rfl) rfl rfl ?_
   refine any_pure (i := 1) (listed' := [tt,tt,ff,ff,ff,ff,ff,ff,ff,ff,ff,ff]) rfl (by repeat (first | exact np_ret | apply np_seq | apply np_block | apply np_loopN')) (pure_move rfl) rfl (by kernel_rfl) rfl rfl ?_
   refine any_pure (i := 2) (listed' := [tt,tt,tt,ff,ff,ff,ff,ff,ff,ff,ff,ff]) rfl (by repeat (first | exact np_ret | apply np_seq | apply np_block | apply np_loopN')) (pure_move rfl) rfl (by kernel_rfl) rfl rfl ?_
   refine any_pure (i := 3) (listed' := [tt,tt,tt,tt,ff,ff,ff,ff,ff,ff,ff,ff]) rfl (by repeat (first | exact np_ret | apply np_seq | apply np_block | apply np_loopN')) (pure_indexAddrN rfl rfl rfl (by omega)) rfl (by kernel_rfl) rfl rfl ?_
   refine any_load (i := 4) (listed' := [tt,tt,tt,tt,tt,ff,ff,ff,ff,ff,ff,ff]) rfl (by repeat (first | exact np_ret | apply np_seq | apply np_block | apply np_loopN')) (load_s rfl rfl (hatc _)) rfl (by kernel_rfl) rfl rfl ?_
   refine any_two (j := 5) (j' := 9) (by kernel_rfl) ?_ ?_
   ·(refine one_own (listed' := [tt,tt,tt,tt,tt,tt,ff,ff,ff,ff,ff,ff]) rfl rfl (l16At_fn t (mAll t)[i] G1 cells p3 c3 hr1 (hs3.1.mono (Dif.le _ _))) rfl rfl rfl (fun v48 G48 outs48 hle48 h48 => ?_); obtain ⟨hG, rfl, hh⟩ := h48; replace hG := hG.symm; subst hG; rcases hh with ⟨x, cx, hx, hrx, rfl⟩ | ⟨hx, rfl⟩ <;> (first | obtain ⟨pt, ct, et, pf, cf, ef, pk, ck, ek, rfl, hxk, hxn, hxl, _⟩ := hrx.open | skip))
    ·refine any_pure (i := 6) (listed' := [tt,tt,tt,tt,tt,tt,tt,ff,ff,ff,ff,ff]) rfl (by repeat (first | exact np_ret | apply np_seq | apply np_block | apply np_loopN')) (pure_move rfl) rfl (by kernel_rfl) rfl rfl ?_
     refine any_pure (i := 7) (listed' := [tt,tt,tt,tt,tt,tt,tt,tt,ff,ff,ff,ff]) rfl (by repeat (first | exact np_ret | apply np_seq | apply np_block | apply np_loopN')) (pure_extract rfl rfl) rfl (by kernel_rfl) rfl rfl ?_
     refine any_pure (i := 8) (listed' := [tt,tt,tt,tt,tt,tt,tt,tt,tt,ff,ff,ff]) rfl (by repeat (first | exact np_ret | apply np_seq | apply np_block | apply np_loopN')) (pure_extract rfl rfl) rfl (by kernel_rfl) rfl rfl ?_
     refine any_one (j := 9) (by kernel_rfl) ?_
     (refine one_step0 (listed' := [tt,tt,tt,tt,tt,tt,tt,tt,tt,tt,ff,ff]) rfl (step_alloc rfl) rfl rfl ?_; rintro _ ⟨b53, rfl⟩)
     refine any_one (j := 10) (by kernel_rfl) ?_
     refine one_store (listed' := [tt,tt,tt,tt,tt,tt,tt,tt,tt,tt,tt,ff]) rfl rfl rfl rfl rfl rfl rfl rfl (by kernel_rfl) (by repeat (first | exact Sw.here | apply Sw.there)) (by rfl) ?_
     refine any_pure (i := 11) (listed' := [tt,tt,tt,tt,tt,tt,tt,tt,tt,tt,tt,tt]) rfl (by repeat (first | exact np_ret | apply np_seq | apply np_block | apply np_loopN')) (pure_assign rfl) rfl (by kernel_rfl) rfl rfl ?_
     refine any_done (by kernel_rfl) ?_
     refine nrm_seq ?_
     refine tri_seq ?_
     refine tri_region ?_
     refine seq_pure (pure_fieldAddr0 rfl) rfl rfl ?_
     refine seq_load (load_bs rfl rfl (by repeat (first | exact List.Mem.head _ | apply List.Mem.tail)) (by rfl)) rfl rfl ?_
     refine seq_bool (pure_eql rfl rfl) rfl rfl (fun h63 => ?_) (fun h63 => ?_)
     ·refine seq_pure (pure_move rfl) rfl rfl ?_
      refine seq_pure (pure_fieldAddr0 rfl) rfl rfl ?_
      refine seq_load (load_bs rfl rfl (by repeat (first | exact List.Mem.head _ | apply List.Mem.tail)) (by rfl)) rfl rfl ?_
      refine seq_pure (pure_move rfl) rfl rfl ?_
      refine seq_bool (pure_eql rfl rfl) rfl rfl (fun h68 => ?_) (fun h68 => ?_)
      ·refine seq_pure (pure_pick_t rfl rfl) rfl rfl ?_
       refine seq_done ?_
       refine nrm_seq ?_
       refine tri_cond_t rfl ?_
       refine tri_seq ?_
       refine tri_region ?_
       refine seq_pure (pure_move rfl) rfl rfl ?_
       refine seq_pure (pure_move rfl) rfl rfl ?_
       refine seq_pure (pure_indexAddrN rfl rfl rfl (by omega)) rfl rfl ?_
       refine seq_load (load_s rfl rfl (hatc _)) rfl rfl ?_
       refine seq_pure (pure_assign rfl) rfl rfl ?_
       refine seq_pure (pure_assign rfl) rfl rfl ?_
       refine seq_done ?_
       refine nrm_seq ?_
       refine tri_ret ?_
       refine ret_block ?_
       refine ret_seq ?_
       refine ret_loopN ?_
       refine ret_block ?_
       refine ret_seq ?_
       refine ret_fin2 (res_tmp rfl) (res_tmp rfl) ?_
       exact CpP.mk (mCast_some (by omega) hno (pAt_t hx (by assumption) (by assumption))) hs3
      ·refine seq_pure (pure_pick_t rfl rfl) rfl rfl ?_
       refine seq_done ?_
       refine nrm_seq ?_
       refine tri_cond_f rfl ?_
       refine tri_skip ?_
       refine nrm_block ?_
       refine nrm_seq ?_
       refine tri_region ?_
       refine seq_pure (pure_move rfl) rfl rfl ?_
       refine seq_pure (pure_add rfl rfl (by omega) (by omega)) rfl rfl ?_
       refine seq_pure (pure_assign rfl) rfl rfl ?_
       refine seq_done ?_
       (refine nrm_loopN (i + 1) ?_ ?_ ?_)
       ·exact sub_mk (by repeat (first | exact SubE.nil | refine SubE.cons rfl ?_)) (by repeat (first | exact SubH.refl | exact SubH.nil | refine SubH.cons (by repeat (first | exact Pk.here | apply Pk.there)) ?_ | apply SubH.drop))
       ·exact ⟨by omega, pAt_step hno (by omega) (pAt_f hx (by omega))⟩
       ·omega
     ·refine seq_pure (pure_move rfl) rfl rfl ?_
      refine seq_skip rfl rfl ?_
      refine seq_skip rfl rfl ?_
      refine seq_skip rfl rfl ?_
      refine seq_skip rfl rfl ?_
      refine seq_pure (pure_pick_f rfl rfl) rfl rfl ?_
      refine seq_done ?_
      refine nrm_seq ?_
      refine tri_cond_f rfl ?_
      refine tri_skip ?_
      refine nrm_block ?_
      refine nrm_seq ?_
      refine tri_region ?_
      refine seq_pure (pure_move rfl) rfl rfl ?_
      refine seq_pure (pure_add rfl rfl (by omega) (by omega)) rfl rfl ?_
      refine seq_pure (pure_assign rfl) rfl rfl ?_
      refine seq_done ?_
      (refine nrm_loopN (i + 1) ?_ ?_ ?_)
      ·exact sub_mk (by repeat (first | exact SubE.nil | refine SubE.cons rfl ?_)) (by repeat (first | exact SubH.refl | exact SubH.nil | refine SubH.cons (by repeat (first | exact Pk.here | apply Pk.there)) ?_ | apply SubH.drop))
      ·exact ⟨by omega, pAt_step hno (by omega) (pAt_f hx (by omega))⟩
      ·omega
    ·refine any_pure (i := 6) (listed' := [tt,tt,tt,tt,tt,tt,tt,ff,ff,ff,ff,ff]) rfl (by repeat (first | exact np_ret | apply np_seq | apply np_block | apply np_loopN')) (pure_move rfl) rfl (by kernel_rfl) rfl rfl ?_
     refine any_pure (i := 7) (listed' := [tt,tt,tt,tt,tt,tt,tt,tt,ff,ff,ff,ff]) rfl (by repeat (first | exact np_ret | apply np_seq | apply np_block | apply np_loopN')) (pure_extract rfl rfl) rfl (by kernel_rfl) rfl rfl ?_
     refine any_pure (i := 8) (listed' := [tt,tt,tt,tt,tt,tt,tt,tt,tt,ff,ff,ff]) rfl (by repeat (first | exact np_ret | apply np_seq | apply np_block | apply np_loopN')) (pure_extract rfl rfl) rfl (by kernel_rfl) rfl rfl ?_
     refine any_one (j := 9) (by kernel_rfl) ?_
     (refine one_step0 (listed' := [tt,tt,tt,tt,tt,tt,tt,tt,tt,tt,ff,ff]) rfl (step_alloc rfl) rfl rfl ?_; rintro _ ⟨b132, rfl⟩)
     refine any_one (j := 10) (by kernel_rfl) ?_
     refine one_store (listed' := [tt,tt,tt,tt,tt,tt,tt,tt,tt,tt,tt,ff]) rfl rfl rfl rfl rfl rfl rfl rfl (by kernel_rfl) (by repeat (first | exact Sw.here | apply Sw.there)) (by rfl) ?_
     refine any_pure (i := 11) (listed' := [tt,tt,tt,tt,tt,tt,tt,tt,tt,tt,tt,tt]) rfl (by repeat (first | exact np_ret | apply np_seq | apply np_block | apply np_loopN')) (pure_assign rfl) rfl (by kernel_rfl) rfl rfl ?_
     refine any_done (by kernel_rfl) ?_
     refine nrm_seq ?_
     refine tri_seq ?_
     refine tri_region ?_
     refine seq_pure (pure_fieldAddr0 rfl) rfl rfl ?_
     refine seq_load (load_bs rfl rfl (by repeat (first | exact List.Mem.head _ | apply List.Mem.tail)) (by rfl)) rfl rfl ?_
     refine seq_pure (pure_eql_f rfl rfl (by omega)) rfl rfl ?_
     refine seq_pure (pure_move rfl) rfl rfl ?_
     refine seq_skip rfl rfl ?_
     refine seq_skip rfl rfl ?_
     refine seq_skip rfl rfl ?_
     refine seq_skip rfl rfl ?_
     refine seq_pure (pure_pick_f rfl rfl) rfl rfl ?_
     refine seq_done ?_
     refine nrm_seq ?_
     refine tri_cond_f rfl ?_
     refine tri_skip ?_
     refine nrm_block ?_
     refine nrm_seq ?_
     refine tri_region ?_
     refine seq_pure (pure_move rfl) rfl rfl ?_
     refine seq_pure (pure_add rfl rfl (by omega) (by omega)) rfl rfl ?_
     refine seq_pure (pure_assign rfl) rfl rfl ?_
     refine seq_done ?_
     (refine nrm_loopN (i + 1) ?_ ?_ ?_)
     ·exact sub_mk (by repeat (first | exact SubE.nil | refine SubE.cons rfl ?_)) (by repeat (first | exact SubH.refl | exact SubH.nil | refine SubH.cons (by repeat (first | exact Pk.here | apply Pk.there)) ?_ | apply SubH.drop))
     ·exact ⟨by omega, pAt_step hno (by omega) (pAt_n hx)⟩
     ·omega
   ·(refine one_step0 (listed' := [tt,tt,tt,tt,tt,ff,ff,ff,ff,tt,ff,ff]) rfl (step_alloc rfl) rfl rfl ?_; rintro _ ⟨b164, rfl⟩)
    refine any_one (j := 5) (by kernel_rfl) ?_
    (refine one_own (listed' := [tt,tt,tt,tt,tt,tt,ff,ff,ff,tt,ff,ff]) rfl rfl (l16At_fn t (mAll t)[i] G1 cells p3 c3 hr1 (hs3.1.mono (Dif.le _ _))) rfl rfl rfl (fun v166 G166 outs166 hle166 h166 => ?_); obtain ⟨hG, rfl, hh⟩ := h166; replace hG := hG.symm; subst hG; rcases hh with ⟨x, cx, hx, hrx, rfl⟩ | ⟨hx, rfl⟩ <;> (first | obtain ⟨pt, ct, et, pf, cf, ef, pk, ck, ek, rfl, hxk, hxn, hxl, _⟩ := hrx.open | skip))
    ·refine any_pure (i := 6) (listed' := [tt,tt,tt,tt,tt,tt,tt,ff,ff,tt,ff,ff]) rfl (by repeat (first | exact np_ret | apply np_seq | apply np_block | apply np_loopN')) (pure_move rfl) rfl (by kernel_rfl) rfl rfl ?_
     refine any_pure (i := 7) (listed' := [tt,tt,tt,tt,tt,tt,tt,tt,ff,tt,ff,ff]) rfl (by repeat (first | exact np_ret | apply np_seq | apply np_block | apply np_loopN')) (pure_extract rfl rfl) rfl (by kernel_rfl) rfl rfl ?_
     refine any_pure (i := 8) (listed' := [tt,tt,tt,tt,tt,tt,tt,tt,tt,tt,ff,ff]) rfl (by repeat (first | exact np_ret | apply np_seq | apply np_block | apply np_loopN')) (pure_extract rfl rfl) rfl (by kernel_rfl) rfl rfl ?_
     refine any_one (j := 10) (by kernel_rfl) ?_
     refine one_store (listed' := [tt,tt,tt,tt,tt,tt,tt,tt,tt,tt,tt,ff]) rfl rfl rfl rfl rfl rfl rfl rfl (by kernel_rfl) (by repeat (first | exact Sw.here | apply Sw.there)) (by rfl) ?_
     refine any_pure (i := 11) (listed' := [tt,tt,tt,tt,tt,tt,tt,tt,tt,tt,tt,tt]) rfl (by repeat (first | exact np_ret | apply np_seq | apply np_block | apply np_loopN')) (pure_assign rfl) rfl (by kernel_rfl) rfl rfl ?_
     refine any_done (by kernel_rfl) ?_
     refine nrm_seq ?_
     refine tri_seq ?_
     refine tri_region ?_
     refine seq_pure (pure_fieldAddr0 rfl) rfl rfl ?_
     refine seq_load (load_bs rfl rfl (by repeat (first | exact List.Mem.head _ | apply List.Mem.tail)) (by rfl)) rfl rfl ?_
     refine seq_bool (pure_eql rfl rfl) rfl rfl (fun h179 => ?_) (fun h179 => ?_)
     ·refine seq_pure (pure_move rfl) rfl rfl ?_
      refine seq_pure (pure_fieldAddr0 rfl) rfl rfl ?_
      refine seq_load (load_bs rfl rfl (by repeat (first | exact List.Mem.head _ | apply List.Mem.tail)) (by rfl)) rfl rfl ?_
      refine seq_pure (pure_move rfl) rfl rfl ?_
      refine seq_bool (pure_eql rfl rfl) rfl rfl (fun h184 => ?_) (fun h184 => ?_)
      ·refine seq_pure (pure_pick_t rfl rfl) rfl rfl ?_
       refine seq_done ?_
       refine nrm_seq ?_
       refine tri_cond_t rfl ?_
       refine tri_seq ?_
       refine tri_region ?_
       refine seq_pure (pure_move rfl) rfl rfl ?_
       refine seq_pure (pure_move rfl) rfl rfl ?_
       refine seq_pure (pure_indexAddrN rfl rfl rfl (by omega)) rfl rfl ?_
       refine seq_load (load_s rfl rfl (hatc _)) rfl rfl ?_
       refine seq_pure (pure_assign rfl) rfl rfl ?_
       refine seq_pure (pure_assign rfl) rfl rfl ?_
       refine seq_done ?_
       refine nrm_seq ?_
       refine tri_ret ?_
       refine ret_block ?_
       refine ret_seq ?_
       refine ret_loopN ?_
       refine ret_block ?_
       refine ret_seq ?_
       refine ret_fin2 (res_tmp rfl) (res_tmp rfl) ?_
       exact CpP.mk (mCast_some (by omega) hno (pAt_t hx (by assumption) (by assumption))) hs3
      ·refine seq_pure (pure_pick_t rfl rfl) rfl rfl ?_
       refine seq_done ?_
       refine nrm_seq ?_
       refine tri_cond_f rfl ?_
       refine tri_skip ?_
       refine nrm_block ?_
       refine nrm_seq ?_
       refine tri_region ?_
       refine seq_pure (pure_move rfl) rfl rfl ?_
       refine seq_pure (pure_add rfl rfl (by omega) (by omega)) rfl rfl ?_
       refine seq_pure (pure_assign rfl) rfl rfl ?_
       refine seq_done ?_
       (refine nrm_loopN (i + 1) ?_ ?_ ?_)
       ·exact sub_mk (by repeat (first | exact SubE.nil | refine SubE.cons rfl ?_)) (by repeat (first | exact SubH.refl | exact SubH.nil | refine SubH.cons (by repeat (first | exact Pk.here | apply Pk.there)) ?_ | apply SubH.drop))
       ·exact ⟨by omega, pAt_step hno (by omega) (pAt_f hx (by omega))⟩
       ·omega
     ·refine seq_pure (pure_move rfl) rfl rfl ?_
      refine seq_skip rfl rfl ?_
      refine seq_skip rfl rfl ?_
      refine seq_skip rfl rfl ?_
      refine seq_skip rfl rfl ?_
      refine seq_pure (pure_pick_f rfl rfl) rfl rfl ?_
      refine seq_done ?_
      refine nrm_seq ?_
      refine tri_cond_f rfl ?_
      refine tri_skip ?_
      refine nrm_block ?_
      refine nrm_seq ?_
      refine tri_region ?_
      refine seq_pure (pure_move rfl) rfl rfl ?_
      refine seq_pure (pure_add rfl rfl (by omega) (by omega)) rfl rfl ?_
      refine seq_pure (pure_assign rfl) rfl rfl ?_
      refine seq_done ?_
      (refine nrm_loopN (i + 1) ?_ ?_ ?_)
      ·exact sub_mk (by repeat (first | exact SubE.nil | refine SubE.cons rfl ?_)) (by repeat (first | exact SubH.refl | exact SubH.nil | refine SubH.cons (by repeat (first | exact Pk.here | apply Pk.there)) ?_ | apply SubH.drop))
      ·exact ⟨by omega, pAt_step hno (by omega) (pAt_f hx (by omega))⟩
      ·omega
    ·refine any_pure (i := 6) (listed' := [tt,tt,tt,tt,tt,tt,tt,ff,ff,tt,ff,ff]) rfl (by repeat (first | exact np_ret | apply np_seq | apply np_block | apply np_loopN')) (pure_move rfl) rfl (by kernel_rfl) rfl rfl ?_
     refine any_pure (i := 7) (listed' := [tt,tt,tt,tt,tt,tt,tt,tt,ff,tt,ff,ff]) rfl (by repeat (first | exact np_ret | apply np_seq | apply np_block | apply np_loopN')) (pure_extract rfl rfl) rfl (by kernel_rfl) rfl rfl ?_
     refine any_pure (i := 8) (listed' := [tt,tt,tt,tt,tt,tt,tt,tt,tt,tt,ff,ff]) rfl (by repeat (first | exact np_ret | apply np_seq | apply np_block | apply np_loopN')) (pure_extract rfl rfl) rfl (by kernel_rfl) rfl rfl ?_
     refine any_one (j := 10) (by kernel_rfl) ?_
     refine one_store (listed' := [tt,tt,tt,tt,tt,tt,tt,tt,tt,tt,tt,ff]) rfl rfl rfl rfl rfl rfl rfl rfl (by kernel_rfl) (by repeat (first | exact Sw.here | apply Sw.there)) (by rfl) ?_
     refine any_pure (i := 11) (listed' := [tt,tt,tt,tt,tt,tt,tt,tt,tt,tt,tt,tt]) rfl (by repeat (first | exact np_ret | apply np_seq | apply np_block | apply np_loopN')) (pure_assign rfl) rfl (by kernel_rfl) rfl rfl ?_
     refine any_done (by kernel_rfl) ?_
     refine nrm_seq ?_
     refine tri_seq ?_
     refine tri_region ?_
     refine seq_pure (pure_fieldAddr0 rfl) rfl rfl ?_
     refine seq_load (load_bs rfl rfl (by repeat (first | exact List.Mem.head _ | apply List.Mem.tail)) (by rfl)) rfl rfl ?_
     refine seq_pure (pure_eql_f rfl rfl (by omega)) rfl rfl ?_
     refine seq_pure (pure_move rfl) rfl rfl ?_
     refine seq_skip rfl rfl ?_
     refine seq_skip rfl rfl ?_
     refine seq_skip rfl rfl ?_
     refine seq_skip rfl rfl ?_
     refine seq_pure (pure_pick_f rfl rfl) rfl rfl ?_
     refine seq_done ?_
     refine nrm_seq ?_
     refine tri_cond_f rfl ?_
     refine tri_skip ?_
     refine nrm_block ?_
     refine nrm_seq ?_
     refine tri_region ?_
     refine seq_pure (pure_move rfl) rfl rfl ?_
     refine seq_pure (pure_add rfl rfl (by omega) (by omega)) rfl rfl ?_
     refine seq_pure (pure_assign rfl) rfl rfl ?_
     refine seq_done ?_
     (refine nrm_loopN (i + 1) ?_ ?_ ?_)
     ·exact sub_mk (by repeat (first | exact SubE.nil | refine SubE.cons rfl ?_)) (by repeat (first | exact SubH.refl | exact SubH.nil | refine SubH.cons (by repeat (first | exact Pk.here | apply Pk.there)) ?_ | apply SubH.drop))
     ·exact ⟨by omega, pAt_step hno (by omega) (pAt_n hx)⟩
     ·omega
  ·refine seq_done ?_
   refine nrm_seq ?_
   refine tri_cond_f rfl ?_
   refine tri_exit ?_
   refine ext_seq ?_
   refine ext_loopN ?_
   refine ext_block_eq ?_
   refine nrm_seq ?_
   refine tri_seq ?_
   refine tri_region ?_
   (refine seq_step (step_buildSlice rfl rfl rfl (by omega) (by unfold maxLen; omega) rfl) rfl ?_; rintro _ ⟨b288, rfl⟩)
   refine seq_pure (pure_assign rfl) rfl rfl ?_
   refine seq_pure (pure_assign rfl) rfl rfl ?_
   refine seq_done ?_
   refine nrm_seq ?_
   (refine ret_freeze (by repeat (first | exact Pk.here | apply Pk.there)) (fun G3 hle3 hsl3 hno3 => ?_))
   refine tri_ret ?_
   refine ret_fin2 (res_tmp rfl) (res_tmp rfl) ?_
   (obtain rfl : i = (mAll t).length := (by omega); exact CpP.mk (l := []) (mCast_none hno) ⟨hsl3.dif (fun b hb => (hno3 b hb).1) hle1, fun b hb => dif_in hle1 (hno3 b hb)⟩)
end Gw
end Go.Proofs.Yteneckdjdfnjoaa
namespace Go.Proofs.Yteneckdjdfnjoaa
open Go Go.RowKit
namespace Gw
mutual
def mCasts : Tm → List Tm
 | .mk k nm num ty fr lb ks => (if k = 14 then [.mk k nm num ty fr lb ks] else []) ++ mCastsL ks
def mCastsL : List Tm → List Tm
 | [] => []
 | t :: ts => mCasts t ++ mCastsL ts
end
theorem mCastsL_app : ∀ (a b : List Tm), mCastsL (a ++ b) = mCastsL a ++ mCastsL b
 | [], b => by rw [mCastsL, List.nil_append, List.nil_append]
 | t :: a, b => by rw [List.cons_append, mCastsL, mCastsL, mCastsL_app a b, List.append_assoc]
theorem mCastsL_succ {ks : List Tm} {i : Nat} (hi : i < ks.length) : mCastsL (ks.take (i + 1)) = mCastsL (ks.take i) ++ mCasts ks[i] := by
 rw [List.take_succ_eq_append_getElem hi, mCastsL_app, mCastsL, mCastsL, List.append_nil]
mutual
theorem mCasts_len : ∀ t : Tm, (mCasts t).length ≤ tmCount t
 | .mk k nm num ty fr lb ks => by
  have := mCastsL_len ks
  rw [mCasts, tmCount, List.length_append]
  split <;> simp <;> omega
theorem mCastsL_len : ∀ ts : List Tm, (mCastsL ts).length ≤ tmCountL ts
 | [] => by rw [mCastsL, tmCountL]; simp
 | t :: ts => by
  have := mCasts_len t
  have := mCastsL_len ts
  rw [mCastsL, tmCountL, List.length_append]; omega
end
mutual
theorem mCasts_k : ∀ (t x : Tm), x ∈ mCasts t → x.k = 14
 | .mk k nm num ty fr lb ks, x, h => by
  rw [mCasts] at h
  rcases List.mem_append.1 h with h | h
  ·split at h
   ·rename_i hk
    simp only [List.mem_singleton] at h
    subst h; exact hk
   ·simp at h
  ·exact mCastsL_k ks x h
theorem mCastsL_k : ∀ (ts : List Tm) (x : Tm), x ∈ mCastsL ts → x.k = 14
 | [], x, h => by rw [mCastsL] at h; simp at h
 | t :: ts, x, h => by
  rw [mCastsL] at h
  rcases List.mem_append.1 h with h | h
  ·exact mCasts_k t x h
  ·exact mCastsL_k ts x h
end
mutual
theorem mPaths_pre : ∀ (t : Tm) (a b : List Int), mPaths t (a ++ b) = (mPaths t b).map (a ++ ·)
 | .mk k nm num ty fr lb ks, a, b => by rw [mPaths, mPaths, List.map_cons, mPathsL_pre ks 0 a b]
theorem mPathsL_pre : ∀ (ts : List Tm) (i : Nat) (a b : List Int), mPathsL ts i (a ++ b) = (mPathsL ts i b).map (a ++ ·)
 | [], i, a, b => by rw [mPathsL, mPathsL, List.map_nil]
 | t :: ts, i, a, b => by rw [mPathsL, mPathsL, List.map_append, List.append_assoc, mPaths_pre t a, mPathsL_pre ts _ a b]
end
def lbIs (label : Int) (x : Tm) : Bool := decide (x.lb = label)
/-- The first of the casts with a label belongs to the first of the paths to one. -/
def Agree (t : Tm) (label : Int) : Prop := ((mCasts t).find? (lbIs label) = none → (mPaths t []).find? (pAt t label) = none) ∧ (∀ x, (mCasts t).find? (lbIs label) = some x → ∃ l, (mPaths t []).find? (pAt t label) = some l ∧ tAt t l = some x)
theorem pAt_kid {k : Int} {nm : ByteArray} {num : Int} {ty fr : Ty} {lb : Int} {ks : List Tm} {label : Int} {j : Nat} {s : List Int} (h : j < ks.length) : pAt (.mk k nm num ty fr lb ks) label ((j : Int) :: s) = pAt ks[j] label s := by
 unfold pAt; rw [tAt_goM h]
mutual
theorem agree : ∀ (t : Tm) (label : Int), Agree t label
 | .mk k nm num ty fr lb ks, label => by
  have hL := agreeL ks label 0 (pAt (.mk k nm num ty fr lb ks) label) (fun j hj s => by rw [Nat.zero_add]; exact pAt_kid hj)
  have h0 : pAt (.mk k nm num ty fr lb ks) label [] = decide (k = 14 ∧ lb = label) := by unfold pAt; rw [tAt_nil]; rfl
  unfold Agree
  rw [mCasts, mPaths, List.find?_append, List.find?_cons, h0]
  by_cases hk : k = 14
  ·rw [if_pos hk]
   by_cases hl : lb = label
   ·have e1 : [Tm.mk k nm num ty fr lb ks].find? (lbIs label) = some (.mk k nm num ty fr lb ks) := by
     rw [List.find?_cons, show lbIs label (.mk k nm num ty fr lb ks) = true from decide_eq_true hl]
    rw [e1, decide_eq_true ⟨hk, hl⟩]
    exact ⟨fun h => by simp at h, fun x hx => ⟨[], rfl, by simp at hx; rw [tAt_nil, hx]⟩⟩
   ·have e1 : [Tm.mk k nm num ty fr lb ks].find? (lbIs label) = none := by
     rw [List.find?_cons, show lbIs label (.mk k nm num ty fr lb ks) = false from decide_eq_false hl, List.find?_nil]
    rw [e1, decide_eq_false (fun h => hl h.2), Option.none_or]
    refine ⟨hL.1, fun x hx => ?_⟩
    obtain ⟨j, s, hj, h1, h2⟩ := hL.2 x hx
    rw [Nat.zero_add] at h1
    exact ⟨_, h1, by rw [tAt_goM hj]; exact h2⟩
  ·rw [if_neg hk, decide_eq_false (fun h => hk h.1), List.find?_nil, Option.none_or]
   refine ⟨hL.1, fun x hx => ?_⟩
   obtain ⟨j, s, hj, h1, h2⟩ := hL.2 x hx
   rw [Nat.zero_add] at h1
   exact ⟨_, h1, by rw [tAt_goM hj]; exact h2⟩
theorem agreeL : ∀ (ts : List Tm) (label : Int) (i : Nat) (P : List Int → Bool), (∀ j (hj : j < ts.length) s, P (((i + j : Nat) : Int) :: s) = pAt ts[j] label s) →
  ((mCastsL ts).find? (lbIs label) = none → (mPathsL ts i []).find? P = none) ∧ (∀ x, (mCastsL ts).find? (lbIs label) = some x → ∃ j s, ∃ hj : j < ts.length, (mPathsL ts i []).find? P = some (((i + j : Nat) : Int) :: s) ∧ tAt ts[j] s = some x)
 | [], label, i, P, hP => by
  rw [mCastsL, mPathsL]
  exact ⟨fun _ => rfl, fun x hx => by simp at hx⟩
 | t :: ts, label, i, P, hP => by
  obtain ⟨a1, a2⟩ := agree t label
  obtain ⟨b1, b2⟩ := agreeL ts label (i + 1) P (fun j hj s => by
   have := hP (j + 1) (by simpa using hj) s
   rw [show i + 1 + j = i + (j + 1) by omega]
   simpa using this)
  have hf : (P ∘ fun s => [(i : Int)] ++ s) = pAt t label := by
   funext s
   have := hP 0 (by simp) s
   simpa using this
  have hm : (mPaths t ([] ++ [(i : Int)])).find? P = ((mPaths t []).find? (pAt t label)).map (fun s => [(i : Int)] ++ s) := by
   have := mPaths_pre t [(i : Int)] []
   rw [List.append_nil] at this
   rw [List.nil_append, this, List.find?_map, hf]
  rw [mCastsL, mPathsL, List.find?_append, List.find?_append, hm]
  cases hc : (mCasts t).find? (lbIs label) with
  | none =>
   rw [a1 hc, Option.map_none, Option.none_or, Option.none_or]
   refine ⟨b1, fun x hx => ?_⟩
   obtain ⟨j, s, hj, h1, h2⟩ := b2 x hx
   exact ⟨j + 1, s, by simpa using hj, by rw [h1, show i + 1 + j = i + (j + 1) by omega], by simpa using h2⟩
  | some y =>
   obtain ⟨l, h1, h2⟩ := a2 y hc
   rw [h1]
   refine ⟨fun h => by simp at h, fun x hx => ?_⟩
   simp at hx
   subst hx
   exact ⟨0, l, by simp, by simp, by simpa using h2⟩
end
def mCTL (label : Int) : List Tm → List Ty
 | [] => []
 | c :: cs => (if c.lb = label then [c.fr, c.ty] else []) ++ mCTL label cs
theorem mCTL_app (label : Int) : ∀ a b : List Tm, mCTL label (a ++ b) = mCTL label a ++ mCTL label b
 | [], b => by rw [mCTL, List.nil_append, List.nil_append]
 | t :: a, b => by rw [List.cons_append, mCTL, mCTL, mCTL_app label a b, List.append_assoc]
theorem mCTL_succ {label : Int} {cs : List Tm} {i : Nat} (hi : i < cs.length) : mCTL label (cs.take (i + 1)) = mCTL label (cs.take i) ++ (if cs[i].lb = label then [cs[i].fr, cs[i].ty] else []) := by
 rw [List.take_succ_eq_append_getElem hi, mCTL_app, mCTL, mCTL, List.append_nil]
theorem mCTL_len (label : Int) : ∀ cs : List Tm, (mCTL label cs).length ≤ 2 * cs.length
 | [] => by rw [mCTL]; simp
 | c :: cs => by
  have := mCTL_len label cs
  rw [mCTL, List.length_append, List.length_cons]
  split <;> simp <;> omega
theorem mCTL_none {label : Int} : ∀ {cs : List Tm}, cs.find? (lbIs label) = none → mCTL label cs = []
 | [], _ => rfl
 | c :: cs, h => by
  rw [List.find?_cons] at h
  rw [mCTL]
  by_cases hc : c.lb = label
  ·rw [show lbIs label c = true from decide_eq_true hc] at h; simp at h
  ·rw [show lbIs label c = false from decide_eq_false hc] at h
   rw [if_neg hc, mCTL_none h]; rfl
theorem mCTL_some {label : Int} : ∀ {cs : List Tm} {x : Tm}, cs.find? (lbIs label) = some x → ∃ r, mCTL label cs = x.fr :: x.ty :: r ∧ x.lb = label ∧ x ∈ cs
 | [], x, h => by simp at h
 | c :: cs, x, h => by
  rw [List.find?_cons] at h
  rw [mCTL]
  by_cases hc : c.lb = label
  ·rw [show lbIs label c = true from decide_eq_true hc] at h
   simp at h; subst h
   rw [if_pos hc]
   exact ⟨_, rfl, hc, by simp⟩
  ·rw [show lbIs label c = false from decide_eq_false hc] at h
   obtain ⟨r, h1, h2, h3⟩ := mCTL_some h
   rw [if_neg hc]
   exact ⟨r, h1, h2, List.mem_cons_of_mem _ h3⟩
/-- CastTypes in plain words. -/
def mCastTypes (t : Tm) (label : Int) : List Ty := if castValid t = true then mCTL label (mCasts t) else []
theorem cast_no {t : Tm} {label : Int} {l : List Int} (h : mCast t label = (l, false)) : mCastTypes t label = [] := by
 unfold mCastTypes
 split
 ·rename_i hv
  unfold mCast at h
  rw [mAll, if_pos hv] at h
  cases hc : (mCasts t).find? (lbIs label) with
  | none => exact mCTL_none hc
  | some x =>
   obtain ⟨l', h1, _⟩ := (agree t label).2 x hc
   rw [h1] at h; simp at h
 ·rfl
theorem cast_yes {t : Tm} {label : Int} {l : List Int} (h : mCast t label = (l, true)) : ∃ x r, mTermAt t l = (x, true) ∧ x.k = 14 ∧ x.lb = label ∧ mCastTypes t label = x.fr :: x.ty :: r := by
 unfold mCast at h
 by_cases hv : castValid t = true
 ·rw [mAll, if_pos hv] at h
  cases hc : (mCasts t).find? (lbIs label) with
  | none =>
   rw [(agree t label).1 hc] at h; simp at h
  | some x =>
   obtain ⟨l', h1, h2⟩ := (agree t label).2 x hc
   rw [h1] at h
   simp at h
   subst h
   obtain ⟨r, h3, h4, h5⟩ := mCTL_some hc
   exact ⟨x, r, mTermAt_yes hv h2, mCasts_k t x h5, h4, by unfold mCastTypes; rw [if_pos hv, h3]⟩
 ·rw [mAll, if_neg hv] at h; simp at h
end Gw
end Go.Proofs.Yteneckdjdfnjoaa
namespace Go.Proofs.Yteneckdjdfnjoaa
open Go Go.RowKit
namespace Gw
section slaws
variable {P : Program} {Γ : Ctx} {env : Env} {hp : List Ent} {G : IM} {ty : TypeId}
theorem run_bound {P : Program} {w : World} {l c : Nat} (hl : l ≤ c) (code : BoundsCode) : (Instr.sliceBound (.int .i64 (l : Int)) c code).run P w = .ok l w := by
 unfold Instr.sliceBound
 simp only [asIntOf, Sem.run_bind, Sem.run_pure, Result.andThen_ok]
 rw [if_pos ⟨by omega, by omega⟩]
 simp
theorem pure_sslice {x y z : Operand} {t : TypeId} {i : TyR} [hI : TyI P t i] (hd' : i.desc = .string) {s : ByteArray} {l h : Nat}
  (hx : evo env x = some (.string s)) (hy : evo env y = some (.int .i64 (l : Int))) (hz : evo env z = some (.int .i64 (h : Int))) (hl : l ≤ h) (hh : h ≤ s.size) :
  PureOp P Γ ⟨env, hp, G⟩ (.slice t x (some y) (some z) none) ty (.string (s.extract l h)) := by
 refine ⟨fun a _ hs _ _ _ _ w => ?_⟩
 have hu := hI.und
 rw [hd'] at hu
 simp [execOp, (hs.evo hx : a.eval x = _), (hs.evo hy : a.eval y = _), (hs.evo hz : a.eval z = _), Instr.sliceAt, Sem.run_bind, run_underlying hu, Instr.slice, Instr.sliceBounds, run_bound hl, run_bound hh]
theorem pure_sslice_h {x z : Operand} {t : TypeId} {i : TyR} [hI : TyI P t i] (hd' : i.desc = .string) {s : ByteArray} {h : Nat}
  (hx : evo env x = some (.string s)) (hz : evo env z = some (.int .i64 (h : Int))) (hh : h ≤ s.size) :
  PureOp P Γ ⟨env, hp, G⟩ (.slice t x none (some z) none) ty (.string (s.extract 0 h)) := by
 refine ⟨fun a _ hs _ _ _ _ w => ?_⟩
 have hu := hI.und
 rw [hd'] at hu
 simp [execOp, (hs.evo hx : a.eval x = _), (hs.evo hz : a.eval z = _), Instr.sliceAt, Sem.run_bind, run_underlying hu, Instr.slice, Instr.sliceBounds, run_bound hh]
theorem pure_sslice_l {x y : Operand} {t : TypeId} {i : TyR} [hI : TyI P t i] (hd' : i.desc = .string) {s : ByteArray} {l : Nat}
  (hx : evo env x = some (.string s)) (hy : evo env y = some (.int .i64 (l : Int))) (hl : l ≤ s.size) :
  PureOp P Γ ⟨env, hp, G⟩ (.slice t x (some y) none none) ty (.string (s.extract l s.size)) := by
 refine ⟨fun a _ hs _ _ _ _ w => ?_⟩
 have hu := hI.und
 rw [hd'] at hu
 simp [execOp, (hs.evo hx : a.eval x = _), (hs.evo hy : a.eval y = _), Instr.sliceAt, Sem.run_bind, run_underlying hu, Instr.slice, Instr.sliceBounds, run_bound hl]
theorem pure_slss {x y : Operand} {t t' : TypeId} {r s : ByteArray} (hx : evo env x = some (.string r)) (hy : evo env y = some (.string s)) :
  PureOp P Γ ⟨env, hp, G⟩ (.binOp .lss t x y t') ty (.bool (decide (Op.bytesLess r.toList s.toList = true))) := by
 refine ⟨fun a _ hs _ _ _ _ w => ?_⟩
 simp only [execOp, eqGuard, binOp, Op.stringOp, (hs.evo hx : a.eval x = _), (hs.evo hy : a.eval y = _)]
 simp
end slaws
set_option maxHeartbeats 0 in
set_option maxRecDepth 100000 in
theorem l2Add_fn (s nm : ByteArray) (G : IM) (hs : s.size ≤ 1000) (hn : nm.size ≤ 1000) :
  Fn Try.prog 107 [.string s, .string nm] [] G (fun G' v outs => G' = G ∧ outs = [] ∧ ∃ r, v = .string r ∧ r.size ≤ s.size + nm.size) := by
 refine fn_enter Try.func107 rfl Try.ntmps107 Try.results107 rfl ?_
 intro w0
 refine tri_seq ?_
 refine tri_region ?_
 refine seq_pure (pure_assign rfl) rfl rfl ?_
 refine seq_done ?_
 refine nrm_seq ?_
 refine tri_seq ?_
 refine tri_region ?_
 refine seq_pure (pure_assign rfl) rfl rfl ?_
 refine seq_done ?_
 refine nrm_seq ?_
 refine tri_seq ?_
 refine tri_block ?_
 (refine tri_loopN (fun (i : Nat) => ⟨[(5, .int .i64 (i : Int)), (0, .string s), (1, .string nm)], [], G⟩) (fun i => i ≤ s.size) (fun i => s.size - i) 0 ?_ ?_ ?_)
 ·exact sub_mk (by repeat (first | exact SubE.nil | refine SubE.cons rfl ?_)) (by repeat (first | exact SubH.refl | exact SubH.nil | refine SubH.cons (by repeat (first | exact Pk.here | apply Pk.there)) ?_ | apply SubH.drop))
 ·exact Nat.zero_le _
 ·(intro i hi)
  refine tri_seq ?_
  refine tri_seq ?_
  refine tri_region ?_
  refine seq_pure (pure_move rfl) rfl rfl ?_
  refine seq_pure (pure_move rfl) rfl rfl ?_
  refine seq_pure (pure_len_str rfl rfl) rfl rfl ?_
  refine seq_bool (pure_lss rfl rfl) rfl rfl (fun h23 => ?_) (fun h23 => ?_)
  ·refine seq_pure (pure_move rfl) rfl rfl ?_
   refine seq_pure (pure_move rfl) rfl rfl ?_
   refine seq_pure (pure_move rfl) rfl rfl ?_
   refine seq_pure (pure_move rfl) rfl rfl ?_
   refine seq_pure (pure_add_nat (n := 1) rfl rfl (by omega)) rfl rfl ?_
   refine seq_pure (pure_sslice (h := i + 1) rfl rfl rfl rfl (by omega) (by omega)) rfl rfl ?_
   refine seq_pure (pure_move rfl) rfl rfl ?_
   refine seq_bool (pure_slss rfl rfl) rfl rfl (fun h31 => ?_) (fun h31 => ?_)
   ·refine seq_pure (pure_pick_t rfl rfl) rfl rfl ?_
    refine seq_done ?_
    refine nrm_seq ?_
    refine tri_cond_t rfl ?_
    refine tri_skip ?_
    refine nrm_seq ?_
    refine tri_block ?_
    refine tri_region ?_
    refine seq_pure (pure_move rfl) rfl rfl ?_
    refine seq_pure (pure_add_nat (n := 1) rfl rfl (by omega)) rfl rfl ?_
    refine seq_pure (pure_assign rfl) rfl rfl ?_
    refine seq_done ?_
    refine nrm_block ?_
    refine nrm_loopN (i + 1) ?_ ?_ ?_
    ·exact sub_mk (by repeat (first | exact SubE.nil | refine SubE.cons rfl ?_)) (by repeat (first | exact SubH.refl | exact SubH.nil | refine SubH.cons (by repeat (first | exact Pk.here | apply Pk.there)) ?_ | apply SubH.drop))
    ·(show _ ≤ s.size; omega)
    ·(show s.size - _ < s.size - _; omega)
   ·refine seq_pure (pure_pick_t rfl rfl) rfl rfl ?_
    refine seq_done ?_
    refine nrm_seq ?_
    refine tri_cond_f rfl ?_
    refine tri_exit ?_
    refine ext_seq ?_
    refine ext_loopN ?_
    refine ext_block_eq ?_
    refine nrm_seq ?_
    refine tri_seq ?_
    refine tri_seq ?_
    refine tri_region ?_
    refine seq_pure (pure_move rfl) rfl rfl ?_
    refine seq_pure (pure_move rfl) rfl rfl ?_
    refine seq_pure (pure_len_str rfl rfl) rfl rfl ?_
    refine seq_pure (pure_lss_t rfl rfl (by omega)) rfl rfl ?_
    refine seq_pure (pure_move rfl) rfl rfl ?_
    refine seq_pure (pure_move rfl) rfl rfl ?_
    refine seq_pure (pure_move rfl) rfl rfl ?_
    refine seq_pure (pure_move rfl) rfl rfl ?_
    refine seq_pure (pure_add_nat (n := 1) rfl rfl (by omega)) rfl rfl ?_
    refine seq_pure (pure_sslice (h := i + 1) rfl rfl rfl rfl (by omega) (by omega)) rfl rfl ?_
    refine seq_pure (pure_move rfl) rfl rfl ?_
    refine seq_bool (pure_seql rfl rfl) rfl rfl (fun h72 => ?_) (fun h72 => ?_)
    ·refine seq_pure (pure_pick_t rfl rfl) rfl rfl ?_
     refine seq_done ?_
     refine nrm_seq ?_
     refine tri_cond_t rfl ?_
     refine tri_seq ?_
     refine tri_region ?_
     refine seq_pure (pure_move rfl) rfl rfl ?_
     refine seq_pure (pure_assign rfl) rfl rfl ?_
     refine seq_done ?_
     refine nrm_seq ?_
     refine tri_ret ?_
     refine ret_seq ?_
     refine ret_own1 (outs := []) (res_tmp rfl) SubH.nil ?_
     (exact ⟨rfl, rfl, _, rfl, Nat.le_add_right _ _⟩)
    ·refine seq_pure (pure_pick_t rfl rfl) rfl rfl ?_
     refine seq_done ?_
     refine nrm_seq ?_
     refine tri_cond_f rfl ?_
     refine tri_skip ?_
     refine nrm_seq ?_
     refine tri_seq ?_
     refine tri_draw mixed rfl ?_
     refine any_pure (i := 0) (listed' := [tt,ff,ff,ff,ff,ff,ff,ff,ff,ff]) rfl (by repeat (first | exact np_ret | exact np_cut | apply np_seq | apply np_block | apply np_loopN')) (pure_move rfl) rfl (by kernel_rfl) rfl rfl ?_
     refine any_pure (i := 1) (listed' := [tt,tt,ff,ff,ff,ff,ff,ff,ff,ff]) rfl (by repeat (first | exact np_ret | exact np_cut | apply np_seq | apply np_block | apply np_loopN')) (pure_move rfl) rfl (by kernel_rfl) rfl rfl ?_
     refine any_pure (i := 2) (listed' := [tt,tt,tt,ff,ff,ff,ff,ff,ff,ff]) rfl (by repeat (first | exact np_ret | exact np_cut | apply np_seq | apply np_block | apply np_loopN')) (pure_sslice_h rfl rfl rfl (by omega)) rfl (by kernel_rfl) rfl rfl ?_
     refine any_pure (i := 3) (listed' := [tt,tt,tt,tt,ff,ff,ff,ff,ff,ff]) rfl (by repeat (first | exact np_ret | exact np_cut | apply np_seq | apply np_block | apply np_loopN')) (pure_move rfl) rfl (by kernel_rfl) rfl rfl ?_
     refine any_pure (i := 4) (listed' := [tt,tt,tt,tt,tt,ff,ff,ff,ff,ff]) rfl (by repeat (first | exact np_ret | exact np_cut | apply np_seq | apply np_block | apply np_loopN')) (pure_cat rfl rfl (by simp only [ByteArray.size_extract, ByteArray.size_append]; omega)) rfl (by kernel_rfl) rfl rfl ?_
     refine any_pure (i := 5) (listed' := [tt,tt,tt,tt,tt,tt,ff,ff,ff,ff]) rfl (by repeat (first | exact np_ret | exact np_cut | apply np_seq | apply np_block | apply np_loopN')) (pure_move rfl) rfl (by kernel_rfl) rfl rfl ?_
     refine any_pure (i := 6) (listed' := [tt,tt,tt,tt,tt,tt,tt,ff,ff,ff]) rfl (by repeat (first | exact np_ret | exact np_cut | apply np_seq | apply np_block | apply np_loopN')) (pure_move rfl) rfl (by kernel_rfl) rfl rfl ?_
     refine any_pure (i := 7) (listed' := [tt,tt,tt,tt,tt,tt,tt,tt,ff,ff]) rfl (by repeat (first | exact np_ret | exact np_cut | apply np_seq | apply np_block | apply np_loopN')) (pure_sslice_l rfl rfl rfl (by omega)) rfl (by kernel_rfl) rfl rfl ?_
     refine any_pure (i := 8) (listed' := [tt,tt,tt,tt,tt,tt,tt,tt,tt,ff]) rfl (by repeat (first | exact np_ret | exact np_cut | apply np_seq | apply np_block | apply np_loopN')) (pure_cat rfl rfl (by simp only [ByteArray.size_extract, ByteArray.size_append]; omega)) rfl (by kernel_rfl) rfl rfl ?_
     refine any_pure (i := 9) (listed' := [tt,tt,tt,tt,tt,tt,tt,tt,tt,tt]) rfl (by repeat (first | exact np_ret | exact np_cut | apply np_seq | apply np_block | apply np_loopN')) (pure_assign rfl) rfl (by kernel_rfl) rfl rfl ?_
     refine any_done (by kernel_rfl) ?_
     refine nrm_seq ?_
     refine tri_ret ?_
     refine ret_own1 (outs := []) (res_tmp rfl) SubH.nil ?_
     (exact ⟨rfl, rfl, _, rfl, by simp only [ByteArray.size_extract, ByteArray.size_append]; omega⟩)
  ·refine seq_pure (pure_move rfl) rfl rfl ?_
   refine seq_skip rfl rfl ?_
   refine seq_skip rfl rfl ?_
   refine seq_skip rfl rfl ?_
   refine seq_skip rfl rfl ?_
   refine seq_skip rfl rfl ?_
   refine seq_skip rfl rfl ?_
   refine seq_skip rfl rfl ?_
   refine seq_pure (pure_pick_f rfl rfl) rfl rfl ?_
   refine seq_done ?_
   refine nrm_seq ?_
   refine tri_cond_f rfl ?_
   refine tri_exit ?_
   refine ext_seq ?_
   refine ext_loopN ?_
   refine ext_block_eq ?_
   refine nrm_seq ?_
   refine tri_seq ?_
   refine tri_seq ?_
   refine tri_region ?_
   refine seq_pure (pure_move rfl) rfl rfl ?_
   refine seq_pure (pure_move rfl) rfl rfl ?_
   refine seq_pure (pure_len_str rfl rfl) rfl rfl ?_
   refine seq_pure (pure_lss_f rfl rfl (by omega)) rfl rfl ?_
   refine seq_pure (pure_move rfl) rfl rfl ?_
   refine seq_skip rfl rfl ?_
   refine seq_skip rfl rfl ?_
   refine seq_skip rfl rfl ?_
   refine seq_skip rfl rfl ?_
   refine seq_skip rfl rfl ?_
   refine seq_skip rfl rfl ?_
   refine seq_skip rfl rfl ?_
   refine seq_pure (pure_pick_f rfl rfl) rfl rfl ?_
   refine seq_done ?_
   refine nrm_seq ?_
   refine tri_cond_f rfl ?_
   refine tri_skip ?_
   refine nrm_seq ?_
   refine tri_seq ?_
   refine tri_draw mixed rfl ?_
   refine any_pure (i := 0) (listed' := [tt,ff,ff,ff,ff,ff,ff,ff,ff,ff]) rfl (by repeat (first | exact np_ret | exact np_cut | apply np_seq | apply np_block | apply np_loopN')) (pure_move rfl) rfl (by kernel_rfl) rfl rfl ?_
   refine any_pure (i := 1) (listed' := [tt,tt,ff,ff,ff,ff,ff,ff,ff,ff]) rfl (by repeat (first | exact np_ret | exact np_cut | apply np_seq | apply np_block | apply np_loopN')) (pure_move rfl) rfl (by kernel_rfl) rfl rfl ?_
   refine any_pure (i := 2) (listed' := [tt,tt,tt,ff,ff,ff,ff,ff,ff,ff]) rfl (by repeat (first | exact np_ret | exact np_cut | apply np_seq | apply np_block | apply np_loopN')) (pure_sslice_h rfl rfl rfl (by omega)) rfl (by kernel_rfl) rfl rfl ?_
   refine any_pure (i := 3) (listed' := [tt,tt,tt,tt,ff,ff,ff,ff,ff,ff]) rfl (by repeat (first | exact np_ret | exact np_cut | apply np_seq | apply np_block | apply np_loopN')) (pure_move rfl) rfl (by kernel_rfl) rfl rfl ?_
   refine any_pure (i := 4) (listed' := [tt,tt,tt,tt,tt,ff,ff,ff,ff,ff]) rfl (by repeat (first | exact np_ret | exact np_cut | apply np_seq | apply np_block | apply np_loopN')) (pure_cat rfl rfl (by simp only [ByteArray.size_extract, ByteArray.size_append]; omega)) rfl (by kernel_rfl) rfl rfl ?_
   refine any_pure (i := 5) (listed' := [tt,tt,tt,tt,tt,tt,ff,ff,ff,ff]) rfl (by repeat (first | exact np_ret | exact np_cut | apply np_seq | apply np_block | apply np_loopN')) (pure_move rfl) rfl (by kernel_rfl) rfl rfl ?_
   refine any_pure (i := 6) (listed' := [tt,tt,tt,tt,tt,tt,tt,ff,ff,ff]) rfl (by repeat (first | exact np_ret | exact np_cut | apply np_seq | apply np_block | apply np_loopN')) (pure_move rfl) rfl (by kernel_rfl) rfl rfl ?_
   refine any_pure (i := 7) (listed' := [tt,tt,tt,tt,tt,tt,tt,tt,ff,ff]) rfl (by repeat (first | exact np_ret | exact np_cut | apply np_seq | apply np_block | apply np_loopN')) (pure_sslice_l rfl rfl rfl (by omega)) rfl (by kernel_rfl) rfl rfl ?_
   refine any_pure (i := 8) (listed' := [tt,tt,tt,tt,tt,tt,tt,tt,tt,ff]) rfl (by repeat (first | exact np_ret | exact np_cut | apply np_seq | apply np_block | apply np_loopN')) (pure_cat rfl rfl (by simp only [ByteArray.size_extract, ByteArray.size_append]; omega)) rfl (by kernel_rfl) rfl rfl ?_
   refine any_pure (i := 9) (listed' := [tt,tt,tt,tt,tt,tt,tt,tt,tt,tt]) rfl (by repeat (first | exact np_ret | exact np_cut | apply np_seq | apply np_block | apply np_loopN')) (pure_assign rfl) rfl (by kernel_rfl) rfl rfl ?_
   refine any_done (by kernel_rfl) ?_
   refine nrm_seq ?_
   refine tri_ret ?_
   refine ret_own1 (outs := []) (res_tmp rfl) SubH.nil ?_
   (exact ⟨rfl, rfl, _, rfl, by simp only [ByteArray.size_extract, ByteArray.size_append]; omega⟩)
end Gw
end Go.Proofs.Yteneckdjdfnjoaa
namespace Go.Proofs.Yteneckdjdfnjoaa
open Go Go.RowKit
namespace Gw
theorem ty0_r (G : IM) : RTy G ty0 [.int .i64 0, .slice none 0 0] := by
 simp only [ty0, RTy]
 exact ⟨none, 0, [], rfl, ⟨by omega, by omega⟩, SlE.of (Sl.nil _ _) rfl (by simp) (by simp), by simp [RTyL]⟩
theorem ty0_sz : szTy ty0 = 0 := rfl
theorem RTmL.tm {G : IM} {k : Int} {nm : ByteArray} {num : Int} {t : Ty} {q : Option Addr} {d : Nat} {ts : List Tm} {es : List (List Value)} {p : Option Addr} {n c : Nat} (h : RTmL G ts es) (hn : ts.length = n) (hs : Sl G p n c 9 es.flatten) (hk : I64 k) (hm : I64 num)
  (ht : RTy G t [.int .i64 t.k, .slice q t.ks.length d]) : RTm G (.mk k nm num t ty0 0 ts) [.int .i64 k, .string nm, .int .i64 num, .int .i64 t.k, .slice q t.ks.length d, .int .i64 0, .slice none 0 0, .int .i64 0, .slice p n c] := by
 subst hn
 simp only [RTm]
 exact ⟨_, _, p, c, es, rfl, hk, hm, ⟨by omega, by omega⟩, ht, ty0_r G, SlE.of hs h.len h.all (fun e he => (h.each e he).2), h⟩
theorem tz_r {G : IM} {k : Int} {nm : ByteArray} {num : Int} (hk : I64 k) (hm : I64 num) :
  RTm G (.mk k nm num ty0 ty0 0 []) [.int .i64 k, .string nm, .int .i64 num, .int .i64 0, .slice none 0 0, .int .i64 0, .slice none 0 0, .int .i64 0, .slice none 0 0] :=
 RTmL.tm (ts := []) (es := []) (t := ty0) (by simp [RTmL]) rfl (Sl.nil _ _) hk hm (ty0_r G)
theorem tz_sz (k : Int) (nm : ByteArray) (num : Int) : szTm (.mk k nm num ty0 ty0 0 []) = nm.size := by
 rw [szTm, ty0_sz, sumTm]; simp
theorem sumTm_snoc : ∀ (ts : List Tm) (t : Tm), sumTm (ts ++ [t]) = sumTm ts + szTm t
 | [], t => by simp [sumTm]
 | a :: ts, t => by simp only [List.cons_append, sumTm, sumTm_snoc ts t]; omega
theorem tmOps_le (k : Int) : tmOps k ≤ 3 := by
 unfold tmOps; repeat (split; omega)
 omega
theorem dB_le2 {d : Nat} (h : d ≤ 2) : dB (d + 1) ≤ 14 := by
 have : d = 0 ∨ d = 1 ∨ d = 2 := by omega
 rcases this with rfl | rfl | rfl <;> decide
theorem l2Num_fn (n : Int) (G : IM) : Fn Try.prog 51 [.int .i64 n] [] G (Val (.agg ⟨[.int .i64 2, .string ⟨⟨[]⟩⟩, .int .i64 n, .int .i64 0, .slice none 0 0, .int .i64 0, .slice none 0 0, .int .i64 0, .slice none 0 0]⟩) G) := by
 refine fn_enter Try.func51 rfl Try.ntmps51 Try.results51 rfl ?_
 intro w0
 refine tri_seq ?_
 refine tri_region ?_
 (refine seq_step (step_alloc rfl) rfl ?_; rintro _ ⟨b3, rfl⟩)
 refine seq_done ?_
 refine nrm_seq ?_
 refine tri_seq ?_
 refine tri_region ?_
 refine seq_pure (pure_move rfl) rfl rfl ?_
 refine seq_pure (pure_build rfl rfl) rfl rfl ?_
 refine seq_store rfl rfl rfl rfl rfl rfl (by repeat (first | exact Sw.here | apply Sw.there)) (by rfl) ?_
 refine seq_done ?_
 refine nrm_seq ?_
 refine tri_ret ?_
 refine ret_fin1 (res_cell rfl (load_ba rfl rfl (by repeat (first | exact List.Mem.head _ | apply List.Mem.tail)) (by rfl))) ?_
 exact ⟨rfl, rfl, rfl⟩
set_option maxHeartbeats 0 in
set_option maxRecDepth 100000 in
theorem l2Atom_fn (br : Nat) (pb : Option Addr) (nb cb : Nat) (bs : List UInt8) (hnb : nb ≤ 2000) (p : Nat) (G : IM) (hb : Sl G pb nb cb 1 (byts bs)) (hp : p + 3 < 1099511627776) (s : ByteArray) (hs : s.size ≤ 1000) :
  Fn Try.prog 106 [.pointer (some ⟨br, 0, none⟩), .string s] [rd br pb nb cb p] G
   (Drew br pb nb cb p 3 (fun G' v => ∃ t cells, v = .agg ⟨cells⟩ ∧ RTm G' t cells ∧ szTm t ≤ 1)) := by
 refine fn_enter Try.func106 rfl Try.ntmps106 Try.results106 rfl ?_
 intro w0
 refine tri_seq ?_
 refine tri_region ?_
 (refine seq_step (step_alloc rfl) rfl ?_; rintro _ ⟨b3, rfl⟩)
 refine seq_done ?_
 refine nrm_seq ?_
 refine tri_seq ?_
 refine tri_seq ?_
 refine tri_region ?_
 refine seq_pure (pure_move rfl) rfl rfl ?_
 refine seq_pure (pure_len_str rfl rfl) rfl rfl ?_
 refine seq_bool (pure_gtr rfl rfl) rfl rfl (fun h11 => ?_) (fun h11 => ?_)
 ·refine seq_pure (pure_move rfl) rfl rfl ?_
  refine seq_pure (pure_move rfl) rfl rfl ?_
  (refine seq_take rfl (pick_fn _ br pb nb cb p bs _ hb hnb (by omega)) (Pk.perm (by repeat (first | exact Pk.here | apply Pk.there))) rfl rfl (fun v14 G14 outs14 hle14 hh => ?_); obtain ⟨rfl, rfl, j14, rfl, hj14, hk14⟩ := hh; obtain ⟨i14, rfl⟩ := Int.eq_ofNat_of_zero_le hj14)
  replace hb := hb.mono hle14
  refine seq_bool (pure_gtr rfl rfl) rfl rfl (fun h15 => ?_) (fun h15 => ?_)
  ·refine seq_pure (pure_pick_t rfl rfl) rfl rfl ?_
   refine seq_done ?_
   refine nrm_seq ?_
   refine tri_cond_t rfl ?_
   refine tri_seq ?_
   refine tri_region ?_
   refine seq_pure (pure_move rfl) rfl rfl ?_
   refine seq_pure (pure_move rfl) rfl rfl ?_
   refine seq_pure (pure_len_str rfl rfl) rfl rfl ?_
   (refine seq_take rfl (pick_fn _ br pb nb cb (p + 1) bs _ hb hnb (by omega)) (Pk.perm (by repeat (first | exact Pk.here | apply Pk.there))) rfl rfl (fun v25 G25 outs25 hle25 hh => ?_); obtain ⟨rfl, rfl, j25, rfl, hj25, hk25⟩ := hh; obtain ⟨i25, rfl⟩ := Int.eq_ofNat_of_zero_le hj25)
   replace hb := hb.mono hle25
   refine seq_pure (pure_assign rfl) rfl rfl ?_
   refine seq_done ?_
   refine nrm_seq ?_
   refine tri_seq ?_
   refine tri_region ?_
   refine seq_pure (pure_move rfl) rfl rfl ?_
   refine seq_pure (pure_move rfl) rfl rfl ?_
   refine seq_pure (pure_move rfl) rfl rfl ?_
   refine seq_pure (pure_add_nat (n := 1) rfl rfl (by omega)) rfl rfl ?_
   refine seq_pure (pure_sslice rfl rfl rfl rfl (by omega) (by omega)) rfl rfl ?_
   refine seq_pure (pure_build rfl rfl) rfl rfl ?_
   refine seq_store rfl rfl rfl rfl rfl rfl (by repeat (first | exact Sw.here | apply Sw.there)) (by rfl) ?_
   refine seq_done ?_
   refine nrm_seq ?_
   refine tri_ret ?_
   refine ret_seq ?_
   refine ret_own1 (outs := [rd br pb nb cb (p + 1 + 1)]) (res_cell rfl (load_ba rfl rfl (by repeat (first | exact List.Mem.head _ | apply List.Mem.tail)) (by rfl))) (by repeat (first | exact SubH.nil | refine SubH.cons Pk.here ?_ | refine SubH.cons (Pk.there Pk.here) ?_ | refine SubH.cons (Pk.there (Pk.there Pk.here)) ?_ | apply SubH.drop)) ?_
   (refine ⟨_, ?_, ?_, rfl, _, _, rfl, tz_r ⟨by omega, by omega⟩ ⟨by omega, by omega⟩, ?_⟩; all_goals (try rw [tz_sz]); all_goals (first | omega | (simp only [ByteArray.size_extract]; omega) | decide))
  ·refine seq_pure (pure_pick_t rfl rfl) rfl rfl ?_
   refine seq_done ?_
   refine nrm_seq ?_
   refine tri_cond_f rfl ?_
   refine tri_skip ?_
   refine nrm_seq ?_
   refine tri_seq ?_
   refine tri_seq ?_
   refine tri_region ?_
   refine seq_pure (pure_move rfl) rfl rfl ?_
   (refine seq_take rfl (pick_fn _ br pb nb cb (p + 1) bs _ hb hnb (by omega)) (Pk.perm (by repeat (first | exact Pk.here | apply Pk.there))) rfl rfl (fun v54 G54 outs54 hle54 hh => ?_); obtain ⟨rfl, rfl, j54, rfl, hj54, hk54⟩ := hh; obtain ⟨i54, rfl⟩ := Int.eq_ofNat_of_zero_le hj54)
   replace hb := hb.mono hle54
   refine seq_done ?_
   refine nrm_seq ?_
   refine tri_block ?_
   refine tri_seq ?_
   refine tri_region ?_
   refine seq_bool (pure_eql rfl rfl) rfl rfl (fun h60 => ?_) (fun h60 => ?_)
   ·refine seq_pure (pure_assign rfl) rfl rfl ?_
    refine seq_done ?_
    refine nrm_seq ?_
    refine tri_cond_t rfl ?_
    refine tri_seq ?_
    refine tri_region ?_
    refine seq_pure (pure_build rfl rfl) rfl rfl ?_
    refine seq_store rfl rfl rfl rfl rfl rfl (by repeat (first | exact Sw.here | apply Sw.there)) (by rfl) ?_
    refine seq_done ?_
    refine nrm_seq ?_
    refine tri_ret ?_
    refine ret_block ?_
    refine ret_seq ?_
    refine ret_own1 (outs := [rd br pb nb cb (p + 1 + 1)]) (res_cell rfl (load_ba rfl rfl (by repeat (first | exact List.Mem.head _ | apply List.Mem.tail)) (by rfl))) (by repeat (first | exact SubH.nil | refine SubH.cons Pk.here ?_ | refine SubH.cons (Pk.there Pk.here) ?_ | refine SubH.cons (Pk.there (Pk.there Pk.here)) ?_ | apply SubH.drop)) ?_
    (refine ⟨_, ?_, ?_, rfl, _, _, rfl, tz_r ⟨by omega, by omega⟩ ⟨by omega, by omega⟩, ?_⟩; all_goals (try rw [tz_sz]); all_goals (first | omega | (simp only [ByteArray.size_extract]; omega) | decide))
   ·refine seq_pure (pure_assign rfl) rfl rfl ?_
    refine seq_done ?_
    refine nrm_seq ?_
    refine tri_cond_f rfl ?_
    refine tri_seq ?_
    refine tri_region ?_
    refine seq_bool (pure_eql rfl rfl) rfl rfl (fun h82 => ?_) (fun h82 => ?_)
    ·refine seq_pure (pure_assign rfl) rfl rfl ?_
     refine seq_done ?_
     refine nrm_seq ?_
     refine tri_cond_t rfl ?_
     refine tri_seq ?_
     refine tri_region ?_
     refine seq_pure (pure_build rfl rfl) rfl rfl ?_
     refine seq_store rfl rfl rfl rfl rfl rfl (by repeat (first | exact Sw.here | apply Sw.there)) (by rfl) ?_
     refine seq_done ?_
     refine nrm_seq ?_
     refine tri_ret ?_
     refine ret_block ?_
     refine ret_seq ?_
     refine ret_own1 (outs := [rd br pb nb cb (p + 1 + 1)]) (res_cell rfl (load_ba rfl rfl (by repeat (first | exact List.Mem.head _ | apply List.Mem.tail)) (by rfl))) (by repeat (first | exact SubH.nil | refine SubH.cons Pk.here ?_ | refine SubH.cons (Pk.there Pk.here) ?_ | refine SubH.cons (Pk.there (Pk.there Pk.here)) ?_ | apply SubH.drop)) ?_
     (refine ⟨_, ?_, ?_, rfl, _, _, rfl, tz_r ⟨by omega, by omega⟩ ⟨by omega, by omega⟩, ?_⟩; all_goals (try rw [tz_sz]); all_goals (first | omega | (simp only [ByteArray.size_extract]; omega) | decide))
    ·refine seq_pure (pure_assign rfl) rfl rfl ?_
     refine seq_done ?_
     refine nrm_seq ?_
     refine tri_cond_f rfl ?_
     refine tri_skip ?_
     refine nrm_block ?_
     refine nrm_seq ?_
     refine tri_seq ?_
     refine tri_region ?_
     refine seq_pure (pure_move rfl) rfl rfl ?_
     (refine seq_step (step_buildSlice rfl rfl rfl (by omega) (by unfold maxLen; omega) rfl) rfl ?_; rintro _ ⟨b108, rfl⟩)
     (refine triL_freeze (by repeat (first | exact Pk.here | apply Pk.there)) (fun Gf hlef hslf _ => ?_); refine seq_take rfl (num_fn Gf br pb nb cb (p + 1 + 1) bs _ _ _ _ (hb.mono hlef) hnb (by omega) hslf (by decide)) (Pk.perm (by repeat (first | exact Pk.here | apply Pk.there))) rfl rfl (fun v Gn outs hlen hh => ?_); obtain ⟨rfl, rfl, hv⟩ := hh; obtain ⟨kn, rfl, hkn⟩ : ∃ k, v = .int .i64 k ∧ I64 k := (by simp only [List.mem_cons, List.not_mem_nil, or_false] at hv; rcases hv with rfl | rfl | rfl | rfl | rfl | rfl <;> exact ⟨_, rfl, by unfold I64; omega⟩))
     refine seq_val rfl ((l2Num_fn _ _)) rfl rfl ?_
     refine seq_store rfl rfl rfl rfl rfl rfl (by repeat (first | exact Sw.here | apply Sw.there)) (by rfl) ?_
     refine seq_done ?_
     refine nrm_seq ?_
     refine tri_ret ?_
     refine ret_own1 (outs := [rd br pb nb cb (p + 1 + 1 + 1)]) (res_cell rfl (load_ba rfl rfl (by repeat (first | exact List.Mem.head _ | apply List.Mem.tail)) (by rfl))) (by repeat (first | exact SubH.nil | refine SubH.cons Pk.here ?_ | refine SubH.cons (Pk.there Pk.here) ?_ | refine SubH.cons (Pk.there (Pk.there Pk.here)) ?_ | apply SubH.drop)) ?_
     (refine ⟨_, ?_, ?_, rfl, _, _, rfl, tz_r ⟨by omega, by omega⟩ hkn, ?_⟩; all_goals (try rw [tz_sz]); all_goals (first | omega | decide))
 ·refine seq_pure (pure_move rfl) rfl rfl ?_
  refine seq_skip rfl rfl ?_
  refine seq_skip rfl rfl ?_
  refine seq_skip rfl rfl ?_
  refine seq_pure (pure_pick_f rfl rfl) rfl rfl ?_
  refine seq_done ?_
  refine nrm_seq ?_
  refine tri_cond_f rfl ?_
  refine tri_skip ?_
  refine nrm_seq ?_
  refine tri_seq ?_
  refine tri_seq ?_
  refine tri_region ?_
  refine seq_pure (pure_move rfl) rfl rfl ?_
  (refine seq_take rfl (pick_fn _ br pb nb cb p bs _ hb hnb (by omega)) (Pk.perm (by repeat (first | exact Pk.here | apply Pk.there))) rfl rfl (fun v131 G131 outs131 hle131 hh => ?_); obtain ⟨rfl, rfl, j131, rfl, hj131, hk131⟩ := hh; obtain ⟨i131, rfl⟩ := Int.eq_ofNat_of_zero_le hj131)
  replace hb := hb.mono hle131
  refine seq_done ?_
  refine nrm_seq ?_
  refine tri_block ?_
  refine tri_seq ?_
  refine tri_region ?_
  refine seq_bool (pure_eql rfl rfl) rfl rfl (fun h137 => ?_) (fun h137 => ?_)
  ·refine seq_pure (pure_assign rfl) rfl rfl ?_
   refine seq_done ?_
   refine nrm_seq ?_
   refine tri_cond_t rfl ?_
   refine tri_seq ?_
   refine tri_region ?_
   refine seq_pure (pure_build rfl rfl) rfl rfl ?_
   refine seq_store rfl rfl rfl rfl rfl rfl (by repeat (first | exact Sw.here | apply Sw.there)) (by rfl) ?_
   refine seq_done ?_
   refine nrm_seq ?_
   refine tri_ret ?_
   refine ret_block ?_
   refine ret_seq ?_
   refine ret_own1 (outs := [rd br pb nb cb (p + 1)]) (res_cell rfl (load_ba rfl rfl (by repeat (first | exact List.Mem.head _ | apply List.Mem.tail)) (by rfl))) (by repeat (first | exact SubH.nil | refine SubH.cons Pk.here ?_ | refine SubH.cons (Pk.there Pk.here) ?_ | refine SubH.cons (Pk.there (Pk.there Pk.here)) ?_ | apply SubH.drop)) ?_
   (refine ⟨_, ?_, ?_, rfl, _, _, rfl, tz_r ⟨by omega, by omega⟩ ⟨by omega, by omega⟩, ?_⟩; all_goals (try rw [tz_sz]); all_goals (first | omega | (simp only [ByteArray.size_extract]; omega) | decide))
  ·refine seq_pure (pure_assign rfl) rfl rfl ?_
   refine seq_done ?_
   refine nrm_seq ?_
   refine tri_cond_f rfl ?_
   refine tri_seq ?_
   refine tri_region ?_
   refine seq_bool (pure_eql rfl rfl) rfl rfl (fun h159 => ?_) (fun h159 => ?_)
   ·refine seq_pure (pure_assign rfl) rfl rfl ?_
    refine seq_done ?_
    refine nrm_seq ?_
    refine tri_cond_t rfl ?_
    refine tri_seq ?_
    refine tri_region ?_
    refine seq_pure (pure_build rfl rfl) rfl rfl ?_
    refine seq_store rfl rfl rfl rfl rfl rfl (by repeat (first | exact Sw.here | apply Sw.there)) (by rfl) ?_
    refine seq_done ?_
    refine nrm_seq ?_
    refine tri_ret ?_
    refine ret_block ?_
    refine ret_seq ?_
    refine ret_own1 (outs := [rd br pb nb cb (p + 1)]) (res_cell rfl (load_ba rfl rfl (by repeat (first | exact List.Mem.head _ | apply List.Mem.tail)) (by rfl))) (by repeat (first | exact SubH.nil | refine SubH.cons Pk.here ?_ | refine SubH.cons (Pk.there Pk.here) ?_ | refine SubH.cons (Pk.there (Pk.there Pk.here)) ?_ | apply SubH.drop)) ?_
    (refine ⟨_, ?_, ?_, rfl, _, _, rfl, tz_r ⟨by omega, by omega⟩ ⟨by omega, by omega⟩, ?_⟩; all_goals (try rw [tz_sz]); all_goals (first | omega | (simp only [ByteArray.size_extract]; omega) | decide))
   ·refine seq_pure (pure_assign rfl) rfl rfl ?_
    refine seq_done ?_
    refine nrm_seq ?_
    refine tri_cond_f rfl ?_
    refine tri_skip ?_
    refine nrm_block ?_
    refine nrm_seq ?_
    refine tri_seq ?_
    refine tri_region ?_
    refine seq_pure (pure_move rfl) rfl rfl ?_
    (refine seq_step (step_buildSlice rfl rfl rfl (by omega) (by unfold maxLen; omega) rfl) rfl ?_; rintro _ ⟨b185, rfl⟩)
    (refine triL_freeze (by repeat (first | exact Pk.here | apply Pk.there)) (fun Gf hlef hslf _ => ?_); refine seq_take rfl (num_fn Gf br pb nb cb (p + 1) bs _ _ _ _ (hb.mono hlef) hnb (by omega) hslf (by decide)) (Pk.perm (by repeat (first | exact Pk.here | apply Pk.there))) rfl rfl (fun v Gn outs hlen hh => ?_); obtain ⟨rfl, rfl, hv⟩ := hh; obtain ⟨kn, rfl, hkn⟩ : ∃ k, v = .int .i64 k ∧ I64 k := (by simp only [List.mem_cons, List.not_mem_nil, or_false] at hv; rcases hv with rfl | rfl | rfl | rfl | rfl | rfl <;> exact ⟨_, rfl, by unfold I64; omega⟩))
    refine seq_val rfl ((l2Num_fn _ _)) rfl rfl ?_
    refine seq_store rfl rfl rfl rfl rfl rfl (by repeat (first | exact Sw.here | apply Sw.there)) (by rfl) ?_
    refine seq_done ?_
    refine nrm_seq ?_
    refine tri_ret ?_
    refine ret_own1 (outs := [rd br pb nb cb (p + 1 + 1)]) (res_cell rfl (load_ba rfl rfl (by repeat (first | exact List.Mem.head _ | apply List.Mem.tail)) (by rfl))) (by repeat (first | exact SubH.nil | refine SubH.cons Pk.here ?_ | refine SubH.cons (Pk.there Pk.here) ?_ | refine SubH.cons (Pk.there (Pk.there Pk.here)) ?_ | apply SubH.drop)) ?_
    (refine ⟨_, ?_, ?_, rfl, _, _, rfl, tz_r ⟨by omega, by omega⟩ hkn, ?_⟩; all_goals (try rw [tz_sz]); all_goals (first | omega | decide))
end Gw
end Go.Proofs.Yteneckdjdfnjoaa
