/-
  The laws' mark texts: the letter m and a number's digits.
-/
import Derived.Test.YtlefgfdhlblahaaSTm
import Derived.Laws.BytesArg
namespace Go.Proofs.Ytlefgfdhlblahaa
open Go Go.RowKit
namespace Gw
section clawss
variable {P : Program} {Γ : Ctx} {env : Env} {hp : List Ent} {G : IM} {ty : TypeId}
theorem pure_conv_u8 {s d : TypeId} {is id : TyR} [hS : TyI P s is] [hD : TyI P d id] (hd : id.desc = .int .u8) {k : IntKind} (hs : is.desc = .int k) {x : Operand} {n : Int} (hx : evo env x = some (.int k n)) (h0 : 0 ≤ n) (h1 : n ≤ 255) :
    PureOp P Γ ⟨env, hp, G⟩ (.convert s d x) ty (.int .u8 n) := by
  refine ⟨fun a _ hst _ _ _ _ w => ?_⟩
  have hu := hD.und
  rw [hd] at hu
  have hus := hS.und
  rw [hs] at hus
  have hw : IntKind.u8.wrap n = n := IntWalk.u8_in n ⟨h0, h1⟩
  simp [execOp, convert, run_underlying hus, run_underlying hu, (hst.evo hx : a.eval x = _), Conv.intToInt, hw]
theorem load_conv_str {s d e : TypeId} {is id ie : TyR} [hS : TyI P s is] [hD : TyI P d id] [hE : TyI P e ie] (hs : is.desc = .slice e) (he : ie.desc = .int .u8) (hd : id.desc = .string) {x : Operand} {b o n c : Nat} {xs : List Int}
    (hx : evo env x = some (.slice (some ⟨b, o, none⟩) n c)) (hl : xs.length = n) (hv : At hp G b o (xs.map (Value.int .u8))) : LoadOp P Γ ⟨env, hp, G⟩ (.convert s d x) ty b (.string (strOfNums xs)) := by
  refine ⟨fun a w hst => ?_⟩
  obtain ⟨full, e', f, hb, hf⟩ := hv.read hst
  refine ⟨lt_of_some hb, fun w' hw' d' pos af gd => ?_⟩
  have hus := hS.und
  rw [hs] at hus
  have hue := hE.und
  rw [he] at hue
  have hud := hD.und
  rw [hd] at hud
  have hc := run_convert_bytes_arg (P := P) w' s e hus hue b o n c xs hl (fun i hi => by
    have := hf i (.int .u8 (xs.getD i 0)) (by simp [List.getD, List.getElem?_eq_getElem (show i < xs.length by omega)])
    simp [World.cell?, hw', hb, this]) d hud
  have hx' : a.eval x = _ := hst.evo hx
  simp only [execOp, hx', Sem.run_bind]
  rw [hc]
  rfl
theorem pure_rem_nat {x y : Operand} {t t' : TypeId} {m n : Nat} (hx : evo env x = some (.int .i64 (m : Int))) (hy : evo env y = some (.int .i64 (n : Int))) (hn : 0 < n) :
    PureOp P Γ ⟨env, hp, G⟩ (.binOp .rem t x y t') ty (.int .i64 ((m % n : Nat) : Int)) := by
  have h := pure_rem (P := P) (Γ := Γ) (hp := hp) (G := G) (ty := ty) (t := t) (t' := t') hx hy (by omega)
  rwa [show ((m : Int).tmod n) = ((m % n : Nat) : Int) from rfl] at h
theorem pure_quo_nat {x y : Operand} {t t' : TypeId} {m n : Nat} (hx : evo env x = some (.int .i64 (m : Int))) (hy : evo env y = some (.int .i64 (n : Int))) (hn : 0 < n) (hm : m ≤ 9223372036854775807) :
    PureOp P Γ ⟨env, hp, G⟩ (.binOp .quo t x y t') ty (.int .i64 ((m / n : Nat) : Int)) := by
  have hd : m / n ≤ m := Nat.div_le_self _ _
  have e : ((m : Int).tdiv n) = ((m / n : Nat) : Int) := rfl
  have h := pure_quo (P := P) (Γ := Γ) (hp := hp) (G := G) (ty := ty) (t := t) (t' := t') hx hy (by omega) (by rw [e]; generalize m / n = q at *; omega) (by rw [e]; generalize m / n = q at *; omega)
  rwa [e] at h
end clawss
/-- The last digit's letter. -/
def dgi (k : Nat) : Int := 48 + ((k % 10 : Nat) : Int)
/-- The digits of a number ahead of a text. -/
def mDigs : Nat → Nat → ByteArray → ByteArray
  | 0, _, out => out
  | f + 1, k, out => if 0 < k then mDigs f (k / 10) (strOfNums [dgi k] ++ out) else out
theorem mDigs_go {f k : Nat} {out : ByteArray} (h : 0 < k) : mDigs (f + 1) k out = mDigs f (k / 10) (strOfNums [dgi k] ++ out) := by rw [mDigs, if_pos h]
theorem mDigs_end {f k : Nat} {out : ByteArray} (h : ¬ 0 < k) : mDigs f k out = out := by
  cases f with
  | zero => rfl
  | succ f => rw [mDigs, if_neg h]
def mText (k : Nat) : ByteArray := ⟨#[109]⟩ ++ mDigs 20 k ⟨⟨[]⟩⟩
theorem digs_step {f k : Nat} {out : ByteArray} (hk : k < 10 ^ f) (hs : out.size + f = 20) (h0 : 0 < k) : ∃ f', f = f' + 1 ∧ k / 10 < 10 ^ f' ∧ (strOfNums [dgi k] ++ out).size + f' = 20 := by
  cases f with
  | zero => simp at hk; omega
  | succ f =>
    refine ⟨f, rfl, ?_, ?_⟩
    · rw [Nat.pow_succ] at hk
      exact Nat.div_lt_of_lt_mul (by omega)
    · rw [ByteArray.size_append, strOfNums_size]
      simp; omega
theorem t20 (k : Nat) (h : k < 1000000000000000000) : k < 10 ^ 20 := by
  have : (10 : Nat) ^ 20 = 100000000000000000000 := by decide
  omega
set_option maxRecDepth 100000 in
theorem markText_fn (k : Nat) (h0 : 0 < k) (hk : k < 1000000000000000000) (G : IM) : Fn Try.prog 85 [.int .i64 (k : Int)] [] G (Val (.string (mText k)) G) := by
  have h20 := t20 k hk
  refine fn_enter Try.func85 rfl Try.ntmps85 Try.results85 rfl ?_
  intro w0
  refine tri_seq ?_
  refine tri_region ?_
  refine seq_pure (pure_assign rfl) rfl rfl ?_
  refine seq_done ?_
  refine nrm_seq ?_
  refine tri_seq ?_
  refine tri_seq ?_
  refine tri_region ?_
  refine seq_pure (pure_move rfl) rfl rfl ?_
  refine seq_pure (pure_leq_f rfl rfl (by omega)) rfl rfl ?_
  refine seq_done ?_
  refine nrm_seq ?_
  refine tri_cond_f rfl ?_
  refine tri_skip ?_
  refine nrm_seq ?_
  refine tri_seq ?_
  refine tri_region ?_
  refine seq_pure (pure_assign rfl) rfl rfl ?_
  refine seq_done ?_
  refine nrm_seq ?_
  refine tri_seq ?_
  refine tri_block ?_
  refine tri_loopN (fun (x : Nat × Nat × ByteArray) => ⟨[(0, .int .i64 (x.2.1 : Int)), (3, .string x.2.2)], [], G⟩) (fun x => x.2.1 < 1000000000000000000 ∧ x.2.1 < 10 ^ x.1 ∧ x.2.2.size + x.1 = 20 ∧ mDigs x.1 x.2.1 x.2.2 = mDigs 20 k ⟨⟨[]⟩⟩) (fun x => x.1) (20, k, ⟨⟨[]⟩⟩) ?_ ?_ ?_
  · (simp only [flat_snoc]; exact sub_mk (by repeat (first | exact SubE.nil | refine SubE.cons rfl ?_)) (by repeat (first | exact SubH.refl | exact SubH.nil | refine SubH.cons (by repeat (first | exact Pk.here | apply Pk.there)) ?_ | apply SubH.drop)))
  · exact ⟨hk, h20, rfl, rfl⟩
  · (rintro ⟨f, j, out⟩ ⟨hj, hjf, hsz, hd⟩; simp only [] at hj hjf hsz hd ⊢)
    refine tri_seq ?_
    refine tri_seq ?_
    refine tri_region ?_
    refine seq_pure (pure_move rfl) rfl rfl ?_
    refine seq_bool (pure_gtr rfl rfl) rfl rfl (fun h31 => ?_) (fun h31 => ?_)
    · refine seq_done ?_
      refine nrm_seq ?_
      refine tri_cond_t rfl ?_
      refine tri_skip ?_
      refine nrm_seq ?_
      refine tri_block ?_
      refine tri_seq ?_
      refine tri_region ?_
      refine seq_pure (pure_move rfl) rfl rfl ?_
      refine seq_pure (pure_rem_nat (n := 10) rfl rfl (by omega)) rfl rfl ?_
      refine seq_pure (pure_add rfl rfl (by omega) (by omega)) rfl rfl ?_
      refine seq_pure (pure_conv_u8 rfl rfl rfl (by omega) (by omega)) rfl rfl ?_
      (refine seq_step (step_buildSlice rfl rfl rfl (by omega) (by unfold maxLen; omega) rfl) rfl ?_; rintro _ ⟨b44, rfl⟩)
      refine seq_load (load_conv_str (xs := [dgi j]) rfl rfl rfl rfl rfl (at_slc_all (by repeat (first | exact List.Mem.head _ | apply List.Mem.tail)))) rfl rfl ?_
      refine seq_pure (pure_move rfl) rfl rfl ?_
      (obtain ⟨f', rfl, hf1, hf2⟩ := digs_step hjf hsz (by omega); have hf3 := hf2; rw [ByteArray.size_append] at hf3; refine seq_pure (pure_cat rfl rfl (by omega)) rfl rfl ?_)
      refine seq_pure (pure_assign rfl) rfl rfl ?_
      refine seq_done ?_
      refine nrm_seq ?_
      refine tri_region ?_
      refine seq_pure (pure_move rfl) rfl rfl ?_
      refine seq_pure (pure_quo_nat (n := 10) rfl rfl (by omega) (by omega)) rfl rfl ?_
      refine seq_pure (pure_assign rfl) rfl rfl ?_
      refine seq_done ?_
      refine nrm_block ?_
      refine nrm_loopN (f', j / 10, strOfNums [dgi j] ++ out) ?_ ?_ ?_
      · (simp only [flat_snoc]; exact sub_mk (by repeat (first | exact SubE.nil | refine SubE.cons rfl ?_)) (by repeat (first | exact SubH.refl | exact SubH.nil | refine SubH.cons (by repeat (first | exact Pk.here | apply Pk.there)) ?_ | apply SubH.drop)))
      · (dsimp only; exact ⟨by omega, hf1, hf2, by rw [← hd, mDigs_go (by omega)]⟩)
      · exact Nat.lt_succ_self _
    · refine seq_done ?_
      refine nrm_seq ?_
      refine tri_cond_f rfl ?_
      refine tri_exit ?_
      refine ext_seq ?_
      refine ext_loopN ?_
      refine ext_block_eq ?_
      refine nrm_seq ?_
      refine tri_seq ?_
      refine tri_region ?_
      refine seq_pure (pure_move rfl) rfl rfl ?_
      refine seq_pure (pure_cat rfl rfl (by have : (⟨#[109]⟩ : ByteArray).size = 1 := rfl; omega)) rfl rfl ?_
      refine seq_pure (pure_assign rfl) rfl rfl ?_
      refine seq_done ?_
      refine nrm_seq ?_
      refine tri_ret ?_
      refine ret_fin1 (res_tmp rfl) ?_
      exact ⟨rfl, by rw [mText, ← hd, mDigs_end (by omega)], rfl⟩
end Gw
end Go.Proofs.Ytlefgfdhlblahaa
