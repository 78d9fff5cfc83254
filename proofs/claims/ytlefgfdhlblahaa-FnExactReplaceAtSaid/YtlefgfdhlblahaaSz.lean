/-
  The laws' measure of arguments.
-/
import Derived.Test.YtlefgfdhlblahaaMarkI
namespace Go.Proofs.Ytlefgfdhlblahaa
open Go Go.RowKit
namespace Gw
mutual
def szTy : Ty → Int
  | .mk _ ks => ks.length + sumTy ks
def sumTy : List Ty → Int
  | [] => 0
  | t :: ts => szTy t + sumTy ts
end
mutual
def szTm : Tm → Int
  | .mk _ nm _ ty fr _ ks => nm.size + szTy ty + szTy fr + (ks.length + sumTm ks)
def sumTm : List Tm → Int
  | [] => 0
  | t :: ts => szTm t + sumTm ts
end
mutual
theorem szTy_nn : ∀ t : Ty, 0 ≤ szTy t
  | .mk _ ks => by have := sumTy_nn ks; rw [szTy]; omega
theorem sumTy_nn : ∀ ts : List Ty, 0 ≤ sumTy ts
  | [] => by rw [sumTy]; omega
  | t :: ts => by have := szTy_nn t; have := sumTy_nn ts; rw [sumTy]; omega
end
mutual
theorem szTm_nn : ∀ t : Tm, 0 ≤ szTm t
  | .mk _ _ _ ty fr _ ks => by have := sumTm_nn ks; have := szTy_nn ty; have := szTy_nn fr; rw [szTm]; omega
theorem sumTm_nn : ∀ ts : List Tm, 0 ≤ sumTm ts
  | [] => by rw [sumTm]; omega
  | t :: ts => by have := szTm_nn t; have := sumTm_nn ts; rw [sumTm]; omega
end
theorem sumTy_append : ∀ a b : List Ty, sumTy (a ++ b) = sumTy a + sumTy b
  | [], b => by simp [sumTy]
  | t :: a, b => by rw [List.cons_append, sumTy, sumTy, sumTy_append a b]; omega
theorem sumTm_append : ∀ a b : List Tm, sumTm (a ++ b) = sumTm a + sumTm b
  | [], b => by simp [sumTm]
  | t :: a, b => by rw [List.cons_append, sumTm, sumTm, sumTm_append a b]; omega
theorem sumTy_succ {ks : List Ty} {i : Nat} (hi : i < ks.length) : sumTy (ks.take (i + 1)) = sumTy (ks.take i) + szTy ks[i] := by
  rw [List.take_succ_eq_append_getElem hi, sumTy_append, sumTy, sumTy]; omega
theorem sumTm_succ {ks : List Tm} {i : Nat} (hi : i < ks.length) : sumTm (ks.take (i + 1)) = sumTm (ks.take i) + szTm ks[i] := by
  rw [List.take_succ_eq_append_getElem hi, sumTm_append, sumTm, sumTm]; omega
theorem sumTy_take (ks : List Ty) (i : Nat) : sumTy (ks.take i) ≤ sumTy ks := by
  have h := sumTy_append (ks.take i) (ks.drop i)
  rw [List.take_append_drop] at h
  have := sumTy_nn (ks.drop i); omega
theorem sumTm_take (ks : List Tm) (i : Nat) : sumTm (ks.take i) ≤ sumTm ks := by
  have h := sumTm_append (ks.take i) (ks.drop i)
  rw [List.take_append_drop] at h
  have := sumTm_nn (ks.drop i); omega
/- No name is longer than Go's strings are. -/
mutual
def Tm.nok : Tm → Prop
  | .mk _ nm _ _ _ _ ks => nm.size ≤ 9223372036854775807 ∧ Tm.nokL ks
def Tm.nokL : List Tm → Prop
  | [] => True
  | t :: ts => t.nok ∧ Tm.nokL ts
end
theorem Tm.nokL_mem : ∀ {ts : List Tm}, Tm.nokL ts → ∀ t ∈ ts, t.nok
  | [], _, t, h => by simp at h
  | t' :: ts, h, t, ht => by
    simp only [Tm.nokL] at h
    rcases List.mem_cons.1 ht with rfl | ht
    · exact h.1
    · exact Tm.nokL_mem h.2 t ht
/-- What is left behind a measure. -/
def resI (left s : Int) : Int := if s ≤ left then left - s else -1
theorem res_cases (left s : Int) : (s ≤ left ∧ resI left s = left - s) ∨ (left < s ∧ resI left s = -1) := by
  unfold resI; split
  · exact .inl ⟨by omega, rfl⟩
  · exact .inr ⟨by omega, rfl⟩
theorem res_yes {left s : Int} (h : s ≤ left) : resI left s = left - s := if_pos h
theorem res_no {left s : Int} (h : left < s) : resI left s = -1 := if_neg (by omega)
set_option maxRecDepth 100000 in
theorem szTypeS_of (ks : List Ty) (ih : ∀ t ∈ ks, ∀ (left : Int) (G : IM) (cells : List Value), 0 ≤ left → left ≤ 1048576 → RTy G t cells → Fn Try.prog 47 [.agg ⟨cells⟩, .int .i64 left] [] G (Val (.int .i64 (resI left (szTy t))) G))
    (left : Int) (G : IM) (p : Option Addr) (c : Nat) (es : List (List Value)) (h0 : 0 ≤ left) (h1 : left ≤ 1048576) (hsl : SlE G p ks.length c 2 es) (hkl : RTyL G ks es) :
    Fn Try.prog 81 [.slice p ks.length c, .int .i64 left] [] G (Val (.int .i64 (resI left (ks.length + sumTy ks))) G) := by
  have hn := hsl.le
  have hs := sumTy_nn ks
  refine fn_enter Try.func81 rfl Try.ntmps81 Try.results81 rfl ?_
  intro w0
  refine tri_seq ?_
  refine tri_region ?_
  refine seq_pure (pure_assign rfl) rfl rfl ?_
  refine seq_done ?_
  refine nrm_seq ?_
  refine tri_seq ?_
  refine tri_region ?_
  refine seq_pure (pure_move rfl) rfl rfl ?_
  refine seq_pure (pure_move rfl) rfl rfl ?_
  refine seq_pure (pure_len rfl rfl) rfl rfl ?_
  refine seq_pure (pure_sub rfl rfl (by omega) (by omega)) rfl rfl ?_
  refine seq_pure (pure_assign rfl) rfl rfl ?_
  refine seq_done ?_
  refine nrm_seq ?_
  refine tri_seq ?_
  refine tri_seq ?_
  refine tri_region ?_
  refine seq_pure (pure_move rfl) rfl rfl ?_
  refine seq_bool (pure_lss rfl rfl) rfl rfl (fun h19 => ?_) (fun h19 => ?_)
  · refine seq_done ?_
    refine nrm_seq ?_
    refine tri_cond_t rfl ?_
    refine tri_seq ?_
    refine tri_region ?_
    refine seq_pure (pure_assign rfl) rfl rfl ?_
    refine seq_done ?_
    refine nrm_seq ?_
    refine tri_ret ?_
    refine ret_seq ?_
    refine ret_fin1 (res_tmp rfl) ?_
    exact ⟨rfl, by rw [res_no (by omega)], rfl⟩
  · refine seq_done ?_
    refine nrm_seq ?_
    refine tri_cond_f rfl ?_
    refine tri_skip ?_
    refine nrm_seq ?_
    refine tri_seq ?_
    refine tri_seq ?_
    refine tri_region ?_
    refine seq_pure (pure_assign rfl) rfl rfl ?_
    refine seq_done ?_
    refine nrm_seq ?_
    refine tri_block ?_
    refine tri_loopN (fun (x : Nat × Int) => ⟨[(5, .int .i64 x.1), (1, .int .i64 x.2), (0, .slice p ks.length c)], [], G⟩) (fun x => x.1 ≤ ks.length ∧ x.2 = left - ks.length - sumTy (ks.take x.1) ∧ 0 ≤ x.2) (fun x => ks.length - x.1) (0, left - ks.length) ?_ ?_ ?_
    · (simp only [flat_snoc]; exact sub_mk (by repeat (first | exact SubE.nil | refine SubE.cons rfl ?_)) (by repeat (first | exact SubH.refl | exact SubH.nil | refine SubH.cons (by repeat (first | exact Pk.here | apply Pk.there)) ?_ | apply SubH.drop)))
    · exact ⟨by simp, by simp [sumTy], by omega⟩
    · (rintro ⟨i, l⟩ ⟨hi, hl, hl0⟩; simp only [] at hi hl hl0 ⊢; have hsn := sumTy_nn (ks.take i))
      refine tri_seq ?_
      refine tri_seq ?_
      refine tri_region ?_
      refine seq_pure (pure_move rfl) rfl rfl ?_
      refine seq_pure (pure_move rfl) rfl rfl ?_
      refine seq_pure (pure_len rfl rfl) rfl rfl ?_
      refine seq_bool (pure_lss rfl rfl) rfl rfl (fun h54 => ?_) (fun h54 => ?_)
      · refine seq_done ?_
        refine nrm_seq ?_
        refine tri_cond_t rfl ?_
        refine tri_skip ?_
        refine nrm_seq ?_
        refine tri_seq ?_
        refine tri_block ?_
        refine tri_seq ?_
        refine tri_region ?_
        refine seq_pure (pure_move rfl) rfl rfl ?_
        refine seq_pure (pure_move rfl) rfl rfl ?_
        (obtain ⟨b, o, p2, c2, rfl, hat, hre, hgb⟩ := hsl.kidTy hkl (i := i) (by omega) (by omega); refine seq_pure (pure_indexAddrN rfl rfl rfl (by omega)) rfl rfl ?_)
        refine seq_load (load_a rfl rfl (hat _) rfl) rfl rfl ?_
        refine seq_pure (pure_move rfl) rfl rfl ?_
        (have hih := ih ks[i] (List.getElem_mem (by omega)) l G _ hl0 (by omega) hre; have hsu := sumTy_succ (ks := ks) (i := i) (by omega); have hta := sumTy_take ks (i + 1); rcases res_cases l (szTy ks[i]) with ⟨hc, hr⟩ | ⟨hc, hr⟩ <;> (rw [hr] at hih; refine seq_val rfl hih rfl rfl ?_))
        · refine seq_pure (pure_assign rfl) rfl rfl ?_
          refine seq_done ?_
          refine nrm_seq ?_
          refine tri_seq ?_
          refine tri_region ?_
          refine seq_pure (pure_move rfl) rfl rfl ?_
          refine seq_pure (pure_lss_f rfl rfl (by omega)) rfl rfl ?_
          refine seq_done ?_
          refine nrm_seq ?_
          refine tri_cond_f rfl ?_
          refine tri_skip ?_
          refine nrm_block ?_
          refine nrm_seq ?_
          refine tri_region ?_
          refine seq_pure (pure_move rfl) rfl rfl ?_
          refine seq_pure (pure_add rfl rfl (by omega) (by omega)) rfl rfl ?_
          refine seq_pure (pure_assign rfl) rfl rfl ?_
          refine seq_done ?_
          refine nrm_loopN (i + 1, l - szTy ks[i]) ?_ ?_ ?_
          · (simp only [flat_snoc]; exact sub_mk (by repeat (first | exact SubE.nil | refine SubE.cons rfl ?_)) (by repeat (first | exact SubH.refl | exact SubH.nil | refine SubH.cons (by repeat (first | exact Pk.here | apply Pk.there)) ?_ | apply SubH.drop)))
          · (dsimp only; exact ⟨by omega, by omega, by omega⟩)
          · (show ks.length - (i + 1) < ks.length - i; omega)
        · refine seq_pure (pure_assign rfl) rfl rfl ?_
          refine seq_done ?_
          refine nrm_seq ?_
          refine tri_seq ?_
          refine tri_region ?_
          refine seq_pure (pure_move rfl) rfl rfl ?_
          refine seq_pure (pure_lss_t rfl rfl (by omega)) rfl rfl ?_
          refine seq_done ?_
          refine nrm_seq ?_
          refine tri_cond_t rfl ?_
          refine tri_seq ?_
          refine tri_region ?_
          refine seq_pure (pure_assign rfl) rfl rfl ?_
          refine seq_done ?_
          refine nrm_seq ?_
          refine tri_ret ?_
          refine ret_block ?_
          refine ret_seq ?_
          refine ret_loopN ?_
          refine ret_block ?_
          refine ret_seq ?_
          refine ret_fin1 (res_tmp rfl) ?_
          exact ⟨rfl, by rw [res_no (by omega)], rfl⟩
      · refine seq_done ?_
        refine nrm_seq ?_
        refine tri_cond_f rfl ?_
        refine tri_exit ?_
        refine ext_seq ?_
        refine ext_loopN ?_
        refine ext_block_eq ?_
        refine nrm_seq ?_
        refine tri_seq ?_
        refine tri_region ?_
        refine seq_pure (pure_move rfl) rfl rfl ?_
        refine seq_pure (pure_assign rfl) rfl rfl ?_
        refine seq_done ?_
        refine nrm_seq ?_
        refine tri_ret ?_
        refine ret_fin1 (res_tmp rfl) ?_
        (obtain rfl : i = ks.length := (by omega); rw [List.take_length] at hl; exact ⟨rfl, by rw [res_yes (by omega), hl]; congr 1; omega, rfl⟩)
set_option maxRecDepth 100000 in
theorem szType_fn : ∀ (t : Ty) (left : Int) (G : IM) (cells : List Value), 0 ≤ left → left ≤ 1048576 → RTy G t cells → Fn Try.prog 47 [.agg ⟨cells⟩, .int .i64 left] [] G (Val (.int .i64 (resI left (szTy t))) G) := by
  refine Ty.ind fun k ks ih left G cells h0 h1 hr => ?_
  obtain ⟨p, c, es, rfl, hk, hsl, hkl⟩ := hr.open
  simp only [Ty.k, Ty.ks] at hk hsl hkl ⊢
  have hS := szTypeS_of ks ih left G p c es h0 h1 hsl hkl
  rw [szTy]
  refine fn_enter Try.func47 rfl Try.ntmps47 Try.results47 rfl ?_
  intro w0
  refine tri_seq ?_
  refine tri_region ?_
  (refine seq_step (step_box_a rfl rfl) rfl ?_; rintro _ ⟨b3, rfl⟩)
  refine seq_pure (pure_assign rfl) rfl rfl ?_
  refine seq_done ?_
  refine nrm_seq ?_
  refine tri_seq ?_
  refine tri_region ?_
  refine seq_pure (pure_fieldAddr0 rfl) rfl rfl ?_
  refine seq_load (load_bs rfl rfl (by repeat (first | exact List.Mem.head _ | apply List.Mem.tail)) (by rfl)) rfl rfl ?_
  refine seq_pure (pure_move rfl) rfl rfl ?_
  (rcases res_cases left (ks.length + sumTy ks) with ⟨hc, hr⟩ | ⟨hc, hr⟩ <;> (rw [hr] at hS; refine seq_val rfl hS rfl rfl ?_))
  · refine seq_pure (pure_assign rfl) rfl rfl ?_
    refine seq_done ?_
    refine nrm_seq ?_
    refine tri_seq ?_
    refine tri_seq ?_
    refine tri_region ?_
    refine seq_pure (pure_move rfl) rfl rfl ?_
    refine seq_pure (pure_lss_f rfl rfl (by omega)) rfl rfl ?_
    refine seq_done ?_
    refine nrm_seq ?_
    refine tri_cond_f rfl ?_
    refine tri_skip ?_
    refine nrm_seq ?_
    refine tri_seq ?_
    refine tri_region ?_
    refine seq_pure (pure_move rfl) rfl rfl ?_
    refine seq_pure (pure_assign rfl) rfl rfl ?_
    refine seq_done ?_
    refine nrm_seq ?_
    refine tri_ret ?_
    refine ret_fin1 (res_tmp rfl) ?_
    exact ⟨rfl, by rw [hr], rfl⟩
  · refine seq_pure (pure_assign rfl) rfl rfl ?_
    refine seq_done ?_
    refine nrm_seq ?_
    refine tri_seq ?_
    refine tri_seq ?_
    refine tri_region ?_
    refine seq_pure (pure_move rfl) rfl rfl ?_
    refine seq_pure (pure_lss_t rfl rfl (by omega)) rfl rfl ?_
    refine seq_done ?_
    refine nrm_seq ?_
    refine tri_cond_t rfl ?_
    refine tri_seq ?_
    refine tri_region ?_
    refine seq_pure (pure_assign rfl) rfl rfl ?_
    refine seq_done ?_
    refine nrm_seq ?_
    refine tri_ret ?_
    refine ret_seq ?_
    refine ret_fin1 (res_tmp rfl) ?_
    exact ⟨rfl, by rw [hr], rfl⟩
set_option maxRecDepth 100000 in
theorem szTermS_of (ks : List Tm) (ih : ∀ t ∈ ks, ∀ (left : Int) (G : IM) (cells : List Value), 0 ≤ left → left ≤ 1048576 → t.nok → RTm G t cells → Fn Try.prog 16 [.agg ⟨cells⟩, .int .i64 left] [] G (Val (.int .i64 (resI left (szTm t))) G))
    (left : Int) (G : IM) (p : Option Addr) (c : Nat) (es : List (List Value)) (h0 : 0 ≤ left) (h1 : left ≤ 1048576) (hnok : Tm.nokL ks) (hsl : SlE G p ks.length c 9 es) (hkl : RTmL G ks es) :
    Fn Try.prog 48 [.slice p ks.length c, .int .i64 left] [] G (Val (.int .i64 (resI left (ks.length + sumTm ks))) G) := by
  have hn := hsl.le
  have hs := sumTm_nn ks
  refine fn_enter Try.func48 rfl Try.ntmps48 Try.results48 rfl ?_
  intro w0
  refine tri_seq ?_
  refine tri_region ?_
  refine seq_pure (pure_assign rfl) rfl rfl ?_
  refine seq_done ?_
  refine nrm_seq ?_
  refine tri_seq ?_
  refine tri_region ?_
  refine seq_pure (pure_move rfl) rfl rfl ?_
  refine seq_pure (pure_move rfl) rfl rfl ?_
  refine seq_pure (pure_len rfl rfl) rfl rfl ?_
  refine seq_pure (pure_sub rfl rfl (by omega) (by omega)) rfl rfl ?_
  refine seq_pure (pure_assign rfl) rfl rfl ?_
  refine seq_done ?_
  refine nrm_seq ?_
  refine tri_seq ?_
  refine tri_seq ?_
  refine tri_region ?_
  refine seq_pure (pure_move rfl) rfl rfl ?_
  refine seq_bool (pure_lss rfl rfl) rfl rfl (fun h19 => ?_) (fun h19 => ?_)
  · refine seq_done ?_
    refine nrm_seq ?_
    refine tri_cond_t rfl ?_
    refine tri_seq ?_
    refine tri_region ?_
    refine seq_pure (pure_assign rfl) rfl rfl ?_
    refine seq_done ?_
    refine nrm_seq ?_
    refine tri_ret ?_
    refine ret_seq ?_
    refine ret_fin1 (res_tmp rfl) ?_
    exact ⟨rfl, by rw [res_no (by omega)], rfl⟩
  · refine seq_done ?_
    refine nrm_seq ?_
    refine tri_cond_f rfl ?_
    refine tri_skip ?_
    refine nrm_seq ?_
    refine tri_seq ?_
    refine tri_seq ?_
    refine tri_region ?_
    refine seq_pure (pure_assign rfl) rfl rfl ?_
    refine seq_done ?_
    refine nrm_seq ?_
    refine tri_block ?_
    refine tri_loopN (fun (x : Nat × Int) => ⟨[(5, .int .i64 x.1), (1, .int .i64 x.2), (0, .slice p ks.length c)], [], G⟩) (fun x => x.1 ≤ ks.length ∧ x.2 = left - ks.length - sumTm (ks.take x.1) ∧ 0 ≤ x.2) (fun x => ks.length - x.1) (0, left - ks.length) ?_ ?_ ?_
    · (simp only [flat_snoc]; exact sub_mk (by repeat (first | exact SubE.nil | refine SubE.cons rfl ?_)) (by repeat (first | exact SubH.refl | exact SubH.nil | refine SubH.cons (by repeat (first | exact Pk.here | apply Pk.there)) ?_ | apply SubH.drop)))
    · exact ⟨by simp, by simp [sumTm], by omega⟩
    · (rintro ⟨i, l⟩ ⟨hi, hl, hl0⟩; simp only [] at hi hl hl0 ⊢; have hsn := sumTm_nn (ks.take i))
      refine tri_seq ?_
      refine tri_seq ?_
      refine tri_region ?_
      refine seq_pure (pure_move rfl) rfl rfl ?_
      refine seq_pure (pure_move rfl) rfl rfl ?_
      refine seq_pure (pure_len rfl rfl) rfl rfl ?_
      refine seq_bool (pure_lss rfl rfl) rfl rfl (fun h54 => ?_) (fun h54 => ?_)
      · refine seq_done ?_
        refine nrm_seq ?_
        refine tri_cond_t rfl ?_
        refine tri_skip ?_
        refine nrm_seq ?_
        refine tri_seq ?_
        refine tri_block ?_
        refine tri_seq ?_
        refine tri_region ?_
        refine seq_pure (pure_move rfl) rfl rfl ?_
        refine seq_pure (pure_move rfl) rfl rfl ?_
        (obtain ⟨b, o, e, rfl, hle, hat, hre, hgb⟩ := hsl.kidTm hkl (i := i) (by omega) (by omega); refine seq_pure (pure_indexAddrN rfl rfl rfl (by omega)) rfl rfl ?_)
        refine seq_load (load_a rfl rfl (hat _) hle) rfl rfl ?_
        refine seq_pure (pure_move rfl) rfl rfl ?_
        (have hih := ih ks[i] (List.getElem_mem (by omega)) l G _ hl0 (by omega) (Tm.nokL_mem hnok _ (List.getElem_mem (by omega))) hre; have hsu := sumTm_succ (ks := ks) (i := i) (by omega); have hta := sumTm_take ks (i + 1); rcases res_cases l (szTm ks[i]) with ⟨hc, hr⟩ | ⟨hc, hr⟩ <;> (rw [hr] at hih; refine seq_val rfl hih rfl rfl ?_))
        · refine seq_pure (pure_assign rfl) rfl rfl ?_
          refine seq_done ?_
          refine nrm_seq ?_
          refine tri_seq ?_
          refine tri_region ?_
          refine seq_pure (pure_move rfl) rfl rfl ?_
          refine seq_pure (pure_lss_f rfl rfl (by omega)) rfl rfl ?_
          refine seq_done ?_
          refine nrm_seq ?_
          refine tri_cond_f rfl ?_
          refine tri_skip ?_
          refine nrm_block ?_
          refine nrm_seq ?_
          refine tri_region ?_
          refine seq_pure (pure_move rfl) rfl rfl ?_
          refine seq_pure (pure_add rfl rfl (by omega) (by omega)) rfl rfl ?_
          refine seq_pure (pure_assign rfl) rfl rfl ?_
          refine seq_done ?_
          refine nrm_loopN (i + 1, l - szTm ks[i]) ?_ ?_ ?_
          · (simp only [flat_snoc]; exact sub_mk (by repeat (first | exact SubE.nil | refine SubE.cons rfl ?_)) (by repeat (first | exact SubH.refl | exact SubH.nil | refine SubH.cons (by repeat (first | exact Pk.here | apply Pk.there)) ?_ | apply SubH.drop)))
          · (dsimp only; exact ⟨by omega, by omega, by omega⟩)
          · (show ks.length - (i + 1) < ks.length - i; omega)
        · refine seq_pure (pure_assign rfl) rfl rfl ?_
          refine seq_done ?_
          refine nrm_seq ?_
          refine tri_seq ?_
          refine tri_region ?_
          refine seq_pure (pure_move rfl) rfl rfl ?_
          refine seq_pure (pure_lss_t rfl rfl (by omega)) rfl rfl ?_
          refine seq_done ?_
          refine nrm_seq ?_
          refine tri_cond_t rfl ?_
          refine tri_seq ?_
          refine tri_region ?_
          refine seq_pure (pure_assign rfl) rfl rfl ?_
          refine seq_done ?_
          refine nrm_seq ?_
          refine tri_ret ?_
          refine ret_block ?_
          refine ret_seq ?_
          refine ret_loopN ?_
          refine ret_block ?_
          refine ret_seq ?_
          refine ret_fin1 (res_tmp rfl) ?_
          exact ⟨rfl, by rw [res_no (by omega)], rfl⟩
      · refine seq_done ?_
        refine nrm_seq ?_
        refine tri_cond_f rfl ?_
        refine tri_exit ?_
        refine ext_seq ?_
        refine ext_loopN ?_
        refine ext_block_eq ?_
        refine nrm_seq ?_
        refine tri_seq ?_
        refine tri_region ?_
        refine seq_pure (pure_move rfl) rfl rfl ?_
        refine seq_pure (pure_assign rfl) rfl rfl ?_
        refine seq_done ?_
        refine nrm_seq ?_
        refine tri_ret ?_
        refine ret_fin1 (res_tmp rfl) ?_
        (obtain rfl : i = ks.length := (by omega); rw [List.take_length] at hl; exact ⟨rfl, by rw [res_yes (by omega), hl]; congr 1; omega, rfl⟩)
set_option maxRecDepth 100000 in
theorem szTerm_fn : ∀ (t : Tm) (left : Int) (G : IM) (cells : List Value), 0 ≤ left → left ≤ 1048576 → t.nok → RTm G t cells → Fn Try.prog 16 [.agg ⟨cells⟩, .int .i64 left] [] G (Val (.int .i64 (resI left (szTm t))) G) := by
  refine Tm.ind fun k nm num ty fr lb ks ih left G cells h0 h1 hno hr => ?_
  simp only [Tm.nok] at hno
  obtain ⟨hnm, hno⟩ := hno
  obtain ⟨tk, tks⟩ := ty
  obtain ⟨fk, fks⟩ := fr
  obtain ⟨pt, ct, pf, cf, p, c, es, rfl, hk, hnum, hlb, hty, hfr, hsl, hkl⟩ := hr.open9
  have n1 := szTy_nn (.mk tk tks)
  have n2 := szTy_nn (.mk fk fks)
  have n3 := sumTm_nn ks
  rw [szTm]
  generalize hs1 : szTy (.mk tk tks) = s1 at *
  generalize hs2 : szTy (.mk fk fks) = s2 at *
  refine fn_enter Try.func16 rfl Try.ntmps16 Try.results16 rfl ?_
  intro w0
  refine tri_seq ?_
  refine tri_region ?_
  (refine seq_step (step_box_a rfl rfl) rfl ?_; rintro _ ⟨b3, rfl⟩)
  refine seq_pure (pure_assign rfl) rfl rfl ?_
  refine seq_done ?_
  refine nrm_seq ?_
  refine tri_seq ?_
  refine tri_region ?_
  refine seq_pure (pure_move rfl) rfl rfl ?_
  refine seq_pure (pure_fieldAddr0 rfl) rfl rfl ?_
  refine seq_load (load_bs rfl rfl (by repeat (first | exact List.Mem.head _ | apply List.Mem.tail)) (by rfl)) rfl rfl ?_
  refine seq_pure (pure_len_str rfl rfl) rfl rfl ?_
  refine seq_pure (pure_sub rfl rfl (by omega) (by omega)) rfl rfl ?_
  refine seq_pure (pure_assign rfl) rfl rfl ?_
  refine seq_done ?_
  refine nrm_seq ?_
  refine tri_seq ?_
  refine tri_seq ?_
  refine tri_region ?_
  refine seq_pure (pure_move rfl) rfl rfl ?_
  refine seq_bool (pure_lss rfl rfl) rfl rfl (fun h21 => ?_) (fun h21 => ?_)
  · refine seq_done ?_
    refine nrm_seq ?_
    refine tri_cond_t rfl ?_
    refine tri_seq ?_
    refine tri_region ?_
    refine seq_pure (pure_assign rfl) rfl rfl ?_
    refine seq_done ?_
    refine nrm_seq ?_
    refine tri_ret ?_
    refine ret_seq ?_
    refine ret_fin1 (res_tmp rfl) ?_
    exact ⟨rfl, by rw [res_no (by omega)], rfl⟩
  · refine seq_done ?_
    refine nrm_seq ?_
    refine tri_cond_f rfl ?_
    refine tri_skip ?_
    refine nrm_seq ?_
    refine tri_seq ?_
    refine tri_region ?_
    refine seq_pure (pure_fieldAddr0 rfl) rfl rfl ?_
    refine seq_load (load_ba rfl rfl (by repeat (first | exact List.Mem.head _ | apply List.Mem.tail)) (by rfl)) rfl rfl ?_
    refine seq_pure (pure_move rfl) rfl rfl ?_
    (have hT := szType_fn (.mk tk tks) (left - nm.size) G _ (by omega) (by omega) hty; rw [hs1] at hT; rcases res_cases (left - nm.size) s1 with ⟨hc1, hr1⟩ | ⟨hc1, hr1⟩ <;> (rw [hr1] at hT; refine seq_val rfl hT rfl rfl ?_))
    · refine seq_pure (pure_assign rfl) rfl rfl ?_
      refine seq_done ?_
      refine nrm_seq ?_
      refine tri_seq ?_
      refine tri_seq ?_
      refine tri_region ?_
      refine seq_pure (pure_move rfl) rfl rfl ?_
      refine seq_pure (pure_lss_f rfl rfl (by omega)) rfl rfl ?_
      refine seq_done ?_
      refine nrm_seq ?_
      refine tri_cond_f rfl ?_
      refine tri_skip ?_
      refine nrm_seq ?_
      refine tri_seq ?_
      refine tri_region ?_
      refine seq_pure (pure_fieldAddr0 rfl) rfl rfl ?_
      refine seq_load (load_ba rfl rfl (by repeat (first | exact List.Mem.head _ | apply List.Mem.tail)) (by rfl)) rfl rfl ?_
      refine seq_pure (pure_move rfl) rfl rfl ?_
      (have hF := szType_fn (.mk fk fks) (left - nm.size - s1) G _ (by omega) (by omega) hfr; rw [hs2] at hF; rcases res_cases (left - nm.size - s1) s2 with ⟨hc2, hr2⟩ | ⟨hc2, hr2⟩ <;> (rw [hr2] at hF; refine seq_val rfl hF rfl rfl ?_))
      · refine seq_pure (pure_assign rfl) rfl rfl ?_
        refine seq_done ?_
        refine nrm_seq ?_
        refine tri_seq ?_
        refine tri_seq ?_
        refine tri_region ?_
        refine seq_pure (pure_move rfl) rfl rfl ?_
        refine seq_pure (pure_lss_f rfl rfl (by omega)) rfl rfl ?_
        refine seq_done ?_
        refine nrm_seq ?_
        refine tri_cond_f rfl ?_
        refine tri_skip ?_
        refine nrm_seq ?_
        refine tri_seq ?_
        refine tri_region ?_
        refine seq_pure (pure_fieldAddr0 rfl) rfl rfl ?_
        refine seq_load (load_bs rfl rfl (by repeat (first | exact List.Mem.head _ | apply List.Mem.tail)) (by rfl)) rfl rfl ?_
        refine seq_pure (pure_move rfl) rfl rfl ?_
        (have hS := szTermS_of ks ih (left - nm.size - s1 - s2) G p c es (by omega) (by omega) hno hsl hkl; rcases res_cases (left - nm.size - s1 - s2) (ks.length + sumTm ks) with ⟨hc3, hr3⟩ | ⟨hc3, hr3⟩ <;> (rw [hr3] at hS; refine seq_val rfl hS rfl rfl ?_))
        · refine seq_pure (pure_assign rfl) rfl rfl ?_
          refine seq_done ?_
          refine nrm_seq ?_
          refine tri_seq ?_
          refine tri_seq ?_
          refine tri_region ?_
          refine seq_pure (pure_move rfl) rfl rfl ?_
          refine seq_pure (pure_lss_f rfl rfl (by omega)) rfl rfl ?_
          refine seq_done ?_
          refine nrm_seq ?_
          refine tri_cond_f rfl ?_
          refine tri_skip ?_
          refine nrm_seq ?_
          refine tri_seq ?_
          refine tri_region ?_
          refine seq_pure (pure_move rfl) rfl rfl ?_
          refine seq_pure (pure_assign rfl) rfl rfl ?_
          refine seq_done ?_
          refine nrm_seq ?_
          refine tri_ret ?_
          refine ret_fin1 (res_tmp rfl) ?_
          exact ⟨rfl, by rw [res_yes (by omega)]; congr 1; omega, rfl⟩
        · refine seq_pure (pure_assign rfl) rfl rfl ?_
          refine seq_done ?_
          refine nrm_seq ?_
          refine tri_seq ?_
          refine tri_seq ?_
          refine tri_region ?_
          refine seq_pure (pure_move rfl) rfl rfl ?_
          refine seq_pure (pure_lss_t rfl rfl (by omega)) rfl rfl ?_
          refine seq_done ?_
          refine nrm_seq ?_
          refine tri_cond_t rfl ?_
          refine tri_seq ?_
          refine tri_region ?_
          refine seq_pure (pure_assign rfl) rfl rfl ?_
          refine seq_done ?_
          refine nrm_seq ?_
          refine tri_ret ?_
          refine ret_seq ?_
          refine ret_fin1 (res_tmp rfl) ?_
          exact ⟨rfl, by rw [res_no (by omega)], rfl⟩
      · refine seq_pure (pure_assign rfl) rfl rfl ?_
        refine seq_done ?_
        refine nrm_seq ?_
        refine tri_seq ?_
        refine tri_seq ?_
        refine tri_region ?_
        refine seq_pure (pure_move rfl) rfl rfl ?_
        refine seq_pure (pure_lss_t rfl rfl (by omega)) rfl rfl ?_
        refine seq_done ?_
        refine nrm_seq ?_
        refine tri_cond_t rfl ?_
        refine tri_seq ?_
        refine tri_region ?_
        refine seq_pure (pure_assign rfl) rfl rfl ?_
        refine seq_done ?_
        refine nrm_seq ?_
        refine tri_ret ?_
        refine ret_seq ?_
        refine ret_fin1 (res_tmp rfl) ?_
        exact ⟨rfl, by rw [res_no (by omega)], rfl⟩
    · refine seq_pure (pure_assign rfl) rfl rfl ?_
      refine seq_done ?_
      refine nrm_seq ?_
      refine tri_seq ?_
      refine tri_seq ?_
      refine tri_region ?_
      refine seq_pure (pure_move rfl) rfl rfl ?_
      refine seq_pure (pure_lss_t rfl rfl (by omega)) rfl rfl ?_
      refine seq_done ?_
      refine nrm_seq ?_
      refine tri_cond_t rfl ?_
      refine tri_seq ?_
      refine tri_region ?_
      refine seq_pure (pure_assign rfl) rfl rfl ?_
      refine seq_done ?_
      refine nrm_seq ?_
      refine tri_ret ?_
      refine ret_seq ?_
      refine ret_fin1 (res_tmp rfl) ?_
      exact ⟨rfl, by rw [res_no (by omega)], rfl⟩
end Gw
end Go.Proofs.Ytlefgfdhlblahaa
