/-
  For every term and every fuel, in whatever memory: the costs of the configurations are those of the reference model, in data of its own: FnExactConfigCosts answers true, and the arguments read behind the call as they read before. No condition.
-/
import Derived.Test.YtfpgncjeejickaaGreatRows
import Derived.Test.YtfpgncjeejickaaGreatKf1
import Derived.Test.YtfpgncjeejickaaGreatKf7
namespace Go.Proofs.YtfpgncjeejickaaGreat.FnExactConfigCosts
open Go Go.RowKit Go.ChangeShapes Go.WideShapes Go.ChangeAt Go.Proofs.YtfpgncjeejickaaGreat.Gw

theorem own : ownKnob Tryz.prog.godebug = none := by kernel_rfl
theorem laid : laidOutB Tryz.prog = true := by kernel_rfl
set_option maxRecDepth 100000 in
theorem lifted (os : Os) (started : os.Started) (H : Type) (enc : TypeId × Value → H) :
    ReturnsInHanded {} Tryz.checked os 5 .any (Rows.fnExactConfigCostsSpec.pre6 enc Tryz.prog Tryz.f5 Rows.fnExactConfigCostsRow.domain false) (Rows.fnExactConfigCostsSpec.post enc Tryz.prog Tryz.f5 false true false false) := by
  refine returnsInHanded_of_change (C := Tryz.checked) own started (by kernel_rfl) Tryz.func5
    (ChangeSpec.witness6 (enc := enc) (C := Tryz.checked) false ⟨#[], #[.agg #[.int .i64 0, .string ⟨#[]⟩, .int .i64 0, .int .i64 0, .slice none 0 0, .int .i64 0, .slice none 0 0, .int .i64 0, .slice none 0 0], .int .i64 0], []⟩ 8 (by kernel_rfl) (by kernel_rfl) (by kernel_rfl) (by kernel_rfl)) ?_
  intro W base args ds gs before hval0 hW hcnd _
  have hval : ∀ (j : Nat) t v, Tryz.f5.params[j]? = some t → args[j]? = some v → Value.okWide Tryz.prog W .any base t v := hval0
  have hW' := hW
  obtain ⟨p, q, hA0, hV, rfl, hfz, hnd⟩ := hW
  have hA : DataW.TrodAll enc Tryz.prog W 0 (fun _ => true) true Tryz.f5.params.toList args.toList ds p := hA0
  rw [Tryz.params5] at hA hval
  obtain ⟨v0, vs0, d0, ds0, p0, q0, hargs, rfl, rfl, h0, r0⟩ := trodAll_cons hA
  obtain ⟨v1, vs1, d1, ds1, p1, q1, rfl, rfl, rfl, h1, r1⟩ := trodAll_cons r0
  obtain ⟨rfl, rfl, rfl⟩ := trodAll_nil r1
  obtain rfl : args = #[v0, v1] := by cases args; simp_all
  obtain ⟨rfl, rfl⟩ := trodVars_none hV
  obtain ⟨cs0, rfl, hcs0⟩ := okWide_struct Tryz.underlying44 (hval 0 44 v0 rfl rfl)
  have h0k := h0
  obtain ⟨n0, hn0⟩ := h0
  obtain ⟨t0, hr0, hno0⟩ := A64 n0 _ _ hn0
  obtain ⟨a1, rfl, rfl, rfl, w1⟩ := open_int Tryz.underlying3 (hval 1 3 v1 rfl rfl) h1
  have hF : Calls Tryz.prog 5 #[.agg cs0, .int .i64 a1] W (fun e w' => ∃ v G' outs, e = .returned v ∧ O3 [] (GW W) W outs G' w' ∧ J8 (fun _ v => v = .bool true) G' v outs) := (B4M t0 a1 (GW W) _ hno0 hr0).run W (A6W W)
  refine hF.mono fun e W' h => ?_
  obtain ⟨v, G', outs, he, hres, ho, hv⟩ := h
  subst he hv
  have hb := Z9.below hres.ext
  refine ⟨_, rfl, A65 hW' hb rfl (fun _ _ _ => (trodAll_cons_mk (shut_bool Tryz.underlying4 _) trodAll_mk0)) (fun sp hsp => ?_) rfl (ok_one (by kernel_rfl) rfl (okWide_bool_mk Tryz.underlying4 _))⟩
  simp only [List.append_nil] at hsp ⊢
  have g0 : ∀ x ∈ p0, x.block < W.heap.size := fun x hx => hW'.lt x (by simp [hx])
  have u0 := WideElems.Trod_stays laid (by kernel_rfl) (of_decide_eq_true (by kernel_rfl)) (sp' := sp) h0k (fun x hx => hb.same (g0 x hx)) (fun x hx => hsp x (by simp [hx]))
  have u1 := shut_int (enc := enc) (w := W') (base := 0) (spare := sp) (held := true) Tryz.underlying3 w1
  have h2 := trodAll_mk2 u0 u1
  simp only [List.append_nil] at h2
  exact h2

theorem over : Rows.fnExactConfigCostsRow.holds Tryz.pinned (OpenSpec.ofChange Rows.fnExactConfigCostsSpec) :=
  OpenClaim.holds_of_wide 5 Tryz.f5 rfl rfl rfl rfl rfl rfl rfl ⟨rfl, rfl, rfl, rfl, rfl⟩ rfl rfl rfl rfl rfl (by kernel_rfl) Tryz.func5 (by kernel_rfl)
    (of_decide_eq_true (by kernel_rfl)) (by unfold Func.isWrapper; first | (rw [if_pos (by decide +kernel)]; kernel_rfl) | (rw [if_neg (by decide +kernel)]; exact ⟨rfl, rfl⟩))
    (fun os started H enc _ => lifted os started H enc)

theorem proved : Rows.FnExactConfigCostsSaid := over
#print axioms proved
end Go.Proofs.YtfpgncjeejickaaGreat.FnExactConfigCosts
