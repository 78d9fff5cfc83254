/-
  For every term, of whatever size and in whatever memory, the program's AllPaths gives what the reference model's gives, leaves its argument as it was, and shares no memory: FnExactAllPaths answers true, and the argument reads behind the call as it read before. No condition.
-/
import Derived.Test.YtlefgfdhlblahaaRows
import Derived.Test.YtlefgfdhlblahaaLaw1
import Derived.Test.YtlefgfdhlblahaaArg
namespace Go.Proofs.Ytlefgfdhlblahaa.FnExactAllPaths
open Go Go.RowKit Go.ChangeShapes Go.WideShapes Go.ChangeAt Go.Proofs.Ytlefgfdhlblahaa.Gw

theorem own : ownKnob Try.prog.godebug = none := by kernel_rfl
theorem laid : laidOutB Try.prog = true := by kernel_rfl
set_option maxRecDepth 100000 in
theorem lifted (os : Os) (started : os.Started) (H : Type) (enc : TypeId × Value → H) :
    ReturnsInHanded {} Try.checked os 4 .any (Rows.fnExactAllPathsSpec.pre6 enc Try.prog Try.f4 Rows.fnExactAllPathsRow.domain false) (Rows.fnExactAllPathsSpec.post enc Try.prog Try.f4 false true false false) := by
  refine returnsInHanded_of_change (C := Try.checked) own started (by kernel_rfl) Try.func4
    (ChangeSpec.witness6 (enc := enc) (C := Try.checked) false ⟨#[], #[.agg #[.int .i64 0, .string ⟨#[]⟩, .int .i64 0, .int .i64 0, .slice none 0 0, .int .i64 0, .slice none 0 0, .int .i64 0, .slice none 0 0]], []⟩ 8 (by kernel_rfl) (by kernel_rfl) (by kernel_rfl) (by kernel_rfl)) ?_
  intro W base args ds gs before hval0 hW hcnd _
  have hval : ∀ (j : Nat) t v, Try.f4.params[j]? = some t → args[j]? = some v → Value.okWide Try.prog W .any base t v := hval0
  have hW' := hW
  obtain ⟨p, q, hA0, hV, rfl, hfz, hnd⟩ := hW
  have hA : DataW.TrodAll enc Try.prog W 0 (fun _ => true) true Try.f4.params.toList args.toList ds p := hA0
  rw [Try.params4] at hA hval
  obtain ⟨v0, vs0, d0, ds0, p0, q0, hargs, rfl, rfl, h0, r0⟩ := trodAll_cons hA
  obtain ⟨rfl, rfl, rfl⟩ := trodAll_nil r0
  obtain rfl : args = #[v0] := by cases args; simp_all
  obtain ⟨rfl, rfl⟩ := trodVars_none hV
  obtain ⟨cs, rfl, hcs⟩ := okWide_struct Try.underlying43 (hval 0 43 v0 rfl rfl)
  have h0k := h0
  obtain ⟨n, hn⟩ := h0
  obtain ⟨t, hr, hno⟩ := read_tm n _ _ hn
  have hF : Calls Try.prog 4 #[.agg cs] W (fun e w' => ∃ v G' outs, e = .returned v ∧ Res [] (GW W) W outs G' w' ∧ Imm (fun _ v => v = .bool true) G' v outs) := (exactAllPaths_fn t (GW W) _ hno hr).run W (own_GW W)
  refine hF.mono fun e W' h => ?_
  obtain ⟨v, G', outs, he, hres, ho, hv⟩ := h
  subst he hv
  have hb := Ext.below hres.ext
  refine ⟨_, rfl, post_below hW' hb rfl (fun _ _ _ => (trodAll_cons_mk (shut_bool Try.underlying4 _) trodAll_mk0)) (fun sp hsp => ?_) rfl (ok_one (by kernel_rfl) rfl (okWide_bool_mk Try.underlying4 _))⟩
  have hlt : ∀ x ∈ p0 ++ [] ++ [], x.block < W.heap.size := fun x hx => hW'.lt x hx
  have := WideElems.Trod_stays laid (by kernel_rfl) (of_decide_eq_true (by kernel_rfl)) (sp' := sp) h0k (fun x hx => hb.same (hlt x (by simpa using hx))) (fun x hx => hsp x (by simpa using hx))
  have h2 := trodAll_mk1 this
  simp only [List.append_nil]
  exact h2

theorem over : Rows.fnExactAllPathsRow.holds Try.pinned (OpenSpec.ofChange Rows.fnExactAllPathsSpec) :=
  OpenClaim.holds_of_wide 4 Try.f4 rfl rfl rfl rfl rfl rfl rfl ⟨rfl, rfl, rfl, rfl, rfl⟩ rfl rfl rfl rfl rfl (by kernel_rfl) Try.func4 (by kernel_rfl)
    (of_decide_eq_true (by kernel_rfl)) (by unfold Func.isWrapper; first | (rw [if_pos (by decide +kernel)]; kernel_rfl) | (rw [if_neg (by decide +kernel)]; exact ⟨rfl, rfl⟩))
    (fun os started H enc _ => lifted os started H enc)

theorem proved : Rows.FnExactAllPathsSaid := over
#print axioms proved
end Go.Proofs.Ytlefgfdhlblahaa.FnExactAllPaths
