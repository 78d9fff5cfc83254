/-
  For every term and label, of whatever size and in whatever memory, the program's CastPath gives what the reference model's gives, leaves its argument as it was, and shares no memory: FnExactCastPath answers true, and the arguments read behind the call as they read before. No condition.
-/
import Derived.Test.YtlefgfdhlblahaaRows
import Derived.Test.YtlefgfdhlblahaaLaw2
import Derived.Test.YtlefgfdhlblahaaArg
namespace Go.Proofs.Ytlefgfdhlblahaa.FnExactCastPath
open Go Go.RowKit Go.ChangeShapes Go.WideShapes Go.ChangeAt Go.Proofs.Ytlefgfdhlblahaa.Gw

theorem own : ownKnob Try.prog.godebug = none := by kernel_rfl
theorem laid : laidOutB Try.prog = true := by kernel_rfl
set_option maxRecDepth 100000 in
theorem lifted (os : Os) (started : os.Started) (H : Type) (enc : TypeId × Value → H) :
    ReturnsInHanded {} Try.checked os 5 .any (Rows.fnExactCastPathSpec.pre6 enc Try.prog Try.f5 Rows.fnExactCastPathRow.domain false) (Rows.fnExactCastPathSpec.post enc Try.prog Try.f5 false true false false) := by
  refine returnsInHanded_of_change (C := Try.checked) own started (by kernel_rfl) Try.func5
    (ChangeSpec.witness6 (enc := enc) (C := Try.checked) false ⟨#[], #[.agg #[.int .i64 0, .string ⟨#[]⟩, .int .i64 0, .int .i64 0, .slice none 0 0, .int .i64 0, .slice none 0 0, .int .i64 0, .slice none 0 0], .int .i64 0], []⟩ 8 (by kernel_rfl) (by kernel_rfl) (by kernel_rfl) (by kernel_rfl)) ?_
  intro W base args ds gs before hval0 hW hcnd _
  have hval : ∀ (j : Nat) t v, Try.f5.params[j]? = some t → args[j]? = some v → Value.okWide Try.prog W .any base t v := hval0
  have hW' := hW
  obtain ⟨p, q, hA0, hV, rfl, hfz, hnd⟩ := hW
  have hA : DataW.TrodAll enc Try.prog W 0 (fun _ => true) true Try.f5.params.toList args.toList ds p := hA0
  rw [Try.params5] at hA hval
  obtain ⟨v0, vs0, d0, ds0, p0, q0, hargs, rfl, rfl, h0, r0⟩ := trodAll_cons hA
  obtain ⟨v1, vs1, d1, ds1, p1, q1, rfl, rfl, rfl, h1, r1⟩ := trodAll_cons r0
  obtain ⟨rfl, rfl, rfl⟩ := trodAll_nil r1
  obtain rfl : args = #[v0, v1] := by cases args; simp_all
  obtain ⟨rfl, rfl⟩ := trodVars_none hV
  obtain ⟨cs, rfl, hcs⟩ := okWide_struct Try.underlying43 (hval 0 43 v0 rfl rfl)
  obtain ⟨a1, rfl, rfl, rfl, w1⟩ := open_int Try.underlying3 (hval 1 3 v1 rfl rfl) h1
  have h0k := h0
  obtain ⟨n, hn⟩ := h0
  obtain ⟨t, hr, hno⟩ := read_tm n _ _ hn
  have hF : Calls Try.prog 5 #[.agg cs, .int .i64 a1] W (fun e w' => ∃ v G' outs, e = .returned v ∧ Res [] (GW W) W outs G' w' ∧ Imm (fun _ v => v = .bool true) G' v outs) := (exactCastPath_fn t a1 (GW W) _ hno hr).run W (own_GW W)
  refine hF.mono fun e W' h => ?_
  obtain ⟨v, G', outs, he, hres, ho, hv⟩ := h
  subst he hv
  have hb := Ext.below hres.ext
  refine ⟨_, rfl, post_below hW' hb rfl (fun _ _ _ => (trodAll_cons_mk (shut_bool Try.underlying4 _) trodAll_mk0)) (fun sp hsp => ?_) rfl (ok_one (by kernel_rfl) rfl (okWide_bool_mk Try.underlying4 _))⟩
  simp only [List.append_nil] at hsp ⊢
  have hlt : ∀ x ∈ p0, x.block < W.heap.size := fun x hx => hW'.lt x (by simpa using hx)
  have := WideElems.Trod_stays laid (by kernel_rfl) (of_decide_eq_true (by kernel_rfl)) (sp' := sp) h0k (fun x hx => hb.same (hlt x hx)) (fun x hx => hsp x hx)
  have h2 := trodAll_mk2 this (shut_int (enc := enc) (w := W') (base := 0) (spare := sp) (held := true) Try.underlying3 w1)
  simp only [List.append_nil] at h2
  exact h2

theorem over : Rows.fnExactCastPathRow.holds Try.pinned (OpenSpec.ofChange Rows.fnExactCastPathSpec) :=
  OpenClaim.holds_of_wide 5 Try.f5 rfl rfl rfl rfl rfl rfl rfl ⟨rfl, rfl, rfl, rfl, rfl⟩ rfl rfl rfl rfl rfl (by kernel_rfl) Try.func5 (by kernel_rfl)
    (of_decide_eq_true (by kernel_rfl)) (by unfold Func.isWrapper; first | (rw [if_pos (by decide +kernel)]; kernel_rfl) | (rw [if_neg (by decide +kernel)]; exact ⟨rfl, rfl⟩))
    (fun os started H enc _ => lifted os started H enc)

theorem proved : Rows.FnExactCastPathSaid := over
#print axioms proved
end Go.Proofs.Ytlefgfdhlblahaa.FnExactCastPath
