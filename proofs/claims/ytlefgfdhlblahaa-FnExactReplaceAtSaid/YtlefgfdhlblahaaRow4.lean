/-
  For every two terms and path, of whatever size and in whatever memory, the program's ReplaceAt gives what the reference model's gives, leaves its arguments as they were, and shares no memory: FnExactReplaceAt answers true, and the arguments read behind the call as they read before. No condition.
-/
import Derived.Test.YtlefgfdhlblahaaRows
import Derived.Test.YtlefgfdhlblahaaLaw4
import Derived.Test.YtlefgfdhlblahaaArg2
namespace Go.Proofs.Ytlefgfdhlblahaa.FnExactReplaceAt
open Go Go.RowKit Go.ChangeShapes Go.WideShapes Go.ChangeAt Go.Proofs.Ytlefgfdhlblahaa.Gw

theorem own : ownKnob Try.prog.godebug = none := by kernel_rfl
theorem laid : laidOutB Try.prog = true := by kernel_rfl
set_option maxRecDepth 100000 in
theorem lifted (os : Os) (started : os.Started) (H : Type) (enc : TypeId × Value → H) :
    ReturnsInHanded {} Try.checked os 7 .any (Rows.fnExactReplaceAtSpec.pre6 enc Try.prog Try.f7 Rows.fnExactReplaceAtRow.domain false) (Rows.fnExactReplaceAtSpec.post enc Try.prog Try.f7 false true false false) := by
  refine returnsInHanded_of_change (C := Try.checked) own started (by kernel_rfl) Try.func7
    (ChangeSpec.witness6 (enc := enc) (C := Try.checked) false ⟨#[], #[.agg #[.int .i64 0, .string ⟨#[]⟩, .int .i64 0, .int .i64 0, .slice none 0 0, .int .i64 0, .slice none 0 0, .int .i64 0, .slice none 0 0], .slice none 0 0, .agg #[.int .i64 0, .string ⟨#[]⟩, .int .i64 0, .int .i64 0, .slice none 0 0, .int .i64 0, .slice none 0 0, .int .i64 0, .slice none 0 0]], []⟩ 8 (by kernel_rfl) (by kernel_rfl) (by kernel_rfl) (by kernel_rfl)) ?_
  intro W base args ds gs before hval0 hW hcnd _
  have hval : ∀ (j : Nat) t v, Try.f7.params[j]? = some t → args[j]? = some v → Value.okWide Try.prog W .any base t v := hval0
  have hW' := hW
  obtain ⟨p, q, hA0, hV, rfl, hfz, hnd⟩ := hW
  have hA : DataW.TrodAll enc Try.prog W 0 (fun _ => true) true Try.f7.params.toList args.toList ds p := hA0
  rw [Try.params7] at hA hval
  obtain ⟨v0, vs0, d0, ds0, p0, q0, hargs, rfl, rfl, h0, r0⟩ := trodAll_cons hA
  obtain ⟨v1, vs1, d1, ds1, p1, q1, rfl, rfl, rfl, h1, r1⟩ := trodAll_cons r0
  obtain ⟨v2, vs2, d2, ds2, p2, q2, rfl, rfl, rfl, h2, r2⟩ := trodAll_cons r1
  obtain ⟨rfl, rfl, rfl⟩ := trodAll_nil r2
  obtain rfl : args = #[v0, v1, v2] := by cases args; simp_all
  obtain ⟨rfl, rfl⟩ := trodVars_none hV
  obtain ⟨cs0, rfl, hcs0⟩ := okWide_struct Try.underlying43 (hval 0 43 v0 rfl rfl)
  have h0k := h0
  obtain ⟨n0, hn0⟩ := h0
  obtain ⟨t0, hr0, hno0⟩ := read_tm n0 _ _ hn0
  obtain ⟨a1, len1, cap1, rfl⟩ := okWide_slice Try.underlying50 (hval 1 50 v1 rfl rfl)
  have h1k := h1
  obtain ⟨n1, hn1⟩ := h1
  obtain ⟨l1, pp1, pc1, he1, hs1⟩ := read_ints n1 _ _ hn1
  simp only [Value.cells, List.cons.injEq, Value.slice.injEq, and_true] at he1
  obtain ⟨rfl, rfl, rfl⟩ := he1
  obtain ⟨cs2, rfl, hcs2⟩ := okWide_struct Try.underlying43 (hval 2 43 v2 rfl rfl)
  have h2k := h2
  obtain ⟨n2, hn2⟩ := h2
  obtain ⟨t2, hr2, hno2⟩ := read_tm n2 _ _ hn2
  have hF : Calls Try.prog 7 #[.agg cs0, .slice a1 l1.length cap1, .agg cs2] W (fun e w' => ∃ v G' outs, e = .returned v ∧ Res [] (GW W) W outs G' w' ∧ Imm (fun _ v => v = .bool true) G' v outs) := (exactReplaceAt_fn t0 l1 t2 (GW W) _ _ _ _ hno0 hr0 hs1 hno2 hr2).run W (own_GW W)
  refine hF.mono fun e W' h => ?_
  obtain ⟨v, G', outs, he, hres, ho, hv⟩ := h
  subst he hv
  have hb := Ext.below hres.ext
  refine ⟨_, rfl, post_below hW' hb rfl (fun _ _ _ => (trodAll_cons_mk (shut_bool Try.underlying4 _) trodAll_mk0)) (fun sp hsp => ?_) rfl (ok_one (by kernel_rfl) rfl (okWide_bool_mk Try.underlying4 _))⟩
  simp only [List.append_nil] at hsp ⊢
  have g0 : ∀ x ∈ p0, x.block < W.heap.size := fun x hx => hW'.lt x (by simp [hx])
  have u0 := WideElems.Trod_stays laid (by kernel_rfl) (of_decide_eq_true (by kernel_rfl)) (sp' := sp) h0k (fun x hx => hb.same (g0 x hx)) (fun x hx => hsp x (by simp [hx]))
  have g1 : ∀ x ∈ p1, x.block < W.heap.size := fun x hx => hW'.lt x (by simp [hx])
  have u1 := WideElems.Trod_stays laid (by kernel_rfl) (of_decide_eq_true (by kernel_rfl)) (sp' := sp) h1k (fun x hx => hb.same (g1 x hx)) (fun x hx => hsp x (by simp [hx]))
  have g2 : ∀ x ∈ p2, x.block < W.heap.size := fun x hx => hW'.lt x (by simp [hx])
  have u2 := WideElems.Trod_stays laid (by kernel_rfl) (of_decide_eq_true (by kernel_rfl)) (sp' := sp) h2k (fun x hx => hb.same (g2 x hx)) (fun x hx => hsp x (by simp [hx]))
  have h2 := trodAll_mk3 u0 u1 u2
  exact h2

theorem over : Rows.fnExactReplaceAtRow.holds Try.pinned (OpenSpec.ofChange Rows.fnExactReplaceAtSpec) :=
  OpenClaim.holds_of_wide 7 Try.f7 rfl rfl rfl rfl rfl rfl rfl ⟨rfl, rfl, rfl, rfl, rfl⟩ rfl rfl rfl rfl rfl (by kernel_rfl) Try.func7 (by kernel_rfl)
    (of_decide_eq_true (by kernel_rfl)) (by unfold Func.isWrapper; first | (rw [if_pos (by decide +kernel)]; kernel_rfl) | (rw [if_neg (by decide +kernel)]; exact ⟨rfl, rfl⟩))
    (fun os started H enc _ => lifted os started H enc)

theorem proved : Rows.FnExactReplaceAtSaid := over
#print axioms proved
end Go.Proofs.Ytlefgfdhlblahaa.FnExactReplaceAt
