/-
  For every two slices of bytes, of whatever length and in whatever memory, the node at a drawn path is the node at the second part of the path of the node at its first part: FnTermAt answers true, and the arguments read behind the call as they read before. No condition.
-/
import Derived.Test.YtlefgfdhlblahaaRows
import Derived.Test.YtlefgfdhlblahaaKb8
namespace Go.Proofs.Ytlefgfdhlblahaa.FnTermAt
open Go Go.RowKit Go.ChangeShapes Go.WideShapes Go.ChangeAt Go.Proofs.Ytlefgfdhlblahaa.Gw

theorem own : ownKnob Try.prog.godebug = none := by kernel_rfl
theorem laid : laidOutB Try.prog = true := by kernel_rfl
set_option maxRecDepth 100000 in
theorem lifted (os : Os) (started : os.Started) (H : Type) (enc : TypeId × Value → H) :
    ReturnsInHanded {} Try.checked os 8 .any (Rows.fnTermAtSpec.pre6 enc Try.prog Try.f8 Rows.fnTermAtRow.domain false) (Rows.fnTermAtSpec.post enc Try.prog Try.f8 false true false false) := by
  refine returnsInHanded_of_change (C := Try.checked) own started (by kernel_rfl) Try.func8
    (ChangeSpec.witness6 (enc := enc) (C := Try.checked) false ⟨#[], #[.slice none 0 0, .slice none 0 0], []⟩ 8 (by kernel_rfl) (by kernel_rfl) (by kernel_rfl) (by kernel_rfl)) ?_
  intro W base args ds gs before hval0 hW hcnd _
  have hval : ∀ (j : Nat) t v, Try.f8.params[j]? = some t → args[j]? = some v → Value.okWide Try.prog W .any base t v := hval0
  have hW' := hW
  obtain ⟨p, q, hA0, hV, rfl, hfz, hnd⟩ := hW
  have hA : DataW.TrodAll enc Try.prog W 0 (fun _ => true) true Try.f8.params.toList args.toList ds p := hA0
  rw [Try.params8] at hA hval
  obtain ⟨v0, vs0, d0, ds0, p0, q0, hargs, rfl, rfl, h0, r0⟩ := trodAll_cons hA
  obtain ⟨v1, vs1, d1, ds1, p1, q1, rfl, rfl, rfl, h1, r1⟩ := trodAll_cons r0
  obtain ⟨rfl, rfl, rfl⟩ := trodAll_nil r1
  obtain rfl : args = #[v0, v1] := by cases args; simp_all
  obtain ⟨rfl, rfl⟩ := trodVars_none hV
  obtain ⟨a0, len0, cap0, rfl⟩ := okWide_slice Try.underlying22 (hval 0 22 v0 rfl rfl)
  have h0k := h0
  obtain ⟨n0, hn0⟩ := h0
  obtain ⟨l0, pp0, pc0, he0, hs0⟩ := read_bytes n0 _ _ hn0
  simp only [Value.cells, List.cons.injEq, Value.slice.injEq, and_true] at he0
  obtain ⟨rfl, rfl, rfl⟩ := he0
  obtain ⟨a1, len1, cap1, rfl⟩ := okWide_slice Try.underlying22 (hval 1 22 v1 rfl rfl)
  have h1k := h1
  obtain ⟨n1, hn1⟩ := h1
  obtain ⟨l1, pp1, pc1, he1, hs1⟩ := read_bytes n1 _ _ hn1
  simp only [Value.cells, List.cons.injEq, Value.slice.injEq, and_true] at he1
  obtain ⟨rfl, rfl, rfl⟩ := he1
  have hF : Calls Try.prog 8 #[.slice a0 l0.length cap0, .slice a1 l1.length cap1] W (fun e w' => ∃ v G' outs, e = .returned v ∧ Res [] (GW W) W outs G' w' ∧ Imm (fun _ v => v = .bool true) G' v outs) := (termAtLaw_fn l0 l1 (GW W) _ _ _ _ hs0 hs1).run W (own_GW W)
  refine hF.mono fun e W' h => ?_
  obtain ⟨v, G', outs, he, hres, ho, hv⟩ := h
  subst he hv
  have hb := Ext.below hres.ext
  refine ⟨_, rfl, post_below hW' hb rfl (fun _ _ _ => (trodAll_cons_mk (shut_bool Try.underlying4 _) trodAll_mk0)) (fun sp hsp => ?_) rfl (ok_one (by kernel_rfl) rfl (okWide_bool_mk Try.underlying4 _))⟩
  simp only [List.append_nil] at hsp ⊢
  have g0 : ∀ x ∈ p0, x.block < W.heap.size := fun x hx => hW'.lt x (by simp [hx])
  have u0 := WideElems.Trod_stays laid (by kernel_rfl) (of_decide_eq_true (by kernel_rfl)) (sp' := sp) h0k (fun x hx => hb.same (g0 x hx)) (fun x hx => hsp x (by simp [hx]))
  have g1 : ∀ x ∈ p1, x.block < W.heap.size := fun x hx => hW'.lt x (by simp [hx])
  have u1 := WideElems.Trod_stays laid (by kernel_rfl) (of_decide_eq_true (by kernel_rfl)) (sp' := sp) h1k (fun x hx => hb.same (g1 x hx)) (fun x hx => hsp x (by simp [hx]))
  have h2 := trodAll_mk2 u0 u1
  exact h2

theorem over : Rows.fnTermAtRow.holds Try.pinned (OpenSpec.ofChange Rows.fnTermAtSpec) :=
  OpenClaim.holds_of_wide 8 Try.f8 rfl rfl rfl rfl rfl rfl rfl ⟨rfl, rfl, rfl, rfl, rfl⟩ rfl rfl rfl rfl rfl (by kernel_rfl) Try.func8 (by kernel_rfl)
    (of_decide_eq_true (by kernel_rfl)) (by unfold Func.isWrapper; first | (rw [if_pos (by decide +kernel)]; kernel_rfl) | (rw [if_neg (by decide +kernel)]; exact ⟨rfl, rfl⟩))
    (fun os started H enc _ => lifted os started H enc)

theorem proved : Rows.FnTermAtSaid := over
#print axioms proved
end Go.Proofs.Ytlefgfdhlblahaa.FnTermAt
