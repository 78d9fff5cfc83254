/-
  Where ways meet again.
-/
import Derived.Test.YtlefgfdhlblahaaThaw
namespace Go.Proofs.Ytlefgfdhlblahaa
open Go Go.RowKit
namespace Gw
structure cutK {ι : Type} (S : ι → Sy) (φ : ι → Prop) (e : Exit) (σ : Sy) : Prop where
  run : match e with
    | .normal => ∃ i, φ i ∧ Sub σ (S i)
    | _ => False
section cut
variable {P : Program} {Γ : Ctx} {K : Po} {σ : Sy} {ι : Type}
/-- All that comes behind a piece of code is walked once. -/
theorem tri_cut {c y : Code} (S : ι → Sy) (φ : ι → Prop) (h : Tri P Γ c (cutK S φ) σ) (k : ∀ i, φ i → Tri P Γ y K (S i)) : Tri P Γ c (seqK P Γ y K) σ := by
  refine tri_post h ?_
  rintro e σ ⟨hk⟩
  cases e with
  | normal => obtain ⟨i, hi, hs⟩ := hk; exact ⟨tri_sub hs (k i hi)⟩
  | _ => exact hk.elim
where
  tri_post {c : Code} {K K' : Po} {σ : Sy} (h : Tri P Γ c K σ) (hk : ∀ e σ, K e σ → K' e σ) : Tri P Γ c K' σ := tri_mono h hk
theorem nrm_cut {S : ι → Sy} {φ : ι → Prop} {σ : Sy} (i : ι) (hs : Sub σ (S i)) (h : φ i) : cutK S φ .normal σ := ⟨⟨i, h, hs⟩⟩
theorem np_cut {S : ι → Sy} {φ : ι → Prop} : noPanic (cutK S φ) := fun _ _ h => h.run
end cut
end Gw
end Go.Proofs.Ytlefgfdhlblahaa
