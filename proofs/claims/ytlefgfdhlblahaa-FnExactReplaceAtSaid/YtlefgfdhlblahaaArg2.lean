/-
  Slices of numbers read as arguments.
-/
import Derived.Test.YtlefgfdhlblahaaArg
import Derived.Test.YtlefgfdhlblahaaEq
namespace Go.Proofs.Ytlefgfdhlblahaa
open Go Go.RowKit Go.ChangeShapes Go.WideShapes Go.ChangeAt
namespace Gw
theorem build_int {q : Nat → Value → Prop} : ∀ {n : Nat}, (∀ i, i < n → ∃ k : Int, q i (.int .i64 k)) → ∃ l : List Int, l.length = n ∧ ∀ i v, (ints l)[i]? = some v → q i v
  | 0, _ => ⟨[], rfl, by simp [ints]⟩
  | n + 1, h => by
    obtain ⟨l, h1, h2⟩ := build_int (n := n) fun i hi => h i (by omega)
    obtain ⟨k, hk⟩ := h n (by omega)
    refine ⟨l ++ [k], by simp [h1], fun i v hv => ?_⟩
    rw [ints_snoc, List.getElem?_append] at hv
    split at hv
    · exact h2 i v hv
    · rename_i hi
      rw [ints_len] at hi hv
      have : i - l.length = 0 := by
        have := (List.getElem?_eq_some_iff.1 hv).1; simp at this; omega
      rw [this] at hv; simp at hv; subst hv
      rw [show i = n by omega]; exact hk
section read2
variable {H : Type} {enc : TypeId × Value → H} {w : World} {sp : Nat → Bool} {held : Bool}
set_option maxRecDepth 100000 in
theorem read_ints (n : Nat) (cs : List Value) (x : DataW H × List MemPlace) (h : DataW.trod enc Try.prog w 0 sp held n 50 cs = some x) : ∃ (l : List Int) (p : Option Addr) (c : Nat), cs = [.slice p l.length c] ∧ Sl (GW w) p l.length c 1 (ints l) := by
  rcases DataW.trod_slice Try.underlying50 h with ⟨rfl, _⟩ | ⟨ad, len, cap, elems, rest, n', rfl, rfl, _, _, hlc, hcm, hel, hele, _, _⟩
  · exact ⟨[], none, 0, rfl, Sl.nil _ _⟩
  · rw [cellsI] at hele
    obtain ⟨l, h1, h2⟩ := build_int (q := fun i v => w.cells? 0 (ad.add (i * 1)) 1 = some [v]) (n := len) fun i hi => by
      have := hele i hi
      rw [List.getElem?_eq_getElem (by omega)] at this
      obtain ⟨cs', c1, c2⟩ := Option.bind_eq_some_iff.1 this
      obtain ⟨k, rfl, _⟩ := DataW.trod_int Try.underlying3 c2
      exact ⟨k, c1⟩
    subst h1
    refine ⟨l, some ad, cap, rfl, ?_⟩
    have := sl_read (w := w) (a := ad) (n := l.length) (c := cap) (sz := 1) (es := (ints l).map fun v => [v]) (by simp [ints_len]) (by omega) hlc hcm fun i e he => by
      rw [List.getElem?_map] at he
      cases hv : (ints l)[i]? with
      | none => rw [hv] at he; simp at he
      | some v => rw [hv] at he; simp at he; subst he; exact h2 i v hv
    have hf : ((ints l).map fun v => [v]).flatten = ints l := by
      generalize ints l = L
      induction L with
      | nil => rfl
      | cons a L ih => simp [ih]
    rwa [hf] at this
end read2
end Gw
end Go.Proofs.Ytlefgfdhlblahaa
