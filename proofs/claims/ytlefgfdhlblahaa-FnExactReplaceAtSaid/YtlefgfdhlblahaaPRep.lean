/-
  Lists of paths: what they are in plain words, and how fresh ones lie in memory.
-/
import Derived.Test.YtlefgfdhlblahaaModel
namespace Go.Proofs.Ytlefgfdhlblahaa
open Go Go.RowKit
namespace Gw
def ints (l : List Int) : List Value := l.map (Value.int .i64 ·)
theorem ints_len (l : List Int) : (ints l).length = l.length := by simp [ints]
theorem ints_snoc (l : List Int) (i : Int) : ints (l ++ [i]) = ints l ++ [.int .i64 i] := by simp [ints]
theorem ints_one (l : List Int) : ∀ u ∈ ints l, u.oneCell' = true := by
  intro u hu
  obtain ⟨x, _, rfl⟩ := List.mem_map.1 hu
  rfl
mutual
def tmCount : Tm → Nat
  | .mk _ _ _ _ _ _ ks => tmCountL ks + 1
def tmCountL : List Tm → Nat
  | [] => 0
  | t :: ts => tmCount t + tmCountL ts
end
mutual
/-- The paths of all nodes, from a node's own path on. -/
def mPaths : Tm → List Int → List (List Int)
  | .mk _ _ _ _ _ _ ks, path => path :: mPathsL ks 0 path
def mPathsL : List Tm → Nat → List Int → List (List Int)
  | [], _, _ => []
  | t :: ts, i, path => mPaths t (path ++ [(i : Int)]) ++ mPathsL ts (i + 1) path
end
mutual
theorem mPaths_len : ∀ (t : Tm) (path : List Int), (mPaths t path).length = tmCount t
  | .mk _ _ _ _ _ _ ks, path => by rw [mPaths, tmCount, List.length_cons, mPathsL_len ks 0 path]
theorem mPathsL_len : ∀ (ts : List Tm) (i : Nat) (path : List Int), (mPathsL ts i path).length = tmCountL ts
  | [], i, path => by rw [mPathsL, tmCountL]; rfl
  | t :: ts, i, path => by rw [mPathsL, tmCountL, List.length_append, mPaths_len t, mPathsL_len ts]
end
theorem mPathsL_snoc : ∀ (ts : List Tm) (t : Tm) (i : Nat) (path : List Int), mPathsL (ts ++ [t]) i path = mPathsL ts i path ++ mPaths t (path ++ [((i + ts.length : Nat) : Int)])
  | [], t, i, path => by simp [mPathsL]
  | t' :: ts, t, i, path => by
    rw [List.cons_append, mPathsL, mPathsL, mPathsL_snoc ts t (i + 1) path, List.append_assoc, List.length_cons, Nat.add_right_comm i 1, Nat.add_assoc i]
theorem mPathsL_take {ks : List Tm} {i : Nat} (hi : i < ks.length) (path : List Int) : mPathsL (ks.take (i + 1)) 0 path = mPathsL (ks.take i) 0 path ++ mPaths ks[i] (path ++ [(i : Int)]) := by
  rw [List.take_succ_eq_append_getElem hi, mPathsL_snoc, List.length_take, Nat.zero_add, Nat.min_eq_left (by omega)]
theorem tmCount_mem : ∀ {ks : List Tm} {t : Tm}, t ∈ ks → tmCount t ≤ tmCountL ks
  | [], t, h => by simp at h
  | t' :: ts, t, h => by
    rw [tmCountL]
    rcases List.mem_cons.1 h with rfl | h
    · omega
    · have := tmCount_mem h; omega
theorem tmCountL_append : ∀ (a b : List Tm), tmCountL (a ++ b) = tmCountL a + tmCountL b
  | [], b => by simp [tmCountL]
  | t :: a, b => by rw [List.cons_append, tmCountL, tmCountL, tmCountL_append a b]; omega
theorem tmCountL_take {ks : List Tm} {i : Nat} (hi : i < ks.length) : tmCountL (ks.take i) + tmCount ks[i] ≤ tmCountL ks := by
  have h := tmCountL_append (ks.take (i + 1)) (ks.drop (i + 1))
  rw [List.take_append_drop, List.take_succ_eq_append_getElem hi, tmCountL_append] at h
  simp only [tmCountL] at h
  omega
theorem tmCountL_succ {ks : List Tm} {i : Nat} (hi : i < ks.length) : tmCountL (ks.take (i + 1)) = tmCountL (ks.take i) + tmCount ks[i] := by
  rw [List.take_succ_eq_append_getElem hi, tmCountL_append]
  simp only [tmCountL]; omega
theorem tmCount_pos (t : Tm) : 0 < tmCount t := by cases t; rw [tmCount]; omega
theorem len_le_count : ∀ (ks : List Tm), ks.length ≤ tmCountL ks
  | [] => by simp
  | .mk _ _ _ _ _ _ _ :: ts => by have := len_le_count ts; simp only [List.length_cons, tmCountL, tmCount]; omega

theorem Sl.nn {G : IM} {p : Option Addr} {n c sz : Nat} {cs : List Value} (h : Sl G p n c sz cs) : p = none → n = 0 := by
  rintro rfl
  rcases h.2.2.2 with h | ⟨b, o, full, h, _⟩
  · exact h
  · cases h
/-- Fresh paths: each in memory of its own. -/
def SPs (G : IM) : List (List Int) → List Value → List Nat → Prop
  | [], es, F => es = [] ∧ F = []
  | l :: ls, es, F => ∃ p c r Fr, es = .slice p l.length c :: r ∧ F = vfp p ++ Fr ∧ Sl G p l.length c 1 (ints l) ∧ (∀ b ∈ vfp p, G b ≠ none) ∧ (p = none → l.length = 0) ∧ SPs G ls r Fr
theorem SPs.mono {G G' : IM} (hg : IMle G G') : ∀ {ls : List (List Int)} {es : List Value} {F : List Nat}, SPs G ls es F → SPs G' ls es F
  | [], es, F, h => h
  | l :: ls, es, F, ⟨p, c, r, Fr, h1, h2, h3, h4, h5, h6⟩ => ⟨p, c, r, Fr, h1, h2, h3.mono hg, fun b hb => by
      cases hx : G b with
      | none => exact absurd hx (h4 b hb)
      | some l => rw [hg b l hx]; simp, h5, h6.mono hg⟩
theorem SPs.inG {G : IM} : ∀ {ls : List (List Int)} {es : List Value} {F : List Nat}, SPs G ls es F → ∀ b ∈ F, G b ≠ none
  | [], es, F, ⟨_, h⟩, b, hb => by rw [h] at hb; cases hb
  | l :: ls, es, F, ⟨p, c, r, Fr, h1, h2, h3, h4, h5, h6⟩, b, hb => by
    rw [h2] at hb
    rcases List.mem_append.1 hb with hb | hb
    · exact h4 b hb
    · exact h6.inG b hb
theorem SPs.len {G : IM} : ∀ {ls : List (List Int)} {es : List Value} {F : List Nat}, SPs G ls es F → es.length = ls.length
  | [], es, F, ⟨h, _⟩ => by rw [h]; rfl
  | l :: ls, es, F, ⟨p, c, r, Fr, h1, h2, h3, h4, h5, h6⟩ => by rw [h1, List.length_cons, h6.len, List.length_cons]
theorem SPs.one {G : IM} : ∀ {ls : List (List Int)} {es : List Value} {F : List Nat}, SPs G ls es F → ∀ u ∈ es, u.oneCell' = true
  | [], es, F, ⟨h, _⟩, u, hu => by rw [h] at hu; cases hu
  | l :: ls, es, F, ⟨p, c, r, Fr, h1, h2, h3, h4, h5, h6⟩, u, hu => by
    rw [h1] at hu
    rcases List.mem_cons.1 hu with rfl | hu
    · rfl
    · exact h6.one u hu
theorem SPs.append {G : IM} : ∀ {ls ls' : List (List Int)} {es es' : List Value} {F F' : List Nat}, SPs G ls es F → SPs G ls' es' F' → SPs G (ls ++ ls') (es ++ es') (F ++ F')
  | [], ls', es, es', F, F', ⟨h, h2⟩, h' => by rw [h, h2]; exact h'
  | l :: ls, ls', es, es', F, F', ⟨p, c, r, Fr, h1, h2, h3, h4, h5, h6⟩, h' => ⟨p, c, r ++ es', Fr ++ F', by rw [h1]; rfl, by rw [h2, List.append_assoc], h3, h4, h5, h6.append h'⟩
theorem dif_disj {G Gi G1 : IM} {F F' : List Nat} (h : ∀ b ∈ F, Dif Gi G b ≠ none) (h' : ∀ b ∈ F', Dif G1 Gi b ≠ none) (hn : F.Nodup) (hn' : F'.Nodup) : (F ++ F').Nodup := by
  rw [List.nodup_append]
  refine ⟨hn, hn', ?_⟩
  rintro x hx y hy rfl
  have h1 := h x hx
  have h2 := Dif.out (h' x hy)
  apply h1
  cases hd : Dif Gi G x with
  | none => rfl
  | some l => rw [Dif.le _ _ x l hd] at h2; cases h2
theorem dif_in {G Gi G2 : IM} {b : Nat} (hle : IMle G Gi) (h : Gi b = none ∧ G2 b ≠ none) : Dif G2 G b ≠ none := by
  cases hg : G b with
  | none => simpa [Dif, hg] using h.2
  | some l => rw [hle b l hg] at h; exact absurd h.1 (by simp)
/-- A call's paths come to the ones so far. -/
theorem SPs.step {G Gi Gf G1 : IM} {ls ls' : List (List Int)} {es es' : List Value} {F F' : List Nat} (h : SPs (Dif Gi G) ls es F) (hn : F.Nodup) (hle : IMle G Gi) (hlef : IMle Gi Gf) (hle1 : IMle Gf G1)
    (h' : SPs (Dif G1 Gf) ls' es' F') (hn' : F'.Nodup) : SPs (Dif G1 G) (ls ++ ls') (es ++ es') (F ++ F') ∧ (F ++ F').Nodup :=
  ⟨(h.mono (Dif.mono (hlef.trans hle1))).append (h'.mono (Dif.anti (hle.trans hlef))), dif_disj h.inG (h'.mono (Dif.anti hlef)).inG hn hn'⟩
theorem SPs.first {G G2 : IM} {l : List Int} {p : Option Addr} {c : Nat} (hsl : Sl G2 p l.length c 1 (ints l)) (hno : ∀ b ∈ vfp p, G b = none ∧ G2 b ≠ none) (hp : p = none → l.length = 0) (hle : IMle G G2) :
    SPs (Dif G2 G) [l] [.slice p l.length c] (vfp p) ∧ (vfp p).Nodup := by
  refine ⟨⟨p, c, [], [], rfl, by simp, hsl.dif (fun b hb => (hno b hb).1) (IMle.refl _), fun b hb => dif_in (IMle.refl _) (hno b hb), hp, rfl, rfl⟩, by cases p <;> simp [vfp]⟩
/-- What AllPaths hands back: the outer list and each path in memory of its own. -/
def RPs (G : IM) (ls : List (List Int)) (p : Option Addr) (c : Nat) : Prop := ∃ es F, Sl G p ls.length c 1 es ∧ (∀ b ∈ vfp p, G b ≠ none) ∧ SPs G ls es F ∧ (vfp p ++ F).Nodup
theorem RPs.fin {G Gi G2 : IM} {ls : List (List Int)} {es : List Value} {F : List Nat} {p : Option Addr} {c m : Nat} (h : SPs (Dif Gi G) ls es F) (hn : F.Nodup) (hle : IMle G Gi) (hle2 : IMle Gi G2)
    (hsl : Sl G2 p m c 1 es) (hm : m = ls.length) (hno : ∀ b ∈ vfp p, Gi b = none ∧ G2 b ≠ none) : RPs (Dif G2 G) ls p c := by
  subst hm
  refine ⟨es, F, hsl.dif (fun b hb => (hno b hb).1) hle, fun b hb => dif_in hle (hno b hb), h.mono (Dif.mono hle2), ?_⟩
  rw [List.nodup_append]
  refine ⟨by cases p <;> simp [vfp], hn, ?_⟩
  rintro x hx y hy rfl
  have h1 := h.inG x hy
  have h2 := (hno x hx).1
  apply h1
  cases hd : Dif Gi G x with
  | none => rfl
  | some l => rw [Dif.le _ _ x l hd] at h2; cases h2
mutual
theorem mScan_count (M D N : Int) : ∀ (t : Tm) (deep c : Int), (mScan M D N t deep c).1 = true → (mScan M D N t deep c).2 = c + tmCount t
  | .mk k nm num ty fr lb ks, deep, c, h => by
    rw [mScan] at h ⊢
    split at h
    · cases h
    · rename_i hc
      rw [if_neg hc, mScanL_count M D N ks (deep + 1) (c + 1) h, tmCount]
      omega
theorem mScanL_count (M D N : Int) : ∀ (ts : List Tm) (deep c : Int), (mScanL M D N ts deep c).1 = true → (mScanL M D N ts deep c).2 = c + tmCountL ts
  | [], deep, c, h => by rw [mScanL, tmCountL]; simp
  | t :: ts, deep, c, h => by
    rw [mScanL] at h ⊢
    split at h
    · rename_i h1
      rw [if_pos h1, mScanL_count M D N ts deep _ h, mScan_count M D N t deep c h1, tmCountL]
      omega
    · cases h
end
theorem castValid_count {t : Tm} (h : castValid t = true) : tmCount t ≤ 200 := by
  have h1 := mScan_count 200 40 13 t 1 0 h
  have h2 := (mScan_le 200 40 13 t 1 0 (by omega) (by omega)).2.2 h
  omega
/-- AllPaths in plain words. -/
def mAll (t : Tm) : List (List Int) := if castValid t = true then mPaths t [] else []
theorem RPs.nil (G : IM) : RPs G [] none 0 := ⟨[], [], Sl.nil G 1, by simp [vfp], ⟨rfl, rfl⟩, by simp [vfp]⟩
end Gw
end Go.Proofs.Ytlefgfdhlblahaa
