/-
  FailingSlots on both sides. FailingSlots of the reference. The law FnExactFailingSlots: its walk.
-/
import Derived.Test.YtebfignffjhnhaaGreatDoorKi7
import Derived.Test.YtebfignffjhnhaaGreatDoorKi2
set_option linter.unusedVariables false
set_option linter.unusedSimpArgs false
set_option maxHeartbeats 0
set_option maxRecDepth 100000
set_option synthInstance.maxSize 4000
set_option synthInstance.maxHeartbeats 0
namespace Go.Proofs.YtebfignffjhnhaaGreatDoor
open Go Go.RowKit
namespace Gw
def V8 (l : List Int) (i : Nat) : List Int := ((List.range i).filter fun j => decide (l.getD (l.length - 1 - 2 ^ j) 0 = 2 ∧ l.getD (l.length - 1) 0 ≠ 2)).map fun (j : Nat) => (j : Int)
def X6 (e : Tm) (fuel : Int) : Option (List Int) := (R8 e fuel).map fun l => V8 l (I5 e).length
theorem B0Y {l : List Int} {i : Nat} (h : l.getD (l.length - 1 - 2 ^ i) 0 = 2) (h2 : l.getD (l.length - 1) 0 ≠ 2) : V8 l (i + 1) = V8 l i ++ [(i : Int)] := by
 unfold V8
 rw [List.range_succ, List.filter_append, List.map_append, List.filter_cons, if_pos (decide_eq_true ⟨h, h2⟩), List.filter_nil]
 rfl
theorem A4Z {l : List Int} {i : Nat} (h : ¬(l.getD (l.length - 1 - 2 ^ i) 0 = 2 ∧ l.getD (l.length - 1) 0 ≠ 2)) : V8 l (i + 1) = V8 l i := by
 unfold V8
 rw [List.range_succ, List.filter_append, List.map_append, List.filter_cons, if_neg (by rw [decide_eq_false h]; decide), List.filter_nil, List.map_nil, List.append_nil]
theorem B0Z {l : List Int} (h : l.getD (l.length - 1) 0 = 2) : ∀ i, V8 l i = []
 | 0 => rfl
 | i + 1 => by rw [A4Z (fun hc => hc.2 h), B0Z h i]
theorem A6Q (l : List Int) : ∀ i, (V8 l i).length ≤ i := by
 intro i
 unfold V8
 rw [List.length_map]
 have := List.length_filter_le (fun j => decide (l.getD (l.length - 1 - 2 ^ j) 0 = 2 ∧ l.getD (l.length - 1) 0 ≠ 2)) (List.range i)
 rw [List.length_range] at this
 exact this
theorem B00 (e : Tm) : U4 e = none ∨ ((P8 e).isSome = true ∧ (I5 e).length ≤ 6 ∧ U4 e = some (Y9 e)) := by
 unfold U4
 split
 ·rename_i h; exact .inr ⟨h.1, h.2, rfl⟩
 ·exact .inl rfl
theorem B6j : ∀ n, n < 7 → ∀ i, i < n → (BitVec.ofInt 64 ((2 ^ n - 1 : Nat) : Int) &&& ~~~(BitVec.ofInt 64 ((2 ^ i : Nat) : Int))).toNat = 2 ^ n - 1 - 2 ^ i := by decide +kernel
section
variable {P : Program} {Γ : K8} {env : L6} {hp : List A5} {G : IM} {ty : TypeId}
theorem A40 {x y : Operand} {t t' : TypeId} {m n : Nat} (hx : evo env x = some (.int .i64 (m : Int))) (hy : evo env y = some (.int .i64 (n : Int))) (h : n ≤ m) (hm : m ≤ 4294967296) :
  J2 P Γ ⟨env, hp, G⟩ (.binOp .sub t x y t') ty (.int .i64 ((m - n : Nat) : Int)) := by
 have := V9 (P := P) (Γ := Γ) (hp := hp) (G := G) (t := t) (t' := t') (ty := ty) hx hy (by omega) (by omega)
 rwa [show (m : Int) - (n : Int) = ((m - n : Nat) : Int) by omega] at this
theorem B6k {x y : Operand} {t t' : TypeId} {n i : Nat} (hx : evo env x = some (.int .i64 ((2 ^ n - 1 : Nat) : Int))) (hy : evo env y = some (.int .i64 ((2 ^ i : Nat) : Int))) (hn : n < 7) (hi : i < n) :
  J2 P Γ ⟨env, hp, G⟩ (.binOp .andNot t x y t') ty (.int .i64 ((2 ^ n - 1 - 2 ^ i : Nat) : Int)) := by
 refine ⟨fun a _ hs _ _ _ _ w => ?_⟩
 have h1 := B6j n hn i hi
 have hb : IntKind.bits .i64 = 64 := rfl
 have hle : 2 ^ n - 1 - 2 ^ i ≤ 2 ^ 6 := Nat.le_trans (Nat.sub_le _ _) (Nat.le_trans (Nat.sub_le _ _) (Nat.pow_le_pow_right (by decide) (by omega)))
 have h2 : IntKind.wrap .i64 ((2 ^ n - 1 - 2 ^ i : Nat) : Int) = ((2 ^ n - 1 - 2 ^ i : Nat) : Int) := A1y _ rfl (by omega) (by omega)
 simp only [execOp, eqGuard, binOp, Op.intBits, (hs.evo hx : a.eval x = _), (hs.evo hy : a.eval y = _), ne_eq, not_true_eq_false, if_false]
 have h3 : (BitVec.ofInt (IntKind.bits .i64) ((2 ^ n - 1 : Nat) : Int) &&& ~~~BitVec.ofInt (IntKind.bits .i64) ((2 ^ i : Nat) : Int)).toNat = 2 ^ n - 1 - 2 ^ i := h1
 rw [h3, h2]
 rfl
end
theorem B6l {e : Tm} {fuel : Int} {l : List Int} (hl : l = (Y9 e).map fun x => (S3 x fuel).2.1) {j : Nat} (hj : j < 2 ^ (I5 e).length) : l.getD j 0 = (S3 (V1 e j) fuel).2.1 := by
 subst hl
 unfold Y9
 rw [List.getD_eq_getElem?_getD, List.getElem?_map, List.getElem?_map, List.getElem?_range hj]
 rfl
theorem B01 (e : Tm) (fuel : Int) (G : IM) (cells : List Value) (hts : e.small) (hcnt : D6 e ≤ 4000000) (hT : Z5 G) (hr : B3 G e cells) :
  Fn Tryz.prog 32 [.agg ⟨cells⟩, .int .i64 fuel] [] G (IsP ((X6 e fuel).getD []) (X6 e fuel).isSome G) := by
 have hl := hr.len
 have hone := hr.one
 have hC := B0a e G cells hts hcnt hr
 have hTy := fun G hr => A5X e G cells hts hcnt hr
 obtain ⟨n, hn⟩ : ∃ n, (I5 e).length = n := ⟨_, rfl⟩
 have hno : U4 e = none ∨ O2 fuel 0 300 = false → X6 e fuel = none := fun h => by
  unfold X6 R8
  rcases h with h | h
  ·rw [h]; split <;> rfl
  ·rw [if_neg (by rw [h]; decide)]; rfl
 obtain ⟨l, hl0⟩ : ∃ l, l = (Y9 e).map fun x => (S3 x fuel).2.1 := ⟨_, rfl⟩
 have hll : l.length = 2 ^ n := by rw [hl0, ← hn]; simp [Y9]
 have hyes : U4 e = some (Y9 e) → O2 fuel 0 300 = true → X6 e fuel = some (V8 l n) := fun h h2 => by
  unfold X6 R8
  rw [if_pos h2, h, ← hn, hl0]; rfl
 have hget : ∀ j, j < 2 ^ n → l.getD j 0 = (S3 (V1 e j) fuel).2.1 := fun j hj => B6l hl0 (by rw [hn]; exact hj)
 have hcl : (Y9 e).length = 2 ^ n := by rw [← hn]; simp [Y9]
 have hcg : ∀ j (h : j < (Y9 e).length), (Y9 e)[j] = V1 e j := fun j h => by simp [Y9]
 have hcs := B00 e
 have hfl := A6Q l
 clear hl0
 generalize X6 e fuel = R at *
 refine B8 Tryz.func32 rfl Tryz.ntmps32 Tryz.results32 rfl ?_
 intro w0
 refine A2 ?_
 refine sE (C6 rfl rfl) rfl (fun b3 => ?_)
 refine A7 ?_
 refine sL (A0 rfl rfl (B1 (by repeat first | exact mH | apply mT)) hl) rfl rfl ?_
 focus (refine W1 rfl hC rfl rfl (fun v1 G1 outs hle1 hh => ?_); obtain ⟨rfl, p1, c1, e1, rfl, hs1, hr1⟩ := hh; replace hr := hr.mono hle1; replace hT := hT.mono hle1; rcases hcs with hcn | ⟨hty, hn6, hcs⟩; (rw [hcn] at hs1 hr1 ⊢; rotate_left); (rw [hcs] at hs1 hr1 ⊢; simp only [Option.getD_some] at hs1 hr1 ⊢; rw [hcl] at hs1 ⊢; rw [hn] at hn6; obtain ⟨M, hM⟩ : ∃ M, 2 ^ n = M := ⟨_, rfl⟩; have hM1 : 1 ≤ M := (by rw [← hM]; exact Nat.one_le_two_pow); have hM2 : M ≤ 64 := (by rw [← hM]; exact Nat.pow_le_pow_right (by decide) hn6)); rotate_left)
 refine A5j ?_
 refine E9 (rT rfl) (rT rfl) ?_
 (exact IsP.mk (by rw [hno (.inl hcn)]; rfl) (by rw [hno (.inl hcn)]; rfl) rfl (SP1.nil _))
 refine J7 ?_
 refine E8 rfl (A6n fuel _) rfl rfl (fun h56 => ?_) (fun h56 => ?_)
 refine H0 ?_
 refine sP (A40 (m := 2 ^ n) (n := 1) rfl rfl (by omega) (by omega)) rfl rfl ?_
 refine D0 ?_
 (obtain ⟨b, o, ec, rfl, hel, hat, hre, hgb⟩ := hs1.kidTm hr1 (i := 2 ^ n - 1) (by omega) (by omega); rw [hcg] at hre; have heo := hre.one; have hy2 := hyes hcs (by assumption); refine sP (B2 (j := 2 ^ n - 1) rfl rfl rfl (by omega)) rfl rfl ?_)
 refine sL (A0 rfl rfl (hat _) hel) rfl rfl ?_
 refine E0 ?_
 (refine D4 rfl (A6z _ fuel _ _ hT hre) rfl rfl (fun v2 G2 hle2 hh => ?_); subst hh; have hg1 := hget (2 ^ n - 1) (by omega); rw [← hg1]; have hlast : l.length - 1 = 2 ^ n - 1 := (by rw [hll]); replace hr := hr.mono hle2; replace hT := hT.mono hle2)
 refine sB (qE rfl rfl) rfl rfl (fun h81 => ?_) (fun h81 => ?_)
 refine H0 ?_
 refine E9 (rT rfl) (rT rfl) ?_
 (exact IsP.mk (l := []) (by rw [hy2, B0Z (by rw [hlast]; assumption)]; rfl) (by rw [hy2]; rfl) rfl (SP1.nil _))
 refine J6 ?_
 refine sL (A0 rfl rfl (B1 (by repeat first | exact mH | apply mT)) hl) rfl rfl ?_
 (refine W1 rfl (hTy _ hr) rfl rfl (fun v3 G3 outs hle3 hh => ?_); obtain ⟨p3, c3, es3, rfl, rfl, hr3⟩ := hh; rw [hn]; replace hT := hT.mono hle3)
 refine B6 ?_
 refine B7 ?_
 (refine R5 3 1 ?_; refine I3 (fun (x : Nat × Nat × Option Addr × Nat × IM) => ⟨[(36, .int .i64 x.1), (35, .int .i64 n), (9, .slice x.2.2.1 x.2.1 x.2.2.2.1), (8, .int .i64 ((2 ^ n - 1 : Nat) : Int)), (6, .slice (some ⟨b, o, none⟩) (2 ^ n) c1), (1, .int .i64 fuel)], [.slc x.2.2.1 x.2.2.2.1 3 1 x.2.1 (N6 (V8 l x.1))], x.2.2.2.2⟩) (fun x => x.1 ≤ n ∧ C5 G3 x.2.2.2.2 ∧ x.2.1 = (V8 l x.1).length) (fun x => n - x.1) (0, 0, none, 0, G3) ?_ ?_ ?_)
 (simp only [H9]; exact D3)
 (exact ⟨Nat.zero_le _, C5.refl _, rfl⟩)
 (rintro ⟨(i : Nat), (m : Nat), pn, cn, Gi⟩ ⟨hi, hle, hmn⟩; simp only [] at hi hle hmn ⊢; have hfi := hfl i)
 refine A2 ?_
 refine sB (I8 rfl rfl) rfl rfl (fun h121 => ?_) (fun h121 => ?_)
 refine A9 ?_
 refine B7 ?_
 refine H0 ?_
 refine sP (A22 rfl rfl (by omega)) rfl rfl ?_
 refine sP (B6k (n := n) (i := i) rfl rfl (by omega) (by omega)) rfl rfl ?_
 (have hpe : 2 ^ n - 1 - 2 ^ i < 2 ^ n := Nat.lt_of_le_of_lt (Nat.sub_le _ _) (Nat.sub_lt (Nat.two_pow_pos n) (by decide)); obtain ⟨b9, o9, e9, hq9, hel9, hat9, hre9, hgb9⟩ := (hs1.mono (hle2.trans (hle3.trans hle))).kidTm (hr1.mono (hle2.trans (hle3.trans hle))) (i := 2 ^ n - 1 - 2 ^ i) hpe (by rw [hcl]; exact hpe); cases hq9; rw [hcg] at hre9; have heo9 := hre9.one; refine sP (B2 (j := 2 ^ n - 1 - 2 ^ i) rfl rfl rfl hpe) rfl rfl ?_)
 refine sL (A0 rfl rfl (hat9 _) hel9) rfl rfl ?_
 refine E0 ?_
 (refine D4 rfl (A6z _ fuel _ _ (hT.mono hle) hre9) rfl rfl (fun v7 G7 hle7 hh => ?_); subst hh; have hg9 := hget (2 ^ n - 1 - 2 ^ i) hpe; rw [← hg9])
 refine sB (qE rfl rfl) rfl rfl (fun h147 => ?_) (fun h147 => ?_)
 refine A7 ?_
 (refine J9 (E2 rfl rfl rfl (by omega) (by unfold maxLen; omega) rfl) rfl ?_; rintro _ ⟨b154, rfl⟩)
 (refine X1 rfl rfl rfl rfl rfl (fun _ _ => by repeat (first | exact Sw.here | apply Sw.there)) (M4 (by repeat first | exact mH | apply mT)) rfl (by simp [Value.oneCell']) (by unfold maxLen; omega) (by omega) rfl (fun p8 c8 => ?_))
 refine B0 ?_
 refine sP (E7 rfl rfl (by omega) (by omega)) rfl rfl ?_
 refine A2 ?_
 (have hst := B0Y (l := l) (i := i) (by rw [hlast]; assumption) (by rw [hlast]; assumption); refine I7 (i + 1, m + 1, p8, c8, G7) (by rw [hst, A38]; exact (O5 (by repeat (first | exact I1.nil | refine I1.cons rfl ?_)) (by repeat (first | exact A8.refl | exact A8.nil | refine A8.cons (by repeat (first | exact Pk.here | apply Pk.there)) ?_ | apply A8.drop)))) ?_ ?_)
 (dsimp only; exact ⟨by omega, hle.trans hle7, by rw [hst]; simp only [List.length_append, List.length_singleton]; omega⟩)
 (show n - (i + 1) < n - i; omega)
 refine A9 ?_
 refine sP (E7 rfl rfl (by omega) (by omega)) rfl rfl ?_
 refine A2 ?_
 (have hst := A4Z (l := l) (i := i) (fun hc => by rw [hlast] at hc; exact absurd hc.1 (by assumption)); refine I7 (i + 1, m, pn, cn, G7) (by rw [hst]; exact (O5 (by repeat (first | exact I1.nil | refine I1.cons rfl ?_)) (by repeat (first | exact A8.refl | exact A8.nil | refine A8.cons (by repeat (first | exact Pk.here | apply Pk.there)) ?_ | apply A8.drop)))) ?_ ?_)
 (dsimp only; exact ⟨by omega, hle.trans hle7, by rw [hst]; exact hmn⟩)
 (show n - (i + 1) < n - i; omega)
 refine J3 ?_
 (obtain rfl : i = n := (by omega); refine H8 (cs := N6 (V8 l i)) (by repeat (first | exact Pk.here | apply Pk.there)) (fun G9 hle9 hsl9 hno9 => ?_))
 refine tT ?_
 refine E9 (rT rfl) (rT rfl) ?_
 (exact IsP.mk (l := V8 l i) (by rw [hy2]; rfl) (by rw [hy2]; rfl) hmn ⟨by rw [← hmn]; exact hsl9.dif (fun b hb => (hno9 b hb).1) (hle1.trans (hle2.trans (hle3.trans hle))), fun b hb => A2J (hle1.trans (hle2.trans (hle3.trans hle))) (hno9 b hb)⟩)
 refine J6 ?_
 refine E9 (rT rfl) (rT rfl) ?_
 (exact IsP.mk (by rw [hno (.inr (by assumption))]; rfl) (by rw [hno (.inr (by assumption))]; rfl) rfl (SP1.nil _))
theorem B02 (e : Tm) (fuel : Int) : R8 e fuel = none ∨ ∃ l, R8 e fuel = some l ∧ l.length = 2 ^ (I5 e).length ∧ (I5 e).length ≤ 6 := by
 unfold R8
 split
 ·rcases B00 e with h | ⟨_, h2, h⟩
  ·rw [h]; exact .inl rfl
  ·rw [h]; exact .inr ⟨_, rfl, by simp [Y9], h2⟩
 ·exact .inl rfl
theorem B6m (t : Tm) (fuel : Int) (G : IM) (cells : List Value) (hts : t.small) (hcnt : D6 t ≤ 4000000) (hr : B3 G t cells) :
  Fn Tryz.prog 31 [.agg ⟨cells⟩, .int .i64 fuel] [] G (IsP ((X6 t fuel).getD []) (X6 t fuel).isSome G) := by
 have hlen := hr.len
 have hone := hr.one
 have hC := B0U t fuel G cells hts hcnt hr
 have hcs := B02 t fuel
 obtain ⟨n, hn⟩ : ∃ n, (I5 t).length = n := ⟨_, rfl⟩
 rw [hn] at hcs
 have hno : R8 t fuel = none → X6 t fuel = none := fun h => by unfold X6; rw [h]; rfl
 have hyes : ∀ l, R8 t fuel = some l → X6 t fuel = some (V8 l n) := fun l h => by unfold X6; rw [h, ← hn]; rfl
 have hfl := A6Q
 generalize X6 t fuel = R at *
 refine B8 Tryz.func31 rfl Tryz.ntmps31 Tryz.results31 rfl ?_
 intro w0
 refine A2 ?_
 refine sE (C6 rfl rfl) rfl (fun b3 => ?_)
 refine A7 ?_
 (refine J9 (E2 rfl rfl rfl (by omega) (by unfold maxLen; omega) rfl) rfl ?_; rintro _ ⟨b10, rfl⟩)
 refine B0 ?_
 refine sL (A0 rfl rfl (B1 (by repeat first | exact mH | apply mT)) hlen) rfl rfl ?_
 refine E0 ?_
 focus (refine D4 rfl hC rfl rfl (fun v1 G1 hle1 hh => ?_); obtain ⟨p7, c7, rfl, hsp⟩ := hh; rcases hcs with hrn | ⟨l, hrs, hll, hn6⟩; (rw [hrn] at hsp ⊢; rotate_left); (rw [hrs] at hsp ⊢; simp only [Option.getD_some] at hsp ⊢; have hs7 : Sl G1 p7 l.length c7 1 (N6 l) := hsp.1.mono (B5.le _ _); have hl1 : 1 ≤ l.length := (by rw [hll]; exact Nat.one_le_two_pow); have hl64 : l.length ≤ 64 := (by rw [hll]; exact Nat.pow_le_pow_right (by decide) hn6); obtain ⟨b7, o7, v7, rfl, _⟩ := hs7.kid (i := 0) (by omega); rotate_left))
 refine J6 ?_
 refine B7 ?_
 (have hguard := hrn; refine I3 (fun (x : Nat) => ⟨[(9, .int .i64 x), (8, .bool false), (6, .slice (some ⟨b10, 0, none⟩) 0 0)], [.slc (some ⟨b10, 0, none⟩) 0 3 1 0 []], G1⟩) (fun x => x = 0) (fun x => 0) 0 ?_ ?_ ?_)
 exact D3
 (exact rfl)
 (rintro (i : Nat) hi0)
 refine A5i ?_
 (have hguard := hrn; refine H8 (cs := []) (by repeat (first | exact Pk.here | apply Pk.there)) (fun G5 hle5 hsl5 hno5 => ?_))
 refine tT ?_
 refine E9 (rT rfl) (rT rfl) ?_
 (exact IsP.mk (l := []) (by rw [hno hrn]; rfl) (by rw [hno hrn]; rfl) rfl ⟨by simpa [N6] using hsl5.dif (fun b hb => (hno5 b hb).1) hle1, fun b hb => A2J hle1 (hno5 b hb)⟩)
 refine J6 ?_
 refine B7 ?_
 (have hguard := hll; refine I3 (fun (x : Nat × Nat × Option Addr × Nat) => ⟨[(9, .int .i64 x.1), (8, .bool true), (7, .slice (some ⟨b7, o7, none⟩) l.length c7), (6, .slice x.2.2.1 x.2.1 x.2.2.2)], [.slc x.2.2.1 x.2.2.2 3 1 x.2.1 (N6 (V8 l x.1))], G1⟩) (fun x => x.1 ≤ n ∧ x.2.1 = (V8 l x.1).length) (fun x => n - x.1) (0, 0, some ⟨b10, 0, none⟩, 0) ?_ ?_ ?_)
 (simp only [H9]; exact D3)
 (exact ⟨Nat.zero_le _, rfl⟩)
 (rintro ⟨(i : Nat), (m : Nat), pn, cn⟩ ⟨hi, hmn⟩; simp only [] at hi hmn ⊢; have hfi := hfl l i; have key : i < n ↔ 2 ^ i < l.length := (by rw [hll]; exact (Nat.pow_lt_pow_iff_right (by decide)).symm))
 refine A7 ?_
 refine sP (A22 rfl rfl (by omega)) rfl rfl ?_
 refine A2 ?_
 refine sB (I8 rfl rfl) rfl rfl (fun h95 => ?_) (fun h95 => ?_)
 refine A9 ?_
 refine B7 ?_
 refine B0 ?_
 refine sP (A40 (m := l.length) (n := 1) rfl rfl hl1 (by omega)) rfl rfl ?_
 refine E0 ?_
 refine sP (A22 rfl rfl (by omega)) rfl rfl ?_
 (have hin : i < n := key.2 (Int.ofNat_lt.1 (by assumption)); have hpl := key.1 hin; obtain ⟨D, hD⟩ : ∃ D, l.length - 1 - 2 ^ i = D := ⟨_, rfl⟩; have hDl : D < l.length := (by rw [← hD]; exact Nat.lt_of_le_of_lt (Nat.sub_le _ _) (Nat.sub_lt (by omega) (by decide))); refine sP (A40 (m := l.length - 1) (n := 2 ^ i) rfl rfl (Nat.le_sub_one_of_lt hpl) (by omega)) rfl rfl ?_; rw [hD])
 (obtain ⟨b9, o9, v9, hq9, hv9, hat9, hgb9⟩ := hs7.kid (i := D) hDl; cases hq9; obtain ⟨hx9, rfl⟩ := A3q hv9; have hg9 : l.getD D 0 = l[D] := (by rw [List.getD_eq_getElem?_getD, List.getElem?_eq_getElem hx9, Option.getD_some]); rw [← hg9] at hat9; obtain ⟨Z9, hZ9⟩ : ∃ Z, l.getD D 0 = Z := ⟨_, rfl⟩; rw [hZ9] at hat9; refine sP (B2 (j := D) rfl rfl rfl hDl) rfl rfl ?_)
 refine sL (A0j rfl rfl (hat9 _)) rfl rfl ?_
 refine sB (qE rfl rfl) rfl rfl (fun h115 => ?_) (fun h115 => ?_)
 refine B6 ?_
 refine sP (A40 (m := l.length) (n := 1) rfl rfl hl1 (by omega)) rfl rfl ?_
 (obtain ⟨b8, o8, v8, hq8, hv8, hat8, hgb8⟩ := hs7.kid (i := l.length - 1) (by omega); cases hq8; obtain ⟨hx8, rfl⟩ := A3q hv8; have hg8 : l.getD (l.length - 1) 0 = l[l.length - 1] := (by rw [List.getD_eq_getElem?_getD, List.getElem?_eq_getElem hx8, Option.getD_some]); rw [← hg8] at hat8; refine sP (B2 (j := l.length - 1) rfl rfl rfl (by omega)) rfl rfl ?_)
 refine sL (A0j rfl rfl (hat8 _)) rfl rfl ?_
 refine sB (M7 rfl rfl) rfl rfl (fun h123 => ?_) (fun h123 => ?_)
 refine A9 ?_
 (refine J9 (E2 rfl rfl rfl (by omega) (by unfold maxLen; omega) rfl) rfl ?_; rintro _ ⟨b131, rfl⟩)
 (refine X1 rfl rfl rfl rfl rfl (fun _ _ => by repeat (first | exact Sw.here | apply Sw.there)) (M4 (by repeat first | exact mH | apply mT)) rfl (by simp [Value.oneCell']) (by unfold maxLen; omega) (by omega) rfl (fun p8 c8 => ?_))
 refine A7 ?_
 refine sP (E7 rfl rfl (by omega) (by omega)) rfl rfl ?_
 refine A2 ?_
 (have hst := B0Y (l := l) (i := i) (by rw [hD, hZ9]; assumption) (by assumption); refine I7 (i + 1, m + 1, p8, c8) (by rw [hst, A38]; exact (O5 (by repeat (first | exact I1.nil | refine I1.cons rfl ?_)) (by repeat (first | exact A8.refl | exact A8.nil | refine A8.cons (by repeat (first | exact Pk.here | apply Pk.there)) ?_ | apply A8.drop)))) ?_ ?_)
 (dsimp only; exact ⟨by omega, by rw [hst]; simp only [List.length_append, List.length_singleton]; omega⟩)
 (show n - (i + 1) < n - i; omega)
 refine D9 ?_
 refine sP (E7 rfl rfl (by omega) (by omega)) rfl rfl ?_
 refine A2 ?_
 (have hst := A4Z (l := l) (i := i) (fun hc => by rw [hD, hZ9] at hc; first | exact absurd hc.1 (by assumption) | exact absurd (by assumption) hc.2 | omega); refine I7 (i + 1, m, pn, cn) (by rw [hst]; exact (O5 (by repeat (first | exact I1.nil | refine I1.cons rfl ?_)) (by repeat (first | exact A8.refl | exact A8.nil | refine A8.cons (by repeat (first | exact Pk.here | apply Pk.there)) ?_ | apply A8.drop)))) ?_ ?_)
 (dsimp only; exact ⟨by omega, by rw [hst]; exact hmn⟩)
 (show n - (i + 1) < n - i; omega)
 refine Q0 ?_
 refine sP (E7 rfl rfl (by omega) (by omega)) rfl rfl ?_
 refine A2 ?_
 (have hst := A4Z (l := l) (i := i) (fun hc => by rw [hD, hZ9] at hc; first | exact absurd hc.1 (by assumption) | exact absurd (by assumption) hc.2 | omega); refine I7 (i + 1, m, pn, cn) (by rw [hst]; exact (O5 (by repeat (first | exact I1.nil | refine I1.cons rfl ?_)) (by repeat (first | exact A8.refl | exact A8.nil | refine A8.cons (by repeat (first | exact Pk.here | apply Pk.there)) ?_ | apply A8.drop)))) ?_ ?_)
 (dsimp only; exact ⟨by omega, by rw [hst]; exact hmn⟩)
 (show n - (i + 1) < n - i; omega)
 refine Q0 ?_
 (have hni : ¬ i < n := fun h => absurd (Int.ofNat_lt.2 (key.1 h)) (by assumption); obtain rfl : i = n := (by omega); refine H8 (cs := N6 (V8 l i)) (by repeat (first | exact Pk.here | apply Pk.there)) (fun G9 hle9 hsl9 hno9 => ?_))
 refine tT ?_
 refine E9 (rT rfl) (rT rfl) ?_
 (exact IsP.mk (l := V8 l i) (by rw [hyes l hrs]; rfl) (by rw [hyes l hrs]; rfl) hmn ⟨by rw [← hmn]; exact hsl9.dif (fun b hb => (hno9 b hb).1) hle1, fun b hb => A2J hle1 (hno9 b hb)⟩)
theorem B6n (t : Tm) (fuel : Int) : ((X6 t fuel).getD []).length ≤ 64 := by
 unfold X6
 rcases B02 t fuel with h | ⟨l, h, h2, h3⟩
 ·rw [h]; simp
 ·rw [h]
  have := A6Q l (I5 t).length
  simp only [Option.map_some, Option.getD_some]; omega
theorem B6o (t : Tm) (fuel : Int) (G : IM) (cells : List Value) (hT : Z5 G) (hno : t.nok) (hr : B3 G t cells) (hf : H3 fuel) :
  Fn Tryz.prog 6 [.agg ⟨cells⟩, .int .i64 fuel] [] G (L5 fun _ v => v = .bool true) := by
 have hl := hr.len
 have hone := hr.one
 have hz := A7Q t 1048576 G cells (by omega) (by omega) hno hr
 have hzn := A4d t
 have hcs := A5H t
 have hms := A79 t
 have hm1 := A0q t.ty.ks
 have hm2 := A0q t.fr.ks
 have hm3 := A1E t.ks
 have hmc := B6n t fuel
 obtain ⟨l, hL⟩ : ∃ l, (X6 t fuel).getD [] = l := ⟨_, rfl⟩
 obtain ⟨b, hB⟩ : ∃ b, (X6 t fuel).isSome = b := ⟨_, rfl⟩
 rw [hL] at hmc
 refine B8 Tryz.func6 rfl Tryz.ntmps6 Tryz.results6 rfl ?_
 intro w0
 refine A2 ?_
 refine sE (C6 rfl rfl) rfl (fun b3 => ?_)
 refine I9 ?_
 refine sL (A0 rfl rfl (B1 (by repeat first | exact mH | apply mT)) (by assumption)) rfl rfl ?_
 refine E0 ?_
 (rcases A1I 1048576 (X3 t) with ⟨hc, hrs⟩ | ⟨hc, hrs⟩ <;> (rw [hrs] at hz; refine H4 rfl hz rfl rfl ?_))
 refine A9 ?_
 refine sP (S5 rfl rfl (by omega)) rfl rfl ?_
 refine A9 ?_
 refine sL (A0 rfl rfl (B1 (by repeat first | exact mH | apply mT)) (by assumption)) rfl rfl ?_
 (refine D4 rfl (A1K t G cells (A0d t (by omega)) hr) rfl rfl (fun v1 G1 hle1 hh => ?_); obtain ⟨cells1, F1, rfl, hs1, hn1⟩ := hh; have hA := B6m t fuel G1 cells1 (A0d t (by omega)) (by omega) (hs1.R.mono (B5.le _ _)))
 refine E0 ?_
 (refine D4 rfl hA rfl rfl (fun v2 G2 hle2 hh => ?_); obtain ⟨p2, c2, rfl, hp2⟩ := A3e hL hB hh; have hle02 := hle1.trans hle2; have hr2 := hr.mono hle02)
 refine D9 ?_
 refine sL (A0 rfl rfl (B1 (by repeat first | exact mH | apply mT)) (by assumption)) rfl rfl ?_
 (refine D4 rfl (A1K t G2 cells (A0d t (by omega)) hr2) rfl rfl (fun v3 G3 hle3 hh => ?_); obtain ⟨cells3, F3, rfl, hs3, hn3⟩ := hh; have hl3 := hs3.R.len; have ho3 := hs3.R.one; have hI := B01 t fuel G3 cells3 (A0d t (by omega)) (by omega) (((hT.mono hle1).mono hle2).mono hle3) (hs3.R.mono (B5.le _ _)))
 refine sE (A6 rfl) rfl (fun b47 => ?_)
 refine S9 rfl rfl rfl (by assumption) (by assumption) rfl (by repeat first | exact Sw.here | apply Sw.there) (by exact D8 (by symm; assumption)) ?_
 refine B6 ?_
 refine sL (A0 rfl rfl (B1 (by repeat first | exact mH | apply mT)) (by assumption)) rfl rfl ?_
 refine E0 ?_
 (refine D4 rfl hI rfl rfl (fun v4 G4 hle4 hh => ?_); obtain ⟨p4, c4, rfl, hp4⟩ := A3e hL hB hh; have hle24 := hle3.trans hle4; have m2 : C5 (B5 G2 G1) G4 := (B5.le G2 G1).trans hle24; have hr4 := hr2.mono hle24)
 refine J8 ?_
 refine H4 rfl (A2K l G4 p4 p2 c4 c2 (hp4.1.mono (B5.le _ _)) (hp2.1.mono m2)) rfl rfl ?_
 refine B6 ?_
 refine sQ (A0S rfl rfl rfl) rfl ?_
 refine D0 ?_
 refine E1 E3 rfl ?_
 refine K9 (i := 0) (l' := [tt,ff,ff,ff,ff]) rfl D5 (A0 rfl rfl (B1 (by repeat first | exact mH | apply mT)) (by assumption)) rfl (by kernel_rfl) rfl rfl ?_
 refine aL 1 rfl (A0 rfl rfl (B1 (by repeat first | exact mH | apply mT)) (by assumption)) rfl ?_
 refine A3 2 ?_
 (refine H2 rfl rfl (A1K t G4 cells (A0d t (by omega)) hr4) rfl rfl rfl (fun v5 G5 hle5 hh => ?_); obtain ⟨cells5, F5, rfl, hs5, hn5⟩ := hh)
 refine A3 3 ?_
 refine M5 rfl rfl (A7B t G5 cells3 cells5 (hs3.R.mono ((B5.le _ _).trans (hle4.trans hle5))) (hs5.R.mono (B5.le _ _))) rfl rfl rfl ?_
 refine aP 4 rfl (pNt rfl) rfl ?_
 refine J8 ?_
 refine sL (A0 rfl rfl (B1 (by repeat first | exact mH | apply mT)) (by assumption)) rfl rfl ?_
 refine E0 ?_
 (obtain ⟨bs3, ob3, ib3⟩ := hs3.blks; obtain ⟨nb3, gb3, kb3⟩ := A4l (Gc := G5) ib3 hn3 hle02 ((B5.le G3 G2).trans (hle4.trans hle5)); refine A8z nb3 gb3 rfl (A7K t 1 _ cells3 bs3 ob3 (by omega) (by omega)) rfl rfl ?_; have h46 : C5 (B5 G4 G3) (Wo G5 (bs3.map Prod.fst)) := Wo.keep ((B5.le G4 G3).trans hle5) (fun b hb => A8y (kb3 b hb).2); have h26 : C5 (B5 G2 G1) (Wo G5 (bs3.map Prod.fst)) := Wo.keep (m2.trans hle5) (fun b hb => A0z (B5.le G2 G1) (kb3 b hb).1); have h06 : C5 G (Wo G5 (bs3.map Prod.fst)) := Wo.keep (hle02.trans (hle24.trans hle5)) (fun b hb => A0z hle02 (kb3 b hb).1); generalize Wo G5 (bs3.map Prod.fst) = G6 at *)
 refine A9 ?_
 refine sP (S5 rfl rfl (by omega)) rfl rfl ?_
 refine B9 ?_
 refine H4 rfl (A2K l G6 p4 p2 c4 c2 (hp4.1.mono h46) (hp2.1.mono h26)) rfl rfl ?_
 refine B0 ?_
 refine sQ (A0S rfl rfl rfl) rfl ?_
 refine H1 ?_
 (obtain ⟨bs4, ob4, ib4⟩ := hp4.blks; obtain ⟨nb4, gb4, kb4⟩ := A4l (Gc := G6) ib4 (A5p p4) (hle02.trans hle3) h46; refine A8A nb4 gb4 rfl (A7N l 1 _ p4 c4 bs4 ob4 (by omega) (by omega)) rfl rfl (fun bs5 G8 hb5 hle8 hg5 => ?_); have h28 : C5 (B5 G2 G1) G8 := (Wo.keep h26 (fun b hb => A0z (B5.le G2 G1) (A0z hle3 (kb4 b hb).1))).trans hle8; have h08 : C5 G G8 := (Wo.keep h06 (fun b hb => A0z hle02 (A0z hle3 (kb4 b hb).1))).trans hle8; have hq8 := hb5.sl hg5; rw [A2M] at hq8; have hr8 := hr.mono h08)
 refine J8 ?_
 refine H4 rfl (A4c l.length 1 G8 p4 c4 hq8 (by omega) (by omega)) rfl rfl ?_
 refine A9 ?_
 refine sP (S5 rfl rfl (by omega)) rfl rfl ?_
 refine I9 ?_
 refine sP (X0 rfl rfl (by omega)) rfl rfl ?_
 refine A9 ?_
 refine sL (A0 rfl rfl (B1 (by repeat first | exact mH | apply mT)) (by assumption)) rfl rfl ?_
 (refine D4 rfl (A1K t G8 cells (A0d t (by omega)) hr8) rfl rfl (fun v9 G9 hle9 hh => ?_); obtain ⟨A2N, F9, rfl, hs9, hn9⟩ := hh; have hI9 := B01 t fuel G9 A2N (A0d t (by omega)) (by omega) ((hT.mono h08).mono hle9) (hs9.R.mono (B5.le _ _)))
 refine E0 ?_
 (refine D4 rfl hI9 rfl rfl (fun v10 G10 hle10 hh => ?_); obtain ⟨p10, c10, rfl, hp10⟩ := A3e hL hB hh; have h210 := h28.trans (hle9.trans hle10))
 refine J8 ?_
 refine H4 rfl (A2K l G10 p10 p2 c10 c2 (hp10.1.mono (B5.le _ _)) (hp2.1.mono h210)) rfl rfl ?_
 refine B6 ?_
 refine sQ (A0S rfl rfl rfl) rfl ?_
 refine H1 ?_
 refine H4 rfl (A4c l.length 1 G10 p4 c4 (hq8.mono (hle9.trans hle10)) (by omega) (by omega)) rfl rfl ?_
 refine A9 ?_
 refine sP (S5 rfl rfl (by omega)) rfl rfl ?_
 refine I9 ?_
 refine sP (X0 rfl rfl (by omega)) rfl rfl ?_
 refine J8 ?_
 exact ⟨rfl, rfl⟩
 refine A9 ?_
 refine sP (A1A rfl rfl (by omega)) rfl rfl ?_
 refine H0 ?_
 exact ⟨rfl, rfl⟩
end Gw
end Go.Proofs.YtebfignffjhnhaaGreatDoor
