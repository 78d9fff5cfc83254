/-
  Two instructions compared.
-/
import Derived.Test.YtgodjiieijekiaaGreatDoorKc7
import Derived.Test.YtgodjiieijekiaaGreatDoorKc6
import Derived.Test.YtgodjiieijekiaaGreatDoorKc3
import Derived.Test.YtgodjiieijekiaaGreatDoorKc4
import Derived.Test.YtgodjiieijekiaaGreatDoorKc5
import Derived.Test.YtgodjiieijekiaaGreatDoorKc1
import Derived.Test.YtgodjiieijekiaaGreatDoorKc2
set_option linter.unusedVariables false
set_option linter.unusedSimpArgs false
set_option maxHeartbeats 0
set_option maxRecDepth 100000
set_option synthInstance.maxSize 4000
set_option synthInstance.maxHeartbeats 0
namespace Go.Proofs.YtgodjiieijekiaaGreatDoor
open Go Go.RowKit
namespace Gw
section
variable {P : Program} {Γ : I3} {env : J0} {hp : List A1} {G : IM} {ty : TypeId}
theorem B7a {t : TypeId} {i : H7} {k : IntKind} [hI : C7 P t i] (hd : i.desc = .int k) (r s : Int) (d : Nat) (w : World) : (Op.equalIn (d + 1) t (.int k r) (.int k s)).run P w = .ok (r == s) w := by
 have hu := hI.und
 rw [hd] at hu
 simp only [Op.equalIn, Sem.run_bind, run_underlying hu, Result.andThen_ok, if_true, Sem.run_pure]
theorem B7b {t : TypeId} {i i3 : H7} {f0 f1 : Field} [hI : C7 P t i] (hd : i.desc = .struct #[f0, f1]) (n0 : f0.name ≠ "_") (n1 : f1.name ≠ "_") (o0 : f0.offset = 0) (o1 : f1.offset = 1) {t3 : TypeId} [h3 : C7 P t3 i3] (e0 : f0.type = t3) (e1 : f1.type = t3) (hd3 : i3.desc = .int .i64)
  (hs : P.stoodInHeld t = false) (a b c d : Int) (w : World) : (Op.equal t (.agg ⟨[.int .i64 a, .int .i64 b]⟩) (.agg ⟨[.int .i64 c, .int .i64 d]⟩)).run P w = .ok (a == c && b == d) w := by
 have hu := hI.und
 rw [hd] at hu
 have hu3 := h3.und
 rw [hd3] at hu3
 have hp : ∀ (x y : Int) (w : World), (part t3 ⟨[Value.int .i64 x, .int .i64 y]⟩ 0).run P w = .ok (.int .i64 x) w := fun x y w => by simp [part, A3z hu3, A0Q]
 have hp1 : ∀ (x y : Int) (w : World), (part t3 ⟨[Value.int .i64 x, .int .i64 y]⟩ 1).run P w = .ok (.int .i64 y) w := fun x y w => by simp [part, A3z hu3, A0Q]
 subst e0
 have hq := fun (r s : Int) (n : Nat) (w : World) => B7a (P := P) (t := f0.type) hd3 r s n w
 have h : ∀ n, (Op.equalIn (n + 1 + 1) t (.agg ⟨[.int .i64 a, .int .i64 b]⟩) (.agg ⟨[.int .i64 c, .int .i64 d]⟩)).run P w = .ok (a == c && b == d) w := fun n => by
  rw [Op.equalIn]
  by_cases h1 : a = c <;> by_cases h2 : b = d <;>
   simp [Sem.run_bind, run_underlying hu, hs, n0, n1, o0, o1, e1, hp, hp1, hq, h1, h2]
 exact h 9998
theorem B7c {x y : Operand} {t t' : TypeId} {i i3 : H7} {f0 f1 : Field} [hI : C7 P t i] (hd : i.desc = .struct #[f0, f1]) (n0 : f0.name ≠ "_") (n1 : f1.name ≠ "_") (o0 : f0.offset = 0) (o1 : f1.offset = 1) {t3 : TypeId} [h3 : C7 P t3 i3] (e0 : f0.type = t3) (e1 : f1.type = t3) (hd3 : i3.desc = .int .i64)
  (hs : P.stoodInHeld t = false) (hg : P.eqGuardType P.depth t = false) {a b c d : Int} (hx : evo env x = some (.agg ⟨[.int .i64 a, .int .i64 b]⟩)) (hy : evo env y = some (.agg ⟨[.int .i64 c, .int .i64 d]⟩)) :
  E6 P Γ ⟨env, hp, G⟩ (.binOp .neq t x y t') ty (.bool (!(a == c && b == d))) := by
 refine ⟨fun ac _ hst _ _ _ _ w => ?_⟩
 simp only [execOp, eqGuard, binOp, (hst.evo hx : ac.eval x = _), (hst.evo hy : ac.eval y = _), Sem.run_bind, B7b hd n0 n1 o0 o1 e0 e1 hd3 hs, Sem.run_pure, Result.andThen_ok]
 simp [hg]
theorem B7d {x y : Operand} {t t' : TypeId} {i i3 : H7} {f0 f1 : Field} [hI : C7 P t i] (hd : i.desc = .struct #[f0, f1]) (n0 : f0.name ≠ "_") (n1 : f1.name ≠ "_") (o0 : f0.offset = 0) (o1 : f1.offset = 1) {t3 : TypeId} [h3 : C7 P t3 i3] (e0 : f0.type = t3) (e1 : f1.type = t3) (hd3 : i3.desc = .int .i64)
  (hs : P.stoodInHeld t = false) (hg : P.eqGuardType P.depth t = false) {a b c d : Int} (hx : evo env x = some (.agg ⟨[.int .i64 a, .int .i64 b]⟩)) (hy : evo env y = some (.agg ⟨[.int .i64 c, .int .i64 d]⟩)) :
  E6 P Γ ⟨env, hp, G⟩ (.binOp .neq t x y t') ty (.bool (decide (¬(a = c ∧ b = d)))) := by
 have h := B7c (Γ := Γ) (hp := hp) (G := G) (ty := ty) (t' := t') hd n0 n1 o0 o1 e0 e1 hd3 hs hg hx hy
 have hb : (!(a == c && b == d)) = decide (¬(a = c ∧ b = d)) := by
  by_cases h1 : a = c <;> by_cases h2 : b = d <;> simp [h1, h2]
 rwa [hb] at h
end
section
variable {Γ : I3} {env : J0} {hp : List A1} {G : IM} {ty : TypeId}
theorem B1m {x y : Operand} {t' : TypeId} {a b c d : Int} (hx : evo env x = some (.agg ⟨[.int .i64 a, .int .i64 b]⟩)) (hy : evo env y = some (.agg ⟨[.int .i64 c, .int .i64 d]⟩)) :
  E6 Tryz.prog Γ ⟨env, hp, G⟩ (.binOp .neq 72 x y t') ty (.bool (decide (¬(a = c ∧ b = d)))) :=
 B7d (t3 := 3) rfl (by decide) (by decide) rfl rfl rfl rfl rfl (by kernel_rfl) (by kernel_rfl) hx hy
end
section
variable {Γ : I3} {env : J0} {hp : List A1} {G : IM} {ty : TypeId}
theorem B7e {x y : Operand} {t' : TypeId} {a b c d : Int} (h : ¬(a = c ∧ b = d)) (hx : evo env x = some (.agg ⟨[.int .i64 a, .int .i64 b]⟩)) (hy : evo env y = some (.agg ⟨[.int .i64 c, .int .i64 d]⟩)) :
  E6 Tryz.prog Γ ⟨env, hp, G⟩ (.binOp .neq 72 x y t') ty (.bool true) := by
 have := B1m (Γ := Γ) (hp := hp) (G := G) (ty := ty) (t' := t') hx hy
 rwa [decide_eq_true h] at this
theorem B7f {x y : Operand} {t' : TypeId} {a b c d : Int} (h : a = c ∧ b = d) (hx : evo env x = some (.agg ⟨[.int .i64 a, .int .i64 b]⟩)) (hy : evo env y = some (.agg ⟨[.int .i64 c, .int .i64 d]⟩)) :
  E6 Tryz.prog Γ ⟨env, hp, G⟩ (.binOp .neq 72 x y t') ty (.bool false) := by
 have := B1m (Γ := Γ) (hp := hp) (G := G) (ty := ty) (t' := t') hx hy
 rwa [decide_eq_false (fun hh => hh h)] at this
end
theorem B7g {l1 l2 : K4} (hl : l1.length = l2.length) (h : ∀ j, j < l1.length → l1.getD j (0, 0) = l2.getD j (0, 0)) : l1 = l2 := by
 apply List.ext_getElem hl
 intro i h1 h2
 have := h i h1
 rwa [List.getD_eq_getElem?_getD, List.getD_eq_getElem?_getD, List.getElem?_eq_getElem h1, List.getElem?_eq_getElem h2] at this
theorem B7h (l1 l2 : K4) (G : IM) (p q : Option Addr) (n m c d : Nat) (h1 : U3 G l1 p n c) (h2 : U3 G l2 q m d) : Fn Tryz.prog 68 [.slice p n c, .slice q m d] [] G (J1 (.bool (decide (l1 = l2))) G) := by
 have e1 := h1.len
 have e2 := h2.len
 have b1 := h1.sl.le
 have b2 := h2.sl.le
 refine B6 Tryz.func68 rfl Tryz.ntmps68 Tryz.results68 rfl ?_
 intro w0
 refine L4 ?_
 refine sB (X4 rfl rfl) rfl rfl (fun h13 => ?_) (fun h13 => ?_)
 refine J3 ?_
 (exact ⟨rfl, by rw [decide_eq_false (fun he => by subst he; omega)], rfl⟩)
 refine L7 ?_
 refine B2 ?_
 (refine J8 (fun (i : Nat) => ⟨[(13, .int .i64 (i : Int)), (12, .int .i64 (n : Int)), (0, .slice p n c), (1, .slice q m d)], [], G⟩) (fun i => i ≤ n ∧ ∀ j, j < i → l1.getD j (0, 0) = l2.getD j (0, 0)) (fun i => n - i) 0 ?_ ?_ ?_)
 exact C2
 (exact ⟨Nat.zero_le _, fun j hj => absurd hj (Nat.not_lt_zero j)⟩)
 (rintro i ⟨hi, hj⟩)
 refine tS (tR ?_)
 refine sB (I7 rfl rfl) rfl rfl (fun h46 => ?_) (fun h46 => ?_)
 refine sD (nS (tS (qT rfl (tK (nS (tS ?_))))))
 refine B2 ?_
 refine C5 ?_
 (obtain ⟨bx, ox, rfl, hat, _, _, _⟩ := h1.get (i := i) (by omega); obtain ⟨by2, oy, rfl, hat2, _, _, _⟩ := h2.get (i := i) (by omega); obtain ⟨⟨xa, xb⟩, hX⟩ : ∃ z, l1.getD i (0, 0) = z := ⟨_, rfl⟩; obtain ⟨⟨ya, yb⟩, hY⟩ : ∃ z, l2.getD i (0, 0) = z := ⟨_, rfl⟩; rw [hX] at hat; rw [hY] at hat2; by_cases heq : xa = ya ∧ xb = yb <;> refine D7 D8 rfl ?_)
 refine H4 (i := 0) (l' := [tt,ff,ff,ff,ff,ff,ff,ff,ff]) rfl D3 (qM rfl) rfl (by kernel_rfl) rfl rfl ?_
 refine aP 1 rfl (qM rfl) rfl ?_
 refine aP 2 rfl (B3 (j := i) rfl rfl rfl (by omega)) rfl ?_
 refine aL 3 rfl (A6 rfl rfl (hat _) rfl) rfl ?_
 refine aP 4 rfl (qM rfl) rfl ?_
 refine aP 5 rfl (qM rfl) rfl ?_
 refine aP 6 rfl (B3 (j := i) rfl rfl rfl (by omega)) rfl ?_
 refine aL 7 rfl (A6 rfl rfl (hat2 _) rfl) rfl ?_
 refine aP 8 rfl (B7f heq rfl rfl) rfl ?_
 refine B9 (nS (cF rfl (tK (M2 (nS (tR ?_))))))
 refine sP (H2 rfl rfl (by omega) (by omega)) rfl rfl ?_
 refine sQ (qM rfl) rfl (sD ?_)
 refine J4 (i + 1) ?_ ?_ ?_
 (simp only [E7]; exact C2)
 (exact ⟨by omega, fun j hji => (by by_cases he : j = i; (subst he; rw [hX, hY, heq.1, heq.2]); exact hj j (by omega))⟩)
 (show n - (i + 1) < n - i; omega)
 refine H4 (i := 0) (l' := [tt,ff,ff,ff,ff,ff,ff,ff,ff]) rfl D3 (qM rfl) rfl (by kernel_rfl) rfl rfl ?_
 refine aP 1 rfl (qM rfl) rfl ?_
 refine aP 2 rfl (B3 (j := i) rfl rfl rfl (by omega)) rfl ?_
 refine aL 3 rfl (A6 rfl rfl (hat _) rfl) rfl ?_
 refine aP 4 rfl (qM rfl) rfl ?_
 refine aP 5 rfl (qM rfl) rfl ?_
 refine aP 6 rfl (B3 (j := i) rfl rfl rfl (by omega)) rfl ?_
 refine aL 7 rfl (A6 rfl rfl (hat2 _) rfl) rfl ?_
 refine aP 8 rfl (B7e heq rfl rfl) rfl ?_
 refine J5 ?_
 (exact ⟨rfl, by rw [decide_eq_false (fun he => by subst he; rw [hX] at hY; obtain ⟨g1, g2⟩ := Prod.mk.inj hY; exact heq ⟨g1, g2⟩)], rfl⟩)
 refine N9 ?_
 (exact ⟨rfl, by rw [decide_eq_true (B7g (by omega) (fun j hjl => hj j (by omega)))], rfl⟩)
def A2V (e : Tm) : Prop := O6 e = true ∧ T6 [] e ∧ X0 (J7 [] (D0 e)) = true
theorem B7i : ∀ (t : Tm) (d : Int) (ns : List ByteArray), I9 12 14 t d = true → T6 ns t → ∃ g : GE, D0 t = g.tm ∧ g.nt ∧ ∀ x, g.fv x → x ∈ ns := by
 refine Tm.ind fun k nm num ty fr lb ks ih d ns hs hc => ?_
 obtain ⟨_, h14, h3, h4⟩ := R8 hs
 obtain ⟨n1, n2, n3, n4, n5, n6, n7, n8, n9⟩ := R7.1 h3
 rw [T6] at hc
 obtain ⟨c1, c2⟩ := hc
 have hk := (A0U 12 14 ks _).1 h4
 have hnm : ¬(k = 1 ∨ k = 5) → nm = ⟨#[]⟩ := n3
 have hnum : k ≠ 2 → num = 0 := fun h => by have := A6U.1 (n5 h); omega
 have I : ∀ (i : Nat) (hi : i < ks.length), ∃ g : GE, D0 ks[i] = g.tm ∧ g.nt ∧ ∀ x, g.fv x → x ∈ (if k = 5 then nm :: ns else ns) := fun i hi => ih ks[i] (List.getElem_mem hi) _ _ (hk i hi) (A5y c2 _ (List.getElem_mem hi))
 have hkk : k = 1 ∨ k = 2 ∨ k = 3 ∨ k = 4 ∨ k = 5 ∨ k = 6 ∨ k = 7 ∨ k = 8 ∨ k = 9 ∨ k = 10 ∨ k = 11 ∨ k = 12 ∨ k = 13 := by
  unfold D5 at n1
  split at n1
  ·omega
  split at n1
  ·omega
  split at n1
  ·omega
  split at n1
  ·omega
  ·omega
 rw [D0, A1S]
 have L0 : D5 k = 0 → ks = [] := fun h => List.length_eq_zero_iff.1 (by omega)
 have L1 : D5 k = 1 → ∃ a, ks = [a] := fun h => by
  match ks, (show ks.length = 1 by omega) with
  | [a], _ => exact ⟨a, rfl⟩
 have L2 : D5 k = 2 → ∃ a b, ks = [a, b] := fun h => by
  match ks, (show ks.length = 2 by omega) with
  | [a, b], _ => exact ⟨a, b, rfl⟩
 have L3 : D5 k = 3 → ∃ a b c, ks = [a, b, c] := fun h => by
  match ks, (show ks.length = 3 by omega) with
  | [a, b, c], _ => exact ⟨a, b, c, rfl⟩
 clear ih h3 n1 n2 n4 n5 n6 n7 n8 n9 hs h4 hk c2 n3
 rcases hkk with rfl | rfl | rfl | rfl | rfl | rfl | rfl | rfl | rfl | rfl | rfl | rfl | rfl
 ·rw [L0 rfl, hnum (by decide)]
  exact ⟨.var nm, by simp [GE.tm], trivial, fun x hx => by have hx : nm = x := hx; rw [← hx]; exact c1 rfl⟩
 ·rw [L0 rfl, hnm (by decide)]
  exact ⟨.num num, by simp [GE.tm], trivial, fun x hx => hx.elim⟩
 ·rw [L0 rfl, hnm (by decide), hnum (by decide)]
  exact ⟨.tru true, by simp [GE.tm], trivial, fun x hx => hx.elim⟩
 ·rw [L0 rfl, hnm (by decide), hnum (by decide)]
  exact ⟨.tru false, by simp [GE.tm], trivial, fun x hx => hx.elim⟩
 ·obtain ⟨a, rfl⟩ := L1 rfl
  rw [hnum (by decide)]
  obtain ⟨g, g1, g2, g3⟩ := I 0 (by simp)
  have g1 : D0 a = g.tm := g1
  rw [if_pos rfl] at g3
  exact ⟨.lam nm .any g, by simp [GE.tm, g1]; rfl, ⟨rfl, g2⟩, fun x hx => by
   have hx : nm ≠ x ∧ g.fv x := hx
   rcases List.mem_cons.1 (g3 x hx.2) with h | h
   ·exact absurd h.symm hx.1
   ·exact h⟩
 ·obtain ⟨a, b, rfl⟩ := L2 rfl
  rw [hnum (by decide), hnm (by decide)]
  obtain ⟨g, g1, g2, g3⟩ := I 0 (by simp)
  obtain ⟨g', g1', g2', g3'⟩ := I 1 (by simp)
  have g1 : D0 a = g.tm := g1
  have g1' : D0 b = g'.tm := g1'
  exact ⟨.app g g', by simp [GE.tm, g1, g1'], ⟨g2, g2'⟩, fun x hx => hx.elim (fun h => g3 x h) (fun h => g3' x h)⟩
 ·obtain ⟨a, b, rfl⟩ := L2 rfl
  rw [hnum (by decide), hnm (by decide)]
  obtain ⟨g, g1, g2, g3⟩ := I 0 (by simp)
  obtain ⟨g', g1', g2', g3'⟩ := I 1 (by simp)
  have g1 : D0 a = g.tm := g1
  have g1' : D0 b = g'.tm := g1'
  exact ⟨.ar false g g', by simp [GE.tm, g1, g1'], ⟨g2, g2'⟩, fun x hx => hx.elim (fun h => g3 x h) (fun h => g3' x h)⟩
 ·obtain ⟨a, b, rfl⟩ := L2 rfl
  rw [hnum (by decide), hnm (by decide)]
  obtain ⟨g, g1, g2, g3⟩ := I 0 (by simp)
  obtain ⟨g', g1', g2', g3'⟩ := I 1 (by simp)
  have g1 : D0 a = g.tm := g1
  have g1' : D0 b = g'.tm := g1'
  exact ⟨.ar true g g', by simp [GE.tm, g1, g1'], ⟨g2, g2'⟩, fun x hx => hx.elim (fun h => g3 x h) (fun h => g3' x h)⟩
 ·obtain ⟨a, b, c, rfl⟩ := L3 rfl
  rw [hnum (by decide), hnm (by decide)]
  obtain ⟨g, g1, g2, g3⟩ := I 0 (by simp)
  obtain ⟨g', g1', g2', g3'⟩ := I 1 (by simp)
  obtain ⟨g'', g1'', g2'', g3''⟩ := I 2 (by simp)
  have g1 : D0 a = g.tm := g1
  have g1' : D0 b = g'.tm := g1'
  have g1'' : D0 c = g''.tm := g1''
  exact ⟨.ite g g' g'', by simp [GE.tm, g1, g1', g1''], ⟨g2, g2', g2''⟩, fun x hx => hx.elim (fun h => g3 x h) (fun h => h.elim (fun h => g3' x h) (fun h => g3'' x h))⟩
 ·obtain ⟨a, b, rfl⟩ := L2 rfl
  rw [hnum (by decide), hnm (by decide)]
  obtain ⟨g, g1, g2, g3⟩ := I 0 (by simp)
  obtain ⟨g', g1', g2', g3'⟩ := I 1 (by simp)
  have g1 : D0 a = g.tm := g1
  have g1' : D0 b = g'.tm := g1'
  exact ⟨.pair g g', by simp [GE.tm, g1, g1'], ⟨g2, g2'⟩, fun x hx => hx.elim (fun h => g3 x h) (fun h => g3' x h)⟩
 ·obtain ⟨a, rfl⟩ := L1 rfl
  rw [hnum (by decide), hnm (by decide)]
  obtain ⟨g, g1, g2, g3⟩ := I 0 (by simp)
  have g1 : D0 a = g.tm := g1
  exact ⟨.part false g, by simp [GE.tm, g1], g2, fun x hx => g3 x hx⟩
 ·obtain ⟨a, rfl⟩ := L1 rfl
  rw [hnum (by decide), hnm (by decide)]
  obtain ⟨g, g1, g2, g3⟩ := I 0 (by simp)
  have g1 : D0 a = g.tm := g1
  exact ⟨.part true g, by simp [GE.tm, g1], g2, fun x hx => g3 x hx⟩
 ·obtain ⟨a, rfl⟩ := L1 rfl
  obtain ⟨g, g1, g2, g3⟩ := I 0 (by simp)
  have g1 : D0 a = g.tm := g1
  exact ⟨g, by simp [g1], g2, fun x hx => g3 x hx⟩
theorem B7j {e : Tm} (h : A2V e) : ∃ g : GE, D0 e = g.tm ∧ g.nt ∧ g.cl ∧ W4 g.tm = true ∧ J7 [] (D0 e) = D1 [] g := by
 obtain ⟨h1, h2, _⟩ := h
 obtain ⟨g, g1, g2, g3⟩ := B7i e 1 [] ((A0b e).1 h1).1 h2
 exact ⟨g, g1, g2, fun x hx => (by cases g3 x hx), by rw [← g1]; exact B0A h1, by rw [g1, B6G g [] g2]⟩
theorem B7k {c : K4} {t : Nat} (h : X0 c = true) (ht : t ≤ 2000) : A0z c (t : Int) = M7 c t ⟨0, [], [], []⟩ := by
 unfold A0z; rw [if_pos ⟨h, by omega, by omega⟩]; rfl
theorem B7l {e : Tm} (h : A2V e) (hs : A1x e = true) (ht : (U5 e).isSome = true) : (A0z (J7 [] (D0 e)) 2000).2.1 = 0 ∨ (A0z (J7 [] (D0 e)) 2000).2.1 = 5 := by
 obtain ⟨f, f1, f2, f3, f4, f5⟩ := B7j h
 obtain ⟨u, t, hu⟩ := B5p ht
 have hn := B6h hs hu
 obtain ⟨g, A, g', A', rfl, rfl, hP⟩ := B5Z hu
 have hl := B6g g 1 ((A4O _).1 (A9V hu).1).1 hn
 have hb : D0 e = g.er.tm := by rw [← B55 hu, B50]
 obtain rfl : f = g.er := GE.inj (by rw [← f1, hb])
 have hR : A0z (J7 [] (D0 e)) 2000 = M7 (D1 [] g.er) 2000 ⟨0, [], [], []⟩ := by rw [← f5]; exact B7k (t := 2000) h.2.2 (Nat.le_refl _)
 rw [hR]
 exact B6F hP hl f3 2000
def B8A (a b : Tm) : Tm := .mk 11 ⟨⟨[]⟩⟩ 0 A5 A5 0 [.mk 10 ⟨⟨[]⟩⟩ 0 A5 A5 0 [a, b]]
def A2W (e : Tm) (l : K4) (ok : Bool) : Prop := (A2V e ∧ l = J7 [] (D0 e) ∧ ok = true) ∨ (¬A2V e ∧ l = [] ∧ ok = false)
theorem B7m (e : Tm) : ∃ l ok, A2W e l ok := by
 by_cases h : A2V e
 ·exact ⟨_, _, .inl ⟨h, rfl, rfl⟩⟩
 ·exact ⟨_, _, .inr ⟨h, rfl, rfl⟩⟩
theorem A2W.no {e : Tm} {l : K4} {ok : Bool} (h : A2W e l ok) (hn : ¬A2V e) : l = [] ∧ ok = false := by
 rcases h with ⟨h, _⟩ | ⟨_, h⟩
 ·exact absurd h hn
 ·exact h
theorem A2W.yes {e : Tm} {l : K4} {ok : Bool} (h : A2W e l ok) (hn : A2V e) : l = J7 [] (D0 e) ∧ ok = true := by
 rcases h with ⟨_, h⟩ | ⟨h, _⟩
 ·exact h
 ·exact absurd hn h
def CtR (l : K4) (ok : Bool) : IM → Value → Prop := fun G' v => ∃ p c, v = .tuple ⟨[.slice p l.length c, .bool ok]⟩ ∧ U3 G' l p l.length c
theorem A3u (G : IM) (p : Option Addr) : U3 G [] p 0 0 := ⟨⟨⟨rfl, Nat.le_refl _, by unfold maxLen; omega, .inl rfl⟩, rfl, by simp, by simp⟩, rfl, by simp⟩
theorem B1n : A2T [] := fun x hx => by cases hx
theorem B7n : BdS ⟨⟨[]⟩⟩ [] := fun c => ⟨fun h => (by cases h), fun h => (by cases h)⟩
theorem B1o {s : ByteArray} : s = ⟨⟨[]⟩⟩ ↔ s.size = 0 := by
 constructor
 ·rintro rfl; rfl
 ·intro h
  obtain ⟨⟨l⟩⟩ := s
  have : l.length = 0 := h
  rw [List.length_eq_zero_iff.1 this]
theorem B7o {e : Tm} (h : O6 e = true) : I9 40 13 (D0 e) 1 = true := ((A4O _).1 (B0A h)).1
theorem B7p (l1 l2 : K4) (G : IM) (p q : Option Addr) (n m c d : Nat) (h1 : U3 G l1 p n c) (h2 : U3 G l2 q m d) : Fn Tryz.prog 27 [.slice p n c, .slice q m d] [] G (J1 (.bool (decide (l1 = l2))) G) := by
 refine B6 Tryz.func27 rfl Tryz.ntmps27 Tryz.results27 rfl ?_
 intro w0
 refine E8 ?_
 refine H6 rfl ((B7h l1 l2 _ _ _ _ _ _ _ h1 h2)) rfl rfl ?_
 refine sQ (qA rfl) rfl (sD (nS (tT (I6 (rT rfl) ?_))))
 (exact ⟨rfl, rfl, rfl⟩)
theorem B1p (e : Tm) (G : IM) (cells : List Value) (l : K4) (ok : Bool) (h : A2W e l ok) (hts : e.small) (hr : B5 G e cells) : Fn Tryz.prog 25 [.agg ⟨cells⟩] [] G (I8 (CtR l ok)) := by
 have hl := hr.len
 have hone := hr.one
 have hw := A6i e G cells hr
 have hv1 := fun h : O6 e = true => (A0b e).1 h
 have hbs := (A3Y e hts).2
 have n1 : O6 e = false → l = [] ∧ ok = false := fun hf => h.no (fun hc => by rw [hc.1] at hf; cases hf)
 have n2 : ¬T6 [] e → l = [] ∧ ok = false := fun hf => h.no (fun hc => hf hc.2.1)
 have n3 : X0 (J7 [] (D0 e)) = false → l = [] ∧ ok = false := fun hf => h.no (fun hc => by rw [hc.2.2] at hf; cases hf)
 have n4 : O6 e = true → T6 [] e → X0 (J7 [] (D0 e)) = true → l = J7 [] (D0 e) ∧ ok = true := fun a b c => h.yes ⟨a, b, c⟩
 refine B6 Tryz.func25 rfl Tryz.ntmps25 Tryz.results25 rfl ?_
 intro w0
 refine tS (tR ?_)
 refine sE (E2 rfl rfl) rfl (fun b3 => ?_)
 refine C5 ?_
 refine sL (A6 rfl rfl (H0 (by repeat first | exact mH | apply mT)) hl) rfl rfl ?_
 refine H8 rfl (hw) rfl rfl (fun h12 => ?_) (fun h12 => ?_)
 refine sQ (pNt rfl) rfl (sQ (qM rfl) rfl ?_)
 refine sL (A6 rfl rfl (H0 (by repeat first | exact mH | apply mT)) hl) rfl rfl ?_
 (have hv2 := hv1 (by assumption); refine C6 rfl (B6Y e 1 G cells hv2.1 (by omega) hr) (List.Perm.refl _) rfl rfl (fun v G1 outs hle1 hh => ?_); obtain ⟨hG, rfl, s, rfl, hs⟩ := hh; replace hG := hG.symm; subst hG)
 refine sB (A1F rfl rfl) rfl rfl (fun hsn => ?_) (fun hsn => ?_)
 refine L4 ?_
 refine K0 (rT rfl) (rT rfl) ?_
 (obtain ⟨rfl, rfl⟩ := n2 (fun hc => hsn (hs.2 hc)); exact ⟨rfl, none, 0, rfl, A3u _ _⟩)
 refine E1 ?_
 refine sL (A6 rfl rfl (H0 (by repeat first | exact mH | apply mT)) hl) rfl rfl ?_
 (have hcl := hs.1 (Classical.not_not.1 hsn); refine M0 rfl (B3W e G cells 12 14 hv2.1 hts hr) rfl rfl (fun v G3 hle3 hh => ?_); obtain ⟨cb, F3, rfl, hs3, hn3⟩ := hh)
 (have hC := B69 (D0 e) 1 [] G3 cb (B7o (by assumption)) B1n (A7z e 1 [] hv2.1 hcl) (by simp only [List.length_nil]; omega) (hs3.R.mono (B7.le _ _)); refine C6 rfl hC (List.Perm.refl _) rfl rfl (fun v G4 outs hle4 hh => ?_); obtain ⟨p4, m4, c4, x4, rfl, rfl, ho4, h41, h42⟩ := hh; obtain rfl : m4 = (J7 [] (D0 e)).length := ho4.1; refine S9 (by repeat (first | exact Pk.here | apply Pk.there)) (fun G5 hle5 hsl5 hno5 => ?_); have hR5 := ho4.r hsl5)
 refine C5 ?_
 refine H8 rfl ((A9b (J7 [] (D0 e)) _ _ _ _ hR5)) rfl rfl (fun h50 => ?_) (fun h50 => ?_)
 refine M5 ?_
 refine K0 (rT rfl) (rT rfl) ?_
 (obtain ⟨rfl, rfl⟩ := n4 (by assumption) hcl (by assumption); exact ⟨rfl, _, _, rfl, hR5⟩)
 refine L4 ?_
 refine K0 (rT rfl) (rT rfl) ?_
 (obtain ⟨rfl, rfl⟩ := n3 (by assumption); exact ⟨rfl, none, 0, rfl, A3u _ _⟩)
 refine U8 ?_
 refine K0 (rT rfl) (rT rfl) ?_
 (obtain ⟨rfl, rfl⟩ := n1 (by assumption); exact ⟨rfl, none, 0, rfl, A3u _ _⟩)
theorem B1q (e : Tm) (G : IM) (cells : List Value) (l : K4) (ok : Bool) (h : A2W e l ok) (hts : e.small) (hcnt : C9 e ≤ 4294967296) (hr : B5 G e cells) : Fn Tryz.prog 26 [.agg ⟨cells⟩] [] G (I8 (CtR l ok)) := by
 have hl := hr.len
 have hone := hr.one
 have hw := A4Z e G cells hcnt hr
 have hv1 := fun h : O6 e = true => (A0b e).1 h
 have hbs := (A3Y e hts).2
 have n1 : O6 e = false → l = [] ∧ ok = false := fun hf => h.no (fun hc => by rw [hc.1] at hf; cases hf)
 have n2 : ¬T6 [] e → l = [] ∧ ok = false := fun hf => h.no (fun hc => hf hc.2.1)
 have n3 : X0 (J7 [] (D0 e)) = false → l = [] ∧ ok = false := fun hf => h.no (fun hc => by rw [hc.2.2] at hf; cases hf)
 have n4 : O6 e = true → T6 [] e → X0 (J7 [] (D0 e)) = true → l = J7 [] (D0 e) ∧ ok = true := fun a b c => h.yes ⟨a, b, c⟩
 refine B6 Tryz.func26 rfl Tryz.ntmps26 Tryz.results26 rfl ?_
 intro w0
 refine tS (tR ?_)
 refine sE (E2 rfl rfl) rfl (fun b3 => ?_)
 refine C5 ?_
 refine sL (A6 rfl rfl (H0 (by repeat first | exact mH | apply mT)) hl) rfl rfl ?_
 refine H8 rfl (hw) rfl rfl (fun h12 => ?_) (fun h12 => ?_)
 refine sQ (pNt rfl) rfl (sQ (qM rfl) rfl ?_)
 refine sL (A6 rfl rfl (H0 (by repeat first | exact mH | apply mT)) hl) rfl rfl ?_
 (have hv2 := hv1 (by assumption); refine C6 rfl (B6W e 1 ⟨⟨[]⟩⟩ ⟨⟨[]⟩⟩ [] G cells hv2.1 (by show 0 + _ ≤ _; omega) (by show 0 + _ ≤ _; omega) B7n hr) (List.Perm.refl _) rfl rfl (fun v G1 outs hle1 hh => ?_); obtain ⟨hG, rfl, s, rfl, hsz, hs⟩ := hh; replace hG := hG.symm; subst hG)
 refine sB (A1F rfl rfl) rfl rfl (fun hsn => ?_) (fun hsn => ?_)
 refine sQ (S2 rfl rfl) rfl (sD (nS (qT rfl (tS (tR ?_)))))
 (refine E9 (B4 rfl rfl rfl (by omega) (by unfold maxLen; omega) rfl) rfl ?_; rintro _ ⟨b24, rfl⟩)
 refine sQ (qA rfl) rfl (sQ (qA rfl) rfl (sD (nS (tT (rS ?_)))))
 refine K0 (rT rfl) (rT rfl) ?_
 (obtain ⟨rfl, rfl⟩ := n2 (fun hc => hsn (B1o.2 (hs.2 ⟨rfl, hc⟩))); exact ⟨rfl, _, 0, rfl, A3u _ _⟩)
 refine E1 ?_
 refine sL (A6 rfl rfl (H0 (by repeat first | exact mH | apply mT)) hl) rfl rfl ?_
 (have hcl := (hs.1 (B1o.1 (Classical.not_not.1 hsn))).2; refine M0 rfl (B3Z 12 14 e 1 G cells hv2.1 hts hr) rfl rfl (fun v G3 hle3 hh => ?_); obtain ⟨cb, F3, rfl, hs3, hn3⟩ := hh)
 (have hC := B60 (D0 e) [] G3 cb (A9f 12 14 e 1 hv2.1) (B1g 12 14 e 1 hv2.1) B1n (A7z e 1 [] hv2.1 hcl) (by simp only [List.length_nil]; omega) (hs3.R.mono (B7.le _ _)); refine C6 rfl hC (List.Perm.refl _) rfl rfl (fun v G4 outs hle4 hh => ?_); obtain ⟨hG4, p4, m4, c4, x4, rfl, rfl, ho4, h41, h42⟩ := hh; obtain rfl : m4 = (J7 [] (D0 e)).length := ho4.1; refine S9 (by repeat (first | exact Pk.here | apply Pk.there)) (fun G5 hle5 hsl5 hno5 => ?_); have hR5 := ho4.r hsl5)
 refine C5 ?_
 refine H8 rfl ((B33 (J7 [] (D0 e)) _ _ _ _ hR5)) rfl rfl (fun h51 => ?_) (fun h51 => ?_)
 refine M5 ?_
 refine K0 (rT rfl) (rT rfl) ?_
 (obtain ⟨rfl, rfl⟩ := n4 (by assumption) hcl (by assumption); exact ⟨rfl, _, _, rfl, hR5⟩)
 refine sQ (pNf rfl) rfl (sD (nS (qT rfl (tS (tR ?_)))))
 (refine E9 (B4 rfl rfl rfl (by omega) (by unfold maxLen; omega) rfl) rfl ?_; rintro _ ⟨b74, rfl⟩)
 refine sQ (qA rfl) rfl (sQ (qA rfl) rfl (sD (nS (tT (rS ?_)))))
 refine K0 (rT rfl) (rT rfl) ?_
 (obtain ⟨rfl, rfl⟩ := n3 (by assumption); exact ⟨rfl, _, 0, rfl, A3u _ _⟩)
 refine J3 ?_
 (refine E9 (B4 rfl rfl rfl (by omega) (by unfold maxLen; omega) rfl) rfl ?_; rintro _ ⟨b94, rfl⟩)
 refine sQ (qA rfl) rfl (sQ (qA rfl) rfl (sD (nS (tT (rS ?_)))))
 refine K0 (rT rfl) (rT rfl) ?_
 (obtain ⟨rfl, rfl⟩ := n1 (by assumption); exact ⟨rfl, _, 0, rfl, A3u _ _⟩)
def B8B (G : IM) : IM → Value → List A1 → Prop := I8 fun G' v => ∃ a ca b cb f, v = .tuple ⟨[.agg ⟨ca⟩, .agg ⟨cb⟩, .int .i64 f]⟩ ∧ B5 G' a ca ∧ a.fit 1100 ∧ B5 G' b cb ∧ b.fit 1100 ∧ C1 f
def B8C (G : IM) : IM → Value → List A1 → Prop := I8 fun G' v => ∃ a ca b cb d cd, v = .tuple ⟨[.agg ⟨ca⟩, .agg ⟨cb⟩, .agg ⟨cd⟩]⟩ ∧ B5 G' a ca ∧ a.fit 1100 ∧ B5 G' b cb ∧ b.fit 1100 ∧ B5 G' d cd ∧ d.fit 1100
def B8D (N : Nat) (G : IM) : IM → Value → List A1 → Prop := I8 fun G' v => ∃ a ca f, v = .tuple ⟨[.agg ⟨ca⟩, .int .i64 f]⟩ ∧ B5 G' a ca ∧ a.fit N ∧ C1 f
def B7q (N : Nat) : IM → Value → List A1 → Prop := I8 fun G' v => ∃ e cells, v = .agg ⟨cells⟩ ∧ B5 G' e cells ∧ e.fit N
theorem B7r (G : IM) (q : Option Addr) (n c : Nat) (bs : List UInt8) (hb : Sl G q n c 1 (O7 bs)) : Fn Tryz.prog 24 [.slice q n c] [] G (B7q 1100) := by
 refine B6 Tryz.func24 rfl Tryz.ntmps24 Tryz.results24 rfl ?_
 intro w0
 refine tS (tR ?_)
 refine sE (B0 rfl) rfl (fun b3 => ?_)
 refine sD (nS (tS (tR (sQ (qM rfl) rfl ?_))))
 (refine C6 rfl (B3H G q n c bs hb) (List.Perm.refl _) rfl rfl (fun v G1 outs hle1 hh => ?_); obtain ⟨rfl, br, pb, nb, cb, bs', rfl, rfl, hnb, hb'⟩ := hh)
 refine sQ (qA rfl) rfl (sD (nS (tS (tR (sQ (qM rfl) rfl ?_)))))
 (have hcall := B5Y br pb nb cb bs' hnb 0 _ hb' (by omega); refine C6 rfl hcall (Pk.perm (by repeat (first | exact Pk.here | apply Pk.there))) rfl rfl (fun v Gn outs hle1 hh => ?_); obtain ⟨p1, hp11, hp12, rfl, e0, ce0, rfl, hr0, hf0⟩ := hh; replace hb' := hb'.mono hle1; have hl0 := hr0.len; have ho0 := hr0.one)
 refine sE (B0 rfl) rfl (fun b17 => ?_)
 refine sS rfl rfl rfl hl0 ho0 rfl ?_ (hu := by exact O5 hl0.symm)
 refine sD (nS (tS (tS (tR (sQ (qM rfl) rfl ?_)))))
 (refine C6 rfl (Y6 _ br pb nb cb (p1) bs' 3 hb' hnb (by omega)) (Pk.perm (by repeat (first | exact Pk.here | apply Pk.there))) rfl rfl (fun v Gp outs hle25 hh => ?_); obtain ⟨rfl, rfl, j25, rfl, hj25, hk25⟩ := hh; skip)
 replace hr0 := hr0.mono hle25
 replace hb' := hb'.mono hle25
 refine sB (qE rfl rfl) rfl rfl (fun h26 => ?_) (fun h26 => ?_)
 refine sD (nS (qT rfl (tR (sQ (qM rfl) rfl ?_))))
 (refine C6 rfl (B3I br pb nb cb bs' hnb (p1 + 1) _ hb' (by omega)) (Pk.perm (by repeat (first | exact Pk.here | apply Pk.there))) rfl rfl (fun v G3 outs hle3 hh => ?_); obtain ⟨p3, hp31, hp32, rfl, t3, cells3, rfl, hr3, hs3⟩ := hh; replace hb' := hb'.mono hle3; have hf3 : t3.fit 1100 := ⟨A6g t3 (by omega), by have := A3O t3; omega⟩; have hl3 := hr3.len; have ho3 := hr3.one)
 refine A1H rfl rfl rfl hl3 ho3 rfl (by repeat first | exact Sw.here | apply Sw.there) (by exact O5 (by first | exact (hl3.trans hl0.symm).symm | exact hl3.symm | omega)) ?_
 refine sD (nS (tS (tR (sQ (qM rfl) rfl ?_))))
 refine sL (A6 rfl rfl (H0 (by repeat first | exact mH | apply mT)) hl3) rfl rfl ?_
 (have hcall := A89 br pb nb cb bs' hnb p3 _ hb' (by omega) t3 cells3 1100 hf3 hr3; refine C6 rfl hcall (Pk.perm (by repeat (first | exact Pk.here | apply Pk.there))) rfl rfl (fun v Gn outs hle2 hh => ?_); obtain ⟨p2, hp21, hp22, rfl, e, ce, rfl, hre, hfe⟩ := hh; have hl1 := hre.len; have ho1 := hre.one; replace hb' := hb'.mono hle2)
 refine sS rfl rfl rfl hl1 ho1 rfl ?_ (hu := by exact O5 hl1.symm)
 refine sD (nS (tT ?_))
 refine I6 (rC rfl (A6 rfl rfl (H0 (by repeat first | exact mH | apply mT)) hl1)) ?_
 (exact ⟨rfl, e, ce, rfl, hre, hfe⟩)
 refine sD (nS (cF rfl (tK (nS (tS (tR (sQ (qM rfl) rfl ?_)))))))
 refine sL (A6 rfl rfl (H0 (by repeat first | exact mH | apply mT)) hl0) rfl rfl ?_
 (have hcall := A89 br pb nb cb bs' hnb (p1 + 1) _ hb' (by omega) e0 ce0 1100 hf0 hr0; refine C6 rfl hcall (Pk.perm (by repeat (first | exact Pk.here | apply Pk.there))) rfl rfl (fun v Gn outs hle2 hh => ?_); obtain ⟨p2, hp21, hp22, rfl, e, ce, rfl, hre, hfe⟩ := hh; have hl1 := hre.len; have ho1 := hre.one; replace hb' := hb'.mono hle2)
 refine sS rfl rfl rfl hl1 ho1 rfl ?_ (hu := by exact O5 hl1.symm)
 refine sD (nS (tT ?_))
 refine I6 (rC rfl (A6 rfl rfl (H0 (by repeat first | exact mH | apply mT)) hl1)) ?_
 (exact ⟨rfl, e, ce, rfl, hre, hfe⟩)
section
variable {k : Int} {nm : ByteArray} {num : Int} {ty fr : Ty} {lb : Int} {ks : List Tm}
end
def kS (k : Int) : Int := if k = 0 then 1 else if k = 1 then 2 else if k = 2 then 4 else 11
def B8E (kc : Int → Int) (s : N7) (G : IM) : IM → Value → List A1 → Prop := I8 fun G' v => ∃ cells, v = .agg ⟨cells⟩ ∧ RSs kc G' s cells
def B8F (kc : Int → Int) (s : N7) (l : List MV) (G : IM) : IM → Value → List A1 → Prop := I8 fun G' v => ∃ cells p c fs, v = .tuple ⟨[.agg ⟨cells⟩, .slice p l.length c]⟩ ∧ RSs kc G' s cells ∧ C0 G' p l.length c 4 fs ∧ F9 kc G' l fs
def B8G (kc : Int → Int) (r : N7 ⊕ (Int × Int)) (G : IM) : IM → Value → List A1 → Prop := I8 fun G' v => ∃ cells c e, v = .tuple ⟨[.agg ⟨cells⟩, .int .i64 c, .int .i64 e]⟩ ∧ cells.length = 4 ∧ cells.all (·.oneCell') = true ∧
 (∀ s, r = .inl s → c = 1 ∧ e = 0 ∧ RSs kc G' s cells) ∧ (∀ x, r = .inr x → c = x.1 ∧ e = x.2)
theorem B1r {a b : Int} (h : 0 ≤ a ∧ a ≤ 999) (h2 : 0 ≤ b ∧ b ≤ 999) : (a + b).tmod 1000 = (a + b) % 1000 := Int.tmod_eq_emod_of_nonneg (by omega)
def Mc (G : IM) (s : N7) (b : Nat) (hp : List A1) : Prop := ∃ ps cs es pe ce ee pf cf ef, hp = [.blk b [.int .i64 s.at', .slice ps s.st.length cs, .slice pe s.env.length ce, .slice pf s.fr.length cf], .slc ps cs 82 4 s.st.length es.flatten, .slc pf cf 135 2 s.fr.length ef.flatten] ∧
 F9 kI G s.st es ∧ C0 G pe s.env.length ce 4 ee ∧ F9 kI G s.env ee ∧ P1 kI G s.fr ef
theorem Mc.mk {G : IM} {b : Nat} {a : Int} {st env : List MV} {fr : List (Int × List MV)} {ps pe pf : Option Addr} {ns cs ne ce nf cf : Nat} {x y : List Value} {es ee ef : List (List Value)} (h1 : ns = st.length) (h2 : x = es.flatten) (h3 : F9 kI G st es) (h4 : ne = env.length) (h5 : C0 G pe ne ce 4 ee) (h6 : F9 kI G env ee) (h7 : nf = fr.length) (h8 : y = ef.flatten) (h9 : P1 kI G fr ef) :
  Mc G ⟨a, st, env, fr⟩ b [.blk b [.int .i64 a, .slice ps ns cs, .slice pe ne ce, .slice pf nf cf], .slc ps cs 82 4 ns x, .slc pf cf 135 2 nf y] := by
 subst h1 h2 h4 h7 h8
 exact ⟨ps, cs, es, pe, ce, ee, pf, cf, ef, rfl, h3, h5, h6, h9⟩
def S6 (r : N7 ⊕ (Int × Int)) (b : Nat) : IM → Value → List A1 → Prop := fun G' v outs => ∃ c e, v = .tuple ⟨[.int .i64 c, .int .i64 e]⟩ ∧ (∀ x, r = .inr x → c = x.1 ∧ e = x.2) ∧ (∀ s, r = .inl s → c = 1 ∧ e = 0 ∧ Mc G' s b outs)
theorem S6.go {r : N7 ⊕ (Int × Int)} {b : Nat} {G' : IM} {s : N7} {outs : List A1} (h : r = .inl s) (hM : Mc G' s b outs) : S6 r b G' (.tuple ⟨[.int .i64 1, .int .i64 0]⟩) outs := by
 subst h
 exact ⟨1, 0, rfl, fun x h => (by cases h), fun s' h => (by cases h; exact ⟨rfl, rfl, hM⟩)⟩
theorem S6.no {r : N7 ⊕ (Int × Int)} {b : Nat} {G' : IM} {c e : Int} {outs : List A1} (h : r = .inr (c, e)) : S6 r b G' (.tuple ⟨[.int .i64 c, .int .i64 e]⟩) outs := by
 subst h
 exact ⟨c, e, rfl, fun x h => (by cases h; exact ⟨rfl, rfl⟩), fun s' h => (by cases h)⟩
theorem Z2 {P : Program} {Γ : I3} {env : J0} {hp h1 h2 h3 : List A1} {G : IM} {r r2 : ResultVar} {post : IM → Value → List A1 → Prop} {v v2 : Value} {b : Nat} {a : Int} {p pe pf : Option Addr} {n c ne ce nf cf : Nat} {x y : List Value} (hr : W8 P Γ ⟨env, hp, G⟩ r v) (hr2 : W8 P Γ ⟨env, hp, G⟩ r2 v2)
  (k1 : Pk hp (.blk b [.int .i64 a, .slice p n c, .slice pe ne ce, .slice pf nf cf]) h1) (k2 : Pk h1 (.slc p c 82 4 n x) h2) (k3 : Pk h2 (.slc pf cf 135 2 nf y) h3)
  (hk : post G (.tuple ⟨[v, v2]⟩) [.blk b [.int .i64 a, .slice p n c, .slice pe ne ce, .slice pf nf cf], .slc p c 82 4 n x, .slc pf cf 135 2 nf y]) : A0f P Γ [r, r2] post .ret ⟨env, hp, G⟩ :=
 A4A hr hr2 (.cons k1 (.cons k2 (.cons k3 .nil))) hk
theorem B1s (k : Int) : (O1 k).2.1 ≤ L5 k := by
 rcases mPW k with ⟨_, h2, h3⟩ | ⟨_, h2, h3⟩ | ⟨_, h2, h3⟩ | ⟨_, h2, h3⟩ | ⟨_, h2, h3⟩ | ⟨_, h2, h3⟩ <;> rw [h2, h3] <;> decide
theorem B1t {k : Int} {V : List MV} {j : Nat} (hj : j < (O1 k).2.1) (hC : (O1 k).2.1 ≤ V.length) (h : (V.getD j R0).k ≠ (O1 k).1) : A0L k V = false := by
 unfold A0L
 rw [List.all_eq_false]
 rw [List.getD_eq_getElem?_getD, List.getElem?_eq_getElem (by omega), Option.getD_some] at h
 exact ⟨V[j], List.mem_take_iff_getElem.2 ⟨j, by omega, rfl⟩, by simpa using h⟩
theorem B1u {k a : Int} {s : N7} {V : List MV} (hd : s.st.drop (s.st.length - L5 k) = V) (h : A0L k V = false) : T2 k a s = .inr (2, (O1 k).2.2) := by
 unfold T2; rw [hd, h]; rfl
theorem B1v {i C : Nat} {Q : Int} {v0 v1 : MV} (hK : ∀ j, j < i → ([v0, v1].getD j R0).k = Q) (hi : C ≤ i) (hC : (O1 6).2.1 = C) (hQ : (O1 6).1 = Q) : v0.k = 2 := by
 have hC1 : C = 1 := hC.symm
 have hQ1 : Q = 2 := hQ.symm
 have := hK 0 (by omega)
 rw [hQ1] at this; exact this
theorem A7C {k : Int} {i C : Nat} {Q : Int} {v0 v1 : MV} (hk : k = 7 ∨ k = 8) (hK : ∀ j, j < i → ([v0, v1].getD j R0).k = Q) (hi : C ≤ i) (hC : (O1 k).2.1 = C) (hQ : (O1 k).1 = Q) : v0.k = 0 ∧ v1.k = 0 := by
 have hC1 : C = 2 := by rcases hk with rfl | rfl <;> exact hC.symm
 have hQ1 : Q = 0 := by rcases hk with rfl | rfl <;> exact hQ.symm
 have h0 := hK 0 (by omega)
 have h1 := hK 1 (by omega)
 rw [hQ1] at h0 h1; exact ⟨h0, h1⟩
theorem B7s (k a : Int) (s : N7) (b n N : Nat) (v0 v1 : MV) (G : IM) (hp0 : List A1) (hk : k = 6 ∨ k = 7 ∨ k = 8 ∨ k = 11) (hn : n ≤ 120) (hN : N ≤ 2000) (ho : s.ok n N) (hd : s.st.drop (s.st.length - 2) = [v0, v1]) (hl : 2 ≤ s.st.length) (hM : Mc G s b hp0) :
  Fn Tryz.prog 70 [.pointer (some ⟨b, 0, none⟩), .agg ⟨[.int .i64 k, .int .i64 a]⟩] hp0 G (S6 (P5 k a s) b) := by
 have hp : L5 k = 2 := A8S hk
 have hlo := ho.lo; have hhi := ho.hi; have hst := ho.st; have henv := ho.env; have hfr := ho.fr
 obtain ⟨c1, c2, c3, c4, c5, c6, c7, c8, _, _⟩ := (ho.sto v0 (List.mem_of_mem_drop (i := s.st.length - 2) (by rw [hd]; simp))).spec
 obtain ⟨d1, d2, d3, d4, d5, d6, d7, d8, _, _⟩ := (ho.sto v1 (List.mem_of_mem_drop (i := s.st.length - 2) (by rw [hd]; simp))).spec
 have htl : (s.st.take (s.st.length - 2)).length = s.st.length - 2 := by rw [List.length_take]; omega
 have hX := A41 k G
 have hWl := B1s k
 rw [hp] at hX hWl
 have hsk : P5 k a s = T2 k a s := A0m (by omega)
 obtain ⟨C, hC⟩ : ∃ C, (O1 k).2.1 = C := ⟨_, rfl⟩
 obtain ⟨Q, hQ⟩ : ∃ Q, (O1 k).1 = Q := ⟨_, rfl⟩
 rw [hC] at hWl hX
 rw [hQ] at hX
 obtain ⟨ps, cs, es, pe, ce, ee, pf, cf, ef, rfl, hrs, hse, hre, hrf⟩ := hM
 have hPop := A49 b 2 s.st.length cs (.int .i64 s.at') (.slice pe s.env.length ce) (.slice pf s.fr.length cf) ps es G (by omega) (by omega) hrs.len hrs.all hrs.ones ⟨rfl, rfl, rfl⟩
 have hrd := hrs.drop (s.st.length - 2)
 have hrt := hrs.take (s.st.length - 2)
 rw [hd] at hrd
 refine B6 Tryz.func70 rfl Tryz.ntmps70 Tryz.results70 rfl ?_
 intro w0
 refine tS (tR ?_)
 refine sE (E2 rfl rfl) rfl (fun b3 => ?_)
 refine E1 ?_
 refine H6 rfl (hX) rfl rfl ?_
 refine J5 ?_
 (refine C6 rfl hPop (Pk2 (by repeat (first | exact Pk.here | apply Pk.there)) (by repeat (first | exact Pk.here | apply Pk.there))) rfl rfl (fun v G1 outs hle1 hh => ?_); unfold A0M at hh; rw [if_neg (by omega)] at hh; obtain ⟨q, d, rfl, rfl, hslV⟩ := hh; have hrV := hrd.mono hle1; replace hrt := hrt.mono hle1; replace hse := hse.mono hle1; replace hre := hre.mono hle1; replace hrf := hrf.mono hle1; obtain ⟨b0, o0, q0, dd0, q0', dd0', rfl, hv0at, hv0, hg0⟩ := hslV.mvAt hrV (i := 0) (t := v0) rfl; obtain ⟨b1, o1, q1, dd1, q1', dd1', hp1, hv1at, hv1, hg1⟩ := hslV.mvAt hrV (i := 1) (t := v1) rfl; cases hp1)
 refine A0S ?_
 (refine sP (A1O (l := C) rfl rfl rfl (by have := hslV.sl.2.1; omega)) rfl rfl ?_)
 refine sQ (W0 rfl rfl) rfl (sQ (qM rfl) rfl (sD (nS ?_)))
 refine B2 ?_
 (refine J8 (fun (i : Nat) => ⟨[(37, .int .i64 (i : Int)), (36, .int .i64 (C : Int)), (35, .slice (some ⟨b0, o0, none⟩) C d), (7, .int .i64 Q), (9, .int .i64 (O1 k).2.2), (10, .slice (some ⟨b0, o0, none⟩) 2 d), (3, .pointer (some ⟨b3, 0, none⟩)), (0, .pointer (some ⟨b, 0, none⟩))], [.blk b3 [.int .i64 k, .int .i64 a], .blk b [.int .i64 s.at', .slice ps (s.st.length - 2) cs, .slice pe s.env.length ce, .slice pf s.fr.length cf], .slc ps cs 82 4 (s.st.length - 2) (es.take (s.st.length - 2)).flatten, .slc pf cf 135 2 s.fr.length ef.flatten], G1⟩) (fun i => i ≤ C ∧ ∀ j, j < i → ([v0, v1].getD j R0).k = Q) (fun i => C - i) 0 ?_ ?_ ?_)
 exact C2
 (exact ⟨Nat.zero_le _, by omega⟩)
 (rintro i ⟨hi, hK⟩)
 refine tS (tR ?_)
 refine sB (I7 rfl rfl) rfl rfl (fun h63 => ?_) (fun h63 => ?_)
 refine sD (nS (tS (qT rfl (tK (nS (tS ?_))))))
 refine B2 ?_
 refine tS (tR ?_)
 (have hiC : i < 2 := (by omega); obtain ⟨b2, o2, q2, dd2, q2', dd2', hp2, hvat, hv2, hg2⟩ := hslV.mvAt hrV (i := i) (A2D (d := R0) (by simpa using hiC)); cases hp2; refine sP (B3 (j := i) rfl rfl rfl (by omega)) rfl rfl ?_)
 refine sL (A6 rfl rfl (hvat _) rfl) rfl rfl ?_
 refine sE (B0 rfl) rfl (fun b76 => ?_)
 refine E1 ?_
 refine sB (X4 rfl rfl) rfl rfl (fun h85 => ?_) (fun h85 => ?_)
 refine N9 ?_
 refine Z2 (b := b) (rT rfl) (rT rfl) (by repeat (first | exact Pk.here | apply Pk.there)) (by repeat (first | exact Pk.here | apply Pk.there)) (by repeat (first | exact Pk.here | apply Pk.there)) ?_
 (exact S6.no (by rw [hsk]; exact B1u (V := [v0, v1]) (by rw [hp]; exact hd) (B1t (j := i) (by omega) (by rw [hC]; exact hWl) (by rw [hQ]; assumption))))
 refine sD (nS (cF rfl (tK (M2 (nS (tR ?_))))))
 refine sP (H2 rfl rfl (by omega) (by omega)) rfl rfl ?_
 refine sQ (qM rfl) rfl (sD ?_)
 refine J4 (i + 1) ?_ ?_ ?_
 exact C2
 (refine ⟨by omega, fun j hj2 => ?_⟩; rcases Nat.lt_or_ge j i with h5 | h5; exact hK j h5; obtain rfl : j = i := (by omega); exact Classical.not_not.1 (by assumption))
 (show C - (i + 1) < C - i; omega)
 refine L4 ?_
 refine sQ (I4 rfl) rfl ?_
 refine sQ (B1 rfl) rfl (sL (D4 rfl rfl) rfl rfl ?_)
 refine sP (H2 rfl rfl (by omega) (by omega)) rfl rfl ?_
 refine sQ (I4 rfl) rfl ?_
 refine J3 ?_
 refine B2 ?_
 refine tS (tR ?_)
 refine sP (K9 rfl rfl (by omega)) rfl rfl ?_
 refine sQ (qA rfl) rfl (sD (nS (cF rfl (tS (tR ?_)))))
 refine sP (K9 rfl rfl (by omega)) rfl rfl ?_
 refine sQ (qA rfl) rfl (sD (nS (cF rfl (tS (tR ?_)))))
 refine sP (K9 rfl rfl (by omega)) rfl rfl ?_
 refine sQ (qA rfl) rfl (sD (nS (cF rfl (tS (tR ?_)))))
 refine sP (K9 rfl rfl (by omega)) rfl rfl ?_
 refine sQ (qA rfl) rfl (sD (nS (cF rfl (tS (tR ?_)))))
 refine sP (K9 rfl rfl (by omega)) rfl rfl ?_
 refine sQ (qA rfl) rfl (sD (nS (cF rfl (tS (tR ?_)))))
 refine sB (qE rfl rfl) rfl rfl (fun h184 => ?_) (fun h184 => ?_)
 refine sQ (qA rfl) rfl (sD (nS (qT rfl (tS ?_))))
 refine D7 D8 rfl ?_
 refine H4 (i := 0) (l' := [tt,ff,ff,ff,ff,ff,ff,ff,ff,ff,ff,ff,ff,ff,ff,ff,ff,ff,ff]) rfl D3 (qM rfl) rfl (by kernel_rfl) rfl rfl ?_
 refine aP 1 rfl (qM rfl) rfl ?_
 refine aP 2 rfl (I4 rfl) rfl ?_
 refine aP 3 rfl (B1 rfl) rfl ?_
 refine aL 4 rfl (D4 rfl rfl) rfl ?_
 refine aP 5 rfl (qM rfl) rfl ?_
 refine aP 6 rfl (I4 rfl) rfl ?_
 refine aP 7 rfl (B1 rfl) rfl ?_
 refine aL 8 rfl (D4 rfl rfl) rfl ?_
 refine aP 9 rfl (qM rfl) rfl ?_
 refine aP 10 rfl (I4 rfl) rfl ?_
 refine aP 11 rfl (B1 rfl) rfl ?_
 refine aL 12 rfl (D4 rfl rfl) rfl ?_
 refine aP 13 rfl (R6 rfl rfl) rfl ?_
 refine A2 14 ?_
 (refine D6 rfl (B4 rfl rfl rfl (by omega) (by unfold maxLen; omega) rfl) rfl rfl ?_; rintro _ ⟨b206, rfl⟩)
 refine A2 15 ?_
 (refine Q9 rfl rfl rfl rfl rfl rfl (fun _ _ => by repeat (first | exact Sw.here | apply Sw.there)) (J9 (by repeat first | exact mH | apply mT)) rfl (by simp [Value.oneCell']) (by unfold maxLen; omega) (by omega) rfl rfl (by repeat (first | exact A4.nil | apply A4.dep (by decide +kernel) | apply A4.im (by decide +kernel) (by assumption) (by repeat first | exact mH | apply mT) | apply A4.blk (by decide +kernel) (by repeat (first | exact Pk.here | apply Pk.there)) (by repeat first | exact mH | apply mT))) (fun p5 c5 => ?_))
 refine aP 16 rfl (I4 rfl) rfl ?_
 refine aP 17 rfl (B1 rfl) rfl ?_
 refine A2 18 ?_
 refine R2 rfl rfl rfl rfl rfl rfl rfl rfl (by decide +kernel) (by repeat first | exact Sw.here | apply Sw.there) (by rfl) ?_
 refine B9 (nS (tS ?_))
 refine D7 D8 rfl ?_
 refine H4 (i := 0) (l' := [tt,ff,ff,ff,ff,ff,ff,ff,ff,ff,ff,ff,ff,ff]) rfl D3 (qM rfl) rfl (by kernel_rfl) rfl rfl ?_
 refine aP 1 rfl (qM rfl) rfl ?_
 refine aP 2 rfl (B3 (j := 0) rfl rfl rfl (by omega)) rfl ?_
 refine aP 3 rfl (qF rfl) rfl ?_
 refine aL 4 rfl (Q8 rfl rfl ((hv0at _).sub (j := 2) rfl)) rfl ?_
 refine aP 6 rfl (qM rfl) rfl ?_
 refine aP 7 rfl (B3 (j := 1) rfl rfl rfl (by omega)) rfl ?_
 refine aL 8 rfl (A6 rfl rfl (hv1at _) rfl) rfl ?_
 refine U7 (j := 5) (j' := 9) (by kernel_rfl) ?_ ?_
 (obtain ⟨e0, f0, hse0, hre0, _, _⟩ := hv0.kids; refine A4B rfl rfl (A9d _ _ _ _ _ hse0 (by omega)) rfl rfl rfl (fun v226 G226 outs226 hle226 h226 => ?_); obtain ⟨hG, p1, c1', rfl, rfl⟩ := h226; replace hG := hG.symm; subst hG)
 replace hse := hse.mono hle226
 replace hslV := hslV.mono hle226
 replace hse0 := hse0.mono hle226
 refine A2 9 ?_
 (refine D6 rfl (B4 rfl rfl rfl (by omega) (by unfold maxLen; omega) rfl) rfl rfl ?_; rintro _ ⟨b228, rfl⟩)
 refine A2 10 ?_
 (refine Q9 rfl rfl rfl rfl rfl rfl (fun _ _ => by repeat (first | exact Sw.here | apply Sw.there)) (J9 (by repeat first | exact mH | apply mT)) rfl (by simp [Value.oneCell']) (by unfold maxLen; omega) (by omega) rfl rfl (by repeat (first | exact A4.nil | apply A4.dep (by decide +kernel) | apply A4.im (by decide +kernel) (by assumption) (by repeat first | exact mH | apply mT) | apply A4.blk (by decide +kernel) (by repeat (first | exact Pk.here | apply Pk.there)) (by repeat first | exact mH | apply mT))) (fun p5 c5 => ?_); refine A23 (cs := e0.flatten ++ [.int .i64 (kI v1.k), .int .i64 v1.num, .slice q1 v1.env.length dd1, .slice q1' v1.parts.length dd1']) (by repeat (first | exact Pk.here | apply Pk.there)) (fun Gg hleG hslG hnoG => ?_); have hslE := C0.of (es := e0 ++ [[.int .i64 (kI v1.k), .int .i64 v1.num, .slice q1 v1.env.length dd1, .slice q1' v1.parts.length dd1']]) (by simpa using hslG) (by simp [hse0.len]) (A1b hse0.all rfl) (A1b hse0.one rfl); have hrE := (hre0.mono hleG).snoc (hv1.mono hleG); replace hv0at := (fun (hp : List A1) => At.mono' (hp := hp) hleG (hv0at [])))
 refine aP 11 rfl (I4 rfl) rfl ?_
 refine aP 12 rfl (B1 rfl) rfl ?_
 refine A2 13 ?_
 refine R2 rfl rfl rfl rfl rfl rfl rfl rfl (by decide +kernel) (by repeat first | exact Sw.here | apply Sw.there) (by rfl) ?_
 refine B9 (nS (tR (sQ (qM rfl) rfl (sQ (qM rfl) rfl ?_))))
 refine sP (B3 (j := 0) rfl rfl rfl (by omega)) rfl rfl ?_
 refine sQ (qF rfl) rfl ?_
 refine sL (Q8 rfl rfl ((hv0at _).sub (j := 1) rfl)) rfl rfl ?_
 refine sQ (I4 rfl) rfl ?_
 refine L4 ?_
 refine Z2 (b := b) (rT rfl) (rT rfl) (by repeat (first | exact Pk.here | apply Pk.there)) (by repeat (first | exact Pk.here | apply Pk.there)) (by repeat (first | exact Pk.here | apply Pk.there)) ?_
 (obtain rfl : k = 6 := (by omega); exact S6.go (by rw [hsk, A4P hd, if_pos (B1v hK (by omega) hC hQ)]) (Mc.mk htl.symm rfl (hrt.mono hleG) (by simp) hslE hrE (by simp) (E7 _ _).symm ((hrf.mono hleG).snoc (RFr.mk ⟨by omega, by omega⟩ rfl (hse.mono hleG) (hre.mono hleG)))))
 (refine D6 rfl (B4 rfl rfl rfl (by omega) (by unfold maxLen; omega) rfl) rfl rfl ?_; rintro _ ⟨b258, rfl⟩)
 refine A2 5 ?_
 (obtain ⟨e0, f0, hse0, hre0, _, _⟩ := hv0.kids; refine A4B rfl rfl (A9d _ _ _ _ _ hse0 (by omega)) rfl rfl rfl (fun v260 G260 outs260 hle260 h260 => ?_); obtain ⟨hG, p1, c1', rfl, rfl⟩ := h260; replace hG := hG.symm; subst hG)
 replace hse := hse.mono hle260
 replace hslV := hslV.mono hle260
 replace hse0 := hse0.mono hle260
 refine A2 10 ?_
 (refine Q9 rfl rfl rfl rfl rfl rfl (fun _ _ => by repeat (first | exact Sw.here | apply Sw.there)) (J9 (by repeat first | exact mH | apply mT)) rfl (by simp [Value.oneCell']) (by unfold maxLen; omega) (by omega) rfl rfl (by repeat (first | exact A4.nil | apply A4.dep (by decide +kernel) | apply A4.im (by decide +kernel) (by assumption) (by repeat first | exact mH | apply mT) | apply A4.blk (by decide +kernel) (by repeat (first | exact Pk.here | apply Pk.there)) (by repeat first | exact mH | apply mT))) (fun p5 c5 => ?_); refine A23 (cs := e0.flatten ++ [.int .i64 (kI v1.k), .int .i64 v1.num, .slice q1 v1.env.length dd1, .slice q1' v1.parts.length dd1']) (by repeat (first | exact Pk.here | apply Pk.there)) (fun Gg hleG hslG hnoG => ?_); have hslE := C0.of (es := e0 ++ [[.int .i64 (kI v1.k), .int .i64 v1.num, .slice q1 v1.env.length dd1, .slice q1' v1.parts.length dd1']]) (by simpa using hslG) (by simp [hse0.len]) (A1b hse0.all rfl) (A1b hse0.one rfl); have hrE := (hre0.mono hleG).snoc (hv1.mono hleG); replace hv0at := (fun (hp : List A1) => At.mono' (hp := hp) hleG (hv0at [])))
 refine aP 11 rfl (I4 rfl) rfl ?_
 refine aP 12 rfl (B1 rfl) rfl ?_
 refine A2 13 ?_
 refine R2 rfl rfl rfl rfl rfl rfl rfl rfl (by decide +kernel) (by repeat first | exact Sw.here | apply Sw.there) (by rfl) ?_
 refine B9 (nS (tR (sQ (qM rfl) rfl (sQ (qM rfl) rfl ?_))))
 refine sP (B3 (j := 0) rfl rfl rfl (by omega)) rfl rfl ?_
 refine sQ (qF rfl) rfl ?_
 refine sL (Q8 rfl rfl ((hv0at _).sub (j := 1) rfl)) rfl rfl ?_
 refine sQ (I4 rfl) rfl ?_
 refine L4 ?_
 refine Z2 (b := b) (rT rfl) (rT rfl) (by repeat (first | exact Pk.here | apply Pk.there)) (by repeat (first | exact Pk.here | apply Pk.there)) (by repeat (first | exact Pk.here | apply Pk.there)) ?_
 (obtain rfl : k = 6 := (by omega); exact S6.go (by rw [hsk, A4P hd, if_pos (B1v hK (by omega) hC hQ)]) (Mc.mk htl.symm rfl (hrt.mono hleG) (by simp) hslE hrE (by simp) (E7 _ _).symm ((hrf.mono hleG).snoc (RFr.mk ⟨by omega, by omega⟩ rfl (hse.mono hleG) (hre.mono hleG)))))
 refine sQ (qA rfl) rfl (sD (nS (cF rfl (tS (tR ?_)))))
 refine sB (qE rfl rfl) rfl rfl (fun h296 => ?_) (fun h296 => ?_)
 refine sQ (qA rfl) rfl (sD (nS (qT rfl ?_)))
 refine D7 D8 rfl ?_
 refine H4 (i := 0) (l' := [tt,ff,ff,ff,ff,ff,ff,ff,ff,ff,ff,ff,ff]) rfl D3 (qM rfl) rfl (by kernel_rfl) rfl rfl ?_
 refine aP 1 rfl (qM rfl) rfl ?_
 refine aP 2 rfl (B3 (j := 0) rfl rfl rfl (by omega)) rfl ?_
 refine aP 3 rfl (qF rfl) rfl ?_
 refine aL 4 rfl (Q8 rfl rfl ((hv0at _).sub (j := 1) rfl)) rfl ?_
 refine aP 5 rfl (qM rfl) rfl ?_
 refine aP 6 rfl (B3 (j := 1) rfl rfl rfl (by omega)) rfl ?_
 refine aP 7 rfl (qF rfl) rfl ?_
 refine aL 8 rfl (Q8 rfl rfl ((hv1at _).sub (j := 1) rfl)) rfl ?_
 refine aP 9 rfl (H2 rfl rfl (by omega) (by omega)) rfl ?_
 refine aP 10 rfl (A4w rfl rfl (by omega)) rfl ?_
 refine A2 11 ?_
 refine S4 rfl rfl ((A30 _ _ _)) rfl rfl rfl ?_
 refine A2 12 ?_
 (refine A3Z (l' := [tt,tt,tt,tt,tt,tt,tt,tt,tt,tt,tt,tt,tt]) rfl rfl (A1V _ (s.st.length - 2) _ _ _ _ _ _ _ _ _ _ _ (by omega) rfl) (Pk2 (by repeat (first | exact Pk.here | apply Pk.there)) (by repeat (first | exact Pk.here | apply Pk.there))) rfl rfl rfl (by kernel_rfl) (fun v G3 outs hle3 hh => ?_); obtain ⟨hG, rfl, p7, c7, rfl⟩ := hh; subst hG)
 refine H9 ?_
 refine Z2 (b := b) (rT rfl) (rT rfl) (by repeat (first | exact Pk.here | apply Pk.there)) (by repeat (first | exact Pk.here | apply Pk.there)) (by repeat (first | exact Pk.here | apply Pk.there)) ?_
 (obtain rfl : k = 7 := (by omega); exact S6.go (by rw [hsk, A6q hd, if_pos (A7C (.inl rfl) hK (by omega) hC hQ), ← B1r ⟨c3, c4⟩ ⟨d3, d4⟩]) (Mc.mk (by rw [List.length_append, htl]; rfl) (E7 _ _).symm (hrt.snoc (Q4.leaf (k := 0) (num := (v0.num + v1.num).tmod 1000) (by have := B1r ⟨c3, c4⟩ ⟨d3, d4⟩; unfold C1; omega) ⟨by decide, by decide⟩)) rfl hse hre rfl rfl hrf))
 refine sQ (qA rfl) rfl (sD (nS (cF rfl (tS (tR ?_)))))
 refine sB (qE rfl rfl) rfl rfl (fun h335 => ?_) (fun h335 => ?_)
 refine J3 ?_
 refine D7 D8 rfl ?_
 refine H4 (i := 0) (l' := [tt,ff,ff,ff,ff,ff,ff,ff,ff]) rfl D3 (qM rfl) rfl (by kernel_rfl) rfl rfl ?_
 refine aP 1 rfl (B3 (j := 0) rfl rfl rfl (by omega)) rfl ?_
 refine aP 2 rfl (qF rfl) rfl ?_
 refine aL 3 rfl (Q8 rfl rfl ((hv0at _).sub (j := 1) rfl)) rfl ?_
 refine aP 4 rfl (qM rfl) rfl ?_
 refine aP 5 rfl (B3 (j := 1) rfl rfl rfl (by omega)) rfl ?_
 refine aP 6 rfl (qF rfl) rfl ?_
 refine aL 7 rfl (Q8 rfl rfl ((hv1at _).sub (j := 1) rfl)) rfl ?_
 refine A2t (i := 8) (l' := [tt,tt,tt,tt,tt,tt,tt,tt,tt]) rfl D3 (I7 rfl rfl) rfl (by kernel_rfl) rfl rfl (fun h356 => ?_) (fun h356 => ?_)
 refine H9 ?_
 refine H6 rfl ((A30 _ _ _)) rfl rfl ?_
 (refine C6 rfl (A1V _ (s.st.length - 2) _ _ _ _ _ _ _ _ _ _ _ (by omega) rfl) (Pk2 (by repeat (first | exact Pk.here | apply Pk.there)) (by repeat (first | exact Pk.here | apply Pk.there))) rfl rfl (fun v G3 outs hle3 hh => ?_); obtain ⟨hG, rfl, p7, c7, rfl⟩ := hh; subst hG)
 refine H9 ?_
 refine Z2 (b := b) (rT rfl) (rT rfl) (by repeat (first | exact Pk.here | apply Pk.there)) (by repeat (first | exact Pk.here | apply Pk.there)) (by repeat (first | exact Pk.here | apply Pk.there)) ?_
 (obtain rfl : k = 8 := (by omega); have hlt : v0.num < v1.num := (by omega); exact S6.go (by rw [hsk, A4Q hd, if_pos (A7C (.inr rfl) hK (by omega) hC hQ), if_pos hlt]) (Mc.mk (by rw [List.length_append, htl]; rfl) (E7 _ _).symm (hrt.snoc (Q4.leaf (k := 1) (num := 1) ⟨by decide, by decide⟩ ⟨by decide, by decide⟩)) rfl hse hre rfl rfl hrf))
 refine E1 ?_
 refine H6 rfl ((A30 _ _ _)) rfl rfl ?_
 (refine C6 rfl (A1V _ (s.st.length - 2) _ _ _ _ _ _ _ _ _ _ _ (by omega) rfl) (Pk2 (by repeat (first | exact Pk.here | apply Pk.there)) (by repeat (first | exact Pk.here | apply Pk.there))) rfl rfl (fun v G3 outs hle3 hh => ?_); obtain ⟨hG, rfl, p7, c7, rfl⟩ := hh; subst hG)
 refine H9 ?_
 refine Z2 (b := b) (rT rfl) (rT rfl) (by repeat (first | exact Pk.here | apply Pk.there)) (by repeat (first | exact Pk.here | apply Pk.there)) (by repeat (first | exact Pk.here | apply Pk.there)) ?_
 (obtain rfl : k = 8 := (by omega); have hlt : ¬v0.num < v1.num := (by omega); exact S6.go (by rw [hsk, A4Q hd, if_pos (A7C (.inr rfl) hK (by omega) hC hQ), if_neg hlt]) (Mc.mk (by rw [List.length_append, htl]; rfl) (E7 _ _).symm (hrt.snoc (Q4.leaf (k := 1) (num := 0) ⟨by decide, by decide⟩ ⟨by decide, by decide⟩)) rfl hse hre rfl rfl hrf))
 refine sQ (qA rfl) rfl (sD (nS (cF rfl (tS (tR ?_)))))
 refine sP (K9 rfl rfl (by omega)) rfl rfl ?_
 refine sQ (qA rfl) rfl (sD (nS (cF rfl (tS (tR ?_)))))
 refine sP (K9 rfl rfl (by omega)) rfl rfl ?_
 refine sQ (qA rfl) rfl (sD (nS (cF rfl (tS (tR ?_)))))
 refine sP (A1i rfl rfl (by omega)) rfl rfl ?_
 refine E1 ?_
 (refine C6 rfl (A1V _ (s.st.length - 2) _ _ _ _ _ _ _ _ _ _ _ (by omega) rfl) (Pk2 (by repeat (first | exact Pk.here | apply Pk.there)) (by repeat (first | exact Pk.here | apply Pk.there))) rfl rfl (fun v G3 outs hle3 hh => ?_); obtain ⟨hG, rfl, p7, c7, rfl⟩ := hh; subst hG)
 refine H9 ?_
 refine Z2 (b := b) (rT rfl) (rT rfl) (by repeat (first | exact Pk.here | apply Pk.there)) (by repeat (first | exact Pk.here | apply Pk.there)) (by repeat (first | exact Pk.here | apply Pk.there)) ?_
 (obtain rfl : k = 11 := (by omega); exact S6.go (by rw [hsk, A6r hd]) (Mc.mk (by rw [List.length_append, htl]; rfl) (E7 _ _).symm (hrt.snoc (Q4.mk (k := 3) (num := 0) (env := []) (parts := [v0, v1]) ⟨by decide, by decide⟩ ⟨by decide, by decide⟩ rfl rfl (C0.nil _ 4) rfl hslV hrV)) rfl hse hre rfl rfl hrf))
theorem B1w {i C : Nat} {Q : Int} {v0 : MV} (hK : ∀ j, j < i → ([v0].getD j R0).k = Q) (hi : C ≤ i) (hC : (O1 9).2.1 = C) (hQ : (O1 9).1 = Q) : v0.k = 1 := by
 have hC1 : C = 1 := hC.symm
 have hQ1 : Q = 1 := hQ.symm
 have := hK 0 (by omega)
 rw [hQ1] at this; exact this
theorem B7t {k : Int} {i C : Nat} {Q : Int} {v0 : MV} (hk : k = 12 ∨ k = 13) (hK : ∀ j, j < i → ([v0].getD j R0).k = Q) (hi : C ≤ i) (hC : (O1 k).2.1 = C) (hQ : (O1 k).1 = Q) : v0.k = 3 := by
 have hC1 : C = 1 := by rcases hk with rfl | rfl <;> exact hC.symm
 have hQ1 : Q = 3 := by rcases hk with rfl | rfl <;> exact hQ.symm
 have := hK 0 (by omega)
 rw [hQ1] at this; exact this
theorem B7u (k a : Int) (s : N7) (b n N : Nat) (v0 : MV) (G : IM) (hp0 : List A1) (hk : k = 9 ∨ k = 12 ∨ k = 13) (hn : n ≤ 120) (hN : N ≤ 2000) (ho : s.ok n N) (hd : s.st.drop (s.st.length - 1) = [v0]) (hat : s.at' < n) (hop : O2 n s.at'.toNat (k, a) = true) (hl : 1 ≤ s.st.length) (hM : Mc G s b hp0) :
  Fn Tryz.prog 70 [.pointer (some ⟨b, 0, none⟩), .agg ⟨[.int .i64 k, .int .i64 a]⟩] hp0 G (S6 (P5 k a s) b) := by
 have hp : L5 k = 1 := A6o hk
 have hlo := ho.lo; have hhi := ho.hi; have hst := ho.st; have henv := ho.env; have hfr := ho.fr
 obtain ⟨c1, c2, c3, c4, c5, c6, c7, c8, _, _⟩ := (ho.sto v0 (List.mem_of_mem_drop (i := s.st.length - 1) (by rw [hd]; simp))).spec
 obtain ⟨_, _, a1, a2, _, _, _, b4⟩ := A4V hop (by omega)
 have htl : (s.st.take (s.st.length - 1)).length = s.st.length - 1 := by rw [List.length_take]; omega
 have hX := A41 k G
 have hWl := B1s k
 rw [hp] at hX hWl
 have hsk : P5 k a s = T2 k a s := A0m (by omega)
 obtain ⟨C, hC⟩ : ∃ C, (O1 k).2.1 = C := ⟨_, rfl⟩
 obtain ⟨Q, hQ⟩ : ∃ Q, (O1 k).1 = Q := ⟨_, rfl⟩
 rw [hC] at hWl hX
 rw [hQ] at hX
 obtain ⟨ps, cs, es, pe, ce, ee, pf, cf, ef, rfl, hrs, hse, hre, hrf⟩ := hM
 have hPop := A49 b 1 s.st.length cs (.int .i64 s.at') (.slice pe s.env.length ce) (.slice pf s.fr.length cf) ps es G (by omega) (by omega) hrs.len hrs.all hrs.ones ⟨rfl, rfl, rfl⟩
 have hrd := hrs.drop (s.st.length - 1)
 have hrt := hrs.take (s.st.length - 1)
 rw [hd] at hrd
 refine B6 Tryz.func70 rfl Tryz.ntmps70 Tryz.results70 rfl ?_
 intro w0
 refine tS (tR ?_)
 refine sE (E2 rfl rfl) rfl (fun b3 => ?_)
 refine E1 ?_
 refine H6 rfl (hX) rfl rfl ?_
 refine J5 ?_
 (refine C6 rfl hPop (Pk2 (by repeat (first | exact Pk.here | apply Pk.there)) (by repeat (first | exact Pk.here | apply Pk.there))) rfl rfl (fun v G1 outs hle1 hh => ?_); unfold A0M at hh; rw [if_neg (by omega)] at hh; obtain ⟨q, d, rfl, rfl, hslV⟩ := hh; have hrV := hrd.mono hle1; replace hrt := hrt.mono hle1; replace hse := hse.mono hle1; replace hre := hre.mono hle1; replace hrf := hrf.mono hle1; obtain ⟨b0, o0, q0, dd0, q0', dd0', rfl, hv0at, hv0, hg0⟩ := hslV.mvAt hrV (i := 0) (t := v0) rfl)
 refine A0S ?_
 (refine sP (A1O (l := C) rfl rfl rfl (by have := hslV.sl.2.1; omega)) rfl rfl ?_)
 refine sQ (W0 rfl rfl) rfl (sQ (qM rfl) rfl (sD (nS ?_)))
 refine B2 ?_
 (refine J8 (fun (i : Nat) => ⟨[(37, .int .i64 (i : Int)), (36, .int .i64 (C : Int)), (35, .slice (some ⟨b0, o0, none⟩) C d), (7, .int .i64 Q), (9, .int .i64 (O1 k).2.2), (10, .slice (some ⟨b0, o0, none⟩) 1 d), (3, .pointer (some ⟨b3, 0, none⟩)), (0, .pointer (some ⟨b, 0, none⟩))], [.blk b3 [.int .i64 k, .int .i64 a], .blk b [.int .i64 s.at', .slice ps (s.st.length - 1) cs, .slice pe s.env.length ce, .slice pf s.fr.length cf], .slc ps cs 82 4 (s.st.length - 1) (es.take (s.st.length - 1)).flatten, .slc pf cf 135 2 s.fr.length ef.flatten], G1⟩) (fun i => i ≤ C ∧ ∀ j, j < i → ([v0].getD j R0).k = Q) (fun i => C - i) 0 ?_ ?_ ?_)
 exact C2
 (exact ⟨Nat.zero_le _, by omega⟩)
 (rintro i ⟨hi, hK⟩)
 refine tS (tR ?_)
 refine sB (I7 rfl rfl) rfl rfl (fun h63 => ?_) (fun h63 => ?_)
 refine sD (nS (tS (qT rfl (tK (nS (tS ?_))))))
 refine B2 ?_
 refine tS (tR ?_)
 (have hiC : i < 1 := (by omega); obtain ⟨b2, o2, q2, dd2, q2', dd2', hp2, hvat, hv2, hg2⟩ := hslV.mvAt hrV (i := i) (A2D (d := R0) (by simpa using hiC)); cases hp2; refine sP (B3 (j := i) rfl rfl rfl (by omega)) rfl rfl ?_)
 refine sL (A6 rfl rfl (hvat _) rfl) rfl rfl ?_
 refine sE (B0 rfl) rfl (fun b76 => ?_)
 refine E1 ?_
 refine sB (X4 rfl rfl) rfl rfl (fun h85 => ?_) (fun h85 => ?_)
 refine N9 ?_
 refine Z2 (b := b) (rT rfl) (rT rfl) (by repeat (first | exact Pk.here | apply Pk.there)) (by repeat (first | exact Pk.here | apply Pk.there)) (by repeat (first | exact Pk.here | apply Pk.there)) ?_
 (exact S6.no (by rw [hsk]; exact B1u (V := [v0]) (by rw [hp]; exact hd) (B1t (j := i) (by omega) (by rw [hC]; exact hWl) (by rw [hQ]; assumption))))
 refine sD (nS (cF rfl (tK (M2 (nS (tR ?_))))))
 refine sP (H2 rfl rfl (by omega) (by omega)) rfl rfl ?_
 refine sQ (qM rfl) rfl (sD ?_)
 refine J4 (i + 1) ?_ ?_ ?_
 exact C2
 (refine ⟨by omega, fun j hj2 => ?_⟩; rcases Nat.lt_or_ge j i with h5 | h5; exact hK j h5; obtain rfl : j = i := (by omega); exact Classical.not_not.1 (by assumption))
 (show C - (i + 1) < C - i; omega)
 refine L4 ?_
 refine sQ (I4 rfl) rfl ?_
 refine sQ (B1 rfl) rfl (sL (D4 rfl rfl) rfl rfl ?_)
 refine sP (H2 rfl rfl (by omega) (by omega)) rfl rfl ?_
 refine sQ (I4 rfl) rfl ?_
 refine J3 ?_
 refine B2 ?_
 refine tS (tR ?_)
 refine sP (K9 rfl rfl (by omega)) rfl rfl ?_
 refine sQ (qA rfl) rfl (sD (nS (cF rfl (tS (tR ?_)))))
 refine sP (K9 rfl rfl (by omega)) rfl rfl ?_
 refine sQ (qA rfl) rfl (sD (nS (cF rfl (tS (tR ?_)))))
 refine sP (K9 rfl rfl (by omega)) rfl rfl ?_
 refine sQ (qA rfl) rfl (sD (nS (cF rfl (tS (tR ?_)))))
 refine sP (K9 rfl rfl (by omega)) rfl rfl ?_
 refine sQ (qA rfl) rfl (sD (nS (cF rfl (tS (tR ?_)))))
 refine sP (K9 rfl rfl (by omega)) rfl rfl ?_
 refine sQ (qA rfl) rfl (sD (nS (cF rfl (tS (tR ?_)))))
 refine sP (K9 rfl rfl (by omega)) rfl rfl ?_
 refine sQ (qA rfl) rfl (sD (nS (cF rfl (tS (tR ?_)))))
 refine sP (K9 rfl rfl (by omega)) rfl rfl ?_
 refine sQ (qA rfl) rfl (sD (nS (cF rfl (tS (tR ?_)))))
 refine sP (K9 rfl rfl (by omega)) rfl rfl ?_
 refine sQ (qA rfl) rfl (sD (nS (cF rfl (tS (tR ?_)))))
 refine sB (qE rfl rfl) rfl rfl (fun h205 => ?_) (fun h205 => ?_)
 refine C5 ?_
 refine sP (B3 (j := 0) rfl rfl rfl (by omega)) rfl rfl ?_
 refine sQ (qF rfl) rfl ?_
 refine sL (Q8 rfl rfl ((hv0at _).sub (j := 1) rfl)) rfl rfl ?_
 refine sB (qE rfl rfl) rfl rfl (fun h216 => ?_) (fun h216 => ?_)
 refine sD (nS (qT rfl ?_))
 refine D7 D8 rfl ?_
 refine H4 (i := 0) (l' := [tt,ff,ff,ff,ff,ff,ff,ff,ff,ff]) rfl D3 (qM rfl) rfl (by kernel_rfl) rfl rfl ?_
 refine aP 1 rfl (I4 rfl) rfl ?_
 refine aP 2 rfl (B1 rfl) rfl ?_
 refine aL 3 rfl (D4 rfl rfl) rfl ?_
 refine aP 4 rfl (B1 rfl) rfl ?_
 refine aL 5 rfl (D4 rfl rfl) rfl ?_
 refine aP 6 rfl (H2 rfl rfl (by omega) (by omega)) rfl ?_
 refine aP 7 rfl (I4 rfl) rfl ?_
 refine aP 8 rfl (B1 rfl) rfl ?_
 refine A2 9 ?_
 refine H3 rfl ?_
 refine H9 ?_
 refine Z2 (b := b) (rT rfl) (rT rfl) (by repeat (first | exact Pk.here | apply Pk.there)) (by repeat (first | exact Pk.here | apply Pk.there)) (by repeat (first | exact Pk.here | apply Pk.there)) ?_
 (obtain rfl : k = 9 := (by omega); exact S6.go (by rw [hsk, A4R hd, if_pos (B1w hK (by omega) hC hQ), if_pos (by omega)]) (Mc.mk htl.symm rfl hrt rfl hse hre rfl rfl hrf))
 refine L7 ?_
 refine Z2 (b := b) (rT rfl) (rT rfl) (by repeat (first | exact Pk.here | apply Pk.there)) (by repeat (first | exact Pk.here | apply Pk.there)) (by repeat (first | exact Pk.here | apply Pk.there)) ?_
 (obtain rfl : k = 9 := (by omega); exact S6.go (by rw [hsk, A4R hd, if_pos (B1w hK (by omega) hC hQ), if_neg (by omega)]) (Mc.mk htl.symm rfl hrt rfl hse hre rfl rfl hrf))
 refine sQ (qA rfl) rfl (sD (nS (cF rfl (tS (tR ?_)))))
 refine sP (K9 rfl rfl (by omega)) rfl rfl ?_
 refine sQ (qA rfl) rfl (sD (nS (cF rfl (tS (tR ?_)))))
 refine sP (K9 rfl rfl (by omega)) rfl rfl ?_
 refine sQ (qA rfl) rfl (sD (nS (cF rfl ?_)))
 (have hk12 : k = 12 ∨ k = 13 := (by omega); have hk3 : v0.k = 3 := B7t hk12 hK (by omega) hC hQ; have hpl : v0.parts.length = 2 := c7 hk3; obtain ⟨_, f0, _, _, hsp0, hrp0⟩ := hv0.kids; have hkn : (k - 12).toNat < v0.parts.length := (by omega); obtain ⟨b2, o2, q2, dd2, q2', dd2', rfl, hvpat, hvp, hgp⟩ := hsp0.mvAt hrp0 (i := (k - 12).toNat) (A2D (d := R0) hkn); refine D7 D8 rfl ?_)
 refine H4 (i := 0) (l' := [tt,ff,ff,ff,ff,ff,ff,ff,ff,ff,ff]) rfl D3 (qM rfl) rfl (by kernel_rfl) rfl rfl ?_
 refine aP 1 rfl (qM rfl) rfl ?_
 refine aP 2 rfl (B3 (j := 0) rfl rfl rfl (by omega)) rfl ?_
 refine aP 3 rfl (qF rfl) rfl ?_
 refine aL 4 rfl (Q8 rfl rfl ((hv0at _).sub (j := 3) rfl)) rfl ?_
 refine aP 5 rfl (B1 rfl) rfl ?_
 refine aL 6 rfl (D4 rfl rfl) rfl ?_
 refine aP 7 rfl (A8P (z := (k - 12).toNat) rfl rfl (by omega) (by omega)) rfl ?_
 refine aP 8 rfl (B3 (j := (k - 12).toNat) rfl rfl rfl hkn) rfl ?_
 refine aL 9 rfl (A6 rfl rfl (hvpat _) rfl) rfl ?_
 refine A2 10 ?_
 (refine A3Z (l' := [tt,tt,tt,tt,tt,tt,tt,tt,tt,tt,tt]) rfl rfl (A1V _ (s.st.length - 1) _ _ _ _ _ _ _ _ _ _ _ (by omega) rfl) (Pk2 (by repeat (first | exact Pk.here | apply Pk.there)) (by repeat (first | exact Pk.here | apply Pk.there))) rfl rfl rfl (by kernel_rfl) (fun v G3 outs hle3 hh => ?_); obtain ⟨hG, rfl, p7, c7, rfl⟩ := hh; subst hG)
 refine H9 ?_
 refine Z2 (b := b) (rT rfl) (rT rfl) (by repeat (first | exact Pk.here | apply Pk.there)) (by repeat (first | exact Pk.here | apply Pk.there)) (by repeat (first | exact Pk.here | apply Pk.there)) ?_
 (exact S6.go (by rw [hsk, A6s hk12 hd, if_pos hk3]) (Mc.mk (by rw [List.length_append, htl]; rfl) (E7 _ _).symm (hrt.snoc hvp) rfl hse hre rfl rfl hrf))
theorem B7v (b n c : Nat) (A E F : Value) (p : Option Addr) (es : List (List Value)) (G : IM) (hn : n ≤ 4294967296) (hl : es.length = n) (ha : ∀ e ∈ es, e.length = 4) (ho : ∀ e ∈ es, e.all (·.oneCell') = true) (hA : A.cells = ⟨[A]⟩ ∧ E.cells = ⟨[E]⟩ ∧ F.cells = ⟨[F]⟩) :
  Fn Tryz.prog 129 [.pointer (some ⟨b, 0, none⟩), .int .i64 ((0 : Nat) : Int)] [.blk b [A, .slice p n c, E, F], .slc p c 82 4 n es.flatten] G (fun _ v outs => ∃ q d, v = .tuple ⟨[.slice q 0 d, .bool true]⟩ ∧ outs = [.blk b [A, .slice p n c, E, F], .slc p c 82 4 n es.flatten]) := by
 refine (A49 b 0 n c A E F p es G (by omega) hn hl ha ho hA).mono (fun G' v outs _ hh => ?_)
 unfold A0M at hh
 rw [if_neg (by omega)] at hh
 obtain ⟨q, d, h1, h2, _⟩ := hh
 refine ⟨q, d, h1, ?_⟩
 rw [h2, Nat.sub_zero, ← hl, List.take_length]
theorem B7w (k a : Int) (s : N7) (b n N : Nat) (G : IM) (hp0 : List A1) (hk : k = 1 ∨ k = 2 ∨ k = 3 ∨ k = 4 ∨ k = 5 ∨ k = 10) (hn : n ≤ 120) (hN : N ≤ 2000) (ho : s.ok n N) (hat : s.at' < n) (hop : O2 n s.at'.toNat (k, a) = true) (hM : Mc G s b hp0) :
  Fn Tryz.prog 70 [.pointer (some ⟨b, 0, none⟩), .agg ⟨[.int .i64 k, .int .i64 a]⟩] hp0 G (S6 (P5 k a s) b) := by
 have hp : L5 k = 0 := A6p (by omega) (by omega)
 have hlo := ho.lo; have hhi := ho.hi; have hst := ho.st; have henv := ho.env; have hfr := ho.fr
 obtain ⟨_, _, a1, a2, b1, b2, b3, b4⟩ := A4V hop (by omega)
 have hX : Fn Tryz.prog 128 [.int .i64 k] [] G (J1 (.tuple ⟨[.int .i64 ((0 : Nat) : Int), .int .i64 0, .int .i64 ((0 : Nat) : Int), .int .i64 0]⟩) G) := by
  have hw : O1 k = (0, 0, 0) := by rcases hk with rfl | rfl | rfl | rfl | rfl | rfl <;> rfl
  have h := A41 k G
  rw [hp, hw] at h
  exact h
 have hsk : P5 k a s = T2 k a s := A0m (by omega)
 obtain ⟨ps, cs, es, pe, ce, ee, pf, cf, ef, rfl, hrs, hse, hre, hrf⟩ := hM
 have hPop := B7v b s.st.length cs (.int .i64 s.at') (.slice pe s.env.length ce) (.slice pf s.fr.length cf) ps es G (by omega) hrs.len hrs.all hrs.ones ⟨rfl, rfl, rfl⟩
 refine B6 Tryz.func70 rfl Tryz.ntmps70 Tryz.results70 rfl ?_
 intro w0
 refine tS (tR ?_)
 refine sE (E2 rfl rfl) rfl (fun b3 => ?_)
 refine E1 ?_
 refine H6 rfl (hX) rfl rfl ?_
 refine J5 ?_
 (refine C6 rfl hPop (Pk2 (by repeat (first | exact Pk.here | apply Pk.there)) (by repeat (first | exact Pk.here | apply Pk.there))) rfl rfl (fun v G1 outs hle1 hh => ?_); obtain ⟨q, d, rfl, rfl⟩ := hh; replace hrs := hrs.mono hle1; replace hse := hse.mono hle1; replace hre := hre.mono hle1; replace hrf := hrf.mono hle1)
 refine A0S ?_
 (refine sP (A1O (l := 0) rfl rfl rfl (by omega)) rfl rfl ?_)
 refine sQ (W0 rfl rfl) rfl (sQ (qM rfl) rfl (sD (nS ?_)))
 refine B2 ?_
 (refine J8 (fun (i : Nat) => ⟨[(37, .int .i64 (i : Int)), (36, .int .i64 ((0 : Nat) : Int)), (35, .slice q 0 d), (7, .int .i64 0), (9, .int .i64 0), (10, .slice q 0 d), (3, .pointer (some ⟨b3, 0, none⟩)), (0, .pointer (some ⟨b, 0, none⟩))], [.blk b3 [.int .i64 k, .int .i64 a], .blk b [.int .i64 s.at', .slice ps s.st.length cs, .slice pe s.env.length ce, .slice pf s.fr.length cf], .slc ps cs 82 4 s.st.length es.flatten, .slc pf cf 135 2 s.fr.length ef.flatten], G1⟩) (fun i => i = 0) (fun i => 0) 0 ?_ ?_ ?_)
 exact C2
 (exact (rfl : (0 : Nat) = 0))
 (rintro i hi; subst hi)
 refine tS (tR ?_)
 refine sP (A14 rfl rfl (by omega)) rfl rfl ?_
 refine L4 ?_
 refine sQ (I4 rfl) rfl ?_
 refine sQ (B1 rfl) rfl (sL (D4 rfl rfl) rfl rfl ?_)
 refine sP (H2 rfl rfl (by omega) (by omega)) rfl rfl ?_
 refine sQ (I4 rfl) rfl ?_
 refine J3 ?_
 refine B2 (tS (tR (sB (qE rfl rfl) rfl rfl (fun h95 => ?_) (fun h95 => ?_))))
 refine E1 ?_
 refine H6 rfl ((A30 _ _ _)) rfl rfl ?_
 (refine C6 rfl (A1V _ s.st.length _ _ _ _ _ _ _ _ _ _ _ (by omega) rfl) (Pk2 (by repeat (first | exact Pk.here | apply Pk.there)) (by repeat (first | exact Pk.here | apply Pk.there))) rfl rfl (fun v G3 outs hle3 hh => ?_); obtain ⟨hG, rfl, p7, c7, rfl⟩ := hh; subst hG)
 refine H9 ?_
 refine Z2 (b := b) (rT rfl) (rT rfl) (by repeat (first | exact Pk.here | apply Pk.there)) (by repeat (first | exact Pk.here | apply Pk.there)) (by repeat (first | exact Pk.here | apply Pk.there)) ?_
 (obtain rfl : k = 1 := (by omega); exact S6.go (by rw [hsk, A6t]) (Mc.mk (by simp) (E7 _ _).symm (hrs.snoc (Q4.leaf (k := 0) (num := a) ⟨by omega, by omega⟩ ⟨by decide, by decide⟩)) rfl hse hre rfl rfl hrf))
 refine sQ (qA rfl) rfl (sD (nS (cF rfl (tS (tR ?_)))))
 refine sB (qE rfl rfl) rfl rfl (fun h124 => ?_) (fun h124 => ?_)
 refine E1 ?_
 refine H6 rfl ((A30 _ _ _)) rfl rfl ?_
 (refine C6 rfl (A1V _ s.st.length _ _ _ _ _ _ _ _ _ _ _ (by omega) rfl) (Pk2 (by repeat (first | exact Pk.here | apply Pk.there)) (by repeat (first | exact Pk.here | apply Pk.there))) rfl rfl (fun v G3 outs hle3 hh => ?_); obtain ⟨hG, rfl, p7, c7, rfl⟩ := hh; subst hG)
 refine H9 ?_
 refine Z2 (b := b) (rT rfl) (rT rfl) (by repeat (first | exact Pk.here | apply Pk.there)) (by repeat (first | exact Pk.here | apply Pk.there)) (by repeat (first | exact Pk.here | apply Pk.there)) ?_
 (obtain rfl : k = 2 := (by omega); exact S6.go (by rw [hsk, A6u]) (Mc.mk (by simp) (E7 _ _).symm (hrs.snoc (Q4.leaf (k := 1) (num := a) ⟨by omega, by omega⟩ ⟨by decide, by decide⟩)) rfl hse hre rfl rfl hrf))
 refine sQ (qA rfl) rfl (sD (nS (cF rfl (tS (tR ?_)))))
 refine sB (qE rfl rfl) rfl rfl (fun h153 => ?_) (fun h153 => ?_)
 refine sQ (qA rfl) rfl (sD (nS (qT rfl (tS ?_))))
 refine D7 D8 rfl ?_
 refine H4 (i := 0) (l' := [tt,ff,ff,ff,ff,ff,ff,ff,ff,ff]) rfl D3 (qM rfl) rfl (by kernel_rfl) rfl rfl ?_
 refine aP 1 rfl (I4 rfl) rfl ?_
 refine aP 2 rfl (B1 rfl) rfl ?_
 refine aL 3 rfl (D4 rfl rfl) rfl ?_
 refine aP 4 rfl (W0 rfl rfl) rfl ?_
 refine aP 5 rfl (N1 rfl rfl (by omega) (by omega)) rfl ?_
 refine aP 6 rfl (B1 rfl) rfl ?_
 refine aL 7 rfl (D4 rfl rfl) rfl ?_
 refine aP 8 rfl (N1 rfl rfl (by omega) (by omega)) rfl ?_
 refine aP 9 rfl (qA rfl) rfl ?_
 refine B9 (nS (tS (tS (tR (sQ (qM rfl) rfl ?_)))))
 refine sB (I7 rfl rfl) rfl rfl (fun h176 => ?_) (fun h176 => ?_)
 refine L7 ?_
 refine Z2 (b := b) (rT rfl) (rT rfl) (by repeat (first | exact Pk.here | apply Pk.there)) (by repeat (first | exact Pk.here | apply Pk.there)) (by repeat (first | exact Pk.here | apply Pk.there)) ?_
 (obtain rfl : k = 3 := (by omega); exact S6.no (by rw [hsk, A4S, if_pos (by omega)]))
 refine sD (nS (cF rfl (tK (nS ?_))))
 (have hk3 : k = 3 := (by omega); obtain ⟨j, hj⟩ : ∃ j : Nat, (s.env.length : Int) - 1 - a = j := ⟨((s.env.length : Int) - 1 - a).toNat, by omega⟩; have hjl : j < s.env.length := (by omega); rw [hj]; obtain ⟨b2, o2, q2, dd2, q2', dd2', rfl, hv2at, hv2, hg2⟩ := hse.mvAt hre (i := j) (A2D (d := R0) hjl))
 refine tR (sQ (qM rfl) rfl (sQ (qM rfl) rfl ?_))
 refine sQ (I4 rfl) rfl ?_
 refine M3 ?_
 refine sP (B3 (j := j) rfl rfl rfl hjl) rfl rfl ?_
 refine sL (A6 rfl rfl (hv2at _) rfl) rfl rfl ?_
 (refine C6 rfl (A1V _ s.st.length _ _ _ _ _ _ _ _ _ _ _ (by omega) rfl) (Pk2 (by repeat (first | exact Pk.here | apply Pk.there)) (by repeat (first | exact Pk.here | apply Pk.there))) rfl rfl (fun v G3 outs hle3 hh => ?_); obtain ⟨hG, rfl, p7, c7, rfl⟩ := hh; subst hG)
 refine H9 ?_
 refine Z2 (b := b) (rT rfl) (rT rfl) (by repeat (first | exact Pk.here | apply Pk.there)) (by repeat (first | exact Pk.here | apply Pk.there)) (by repeat (first | exact Pk.here | apply Pk.there)) ?_
 (obtain rfl : k = 3 := (by omega); exact S6.go (by rw [hsk, A4S, if_neg (by omega), hj, Int.toNat_natCast]) (Mc.mk (by simp) (E7 _ _).symm (hrs.snoc hv2) rfl hse hre rfl rfl hrf))
 refine sQ (qA rfl) rfl (sD (nS (cF rfl (tS (tR ?_)))))
 refine sB (qE rfl rfl) rfl rfl (fun h226 => ?_) (fun h226 => ?_)
 refine sQ (qA rfl) rfl (sD (nS (qT rfl (tS ?_))))
 refine D7 D8 rfl ?_
 refine H4 (i := 0) (l' := [tt,ff,ff,ff,ff,ff,ff,ff,ff,ff,ff]) rfl D3 (qM rfl) rfl (by kernel_rfl) rfl rfl ?_
 refine aP 1 rfl (qM rfl) rfl ?_
 refine aP 2 rfl (I4 rfl) rfl ?_
 refine aP 3 rfl (B1 rfl) rfl ?_
 refine aL 4 rfl (D4 rfl rfl) rfl ?_
 refine aP 5 rfl (qM rfl) rfl ?_
 refine aP 6 rfl (I4 rfl) rfl ?_
 refine aP 7 rfl (B1 rfl) rfl ?_
 refine aL 8 rfl (D4 rfl rfl) rfl ?_
 refine aP 9 rfl (R6 rfl rfl) rfl ?_
 refine A2 10 ?_
 (refine A3Z (l' := [tt,tt,tt,tt,tt,tt,tt,tt,tt,tt,tt]) rfl rfl (A1V _ s.st.length _ _ _ _ _ _ _ _ _ _ _ (by omega) rfl) (Pk2 (by repeat (first | exact Pk.here | apply Pk.there)) (by repeat (first | exact Pk.here | apply Pk.there))) rfl rfl rfl (by kernel_rfl) (fun v G3 outs hle3 hh => ?_); obtain ⟨hG, rfl, p7, c7, rfl⟩ := hh; subst hG)
 refine B9 (nS ?_)
 refine D7 D8 rfl ?_
 refine H4 (i := 0) (l' := [tt,ff,ff,ff,ff,ff,ff,ff,ff,ff]) rfl D3 (qM rfl) rfl (by kernel_rfl) rfl rfl ?_
 refine aP 1 rfl (I4 rfl) rfl ?_
 refine aP 2 rfl (B1 rfl) rfl ?_
 refine aL 3 rfl (D4 rfl rfl) rfl ?_
 refine aP 4 rfl (B1 rfl) rfl ?_
 refine aL 5 rfl (D4 rfl rfl) rfl ?_
 refine aP 6 rfl (H2 rfl rfl (by omega) (by omega)) rfl ?_
 refine aP 7 rfl (I4 rfl) rfl ?_
 refine aP 8 rfl (B1 rfl) rfl ?_
 refine A2 9 ?_
 refine H3 rfl ?_
 refine H9 ?_
 refine Z2 (b := b) (rT rfl) (rT rfl) (by repeat (first | exact Pk.here | apply Pk.there)) (by repeat (first | exact Pk.here | apply Pk.there)) (by repeat (first | exact Pk.here | apply Pk.there)) ?_
 (obtain rfl : k = 4 := (by omega); exact S6.go (by rw [hsk, A6v]) (Mc.mk (by simp) (E7 _ _).symm (hrs.snoc (Q4.mk (k := 2) (num := s.at' + 1) (env := s.env) (parts := []) ⟨by omega, by omega⟩ ⟨by decide, by decide⟩ rfl rfl hse hre (C0.nil _ 4) rfl)) rfl hse hre rfl rfl hrf))
 refine sQ (qA rfl) rfl (sD (nS (cF rfl (tS (tR ?_)))))
 refine sB (qE rfl rfl) rfl rfl (fun h277 => ?_) (fun h277 => ?_)
 refine C5 ?_
 refine sQ (I4 rfl) rfl ?_
 refine M3 ?_
 refine sP (N1 rfl rfl (by omega) (by omega)) rfl rfl ?_
 refine C5 ?_
 refine sB (I7 rfl rfl) rfl rfl (fun h297 => ?_) (fun h297 => ?_)
 refine L7 ?_
 refine Z2 (b := b) (rT rfl) (rT rfl) (by repeat (first | exact Pk.here | apply Pk.there)) (by repeat (first | exact Pk.here | apply Pk.there)) (by repeat (first | exact Pk.here | apply Pk.there)) ?_
 (obtain rfl : k = 5 := (by omega); exact S6.no (by rw [hsk, A4T, if_pos (by omega)]))
 refine sD (nS (cF rfl (tK (nS (tS ?_)))))
 (have hk5 : k = 5 := (by omega); have hf0 : 0 < s.fr.length := (by omega); rw [show ((s.fr.length : Int) - 1) = ((s.fr.length - 1 : Nat) : Int) from (by omega)]; refine A3F (fun a w hs => hs.slc_form (p := pf) (c := cf) (el := 135) (sz := 2) (n := s.fr.length) (cs := ef.flatten) (by repeat first | exact mH | apply mT)) (fun hq => ?_); obtain ⟨_, hncf, hpf⟩ := hq; obtain ⟨gf, rfl⟩ := hpf hf0; obtain ⟨ef1, hef1, pq, cq, esq, rfl, hfI, hsfq, hrfq⟩ := hrf.get (i := s.fr.length - 1) (A2D (d := (0, [])) (by omega)); have hfv : ∀ j v, [Value.int .i64 (s.fr.getD (s.fr.length - 1) (0, [])).1, Value.slice pq (s.fr.getD (s.fr.length - 1) (0, [])).2.length cq][j]? = some v → ef.flatten[(0 + (s.fr.length - 1) * 2) + j]? = some v := (fun j v hj => by rw [Nat.zero_add]; exact A3K hrf.all hef1 j v hj); refine D7 D8 rfl ?_)
 refine H4 (i := 0) (l' := [tt,ff,ff,ff,ff,ff,ff,ff,ff,ff,ff,ff,ff,ff,ff,ff,ff,ff,ff,ff,ff,ff,ff,ff]) rfl D3 (qM rfl) rfl (by kernel_rfl) rfl rfl ?_
 refine aP 1 rfl (qM rfl) rfl ?_
 refine aP 2 rfl (qM rfl) rfl ?_
 refine aP 3 rfl (I4 rfl) rfl ?_
 refine aP 4 rfl (B1 rfl) rfl ?_
 refine aL 5 rfl (D4 rfl rfl) rfl ?_
 refine aP 6 rfl (qM rfl) rfl ?_
 refine aP 7 rfl (B3 (j := s.fr.length - 1) rfl rfl rfl (by omega)) rfl ?_
 refine aP 8 rfl (qF rfl) rfl ?_
 refine aL 9 rfl (Q8 rfl rfl ((A3B (by repeat first | exact mH | apply mT) hfv).sub (j := 0) rfl)) rfl ?_
 refine aP 10 rfl (qM rfl) rfl ?_
 refine aP 11 rfl (I4 rfl) rfl ?_
 refine aP 12 rfl (B1 rfl) rfl ?_
 refine aL 13 rfl (D4 rfl rfl) rfl ?_
 refine aP 14 rfl (qM rfl) rfl ?_
 refine aP 15 rfl (B3 (j := s.fr.length - 1) rfl rfl rfl (by omega)) rfl ?_
 refine aP 16 rfl (qF rfl) rfl ?_
 refine aL 17 rfl (Q8 rfl rfl ((A3B (by repeat first | exact mH | apply mT) hfv).sub (j := 1) rfl)) rfl ?_
 refine aP 18 rfl (I4 rfl) rfl ?_
 refine aP 19 rfl (B1 rfl) rfl ?_
 refine A2 20 ?_
 refine H3 rfl ?_
 refine aP 21 rfl (I4 rfl) rfl ?_
 refine aP 22 rfl (B1 rfl) rfl ?_
 refine A2 23 ?_
 refine R2 rfl rfl rfl rfl rfl rfl rfl rfl (by decide +kernel) (by repeat first | exact Sw.here | apply Sw.there) (by rfl) ?_
 refine B9 (nS (tR (sQ (qM rfl) rfl (sQ (qM rfl) rfl ?_))))
 refine sQ (I4 rfl) rfl ?_
 refine M3 ?_
 (refine sP (A1O (l := s.fr.length - 1) rfl rfl rfl (by omega)) rfl rfl ?_)
 refine sQ (I4 rfl) rfl ?_
 refine sQ (B1 rfl) rfl ?_
 (refine A6F (k := s.fr.length - 1) (p := some ⟨gf, 0, none⟩) (el := 135) (by repeat (first | exact Pk.here | apply Pk.there)) (by omega) ?_; refine I1 ?_)
 refine H9 ?_
 refine Z2 (b := b) (rT rfl) (rT rfl) (by repeat (first | exact Pk.here | apply Pk.there)) (by repeat (first | exact Pk.here | apply Pk.there)) (by repeat (first | exact Pk.here | apply Pk.there)) ?_
 (obtain rfl : k = 5 := (by omega); exact S6.go (by rw [hsk, A4T, if_neg (by omega)]) (Mc.mk rfl rfl hrs rfl hsfq hrfq (by rw [List.length_take]; omega) (A6n _ hrf.all) (hrf.take _)))
 refine sQ (qA rfl) rfl (sD (nS (cF rfl (tS (tR ?_)))))
 refine sP (K9 rfl rfl (by omega)) rfl rfl ?_
 refine sQ (qA rfl) rfl (sD (nS (cF rfl (tS (tR ?_)))))
 refine sP (K9 rfl rfl (by omega)) rfl rfl ?_
 refine sQ (qA rfl) rfl (sD (nS (cF rfl (tS (tR ?_)))))
 refine sP (K9 rfl rfl (by omega)) rfl rfl ?_
 refine sQ (qA rfl) rfl (sD (nS (cF rfl (tS (tR ?_)))))
 refine sP (K9 rfl rfl (by omega)) rfl rfl ?_
 refine sQ (qA rfl) rfl (sD (nS (cF rfl (tS (tR ?_)))))
 refine sP (A1i rfl rfl (by omega)) rfl rfl ?_
 refine sQ (qA rfl) rfl (sD (nS (qT rfl ?_)))
 refine D7 D8 rfl ?_
 refine H4 (i := 0) (l' := [tt,ff,ff,ff,ff,ff,ff,ff,ff,ff]) rfl D3 (qM rfl) rfl (by kernel_rfl) rfl rfl ?_
 refine aP 1 rfl (I4 rfl) rfl ?_
 refine aP 2 rfl (B1 rfl) rfl ?_
 refine aL 3 rfl (D4 rfl rfl) rfl ?_
 refine aP 4 rfl (B1 rfl) rfl ?_
 refine aL 5 rfl (D4 rfl rfl) rfl ?_
 refine aP 6 rfl (H2 rfl rfl (by omega) (by omega)) rfl ?_
 refine aP 7 rfl (I4 rfl) rfl ?_
 refine aP 8 rfl (B1 rfl) rfl ?_
 refine A2 9 ?_
 refine H3 rfl ?_
 refine H9 ?_
 refine Z2 (b := b) (rT rfl) (rT rfl) (by repeat (first | exact Pk.here | apply Pk.there)) (by repeat (first | exact Pk.here | apply Pk.there)) (by repeat (first | exact Pk.here | apply Pk.there)) ?_
 (obtain rfl : k = 10 := (by omega); exact S6.go (by rw [hsk, A6w]) (Mc.mk rfl rfl hrs rfl hse hre rfl rfl hrf))
theorem B7x (k a : Int) (s : N7) (b N : Nat) (G : IM) (hp0 : List A1) (hN : N ≤ 2000) (hst : s.st.length ≤ N) (hl : s.st.length < L5 k) (hM : Mc G s b hp0) :
  Fn Tryz.prog 70 [.pointer (some ⟨b, 0, none⟩), .agg ⟨[.int .i64 k, .int .i64 a]⟩] hp0 G (S6 (P5 k a s) b) := by
 have hX := A41 k G
 have hp2 : L5 k ≤ 2 := by unfold L5; (repeat' split) <;> omega
 obtain ⟨ps, cs, es, pe, ce, ee, pf, cf, ef, rfl, hrs, hse, hre, hrf⟩ := hM
 have hPop := A49 b (L5 k) s.st.length cs (.int .i64 s.at') (.slice pe s.env.length ce) (.slice pf s.fr.length cf) ps es G hp2 (by omega) hrs.len hrs.all hrs.ones ⟨rfl, rfl, rfl⟩
 refine B6 Tryz.func70 rfl Tryz.ntmps70 Tryz.results70 rfl ?_
 intro w0
 refine tS (tR ?_)
 refine sE (E2 rfl rfl) rfl (fun b3 => ?_)
 refine E1 ?_
 refine H6 rfl (hX) rfl rfl ?_
 refine J5 ?_
 (refine C6 rfl hPop (Pk2 (by repeat (first | exact Pk.here | apply Pk.there)) (by repeat (first | exact Pk.here | apply Pk.there))) rfl rfl (fun v G1 outs hle1 hh => ?_); unfold A0M at hh; rw [if_pos hl] at hh; subst hh)
 refine A2y ?_
 refine K0 (rT rfl) (rT rfl) ?_
 (exact S6.no (A8R hl))
def B1x (r : ByteArray × Int × Int) : IM → Value → List A1 → Prop := I8 fun _ v => v = .tuple ⟨[.string r.1, .int .i64 r.2.1, .int .i64 r.2.2]⟩
theorem B1y {ops : K4} {ticks : Int} (h : ¬(X0 ops = true ∧ 0 ≤ ticks ∧ ticks ≤ 2000)) : A0z ops ticks = (⟨#[]⟩, 3, 0) := by unfold A0z; rw [if_neg h]
theorem B7y {ops : K4} {t : Nat} (h : X0 ops = true) (ht : t ≤ 2000) : A0z ops (t : Int) = M7 ops t ⟨0, [], [], []⟩ := by unfold A0z; rw [if_pos ⟨h, by omega, by omega⟩, Int.toNat_natCast]
theorem A2X {r : ByteArray × Int × Int} {G' : IM} {a : ByteArray} {c e : Int} (h : r = (a, c, e)) : B1x r G' (.tuple ⟨[.string a, .int .i64 c, .int .i64 e]⟩) [] := by subst h; exact ⟨rfl, rfl⟩
theorem B1z {s : N7} (h : s.st.length ≠ 1 ∨ 0 < s.fr.length) : A2a s = (⟨#[]⟩, 3, 0) := by unfold A2a; rw [if_pos h]
theorem B7z {s : N7} (h : s.st.length = 1) (h2 : s.fr.length = 0) : A2a s = (A0l (s.st.getD 0 R0), 0, 0) := by unfold A2a; rw [if_neg (by omega)]
theorem B7A (k a : Int) (s : N7) (b n N : Nat) (G : IM) (hp0 : List A1) (hn : n ≤ 120) (hN : N ≤ 2000) (ho : s.ok n N) (hat : s.at' < n) (hop : O2 n s.at'.toNat (k, a) = true) (hM : Mc G s b hp0) :
  Fn Tryz.prog 70 [.pointer (some ⟨b, 0, none⟩), .agg ⟨[.int .i64 k, .int .i64 a]⟩] hp0 G (S6 (P5 k a s) b) := by
 have hlo := ho.lo
 obtain ⟨k1, k2, _⟩ := A4V hop (by omega)
 by_cases hl : s.st.length < L5 k
 ·exact B7x k a s b N G hp0 hN ho.st hl hM
 ·by_cases hk : k = 6 ∨ k = 7 ∨ k = 8 ∨ k = 11
  ·have hp := A8S hk
   obtain ⟨v0, v1, hd, _, _⟩ := A3U (l := s.st) (by omega)
   exact B7s k a s b n N v0 v1 G hp0 hk hn hN ho hd (by omega) hM
  ·by_cases hk1 : k = 9 ∨ k = 12 ∨ k = 13
   ·have hp := A6o hk1
    obtain ⟨v0, hd, _⟩ := A6y (l := s.st) (by omega)
    exact B7u k a s b n N v0 G hp0 hk1 hn hN ho hd hat hop (by omega) hM
   ·exact B7w k a s b n N G hp0 (by omega) hn hN ho hat hop hM
theorem B7B (v : MV) (n : Int) (N : Nat) (G : IM) (cells : List Value) (hT : A1N G) (ho : v.ok n N) (hv : Q4 kI G v cells) : Fn Tryz.prog 71 [.agg ⟨cells⟩] [] G (J1 (.string (A0l v)) G) := by
 obtain ⟨c1, c2, c3, c4, c5, _, _, _, _, _⟩ := ho.spec
 obtain ⟨j, hj⟩ : ∃ j : Nat, v.num = j := ⟨v.num.toNat, by omega⟩
 obtain ⟨p, c, e1, q, d, f1, rfl, _⟩ := hv.open
 rw [hj]
 have hI : Fn Tryz.prog 85 [.int .i64 (j : Int)] [] G (J1 (.string ⟨(Lib.decDigits j).toArray⟩) G) := by
  have h := B2E (j : Int) G hT (by omega) (by omega)
  rwa [Int.toNat_natCast] at h
 obtain ⟨m, hm⟩ : ∃ m : Int, v.k = m := ⟨_, rfl⟩
 rw [show kI v.k = m from hm]
 rw [hm] at c1 c2
 refine B6 Tryz.func71 rfl Tryz.ntmps71 Tryz.results71 rfl ?_
 intro w0
 refine tS (tR ?_)
 refine sE (E2 rfl rfl) rfl (fun b3 => ?_)
 refine H9 ?_
 refine B2 (tS (tR (sB (qE rfl rfl) rfl rfl (fun h17 => ?_) (fun h17 => ?_))))
 refine E1 ?_
 refine H6 rfl (hI) rfl rfl ?_
 refine sQ (qA rfl) rfl (sD (nS (tT (rB (rS (I6 (rT rfl) ?_))))))
 (exact ⟨rfl, congrArg Value.string (B3d (by omega) hj).symm, rfl⟩)
 refine sQ (qA rfl) rfl (sD (nS (cF rfl (tS (tR ?_)))))
 refine sB (qE rfl rfl) rfl rfl (fun h41 => ?_) (fun h41 => ?_)
 refine H9 ?_
 refine sP (H2 rfl rfl (by omega) (by omega)) rfl rfl ?_
 (have hk1 : m = 1 := (by omega); have hj1 := c5 (hm.trans hk1); refine sP (A2c (l := j) (h := j + 1) rfl rfl rfl rfl (by omega) (by show j + 1 ≤ 2; omega)) rfl rfl ?_)
 refine sQ (qA rfl) rfl (sD (nS (tT (rB (rS (I6 (rT rfl) ?_))))))
 (exact ⟨rfl, congrArg Value.string (B3i (by omega) hj (by omega)), rfl⟩)
 refine sQ (qA rfl) rfl (sD (nS (cF rfl (tS (tR ?_)))))
 refine sB (qE rfl rfl) rfl rfl (fun h68 => ?_) (fun h68 => ?_)
 refine L7 ?_
 (exact ⟨rfl, congrArg Value.string (B3g (by omega)).symm, rfl⟩)
 refine M5 ?_
 (exact ⟨rfl, congrArg Value.string (B3h (by omega)).symm, rfl⟩)
section
variable {ops : K4} {t : Nat} {s s' : N7}
theorem B7C (ht : 0 < t) (h : ¬(ops.length : Int) ≤ s.at') (hs : P5 (ops.getD s.at'.toNat (0, 0)).1 (ops.getD s.at'.toNat (0, 0)).2 s = .inl s') : M7 ops (t - 1) s' = M7 ops t s := by
 obtain ⟨r, rfl⟩ : ∃ r, t = r + 1 := ⟨t - 1, by omega⟩
 exact (B3l h hs).symm
theorem B7D {c e : Int} (ht : 0 < t) (h : ¬(ops.length : Int) ≤ s.at') (hs : P5 (ops.getD s.at'.toNat (0, 0)).1 (ops.getD s.at'.toNat (0, 0)).2 s = .inr (c, e)) : M7 ops t s = (⟨#[]⟩, c, e) := by
 obtain ⟨r, rfl⟩ : ∃ r, t = r + 1 := ⟨t - 1, by omega⟩
 exact B3m h hs
end
theorem B7E (ops : K4) (ticks : Int) (G : IM) (p : Option Addr) (n c : Nat) (hT : A1N G) (h : U3 G ops p n c) (hti : C1 ticks) : Fn Tryz.prog 28 [.slice p n c, .int .i64 ticks] [] G (B1x (A0z ops ticks)) := by
 have hl := h.sl.le
 have hn := h.len
 obtain ⟨ht1, ht2⟩ := hti
 have hok := @B30 ops
 refine B6 Tryz.func28 rfl Tryz.ntmps28 Tryz.results28 rfl ?_
 intro w0
 refine J3 ?_
 refine H8 rfl ((A9b ops G p n c h)) rfl rfl (fun h12 => ?_) (fun h12 => ?_)
 refine sQ (pNt rfl) rfl (sQ (qM rfl) rfl (sQ (qM rfl) rfl ?_))
 refine H8 rfl ((A0J ticks 0 2000 G)) rfl rfl (fun h16 => ?_) (fun h16 => ?_)
 refine H9 ?_
 refine sE (E2 rfl rfl) rfl (fun b27 => ?_)
 refine sQ (qA rfl) rfl (sD (nS (tS ?_)))
 refine B2 ?_
 (have hval : X0 ops = true := (by assumption); obtain ⟨hn1, hn2, hops⟩ := hok hval; have hwt : 0 ≤ ticks ∧ ticks ≤ 2000 := (by simp only [U1, decide_eq_true_eq] at *; omega); obtain ⟨T, rfl⟩ : ∃ T : Nat, ticks = T := ⟨ticks.toNat, by omega⟩; refine W9 135 2 ?_; refine W9 82 4 ?_; refine J8 (fun (x : Nat × N7 × (Option Addr × Nat) × (Option Addr × Nat) × (Option Addr × Nat) × List (List Value) × List (List Value) × IM) => ⟨[(7, .pointer (some ⟨b27, 0, none⟩)), (0, .slice p n c), (1, .int .i64 (x.1 : Int))], [.blk b27 [.int .i64 x.2.1.at', .slice x.2.2.1.1 x.2.1.st.length x.2.2.1.2, .slice x.2.2.2.1.1 x.2.1.env.length x.2.2.2.1.2, .slice x.2.2.2.2.1.1 x.2.1.fr.length x.2.2.2.2.1.2], .slc x.2.2.1.1 x.2.2.1.2 82 4 x.2.1.st.length x.2.2.2.2.2.1.flatten, .slc x.2.2.2.2.1.1 x.2.2.2.2.1.2 135 2 x.2.1.fr.length x.2.2.2.2.2.2.1.flatten], x.2.2.2.2.2.2.2⟩) (fun x => x.1 ≤ T ∧ x.2.1.ok n (T - x.1) ∧ A7 G x.2.2.2.2.2.2.2 ∧ F9 kI x.2.2.2.2.2.2.2 x.2.1.st x.2.2.2.2.2.1 ∧ (∃ ee, C0 x.2.2.2.2.2.2.2 x.2.2.2.1.1 x.2.1.env.length x.2.2.2.1.2 4 ee ∧ F9 kI x.2.2.2.2.2.2.2 x.2.1.env ee) ∧ P1 kI x.2.2.2.2.2.2.2 x.2.1.fr x.2.2.2.2.2.2.1 ∧ M7 ops x.1 x.2.1 = A0z ops T) (fun x => x.1) (T, ⟨0, [], [], []⟩, (none, 0), (none, 0), (none, 0), [], [], G) ?_ ?_ ?_)
 (simp only [E7]; exact C2)
 (exact ⟨Nat.le_refl _, by rw [Nat.sub_self]; exact B3p n, A7.refl _, rfl, ⟨[], C0.nil _ 4, rfl⟩, rfl, (B7y hval (by omega)).symm⟩)
 (rintro ⟨r, s, ⟨ps, cs⟩, ⟨pe, ce⟩, ⟨pf, cf⟩, es, ef, Gj⟩ ⟨hr, ho, hle, hrs, ⟨ee, hse, hre⟩, hrf, hrun⟩; simp only [] at hr ho hle hrs hse hre hrf hrun ⊢; have hlo := ho.lo; have hhi := ho.hi; have hst := ho.st; replace h := h.mono hle; replace hT := hT.mono hle)
 refine tS (tS (tR (sQ (qM rfl) rfl ?_)))
 refine sQ (I4 rfl) rfl ?_
 refine K5 ?_
 refine sB (I7 rfl rfl) rfl rfl (fun h46 => ?_) (fun h46 => ?_)
 refine sD (nS (qT rfl (tK (nS (tS ?_)))))
 refine B2 ?_
 refine tS (tS ?_)
 (obtain ⟨i, hi⟩ : ∃ i : Nat, s.at' = i := ⟨s.at'.toNat, by omega⟩; have hin : i < n := (by omega); obtain ⟨b1, o1, rfl, hop1, hr1, hr2, hgo⟩ := h.get hin; have hOK : O2 n s.at'.toNat ((ops.getD i (0, 0)).1, (ops.getD i (0, 0)).2) = true := (by rw [hi, Int.toNat_natCast, hn]; exact hops i (by omega)); have hE := B7A (ops.getD i (0, 0)).1 (ops.getD i (0, 0)).2 s b27 n (T - r) Gj _ (by omega) (by omega) ho (by omega) hOK ⟨ps, cs, es, pe, ce, ee, pf, cf, ef, rfl, hrs, hse, hre, hrf⟩; rw [hi] at hE; rw [hi])
 refine tR (sQ (qM rfl) rfl ?_)
 refine sB (qE rfl rfl) rfl rfl (fun h59 => ?_) (fun h59 => ?_)
 refine U8 ?_
 refine K7 (rT rfl) (rT rfl) (rT rfl) ?_
 (exact A2X (by rw [← hrun, show r = 0 from by omega, B3k (by omega)]))
 refine H9 ?_
 refine sQ (I4 rfl) rfl ?_
 refine sQ (B1 rfl) rfl (sL (D4 rfl rfl) rfl rfl ?_)
 refine sP (B3 (j := i) rfl rfl rfl hin) rfl rfl ?_
 refine sL (A6 rfl rfl (hop1 _) rfl) rfl rfl ?_
 focus (refine C6 rfl hE (Pk3 (by repeat (first | exact Pk.here | apply Pk.there)) (by repeat (first | exact Pk.here | apply Pk.there)) (by repeat (first | exact Pk.here | apply Pk.there))) rfl rfl (fun v GT outs hleT hh => ?_); obtain ⟨cc, ee', rfl, hno, hgo'⟩ := hh; rcases hstp : P5 (ops.getD i (0, 0)).1 (ops.getD i (0, 0)).2 s with s' | ⟨c2, e2⟩; rotate_left; obtain ⟨rfl, rfl⟩ := hno _ hstp; have hc2 := B3o hstp; rotate_left; obtain ⟨rfl, rfl, ps', cs', es', pe', ce', ee2, pf', cf', ef', rfl, hrs', hse', hre', hrf'⟩ := hgo' _ hstp)
 refine H9 ?_
 refine sP (A7P rfl rfl (by omega)) rfl rfl ?_
 refine E1 ?_
 refine sP (A8P (z := r - 1) rfl rfl (by omega) (by omega)) rfl rfl ?_
 refine sQ (qA rfl) rfl (sD ?_)
 refine J4 (r - 1, s', (ps', cs'), (pe', ce'), (pf', cf'), es', ef', GT) ?_ ?_ ?_
 (simp only [E7]; exact C2)
 (dsimp only; exact ⟨by omega, by have h9 := B3j (by omega) ho (by omega) hOK hstp; rwa [show T - r + 1 = T - (r - 1) from by omega] at h9, hle.trans hleT, hrs', ⟨ee2, hse', hre'⟩, hrf', by rw [← hrun]; exact B7C (by omega) (by omega) (by rw [hi, Int.toNat_natCast]; exact hstp)⟩)
 (show r - 1 < r; omega)
 refine H9 ?_
 refine sP (A3D rfl rfl (by omega)) rfl rfl ?_
 refine A0g ?_
 refine K7 (rT rfl) (rT rfl) (rT rfl) ?_
 (exact A2X (by rw [← hrun]; exact B7D (by omega) (by omega) (by rw [hi, Int.toNat_natCast]; exact hstp)))
 refine L4 ?_
 refine sQ (I4 rfl) rfl ?_
 refine M3 ?_
 refine sB (X4 rfl rfl) rfl rfl (fun h168 => ?_) (fun h168 => ?_)
 refine A1K ?_
 refine K7 (rT rfl) (rT rfl) (rT rfl) ?_
 (exact A2X (by rw [← hrun, A6z (by omega), B1z (by omega)]))
 refine sQ (qM rfl) rfl (sQ (qM rfl) rfl ?_)
 refine sQ (I4 rfl) rfl ?_
 refine M3 ?_
 refine sB (A0v rfl rfl) rfl rfl (fun h197 => ?_) (fun h197 => ?_)
 refine sQ (S2 rfl rfl) rfl (sD (nS (qT rfl (tS ?_))))
 (have h1s : s.st.length = 1 := (by omega); refine A3F (fun a w hs => hs.slc_form (p := ps) (c := cs) (el := 82) (sz := 4) (n := s.st.length) (cs := es.flatten) (by repeat first | exact mH | apply mT)) (fun hq => ?_); obtain ⟨_, _, hps⟩ := hq; obtain ⟨gs, rfl⟩ := hps (by omega); obtain ⟨e0, he0, hv0⟩ := hrs.get (i := 0) (A2D (d := R0) (by omega)); have hv0' := hv0; obtain ⟨_, _, _, _, _, _, rfl, _⟩ := hv0'.open; have hsv := (fun (j : Nat) (v : Value) hj => A3K hrs.all he0 j v hj))
 refine E1 ?_
 refine K7 (rT rfl) (rT rfl) (rT rfl) ?_
 (exact A2X (by rw [← hrun, A6z (by omega), B1z (by omega)]))
 refine sQ (S2 rfl rfl) rfl (sD (nS (cF rfl (tK (nS (tS ?_))))))
 (have h1s : s.st.length = 1 := (by omega); refine A3F (fun a w hs => hs.slc_form (p := ps) (c := cs) (el := 82) (sz := 4) (n := s.st.length) (cs := es.flatten) (by repeat first | exact mH | apply mT)) (fun hq => ?_); obtain ⟨_, _, hps⟩ := hq; obtain ⟨gs, rfl⟩ := hps (by omega); obtain ⟨e0, he0, hv0⟩ := hrs.get (i := 0) (A2D (d := R0) (by omega)); have hv0' := hv0; obtain ⟨_, _, _, _, _, _, rfl, _⟩ := hv0'.open; have hsv := (fun (j : Nat) (v : Value) hj => A3K hrs.all he0 j v hj))
 refine tR (sQ (qM rfl) rfl ?_)
 refine sQ (I4 rfl) rfl ?_
 refine sQ (B1 rfl) rfl (sL (D4 rfl rfl) rfl rfl ?_)
 refine sP (B3 (j := 0) rfl rfl rfl (by omega)) rfl rfl ?_
 refine sL (A6 rfl rfl (A3B (by repeat first | exact mH | apply mT) hsv) rfl) rfl rfl ?_
 refine H6 rfl ((B7B (s.st.getD 0 R0) n (T - r) Gj _ hT (ho.sto _ (A4U (by omega))) hv0)) rfl rfl ?_
 refine N6 ?_
 refine K7 (rT rfl) (rT rfl) (rT rfl) ?_
 (exact A2X (by rw [← hrun, A6z (by omega), B7z h1s (by omega)]))
 refine M5 ?_
 refine K7 (rT rfl) (rT rfl) (rT rfl) ?_
 (exact A2X (B1y (by rintro ⟨h1, h2, h3⟩; first | (simp only [U1, decide_eq_false_iff_not] at *; omega) | exact Bool.noConfusion (h1.symm.trans (show X0 ops = false from (by assumption))))))
 refine A0g ?_
 refine K7 (rT rfl) (rT rfl) (rT rfl) ?_
 (exact A2X (B1y (by rintro ⟨h1, h2, h3⟩; first | (simp only [U1, decide_eq_false_iff_not] at *; omega) | exact Bool.noConfusion (h1.symm.trans (show X0 ops = false from (by assumption))))))
def B8H (e : Tm) : Bool := W4 e && P9 e
section slaws
variable {P : Program} {Γ : I3} {env : J0} {hp : List A1} {G : IM} {ty : TypeId}
end slaws
theorem A2s (l : K4) (G : IM) (p q : Option Addr) (n m c d : Nat) (h1 : U3 G l p n c) (h2 : U3 G l q m d) : Fn Tryz.prog 27 [.slice p n c, .slice q m d] [] G (J1 (.bool true) G) := by
 have := B7p l l G p q n m c d h1 h2
 rwa [decide_eq_true rfl] at this
theorem B7F : C1 2000 := ⟨by decide, by decide⟩
theorem B7G (bs : List UInt8) (G : IM) (p : Option Addr) (n c : Nat) (hT : A1N G) (hb : Sl G p n c 1 (O7 bs)) : Fn Tryz.prog 7 [.slice p n c] [] G (I8 fun _ v => v = .bool true) := by
 have hn := hb.le
 refine B6 Tryz.func7 rfl Tryz.ntmps7 Tryz.results7 rfl ?_
 intro w0
 refine H9 ?_
 refine sB (A0v rfl rfl) rfl rfl (fun h11 => ?_) (fun h11 => ?_)
 refine J3 ?_
 (exact ⟨rfl, rfl⟩)
 refine sD (nS (cF rfl (tK (nS (tS (tR (sQ (qM rfl) rfl ?_)))))))
 (refine M0 rfl (B7r G _ _ _ bs hb) rfl rfl (fun v G1 hle1 hh => ?_); obtain ⟨a, ca, rfl, hra, hfa⟩ := hh; replace hT := hT.mono hle1; have hca := hfa.2; have hsa := hfa.1; have hla := hra.len; have hoa := hra.one; obtain ⟨l, ok, hct⟩ := B7m a; have hk : ok = true → A1x a = true → (U5 a).isSome = true → (A0z l 2000).2.1 = 0 ∨ (A0z l 2000).2.1 = 5 := (by intro ho; rcases hct with ⟨h1, rfl, _⟩ | ⟨_, _, h2⟩; exact B7l h1; (rw [h2] at ho; cases ho)); have hRO := B7E l 2000; have hTy := B5n a; have hSt := B6b a; obtain ⟨⟨s1, k1, e1⟩, hr1⟩ : ∃ r, A0z l 2000 = r := ⟨_, rfl⟩; rw [hr1] at hRO hk; generalize A1x a = bst at hk hSt; obtain ⟨bt, hbt⟩ : ∃ b, (U5 a).isSome = b := ⟨_, rfl⟩; rw [hbt] at hk; replace hk : ok = true → bst = true → bt = true → k1 = 0 ∨ k1 = 5 := hk; cases ok)
 refine sE (B0 rfl) rfl (fun b33 => ?_)
 refine sS rfl rfl rfl hla hoa rfl ?_ (hu := by exact O5 hla.symm)
 refine sD (nS (tS (tR ?_)))
 refine sL (A6 rfl rfl (H0 (by repeat first | exact mH | apply mT)) hla) rfl rfl ?_
 (refine M0 rfl (B1p a _ ca l _ hct hsa hra) rfl rfl (fun v2 G2 hle2 hh => ?_); obtain ⟨p2, c2, rfl, hR2⟩ := hh; replace hra := hra.mono hle2; replace hT := hT.mono hle2)
 refine E8 ?_
 refine sL (A6 rfl rfl (H0 (by repeat first | exact mH | apply mT)) hla) rfl rfl ?_
 (refine M0 rfl (B1q a _ ca l _ hct hsa (by omega) hra) rfl rfl (fun v3 G3 hle3 hh => ?_); obtain ⟨p3, c3, rfl, hR3⟩ := hh; replace hra := hra.mono hle3; replace hT := hT.mono hle3; replace hR2 := hR2.mono hle3)
 refine E8 ?_
 refine sL (A6 rfl rfl (H0 (by repeat first | exact mH | apply mT)) hla) rfl rfl ?_
 (refine M0 rfl (hTy _ ca hra) rfl rfl (fun v4 G4 hle4 hh => ?_); obtain ⟨ct, u, rfl, hru, _⟩ := hh; obtain ⟨qt, dt, et2, rfl, _⟩ := hru.open; replace hra := hra.mono hle4; replace hT := hT.mono hle4; replace hR2 := hR2.mono hle4; replace hR3 := hR3.mono hle4; rw [hbt]; cases bt)
 refine M3 ?_
 refine sE (B0 rfl) rfl (fun b66 => ?_)
 refine E8 ?_
 refine sQ (A1Q rfl rfl rfl) rfl ?_
 refine sQ (qM rfl) rfl (sQ (qM rfl) rfl (sQ (qM rfl) rfl ?_))
 refine H6 rfl ((A2s l _ _ _ _ _ _ _ hR2 hR3)) rfl rfl ?_
 refine A0S ?_
 refine sQ (A4x rfl rfl rfl) rfl ?_
 refine sQ (qM rfl) rfl (sQ (qM rfl) rfl (sQ (qM rfl) rfl ?_))
 refine H6 rfl ((A2s l _ _ _ _ _ _ _ hR2 hR3)) rfl rfl ?_
 refine C5 ?_
 (exact ⟨rfl, rfl⟩)
 refine M3 ?_
 refine sE (B0 rfl) rfl (fun b119 => ?_)
 refine E8 ?_
 refine sQ (A1Q rfl rfl rfl) rfl ?_
 refine sQ (qM rfl) rfl (sQ (qM rfl) rfl (sQ (qM rfl) rfl ?_))
 refine H6 rfl ((A2s l _ _ _ _ _ _ _ hR2 hR3)) rfl rfl ?_
 refine A0S ?_
 refine sQ (A4x rfl rfl rfl) rfl ?_
 refine sQ (qM rfl) rfl (sQ (qM rfl) rfl (sQ (qM rfl) rfl ?_))
 refine H6 rfl ((A2s l _ _ _ _ _ _ _ hR2 hR3)) rfl rfl ?_
 refine C5 ?_
 (exact ⟨rfl, rfl⟩)
 refine sE (B0 rfl) rfl (fun b169 => ?_)
 refine sS rfl rfl rfl hla hoa rfl ?_ (hu := by exact O5 hla.symm)
 refine sD (nS (tS (tR ?_)))
 refine sL (A6 rfl rfl (H0 (by repeat first | exact mH | apply mT)) hla) rfl rfl ?_
 (refine M0 rfl (B1p a _ ca l _ hct hsa hra) rfl rfl (fun v2 G2 hle2 hh => ?_); obtain ⟨p2, c2, rfl, hR2⟩ := hh; replace hra := hra.mono hle2; replace hT := hT.mono hle2)
 refine E8 ?_
 refine sL (A6 rfl rfl (H0 (by repeat first | exact mH | apply mT)) hla) rfl rfl ?_
 (refine M0 rfl (B1q a _ ca l _ hct hsa (by omega) hra) rfl rfl (fun v3 G3 hle3 hh => ?_); obtain ⟨p3, c3, rfl, hR3⟩ := hh; replace hra := hra.mono hle3; replace hT := hT.mono hle3; replace hR2 := hR2.mono hle3)
 refine E8 ?_
 refine sL (A6 rfl rfl (H0 (by repeat first | exact mH | apply mT)) hla) rfl rfl ?_
 (refine M0 rfl (hTy _ ca hra) rfl rfl (fun v4 G4 hle4 hh => ?_); obtain ⟨ct, u, rfl, hru, _⟩ := hh; obtain ⟨qt, dt, et2, rfl, _⟩ := hru.open; replace hra := hra.mono hle4; replace hT := hT.mono hle4; replace hR2 := hR2.mono hle4; replace hR3 := hR3.mono hle4; rw [hbt]; cases bt)
 refine M3 ?_
 refine sE (B0 rfl) rfl (fun b202 => ?_)
 refine E8 ?_
 refine sQ (A1Q rfl rfl rfl) rfl ?_
 refine sQ (qM rfl) rfl (sQ (qM rfl) rfl (sQ (qM rfl) rfl ?_))
 refine H6 rfl ((A2s l _ _ _ _ _ _ _ hR2 hR3)) rfl rfl ?_
 refine A0S ?_
 refine sQ (A4x rfl rfl rfl) rfl ?_
 refine sQ (qM rfl) rfl (sQ (qM rfl) rfl (sQ (qM rfl) rfl ?_))
 refine H6 rfl ((A2s l _ _ _ _ _ _ _ hR2 hR3)) rfl rfl ?_
 refine C5 ?_
 (exact ⟨rfl, rfl⟩)
 refine M3 ?_
 refine sE (B0 rfl) rfl (fun b255 => ?_)
 refine E8 ?_
 refine sQ (A1Q rfl rfl rfl) rfl ?_
 refine sQ (qM rfl) rfl (sQ (qM rfl) rfl (sQ (qM rfl) rfl ?_))
 refine H6 rfl ((A2s l _ _ _ _ _ _ _ hR2 hR3)) rfl rfl ?_
 refine J3 ?_
 refine sL (A6 rfl rfl (H0 (by repeat first | exact mH | apply mT)) hla) rfl rfl ?_
 focus (refine M0 rfl (hSt _ ca hra) rfl rfl (fun v5 G5 hle5 hh => ?_); subst hh; replace hra := hra.mono hle5; replace hT := hT.mono hle5; replace hR2 := hR2.mono hle5; replace hR3 := hR3.mono hle5; cases bst; rotate_left; have hk1 := hk rfl rfl rfl; rotate_left)
 refine E8 ?_
 refine sQ (A4x rfl rfl rfl) rfl ?_
 refine sQ (qM rfl) rfl (sQ (qM rfl) rfl (sQ (qM rfl) rfl ?_))
 refine H6 rfl ((A2s l _ _ _ _ _ _ _ hR2 hR3)) rfl rfl ?_
 refine C5 ?_
 (exact ⟨rfl, rfl⟩)
 refine H9 ?_
 (refine M0 rfl (hRO _ _ _ _ hT hR2 B7F) rfl rfl (fun v6 G6 hle6 hh => ?_); replace hh : v6 = .tuple ⟨[.string s1, .int .i64 k1, .int .i64 e1]⟩ := hh; subst hh)
 refine L4 ?_
 refine sB (qE rfl rfl) rfl rfl (fun h328 => ?_) (fun h328 => ?_)
 refine E8 ?_
 (exact ⟨rfl, rfl⟩)
 refine sQ (qM rfl) rfl (sQ (qM rfl) rfl ?_)
 refine sP (A1i rfl rfl (by omega)) rfl rfl ?_
 refine N6 ?_
 (exact ⟨rfl, rfl⟩)
end Gw
end Go.Proofs.YtgodjiieijekiaaGreatDoor
