/-
  The code of a term without types, and what its run does (plain).
-/
import Derived.Test.YtgodjiieijekiaaGreatDoorKc6
import Derived.Test.YtgodjiieijekiaaGreatDoorKc2
import Derived.Test.YtgodjiieijekiaaGreatDoorKc5
import Derived.Test.YtgodjiieijekiaaGreatDoorKc4
import Derived.Test.YtgodjiieijekiaaGreatDoorKc1
import Derived.Test.YtgodjiieijekiaaGreatDoorKc3
import Derived.Test.YtgodjiieijekiaaGreatDoorKS
import Derived.Shelf.Sort.Plain
import Derived.Lib.SlicesCompact
import Derived.Lib.Bytealg
import Derived.Lib.LastIndexByte
set_option linter.unusedVariables false
set_option linter.unusedSimpArgs false
set_option maxHeartbeats 0
set_option maxRecDepth 100000
set_option synthInstance.maxSize 4000
set_option synthInstance.maxHeartbeats 0
namespace Go.Proofs.YtgodjiieijekiaaGreatDoor
open Go Go.RowKit
namespace Gw
def V4 (x : ByteArray) : List ByteArray → Nat
 | [] => 0
 | y :: ys => if y = x then 0 else V4 x ys + 1
def D1 (n : List ByteArray) : GE → List (Int × Int)
 | .var x => [(3, (V4 x n : Int))]
 | .num k => [(1, k)]
 | .tru b => [(2, if b = true then 1 else 0)]
 | .lam x _ e => (4, ((D1 (x :: n) e).length : Int) + 1) :: (D1 (x :: n) e ++ [(5, 0)])
 | .app f a => D1 n f ++ (D1 n a ++ [(6, 0)])
 | .ar s a b => D1 n a ++ (D1 n b ++ [(if s = true then 8 else 7, 0)])
 | .ite c a b => D1 n c ++ ((9, ((D1 n a).length : Int) + 1) :: (D1 n a ++ ((10, ((D1 n b).length : Int)) :: D1 n b)))
 | .pair a b => D1 n a ++ (D1 n b ++ [(11, 0)])
 | .part s e => D1 n e ++ [(if s = true then 13 else 12, 0)]
 | .cast _ _ _ e => D1 n e
mutual
inductive Vr (ops : List (Int × Int)) : MV → GE → Prop
 | num {n : Int} : Vr ops (.mk 0 n [] []) (.num n)
 | tru {b : Bool} : Vr ops (.mk 1 (if b = true then 1 else 0) [] []) (.tru b)
 | clo {env : List MV} {σ : List (ByteArray × GE)} {x : ByteArray} {A : GT} {e : GE} {pre post : List (Int × Int)} : Es ops env σ → ops = pre ++ (D1 (x :: σ.map Prod.fst) e ++ ((5, 0) :: post)) → e.nt → (∀ y, e.fv y → y ∈ x :: σ.map Prod.fst) → Vr ops (.mk 2 (pre.length : Int) env []) (.lam x A (J2 (A1y x σ) e))
 | pair {v w : MV} {a b : GE} : Vr ops v a → Vr ops w b → Vr ops (.mk 3 0 [] [v, w]) (.pair a b)
inductive Es (ops : List (Int × Int)) : List MV → List (ByteArray × GE) → Prop
 | nil : Es ops [] []
 | cons {env : List MV} {σ : List (ByteArray × GE)} {v : MV} {w : GE} {x : ByteArray} : Es ops env σ → Vr ops v w → w.cl → GV w → w.nt → Es ops (env ++ [v]) ((x, w) :: σ)
end
theorem Es.clS {ops : List (Int × Int)} : ∀ {σ : List (ByteArray × GE)} {env : List MV}, Es ops env σ → clS σ
 | [], _, _ => fun p hp => by cases hp
 | (x, w) :: σ, _, .cons h _ hc _ _ => fun p hp => by
  rcases List.mem_cons.1 hp with rfl | hp
  ·exact hc
  ·exact h.clS p hp
theorem Es.get {ops : List (Int × Int)} {x : ByteArray} : ∀ {σ : List (ByteArray × GE)} {env : List MV}, Es ops env σ → x ∈ σ.map Prod.fst → ∃ v w, V4 x (σ.map Prod.fst) < env.length ∧ env.getD (env.length - 1 - V4 x (σ.map Prod.fst)) R0 = v ∧ J2 σ (.var x) = w ∧ Vr ops v w ∧ w.cl ∧ GV w ∧ w.nt
 | [], _, _, hx => by cases hx
 | (y, w) :: σ, _, .cons (env := env) (v := v) h hv hc hg hn, hx => by
  by_cases he : y = x
  ·subst he
   refine ⟨v, w, by simp [V4], ?_, ?_, hv, hc, hg, hn⟩
   ·simp [V4, List.getD_eq_getElem?_getD]
   ·rw [J2, GE.sub, if_pos rfl]; exact B0K hc σ
  ·have hx' : x ∈ σ.map Prod.fst := by
    rcases List.mem_cons.1 hx with h2 | h2
    ·exact absurd h2.symm he
    ·exact h2
   obtain ⟨v', w', h1, h2, h3, h4⟩ := h.get hx'
   have hi : V4 x (((y, w) :: σ).map Prod.fst) = V4 x (σ.map Prod.fst) + 1 := by
    rw [List.map_cons, V4]; exact if_neg he
   refine ⟨v', w', by rw [hi, List.length_append]; simp; exact h1, ?_, ?_, h4⟩
   ·rw [hi, List.length_append, List.length_singleton, List.getD_eq_getElem?_getD, List.getElem?_append_left (by omega), ← List.getD_eq_getElem?_getD, ← h2]
    congr 1; omega
   ·rw [J2, GE.sub, if_neg (fun h => he h.symm)]; exact h3
def Wr (b : GE) (c : Int) : Prop := b.nt ∧ P9 b.tm = false ∧ ∃ u, N3 b.tm = (u, 2, c)
section
variable {ops : List (Int × Int)} {t : Nat} {s s' : N7} {k a : Int}
theorem A2o (h : s.at' < (ops.length : Int)) : M7 ops 0 s = (⟨#[]⟩, 5, 0) := by rw [M7, if_neg (by omega)]
theorem A2p (h : s.at' < (ops.length : Int)) (ho : ops.getD s.at'.toNat (0, 0) = (k, a)) (hs : P5 k a s = .inl s') : M7 ops (t + 1) s = M7 ops t s' := by
 rw [M7, if_neg (by omega), ho, hs]
theorem A5A {c e : Int} (h : s.at' < (ops.length : Int)) (ho : ops.getD s.at'.toNat (0, 0) = (k, a)) (hs : P5 k a s = .inr (c, e)) : M7 ops (t + 1) s = (⟨#[]⟩, c, e) := by
 rw [M7, if_neg (by omega), ho, hs]
end
theorem B6l {pre post : List (Int × Int)} {x : Int × Int} : (pre ++ x :: post).getD pre.length (0, 0) = x := by
 rw [List.getD_eq_getElem?_getD, List.getElem?_append_right (Nat.le_refl _), Nat.sub_self]; rfl
inductive Sm : Nat → GE → GE → Prop
 | refl {e} : Sm 0 e e
 | step {n a b c} : GS a b → Sm n b c → Sm (n + 1) a c
inductive Bl : GE → Int → Prop
 | app1 {f a L} : Bl f L → Bl (.app f a) L
 | app2 {f a L} : GV f → Bl a L → Bl (.app f a) L
 | ar1 {s a b L} : Bl a L → Bl (.ar s a b) L
 | ar2 {s a b L} : GV a → Bl b L → Bl (.ar s a b) L
 | ite1 {c a b L} : Bl c L → Bl (.ite c a b) L
 | pair1 {a b L} : Bl a L → Bl (.pair a b) L
 | pair2 {a b L} : GV a → Bl b L → Bl (.pair a b) L
 | part1 {s e L} : Bl e L → Bl (.part s e) L
 | cast1 {A B l e L} : Bl e L → Bl (.cast A B l e) L
 | fail {G H l m w} : GV w → G.Gd → H.Gd → G ≠ H → Bl (.cast .any G l (.cast H .any m w)) l
section
variable {k : Int} {nm : ByteArray} {num : Int} {ty fr : Ty} {lb : Int} {a b : Tm} {l : Int}
end
theorem B0S {e e' : GE} {A B A' : GT} {l : Int} (h : GP P3 e e' A A') (hc : Co A B) (hv : GV e) : GV (.cast A B l e) ∨ (∃ r, GS (.cast A B l e) r) ∨ ∃ L, Bl (.cast A B l e) L := by
 by_cases hA : A = .any
 ·subst hA
  by_cases hB : B = .any
  ·subst hB; exact .inr (.inl ⟨_, .cid hv (.inl rfl)⟩)
  ·by_cases hg : B.gr = B
   ·obtain ⟨H, m, w, rfl, hw, hH⟩ := B4p h rfl hv rfl
    by_cases he : H = B
    ·subst he; exact .inr (.inl ⟨_, .hit hw hH⟩)
    ·exact .inr (.inr ⟨_, .fail hw ⟨hB, hg⟩ hH (fun h => he h.symm)⟩)
   ·exact .inr (.inl ⟨_, .down hv hB hg⟩)
 ·by_cases hB : B = .any
  ·subst hB
   by_cases hg : A.gr = A
   ·exact .inl (.inj hv ⟨hA, hg⟩)
   ·exact .inr (.inl ⟨_, .up hv hA hg⟩)
  ·cases hc with
   | l => exact absurd rfl hA
   | r => exact absurd rfl hB
   | int => exact .inr (.inl ⟨_, .cid hv (.inr (.inl rfl))⟩)
   | bool => exact .inr (.inl ⟨_, .cid hv (.inr (.inr rfl))⟩)
   | fn _ _ => exact .inl (.pf hv)
   | pr _ _ => exact .inl (.pp hv)
theorem B0T {Γ : GC} {e e' : GE} {A A' : GT} (h : GP Γ e e' A A') : Γ = P3 → GV e ∨ (∃ r, GS e r) ∨ ∃ L, Bl e L := by
 induction h with
 | var hx _ => intro hE; subst hE; cases hx
 | num => intro _; exact .inl .num
 | tru => intro _; exact .inl .tru
 | lam _ _ _ => intro _; exact .inl .lam
 | app hf ha i j =>
  intro hE
  refine .inr ?_
  rcases i hE with vf | ⟨r, s⟩ | ⟨L, b⟩
  ·rcases j hE with va | ⟨r, s⟩ | ⟨L, b⟩
   ·rcases B4m hf hE vf rfl with ⟨x, C, e, rfl⟩ | ⟨_, _, _, _, _, _, rfl, hw⟩
    ·exact .inl ⟨_, .beta va⟩
    ·exact .inl ⟨_, .appx hw va⟩
   ·exact .inl ⟨_, .app2 vf s⟩
   ·exact .inr ⟨L, .app2 vf b⟩
  ·exact .inl ⟨_, .app1 s⟩
  ·exact .inr ⟨L, .app1 b⟩
 | ar ha hb i j =>
  intro hE
  refine .inr ?_
  rcases i hE with va | ⟨r, s⟩ | ⟨L, b⟩
  ·rcases j hE with vb | ⟨r, s⟩ | ⟨L, b⟩
   ·obtain ⟨m, rfl⟩ := A9r ha hE va rfl
    obtain ⟨n, rfl⟩ := A9r hb hE vb rfl
    exact .inl ⟨_, .ar⟩
   ·exact .inl ⟨_, .ar2 va s⟩
   ·exact .inr ⟨L, .ar2 va b⟩
  ·exact .inl ⟨_, .ar1 s⟩
  ·exact .inr ⟨L, .ar1 b⟩
 | ite hc _ _ i _ _ =>
  intro hE
  refine .inr ?_
  rcases i hE with va | ⟨r, s⟩ | ⟨L, b⟩
  ·obtain ⟨m, rfl⟩ := B4o hc hE va rfl
   exact .inl ⟨_, .ite⟩
  ·exact .inl ⟨_, .ite1 s⟩
  ·exact .inr ⟨L, .ite1 b⟩
 | pair _ _ i j =>
  intro hE
  rcases i hE with va | ⟨r, s⟩ | ⟨L, b⟩
  ·rcases j hE with vb | ⟨r, s⟩ | ⟨L, b⟩
   ·exact .inl (.pair va vb)
   ·exact .inr (.inl ⟨_, .pair2 va s⟩)
   ·exact .inr (.inr ⟨L, .pair2 va b⟩)
  ·exact .inr (.inl ⟨_, .pair1 s⟩)
  ·exact .inr (.inr ⟨L, .pair1 b⟩)
 | part hp i =>
  intro hE
  refine .inr ?_
  rcases i hE with va | ⟨r, s⟩ | ⟨L, b⟩
  ·rcases B4n hp hE va rfl with ⟨a, b, rfl, va, vb⟩ | ⟨_, _, _, _, _, _, rfl, hw⟩
   ·exact .inl ⟨_, .part va vb⟩
   ·exact .inl ⟨_, .partx hw⟩
  ·exact .inl ⟨_, .part1 s⟩
  ·exact .inr ⟨L, .part1 b⟩
 | castL h hc _ i =>
  intro hE
  rcases i hE with hv | ⟨r, s⟩ | ⟨L, b⟩
  ·subst hE; exact B0S h hc hv
  ·exact .inr (.inl ⟨_, .cast1 s⟩)
  ·exact .inr (.inr ⟨L, .cast1 b⟩)
 | castR _ _ _ i => exact i
 | castB h hc _ _ i =>
  intro hE
  rcases i hE with hv | ⟨r, s⟩ | ⟨L, b⟩
  ·subst hE; exact B0S h hc hv
  ·exact .inr (.inl ⟨_, .cast1 s⟩)
  ·exact .inr (.inr ⟨L, .cast1 b⟩)
def GT.cp : GT → Prop
 | .fn _ _ => True
 | .pr _ _ => True
 | _ => False
def B0U : List Int → GE → GE
 | [], y => y
 | k :: ks, y => .cast .any .any k (B0U ks y)
inductive HR : GC → GE → GE → GT → Prop
 | var {Γ x A} : Γ x = some (A, A) → HR Γ (.var x) (.var x) A
 | num {Γ n} : HR Γ (.num n) (.num n) .int
 | tru {Γ b} : HR Γ (.tru b) (.tru b) .bool
 | lam {Γ x A B e e'} : HR (gup Γ x A A) e e' B → HR Γ (.lam x A e) (.lam x A e') (.fn A B)
 | app {Γ f f' a a' A B} : HR Γ f f' (.fn A B) → HR Γ a a' A → HR Γ (.app f a) (.app f' a') B
 | ar {Γ s a a' b b'} : HR Γ a a' .int → HR Γ b b' .int → HR Γ (.ar s a b) (.ar s a' b') (if s = true then .bool else .int)
 | ite {Γ c c' a a' b b' A} : HR Γ c c' .bool → HR Γ a a' A → HR Γ b b' A → HR Γ (.ite c a b) (.ite c' a' b') A
 | pair {Γ a a' b b' A B} : HR Γ a a' A → HR Γ b b' B → HR Γ (.pair a b) (.pair a' b') (.pr A B)
 | part {Γ s e e' A B} : HR Γ e e' (.pr A B) → HR Γ (.part s e) (.part s e') (if s = true then B else A)
 | cast {Γ e x A B l} : HR Γ e x A → Co A B → HR Γ (.cast A B l e) (.cast A B l x) B
 | idR {Γ e x A l} : HR Γ e x A → HR Γ e (.cast A A l x) A
 | idL {Γ e x A l} : HR Γ e x A → HR Γ (.cast A A l e) x A
 | back {Γ e x B l m} (ks : List Int) : HR Γ e x B → HR Γ e (.cast .any B l (B0U ks (.cast B .any m x))) B
 | backG {Γ e x B l m} : HR Γ e x B → B.cp → HR Γ e (.cast B.gr B l (.cast B B.gr m x)) B
 | dyn {Γ e x A B l} : HR Γ e x A → Co A B → HR Γ (.cast A B l e) (.cast .any B l (.cast A .any l x)) B
 | dynG {Γ e x A B l} : HR Γ e x A → Co A B → A.cp → B.cp → HR Γ (.cast A B l e) (.cast B.gr B l (.cast A A.gr l x)) B
 | dynU {Γ e x A B l} : HR Γ e x A → Co A B → A.cp → HR Γ (.cast A B l e) (.cast .any B l (.cast A.gr .any l (.cast A A.gr l x))) B
theorem A7r {f a b : GE} (v : GV f) (h : Ss a b) : Ss (.app f a) (.app f b) := h.ctx (fun z => .app f z) fun _ _ => .app2 v
theorem A7s {s : Bool} {f a b : GE} (v : GV f) (h : Ss a b) : Ss (.ar s f a) (.ar s f b) := h.ctx (fun z => .ar s f z) fun _ _ => .ar2 v
theorem B0V {f a b : GE} (v : GV f) (h : Ss a b) : Ss (.pair f a) (.pair f b) := h.ctx (fun z => .pair f z) fun _ _ => .pair2 v
section
variable {st env : List MV} {fr : List (Int × List MV)} {p a : Int} {v0 v1 : MV}
theorem dr2 : (st ++ [v0] ++ [v1]).drop ((st ++ [v0] ++ [v1]).length - 2) = [v0, v1] := by
 have : (st ++ [v0] ++ [v1]).length - 2 = st.length := by simp
 rw [this, List.append_assoc, List.drop_left]; rfl
theorem tk2 : (st ++ [v0] ++ [v1]).take ((st ++ [v0] ++ [v1]).length - 2) = st := by
 have : (st ++ [v0] ++ [v1]).length - 2 = st.length := by simp
 rw [this, List.append_assoc, List.take_left]
theorem dr1 : (st ++ [v0]).drop ((st ++ [v0]).length - 1) = [v0] := by
 have : (st ++ [v0]).length - 1 = st.length := by simp
 rw [this, List.drop_left]
theorem tk1 : (st ++ [v0]).take ((st ++ [v0]).length - 1) = st := by
 have : (st ++ [v0]).length - 1 = st.length := by simp
 rw [this, List.take_left]
theorem A5B {k : Int} (h : L5 k = 2) : ¬(st ++ [v0] ++ [v1]).length < L5 k := by rw [h]; simp
theorem B0W {k : Int} (h : L5 k = 1) : ¬(st ++ [v0]).length < L5 k := by rw [h]; simp
theorem A3q {k : Int} (h : L5 k = 0) : ¬st.length < L5 k := by rw [h]; omega
theorem s6 : P5 6 a ⟨p, st ++ [v0] ++ [v1], env, fr⟩ = if v0.k = 2 then .inl ⟨v0.num, st, v0.env ++ [v1], fr ++ [(p + 1, env)]⟩ else .inr (2, 1) := by
 rw [A0m (A5B rfl), A4P dr2, tk2]
theorem s7 : P5 7 a ⟨p, st ++ [v0] ++ [v1], env, fr⟩ = if v0.k = 0 ∧ v1.k = 0 then .inl ⟨p + 1, st ++ [.mk 0 ((v0.num + v1.num) % 1000) [] []], env, fr⟩ else .inr (2, 2) := by
 rw [A0m (A5B rfl), A6q dr2, tk2]
theorem s8 : P5 8 a ⟨p, st ++ [v0] ++ [v1], env, fr⟩ = if v0.k = 0 ∧ v1.k = 0 then .inl ⟨p + 1, st ++ [.mk 1 (if v0.num < v1.num then 1 else 0) [] []], env, fr⟩ else .inr (2, 2) := by
 rw [A0m (A5B rfl), A4Q dr2, tk2]
theorem s11 : P5 11 a ⟨p, st ++ [v0] ++ [v1], env, fr⟩ = .inl ⟨p + 1, st ++ [.mk 3 0 [] [v0, v1]], env, fr⟩ := by
 rw [A0m (A5B rfl), A6r dr2, tk2]
theorem s9 : P5 9 a ⟨p, st ++ [v0], env, fr⟩ = if v0.k = 1 then .inl ⟨if v0.num = 0 then p + 1 + a else p + 1, st, env, fr⟩ else .inr (2, 3) := by
 rw [A0m (B0W rfl), A4R dr1, tk1]
theorem s12 {k : Int} (hk : k = 12 ∨ k = 13) : P5 k a ⟨p, st ++ [v0], env, fr⟩ = if v0.k = 3 then .inl ⟨p + 1, st ++ [v0.parts.getD (k - 12).toNat R0], env, fr⟩ else .inr (2, 4) := by
 rw [A0m (B0W (by rcases hk with rfl | rfl <;> rfl)), A6s hk dr1, tk1]
theorem s1 : P5 1 a ⟨p, st, env, fr⟩ = .inl ⟨p + 1, st ++ [.mk 0 a [] []], env, fr⟩ := by rw [A0m (A3q rfl), A6t]
theorem s2 : P5 2 a ⟨p, st, env, fr⟩ = .inl ⟨p + 1, st ++ [.mk 1 a [] []], env, fr⟩ := by rw [A0m (A3q rfl), A6u]
theorem s3 : P5 3 a ⟨p, st, env, fr⟩ = if (env.length : Int) - 1 - a < 0 then .inr (3, 0) else .inl ⟨p + 1, st ++ [env.getD ((env.length : Int) - 1 - a).toNat R0], env, fr⟩ := by rw [A0m (A3q rfl), A4S]
theorem s4 : P5 4 a ⟨p, st, env, fr⟩ = .inl ⟨p + 1 + a, st ++ [.mk 2 (p + 1) env []], env, fr⟩ := by rw [A0m (A3q rfl), A6v]
theorem s5 {q : Int} {en : List MV} : P5 5 a ⟨p, st, env, fr ++ [(q, en)]⟩ = .inl ⟨q, st, en, fr⟩ := by
 rw [A0m (A3q rfl), A4T]
 have h1 : (fr ++ [(q, en)]).length - 1 = fr.length := by simp
 show (if (fr ++ [(q, en)]).length = 0 then _ else (_ : N7 ⊕ (Int × Int))) = _
 rw [if_neg (by simp), h1, List.take_left, List.getD_eq_getElem?_getD, List.getElem?_append_right (Nat.le_refl _), Nat.sub_self]
 rfl
theorem s10 : P5 10 a ⟨p, st, env, fr⟩ = .inl ⟨p + 1 + a, st, env, fr⟩ := by rw [A0m (A3q rfl), A6w]
end
def Bg (ops : List (Int × Int)) (t : Nat) (p q : Int) (st env : List MV) (fr : List (Int × List MV)) (b : GE) : Prop :=
 (M7 ops t ⟨p, st, env, fr⟩).2.1 = 5 ∨ (∃ c b', M7 ops t ⟨p, st, env, fr⟩ = (⟨#[]⟩, 2, c) ∧ Ss b b' ∧ Wr b' c) ∨
 ∃ t' v w, t' < t ∧ Ss b w ∧ GV w ∧ w.cl ∧ w.nt ∧ Vr ops v w ∧ M7 ops t ⟨p, st, env, fr⟩ = M7 ops t' ⟨q, st ++ [v], env, fr⟩
section
variable {ops : List (Int × Int)} {t : Nat} {p q : Int} {st env : List MV} {fr : List (Int × List MV)}
theorem A5C {k a : Int} {v : MV} {b : GE} (h0 : 0 ≤ p) (h : p < (ops.length : Int)) (ho : ops.getD p.toNat (0, 0) = (k, a)) (hs : P5 k a ⟨p, st, env, fr⟩ = .inl ⟨q, st ++ [v], env, fr⟩) (hg : GV b) (hc : b.cl) (hn : b.nt) (hv : Vr ops v b) : Bg ops t p q st env fr b := by
 cases t with
 | zero => left; rw [A2o (by exact h)]
 | succ t => exact .inr (.inr ⟨t, v, b, Nat.lt_succ_self t, .refl, hg, hc, hn, hv, A2p (by exact h) ho hs⟩)
theorem A4o {r : Int} {b c : GE} (C : GE → GE) (h : Bg ops t p q st env fr b) (hC : ∀ x y, GS x y → GS (C x) (C y)) (hw : ∀ x n, Wr x n → Wr (C x) n) (hb : c = C b)
  (hk : ∀ t' v w, t' < t → GV w → w.cl → w.nt → Vr ops v w → Ss b w → (M7 ops t' ⟨q, st ++ [v], env, fr⟩).2.1 = 5 ∨ (∃ n b', M7 ops t' ⟨q, st ++ [v], env, fr⟩ = (⟨#[]⟩, 2, n) ∧ Ss (C w) b' ∧ Wr b' n) ∨
   ∃ t2 v2 w2, t2 < t ∧ Ss (C w) w2 ∧ GV w2 ∧ w2.cl ∧ w2.nt ∧ Vr ops v2 w2 ∧ M7 ops t' ⟨q, st ++ [v], env, fr⟩ = M7 ops t2 ⟨r, st ++ [v2], env, fr⟩) : Bg ops t p r st env fr c := by
 subst hb
 rcases h with h | ⟨n, b', h1, h2, h3⟩ | ⟨t', v, w, h1, h2, h3, h4, h5, h6, h7⟩
 ·exact .inl h
 ·exact .inr (.inl ⟨n, C b', h1, h2.ctx C hC, hw _ _ h3⟩)
 ·have s1 := h2.ctx C hC
  rcases hk t' v w h1 h3 h4 h5 h6 h2 with g | ⟨n, b', g1, g2, g3⟩ | ⟨t2, v2, w2, g1, g2, g3⟩
  ·left; rw [h7]; exact g
  ·exact .inr (.inl ⟨n, b', h7.trans g1, s1.trans g2, g3⟩)
  ·exact .inr (.inr ⟨t2, v2, w2, g1, s1.trans g2, g3.1, g3.2.1, g3.2.2.1, g3.2.2.2.1, h7.trans g3.2.2.2.2⟩)
end
theorem A4p {k : Int} {x : GE} {c : Int} (h : Wr x c) {nm : ByteArray} {num : Int} {ty fr : Ty} {lb : Int} {ks : List Tm} : ∃ u, N3 (.mk k nm num ty fr lb (x.tm :: ks)) = (u, 2, c) := by
 obtain ⟨hn, hv, u, hu⟩ := h
 have := B0a (k := k) (nm := nm) (num := num) (ty := ty) (fr := fr) (lb := lb) (ks := x.tm :: ks) (i := 0) (by simp) (by split <;> simp) (fun j hj => by omega) hv
 simp only [List.getElem_cons_zero, hu] at this
 exact ⟨(N3 (.mk k nm num ty fr lb (x.tm :: ks))).1, by rw [← this.1, ← this.2.1]⟩
theorem A7t {k : Int} {f x : GE} {c : Int} (hf : GV f) (h : Wr x c) (hk : k ≠ 9) {nm : ByteArray} {num : Int} {ty fr : Ty} {lb : Int} : ∃ u, N3 (.mk k nm num ty fr lb [f.tm, x.tm]) = (u, 2, c) := by
 obtain ⟨hn, hv, u, hu⟩ := h
 have := B0a (k := k) (nm := nm) (num := num) (ty := ty) (fr := fr) (lb := lb) (ks := [f.tm, x.tm]) (i := 1) (by simp) (by rw [if_neg hk]; simp) (fun j hj _ => by
  obtain rfl : j = 0 := by omega
  exact (A0F f).2 hf) hv
 simp only [List.getElem_cons_succ, List.getElem_cons_zero, hu] at this
 exact ⟨(N3 (.mk k nm num ty fr lb [f.tm, x.tm])).1, by rw [← this.1, ← this.2.1]⟩
theorem A7u {x : GE} {c : Int} (h : Wr x c) : ¬GV x := fun hv => by have := (A0F x).2 hv; rw [h.2.1] at this; cases this
theorem B6m {f a : GE} {c : Int} (ha : a.nt) (h : Wr f c) : Wr (.app f a) c := ⟨⟨h.1, ha⟩, A0Y (by intro h; cases h), A4p h⟩
theorem B6n {f a : GE} {c : Int} (hf : GV f) (hn : f.nt) (h : Wr a c) : Wr (.app f a) c := ⟨⟨hn, h.1⟩, A0Y (by intro h; cases h), A7t hf h (by decide)⟩
theorem B6o {s : Bool} {f a : GE} {c : Int} (ha : a.nt) (h : Wr f c) : Wr (.ar s f a) c := ⟨⟨h.1, ha⟩, A0Y (by intro h; cases h), A4p h⟩
theorem B6p {s : Bool} {f a : GE} {c : Int} (hf : GV f) (hn : f.nt) (h : Wr a c) : Wr (.ar s f a) c := ⟨⟨hn, h.1⟩, A0Y (by intro h; cases h), A7t hf h (by cases s <;> decide)⟩
theorem B6q {f a : GE} {c : Int} (ha : a.nt) (h : Wr f c) : Wr (.pair f a) c := ⟨⟨h.1, ha⟩, A0Y (by intro g; cases g with | pair g _ => exact A7u h g), A4p h⟩
theorem B6r {f a : GE} {c : Int} (hf : GV f) (hn : f.nt) (h : Wr a c) : Wr (.pair f a) c := ⟨⟨hn, h.1⟩, A0Y (by intro g; cases g with | pair _ g => exact A7u h g), A7t hf h (by decide)⟩
theorem B6s {x a b : GE} {c : Int} (ha : a.nt) (hb : b.nt) (h : Wr x c) : Wr (.ite x a b) c := ⟨⟨h.1, ha, hb⟩, A0Y (by intro h; cases h), A4p h⟩
theorem B6t {s : Bool} {x : GE} {c : Int} (h : Wr x c) : Wr (.part s x) c := ⟨h.1, A0Y (by intro h; cases h), A4p h⟩
theorem B0X {e : GE} {k c : Int} {f a : GE} {nm : ByteArray} {num : Int} {ty fr : Ty} {lb : Int} (he : e.tm = .mk k nm num ty fr lb [f.tm, a.tm]) (hk : k ≠ 9) (hn : e.nt) (hv : ¬GV e) (hf : GV f) (ha : GV a) (hr : A0u k [f.tm, a.tm] = (I2, 2, c)) : Wr e c :=
 ⟨hn, A0Y hv, I2, by rw [he, A68 ((A0F f).2 hf) ((A0F a).2 ha) hk, hr]⟩
theorem B6u {e : GE} {k c : Int} {f : GE} {nm : ByteArray} {num : Int} {ty fr : Ty} {lb : Int} (he : e.tm = .mk k nm num ty fr lb [f.tm]) (hn : e.nt) (hv : ¬GV e) (hf : GV f) (hr : A0u k [f.tm] = (I2, 2, c)) : Wr e c :=
 ⟨hn, A0Y hv, I2, by rw [he, B0b ((A0F f).2 hf), hr]⟩
theorem B6v {x y : ByteArray} {v : GE} (hv : v.cl) : ∀ e : GE, (e.sub x v).fv y → e.fv y ∧ y ≠ x := by
 intro e
 induction e with
 | var z =>
  rw [GE.sub]
  split
  ·intro h; exact (hv y h).elim
  ·rename_i hz; intro h; exact ⟨h, fun he => hz ((show z = y from h).trans he)⟩
 | num n => intro h; exact h.elim
 | tru b => intro h; exact h.elim
 | lam z A e i =>
  rw [GE.sub]
  split
  ·rename_i hz; intro h; exact ⟨h, fun he => h.1 (hz.trans he.symm)⟩
  ·intro h; have := i h.2; exact ⟨⟨h.1, this.1⟩, this.2⟩
 | app f a i j => rintro (h | h); exact ⟨.inl (i h).1, (i h).2⟩; exact ⟨.inr (j h).1, (j h).2⟩
 | ar s f a i j => rintro (h | h); exact ⟨.inl (i h).1, (i h).2⟩; exact ⟨.inr (j h).1, (j h).2⟩
 | ite c f a i j k => rintro (h | h | h); exact ⟨.inl (i h).1, (i h).2⟩; exact ⟨.inr (.inl (j h).1), (j h).2⟩; exact ⟨.inr (.inr (k h).1), (k h).2⟩
 | pair f a i j => rintro (h | h); exact ⟨.inl (i h).1, (i h).2⟩; exact ⟨.inr (j h).1, (j h).2⟩
 | part s e i => intro h; exact i h
 | cast A B l e i => intro h; exact i h
theorem B0Y {y : ByteArray} : ∀ (σ : List (ByteArray × GE)) (e : GE), clS σ → (J2 σ e).fv y → e.fv y ∧ y ∉ σ.map Prod.fst
 | [], e, _, h => ⟨h, by simp⟩
 | (x, v) :: σ, e, hs, h => by
  obtain ⟨h1, h2⟩ := B0Y σ (e.sub x v) (fun p hp => hs p (List.mem_cons_of_mem _ hp)) h
  obtain ⟨h3, h4⟩ := B6v (hs (x, v) List.mem_cons_self) e h1
  exact ⟨h3, by rw [List.map_cons, List.mem_cons]; rintro (h5 | h5); exact h4 h5; exact h2 h5⟩
theorem A2S : ∀ (σ : List (ByteArray × GE)) (e : GE), (∀ p ∈ σ, p.2.nt) → e.nt → (J2 σ e).nt
 | [], _, _, h => h
 | (x, v) :: σ, e, hs, h => A2S σ (e.sub x v) (fun p hp => hs p (List.mem_cons_of_mem _ hp)) (B0d (hs (x, v) List.mem_cons_self) e h)
theorem Es.nts {ops : List (Int × Int)} : ∀ {σ : List (ByteArray × GE)} {env : List MV}, Es ops env σ → ∀ p ∈ σ, p.2.nt
 | [], _, _ => fun p hp => by cases hp
 | (x, w) :: σ, _, .cons h _ _ _ hn => fun p hp => by
  rcases List.mem_cons.1 hp with rfl | hp
  ·exact hn
  ·exact h.nts p hp
theorem B0Z {x : ByteArray} {σ : List (ByteArray × GE)} {p : ByteArray × GE} (h : p ∈ A1y x σ) : p ∈ σ := (List.mem_filter.1 h).1
theorem B6w {x y : ByteArray} {σ : List (ByteArray × GE)} (h : y ∈ σ.map Prod.fst) (hx : y ≠ x) : y ∈ (A1y x σ).map Prod.fst := by
 obtain ⟨p, hp, rfl⟩ := List.mem_map.1 h
 exact List.mem_map.2 ⟨p, List.mem_filter.2 ⟨hp, decide_eq_true hx⟩, rfl⟩
theorem A1f {ops pre post : List (Int × Int)} {x : Int × Int} (h : ops = pre ++ (x :: post)) : (pre.length : Int) < (ops.length : Int) ∧ ops.getD (pre.length : Int).toNat (0, 0) = x := by
 subst h
 exact ⟨by first | (simp; done) | (simp; omega), by rw [Int.toNat_natCast]; exact B6l⟩
theorem B6x {x : ByteArray} {w : GE} {σ : List (ByteArray × GE)} {e : GE} (hw : w.cl) (hs : clS σ) : (J2 (A1y x σ) e).sub x w = J2 ((x, w) :: σ) e := A7q x w hw σ e hs
theorem B00 {ops : List (Int × Int)} {v : MV} {w : GE} (h : Vr ops v w) : (v.k = 0 ∧ ∃ n, v = .mk 0 n [] [] ∧ w = .num n) ∨ (v.k ≠ 0 ∧ w.tm.k ≠ 2) := by
 cases h with
 | num => exact .inl ⟨rfl, _, rfl, rfl⟩
 | @tru b => exact .inr ⟨by simp [MV.k], by cases b <;> simp [GE.tm, Tm.k]⟩
 | pair _ _ => exact .inr ⟨by simp [MV.k], by simp [GE.tm, Tm.k]⟩
 | clo _ _ _ _ => exact .inr ⟨by simp [MV.k], by simp [GE.tm, Tm.k]⟩
theorem B6y {ops : List (Int × Int)} {v : MV} {w : GE} (h : Vr ops v w) : (v.k = 1 ∧ ∃ b : Bool, v = .mk 1 (if b = true then 1 else 0) [] [] ∧ w = .tru b) ∨ (v.k ≠ 1 ∧ w.tm.k ≠ 3 ∧ w.tm.k ≠ 4) := by
 cases h with
 | num => exact .inr ⟨by simp [MV.k], by simp [GE.tm, Tm.k], by simp [GE.tm, Tm.k]⟩
 | @tru b => exact .inl ⟨rfl, b, rfl, rfl⟩
 | pair _ _ => exact .inr ⟨by simp [MV.k], by simp [GE.tm, Tm.k], by simp [GE.tm, Tm.k]⟩
 | clo _ _ _ _ => exact .inr ⟨by simp [MV.k], by simp [GE.tm, Tm.k], by simp [GE.tm, Tm.k]⟩
theorem B6z {ops : List (Int × Int)} {v : MV} {w : GE} (h : Vr ops v w) : (v.k = 3 ∧ ∃ v0 v1 a b, v = .mk 3 0 [] [v0, v1] ∧ w = .pair a b ∧ Vr ops v0 a ∧ Vr ops v1 b) ∨ (v.k ≠ 3 ∧ w.tm.k ≠ 10) := by
 cases h with
 | num => exact .inr ⟨by simp [MV.k], by simp [GE.tm, Tm.k]⟩
 | @tru b => exact .inr ⟨by simp [MV.k], by cases b <;> simp [GE.tm, Tm.k]⟩
 | pair h1 h2 => exact .inl ⟨rfl, _, _, _, _, rfl, rfl, h1, h2⟩
 | clo _ _ _ _ => exact .inr ⟨by simp [MV.k], by simp [GE.tm, Tm.k]⟩
theorem B6A {s : Bool} {a b : Tm} (h : ¬(a.k = 2 ∧ b.k = 2)) : A0u (if s = true then 8 else 7) [a, b] = (I2, 2, 2) := by
 have hm : A00 (if s = true then 8 else 7) [a, b] = none := by
  unfold A00
  cases s
  ·rw [if_neg (by decide), if_pos (by decide)]; exact if_neg h
  ·rw [if_neg (by decide), if_pos (by decide)]; exact if_neg h
 rw [A3m hm]
 cases s <;> rfl
theorem B6B {s : Bool} {a : Tm} (h : a.k ≠ 10) : A0u (if s = true then 12 else 11) [a] = (I2, 2, 4) := by
 have hm : A00 (if s = true then 12 else 11) [a] = none := by
  unfold A00
  cases s
  ·rw [if_neg (by decide), if_neg (by decide), if_neg (by decide), if_pos (by decide)]; exact if_neg h
  ·rw [if_neg (by decide), if_neg (by decide), if_neg (by decide), if_pos (by decide)]; exact if_neg h
 rw [A3m hm]
 cases s <;> rfl
theorem B6C {a b c : Tm} (h : a.k ≠ 3) (h2 : a.k ≠ 4) : A0u 9 [a, b, c] = (I2, 2, 3) := by
 have hm : A00 9 [a, b, c] = none := by
  unfold A00
  rw [if_neg (by decide), if_neg (by decide), if_pos rfl]
  show (if a.k = 3 then some b else if a.k = 4 then some c else none) = none
  rw [if_neg h, if_neg h2]
 rw [A3m hm]; rfl
theorem sAr {s : Bool} {a p : Int} {st env : List MV} {fr : List (Int × List MV)} {v0 v1 : MV} : P5 (if s = true then 8 else 7) a ⟨p, st ++ [v0] ++ [v1], env, fr⟩ = if v0.k = 0 ∧ v1.k = 0 then .inl ⟨p + 1, st ++ [if s = true then .mk 1 (if v0.num < v1.num then 1 else 0) [] [] else .mk 0 ((v0.num + v1.num) % 1000) [] []], env, fr⟩ else .inr (2, 2) := by
 cases s
 ·exact s7
 ·exact s8
theorem big {ops : List (Int × Int)} : ∀ (t : Nat) (e : GE) (σ : List (ByteArray × GE)) (env st : List MV) (fr : List (Int × List MV)) (pre post : List (Int × Int)), e.nt → ops = pre ++ (D1 (σ.map Prod.fst) e ++ post) → Es ops env σ → (∀ y, e.fv y → y ∈ σ.map Prod.fst) →
  Bg ops t (pre.length : Int) ((pre ++ D1 (σ.map Prod.fst) e).length : Int) st env fr (J2 σ e) := by
 intro t
 induction t using Nat.strongRecOn with
 | ind t iht =>
 intro e
 induction e with
 | cast A B l e i => intro _ _ _ _ _ _ h; exact h.elim
 | num n =>
  intro σ env st fr pre post hn ho hE hf
  rw [D1] at ho ⊢
  obtain ⟨h1, h2⟩ := A1f (show ops = pre ++ ((1, n) :: post) from ho)
  rw [B0L]
  exact A5C (by omega) h1 h2 (by rw [s1]; simp) .num (fun x h => h.elim) trivial .num
 | tru b =>
  intro σ env st fr pre post hn ho hE hf
  rw [D1] at ho ⊢
  obtain ⟨h1, h2⟩ := A1f (show ops = pre ++ ((2, if b = true then 1 else 0) :: post) from ho)
  rw [B0M]
  exact A5C (by omega) h1 h2 (by rw [s2]; simp) .tru (fun x h => h.elim) trivial .tru
 | var x =>
  intro σ env st fr pre post hn ho hE hf
  rw [D1] at ho ⊢
  obtain ⟨h1, h2⟩ := A1f (show ops = pre ++ ((3, (V4 x (σ.map Prod.fst) : Int)) :: post) from ho)
  obtain ⟨v, w, g1, g2, g3, g4, g5, g6, g7⟩ := hE.get (hf x rfl)
  rw [g3]
  refine A5C (v := v) (by omega) h1 h2 ?_ g6 g5 g7 g4
  rw [s3, if_neg (by omega)]
  rw [show ((env.length : Int) - 1 - (V4 x (σ.map Prod.fst) : Int)).toNat = env.length - 1 - V4 x (σ.map Prod.fst) by omega, g2]
  simp
 | lam x A e i =>
  intro σ env st fr pre post hn ho hE hf
  rw [D1] at ho ⊢
  rw [List.cons_append, List.append_assoc] at ho
  obtain ⟨h1, h2⟩ := A1f ho
  rw [A7p]
  have hA : A = .any := hn.1
  refine A5C (v := .mk 2 ((pre ++ [((4 : Int), ((D1 (x :: σ.map Prod.fst) e).length : Int) + 1)]).length : Int) env []) (by omega) h1 h2 ?_ .lam ?_ ?_ ?_
  ·rw [s4]; first | (simp; done) | (simp; omega)
  ·intro y hy
   obtain ⟨h3, h4⟩ := B0Y (A1y x σ) e (fun p hp => hE.clS p (B0Z hp)) hy.2
   exact h4 (B6w (hf y ⟨hy.1, h3⟩) (fun h => hy.1 h.symm))
  ·exact ⟨hA, A2S _ _ (fun p hp => hE.nts p (B0Z hp)) hn.2⟩
  ·refine .clo (post := post) hE (by rw [ho]; simp) hn.2 (fun y hy => ?_)
   by_cases hxy : x = y
   ·rw [hxy]; exact List.mem_cons_self
   ·exact List.mem_cons_of_mem _ (hf y ⟨hxy, hy⟩)
 | app f a i j =>
  intro σ env st fr pre post hn ho hE hf
  rw [D1] at ho ⊢
  rw [List.append_assoc, List.append_assoc] at ho
  have hs := hE.clS
  have b1 := i σ env st fr pre _ hn.1 ho hE (fun y h => hf y (.inl h))
  have ho2 : ops = (pre ++ D1 (σ.map Prod.fst) f) ++ (D1 (σ.map Prod.fst) a ++ ((6, 0) :: post)) := by rw [ho]; simp
  have ho3 : ops = ((pre ++ D1 (σ.map Prod.fst) f) ++ D1 (σ.map Prod.fst) a) ++ ((6, 0) :: post) := by rw [ho]; simp
  obtain ⟨h1, h2⟩ := A1f ho3
  have hna := A2S σ a hE.nts hn.2
  rw [B0N]
  refine A4o (fun z => .app z (J2 σ a)) b1 (fun _ _ => .app1) (fun _ _ => B6m hna) rfl ?_
  intro t1 v w ht1 hg hc hnw hv _
  rcases iht t1 ht1 a σ env (st ++ [v]) fr _ _ hn.2 ho2 hE (fun y h => hf y (.inr h)) with g | ⟨n, b', g1, g2, g3⟩ | ⟨t2, v2, w2, k1, k2, k3, k4, k5, k6, k7⟩
  ·exact .inl g
  ·exact .inr (.inl ⟨n, .app w b', g1, A7r hg g2, B6n hg hnw g3⟩)
  ·rw [k7]
   cases t2 with
   | zero => left; rw [A2o (by exact h1)]
   | succ t3 =>
    have bad : v.k ≠ 2 → A0u 6 [w.tm, w2.tm] = (I2, 2, 1) → (∃ n b', M7 ops (t3 + 1) ⟨_, st ++ [v] ++ [v2], env, fr⟩ = (⟨#[]⟩, 2, n) ∧ Ss (.app w (J2 σ a)) b' ∧ Wr b' n) := fun hk hr =>
     ⟨1, .app w w2, A5A (by exact h1) h2 (by rw [s6]; exact if_neg hk), A7r hg k2, B0X (k := 6) rfl (by decide) ⟨hnw, k5⟩ (by intro h; cases h) hg k3 hr⟩
    cases hv with
    | num => exact .inr (.inl (bad (by simp [MV.k]) (A3m rfl)))
    | @tru b => exact .inr (.inl (bad (by simp [MV.k]) (by cases b <;> exact A3m rfl)))
    | pair _ _ => exact .inr (.inl (bad (by simp [MV.k]) (A3m rfl)))
    | @clo env' σ' x A e' pre' post' hE' ho' hn' hf' =>
     rw [A2p (by exact h1) h2 (by rw [s6]; exact if_pos rfl)]
     have hb := iht t3 (by omega) e' ((x, w2) :: σ') (env' ++ [v2]) st (fr ++ [((((pre ++ D1 (σ.map Prod.fst) f) ++ D1 (σ.map Prod.fst) a).length : Int) + 1, env)]) pre' ((5, 0) :: post') hn' ho' (.cons hE' k6 k4 k3 k5) hf'
     have hbeta : Ss (.app (.lam x A (J2 (A1y x σ') e')) (J2 σ a)) (J2 ((x, w2) :: σ') e') := (A7r hg k2).trans (.one (by rw [← B6x k4 hE'.clS]; exact .beta k3))
     rcases hb with g | ⟨n, b', g1, g2, g3⟩ | ⟨t4, v3, w3, m1, m2, m3, m4, m5, m6, m7⟩
     ·exact .inl g
     ·exact .inr (.inl ⟨n, b', g1, hbeta.trans g2, g3⟩)
     ·have ho5 : ops = (pre' ++ D1 (x :: σ'.map Prod.fst) e') ++ ((5, 0) :: post') := by rw [List.append_assoc]; exact ho'
      obtain ⟨h5, h6⟩ := A1f ho5
      rw [show M7 ops t3 ⟨(MV.mk 2 (pre'.length : Int) env' []).num, st, (MV.mk 2 (pre'.length : Int) env' []).env ++ [v2], fr ++ [((((pre ++ D1 (σ.map Prod.fst) f) ++ D1 (σ.map Prod.fst) a).length : Int) + 1, env)]⟩ = _ from m7]
      cases t4 with
      | zero => left; rw [A2o (by exact h5)]
      | succ t5 =>
       refine .inr (.inr ⟨t5, v3, w3, by omega, hbeta.trans m2, m3, m4, m5, m6, ?_⟩)
       refine (A2p (by exact h5) h6 s5).trans ?_
       congr 2
       first | (simp; done) | (simp; omega)
 | ar s f a i j =>
  intro σ env st fr pre post hn ho hE hf
  rw [D1] at ho ⊢
  rw [List.append_assoc, List.append_assoc] at ho
  have b1 := i σ env st fr pre _ hn.1 ho hE (fun y h => hf y (.inl h))
  have ho2 : ops = (pre ++ D1 (σ.map Prod.fst) f) ++ (D1 (σ.map Prod.fst) a ++ ((if s = true then 8 else 7, 0) :: post)) := by rw [ho]; simp
  have ho3 : ops = ((pre ++ D1 (σ.map Prod.fst) f) ++ D1 (σ.map Prod.fst) a) ++ ((if s = true then 8 else 7, 0) :: post) := by rw [ho]; simp
  obtain ⟨h1, h2⟩ := A1f ho3
  have hna := A2S σ a hE.nts hn.2
  rw [B0O]
  refine A4o (fun z => .ar s z (J2 σ a)) b1 (fun _ _ => .ar1) (fun _ _ => B6o hna) rfl ?_
  intro t1 v w ht1 hg hc hnw hv _
  rcases iht t1 ht1 a σ env (st ++ [v]) fr _ _ hn.2 ho2 hE (fun y h => hf y (.inr h)) with g | ⟨n, b', g1, g2, g3⟩ | ⟨t2, v2, w2, k1, k2, k3, k4, k5, k6, k7⟩
  ·exact .inl g
  ·exact .inr (.inl ⟨n, .ar s w b', g1, A7s hg g2, B6p hg hnw g3⟩)
  ·rw [k7]
   cases t2 with
   | zero => left; rw [A2o (by exact h1)]
   | succ t3 =>
    have bad : ¬(v.k = 0 ∧ v2.k = 0) → ¬(w.tm.k = 2 ∧ w2.tm.k = 2) → (∃ n b', M7 ops (t3 + 1) ⟨_, st ++ [v] ++ [v2], env, fr⟩ = (⟨#[]⟩, 2, n) ∧ Ss (.ar s w (J2 σ a)) b' ∧ Wr b' n) := fun hk hr =>
     ⟨2, .ar s w w2, A5A (by exact h1) h2 (by rw [sAr]; exact if_neg hk), A7s hg k2, B0X (k := if s = true then 8 else 7) rfl (by cases s <;> decide) ⟨hnw, k5⟩ (by intro h; cases h) hg k3 (B6A hr)⟩
    rcases B00 hv with ⟨_, m, rfl, rfl⟩ | ⟨q1, q2⟩
    ·rcases B00 k6 with ⟨_, m2, rfl, rfl⟩ | ⟨q1, q2⟩
     ·refine .inr (.inr ⟨t3, if s = true then .mk 1 (if m < m2 then 1 else 0) [] [] else .mk 0 ((m + m2) % 1000) [] [], A0D s m m2, by omega, (A7s hg k2).trans (.one .ar), ?_, ?_, ?_, ?_, (A2p (by exact h1) h2 (sAr.trans (if_pos ⟨rfl, rfl⟩))).trans ?_⟩)
      ·unfold A0D; cases s; exact .num; exact .tru
      ·unfold A0D; cases s; exact fun x h => h.elim; exact fun x h => h.elim
      ·unfold A0D; cases s; exact trivial; exact trivial
      ·unfold A0D
       cases s
       ·exact .num
       ·have := @Vr.tru ops (decide (m < m2))
        simp only [decide_eq_true_eq] at this
        exact this
      ·congr 2
       first | (simp; done) | (simp; omega)
     ·exact .inr (.inl (bad (fun h => q1 h.2) (fun h => q2 h.2)))
    ·exact .inr (.inl (bad (fun h => q1 h.1) (fun h => q2 h.1)))
 | pair f a i j =>
  intro σ env st fr pre post hn ho hE hf
  rw [D1] at ho ⊢
  rw [List.append_assoc, List.append_assoc] at ho
  have b1 := i σ env st fr pre _ hn.1 ho hE (fun y h => hf y (.inl h))
  have ho2 : ops = (pre ++ D1 (σ.map Prod.fst) f) ++ (D1 (σ.map Prod.fst) a ++ ((11, 0) :: post)) := by rw [ho]; simp
  have ho3 : ops = ((pre ++ D1 (σ.map Prod.fst) f) ++ D1 (σ.map Prod.fst) a) ++ ((11, 0) :: post) := by rw [ho]; simp
  obtain ⟨h1, h2⟩ := A1f ho3
  have hna := A2S σ a hE.nts hn.2
  rw [B0P]
  refine A4o (fun z => .pair z (J2 σ a)) b1 (fun _ _ => .pair1) (fun _ _ => B6q hna) rfl ?_
  intro t1 v w ht1 hg hc hnw hv _
  rcases iht t1 ht1 a σ env (st ++ [v]) fr _ _ hn.2 ho2 hE (fun y h => hf y (.inr h)) with g | ⟨n, b', g1, g2, g3⟩ | ⟨t2, v2, w2, k1, k2, k3, k4, k5, k6, k7⟩
  ·exact .inl g
  ·exact .inr (.inl ⟨n, .pair w b', g1, B0V hg g2, B6r hg hnw g3⟩)
  ·rw [k7]
   cases t2 with
   | zero => left; rw [A2o (by exact h1)]
   | succ t3 =>
    refine .inr (.inr ⟨t3, .mk 3 0 [] [v, v2], .pair w w2, by omega, B0V hg k2, .pair hg k3, (fun x h => h.elim (hc x) (k4 x)), ⟨hnw, k5⟩, .pair hv k6, (A2p (by exact h1) h2 s11).trans ?_⟩)
    congr 2
    first | (simp; done) | (simp; omega)
 | part s f i =>
  intro σ env st fr pre post hn ho hE hf
  rw [D1] at ho ⊢
  rw [List.append_assoc] at ho
  have b1 := i σ env st fr pre _ hn ho hE (fun y h => hf y h)
  have ho3 : ops = (pre ++ D1 (σ.map Prod.fst) f) ++ ((if s = true then 13 else 12, 0) :: post) := by rw [ho]; simp
  obtain ⟨h1, h2⟩ := A1f ho3
  rw [B0Q]
  refine A4o (fun z => .part s z) b1 (fun _ _ => .part1) (fun _ _ => B6t) rfl ?_
  intro t1 v w ht1 hg hc hnw hv _
  cases t1 with
  | zero => left; rw [A2o (by exact h1)]
  | succ t3 =>
   have hk12 : (if s = true then (13 : Int) else 12) = 12 ∨ (if s = true then (13 : Int) else 12) = 13 := by cases s <;> simp
   rcases B6z hv with ⟨_, v0, v1, a, b, rfl, rfl, r0, r1⟩ | ⟨q1, q2⟩
   ·cases hg with
    | pair ga gb =>
     refine .inr (.inr ⟨t3, if s = true then v1 else v0, if s = true then b else a, by omega, .one (.part ga gb), ?_, ?_, ?_, ?_, (A2p (by exact h1) h2 ((s12 hk12).trans (if_pos rfl))).trans ?_⟩)
     ·cases s; exact ga; exact gb
     ·cases s; exact fun x h => hc x (.inl h); exact fun x h => hc x (.inr h)
     ·cases s; exact hnw.1; exact hnw.2
     ·cases s; exact r0; exact r1
     ·cases s
      ·congr 2
       first | (simp; done) | (simp; omega)
      ·congr 2
       first | (simp; done) | (simp; omega)
   ·exact .inr (.inl ⟨4, .part s w, A5A (by exact h1) h2 ((s12 hk12).trans (if_neg q1)), .refl, B6u (k := if s = true then 12 else 11) rfl hnw (by intro h; cases h) hg (B6B q2)⟩)
 | ite c f a i j l =>
  intro σ env st fr pre post hn ho hE hf
  rw [D1] at ho ⊢
  have b1 := i σ env st fr pre (((9, ((D1 (σ.map Prod.fst) f).length : Int) + 1) :: (D1 (σ.map Prod.fst) f ++ ((10, ((D1 (σ.map Prod.fst) a).length : Int)) :: D1 (σ.map Prod.fst) a))) ++ post) hn.1 (by rw [ho]; simp) hE (fun y h => hf y (.inl h))
  have ho3 : ops = (pre ++ D1 (σ.map Prod.fst) c) ++ ((9, ((D1 (σ.map Prod.fst) f).length : Int) + 1) :: (D1 (σ.map Prod.fst) f ++ ((10, ((D1 (σ.map Prod.fst) a).length : Int)) :: D1 (σ.map Prod.fst) a) ++ post)) := by rw [ho]; simp
  obtain ⟨h1, h2⟩ := A1f ho3
  have hna := A2S σ a hE.nts hn.2.2
  have hnf := A2S σ f hE.nts hn.2.1
  rw [B0R]
  refine A4o (fun z => .ite z (J2 σ f) (J2 σ a)) b1 (fun _ _ => .ite1) (fun _ _ => B6s hnf hna) rfl ?_
  intro t1 v w ht1 hg hc hnw hv _
  cases t1 with
  | zero => left; rw [A2o (by exact h1)]
  | succ t3 =>
   rcases B6y hv with ⟨_, b, rfl, rfl⟩ | ⟨q1, q2, q3⟩
   ·have hgo := A2p (t := t3) (by exact h1) h2 ((s9 (st := st) (env := env) (fr := fr) (v0 := .mk 1 (if b = true then 1 else 0) [] [])).trans (if_pos rfl))
    cases b with
    | true =>
     have ho4 : ops = ((pre ++ D1 (σ.map Prod.fst) c) ++ [(9, ((D1 (σ.map Prod.fst) f).length : Int) + 1)]) ++ (D1 (σ.map Prod.fst) f ++ ((10, ((D1 (σ.map Prod.fst) a).length : Int)) :: D1 (σ.map Prod.fst) a ++ post)) := by rw [ho]; simp
     have ho5 : ops = (((pre ++ D1 (σ.map Prod.fst) c) ++ [(9, ((D1 (σ.map Prod.fst) f).length : Int) + 1)]) ++ D1 (σ.map Prod.fst) f) ++ ((10, ((D1 (σ.map Prod.fst) a).length : Int)) :: (D1 (σ.map Prod.fst) a ++ post)) := by rw [ho]; simp
     obtain ⟨h5, h6⟩ := A1f ho5
     have hst : Ss (.ite (.tru true) (J2 σ f) (J2 σ a)) (J2 σ f) := .one .ite
     have hb := iht t3 (by omega) f σ env st fr _ _ hn.2.1 ho4 hE (fun y h => hf y (.inr (.inl h)))
     have e1 : ((((pre ++ D1 (σ.map Prod.fst) c) ++ [(9, ((D1 (σ.map Prod.fst) f).length : Int) + 1)]).length : Nat) : Int) = ((pre ++ D1 (σ.map Prod.fst) c).length : Int) + 1 := by first | (simp; done) | (simp; omega)
     unfold Bg at hb
     rw [e1] at hb
     have hgo' : M7 ops (t3 + 1) ⟨((pre ++ D1 (σ.map Prod.fst) c).length : Int), st ++ [MV.mk 1 (if true = true then 1 else 0) [] []], env, fr⟩ = M7 ops t3 ⟨((pre ++ D1 (σ.map Prod.fst) c).length : Int) + 1, st, env, fr⟩ := hgo
     rw [hgo']
     rcases hb with g | ⟨n, b', g1, g2, g3⟩ | ⟨t4, v3, w3, m1, m2, m3, m4, m5, m6, m7⟩
     ·exact .inl g
     ·exact .inr (.inl ⟨n, b', g1, hst.trans g2, g3⟩)
     ·rw [m7]
      cases t4 with
      | zero => left; rw [A2o (by exact h5)]
      | succ t5 =>
       refine .inr (.inr ⟨t5, v3, w3, by omega, hst.trans m2, m3, m4, m5, m6, (A2p (by exact h5) h6 s10).trans ?_⟩)
       congr 2
       first | (simp; done) | (simp; omega)
    | false =>
     have ho4 : ops = ((((pre ++ D1 (σ.map Prod.fst) c) ++ [(9, ((D1 (σ.map Prod.fst) f).length : Int) + 1)]) ++ D1 (σ.map Prod.fst) f) ++ [(10, ((D1 (σ.map Prod.fst) a).length : Int))]) ++ (D1 (σ.map Prod.fst) a ++ post) := by rw [ho]; simp
     have hst : Ss (.ite (.tru false) (J2 σ f) (J2 σ a)) (J2 σ a) := .one .ite
     have hb := iht t3 (by omega) a σ env st fr _ _ hn.2.2 ho4 hE (fun y h => hf y (.inr (.inr h)))
     have e1 : ((((((pre ++ D1 (σ.map Prod.fst) c) ++ [(9, ((D1 (σ.map Prod.fst) f).length : Int) + 1)]) ++ D1 (σ.map Prod.fst) f) ++ [((10 : Int), ((D1 (σ.map Prod.fst) a).length : Int))]).length : Nat) : Int) = ((pre ++ D1 (σ.map Prod.fst) c).length : Int) + 1 + (((D1 (σ.map Prod.fst) f).length : Int) + 1) := by first | (simp; done) | (simp; omega)
     unfold Bg at hb
     rw [e1] at hb
     have hgo' : M7 ops (t3 + 1) ⟨((pre ++ D1 (σ.map Prod.fst) c).length : Int), st ++ [MV.mk 1 (if false = true then 1 else 0) [] []], env, fr⟩ = M7 ops t3 ⟨((pre ++ D1 (σ.map Prod.fst) c).length : Int) + 1 + (((D1 (σ.map Prod.fst) f).length : Int) + 1), st, env, fr⟩ := hgo
     rw [hgo']
     rcases hb with g | ⟨n, b', g1, g2, g3⟩ | ⟨t4, v3, w3, m1, m2, m3, m4, m5, m6, m7⟩
     ·exact .inl g
     ·exact .inr (.inl ⟨n, b', g1, hst.trans g2, g3⟩)
     ·refine .inr (.inr ⟨t4, v3, w3, by omega, hst.trans m2, m3, m4, m5, m6, m7.trans ?_⟩)
      congr 2
      first | (simp; done) | (simp; omega)
   ·refine .inr (.inl ⟨3, .ite w (J2 σ f) (J2 σ a), A5A (by exact h1) h2 (s9.trans (if_neg q1)), .refl, ⟨hnw, hnf, hna⟩, A0Y (by intro h; cases h), I2, ?_⟩)
    rw [GE.tm, B0c ((A0F w).2 hg)]
    exact B6C q2 q3
theorem B6D {g : GE} (hn : g.nt) (hc : g.cl) (t : Nat) :
  (M7 (D1 [] g) t ⟨0, [], [], []⟩).2.1 = 5 ∨ (∃ c b', M7 (D1 [] g) t ⟨0, [], [], []⟩ = (⟨#[]⟩, 2, c) ∧ Ss g b' ∧ Wr b' c) ∨
  ∃ v w, Ss g w ∧ GV w ∧ Vr (D1 [] g) v w ∧ M7 (D1 [] g) t ⟨0, [], [], []⟩ = (A0l v, 0, 0) := by
 have hb := big (ops := D1 [] g) t g [] [] [] [] [] [] hn (by simp) .nil (fun y h => (hc y h).elim)
 rcases hb with h | ⟨c, b', h1, h2, h3⟩ | ⟨t', v, w, h1, h2, h3, h4, h5, h6, h7⟩
 ·exact .inl h
 ·exact .inr (.inl ⟨c, b', h1, h2, h3⟩)
 ·refine .inr (.inr ⟨v, w, h2, h3, h6, h7.trans ?_⟩)
  have he : A2a ⟨((([] : List (Int × Int)) ++ D1 [] g).length : Int), [] ++ [v], [], []⟩ = (A0l v, 0, 0) := by
   unfold A2a; rw [if_neg (by simp)]; rfl
  cases t' with
  | zero => rw [M7, if_pos (by exact Int.le_refl _)]; exact he
  | succ t' => rw [M7, if_pos (by exact Int.le_refl _)]; exact he
theorem B01 {e : GE} {L : Int} (h : Bl e L) : ¬e.lt := by
 induction h with
 | app1 _ i => exact fun h => i h.1
 | app2 _ _ i => exact fun h => i h.2
 | ar1 _ i => exact fun h => i h.1
 | ar2 _ _ i => exact fun h => i h.2
 | ite1 _ i => exact fun h => i h.1
 | pair1 _ i => exact fun h => i h.1
 | pair2 _ _ i => exact fun h => i h.2
 | part1 _ i => exact fun h => i h
 | cast1 _ _ => exact fun h => h.elim
 | fail _ _ _ _ => exact fun h => h.elim
theorem B6E {x b : GE} (h : Ss x b) : ∀ {g g' : GE} {A A' : GT} {c : Int}, x = g.er → GP P3 g g' A A' → g.lt → ¬Wr b c := by
 induction h with
 | refl =>
  intro g g' A A' c hx hp hl hw
  subst hx
  rcases B0T hp rfl with hv | ⟨r, s⟩ | ⟨L, b⟩
  ·exact A7u hw (A2j hv)
  ·obtain ⟨_, _, u, hu⟩ := hw
   rw [(A69 (B0B s hl).1 (A5o g)).1] at hu
   cases hu
  ·exact B01 b hl
 | step s1 _ ih =>
  intro g g' A A' c hx hp hl hw
  subst hx
  rcases B0T hp rfl with hv | ⟨r, s⟩ | ⟨L, b⟩
  ·exact (A2j hv).noS _ s1
  ·obtain ⟨s2, hlr⟩ := B0B s hl
   have e1 := (A69 s1 (A5o g)).1
   rw [(A69 s2 (A5o g)).1] at e1
   have e2 := GE.inj (congrArg Prod.fst e1)
   obtain ⟨r', _, hp'⟩ := sim hp rfl s
   exact ih e2.symm hp' hlr hw
  ·exact B01 b hl
theorem B6F {g g' : GE} {A A' : GT} (hp : GP P3 g g' A A') (hl : g.lt) (hc : g.er.cl) (t : Nat) : (M7 (D1 [] g.er) t ⟨0, [], [], []⟩).2.1 = 0 ∨ (M7 (D1 [] g.er) t ⟨0, [], [], []⟩).2.1 = 5 := by
 rcases B6D (A5o g) hc t with h | ⟨c, b', _, h2, h3⟩ | ⟨v, w, _, _, _, h7⟩
 ·exact .inr h
 ·exact (B6E h2 rfl hp hl h3).elim
 ·exact .inl (by rw [h7])
def A0d (k : Int) : Int := if k = 6 then 6 else if k = 7 then 7 else if k = 8 then 8 else if k = 10 then 11 else if k = 11 then 12 else 13
def P8 (n : List ByteArray) (k : Int) (nm : ByteArray) (num : Int) (cs : List K4) : K4 :=
 if k = 1 then [(3, (V4 nm n : Int))] else if k = 2 then [(1, num)] else if k = 3 then [(2, 1)] else if k = 4 then [(2, 0)]
 else if k = 5 then (4, ((cs.getD 0 []).length : Int) + 1) :: (cs.getD 0 [] ++ [(5, 0)])
 else if k = 9 then cs.getD 0 [] ++ ((9, ((cs.getD 1 []).length : Int) + 1) :: (cs.getD 1 [] ++ ((10, ((cs.getD 2 []).length : Int)) :: cs.getD 2 [])))
 else cs.flatten ++ [(A0d k, 0)]
mutual
def J7 (n : List ByteArray) : Tm → K4
 | .mk k nm num _ _ _ ks => P8 n k nm num (A2q (if k = 5 then nm :: n else n) ks)
def A2q (n : List ByteArray) : List Tm → List K4
 | [] => []
 | t :: ts => J7 n t :: A2q n ts
end
theorem A1z (n : List ByteArray) : ∀ ks, A2q n ks = ks.map (J7 n)
 | [] => rfl
 | t :: ts => by rw [A2q, A1z n ts]; rfl
theorem B6G : ∀ (g : GE) (n : List ByteArray), g.nt → J7 n g.tm = D1 n g := by
 intro g
 induction g with
 | var x => intro n _; rfl
 | num k => intro n _; rfl
 | tru b => intro n _; cases b <;> rfl
 | lam x A e i =>
  intro n h
  rw [GE.tm, J7, A1z, D1, if_pos rfl]
  simp only [List.map_cons, List.map_nil, i (x :: n) h.2]
  simp [P8]
 | app f a i j =>
  intro n h
  rw [GE.tm, J7, A1z, D1, if_neg (by decide)]
  simp only [List.map_cons, List.map_nil, i n h.1, j n h.2]
  simp [P8, A0d]
 | ar s f a i j =>
  intro n h
  cases s <;> (simp only [GE.tm, J7, A1z, D1]; simp [P8, A0d, i n h.1, j n h.2])
 | ite c f a i j k =>
  intro n h
  rw [GE.tm, J7, A1z, D1, if_neg (by decide)]
  simp only [List.map_cons, List.map_nil, i n h.1, j n h.2.1, k n h.2.2]
  simp [P8]
 | pair f a i j =>
  intro n h
  rw [GE.tm, J7, A1z, D1, if_neg (by decide)]
  simp only [List.map_cons, List.map_nil, i n h.1, j n h.2]
  simp [P8, A0d]
 | part s e i =>
  intro n h
  cases s <;> (simp only [GE.tm, J7, A1z, D1]; simp [P8, A0d, i n h])
 | cast A B l e i => intro n h; exact h.elim
mutual
def A5D (g : Int → Tm → Tm × Int) : Tm → Int → Tm × Int
 | .mk k nm num ty fr lb ks, n => g (A3r g ks n).2 (.mk k nm num ty fr lb (A3r g ks n).1)
def A3r (g : Int → Tm → Tm × Int) : List Tm → Int → List Tm × Int
 | [], n => ([], n)
 | t :: ts, n => ((A5D g t n).1 :: (A3r g ts (A5D g t n).2).1, (A3r g ts (A5D g t n).2).2)
end
mutual
def B6H (Q : Int → Tm → Prop) (g : Int → Tm → Tm × Int) : Tm → Int → Prop
 | .mk k nm num ty fr lb ks, n => B02 Q g ks n ∧ Q (A3r g ks n).2 (.mk k nm num ty fr lb (A3r g ks n).1)
def B02 (Q : Int → Tm → Prop) (g : Int → Tm → Tm × Int) : List Tm → Int → Prop
 | [], _ => True
 | t :: ts, n => B6H Q g t n ∧ B02 Q g ts (A5D g t n).2
end
def B8l (g : Int → Tm → Tm × Int) (Q : Int → Tm → Prop) (E : Int → A1) (fid : FuncId) (us cs : List Value) : Prop := ∀ (n : Int) (t : Tm) (G : IM) (cells : List Value), Q n t → B5 G t cells →
 Fn Tryz.prog fid (us ++ [.agg ⟨cells⟩] ++ cs) [E n] G (fun G' v outs => outs = [E (g n t).2] ∧ ∃ cells', v = .agg ⟨cells'⟩ ∧ B5 G' (g n t).1 cells')
def B8m (g : Tm → Tm) (Q : Tm → Prop) (fid : FuncId) (us cs : List Value) : Prop := ∀ (t : Tm) (G : IM) (cells : List Value), Q t → B5 G t cells → Fn Tryz.prog fid (us ++ [.agg ⟨cells⟩] ++ cs) [] G (TmP (g t))
inductive WT : GC → GE → GT → Prop
 | var {Γ x A} : Γ x = some (A, A) → WT Γ (.var x) A
 | num {Γ n} : WT Γ (.num n) .int
 | tru {Γ b} : WT Γ (.tru b) .bool
 | lam {Γ x A B e} : WT (gup Γ x A A) e B → WT Γ (.lam x A e) (.fn A B)
 | app {Γ f a A B} : WT Γ f (.fn A B) → WT Γ a A → WT Γ (.app f a) B
 | ar {Γ s a b} : WT Γ a .int → WT Γ b .int → WT Γ (.ar s a b) (if s = true then .bool else .int)
 | ite {Γ c a b A} : WT Γ c .bool → WT Γ a A → WT Γ b A → WT Γ (.ite c a b) A
 | pair {Γ a b A B} : WT Γ a A → WT Γ b B → WT Γ (.pair a b) (.pr A B)
 | part {Γ s e A B} : WT Γ e (.pr A B) → WT Γ (.part s e) (if s = true then B else A)
 | cast {Γ e A B l} : WT Γ e A → Co A B → WT Γ (.cast A B l e) B
def gbk (A B : GT) (l : Int) (a : GE) : GE := if Q2 A.ty B.ty = true then a else match a with
 | .cast C D m x => if A.ty.k = 1 ∧ D.ty.k = 1 ∧ Q2 B.ty C.ty = true then x else .cast A B l (.cast C D m x)
 | a => .cast A B l a
def GE.simp : GE → GE
 | .var x => .var x
 | .num n => .num n
 | .tru b => .tru b
 | .lam x A e => .lam x A e.simp
 | .app f a => .app f.simp a.simp
 | .ar s a b => .ar s a.simp b.simp
 | .ite c a b => .ite c.simp a.simp b.simp
 | .pair a b => .pair a.simp b.simp
 | .part s e => .part s e.simp
 | .cast A B l e => gbk A B l e.simp
def GE.dynm : GE → GE
 | .var x => .var x
 | .num n => .num n
 | .tru b => .tru b
 | .lam x A e => .lam x A e.dynm
 | .app f a => .app f.dynm a.dynm
 | .ar s a b => .ar s a.dynm b.dynm
 | .ite c a b => .ite c.dynm a.dynm b.dynm
 | .pair a b => .pair a.dynm b.dynm
 | .part s e => .part s e.dynm
 | .cast A B l e => if A.ty.k = 1 ∨ B.ty.k = 1 then .cast A B l e.dynm else .cast .any B l (.cast A .any l e.dynm)
def B6I (t : Tm) : Tm := if t.k ≠ 14 then t else if Q2 t.fr t.ty = true then kd t.ks 0 else if t.fr.k = 1 ∧ (kd t.ks 0).k = 14 ∧ (kd t.ks 0).ty.k = 1 ∧ Q2 t.ty (kd t.ks 0).fr = true then kd (kd t.ks 0).ks 0 else t
def B6J (t : Tm) : Tm := if t.k ≠ 14 ∨ t.fr.k = 1 ∨ t.ty.k = 1 then t else R4 (R4 (kd t.ks 0) t.fr O4 t.lb) O4 t.ty t.lb
section
variable {cx : Cx} {k : Int} {nm : ByteArray} {num : Int} {ty fr : Ty} {lb : Int} {a b c a' b' c' : Tm} {T : Ty}
end
section
variable {D N : Int} {k : Int} {nm : ByteArray} {num : Int} {ty fr : Ty} {lb : Int} {a b c a' b' c' : Tm} {d d' : Int}
end
def Agr (a b : Tm) (n m : Int) : Prop := (A0p a n).2.1 = 4 ∨ (A0p a n).2.1 = 5 ∨ (A0p b m).2.1 = 4 ∨ (A0p b m).2.1 = 5 ∨
 ((A0p a n).2.1 = 0 ∧ (A0p b m).2.1 = 0 ∧ A4g (A0p a n).1 = A4g (A0p b m).1) ∨
 ((A0p a n).2.1 = 2 ∧ (A0p b m).2.1 = 2 ∧ (A0p a n).2.2 = (A0p b m).2.2)
def B8n (e : Tm) : Tm × Bool := if W4 e = true then (A1P B6I e, true) else (I2, false)
mutual
def lz : Tm → Tm
 | .mk k nm num ty fr lb ks => .mk k nm num ty fr (if k = 14 then 0 else lb) (lzL ks)
def lzL : List Tm → List Tm
 | [] => []
 | t :: ts => lz t :: lzL ts
end
def SL (r s : Stp) : Prop := r.2.1 = s.2.1 ∧ lz r.1 = lz s.1
abbrev LbV (t : Tm) : Prop := A2P (fun l => A1n l = true) t
mutual
def mRl : Tm → Int → Tm × Int
 | .mk k nm num ty fr lb ks, n => (.mk k nm num ty fr (if k = 14 then (A3s ks n).2 + 1 else lb) (A3s ks n).1, if k = 14 then (A3s ks n).2 + 1 else (A3s ks n).2)
def A3s : List Tm → Int → List Tm × Int
 | [], n => ([], n)
 | t :: ts, n => ((mRl t n).1 :: (A3s ts (mRl t n).2).1, (A3s ts (mRl t n).2).2)
end
def B8o (G : IM) : IM → Value → List A1 → Prop := I8 fun G' v => ∃ u cu t ct b, v = .tuple ⟨[.agg ⟨cu⟩, .agg ⟨ct⟩, .bool b]⟩ ∧ B5 G' u cu ∧ u.small ∧ C9 u ≤ 60 ∧ A8 G' t ct ∧ E5 t ∧ I0 t ≤ 960
def B8p (G : IM) : IM → Value → List A1 → Prop := I8 fun G' v => ∃ t cells l q c, v = .tuple ⟨[.agg ⟨cells⟩, .slice q l.length c]⟩ ∧ B5 G' t cells ∧ t.fit 100 ∧ Sl G' q l.length c 1 (A3L l) ∧ l.length ≤ 100
def B8q (ts : List Tm) (G : IM) : IM → Value → List A1 → Prop := I8 fun G' v => ∃ p c es, v = .slice p ts.length c ∧ C0 G' p ts.length c 9 es ∧ F4 G' ts es
def B8r (ts : List Ty) (G : IM) : IM → Value → List A1 → Prop := I8 fun G' v => ∃ p c es, v = .slice p ts.length c ∧ C0 G' p ts.length c 2 es ∧ C3 G' ts es
def srt (zs : List Int) : List Int := zs.mergeSort fun x y => decide (x ≤ y)
def B8s (t : Tm) : List Int := if W4 t = true then Lib.compact (srt ((A2R t).map Tm.lb)) else []
def B8t (t : Tm) : Tm × Bool := if W4 t = true ∧ (A2R t).length ≤ 99 then ((mRl t 0).1, true) else (I2, false)
mutual
def Y3 : Tm → Prop
 | .mk k _ _ _ _ _ ks => (k = 14 → ks.length = 1) ∧ B03 ks
def B03 : List Tm → Prop
 | [] => True
 | t :: ts => Y3 t ∧ B03 ts
end
def cq1 (t : Tm) : Prop := t.k = 14 → t.ks.length = 1
def TbR (r : Tm × Bool) : IM → Value → List A1 → Prop := I8 fun G' v => ∃ cells, v = .tuple ⟨[.agg ⟨cells⟩, .bool r.2]⟩ ∧ B5 G' r.1 cells
def B8u (e : Tm) : Tm × Bool := if W4 e = true then A6W (A1P B6J e) else (I2, false)
def B8v (e : Tm) (l : Int) : Tm × Bool := match B4h e with
 | some T => if A1n l = true then A6W (R4 (R4 e T O4 l) O4 T l) else (I2, false)
 | none => (I2, false)
section
variable {P : Program} {Γ : I3} {env : J0} {hp : List A1} {G : IM} {ty : TypeId}
theorem B6K {x y : Operand} {t e : TypeId} {i : H7} {m sz by' : Nat} {zs : List Value} [hI : C7 P t i] (hd : i.desc = .array m e) [hE : S8 P e sz by' zs] {b j : Nat} {k : IntKind} {z : Int}
  (hx : evo env x = some (.pointer (some ⟨b, 0, none⟩))) (hy : evo env y = some (.int k z)) (hz : z = (j : Int)) (h1 : j < m) :
  E6 P Γ ⟨env, hp, G⟩ (.indexAddr t x y) ty (.pointer (some ⟨b, j * sz, none⟩)) := by
 subst hz
 refine ⟨fun a _ hs _ _ _ _ w => ?_⟩
 have hu := hI.und
 rw [hd] at hu
 obtain ⟨d, hE⟩ := hE.ok
 obtain ⟨inf, g1, g2, _⟩ := hE.info
 simp [execOp, Instr.indexAt, (hs.evo hx : a.eval x = _), (hs.evo hy : a.eval y = _), asIntOf, run_underlying hu, h1, sizeOf, typeInfo, g1, g2, A13, Instr.sureAddr]
theorem B6L {x y : Operand} {t e : TypeId} {i : H7} {m by' : Nat} {zs : List Value} [hI : C7 P t i] (hd : i.desc = .array m e) [hE : C7 P e ⟨1, by', zs, .bool⟩] {vs : List Value} {k : IntKind} {j : Nat} {v : Value}
  (hx : evo env x = some (.agg ⟨vs⟩)) (hy : evo env y = some (.int k (j : Int))) (h1 : j < m) (hv : vs[j]? = some v) :
  E6 P Γ ⟨env, hp, G⟩ (.index t x y) ty v := by
 refine ⟨fun a _ hs _ _ _ _ w => ?_⟩
 have hu := hI.und
 rw [hd] at hu
 have he := hE.und
 obtain ⟨inf, g1, g2, _⟩ := hE.info
 have g2 : inf.size = 1 := g2
 simp [execOp, Instr.index, (hs.evo hx : a.eval x = _), (hs.evo hy : a.eval y = _), asIntOf, run_underlying hu, h1, sizeOf, typeInfo, g1, g2, part, A3z he, A0Q, hv]
theorem B6M {x y : Operand} {t t' : TypeId} {m n : Int} (hx : evo env x = some (.int .u8 m)) (hy : evo env y = some (.int .u8 n)) (h0 : 0 ≤ m - n) (h1 : m - n ≤ 255) :
  E6 P Γ ⟨env, hp, G⟩ (.binOp .sub t x y t') ty (.int .u8 (m - n)) := by
 refine ⟨fun a _ hs _ _ _ _ w => ?_⟩
 have hw : IntKind.u8.wrap (m - n) = m - n := IntWalk.u8_in _ ⟨h0, h1⟩
 simp [execOp, eqGuard, binOp, Op.intArith, (hs.evo hx : a.eval x = _), (hs.evo hy : a.eval y = _), hw]
end
def N0 (nm : ByteArray) : UInt8 := nm.data.getD 0 0
mutual
def mFr : ByteArray → Tm → List Bool → List Bool
 | bnd, .mk k nm _ _ _ _ ks, f => X2 (if k = 5 then bnd ++ nm else bnd) ks (if k = 1 ∧ N0 nm ∉ bnd.data.toList then f.set ((N0 nm).toNat - 97) true else f)
def X2 : ByteArray → List Tm → List Bool → List Bool
 | _, [], f => f
 | bnd, t :: ts, f => X2 bnd ts (mFr bnd t f)
end
mutual
theorem A4q : ∀ (t : Tm) (bnd : ByteArray) (f : List Bool), (mFr bnd t f).length = f.length
 | .mk k nm _ _ _ _ ks, bnd, f => by
  rw [mFr, B04 ks]; split <;> simp
theorem B04 : ∀ (ts : List Tm) (bnd : ByteArray) (f : List Bool), (X2 bnd ts f).length = f.length
 | [], _, _ => by rw [X2]
 | t :: ts, bnd, f => by rw [X2, B04 ts, A4q t]
end
mutual
theorem B6N : ∀ (t : Tm) (bnd : ByteArray) (f : List Bool) (j : Nat), (mFr bnd t f)[j]? = some false → f[j]? = some false
 | .mk k nm _ _ _ _ ks, bnd, f, j, h => by
  rw [mFr] at h
  have h := A5E ks _ _ j h
  split at h
  ·rw [List.getElem?_set] at h
   split at h
   ·split at h <;> cases h
   ·exact h
  ·exact h
theorem A5E : ∀ (ts : List Tm) (bnd : ByteArray) (f : List Bool) (j : Nat), (X2 bnd ts f)[j]? = some false → f[j]? = some false
 | [], _, _, _, h => by rwa [X2] at h
 | t :: ts, bnd, f, j, h => by rw [X2] at h; exact B6N t _ _ j (A5E ts _ _ j h)
end
theorem A1A {nm : ByteArray} (h : Y4 nm = true) : nm = ⟨#[N0 nm]⟩ ∧ 97 ≤ (N0 nm).toNat ∧ (N0 nm).toNat ≤ 122 := by
 unfold Y4 at h
 rw [decide_eq_true_eq] at h
 obtain ⟨h1, h2, h3⟩ := h
 refine ⟨?_, h2, h3⟩
 obtain ⟨⟨l⟩⟩ := nm
 have hl : l.length = 1 := h1
 match l, hl with
 | [c], _ => rfl
mutual
theorem B05 : ∀ (t : Tm) (d : Int) (bnd : ByteArray) (f : List Bool) (ns : List ByteArray), I9 12 14 t d = true → f.length = 26 → (∀ c ∈ bnd.data.toList, (⟨#[c]⟩ : ByteArray) ∈ ns) → (∀ j, j < 26 → (mFr bnd t f)[j]? = some false) → T6 ns t
 | .mk k nm num ty fr lb ks, d, bnd, f, ns, hs, hf, hb, h => by
  obtain ⟨_, _, h3, h4⟩ := R8 hs
  have hnm := (R7.1 h3).2.1
  rw [mFr] at h
  rw [T6]
  refine ⟨fun hk => ?_, ?_⟩
  ·obtain ⟨e1, e2, e3⟩ := A1A (hnm (.inl hk))
   by_cases hm : N0 nm ∈ bnd.data.toList
   ·rw [e1]; exact hb _ hm
   ·have := A5E ks _ _ ((N0 nm).toNat - 97) (h _ (by omega))
    rw [if_pos ⟨hk, hm⟩, List.getElem?_set] at this
    rw [if_pos rfl, if_pos (by omega)] at this
    cases this
  ·refine B06 ks _ _ _ _ h4 (by split <;> simp [hf]) ?_ h
   intro c hc
   by_cases hk : k = 5
   ·rw [if_pos hk] at hc ⊢
    obtain ⟨e1, e2, e3⟩ := A1A (hnm (.inr hk))
    rw [e1] at hc ⊢
    have hc : c ∈ (bnd.data ++ #[N0 nm]).toList := by simpa using hc
    rw [Array.toList_append, List.mem_append] at hc
    rcases hc with hc | hc
    ·exact List.mem_cons_of_mem _ (hb c hc)
    ·have : c = N0 nm := by simpa using hc
     rw [this]; exact List.mem_cons_self
   ·rw [if_neg hk] at hc ⊢; exact hb c hc
theorem B06 : ∀ (ts : List Tm) (d : Int) (bnd : ByteArray) (f : List Bool) (ns : List ByteArray), F8 12 14 ts d = true → f.length = 26 → (∀ c ∈ bnd.data.toList, (⟨#[c]⟩ : ByteArray) ∈ ns) → (∀ j, j < 26 → (X2 bnd ts f)[j]? = some false) → T8 ns ts
 | [], _, _, _, _, _, _, _, _ => by rw [T8]; trivial
 | t :: ts, d, bnd, f, ns, hs, hf, hb, h => by
  rw [F8, Bool.and_eq_true] at hs
  rw [X2] at h
  rw [T8]
  exact ⟨B05 t d bnd f ns hs.1 hf hb (fun j hj => A5E ts _ _ j (h j hj)), B06 ts d bnd _ ns hs.2 ((A4q t bnd f).trans hf) hb h⟩
end
theorem B07 {ts : List Tm} {i : Nat} (h : i < ts.length) (bnd : ByteArray) (f : List Bool) : X2 bnd (ts.drop i) f = X2 bnd (ts.drop (i + 1)) (mFr bnd ts[i] f) := by
 rw [List.drop_eq_getElem_cons h, X2]
theorem B08 : ∀ (l : List UInt8) (c : UInt8), decide (0 ≤ Lib.indexByte l c) = decide (c ∈ l)
 | [], c => by simp [Lib.indexByte]
 | b :: l, c => by
  have ih := B08 l c
  have hge := Lib.indexByte_ge l c
  unfold Lib.indexByte
  by_cases hb : b = c
  ·subst hb; simp
  ·have hb' : (b == c) = false := by simpa using hb
   rw [hb']
   rw [decide_eq_decide] at ih ⊢
   have hb2 : ¬ c = b := fun h => hb h.symm
   simp only [List.mem_cons, hb2, false_or]
   rw [← ih]
   by_cases h1 : Lib.indexByte l c = -1
   ·simp [h1]
   ·have h2 : (Lib.indexByte l c == -1) = false := by simpa using h1
    rw [h2]; simp; omega
theorem B6O (s : ByteArray) (c : UInt8) (G : IM) : Fn Tryz.prog 177 [.string s, .string ⟨#[c]⟩] [] G (J1 (.bool (decide (c ∈ s.data.toList))) G) := by
 refine ⟨fun w hw => ?_⟩
 refine (Tryz.strings_Contains_one s c w).mono ?_
 rintro e w' ⟨rfl, rfl⟩
 exact ⟨_, G, [], rfl, P4.refl hw, rfl, by rw [B08], rfl⟩
theorem B6P {f : List Bool} {j : Nat} (h : j < f.length) : R1 (f.map Value.bool) (j * 1) [.bool true] = some ((f.set j true).map Value.bool) := by
 rw [Nat.mul_one]
 induction f generalizing j with
 | nil => simp at h
 | cons b f ih =>
  cases j with
  | zero => cases f <;> simp [R1]
  | succ j => simp only [List.map_cons, R1, List.set_cons_succ]; rw [ih (by simpa using h)]
theorem B6Q (f : List Bool) : (f.map Value.bool).length = f.length := by simp
theorem B6R (f : List Bool) : (f.map Value.bool).all (·.oneCell') = true := by rw [List.all_map, List.all_eq_true]; intro b _; rfl
theorem B6S : ∀ (t : Tm) (d : Int) (bd : ByteArray) (b : Nat) (f : List Bool) (G : IM) (cells : List Value), I9 12 14 t d = true → f.length = 26 → bd.size + C9 t ≤ 1000 → B5 G t cells →
  Fn Tryz.prog 117 [.agg ⟨cells⟩, .string bd, .pointer (some ⟨b, 0, none⟩)] [.blk b (f.map Value.bool)] G (fun G' v outs => G' = G ∧ v = .tuple ⟨[]⟩ ∧ outs = [.blk b ((mFr bd t f).map Value.bool)]) := by
 refine Tm.ind fun k nm num ty fr lb ks ih d bd b f G cells hv hf hb hr => ?_
 obtain ⟨hv1, hv2, hv3, hv4⟩ := R8 hv
 have hvk := (A0U 12 14 ks _).1 hv4
 have hnm := A6L hv3
 have hnmo := (R7.1 hv3).2.1
 simp only [C9] at hb
 obtain ⟨tk, tks⟩ := ty
 obtain ⟨fk, fks⟩ := fr
 obtain ⟨pt, ct, pf, cf, p, c, es, rfl, hk, hnum, hlb, hty, hfr, hsl, hkl⟩ := hr.open9
 have hn := hsl.le
 rw [mFr]
 obtain ⟨b1, hb1⟩ : ∃ b1, (if k = 5 then bd ++ nm else bd) = b1 := ⟨_, rfl⟩
 obtain ⟨f1, hf1⟩ : ∃ f1, (if k = 1 ∧ N0 nm ∉ bd.data.toList then f.set ((N0 nm).toNat - 97) true else f) = f1 := ⟨_, rfl⟩
 have hb1s : b1.size ≤ bd.size + 1 := by
  subst hb1; split
  ·simp only [ByteArray.size_append]; omega
  ·omega
 have hf1l : f1.length = 26 := by subst hf1; split <;> simp [hf]
 have hC : k = 1 → Fn Tryz.prog 177 [.string bd, .string nm] [] G (J1 (.bool (decide (N0 nm ∈ bd.data.toList))) G) := fun h => by
  have h2 := B6O bd (N0 nm) G
  rwa [← (A1A (hnmo (.inl h))).1] at h2
 have hI : k = 1 → nm[0]? = some (N0 nm) := fun h => by
  obtain ⟨h2, _, _⟩ := A1A (hnmo (.inl h)); rw [h2]; rfl
 have hR : k = 1 → 97 ≤ (N0 nm).toNat ∧ (N0 nm).toNat ≤ 122 := fun h => (A1A (hnmo (.inl h))).2
 rw [hb1, hf1]
 have hcut1 : True := trivial
 refine B6 Tryz.func117 rfl Tryz.ntmps117 Tryz.results117 rfl ?_
 intro w0
 refine tS (tR ?_)
 refine sE (E2 rfl rfl) rfl (fun b3 => ?_)
 refine sD (nS (tS (tS ?_)))
 (clear hcut1; refine A0n (fun (x : Bool) => ⟨[(17, .bool x), (1, .string bd), (2, .pointer (some ⟨b, 0, none⟩)), (3, .pointer (some ⟨b3, 0, none⟩))], [.blk b (f.map Value.bool), .blk b3 [.int .i64 k, .string nm, .int .i64 num, .int .i64 tk, .slice pt tks.length ct, .int .i64 fk, .slice pf fks.length cf, .int .i64 lb, .slice p ks.length c]], G⟩) (fun x => x = true ↔ (k = 1 ∧ N0 nm ∉ bd.data.toList)) ?_ ?_)
 refine tR (sQ (B1 rfl) rfl (sL (D4 rfl rfl) rfl rfl ?_))
 refine sB (qE rfl rfl) rfl rfl (fun h12 => ?_) (fun h12 => ?_)
 refine K5 ?_
 refine H8 rfl ((hC (by omega))) rfl rfl (fun h17 => ?_) (fun h17 => ?_)
 refine sQ (pNt rfl) rfl (sQ (N4 rfl rfl) rfl (sD ?_))
 refine P6 false (M4 (by repeat (first | exact C8.nil | refine C8.cons rfl ?_)) (by repeat (first | exact A0.refl | exact A0.nil | refine A0.cons (by repeat (first | exact Pk.here | apply Pk.there)) ?_ | apply A0.drop))) ?_
 (exact ⟨fun h => Bool.noConfusion h, fun h => absurd (show N0 nm ∈ bd.data.toList from of_decide_eq_true (by assumption)) h.2⟩)
 refine sQ (pNf rfl) rfl (sQ (N4 rfl rfl) rfl (sD ?_))
 refine P6 true (M4 (by repeat (first | exact C8.nil | refine C8.cons rfl ?_)) (by repeat (first | exact A0.refl | exact A0.nil | refine A0.cons (by repeat (first | exact Pk.here | apply Pk.there)) ?_ | apply A0.drop))) ?_
 (exact ⟨fun _ => ⟨by omega, of_decide_eq_false (by assumption)⟩, fun _ => rfl⟩)
 refine E1 ?_
 refine P6 false (M4 (by repeat (first | exact C8.nil | refine C8.cons rfl ?_)) (by repeat (first | exact A0.refl | exact A0.nil | refine A0.cons (by repeat (first | exact Pk.here | apply Pk.there)) ?_ | apply A0.drop))) ?_
 (exact ⟨fun h => Bool.noConfusion h, fun h => (by have := h.1; omega)⟩)
 (rintro x hx)
 (show H5 _ _ (.cond (.tmp 17) _ _) _ _; refine A0n (fun (_ : Unit) => ⟨[(1, .string bd), (2, .pointer (some ⟨b, 0, none⟩)), (3, .pointer (some ⟨b3, 0, none⟩))], [.blk b (f1.map Value.bool), .blk b3 [.int .i64 k, .string nm, .int .i64 num, .int .i64 tk, .slice pt tks.length ct, .int .i64 fk, .slice pf fks.length cf, .int .i64 lb, .slice p ks.length c]], G⟩) (fun _ => True) (A3w rfl (fun hxt => (have hk1 : k = 1 := (hx.1 hxt).1; ?_)) (fun hxf => ?_)) ?_)
 refine D7 D8 rfl ?_
 refine H4 (i := 0) (l' := [tt,ff,ff,ff,ff,ff,ff,ff]) rfl D3 (qM rfl) rfl (by kernel_rfl) rfl rfl ?_
 refine aP 1 rfl (B1 rfl) rfl ?_
 refine aL 2 rfl (D4 rfl rfl) rfl ?_
 refine aP 3 rfl (A3C rfl rfl rfl (by omega) (hI (by omega))) rfl ?_
 refine aP 4 rfl (B6M rfl rfl (by have := hR (by omega); omega) (by have := hR (by omega); omega)) rfl ?_
 refine aP 5 rfl (I4 rfl) rfl ?_
 refine aP 6 rfl (B6K (j := (N0 nm).toNat - 97) rfl rfl rfl (by have := hR (by omega); omega) (by have := hR (by omega); omega)) rfl ?_
 refine A2 7 ?_
 refine R2 rfl rfl rfl rfl rfl rfl rfl rfl (by kernel_rfl) (by repeat first | exact Sw.here | apply Sw.there) (by exact B6P (by have := hR (by omega); omega)) ?_
 refine B9 ?_
 (have hq2 : f.set ((N0 nm).toNat - 97) true = f1 := (by rw [← hf1, if_pos (hx.1 hxt)]); rw [hq2]; refine P6 () (M4 (by repeat (first | exact C8.nil | refine C8.cons rfl ?_)) (by repeat (first | exact A0.refl | exact A0.nil | refine A0.cons (by repeat (first | exact Pk.here | apply Pk.there)) ?_ | apply A0.drop))) trivial)
 refine tK ?_
 (have hq2 : f = f1 := (by rw [← hf1, if_neg (fun h => Bool.noConfusion (hxf.symm.trans (hx.2 h)))]); rw [hq2]; refine P6 () (M4 (by repeat (first | exact C8.nil | refine C8.cons rfl ?_)) (by repeat (first | exact A0.refl | exact A0.nil | refine A0.cons (by repeat (first | exact Pk.here | apply Pk.there)) ?_ | apply A0.drop))) trivial)
 (rintro x hx)
 refine W1 ?_
 refine sB (qE rfl rfl) rfl rfl (fun h60 => ?_) (fun h60 => ?_)
 refine C5 ?_
 refine sP (A0R rfl rfl (by omega)) rfl rfl ?_
 refine J3 ?_
 refine B2 ?_
 (have hq : k = 5 := (by omega); rw [show bd ++ nm = b1 by rw [← hb1, if_pos hq]]; refine J8 (fun (x : Nat × List Bool) => ⟨[(35, .int .i64 (x.1 : Int)), (34, .int .i64 (ks.length : Int)), (33, .slice p ks.length c), (1, .string b1), (2, .pointer (some ⟨b, 0, none⟩))], [.blk b (x.2.map Value.bool)], G⟩) (fun x => x.1 ≤ ks.length ∧ x.2.length = 26 ∧ X2 b1 (ks.drop x.1) x.2 = X2 b1 ks f1) (fun x => ks.length - x.1) (0, f1) ?_ ?_ ?_)
 (simp only [E7]; exact C2)
 (exact ⟨Nat.zero_le _, hf1l, rfl⟩)
 (rintro ⟨i, fs⟩ ⟨hi, hfs, hse⟩; simp only [] at hi hfs hse ⊢)
 refine tS (tR ?_)
 refine sB (I7 rfl rfl) rfl rfl (fun h87 => ?_) (fun h87 => ?_)
 refine sD (nS (tS (qT rfl (tK (nS (tS ?_))))))
 refine B2 ?_
 refine tS (tR ?_)
 (obtain ⟨bx, ox, e, rfl, hl, hat, hre, hgb⟩ := hsl.kidTm hkl (i := i) (by omega) (by omega); refine sP (B3 (j := i) rfl rfl rfl (by omega)) rfl rfl ?_)
 refine sL (A6 rfl rfl (hat _) hl) rfl rfl ?_
 refine sE (B0 rfl) rfl (fun b100 => ?_)
 refine sS rfl rfl rfl hl hre.one rfl ?_ (hu := by exact O5 hl.symm)
 refine sD (nS (tR ?_))
 refine sL (A6 rfl rfl (H0 (by repeat first | exact mH | apply mT)) (by assumption)) rfl rfl ?_
 refine sQ (qM rfl) rfl (sQ (qM rfl) rfl ?_)
 (refine C6 rfl (ih ks[i] (List.getElem_mem (by omega)) _ b1 b fs G e (hvk i (by omega)) hfs (by have := A0C ks (i + 1); rw [A0B (by omega)] at this; omega) hre) (Pk.perm (by repeat (first | exact Pk.here | apply Pk.there))) rfl rfl (fun v G1 outs hle1 hh => ?_); obtain ⟨hG, rfl, rfl⟩ := hh; replace hG := hG.symm; subst hG)
 refine sD (M2 (nS (tR ?_)))
 refine sP (H2 rfl rfl (by omega) (by omega)) rfl rfl ?_
 refine sQ (qM rfl) rfl (sD ?_)
 refine J4 (i + 1, mFr b1 ks[i] fs) ?_ ?_ ?_
 (simp only [E7]; exact C2)
 (dsimp only; exact ⟨by omega, (A4q _ _ _).trans hfs, by rw [← hse, B07 (ts := ks) (i := i) (by omega) b1 fs]⟩)
 (show ks.length - (i + 1) < ks.length - i; omega)
 refine E1 ?_
 refine A48 (outs := [.blk b (fs.map Value.bool)]) (by repeat (first | exact A0.nil | refine A0.cons (by repeat (first | exact Pk.here | apply Pk.there)) ?_)) ?_
 (exact ⟨rfl, rfl, by rw [← hse, List.drop_eq_nil_of_le (by omega), X2]⟩)
 refine L7 ?_
 refine B2 ?_
 (have hq4 : bd = b1 := (by rw [← hb1, if_neg (by omega)]); rw [hq4]; refine J8 (fun (x : Nat × List Bool) => ⟨[(35, .int .i64 (x.1 : Int)), (34, .int .i64 (ks.length : Int)), (33, .slice p ks.length c), (1, .string b1), (2, .pointer (some ⟨b, 0, none⟩))], [.blk b (x.2.map Value.bool)], G⟩) (fun x => x.1 ≤ ks.length ∧ x.2.length = 26 ∧ X2 b1 (ks.drop x.1) x.2 = X2 b1 ks f1) (fun x => ks.length - x.1) (0, f1) ?_ ?_ ?_)
 (simp only [E7]; exact C2)
 (exact ⟨Nat.zero_le _, hf1l, rfl⟩)
 (rintro ⟨i, fs⟩ ⟨hi, hfs, hse⟩; simp only [] at hi hfs hse ⊢)
 refine tS (tR ?_)
 refine sB (I7 rfl rfl) rfl rfl (fun h150 => ?_) (fun h150 => ?_)
 refine sD (nS (tS (qT rfl (tK (nS (tS ?_))))))
 refine B2 ?_
 refine tS (tR ?_)
 (obtain ⟨bx, ox, e, rfl, hl, hat, hre, hgb⟩ := hsl.kidTm hkl (i := i) (by omega) (by omega); refine sP (B3 (j := i) rfl rfl rfl (by omega)) rfl rfl ?_)
 refine sL (A6 rfl rfl (hat _) hl) rfl rfl ?_
 refine sE (B0 rfl) rfl (fun b163 => ?_)
 refine sS rfl rfl rfl hl hre.one rfl ?_ (hu := by exact O5 hl.symm)
 refine sD (nS (tR ?_))
 refine sL (A6 rfl rfl (H0 (by repeat first | exact mH | apply mT)) (by assumption)) rfl rfl ?_
 refine sQ (qM rfl) rfl (sQ (qM rfl) rfl ?_)
 (refine C6 rfl (ih ks[i] (List.getElem_mem (by omega)) _ b1 b fs G e (hvk i (by omega)) hfs (by have := A0C ks (i + 1); rw [A0B (by omega)] at this; omega) hre) (Pk.perm (by repeat (first | exact Pk.here | apply Pk.there))) rfl rfl (fun v G1 outs hle1 hh => ?_); obtain ⟨hG, rfl, rfl⟩ := hh; replace hG := hG.symm; subst hG)
 refine sD (M2 (nS (tR ?_)))
 refine sP (H2 rfl rfl (by omega) (by omega)) rfl rfl ?_
 refine sQ (qM rfl) rfl (sD ?_)
 refine J4 (i + 1, mFr b1 ks[i] fs) ?_ ?_ ?_
 (simp only [E7]; exact C2)
 (dsimp only; exact ⟨by omega, (A4q _ _ _).trans hfs, by rw [← hse, B07 (ts := ks) (i := i) (by omega) b1 fs]⟩)
 (show ks.length - (i + 1) < ks.length - i; omega)
 refine E1 ?_
 refine A48 (outs := [.blk b (fs.map Value.bool)]) (by repeat (first | exact A0.nil | refine A0.cons (by repeat (first | exact Pk.here | apply Pk.there)) ?_)) ?_
 (exact ⟨rfl, rfl, by rw [← hse, List.drop_eq_nil_of_le (by omega), X2]⟩)
theorem B6T (n : Int) (h0 : 0 ≤ n) : (strOfNums [n]).size = 1 := rfl
def B8w : Tm → Tm
 | .mk k nm num ty fr lb ks => if k = 13 then ks.headD I2 else if k = 1 ∨ k = 6 ∨ k = 9 ∨ k = 11 ∨ k = 12 then .mk k nm num ty fr lb ks
  else B0J (.mk k nm num (if k = 5 then O4 else ty) fr lb ks)
def B8x : Tm → Prop
 | .mk k _ _ _ _ _ ks => k = 13 → ks ≠ []
theorem B6U {s : ByteArray} {i : Nat} (h : i < s.data.toList.length) : s.extract i (i + 1) = ⟨#[s.data.toList[i]]⟩ := by
 obtain ⟨⟨l⟩⟩ := s
 apply ByteArray.ext
 rw [ByteArray.data_extract]
 apply Array.ext'
 simp only [Array.toList_extract]
 have h : i < l.length := h
 rw [List.extract_eq_take_drop, List.drop_eq_getElem_cons h, Nat.add_sub_cancel_left]
 rfl
theorem B09 {A B C : Prop} : ((A ∨ B) ∨ C) ↔ (B ∨ (A ∨ C)) := ⟨fun h => h.elim (fun h => h.elim (fun a => .inr (.inl a)) .inl) (fun c => .inr (.inr c)), fun h => h.elim (fun b => .inl (.inr b)) (fun h => h.elim (fun a => .inl (.inl a)) .inr)⟩
theorem B1a {c d : UInt8} : d ∈ (⟨#[c]⟩ : ByteArray).data.toList ↔ d = c := by simp
theorem A3t {a b : ByteArray} {c : UInt8} : c ∈ (a ++ b).data.toList ↔ c ∈ a.data.toList ∨ c ∈ b.data.toList := by
 rw [ByteArray.data_append, Array.toList_append, List.mem_append]
theorem B1b {s : ByteArray} {k : Nat} {c : UInt8} (h : k ≤ s.size) : c ∈ s.data.toList ↔ c ∈ (s.extract 0 k).data.toList ∨ c ∈ (s.extract k s.size).data.toList := by
 rw [← A3t]
 have : s.extract 0 k ++ s.extract k s.size = s := by
  simp [ByteArray.extract_append_extract, h]
 rw [this]
theorem A7v {a b : UInt8} : (⟨#[a]⟩ : ByteArray) = ⟨#[b]⟩ ↔ a = b := by
 constructor
 ·intro h; have := congrArg (fun x => x.data.toList) h; simpa using this
 ·intro h; rw [h]
theorem A5F {s : ByteArray} {i : Nat} {c : UInt8} (h : i < s.size) : s.extract i (i + 1) = ⟨#[c]⟩ ↔ s.data.toList[i]? = some c := by
 have h' : i < s.data.toList.length := h
 rw [B6U h', A7v, List.getElem?_eq_getElem h', Option.some_inj]
theorem B6V (s nm : ByteArray) (c : UInt8) (G : IM) (hs : s.size ≤ 1000) (hnm : nm = ⟨#[c]⟩) :
  Fn Tryz.prog 124 [.string s, .string nm] [] G (J1 (.bool (decide (c ∈ s.data.toList))) G) := by
 have hsz : s.size = s.data.toList.length := rfl
 refine B6 Tryz.func124 rfl Tryz.ntmps124 Tryz.results124 rfl ?_
 intro w0
 refine J3 ?_
 refine B2 ?_
 (refine J8 (fun (i : Nat) => ⟨[(5, .int .i64 (i : Int)), (0, .string s), (1, .string nm)], [], G⟩) (fun i => i ≤ s.size ∧ ∀ j, j < i → s.data.toList[j]? ≠ some c) (fun i => s.size - i) 0 ?_ ?_ ?_)
 exact C2
 exact ⟨Nat.zero_le _, fun j hj => absurd hj (Nat.not_lt_zero j)⟩
 (rintro i ⟨hi, hj⟩)
 refine tS (tS (tR (sQ (qM rfl) rfl (sQ (qM rfl) rfl ?_))))
 refine sQ (A0w rfl rfl) rfl (sB (I7 rfl rfl) rfl rfl (fun h23 => ?_) (fun h23 => ?_))
 refine sD (nS (qT rfl (tK (nS (tS ?_)))))
 refine B2 ?_
 refine W1 ?_
 refine sP (A0j (n := 1) rfl rfl (by omega)) rfl rfl ?_
 refine sP (A2c (h := i + 1) rfl rfl rfl rfl (by omega) (by omega)) rfl rfl ?_
 refine sQ (qM rfl) rfl ?_
 refine sB (A2u rfl rfl) rfl rfl (fun hse => ?_) (fun hse => ?_)
 refine J5 ?_
 (exact ⟨rfl, by rw [decide_eq_true]; rw [hnm, A5F (by omega)] at hse; exact List.mem_of_getElem? hse, rfl⟩)
 refine E1 ?_
 refine sP (A0j (n := 1) rfl rfl (by omega)) rfl rfl ?_
 refine sQ (qA rfl) rfl (sD ?_)
 refine J4 (i + 1) ?_ ?_ ?_
 exact C2
 (exact ⟨by omega, fun j hji => (by by_cases he : j = i; (subst he; intro hc; exact hse (by rw [hnm, A5F (by omega)]; exact hc)); exact hj j (by omega))⟩)
 (show s.size - _ < s.size - _; omega)
 refine J5 ?_
 (exact ⟨rfl, by rw [decide_eq_false]; intro hm; obtain ⟨j, hj1, hj2⟩ := List.getElem_of_mem hm; exact hj j (by omega) (by rw [List.getElem?_eq_getElem hj1, hj2]), rfl⟩)
theorem B1c (s nm : ByteArray) (c : UInt8) (G : IM) (hs : s.size ≤ 1000) (hnm : nm = ⟨#[c]⟩) :
  Fn Tryz.prog 125 [.string s, .string nm] [] G (fun G' v outs => G' = G ∧ outs = [] ∧ ∃ r, v = .string r ∧ r.size ≤ s.size + 1 ∧ 0 < r.size ∧ ∀ d, d ∈ r.data.toList ↔ (d = c ∨ d ∈ s.data.toList)) := by
 have hn : nm.size = 1 := by rw [hnm]; rfl
 have hsz : s.size = s.data.toList.length := rfl
 refine B6 Tryz.func125 rfl Tryz.ntmps125 Tryz.results125 rfl ?_
 intro w0
 refine J3 ?_
 refine B2 ?_
 (refine J8 (fun (i : Nat) => ⟨[(5, .int .i64 (i : Int)), (0, .string s), (1, .string nm)], [], G⟩) (fun i => i ≤ s.size) (fun i => s.size - i) 0 ?_ ?_ ?_)
 exact C2
 exact Nat.zero_le _
 (intro i hi)
 refine tS (tS (tR (sQ (qM rfl) rfl (sQ (qM rfl) rfl ?_))))
 refine sQ (A0w rfl rfl) rfl (sB (I7 rfl rfl) rfl rfl (fun h23 => ?_) (fun h23 => ?_))
 refine K5 ?_
 refine sP (A0j (n := 1) rfl rfl (by omega)) rfl rfl ?_
 refine sP (A2c (h := i + 1) rfl rfl rfl rfl (by omega) (by omega)) rfl rfl ?_
 refine sQ (qM rfl) rfl ?_
 refine sB (A81 rfl rfl) rfl rfl (fun h31 => ?_) (fun h31 => ?_)
 refine sQ (N4 rfl rfl) rfl (sD (nS (qT rfl (tK (nS ?_)))))
 refine B2 ?_
 refine tR (sQ (qM rfl) rfl ?_)
 refine sP (A0j (n := 1) rfl rfl (by omega)) rfl rfl ?_
 refine sQ (qA rfl) rfl (sD (M2 ?_))
 refine J4 (i + 1) ?_ ?_ ?_
 exact C2
 (show _ ≤ s.size; omega)
 (show s.size - _ < s.size - _; omega)
 refine M5 ?_
 refine sQ (A0w rfl rfl) rfl ?_
 refine sP (A7Q rfl rfl (by omega)) rfl rfl ?_
 refine K5 ?_
 refine sP (A0j (n := 1) rfl rfl (by omega)) rfl rfl ?_
 refine sP (A2c (h := i + 1) rfl rfl rfl rfl (by omega) (by omega)) rfl rfl ?_
 refine sQ (qM rfl) rfl ?_
 refine sB (A2u rfl rfl) rfl rfl (fun hse => ?_) (fun hse => ?_)
 refine L4 ?_
 refine E3 (outs := []) (rT rfl) A0.nil ?_
 (exact ⟨rfl, rfl, _, rfl, Nat.le_add_right _ _, by omega, fun d => ⟨fun hd => .inr hd, fun hd => hd.elim (fun he => (by rw [he]; rw [hnm, A5F (by omega)] at hse; exact List.mem_of_getElem? hse)) id⟩⟩)
 refine sQ (N4 rfl rfl) rfl (sD (nS (cF rfl (tK (nS (tS ?_))))))
 refine D7 D8 rfl ?_
 refine H4 (i := 0) (l' := [tt,ff,ff,ff,ff,ff,ff,ff,ff,ff]) rfl D3 (qM rfl) rfl (by kernel_rfl) rfl rfl ?_
 refine aP 1 rfl (qM rfl) rfl ?_
 refine aP 2 rfl (A42 rfl rfl rfl (by omega)) rfl ?_
 refine aP 3 rfl (qM rfl) rfl ?_
 refine aP 4 rfl (A0R rfl rfl (by simp only [ByteArray.size_extract, ByteArray.size_append]; omega)) rfl ?_
 refine aP 5 rfl (qM rfl) rfl ?_
 refine aP 6 rfl (qM rfl) rfl ?_
 refine aP 7 rfl (A43 rfl rfl rfl (by omega)) rfl ?_
 refine aP 8 rfl (A0R rfl rfl (by simp only [ByteArray.size_extract, ByteArray.size_append]; omega)) rfl ?_
 refine aP 9 rfl (qA rfl) rfl ?_
 refine B9 (nS (tT ?_))
 refine E3 (outs := []) (rT rfl) A0.nil ?_
 (exact ⟨rfl, rfl, _, rfl, by simp only [ByteArray.size_extract, ByteArray.size_append]; omega, by simp only [ByteArray.size_extract, ByteArray.size_append]; omega, fun d => by rw [A3t, A3t, B1b (s := s) (k := i) (by omega), hnm, B1a]; exact B09⟩)
 refine A0S ?_
 refine sQ (A0w rfl rfl) rfl ?_
 refine sP (A14 rfl rfl (by omega)) rfl rfl ?_
 refine J5 ?_
 refine D7 D8 rfl ?_
 refine H4 (i := 0) (l' := [tt,ff,ff,ff,ff,ff,ff,ff,ff,ff]) rfl D3 (qM rfl) rfl (by kernel_rfl) rfl rfl ?_
 refine aP 1 rfl (qM rfl) rfl ?_
 refine aP 2 rfl (A42 rfl rfl rfl (by omega)) rfl ?_
 refine aP 3 rfl (qM rfl) rfl ?_
 refine aP 4 rfl (A0R rfl rfl (by simp only [ByteArray.size_extract, ByteArray.size_append]; omega)) rfl ?_
 refine aP 5 rfl (qM rfl) rfl ?_
 refine aP 6 rfl (qM rfl) rfl ?_
 refine aP 7 rfl (A43 rfl rfl rfl (by omega)) rfl ?_
 refine aP 8 rfl (A0R rfl rfl (by simp only [ByteArray.size_extract, ByteArray.size_append]; omega)) rfl ?_
 refine aP 9 rfl (qA rfl) rfl ?_
 refine B9 (nS (tT ?_))
 refine E3 (outs := []) (rT rfl) A0.nil ?_
 (exact ⟨rfl, rfl, _, rfl, by simp only [ByteArray.size_extract, ByteArray.size_append]; omega, by simp only [ByteArray.size_extract, ByteArray.size_append]; omega, fun d => by rw [A3t, A3t, B1b (s := s) (k := i) (by omega), hnm, B1a]; exact B09⟩)
def BdS (bd : ByteArray) (ns : List ByteArray) : Prop := ∀ c : UInt8, c ∈ bd.data.toList ↔ (⟨#[c]⟩ : ByteArray) ∈ ns
theorem A7w {ns : List ByteArray} {ks : List Tm} {i : Nat} (h : i < ks.length) : T8 ns (ks.take (i + 1)) ↔ (T8 ns (ks.take i) ∧ T6 ns ks[i]) := by
 induction ks generalizing i with
 | nil => simp at h
 | cons t ts ih =>
  cases i with
  | zero => simp [T8]
  | succ i =>
   have := ih (i := i) (by simpa using h)
   simp only [List.take_succ_cons, T8, List.getElem_cons_succ, this]
   constructor
   ·rintro ⟨a, b, c⟩; exact ⟨⟨a, b⟩, c⟩
   ·rintro ⟨⟨a, b⟩, c⟩; exact ⟨a, b, c⟩
theorem B6W : ∀ (t : Tm) (d : Int) (out bd : ByteArray) (ns : List ByteArray) (G : IM) (cells : List Value), I9 12 14 t d = true → out.size + C9 t ≤ 1000 → bd.size + C9 t ≤ 1000 → BdS bd ns → B5 G t cells →
  Fn Tryz.prog 64 [.string out, .agg ⟨cells⟩, .string bd] [] G (fun G' v outs => G' = G ∧ outs = [] ∧ ∃ r, v = .string r ∧ r.size ≤ out.size + C9 t ∧ (r.size = 0 ↔ (out.size = 0 ∧ T6 ns t))) := by
 refine Tm.ind fun k nm num ty fr lb ks ih d out bd ns G cells hv ho hb hbd hr => ?_
 obtain ⟨hv1, hv2, hv3, hv4⟩ := R8 hv
 have hvk := (A0U 12 14 ks _).1 hv4
 have hnmo := (R7.1 hv3).2.1
 have hnmS := fun h => (A1A (hnmo h)).1
 simp only [C9] at ho hb ⊢
 obtain ⟨tk, tks⟩ := ty
 obtain ⟨fk, fks⟩ := fr
 obtain ⟨pt, ct, pf, cf, p, c, es, rfl, hk, hnum, hlb, hty, hfr, hsl, hkl⟩ := hr.open9
 have hn := hsl.le
 obtain ⟨n1, hn1⟩ : ∃ n1, (if k = 5 then nm :: ns else ns) = n1 := ⟨_, rfl⟩
 have hcl : T6 ns (.mk k nm num (.mk tk tks) (.mk fk fks) lb ks) ↔ ((k = 1 → nm ∈ ns) ∧ T8 n1 ks) := by rw [T6, hn1]
 refine B6 Tryz.func64 rfl Tryz.ntmps64 Tryz.results64 rfl ?_
 intro w0
 refine tS (tR ?_)
 refine sE (E2 rfl rfl) rfl (fun b3 => ?_)
 refine E1 ?_
 refine sB (qE rfl rfl) rfl rfl (fun h12 => ?_) (fun h12 => ?_)
 refine K5 ?_
 focus (have hk1 : k = 1 := (by omega); refine H6 rfl (B6V bd nm (N0 nm) _ (by omega) (hnmS (.inl hk1))) rfl rfl ?_; have hin : (N0 nm ∈ bd.data.toList) ↔ nm ∈ ns := (by rw [hbd (N0 nm), ← hnmS (.inl hk1)]); by_cases hmem : N0 nm ∈ bd.data.toList; (rw [decide_eq_true hmem]); rotate_left; (rw [decide_eq_false hmem]); rotate_left)
 refine L4 ?_
 refine sP (K9 rfl rfl (by omega)) rfl rfl ?_
 refine J3 ?_
 refine B2 ?_
 (have hbd1 : BdS bd n1 := (by rw [← hn1, if_neg (by omega)]; exact hbd); refine J8 (fun (x : Nat × ByteArray) => ⟨[(7, .int .i64 (x.1 : Int)), (4, .pointer (some ⟨b3, 0, none⟩)), (0, .string x.2), (2, .string bd)], [.blk b3 [.int .i64 k, .string nm, .int .i64 num, .int .i64 tk, .slice pt tks.length ct, .int .i64 fk, .slice pf fks.length cf, .int .i64 lb, .slice p ks.length c]], G⟩) (fun x => x.1 ≤ ks.length ∧ x.2.size ≤ out.size + 1 + D2 (ks.take x.1) ∧ (x.2.size = 0 ↔ (out.size = 0 ∧ T8 n1 (ks.take x.1)))) (fun x => ks.length - x.1) (0, out) ?_ ?_ ?_)
 (simp only [E7]; exact C2)
 (exact ⟨Nat.zero_le _, by dsimp only; omega, by simp [T8]⟩)
 (rintro ⟨i, o⟩ ⟨hi, hos, hoz⟩; simp only [] at hi hos hoz ⊢; have hct := A0C ks (i + 1))
 refine C5 ?_
 refine sB (I7 rfl rfl) rfl rfl (fun h54 => ?_) (fun h54 => ?_)
 refine sD (nS (qT rfl (tK (nS (tS ?_)))))
 refine B2 ?_
 (obtain ⟨bx, ox, e, rfl, hl, hat, hre, hgb⟩ := hsl.kidTm hkl (i := i) (by omega) (by omega); rw [A0B (by omega)] at hct)
 refine W1 ?_
 refine sP (B3 (j := i) rfl rfl rfl (by omega)) rfl rfl ?_
 refine sL (A6 rfl rfl (hat _) hl) rfl rfl ?_
 refine sQ (qM rfl) rfl ?_
 (refine C6 rfl (ih ks[i] (List.getElem_mem (by omega)) _ _ _ n1 _ _ (hvk i (by omega)) (by omega) (by omega) hbd1 hre) (List.Perm.refl _) rfl rfl (fun v G1 outs hle1 hh => ?_); obtain ⟨hG, rfl, r3, rfl, hr3, hr3z⟩ := hh; replace hG := hG.symm; subst hG)
 refine N6 ?_
 refine sP (H2 rfl rfl (by omega) (by omega)) rfl rfl ?_
 refine sQ (qA rfl) rfl (sD ?_)
 refine J4 (i + 1, r3) ?_ ?_ ?_
 (simp only [E7]; exact C2)
 (dsimp only; exact ⟨by omega, by rw [A0B (by omega)]; omega, by rw [hr3z, hoz, A7w (by omega), and_assoc]⟩)
 (show ks.length - (i + 1) < ks.length - i; omega)
 refine J5 ?_
 refine E3 (outs := []) (rT rfl) A0.nil ?_
 (exact ⟨rfl, rfl, _, rfl, by have := A0C ks i; omega, by rw [hoz, hcl, show ks.take i = ks by rw [List.take_of_length_le (by omega)]]; exact ⟨fun hz => ⟨hz.1, fun h1 => by first | exact hin.1 hmem | omega, hz.2⟩, fun hz => ⟨hz.1, hz.2.2⟩⟩⟩)
 refine E8 ?_
 (have hk1 : k = 1 := (by omega); refine C6 rfl (B1c out nm (N0 nm) _ (by omega) (hnmS (.inl hk1))) (List.Perm.refl _) rfl rfl (fun v G1 outs hle1 hh => ?_); obtain ⟨hG, rfl, r1, rfl, hr1, hr1p, _⟩ := hh; replace hG := hG.symm; subst hG)
 refine E1 ?_
 refine sP (K9 rfl rfl (by omega)) rfl rfl ?_
 refine J3 ?_
 refine B2 ?_
 (have hq : k = 1 := (by omega); have hr2 := hr1; have hbd1 : BdS bd n1 := (by rw [← hn1, if_neg (by omega)]; exact hbd); refine J8 (fun (x : Nat × ByteArray) => ⟨[(7, .int .i64 (x.1 : Int)), (4, .pointer (some ⟨b3, 0, none⟩)), (0, .string x.2), (2, .string bd)], [.blk b3 [.int .i64 k, .string nm, .int .i64 num, .int .i64 tk, .slice pt tks.length ct, .int .i64 fk, .slice pf fks.length cf, .int .i64 lb, .slice p ks.length c]], G⟩) (fun x => x.1 ≤ ks.length ∧ x.2.size ≤ out.size + 1 + D2 (ks.take x.1) ∧ 0 < x.2.size) (fun x => ks.length - x.1) (0, r1) ?_ ?_ ?_)
 (simp only [E7]; exact C2)
 (exact ⟨Nat.zero_le _, by dsimp only; omega, hr1p⟩)
 (rintro ⟨i, o⟩ ⟨hi, hos, hoz⟩; simp only [] at hi hos hoz ⊢; have hct := A0C ks (i + 1))
 refine C5 ?_
 refine sB (I7 rfl rfl) rfl rfl (fun h144 => ?_) (fun h144 => ?_)
 refine sD (nS (qT rfl (tK (nS (tS ?_)))))
 refine B2 ?_
 (obtain ⟨bx, ox, e, rfl, hl, hat, hre, hgb⟩ := hsl.kidTm hkl (i := i) (by omega) (by omega); rw [A0B (by omega)] at hct)
 refine W1 ?_
 refine sP (B3 (j := i) rfl rfl rfl (by omega)) rfl rfl ?_
 refine sL (A6 rfl rfl (hat _) hl) rfl rfl ?_
 refine sQ (qM rfl) rfl ?_
 (refine C6 rfl (ih ks[i] (List.getElem_mem (by omega)) _ _ _ n1 _ _ (hvk i (by omega)) (by omega) (by omega) hbd1 hre) (List.Perm.refl _) rfl rfl (fun v G1 outs hle1 hh => ?_); obtain ⟨hG, rfl, r3, rfl, hr3, hr3z⟩ := hh; replace hG := hG.symm; subst hG)
 refine N6 ?_
 refine sP (H2 rfl rfl (by omega) (by omega)) rfl rfl ?_
 refine sQ (qA rfl) rfl (sD ?_)
 refine J4 (i + 1, r3) ?_ ?_ ?_
 (simp only [E7]; exact C2)
 (dsimp only; exact ⟨by omega, by rw [A0B (by omega)]; omega, by have := hr3z; omega⟩)
 (show ks.length - (i + 1) < ks.length - i; omega)
 refine J5 ?_
 refine E3 (outs := []) (rT rfl) A0.nil ?_
 (exact ⟨rfl, rfl, _, rfl, by have := A0C ks i; omega, by rw [hcl]; exact ⟨fun hz => absurd hz (by omega), fun hz => absurd (hin.2 (hz.2.1 hq)) hmem⟩⟩)
 refine U8 ?_
 refine sB (qE rfl rfl) rfl rfl (fun h209 => ?_) (fun h209 => ?_)
 refine C5 ?_
 (have hk5 : k = 5 := (by omega); refine C6 rfl (B1c bd nm (N0 nm) _ (by omega) (hnmS (.inr hk5))) (List.Perm.refl _) rfl rfl (fun v G1 outs hle1 hh => ?_); obtain ⟨hG, rfl, r1, rfl, hr1, _, hr1m⟩ := hh; replace hG := hG.symm; subst hG; have hbd1 : BdS r1 n1 := (by intro cc; rw [hr1m, hbd cc, ← hn1, if_pos hk5, List.mem_cons]; exact or_congr ⟨fun h => (by rw [h]; exact (hnmS (.inr hk5)).symm), fun h => A7v.1 (h.trans (hnmS (.inr hk5)))⟩ Iff.rfl))
 refine E8 ?_
 refine B2 ?_
 (have hq : k = 5 := (by omega); have hr2 : r1.size ≤ bd.size + 1 := (by omega); refine J8 (fun (x : Nat × ByteArray) => ⟨[(7, .int .i64 (x.1 : Int)), (4, .pointer (some ⟨b3, 0, none⟩)), (0, .string x.2), (2, .string r1)], [.blk b3 [.int .i64 k, .string nm, .int .i64 num, .int .i64 tk, .slice pt tks.length ct, .int .i64 fk, .slice pf fks.length cf, .int .i64 lb, .slice p ks.length c]], G⟩) (fun x => x.1 ≤ ks.length ∧ x.2.size ≤ out.size + 1 + D2 (ks.take x.1) ∧ (x.2.size = 0 ↔ (out.size = 0 ∧ T8 n1 (ks.take x.1)))) (fun x => ks.length - x.1) (0, out) ?_ ?_ ?_)
 (simp only [E7]; exact C2)
 (exact ⟨Nat.zero_le _, by dsimp only; omega, by simp [T8]⟩)
 (rintro ⟨i, o⟩ ⟨hi, hos, hoz⟩; simp only [] at hi hos hoz ⊢; have hct := A0C ks (i + 1))
 refine C5 ?_
 refine sB (I7 rfl rfl) rfl rfl (fun h239 => ?_) (fun h239 => ?_)
 refine sD (nS (qT rfl (tK (nS (tS ?_)))))
 refine B2 ?_
 (obtain ⟨bx, ox, e, rfl, hl, hat, hre, hgb⟩ := hsl.kidTm hkl (i := i) (by omega) (by omega); rw [A0B (by omega)] at hct)
 refine W1 ?_
 refine sP (B3 (j := i) rfl rfl rfl (by omega)) rfl rfl ?_
 refine sL (A6 rfl rfl (hat _) hl) rfl rfl ?_
 refine sQ (qM rfl) rfl ?_
 (refine C6 rfl (ih ks[i] (List.getElem_mem (by omega)) _ _ _ n1 _ _ (hvk i (by omega)) (by omega) (by omega) hbd1 hre) (List.Perm.refl _) rfl rfl (fun v G1 outs hle1 hh => ?_); obtain ⟨hG, rfl, r3, rfl, hr3, hr3z⟩ := hh; replace hG := hG.symm; subst hG)
 refine N6 ?_
 refine sP (H2 rfl rfl (by omega) (by omega)) rfl rfl ?_
 refine sQ (qA rfl) rfl (sD ?_)
 refine J4 (i + 1, r3) ?_ ?_ ?_
 (simp only [E7]; exact C2)
 (dsimp only; exact ⟨by omega, by rw [A0B (by omega)]; omega, by rw [hr3z, hoz, A7w (by omega), and_assoc]⟩)
 (show ks.length - (i + 1) < ks.length - i; omega)
 refine J5 ?_
 refine E3 (outs := []) (rT rfl) A0.nil ?_
 (exact ⟨rfl, rfl, _, rfl, by have := A0C ks i; omega, by rw [hoz, hcl, show ks.take i = ks by rw [List.take_of_length_le (by omega)]]; exact ⟨fun hz => ⟨hz.1, fun h1 => by first | exact hin.1 hmem | omega, hz.2⟩, fun hz => ⟨hz.1, hz.2.2⟩⟩⟩)
 refine J3 ?_
 refine B2 ?_
 (have hbd1 : BdS bd n1 := (by rw [← hn1, if_neg (by omega)]; exact hbd); refine J8 (fun (x : Nat × ByteArray) => ⟨[(7, .int .i64 (x.1 : Int)), (4, .pointer (some ⟨b3, 0, none⟩)), (0, .string x.2), (2, .string bd)], [.blk b3 [.int .i64 k, .string nm, .int .i64 num, .int .i64 tk, .slice pt tks.length ct, .int .i64 fk, .slice pf fks.length cf, .int .i64 lb, .slice p ks.length c]], G⟩) (fun x => x.1 ≤ ks.length ∧ x.2.size ≤ out.size + 1 + D2 (ks.take x.1) ∧ (x.2.size = 0 ↔ (out.size = 0 ∧ T8 n1 (ks.take x.1)))) (fun x => ks.length - x.1) (0, out) ?_ ?_ ?_)
 (simp only [E7]; exact C2)
 (exact ⟨Nat.zero_le _, by dsimp only; omega, by simp [T8]⟩)
 (rintro ⟨i, o⟩ ⟨hi, hos, hoz⟩; simp only [] at hi hos hoz ⊢; have hct := A0C ks (i + 1))
 refine C5 ?_
 refine sB (I7 rfl rfl) rfl rfl (fun h310 => ?_) (fun h310 => ?_)
 refine sD (nS (qT rfl (tK (nS (tS ?_)))))
 refine B2 ?_
 (obtain ⟨bx, ox, e, rfl, hl, hat, hre, hgb⟩ := hsl.kidTm hkl (i := i) (by omega) (by omega); rw [A0B (by omega)] at hct)
 refine W1 ?_
 refine sP (B3 (j := i) rfl rfl rfl (by omega)) rfl rfl ?_
 refine sL (A6 rfl rfl (hat _) hl) rfl rfl ?_
 refine sQ (qM rfl) rfl ?_
 (refine C6 rfl (ih ks[i] (List.getElem_mem (by omega)) _ _ _ n1 _ _ (hvk i (by omega)) (by omega) (by omega) hbd1 hre) (List.Perm.refl _) rfl rfl (fun v G1 outs hle1 hh => ?_); obtain ⟨hG, rfl, r3, rfl, hr3, hr3z⟩ := hh; replace hG := hG.symm; subst hG)
 refine N6 ?_
 refine sP (H2 rfl rfl (by omega) (by omega)) rfl rfl ?_
 refine sQ (qA rfl) rfl (sD ?_)
 refine J4 (i + 1, r3) ?_ ?_ ?_
 (simp only [E7]; exact C2)
 (dsimp only; exact ⟨by omega, by rw [A0B (by omega)]; omega, by rw [hr3z, hoz, A7w (by omega), and_assoc]⟩)
 (show ks.length - (i + 1) < ks.length - i; omega)
 refine J5 ?_
 refine E3 (outs := []) (rT rfl) A0.nil ?_
 (exact ⟨rfl, rfl, _, rfl, by have := A0C ks i; omega, by rw [hoz, hcl, show ks.take i = ks by rw [List.take_of_length_le (by omega)]]; exact ⟨fun hz => ⟨hz.1, fun h1 => by first | exact hin.1 hmem | omega, hz.2⟩, fun hz => ⟨hz.1, hz.2.2⟩⟩⟩)
mutual
theorem B1d : ∀ (t : Tm) (d : Int) (bnd : ByteArray) (f : List Bool) (ns : List ByteArray), I9 12 14 t d = true → BdS bnd ns → T6 ns t → mFr bnd t f = f
 | .mk k nm num ty fr lb ks, d, bnd, f, ns, hs, hb, h => by
  obtain ⟨_, _, h3, h4⟩ := R8 hs
  have hnm := (R7.1 h3).2.1
  rw [T6] at h
  have h2 : ¬(k = 1 ∧ N0 nm ∉ bnd.data.toList) := fun hc => hc.2 ((hb _).2 (by rw [← (A1A (hnm (.inl hc.1))).1]; exact h.1 hc.1))
  rw [mFr, if_neg h2]
  refine B1e ks _ _ _ _ h4 ?_ h.2
  by_cases hk : k = 5
  ·rw [if_pos hk, if_pos hk]
   intro c
   have e1 := (A1A (hnm (.inr hk))).1
   rw [A3t, hb c, List.mem_cons, or_comm]
   refine or_congr ?_ Iff.rfl
   rw [e1, A7v]; simp
  ·rw [if_neg hk, if_neg hk]; exact hb
theorem B1e : ∀ (ts : List Tm) (d : Int) (bnd : ByteArray) (f : List Bool) (ns : List ByteArray), F8 12 14 ts d = true → BdS bnd ns → T8 ns ts → X2 bnd ts f = f
 | [], _, _, _, _, _, _, _ => by rw [X2]
 | t :: ts, d, bnd, f, ns, hs, hb, h => by
  rw [F8, Bool.and_eq_true] at hs
  rw [T8] at h
  rw [X2, B1d t d bnd f ns hs.1 hb h.1, B1e ts d bnd f ns hs.2 hb h.2]
end
theorem B6X : BdS ⟨⟨[]⟩⟩ [] := fun c => by simp
theorem B6Y (t : Tm) (d : Int) (G : IM) (cells : List Value) (hv : I9 12 14 t d = true) (hb : C9 t ≤ 1000) (hr : B5 G t cells) :
  Fn Tryz.prog 61 [.agg ⟨cells⟩] [] G (fun G' v outs => G' = G ∧ outs = [] ∧ ∃ s, v = .string s ∧ (s = ⟨⟨[]⟩⟩ ↔ T6 [] t)) := by
 have hRl := hr.len
 have hRo := hr.one
 have hF := fun b => B6S t d ⟨⟨[]⟩⟩ b (List.replicate 26 false) G cells hv (by simp) (by show 0 + _ ≤ _; omega) hr
 have hlf := A4q t ⟨⟨[]⟩⟩ (List.replicate 26 false)
 have hcl := B05 t d ⟨⟨[]⟩⟩ (List.replicate 26 false) [] hv (by simp) (fun c hc => by cases hc)
 have hce := B1d t d ⟨⟨[]⟩⟩ (List.replicate 26 false) [] hv B6X
 rw [List.length_replicate] at hlf
 generalize mFr ⟨⟨[]⟩⟩ t (List.replicate 26 false) = fs at hF hlf hcl hce
 have hall : T6 [] t → ∀ j, j < 26 → fs[j]? = some false := fun h j hj => by rw [hce h, List.getElem?_replicate, if_pos hj]
 have hfl := (B6Q fs).trans hlf
 have hfo := B6R fs
 simp only [List.replicate, List.map] at hF
 refine B6 Tryz.func61 rfl Tryz.ntmps61 Tryz.results61 rfl ?_
 intro w0
 refine tS (tR ?_)
 refine sE (E2 rfl rfl) rfl (fun b3 => ?_)
 refine sQ (qA rfl) rfl (sD (nS (tS (tR ?_))))
 refine sE (B0 rfl) rfl (fun b9 => ?_)
 refine sD (nS (tS (tR ?_)))
 refine sL (A6 rfl rfl (H0 (by repeat first | exact mH | apply mT)) hRl) rfl rfl ?_
 (refine C6 rfl (hF _) (Pk.perm (by repeat (first | exact Pk.here | apply Pk.there))) rfl rfl (fun v G1 outs hle1 hh => ?_); obtain ⟨hG, rfl, rfl⟩ := hh; replace hG := hG.symm; subst hG)
 refine H9 ?_
 refine sL (A6 rfl rfl (H0 (by repeat first | exact mH | apply mT)) hfl) rfl rfl ?_
 refine sQ (qM rfl) rfl (sD (nS ?_))
 refine B2 ?_
 (refine J8 (fun (x : Nat × ByteArray) => ⟨[(10, .int .i64 (x.1 : Int)), (9, .agg ⟨fs.map Value.bool⟩), (4, .string x.2)], [], G⟩) (fun x => x.1 ≤ 26 ∧ x.2.size ≤ x.1 ∧ (x.2 = ⟨⟨[]⟩⟩ ↔ ∀ j, j < x.1 → fs[j]? = some false)) (fun x => 26 - x.1) (0, ⟨⟨[]⟩⟩) ?_ ?_ ?_)
 (simp only [E7]; exact C2)
 (exact ⟨by omega, by show 0 ≤ 0; omega, ⟨fun _ j hj => absurd hj (Nat.not_lt_zero j), fun _ => rfl⟩⟩)
 (rintro ⟨i, o⟩ ⟨hi, hos, hof⟩; simp only [] at hi hos hof ⊢)
 refine tS (tR ?_)
 refine sB (I7 rfl rfl) rfl rfl (fun h37 => ?_) (fun h37 => ?_)
 refine sD (nS (tS (qT rfl (tK (nS (tS ?_))))))
 refine B2 ?_
 refine tS (tR (sQ (qM rfl) rfl ?_))
 (obtain ⟨bv, hbv⟩ : ∃ bv, fs[i]? = some bv := ⟨fs[i]'(by omega), List.getElem?_eq_getElem (by omega)⟩; refine sP (B6L rfl rfl rfl (by omega) (by rw [List.getElem?_map, hbv]; rfl)) rfl rfl ?_; cases bv)
 refine M5 ?_
 refine sP (H2 rfl rfl (by omega) (by omega)) rfl rfl ?_
 refine sQ (qM rfl) rfl (sD ?_)
 refine J4 (i + 1, o) ?_ ?_ ?_
 (simp only [E7]; exact C2)
 (dsimp only; exact ⟨by omega, by omega, by rw [hof]; exact ⟨fun ho j hj => (by by_cases he : j = i; (subst he; exact hbv); exact ho j (by omega)), fun ho j hj => ho j (by omega)⟩⟩)
 (show 26 - (i + 1) < 26 - i; omega)
 refine L7 ?_
 refine sP (H2 rfl rfl (by omega) (by omega)) rfl rfl ?_
 refine sP (B2q rfl rfl rfl (by omega) (by omega)) rfl rfl ?_
 (refine E9 (B4 rfl rfl rfl (by omega) (by unfold maxLen; omega) rfl) rfl ?_; rintro _ ⟨bq, rfl⟩)
 refine sL (B2r (xs := [97 + (i : Int)]) rfl rfl rfl rfl rfl (J9 (by repeat first | exact mH | apply mT))) rfl rfl ?_
 (have hs1 := B6T (97 + (i : Int)) (by omega); refine sP (A0R rfl rfl (by omega)) rfl rfl ?_)
 refine sQ (qA rfl) rfl (sD (M2 (nS (tR ?_))))
 refine sP (H2 rfl rfl (by omega) (by omega)) rfl rfl ?_
 refine sQ (qM rfl) rfl (sD ?_)
 (have hs2 := hs1; refine J4 (i + 1, o ++ strOfNums [97 + (i : Int)]) ?_ ?_ ?_)
 (simp only [E7]; exact C2)
 (dsimp only; exact ⟨by omega, by rw [ByteArray.size_append]; omega, ⟨fun ho => (by have := congrArg ByteArray.size ho; rw [ByteArray.size_append, hs1] at this; have h0 : (⟨⟨[]⟩⟩ : ByteArray).size = 0 := rfl; omega), fun ho => (by have := ho i (by omega); rw [hbv] at this; cases this)⟩⟩)
 (show 26 - (i + 1) < 26 - i; omega)
 refine N9 ?_
 refine E3 (outs := []) (rT rfl) A0.nil ?_
 (exact ⟨rfl, rfl, _, rfl, by rw [hof]; exact ⟨fun ho => hcl (fun j hj => ho j (by omega)), fun h j hj => hall h j (by omega)⟩⟩)
def Q7 (x : List Value) (n : Nat) (ops : K4) : Prop := n = ops.length ∧ x = (ops.map A3e).flatten ∧ ∀ y ∈ ops, C1 y.1 ∧ C1 y.2
theorem Q7.nil : Q7 [] 0 [] := ⟨rfl, rfl, by simp⟩
theorem Q7.o {x : List Value} {n : Nat} {a : K4} (h : Q7 x n a) : A3f x n := ⟨a, h⟩
theorem Q7.app {x y : List Value} {n m : Nat} {a b : K4} (h : Q7 x n a) (h' : Q7 y m b) : Q7 (x ++ y) (n + m) (a ++ b) := by
 obtain ⟨rfl, rfl, ha⟩ := h
 obtain ⟨rfl, rfl, hb⟩ := h'
 refine ⟨by simp, by simp, fun z hz => ?_⟩
 rcases List.mem_append.1 hz with hz | hz
 ·exact ha z hz
 ·exact hb z hz
theorem Q7.one {a b : Int} (ha : C1 a) (hb : C1 b) : Q7 [.int .i64 a, .int .i64 b] 1 [(a, b)] := ⟨rfl, rfl, by simp; exact ⟨ha, hb⟩⟩
theorem Q7.snoc {x : List Value} {n : Nat} {l : K4} {a b : Int} (h : Q7 x n l) (ha : C1 a) (hb : C1 b) : Q7 (x ++ [.int .i64 a, .int .i64 b]) (n + 1) (l ++ [(a, b)]) := h.app (.one ha hb)
theorem Q7.len {x : List Value} {n : Nat} {a : K4} (h : Q7 x n a) : x.length = n * 2 := h.o.len
theorem Q7.ones {x : List Value} {n : Nat} {a : K4} (h : Q7 x n a) : ∀ u ∈ x, u.oneCell' = true := h.o.ones
theorem Q7.to {x : List Value} {n : Nat} {a b : K4} (h : Q7 x n a) (hab : a = b) : Q7 x n b := by subst hab; exact h
theorem Q7.r {G : IM} {x : List Value} {p : Option Addr} {n c : Nat} {a : K4} (h : Q7 x n a) (hs : Sl G p n c 2 x) : U3 G a p n c := by
 obtain ⟨rfl, rfl, ha⟩ := h
 refine ⟨C0.of hs (by simp) ?_ ?_, rfl, ha⟩
 ·intro e he; obtain ⟨y, _, rfl⟩ := List.mem_map.1 he; rfl
 ·intro e he; obtain ⟨y, _, rfl⟩ := List.mem_map.1 he; rfl
def Z1 (ns : List ByteArray) : ByteArray := ⟨(ns.reverse.map N0).toArray⟩
theorem A7x {nm : ByteArray} {ns : List ByteArray} (h : nm = ⟨#[N0 nm]⟩) : Z1 ns ++ nm = Z1 (nm :: ns) := by
 rw [h]
 apply ByteArray.ext
 rw [ByteArray.data_append]
 simp [Z1, N0]
theorem A4r (ns : List ByteArray) : (Z1 ns).size = ns.length := by simp [Z1, ByteArray.size]
def A2T (ns : List ByteArray) : Prop := ∀ x ∈ ns, x = ⟨#[N0 x]⟩
theorem A7y {x : ByteArray} : ∀ {ns : List ByteArray} {j : Nat}, ns[j]? = some x → (∀ i, i < j → ns[i]? ≠ some x) → V4 x ns = j
 | [], j, h, _ => by simp at h
 | y :: ys, 0, h, _ => by
  have : y = x := by simpa using h
  rw [V4, if_pos this]
 | y :: ys, j + 1, h, h2 => by
  have : ¬y = x := fun he => h2 0 (by omega) (by simp [he])
  rw [V4, if_neg this, A7y (j := j) (by simpa using h) (fun i hi => by simpa using h2 (i + 1) (by omega))]
theorem B6Z (ns : List ByteArray) (nm : ByteArray) (G : IM) (hs : ns.length ≤ 1000) (ho : A2T ns) (hnm : nm = ⟨#[N0 nm]⟩) (hm : nm ∈ ns) :
  Fn Tryz.prog 126 [.string (Z1 ns), .string nm] [] G (J1 (.int .i64 ((V4 nm ns : Nat) : Int)) G) := by
 obtain ⟨s, hsS⟩ : ∃ s, Z1 ns = s := ⟨_, rfl⟩
 have hsz : s.size = ns.length := by rw [← hsS]; exact A4r ns
 have hat : ∀ i, i < ns.length → (s.extract i (i + 1) = nm ↔ ns[ns.length - 1 - i]? = some nm) := fun i hi => by
  have h1 : i < s.size := by omega
  have h2 : ns.length - 1 - i < ns.length := by omega
  conv => lhs; rw [hnm]
  rw [A5F h1, ← hsS]
  show (ns.reverse.map N0)[i]? = some (N0 nm) ↔ _
  rw [List.getElem?_map, List.getElem?_reverse hi, List.getElem?_eq_getElem h2, Option.map_some, Option.some_inj, Option.some_inj]
  constructor
  ·intro he; rw [ho _ (List.getElem_mem h2), he, ← hnm]
  ·intro he; rw [he]
 rw [hsS]
 refine B6 Tryz.func126 rfl Tryz.ntmps126 Tryz.results126 rfl ?_
 intro w0
 refine E8 ?_
 refine sQ (A0w rfl rfl) rfl ?_
 refine sP (N1 rfl rfl (by omega) (by omega)) rfl rfl ?_
 refine sQ (qA rfl) rfl (sD (nS ?_))
 refine B2 ?_
 (refine J8 (fun (i : Nat) => ⟨[(5, .int .i64 ((i : Int) - 1)), (0, .string s), (1, .string nm)], [], G⟩) (fun i => i ≤ s.size ∧ ∀ j, j < ns.length - i → ns[j]? ≠ some nm) (fun i => i) s.size ?_ ?_ ?_)
 exact C2
 exact ⟨Nat.le_refl _, fun j hj => by omega⟩
 (rintro i ⟨hi, hj⟩)
 refine tS (tS (tR (sQ (qM rfl) rfl ?_)))
 refine sB (Y2 rfl rfl) rfl rfl (fun h24 => ?_) (fun h24 => ?_)
 refine sD (nS (qT rfl (tK (nS (tS ?_)))))
 refine B2 ?_
 refine tS ?_
 (have hi1 : 1 ≤ i := (by omega); have hia := hat (i - 1) (by omega); rw [show ((i : Int) - 1) = ((i - 1 : Nat) : Int) from (by omega)])
 refine tR (sQ (qM rfl) rfl (sQ (qM rfl) rfl (sQ (qM rfl) rfl ?_)))
 refine sP (A0j (n := 1) rfl rfl (by omega)) rfl rfl ?_
 refine sP (A2c (h := i - 1 + 1) rfl rfl rfl rfl (by omega) (by omega)) rfl rfl ?_
 refine sQ (qM rfl) rfl ?_
 refine sB (A2u rfl rfl) rfl rfl (fun hse => ?_) (fun hse => ?_)
 refine sD (nS (qT rfl (tS (tR (sQ (qM rfl) rfl ?_)))))
 refine sQ (A0w rfl rfl) rfl ?_
 refine sP (N1 rfl rfl (by omega) (by omega)) rfl rfl ?_
 refine sQ (qM rfl) rfl ?_
 refine sP (N1 rfl rfl (by omega) (by omega)) rfl rfl ?_
 refine H9 ?_
 (refine ⟨rfl, congrArg (Value.int .i64) ?_, rfl⟩; rw [A7y (hia.1 hse) (fun j hjj => hj j (by omega)), hsz]; omega)
 refine E1 ?_
 refine sP (N1 rfl rfl (by omega) (by omega)) rfl rfl ?_
 refine sQ (qA rfl) rfl (sD ?_)
 refine J4 (i - 1) ?_ ?_ ?_
 exact C2
 (exact ⟨by omega, fun j hji => (by by_cases he : j = ns.length - i; (subst he; intro hc; exact hse (hia.2 (by rw [show ns.length - 1 - (i - 1) = ns.length - i by omega]; exact hc))); exact hj j (by omega))⟩)
 (show i - 1 < i; omega)
 refine J5 ?_
 (exfalso; obtain ⟨j, hj1, hj2⟩ := List.getElem_of_mem hm; exact hj j (by omega) (by rw [List.getElem?_eq_getElem hj1, hj2]))
def Y1 (G : IM) (B : Nat) (ops : K4) : IM → Value → List A1 → Prop := fun G' v outs => G' = G ∧ ∃ p n c x, v = .slice p n c ∧ outs = [.slc p c 72 2 n x] ∧ Q7 x n ops ∧ 1 ≤ n ∧ n ≤ B
theorem Y1.mk {G : IM} {B n c : Nat} {p : Option Addr} {x : List Value} {ops ops' : K4} (h : Q7 x n ops') (h0 : ops' = ops) (h1 : 1 ≤ n) (h2 : n ≤ B) : Y1 G B ops G (.slice p n c) [.slc p c 72 2 n x] := by
 subst h0; exact ⟨rfl, p, n, c, x, rfl, rfl, h, h1, h2⟩
mutual
def A2U : Tm → Prop
 | .mk k nm _ _ _ _ ks => (k = 1 ∨ k = 5 → nm = ⟨#[N0 nm]⟩) ∧ A12 ks
def A12 : List Tm → Prop
 | [] => True
 | t :: ts => A2U t ∧ A12 ts
end
theorem B1f : ∀ {ts : List Tm}, A12 ts → ∀ t ∈ ts, A2U t
 | [], _, t, h => by cases h
 | t' :: ts, h, t, ht => by
  rw [A12] at h
  rcases List.mem_cons.1 ht with rfl | ht
  ·exact h.1
  ·exact B1f h.2 t ht
theorem A5G (x : ByteArray) : ∀ ns : List ByteArray, V4 x ns ≤ ns.length
 | [] => Nat.le_refl _
 | y :: ys => by
  rw [V4]; split
  ·exact Nat.zero_le _
  ·have := A5G x ys; simp only [List.length_cons]; omega
mutual
theorem B1g (D N : Int) : ∀ (t : Tm) (d : Int), I9 D N t d = true → A2U (D0 t)
 | .mk k nm num ty fr lb ks, d, h => by
  obtain ⟨_, _, h3, h4⟩ := R8 h
  have hL := B1h D N ks _ h4
  have hn := (R7.1 h3).2.1
  rw [D0]
  split
  ·cases ks with
   | nil => rw [C4]; simp [I2, A2U, A12]
   | cons t ts =>
    rw [C4, A12] at hL
    rw [C4]; exact hL.1
  ·rw [A2U]; exact ⟨fun hk => (A1A (hn hk)).1, hL⟩
theorem B1h (D N : Int) : ∀ (ts : List Tm) (d : Int), F8 D N ts d = true → A12 (C4 ts)
 | [], _, _ => by rw [C4, A12]; trivial
 | t :: ts, d, h => by
  rw [F8, Bool.and_eq_true] at h
  rw [C4, A12]
  exact ⟨B1g D N t d h.1, B1h D N ts d h.2⟩
end
mutual
theorem A7z : ∀ (t : Tm) (d : Int) (ns : List ByteArray), I9 12 14 t d = true → T6 ns t → T6 ns (D0 t)
 | .mk k nm num ty fr lb ks, d, ns, h, hc => by
  obtain ⟨_, h14, h3, h4⟩ := R8 h
  rw [T6] at hc
  have hL := B1i ks _ _ h4 hc.2
  rw [D0]
  split
  ·rename_i hk
   rw [if_neg (by omega)] at hL
   cases ks with
   | nil => rw [C4]; simp [I2, T6, T8]
   | cons t ts =>
    rw [C4, T8] at hL
    rw [C4]; exact hL.1
  ·rw [T6]; exact ⟨hc.1, hL⟩
theorem B1i : ∀ (ts : List Tm) (d : Int) (ns : List ByteArray), F8 12 14 ts d = true → T8 ns ts → T8 ns (C4 ts)
 | [], _, _, _, _ => by rw [C4, T8]; trivial
 | t :: ts, d, ns, h, hc => by
  rw [F8, Bool.and_eq_true] at h
  rw [T8] at hc
  rw [C4, T8]
  exact ⟨A7z t d ns h.1 hc.1, B1i ts d ns h.2 hc.2⟩
end
theorem B60 : ∀ (t : Tm) (ns : List ByteArray) (G : IM) (cells : List Value), cOk t → A2U t → A2T ns → T6 ns t → ns.length + C9 t ≤ 1000 → B5 G t cells →
  Fn Tryz.prog 65 [.agg ⟨cells⟩, .string (Z1 ns)] [] G (Y1 G (2 * C9 t) (J7 ns t)) := by
 refine Tm.ind fun k nm num ty fr lb ks ih ns G cells hc hnk ho hcl0 hb hr => ?_
 simp only [cOk] at hc
 obtain ⟨hnm, hk5, hk9, hcL⟩ := hc
 have hcl := A9e hcL
 rw [A2U] at hnk
 obtain ⟨hn1, hnL⟩ := hnk
 have hnm2 := B1f hnL
 rw [T6] at hcl0
 obtain ⟨hv1, hv2⟩ := hcl0
 have hv2' := fun t ht => A5y hv2 t ht
 obtain ⟨bd, hbd⟩ : ∃ bd, Z1 ns = bd := ⟨_, rfl⟩
 have hbs : bd.size = ns.length := by rw [← hbd]; exact A4r ns
 rw [J7, A1z, hbd]
 simp only [C9] at hb ⊢
 obtain ⟨tk, tks⟩ := ty
 obtain ⟨fk, fks⟩ := fr
 obtain ⟨pt, ct, pf, cf, p, c, es, rfl, hk, hnum, hlb, hty, hfr, hsl, hkl⟩ := hr.open9
 have hn := hsl.le
 refine B6 Tryz.func65 rfl Tryz.ntmps65 Tryz.results65 rfl ?_
 intro w0
 refine tS (tR ?_)
 refine sE (E2 rfl rfl) rfl (fun b3 => ?_)
 refine H9 ?_
 refine B2 (tS (tR (sB (qE rfl rfl) rfl rfl (fun h17 => ?_) (fun h17 => ?_))))
 refine E8 ?_
 (have hk1 : k = 1 := (by omega); have hI := B6Z ns nm G (by omega) ho (hn1 (.inl hk1)) (hv1 hk1); rw [hbd] at hI; have hix : C1 ((V4 nm ns : Nat) : Int) := (by have := A5G nm ns; unfold C1; omega); refine H6 rfl hI rfl rfl ?_)
 refine sQ (R6 rfl rfl) rfl ?_
 (refine E9 (B4 rfl rfl rfl (by omega) (by unfold maxLen; omega) rfl) rfl ?_; rintro _ ⟨b29, rfl⟩)
 refine sQ (qA rfl) rfl (sD (nS (tT (rB (rS ?_)))))
 refine T3 (rT rfl) (by repeat (first | exact Pk.here | apply Pk.there)) ?_
 (obtain rfl : k = 1 := (by omega); exact Y1.mk (.one ⟨by decide, by decide⟩ hix) (by simp [P8]) (by omega) (by omega))
 refine sQ (qA rfl) rfl (sD (nS (cF rfl (tS (tR ?_)))))
 refine sB (qE rfl rfl) rfl rfl (fun h44 => ?_) (fun h44 => ?_)
 refine E8 ?_
 (refine E9 (B4 rfl rfl rfl (by omega) (by unfold maxLen; omega) rfl) rfl ?_; rintro _ ⟨b54, rfl⟩)
 refine sQ (qA rfl) rfl (sD (nS (tT (rB (rS ?_)))))
 refine T3 (rT rfl) (by repeat (first | exact Pk.here | apply Pk.there)) ?_
 (obtain rfl : k = 2 := (by omega); exact Y1.mk (.one ⟨by decide, by decide⟩ hnum) (by simp [P8]) (by omega) (by omega))
 refine sQ (qA rfl) rfl (sD (nS (cF rfl (tS (tR ?_)))))
 refine sB (qE rfl rfl) rfl rfl (fun h69 => ?_) (fun h69 => ?_)
 refine C5 ?_
 (refine E9 (B4 rfl rfl rfl (by omega) (by unfold maxLen; omega) rfl) rfl ?_; rintro _ ⟨b77, rfl⟩)
 refine sQ (qA rfl) rfl (sD (nS (tT (rB (rS ?_)))))
 refine T3 (rT rfl) (by repeat (first | exact Pk.here | apply Pk.there)) ?_
 (obtain rfl : k = 3 := (by omega); exact Y1.mk (.one ⟨by decide, by decide⟩ ⟨by decide, by decide⟩) (by simp [P8]) (by omega) (by omega))
 refine sQ (qA rfl) rfl (sD (nS (cF rfl (tS (tR ?_)))))
 refine sB (qE rfl rfl) rfl rfl (fun h92 => ?_) (fun h92 => ?_)
 refine C5 ?_
 (refine E9 (B4 rfl rfl rfl (by omega) (by unfold maxLen; omega) rfl) rfl ?_; rintro _ ⟨b100, rfl⟩)
 refine sQ (qA rfl) rfl (sD (nS (tT (rB (rS ?_)))))
 refine T3 (rT rfl) (by repeat (first | exact Pk.here | apply Pk.there)) ?_
 (obtain rfl : k = 4 := (by omega); exact Y1.mk (.one ⟨by decide, by decide⟩ ⟨by decide, by decide⟩) (by simp [P8]) (by omega) (by omega))
 refine sQ (qA rfl) rfl (sD (nS (cF rfl (tS (tR ?_)))))
 refine sB (qE rfl rfl) rfl rfl (fun h115 => ?_) (fun h115 => ?_)
 refine sQ (qA rfl) rfl (sD (nS (qT rfl (tS ?_))))
 (have hq : k = 5 := (by omega); have hq1 := hk5 hq; have hcn := B4a hq1; obtain ⟨bx, ox, e, rfl, hl, hat, hre, hgb⟩ := hsl.kidTm hkl (i := 0) (by omega) (by omega); refine D7 D8 rfl ?_)
 refine H4 (i := 0) (l' := [tt,ff,ff,ff,ff,ff,ff,ff,ff,ff,ff,ff,ff]) rfl D3 (B1 rfl) rfl (by kernel_rfl) rfl rfl ?_
 refine aL 1 rfl (D4 rfl rfl) rfl ?_
 refine aP 2 rfl (B3 (j := 0) rfl rfl rfl (by omega)) rfl ?_
 refine aL 3 rfl (A6 rfl rfl (hat _) hl) rfl ?_
 refine aP 4 rfl (qM rfl) rfl ?_
 refine aP 5 rfl (B1 rfl) rfl ?_
 refine aL 6 rfl (D4 rfl rfl) rfl ?_
 refine aP 7 rfl (A0R rfl rfl (by omega)) rfl ?_
 refine aP 9 rfl (R6 rfl rfl) rfl ?_
 refine U7 (j := 8) (j' := 10) (by kernel_rfl) ?_ ?_
 (have hK5 := ih ks[0] (List.getElem_mem (by omega)) (nm :: ns) G _ (hcl _ (List.getElem_mem (by omega))) (hnm2 _ (List.getElem_mem (by omega))) (by intro y hy; rcases List.mem_cons.1 hy with rfl | hy; exact hn1 (.inr hq); exact ho y hy) (by have := hv2' ks[0] (List.getElem_mem (by omega)); rwa [if_pos hq] at this) (by simp only [List.length_cons]; omega) hre; rw [← A7x (hn1 (.inr hq)), hbd] at hK5; refine A3Z (l' := [tt,tt,tt,tt,tt,tt,tt,tt,tt,tt,ff,ff,ff]) rfl rfl hK5 (List.Perm.refl _) rfl rfl rfl (by kernel_rfl) (fun v G3 outs hle3 hh => ?_); obtain ⟨hG, p3, n3, c3, x3, rfl, rfl, ho3, h31, h32⟩ := hh; replace hG := hG.symm; subst hG; refine A3G (fun a w hs => (hs.slc_form (p := p3) (c := c3) (el := 72) (sz := 2) (n := n3) (cs := x3) (by repeat first | exact mH | apply mT)).2.2 (by omega)) (fun hq => ?_); obtain ⟨g3, rfl⟩ := hq)
 refine A2 10 ?_
 (refine D6 rfl (B4 rfl rfl rfl (by omega) (by unfold maxLen; omega) rfl) rfl rfl ?_; rintro _ ⟨b134, rfl⟩)
 refine A2 11 ?_
 (refine Q9 rfl rfl rfl rfl rfl rfl (fun _ _ => by repeat (first | exact Sw.here | apply Sw.there)) (J9 (by repeat first | exact mH | apply mT)) rfl (by simp [Value.oneCell']) (by unfold maxLen; omega) (by omega) rfl rfl (by repeat (first | exact A4.nil | apply A4.dep (by decide +kernel) | apply A4.im (by decide +kernel) (by assumption) (by repeat first | exact mH | apply mT) | apply A4.blk (by decide +kernel) (by repeat (first | exact Pk.here | apply Pk.there)) (by repeat first | exact mH | apply mT))) (fun p7 c7 => ?_); refine A3G (fun a w hs => (hs.slc_form (p := p7) (c := c7) (el := 72) (sz := 2) (n := n3 + 1) (by repeat first | exact mH | apply mT)).2.2 (by omega)) (fun hq => ?_); obtain ⟨g7, rfl⟩ := hq; have ho7 := ho3.snoc (a := 5) (b := 0) ⟨by decide, by decide⟩ ⟨by decide, by decide⟩)
 refine aP 12 rfl (qA rfl) rfl ?_
 refine C5 ?_
 (refine E9 (B4 rfl rfl rfl (by omega) (by unfold maxLen; omega) rfl) rfl ?_; rintro _ ⟨b145, rfl⟩)
 refine sQ (qM rfl) rfl ?_
 (refine U9 rfl rfl rfl rfl rfl (fun _ _ => by repeat (first | exact Sw.here | apply Sw.there)) (J9 (by repeat first | exact mH | apply mT)) ho7.len ho7.ones (by unfold maxLen; omega) (by omega) rfl (fun pn cn => ?_))
 refine sQ (qA rfl) rfl (sD (nS (tT (rB (rS ?_)))))
 refine T3 (rT rfl) (by repeat (first | exact Pk.here | apply Pk.there)) ?_
 (exact Y1.mk ((Q7.one ⟨by decide, by decide⟩ (A5a (by omega))).app ho7) (by rw [P8, if_neg (by omega), if_neg (by omega), if_neg (by omega), if_neg (by omega), if_pos hq, if_pos hq, List.getD_eq_getElem?_getD, List.getElem?_map, List.getElem?_eq_getElem (by omega)]; simp [ho3.1]) (by omega) (by omega))
 (refine D6 rfl (B4 rfl rfl rfl (by omega) (by unfold maxLen; omega) rfl) rfl rfl ?_; rintro _ ⟨b156, rfl⟩)
 refine A2 8 ?_
 (have hK5 := ih ks[0] (List.getElem_mem (by omega)) (nm :: ns) G _ (hcl _ (List.getElem_mem (by omega))) (hnm2 _ (List.getElem_mem (by omega))) (by intro y hy; rcases List.mem_cons.1 hy with rfl | hy; exact hn1 (.inr hq); exact ho y hy) (by have := hv2' ks[0] (List.getElem_mem (by omega)); rwa [if_pos hq] at this) (by simp only [List.length_cons]; omega) hre; rw [← A7x (hn1 (.inr hq)), hbd] at hK5; refine A3Z (l' := [tt,tt,tt,tt,tt,tt,tt,tt,tt,tt,tt,ff,ff]) rfl rfl hK5 (List.Perm.refl _) rfl rfl rfl (by kernel_rfl) (fun v G3 outs hle3 hh => ?_); obtain ⟨hG, p3, n3, c3, x3, rfl, rfl, ho3, h31, h32⟩ := hh; replace hG := hG.symm; subst hG; refine A3G (fun a w hs => (hs.slc_form (p := p3) (c := c3) (el := 72) (sz := 2) (n := n3) (cs := x3) (by repeat first | exact mH | apply mT)).2.2 (by omega)) (fun hq => ?_); obtain ⟨g3, rfl⟩ := hq)
 refine A2 11 ?_
 (refine Q9 rfl rfl rfl rfl rfl rfl (fun _ _ => by repeat (first | exact Sw.here | apply Sw.there)) (J9 (by repeat first | exact mH | apply mT)) rfl (by simp [Value.oneCell']) (by unfold maxLen; omega) (by omega) rfl rfl (by repeat (first | exact A4.nil | apply A4.dep (by decide +kernel) | apply A4.im (by decide +kernel) (by assumption) (by repeat first | exact mH | apply mT) | apply A4.blk (by decide +kernel) (by repeat (first | exact Pk.here | apply Pk.there)) (by repeat first | exact mH | apply mT))) (fun p7 c7 => ?_); refine A3G (fun a w hs => (hs.slc_form (p := p7) (c := c7) (el := 72) (sz := 2) (n := n3 + 1) (by repeat first | exact mH | apply mT)).2.2 (by omega)) (fun hq => ?_); obtain ⟨g7, rfl⟩ := hq; have ho7 := ho3.snoc (a := 5) (b := 0) ⟨by decide, by decide⟩ ⟨by decide, by decide⟩)
 refine aP 12 rfl (qA rfl) rfl ?_
 refine C5 ?_
 (refine E9 (B4 rfl rfl rfl (by omega) (by unfold maxLen; omega) rfl) rfl ?_; rintro _ ⟨b169, rfl⟩)
 refine sQ (qM rfl) rfl ?_
 (refine U9 rfl rfl rfl rfl rfl (fun _ _ => by repeat (first | exact Sw.here | apply Sw.there)) (J9 (by repeat first | exact mH | apply mT)) ho7.len ho7.ones (by unfold maxLen; omega) (by omega) rfl (fun pn cn => ?_))
 refine sQ (qA rfl) rfl (sD (nS (tT (rB (rS ?_)))))
 refine T3 (rT rfl) (by repeat (first | exact Pk.here | apply Pk.there)) ?_
 (exact Y1.mk ((Q7.one ⟨by decide, by decide⟩ (A5a (by omega))).app ho7) (by rw [P8, if_neg (by omega), if_neg (by omega), if_neg (by omega), if_neg (by omega), if_pos hq, if_pos hq, List.getD_eq_getElem?_getD, List.getElem?_map, List.getElem?_eq_getElem (by omega)]; simp [ho3.1]) (by omega) (by omega))
 refine sQ (qA rfl) rfl (sD (nS (cF rfl (tS (tR ?_)))))
 refine sB (qE rfl rfl) rfl rfl (fun h186 => ?_) (fun h186 => ?_)
 refine sQ (qA rfl) rfl (sD (nS (qT rfl (tS ?_))))
 (have hq : k = 9 := (by omega); have hq1 := hk9 hq; have hcn := B39 hq1; obtain ⟨bx, ox, e0, rfl, hl0, hat0, hre0, hgb0⟩ := hsl.kidTm hkl (i := 0) (by omega) (by omega); obtain ⟨_, _, e1, hp1, hl1, hat1, hre1, hgb1⟩ := hsl.kidTm hkl (i := 1) (by omega) (by omega); cases hp1; obtain ⟨_, _, e2, hp2, hl2, hat2, hre2, hgb2⟩ := hsl.kidTm hkl (i := 2) (by omega) (by omega); cases hp2)
 refine tR (sQ (B1 rfl) rfl (sL (D4 rfl rfl) rfl rfl ?_))
 refine sP (B3 (j := 1) rfl rfl rfl (by omega)) rfl rfl ?_
 refine sL (A6 rfl rfl (hat1 _) hl1) rfl rfl ?_
 refine sQ (qM rfl) rfl ?_
 (have hKi := ih ks[1] (List.getElem_mem (by omega)) ns G _ (hcl _ (List.getElem_mem (by omega))) (hnm2 _ (List.getElem_mem (by omega))) ho (by have := hv2' ks[1] (List.getElem_mem (by omega)); rwa [if_neg (show ¬k = 5 by omega)] at this) (by omega) hre1; rw [hbd] at hKi; refine C6 rfl hKi (List.Perm.refl _) rfl rfl (fun v G3 outs hle3 hh => ?_); obtain ⟨hG, p4, n4, c4, x4, rfl, rfl, ho4, h41, h42⟩ := hh; replace hG := hG.symm; subst hG; refine A1j (fun a w hs => (hs.slc_form (p := p4) (c := c4) (el := 72) (sz := 2) (n := n4) (cs := x4) (by repeat first | exact mH | apply mT)).2.2 (by omega)) (fun hq => ?_); obtain ⟨g4, rfl⟩ := hq)
 refine C5 ?_
 refine sP (B3 (j := 2) rfl rfl rfl (by omega)) rfl rfl ?_
 refine sL (A6 rfl rfl (hat2 _) hl2) rfl rfl ?_
 refine sQ (qM rfl) rfl ?_
 (have hKi := ih ks[2] (List.getElem_mem (by omega)) ns G _ (hcl _ (List.getElem_mem (by omega))) (hnm2 _ (List.getElem_mem (by omega))) ho (by have := hv2' ks[2] (List.getElem_mem (by omega)); rwa [if_neg (show ¬k = 5 by omega)] at this) (by omega) hre2; rw [hbd] at hKi; refine C6 rfl hKi (List.Perm.refl _) rfl rfl (fun v G3 outs hle3 hh => ?_); obtain ⟨hG, p5, n5, c5, x5, rfl, rfl, ho5, h51, h52⟩ := hh; replace hG := hG.symm; subst hG; refine A1j (fun a w hs => (hs.slc_form (p := p5) (c := c5) (el := 72) (sz := 2) (n := n5) (cs := x5) (by repeat first | exact mH | apply mT)).2.2 (by omega)) (fun hq => ?_); obtain ⟨g5, rfl⟩ := hq)
 refine C5 ?_
 refine sP (B3 (j := 0) rfl rfl rfl (by omega)) rfl rfl ?_
 refine sL (A6 rfl rfl (hat0 _) hl0) rfl rfl ?_
 refine sQ (qM rfl) rfl ?_
 (have hKi := ih ks[0] (List.getElem_mem (by omega)) ns G _ (hcl _ (List.getElem_mem (by omega))) (hnm2 _ (List.getElem_mem (by omega))) ho (by have := hv2' ks[0] (List.getElem_mem (by omega)); rwa [if_neg (show ¬k = 5 by omega)] at this) (by omega) hre0; rw [hbd] at hKi; refine C6 rfl hKi (List.Perm.refl _) rfl rfl (fun v G3 outs hle3 hh => ?_); obtain ⟨hG, p3, n3, c3, x3, rfl, rfl, ho3, h31, h32⟩ := hh; replace hG := hG.symm; subst hG; refine A1j (fun a w hs => (hs.slc_form (p := p3) (c := c3) (el := 72) (sz := 2) (n := n3) (cs := x3) (by repeat first | exact mH | apply mT)).2.2 (by omega)) (fun hq => ?_); obtain ⟨g3, rfl⟩ := hq)
 refine sQ (qM rfl) rfl (sQ (W0 rfl rfl) rfl ?_)
 refine sP (H2 rfl rfl (by omega) (by omega)) rfl rfl ?_
 refine sQ (R6 rfl rfl) rfl ?_
 (refine E9 (B4 rfl rfl rfl (by omega) (by unfold maxLen; omega) rfl) rfl ?_; rintro _ ⟨b226, rfl⟩)
 (refine U9 rfl rfl rfl rfl rfl (fun _ _ => by repeat (first | exact Sw.here | apply Sw.there)) (J9 (by repeat first | exact mH | apply mT)) rfl (by simp [Value.oneCell']) (by unfold maxLen; omega) (by omega) rfl (fun pn cn => ?_))
 refine C5 ?_
 (refine U9 rfl rfl rfl rfl rfl (fun _ _ => by repeat (first | exact Sw.here | apply Sw.there)) (J9 (by repeat first | exact mH | apply mT)) ho4.len ho4.ones (by unfold maxLen; omega) (by omega) rfl (fun pn cn => ?_))
 refine M3 ?_
 (refine E9 (B4 rfl rfl rfl (by omega) (by unfold maxLen; omega) rfl) rfl ?_; rintro _ ⟨b239, rfl⟩)
 (refine U9 rfl rfl rfl rfl rfl (fun _ _ => by repeat (first | exact Sw.here | apply Sw.there)) (J9 (by repeat first | exact mH | apply mT)) rfl (by simp [Value.oneCell']) (by unfold maxLen; omega) (by omega) rfl (fun pn cn => ?_))
 refine C5 ?_
 (refine U9 rfl rfl rfl rfl rfl (fun _ _ => by repeat (first | exact Sw.here | apply Sw.there)) (J9 (by repeat first | exact mH | apply mT)) ho5.len ho5.ones (by unfold maxLen; omega) (by omega) rfl (fun pn cn => ?_))
 refine sQ (qA rfl) rfl (sD (nS (tT (rB (rS ?_)))))
 refine T3 (rT rfl) (by repeat (first | exact Pk.here | apply Pk.there)) ?_
 (exact Y1.mk ((((ho3.snoc ⟨by decide, by decide⟩ (A5a (n := n4 + 1) (by omega))).app ho4).snoc ⟨by decide, by decide⟩ (A5a (n := n5) (by omega))).app ho5) (by rw [P8, if_neg (by omega), if_neg (by omega), if_neg (by omega), if_neg (by omega), if_neg (by omega), if_pos hq, if_neg (by omega)]; simp only [List.getD_eq_getElem?_getD, List.getElem?_map]; rw [List.getElem?_eq_getElem (by omega), List.getElem?_eq_getElem (by omega), List.getElem?_eq_getElem (by omega)]; simp [ho4.1, ho5.1]) (by omega) (by omega))
 refine E8 ?_
 (refine E9 (B4 rfl rfl rfl (by omega) (by unfold maxLen; omega) rfl) rfl ?_; rintro _ ⟨b266, rfl⟩)
 refine E8 ?_
 refine B2 ?_
 (refine J8 (fun (x : Nat × Option Addr × Nat × Nat × List Value) => ⟨[(10, .int .i64 (x.1 : Int)), (9, .slice x.2.1 x.2.2.1 x.2.2.2.1), (2, .pointer (some ⟨b3, 0, none⟩)), (1, .string bd)], [.slc x.2.1 x.2.2.2.1 72 2 x.2.2.1 x.2.2.2.2, .blk b3 [.int .i64 k, .string nm, .int .i64 num, .int .i64 tk, .slice pt tks.length ct, .int .i64 fk, .slice pf fks.length cf, .int .i64 lb, .slice p ks.length c]], G⟩) (fun x => x.1 ≤ ks.length ∧ Q7 x.2.2.2.2 x.2.2.1 ((ks.take x.1).map (J7 ns)).flatten ∧ x.2.2.1 ≤ 2 * D2 (ks.take x.1)) (fun x => ks.length - x.1) (0, some ⟨b266, 0, none⟩, 0, 0, []) ?_ ?_ ?_)
 (simp only [E7]; exact C2)
 (exact ⟨Nat.zero_le _, (by simpa using Q7.nil), Nat.zero_le _⟩)
 (rintro ⟨i, pO, nO, cO, xO⟩ ⟨hi, hoO, hnO⟩; simp only [] at hi hoO hnO ⊢; have hct := A0C ks (i + 1); have hct0 := A0C ks i)
 refine C5 ?_
 refine sB (I7 rfl rfl) rfl rfl (fun h288 => ?_) (fun h288 => ?_)
 refine sD (nS (qT rfl (tK (nS (tS ?_)))))
 refine B2 ?_
 (have hil : i < ks.length := (by omega); obtain ⟨bx, ox, e, rfl, hl, hat, hre, hgb⟩ := hsl.kidTm hkl (i := i) (by omega) (by omega); rw [A0B (by omega)] at hct)
 refine W1 ?_
 refine sP (B3 (j := i) rfl rfl rfl (by omega)) rfl rfl ?_
 refine sL (A6 rfl rfl (hat _) hl) rfl rfl ?_
 refine sQ (qM rfl) rfl ?_
 (have hKi := ih ks[i] (List.getElem_mem (by omega)) ns G _ (hcl _ (List.getElem_mem (by omega))) (hnm2 _ (List.getElem_mem (by omega))) ho (by have := hv2' ks[i] (List.getElem_mem (by omega)); rwa [if_neg (show ¬k = 5 by omega)] at this) (by omega) hre; rw [hbd] at hKi; refine C6 rfl hKi (List.Perm.refl _) rfl rfl (fun v G3 outs hle3 hh => ?_); obtain ⟨hG, p6, n6, c6, x6, rfl, rfl, ho6, h61, h62⟩ := hh; replace hG := hG.symm; subst hG; refine A1j (fun a w hs => (hs.slc_form (p := p6) (c := c6) (el := 72) (sz := 2) (n := n6) (cs := x6) (by repeat first | exact mH | apply mT)).2.2 (by omega)) (fun hq => ?_); obtain ⟨g6, rfl⟩ := hq)
 (refine U9 rfl rfl rfl rfl rfl (fun _ _ => by repeat (first | exact Sw.here | apply Sw.there)) (J9 (by repeat first | exact mH | apply mT)) ho6.len ho6.ones (by unfold maxLen; omega) (by omega) rfl (fun pn cn => ?_))
 refine N6 ?_
 refine sP (H2 rfl rfl (by omega) (by omega)) rfl rfl ?_
 refine sQ (qA rfl) rfl (sD ?_)
 refine J4 (i + 1, pn, nO + n6, cn, xO ++ x6) ?_ ?_ ?_
 (simp only [E7]; exact C2)
 (dsimp only; exact ⟨by omega, (hoO.app ho6).to (by rw [List.take_succ_eq_append_getElem (by omega), List.map_append, List.flatten_append]; simp), by rw [A0B (by omega)]; omega⟩)
 (show ks.length - (i + 1) < ks.length - i; omega)
 refine J5 ?_
 refine B2 (tS (tR (sB (qE rfl rfl) rfl rfl (fun h338 => ?_) (fun h338 => ?_))))
 refine E1 ?_
 (refine E9 (B4 rfl rfl rfl (by omega) (by unfold maxLen; omega) rfl) rfl ?_; rintro _ ⟨b347, rfl⟩)
 (refine U9 rfl rfl rfl rfl rfl (fun _ _ => by repeat (first | exact Sw.here | apply Sw.there)) (J9 (by repeat first | exact mH | apply mT)) rfl (by simp [Value.oneCell']) (by unfold maxLen; omega) (by omega) rfl (fun pn cn => ?_))
 refine sQ (qA rfl) rfl (sD (nS (tT (rB (rS ?_)))))
 refine T3 (rT rfl) (by repeat (first | exact Pk.here | apply Pk.there)) ?_
 (exact Y1.mk (hoO.snoc ⟨by decide, by decide⟩ ⟨by decide, by decide⟩) (by rw [List.take_of_length_le (by omega), P8, if_neg (by omega), if_neg (by omega), if_neg (by omega), if_neg (by omega), if_neg (by omega), if_neg (by omega), if_neg (by omega)]; unfold A0d; (repeat' split) <;> first | rfl | (exfalso; omega)) (by omega) (by omega))
 refine sQ (qA rfl) rfl (sD (nS (cF rfl (tS (tR ?_)))))
 refine sB (qE rfl rfl) rfl rfl (fun h363 => ?_) (fun h363 => ?_)
 refine E1 ?_
 (refine E9 (B4 rfl rfl rfl (by omega) (by unfold maxLen; omega) rfl) rfl ?_; rintro _ ⟨b372, rfl⟩)
 (refine U9 rfl rfl rfl rfl rfl (fun _ _ => by repeat (first | exact Sw.here | apply Sw.there)) (J9 (by repeat first | exact mH | apply mT)) rfl (by simp [Value.oneCell']) (by unfold maxLen; omega) (by omega) rfl (fun pn cn => ?_))
 refine sQ (qA rfl) rfl (sD (nS (tT (rB (rS ?_)))))
 refine T3 (rT rfl) (by repeat (first | exact Pk.here | apply Pk.there)) ?_
 (exact Y1.mk (hoO.snoc ⟨by decide, by decide⟩ ⟨by decide, by decide⟩) (by rw [List.take_of_length_le (by omega), P8, if_neg (by omega), if_neg (by omega), if_neg (by omega), if_neg (by omega), if_neg (by omega), if_neg (by omega), if_neg (by omega)]; unfold A0d; (repeat' split) <;> first | rfl | (exfalso; omega)) (by omega) (by omega))
 refine sQ (qA rfl) rfl (sD (nS (cF rfl (tS (tR ?_)))))
 refine sB (qE rfl rfl) rfl rfl (fun h388 => ?_) (fun h388 => ?_)
 refine E1 ?_
 (refine E9 (B4 rfl rfl rfl (by omega) (by unfold maxLen; omega) rfl) rfl ?_; rintro _ ⟨b397, rfl⟩)
 (refine U9 rfl rfl rfl rfl rfl (fun _ _ => by repeat (first | exact Sw.here | apply Sw.there)) (J9 (by repeat first | exact mH | apply mT)) rfl (by simp [Value.oneCell']) (by unfold maxLen; omega) (by omega) rfl (fun pn cn => ?_))
 refine sQ (qA rfl) rfl (sD (nS (tT (rB (rS ?_)))))
 refine T3 (rT rfl) (by repeat (first | exact Pk.here | apply Pk.there)) ?_
 (exact Y1.mk (hoO.snoc ⟨by decide, by decide⟩ ⟨by decide, by decide⟩) (by rw [List.take_of_length_le (by omega), P8, if_neg (by omega), if_neg (by omega), if_neg (by omega), if_neg (by omega), if_neg (by omega), if_neg (by omega), if_neg (by omega)]; unfold A0d; (repeat' split) <;> first | rfl | (exfalso; omega)) (by omega) (by omega))
 refine sQ (qA rfl) rfl (sD (nS (cF rfl (tS (tR ?_)))))
 refine sB (qE rfl rfl) rfl rfl (fun h413 => ?_) (fun h413 => ?_)
 refine E1 ?_
 (refine E9 (B4 rfl rfl rfl (by omega) (by unfold maxLen; omega) rfl) rfl ?_; rintro _ ⟨b422, rfl⟩)
 (refine U9 rfl rfl rfl rfl rfl (fun _ _ => by repeat (first | exact Sw.here | apply Sw.there)) (J9 (by repeat first | exact mH | apply mT)) rfl (by simp [Value.oneCell']) (by unfold maxLen; omega) (by omega) rfl (fun pn cn => ?_))
 refine sQ (qA rfl) rfl (sD (nS (tT (rB (rS ?_)))))
 refine T3 (rT rfl) (by repeat (first | exact Pk.here | apply Pk.there)) ?_
 (exact Y1.mk (hoO.snoc ⟨by decide, by decide⟩ ⟨by decide, by decide⟩) (by rw [List.take_of_length_le (by omega), P8, if_neg (by omega), if_neg (by omega), if_neg (by omega), if_neg (by omega), if_neg (by omega), if_neg (by omega), if_neg (by omega)]; unfold A0d; (repeat' split) <;> first | rfl | (exfalso; omega)) (by omega) (by omega))
 refine sQ (qA rfl) rfl (sD (nS (cF rfl (tS (tR ?_)))))
 refine sB (qE rfl rfl) rfl rfl (fun h438 => ?_) (fun h438 => ?_)
 refine E1 ?_
 (refine E9 (B4 rfl rfl rfl (by omega) (by unfold maxLen; omega) rfl) rfl ?_; rintro _ ⟨b447, rfl⟩)
 (refine U9 rfl rfl rfl rfl rfl (fun _ _ => by repeat (first | exact Sw.here | apply Sw.there)) (J9 (by repeat first | exact mH | apply mT)) rfl (by simp [Value.oneCell']) (by unfold maxLen; omega) (by omega) rfl (fun pn cn => ?_))
 refine sQ (qA rfl) rfl (sD (nS (tT (rB (rS ?_)))))
 refine T3 (rT rfl) (by repeat (first | exact Pk.here | apply Pk.there)) ?_
 (exact Y1.mk (hoO.snoc ⟨by decide, by decide⟩ ⟨by decide, by decide⟩) (by rw [List.take_of_length_le (by omega), P8, if_neg (by omega), if_neg (by omega), if_neg (by omega), if_neg (by omega), if_neg (by omega), if_neg (by omega), if_neg (by omega)]; unfold A0d; (repeat' split) <;> first | rfl | (exfalso; omega)) (by omega) (by omega))
 refine J3 ?_
 (refine E9 (B4 rfl rfl rfl (by omega) (by unfold maxLen; omega) rfl) rfl ?_; rintro _ ⟨b468, rfl⟩)
 (refine U9 rfl rfl rfl rfl rfl (fun _ _ => by repeat (first | exact Sw.here | apply Sw.there)) (J9 (by repeat first | exact mH | apply mT)) rfl (by simp [Value.oneCell']) (by unfold maxLen; omega) (by omega) rfl (fun pn cn => ?_))
 refine sQ (qA rfl) rfl (sD (nS (tT ?_)))
 refine T3 (rT rfl) (by repeat (first | exact Pk.here | apply Pk.there)) ?_
 (exact Y1.mk (hoO.snoc ⟨by decide, by decide⟩ ⟨by decide, by decide⟩) (by rw [List.take_of_length_le (by omega), P8, if_neg (by omega), if_neg (by omega), if_neg (by omega), if_neg (by omega), if_neg (by omega), if_neg (by omega), if_neg (by omega)]; unfold A0d; (repeat' split) <;> first | rfl | (exfalso; omega)) (by omega) (by omega))
def B8y (r : Option Ty) : IM → Value → List A1 → Prop := I8 fun G' v => ∃ cells, v = .tuple ⟨[.agg ⟨cells⟩, .bool r.isSome]⟩ ∧ A8 G' (r.getD A5) cells
theorem Fn.frz {P : Program} {f : FuncId} {args : List Value} {G : IM} {post : IM → Value → List A1 → Prop} (h : Fn P f args [] G post) (Φ : IM → Value → Prop)
  (hp : ∀ G' v outs, post G' v outs → (outs = [] ∧ Φ G' v) ∨ ∃ p c el sz n cs, outs = [.slc p c el sz n cs] ∧ ∀ G'', A7 G' G'' → Sl G'' p n c sz cs → Φ G'' v) : Fn P f args [] G (I8 Φ) := by
 refine ⟨fun w hw => (h.run w hw).mono ?_⟩
 rintro e w' ⟨v, G', outs, rfl, hr, hq⟩
 rcases hp G' v outs hq with ⟨rfl, h1⟩ | ⟨p, c, el, sz, n, cs, rfl, h1⟩
 ·exact ⟨v, G', [], rfl, hr, rfl, h1⟩
 ·obtain ⟨G'', h2, h3, _⟩ := A7Z hr.own
  refine ⟨v, G'', [], rfl, ?_, rfl, h1 G'' h2.le h3⟩
  have := P4.frame (rest := []) (by simpa using hr) h2
  simpa using this
theorem B61 (n : Nat) (G : IM) (h0 : 0 < n) (hn : n ≤ 1000000) : Fn Tryz.prog 180 [.slice none 0 0, .int .i64 (n : Int)] [] G (fun G' v outs => G' = G ∧ ∃ p c, v = .slice p 0 c ∧ outs = [.slc p c 72 2 0 []]) := by
 refine B6 Tryz.func180 rfl Tryz.ntmps180 Tryz.results180 rfl ?_
 intro w0
 refine E8 ?_
 refine sP (A14 rfl rfl (by omega)) rfl rfl ?_
 refine H9 ?_
 refine sQ (A80 rfl rfl) rfl ?_
 refine sQ (qM rfl) rfl (sQ (W0 rfl rfl) rfl ?_)
 refine sP (N1 rfl rfl (by omega) (by omega)) rfl rfl ?_
 refine sP (N1 rfl rfl (by omega) (by omega)) rfl rfl ?_
 refine sQ (qA rfl) rfl (sD (nS (tS (tR (sQ (qM rfl) rfl ?_)))))
 refine sP (A7S rfl rfl (by omega)) rfl rfl ?_
 refine sD (nS (qT rfl (tR (sQ (qM rfl) rfl (sQ (qM rfl) rfl ?_)))))
 refine sQ (A80 rfl rfl) rfl ?_
 refine sP (A1O (l := 0) rfl rfl rfl (by omega)) rfl rfl ?_
 refine sQ (qM rfl) rfl ?_
 (refine E9 (B3E (n := n) rfl rfl rfl rfl rfl h0 rfl hn (by omega)) rfl ?_; rintro _ ⟨b7, c7, cs7, rfl⟩; refine A6F (k := 0) (by repeat (first | exact Pk.here | apply Pk.there)) (Nat.zero_le _) ?_)
 refine sQ (qM rfl) rfl (sQ (W0 rfl rfl) rfl ?_)
 refine sP (A1O (l := 0) rfl rfl rfl (by omega)) rfl rfl ?_
 refine H9 ?_
 refine T3 (rT rfl) (by repeat (first | exact Pk.here | apply Pk.there)) ?_
 (exact ⟨rfl, _, _, rfl, rfl⟩)
theorem A4s (k a : Int) (G : IM) (hk : C1 k) (ha : C1 a) : Fn Tryz.prog 118 [.int .i64 k, .int .i64 a] [] G (Y1 G 1 [(k, a)]) := by
 refine B6 Tryz.func118 rfl Tryz.ntmps118 Tryz.results118 rfl ?_
 intro w0
 refine H9 ?_
 (refine E9 (B4 rfl rfl rfl (by omega) (by unfold maxLen; omega) rfl) rfl ?_; rintro _ ⟨bq, rfl⟩)
 refine sQ (qA rfl) rfl (sD (nS (tT ?_)))
 refine T3 (rT rfl) (by repeat (first | exact Pk.here | apply Pk.there)) ?_
 (exact Y1.mk (.one hk ha) rfl (by omega) (by omega))
theorem A5H (k a : Int) (G : IM) (hk : C1 k) (ha : C1 a) : Fn Tryz.prog 118 [.int .i64 k, .int .i64 a] [] G (I8 fun G' v => ∃ p c, v = .slice p 1 c ∧ U3 G' [(k, a)] p 1 c) :=
 (A4s k a G hk ha).frz (fun G' v => ∃ p c, v = .slice p 1 c ∧ U3 G' [(k, a)] p 1 c) (fun G' v outs hh => by
  obtain ⟨_, p, n, c, x, rfl, rfl, he, h1, h2⟩ := hh
  obtain rfl : n = 1 := by omega
  exact .inr ⟨p, c, _, _, _, _, rfl, fun G'' hle hs => ⟨p, c, rfl, he.r hs⟩⟩)
def A0e (G : IM) : List K4 → List Value → Prop
 | [], vs => vs = []
 | l :: ls, vs => ∃ p c r, vs = .slice p l.length c :: r ∧ U3 G l p l.length c ∧ A0e G ls r
theorem A0e.mono {G G' : IM} (hg : A7 G G') : ∀ {ls : List K4} {vs : List Value}, A0e G ls vs → A0e G' ls vs
 | [], vs, h => h
 | l :: ls, vs, ⟨p, c, r, h1, h2, h3⟩ => ⟨p, c, r, h1, h2.mono hg, A0e.mono hg h3⟩
theorem A0e.len {G : IM} : ∀ {ls : List K4} {vs : List Value}, A0e G ls vs → vs.length = ls.length
 | [], vs, h => by rw [show vs = [] from h]; rfl
 | l :: ls, vs, ⟨p, c, r, h1, h2, h3⟩ => by rw [h1]; simp [h3.len]
theorem A0e.get {G : IM} : ∀ {ls : List K4} {vs : List Value}, A0e G ls vs → ∀ (i : Nat) (hi : i < ls.length), ∃ p c, vs[i]? = some (.slice p ls[i].length c) ∧ U3 G ls[i] p ls[i].length c
 | l :: ls, vs, ⟨p, c, r, h1, h2, h3⟩, 0, _ => ⟨p, c, by rw [h1]; rfl, h2⟩
 | l :: ls, vs, ⟨p, c, r, h1, h2, h3⟩, i + 1, hi => by
  obtain ⟨p', c', g1, g2⟩ := h3.get i (by simpa using hi)
  exact ⟨p', c', by rw [h1]; simpa using g1, by simpa using g2⟩
theorem B1j {ls : List K4} {i : Nat} (hi : i < ls.length) : (ls.take (i + 1)).flatten = (ls.take i).flatten ++ ls[i] := by
 rw [List.take_succ_eq_append_getElem hi, List.flatten_append]; simp
theorem A5I (ls : List K4) (i : Nat) : (ls.take i).flatten.length ≤ ls.flatten.length := by
 conv => rhs; rw [← List.take_append_drop i ls, List.flatten_append, List.length_append]
 omega
theorem U3.toE {G : IM} {l : K4} {p : Option Addr} {n c : Nat} (h : U3 G l p n c) : Q7 (l.map A3e).flatten n l := ⟨h.len, rfl, h.rng⟩
theorem A2r (ls : List K4) (vs : List Value) (p : Option Addr) (c : Nat) (G : IM) (hs : Sl G p ls.length c 1 vs) (hr : A0e G ls vs) (h0 : 0 < ls.flatten.length) (hn : ls.flatten.length ≤ 1000000) :
  Fn Tryz.prog 120 [.slice p ls.length c] [] G (Y1 G ls.flatten.length ls.flatten) := by
 have hlen := hs.le
 refine B6 Tryz.func120 rfl Tryz.ntmps120 Tryz.results120 rfl ?_
 intro w0
 refine A0g ?_
 refine B2 ?_
 (have hgr : True := trivial; clear hgr; have hz := hn; refine J8 (fun (i : Nat) => ⟨[(11, .int .i64 (i : Int)), (10, .int .i64 (ls.length : Int)), (9, .slice p ls.length c), (3, .int .i64 ((ls.take i).flatten.length : Int)), (0, .slice p ls.length c)], [], G⟩) (fun i => i ≤ ls.length) (fun i => ls.length - i) 0 ?_ ?_ ?_)
 exact C2
 (exact Nat.zero_le _)
 (rintro (i : Nat) hi; replace hi : i ≤ ls.length := hi; have hfl := A5I ls (i + 1); have hfl0 := A5I ls i)
 refine tS (tR ?_)
 refine sB (I7 rfl rfl) rfl rfl (fun h26 => ?_) (fun h26 => ?_)
 refine sD (nS (tS (qT rfl (tK (nS (tS ?_))))))
 refine B2 ?_
 refine tS ?_
 (have hi2 : i < ls.length := (by omega); obtain ⟨pi, ci, hvi, hri⟩ := hr.get i hi2; obtain ⟨bx, ox, v, rfl, hv, hatv, _⟩ := hs.kid (i := i) hi2; obtain rfl := Option.some.inj (hvi.symm.trans hv); have hft := B1j hi2; rw [hft, List.length_append] at hfl)
 refine tR ?_
 refine sP (B3 (j := i) rfl rfl rfl (by omega)) rfl rfl ?_
 refine sL (Q8 rfl rfl (hatv _)) rfl rfl ?_
 refine E1 ?_
 refine sP (A0j rfl rfl (by omega)) rfl rfl ?_
 refine sQ (qA rfl) rfl (sD (nS (tS (tR (sQ (qM rfl) rfl ?_)))))
 refine sP (A14 rfl rfl (by omega)) rfl rfl ?_
 refine sD (nS (cF rfl (tK (M2 (nS (tR ?_))))))
 refine sP (H2 rfl rfl (by omega) (by omega)) rfl rfl ?_
 refine sQ (qM rfl) rfl (sD ?_)
 (rw [show (ls.take i).flatten.length + ls[i].length = (ls.take (i + 1)).flatten.length by rw [hft, List.length_append]]; refine J4 (i + 1) ?_ ?_ ?_)
 exact C2
 (show i + 1 ≤ ls.length; omega)
 (show ls.length - (i + 1) < ls.length - i; omega)
 refine L4 ?_
 (obtain rfl : i = ls.length := (by omega); rw [List.take_length]; refine C6 rfl (B61 _ G h0 hn) (List.Perm.refl _) rfl rfl (fun v G1 outs hle1 hh => ?_); obtain ⟨hG, pg, cg, rfl, rfl⟩ := hh; replace hG := hG.symm; subst hG; have hgrown : True := trivial)
 refine J3 ?_
 refine B2 ?_
 (have hG1 := hgrown; refine J8 (fun (x : Nat × Option Addr × Nat × Nat × List Value) => ⟨[(27, .int .i64 (x.1 : Int)), (26, .int .i64 (ls.length : Int)), (25, .slice p ls.length c), (6, .slice x.2.1 x.2.2.2.1 x.2.2.1)], [.slc x.2.1 x.2.2.1 72 2 x.2.2.2.1 x.2.2.2.2], G⟩) (fun x => x.1 ≤ ls.length ∧ Q7 x.2.2.2.2 x.2.2.2.1 (ls.take x.1).flatten) (fun x => ls.length - x.1) (0, pg, cg, 0, []) ?_ ?_ ?_)
 (simp only [E7]; exact C2)
 (exact ⟨Nat.zero_le _, by simpa using Q7.nil⟩)
 (rintro ⟨(i : Nat), pn, cn, nn, xn⟩ ⟨hi, hoE⟩; simp only [] at hi hoE ⊢; have hfl := A5I ls (i + 1); have hfl0 := A5I ls i; have hnn := hoE.1)
 refine tS (tR ?_)
 refine sB (I7 rfl rfl) rfl rfl (fun h101 => ?_) (fun h101 => ?_)
 refine sD (nS (tS (qT rfl (tK (nS (tS ?_))))))
 refine B2 ?_
 refine tS ?_
 (have hi2 : i < ls.length := (by omega); obtain ⟨pi, ci, hvi, hri⟩ := hr.get i hi2; obtain ⟨bx, ox, v, rfl, hv, hatv, _⟩ := hs.kid (i := i) hi2; obtain rfl := Option.some.inj (hvi.symm.trans hv); have hft := B1j hi2; rw [hft, List.length_append] at hfl)
 refine tR ?_
 refine sP (B3 (j := i) rfl rfl rfl (by omega)) rfl rfl ?_
 refine sL (Q8 rfl rfl (hatv _)) rfl rfl ?_
 refine N6 ?_
 (refine A7e (by repeat (first | exact Pk.here | apply Pk.there)) (fun hcap => ?_); refine A3T rfl rfl rfl rfl rfl (fun _ _ => by repeat (first | exact Sw.here | apply Sw.there)) hri.sl.sl hri.toE.ones hcap (by unfold maxLen; omega) (by omega) rfl (fun p4 c4 => ?_))
 refine sQ (qA rfl) rfl (sD (M2 (nS (tR ?_))))
 refine sP (H2 rfl rfl (by omega) (by omega)) rfl rfl ?_
 refine sQ (qM rfl) rfl (sD ?_)
 (have hp4 := p4; refine J4 (i + 1, p4, c4, nn + ls[i].length, xn ++ (ls[i].map A3e).flatten) ?_ ?_ ?_)
 (simp only [E7]; exact C2)
 (dsimp only; exact ⟨by omega, (hoE.app hri.toE).to hft.symm⟩)
 (show ls.length - (i + 1) < ls.length - i; omega)
 refine N9 ?_
 refine T3 (rT rfl) (by repeat (first | exact Pk.here | apply Pk.there)) ?_
 (obtain rfl : i = ls.length := (by omega); rw [List.take_length] at hoE hnn; exact Y1.mk hoE rfl (by omega) (by omega))
theorem A7A (ns : List ByteArray) (j : Nat) (hj : j < ns.length) : (Z1 ns).data[j]! = N0 (ns[ns.length - 1 - j]'(by omega)) := by
 have h : (Z1 ns).data.toList[j]? = some (N0 (ns[ns.length - 1 - j]'(by omega))) := by
  show (ns.reverse.map N0)[j]? = _
  rw [List.getElem?_map, List.getElem?_reverse hj, List.getElem?_eq_getElem (by omega)]; rfl
 rw [getElem!_def]
 rw [Array.getElem?_toList] at h
 rw [h]
theorem B62 (ns : List ByteArray) (nm : ByteArray) (ho : A2T ns) (hnm : nm = ⟨#[N0 nm]⟩) (hm : nm ∈ ns) : Lib.lastIndexByte (Z1 ns) ((N0 nm).toNat : Int) = (ns.length : Int) - 1 - (V4 nm ns : Nat) := by
 have hsz := A4r ns
 have hb : ∀ x ∈ ns, ((N0 x).toNat : Int) = ((N0 nm).toNat : Int) → x = nm := fun x hx h => by
  have h2 : N0 x = N0 nm := UInt8.toNat_inj.1 (by omega)
  rw [ho x hx, h2, ← hnm]
 rcases Lib.lastIndexByte_spec (Z1 ns) ((N0 nm).toNat : Int) with ⟨_, hn⟩ | ⟨i, hi, he, hc, hn⟩
 ·exfalso
  obtain ⟨j, hj1, hj2⟩ := List.getElem_of_mem hm
  refine hn (ns.length - 1 - j) (by omega) ?_
  rw [A7A ns _ (by omega)]
  have : ns.length - 1 - (ns.length - 1 - j) = j := by omega
  simp only [this, hj2]
 ·rw [he]
  rw [A7A ns i (by omega)] at hc
  have h1 := hb _ (List.getElem_mem (by omega)) hc
  have h2 : V4 nm ns = ns.length - 1 - i := A7y (by rw [List.getElem?_eq_getElem (by omega), h1]) (fun j hj hjn => by
   obtain ⟨hjl, hje⟩ := List.getElem?_eq_some_iff.1 hjn
   refine hn (ns.length - 1 - j) (by omega) (by omega) ?_
   rw [A7A ns _ (by omega)]
   have : ns.length - 1 - (ns.length - 1 - j) = j := by omega
   simp only [this, hje])
  rw [h2]; omega
theorem B63 (ns : List ByteArray) (nm : ByteArray) (G : IM) (hs : ns.length ≤ 1000) (ho : A2T ns) (hnm : nm = ⟨#[N0 nm]⟩) (hm : nm ∈ ns) :
  Fn Tryz.prog 119 [.string (Z1 ns), .string nm] [] G (J1 (.int .i64 ((ns.length : Int) - 1 - (V4 nm ns : Nat))) G) := by
 refine ⟨fun w hw => ?_⟩
 have hsz := A4r ns
 have h1 : nm.size = 1 := by rw [hnm]; rfl
 refine (Tryz.strings_LastIndex_one (Z1 ns) nm h1 (by omega) w).mono ?_
 rintro e w' ⟨rfl, rfl⟩
 refine ⟨_, G, [], rfl, P4.refl hw, rfl, ?_, rfl⟩
 rw [← B62 ns nm ho hnm hm]
 have : nm[0]'(by omega) = N0 nm := by
  have h2 : nm.data.toList.length = 1 := h1
  obtain ⟨⟨l⟩⟩ := nm
  match l, h2 with
  | [c], _ => rfl
 rw [this]
mutual
def rl (d : Int) : MV → MV
 | .mk k n e p => .mk k (if k = 2 then n + d else n) (rlL d e) (rlL d p)
def rlL (d : Int) : List MV → List MV
 | [] => []
 | v :: vs => rl d v :: rlL d vs
end
def rlS (d : Int) (S : List MV) (F : List (Int × List MV)) (s : N7) : N7 := ⟨s.at' + d, S ++ s.st.map (rl d), s.env.map (rl d), F ++ s.fr.map fun f => (f.1 + d, f.2.map (rl d))⟩
def B8z (s : N7) : List MV := ((s.fr.map Prod.snd) ++ [s.env]).headD []
def Jm (c : K4) : Prop := ∀ (i : Nat) (x : Int × Int), c[i]? = some x → x.1 = 4 ∨ x.1 = 9 ∨ x.1 = 10 → (i : Int) + 1 + x.2 ≤ c.length
theorem B64 {n : List ByteArray} {k : Int} {nm : ByteArray} {num : Int} {cs : List K4} : 1 ≤ (P8 n k nm num cs).length := by
 unfold P8
 split
 ·exact Nat.le_refl _
 split
 ·exact Nat.le_refl _
 split
 ·exact Nat.le_refl _
 split
 ·exact Nat.le_refl _
 split
 ·simp
 split
 ·simp; omega
 ·simp
theorem B65 (n : List ByteArray) (t : Tm) : 1 ≤ (J7 n t).length := by
 obtain ⟨k, nm, num, ty, fr, lb, ks⟩ := t
 rw [J7]; exact B64
def A0r (B : Nat) (ops : K4) : IM → Value → List A1 → Prop := fun _ v outs => ∃ p n c x, v = .slice p n c ∧ outs = [.slc p c 72 2 n x] ∧ Q7 x n ops ∧ 1 ≤ n ∧ n ≤ B
theorem A0r.mk {G : IM} {B n c : Nat} {p : Option Addr} {x : List Value} {ops ops' : K4} (h : Q7 x n ops') (h0 : ops' = ops) (h1 : 1 ≤ n) (h2 : n ≤ B) : A0r B ops G (.slice p n c) [.slc p c 72 2 n x] := by
 subst h0; exact ⟨p, n, c, x, rfl, rfl, h, h1, h2⟩
theorem B1k {f : FuncId} {args : List Value} {G : IM} {B : Nat} {ops : K4} (h : Fn Tryz.prog f args [] G (A0r B ops)) : Fn Tryz.prog f args [] G (I8 fun G' v => ∃ p c, v = .slice p ops.length c ∧ U3 G' ops p ops.length c) :=
 h.frz (fun G' v => ∃ p c, v = .slice p ops.length c ∧ U3 G' ops p ops.length c) (fun G' v outs hh => by
  obtain ⟨p, n, c, x, rfl, rfl, he, h1, h2⟩ := hh
  obtain rfl : n = ops.length := he.1
  exact .inr ⟨p, c, _, _, _, _, rfl, fun G'' hle hs => ⟨p, c, rfl, he.r hs⟩⟩)
theorem A0e.snoc {G : IM} : ∀ {ls : List K4} {vs : List Value} {l : K4} {p : Option Addr} {c : Nat}, A0e G ls vs → U3 G l p l.length c → A0e G (ls ++ [l]) (vs ++ [.slice p l.length c])
 | [], vs, l, p, c, h, h2 => by rw [show vs = [] from h]; exact ⟨p, c, [], rfl, h2, rfl⟩
 | l' :: ls, vs, l, p, c, ⟨p', c', r, h1, h2, h3⟩, h4 => ⟨p', c', r ++ [.slice p l.length c], by rw [h1]; rfl, h2, h3.snoc h4⟩
theorem B66 {ks : List Tm} {i : Nat} (h : i < ks.length) : C9 ks[i] ≤ D2 ks := by
 have h1 := A0C ks (i + 1)
 rw [A0B h] at h1
 omega
theorem B1l (cs : List K4) : (cs.getD 0 []).length + (cs.getD 1 []).length + (cs.getD 2 []).length ≤ cs.flatten.length := by
 match cs with
 | [] => simp
 | [a] => simp
 | [a, b] => simp
 | a :: b :: c :: r => simp; omega
theorem B67 (n : List ByteArray) (k : Int) (nm : ByteArray) (num : Int) (cs : List K4) : (P8 n k nm num cs).length ≤ cs.flatten.length + 2 := by
 have h3 := B1l cs
 unfold P8
 repeat' split
 all_goals simp only [List.length_cons, List.length_append, List.length_nil]
 all_goals omega
mutual
theorem B68 : ∀ (t : Tm) (n : List ByteArray), (J7 n t).length ≤ 2 * C9 t
 | .mk k nm num ty fr lb ks, n => by
  rw [J7, C9]
  have h1 := B67 n k nm num (A2q (if k = 5 then nm :: n else n) ks)
  have h2 := A7B ks (if k = 5 then nm :: n else n)
  omega
theorem A7B : ∀ (ts : List Tm) (n : List ByteArray), (A2q n ts).flatten.length ≤ 2 * D2 ts
 | [], n => by rw [A2q]; simp
 | t :: ts, n => by
  rw [A2q, D2, List.flatten_cons, List.length_append]
  have h1 := B68 t n
  have h2 := A7B ts n
  omega
end
theorem B69 : ∀ (t : Tm) (d : Int) (ns : List ByteArray) (G : IM) (cells : List Value), I9 40 13 t d = true → A2T ns → T6 ns t → ns.length + C9 t ≤ 1000 → B5 G t cells →
  Fn Tryz.prog 62 [.agg ⟨cells⟩, .string (Z1 ns)] [] G (A0r (2 * C9 t) (J7 ns t)) := by
 refine Tm.ind fun k nm num ty fr lb ks ih d ns G cells hv ho hcl0 hb hr => ?_
 obtain ⟨hv1, hv2, hv3, hv4⟩ := R8 hv
 have hvk := (A0U 40 13 ks _).1 hv4
 obtain ⟨hops, hnmo, _⟩ := R7.1 hv3
 have hnmS := fun h => (A1A (hnmo h)).1
 rw [T6] at hcl0
 obtain ⟨hw1, hw2⟩ := hcl0
 obtain ⟨n1, hn1⟩ : ∃ n1, (if k = 5 then nm :: ns else ns) = n1 := ⟨_, rfl⟩
 rw [hn1] at hw2
 have hw2' := fun t ht => A5y hw2 t ht
 have ho1 : A2T n1 := by
  rw [← hn1]
  split
  ·intro y hy
   rcases List.mem_cons.1 hy with rfl | hy
   ·exact hnmS (.inr (by assumption))
   ·exact ho y hy
  ·exact ho
 have hl1 : n1.length ≤ ns.length + 1 := by rw [← hn1]; split <;> simp
 have hcode : J7 ns (.mk k nm num ty fr lb ks) = P8 ns k nm num (ks.map (J7 n1)) := by rw [J7, hn1, A1z]
 have hfl : (ks.map (J7 n1)).flatten.length ≤ 2 * D2 ks := by rw [← A1z]; exact A7B ks n1
 have hcm := fun i (h : i < ks.length) => B66 h
 have hpos : 0 < ks.length → 0 < (ks.map (J7 n1)).flatten.length := fun h => by
  match ks, h with
  | a :: r, _ => have := B65 n1 a; rw [List.map_cons, List.flatten_cons, List.length_append]; omega
 have hmc := B1l (ks.map (J7 n1))
 obtain ⟨bd, hbd⟩ : ∃ bd, Z1 ns = bd := ⟨_, rfl⟩
 have hbs : bd.size = ns.length := by rw [← hbd]; exact A4r ns
 rw [hcode, hbd]
 simp only [C9] at hb ⊢
 have hix : k = 1 → C1 ((V4 nm ns : Nat) : Int) := fun _ => by have := A5G nm ns; unfold C1; omega
 have hLI : k = 1 → ∀ G, Fn Tryz.prog 119 [.string bd, .string nm] [] G (J1 (.int .i64 ((ns.length : Int) - 1 - (V4 nm ns : Nat))) G) := fun h G => by
  rw [← hbd]; exact B63 ns nm G (by omega) ho (hnmS (.inl h)) (hw1 h)
 have hixl := A5G nm ns
 have hL5 : k = 5 → ks.length = 1 := fun h => by rw [h] at hops; have : D5 5 = 1 := rfl; omega
 have hL9 : k = 9 → ks.length = 3 := fun h => by rw [h] at hops; have : D5 9 = 3 := rfl; omega
 have hLm : ks.length ≤ 3 := by
  unfold D5 at hops
  repeat' split at hops
  all_goals omega
 have hL0 : ¬(k = 1 ∨ k = 2 ∨ k = 3 ∨ k = 4) → 0 < ks.length := fun h => by
  unfold D5 at hops
  repeat' split at hops
  all_goals omega
 have hgd : ∀ j (h : j < (ks.map (J7 n1)).length), (ks.map (J7 n1)).getD j [] = (ks.map (J7 n1))[j] := fun j h => by rw [List.getD_eq_getElem?_getD, List.getElem?_eq_getElem h]; rfl
 have hmL : (ks.map (J7 n1)).length = ks.length := List.length_map _
 obtain ⟨tk, tks⟩ := ty
 obtain ⟨fk, fks⟩ := fr
 obtain ⟨pt, ct, pf, cf, p, c, es, rfl, hk, hnum, hlb, hty, hfr, hsl, hkl⟩ := hr.open9
 have hn := hsl.le
 refine B6 Tryz.func62 rfl Tryz.ntmps62 Tryz.results62 rfl ?_
 intro w0
 refine tS (tR ?_)
 refine sE (E2 rfl rfl) rfl (fun b3 => ?_)
 refine A1l ?_
 refine sB (qE rfl rfl) rfl rfl (fun h23 => ?_) (fun h23 => ?_)
 refine C5 ?_
 (have hnz : nm.size = 1 := (by rw [hnmS (.inr (by omega))]; rfl); refine sP (A0R rfl rfl (by omega)) rfl rfl ?_)
 refine L4 ?_
 refine B2 ?_
 (have hq : k = 5 := (by omega); have hins : Z1 n1 = bd ++ nm := (by rw [← hn1, if_pos hq, ← hbd, A7x (hnmS (.inr hq))]); refine W9 39 1 ?_; refine J8 (fun (x : Nat × Option Addr × Nat × List Value × IM) => ⟨[(22, .int .i64 (x.1 : Int)), (21, .int .i64 (ks.length : Int)), (20, .slice p ks.length c), (5, .slice x.2.1 x.1 x.2.2.1), (6, .string (bd ++ nm)), (2, .pointer (some ⟨b3, 0, none⟩)), (1, .string bd)], [.slc x.2.1 x.2.2.1 39 1 x.1 x.2.2.2.1, .blk b3 [.int .i64 k, .string nm, .int .i64 num, .int .i64 tk, .slice pt tks.length ct, .int .i64 fk, .slice pf fks.length cf, .int .i64 lb, .slice p ks.length c]], x.2.2.2.2⟩) (fun x => x.1 ≤ ks.length ∧ A7 G x.2.2.2.2 ∧ A0e x.2.2.2.2 ((ks.take x.1).map (J7 n1)) x.2.2.2.1) (fun x => ks.length - x.1) (0, none, 0, [], G) ?_ ?_ ?_)
 (simp only [E7]; exact C2)
 exact ⟨Nat.zero_le _, A7.refl _, rfl⟩
 (rintro ⟨i, pn, cn, vs, Gi⟩ ⟨hi, hle, hrl⟩; simp only [] at hi hle hrl ⊢; have hGi : True := trivial)
 refine tS (tR ?_)
 refine sB (I7 rfl rfl) rfl rfl (fun h51 => ?_) (fun h51 => ?_)
 refine sD (nS (tS (qT rfl (tK (nS (tS ?_))))))
 refine B2 ?_
 refine tS (tR ?_)
 (have hil : i < ks.length := (by omega); obtain ⟨bx, ox, e, rfl, hl, hat, hre, hgb⟩ := (hsl.mono hle).kidTm (hkl.mono hle) (i := i) hil hil; have hone := hre.one; refine sP (B3 (j := i) rfl rfl rfl (by omega)) rfl rfl ?_)
 refine sL (A6 rfl rfl (hat _) hl) rfl rfl ?_
 refine sE (B0 rfl) rfl (fun b64 => ?_)
 refine sS rfl rfl rfl hl hone rfl ?_ (hu := by exact O5 hl.symm)
 refine sD (nS (tR (sQ (qM rfl) rfl ?_)))
 refine sL (A6 rfl rfl (H0 (by repeat first | exact mH | apply mT)) hl) rfl rfl ?_
 refine sQ (qM rfl) rfl ?_
 (have hci := hcm i hil; have hK := ih ks[i] (List.getElem_mem hil) (d + 1) n1 Gi _ (hvk i hil) ho1 (hw2' _ (List.getElem_mem hil)) (by omega) hre; rw [hins] at hK; refine M0 rfl (B1k hK) rfl rfl (fun v G3 hle3 hh => ?_); obtain ⟨p3, c3, rfl, hr3⟩ := hh)
 (refine E9 (B4 rfl rfl rfl (by omega) (by unfold maxLen; omega) rfl) rfl ?_; rintro _ ⟨b73, rfl⟩)
 refine U9 rfl rfl rfl rfl rfl (fun _ _ => by repeat (first | exact Sw.here | apply Sw.there)) (J9 (by repeat first | exact mH | apply mT)) rfl (by simp [Value.oneCell']) (by unfold maxLen; omega) (by omega) rfl (fun pn' cn' => ?_)
 refine sQ (qA rfl) rfl (sD (M2 (nS (tR ?_))))
 refine sP (H2 rfl rfl (by omega) (by omega)) rfl rfl ?_
 refine sQ (qM rfl) rfl (sD ?_)
 refine J4 (i + 1, pn', cn', vs ++ [.slice p3 (J7 n1 ks[i]).length c3], G3) ?_ ?_ ?_
 (simp only [E7]; exact C2)
 (dsimp only; exact ⟨by omega, hle.trans hle3, by rw [List.take_succ_eq_append_getElem hil, List.map_append]; exact (hrl.mono hle3).snoc hr3⟩)
 (show ks.length - (i + 1) < ks.length - i; omega)
 refine H9 ?_
 (obtain rfl : i = ks.length := (by omega); refine A1k (by repeat (first | exact Pk.here | apply Pk.there)) (fun G2 hle2 hsl2 hno2 => ?_); rw [List.take_length] at hrl; replace hrl := hrl.mono hle2; have hle02 := hle.trans hle2; have hvl := hrl.len; rw [List.length_map] at hvl)
 refine N9 ?_
 refine B2 ?_
 refine tS (tR ?_)
 refine sP (K9 rfl rfl (by omega)) rfl rfl ?_
 refine sQ (qA rfl) rfl (sD (nS (cF rfl (tS (tR ?_)))))
 refine sP (K9 rfl rfl (by omega)) rfl rfl ?_
 refine sQ (qA rfl) rfl (sD (nS (cF rfl (tS (tR ?_)))))
 refine sP (K9 rfl rfl (by omega)) rfl rfl ?_
 refine sQ (qA rfl) rfl (sD (nS (cF rfl (tS (tR ?_)))))
 refine sP (K9 rfl rfl (by omega)) rfl rfl ?_
 refine sQ (qA rfl) rfl (sD (nS (cF rfl (tS (tR ?_)))))
 refine sP (A1i rfl rfl (by omega)) rfl rfl ?_
 refine sQ (qA rfl) rfl (sD (nS (qT rfl (tS ?_))))
 (have hq5 : k = 5 := (by omega); have hL := hL5 hq5; obtain ⟨p0, c0, hv0, hr0⟩ := hrl.get 0 (by omega); obtain ⟨bc, oc, v0, rfl, hvv, hatc, _⟩ := hsl2.kid (i := 0) (by omega); obtain rfl := Option.some.inj (hv0.symm.trans hvv); have hg0 := hgd 0 (by omega); rw [hg0] at hmc; obtain ⟨l0, hl0⟩ : ∃ l, (ks.map (J7 n1))[0]'(by omega) = l := ⟨_, rfl⟩; rw [hl0] at hr0 hg0 hatc hmc; refine D7 D8 rfl ?_)
 refine H4 (i := 0) (l' := [tt,ff,ff,ff,ff,ff,ff,ff,ff,ff,ff,ff,ff,ff,ff]) rfl D3 (qM rfl) rfl (by kernel_rfl) rfl rfl ?_
 refine aP 1 rfl (qM rfl) rfl ?_
 refine aP 2 rfl (B3 (j := 0) rfl rfl rfl (by omega)) rfl ?_
 refine aL 3 rfl (Q8 rfl rfl (hatc _)) rfl ?_
 refine aP 4 rfl (W0 rfl rfl) rfl ?_
 refine aP 5 rfl (H2 rfl rfl (by omega) (by omega)) rfl ?_
 refine aP 7 rfl (qM rfl) rfl ?_
 refine aP 8 rfl (B3 (j := 0) rfl rfl rfl (by omega)) rfl ?_
 refine aL 9 rfl (Q8 rfl rfl (hatc _)) rfl ?_
 refine aP 10 rfl (qM rfl) rfl ?_
 refine A2 6 ?_
 (refine D6 rfl (A1h (ins := []) rfl rfl (A5H 4 _ _ ⟨by decide, by decide⟩ (by unfold C1; omega)) (List.Perm.refl _) rfl) rfl rfl ?_; rintro _ ⟨v, G7, outs, rfl, hle7, rfl, p7, c7, rfl, hr7⟩)
 refine A2 11 ?_
 (refine D6 rfl (A1h (ins := []) rfl rfl (A5H 5 0 _ ⟨by decide, by decide⟩ ⟨by decide, by decide⟩) (List.Perm.refl _) rfl) rfl rfl ?_; rintro _ ⟨v, G8, outs, rfl, hle8, rfl, p8, c8, rfl, hr8⟩)
 refine A2 12 ?_
 (refine D6 rfl (B4 rfl rfl rfl (by omega) (by unfold maxLen; omega) rfl) rfl rfl ?_; rintro _ ⟨b167, rfl⟩)
 refine A2 13 ?_
 (have hq5 : k = 5 := (by omega); refine A9M (cs := [.slice p7 1 c7, .slice p0 l0.length c0, .slice p8 1 c8]) (by repeat (first | exact Pk.here | apply Pk.there)) (fun G9 hle9 hsl9 hno9 => ?_); have hL3 : A0e G9 [[(4, (l0.length : Int) + 1)], l0, [(5, 0)]] [.slice p7 1 c7, .slice p0 l0.length c0, .slice p8 1 c8] := ⟨p7, c7, _, rfl, hr7.mono (hle8.trans hle9), p0, c0, _, rfl, hr0.mono (hle7.trans (hle8.trans hle9)), p8, c8, _, rfl, hr8.mono hle9, rfl⟩; have hC := A2r _ _ _ _ G9 hsl9 hL3 (by simp only [List.flatten_cons, List.flatten_nil, List.length_append, List.length_cons, List.length_nil]; omega) (by simp only [List.flatten_cons, List.flatten_nil, List.length_append, List.length_cons, List.length_nil]; omega); refine D6 rfl (A2v (ins := []) rfl hC (List.Perm.refl _) rfl) rfl rfl ?_; rintro _ ⟨v, G5, outs, rfl, hle5, hG, p6, n6, c6, x6, rfl, rfl, ho6, h61, h62⟩; replace hG := hG.symm; subst hG)
 refine aP 14 rfl (qA rfl) rfl ?_
 refine B9 (nS (tT (rB (rS ?_))))
 refine T3 (rT rfl) (by repeat (first | exact Pk.here | apply Pk.there)) ?_
 (have hq1 : k = 5 := (by omega); exact A0r.mk ho6 (by rw [P8, if_neg (by omega), if_neg (by omega), if_neg (by omega), if_neg (by omega), if_pos hq1, hg0]; simp) (by omega) (by simp at h62; omega))
 refine M5 ?_
 refine B2 ?_
 (have hq : ¬k = 5 := (by omega); have hins : Z1 n1 = bd := (by rw [← hn1, if_neg hq, hbd]); refine W9 39 1 ?_; refine J8 (fun (x : Nat × Option Addr × Nat × List Value × IM) => ⟨[(22, .int .i64 (x.1 : Int)), (21, .int .i64 (ks.length : Int)), (20, .slice p ks.length c), (5, .slice x.2.1 x.1 x.2.2.1), (6, .string bd), (2, .pointer (some ⟨b3, 0, none⟩)), (1, .string bd)], [.slc x.2.1 x.2.2.1 39 1 x.1 x.2.2.2.1, .blk b3 [.int .i64 k, .string nm, .int .i64 num, .int .i64 tk, .slice pt tks.length ct, .int .i64 fk, .slice pf fks.length cf, .int .i64 lb, .slice p ks.length c]], x.2.2.2.2⟩) (fun x => x.1 ≤ ks.length ∧ A7 G x.2.2.2.2 ∧ A0e x.2.2.2.2 ((ks.take x.1).map (J7 n1)) x.2.2.2.1) (fun x => ks.length - x.1) (0, none, 0, [], G) ?_ ?_ ?_)
 (simp only [E7]; exact C2)
 exact ⟨Nat.zero_le _, A7.refl _, rfl⟩
 (rintro ⟨i, pn, cn, vs, Gi⟩ ⟨hi, hle, hrl⟩; simp only [] at hi hle hrl ⊢; have hGi : True := trivial)
 refine tS (tR ?_)
 refine sB (I7 rfl rfl) rfl rfl (fun h199 => ?_) (fun h199 => ?_)
 refine sD (nS (tS (qT rfl (tK (nS (tS ?_))))))
 refine B2 ?_
 refine tS (tR ?_)
 (have hil : i < ks.length := (by omega); obtain ⟨bx, ox, e, rfl, hl, hat, hre, hgb⟩ := (hsl.mono hle).kidTm (hkl.mono hle) (i := i) hil hil; have hone := hre.one; refine sP (B3 (j := i) rfl rfl rfl (by omega)) rfl rfl ?_)
 refine sL (A6 rfl rfl (hat _) hl) rfl rfl ?_
 refine sE (B0 rfl) rfl (fun b212 => ?_)
 refine sS rfl rfl rfl hl hone rfl ?_ (hu := by exact O5 hl.symm)
 refine sD (nS (tR (sQ (qM rfl) rfl ?_)))
 refine sL (A6 rfl rfl (H0 (by repeat first | exact mH | apply mT)) hl) rfl rfl ?_
 refine sQ (qM rfl) rfl ?_
 (have hci := hcm i hil; have hK := ih ks[i] (List.getElem_mem hil) (d + 1) n1 Gi _ (hvk i hil) ho1 (hw2' _ (List.getElem_mem hil)) (by omega) hre; rw [hins] at hK; refine M0 rfl (B1k hK) rfl rfl (fun v G3 hle3 hh => ?_); obtain ⟨p3, c3, rfl, hr3⟩ := hh)
 (refine E9 (B4 rfl rfl rfl (by omega) (by unfold maxLen; omega) rfl) rfl ?_; rintro _ ⟨b221, rfl⟩)
 refine U9 rfl rfl rfl rfl rfl (fun _ _ => by repeat (first | exact Sw.here | apply Sw.there)) (J9 (by repeat first | exact mH | apply mT)) rfl (by simp [Value.oneCell']) (by unfold maxLen; omega) (by omega) rfl (fun pn' cn' => ?_)
 refine sQ (qA rfl) rfl (sD (M2 (nS (tR ?_))))
 refine sP (H2 rfl rfl (by omega) (by omega)) rfl rfl ?_
 refine sQ (qM rfl) rfl (sD ?_)
 refine J4 (i + 1, pn', cn', vs ++ [.slice p3 (J7 n1 ks[i]).length c3], G3) ?_ ?_ ?_
 (simp only [E7]; exact C2)
 (dsimp only; exact ⟨by omega, hle.trans hle3, by rw [List.take_succ_eq_append_getElem hil, List.map_append]; exact (hrl.mono hle3).snoc hr3⟩)
 (show ks.length - (i + 1) < ks.length - i; omega)
 refine H9 ?_
 (obtain rfl : i = ks.length := (by omega); refine A1k (by repeat (first | exact Pk.here | apply Pk.there)) (fun G2 hle2 hsl2 hno2 => ?_); rw [List.take_length] at hrl; replace hrl := hrl.mono hle2; have hle02 := hle.trans hle2; have hvl := hrl.len; rw [List.length_map] at hvl)
 refine N9 ?_
 refine B2 (tS (tR (sB (qE rfl rfl) rfl rfl (fun h265 => ?_) (fun h265 => ?_))))
 refine E1 ?_
 refine sQ (A0w rfl rfl) rfl ?_
 refine sP (N1 rfl rfl (by omega) (by omega)) rfl rfl ?_
 refine M3 ?_
 refine H6 rfl ((hLI (by omega) _)) rfl rfl ?_
 refine sP (N1 rfl rfl (by omega) (by omega)) rfl rfl ?_
 (have hq1 : k = 1 := (by omega); refine E9 (A1h rfl rfl (A4s 3 _ _ ⟨by decide, by decide⟩ (by unfold C1; omega)) (List.Perm.refl _) rfl) rfl ?_; rintro _ ⟨v, G7, outs, rfl, hle7, hG, p7, n7, c7, x7, rfl, rfl, ho7, h71, h72⟩; replace hG := hG.symm; subst hG)
 refine sQ (qA rfl) rfl (sD (nS (tT (rB (rS ?_)))))
 refine T3 (rT rfl) (by repeat (first | exact Pk.here | apply Pk.there)) ?_
 (have hq1 : k = 1 := (by omega); exact A0r.mk ho7 (by rw [P8, if_pos hq1]; exact congrArg (fun z => [((3 : Int), z)]) (by omega)) (by omega) (by omega))
 refine sQ (qA rfl) rfl (sD (nS (cF rfl (tS (tR ?_)))))
 refine sB (qE rfl rfl) rfl rfl (fun h296 => ?_) (fun h296 => ?_)
 refine E8 ?_
 (have hq1 : k = 2 := (by omega); refine E9 (A1h rfl rfl (A4s 1 _ _ ⟨by decide, by decide⟩ hnum) (List.Perm.refl _) rfl) rfl ?_; rintro _ ⟨v, G7, outs, rfl, hle7, hG, p7, n7, c7, x7, rfl, rfl, ho7, h71, h72⟩; replace hG := hG.symm; subst hG)
 refine sQ (qA rfl) rfl (sD (nS (tT (rB (rS ?_)))))
 refine T3 (rT rfl) (by repeat (first | exact Pk.here | apply Pk.there)) ?_
 (have hq1 : k = 2 := (by omega); exact A0r.mk ho7 (by rw [P8, if_neg (by omega), if_pos hq1]) (by omega) (by omega))
 refine sQ (qA rfl) rfl (sD (nS (cF rfl (tS (tR ?_)))))
 refine sB (qE rfl rfl) rfl rfl (fun h321 => ?_) (fun h321 => ?_)
 refine C5 ?_
 (have hq1 : k = 3 := (by omega); refine E9 (A1h rfl rfl (A4s 2 1 _ ⟨by decide, by decide⟩ ⟨by decide, by decide⟩) (List.Perm.refl _) rfl) rfl ?_; rintro _ ⟨v, G7, outs, rfl, hle7, hG, p7, n7, c7, x7, rfl, rfl, ho7, h71, h72⟩; replace hG := hG.symm; subst hG)
 refine sQ (qA rfl) rfl (sD (nS (tT (rB (rS ?_)))))
 refine T3 (rT rfl) (by repeat (first | exact Pk.here | apply Pk.there)) ?_
 (have hq1 : k = 3 := (by omega); exact A0r.mk ho7 (by rw [P8, if_neg (by omega), if_neg (by omega), if_pos hq1]) (by omega) (by omega))
 refine sQ (qA rfl) rfl (sD (nS (cF rfl (tS (tR ?_)))))
 refine sB (qE rfl rfl) rfl rfl (fun h344 => ?_) (fun h344 => ?_)
 refine C5 ?_
 (have hq1 : k = 4 := (by omega); refine E9 (A1h rfl rfl (A4s 2 0 _ ⟨by decide, by decide⟩ ⟨by decide, by decide⟩) (List.Perm.refl _) rfl) rfl ?_; rintro _ ⟨v, G7, outs, rfl, hle7, hG, p7, n7, c7, x7, rfl, rfl, ho7, h71, h72⟩; replace hG := hG.symm; subst hG)
 refine sQ (qA rfl) rfl (sD (nS (tT (rB (rS ?_)))))
 refine T3 (rT rfl) (by repeat (first | exact Pk.here | apply Pk.there)) ?_
 (have hq1 : k = 4 := (by omega); exact A0r.mk ho7 (by rw [P8, if_neg (by omega), if_neg (by omega), if_neg (by omega), if_pos hq1]) (by omega) (by omega))
 refine sQ (qA rfl) rfl (sD (nS (cF rfl (tS (tR ?_)))))
 refine sP (K9 rfl rfl (by omega)) rfl rfl ?_
 refine sQ (qA rfl) rfl (sD (nS (cF rfl (tS (tR ?_)))))
 refine sB (qE rfl rfl) rfl rfl (fun h374 => ?_) (fun h374 => ?_)
 refine sQ (qA rfl) rfl (sD (nS (qT rfl (tS ?_))))
 (have hq9 : k = 9 := (by omega); have hL := hL9 hq9; obtain ⟨p0, c0, hv0, hr0⟩ := hrl.get 0 (by omega); obtain ⟨p1, c1, hv1, hr1⟩ := hrl.get 1 (by omega); obtain ⟨p2, c2, hv2, hr2⟩ := hrl.get 2 (by omega); obtain ⟨bc, oc, v0, rfl, hvv, hatc, _⟩ := hsl2.kid (i := 0) (by omega); obtain rfl := Option.some.inj (hv0.symm.trans hvv); obtain ⟨_, _, v1, hpp, hvv1, hatc1, _⟩ := hsl2.kid (i := 1) (by omega); cases hpp; obtain rfl := Option.some.inj (hv1.symm.trans hvv1); obtain ⟨_, _, v2, hpp, hvv2, hatc2, _⟩ := hsl2.kid (i := 2) (by omega); cases hpp; obtain rfl := Option.some.inj (hv2.symm.trans hvv2); have hg0 := hgd 0 (by omega); have hg1 := hgd 1 (by omega); have hg2 := hgd 2 (by omega); rw [hg0, hg1, hg2] at hmc; obtain ⟨l0, hl0⟩ : ∃ l, (ks.map (J7 n1))[0]'(by omega) = l := ⟨_, rfl⟩; rw [hl0] at hr0 hg0 hatc hmc; obtain ⟨l1, hl1⟩ : ∃ l, (ks.map (J7 n1))[1]'(by omega) = l := ⟨_, rfl⟩; rw [hl1] at hr1 hg1 hatc1 hmc; obtain ⟨l2, hl2⟩ : ∃ l, (ks.map (J7 n1))[2]'(by omega) = l := ⟨_, rfl⟩; rw [hl2] at hr2 hg2 hatc2 hmc; refine D7 D8 rfl ?_)
 refine H4 (i := 0) (l' := [tt,ff,ff,ff,ff,ff,ff,ff,ff,ff,ff,ff,ff,ff,ff,ff,ff,ff,ff,ff,ff,ff,ff,ff,ff]) rfl D3 (qM rfl) rfl (by kernel_rfl) rfl rfl ?_
 refine aP 1 rfl (B3 (j := 0) rfl rfl rfl (by omega)) rfl ?_
 refine aL 2 rfl (Q8 rfl rfl (hatc _)) rfl ?_
 refine aP 3 rfl (qM rfl) rfl ?_
 refine aP 4 rfl (qM rfl) rfl ?_
 refine aP 5 rfl (B3 (j := 1) rfl rfl rfl (by omega)) rfl ?_
 refine aL 6 rfl (Q8 rfl rfl (hatc1 _)) rfl ?_
 refine aP 7 rfl (W0 rfl rfl) rfl ?_
 refine aP 8 rfl (H2 rfl rfl (by omega) (by omega)) rfl ?_
 refine aP 10 rfl (qM rfl) rfl ?_
 refine aP 11 rfl (B3 (j := 1) rfl rfl rfl (by omega)) rfl ?_
 refine aL 12 rfl (Q8 rfl rfl (hatc1 _)) rfl ?_
 refine aP 13 rfl (qM rfl) rfl ?_
 refine aP 14 rfl (qM rfl) rfl ?_
 refine aP 15 rfl (B3 (j := 2) rfl rfl rfl (by omega)) rfl ?_
 refine aL 16 rfl (Q8 rfl rfl (hatc2 _)) rfl ?_
 refine aP 17 rfl (W0 rfl rfl) rfl ?_
 refine aP 19 rfl (qM rfl) rfl ?_
 refine aP 20 rfl (B3 (j := 2) rfl rfl rfl (by omega)) rfl ?_
 refine aL 21 rfl (Q8 rfl rfl (hatc2 _)) rfl ?_
 refine A2 9 ?_
 (refine D6 rfl (A1h (ins := []) rfl rfl (A5H 9 _ _ ⟨by decide, by decide⟩ (by unfold C1; omega)) (List.Perm.refl _) rfl) rfl rfl ?_; rintro _ ⟨v, G7, outs, rfl, hle7, rfl, p7, c7, rfl, hr7⟩)
 refine A2 18 ?_
 (refine D6 rfl (A1h (ins := []) rfl rfl (A5H 10 _ _ ⟨by decide, by decide⟩ (by unfold C1; omega)) (List.Perm.refl _) rfl) rfl rfl ?_; rintro _ ⟨v, G8, outs, rfl, hle8, rfl, p8, c8, rfl, hr8⟩)
 refine A2 22 ?_
 (refine D6 rfl (B4 rfl rfl rfl (by omega) (by unfold maxLen; omega) rfl) rfl rfl ?_; rintro _ ⟨b406, rfl⟩)
 refine A2 23 ?_
 (have hq9 : k = 9 := (by omega); refine A9M (cs := [.slice p0 l0.length c0, .slice p7 1 c7, .slice p1 l1.length c1, .slice p8 1 c8, .slice p2 l2.length c2]) (by repeat (first | exact Pk.here | apply Pk.there)) (fun G9 hle9 hsl9 hno9 => ?_); have hL3 : A0e G9 [l0, [(9, (l1.length : Int) + 1)], l1, [(10, (l2.length : Int))], l2] [.slice p0 l0.length c0, .slice p7 1 c7, .slice p1 l1.length c1, .slice p8 1 c8, .slice p2 l2.length c2] := ⟨p0, c0, _, rfl, hr0.mono (hle7.trans (hle8.trans hle9)), p7, c7, _, rfl, hr7.mono (hle8.trans hle9), p1, c1, _, rfl, hr1.mono (hle7.trans (hle8.trans hle9)), p8, c8, _, rfl, hr8.mono hle9, p2, c2, _, rfl, hr2.mono (hle7.trans (hle8.trans hle9)), rfl⟩; have hC := A2r _ _ _ _ G9 hsl9 hL3 (by simp only [List.flatten_cons, List.flatten_nil, List.length_append, List.length_cons, List.length_nil]; omega) (by simp only [List.flatten_cons, List.flatten_nil, List.length_append, List.length_cons, List.length_nil]; omega); refine D6 rfl (A2v (ins := []) rfl hC (List.Perm.refl _) rfl) rfl rfl ?_; rintro _ ⟨v, G5, outs, rfl, hle5, hG, p6, n6, c6, x6, rfl, rfl, ho6, h61, h62⟩; replace hG := hG.symm; subst hG)
 refine aP 24 rfl (qA rfl) rfl ?_
 refine B9 (nS (tT (rB (rS ?_))))
 refine T3 (rT rfl) (by repeat (first | exact Pk.here | apply Pk.there)) ?_
 (have hq1 : k = 9 := (by omega); exact A0r.mk ho6 (by rw [P8, if_neg (by omega), if_neg (by omega), if_neg (by omega), if_neg (by omega), if_neg (by omega), if_pos hq1, hg0, hg1, hg2]; simp) (by omega) (by simp at h62; omega))
 refine sQ (qA rfl) rfl (sD (nS (cF rfl (tS (tR ?_)))))
 refine sB (qE rfl rfl) rfl rfl (fun h423 => ?_) (fun h423 => ?_)
 refine L4 ?_
 (have hq0 := hL0 (by omega); have hC := A2r (ks.map (J7 n1)) vs pn cn G2 (by rw [hmL]; exact hsl2) hrl (hpos hq0) (by omega); rw [hmL] at hC; refine C6 rfl hC (List.Perm.refl _) rfl rfl (fun v G5 outs hle5 hh => ?_); obtain ⟨hG, p6, n6, c6, x6, rfl, rfl, ho6, h61, h62⟩ := hh; replace hG := hG.symm; subst hG; refine A1j (fun a w hs => (hs.slc_form (p := p6) (c := c6) (el := 72) (sz := 2) (n := n6) (cs := x6) (by repeat first | exact mH | apply mT)).2.2 (by omega)) (fun hq => ?_); obtain ⟨g6, rfl⟩ := hq)
 refine sQ (qM rfl) rfl (sQ (R6 rfl rfl) rfl ?_)
 (refine E9 (B4 rfl rfl rfl (by omega) (by unfold maxLen; omega) rfl) rfl ?_; rintro _ ⟨b439, rfl⟩)
 refine U9 rfl rfl rfl rfl rfl (fun _ _ => by repeat (first | exact Sw.here | apply Sw.there)) (J9 (by repeat first | exact mH | apply mT)) rfl (by simp [Value.oneCell']) (by unfold maxLen; omega) (by omega) rfl (fun pn' cn' => ?_)
 refine sQ (qA rfl) rfl (sD (nS (tT ?_)))
 refine T3 (rT rfl) (by repeat (first | exact Pk.here | apply Pk.there)) ?_
 (exact A0r.mk (ho6.snoc ⟨by decide, by decide⟩ ⟨by decide, by decide⟩) (by rw [P8, if_neg (by omega), if_neg (by omega), if_neg (by omega), if_neg (by omega), if_neg (by omega), if_neg (by omega)]; unfold A0d; (repeat' split) <;> first | rfl | (exfalso; omega)) (by omega) (by omega))
 refine sQ (qA rfl) rfl (sD (nS (cF rfl (tS (tR ?_)))))
 refine sB (qE rfl rfl) rfl rfl (fun h453 => ?_) (fun h453 => ?_)
 refine L4 ?_
 (have hq0 := hL0 (by omega); have hC := A2r (ks.map (J7 n1)) vs pn cn G2 (by rw [hmL]; exact hsl2) hrl (hpos hq0) (by omega); rw [hmL] at hC; refine C6 rfl hC (List.Perm.refl _) rfl rfl (fun v G5 outs hle5 hh => ?_); obtain ⟨hG, p6, n6, c6, x6, rfl, rfl, ho6, h61, h62⟩ := hh; replace hG := hG.symm; subst hG; refine A1j (fun a w hs => (hs.slc_form (p := p6) (c := c6) (el := 72) (sz := 2) (n := n6) (cs := x6) (by repeat first | exact mH | apply mT)).2.2 (by omega)) (fun hq => ?_); obtain ⟨g6, rfl⟩ := hq)
 refine sQ (qM rfl) rfl (sQ (R6 rfl rfl) rfl ?_)
 (refine E9 (B4 rfl rfl rfl (by omega) (by unfold maxLen; omega) rfl) rfl ?_; rintro _ ⟨b469, rfl⟩)
 refine U9 rfl rfl rfl rfl rfl (fun _ _ => by repeat (first | exact Sw.here | apply Sw.there)) (J9 (by repeat first | exact mH | apply mT)) rfl (by simp [Value.oneCell']) (by unfold maxLen; omega) (by omega) rfl (fun pn' cn' => ?_)
 refine sQ (qA rfl) rfl (sD (nS (tT ?_)))
 refine T3 (rT rfl) (by repeat (first | exact Pk.here | apply Pk.there)) ?_
 (exact A0r.mk (ho6.snoc ⟨by decide, by decide⟩ ⟨by decide, by decide⟩) (by rw [P8, if_neg (by omega), if_neg (by omega), if_neg (by omega), if_neg (by omega), if_neg (by omega), if_neg (by omega)]; unfold A0d; (repeat' split) <;> first | rfl | (exfalso; omega)) (by omega) (by omega))
 refine sQ (qA rfl) rfl (sD (nS (cF rfl (tS (tR ?_)))))
 refine sB (qE rfl rfl) rfl rfl (fun h483 => ?_) (fun h483 => ?_)
 refine L4 ?_
 (have hq0 := hL0 (by omega); have hC := A2r (ks.map (J7 n1)) vs pn cn G2 (by rw [hmL]; exact hsl2) hrl (hpos hq0) (by omega); rw [hmL] at hC; refine C6 rfl hC (List.Perm.refl _) rfl rfl (fun v G5 outs hle5 hh => ?_); obtain ⟨hG, p6, n6, c6, x6, rfl, rfl, ho6, h61, h62⟩ := hh; replace hG := hG.symm; subst hG; refine A1j (fun a w hs => (hs.slc_form (p := p6) (c := c6) (el := 72) (sz := 2) (n := n6) (cs := x6) (by repeat first | exact mH | apply mT)).2.2 (by omega)) (fun hq => ?_); obtain ⟨g6, rfl⟩ := hq)
 refine sQ (qM rfl) rfl (sQ (R6 rfl rfl) rfl ?_)
 (refine E9 (B4 rfl rfl rfl (by omega) (by unfold maxLen; omega) rfl) rfl ?_; rintro _ ⟨b499, rfl⟩)
 refine U9 rfl rfl rfl rfl rfl (fun _ _ => by repeat (first | exact Sw.here | apply Sw.there)) (J9 (by repeat first | exact mH | apply mT)) rfl (by simp [Value.oneCell']) (by unfold maxLen; omega) (by omega) rfl (fun pn' cn' => ?_)
 refine sQ (qA rfl) rfl (sD (nS (tT ?_)))
 refine T3 (rT rfl) (by repeat (first | exact Pk.here | apply Pk.there)) ?_
 (exact A0r.mk (ho6.snoc ⟨by decide, by decide⟩ ⟨by decide, by decide⟩) (by rw [P8, if_neg (by omega), if_neg (by omega), if_neg (by omega), if_neg (by omega), if_neg (by omega), if_neg (by omega)]; unfold A0d; (repeat' split) <;> first | rfl | (exfalso; omega)) (by omega) (by omega))
 refine sQ (qA rfl) rfl (sD (nS (cF rfl (tS (tR ?_)))))
 refine sB (qE rfl rfl) rfl rfl (fun h513 => ?_) (fun h513 => ?_)
 refine L4 ?_
 (have hq0 := hL0 (by omega); have hC := A2r (ks.map (J7 n1)) vs pn cn G2 (by rw [hmL]; exact hsl2) hrl (hpos hq0) (by omega); rw [hmL] at hC; refine C6 rfl hC (List.Perm.refl _) rfl rfl (fun v G5 outs hle5 hh => ?_); obtain ⟨hG, p6, n6, c6, x6, rfl, rfl, ho6, h61, h62⟩ := hh; replace hG := hG.symm; subst hG; refine A1j (fun a w hs => (hs.slc_form (p := p6) (c := c6) (el := 72) (sz := 2) (n := n6) (cs := x6) (by repeat first | exact mH | apply mT)).2.2 (by omega)) (fun hq => ?_); obtain ⟨g6, rfl⟩ := hq)
 refine sQ (qM rfl) rfl (sQ (R6 rfl rfl) rfl ?_)
 (refine E9 (B4 rfl rfl rfl (by omega) (by unfold maxLen; omega) rfl) rfl ?_; rintro _ ⟨b529, rfl⟩)
 refine U9 rfl rfl rfl rfl rfl (fun _ _ => by repeat (first | exact Sw.here | apply Sw.there)) (J9 (by repeat first | exact mH | apply mT)) rfl (by simp [Value.oneCell']) (by unfold maxLen; omega) (by omega) rfl (fun pn' cn' => ?_)
 refine sQ (qA rfl) rfl (sD (nS (tT ?_)))
 refine T3 (rT rfl) (by repeat (first | exact Pk.here | apply Pk.there)) ?_
 (exact A0r.mk (ho6.snoc ⟨by decide, by decide⟩ ⟨by decide, by decide⟩) (by rw [P8, if_neg (by omega), if_neg (by omega), if_neg (by omega), if_neg (by omega), if_neg (by omega), if_neg (by omega)]; unfold A0d; (repeat' split) <;> first | rfl | (exfalso; omega)) (by omega) (by omega))
 refine sQ (qA rfl) rfl (sD (nS (cF rfl (tS (tR ?_)))))
 refine sB (qE rfl rfl) rfl rfl (fun h543 => ?_) (fun h543 => ?_)
 refine L4 ?_
 (have hq0 := hL0 (by omega); have hC := A2r (ks.map (J7 n1)) vs pn cn G2 (by rw [hmL]; exact hsl2) hrl (hpos hq0) (by omega); rw [hmL] at hC; refine C6 rfl hC (List.Perm.refl _) rfl rfl (fun v G5 outs hle5 hh => ?_); obtain ⟨hG, p6, n6, c6, x6, rfl, rfl, ho6, h61, h62⟩ := hh; replace hG := hG.symm; subst hG; refine A1j (fun a w hs => (hs.slc_form (p := p6) (c := c6) (el := 72) (sz := 2) (n := n6) (cs := x6) (by repeat first | exact mH | apply mT)).2.2 (by omega)) (fun hq => ?_); obtain ⟨g6, rfl⟩ := hq)
 refine sQ (qM rfl) rfl (sQ (R6 rfl rfl) rfl ?_)
 (refine E9 (B4 rfl rfl rfl (by omega) (by unfold maxLen; omega) rfl) rfl ?_; rintro _ ⟨b559, rfl⟩)
 refine U9 rfl rfl rfl rfl rfl (fun _ _ => by repeat (first | exact Sw.here | apply Sw.there)) (J9 (by repeat first | exact mH | apply mT)) rfl (by simp [Value.oneCell']) (by unfold maxLen; omega) (by omega) rfl (fun pn' cn' => ?_)
 refine sQ (qA rfl) rfl (sD (nS (tT ?_)))
 refine T3 (rT rfl) (by repeat (first | exact Pk.here | apply Pk.there)) ?_
 (exact A0r.mk (ho6.snoc ⟨by decide, by decide⟩ ⟨by decide, by decide⟩) (by rw [P8, if_neg (by omega), if_neg (by omega), if_neg (by omega), if_neg (by omega), if_neg (by omega), if_neg (by omega)]; unfold A0d; (repeat' split) <;> first | rfl | (exfalso; omega)) (by omega) (by omega))
 refine L4 ?_
 (have hq0 := hL0 (by omega); have hC := A2r (ks.map (J7 n1)) vs pn cn G2 (by rw [hmL]; exact hsl2) hrl (hpos hq0) (by omega); rw [hmL] at hC; refine C6 rfl hC (List.Perm.refl _) rfl rfl (fun v G5 outs hle5 hh => ?_); obtain ⟨hG, p6, n6, c6, x6, rfl, rfl, ho6, h61, h62⟩ := hh; replace hG := hG.symm; subst hG; refine A1j (fun a w hs => (hs.slc_form (p := p6) (c := c6) (el := 72) (sz := 2) (n := n6) (cs := x6) (by repeat first | exact mH | apply mT)).2.2 (by omega)) (fun hq => ?_); obtain ⟨g6, rfl⟩ := hq)
 refine sQ (qM rfl) rfl (sQ (R6 rfl rfl) rfl ?_)
 (refine E9 (B4 rfl rfl rfl (by omega) (by unfold maxLen; omega) rfl) rfl ?_; rintro _ ⟨b582, rfl⟩)
 refine U9 rfl rfl rfl rfl rfl (fun _ _ => by repeat (first | exact Sw.here | apply Sw.there)) (J9 (by repeat first | exact mH | apply mT)) rfl (by simp [Value.oneCell']) (by unfold maxLen; omega) (by omega) rfl (fun pn' cn' => ?_)
 refine sQ (qA rfl) rfl (sD (nS (tT ?_)))
 refine T3 (rT rfl) (by repeat (first | exact Pk.here | apply Pk.there)) ?_
 (exact A0r.mk (ho6.snoc ⟨by decide, by decide⟩ ⟨by decide, by decide⟩) (by rw [P8, if_neg (by omega), if_neg (by omega), if_neg (by omega), if_neg (by omega), if_neg (by omega), if_neg (by omega)]; unfold A0d; (repeat' split) <;> first | rfl | (exfalso; omega)) (by omega) (by omega))
end Gw
end Go.Proofs.YtgodjiieijekiaaGreatDoor
