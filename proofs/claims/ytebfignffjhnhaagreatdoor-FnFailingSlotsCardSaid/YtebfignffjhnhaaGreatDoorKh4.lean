/-
  The calculus of casts is that of the evaluation. What a step gives is small. The program's functions on types and contexts: each computes what the plain words say. Nodes replaced: the program's put, the reference model's l16Replace. The reference model's replacing of nodes. What a node wants of its operands. The type of a term with casts. castType and CastTypeOf compute the type of a term with casts. ReplaceAt: the program's and the reference model's. Nodes at paths, in plain words: paths concatenate. Replacing a node, in plain words: what is put is found, and putting back undoes. A closed term's type is its type everywhere; a node replaced by one of its type leaves the type. Casts put into a term, in plain words. The reference's types are those of the insertion. Terms with casts: what a type says of a node. Casts put into a term: operand by operand. Precision of types and terms, on both sides. Casts put into terms of which one is more precise: the results are so, too. A function that only reads may be handed an own slice. The program's evaluator: proxies, injections, values, casts. The program's evaluator: values, casts, nodes.
-/
import Derived.Test.YtebfignffjhnhaaGreatDoorKh1
import Derived.Test.YtebfignffjhnhaaGreatDoorKh3
import Derived.Test.YtebfignffjhnhaaGreatDoorKh2
import Derived.Test.YtebfignffjhnhaaGreatDoorKh0
set_option linter.unusedVariables false
set_option linter.unusedSimpArgs false
set_option maxHeartbeats 0
set_option maxRecDepth 100000
set_option synthInstance.maxSize 4000
set_option synthInstance.maxHeartbeats 0
namespace Go.Proofs.YtebfignffjhnhaaGreatDoor
open Go Go.RowKit
namespace Gw
def GT.ty : GT → Ty
 | .any => .mk 1 []
 | .int => .mk 2 []
 | .bool => .mk 3 []
 | .fn a b => .mk 4 [a.ty, b.ty]
 | .pr a b => .mk 5 [a.ty, b.ty]
def GE.tm : GE → Tm
 | .var x => .mk 1 x 0 B3 B3 0 []
 | .num n => .mk 2 ⟨#[]⟩ n B3 B3 0 []
 | .tru b => .mk (if b = true then 3 else 4) ⟨#[]⟩ 0 B3 B3 0 []
 | .lam x A e => .mk 5 x 0 A.ty B3 0 [e.tm]
 | .app f a => .mk 6 ⟨#[]⟩ 0 B3 B3 0 [f.tm, a.tm]
 | .ar s a b => .mk (if s = true then 8 else 7) ⟨#[]⟩ 0 B3 B3 0 [a.tm, b.tm]
 | .ite c a b => .mk 9 ⟨#[]⟩ 0 B3 B3 0 [c.tm, a.tm, b.tm]
 | .pair a b => .mk 10 ⟨#[]⟩ 0 B3 B3 0 [a.tm, b.tm]
 | .part s e => .mk (if s = true then 12 else 11) ⟨#[]⟩ 0 B3 B3 0 [e.tm]
 | .cast A B l e => .mk 14 ⟨#[]⟩ 0 B.ty A.ty l [e.tm]
theorem GT.inj : ∀ {a b : GT}, a.ty = b.ty → a = b := by
 intro a
 induction a with
 | any => intro b h; cases b <;> first | rfl | (simp [GT.ty] at h)
 | int => intro b h; cases b <;> first | rfl | (simp [GT.ty] at h)
 | bool => intro b h; cases b <;> first | rfl | (simp [GT.ty] at h)
 | fn a1 a2 i j =>
  intro b h
  cases b with
  | fn b1 b2 => simp only [GT.ty, Ty.mk.injEq, List.cons.injEq, true_and, and_true] at h; rw [i h.1, j h.2]
  | _ => simp [GT.ty] at h
 | pr a1 a2 i j =>
  intro b h
  cases b with
  | pr b1 b2 => simp only [GT.ty, Ty.mk.injEq, List.cons.injEq, true_and, and_true] at h; rw [i h.1, j h.2]
  | _ => simp [GT.ty] at h
theorem A9X (a : GT) : V1 a.ty = a.gr.ty := by cases a <;> rfl
theorem A19 {a : GT} : a.ty.k = 1 ↔ a = .any := by cases a <;> simp [GT.ty, Ty.k]
theorem A3l {a : GT} : U3 a.ty = true ↔ a.Gd := by
 unfold U3 GT.Gd
 rw [Bool.and_eq_true, decide_eq_true_eq, A1o, A9X, Ne, A19]
 constructor
 ·rintro ⟨h1, h2⟩; exact ⟨h1, (GT.inj h2).symm⟩
 ·rintro ⟨h1, h2⟩; exact ⟨h1, by rw [h2]⟩
theorem B4v {a : GT} (h : ¬a.Gd) : U3 a.ty = false := by
 cases h2 : U3 a.ty with
 | false => rfl
 | true => exact absurd (A3l.1 h2) h
theorem V3 : ∀ e : GE, H2 e.tm = true ↔ GV e := by
 intro e
 induction e with
 | var x => rw [GE.tm, H2]; simp; intro h; cases h
 | num n => rw [GE.tm, H2]; simp; exact .num
 | tru b => rw [GE.tm, H2]; cases b <;> (simp; exact .tru)
 | lam x A e _ => rw [GE.tm, H2]; simp; exact .lam
 | app f a _ _ => rw [GE.tm, H2]; simp; intro h; cases h
 | ar s a b _ _ => rw [GE.tm, H2]; cases s <;> (simp; intro h; cases h)
 | ite c a b _ _ _ => rw [GE.tm, H2]; simp; intro h; cases h
 | pair a b i j =>
  rw [GE.tm, H2, if_pos (.inl rfl), A1f, A1f, A1f, Bool.and_true, Bool.and_eq_true, i, j]
  exact ⟨fun h => .pair h.1 h.2, fun h => by cases h with | pair a b => exact ⟨a, b⟩⟩
 | part s e _ => rw [GE.tm, H2]; cases s <;> (simp; intro h; cases h)
 | cast A B l e i =>
  rw [GE.tm, H2]
  by_cases hp : A.ty.k = B.ty.k ∧ (B.ty.k = 4 ∨ B.ty.k = 5)
  ·rw [if_pos (.inr (.inl ⟨rfl, hp⟩)), A1f, A1f, Bool.and_true, i]
   constructor
   ·intro h
    cases B <;> cases A <;> first | exact .pf h | exact .pp h | (exfalso; simp [GT.ty, Ty.k] at hp)
   ·intro h; exact h.ofCast
  ·by_cases hi : B.ty.k = 1 ∧ U3 A.ty = true
   ·rw [if_pos (.inr (.inr ⟨rfl, hi⟩)), A1f, A1f, Bool.and_true, i]
    constructor
    ·intro h
     obtain rfl := A19.1 hi.1
     exact .inj h (A3l.1 hi.2)
    ·intro h; exact h.ofCast
   ·rw [if_neg (by rintro (h | h | h); exact absurd h (by decide); exact hp h.2; exact hi h.2)]
    constructor
    ·intro h; exact absurd (of_decide_eq_true h) (by decide)
    ·intro h
     exfalso
     cases h with
     | pf _ => exact hp ⟨rfl, .inl rfl⟩
     | pp _ => exact hp ⟨rfl, .inr rfl⟩
     | inj _ hg => exact hi ⟨rfl, A3l.2 hg⟩
theorem A48 {e : GE} (h : ¬GV e) : H2 e.tm = false := by
 cases h2 : H2 e.tm with
 | false => rfl
 | true => exact absurd ((V3 e).1 h2) h
theorem nv {e r : GE} (h : GS e r) : H2 e.tm = false := A48 fun hv => hv.noS _ h
theorem B4w (x : ByteArray) (v : GE) : ∀ e : GE, (e.sub x v).tm = T7 x v.tm e.tm := by
 intro e
 induction e with
 | var y =>
  rw [GE.sub, GE.tm, T7]
  by_cases h : y = x
  ·rw [if_pos h, if_pos ⟨rfl, h⟩]
  ·rw [if_neg h, if_neg (fun c => h c.2), if_neg (by rintro ⟨h, _⟩; exact absurd h (by decide)), GE.tm, S7]
 | num n => rw [GE.sub, GE.tm, T7]; simp [S7]
 | tru b => rw [GE.sub, GE.tm, T7]; cases b <;> simp [S7]
 | lam y A e i =>
  by_cases h : y = x
  ·rw [GE.sub, if_pos h, GE.tm, T7, if_neg (by rintro ⟨h, _⟩; exact absurd h (by decide)), if_pos ⟨rfl, h⟩]
  ·rw [GE.sub, if_neg h, GE.tm, GE.tm, T7, if_neg (by rintro ⟨h, _⟩; exact absurd h (by decide)), if_neg (fun c => h c.2), i, S7, S7]
 | app f a i j => rw [GE.sub, GE.tm, GE.tm, T7, i, j]; simp [S7]
 | ar s a b i j => rw [GE.sub, GE.tm, GE.tm, T7, i, j]; cases s <;> simp [S7]
 | ite c a b i j k => rw [GE.sub, GE.tm, GE.tm, T7, i, j, k]; simp [S7]
 | pair a b i j => rw [GE.sub, GE.tm, GE.tm, T7, i, j]; simp [S7]
 | part s e i => rw [GE.sub, GE.tm, GE.tm, T7, i]; cases s <;> simp [S7]
 | cast A B l e i => rw [GE.sub, GE.tm, GE.tm, T7, i]; simp [S7]
section
variable {k : Int} {nm : ByteArray} {num : Int} {ty fr : Ty} {lb : Int} {a b c : Tm} {t : Tm} {l : Int}
theorem A3m (h : H2 a = false) (ks : List Tm) (hn : k = 9 ∨ ks.length < 3) (r : Tm) (hs : H8 a = (r, 1, 0)) : H8 (.mk k nm num ty fr lb (a :: ks)) = (.mk k nm num ty fr lb (r :: ks), 1, 0) := by
 have : ∃ n, (if k = 9 then 1 else (a :: ks).length) = n + 1 := ⟨if k = 9 then 0 else ks.length, by split <;> simp⟩
 obtain ⟨n, hn⟩ := this
 rw [H8, hn, V2, if_neg (by rw [h]; decide), hs]
 simp
theorem B4x (h : H2 a = false) (ks : List Tm) (hs : (H8 a).2.1 = 2) : (H8 (.mk k nm num ty fr lb (a :: ks))).2.1 = 2 := by
 have : ∃ n, (if k = 9 then 1 else (a :: ks).length) = n + 1 := ⟨if k = 9 then 0 else ks.length, by split <;> simp⟩
 obtain ⟨n, hn⟩ := this
 rw [H8, hn, V2, if_neg (by rw [h]; decide), hs]
 simp
theorem A6P (h0 : H2 a = true) (h : H2 b = false) (hk : k ≠ 9) (r : Tm) (hs : H8 b = (r, 1, 0)) : H8 (.mk k nm num ty fr lb [a, b]) = (.mk k nm num ty fr lb [a, r], 1, 0) := by
 rw [H8, if_neg hk]
 simp only [List.length_cons, List.length_nil, V2, h0, h, if_true, hs]
 simp
theorem B4y (h0 : H2 a = true) (h : H2 b = false) (hk : k ≠ 9) (hs : (H8 b).2.1 = 2) : (H8 (.mk k nm num ty fr lb [a, b])).2.1 = 2 := by
 rw [H8, if_neg hk]
 simp only [List.length_cons, List.length_nil, V2, h0, h, if_true, hs]
 simp
theorem A2H (h : H2 a = true) : H8 (.mk k nm num ty fr lb [a]) = N7 k ty fr lb [a] := by
 rw [H8, show (if k = 9 then 1 else [a].length) = 1 by split <;> rfl, V2, h]
 simp [V2]
theorem A6Q (h : H2 a = true) (h2 : H2 b = true) (hk : k ≠ 9) : H8 (.mk k nm num ty fr lb [a, b]) = N7 k ty fr lb [a, b] := by
 rw [H8, if_neg hk]
 simp [V2, h, h2]
theorem B4z (h : H2 a = true) : H8 (.mk 9 nm num ty fr lb [a, b, c]) = N7 9 ty fr lb [a, b, c] := by
 rw [H8, if_pos rfl]
 simp [V2, h]
end
theorem A6R {e r : GE} (h : GS e r) : H8 e.tm = (r.tm, 1, 0) := by
 induction h with
 | app1 s i => rw [GE.tm, A3m (nv s) _ (.inr (by simp)) _ i, GE.tm]
 | app2 v s i => rw [GE.tm, A6P ((V3 _).2 v) (nv s) (by decide) _ i, GE.tm]
 | ar1 s i => rw [GE.tm, A3m (nv s) _ (.inr (by simp)) _ i, GE.tm]
 | @ar2 t _ _ _ v s i => rw [GE.tm, A6P ((V3 _).2 v) (nv s) (by cases t <;> decide) _ i, GE.tm]
 | ite1 s i => rw [GE.tm, A3m (nv s) _ (.inl rfl) _ i, GE.tm]
 | pair1 s i => rw [GE.tm, A3m (nv s) _ (.inr (by simp)) _ i, GE.tm]
 | pair2 v s i => rw [GE.tm, A6P ((V3 _).2 v) (nv s) (by decide) _ i, GE.tm]
 | part1 s i => rw [GE.tm, A3m (nv s) _ (.inr (by simp)) _ i, GE.tm]
 | cast1 s i => rw [GE.tm, A3m (nv s) _ (.inr (by simp)) _ i, GE.tm]
 | beta v =>
  rw [GE.tm, A6Q ((V3 _).2 .lam) ((V3 _).2 v) (by decide), B4w]
  rfl
 | appx v w =>
  rw [GE.tm, A6Q ((V3 _).2 (.pf v)) ((V3 _).2 w) (by decide)]
  rfl
 | @ar t m n =>
  rw [GE.tm, A6Q ((V3 _).2 .num) ((V3 _).2 .num) (by cases t <;> decide)]
  cases t
  ·rfl
  ·unfold A6q
   simp only [if_true]
   show (Z7 (m < n), (1 : Int), (0 : Int)) = _
   unfold Z7
   by_cases h : m < n
   ·simp only [h, if_true, GE.tm, decide_true]; rfl
   ·simp only [h, if_false, GE.tm, decide_false]; rfl
 | @ite b x y =>
  rw [GE.tm, B4z ((V3 _).2 .tru)]
  cases b <;> rfl
 | @part t a b v w =>
  rw [GE.tm, A2H ((V3 _).2 (.pair v w))]
  cases t <;> rfl
 | @partx t a b c d l e v =>
  rw [GE.tm, A2H ((V3 _).2 (.pp v))]
  cases t <;> rfl
 | @cid A l v hv hA =>
  rw [GE.tm, A2H ((V3 _).2 hv)]
  rcases hA with rfl | rfl | rfl <;> rfl
 | @up A l v hv hA hg =>
  rw [GE.tm, A2H ((V3 _).2 hv)]
  cases A with
  | any => exact absurd rfl hA
  | int => exact absurd rfl hg
  | bool => exact absurd rfl hg
  | _ => rfl
 | @down B l v hv hB hg =>
  rw [GE.tm, A2H ((V3 _).2 hv)]
  have hg' := B4v (a := B) fun h => hg h.2
  unfold N7
  rw [if_neg (by decide), if_neg (by decide), if_neg (by decide), if_neg (by decide), if_pos rfl, if_neg, if_neg, if_pos hg', A9X]
  ·rfl
  ·rw [A19]; exact hB
  ·intro h; exact hB (A19.1 h.symm)
 | @hit G l m w hv hG =>
  rw [GE.tm, A2H ((V3 _).2 (.inj hv hG))]
  have hg' := A3l.2 hG
  have hi : inj (GE.tm (.cast G .any m w)) = true := by
   rw [GE.tm]; unfold inj; rw [Bool.and_eq_true]; exact ⟨rfl, hg'⟩
  unfold N7
  rw [if_neg (by decide), if_neg (by decide), if_neg (by decide), if_neg (by decide), if_pos rfl, if_neg, if_neg, if_neg (by rw [hg']; decide), if_neg (by show ¬inj (GE.tm (.cast G .any m w)) = false; rw [hi]; decide), if_pos]
  ·rfl
  ·rfl
  ·rw [A19]; exact hG.1
  ·intro h; exact hG.1 (A19.1 h.symm)
def Bd (e : GE) : Prop := H2 e.tm = false ∧ (H8 e.tm).2.1 = 2
theorem B4A {Γ : GC} {v v' : GE} {U U' : GT} (h : GP Γ v v' U U') : Γ = N0 → GV v → ∀ {A B}, U = .fn A B → (∃ x C e, v = .lam x C e) ∨ ∃ a b c d l e, v = .cast (.fn a b) (.fn c d) l e ∧ GV e := by
 induction h with
 | castR _ _ _ i => exact i
 | castL _ _ _ _ => intro _ hv A B hU; subst hU; cases hv with | pf h => exact .inr ⟨_, _, _, _, _, _, rfl, h⟩
 | castB _ _ _ _ _ => intro _ hv A B hU; subst hU; cases hv with | pf h => exact .inr ⟨_, _, _, _, _, _, rfl, h⟩
 | lam _ _ _ => intro _ _ _ _ _; exact .inl ⟨_, _, _, rfl⟩
 | app _ _ _ _ => intro _ hv; cases hv
 | ite _ _ _ _ _ _ => intro _ hv; cases hv
 | part _ _ => intro _ hv; cases hv
 | ar _ _ _ _ => intro _ hv; cases hv
 | var _ _ => intro _ hv; cases hv
 | _ => intro _ _ _ _ hU; cases hU
theorem B4B {Γ : GC} {v v' : GE} {U U' : GT} (h : GP Γ v v' U U') : Γ = N0 → GV v → ∀ {A B}, U = .pr A B → (∃ a b, v = .pair a b ∧ GV a ∧ GV b) ∨ ∃ a b c d l e, v = .cast (.pr a b) (.pr c d) l e ∧ GV e := by
 induction h with
 | castR _ _ _ i => exact i
 | castL _ _ _ _ => intro _ hv A B hU; subst hU; cases hv with | pp h => exact .inr ⟨_, _, _, _, _, _, rfl, h⟩
 | castB _ _ _ _ _ => intro _ hv A B hU; subst hU; cases hv with | pp h => exact .inr ⟨_, _, _, _, _, _, rfl, h⟩
 | pair _ _ _ _ => intro _ hv _ _ _; cases hv with | pair a b => exact .inl ⟨_, _, rfl, a, b⟩
 | app _ _ _ _ => intro _ hv; cases hv
 | ite _ _ _ _ _ _ => intro _ hv; cases hv
 | part _ _ => intro _ hv; cases hv
 | ar _ _ _ _ => intro _ hv; cases hv
 | var _ _ => intro _ hv; cases hv
 | _ => intro _ _ _ _ hU; cases hU
theorem A9Y {Γ : GC} {v v' : GE} {U U' : GT} (h : GP Γ v v' U U') : Γ = N0 → GV v → U = .int → ∃ n, v = .num n := by
 induction h with
 | castR _ _ _ i => exact i
 | castL _ _ _ _ => intro _ hv hU; subst hU; cases hv
 | castB _ _ _ _ _ => intro _ hv hU; subst hU; cases hv
 | num => intro _ _ _; exact ⟨_, rfl⟩
 | app _ _ _ _ => intro _ hv; cases hv
 | ite _ _ _ _ _ _ => intro _ hv; cases hv
 | part _ _ => intro _ hv; cases hv
 | ar _ _ _ _ => intro _ hv; cases hv
 | var _ _ => intro _ hv; cases hv
 | _ => intro _ _ hU; cases hU
theorem B4C {Γ : GC} {v v' : GE} {U U' : GT} (h : GP Γ v v' U U') : Γ = N0 → GV v → U = .bool → ∃ b, v = .tru b := by
 induction h with
 | castR _ _ _ i => exact i
 | castL _ _ _ _ => intro _ hv hU; subst hU; cases hv
 | castB _ _ _ _ _ => intro _ hv hU; subst hU; cases hv
 | tru => intro _ _ _; exact ⟨_, rfl⟩
 | app _ _ _ _ => intro _ hv; cases hv
 | ite _ _ _ _ _ _ => intro _ hv; cases hv
 | part _ _ => intro _ hv; cases hv
 | ar _ _ _ _ => intro _ hv; cases hv
 | var _ _ => intro _ hv; cases hv
 | _ => intro _ _ hU; cases hU
theorem B4D {Γ : GC} {v v' : GE} {U U' : GT} (h : GP Γ v v' U U') : Γ = N0 → GV v → U = .any → ∃ H l w, v = .cast H .any l w ∧ GV w ∧ H.Gd := by
 induction h with
 | castR _ _ _ i => exact i
 | castL _ _ _ _ => intro _ hv hU; subst hU; cases hv with | inj h g => exact ⟨_, _, _, rfl, h, g⟩
 | castB _ _ _ _ _ => intro _ hv hU; subst hU; cases hv with | inj h g => exact ⟨_, _, _, rfl, h, g⟩
 | app _ _ _ _ => intro _ hv; cases hv
 | ite _ _ _ _ _ _ => intro _ hv; cases hv
 | part _ _ => intro _ hv; cases hv
 | ar _ _ _ _ => intro _ hv; cases hv
 | var _ _ => intro _ hv; cases hv
 | _ => intro _ _ hU; cases hU
theorem A9Z {e e' : GE} {A B A' : GT} {l : Int} (h : GP N0 e e' A A') (hc : Co A B) (hv : GV e) : GV (.cast A B l e) ∨ (∃ r, GS (.cast A B l e) r) ∨ Bd (.cast A B l e) := by
 by_cases hA : A = .any
 ·subst hA
  by_cases hB : B = .any
  ·subst hB; exact .inr (.inl ⟨_, .cid hv (.inl rfl)⟩)
  ·by_cases hg : B.gr = B
   ·obtain ⟨H, m, w, rfl, hw, hH⟩ := B4D h rfl hv rfl
    by_cases he : H = B
    ·subst he; exact .inr (.inl ⟨_, .hit hw hH⟩)
    ·refine .inr (.inr ⟨A48 (by intro h; cases h; exact hB rfl), ?_⟩)
     have hg' := A3l.2 (show B.Gd from ⟨hB, hg⟩)
     have hi : inj (GE.tm (.cast H .any m w)) = true := by
      rw [GE.tm]; unfold inj; rw [Bool.and_eq_true]; exact ⟨rfl, A3l.2 hH⟩
     rw [GE.tm, A2H ((V3 _).2 hv)]
     unfold N7
     rw [if_neg (by decide), if_neg (by decide), if_neg (by decide), if_neg (by decide), if_pos rfl, if_neg, if_neg, if_neg (by rw [hg']; decide), if_neg (by show ¬inj (GE.tm (.cast H .any m w)) = false; rw [hi]; decide), if_neg]
     ·show ¬H.ty.k = B.ty.k
      intro hk
      apply he
      rw [← hH.2, ← hg]
      cases H <;> cases B <;> first | rfl | (simp [GT.ty, Ty.k] at hk)
     ·rw [A19]; exact hB
     ·intro h; exact hB (A19.1 h.symm)
   ·exact .inr (.inl ⟨_, .down hv hB hg⟩)
 ·by_cases hB : B = .any
  ·subst hB
   by_cases hg : A.gr = A
   ·exact .inl (.inj hv ⟨hA, hg⟩)
   ·exact .inr (.inl ⟨_, .up hv hA hg⟩)
  ·cases hc with
   | l => exact absurd rfl hA
   | r => exact absurd rfl hB
   | int => exact .inr (.inl ⟨_, .cid hv (.inr (.inl rfl))⟩)
   | bool => exact .inr (.inl ⟨_, .cid hv (.inr (.inr rfl))⟩)
   | fn _ _ => exact .inl (.pf hv)
   | pr _ _ => exact .inl (.pp hv)
theorem A2I {a : GE} (h : Bd a) {e : GE} {k : Int} {nm : ByteArray} {num : Int} {ty fr : Ty} {lb : Int} {ks : List Tm} (he : e.tm = .mk k nm num ty fr lb (a.tm :: ks)) (hv : ¬GV e) : Bd e :=
 ⟨A48 hv, by rw [he]; exact B4x h.1 ks h.2⟩
theorem A6S {a b : GE} (ha : GV a) (h : Bd b) {e : GE} {k : Int} {nm : ByteArray} {num : Int} {ty fr : Ty} {lb : Int} (hk : k ≠ 9) (he : e.tm = .mk k nm num ty fr lb [a.tm, b.tm]) (hv : ¬GV e) : Bd e :=
 ⟨A48 hv, by rw [he]; exact B4y ((V3 _).2 ha) h.1 hk h.2⟩
theorem A49 {e : GE} (h : Bd e) : ¬GV e := fun hv => by have := (V3 e).2 hv; rw [h.1] at this; cases this
theorem A90 {Γ : GC} {e e' : GE} {A A' : GT} (h : GP Γ e e' A A') : Γ = N0 → GV e ∨ (∃ r, GS e r) ∨ Bd e := by
 induction h with
 | var hx _ => intro hE; subst hE; cases hx
 | num => intro _; exact .inl .num
 | tru => intro _; exact .inl .tru
 | lam _ _ _ => intro _; exact .inl .lam
 | app hf ha i j =>
  intro hE
  refine .inr ?_
  rcases i hE with vf | ⟨r, s⟩ | b
  ·rcases j hE with va | ⟨r, s⟩ | b
   ·rcases B4A hf hE vf rfl with ⟨x, C, e, rfl⟩ | ⟨_, _, _, _, _, _, rfl, hw⟩
    ·exact .inl ⟨_, .beta va⟩
    ·exact .inl ⟨_, .appx hw va⟩
   ·exact .inl ⟨_, .app2 vf s⟩
   ·exact .inr (A6S vf b (k := 6) (by decide) rfl (by intro h; cases h))
  ·exact .inl ⟨_, .app1 s⟩
  ·exact .inr (A2I b (k := 6) rfl (by intro h; cases h))
 | @ar Γ t _ _ _ _ ha hb i j =>
  intro hE
  refine .inr ?_
  rcases i hE with va | ⟨r, s⟩ | b
  ·rcases j hE with vb | ⟨r, s⟩ | b
   ·obtain ⟨m, rfl⟩ := A9Y ha hE va rfl
    obtain ⟨n, rfl⟩ := A9Y hb hE vb rfl
    exact .inl ⟨_, .ar⟩
   ·exact .inl ⟨_, .ar2 va s⟩
   ·exact .inr (A6S va b (k := if t = true then 8 else 7) (by cases t <;> decide) rfl (by intro h; cases h))
  ·exact .inl ⟨_, .ar1 s⟩
  ·exact .inr (A2I b rfl (by intro h; cases h))
 | ite hc _ _ i _ _ =>
  intro hE
  refine .inr ?_
  rcases i hE with vc | ⟨r, s⟩ | b
  ·obtain ⟨m, rfl⟩ := B4C hc hE vc rfl
   exact .inl ⟨_, .ite⟩
  ·exact .inl ⟨_, .ite1 s⟩
  ·exact .inr (A2I b rfl (by intro h; cases h))
 | pair ha hb i j =>
  intro hE
  rcases i hE with va | ⟨r, s⟩ | b
  ·rcases j hE with vb | ⟨r, s⟩ | b
   ·exact .inl (.pair va vb)
   ·exact .inr (.inl ⟨_, .pair2 va s⟩)
   ·exact .inr (.inr (A6S va b (k := 10) (by decide) rfl (by intro h; cases h with | pair _ h => exact A49 b h)))
  ·exact .inr (.inl ⟨_, .pair1 s⟩)
  ·exact .inr (.inr (A2I b rfl (by intro h; cases h with | pair h _ => exact A49 b h)))
 | part h i =>
  intro hE
  refine .inr ?_
  rcases i hE with vc | ⟨r, s⟩ | b
  ·rcases B4B h hE vc rfl with ⟨_, _, rfl, ha, hb⟩ | ⟨_, _, _, _, _, _, rfl, hw⟩
   ·exact .inl ⟨_, .part ha hb⟩
   ·exact .inl ⟨_, .partx hw⟩
  ·exact .inl ⟨_, .part1 s⟩
  ·exact .inr (A2I b rfl (by intro h; cases h))
 | castL h hc _ i =>
  intro hE
  rcases i hE with hv | ⟨r, s⟩ | b
  ·subst hE; exact A9Z h hc hv
  ·exact .inr (.inl ⟨_, .cast1 s⟩)
  ·exact .inr (.inr (A2I b rfl (fun h => A49 b h.ofCast)))
 | castR _ _ _ i => exact i
 | castB h hc _ _ i =>
  intro hE
  rcases i hE with hv | ⟨r, s⟩ | b
  ·subst hE; exact A9Z h hc hv
  ·exact .inr (.inl ⟨_, .cast1 s⟩)
  ·exact .inr (.inr (A2I b rfl (fun h => A49 b h.ofCast)))
theorem B4E {e : Tm} (h : (H3 e).2.1 = 1) : O4 e = true ∧ H2 e = false ∧ (H8 e).2.1 = 1 ∧ (H3 e).1 = (H8 e).1 := by
 unfold H3 at h ⊢
 split at h
 ·cases h
 ·rename_i h1
  split at h
  ·cases h
  ·rename_i h2
   split at h
   ·rename_i h3; exact absurd h h3
   ·rename_i h3
    split at h
    ·cases h
    ·rename_i h4
     rw [if_neg h1, if_neg h2, if_neg h3, if_neg h4]
     refine ⟨by cases hv : O4 e with | true => rfl | false => exact absurd hv h1, by cases hv : H2 e with | false => rfl | true => exact absurd hv h2, ?_, rfl⟩
     apply Classical.byContradiction
     intro hc; exact h3 hc
theorem A91 {e : Tm} (h : (H3 e).2.1 = 0) (hc : (H8 e).2.1 ≠ 0) : H2 e = true ∧ (H3 e).1 = e := by
 unfold H3 at h ⊢
 split at h
 ·cases h
 ·rename_i h1
  split at h
  ·rename_i h2; rw [if_neg h1, if_pos h2]; exact ⟨h2, rfl⟩
  ·split at h
   ·exact absurd h hc
   ·split at h <;> cases h
theorem A92 {n : Nat} {e : Tm} (h : (H3 e).2.1 = 1) : K3 (n + 1) e = ((K3 n (H3 e).1).1, (K3 n (H3 e).1).2.1, (K3 n (H3 e).1).2.2.1, (K3 n (H3 e).1).2.2.2 + 1) := by rw [K3, if_pos h]
theorem B4F : ∀ (n : Nat) {e e' : GE} {A A' : GT}, GP N0 e e' A A' → (K3 n e.tm).2.1 = 0 → ∃ w, (K3 n e.tm).1 = w.tm ∧ GV w ∧ Ss e w := by
 intro n
 have fin : ∀ {e e' : GE} {A A' : GT}, GP N0 e e' A A' → (H3 e.tm).2.1 ≠ 1 → (H3 e.tm).2.1 = 0 → ∃ w, (H3 e.tm).1 = w.tm ∧ GV w ∧ Ss e w := by
  intro e e' A A' hp _ h0
  have hv : H2 e.tm = true := by
   rcases A90 hp rfl with hv | ⟨r, s⟩ | b
   ·exact (V3 _).2 hv
   ·exact (A91 h0 (by rw [A6R s]; show (1 : Int) ≠ 0; decide)).1
   ·exact (A91 h0 (by rw [b.2]; decide)).1
  refine ⟨e, ?_, (V3 _).1 hv, .refl⟩
  unfold H3 at h0 ⊢
  split at h0
  ·cases h0
  ·rename_i h1; rw [if_neg h1, if_pos hv]
 induction n with
 | zero =>
  intro e e' A A' hp h
  rw [K3] at h ⊢
  by_cases h1 : (H3 e.tm).2.1 = 1
  ·rw [if_pos h1] at h; cases h
  ·rw [if_neg h1] at h ⊢; exact fin hp h1 h
 | succ n ih =>
  intro e e' A A' hp h
  by_cases h1 : (H3 e.tm).2.1 = 1
  ·obtain ⟨_, hv, hs, he⟩ := B4E h1
   rcases A90 hp rfl with hv' | ⟨r, s⟩ | b
   ·rw [(V3 _).2 hv'] at hv; cases hv
   ·rw [A92 h1] at h ⊢
    have hr : (H3 e.tm).1 = r.tm := by rw [he, A6R s]
    rw [hr] at h ⊢
    obtain ⟨r', _, hp'⟩ := sim hp rfl s
    obtain ⟨w, h2, h3, h4⟩ := ih hp' h
    exact ⟨w, h2, h3, .step s h4⟩
   ·rw [b.2] at hs; cases hs
  ·rw [K3, if_neg h1] at h ⊢; exact fin hp h1 h
theorem B4G : ∀ {e w : GE}, Ss e w → GV w → ∀ (n : Nat), O4 e.tm = true → ((K3 n e.tm).2.1 = 0 ∧ (K3 n e.tm).1 = w.tm) ∨ (K3 n e.tm).2.1 = 4 ∨ (K3 n e.tm).2.1 = 5 := by
 intro e w h
 induction h with
 | @refl e =>
  intro hv n hc
  have : H3 e.tm = (e.tm, 0, 0) := by unfold H3; rw [if_neg (by rw [hc]; decide), if_pos ((V3 _).2 hv)]
  cases n with
  | zero => rw [K3, this]; exact .inl ⟨rfl, rfl⟩
  | succ n => rw [K3, this]; exact .inl ⟨rfl, rfl⟩
 | @step a b c s _ ih =>
  intro hv n hc
  have hs := A6R s
  have : H3 a.tm = if O4 b.tm = false then (K7, 4, 0) else (b.tm, 1, 0) := by
   unfold H3; rw [if_neg (by rw [hc]; decide), if_neg (by rw [nv s]; decide), hs, if_neg (by show ¬(1 : Int) ≠ 1; decide)]
  cases hcb : O4 b.tm with
  | false =>
   rw [if_pos hcb] at this
   cases n with
   | zero => rw [K3, this]; exact .inr (.inl rfl)
   | succ n => rw [K3, this]; exact .inr (.inl rfl)
  | true =>
   rw [if_neg (by rw [hcb]; decide)] at this
   cases n with
   | zero => rw [K3, this]; exact .inr (.inr rfl)
   | succ n =>
    rw [A92 (by rw [this]), this]
    exact ih hv n hcb
theorem B4H {n : Nat} {e e' : GE} {A A' : GT} (hp : GP N0 e e' A A') (h : (K3 n e.tm).2.1 = 0) (m : Nat) (hc : O4 e'.tm = true) :
  ∃ w, (K3 n e.tm).1 = w.tm ∧ GV w ∧ (((K3 m e'.tm).2.1 = 0 ∧ ∃ w', (K3 m e'.tm).1 = w'.tm ∧ GV w' ∧ w.tx = w'.tx) ∨ (K3 m e'.tm).2.1 = 4 ∨ (K3 m e'.tm).2.1 = 5) := by
 obtain ⟨w, h1, h2, h3⟩ := B4F n hp h
 obtain ⟨r', s, hp2⟩ := B3C h3 hp
 obtain ⟨w', s2, hw', hp3⟩ := A0T hp2 rfl h2
 refine ⟨w, h1, h2, ?_⟩
 rcases B4G (s.trans s2) hw' m hc with ⟨a, b⟩ | a | a
 ·exact .inl ⟨a, w', b, hw', B3D hp3 rfl h2 hw'⟩
 ·exact .inr (.inl a)
 ·exact .inr (.inr a)
theorem B4I {t : Tm} (h : t.small) : t.nm.size ≤ 4294967296 ∧ t.ty.small ∧ t.fr.small ∧ t.ks.length ≤ 4294967296 ∧ Tm.smallL t.ks := by
 cases t; exact A0s.1 h
theorem A93 {ks : List Ty} (h : Ty.smallL ks) (i : Nat) : (kt ks i).small := by
 unfold kt
 rw [List.getD_eq_getElem?_getD]
 cases hi : ks[i]? with
 | none => exact A2G
 | some t => exact Ty.smallL_mem h t (List.mem_of_getElem? hi)
theorem A94 {t : Ty} (h : t.small) : Ty.smallL t.ks := by cases t; simp only [Ty.small] at h; exact h.2
theorem A3n (t : Ty) : (V1 t).small := by
 unfold V1; split <;> simp [O8, Ty.small, Ty.smallL]
theorem A2J {e : Tm} {a b : Ty} {l : Int} (h : e.small) (ha : a.small) (hb : b.small) : (L3 e a b l).small := A0s.2 ⟨by decide, hb, ha, by simp, by simp [Tm.smallL, h]⟩
theorem A2a (e : Tm) (a b : Ty) (l : Int) : D3 (L3 e a b l) = D3 e + 1 := by rw [L3, Z1, E7, E7]
theorem A6T {k : Int} {ks : List Tm} (h : Tm.smallL ks) (hl : ks.length ≤ 4294967296) : (A0r k ks).small := A0s.2 ⟨by decide, A2G, A2G, hl, h⟩
theorem A6U (k : Int) (ks : List Tm) : D3 (A0r k ks) = E7 ks + 1 := by rw [A0r, Z1]
theorem B4J {a : Tm} (h : a.small) : Tm.smallL [a] := by simp [Tm.smallL, h]
theorem B4K {a b : Tm} (h : a.small) (h2 : b.small) : Tm.smallL [a, b] := by simp [Tm.smallL, h, h2]
theorem B4L : D3 K7 = 1 := by simp [K7, D3, E7]
theorem B4M (t : Tm) : D3 t = E7 t.ks + 1 := by cases t; rw [Z1]; rfl
theorem B4N {k : Int} {ty fr : Ty} {lb : Int} {ks : List Tm} (hk : Tm.smallL ks) (hc : E7 ks ≤ 199) (ht : ty.small) (hf : fr.small) : (N7 k ty fr lb ks).1.small ∧ D3 (N7 k ty fr lb ks).1 ≤ 40100 := by
 have a0 := A18 hk 0
 have a1 := A18 hk 1
 have a2 := A18 hk 2
 have n0 := A47 (ks := ks) 0
 have n1 := A47 (ks := ks) 1
 have n2 := A47 (ks := ks) 2
 obtain ⟨_, b2, b3, _, b5⟩ := B4I a0
 have e0 := B4M (kd ks 0)
 have m := fun i => A47 (ks := (kd ks 0).ks) i
 have st : R4.1.small ∧ D3 R4.1 ≤ 40100 := ⟨A46, by simp [R4, K7, D3, E7]⟩
 have hty := fun i => A93 (A94 b2) i
 have hfr := fun i => A93 (A94 b3) i
 unfold N7
 split
 ·split
  ·obtain ⟨s1, s2⟩ := A9V (x := (kd ks 0).nm) a1 (kd (kd ks 0).ks 0) (A18 b5 0)
   refine ⟨s1, Nat.le_trans s2 ?_⟩
   have : D3 (kd (kd ks 0).ks 0) * D3 (kd ks 1) ≤ 200 * 200 := Nat.mul_le_mul (by have := m 0; omega) (by omega)
   omega
  ·split
   ·refine ⟨A2J (A6T (B4K (A18 b5 0) (A2J a1 (hty 0) (hfr 0))) (by simp)) (hfr 1) (hty 1), ?_⟩
    have := m 0
    show D3 (L3 _ _ _ _) ≤ 40100
    rw [A2a, A6U, E7, E7, E7, A2a]
    omega
   ·exact st
 ·split
  ·split
   ·split
    ·exact ⟨A0s.2 ⟨by decide, A2G, A2G, by simp, by simp [Tm.smallL]⟩, by simp [A2D, D3, E7]⟩
    ·exact ⟨A6T (by simp [Tm.smallL]) (by simp), by simp [Z7, A6U, E7]⟩
   ·exact st
  ·split
   ·split
    ·exact ⟨a1, by show D3 (kd ks 1) ≤ _; omega⟩
    ·split
     ·exact ⟨a2, by show D3 (kd ks 2) ≤ _; omega⟩
     ·exact st
   ·split
    ·split
     ·exact ⟨A18 b5 _, by have := m (k - 11).toNat; show D3 (kd _ _) ≤ _; omega⟩
     ·split
      ·refine ⟨A2J (A6T (B4J (A18 b5 0)) (by simp)) (hfr _) (hty _), ?_⟩
       have := m 0
       show D3 (L3 _ _ _ _) ≤ 40100
       rw [A2a, A6U, E7, E7]
       omega
      ·exact st
    ·split
     ·split
      ·exact ⟨a0, by show D3 (kd ks 0) ≤ _; omega⟩
      ·split
       ·refine ⟨A2J (A2J a0 hf (A3n fr)) (A3n fr) ht, ?_⟩
        show D3 (L3 _ _ _ _) ≤ 40100
        rw [A2a, A2a]; omega
       ·split
        ·refine ⟨A2J (A2J a0 hf (A3n ty)) (A3n ty) ht, ?_⟩
         show D3 (L3 _ _ _ _) ≤ 40100
         rw [A2a, A2a]; omega
        ·split
         ·exact st
         ·split
          ·exact ⟨A18 b5 0, by have := m 0; show D3 (kd _ _) ≤ _; omega⟩
          ·exact ⟨A46, by simp [K7, D3, E7]⟩
     ·exact st
theorem B4O (ks : List Tm) (ih : ∀ t ∈ ks, t.small → D3 t ≤ 200 → (H8 t).1.small ∧ D3 (H8 t).1 ≤ D3 t + 40100) : ∀ (n : Nat), Tm.smallL ks → E7 ks ≤ 199 → ∀ us c l, V2 n ks = some (us, c, l) → Tm.smallL us ∧ us.length = ks.length ∧ E7 us ≤ E7 ks + 40100 := by
 induction ks with
 | nil => intro n _ _ us c l h; simp [V2] at h
 | cons t ts ihl =>
  intro n hs hc us c l h
  simp only [Tm.smallL] at hs
  simp only [E7] at hc ⊢
  cases n with
  | zero => simp [V2] at h
  | succ n =>
   rw [V2] at h
   split at h
   ·split at h
    ·rename_i us' c' l' hs'
     cases h
     obtain ⟨l1, l2, l3⟩ := ihl (fun u hu => ih u (List.mem_cons_of_mem _ hu)) n hs.2 (by omega) us' c l hs'
     exact ⟨by simp only [Tm.smallL]; exact ⟨hs.1, l1⟩, by simp [l2], by simp only [E7]; omega⟩
    ·cases h
   ·cases h
    obtain ⟨s1, s2⟩ := ih t List.mem_cons_self hs.1 (by omega)
    exact ⟨by simp only [Tm.smallL]; exact ⟨s1, hs.2⟩, by simp, by simp only [E7]; omega⟩
theorem B4P : ∀ (t : Tm), t.small → D3 t ≤ 200 → (H8 t).1.small ∧ D3 (H8 t).1 ≤ D3 t + 40100 := by
 refine Tm.ind fun k nm num ty fr lb ks ih h hc => ?_
 obtain ⟨h1, h2, h3, h4, h5⟩ := A0s.1 h
 rw [Z1] at hc
 have hL := B4O ks ih (if k = 9 then 1 else ks.length) h5 (by omega)
 rw [H8]
 split
 ·rename_i us c l hs
  obtain ⟨l1, l2, l3⟩ := hL us c l hs
  split
  ·refine ⟨A0s.2 ⟨h1, h2, h3, by omega, l1⟩, ?_⟩
   show D3 (.mk k nm num ty fr lb us) ≤ _
   rw [Z1, Z1]; omega
  ·exact ⟨A46, by show D3 K7 ≤ _; rw [B4L]; omega⟩
 ·have := B4N (k := k) (lb := lb) h5 (by omega) h2 h3
  rw [Z1]
  exact ⟨this.1, by omega⟩
def A6V (u : Ty) (G : IM) : IM → Value → List A6 → Prop := K1 fun G' v => ∃ cells, v = .agg ⟨cells⟩ ∧ C3 G' u cells
def Y0 (r : Option Ty) (G : IM) : IM → Value → List A6 → Prop := K1 fun G' v => ∃ cells u, v = .tuple ⟨[.agg ⟨cells⟩, .bool r.isSome]⟩ ∧ C3 G' u cells ∧ ∀ t, r = some t → u = t
theorem B4Q {G : IM} {k : Int} {a b : Ty} {ca cb : List Value} {p : Option Addr} {c : Nat} (hk : F8 k) (ha : C3 G a ca) (hb : C3 G b cb) (hs : Sl G p 2 c 2 (ca ++ cb)) : C3 G (.mk k [a, b]) [.int .i64 k, .slice p 2 c] := by
 have hL : C9 G [a, b] [ca, cb] := by simp only [C9]; exact ⟨ca, [cb], rfl, ha, cb, [], rfl, hb, rfl⟩
 exact C9.ty (ts := [a, b]) (es := [ca, cb]) hL rfl (by simpa using hs) hk
theorem A95 {Q : Prop} (h : Q := by exact ⟨rfl, by rw [A3d, hA]; first | (rw [decide_eq_true (p := k = k') (by omega)]; rfl) | (rw [decide_eq_false (p := k = k') (by omega)]; rfl), rfl⟩) : Q := h
theorem A6W : ∀ (t t' : Ty) (G : IM) (cells cells' : List Value), C3 G t cells → C3 G t' cells' → Fn Tryz.prog 156 [.agg ⟨cells⟩, .agg ⟨cells'⟩] [] G (I5 (.bool (M5 t t')) G) := by
 refine Ty.ind fun k ks ih t' G cells cells' hr hr' => ?_
 obtain ⟨k', ks'⟩ := t'
 obtain ⟨p, c, es, rfl, hk, hsl, hkl⟩ := hr.open
 obtain ⟨p', c', es', rfl, hk', hsl', hkl'⟩ := hr'.open
 simp only [Ty.k, Ty.ks] at hk hsl hkl hk' hsl' hkl' ⊢
 obtain ⟨A, hA⟩ : ∃ A, A0i ks ks' = A := ⟨_, rfl⟩
 have hA' : A = true ↔ ks.length = ks'.length ∧ ∀ i, i < ks.length → M5 (ks.getD i B3) (ks'.getD i B3) = true := by
  rw [← hA, A3Z]
  constructor
  ·rintro ⟨h1, h2⟩
   refine ⟨h1, fun i hi => ?_⟩
   have := h2 i hi (by omega)
   simpa [List.getD_eq_getElem?_getD, List.getElem?_eq_getElem hi, List.getElem?_eq_getElem (show i < ks'.length by omega)] using this
  ·rintro ⟨h1, h2⟩
   refine ⟨h1, fun i hi hi' => ?_⟩
   have := h2 i hi
   simpa [List.getD_eq_getElem?_getD, List.getElem?_eq_getElem hi, List.getElem?_eq_getElem hi'] using this
 refine C1 Tryz.func156 rfl Tryz.ntmps156 Tryz.results156 rfl ?_
 intro w0
 refine A3 ?_
 refine sE (C7 rfl rfl) rfl (fun b3 => ?_)
 refine sE (C7 rfl rfl) rfl (fun b4 => ?_)
 refine E0 ?_
 refine sB (qE rfl rfl) rfl rfl (fun h14 => ?_) (fun h14 => ?_)
 refine B0 ?_
 refine E8 rfl (A82 _ _ _ _ _ _ _ _ _ hsl hsl' _ [] [] [] (fun i => M5 (ks.getD i B3) (ks'.getD i B3)) A hA' (fun i e e' he he' => ih _ (hkl.inv he B3).1 _ _ _ _ (hkl.inv he B3).2 (hkl'.inv he' B3).2)) rfl rfl ?_
 refine A8 ?_
 exact A95
 refine K5 ?_
 exact A95
theorem A2b (k : Int) (a b : Ty) (G : IM) (ca cb : List Value) (hk : F8 k) (hra : C3 G a ca) (hrb : C3 G b cb) :
  Fn Tryz.prog 152 [.int .i64 k, .agg ⟨ca⟩, .agg ⟨cb⟩] [] G (A6V (.mk k [a, b]) G) := by
 obtain ⟨pa, cca, ea, rfl, _⟩ := hra.open
 obtain ⟨pb, ccb, eb, rfl, _⟩ := hrb.open
 refine C1 Tryz.func152 rfl Tryz.ntmps152 Tryz.results152 rfl ?_
 intro w0
 refine A3 ?_
 refine sE (C7 rfl rfl) rfl (fun b3 => ?_)
 refine sE (C7 rfl rfl) rfl (fun b4 => ?_)
 refine sE (A7 rfl) rfl (fun b5 => ?_)
 refine B5 ?_
 (refine I3 (D0 rfl rfl rfl (by omega) (by unfold maxLen; omega) rfl) rfl ?_; rintro _ ⟨b13, rfl⟩)
 refine B4 ?_
 (refine F0 (by repeat (first | exact Pk.here | apply Pk.there)) (fun G5 hle5 hsl5 hno5 => ?_))
 refine tT ?_
 refine M3 (rC rfl (A5 rfl rfl)) ?_
 exact ⟨rfl, _, rfl, B4Q hk (hra.mono hle5) (hrb.mono hle5) hsl5⟩
theorem A1V (k tk : Int) (ks : List Ty) : R2 k (.mk tk ks) = if tk = k then some (ks.getD 0 B3, ks.getD 1 B3) else if tk = 1 then some (O8, O8) else none := rfl
def A96 (k : Int) (t : Ty) (G : IM) : IM → Value → List A6 → Prop := K1 fun G' v => ∃ a ca b cb, v = .tuple ⟨[.agg ⟨ca⟩, .agg ⟨cb⟩, .bool (R2 k t).isSome]⟩ ∧ C3 G' a ca ∧ C3 G' b cb ∧ F9 a ∧ F9 b ∧ ∀ p, R2 k t = some p → p = (a, b)
theorem A97 (k : Int) (t : Ty) (G : IM) (cells : List Value) (hk : k = 4 ∨ k = 5) (ha : F9 t) (hr : C3 G t cells) :
  Fn Tryz.prog 153 [.agg ⟨cells⟩, .int .i64 k] [] G (A96 k t G) := by
 obtain ⟨tk, ks⟩ := t
 have ha2 := ha
 rw [F9] at ha2
 have hkid := ha.kid
 obtain ⟨p, c, es, rfl, htk, hsl, hkl⟩ := hr.open
 simp only [Ty.k, Ty.ks] at htk hsl hkl ⊢
 refine C1 Tryz.func153 rfl Tryz.ntmps153 Tryz.results153 rfl ?_
 intro w0
 refine A3 ?_
 refine sE (C7 rfl rfl) rfl (fun b3 => ?_)
 refine sE (A7 rfl) rfl (fun b4 => ?_)
 refine sE (A7 rfl) rfl (fun b5 => ?_)
 refine J3 ?_
 refine C0 (tS (tR (sQ (qM rfl) rfl (sB (qE rfl rfl) rfl rfl (fun h20 => ?_) (fun h20 => ?_)))))
 refine B0 ?_
 (have hlen : ks.length = 2 := ha2.1 (by omega); obtain ⟨b, o, q0, d0, hp0, hat0, hre0, hg0⟩ := hsl.kidTy hkl (i := 0) (by omega) (by omega); obtain ⟨b', o', q1, d1, hp1, hat1, hre1, hg1⟩ := hsl.kidTy hkl (i := 1) (by omega) (by omega); subst hp0; cases hp1; refine E2 E4 rfl ?_)
 refine J4 (i := 0) (l' := [tt,ff,ff,ff,ff,ff,ff,ff,ff,ff,ff]) rfl D6 (B9 rfl) rfl (by kernel_rfl) rfl rfl ?_
 refine aL 1 rfl (C8 rfl rfl) rfl ?_
 refine aP 2 rfl (B6 (j := 0) rfl rfl rfl (by omega)) rfl ?_
 refine aL 3 rfl (A2 rfl rfl (hat0 _) rfl) rfl ?_
 refine aP 4 rfl (B9 rfl) rfl ?_
 refine aL 5 rfl (C8 rfl rfl) rfl ?_
 refine aP 6 rfl (B6 (j := 1) rfl rfl rfl (by omega)) rfl ?_
 refine aL 7 rfl (A2 rfl rfl (hat1 _) rfl) rfl ?_
 refine A4 8 ?_
 refine I2 rfl ?_
 refine A4 9 ?_
 refine I2 rfl ?_
 refine aP 10 rfl (qA rfl) rfl ?_
 refine B0 ?_
 refine D5 (rC rfl (A5 rfl rfl)) (rC rfl (A5 rfl rfl)) (rT rfl) ?_
 (refine ⟨rfl, _, _, _, _, ?_, hre0, hre1, hkid _ (List.getElem_mem (by omega)), hkid _ (List.getElem_mem (by omega)), ?_⟩ <;> rw [A1V, if_pos (by omega)] <;> first | rfl | (intro p hp; cases hp; simp [hlen]))
 refine A8 ?_
 refine sB (qE rfl rfl) rfl rfl (fun h53 => ?_) (fun h53 => ?_)
 refine A8 ?_
 refine E8 rfl ((A1d _ _)) rfl rfl ?_
 refine E8 rfl ((A1d _ _)) rfl rfl ?_
 refine D1 ?_
 refine D5 (rC rfl (A5 rfl rfl)) (rC rfl (A5 rfl rfl)) (rT rfl) ?_
 (refine ⟨rfl, _, _, _, _, ?_, A0O _, A0O _, A3X, A3X, ?_⟩ <;> rw [A1V, if_neg (by omega), if_pos (by omega)] <;> first | rfl | (intro p hp; cases hp; rfl))
 refine Q5 ?_
 refine D5 (rC rfl (A5 rfl rfl)) (rC rfl (A5 rfl rfl)) (rT rfl) ?_
 (refine ⟨rfl, B3, _, B3, _, ?_, O1 _ ⟨by omega, by omega⟩, O1 _ ⟨by omega, by omega⟩, W5 (by omega) (by omega), W5 (by omega) (by omega), ?_⟩ <;> rw [A1V, if_neg (by omega), if_neg (by omega)] <;> first | rfl | (intro p hp; cases hp))
def A3o (G : IM) (b : ByteArray × Ty) (e : List Value) : Prop := ∃ q d, e = [.string b.1, .int .i64 b.2.k, .slice q b.2.ks.length d] ∧ C3 G b.2 [.int .i64 b.2.k, .slice q b.2.ks.length d]
theorem A3o.mono {G G' : IM} {b : ByteArray × Ty} {e : List Value} (h : A3o G b e) (hg : C2 G G') : A3o G' b e := by
 obtain ⟨q, d, h1, h2⟩ := h
 exact ⟨q, d, h1, h2.mono hg⟩
def S9 (G : IM) (cx : Cx) (p : Option Addr) (n c : Nat) : Prop := n = cx.length ∧ ∃ es : List (List Value), D7 G p n c 3 es ∧ ∀ (i : Nat) (b : ByteArray × Ty), cx[i]? = some b → ∃ e, es[i]? = some e ∧ A3o G b e
theorem S9.mono {G G' : IM} {cx : Cx} {p : Option Addr} {n c : Nat} (h : S9 G cx p n c) (hg : C2 G G') : S9 G' cx p n c := by
 obtain ⟨h1, es, h2, h3⟩ := h
 refine ⟨h1, es, h2.mono hg, fun i b hb => ?_⟩
 obtain ⟨e, he, hr⟩ := h3 i b hb
 exact ⟨e, he, hr.mono hg⟩
theorem S9.nil (G : IM) : S9 G [] none 0 0 := ⟨rfl, [], D7.nil _ _, by simp⟩
theorem S9.le {G : IM} {cx : Cx} {p : Option Addr} {n c : Nat} (h : S9 G cx p n c) : n ≤ 9223372036854775807 := by
 obtain ⟨h1, es, h2, h3⟩ := h
 exact h2.le
theorem S9.get {G : IM} {cx : Cx} {p : Option Addr} {n c : Nat} (h : S9 G cx p n c) {i : Nat} (hi : i < n) :
  ∃ b o nm t q d, cx[i]? = some (nm, t) ∧ p = some ⟨b, o, none⟩ ∧ (∀ hp, At hp G b (o + i * 3) [.string nm, .int .i64 t.k, .slice q t.ks.length d]) ∧ C3 G t [.int .i64 t.k, .slice q t.ks.length d] ∧ G b ≠ none := by
 obtain ⟨h1, es, h2, h3⟩ := h
 obtain ⟨e, b, o, he, rfl, hl, _, hat, hgb⟩ := h2.get (i := i) (by omega)
 have hx : cx[i]? = some cx[i] := List.getElem?_eq_getElem (by omega)
 obtain ⟨e', he', q, d, h4, h5⟩ := h3 i _ hx
 rw [he] at he'
 obtain rfl := Option.some.inj he'
 rw [h4] at hat
 exact ⟨b, o, cx[i].1, cx[i].2, q, d, hx, rfl, hat, h5, hgb⟩
theorem B4R (G : IM) (cx : Cx) (p : Option Addr) (n c : Nat) (nm : ByteArray) (hx : S9 G cx p n c) :
  Fn Tryz.prog 151 [.slice p n c, .string nm] [] G (Y0 (A0j cx nm) G) := by
 have hn := hx.le
 have hn1 := hx.1
 refine C1 Tryz.func151 rfl Tryz.ntmps151 Tryz.results151 rfl ?_
 intro w0
 refine A3 ?_
 refine sE (A7 rfl) rfl (fun b3 => ?_)
 refine D1 ?_
 refine sP (O9 rfl rfl (by omega) (by omega)) rfl rfl ?_
 refine B7 ?_
 refine C0 ?_
 (refine J0 (fun (i : Nat) => ⟨[(6, .int .i64 ((i : Int) - 1)), (0, .slice p n c), (1, .string nm), (4, .pointer (some ⟨b3, 0, none⟩))], [.blk b3 [.int .i64 0, .slice none 0 0]], G⟩) (fun i => i ≤ n ∧ X8 cx nm i = A0j cx nm) (fun i => i) n ?_ ?_ ?_)
 exact D2
 exact ⟨Nat.le_refl _, by rw [hn1]; rfl⟩
 (rintro i ⟨hi, hlk⟩)
 refine B4 ?_
 refine sB (A0I rfl rfl) rfl rfl (fun h25 => ?_) (fun h25 => ?_)
 refine A8 ?_
 (show J6 _ _ (.block 1 _) _ _; obtain ⟨j, rfl⟩ : ∃ j, i = j + 1 := ⟨i - 1, by omega⟩; rw [show ((j + 1 : Nat) : Int) - 1 = (j : Int) from by omega]; obtain ⟨b, o, nm1, t1, q1, d1, hcx, rfl, hat, hr1, hgb⟩ := hx.get (i := j) (by omega); refine C0 ?_)
 refine B4 ?_
 refine sP (B6 rfl rfl rfl (by omega)) rfl rfl ?_
 refine E3 ?_
 refine sL (T3 rfl rfl ((hat _).sub (j := 0) rfl)) rfl rfl ?_
 refine E3 ?_
 refine sB (A1G rfl rfl) rfl rfl (fun h41 => ?_) (fun h41 => ?_)
 refine B5 ?_
 refine sP (B6 rfl rfl rfl (by omega)) rfl rfl ?_
 refine E3 ?_
 refine sL (A2 rfl rfl (hat _).drop rfl) rfl rfl ?_
 refine J3 ?_
 refine E9 (rC rfl (A5 rfl rfl)) (rT rfl) ?_
 (rw [A6y hcx (by assumption)] at hlk; rw [← hlk]; exact ⟨rfl, _, _, rfl, hr1, fun t ht => by cases ht; rfl⟩)
 refine D1 ?_
 refine sP (O9 rfl rfl (by omega) (by omega)) rfl rfl ?_
 refine A3 ?_
 refine I1 j ?_ ?_ ?_
 exact D2
 (rw [A6z hcx (by assumption)] at hlk; exact ⟨by omega, hlk⟩)
 (show _ < _ + 1; omega)
 refine K0 ?_
 refine E9 (rC rfl (A5 rfl rfl)) (rT rfl) ?_
 (obtain rfl : i = 0 := (by omega); rw [X8] at hlk; rw [← hlk]; exact ⟨rfl, _, B3, rfl, O1 _ ⟨by omega, by omega⟩, fun t ht => by cases ht⟩)
theorem B4S {xs ys : List Ty} (h : xs.length = 2) (h' : ys.length = 2) : S6 xs ys = [U2 (xs[0]'(by omega)) (ys[0]'(by omega)), U2 (xs[1]'(by omega)) (ys[1]'(by omega))] := by
 match xs, ys, h, h' with
 | [a, b], [c, d], _, _ => rfl
theorem B4T {k k' : Int} {ks bs : List Ty} (h : K4 (.mk k ks) (.mk k' bs) = true) (hk : k ≠ 1) (hk' : k' ≠ 1) : k = k' ∧ N6 ks bs = true := by
 rw [U9] at h
 simpa [hk, hk'] using h
theorem A98 : ∀ (a b : Ty) (G : IM) (ca cb : List Value), K4 a b = true → F9 a → F9 b → C3 G a ca → C3 G b cb →
  Fn Tryz.prog 155 [.agg ⟨ca⟩, .agg ⟨cb⟩] [] G (A6V (U2 a b) G) := by
 refine Ty.ind fun k ks ih b G ca cb hc haa hab hra hrb => ?_
 have hsa := haa.small
 have hsb := hab.small
 obtain ⟨bk, bks⟩ := b
 have hra0 := hra
 have hrb0 := hrb
 have ha2 := haa
 have hb2 := hab
 rw [F9] at ha2 hb2
 have hkida := haa.kid
 have hkidb := hab.kid
 obtain ⟨p, c, es, rfl, hk, hsl, hkl⟩ := hra.open
 obtain ⟨p', c', es', rfl, hk', hsl', hkl'⟩ := hrb.open
 simp only [Ty.k, Ty.ks] at hk hsl hkl hk' hsl' hkl' ⊢
 have hn := hsl.le
 rw [A1e]
 refine C1 Tryz.func155 rfl Tryz.ntmps155 Tryz.results155 rfl ?_
 intro w0
 refine A3 ?_
 refine sE (C7 rfl rfl) rfl (fun b3 => ?_)
 refine sE (C7 rfl rfl) rfl (fun b4 => ?_)
 refine sE (A7 rfl) rfl (fun b5 => ?_)
 refine B7 ?_
 refine C0 ?_
 refine B4 ?_
 refine sB (qE rfl rfl) rfl rfl (fun h14 => ?_) (fun h14 => ?_)
 refine B5 ?_
 (refine D9 rfl (A1Q _ _ _ hsb hrb0) rfl rfl (fun v G1 hle1 hh => ?_); obtain ⟨cs1, F1, rfl, hs1, hn1⟩ := hh; obtain ⟨p1, c1, rfl, _⟩ := hs1.open; have hr1 := hs1.R.mono (C5.le G1 _))
 refine A8 ?_
 refine M3 (rC rfl (A5 rfl rfl)) ?_
 (rw [if_pos (by omega)]; exact ⟨rfl, _, rfl, hr1⟩)
 refine D1 ?_
 refine sB (qE rfl rfl) rfl rfl (fun h39 => ?_) (fun h39 => ?_)
 refine J7 ?_
 (refine D9 rfl (A1Q _ _ _ hsa hra0) rfl rfl (fun v G1 hle1 hh => ?_); obtain ⟨cs1, F1, rfl, hs1, hn1⟩ := hh; obtain ⟨p1, c1, rfl, _⟩ := hs1.open; have hr1 := hs1.R.mono (C5.le G1 _))
 refine A8 ?_
 refine M3 (rC rfl (A5 rfl rfl)) ?_
 (rw [if_neg (by omega)]; split <;> first | exact ⟨rfl, _, rfl, hr1⟩ | (obtain rfl : ks = [] := List.length_eq_zero_iff.1 (by omega); rw [S6]; exact ⟨rfl, _, rfl, hr1⟩; simp))
 refine B4 ?_
 refine sB (qE rfl rfl) rfl rfl (fun h66 => ?_) (fun h66 => ?_)
 refine D1 ?_
 (refine D9 rfl (A1Q _ _ _ hsa hra0) rfl rfl (fun v G1 hle1 hh => ?_); obtain ⟨cs1, F1, rfl, hs1, hn1⟩ := hh; obtain ⟨p1, c1, rfl, _⟩ := hs1.open; have hr1 := hs1.R.mono (C5.le G1 _))
 refine A8 ?_
 refine M3 (rC rfl (A5 rfl rfl)) ?_
 (rw [if_neg (by omega)]; split <;> first | exact ⟨rfl, _, rfl, hr1⟩ | (obtain rfl : ks = [] := List.length_eq_zero_iff.1 (by omega); rw [S6]; exact ⟨rfl, _, rfl, hr1⟩; simp))
 refine E0 ?_
 (obtain ⟨hkk, hcl0⟩ := B4T hc (by omega) (by omega); subst hkk; have hcl := (A2w _ _).1 hcl0; have hlen : ks.length = 2 := (by have := ha2.2.1; have := ha2.1; omega); have hlen' : bks.length = 2 := (by omega); obtain ⟨b0, o0, q0, d0, hp0, hat0, hre0, hg0⟩ := hsl.kidTy hkl (i := 0) (by omega) (by omega); obtain ⟨b1, o1, q1, d1, hp1, hat1, hre1, hg1⟩ := hsl.kidTy hkl (i := 1) (by omega) (by omega); subst hp0; cases hp1; obtain ⟨b2, o2, q2, d2, hp2, hat2, hre2, hg2⟩ := hsl'.kidTy hkl' (i := 0) (by omega) (by omega); obtain ⟨b3, o3, q3, d3, hp3, hat3, hre3, hg3⟩ := hsl'.kidTy hkl' (i := 1) (by omega) (by omega); subst hp2; cases hp3; have hM1 := ih ks[0] (List.getElem_mem (by omega)) bks[0] G _ _ (hcl.2 0 (by omega) (by omega)) (hkida _ (List.getElem_mem (by omega))) (hkidb _ (List.getElem_mem (by omega))) hre0 hre2; refine E2 E4 rfl ?_)
 refine J4 (i := 0) (l' := [tt,ff,ff,ff,ff,ff,ff,ff,ff,ff,ff,ff,ff,ff,ff,ff,ff,ff,ff,ff,ff,ff]) rfl D6 (B9 rfl) rfl (by kernel_rfl) rfl rfl ?_
 refine aL 1 rfl (C8 rfl rfl) rfl ?_
 refine aP 2 rfl (B9 rfl) rfl ?_
 refine aL 3 rfl (C8 rfl rfl) rfl ?_
 refine aP 4 rfl (B6 (j := 0) rfl rfl rfl (by omega)) rfl ?_
 refine aL 5 rfl (A2 rfl rfl (hat0 _) rfl) rfl ?_
 refine aP 6 rfl (B9 rfl) rfl ?_
 refine aL 7 rfl (C8 rfl rfl) rfl ?_
 refine aP 8 rfl (B6 (j := 0) rfl rfl rfl (by omega)) rfl ?_
 refine aL 9 rfl (A2 rfl rfl (hat2 _) rfl) rfl ?_
 refine aP 11 rfl (B9 rfl) rfl ?_
 refine aL 12 rfl (C8 rfl rfl) rfl ?_
 refine aP 13 rfl (B6 (j := 1) rfl rfl rfl (by omega)) rfl ?_
 refine aL 14 rfl (A2 rfl rfl (hat1 _) rfl) rfl ?_
 refine aP 15 rfl (B9 rfl) rfl ?_
 refine aL 16 rfl (C8 rfl rfl) rfl ?_
 refine aP 17 rfl (B6 (j := 1) rfl rfl rfl (by omega)) rfl ?_
 refine aL 18 rfl (A2 rfl rfl (hat3 _) rfl) rfl ?_
 refine A4 10 ?_
 (refine H7 rfl rfl hM1 rfl rfl rfl (fun v G1 hle1 hh => ?_); obtain ⟨cm1, rfl, hm1⟩ := hh; have hM2 := ih ks[1] (List.getElem_mem (by omega)) bks[1] G1 _ _ (hcl.2 1 (by omega) (by omega)) (hkida _ (List.getElem_mem (by omega))) (hkidb _ (List.getElem_mem (by omega))) (hre1.mono hle1) (hre3.mono hle1))
 refine A4 19 ?_
 (refine H7 rfl rfl hM2 rfl rfl rfl (fun v G2 hle2 hh => ?_); obtain ⟨cm2, rfl, hm2⟩ := hh; have hB := A2b k _ _ G2 _ _ hk (hm1.mono hle2) hm2)
 refine A4 20 ?_
 (refine H7 rfl rfl hB rfl rfl rfl (fun v G3 hle3 hh => ?_); obtain ⟨cm3, rfl, hm3⟩ := hh; obtain ⟨p5, c5, e5, rfl, _⟩ := hm3.open)
 refine A4 21 ?_
 refine I2 rfl ?_
 refine B7 ?_
 refine M3 (rC rfl (A5 rfl rfl)) ?_
 (rw [if_neg (by omega), if_neg (by omega)]; rw [B4S hlen hlen']; exact ⟨rfl, _, rfl, hm3⟩)
theorem B4U (G : IM) (p : Option Addr) (n c : Nat) (es : List (List Value)) (h : D7 G p n c 9 es) (h0 : 0 < n) (hn : n ≤ 4294967296) :
  Fn Tryz.prog 228 [.slice p n c] [] G (fun G' v outs => G' = G ∧ ∃ p' c', v = .slice p' n c' ∧ outs = [.slc p' c' 37 9 n es.flatten]) := by
 obtain ⟨hl, hc, hm, hat⟩ := h.sl
 obtain ⟨b, o, full, rfl, hg, hv⟩ := hat.resolve_left (by omega)
 have ho : ∀ u ∈ es.flatten, u.oneCell' = true := by
  intro u hu
  obtain ⟨e, he, hue⟩ := List.mem_flatten.1 hu
  exact List.all_eq_true.1 (h.one e he) u hue
 refine C1 Tryz.func228 rfl Tryz.ntmps228 Tryz.results228 rfl ?_
 intro w0
 refine E0 ?_
 refine sQ (A8d rfl rfl rfl) rfl ?_
 refine B5 ?_
 (refine I3 (D0 rfl rfl rfl (by omega) (by unfold maxLen; omega) rfl) rfl ?_; rintro _ ⟨b18, rfl⟩)
 refine E3 ?_
 refine Y5 rfl rfl rfl rfl rfl (fun _ _ => by repeat (first | exact Sw.here | apply Sw.there)) (A4u hg hv) hl ho (by unfold maxLen; omega) (by omega) rfl (fun pn cn => ?_)
 refine B4 ?_
 refine H9 (rT rfl) A0.refl ?_
 exact ⟨rfl, _, _, by rw [Nat.zero_add], by rw [Nat.zero_add]; rfl⟩
theorem At.mono' {hp : List A6} {G G' : IM} {b o : Nat} {vs : List Value} (hg : C2 G G') (h : At [] G b o vs) : At hp G' b o vs := by
 rcases h with ⟨cs, hm, hv⟩ | ⟨n, c, el, sz, cs, hm, hv⟩ | ⟨full, hx, hv⟩
 ·cases hm
 ·cases hm
 ·exact .inr (.inr ⟨full, hg _ _ hx, hv⟩)
theorem D7.kidD {G : IM} {p : Option Addr} {n c : Nat} {es : List (List Value)} {ks : List Ty} (h : D7 G p n c 2 es) (hk : C9 G ks es) {i : Nat} (hi : i < n) (hn : i < ks.length) :
  ∃ b o q d, p = some ⟨b, o, none⟩ ∧ (∀ hp, At hp G b (o + i * 2) [.int .i64 (ks.getD i B3).k, .slice q (ks.getD i B3).ks.length d]) ∧ C3 G (ks.getD i B3) [.int .i64 (ks.getD i B3).k, .slice q (ks.getD i B3).ks.length d] ∧ G b ≠ none := by
 obtain ⟨b, o, q, d, h1, h2, h3, h4⟩ := h.kidTy hk hi hn
 rw [List.getD_eq_getElem?_getD, List.getElem?_eq_getElem hn, Option.getD_some]
 exact ⟨b, o, q, d, h1, h2, h3, h4⟩
theorem A3p {hs : List Ty} (h : ∀ t ∈ hs, F9 t) {i : Nat} (hi : i < hs.length) : F9 (hs.getD i B3) := by
 rw [List.getD_eq_getElem?_getD, List.getElem?_eq_getElem hi, Option.getD_some]
 exact h _ (List.getElem_mem hi)
def L5 (r : Option (List Ty × Ty)) (G : IM) : IM → Value → List A6 → Prop := K1 fun G' v => ∃ p n c es w cu u, v = .tuple ⟨[.slice p n c, .agg ⟨cu⟩, .bool r.isSome]⟩ ∧ n = w.length ∧ D7 G' p n c 2 es ∧ C9 G' w es ∧ C3 G' u cu ∧ ∀ q, r = some q → q = (w, u)
theorem L5.mk {r : Option (List Ty × Ty)} {G G' : IM} {p : Option Addr} {n c : Nat} {es : List (List Value)} {w : List Ty} {cu : List Value} {u : Ty} {b : Bool} (hl : n = w.length) (hs : Sl G' p n c 2 es.flatten) (hw : C9 G' w es) (hu : C3 G' u cu) (h : r = if b = true then some (w, u) else none) :
  L5 r G G' (.tuple ⟨[.slice p n c, .agg ⟨cu⟩, .bool b]⟩) [] := by
 refine ⟨rfl, p, n, c, es, w, cu, u, ?_, hl, D7.of hs (by rw [hw.len, hl]) hw.all (fun e he => (hw.each e he).2), hw, hu, ?_⟩
 ·subst h; cases b <;> rfl
 ·subst h; cases b
  ·simp
  ·intro q hq; simpa using hq.symm
theorem L5.nil {r : Option (List Ty × Ty)} {G G' : IM} {cu : List Value} {u : Ty} {b : Bool} (hu : C3 G' u cu) (h : r = if b = true then some ([], u) else none) :
  L5 r G G' (.tuple ⟨[.slice none 0 0, .agg ⟨cu⟩, .bool b]⟩) [] := L5.mk (es := []) rfl (Sl.nil _ _) (by simp [C9]) hu h
theorem L5.one {r : Option (List Ty × Ty)} {G G' : IM} {p : Option Addr} {c : Nat} {a : Ty} {ca : List Value} {cu : List Value} {u : Ty} {b : Bool} (hs : Sl G' p 1 c 2 ca) (ha : C3 G' a ca) (hu : C3 G' u cu) (h : r = if b = true then some ([a], u) else none) :
  L5 r G G' (.tuple ⟨[.slice p 1 c, .agg ⟨cu⟩, .bool b]⟩) [] := L5.mk (es := [ca]) (w := [a]) rfl (by simpa using hs) ⟨_, _, rfl, ha, rfl⟩ hu h
theorem L5.two {r : Option (List Ty × Ty)} {G G' : IM} {p : Option Addr} {c : Nat} {a a2 : Ty} {ca ca2 : List Value} {cu : List Value} {u : Ty} {b : Bool} (hs : Sl G' p 2 c 2 (ca ++ ca2)) (ha : C3 G' a ca) (ha2 : C3 G' a2 ca2) (hu : C3 G' u cu) (h : r = if b = true then some ([a, a2], u) else none) :
  L5 r G G' (.tuple ⟨[.slice p 2 c, .agg ⟨cu⟩, .bool b]⟩) [] := L5.mk (es := [ca, ca2]) (w := [a, a2]) rfl (by simpa using hs) ⟨_, _, rfl, ha, _, _, rfl, ha2, rfl⟩ hu h
theorem L5.three {r : Option (List Ty × Ty)} {G G' : IM} {p : Option Addr} {c : Nat} {a a2 a3 : Ty} {ca ca2 ca3 : List Value} {cu : List Value} {u : Ty} {b : Bool} (hs : Sl G' p 3 c 2 (ca ++ (ca2 ++ ca3))) (ha : C3 G' a ca) (ha2 : C3 G' a2 ca2) (ha3 : C3 G' a3 ca3) (hu : C3 G' u cu) (h : r = if b = true then some ([a, a2, a3], u) else none) :
  L5 r G G' (.tuple ⟨[.slice p 3 c, .agg ⟨cu⟩, .bool b]⟩) [] := L5.mk (es := [ca, ca2, ca3]) (w := [a, a2, a3]) rfl (by simpa using hs) ⟨_, _, rfl, ha, _, _, rfl, ha2, _, _, rfl, ha3, rfl⟩ hu h
section
variable {cx : Cx} {nm : ByteArray} {ty : Ty} {h : List Ty}
theorem mW1 : L9 cx 1 nm ty h = match A0j cx nm with | some t => some ([], t) | none => none := rfl
theorem mW2 : L9 cx 2 nm ty h = some ([], T4) := rfl
theorem A36 {k : Int} (hk : k = 3 ∨ k = 4) : L9 cx k nm ty h = some ([], X7) := by rcases hk with rfl | rfl <;> rfl
theorem mW5 : L9 cx 5 nm ty h = some ([], .mk 4 [ty, h.getD 0 B3]) := rfl
theorem mW6 : L9 cx 6 nm ty h = match R2 4 (h.getD 0 B3) with | some (a, b) => if K4 (h.getD 1 B3) a = true then some ([.mk 4 [a, b], a], b) else none | none => none := rfl
theorem W1 {k : Int} (hk : k = 7 ∨ k = 8) : L9 cx k nm ty h = if K4 (h.getD 0 B3) T4 = true ∧ K4 (h.getD 1 B3) T4 = true then some ([T4, T4], if k = 8 then X7 else T4) else none := by rcases hk with rfl | rfl <;> rfl
theorem mW9 : L9 cx 9 nm ty h = if K4 (h.getD 0 B3) X7 = true ∧ K4 (h.getD 1 B3) (h.getD 2 B3) = true then some ([X7, U2 (h.getD 1 B3) (h.getD 2 B3), U2 (h.getD 1 B3) (h.getD 2 B3)], U2 (h.getD 1 B3) (h.getD 2 B3)) else none := rfl
theorem A5a : L9 cx 10 nm ty h = some ([], .mk 5 [h.getD 0 B3, h.getD 1 B3]) := rfl
theorem A2K : L9 cx 13 nm ty h = if K4 (h.getD 0 B3) ty = true then some ([ty], ty) else none := rfl
theorem A3q {k : Int} (hk : k = 11 ∨ k = 12) : L9 cx k nm ty h = match R2 5 (h.getD 0 B3) with | some (a, b) => some ([.mk 5 [a, b]], if k = 12 then b else a) | none => none := by rcases hk with rfl | rfl <;> rfl
end
theorem K8 (G : IM) : C3 G T4 [.int .i64 2, .slice none 0 0] := O1 G ⟨by omega, by omega⟩
theorem A0t (G : IM) : C3 G X7 [.int .i64 3, .slice none 0 0] := O1 G ⟨by omega, by omega⟩
theorem A99 {Q : Prop} (h : Q := by (have hk1 : k = 9 := (by omega); subst hk1; exact L5.three hsl5 (A0t _) (hrM.mono hle5) (hrM.mono hle5) (hrM.mono hle5) (by rw [mW9, if_pos ⟨by assumption, by assumption⟩]; rfl))) : Q := h
theorem B0a {Q : Prop} (h : Q := by (have hk1 : k = 9 := (by omega); subst hk1; exact L5.nil (u := B3) (O1 _ ⟨by omega, by omega⟩) (by rw [mW9, if_neg (fun hc => by first | exact Bool.noConfusion (hc.1.symm.trans (by assumption)) | exact Bool.noConfusion (hc.2.symm.trans (by assumption)) | exact Bool.noConfusion (hc.symm.trans (by assumption)))]; rfl))) : Q := h
theorem B4V (cx : Cx) (k : Int) (nm : ByteArray) (num : Int) (ty fr : Ty) (lb : Int) (ks : List Tm) (h : List Ty) (G : IM) (pc : Option Addr) (nc cc : Nat) (cells : List Value) (p : Option Addr) (n c : Nat) (es : List (List Value))
  (hx : S9 G cx pc nc cc) (hops : E6 k = n) (hnl : n = h.length) (hk14 : k ≠ 14) (hta : F9 ty) (hr : B1 G (.mk k nm num ty fr lb ks) cells) (hsl : D7 G p n c 2 es) (hkl : C9 G h es) (har : ∀ t ∈ h, F9 t) :
  Fn Tryz.prog 110 [.slice pc nc cc, .agg ⟨cells⟩, .slice p n c] [] G (L5 (L9 cx k nm ty h) G) := by
 have hone := hr.one
 have hop := A3j hops
 have hkr : 1 ≤ k ∧ k ≤ 14 := by
  apply Classical.byContradiction
  intro hc
  rw [A4H hc] at hops; omega
 obtain ⟨tyk, tyks⟩ := ty
 obtain ⟨fk, fks⟩ := fr
 obtain ⟨pt, ct, pf, cf, pk, ck, ek, rfl, hk, hnum, hlb, hrty, hrfr, _, _⟩ := hr.open9
 refine C1 Tryz.func110 rfl Tryz.ntmps110 Tryz.results110 rfl ?_
 intro w0
 refine A3 ?_
 refine sE (C7 rfl rfl) rfl (fun b3 => ?_)
 refine E3 ?_
 refine sE (A7 rfl) rfl (fun b5 => ?_)
 refine B0 ?_
 refine E8 rfl ((A1d _ _)) rfl rfl ?_
 refine E8 rfl ((A1d _ _)) rfl rfl ?_
 refine sE (A7 rfl) rfl (fun b13 => ?_)
 refine sE (A7 rfl) rfl (fun b14 => ?_)
 refine J1 ?_
 refine C0 (tS (tR (sB (qE rfl rfl) rfl rfl (fun h29 => ?_) (fun h29 => ?_))))
 refine E0 ?_
 (refine D9 rfl (B4R G cx pc nc cc nm hx) rfl rfl (fun v G1 hle1 hh => ?_); obtain ⟨cu, u, rfl, hru, hu⟩ := hh; obtain ⟨p1, c1, e1, rfl, _⟩ := hru.open)
 refine B7 ?_
 refine sE (A7 rfl) rfl (fun b43 => ?_)
 refine B0 ?_
 refine E2 E4 rfl ?_
 refine L4 (i := 0) (l' := [tt,ff,ff,ff,ff]) rfl D6 (A5 rfl rfl) rfl (by kernel_rfl) rfl rfl ?_
 refine aP 1 rfl (qM rfl) rfl ?_
 refine aP 2 rfl (qA rfl) rfl ?_
 refine A4 3 ?_
 refine I2 rfl ?_
 refine aP 4 rfl (qA rfl) rfl ?_
 refine B0 ?_
 refine D5 (rT rfl) (rC rfl (A5 rfl rfl)) (rT rfl) ?_
 (have hk1 : k = 1 := (by omega); subst hk1; rw [mW1]; refine L5.nil hru ?_; generalize A0j cx nm = r at hu ⊢; cases r with | none => rfl | some t => (rw [hu t rfl]; rfl))
 refine A8 ?_
 refine sB (qE rfl rfl) rfl rfl (fun h69 => ?_) (fun h69 => ?_)
 refine B0 ?_
 refine E2 E4 rfl ?_
 refine L4 (i := 0) (l' := [tt,ff,ff,ff]) rfl D6 (A5 rfl rfl) rfl (by kernel_rfl) rfl rfl ?_
 refine aP 1 rfl (qA rfl) rfl ?_
 refine A4 2 ?_
 refine I2 rfl ?_
 refine aP 3 rfl (qA rfl) rfl ?_
 refine B0 ?_
 refine D5 (rT rfl) (rC rfl (A5 rfl rfl)) (rT rfl) ?_
 (have hk1 : k = 2 := (by omega); subst hk1; exact L5.nil (K8 _) mW2)
 refine B5 ?_
 refine sB (qE rfl rfl) rfl rfl (fun h95 => ?_) (fun h95 => ?_)
 refine D1 ?_
 refine E2 E4 rfl ?_
 refine L4 (i := 0) (l' := [tt,ff,ff,ff]) rfl D6 (A5 rfl rfl) rfl (by kernel_rfl) rfl rfl ?_
 refine aP 1 rfl (qA rfl) rfl ?_
 refine A4 2 ?_
 refine I2 rfl ?_
 refine aP 3 rfl (qA rfl) rfl ?_
 refine B0 ?_
 refine D5 (rT rfl) (rC rfl (A5 rfl rfl)) (rT rfl) ?_
 (exact L5.nil (A0t _) (by rw [A36 (by omega)]; rfl))
 refine B0 ?_
 refine sB (qE rfl rfl) rfl rfl (fun h122 => ?_) (fun h122 => ?_)
 refine B0 ?_
 refine E2 E4 rfl ?_
 refine L4 (i := 0) (l' := [tt,ff,ff,ff]) rfl D6 (A5 rfl rfl) rfl (by kernel_rfl) rfl rfl ?_
 refine aP 1 rfl (qA rfl) rfl ?_
 refine A4 2 ?_
 refine I2 rfl ?_
 refine aP 3 rfl (qA rfl) rfl ?_
 refine B0 ?_
 refine D5 (rT rfl) (rC rfl (A5 rfl rfl)) (rT rfl) ?_
 (exact L5.nil (A0t _) (by rw [A36 (by omega)]; rfl))
 refine A8 ?_
 refine sB (qE rfl rfl) rfl rfl (fun h147 => ?_) (fun h147 => ?_)
 refine B0 ?_
 (have hl1 : n = 1 := hop.2.2 (by omega); obtain ⟨b0, o0, q0, d0, hp0, hat0, hre0, hg0⟩ := hsl.kidD hkl (i := 0) (by omega) (by omega); cases hp0; refine E2 E4 rfl ?_)
 refine J4 (i := 0) (l' := [tt,ff,ff,ff,ff,ff,ff,ff,ff]) rfl D6 (B9 rfl) rfl (by kernel_rfl) rfl rfl ?_
 refine aL 1 rfl (A5 rfl rfl) rfl ?_
 refine aP 2 rfl (qM rfl) rfl ?_
 refine aP 3 rfl (B6 (j := 0) rfl rfl rfl (by omega)) rfl ?_
 refine aL 4 rfl (A2 rfl rfl (hat0 _) rfl) rfl ?_
 refine A4 5 ?_
 (refine H7 rfl rfl (A2b 4 _ _ _ _ _ ⟨by omega, by omega⟩ hrty hre0) rfl rfl rfl (fun v GB hleB hh => ?_); obtain ⟨cB, rfl, hrB⟩ := hh; obtain ⟨p7, c7, e7, rfl, _⟩ := hrB.open)
 refine aP 6 rfl (qA rfl) rfl ?_
 refine A4 7 ?_
 refine I2 rfl ?_
 refine aP 8 rfl (qA rfl) rfl ?_
 refine B0 ?_
 refine D5 (rT rfl) (rC rfl (A5 rfl rfl)) (rT rfl) ?_
 (have hk1 : k = 5 := (by omega); subst hk1; exact L5.nil hrB mW5)
 refine A8 ?_
 refine sB (qE rfl rfl) rfl rfl (fun h178 => ?_) (fun h178 => ?_)
 refine B5 ?_
 (have hl2 : n = 2 := hop.1 (by omega); obtain ⟨b0, o0, q0, d0, hp0, hat0, hre0, hg0⟩ := hsl.kidD hkl (i := 0) (by omega) (by omega); cases hp0; refine sP (B6 (j := 0) rfl rfl rfl (by omega)) rfl rfl ?_)
 refine sL (A2 rfl rfl (hat0 _) rfl) rfl rfl ?_
 (refine D9 rfl (A97 4 (h.getD 0 B3) G _ (.inl rfl) (A3p har (by omega)) hre0) rfl rfl (fun v G1 hle1 hh => ?_); obtain ⟨ma, mca, mb, mcb, rfl, hma, hmb, hma2, hmb2, hmm⟩ := hh; obtain ⟨p1, c1, e1, rfl, _⟩ := hma.open; obtain ⟨p2, c2, e2, rfl, _⟩ := hmb.open; replace hsl := hsl.mono hle1; replace hkl := hkl.mono hle1; generalize hmi : (R2 4 (h.getD 0 B3)).isSome = mi; cases mi)
 refine B4 ?_
 refine sE (A7 rfl) rfl (fun b193 => ?_)
 refine sE (A7 rfl) rfl (fun b194 => ?_)
 refine A8 ?_
 (have hl2 : n = 2 := hop.1 (by omega); obtain ⟨b0, o0, q0, d0, hp0, hat0, hre0, hg0⟩ := hsl.kidD hkl (i := 0) (by omega) (by omega); obtain ⟨b1, o1, q1, d1, hp1, hat1, hre1, hg1⟩ := hsl.kidD hkl (i := 1) (by omega) (by omega); cases hp0; cases hp1; refine E2 E4 rfl ?_)
 refine L4 (i := 0) (l' := [tt,ff,ff,ff,ff,ff,ff,ff,ff,ff,ff,ff,ff,ff,ff,ff,ff]) rfl D6 (A5 rfl rfl) rfl (by kernel_rfl) rfl rfl ?_
 refine aL 1 rfl (A5 rfl rfl) rfl ?_
 refine aL 3 rfl (A5 rfl rfl) rfl ?_
 refine aL 5 rfl (A5 rfl rfl) rfl ?_
 refine aP 6 rfl (qM rfl) rfl ?_
 refine A4 2 ?_
 (refine H7 rfl rfl (A2b _ ma mb _ _ _ ⟨by omega, by omega⟩ hma hmb) rfl rfl rfl (fun v GB hleB hh => ?_); obtain ⟨cB, rfl, hrB⟩ := hh; obtain ⟨p7, c7, e7, rfl, _⟩ := hrB.open; have hma' := hma.mono hleB; have hmb' := hmb.mono hleB)
 refine aP 7 rfl (qM rfl) rfl ?_
 refine C4 8 rfl rfl rfl ?_
 refine C4 9 rfl rfl rfl ?_
 refine C4 10 rfl rfl rfl ?_
 refine C4 11 rfl rfl rfl ?_
 refine Q8 (j := 4) (j' := 12) (by kernel_rfl) ?_ ?_
 (refine E5 rfl (D0 rfl rfl rfl (by omega) (by unfold maxLen; omega) rfl) rfl rfl ?_; rintro _ ⟨b215, rfl⟩)
 refine C4 12 rfl rfl rfl ?_
 refine aP 13 rfl (O6 rfl rfl) rfl ?_
 refine aP 14 rfl (qA rfl) rfl ?_
 refine A4 15 ?_
 refine I2 rfl ?_
 refine aP 16 rfl (qA rfl) rfl ?_
 refine A3 ?_
 (refine F0 Pk.here (fun G5 hle5 hsl5 hno5 => ?_))
 refine B7 ?_
 refine D5 (rT rfl) (rC rfl (A5 rfl rfl)) (rT rfl) ?_
 (have hk1 : k = 6 := (by omega); subst hk1; refine L5.two hsl5 (hrB.mono hle5) (hma'.mono hle5) (hmb'.mono hle5) ?_; rw [mW6]; cases hq : R2 4 (h.getD 0 B3) with | none => rfl | some q => (rw [hq] at hmi; cases hmi))
 refine A6a (l' := [tt,tt,tt,tt,ff,tt,tt,tt,tt,tt,tt,tt,tt,ff,ff,ff,ff]) rfl rfl rfl rfl ?_
 refine aP 13 rfl (O6 rfl rfl) rfl ?_
 refine A4 4 ?_
 (refine E5 rfl (D0 rfl rfl rfl (by omega) (by unfold maxLen; omega) rfl) rfl rfl ?_; rintro _ ⟨b233, rfl⟩)
 refine aP 14 rfl (qA rfl) rfl ?_
 refine A4 15 ?_
 refine I2 rfl ?_
 refine aP 16 rfl (qA rfl) rfl ?_
 refine A3 ?_
 (refine F0 Pk.here (fun G5 hle5 hsl5 hno5 => ?_))
 refine B7 ?_
 refine D5 (rT rfl) (rC rfl (A5 rfl rfl)) (rT rfl) ?_
 (have hk1 : k = 6 := (by omega); subst hk1; refine L5.two hsl5 (hrB.mono hle5) (hma'.mono hle5) (hmb'.mono hle5) ?_; rw [mW6]; cases hq : R2 4 (h.getD 0 B3) with | none => rfl | some q => (rw [hq] at hmi; cases hmi))
 refine B4 ?_
 refine sE (A7 rfl) rfl (fun b250 => ?_)
 refine sE (A7 rfl) rfl (fun b251 => ?_)
 refine A8 ?_
 (have hl2 : n = 2 := hop.1 (by omega); obtain ⟨b0, o0, q0, d0, hp0, hat0, hre0, hg0⟩ := hsl.kidD hkl (i := 0) (by omega) (by omega); obtain ⟨b1, o1, q1, d1, hp1, hat1, hre1, hg1⟩ := hsl.kidD hkl (i := 1) (by omega) (by omega); cases hp0; cases hp1; refine E2 E4 rfl ?_)
 refine L4 (i := 0) (l' := [tt,ff,ff,ff,ff,ff,ff,ff,ff,ff,ff,ff,ff,ff,ff,ff,ff]) rfl D6 (A5 rfl rfl) rfl (by kernel_rfl) rfl rfl ?_
 refine aL 1 rfl (A5 rfl rfl) rfl ?_
 refine aL 3 rfl (A5 rfl rfl) rfl ?_
 refine aL 5 rfl (A5 rfl rfl) rfl ?_
 refine aP 6 rfl (qM rfl) rfl ?_
 refine A4 2 ?_
 (refine H7 rfl rfl (A2b _ ma mb _ _ _ ⟨by omega, by omega⟩ hma hmb) rfl rfl rfl (fun v GB hleB hh => ?_); obtain ⟨cB, rfl, hrB⟩ := hh; obtain ⟨p7, c7, e7, rfl, _⟩ := hrB.open; have hma' := hma.mono hleB; have hmb' := hmb.mono hleB)
 refine aP 7 rfl (qM rfl) rfl ?_
 refine aP 8 rfl (qM rfl) rfl ?_
 refine aP 9 rfl (B6 (j := 1) rfl rfl rfl (by omega)) rfl ?_
 refine aL 10 rfl (A2 rfl rfl (At.mono' hleB (hat1 _)) rfl) rfl ?_
 refine aL 11 rfl (A5 rfl rfl) rfl ?_
 refine Q8 (j := 4) (j' := 12) (by kernel_rfl) ?_ ?_
 (refine E5 rfl (D0 rfl rfl rfl (by omega) (by unfold maxLen; omega) rfl) rfl rfl ?_; rintro _ ⟨b272, rfl⟩)
 refine A4 12 ?_
 refine T8 rfl rfl ((Z6 _ _ _ _ _ (hre1.mono hleB) hma')) rfl rfl rfl (fun h274 => ?_) (fun h274 => ?_)
 refine aP 13 rfl (M9 rfl rfl) rfl ?_
 refine aP 14 rfl (qA rfl) rfl ?_
 refine A4 15 ?_
 refine I2 rfl ?_
 refine aP 16 rfl (qA rfl) rfl ?_
 refine A3 ?_
 (refine F0 Pk.here (fun G5 hle5 hsl5 hno5 => ?_))
 refine B7 ?_
 refine D5 (rT rfl) (rC rfl (A5 rfl rfl)) (rT rfl) ?_
 (have hk1 : k = 6 := (by omega); subst hk1; refine L5.two hsl5 (hrB.mono hle5) (hma'.mono hle5) (hmb'.mono hle5) ?_; rw [mW6]; cases hq : R2 4 (h.getD 0 B3) with | none => (rw [hq] at hmi; cases hmi) | some q => (have hq2 := hmm q hq; subst hq2; dsimp only; split <;> first | rfl | (exfalso; simp_all; done)))
 refine aP 13 rfl (M9 rfl rfl) rfl ?_
 refine aP 14 rfl (qA rfl) rfl ?_
 refine A4 15 ?_
 refine I2 rfl ?_
 refine aP 16 rfl (qA rfl) rfl ?_
 refine A3 ?_
 (refine F0 Pk.here (fun G5 hle5 hsl5 hno5 => ?_))
 refine B7 ?_
 refine D5 (rT rfl) (rC rfl (A5 rfl rfl)) (rT rfl) ?_
 (have hk1 : k = 6 := (by omega); subst hk1; refine L5.two hsl5 (hrB.mono hle5) (hma'.mono hle5) (hmb'.mono hle5) ?_; rw [mW6]; cases hq : R2 4 (h.getD 0 B3) with | none => (rw [hq] at hmi; cases hmi) | some q => (have hq2 := hmm q hq; subst hq2; dsimp only; split <;> first | rfl | (exfalso; simp_all; done)))
 refine T8 rfl rfl ((Z6 _ _ _ _ _ (hre1.mono hleB) hma')) rfl rfl rfl (fun h301 => ?_) (fun h301 => ?_)
 refine aP 13 rfl (M9 rfl rfl) rfl ?_
 refine A4 4 ?_
 (refine E5 rfl (D0 rfl rfl rfl (by omega) (by unfold maxLen; omega) rfl) rfl rfl ?_; rintro _ ⟨b304, rfl⟩)
 refine aP 14 rfl (qA rfl) rfl ?_
 refine A4 15 ?_
 refine I2 rfl ?_
 refine aP 16 rfl (qA rfl) rfl ?_
 refine A3 ?_
 (refine F0 Pk.here (fun G5 hle5 hsl5 hno5 => ?_))
 refine B7 ?_
 refine D5 (rT rfl) (rC rfl (A5 rfl rfl)) (rT rfl) ?_
 (have hk1 : k = 6 := (by omega); subst hk1; refine L5.two hsl5 (hrB.mono hle5) (hma'.mono hle5) (hmb'.mono hle5) ?_; rw [mW6]; cases hq : R2 4 (h.getD 0 B3) with | none => (rw [hq] at hmi; cases hmi) | some q => (have hq2 := hmm q hq; subst hq2; dsimp only; split <;> first | rfl | (exfalso; simp_all; done)))
 refine aP 13 rfl (M9 rfl rfl) rfl ?_
 refine A4 4 ?_
 (refine E5 rfl (D0 rfl rfl rfl (by omega) (by unfold maxLen; omega) rfl) rfl rfl ?_; rintro _ ⟨b319, rfl⟩)
 refine aP 14 rfl (qA rfl) rfl ?_
 refine A4 15 ?_
 refine I2 rfl ?_
 refine aP 16 rfl (qA rfl) rfl ?_
 refine A3 ?_
 (refine F0 Pk.here (fun G5 hle5 hsl5 hno5 => ?_))
 refine B7 ?_
 refine D5 (rT rfl) (rC rfl (A5 rfl rfl)) (rT rfl) ?_
 (have hk1 : k = 6 := (by omega); subst hk1; refine L5.two hsl5 (hrB.mono hle5) (hma'.mono hle5) (hmb'.mono hle5) ?_; rw [mW6]; cases hq : R2 4 (h.getD 0 B3) with | none => (rw [hq] at hmi; cases hmi) | some q => (have hq2 := hmm q hq; subst hq2; dsimp only; split <;> first | rfl | (exfalso; simp_all; done)))
 refine B5 ?_
 refine sB (qE rfl rfl) rfl rfl (fun h339 => ?_) (fun h339 => ?_)
 refine J3 ?_
 refine sE (A7 rfl) rfl (fun b350 => ?_)
 refine D1 ?_
 refine sP (J8 rfl rfl (by omega)) rfl rfl ?_
 refine A8 ?_
 (have hl2 : n = 2 := hop.1 (by omega); obtain ⟨b0, o0, q0, d0, hp0, hat0, hre0, hg0⟩ := hsl.kidD hkl (i := 0) (by omega) (by omega); obtain ⟨b1, o1, q1, d1, hp1, hat1, hre1, hg1⟩ := hsl.kidD hkl (i := 1) (by omega) (by omega); cases hp0; cases hp1; refine E2 E4 rfl ?_)
 refine L4 (i := 0) (l' := [tt,ff,ff,ff,ff,ff,ff,ff,ff,ff,ff,ff,ff,ff,ff,ff,ff,ff,ff]) rfl D6 (A5 rfl rfl) rfl (by kernel_rfl) rfl rfl ?_
 refine aL 1 rfl (A5 rfl rfl) rfl ?_
 refine aL 3 rfl (A5 rfl rfl) rfl ?_
 refine aP 4 rfl (qM rfl) rfl ?_
 refine aP 5 rfl (B6 (j := 0) rfl rfl rfl (by omega)) rfl ?_
 refine aL 6 rfl (A2 rfl rfl (hat0 _) rfl) rfl ?_
 refine aL 7 rfl (A5 rfl rfl) rfl ?_
 refine Q8 (j := 2) (j' := 8) (by kernel_rfl) ?_ ?_
 (refine E5 rfl (D0 rfl rfl rfl (by omega) (by unfold maxLen; omega) rfl) rfl rfl ?_; rintro _ ⟨b375, rfl⟩)
 refine A4 8 ?_
 refine T8 rfl rfl ((Z6 _ _ _ _ _ hre0 (K8 _))) rfl rfl rfl (fun h377 => ?_) (fun h377 => ?_)
 refine aP 9 rfl (qM rfl) rfl ?_
 refine aP 10 rfl (qM rfl) rfl ?_
 refine aP 11 rfl (B6 (j := 1) rfl rfl rfl (by omega)) rfl ?_
 refine aL 12 rfl (A2 rfl rfl (hat1 _) rfl) rfl ?_
 refine aL 13 rfl (A5 rfl rfl) rfl ?_
 refine A4 14 ?_
 refine T8 rfl rfl ((Z6 _ _ _ _ _ hre1 (K8 _))) rfl rfl rfl (fun h384 => ?_) (fun h384 => ?_)
 refine aP 15 rfl (M9 rfl rfl) rfl ?_
 refine aP 16 rfl (qA rfl) rfl ?_
 refine A4 17 ?_
 refine I2 rfl ?_
 refine aP 18 rfl (qA rfl) rfl ?_
 refine A3 ?_
 (refine F0 Pk.here (fun G5 hle5 hsl5 hno5 => ?_))
 refine B7 ?_
 refine D5 (rT rfl) (rC rfl (A5 rfl rfl)) (rT rfl) ?_
 (refine L5.two hsl5 (K8 _) (K8 _) (K8 _) ?_; rw [W1 (by omega)]; first | (rw [if_pos ⟨by assumption, by assumption⟩, if_neg (by omega)]; rfl) | (rw [if_neg (fun hc => by first | exact Bool.noConfusion (hc.1.symm.trans (by assumption)) | exact Bool.noConfusion (hc.2.symm.trans (by assumption)) | exact Bool.noConfusion (hc.symm.trans (by assumption)))]; rfl))
 refine aP 15 rfl (M9 rfl rfl) rfl ?_
 refine aP 16 rfl (qA rfl) rfl ?_
 refine A4 17 ?_
 refine I2 rfl ?_
 refine aP 18 rfl (qA rfl) rfl ?_
 refine A3 ?_
 (refine F0 Pk.here (fun G5 hle5 hsl5 hno5 => ?_))
 refine B7 ?_
 refine D5 (rT rfl) (rC rfl (A5 rfl rfl)) (rT rfl) ?_
 (refine L5.two hsl5 (K8 _) (K8 _) (K8 _) ?_; rw [W1 (by omega)]; first | (rw [if_pos ⟨by assumption, by assumption⟩, if_neg (by omega)]; rfl) | (rw [if_neg (fun hc => by first | exact Bool.noConfusion (hc.1.symm.trans (by assumption)) | exact Bool.noConfusion (hc.2.symm.trans (by assumption)) | exact Bool.noConfusion (hc.symm.trans (by assumption)))]; rfl))
 refine aP 9 rfl (qM rfl) rfl ?_
 refine C4 10 rfl rfl rfl ?_
 refine C4 11 rfl rfl rfl ?_
 refine C4 12 rfl rfl rfl ?_
 refine C4 13 rfl rfl rfl ?_
 refine C4 14 rfl rfl rfl ?_
 refine aP 15 rfl (O6 rfl rfl) rfl ?_
 refine aP 16 rfl (qA rfl) rfl ?_
 refine A4 17 ?_
 refine I2 rfl ?_
 refine aP 18 rfl (qA rfl) rfl ?_
 refine A3 ?_
 (refine F0 Pk.here (fun G5 hle5 hsl5 hno5 => ?_))
 refine B7 ?_
 refine D5 (rT rfl) (rC rfl (A5 rfl rfl)) (rT rfl) ?_
 (refine L5.two hsl5 (K8 _) (K8 _) (K8 _) ?_; rw [W1 (by omega)]; first | (rw [if_pos ⟨by assumption, by assumption⟩, if_neg (by omega)]; rfl) | (rw [if_neg (fun hc => by first | exact Bool.noConfusion (hc.1.symm.trans (by assumption)) | exact Bool.noConfusion (hc.2.symm.trans (by assumption)) | exact Bool.noConfusion (hc.symm.trans (by assumption)))]; rfl))
 refine T8 rfl rfl ((Z6 _ _ _ _ _ hre0 (K8 _))) rfl rfl rfl (fun h430 => ?_) (fun h430 => ?_)
 refine aP 9 rfl (qM rfl) rfl ?_
 refine aP 10 rfl (qM rfl) rfl ?_
 refine aP 11 rfl (B6 (j := 1) rfl rfl rfl (by omega)) rfl ?_
 refine aL 12 rfl (A2 rfl rfl (hat1 _) rfl) rfl ?_
 refine aL 13 rfl (A5 rfl rfl) rfl ?_
 refine Q8 (j := 2) (j' := 14) (by kernel_rfl) ?_ ?_
 (refine E5 rfl (D0 rfl rfl rfl (by omega) (by unfold maxLen; omega) rfl) rfl rfl ?_; rintro _ ⟨b437, rfl⟩)
 refine A4 14 ?_
 refine T8 rfl rfl ((Z6 _ _ _ _ _ hre1 (K8 _))) rfl rfl rfl (fun h439 => ?_) (fun h439 => ?_)
 refine aP 15 rfl (M9 rfl rfl) rfl ?_
 refine aP 16 rfl (qA rfl) rfl ?_
 refine A4 17 ?_
 refine I2 rfl ?_
 refine aP 18 rfl (qA rfl) rfl ?_
 refine A3 ?_
 (refine F0 Pk.here (fun G5 hle5 hsl5 hno5 => ?_))
 refine B7 ?_
 refine D5 (rT rfl) (rC rfl (A5 rfl rfl)) (rT rfl) ?_
 (refine L5.two hsl5 (K8 _) (K8 _) (K8 _) ?_; rw [W1 (by omega)]; first | (rw [if_pos ⟨by assumption, by assumption⟩, if_neg (by omega)]; rfl) | (rw [if_neg (fun hc => by first | exact Bool.noConfusion (hc.1.symm.trans (by assumption)) | exact Bool.noConfusion (hc.2.symm.trans (by assumption)) | exact Bool.noConfusion (hc.symm.trans (by assumption)))]; rfl))
 refine aP 15 rfl (M9 rfl rfl) rfl ?_
 refine aP 16 rfl (qA rfl) rfl ?_
 refine A4 17 ?_
 refine I2 rfl ?_
 refine aP 18 rfl (qA rfl) rfl ?_
 refine A3 ?_
 (refine F0 Pk.here (fun G5 hle5 hsl5 hno5 => ?_))
 refine B7 ?_
 refine D5 (rT rfl) (rC rfl (A5 rfl rfl)) (rT rfl) ?_
 (refine L5.two hsl5 (K8 _) (K8 _) (K8 _) ?_; rw [W1 (by omega)]; first | (rw [if_pos ⟨by assumption, by assumption⟩, if_neg (by omega)]; rfl) | (rw [if_neg (fun hc => by first | exact Bool.noConfusion (hc.1.symm.trans (by assumption)) | exact Bool.noConfusion (hc.2.symm.trans (by assumption)) | exact Bool.noConfusion (hc.symm.trans (by assumption)))]; rfl))
 refine T8 rfl rfl ((Z6 _ _ _ _ _ hre1 (K8 _))) rfl rfl rfl (fun h466 => ?_) (fun h466 => ?_)
 refine aP 15 rfl (M9 rfl rfl) rfl ?_
 refine A4 2 ?_
 (refine E5 rfl (D0 rfl rfl rfl (by omega) (by unfold maxLen; omega) rfl) rfl rfl ?_; rintro _ ⟨b469, rfl⟩)
 refine aP 16 rfl (qA rfl) rfl ?_
 refine A4 17 ?_
 refine I2 rfl ?_
 refine aP 18 rfl (qA rfl) rfl ?_
 refine A3 ?_
 (refine F0 Pk.here (fun G5 hle5 hsl5 hno5 => ?_))
 refine B7 ?_
 refine D5 (rT rfl) (rC rfl (A5 rfl rfl)) (rT rfl) ?_
 (refine L5.two hsl5 (K8 _) (K8 _) (K8 _) ?_; rw [W1 (by omega)]; first | (rw [if_pos ⟨by assumption, by assumption⟩, if_neg (by omega)]; rfl) | (rw [if_neg (fun hc => by first | exact Bool.noConfusion (hc.1.symm.trans (by assumption)) | exact Bool.noConfusion (hc.2.symm.trans (by assumption)) | exact Bool.noConfusion (hc.symm.trans (by assumption)))]; rfl))
 refine aP 15 rfl (M9 rfl rfl) rfl ?_
 refine A4 2 ?_
 (refine E5 rfl (D0 rfl rfl rfl (by omega) (by unfold maxLen; omega) rfl) rfl rfl ?_; rintro _ ⟨b484, rfl⟩)
 refine aP 16 rfl (qA rfl) rfl ?_
 refine A4 17 ?_
 refine I2 rfl ?_
 refine aP 18 rfl (qA rfl) rfl ?_
 refine A3 ?_
 (refine F0 Pk.here (fun G5 hle5 hsl5 hno5 => ?_))
 refine B7 ?_
 refine D5 (rT rfl) (rC rfl (A5 rfl rfl)) (rT rfl) ?_
 (refine L5.two hsl5 (K8 _) (K8 _) (K8 _) ?_; rw [W1 (by omega)]; first | (rw [if_pos ⟨by assumption, by assumption⟩, if_neg (by omega)]; rfl) | (rw [if_neg (fun hc => by first | exact Bool.noConfusion (hc.1.symm.trans (by assumption)) | exact Bool.noConfusion (hc.2.symm.trans (by assumption)) | exact Bool.noConfusion (hc.symm.trans (by assumption)))]; rfl))
 refine aP 9 rfl (qM rfl) rfl ?_
 refine C4 10 rfl rfl rfl ?_
 refine C4 11 rfl rfl rfl ?_
 refine C4 12 rfl rfl rfl ?_
 refine C4 13 rfl rfl rfl ?_
 refine Q8 (j := 2) (j' := 14) (by kernel_rfl) ?_ ?_
 (refine E5 rfl (D0 rfl rfl rfl (by omega) (by unfold maxLen; omega) rfl) rfl rfl ?_; rintro _ ⟨b503, rfl⟩)
 refine C4 14 rfl rfl rfl ?_
 refine aP 15 rfl (O6 rfl rfl) rfl ?_
 refine aP 16 rfl (qA rfl) rfl ?_
 refine A4 17 ?_
 refine I2 rfl ?_
 refine aP 18 rfl (qA rfl) rfl ?_
 refine A3 ?_
 (refine F0 Pk.here (fun G5 hle5 hsl5 hno5 => ?_))
 refine B7 ?_
 refine D5 (rT rfl) (rC rfl (A5 rfl rfl)) (rT rfl) ?_
 (refine L5.two hsl5 (K8 _) (K8 _) (K8 _) ?_; rw [W1 (by omega)]; first | (rw [if_pos ⟨by assumption, by assumption⟩, if_neg (by omega)]; rfl) | (rw [if_neg (fun hc => by first | exact Bool.noConfusion (hc.1.symm.trans (by assumption)) | exact Bool.noConfusion (hc.2.symm.trans (by assumption)) | exact Bool.noConfusion (hc.symm.trans (by assumption)))]; rfl))
 refine A6a (l' := [tt,tt,ff,tt,tt,tt,tt,tt,tt,tt,tt,tt,tt,tt,tt,ff,ff,ff,ff]) rfl rfl rfl rfl ?_
 refine aP 15 rfl (O6 rfl rfl) rfl ?_
 refine A4 2 ?_
 (refine E5 rfl (D0 rfl rfl rfl (by omega) (by unfold maxLen; omega) rfl) rfl rfl ?_; rintro _ ⟨b521, rfl⟩)
 refine aP 16 rfl (qA rfl) rfl ?_
 refine A4 17 ?_
 refine I2 rfl ?_
 refine aP 18 rfl (qA rfl) rfl ?_
 refine A3 ?_
 (refine F0 Pk.here (fun G5 hle5 hsl5 hno5 => ?_))
 refine B7 ?_
 refine D5 (rT rfl) (rC rfl (A5 rfl rfl)) (rT rfl) ?_
 (refine L5.two hsl5 (K8 _) (K8 _) (K8 _) ?_; rw [W1 (by omega)]; first | (rw [if_pos ⟨by assumption, by assumption⟩, if_neg (by omega)]; rfl) | (rw [if_neg (fun hc => by first | exact Bool.noConfusion (hc.1.symm.trans (by assumption)) | exact Bool.noConfusion (hc.2.symm.trans (by assumption)) | exact Bool.noConfusion (hc.symm.trans (by assumption)))]; rfl))
 refine B0 ?_
 refine sB (qE rfl rfl) rfl rfl (fun h539 => ?_) (fun h539 => ?_)
 refine B5 ?_
 refine sE (A7 rfl) rfl (fun b547 => ?_)
 refine D1 ?_
 refine sP (X5 rfl rfl (by omega)) rfl rfl ?_
 refine E0 ?_
 (have hl2 : n = 2 := hop.1 (by omega); obtain ⟨b0, o0, q0, d0, hp0, hat0, hre0, hg0⟩ := hsl.kidD hkl (i := 0) (by omega) (by omega); obtain ⟨b1, o1, q1, d1, hp1, hat1, hre1, hg1⟩ := hsl.kidD hkl (i := 1) (by omega) (by omega); cases hp0; cases hp1; refine E2 E4 rfl ?_)
 refine L4 (i := 0) (l' := [tt,ff,ff,ff,ff,ff,ff,ff,ff,ff,ff,ff,ff,ff,ff,ff,ff,ff,ff]) rfl D6 (A5 rfl rfl) rfl (by kernel_rfl) rfl rfl ?_
 refine aL 1 rfl (A5 rfl rfl) rfl ?_
 refine aL 3 rfl (A5 rfl rfl) rfl ?_
 refine aP 4 rfl (qM rfl) rfl ?_
 refine aP 5 rfl (B6 (j := 0) rfl rfl rfl (by omega)) rfl ?_
 refine aL 6 rfl (A2 rfl rfl (hat0 _) rfl) rfl ?_
 refine aL 7 rfl (A5 rfl rfl) rfl ?_
 refine Q8 (j := 2) (j' := 8) (by kernel_rfl) ?_ ?_
 (refine E5 rfl (D0 rfl rfl rfl (by omega) (by unfold maxLen; omega) rfl) rfl rfl ?_; rintro _ ⟨b575, rfl⟩)
 refine A4 8 ?_
 refine T8 rfl rfl ((Z6 _ _ _ _ _ hre0 (K8 _))) rfl rfl rfl (fun h577 => ?_) (fun h577 => ?_)
 refine aP 9 rfl (qM rfl) rfl ?_
 refine aP 10 rfl (qM rfl) rfl ?_
 refine aP 11 rfl (B6 (j := 1) rfl rfl rfl (by omega)) rfl ?_
 refine aL 12 rfl (A2 rfl rfl (hat1 _) rfl) rfl ?_
 refine aL 13 rfl (A5 rfl rfl) rfl ?_
 refine A4 14 ?_
 refine T8 rfl rfl ((Z6 _ _ _ _ _ hre1 (K8 _))) rfl rfl rfl (fun h584 => ?_) (fun h584 => ?_)
 refine aP 15 rfl (M9 rfl rfl) rfl ?_
 refine aP 16 rfl (qA rfl) rfl ?_
 refine A4 17 ?_
 refine I2 rfl ?_
 refine aP 18 rfl (qA rfl) rfl ?_
 refine A3 ?_
 (refine F0 Pk.here (fun G5 hle5 hsl5 hno5 => ?_))
 refine B7 ?_
 refine D5 (rT rfl) (rC rfl (A5 rfl rfl)) (rT rfl) ?_
 (refine L5.two hsl5 (K8 _) (K8 _) (A0t _) ?_; rw [W1 (by omega)]; first | (rw [if_pos ⟨by assumption, by assumption⟩, if_pos (by omega)]; rfl) | (rw [if_neg (fun hc => by first | exact Bool.noConfusion (hc.1.symm.trans (by assumption)) | exact Bool.noConfusion (hc.2.symm.trans (by assumption)) | exact Bool.noConfusion (hc.symm.trans (by assumption)))]; rfl))
 refine aP 15 rfl (M9 rfl rfl) rfl ?_
 refine aP 16 rfl (qA rfl) rfl ?_
 refine A4 17 ?_
 refine I2 rfl ?_
 refine aP 18 rfl (qA rfl) rfl ?_
 refine A3 ?_
 (refine F0 Pk.here (fun G5 hle5 hsl5 hno5 => ?_))
 refine B7 ?_
 refine D5 (rT rfl) (rC rfl (A5 rfl rfl)) (rT rfl) ?_
 (refine L5.two hsl5 (K8 _) (K8 _) (A0t _) ?_; rw [W1 (by omega)]; first | (rw [if_pos ⟨by assumption, by assumption⟩, if_pos (by omega)]; rfl) | (rw [if_neg (fun hc => by first | exact Bool.noConfusion (hc.1.symm.trans (by assumption)) | exact Bool.noConfusion (hc.2.symm.trans (by assumption)) | exact Bool.noConfusion (hc.symm.trans (by assumption)))]; rfl))
 refine aP 9 rfl (qM rfl) rfl ?_
 refine C4 10 rfl rfl rfl ?_
 refine C4 11 rfl rfl rfl ?_
 refine C4 12 rfl rfl rfl ?_
 refine C4 13 rfl rfl rfl ?_
 refine C4 14 rfl rfl rfl ?_
 refine aP 15 rfl (O6 rfl rfl) rfl ?_
 refine aP 16 rfl (qA rfl) rfl ?_
 refine A4 17 ?_
 refine I2 rfl ?_
 refine aP 18 rfl (qA rfl) rfl ?_
 refine A3 ?_
 (refine F0 Pk.here (fun G5 hle5 hsl5 hno5 => ?_))
 refine B7 ?_
 refine D5 (rT rfl) (rC rfl (A5 rfl rfl)) (rT rfl) ?_
 (refine L5.two hsl5 (K8 _) (K8 _) (A0t _) ?_; rw [W1 (by omega)]; first | (rw [if_pos ⟨by assumption, by assumption⟩, if_pos (by omega)]; rfl) | (rw [if_neg (fun hc => by first | exact Bool.noConfusion (hc.1.symm.trans (by assumption)) | exact Bool.noConfusion (hc.2.symm.trans (by assumption)) | exact Bool.noConfusion (hc.symm.trans (by assumption)))]; rfl))
 refine T8 rfl rfl ((Z6 _ _ _ _ _ hre0 (K8 _))) rfl rfl rfl (fun h630 => ?_) (fun h630 => ?_)
 refine aP 9 rfl (qM rfl) rfl ?_
 refine aP 10 rfl (qM rfl) rfl ?_
 refine aP 11 rfl (B6 (j := 1) rfl rfl rfl (by omega)) rfl ?_
 refine aL 12 rfl (A2 rfl rfl (hat1 _) rfl) rfl ?_
 refine aL 13 rfl (A5 rfl rfl) rfl ?_
 refine Q8 (j := 2) (j' := 14) (by kernel_rfl) ?_ ?_
 (refine E5 rfl (D0 rfl rfl rfl (by omega) (by unfold maxLen; omega) rfl) rfl rfl ?_; rintro _ ⟨b637, rfl⟩)
 refine A4 14 ?_
 refine T8 rfl rfl ((Z6 _ _ _ _ _ hre1 (K8 _))) rfl rfl rfl (fun h639 => ?_) (fun h639 => ?_)
 refine aP 15 rfl (M9 rfl rfl) rfl ?_
 refine aP 16 rfl (qA rfl) rfl ?_
 refine A4 17 ?_
 refine I2 rfl ?_
 refine aP 18 rfl (qA rfl) rfl ?_
 refine A3 ?_
 (refine F0 Pk.here (fun G5 hle5 hsl5 hno5 => ?_))
 refine B7 ?_
 refine D5 (rT rfl) (rC rfl (A5 rfl rfl)) (rT rfl) ?_
 (refine L5.two hsl5 (K8 _) (K8 _) (A0t _) ?_; rw [W1 (by omega)]; first | (rw [if_pos ⟨by assumption, by assumption⟩, if_pos (by omega)]; rfl) | (rw [if_neg (fun hc => by first | exact Bool.noConfusion (hc.1.symm.trans (by assumption)) | exact Bool.noConfusion (hc.2.symm.trans (by assumption)) | exact Bool.noConfusion (hc.symm.trans (by assumption)))]; rfl))
 refine aP 15 rfl (M9 rfl rfl) rfl ?_
 refine aP 16 rfl (qA rfl) rfl ?_
 refine A4 17 ?_
 refine I2 rfl ?_
 refine aP 18 rfl (qA rfl) rfl ?_
 refine A3 ?_
 (refine F0 Pk.here (fun G5 hle5 hsl5 hno5 => ?_))
 refine B7 ?_
 refine D5 (rT rfl) (rC rfl (A5 rfl rfl)) (rT rfl) ?_
 (refine L5.two hsl5 (K8 _) (K8 _) (A0t _) ?_; rw [W1 (by omega)]; first | (rw [if_pos ⟨by assumption, by assumption⟩, if_pos (by omega)]; rfl) | (rw [if_neg (fun hc => by first | exact Bool.noConfusion (hc.1.symm.trans (by assumption)) | exact Bool.noConfusion (hc.2.symm.trans (by assumption)) | exact Bool.noConfusion (hc.symm.trans (by assumption)))]; rfl))
 refine T8 rfl rfl ((Z6 _ _ _ _ _ hre1 (K8 _))) rfl rfl rfl (fun h666 => ?_) (fun h666 => ?_)
 refine aP 15 rfl (M9 rfl rfl) rfl ?_
 refine A4 2 ?_
 (refine E5 rfl (D0 rfl rfl rfl (by omega) (by unfold maxLen; omega) rfl) rfl rfl ?_; rintro _ ⟨b669, rfl⟩)
 refine aP 16 rfl (qA rfl) rfl ?_
 refine A4 17 ?_
 refine I2 rfl ?_
 refine aP 18 rfl (qA rfl) rfl ?_
 refine A3 ?_
 (refine F0 Pk.here (fun G5 hle5 hsl5 hno5 => ?_))
 refine B7 ?_
 refine D5 (rT rfl) (rC rfl (A5 rfl rfl)) (rT rfl) ?_
 (refine L5.two hsl5 (K8 _) (K8 _) (A0t _) ?_; rw [W1 (by omega)]; first | (rw [if_pos ⟨by assumption, by assumption⟩, if_pos (by omega)]; rfl) | (rw [if_neg (fun hc => by first | exact Bool.noConfusion (hc.1.symm.trans (by assumption)) | exact Bool.noConfusion (hc.2.symm.trans (by assumption)) | exact Bool.noConfusion (hc.symm.trans (by assumption)))]; rfl))
 refine aP 15 rfl (M9 rfl rfl) rfl ?_
 refine A4 2 ?_
 (refine E5 rfl (D0 rfl rfl rfl (by omega) (by unfold maxLen; omega) rfl) rfl rfl ?_; rintro _ ⟨b684, rfl⟩)
 refine aP 16 rfl (qA rfl) rfl ?_
 refine A4 17 ?_
 refine I2 rfl ?_
 refine aP 18 rfl (qA rfl) rfl ?_
 refine A3 ?_
 (refine F0 Pk.here (fun G5 hle5 hsl5 hno5 => ?_))
 refine B7 ?_
 refine D5 (rT rfl) (rC rfl (A5 rfl rfl)) (rT rfl) ?_
 (refine L5.two hsl5 (K8 _) (K8 _) (A0t _) ?_; rw [W1 (by omega)]; first | (rw [if_pos ⟨by assumption, by assumption⟩, if_pos (by omega)]; rfl) | (rw [if_neg (fun hc => by first | exact Bool.noConfusion (hc.1.symm.trans (by assumption)) | exact Bool.noConfusion (hc.2.symm.trans (by assumption)) | exact Bool.noConfusion (hc.symm.trans (by assumption)))]; rfl))
 refine aP 9 rfl (qM rfl) rfl ?_
 refine C4 10 rfl rfl rfl ?_
 refine C4 11 rfl rfl rfl ?_
 refine C4 12 rfl rfl rfl ?_
 refine C4 13 rfl rfl rfl ?_
 refine Q8 (j := 2) (j' := 14) (by kernel_rfl) ?_ ?_
 (refine E5 rfl (D0 rfl rfl rfl (by omega) (by unfold maxLen; omega) rfl) rfl rfl ?_; rintro _ ⟨b703, rfl⟩)
 refine C4 14 rfl rfl rfl ?_
 refine aP 15 rfl (O6 rfl rfl) rfl ?_
 refine aP 16 rfl (qA rfl) rfl ?_
 refine A4 17 ?_
 refine I2 rfl ?_
 refine aP 18 rfl (qA rfl) rfl ?_
 refine A3 ?_
 (refine F0 Pk.here (fun G5 hle5 hsl5 hno5 => ?_))
 refine B7 ?_
 refine D5 (rT rfl) (rC rfl (A5 rfl rfl)) (rT rfl) ?_
 (refine L5.two hsl5 (K8 _) (K8 _) (A0t _) ?_; rw [W1 (by omega)]; first | (rw [if_pos ⟨by assumption, by assumption⟩, if_pos (by omega)]; rfl) | (rw [if_neg (fun hc => by first | exact Bool.noConfusion (hc.1.symm.trans (by assumption)) | exact Bool.noConfusion (hc.2.symm.trans (by assumption)) | exact Bool.noConfusion (hc.symm.trans (by assumption)))]; rfl))
 refine A6a (l' := [tt,tt,ff,tt,tt,tt,tt,tt,tt,tt,tt,tt,tt,tt,tt,ff,ff,ff,ff]) rfl rfl rfl rfl ?_
 refine aP 15 rfl (O6 rfl rfl) rfl ?_
 refine A4 2 ?_
 (refine E5 rfl (D0 rfl rfl rfl (by omega) (by unfold maxLen; omega) rfl) rfl rfl ?_; rintro _ ⟨b721, rfl⟩)
 refine aP 16 rfl (qA rfl) rfl ?_
 refine A4 17 ?_
 refine I2 rfl ?_
 refine aP 18 rfl (qA rfl) rfl ?_
 refine A3 ?_
 (refine F0 Pk.here (fun G5 hle5 hsl5 hno5 => ?_))
 refine B7 ?_
 refine D5 (rT rfl) (rC rfl (A5 rfl rfl)) (rT rfl) ?_
 (refine L5.two hsl5 (K8 _) (K8 _) (A0t _) ?_; rw [W1 (by omega)]; first | (rw [if_pos ⟨by assumption, by assumption⟩, if_pos (by omega)]; rfl) | (rw [if_neg (fun hc => by first | exact Bool.noConfusion (hc.1.symm.trans (by assumption)) | exact Bool.noConfusion (hc.2.symm.trans (by assumption)) | exact Bool.noConfusion (hc.symm.trans (by assumption)))]; rfl))
 refine A8 ?_
 refine sB (qE rfl rfl) rfl rfl (fun h740 => ?_) (fun h740 => ?_)
 refine A8 ?_
 (have hl3 : n = 3 := hop.2.1 (by omega); obtain ⟨b0, o0, q0, d0, hp0, hat0, hre0, hg0⟩ := hsl.kidD hkl (i := 0) (by omega) (by omega); obtain ⟨b1, o1, q1, d1, hp1, hat1, hre1, hg1⟩ := hsl.kidD hkl (i := 1) (by omega) (by omega); cases hp0; cases hp1; obtain ⟨b2, o2, q2, d2, hp2, hat2, hre2, hg2⟩ := hsl.kidD hkl (i := 2) (by omega) (by omega); cases hp2; refine E2 E4 rfl ?_)
 refine J4 (i := 0) (l' := [tt,ff,ff,ff,ff,ff,ff,ff,ff,ff,ff,ff,ff,ff,ff,ff]) rfl D6 (qM rfl) rfl (by kernel_rfl) rfl rfl ?_
 refine aP 1 rfl (B6 (j := 0) rfl rfl rfl (by omega)) rfl ?_
 refine aL 2 rfl (A2 rfl rfl (hat0 _) rfl) rfl ?_
 refine aL 3 rfl (A5 rfl rfl) rfl ?_
 refine A4 4 ?_
 refine T8 rfl rfl ((Z6 _ _ _ _ _ hre0 (A0t _))) rfl rfl rfl (fun h753 => ?_) (fun h753 => ?_)
 refine aP 5 rfl (pNt rfl) rfl ?_
 refine aP 6 rfl (qM rfl) rfl ?_
 refine aP 7 rfl (qM rfl) rfl ?_
 refine aP 8 rfl (B6 (j := 1) rfl rfl rfl (by omega)) rfl ?_
 refine aL 9 rfl (A2 rfl rfl (hat1 _) rfl) rfl ?_
 refine aP 10 rfl (qM rfl) rfl ?_
 refine aP 11 rfl (B6 (j := 2) rfl rfl rfl (by omega)) rfl ?_
 refine aL 12 rfl (A2 rfl rfl (hat2 _) rfl) rfl ?_
 refine A4 13 ?_
 refine T8 rfl rfl ((Z6 _ _ _ _ _ hre1 hre2)) rfl rfl rfl (fun h763 => ?_) (fun h763 => ?_)
 refine aP 14 rfl (pNt rfl) rfl ?_
 refine aP 15 rfl (O6 rfl rfl) rfl ?_
 refine A8 ?_
 (have hl3 : n = 3 := hop.2.1 (by omega); obtain ⟨b0, o0, q0, d0, hp0, hat0, hre0, hg0⟩ := hsl.kidD hkl (i := 0) (by omega) (by omega); obtain ⟨b1, o1, q1, d1, hp1, hat1, hre1, hg1⟩ := hsl.kidD hkl (i := 1) (by omega) (by omega); cases hp0; cases hp1; obtain ⟨b2, o2, q2, d2, hp2, hat2, hre2, hg2⟩ := hsl.kidD hkl (i := 2) (by omega) (by omega); cases hp2; refine E2 E4 rfl ?_)
 refine J4 (i := 0) (l' := [tt,ff,ff,ff,ff,ff,ff,ff,ff]) rfl D6 (qM rfl) rfl (by kernel_rfl) rfl rfl ?_
 refine aP 1 rfl (B6 (j := 1) rfl rfl rfl (by omega)) rfl ?_
 refine aL 2 rfl (A2 rfl rfl (hat1 _) rfl) rfl ?_
 refine aP 3 rfl (qM rfl) rfl ?_
 refine aP 4 rfl (B6 (j := 2) rfl rfl rfl (by omega)) rfl ?_
 refine aL 5 rfl (A2 rfl rfl (hat2 _) rfl) rfl ?_
 refine Q8 (j := 6) (j' := 7) (by kernel_rfl) ?_ ?_
 (refine H7 rfl rfl (A98 _ _ _ _ _ (by assumption) (A3p har (by omega)) (A3p har (by omega)) hre1 hre2) rfl rfl rfl (fun v GM hleM hh => ?_); obtain ⟨cM, rfl, hrM⟩ := hh; obtain ⟨p7, c7, e7, rfl, _⟩ := hrM.open)
 refine A4 7 ?_
 (refine E5 rfl (A7 rfl) rfl rfl ?_; rintro _ ⟨b782, rfl⟩)
 refine A4 8 ?_
 refine I2 rfl ?_
 refine B7 ?_
 (have hl3 : n = 3 := hop.2.1 (by omega); obtain ⟨b0, o0, q0, d0, hp0, hat0, hre0, hg0⟩ := hsl.kidD hkl (i := 0) (by omega) (by omega); obtain ⟨b1, o1, q1, d1, hp1, hat1, hre1, hg1⟩ := hsl.kidD hkl (i := 1) (by omega) (by omega); cases hp0; cases hp1; obtain ⟨b2, o2, q2, d2, hp2, hat2, hre2, hg2⟩ := hsl.kidD hkl (i := 2) (by omega) (by omega); cases hp2; refine E2 E4 rfl ?_)
 refine L4 (i := 0) (l' := [tt,ff,ff,ff,ff,ff,ff,ff]) rfl D6 (A5 rfl rfl) rfl (by kernel_rfl) rfl rfl ?_
 refine aL 1 rfl (A5 rfl rfl) rfl ?_
 refine aL 2 rfl (A5 rfl rfl) rfl ?_
 refine aL 4 rfl (A5 rfl rfl) rfl ?_
 refine A4 3 ?_
 (refine E5 rfl (D0 rfl rfl rfl (by omega) (by unfold maxLen; omega) rfl) rfl rfl ?_; rintro _ ⟨b794, rfl⟩)
 refine aP 5 rfl (qA rfl) rfl ?_
 refine A4 6 ?_
 refine I2 rfl ?_
 refine aP 7 rfl (qA rfl) rfl ?_
 refine A3 ?_
 (refine F0 Pk.here (fun G5 hle5 hsl5 hno5 => ?_))
 refine B7 ?_
 refine D5 (rT rfl) (rC rfl (A5 rfl rfl)) (rT rfl) ?_
 exact A99
 (refine E5 rfl (A7 rfl) rfl rfl ?_; rintro _ ⟨b807, rfl⟩)
 refine A4 6 ?_
 (refine H7 rfl rfl (A98 _ _ _ _ _ (by assumption) (A3p har (by omega)) (A3p har (by omega)) hre1 hre2) rfl rfl rfl (fun v GM hleM hh => ?_); obtain ⟨cM, rfl, hrM⟩ := hh; obtain ⟨p7, c7, e7, rfl, _⟩ := hrM.open)
 refine A4 8 ?_
 refine I2 rfl ?_
 refine B7 ?_
 (have hl3 : n = 3 := hop.2.1 (by omega); obtain ⟨b0, o0, q0, d0, hp0, hat0, hre0, hg0⟩ := hsl.kidD hkl (i := 0) (by omega) (by omega); obtain ⟨b1, o1, q1, d1, hp1, hat1, hre1, hg1⟩ := hsl.kidD hkl (i := 1) (by omega) (by omega); cases hp0; cases hp1; obtain ⟨b2, o2, q2, d2, hp2, hat2, hre2, hg2⟩ := hsl.kidD hkl (i := 2) (by omega) (by omega); cases hp2; refine E2 E4 rfl ?_)
 refine L4 (i := 0) (l' := [tt,ff,ff,ff,ff,ff,ff,ff]) rfl D6 (A5 rfl rfl) rfl (by kernel_rfl) rfl rfl ?_
 refine aL 1 rfl (A5 rfl rfl) rfl ?_
 refine aL 2 rfl (A5 rfl rfl) rfl ?_
 refine aL 4 rfl (A5 rfl rfl) rfl ?_
 refine A4 3 ?_
 (refine E5 rfl (D0 rfl rfl rfl (by omega) (by unfold maxLen; omega) rfl) rfl rfl ?_; rintro _ ⟨b821, rfl⟩)
 refine aP 5 rfl (qA rfl) rfl ?_
 refine A4 6 ?_
 refine I2 rfl ?_
 refine aP 7 rfl (qA rfl) rfl ?_
 refine A3 ?_
 (refine F0 Pk.here (fun G5 hle5 hsl5 hno5 => ?_))
 refine B7 ?_
 refine D5 (rT rfl) (rC rfl (A5 rfl rfl)) (rT rfl) ?_
 exact A99
 refine aP 14 rfl (pNf rfl) rfl ?_
 refine aP 15 rfl (O6 rfl rfl) rfl ?_
 refine I7 ?_
 refine D5 (rT rfl) (rC rfl (A5 rfl rfl)) (rT rfl) ?_
 exact B0a
 refine aP 5 rfl (pNf rfl) rfl ?_
 refine aP 6 rfl (qM rfl) rfl ?_
 refine C4 7 rfl rfl rfl ?_
 refine C4 8 rfl rfl rfl ?_
 refine C4 9 rfl rfl rfl ?_
 refine C4 10 rfl rfl rfl ?_
 refine C4 11 rfl rfl rfl ?_
 refine C4 12 rfl rfl rfl ?_
 refine C4 13 rfl rfl rfl ?_
 refine C4 14 rfl rfl rfl ?_
 refine aP 15 rfl (M9 rfl rfl) rfl ?_
 refine I7 ?_
 refine D5 (rT rfl) (rC rfl (A5 rfl rfl)) (rT rfl) ?_
 exact B0a
 refine A8 ?_
 refine sB (qE rfl rfl) rfl rfl (fun h887 => ?_) (fun h887 => ?_)
 refine B0 ?_
 (have hl2 : n = 2 := hop.1 (by omega); obtain ⟨b0, o0, q0, d0, hp0, hat0, hre0, hg0⟩ := hsl.kidD hkl (i := 0) (by omega) (by omega); obtain ⟨b1, o1, q1, d1, hp1, hat1, hre1, hg1⟩ := hsl.kidD hkl (i := 1) (by omega) (by omega); cases hp0; cases hp1; refine E2 E4 rfl ?_)
 refine J4 (i := 0) (l' := [tt,ff,ff,ff,ff,ff,ff,ff,ff,ff]) rfl D6 (qM rfl) rfl (by kernel_rfl) rfl rfl ?_
 refine aP 1 rfl (B6 (j := 0) rfl rfl rfl (by omega)) rfl ?_
 refine aL 2 rfl (A2 rfl rfl (hat0 _) rfl) rfl ?_
 refine aP 3 rfl (qM rfl) rfl ?_
 refine aP 4 rfl (B6 (j := 1) rfl rfl rfl (by omega)) rfl ?_
 refine aL 5 rfl (A2 rfl rfl (hat1 _) rfl) rfl ?_
 refine A4 6 ?_
 (refine H7 rfl rfl (A2b 5 _ _ _ _ _ ⟨by omega, by omega⟩ hre0 hre1) rfl rfl rfl (fun v GB hleB hh => ?_); obtain ⟨cB, rfl, hrB⟩ := hh; obtain ⟨p7, c7, e7, rfl, _⟩ := hrB.open)
 refine aP 7 rfl (qA rfl) rfl ?_
 refine A4 8 ?_
 refine I2 rfl ?_
 refine aP 9 rfl (qA rfl) rfl ?_
 refine B0 ?_
 refine D5 (rT rfl) (rC rfl (A5 rfl rfl)) (rT rfl) ?_
 (have hk1 : k = 10 := (by omega); subst hk1; exact L5.nil hrB A5a)
 refine A8 ?_
 refine sB (qE rfl rfl) rfl rfl (fun h919 => ?_) (fun h919 => ?_)
 refine B0 ?_
 (have hl1 : n = 1 := hop.2.2 (by omega); obtain ⟨b0, o0, q0, d0, hp0, hat0, hre0, hg0⟩ := hsl.kidD hkl (i := 0) (by omega) (by omega); cases hp0; refine E2 E4 rfl ?_)
 refine J4 (i := 0) (l' := [tt,ff,ff,ff,ff,ff,ff,ff,ff,ff,ff,ff,ff,ff]) rfl D6 (B9 rfl) rfl (by kernel_rfl) rfl rfl ?_
 refine aL 1 rfl (A5 rfl rfl) rfl ?_
 refine aP 3 rfl (B9 rfl) rfl ?_
 refine aL 4 rfl (A5 rfl rfl) rfl ?_
 refine aP 5 rfl (qM rfl) rfl ?_
 refine aP 6 rfl (B6 (j := 0) rfl rfl rfl (by omega)) rfl ?_
 refine aL 7 rfl (A2 rfl rfl (hat0 _) rfl) rfl ?_
 refine aP 8 rfl (B9 rfl) rfl ?_
 refine aL 9 rfl (A5 rfl rfl) rfl ?_
 refine Q8 (j := 2) (j' := 10) (by kernel_rfl) ?_ ?_
 (refine E5 rfl (D0 rfl rfl rfl (by omega) (by unfold maxLen; omega) rfl) rfl rfl ?_; rintro _ ⟨b936, rfl⟩)
 refine A4 10 ?_
 refine T8 rfl rfl ((Z6 _ _ _ _ _ hre0 hrty)) rfl rfl rfl (fun h938 => ?_) (fun h938 => ?_)
 refine aP 11 rfl (qA rfl) rfl ?_
 refine A4 12 ?_
 refine I2 rfl ?_
 refine aP 13 rfl (qA rfl) rfl ?_
 refine A3 ?_
 (refine F0 Pk.here (fun G5 hle5 hsl5 hno5 => ?_))
 refine B7 ?_
 refine D5 (rT rfl) (rC rfl (A5 rfl rfl)) (rT rfl) ?_
 (have hk1 : k = 13 := (by omega); subst hk1; refine L5.one hsl5 (hrty.mono hle5) (hrty.mono hle5) ?_; rw [A2K]; split <;> first | rfl | (exfalso; simp_all; done))
 refine aP 11 rfl (qA rfl) rfl ?_
 refine A4 12 ?_
 refine I2 rfl ?_
 refine aP 13 rfl (qA rfl) rfl ?_
 refine A3 ?_
 (refine F0 Pk.here (fun G5 hle5 hsl5 hno5 => ?_))
 refine B7 ?_
 refine D5 (rT rfl) (rC rfl (A5 rfl rfl)) (rT rfl) ?_
 (have hk1 : k = 13 := (by omega); subst hk1; refine L5.one hsl5 (hrty.mono hle5) (hrty.mono hle5) ?_; rw [A2K]; split <;> first | rfl | (exfalso; simp_all; done))
 refine T8 rfl rfl ((Z6 _ _ _ _ _ hre0 hrty)) rfl rfl rfl (fun h963 => ?_) (fun h963 => ?_)
 refine A4 2 ?_
 (refine E5 rfl (D0 rfl rfl rfl (by omega) (by unfold maxLen; omega) rfl) rfl rfl ?_; rintro _ ⟨b965, rfl⟩)
 refine aP 11 rfl (qA rfl) rfl ?_
 refine A4 12 ?_
 refine I2 rfl ?_
 refine aP 13 rfl (qA rfl) rfl ?_
 refine A3 ?_
 (refine F0 Pk.here (fun G5 hle5 hsl5 hno5 => ?_))
 refine B7 ?_
 refine D5 (rT rfl) (rC rfl (A5 rfl rfl)) (rT rfl) ?_
 (have hk1 : k = 13 := (by omega); subst hk1; refine L5.one hsl5 (hrty.mono hle5) (hrty.mono hle5) ?_; rw [A2K]; split <;> first | rfl | (exfalso; simp_all; done))
 refine A4 2 ?_
 (refine E5 rfl (D0 rfl rfl rfl (by omega) (by unfold maxLen; omega) rfl) rfl rfl ?_; rintro _ ⟨b979, rfl⟩)
 refine aP 11 rfl (qA rfl) rfl ?_
 refine A4 12 ?_
 refine I2 rfl ?_
 refine aP 13 rfl (qA rfl) rfl ?_
 refine A3 ?_
 (refine F0 Pk.here (fun G5 hle5 hsl5 hno5 => ?_))
 refine B7 ?_
 refine D5 (rT rfl) (rC rfl (A5 rfl rfl)) (rT rfl) ?_
 (have hk1 : k = 13 := (by omega); subst hk1; refine L5.one hsl5 (hrty.mono hle5) (hrty.mono hle5) ?_; rw [A2K]; split <;> first | rfl | (exfalso; simp_all; done))
 refine J3 ?_
 (have hk11 : k = 11 ∨ k = 12 := (by omega); have hl1 : n = 1 := hop.2.2 (by omega); obtain ⟨b0, o0, q0, d0, hp0, hat0, hre0, hg0⟩ := hsl.kidD hkl (i := 0) (by omega) (by omega); cases hp0; refine sP (B6 (j := 0) rfl rfl rfl (by omega)) rfl rfl ?_)
 refine sL (A2 rfl rfl (hat0 _) rfl) rfl rfl ?_
 (refine D9 rfl (A97 5 (h.getD 0 B3) G _ (.inr rfl) (A3p har (by omega)) hre0) rfl rfl (fun v G1 hle1 hh => ?_); obtain ⟨ma, mca, mb, mcb, rfl, hma, hmb, hma2, hmb2, hmm⟩ := hh; obtain ⟨p1, c1, e1, rfl, _⟩ := hma.open; obtain ⟨p2, c2, e2, rfl, _⟩ := hmb.open)
 refine B4 ?_
 refine sE (A7 rfl) rfl (fun b1009 => ?_)
 refine sE (A7 rfl) rfl (fun b1010 => ?_)
 refine D1 ?_
 refine sE (A7 rfl) rfl (fun b1019 => ?_)
 refine D1 ?_
 refine sB (qE rfl rfl) rfl rfl (fun h1028 => ?_) (fun h1028 => ?_)
 refine E0 ?_
 (have hl1 : n = 1 := hop.2.2 (by omega); obtain ⟨b0, o0, q0, d0, hp0, hat0, hre0, hg0⟩ := hsl.kidD hkl (i := 0) (by omega) (by omega); cases hp0; refine E2 E4 rfl ?_)
 refine L4 (i := 0) (l' := [tt,ff,ff,ff,ff,ff,ff,ff,ff]) rfl D6 (A5 rfl rfl) rfl (by kernel_rfl) rfl rfl ?_
 refine aL 1 rfl (A5 rfl rfl) rfl ?_
 refine aL 4 rfl (A5 rfl rfl) rfl ?_
 refine aP 5 rfl (qM rfl) rfl ?_
 refine A4 2 ?_
 (refine H7 rfl rfl (A2b _ ma mb _ _ _ ⟨by omega, by omega⟩ hma hmb) rfl rfl rfl (fun v GB hleB hh => ?_); obtain ⟨cB, rfl, hrB⟩ := hh; obtain ⟨p7, c7, e7, rfl, _⟩ := hrB.open; have hma' := hma.mono hleB; have hmb' := hmb.mono hleB)
 refine A4 3 ?_
 (refine E5 rfl (D0 rfl rfl rfl (by omega) (by unfold maxLen; omega) rfl) rfl rfl ?_; rintro _ ⟨b1046, rfl⟩)
 refine aP 6 rfl (qA rfl) rfl ?_
 refine A4 7 ?_
 refine I2 rfl ?_
 refine aP 8 rfl (qA rfl) rfl ?_
 refine A3 ?_
 (refine F0 Pk.here (fun G5 hle5 hsl5 hno5 => ?_))
 refine tT ?_
 refine D5 (rT rfl) (rC rfl (A5 rfl rfl)) (rT rfl) ?_
 (refine L5.one hsl5 (hrB.mono hle5) (hmb'.mono hle5) ?_; rw [A3q (by omega)]; cases hq : R2 5 (h.getD 0 B3) with | none => rfl | some q => (have hq2 := hmm q hq; subst hq2; dsimp only; rw [if_pos (by omega)]; rfl))
 refine A8 ?_
 (have hl1 : n = 1 := hop.2.2 (by omega); obtain ⟨b0, o0, q0, d0, hp0, hat0, hre0, hg0⟩ := hsl.kidD hkl (i := 0) (by omega) (by omega); cases hp0; refine E2 E4 rfl ?_)
 refine L4 (i := 0) (l' := [tt,ff,ff,ff,ff,ff,ff,ff,ff]) rfl D6 (A5 rfl rfl) rfl (by kernel_rfl) rfl rfl ?_
 refine aL 1 rfl (A5 rfl rfl) rfl ?_
 refine aL 4 rfl (A5 rfl rfl) rfl ?_
 refine aP 5 rfl (qM rfl) rfl ?_
 refine A4 2 ?_
 (refine H7 rfl rfl (A2b _ ma mb _ _ _ ⟨by omega, by omega⟩ hma hmb) rfl rfl rfl (fun v GB hleB hh => ?_); obtain ⟨cB, rfl, hrB⟩ := hh; obtain ⟨p7, c7, e7, rfl, _⟩ := hrB.open; have hma' := hma.mono hleB; have hmb' := hmb.mono hleB)
 refine A4 3 ?_
 (refine E5 rfl (D0 rfl rfl rfl (by omega) (by unfold maxLen; omega) rfl) rfl rfl ?_; rintro _ ⟨b1071, rfl⟩)
 refine aP 6 rfl (qA rfl) rfl ?_
 refine A4 7 ?_
 refine I2 rfl ?_
 refine aP 8 rfl (qA rfl) rfl ?_
 refine A3 ?_
 (refine F0 Pk.here (fun G5 hle5 hsl5 hno5 => ?_))
 refine tT ?_
 refine D5 (rT rfl) (rC rfl (A5 rfl rfl)) (rT rfl) ?_
 (refine L5.one hsl5 (hrB.mono hle5) (hma'.mono hle5) ?_; rw [A3q (by omega)]; cases hq : R2 5 (h.getD 0 B3) with | none => rfl | some q => (have hq2 := hmm q hq; subst hq2; dsimp only; rw [if_neg (by omega)]; rfl))
theorem A6X {cx : Cx} {k : Int} {nm : ByteArray} {ty : Ty} {h w : List Ty} {t : Ty} (he : Y7 cx k nm ty h = some (w, t)) : H1 t = true ∧ L9 cx k nm ty h = some (w, t) := by
 unfold Y7 at he
 split at he
 ·rename_i w' t' hw
  split at he
  ·cases he; exact ⟨by assumption, hw⟩
  ·cases he
 ·cases he
theorem B4W {cx : Cx} {k : Int} {nm : ByteArray} {ty : Ty} {h w : List Ty} {t : Ty} (hop : (k = 6 ∨ k = 7 ∨ k = 8 ∨ k = 10 → h.length = 2) ∧ (k = 9 → h.length = 3) ∧ (k = 5 ∨ k = 11 ∨ k = 12 ∨ k = 13 → h.length = 1)) (hk : 1 ≤ k ∧ k ≤ 14) (h14 : k ≠ 14) (he : L9 cx k nm ty h = some (w, t)) : w.length ≤ h.length := by
 have hkk : k = 1 ∨ k = 2 ∨ (k = 3 ∨ k = 4) ∨ k = 5 ∨ k = 6 ∨ (k = 7 ∨ k = 8) ∨ k = 9 ∨ k = 10 ∨ (k = 11 ∨ k = 12) ∨ k = 13 := by omega
 rcases hkk with rfl | rfl | hk | rfl | rfl | hk | rfl | rfl | hk | rfl
 ·rw [mW1] at he; split at he <;> cases he; simp
 ·rw [mW2] at he; cases he; simp
 ·rw [A36 hk] at he; cases he; simp
 ·rw [mW5] at he; cases he; simp
 ·rw [mW6] at he
  split at he
  ·split at he <;> cases he
   have := hop.1 (by omega); simp [this]
  ·cases he
 ·rw [W1 hk] at he
  split at he <;> cases he
  have := hop.1 (by omega); simp [this]
 ·rw [mW9] at he
  split at he <;> cases he
  have := hop.2.1 (by omega); simp [this]
 ·rw [A5a] at he; cases he; simp
 ·rw [A3q hk] at he
  split at he
  ·cases he; have := hop.2.2 (by omega); simp [this]
  ·cases he
 ·rw [A2K] at he
  split at he <;> cases he
  have := hop.2.2 (by omega); simp [this]
theorem S9.snoc {G G' : IM} {cx : Cx} {n : Nat} {p' : Option Addr} {c' : Nat} {es : List (List Value)} {e : List Value} {nm : ByteArray} {t : Ty} (h1 : n = cx.length) (hl : es.length = n) (h2 : ∀ x ∈ es, x.length = 3) (h3 : ∀ x ∈ es, x.all (·.oneCell') = true)
  (h4 : ∀ (i : Nat) (b : ByteArray × Ty), cx[i]? = some b → ∃ e, es[i]? = some e ∧ A3o G b e) (hg : C2 G G') (he : A3o G' (nm, t) e) (hs : Sl G' p' (n + 1) c' 3 (es.flatten ++ e)) : S9 G' (cx ++ [(nm, t)]) p' (n + 1) c' := by
 have hel : e.length = 3 ∧ e.all (·.oneCell') = true := by obtain ⟨q, d, rfl, _⟩ := he; exact ⟨rfl, rfl⟩
 refine ⟨by simp [h1], es ++ [e], D7.of (by simpa using hs) (by simp [hl]) ?_ ?_, ?_⟩
 ·simp only [List.forall_mem_append, List.forall_mem_singleton]; exact ⟨h2, hel.1⟩
 ·simp only [List.forall_mem_append, List.forall_mem_singleton]; exact ⟨h3, hel.2⟩
 ·intro i b hb
  rw [List.getElem?_append] at hb ⊢
  split at hb
  ·rename_i hi
   obtain ⟨e', he', hr⟩ := h4 i b hb
   rw [if_pos (by omega)]
   exact ⟨e', he', hr.mono hg⟩
  ·rename_i hi
   have : i - cx.length = 0 := by
    apply Classical.byContradiction; intro hc
    rw [List.getElem?_eq_none (by simp; omega)] at hb; cases hb
   rw [this] at hb
   simp only [List.getElem?_cons_zero, Option.some.injEq] at hb
   subst hb
   rw [if_neg (by omega)]
   exact ⟨e, by rw [show i - es.length = 0 by omega]; rfl, he⟩
theorem B4X (G : IM) (p : Option Addr) (n c : Nat) (es : List (List Value)) (h : D7 G p n c 3 es) (hn : n ≤ 4294967296) :
  Fn Tryz.prog 109 [.slice p n c] [] G (fun G' v outs => G' = G ∧ ∃ p' c', v = .slice p' n c' ∧ outs = [.slc p' c' 119 3 n es.flatten]) := by
 have hp := h.sl.nn
 have hS := h.sl
 have hone : ∀ u ∈ es.flatten, u.oneCell' = true := by
  intro u hu
  obtain ⟨e, he, hue⟩ := List.mem_flatten.1 hu
  exact List.all_eq_true.1 (h.one e he) u hue
 refine C1 Tryz.func109 rfl Tryz.ntmps109 Tryz.results109 rfl ?_
 intro w0
 cases p with
 | none =>
  obtain rfl := hp rfl
  obtain rfl : es = [] := List.length_eq_zero_iff.1 h.len
  refine Q9 119 3 ?_
  refine E0 ?_
  refine sQ (B2C rfl rfl rfl) rfl ?_
  refine J3 ?_
  refine H9 (rT rfl) A0.refl ?_
  exact ⟨rfl, _, _, rfl, rfl⟩
 | some a =>
  refine E0 ?_
  refine sQ (A8d rfl rfl rfl) rfl ?_
  refine B5 ?_
  (refine I3 (D0 rfl rfl rfl (by omega) (by unfold maxLen; omega) rfl) rfl ?_; rintro _ ⟨b18, rfl⟩)
  refine E3 ?_
  refine A31 rfl rfl rfl rfl rfl (fun _ _ => by repeat (first | exact Sw.here | apply Sw.there)) hS hone (Nat.zero_le _) (by unfold maxLen; omega) (by omega) rfl (fun pn cn => ?_)
  refine B4 ?_
  refine H9 (rT rfl) A0.refl ?_
  exact ⟨rfl, _, _, by rw [Nat.zero_add], by rw [Nat.zero_add]; rfl⟩
theorem Y0.no {r : Option Ty} {G G' : IM} {cu : List Value} {u : Ty} {b : Bool} (hu : C3 G' u cu) (hb : b = false) (h : r = none) : Y0 r G G' (.tuple ⟨[.agg ⟨cu⟩, .bool b]⟩) [] := by
 subst hb h
 exact ⟨rfl, cu, u, rfl, hu, by simp⟩
theorem Y0.yes {r : Option Ty} {G G' : IM} {cu : List Value} {u : Ty} {b : Bool} (hu : C3 G' u cu) (hb : b = true) (h : r = some u) : Y0 r G G' (.tuple ⟨[.agg ⟨cu⟩, .bool b]⟩) [] := by
 subst hb h
 exact ⟨rfl, cu, u, rfl, hu, fun t ht => by cases ht; rfl⟩
section
variable {cx : Cx} {k : Int} {nm : ByteArray} {num : Int} {ty fr : Ty} {lb : Int} {ks : List Tm}
theorem A5b {us w : List Ty} {t : Ty} (h : L9 cx k nm ty us = some (w, t)) {b : Bool} (hb : H1 t = b) : Y7 cx k nm ty us = if b = true then some (w, t) else none := by
 unfold Y7; rw [h]; simp only [hb]
theorem B4Y {us : List Ty} (h : L9 cx k nm ty us = none) : Y7 cx k nm ty us = none := by
 unfold Y7; rw [h]
end
def B4Z (r : Tm) : Tm × Bool := if O4 r = true then (r, true) else (K7, false)
def B8u (t : Tm) (path : List Int) (x : Tm) : Tm × Bool := if O4 t = true ∧ O4 x = true ∧ tAt t path ≠ none then B4Z (A9R t path x) else (K7, false)
mutual
theorem A6Y (D N : Int) : ∀ (t : Tm) (d d' : Int), d' ≤ d → M8 D N t d = true → M8 D N t d' = true
 | .mk k nm num ty fr lb ks, d, d', hd, h => by
  obtain ⟨h1, h2, h3, h4⟩ := A0P h
  rw [A14 (by omega) h2 h3]
  exact A5c D N ks _ _ (by omega) h4
theorem A5c (D N : Int) : ∀ (ts : List Tm) (d d' : Int), d' ≤ d → M4 D N ts d = true → M4 D N ts d' = true
 | [], d, d', hd, h => by rw [M4]
 | t :: ts, d, d', hd, h => by
  rw [M4, Bool.and_eq_true] at h ⊢
  exact ⟨A6Y D N t d d' hd h.1, A5c D N ts d d' hd h.2⟩
end
def H4 : List Tm → List Ty → List Ty → Int → List Tm × Int
 | u :: us, a :: h, b :: w, l => if M5 a b = true then (u :: (H4 us h w l).1, (H4 us h w l).2) else (L3 u a b (l + 1) :: (H4 us h w (l + 1)).1, (H4 us h w (l + 1)).2)
 | us, _, _, l => (us, l)
def Q7 (cx : Cx) (k : Int) (nm : ByteArray) (num : Int) (ty fr : Ty) (lb : Int) (us : List Tm) (h : List Ty) (l : Int) : Option (Tm × Ty × Int) :=
 match Y7 cx k nm ty h with
 | none => none
 | some (w, t) => some (if k = 13 then (H4 us h w l).1.getD 0 K7 else .mk k nm num ty fr lb (H4 us h w l).1, t, (H4 us h w l).2)
mutual
def M6 (cx : Cx) : Tm → Int → Option (Tm × Ty × Int)
 | .mk k nm num ty fr lb ks, l => match M0 (O0 cx k nm ty) ks l with
  | none => none
  | some (us, h, l') => Q7 cx k nm num ty fr lb us h l'
def M0 (cx : Cx) : List Tm → Int → Option (List Tm × List Ty × Int)
 | [], l => some ([], [], l)
 | t :: ts, l => match M6 cx t l with
  | none => none
  | some (u, a, l') => match M0 cx ts l' with
   | none => none
   | some (us, h, l'') => some (u :: us, a :: h, l'')
end
def U4 (e : Tm) : Option (Tm × Ty) := if N9 e = true then (match M6 [] e 0 with | some (u, t, _) => some (u, t) | none => none) else none
def X2 (cx : Cx) (k : Int) (nm : ByteArray) (ty : Ty) (h : List Ty) : Option Ty := match L9 cx k nm ty h with
 | some (_, t) => if (k = 5 ∨ k = 10) ∧ H1 t = false then none else some t
 | none => none
mutual
def Q2 (cx : Cx) : Tm → Option Ty
 | .mk k nm num ty fr lb ks => match W2 (O0 cx k nm ty) ks with
  | none => none
  | some h => X2 cx k nm ty h
def W2 (cx : Cx) : List Tm → Option (List Ty)
 | [] => some []
 | t :: ts => match Q2 cx t with
  | none => none
  | some a => match W2 cx ts with
   | none => none
   | some h => some (a :: h)
end
theorem A2c (k : Int) (ks : List Ty) (d : Int) : P5 (.mk k ks) d = (decide (d ≤ 4) && decide (U8 k = ks.length) && T5 ks (d + 1)) := by rw [P5]
mutual
theorem A37 : ∀ (t : Ty) (d e : Int), e ≤ d → P5 t d = true → P5 t e = true
 | .mk k ks, d, e, h, hs => by
  rw [A2c, Bool.and_eq_true, Bool.and_eq_true, decide_eq_true_eq, decide_eq_true_eq] at hs ⊢
  exact ⟨⟨by omega, hs.1.2⟩, B0b ks (d + 1) (e + 1) (by omega) hs.2⟩
theorem B0b : ∀ (ts : List Ty) (d e : Int), e ≤ d → T5 ts d = true → T5 ts e = true
 | [], d, e, h, hs => by rw [T5]
 | t :: ts, d, e, h, hs => by
  rw [T5, Bool.and_eq_true] at hs ⊢
  exact ⟨A37 t d e h hs.1, B0b ts d e h hs.2⟩
end
mutual
theorem A6Z : ∀ (a b : Ty) (d : Int), K4 a b = true → P5 a d = true → P5 b d = true → P5 (U2 a b) d = true
 | .mk k ks, .mk k' ks', d, hc, ha, hb => by
  rw [A1e]
  split
  ·exact hb
  ·split
   ·exact ha
   ·rw [U9] at hc
    rw [A2c, Bool.and_eq_true, Bool.and_eq_true, decide_eq_true_eq, decide_eq_true_eq] at ha hb ⊢
    simp only [Bool.or_eq_true, Bool.and_eq_true, decide_eq_true_eq] at hc
    obtain ⟨hk, hl⟩ : k = k' ∧ N6 ks ks' = true := by
     rcases hc with (h | h) | h
     ·contradiction
     ·contradiction
     ·exact h
    subst hk
    obtain ⟨m1, m2⟩ := B0c ks ks' (d + 1) hl ha.2 hb.2
    exact ⟨⟨ha.1.1, by rw [m2]; exact ha.1.2⟩, m1⟩
theorem B0c : ∀ (xs ys : List Ty) (d : Int), N6 xs ys = true → T5 xs d = true → T5 ys d = true → T5 (S6 xs ys) d = true ∧ (S6 xs ys).length = xs.length
 | [], [], d, _, _, _ => by simp [S6, T5]
 | [], b :: ys, d, hc, _, _ => by simp [N6] at hc
 | a :: xs, [], d, hc, _, _ => by simp [N6] at hc
 | a :: xs, b :: ys, d, hc, ha, hb => by
  rw [N6, Bool.and_eq_true] at hc
  rw [T5, Bool.and_eq_true] at ha hb
  obtain ⟨m1, m2⟩ := B0c xs ys d hc.2 ha.2 hb.2
  rw [S6, T5, Bool.and_eq_true]
  exact ⟨⟨A6Z a b d hc.1 ha.1 hb.1, m1⟩, by simp [m2]⟩
end
theorem A60 {cx : Cx} (h : ∀ b ∈ cx, H1 b.2 = true) {nm : ByteArray} {t : Ty} : ∀ {n : Nat}, X8 cx nm n = some t → H1 t = true
 | 0, hl => by simp [X8] at hl
 | n + 1, hl => by
  rw [X8] at hl
  split at hl
  ·rename_i b hb
   split at hl
   ·cases hl; exact h b (List.mem_of_getElem? hb)
   ·exact A60 h hl
  ·exact A60 h hl
theorem B0d {k : Int} {t a b : Ty} (hk : k = 4 ∨ k = 5) (ht : H1 t = true) (h : R2 k t = some (a, b)) : H1 a = true ∧ H1 b = true := by
 obtain ⟨tk, ks⟩ := t
 rw [show R2 k (.mk tk ks) = (if tk = k then some (ks.getD 0 B3, ks.getD 1 B3) else if tk = 1 then some (O8, O8) else none) from rfl] at h
 by_cases he : tk = k
 ·rw [if_pos he] at h
  cases h
  unfold H1 at ht ⊢
  rw [A2c, Bool.and_eq_true, Bool.and_eq_true, decide_eq_true_eq, decide_eq_true_eq] at ht
  have h2 : ks.length = 2 := by
   have : U8 tk = 2 := by rw [he]; rcases hk with rfl | rfl <;> rfl
   omega
  match ks, h2, ht.2 with
  | [x, y], _, hL =>
   simp only [T5, Bool.and_eq_true] at hL
   exact ⟨A37 _ 2 1 (by omega) hL.1, A37 _ 2 1 (by omega) hL.2.1⟩
 ·rw [if_neg he] at h
  by_cases h1 : tk = 1
  ·rw [if_pos h1] at h
   cases h
   exact ⟨by decide, by decide⟩
  ·rw [if_neg h1] at h; cases h
theorem B40 {l : List Ty} {i : Nat} (h : i < l.length) : l.getD i B3 ∈ l := by
 rw [List.getD_eq_getElem?_getD, List.getElem?_eq_getElem h, Option.getD_some]; exact List.getElem_mem h
theorem B41 {cx : Cx} {k : Int} {nm : ByteArray} {ty : Ty} {h w : List Ty} {t : Ty} (hcx : ∀ b ∈ cx, H1 b.2 = true) (hh : ∀ a ∈ h, H1 a = true) (hd : H1 (h.getD 0 B3) = true ∨ h = []) (hty : k = 13 → H1 ty = true) (hn : E6 k = (h.length : Int)) (hw : L9 cx k nm ty h = some (w, t)) (h510 : k ≠ 5 ∧ k ≠ 10) : H1 t = true := by
 have hg : ∀ i, i < h.length → H1 (h.getD i B3) = true := fun i hi => hh _ (B40 hi)
 unfold L9 at hw
 split at hw
 ·split at hw
  ·rename_i u hu; cases hw; exact A60 hcx hu
  ·cases hw
 split at hw
 ·cases hw; decide
 split at hw
 ·cases hw; decide
 split at hw
 ·exact absurd (by assumption) h510.1
 split at hw
 ·rename_i hk6
  have hl : h.length = 2 := by have : E6 k = 2 := (by rw [hk6]; rfl); omega
  split at hw
  ·rename_i a b hm
   split at hw
   ·cases hw; exact (B0d (.inl rfl) (hg 0 (by omega)) hm).2
   ·cases hw
  ·cases hw
 split at hw
 ·split at hw
  ·cases hw; split <;> decide
  ·cases hw
 split at hw
 ·rename_i hk9
  have hl : h.length = 3 := by have : E6 k = 3 := (by rw [hk9]; rfl); omega
  split at hw
  ·rename_i hc
   cases hw
   exact A6Z _ _ 1 hc.2 (hg 1 (by omega)) (hg 2 (by omega))
  ·cases hw
 split at hw
 ·exact absurd (by assumption) h510.2
 split at hw
 ·split at hw
  ·cases hw; exact hty (by assumption)
  ·cases hw
 ·split at hw
  ·rename_i a b hm
   have hl : h.length ≠ 0 := by
    intro h0
    rw [List.length_eq_zero_iff] at h0
    subst h0
    rw [show R2 5 (([] : List Ty).getD 0 B3) = none from rfl] at hm
    cases hm
   cases hw
   have := B0d (.inr rfl) (hg 0 (by omega)) hm
   split
   ·exact this.2
   ·exact this.1
  ·cases hw
def Z8 (cx : Cx) : Prop := ∀ b ∈ cx, H1 b.2 = true
theorem A3r : Z8 [] := by intro b hb; simp at hb
theorem A38 {cx : Cx} {k : Int} {nm : ByteArray} {ty : Ty} (h : Z8 cx) (ht : k = 5 → H1 ty = true) : Z8 (O0 cx k nm ty) := by
 unfold O0
 split
 ·intro b hb
  rcases List.mem_append.1 hb with hb | hb
  ·exact h b hb
  ·obtain rfl := List.mem_singleton.1 hb; exact ht (by assumption)
 ·exact h
theorem B42 {cx : Cx} {k : Int} {nm : ByteArray} {ty : Ty} {h : List Ty} (hcx : Z8 cx) (hh : ∀ a ∈ h, H1 a = true) (hty : k = 13 → H1 ty = true) (hn : E6 k = (h.length : Int)) :
  (∀ w t, Y7 cx k nm ty h = some (w, t) → X2 cx k nm ty h = some t ∧ H1 t = true) ∧ (Y7 cx k nm ty h = none → X2 cx k nm ty h = none) := by
 unfold Y7 X2
 have hv := fun w t (e : L9 cx k nm ty h = some (w, t)) (h5 : k ≠ 5 ∧ k ≠ 10) => B41 hcx hh (by cases h with | nil => exact .inr rfl | cons x xs => exact .inl (hh _ (by simp))) hty hn e h5
 cases hw : L9 cx k nm ty h with
 | none => simp
 | some p =>
  obtain ⟨w, t⟩ := p
  have hv := hv w t hw
  simp only
  by_cases h5 : k = 5 ∨ k = 10
  ·cases ht : H1 t with
   | true => simp [ht]
   | false => simp [h5]
  ·have := hv (by omega)
   simp [this]
theorem B0e (ks : List Tm) (ih : ∀ t ∈ ks, ∀ d cx l, M8 12 14 t d = true → Z8 cx → (∀ u a l', M6 cx t l = some (u, a, l') → Q2 cx t = some a ∧ H1 a = true) ∧ (M6 cx t l = none → Q2 cx t = none)) :
  ∀ d cx l, M4 12 14 ks d = true → Z8 cx → (∀ us h l', M0 cx ks l = some (us, h, l') → W2 cx ks = some h ∧ (∀ a ∈ h, H1 a = true) ∧ h.length = ks.length ∧ us.length = ks.length) ∧ (M0 cx ks l = none → W2 cx ks = none) := by
 induction ks with
 | nil =>
  intro d cx l _ _
  refine ⟨fun us h l' he => ?_, fun he => by simp [M0] at he⟩
  simp only [M0, Option.some.injEq, Prod.mk.injEq] at he
  obtain ⟨rfl, rfl, _⟩ := he
  exact ⟨by rw [W2], by simp, rfl, rfl⟩
 | cons t ts ihl =>
  intro d cx l hs hcx
  rw [M4, Bool.and_eq_true] at hs
  obtain ⟨a1, a2⟩ := ih t List.mem_cons_self d cx l hs.1 hcx
  rw [M0, W2]
  cases he : M6 cx t l with
  | none => rw [a2 he]; exact ⟨fun _ _ _ h => by simp at h, fun _ => rfl⟩
  | some p =>
   obtain ⟨u, a, l1⟩ := p
   obtain ⟨b1, b2⟩ := a1 u a l1 he
   rw [b1]
   obtain ⟨c1, c2⟩ := ihl (fun x hx => ih x (List.mem_cons_of_mem _ hx)) d cx l1 hs.2 hcx
   simp only
   cases hL : M0 cx ts l1 with
   | none => rw [c2 hL]; exact ⟨fun _ _ _ h => by simp at h, fun _ => rfl⟩
   | some q =>
    obtain ⟨us, h, l2⟩ := q
    obtain ⟨d1, d2, d3, d4⟩ := c1 us h l2 hL
    rw [d1]
    refine ⟨fun us' h' l' e => ?_, fun e => by simp at e⟩
    simp only [Option.some.injEq, Prod.mk.injEq] at e
    obtain ⟨rfl, rfl, _⟩ := e
    refine ⟨rfl, fun x hx => ?_, by simp [d3], by simp [d4]⟩
    rcases List.mem_cons.1 hx with rfl | hx
    ·exact b2
    ·exact d2 x hx
theorem A3s : ∀ (t : Tm) (d : Int) (cx : Cx) (l : Int), M8 12 14 t d = true → Z8 cx → (∀ u a l', M6 cx t l = some (u, a, l') → Q2 cx t = some a ∧ H1 a = true) ∧ (M6 cx t l = none → Q2 cx t = none) := by
 refine Tm.ind fun k nm num ty fr lb ks ih d cx l hs hcx => ?_
 obtain ⟨_, _, h3, h4⟩ := A0P hs
 obtain ⟨n1, _, _, _, _, n6, _⟩ := T9.1 h3
 obtain ⟨L1, L2⟩ := B0e ks ih (d + 1) (O0 cx k nm ty) l h4 (A38 hcx fun hk => n6 (by omega))
 rw [M6, Q2]
 cases hL : M0 (O0 cx k nm ty) ks l with
 | none => rw [L2 hL]; exact ⟨fun _ _ _ h => by simp at h, fun _ => rfl⟩
 | some q =>
  obtain ⟨us, h, l2⟩ := q
  obtain ⟨d1, d2, d3, d4⟩ := L1 us h l2 hL
  rw [d1]
  obtain ⟨e1, e2⟩ := B42 (k := k) (nm := nm) (ty := ty) hcx d2 (fun hk => n6 (.inr (.inl hk))) (by rw [d3]; exact n1)
  simp only [Q7]
  cases hN : Y7 cx k nm ty h with
  | none => rw [e2 hN]; exact ⟨fun _ _ _ h => by simp at h, fun _ => rfl⟩
  | some p =>
   obtain ⟨w, t⟩ := p
   obtain ⟨f1, f2⟩ := e1 w t hN
   rw [f1]
   refine ⟨fun u a l' e => ?_, fun e => by simp at e⟩
   simp only [Option.some.injEq, Prod.mk.injEq] at e
   obtain ⟨_, rfl, _⟩ := e
   exact ⟨rfl, f2⟩
theorem B43 {cx : Cx} {k : Int} {nm : ByteArray} {num : Int} {ty fr : Ty} {lb : Int} {ks : List Tm} {T : Ty} {us w : List Ty} (hu : Y8 (O0 cx k nm ty) ks = some us) (hk : k ≠ 14) (hv : H1 T = true) (hw : L9 cx k nm ty us = some (w, T)) (hs : A30 w us = true) : A0V cx (.mk k nm num ty fr lb ks) = some T := by
 rw [A0V, hu]
 simp only [if_neg hk]
 unfold Y7
 rw [hw]
 simp only [hv, if_true, hs]
theorem B44 {cx : Cx} {a : Tm} {us : List Ty} (h : Y8 cx [a] = some us) : ∃ x, A0V cx a = some x ∧ us = [x] := by
 rw [Y8] at h
 split at h
 ·cases h
 ·rename_i x hx
  rw [Y8] at h
  simp only [Option.some.injEq] at h
  exact ⟨x, hx, h.symm⟩
theorem B45 {cx : Cx} {a : Tm} {x : Ty} (h : A0V cx a = some x) : Y8 cx [a] = some [x] := by rw [Y8, h]; rfl
mutual
theorem A2L : ∀ a : Ty, K4 a a = true
 | .mk k ks => by rw [U9, B0f ks]; simp
theorem B0f : ∀ xs : List Ty, N6 xs xs = true
 | [] => rfl
 | a :: xs => by rw [N6, A2L a, B0f xs]; rfl
end
mutual
theorem B0g : ∀ a : Ty, U2 a a = a
 | .mk k ks => by
  rw [A1e, B0h ks]
  by_cases h : k = 1
  ·rw [if_pos h]
  ·rw [if_neg h, if_neg h]
theorem B0h : ∀ xs : List Ty, S6 xs xs = xs
 | [] => rfl
 | a :: xs => by rw [S6, B0g a, B0h xs]
end
theorem A5d {k : Int} {ks : List Ty} (hk : k = 4 ∨ k = 5) (h : H1 (.mk k ks) = true) : ∃ a b, ks = [a, b] ∧ H1 a = true ∧ H1 b = true := by
 unfold H1 at h ⊢
 rw [A2c, Bool.and_eq_true, Bool.and_eq_true, decide_eq_true_eq, decide_eq_true_eq] at h
 have h2 : ks.length = 2 := by
  have : U8 k = 2 := by rcases hk with rfl | rfl <;> rfl
  omega
 match ks, h2, h.2 with
 | [x, y], _, hL =>
  simp only [T5, Bool.and_eq_true] at hL
  exact ⟨x, y, rfl, A37 _ 2 1 (by omega) hL.1, A37 _ 2 1 (by omega) hL.2.1⟩
theorem B46 {k : Int} {ks : List Ty} (h : H1 (.mk k ks) = true) (hk : k ≠ 4) (hk5 : k ≠ 5) : (k = 1 ∨ k = 2 ∨ k = 3) ∧ ks = [] := by
 unfold H1 at h
 rw [A2c, Bool.and_eq_true, Bool.and_eq_true, decide_eq_true_eq, decide_eq_true_eq] at h
 obtain ⟨h1, h2, h3⟩ := A1l k
 have hl := h.1.2
 have hk3 : k = 1 ∨ k = 2 ∨ k = 3 := by
  apply Classical.byContradiction
  intro hc
  rw [h3 (by omega) (by omega) (by omega) hk hk5] at hl; omega
 rw [h1 hk3] at hl
 exact ⟨hk3, List.length_eq_zero_iff.1 (by omega)⟩
section inv
variable {cx : Cx} {nm : ByteArray} {num : Int} {ty fr : Ty} {lb : Int} {a b c : Tm} {T : Ty}
theorem B0i : ∀ xs : List Ty, A30 xs xs = true
 | [] => rfl
 | a :: xs => by rw [A30, A6x, B0i xs]; rfl
theorem B47 (h : A0V cx a = some fr) : A0V cx (.mk 14 nm num ty fr lb [a]) = some ty := by
 rw [A0V, show O0 cx 14 nm ty = cx from rfl, B45 h]
 simp only [if_true, List.getD_cons_zero, A6x]
end inv
theorem B48 (cx : Cx) (x nm : ByteArray) (t : Ty) : A0j (cx ++ [(x, t)]) nm = if x = nm then some t else A0j cx nm := by
 unfold A0j
 rw [List.length_append, show ([(x, t)] : Cx).length = 1 from rfl]
 have hl : (cx ++ [(x, t)])[cx.length]? = some (x, t) := by rw [List.getElem?_append_right (Nat.le_refl _)]; simp
 by_cases h : x = nm
 ·rw [A6y hl h, if_pos h]
 ·rw [A6z hl h, if_neg h]
  have : ∀ n, n ≤ cx.length → X8 (cx ++ [(x, t)]) nm n = X8 cx nm n := by
   intro n
   induction n with
   | zero => intro _; rfl
   | succ n ih =>
    intro hn
    rw [X8, X8, List.getElem?_append_left (by omega), ih (by omega)]
  exact this _ (Nat.le_refl _)
theorem A39 {cx : Cx} : ∀ {ks : List Tm} {i : Nat} (hi : i < ks.length) {l l' l2 : Int} {us : List Tm} {h : List Ty} {u : Tm} {a : Ty}, M0 cx (ks.take i) l = some (us, h, l') → M6 cx ks[i] l' = some (u, a, l2) → M0 cx (ks.take (i + 1)) l = some (us ++ [u], h ++ [a], l2)
 | [], i, hi, _, _, _, _, _, _, _, _, _ => by simp at hi
 | t :: ts, 0, _, l, l', l2, us, h, u, a, h1, h2 => by
  simp only [List.take_zero, M0, Option.some.injEq, Prod.mk.injEq] at h1
  obtain ⟨rfl, rfl, rfl⟩ := h1
  simp only [List.getElem_cons_zero] at h2
  simp [M0, h2]
 | t :: ts, i + 1, hi, l, l', l2, us, h, u, a, h1, h2 => by
  simp only [List.take_succ_cons, M0] at h1 ⊢
  split at h1
  ·cases h1
  ·rename_i u1 a1 l1 he
   split at h1
   ·cases h1
   ·rename_i us1 h1' l1' hL
    simp only [Option.some.injEq, Prod.mk.injEq] at h1
    obtain ⟨rfl, rfl, rfl⟩ := h1
    simp only [List.getElem_cons_succ] at h2
    have := A39 (ks := ts) (i := i) (by simpa using hi) hL h2
    simp only [this, List.cons_append]
theorem A61 {cx : Cx} : ∀ {ks : List Tm} {i : Nat} (hi : i < ks.length) {l l' : Int} {us : List Tm} {h : List Ty}, M0 cx (ks.take i) l = some (us, h, l') → M6 cx ks[i] l' = none → M0 cx ks l = none
 | [], i, hi, _, _, _, _, _, _ => by simp at hi
 | t :: ts, 0, _, l, l', us, h, h1, h2 => by
  simp only [List.take_zero, M0, Option.some.injEq, Prod.mk.injEq] at h1
  obtain ⟨rfl, rfl, rfl⟩ := h1
  simp only [List.getElem_cons_zero] at h2
  simp [M0, h2]
 | t :: ts, i + 1, hi, l, l', us, h, h1, h2 => by
  simp only [List.take_succ_cons, M0] at h1 ⊢
  split at h1
  ·cases h1
  ·rename_i u1 a1 l1 he
   split at h1
   ·cases h1
   ·rename_i us1 h1' l1' hL
    simp only [Option.some.injEq, Prod.mk.injEq] at h1
    obtain ⟨rfl, rfl, rfl⟩ := h1
    simp only [List.getElem_cons_succ] at h2
    have := A61 (ks := ts) (i := i) (by simpa using hi) hL h2
    simp only [this]
theorem V4 (us : List Tm) (h : List Ty) (l : Int) : H4 us h [] l = (us, l) := by
 cases us with
 | nil => rfl
 | cons u us => cases h <;> rfl
theorem A4a : ∀ (us : List Tm) (h w : List Ty) (l : Int) (j : Nat) (hj : j < w.length) (hu : w.length ≤ us.length) (hh : w.length ≤ h.length),
  (H4 us h (w.take j) l).1.length = us.length ∧ (∀ (hq : j < (H4 us h (w.take j) l).1.length), (H4 us h (w.take j) l).1[j] = us[j]'(by omega)) ∧
  H4 us h (w.take (j + 1)) l = if M5 (h[j]'(by omega)) w[j] = true then H4 us h (w.take j) l else ((H4 us h (w.take j) l).1.set j (L3 (us[j]'(by omega)) (h[j]'(by omega)) w[j] ((H4 us h (w.take j) l).2 + 1)), (H4 us h (w.take j) l).2 + 1)
 | us, h, [], l, j, hj, _, _ => by simp at hj
 | [], h, b :: w, l, j, _, hu, _ => by simp at hu
 | u :: us, [], b :: w, l, j, _, _, hh => by simp at hh
 | u :: us, a :: h, b :: w, l, 0, _, _, _ => by
  refine ⟨by simp [H4], by simp [H4], ?_⟩
  simp only [List.take_succ_cons, List.take_zero, H4, V4, List.getElem_cons_zero, List.set_cons_zero]
 | u :: us, a :: h, b :: w, l, j + 1, hj, hu, hh => by
  simp only [List.take_succ_cons, List.getElem_cons_succ]
  by_cases hs : M5 a b = true
  ·have ih := A4a us h w l j (by simpa using hj) (by simpa using hu) (by simpa using hh)
   simp only [H4, if_pos hs]
   obtain ⟨i1, i2, i3⟩ := ih
   refine ⟨by simp [i1], fun hq => by simp [i2], ?_⟩
   rw [i3]
   split <;> simp
  ·have ih := A4a us h w (l + 1) j (by simpa using hj) (by simpa using hu) (by simpa using hh)
   simp only [H4, if_neg hs]
   obtain ⟨i1, i2, i3⟩ := ih
   refine ⟨by simp [i1], fun hq => by simp [i2], ?_⟩
   rw [i3]
   split <;> simp
theorem A1W : ∀ (us : List Tm) (h w : List Ty) (l : Int), (H4 us h w l).1.length = us.length
 | [], h, w, l => by simp [H4]
 | u :: us, [], w, l => by simp [H4]
 | u :: us, a :: h, [], l => by simp [H4]
 | u :: us, a :: h, b :: w, l => by
  simp only [H4]
  split
  ·simp [A1W us h w l]
  ·simp [A1W us h w (l + 1)]
theorem B0j {us : List Tm} {h w : List Ty} {l : Int} {j : Nat} (hj : j < w.length) (hu : w.length ≤ us.length) (hh : w.length ≤ h.length) :
  (H4 us h (w.take (j + 1)) l).1 = (H4 us h (w.take j) l).1.set j (if M5 (h[j]'(by omega)) w[j] = true then us[j]'(by omega) else L3 (us[j]'(by omega)) (h[j]'(by omega)) w[j] ((H4 us h (w.take j) l).2 + 1)) ∧
  (H4 us h (w.take (j + 1)) l).2 = (if M5 (h[j]'(by omega)) w[j] = true then (H4 us h (w.take j) l).2 else (H4 us h (w.take j) l).2 + 1) := by
 obtain ⟨h1, h2, h3⟩ := A4a us h w l j hj hu hh
 by_cases hs : M5 (h[j]'(by omega)) w[j] = true
 ·rw [h3, if_pos hs, if_pos hs, if_pos hs]
  refine ⟨?_, rfl⟩
  rw [← h2 (by omega), List.set_getElem_self]
 ·rw [h3, if_neg hs, if_neg hs, if_neg hs]
  exact ⟨rfl, rfl⟩
theorem A1s : ∀ (us : List Tm) (h w : List Ty) (l : Int), l ≤ (H4 us h w l).2 ∧ (H4 us h w l).2 ≤ l + us.length
 | [], h, w, l => by simp [H4]
 | u :: us, [], w, l => by simp [H4]; omega
 | u :: us, a :: h, [], l => by simp [H4]; omega
 | u :: us, a :: h, b :: w, l => by
  simp only [H4]
  split
  ·have := A1s us h w l; simp only [List.length_cons]; omega
  ·have := A1s us h w (l + 1); simp only [List.length_cons]; omega
mutual
def A1t : Ty → Ty → Bool
 | .mk k ks, t => decide (t.k = 1) || (decide (k = t.k) && A0F ks t.ks)
def A0F : List Ty → List Ty → Bool
 | [], [] => true
 | a :: xs, b :: ys => A1t a b && A0F xs ys
 | _, _ => false
end
theorem A1g (k k' : Int) (ks ks' : List Ty) : A1t (.mk k ks) (.mk k' ks') = (decide (k' = 1) || (decide (k = k') && A0F ks ks')) := by rw [A1t]; rfl
mutual
def A2M : Tm → Tm → Bool
 | .mk k nm num ty _ _ ks, u => decide (k = u.k ∧ nm = u.nm ∧ num = u.num) && (decide (k ≠ 5 ∧ k ≠ 13) || A1t ty u.ty) && A2d ks u.ks
def A2d : List Tm → List Tm → Bool
 | [], [] => true
 | a :: xs, b :: ys => A2M a b && A2d xs ys
 | _, _ => false
end
theorem B0k {k k' : Int} {nm nm' : ByteArray} {num num' : Int} {ty ty' fr fr' : Ty} {lb lb' : Int} {ks ks' : List Tm} :
  A2M (.mk k nm num ty fr lb ks) (.mk k' nm' num' ty' fr' lb' ks') = true ↔ k = k' ∧ nm = nm' ∧ num = num' ∧ (k = 5 ∨ k = 13 → A1t ty ty' = true) ∧ A2d ks ks' = true := by
 rw [A2M]
 show (decide (k = k' ∧ nm = nm' ∧ num = num') && (decide (k ≠ 5 ∧ k ≠ 13) || A1t ty ty') && A2d ks ks') = true ↔ _
 simp only [Bool.and_eq_true, Bool.or_eq_true, decide_eq_true_eq]
 constructor
 ·rintro ⟨⟨⟨a, b, c⟩, e⟩, d⟩
  exact ⟨a, b, c, fun h => e.resolve_left (by omega), d⟩
 ·rintro ⟨a, b, c, e, d⟩
  refine ⟨⟨⟨a, b, c⟩, ?_⟩, d⟩
  by_cases h : k = 5 ∨ k = 13
  ·exact .inr (e h)
  ·exact .inl (by omega)
def A3t (a b : Tm) : Bool := N9 a && (N9 b && A2M a b)
theorem A2e : ∀ (t : Ty), H1 t = true → ∃ a : GT, t = a.ty
 | .mk k ks, h => by
  by_cases h4 : k = 4
  ·obtain ⟨x, y, hxy, hx, hy⟩ := A5d (.inl h4) h
   have : SizeOf.sizeOf x < SizeOf.sizeOf ks ∧ SizeOf.sizeOf y < SizeOf.sizeOf ks := by subst hxy; simp; omega
   obtain ⟨a, ha⟩ := A2e x hx
   obtain ⟨b, hb⟩ := A2e y hy
   exact ⟨.fn a b, by rw [h4, hxy, ha, hb]; rfl⟩
  ·by_cases h5 : k = 5
   ·obtain ⟨x, y, hxy, hx, hy⟩ := A5d (.inr h5) h
    have : SizeOf.sizeOf x < SizeOf.sizeOf ks ∧ SizeOf.sizeOf y < SizeOf.sizeOf ks := by subst hxy; simp; omega
    obtain ⟨a, ha⟩ := A2e x hx
    obtain ⟨b, hb⟩ := A2e y hy
    exact ⟨.pr a b, by rw [h5, hxy, ha, hb]; rfl⟩
   ·obtain ⟨h1, rfl⟩ := B46 h h4 h5
    rcases h1 with rfl | rfl | rfl
    ·exact ⟨.any, rfl⟩
    ·exact ⟨.int, rfl⟩
    ·exact ⟨.bool, rfl⟩
 termination_by t => SizeOf.sizeOf t
 decreasing_by all_goals (simp only [Ty.mk.sizeOf_spec]; omega)
theorem B0l : ∀ (a b : GT), A1t a.ty b.ty = true ↔ Le a b := by
 intro a
 induction a with
 | any => intro b; cases b <;> simp [GT.ty, A1g, A0F] <;> first | exact .any | (intro h; cases h)
 | int => intro b; cases b <;> simp [GT.ty, A1g, A0F] <;> first | exact .any | exact .int | (intro h; cases h)
 | bool => intro b; cases b <;> simp [GT.ty, A1g, A0F] <;> first | exact .any | exact .bool | (intro h; cases h)
 | fn x y i j =>
  intro b
  cases b with
  | fn z w => simp only [GT.ty, A1g, A0F, i, j, Bool.or_eq_true, Bool.and_eq_true, decide_eq_true_eq, Bool.and_true, true_and]; exact ⟨fun h => by rcases h with h | h; exact absurd h (by decide); exact .fn h.1 h.2, fun h => by cases h with | fn a b => exact .inr ⟨a, b⟩⟩
  | any => simp [GT.ty, A1g, A0F]; exact .any
  | _ => simp [GT.ty, A1g, A0F]; intro h; cases h
 | pr x y i j =>
  intro b
  cases b with
  | pr z w => simp only [GT.ty, A1g, A0F, i, j, Bool.or_eq_true, Bool.and_eq_true, decide_eq_true_eq, Bool.and_true, true_and]; exact ⟨fun h => by rcases h with h | h; exact absurd h (by decide); exact .pr h.1 h.2, fun h => by cases h with | pr a b => exact .inr ⟨a, b⟩⟩
  | any => simp [GT.ty, A1g, A0F]; exact .any
  | _ => simp [GT.ty, A1g, A0F]; intro h; cases h
theorem A0W : ∀ (a b : GT), K4 a.ty b.ty = true ↔ Co a b := by
 intro a
 induction a with
 | any => intro b; cases b <;> simp [GT.ty, U9, N6] <;> exact .l
 | int => intro b; cases b <;> simp [GT.ty, U9, N6] <;> first | exact .r | exact .int | (intro h; cases h)
 | bool => intro b; cases b <;> simp [GT.ty, U9, N6] <;> first | exact .r | exact .bool | (intro h; cases h)
 | fn x y i j =>
  intro b
  cases b with
  | fn z w => simp only [GT.ty, U9, N6, i, j, Bool.or_eq_true, Bool.and_eq_true, decide_eq_true_eq, Bool.and_true, true_and]; exact ⟨fun h => by rcases h with h | h; exact absurd h (by decide); exact .fn h.1 h.2, fun h => by cases h with | fn a b => exact .inr ⟨a, b⟩⟩
  | any => simp [GT.ty, U9, N6]; exact .r
  | _ => simp [GT.ty, U9, N6]; intro h; cases h
 | pr x y i j =>
  intro b
  cases b with
  | pr z w => simp only [GT.ty, U9, N6, i, j, Bool.or_eq_true, Bool.and_eq_true, decide_eq_true_eq, Bool.and_true, true_and]; exact ⟨fun h => by rcases h with h | h; exact absurd h (by decide); exact .pr h.1 h.2, fun h => by cases h with | pr a b => exact .inr ⟨a, b⟩⟩
  | any => simp [GT.ty, U9, N6]; exact .r
  | _ => simp [GT.ty, U9, N6]; intro h; cases h
def R6 : GT → GT → GT
 | .any, b => b
 | .fn a b, .fn c d => .fn (R6 a c) (R6 b d)
 | .pr a b, .pr c d => .pr (R6 a c) (R6 b d)
 | a, _ => a
theorem A3u (a : GT) : R6 a .any = a := by cases a <;> rfl
theorem B0m {a b : GT} (h : Co a b) : U2 a.ty b.ty = (R6 a b).ty := by
 induction h with
 | l => simp [GT.ty, U2, R6]
 | @r a => rw [A3u]; cases a <;> simp [GT.ty, A1e]
 | int => simp [GT.ty, A1e, S6, R6]
 | bool => simp [GT.ty, A1e, S6, R6]
 | fn _ _ i j => simp [GT.ty, A1e, S6, R6, i, j]
 | pr _ _ i j => simp [GT.ty, A1e, S6, R6, i, j]
theorem A5e {a b : GT} (h : Co a b) : Le (R6 a b) a := by
 induction h with
 | l => exact .any
 | r => rw [A3u]; exact Le.refl
 | int => exact .int
 | bool => exact .bool
 | fn _ _ i j => exact .fn i j
 | pr _ _ i j => exact .pr i j
theorem A5f {a b : GT} (h : Co a b) : Le (R6 a b) b := by
 induction h with
 | l => exact Le.refl
 | r => exact .any
 | int => exact .int
 | bool => exact .bool
 | fn _ _ i j => exact .fn i j
 | pr _ _ i j => exact .pr i j
theorem B49 {a b : GT} (h : Co a b) : ∀ {a' b' : GT}, Le a a' → Le b b' → Le (R6 a b) (R6 a' b') := by
 induction h with
 | l => intro a' b' h1 h2; cases h1; exact h2
 | r => intro a' b' h1 h2; cases h2; rw [A3u, A3u]; exact h1
 | int => intro a' b' h1 h2; cases h1 <;> cases h2 <;> first | exact .int | exact .any
 | bool => intro a' b' h1 h2; cases h1 <;> cases h2 <;> first | exact .bool | exact .any
 | fn c d i j =>
  intro a' b' h1 h2
  cases h1 with
  | any => exact (A5f (.fn c d)).trans h2
  | fn p q => cases h2 with
   | any => rw [A3u]; exact (A5e (.fn c d)).trans (.fn p q)
   | fn r s => exact .fn (i p r) (j q s)
 | pr c d i j =>
  intro a' b' h1 h2
  cases h1 with
  | any => exact (A5f (.pr c d)).trans h2
  | pr p q => cases h2 with
   | any => rw [A3u]; exact (A5e (.pr c d)).trans (.pr p q)
   | pr r s => exact .pr (i p r) (j q s)
theorem B5a {a b : GT} (h : Le a b) : ∀ (d : Int), P5 a.ty d = true → P5 b.ty d = true := by
 induction h with
 | @any a => intro d h; cases a <;> (simp only [GT.ty, A2c, Bool.and_eq_true, decide_eq_true_eq] at h ⊢; exact ⟨⟨h.1.1, rfl⟩, by rw [T5]⟩)
 | int => exact fun _ h => h
 | bool => exact fun _ h => h
 | fn _ _ i j =>
  intro d h
  simp only [GT.ty, A2c, T5, Bool.and_eq_true, decide_eq_true_eq] at h ⊢
  exact ⟨⟨h.1.1, rfl⟩, i _ h.2.1, j _ h.2.2.1, trivial⟩
 | pr _ _ i j =>
  intro d h
  simp only [GT.ty, A2c, T5, Bool.and_eq_true, decide_eq_true_eq] at h ⊢
  exact ⟨⟨h.1.1, rfl⟩, i _ h.2.1, j _ h.2.2.1, trivial⟩
theorem A2N {a b : GT} (h : Le a b) (hv : H1 a.ty = true) : H1 b.ty = true := B5a h 1 hv
def gmF : GT → Option (GT × GT)
 | .fn a b => some (a, b)
 | .any => some (.any, .any)
 | _ => none
def gmP : GT → Option (GT × GT)
 | .pr a b => some (a, b)
 | .any => some (.any, .any)
 | _ => none
theorem B0n (a : GT) : R2 4 a.ty = (gmF a).map fun p => (p.1.ty, p.2.ty) := by cases a <;> rfl
theorem B0o (a : GT) : R2 5 a.ty = (gmP a).map fun p => (p.1.ty, p.2.ty) := by cases a <;> rfl
theorem B5b {a b p q : GT} (h : Le a b) (hm : gmF a = some (p, q)) : Co a (.fn p q) ∧ ∃ p' q', gmF b = some (p', q') ∧ Le p p' ∧ Le q q' ∧ Co b (.fn p' q') := by
 cases h with
 | any =>
  refine ⟨?_, .any, .any, rfl, .any, .any, .l⟩
  cases a with
  | fn _ _ => cases hm; exact Co.refl
  | any => exact .l
  | _ => cases hm
 | fn h1 h2 => cases hm; exact ⟨Co.refl, _, _, rfl, h1, h2, Co.refl⟩
 | _ => cases hm
theorem B5c {a b p q : GT} (h : Le a b) (hm : gmP a = some (p, q)) : Co a (.pr p q) ∧ ∃ p' q', gmP b = some (p', q') ∧ Le p p' ∧ Le q q' ∧ Co b (.pr p' q') := by
 cases h with
 | any =>
  refine ⟨?_, .any, .any, rfl, .any, .any, .l⟩
  cases a with
  | pr _ _ => cases hm; exact Co.refl
  | any => exact .l
  | _ => cases hm
 | pr h1 h2 => cases hm; exact ⟨Co.refl, _, _, rfl, h1, h2, Co.refl⟩
 | _ => cases hm
def CxR (cx cx' : Cx) (Γ : GC) : Prop := ∀ x a, A0j cx x = some a → ∃ A A', a = A.ty ∧ A0j cx' x = some A'.ty ∧ Γ x = some (A, A') ∧ Le A A'
theorem B5d : CxR [] [] N0 := by intro x a h; simp [A0j, X8] at h
theorem B5e {cx cx' : Cx} {Γ : GC} (h : CxR cx cx' Γ) {A A' : GT} (hl : Le A A') (x : ByteArray) : CxR (cx ++ [(x, A.ty)]) (cx' ++ [(x, A'.ty)]) (gup Γ x A A') := by
 intro y a ha
 rw [B48] at ha ⊢
 unfold gup
 by_cases hy : x = y
 ·rw [if_pos hy] at ha ⊢
  rw [if_pos hy]
  cases ha
  exact ⟨A, A', rfl, rfl, rfl, hl⟩
 ·rw [if_neg hy] at ha ⊢
  rw [if_neg hy]
  exact h y a ha
def S0 (A B : GT) (l : Int) (e : GE) : GE := if M5 A.ty B.ty = true then e else .cast A B l e
theorem A1X {Γ : GC} {e e' : GE} {A A' B B' : GT} {l l' : Int} (h : GP Γ e e' A A') (h1 : Co A B) (h2 : Co A' B') (h3 : Le B B') : GP Γ (S0 A B l e) (S0 A' B' l' e') B B' := by
 unfold S0
 by_cases hs : M5 A.ty B.ty = true
 ·rw [if_pos hs]
  obtain rfl := GT.inj ((A1o _ _).1 hs)
  by_cases ht : M5 A'.ty B'.ty = true
  ·rw [if_pos ht]
   obtain rfl := GT.inj ((A1o _ _).1 ht)
   exact h
  ·rw [if_neg ht]; exact .castR h h2 h3
 ·rw [if_neg hs]
  by_cases ht : M5 A'.ty B'.ty = true
  ·rw [if_pos ht]
   obtain rfl := GT.inj ((A1o _ _).1 ht)
   exact .castL h h1 h3
  ·rw [if_neg ht]; exact .castB h h1 h2 h3
theorem A62 (e : GE) (us : List Tm) (A B : GT) (h w : List Ty) (l : Int) : ∃ m l1, H4 (e.tm :: us) (A.ty :: h) (B.ty :: w) l = ((S0 A B m e).tm :: (H4 us h w l1).1, (H4 us h w l1).2) := by
 rw [H4]
 unfold S0
 by_cases hs : M5 A.ty B.ty = true
 ·rw [if_pos hs]; exact ⟨0, l, by rw [if_pos hs]⟩
 ·rw [if_neg hs]; exact ⟨l + 1, l + 1, by rw [if_neg hs]; rfl⟩
theorem A4b (e : GE) (A B : GT) (l : Int) : ∃ m l1, H4 [e.tm] [A.ty] [B.ty] l = ([(S0 A B m e).tm], l1) := by
 obtain ⟨m, l1, h⟩ := A62 e [] A B [] [] l
 rw [V4] at h
 exact ⟨m, l1, h⟩
theorem A4c (e f : GE) (A B C D : GT) (l : Int) : ∃ m n l1, H4 [e.tm, f.tm] [A.ty, C.ty] [B.ty, D.ty] l = ([(S0 A B m e).tm, (S0 C D n f).tm], l1) := by
 obtain ⟨m, l1, h⟩ := A62 e [f.tm] A B [C.ty] [D.ty] l
 obtain ⟨n, l2, h2⟩ := A4b f C D l1
 rw [h2] at h
 exact ⟨m, n, l2, h⟩
theorem B0p (e f g : GE) (A B C D E F : GT) (l : Int) : ∃ m n o l1, H4 [e.tm, f.tm, g.tm] [A.ty, C.ty, E.ty] [B.ty, D.ty, F.ty] l = ([(S0 A B m e).tm, (S0 C D n f).tm, (S0 E F o g).tm], l1) := by
 obtain ⟨m, l1, h⟩ := A62 e [f.tm, g.tm] A B [C.ty, E.ty] [D.ty, F.ty] l
 obtain ⟨n, o, l2, h2⟩ := A4c f g C D E F l1
 rw [h2] at h
 exact ⟨m, n, o, l2, h⟩
inductive GPL (Γ : GC) : List GE → List GE → List GT → List GT → Prop
 | nil : GPL Γ [] [] [] []
 | cons {e e' A A' es es' As As'} : GP Γ e e' A A' → GPL Γ es es' As As' → GPL Γ (e :: es) (e' :: es') (A :: As) (A' :: As')
theorem GPL.one {Γ : GC} {es es' : List GE} {As As' : List GT} (h : GPL Γ es es' As As') (hl : es.length = 1) : ∃ e e' A A', es = [e] ∧ es' = [e'] ∧ As = [A] ∧ As' = [A'] ∧ GP Γ e e' A A' := by
 cases h with
 | nil => simp at hl
 | cons h h2 => cases h2 with
  | nil => exact ⟨_, _, _, _, rfl, rfl, rfl, rfl, h⟩
  | cons _ _ => simp at hl
theorem GPL.two {Γ : GC} {es es' : List GE} {As As' : List GT} (h : GPL Γ es es' As As') (hl : es.length = 2) : ∃ e e' A A' f f' B B', es = [e, f] ∧ es' = [e', f'] ∧ As = [A, B] ∧ As' = [A', B'] ∧ GP Γ e e' A A' ∧ GP Γ f f' B B' := by
 cases h with
 | nil => simp at hl
 | cons h h2 =>
  obtain ⟨f, f', B, B', rfl, rfl, rfl, rfl, h3⟩ := h2.one (by simpa using hl)
  exact ⟨_, _, _, _, f, f', B, B', rfl, rfl, rfl, rfl, h, h3⟩
theorem GPL.three {Γ : GC} {es es' : List GE} {As As' : List GT} (h : GPL Γ es es' As As') (hl : es.length = 3) : ∃ e e' A A' f f' B B' g g' C C', es = [e, f, g] ∧ es' = [e', f', g'] ∧ As = [A, B, C] ∧ As' = [A', B', C'] ∧ GP Γ e e' A A' ∧ GP Γ f f' B B' ∧ GP Γ g g' C C' := by
 cases h with
 | nil => simp at hl
 | cons h h2 =>
  obtain ⟨f, f', B, B', g, g', C, C', rfl, rfl, rfl, rfl, h3, h4⟩ := h2.two (by simpa using hl)
  exact ⟨_, _, _, _, f, f', B, B', g, g', C, C', rfl, rfl, rfl, rfl, h, h3, h4⟩
theorem GPL.zero {Γ : GC} {es es' : List GE} {As As' : List GT} (h : GPL Γ es es' As As') (hl : es.length = 0) : es = [] ∧ es' = [] ∧ As = [] ∧ As' = [] := by
 cases h with
 | nil => exact ⟨rfl, rfl, rfl, rfl⟩
 | cons _ _ => simp at hl
theorem A1u {cx : Cx} {k : Int} {nm : ByteArray} {num : Int} {ty fr : Ty} {lb : Int} {us : List Tm} {h : List Ty} {l : Int} {u : Tm} {a : Ty} {l2 : Int} (he : Q7 cx k nm num ty fr lb us h l = some (u, a, l2)) :
  ∃ w, L9 cx k nm ty h = some (w, a) ∧ H1 a = true ∧ u = if k = 13 then (H4 us h w l).1.getD 0 K7 else .mk k nm num ty fr lb (H4 us h w l).1 := by
 unfold Q7 at he
 split at he
 ·cases he
 ·rename_i w t hn
  simp only [Option.some.injEq, Prod.mk.injEq] at he
  obtain ⟨rfl, rfl, rfl⟩ := he
  obtain ⟨h1, h2⟩ := A6X hn
  exact ⟨w, h2, h1, rfl⟩
theorem A1v {cx : Cx} {k : Int} {nm : ByteArray} {num : Int} {ty fr : Ty} {lb : Int} {us : List Tm} {h : List Ty} {l : Int} {w : List Ty} {a : Ty} (hw : L9 cx k nm ty h = some (w, a)) (hv : H1 a = true) :
  Q7 cx k nm num ty fr lb us h l = some (if k = 13 then (H4 us h w l).1.getD 0 K7 else .mk k nm num ty fr lb (H4 us h w l).1, a, (H4 us h w l).2) := by
 unfold Q7 Y7
 rw [hw]
 simp only [hv, if_true]
theorem B0q {k : Int} {nm : ByteArray} {num : Int} {ty fr : Ty} {lb : Int} {ks : List Tm} {d : Int} (h : M8 12 14 (.mk k nm num ty fr lb ks) d = true) :
  E6 k = ks.length ∧ k ≠ 14 ∧ (¬(k = 1 ∨ k = 5) → nm = ⟨#[]⟩) ∧ (k ≠ 2 → num = 0) ∧ (k = 5 ∨ k = 13 → H1 ty = true) ∧ (¬(k = 5 ∨ k = 13) → ty = B3) ∧ fr = B3 ∧ lb = 0 ∧ M4 12 14 ks (d + 1) = true := by
 obtain ⟨_, h2, h3, h4⟩ := A0P h
 obtain ⟨n1, n2, n3, n4, n5, n6, n7, n8, n9⟩ := T9.1 h3
 exact ⟨n1, h2, n3, fun hk => by have := A1U.1 (n5 hk); omega, fun hk => n6 (by omega), fun hk => A15 (n7 (by omega)), A15 (n9 h2).1, (n9 h2).2, h4⟩
abbrev ElR (Γ : GC) (u : Tm) (a : Ty) (r : Option (Tm × Ty × Int)) : Prop := ∃ e A e' A' l2, u = e.tm ∧ a = A.ty ∧ r = some (e'.tm, A'.ty, l2) ∧ GP Γ e e' A A'
section
variable {cx cx' : Cx} {Γ : GC} {es es' : List GE} {As As' : List GT} {l l' : Int} {u : Tm} {a : Ty} {l2 : Int} {nm : ByteArray} {num : Int}
theorem B5f (hc : CxR cx cx' Γ) (he : Q7 cx 1 nm 0 B3 B3 0 [] [] l = some (u, a, l2)) : ElR Γ u a (Q7 cx' 1 nm 0 B3 B3 0 [] [] l') := by
 obtain ⟨w, hw, hv, rfl⟩ := A1u he
 unfold L9 at hw
 rw [if_pos rfl] at hw
 split at hw
 ·rename_i t ht
  cases hw
  obtain ⟨A, A', rfl, h2, h3, h4⟩ := hc _ _ ht
  refine ⟨.var nm, A, .var nm, A', l', ?_, rfl, ?_, .var h3 h4⟩
  ·rw [V4, if_neg (by decide)]; rfl
  ·rw [A1v (w := []) (a := A'.ty) (by unfold L9; rw [if_pos rfl, h2]) (A2N h4 hv), V4, if_neg (by decide)]; rfl
 ·cases hw
theorem B5g (he : Q7 cx 2 ⟨#[]⟩ num B3 B3 0 [] [] l = some (u, a, l2)) : ElR Γ u a (Q7 cx' 2 ⟨#[]⟩ num B3 B3 0 [] [] l') := by
 obtain ⟨w, hw, hv, rfl⟩ := A1u he
 cases hw
 exact ⟨.num num, .int, .num num, .int, l', by rw [V4, if_neg (by decide)]; rfl, rfl, by rw [A1v (w := []) (a := T4) rfl hv, V4, if_neg (by decide)]; rfl, .num⟩
theorem B5h (b : Bool) (he : Q7 cx (if b = true then 3 else 4) ⟨#[]⟩ 0 B3 B3 0 [] [] l = some (u, a, l2)) : ElR Γ u a (Q7 cx' (if b = true then 3 else 4) ⟨#[]⟩ 0 B3 B3 0 [] [] l') := by
 obtain ⟨w, hw, hv, rfl⟩ := A1u he
 cases b <;> (cases hw; exact ⟨.tru _, .bool, .tru _, .bool, l', by rw [V4, if_neg (by decide)]; rfl, rfl, by rw [A1v (w := []) (a := X7) rfl hv, V4, if_neg (by decide)]; rfl, .tru⟩)
theorem B5i {A A' B B' : GT} {e e' : GE} (hA : Le A A') (hp : GP (gup Γ nm A A') e e' B B') (he : Q7 cx 5 nm 0 A.ty B3 0 [e.tm] [B.ty] l = some (u, a, l2)) : ElR Γ u a (Q7 cx' 5 nm 0 A'.ty B3 0 [e'.tm] [B'.ty] l') := by
 obtain ⟨w, hw, hv, rfl⟩ := A1u he
 cases hw
 exact ⟨.lam nm A e, .fn A B, .lam nm A' e', .fn A' B', l', by rw [V4, if_neg (by decide)]; rfl, rfl, by rw [A1v (w := []) (a := .mk 4 [A'.ty, B'.ty]) rfl (A2N (.fn hA hp.le) hv), V4, if_neg (by decide)]; rfl, .lam hA hp⟩
theorem B5j {A A' B B' : GT} {e e' f f' : GE} (hp : GP Γ e e' A A') (hq : GP Γ f f' B B') (he : Q7 cx 6 ⟨#[]⟩ 0 B3 B3 0 [e.tm, f.tm] [A.ty, B.ty] l = some (u, a, l2)) : ElR Γ u a (Q7 cx' 6 ⟨#[]⟩ 0 B3 B3 0 [e'.tm, f'.tm] [A'.ty, B'.ty] l') := by
 obtain ⟨w, hw, hv, rfl⟩ := A1u he
 unfold L9 at hw
 rw [if_neg (by decide), if_neg (by decide), if_neg (by decide), if_neg (by decide), if_pos rfl] at hw
 simp only [List.getD_cons_zero, List.getD_cons_succ, B0n] at hw
 cases hm : gmF A with
 | none => rw [hm] at hw; cases hw
 | some pq =>
  obtain ⟨p, q⟩ := pq
  rw [hm] at hw
  simp only [Option.map_some] at hw
  split at hw
  ·rename_i hc
   cases hw
   obtain ⟨c1, p', q', hm', h1, h2, c2⟩ := B5b hp.le hm
   have hco := (A0W _ _).1 hc
   have hco' := hco.up hq.le h1
   obtain ⟨m, n, l1, h3⟩ := A4c e f A (.fn p q) B p l
   obtain ⟨m', n', l1', h3'⟩ := A4c e' f' A' (.fn p' q') B' p' l'
   refine ⟨.app (S0 A (.fn p q) m e) (S0 B p n f), q, .app (S0 A' (.fn p' q') m' e') (S0 B' p' n' f'), q', l1', ?_, rfl, ?_, .app (A1X hp c1 c2 (.fn h1 h2)) (A1X hq hco hco' h1)⟩
   ·rw [if_neg (by decide)]
    show Tm.mk _ _ _ _ _ _ (H4 [e.tm, f.tm] [A.ty, B.ty] [(GT.fn p q).ty, p.ty] l).1 = _
    rw [h3]; rfl
   ·rw [A1v (w := [(GT.fn p' q').ty, p'.ty]) (a := q'.ty) ?_ (A2N h2 hv), if_neg (by decide), h3']
    ·rfl
    ·unfold L9
     rw [if_neg (by decide), if_neg (by decide), if_neg (by decide), if_neg (by decide), if_pos rfl]
     simp only [List.getD_cons_zero, List.getD_cons_succ, B0n, hm', Option.map_some]
     rw [if_pos ((A0W _ _).2 hco')]; rfl
  ·cases hw
theorem B5k (s : Bool) {A A' B B' : GT} {e e' f f' : GE} (hp : GP Γ e e' A A') (hq : GP Γ f f' B B') (he : Q7 cx (if s = true then 8 else 7) ⟨#[]⟩ 0 B3 B3 0 [e.tm, f.tm] [A.ty, B.ty] l = some (u, a, l2)) : ElR Γ u a (Q7 cx' (if s = true then 8 else 7) ⟨#[]⟩ 0 B3 B3 0 [e'.tm, f'.tm] [A'.ty, B'.ty] l') := by
 have hk : (if s = true then (8 : Int) else 7) = 7 ∨ (if s = true then (8 : Int) else 7) = 8 := by cases s <;> simp
 have hT : (if (if s = true then (8 : Int) else 7) = 8 then X7 else T4) = GT.ty (if s = true then .bool else .int) := by cases s <;> rfl
 obtain ⟨w, hw, hv, rfl⟩ := A1u he
 unfold L9 at hw
 rw [if_neg (by omega), if_neg (by omega), if_neg (by omega), if_neg (by omega), if_neg (by omega), if_pos hk] at hw
 simp only [List.getD_cons_zero, List.getD_cons_succ] at hw
 split at hw
 ·rename_i hc
  rw [hT] at hw
  cases hw
  have c1 := (A0W A .int).1 hc.1
  have c2 := (A0W B .int).1 hc.2
  have d1 := c1.up hp.le Le.refl
  have d2 := c2.up hq.le Le.refl
  obtain ⟨m, n, l1, h3⟩ := A4c e f A .int B .int l
  obtain ⟨m', n', l1', h3'⟩ := A4c e' f' A' .int B' .int l'
  refine ⟨.ar s (S0 A .int m e) (S0 B .int n f), _, .ar s (S0 A' .int m' e') (S0 B' .int n' f'), _, l1', ?_, rfl, ?_, .ar (A1X hp c1 d1 .int) (A1X hq c2 d2 .int)⟩
  ·rw [if_neg (by omega)]
   show Tm.mk _ _ _ _ _ _ (H4 [e.tm, f.tm] [A.ty, B.ty] [GT.int.ty, GT.int.ty] l).1 = _
   rw [h3]; rfl
  ·rw [A1v (w := [GT.int.ty, GT.int.ty]) (a := GT.ty (if s = true then .bool else .int)) ?_ hv, if_neg (by omega), h3']
   ·rfl
   ·unfold L9
    rw [if_neg (by omega), if_neg (by omega), if_neg (by omega), if_neg (by omega), if_neg (by omega), if_pos hk]
    simp only [List.getD_cons_zero, List.getD_cons_succ]
    rw [if_pos ⟨(A0W A' .int).2 d1, (A0W B' .int).2 d2⟩, hT]; rfl
 ·cases hw
theorem B5l {A A' B B' C C' : GT} {e e' f f' g g' : GE} (hp : GP Γ e e' A A') (hq : GP Γ f f' B B') (hr : GP Γ g g' C C') (he : Q7 cx 9 ⟨#[]⟩ 0 B3 B3 0 [e.tm, f.tm, g.tm] [A.ty, B.ty, C.ty] l = some (u, a, l2)) :
  ElR Γ u a (Q7 cx' 9 ⟨#[]⟩ 0 B3 B3 0 [e'.tm, f'.tm, g'.tm] [A'.ty, B'.ty, C'.ty] l') := by
 obtain ⟨w, hw, hv, rfl⟩ := A1u he
 unfold L9 at hw
 rw [if_neg (by decide), if_neg (by decide), if_neg (by decide), if_neg (by decide), if_neg (by decide), if_neg (by decide), if_pos rfl] at hw
 simp only [List.getD_cons_zero, List.getD_cons_succ] at hw
 split at hw
 ·rename_i hc
  have c1 := (A0W A .bool).1 hc.1
  have c2 := (A0W B C).1 hc.2
  have d1 := c1.up hp.le Le.refl
  have d2 := c2.up hq.le hr.le
  rw [B0m c2] at hw
  cases hw
  have hM := B49 c2 hq.le hr.le
  obtain ⟨m, n, o, l1, h3⟩ := B0p e f g A .bool B (R6 B C) C (R6 B C) l
  obtain ⟨m', n', o', l1', h3'⟩ := B0p e' f' g' A' .bool B' (R6 B' C') C' (R6 B' C') l'
  refine ⟨.ite (S0 A .bool m e) (S0 B (R6 B C) n f) (S0 C (R6 B C) o g), R6 B C, .ite (S0 A' .bool m' e') (S0 B' (R6 B' C') n' f') (S0 C' (R6 B' C') o' g'), R6 B' C', l1', ?_, rfl, ?_,
   .ite (A1X hp c1 d1 .bool) (A1X hq (A5e c2).co.symm (A5e d2).co.symm hM) (A1X hr (A5f c2).co.symm (A5f d2).co.symm hM)⟩
  ·rw [if_neg (by decide)]
   show Tm.mk _ _ _ _ _ _ (H4 [e.tm, f.tm, g.tm] [A.ty, B.ty, C.ty] [GT.bool.ty, (R6 B C).ty, (R6 B C).ty] l).1 = _
   rw [h3]; rfl
  ·rw [A1v (w := [GT.bool.ty, (R6 B' C').ty, (R6 B' C').ty]) (a := (R6 B' C').ty) ?_ (A2N hM hv), if_neg (by decide), h3']
   ·rfl
   ·unfold L9
    rw [if_neg (by decide), if_neg (by decide), if_neg (by decide), if_neg (by decide), if_neg (by decide), if_neg (by decide), if_pos rfl]
    simp only [List.getD_cons_zero, List.getD_cons_succ]
    rw [if_pos ⟨(A0W A' .bool).2 d1, (A0W B' C').2 d2⟩, B0m d2]; rfl
 ·cases hw
theorem B5m {A A' B B' : GT} {e e' f f' : GE} (hp : GP Γ e e' A A') (hq : GP Γ f f' B B') (he : Q7 cx 10 ⟨#[]⟩ 0 B3 B3 0 [e.tm, f.tm] [A.ty, B.ty] l = some (u, a, l2)) : ElR Γ u a (Q7 cx' 10 ⟨#[]⟩ 0 B3 B3 0 [e'.tm, f'.tm] [A'.ty, B'.ty] l') := by
 obtain ⟨w, hw, hv, rfl⟩ := A1u he
 cases hw
 exact ⟨.pair e f, .pr A B, .pair e' f', .pr A' B', l', by rw [V4, if_neg (by decide)]; rfl, rfl, by rw [A1v (w := []) (a := .mk 5 [A'.ty, B'.ty]) rfl (A2N (.pr hp.le hq.le) hv), V4, if_neg (by decide)]; rfl, .pair hp hq⟩
theorem B5n (s : Bool) {A A' : GT} {e e' : GE} (hp : GP Γ e e' A A') (he : Q7 cx (if s = true then 12 else 11) ⟨#[]⟩ 0 B3 B3 0 [e.tm] [A.ty] l = some (u, a, l2)) : ElR Γ u a (Q7 cx' (if s = true then 12 else 11) ⟨#[]⟩ 0 B3 B3 0 [e'.tm] [A'.ty] l') := by
 have hk : (if s = true then (12 : Int) else 11) = 11 ∨ (if s = true then (12 : Int) else 11) = 12 := by cases s <;> simp
 have hT : ∀ p q : GT, (if (if s = true then (12 : Int) else 11) = 12 then q.ty else p.ty) = GT.ty (if s = true then q else p) := by intro p q; cases s <;> rfl
 obtain ⟨w, hw, hv, rfl⟩ := A1u he
 unfold L9 at hw
 rw [if_neg (by omega), if_neg (by omega), if_neg (by omega), if_neg (by omega), if_neg (by omega), if_neg (by omega), if_neg (by omega), if_neg (by omega), if_neg (by omega)] at hw
 simp only [List.getD_cons_zero, B0o] at hw
 cases hm : gmP A with
 | none => rw [hm] at hw; cases hw
 | some pq =>
  obtain ⟨p, q⟩ := pq
  rw [hm] at hw
  simp only [Option.map_some, hT] at hw
  cases hw
  obtain ⟨c1, p', q', hm', h1, h2, c2⟩ := B5c hp.le hm
  obtain ⟨m, l1, h3⟩ := A4b e A (.pr p q) l
  obtain ⟨m', l1', h3'⟩ := A4b e' A' (.pr p' q') l'
  refine ⟨.part s (S0 A (.pr p q) m e), _, .part s (S0 A' (.pr p' q') m' e'), _, l1', ?_, rfl, ?_, .part (A1X hp c1 c2 (.pr h1 h2))⟩
  ·rw [if_neg (by omega)]
   show Tm.mk _ _ _ _ _ _ (H4 [e.tm] [A.ty] [(GT.pr p q).ty] l).1 = _
   rw [h3]; rfl
  ·rw [A1v (w := [(GT.pr p' q').ty]) (a := GT.ty (if s = true then q' else p')) ?_ (A2N (by cases s; exact h1; exact h2) hv), if_neg (by omega), h3']
   ·rfl
   ·unfold L9
    rw [if_neg (by omega), if_neg (by omega), if_neg (by omega), if_neg (by omega), if_neg (by omega), if_neg (by omega), if_neg (by omega), if_neg (by omega), if_neg (by omega)]
    simp only [List.getD_cons_zero, B0o, hm', Option.map_some, hT]; rfl
theorem B5o {A A' B B' : GT} {e e' : GE} (hB : Le B B') (hp : GP Γ e e' A A') (he : Q7 cx 13 ⟨#[]⟩ 0 B.ty B3 0 [e.tm] [A.ty] l = some (u, a, l2)) : ElR Γ u a (Q7 cx' 13 ⟨#[]⟩ 0 B'.ty B3 0 [e'.tm] [A'.ty] l') := by
 obtain ⟨w, hw, hv, rfl⟩ := A1u he
 unfold L9 at hw
 rw [if_neg (by decide), if_neg (by decide), if_neg (by decide), if_neg (by decide), if_neg (by decide), if_neg (by decide), if_neg (by decide), if_neg (by decide), if_pos rfl] at hw
 simp only [List.getD_cons_zero] at hw
 split at hw
 ·rename_i hc
  cases hw
  have c1 := (A0W A B).1 hc
  have d1 := c1.up hp.le hB
  obtain ⟨m, l1, h3⟩ := A4b e A B l
  obtain ⟨m', l1', h3'⟩ := A4b e' A' B' l'
  refine ⟨S0 A B m e, B, S0 A' B' m' e', B', l1', ?_, rfl, ?_, A1X hp c1 d1 hB⟩
  ·rw [if_pos rfl, h3]; rfl
  ·rw [A1v (w := [B'.ty]) (a := B'.ty) ?_ (A2N hB hv), if_pos rfl, h3']
   ·rfl
   ·unfold L9
    rw [if_neg (by decide), if_neg (by decide), if_neg (by decide), if_neg (by decide), if_neg (by decide), if_neg (by decide), if_neg (by decide), if_neg (by decide), if_pos rfl]
    simp only [List.getD_cons_zero]
    rw [if_pos ((A0W A' B').2 d1)]
 ·cases hw
end
theorem B5p (ks : List Tm) (ih : ∀ t ∈ ks, ∀ (t' : Tm) (d : Int) (cx cx' : Cx) (Γ : GC) (l l' : Int) (u : Tm) (a : Ty) (l2 : Int), M8 12 14 t d = true → M8 12 14 t' d = true → A2M t t' = true → CxR cx cx' Γ → M6 cx t l = some (u, a, l2) → ElR Γ u a (M6 cx' t' l')) :
  ∀ (ks' : List Tm) (d : Int) (cx cx' : Cx) (Γ : GC) (l l' : Int) (us : List Tm) (h : List Ty) (l2 : Int), M4 12 14 ks d = true → M4 12 14 ks' d = true → A2d ks ks' = true → CxR cx cx' Γ → M0 cx ks l = some (us, h, l2) →
   ∃ es As es' As' l2', us = es.map GE.tm ∧ h = As.map GT.ty ∧ M0 cx' ks' l' = some (es'.map GE.tm, As'.map GT.ty, l2') ∧ GPL Γ es es' As As' := by
 induction ks with
 | nil =>
  intro ks' d cx cx' Γ l l' us h l2 _ _ hp _ he
  cases ks' with
  | cons _ _ => cases hp
  | nil =>
   rw [M0] at he
   cases he
   exact ⟨[], [], [], [], l', rfl, rfl, by rw [M0]; rfl, .nil⟩
 | cons t ts ihl =>
  intro ks' d cx cx' Γ l l' us h l2 hs hs' hp hc he
  cases ks' with
  | nil => cases hp
  | cons t' ts' =>
   rw [M4, Bool.and_eq_true] at hs hs'
   rw [A2d, Bool.and_eq_true] at hp
   rw [M0] at he ⊢
   split at he
   ·cases he
   ·rename_i u a l1 h1
    split at he
    ·cases he
    ·rename_i us' h' l3 h2
     cases he
     obtain ⟨e, A, e', A', m, rfl, rfl, h3, h4⟩ := ih t List.mem_cons_self t' d cx cx' Γ l l' u a l1 hs.1 hs'.1 hp.1 hc h1
     obtain ⟨es, As, es', As', m2, rfl, rfl, h5, h6⟩ := ihl (fun x hx => ih x (List.mem_cons_of_mem _ hx)) ts' d cx cx' Γ l1 m us' h' l2 hs.2 hs'.2 hp.2 hc h2
     rw [h3]
     simp only [h5]
     exact ⟨e :: es, A :: As, e' :: es', A' :: As', m2, rfl, rfl, rfl, .cons h4 h6⟩
theorem A63 {cx : Cx} : ∀ {ks : List Tm} {l : Int} {us : List Tm} {h : List Ty} {l2 : Int}, M0 cx ks l = some (us, h, l2) → us.length = ks.length
 | [], _, _, _, _, h => by rw [M0] at h; cases h; rfl
 | t :: ts, _, _, _, _, h => by
  rw [M0] at h
  split at h
  ·cases h
  ·split at h
   ·cases h
   ·rename_i h2; cases h; simp [A63 h2]
theorem B5q : ∀ (t t' : Tm) (d : Int) (cx cx' : Cx) (Γ : GC) (l l' : Int) (u : Tm) (a : Ty) (l2 : Int), M8 12 14 t d = true → M8 12 14 t' d = true → A2M t t' = true → CxR cx cx' Γ → M6 cx t l = some (u, a, l2) → ElR Γ u a (M6 cx' t' l') := by
 refine Tm.ind fun k nm num ty fr lb ks ih t' d cx cx' Γ l l' u a l2 hs hs' hp hc he => ?_
 obtain ⟨k', nm', num', ty', fr', lb', ks'⟩ := t'
 obtain ⟨rfl, rfl, rfl, hty, hpk⟩ := B0k.1 hp
 obtain ⟨n1, n2, n3, n4, n5, n6, n7, n8, n9⟩ := B0q hs
 obtain ⟨m1, m2, m3, m4, m5, m6, m7, m8, m9⟩ := B0q hs'
 subst n7 n8 m7 m8
 rw [M6] at he ⊢
 split at he
 ·cases he
 ·rename_i us h l1 hL
  
  have key : ∀ Δ, CxR (O0 cx k nm ty) (O0 cx' k nm ty') Δ → ∃ es As es' As' l2', us = es.map GE.tm ∧ h = As.map GT.ty ∧ M0 (O0 cx' k nm ty') ks' l' = some (es'.map GE.tm, As'.map GT.ty, l2') ∧ GPL Δ es es' As As' :=
   fun Δ hD => B5p ks ih ks' (d + 1) _ _ Δ l l' us h l1 n9 m9 hpk hD hL
  by_cases h5 : k = 5
  ·subst h5
   obtain ⟨A, rfl⟩ := A2e ty (n5 (.inl rfl))
   obtain ⟨A', rfl⟩ := A2e ty' (m5 (.inl rfl))
   have hA := (B0l A A').1 (hty (.inl rfl))
   obtain rfl := n4 (by decide)
   obtain ⟨es, As, es', As', l3, rfl, rfl, e1, e2⟩ := key (gup Γ nm A A') (by rw [O0, O0, if_pos rfl, if_pos rfl]; exact B5e hc hA nm)
   have hlen : es.length = 1 := by
    have h1 := A63 hL
    rw [List.length_map] at h1
    have : E6 5 = 1 := rfl
    omega
   obtain ⟨e, e', B, B', rfl, rfl, rfl, rfl, hq⟩ := e2.one hlen
   rw [e1]
   exact B5i hA hq he
  ·obtain ⟨es, As, es', As', l3, rfl, rfl, e1, e2⟩ := key Γ (by rw [O0, O0, if_neg h5, if_neg h5]; exact hc)
   have hlen : (es.length : Int) = E6 k := by
    have h1 := A63 hL
    rw [List.length_map] at h1
    omega
   rw [e1]
   have hk : 1 ≤ k ∧ k ≤ 14 := by
    apply Classical.byContradiction
    intro hk
    rw [A4H hk] at n1; omega
   by_cases h1 : k = 1
   ·subst h1
    obtain rfl := n4 (by decide)
    obtain rfl := n6 (by decide)
    obtain rfl := m6 (by decide)
    obtain ⟨rfl, rfl, rfl, rfl⟩ := e2.zero (by have : E6 1 = 0 := rfl; omega)
    exact B5f hc he
   obtain rfl := n3 (by omega)
   by_cases h2 : k = 2
   ·subst h2
    obtain rfl := n6 (by decide)
    obtain rfl := m6 (by decide)
    obtain ⟨rfl, rfl, rfl, rfl⟩ := e2.zero (by have : E6 2 = 0 := rfl; omega)
    exact B5g he
   obtain rfl := n4 h2
   by_cases h13 : k = 13
   ·subst h13
    obtain ⟨B, rfl⟩ := A2e ty (n5 (.inr rfl))
    obtain ⟨B', rfl⟩ := A2e ty' (m5 (.inr rfl))
    obtain ⟨e, e', A, A', rfl, rfl, rfl, rfl, hq⟩ := e2.one (by have : E6 13 = 1 := rfl; omega)
    exact B5o ((B0l B B').1 (hty (.inr rfl))) hq he
   obtain rfl := n6 (by omega)
   obtain rfl := m6 (by omega)
   by_cases h34 : k = 3 ∨ k = 4
   ·obtain ⟨b, rfl⟩ : ∃ b : Bool, k = if b = true then 3 else 4 := by rcases h34 with h | h; exact ⟨true, h⟩; exact ⟨false, h⟩
    obtain ⟨rfl, rfl, rfl, rfl⟩ := e2.zero (by have : E6 (if b = true then 3 else 4) = 0 := (by cases b <;> rfl); omega)
    exact B5h b he
   by_cases h6 : k = 6
   ·subst h6
    obtain ⟨e, e', A, A', f, f', B, B', rfl, rfl, rfl, rfl, hp1, hp2⟩ := e2.two (by have : E6 6 = 2 := rfl; omega)
    exact B5j hp1 hp2 he
   by_cases h78 : k = 7 ∨ k = 8
   ·obtain ⟨b, rfl⟩ : ∃ b : Bool, k = if b = true then 8 else 7 := by rcases h78 with h | h; exact ⟨false, h⟩; exact ⟨true, h⟩
    obtain ⟨e, e', A, A', f, f', B, B', rfl, rfl, rfl, rfl, hp1, hp2⟩ := e2.two (by have : E6 (if b = true then 8 else 7) = 2 := (by cases b <;> rfl); omega)
    exact B5k b hp1 hp2 he
   by_cases h9 : k = 9
   ·subst h9
    obtain ⟨e, e', A, A', f, f', B, B', g, g', C, C', rfl, rfl, rfl, rfl, hp1, hp2, hp3⟩ := e2.three (by have : E6 9 = 3 := rfl; omega)
    exact B5l hp1 hp2 hp3 he
   by_cases h10 : k = 10
   ·subst h10
    obtain ⟨e, e', A, A', f, f', B, B', rfl, rfl, rfl, rfl, hp1, hp2⟩ := e2.two (by have : E6 10 = 2 := rfl; omega)
    exact B5m hp1 hp2 he
   have h11 : k = 11 ∨ k = 12 := by omega
   obtain ⟨b, rfl⟩ : ∃ b : Bool, k = if b = true then 12 else 11 := by rcases h11 with h | h; exact ⟨false, h⟩; exact ⟨true, h⟩
   obtain ⟨e, e', A, A', rfl, rfl, rfl, rfl, hp1⟩ := e2.one (by have : E6 (if b = true then 12 else 11) = 1 := (by cases b <;> rfl); omega)
   exact B5n b hp1 he
theorem B5r {a b u : Tm} {t : Ty} (ha : U4 a = some (u, t)) (hp : A3t a b = true) : ∃ e e' A A', u = e.tm ∧ t = A.ty ∧ U4 b = some (e'.tm, A'.ty) ∧ GP N0 e e' A A' := by
 unfold A3t at hp
 rw [Bool.and_eq_true, Bool.and_eq_true] at hp
 unfold U4 at ha ⊢
 rw [if_pos hp.1] at ha
 rw [if_pos hp.2.1]
 split at ha
 ·rename_i u' t' l' he
  cases ha
  obtain ⟨e, A, e', A', l2, rfl, rfl, h1, h2⟩ := B5q a b 1 [] [] N0 0 0 u t l' ((A0C a).1 hp.1).1 ((A0C b).1 hp.2.1).1 hp.2.2 B5d he
  rw [h1]
  exact ⟨e, e', A, A', rfl, rfl, rfl, h2⟩
 ·cases ha
variable {P : Program} {G : IM}
theorem Fn.forget {f : FuncId} {args : List Value} {v0 : Value} {post : IM → Value → List A6 → Prop} (h : Fn P f args [] G post) (hv : ∀ G' v outs, post G' v outs → v = v0) : Fn P f args [] G (I5 v0 G) := by
 refine ⟨fun w hw => (h.run w hw).mono ?_⟩
 rintro e w' ⟨u, G', outs, rfl, hres, hp⟩
 refine ⟨u, G, [], rfl, ⟨⟨fun b l hb => hres.own.inn b l (hres.le b l hb), by simp, by simp [Fp], by simp [Fp]⟩, hres.ext, C2.refl _, fun _ _ h => .inl h, by simp [Fp], fun b l h h0 => absurd h (by rw [h0]; simp)⟩, rfl, hv _ _ _ hp, rfl⟩
def W6 (t : Tm) : IM → Value → List A6 → Prop := K1 fun G' v => ∃ cells, v = .agg ⟨cells⟩ ∧ B1 G' t cells
theorem W6.mk {G : IM} {t : Tm} {cells : List Value} (h : B1 G t cells) : W6 t G (.agg ⟨cells⟩) [] := ⟨rfl, cells, rfl, h⟩
def mGk (k : Int) : Ty := if k = 4 ∨ k = 5 then .mk k [O8, O8] else .mk k []
theorem A0X {G : IM} {k : Int} {ks : List Tm} {p : Option Addr} {n c : Nat} {es : List (List Value)} (hk : F8 k) (hn : n = ks.length) (hs : D7 G p n c 9 es) (hr : E1 G ks es) : B1 G (A0r k ks) [.int .i64 k, .string ⟨⟨[]⟩⟩, .int .i64 0, .int .i64 0, .slice none 0 0, .int .i64 0, .slice none 0 0, .int .i64 0, .slice p n c] := by
 subst hn
 simp only [A0r, B1]
 exact ⟨[.int .i64 0, .slice none 0 0], [.int .i64 0, .slice none 0 0], p, c, es, rfl, hk, ⟨by decide, by decide⟩, ⟨by decide, by decide⟩, A1R G, A1R G, hs, hr⟩
theorem A64 (k : Int) (G : IM) (hk : F8 k) : Fn Tryz.prog 115 [.int .i64 k] [] G (K1 fun G' v => ∃ cells, v = .agg ⟨cells⟩ ∧ C3 G' (mGk k) cells) := by
 have hB := A2b k O8 O8 G _ _ hk (A0O G) (A0O G)
 refine C1 Tryz.func115 rfl Tryz.ntmps115 Tryz.results115 rfl ?_
 intro w0
 refine A3 ?_
 refine sE (A7 rfl) rfl (fun b3 => ?_)
 refine A8 ?_
 refine sB (qE rfl rfl) rfl rfl (fun h10 => ?_) (fun h10 => ?_)
 refine J3 ?_
 refine E8 rfl ((A1d _ _)) rfl rfl ?_
 refine E8 rfl ((A1d _ _)) rfl rfl ?_
 (refine D9 rfl hB rfl rfl (fun v G1 hle1 hh => ?_); obtain ⟨cb, rfl, hrb⟩ := hh; obtain ⟨p1, c1, e1, rfl, _⟩ := hrb.open)
 refine B0 ?_
 refine M3 (rC rfl (A5 rfl rfl)) ?_
 (exact ⟨rfl, _, rfl, by unfold mGk; rw [if_pos (by omega)]; exact hrb⟩)
 refine A3 ?_
 refine sB (qE rfl rfl) rfl rfl (fun h33 => ?_) (fun h33 => ?_)
 refine B5 ?_
 refine E8 rfl ((A1d _ _)) rfl rfl ?_
 refine E8 rfl ((A1d _ _)) rfl rfl ?_
 (refine D9 rfl hB rfl rfl (fun v G1 hle1 hh => ?_); obtain ⟨cb, rfl, hrb⟩ := hh; obtain ⟨p1, c1, e1, rfl, _⟩ := hrb.open)
 refine B0 ?_
 refine M3 (rC rfl (A5 rfl rfl)) ?_
 (exact ⟨rfl, _, rfl, by unfold mGk; rw [if_pos (by omega)]; exact hrb⟩)
 refine E0 ?_
 refine E8 rfl ((A1d _ _)) rfl rfl ?_
 refine B4 ?_
 refine M3 (rC rfl (A5 rfl rfl)) ?_
 (exact ⟨rfl, _, rfl, by unfold mGk; rw [if_neg (by omega)]; exact O1 _ hk⟩)
theorem B0r (t : Ty) (G : IM) (cells : List Value) (hr : C3 G t cells) : Fn Tryz.prog 237 [.agg ⟨cells⟩] [] G (I5 (.bool (U3 t)) G) := by
 refine Fn.forget (post := K1 fun _ v => v = .bool (U3 t)) ?_ (fun _ _ _ h => h.2)
 have hr0 := hr
 obtain ⟨tk, tks⟩ := t
 obtain ⟨p, c, es, rfl, hk, _⟩ := hr.open
 simp only [Ty.k, Ty.ks] at hk hr0 ⊢
 rw [show U3 (.mk tk tks) = (decide (tk ≠ 1) && M5 (.mk tk tks) (mGk tk)) from rfl]
 refine C1 Tryz.func237 rfl Tryz.ntmps237 Tryz.results237 rfl ?_
 intro w0
 refine A3 ?_
 refine sE (C7 rfl rfl) rfl (fun b3 => ?_)
 refine B4 ?_
 refine E2 E4 rfl ?_
 refine J4 (i := 0) (l' := [tt,ff,ff,ff,ff,ff,ff,ff,ff,ff,ff]) rfl D6 (B9 rfl) rfl (by kernel_rfl) rfl rfl ?_
 refine aL 1 rfl (C8 rfl rfl) rfl ?_
 refine A0v (i := 2) (l' := [tt,tt,tt,ff,ff,ff,ff,ff,ff,ff,ff]) rfl D6 (N5 rfl rfl) rfl (by kernel_rfl) rfl rfl (fun h11 => ?_) (fun h11 => ?_)
 refine aP 3 rfl (qM rfl) rfl ?_
 refine aL 4 rfl (A5 rfl rfl) rfl ?_
 refine aP 5 rfl (B9 rfl) rfl ?_
 refine aL 6 rfl (C8 rfl rfl) rfl ?_
 refine A4 7 ?_
 (refine H7 rfl rfl (A64 tk G hk) rfl rfl rfl (fun v G1 hle1 hh => ?_); obtain ⟨cg, rfl, hrg⟩ := hh; have hT := A6W (.mk tk tks) (mGk tk) G1 _ _ (hr0.mono hle1) hrg; obtain ⟨pg, cgg, eg, rfl, _⟩ := hrg.open)
 refine A4 8 ?_
 refine N3 rfl rfl (hT) rfl rfl rfl ?_
 refine aP 9 rfl (M9 rfl rfl) rfl ?_
 refine aP 10 rfl (qA rfl) rfl ?_
 refine B4 ?_
 (exact ⟨rfl, by rw [decide_eq_true (by omega), Bool.true_and]⟩)
 refine aP 3 rfl (qM rfl) rfl ?_
 refine C4 4 rfl rfl rfl ?_
 refine C4 5 rfl rfl rfl ?_
 refine C4 6 rfl rfl rfl ?_
 refine C4 7 rfl rfl rfl ?_
 refine C4 8 rfl rfl rfl ?_
 refine aP 9 rfl (O6 rfl rfl) rfl ?_
 refine aP 10 rfl (qA rfl) rfl ?_
 refine B4 ?_
 (exact ⟨rfl, by rw [decide_eq_false (by omega), Bool.false_and]⟩)
theorem A2f {Q : Prop} (h : Q := by (exact ⟨rfl, by rw [decide_eq_true (by omega)], rfl⟩)) : Q := h
theorem A2O {Q : Prop} (h : Q := by (exact ⟨rfl, by rw [decide_eq_false (by omega)], rfl⟩)) : Q := h
theorem A2P (t : Tm) (G : IM) (cells : List Value) (hr : B1 G t cells) : Fn Tryz.prog 106 [.agg ⟨cells⟩] [] G (I5 (.bool (R3 t)) G) := by
 obtain ⟨k, nm, num, ⟨tk, tks⟩, ⟨fk, fks⟩, lb, ks⟩ := t
 obtain ⟨pt, ct, pf, cf, p, c, es, rfl, hk, hnum, hlb, hty, hfr, hsl, hkl⟩ := hr.open9
 have hd : R3 (.mk k nm num (.mk tk tks) (.mk fk fks) lb ks) = decide (k = 14 ∧ fk = tk ∧ (tk = 4 ∨ tk = 5)) := rfl
 rw [hd]
 refine C1 Tryz.func106 rfl Tryz.ntmps106 Tryz.results106 rfl ?_
 intro w0
 refine A3 ?_
 refine sE (C7 rfl rfl) rfl (fun b3 => ?_)
 refine B5 ?_
 refine sB (qE rfl rfl) rfl rfl (fun h11 => ?_) (fun h11 => ?_)
 refine B5 ?_
 refine sB (qE rfl rfl) rfl rfl (fun h19 => ?_) (fun h19 => ?_)
 refine B0 ?_
 refine sB (qE rfl rfl) rfl rfl (fun h25 => ?_) (fun h25 => ?_)
 refine K5 ?_
 exact A2f
 refine B4 ?_
 refine sB (qE rfl rfl) rfl rfl (fun h43 => ?_) (fun h43 => ?_)
 refine B5 ?_
 exact A2f
 refine B5 ?_
 exact A2O
 refine U7 ?_
 exact A2O
 refine A4D ?_
 exact A2O
theorem A5g {Q : Prop} (h : Q := by (exact ⟨rfl, by rw [decide_eq_false (by omega), Bool.false_and], rfl⟩)) : Q := h
theorem A4d (t : Tm) (G : IM) (cells : List Value) (hr : B1 G t cells) : Fn Tryz.prog 223 [.agg ⟨cells⟩] [] G (I5 (.bool (inj t)) G) := by
 obtain ⟨k, nm, num, ⟨tk, tks⟩, ⟨fk, fks⟩, lb, ks⟩ := t
 obtain ⟨pt, ct, pf, cf, p, c, es, rfl, hk, hnum, hlb, hty, hfr, hsl, hkl⟩ := hr.open9
 have hd : inj (.mk k nm num (.mk tk tks) (.mk fk fks) lb ks) = (decide (k = 14 ∧ tk = 1) && U3 (.mk fk fks)) := rfl
 rw [hd]
 refine C1 Tryz.func223 rfl Tryz.ntmps223 Tryz.results223 rfl ?_
 intro w0
 refine A3 ?_
 refine sE (C7 rfl rfl) rfl (fun b3 => ?_)
 refine B5 ?_
 refine sB (qE rfl rfl) rfl rfl (fun h11 => ?_) (fun h11 => ?_)
 refine B4 ?_
 refine sB (qE rfl rfl) rfl rfl (fun h16 => ?_) (fun h16 => ?_)
 refine B4 ?_
 refine E8 rfl ((B0r (.mk fk fks) G _ hfr)) rfl rfl ?_
 refine A8 ?_
 (exact ⟨rfl, by rw [decide_eq_true (by omega), Bool.true_and], rfl⟩)
 refine J1 ?_
 exact A5g
 refine K0 ?_
 exact A5g
theorem B5s (t : Tm) (G : IM) (cells : List Value) (hr : B1 G t cells) : Fn Tryz.prog 226 [.agg ⟨cells⟩] [] G (I5 (.bool (decide (t.k = 2 ∨ t.k = 3 ∨ t.k = 4 ∨ t.k = 5))) G) := by
 obtain ⟨k, nm, num, ⟨tk, tks⟩, ⟨fk, fks⟩, lb, ks⟩ := t
 obtain ⟨pt, ct, pf, cf, p, c, es, rfl, hk, hnum, hlb, hty, hfr, hsl, hkl⟩ := hr.open9
 rw [show (Tm.mk k nm num (.mk tk tks) (.mk fk fks) lb ks).k = k from rfl]
 refine C1 Tryz.func226 rfl Tryz.ntmps226 Tryz.results226 rfl ?_
 intro w0
 refine A3 ?_
 refine sE (C7 rfl rfl) rfl (fun b3 => ?_)
 refine B5 ?_
 refine sB (qE rfl rfl) rfl rfl (fun h11 => ?_) (fun h11 => ?_)
 refine A0e ?_
 exact A2f
 refine B7 ?_
 refine sB (qE rfl rfl) rfl rfl (fun h36 => ?_) (fun h36 => ?_)
 refine K0 ?_
 exact A2f
 refine B4 ?_
 refine sB (qE rfl rfl) rfl rfl (fun h58 => ?_) (fun h58 => ?_)
 refine J1 ?_
 exact A2f
 refine B4 ?_
 refine sB (qE rfl rfl) rfl rfl (fun h75 => ?_) (fun h75 => ?_)
 refine A8 ?_
 exact A2f
 refine A8 ?_
 exact A2O
theorem B5t (G : IM) (p : Option Addr) (n c : Nat) (es : List (List Value)) (hsl : D7 G p n c 9 es) (fid : FuncId) [B8 Tryz.prog fid] (us cs : List Value) (ins : List A6) (q : Nat → Bool)
  (hq : ∀ i e, es[i]? = some e → Fn Tryz.prog fid (us ++ [.agg ⟨e⟩] ++ cs) ins G (V7 (.bool (q i)) ins G)) :
  Fn Tryz.prog 238 [.slice p n c, .func (.func fid) ⟨us⟩ ⟨cs⟩] ins G (V7 (.int .i64 (A0J q n)) ins G) := by
 have hn := hsl.le
 refine C1 Tryz.func238 rfl Tryz.ntmps238 Tryz.results238 rfl ?_
 intro w0
 refine J7 ?_
 refine C0 ?_
 refine J0 (fun i : Nat => ⟨[(8, .int .i64 i), (7, .int .i64 n), (1, .func (.func fid) ⟨us⟩ ⟨cs⟩), (0, .slice p n c)], ins, G⟩) (fun i => i ≤ n ∧ ∀ j, j < i → q j = false) (fun i => n - i) 0 ?_ ?_ ?_
 exact D2
 exact ⟨by omega, by omega⟩
 rintro i ⟨hi, hf⟩
 refine A3 ?_
 refine sB (I8 rfl rfl) rfl rfl (fun h21 => ?_) (fun h21 => ?_)
 refine B5 ?_
 refine C0 ?_
 refine J1 ?_
 (obtain ⟨e, b, o, he, rfl, hl, _, hat, _⟩ := hsl.get (i := i) (by omega); refine sP (B6 rfl rfl rfl (by omega)) rfl rfl ?_)
 refine sL (A2 rfl rfl (hat _) hl) rfl rfl ?_
 refine A56 rfl rfl (hq i e he) A0x rfl rfl (fun h43 => ?_) (fun h43 => ?_)
 refine I7 ?_
 refine H9 (rT rfl) A0.refl ?_
 exact ⟨rfl, by rw [A8v (by omega) hf (by assumption)], rfl⟩
 refine B5 ?_
 refine sP (H5 rfl rfl (by omega) (by omega)) rfl rfl ?_
 refine A3 ?_
 refine I1 (i + 1) ?_ ?_ ?_
 exact D2
 exact zq1
 omega
 refine I7 ?_
 refine H9 (rT rfl) A0.refl ?_
 exact ⟨rfl, by rw [A6b (fun j hj => hf j (by omega))], rfl⟩
theorem B5u (G : IM) (p : Option Addr) (n c : Nat) (es : List (List Value)) (hsl : D7 G p n c 9 es) (fid : FuncId) [B8 Tryz.prog fid] (us cs : List Value) (ins : List A6) (q : Nat → Bool)
  (hq : ∀ i e, es[i]? = some e → Fn Tryz.prog fid (us ++ [.agg ⟨e⟩] ++ cs) ins G (V7 (.bool (q i)) ins G)) :
  Fn Tryz.prog 224 [.slice p n c, .func (.func fid) ⟨us⟩ ⟨cs⟩] ins G (V7 (.bool (decide (0 ≤ A0J q n))) ins G) := by
 refine C1 Tryz.func224 rfl Tryz.ntmps224 Tryz.results224 rfl ?_
 intro w0
 refine E0 ?_
 refine A2u rfl (B5t G p n c es hsl fid us cs ins q hq) A0x rfl rfl ?_
 refine sQ (A0I rfl rfl) rfl ?_
 refine B4 ?_
 refine H9 (rT rfl) A0.refl ?_
 exact ⟨rfl, rfl, rfl⟩
theorem B5v (G : IM) (p : Option Addr) (n c : Nat) (es : List (List Value)) (hsl : D7 G p n c 9 es) (fid : FuncId) [B8 Tryz.prog fid] (us cs : List Value) (ins : List A6) (f : Tm → Bool) (ks : List Tm)
  (hn : ks.length = n) {A : Bool} (hA : ks.all f = A) (hq : ∀ i e, es[i]? = some e → Fn Tryz.prog fid (us ++ [.agg ⟨e⟩] ++ cs) ins G (V7 (.bool (!f (ks.getD i K7))) ins G)) :
  Fn Tryz.prog 224 [.slice p n c, .func (.func fid) ⟨us⟩ ⟨cs⟩] ins G (V7 (.bool (!A)) ins G) := by
 subst hn hA
 rw [← A8y f ks K7]
 exact B5u G p _ c es hsl fid us cs ins _ hq
theorem B0s : ∀ ks, A1f ks = ks.all H2
 | [] => rfl
 | t :: ts => by rw [A1f, B0s ts, List.all_cons]
theorem B5w (t : Tm) (G : IM) (cells : List Value) (hl : cells.length = 9) (ho : cells.all (·.oneCell') = true) (h : Fn Tryz.prog 194 [.agg ⟨cells⟩] [] G (I5 (.bool (H2 t)) G)) :
  Fn Tryz.prog 225 [.agg ⟨cells⟩] [] G (V7 (.bool (!H2 t)) [] G) := by
 refine C1 Tryz.func225 rfl Tryz.ntmps225 Tryz.results225 rfl ?_
 intro w0
 refine A3 ?_
 refine sE (C7 rfl rfl) rfl (fun b3 => ?_)
 refine B0 ?_
 refine sL (A2 rfl rfl (A9 (by repeat first | exact mH | apply mT)) hl) rfl rfl ?_
 refine E8 rfl (h) rfl rfl ?_
 refine sQ (A2Z rfl) rfl ?_
 refine B0 ?_
 (exact ⟨rfl, rfl, rfl⟩)
theorem A1w (k : Int) (nm : ByteArray) (num : Int) (ty fr : Ty) (lb : Int) (ks : List Tm) : R3 (.mk k nm num ty fr lb ks) = decide (k = 14 ∧ fr.k = ty.k ∧ (ty.k = 4 ∨ ty.k = 5)) := rfl
theorem A5h (k : Int) (nm : ByteArray) (num : Int) (ty fr : Ty) (lb : Int) (ks : List Tm) : inj (.mk k nm num ty fr lb ks) = (decide (k = 14 ∧ ty.k = 1) && U3 fr) := rfl
theorem A4e {k : Int} {nm : ByteArray} {num : Int} {ty fr : Ty} {lb : Int} {ks : List Tm} (h : k = 10 ∨ R3 (.mk k nm num ty fr lb ks) = true ∨ inj (.mk k nm num ty fr lb ks) = true) : H2 (.mk k nm num ty fr lb ks) = ks.all H2 := by
 rw [H2, if_pos, B0s]
 rw [A1w, A5h] at h
 simp only [Bool.and_eq_true, decide_eq_true_eq] at h
 rcases h with h | h | h
 ·exact .inl h
 ·exact .inr (.inl h)
 ·exact .inr (.inr ⟨h.1.1, h.1.2, h.2⟩)
theorem A5i {k : Int} {nm : ByteArray} {num : Int} {ty fr : Ty} {lb : Int} {ks : List Tm} (h : ¬k = 10) (h2 : R3 (.mk k nm num ty fr lb ks) = false) (h3 : inj (.mk k nm num ty fr lb ks) = false) : H2 (.mk k nm num ty fr lb ks) = decide (k = 2 ∨ k = 3 ∨ k = 4 ∨ k = 5) := by
 rw [H2, if_neg]
 rw [A1w] at h2
 rw [A5h] at h3
 simp only [Bool.and_eq_false_iff, decide_eq_false_iff_not] at h2 h3
 rintro (h' | h' | h')
 ·exact h h'
 ·exact h2 h'
 ·rcases h3 with h3 | h3
  ·exact h3 ⟨h'.1, h'.2.1⟩
  ·rw [h3] at h'; cases h'.2.2
theorem A65 {Q : Prop} (h : Q := by (exact ⟨rfl, by rw [hy (by first | exact .inl (by omega) | exact .inr (.inl (by assumption)) | exact .inr (.inr (by assumption)))]; cases A <;> rfl, rfl⟩)) : Q := h
theorem B0t : ∀ (t : Tm) (G : IM) (cells : List Value), B1 G t cells → Fn Tryz.prog 194 [.agg ⟨cells⟩] [] G (I5 (.bool (H2 t)) G) := by
 refine Tm.ind fun k nm num ty fr lb ks ih G cells hr => ?_
 have hr0 := hr
 have hP := A2P _ G _ hr
 have hI := A4d _ G _ hr
 have hPl := B5s _ G _ hr
 have hy := @A4e k nm num ty fr lb ks
 have hn := @A5i k nm num ty fr lb ks
 rw [show (Tm.mk k nm num ty fr lb ks).k = k from rfl] at hPl
 obtain ⟨A, hA⟩ : ∃ A, ks.all H2 = A := ⟨_, rfl⟩
 rw [hA] at hy
 generalize hpx : R3 (.mk k nm num ty fr lb ks) = bp at hP hy hn
 generalize hij : inj (.mk k nm num ty fr lb ks) = bi at hI hy hn
 generalize H2 (.mk k nm num ty fr lb ks) = R at hy hn ⊢
 obtain ⟨tk, tks⟩ := ty
 obtain ⟨fk, fks⟩ := fr
 obtain ⟨pt, ct, pf, cf, p, c, es, rfl, hk, hnum, hlb, hty, hfr, hsl, hkl⟩ := hr.open9
 have hC := B5v G p ks.length c es hsl 225 [] [] [] H2 ks rfl hA (fun i e he => by
  have hx := hkl.inv he K7
  exact B5w _ G e hx.2.len hx.2.one (ih _ hx.1 G e hx.2))
 refine C1 Tryz.func194 rfl Tryz.ntmps194 Tryz.results194 rfl ?_
 intro w0
 refine A3 ?_
 refine sE (C7 rfl rfl) rfl (fun b3 => ?_)
 refine D1 ?_
 refine sB (qE rfl rfl) rfl rfl (fun h12 => ?_) (fun h12 => ?_)
 refine I7 ?_
 refine A2u rfl hC A0x rfl rfl ?_
 refine sQ (A2Z rfl) rfl ?_
 refine A8 ?_
 exact A65
 refine A3 ?_
 refine F4 rfl (hP) rfl rfl (fun h39 => ?_) (fun h39 => ?_)
 refine K5 ?_
 refine A2u rfl hC A0x rfl rfl ?_
 refine sQ (A2Z rfl) rfl ?_
 refine A8 ?_
 exact A65
 refine B7 ?_
 refine F4 rfl (hI) rfl rfl (fun h64 => ?_) (fun h64 => ?_)
 refine D1 ?_
 refine A2u rfl hC A0x rfl rfl ?_
 refine sQ (A2Z rfl) rfl ?_
 refine A8 ?_
 exact A65
 refine E0 ?_
 refine E8 rfl (hPl) rfl rfl ?_
 refine B0 ?_
 (exact ⟨rfl, by rw [hn (by omega) (by assumption) (by assumption)], rfl⟩)
end Gw
end Go.Proofs.YtebfignffjhnhaaGreatDoor
