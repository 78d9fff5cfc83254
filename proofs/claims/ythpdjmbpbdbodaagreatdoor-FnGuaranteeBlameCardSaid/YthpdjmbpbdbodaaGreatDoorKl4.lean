/-
  The calculus of casts is that of the evaluation. What a step gives is small. The program's functions on types and contexts: each computes what the plain words say. Nodes replaced: the program's put, the reference model's l16Replace. The reference model's replacing of nodes. What a node wants of its operands. The type of a term with casts. castType and CastTypeOf compute the type of a term with casts. ReplaceAt: the program's and the reference model's. Nodes at paths, in plain words: paths concatenate. Replacing a node, in plain words: what is put is found, and putting back undoes. A closed term's type is its type everywhere; a node replaced by one of its type leaves the type. Casts put into a term, in plain words. The reference's types are those of the insertion. Terms with casts: what a type says of a node. Casts put into a term: operand by operand. Precision of types and terms, on both sides.
-/
import Derived.Test.YthpdjmbpbdbodaaGreatDoorKl1
import Derived.Test.YthpdjmbpbdbodaaGreatDoorKl3
import Derived.Test.YthpdjmbpbdbodaaGreatDoorKl2
set_option linter.unusedVariables false
set_option linter.unusedSimpArgs false
set_option maxHeartbeats 0
set_option maxRecDepth 100000
set_option synthInstance.maxSize 4000
set_option synthInstance.maxHeartbeats 0
namespace Go.Proofs.YthpdjmbpbdbodaaGreatDoor
open Go Go.RowKit
namespace Gw
def GT.ty : GT → Ty
 | .any => .mk 1 []
 | .int => .mk 2 []
 | .bool => .mk 3 []
 | .fn a b => .mk 4 [a.ty, b.ty]
 | .pr a b => .mk 5 [a.ty, b.ty]
def GE.tm : GE → Tm
 | .var x => .mk 1 x 0 B4 B4 0 []
 | .num n => .mk 2 ⟨#[]⟩ n B4 B4 0 []
 | .tru b => .mk (if b = true then 3 else 4) ⟨#[]⟩ 0 B4 B4 0 []
 | .lam x A e => .mk 5 x 0 A.ty B4 0 [e.tm]
 | .app f a => .mk 6 ⟨#[]⟩ 0 B4 B4 0 [f.tm, a.tm]
 | .ar s a b => .mk (if s = true then 8 else 7) ⟨#[]⟩ 0 B4 B4 0 [a.tm, b.tm]
 | .ite c a b => .mk 9 ⟨#[]⟩ 0 B4 B4 0 [c.tm, a.tm, b.tm]
 | .pair a b => .mk 10 ⟨#[]⟩ 0 B4 B4 0 [a.tm, b.tm]
 | .part s e => .mk (if s = true then 12 else 11) ⟨#[]⟩ 0 B4 B4 0 [e.tm]
 | .cast A B l e => .mk 14 ⟨#[]⟩ 0 B.ty A.ty l [e.tm]
theorem GT.inj : ∀ {a b : GT}, a.ty = b.ty → a = b := by
 intro a
 induction a with
 | any => intro b h; cases b <;> first | rfl | (simp [GT.ty] at h)
 | int => intro b h; cases b <;> first | rfl | (simp [GT.ty] at h)
 | bool => intro b h; cases b <;> first | rfl | (simp [GT.ty] at h)
 | fn a1 a2 i j =>
  intro b h
  cases b with
  | fn b1 b2 => simp only [GT.ty, Ty.mk.injEq, List.cons.injEq, true_and, and_true] at h; rw [i h.1, j h.2]
  | _ => simp [GT.ty] at h
 | pr a1 a2 i j =>
  intro b h
  cases b with
  | pr b1 b2 => simp only [GT.ty, Ty.mk.injEq, List.cons.injEq, true_and, and_true] at h; rw [i h.1, j h.2]
  | _ => simp [GT.ty] at h
theorem A9N (a : GT) : T3 a.ty = a.gr.ty := by cases a <;> rfl
theorem A2d {a : GT} : a.ty.k = 1 ↔ a = .any := by cases a <;> simp [GT.ty, Ty.k]
theorem A3n {a : GT} : R7 a.ty = true ↔ a.Gd := by
 unfold R7 GT.Gd
 rw [Bool.and_eq_true, decide_eq_true_eq, Z2, A9N, Ne, A2d]
 constructor
 ·rintro ⟨h1, h2⟩; exact ⟨h1, (GT.inj h2).symm⟩
 ·rintro ⟨h1, h2⟩; exact ⟨h1, by rw [h2]⟩
theorem B4p {a : GT} (h : ¬a.Gd) : R7 a.ty = false := by
 cases h2 : R7 a.ty with
 | false => rfl
 | true => exact absurd (A3n.1 h2) h
theorem V3 : ∀ e : GE, E3 e.tm = true ↔ GV e := by
 intro e
 induction e with
 | var x => rw [GE.tm, E3]; simp; intro h; cases h
 | num n => rw [GE.tm, E3]; simp; exact .num
 | tru b => rw [GE.tm, E3]; cases b <;> (simp; exact .tru)
 | lam x A e _ => rw [GE.tm, E3]; simp; exact .lam
 | app f a _ _ => rw [GE.tm, E3]; simp; intro h; cases h
 | ar s a b _ _ => rw [GE.tm, E3]; cases s <;> (simp; intro h; cases h)
 | ite c a b _ _ _ => rw [GE.tm, E3]; simp; intro h; cases h
 | pair a b i j =>
  rw [GE.tm, E3, if_pos (.inl rfl), A1c, A1c, A1c, Bool.and_true, Bool.and_eq_true, i, j]
  exact ⟨fun h => .pair h.1 h.2, fun h => by cases h with | pair a b => exact ⟨a, b⟩⟩
 | part s e _ => rw [GE.tm, E3]; cases s <;> (simp; intro h; cases h)
 | cast A B l e i =>
  rw [GE.tm, E3]
  by_cases hp : A.ty.k = B.ty.k ∧ (B.ty.k = 4 ∨ B.ty.k = 5)
  ·rw [if_pos (.inr (.inl ⟨rfl, hp⟩)), A1c, A1c, Bool.and_true, i]
   constructor
   ·intro h
    cases B <;> cases A <;> first | exact .pf h | exact .pp h | (exfalso; simp [GT.ty, Ty.k] at hp)
   ·intro h; exact h.ofCast
  ·by_cases hi : B.ty.k = 1 ∧ R7 A.ty = true
   ·rw [if_pos (.inr (.inr ⟨rfl, hi⟩)), A1c, A1c, Bool.and_true, i]
    constructor
    ·intro h
     obtain rfl := A2d.1 hi.1
     exact .inj h (A3n.1 hi.2)
    ·intro h; exact h.ofCast
   ·rw [if_neg (by rintro (h | h | h); exact absurd h (by decide); exact hp h.2; exact hi h.2)]
    constructor
    ·intro h; exact absurd (of_decide_eq_true h) (by decide)
    ·intro h
     exfalso
     cases h with
     | pf _ => exact hp ⟨rfl, .inl rfl⟩
     | pp _ => exact hp ⟨rfl, .inr rfl⟩
     | inj _ hg => exact hi ⟨rfl, A3n.2 hg⟩
theorem A5g {e : GE} (h : ¬GV e) : E3 e.tm = false := by
 cases h2 : E3 e.tm with
 | false => rfl
 | true => exact absurd ((V3 e).1 h2) h
theorem nv {e r : GE} (h : GS e r) : E3 e.tm = false := A5g fun hv => hv.noS _ h
theorem B4q (x : ByteArray) (v : GE) : ∀ e : GE, (e.sub x v).tm = R8 x v.tm e.tm := by
 intro e
 induction e with
 | var y =>
  rw [GE.sub, GE.tm, R8]
  by_cases h : y = x
  ·rw [if_pos h, if_pos ⟨rfl, h⟩]
  ·rw [if_neg h, if_neg (fun c => h c.2), if_neg (by rintro ⟨h, _⟩; exact absurd h (by decide)), GE.tm, Q0]
 | num n => rw [GE.sub, GE.tm, R8]; simp [Q0]
 | tru b => rw [GE.sub, GE.tm, R8]; cases b <;> simp [Q0]
 | lam y A e i =>
  by_cases h : y = x
  ·rw [GE.sub, if_pos h, GE.tm, R8, if_neg (by rintro ⟨h, _⟩; exact absurd h (by decide)), if_pos ⟨rfl, h⟩]
  ·rw [GE.sub, if_neg h, GE.tm, GE.tm, R8, if_neg (by rintro ⟨h, _⟩; exact absurd h (by decide)), if_neg (fun c => h c.2), i, Q0, Q0]
 | app f a i j => rw [GE.sub, GE.tm, GE.tm, R8, i, j]; simp [Q0]
 | ar s a b i j => rw [GE.sub, GE.tm, GE.tm, R8, i, j]; cases s <;> simp [Q0]
 | ite c a b i j k => rw [GE.sub, GE.tm, GE.tm, R8, i, j, k]; simp [Q0]
 | pair a b i j => rw [GE.sub, GE.tm, GE.tm, R8, i, j]; simp [Q0]
 | part s e i => rw [GE.sub, GE.tm, GE.tm, R8, i]; cases s <;> simp [Q0]
 | cast A B l e i => rw [GE.sub, GE.tm, GE.tm, R8, i]; simp [Q0]
section
variable {k : Int} {nm : ByteArray} {num : Int} {ty fr : Ty} {lb : Int} {a b c : Tm} {t : Tm} {l : Int}
theorem A3o (h : E3 a = false) (ks : List Tm) (hn : k = 9 ∨ ks.length < 3) (r : Tm) (hs : H0 a = (r, 1, 0)) : H0 (.mk k nm num ty fr lb (a :: ks)) = (.mk k nm num ty fr lb (r :: ks), 1, 0) := by
 have : ∃ n, (if k = 9 then 1 else (a :: ks).length) = n + 1 := ⟨if k = 9 then 0 else ks.length, by split <;> simp⟩
 obtain ⟨n, hn⟩ := this
 rw [H0, hn, V2, if_neg (by rw [h]; decide), hs]
 simp
theorem B4r (h : E3 a = false) (ks : List Tm) (hs : (H0 a).2.1 = 2) : (H0 (.mk k nm num ty fr lb (a :: ks))).2.1 = 2 := by
 have : ∃ n, (if k = 9 then 1 else (a :: ks).length) = n + 1 := ⟨if k = 9 then 0 else ks.length, by split <;> simp⟩
 obtain ⟨n, hn⟩ := this
 rw [H0, hn, V2, if_neg (by rw [h]; decide), hs]
 simp
theorem A6F (h0 : E3 a = true) (h : E3 b = false) (hk : k ≠ 9) (r : Tm) (hs : H0 b = (r, 1, 0)) : H0 (.mk k nm num ty fr lb [a, b]) = (.mk k nm num ty fr lb [a, r], 1, 0) := by
 rw [H0, if_neg hk]
 simp only [List.length_cons, List.length_nil, V2, h0, h, if_true, hs]
 simp
theorem B4s (h0 : E3 a = true) (h : E3 b = false) (hk : k ≠ 9) (hs : (H0 b).2.1 = 2) : (H0 (.mk k nm num ty fr lb [a, b])).2.1 = 2 := by
 rw [H0, if_neg hk]
 simp only [List.length_cons, List.length_nil, V2, h0, h, if_true, hs]
 simp
theorem A2N (h : E3 a = true) : H0 (.mk k nm num ty fr lb [a]) = N1 k ty fr lb [a] := by
 rw [H0, show (if k = 9 then 1 else [a].length) = 1 by split <;> rfl, V2, h]
 simp [V2]
theorem A6G (h : E3 a = true) (h2 : E3 b = true) (hk : k ≠ 9) : H0 (.mk k nm num ty fr lb [a, b]) = N1 k ty fr lb [a, b] := by
 rw [H0, if_neg hk]
 simp [V2, h, h2]
theorem B4t (h : E3 a = true) : H0 (.mk 9 nm num ty fr lb [a, b, c]) = N1 9 ty fr lb [a, b, c] := by
 rw [H0, if_pos rfl]
 simp [V2, h]
end
theorem A6H {e r : GE} (h : GS e r) : H0 e.tm = (r.tm, 1, 0) := by
 induction h with
 | app1 s i => rw [GE.tm, A3o (nv s) _ (.inr (by simp)) _ i, GE.tm]
 | app2 v s i => rw [GE.tm, A6F ((V3 _).2 v) (nv s) (by decide) _ i, GE.tm]
 | ar1 s i => rw [GE.tm, A3o (nv s) _ (.inr (by simp)) _ i, GE.tm]
 | @ar2 t _ _ _ v s i => rw [GE.tm, A6F ((V3 _).2 v) (nv s) (by cases t <;> decide) _ i, GE.tm]
 | ite1 s i => rw [GE.tm, A3o (nv s) _ (.inl rfl) _ i, GE.tm]
 | pair1 s i => rw [GE.tm, A3o (nv s) _ (.inr (by simp)) _ i, GE.tm]
 | pair2 v s i => rw [GE.tm, A6F ((V3 _).2 v) (nv s) (by decide) _ i, GE.tm]
 | part1 s i => rw [GE.tm, A3o (nv s) _ (.inr (by simp)) _ i, GE.tm]
 | cast1 s i => rw [GE.tm, A3o (nv s) _ (.inr (by simp)) _ i, GE.tm]
 | beta v =>
  rw [GE.tm, A6G ((V3 _).2 .lam) ((V3 _).2 v) (by decide), B4q]
  rfl
 | appx v w =>
  rw [GE.tm, A6G ((V3 _).2 (.pf v)) ((V3 _).2 w) (by decide)]
  rfl
 | @ar t m n =>
  rw [GE.tm, A6G ((V3 _).2 .num) ((V3 _).2 .num) (by cases t <;> decide)]
  cases t
  ·rfl
  ·unfold A6h
   simp only [if_true]
   show (Y3 (m < n), (1 : Int), (0 : Int)) = _
   unfold Y3
   by_cases h : m < n
   ·simp only [h, if_true, GE.tm, decide_true]; rfl
   ·simp only [h, if_false, GE.tm, decide_false]; rfl
 | @ite b x y =>
  rw [GE.tm, B4t ((V3 _).2 .tru)]
  cases b <;> rfl
 | @part t a b v w =>
  rw [GE.tm, A2N ((V3 _).2 (.pair v w))]
  cases t <;> rfl
 | @partx t a b c d l e v =>
  rw [GE.tm, A2N ((V3 _).2 (.pp v))]
  cases t <;> rfl
 | @cid A l v hv hA =>
  rw [GE.tm, A2N ((V3 _).2 hv)]
  rcases hA with rfl | rfl | rfl <;> rfl
 | @up A l v hv hA hg =>
  rw [GE.tm, A2N ((V3 _).2 hv)]
  cases A with
  | any => exact absurd rfl hA
  | int => exact absurd rfl hg
  | bool => exact absurd rfl hg
  | _ => rfl
 | @down B l v hv hB hg =>
  rw [GE.tm, A2N ((V3 _).2 hv)]
  have hg' := B4p (a := B) fun h => hg h.2
  unfold N1
  rw [if_neg (by decide), if_neg (by decide), if_neg (by decide), if_neg (by decide), if_pos rfl, if_neg, if_neg, if_pos hg', A9N]
  ·rfl
  ·rw [A2d]; exact hB
  ·intro h; exact hB (A2d.1 h.symm)
 | @hit G l m w hv hG =>
  rw [GE.tm, A2N ((V3 _).2 (.inj hv hG))]
  have hg' := A3n.2 hG
  have hi : inj (GE.tm (.cast G .any m w)) = true := by
   rw [GE.tm]; unfold inj; rw [Bool.and_eq_true]; exact ⟨rfl, hg'⟩
  unfold N1
  rw [if_neg (by decide), if_neg (by decide), if_neg (by decide), if_neg (by decide), if_pos rfl, if_neg, if_neg, if_neg (by rw [hg']; decide), if_neg (by show ¬inj (GE.tm (.cast G .any m w)) = false; rw [hi]; decide), if_pos]
  ·rfl
  ·rfl
  ·rw [A2d]; exact hG.1
  ·intro h; exact hG.1 (A2d.1 h.symm)
def Bd (e : GE) : Prop := E3 e.tm = false ∧ (H0 e.tm).2.1 = 2
theorem B4u {Γ : GC} {v v' : GE} {U U' : GT} (h : GP Γ v v' U U') : Γ = N0 → GV v → ∀ {A B}, U = .fn A B → (∃ x C e, v = .lam x C e) ∨ ∃ a b c d l e, v = .cast (.fn a b) (.fn c d) l e ∧ GV e := by
 induction h with
 | castR _ _ _ i => exact i
 | castL _ _ _ _ => intro _ hv A B hU; subst hU; cases hv with | pf h => exact .inr ⟨_, _, _, _, _, _, rfl, h⟩
 | castB _ _ _ _ _ => intro _ hv A B hU; subst hU; cases hv with | pf h => exact .inr ⟨_, _, _, _, _, _, rfl, h⟩
 | lam _ _ _ => intro _ _ _ _ _; exact .inl ⟨_, _, _, rfl⟩
 | app _ _ _ _ => intro _ hv; cases hv
 | ite _ _ _ _ _ _ => intro _ hv; cases hv
 | part _ _ => intro _ hv; cases hv
 | ar _ _ _ _ => intro _ hv; cases hv
 | var _ _ => intro _ hv; cases hv
 | _ => intro _ _ _ _ hU; cases hU
theorem B4v {Γ : GC} {v v' : GE} {U U' : GT} (h : GP Γ v v' U U') : Γ = N0 → GV v → ∀ {A B}, U = .pr A B → (∃ a b, v = .pair a b ∧ GV a ∧ GV b) ∨ ∃ a b c d l e, v = .cast (.pr a b) (.pr c d) l e ∧ GV e := by
 induction h with
 | castR _ _ _ i => exact i
 | castL _ _ _ _ => intro _ hv A B hU; subst hU; cases hv with | pp h => exact .inr ⟨_, _, _, _, _, _, rfl, h⟩
 | castB _ _ _ _ _ => intro _ hv A B hU; subst hU; cases hv with | pp h => exact .inr ⟨_, _, _, _, _, _, rfl, h⟩
 | pair _ _ _ _ => intro _ hv _ _ _; cases hv with | pair a b => exact .inl ⟨_, _, rfl, a, b⟩
 | app _ _ _ _ => intro _ hv; cases hv
 | ite _ _ _ _ _ _ => intro _ hv; cases hv
 | part _ _ => intro _ hv; cases hv
 | ar _ _ _ _ => intro _ hv; cases hv
 | var _ _ => intro _ hv; cases hv
 | _ => intro _ _ _ _ hU; cases hU
theorem A9O {Γ : GC} {v v' : GE} {U U' : GT} (h : GP Γ v v' U U') : Γ = N0 → GV v → U = .int → ∃ n, v = .num n := by
 induction h with
 | castR _ _ _ i => exact i
 | castL _ _ _ _ => intro _ hv hU; subst hU; cases hv
 | castB _ _ _ _ _ => intro _ hv hU; subst hU; cases hv
 | num => intro _ _ _; exact ⟨_, rfl⟩
 | app _ _ _ _ => intro _ hv; cases hv
 | ite _ _ _ _ _ _ => intro _ hv; cases hv
 | part _ _ => intro _ hv; cases hv
 | ar _ _ _ _ => intro _ hv; cases hv
 | var _ _ => intro _ hv; cases hv
 | _ => intro _ _ hU; cases hU
theorem B4w {Γ : GC} {v v' : GE} {U U' : GT} (h : GP Γ v v' U U') : Γ = N0 → GV v → U = .bool → ∃ b, v = .tru b := by
 induction h with
 | castR _ _ _ i => exact i
 | castL _ _ _ _ => intro _ hv hU; subst hU; cases hv
 | castB _ _ _ _ _ => intro _ hv hU; subst hU; cases hv
 | tru => intro _ _ _; exact ⟨_, rfl⟩
 | app _ _ _ _ => intro _ hv; cases hv
 | ite _ _ _ _ _ _ => intro _ hv; cases hv
 | part _ _ => intro _ hv; cases hv
 | ar _ _ _ _ => intro _ hv; cases hv
 | var _ _ => intro _ hv; cases hv
 | _ => intro _ _ hU; cases hU
theorem B4x {Γ : GC} {v v' : GE} {U U' : GT} (h : GP Γ v v' U U') : Γ = N0 → GV v → U = .any → ∃ H l w, v = .cast H .any l w ∧ GV w ∧ H.Gd := by
 induction h with
 | castR _ _ _ i => exact i
 | castL _ _ _ _ => intro _ hv hU; subst hU; cases hv with | inj h g => exact ⟨_, _, _, rfl, h, g⟩
 | castB _ _ _ _ _ => intro _ hv hU; subst hU; cases hv with | inj h g => exact ⟨_, _, _, rfl, h, g⟩
 | app _ _ _ _ => intro _ hv; cases hv
 | ite _ _ _ _ _ _ => intro _ hv; cases hv
 | part _ _ => intro _ hv; cases hv
 | ar _ _ _ _ => intro _ hv; cases hv
 | var _ _ => intro _ hv; cases hv
 | _ => intro _ _ hU; cases hU
theorem A9P {e e' : GE} {A B A' : GT} {l : Int} (h : GP N0 e e' A A') (hc : Co A B) (hv : GV e) : GV (.cast A B l e) ∨ (∃ r, GS (.cast A B l e) r) ∨ Bd (.cast A B l e) := by
 by_cases hA : A = .any
 ·subst hA
  by_cases hB : B = .any
  ·subst hB; exact .inr (.inl ⟨_, .cid hv (.inl rfl)⟩)
  ·by_cases hg : B.gr = B
   ·obtain ⟨H, m, w, rfl, hw, hH⟩ := B4x h rfl hv rfl
    by_cases he : H = B
    ·subst he; exact .inr (.inl ⟨_, .hit hw hH⟩)
    ·refine .inr (.inr ⟨A5g (by intro h; cases h; exact hB rfl), ?_⟩)
     have hg' := A3n.2 (show B.Gd from ⟨hB, hg⟩)
     have hi : inj (GE.tm (.cast H .any m w)) = true := by
      rw [GE.tm]; unfold inj; rw [Bool.and_eq_true]; exact ⟨rfl, A3n.2 hH⟩
     rw [GE.tm, A2N ((V3 _).2 hv)]
     unfold N1
     rw [if_neg (by decide), if_neg (by decide), if_neg (by decide), if_neg (by decide), if_pos rfl, if_neg, if_neg, if_neg (by rw [hg']; decide), if_neg (by show ¬inj (GE.tm (.cast H .any m w)) = false; rw [hi]; decide), if_neg]
     ·show ¬H.ty.k = B.ty.k
      intro hk
      apply he
      rw [← hH.2, ← hg]
      cases H <;> cases B <;> first | rfl | (simp [GT.ty, Ty.k] at hk)
     ·rw [A2d]; exact hB
     ·intro h; exact hB (A2d.1 h.symm)
   ·exact .inr (.inl ⟨_, .down hv hB hg⟩)
 ·by_cases hB : B = .any
  ·subst hB
   by_cases hg : A.gr = A
   ·exact .inl (.inj hv ⟨hA, hg⟩)
   ·exact .inr (.inl ⟨_, .up hv hA hg⟩)
  ·cases hc with
   | l => exact absurd rfl hA
   | r => exact absurd rfl hB
   | int => exact .inr (.inl ⟨_, .cid hv (.inr (.inl rfl))⟩)
   | bool => exact .inr (.inl ⟨_, .cid hv (.inr (.inr rfl))⟩)
   | fn _ _ => exact .inl (.pf hv)
   | pr _ _ => exact .inl (.pp hv)
theorem A2O {a : GE} (h : Bd a) {e : GE} {k : Int} {nm : ByteArray} {num : Int} {ty fr : Ty} {lb : Int} {ks : List Tm} (he : e.tm = .mk k nm num ty fr lb (a.tm :: ks)) (hv : ¬GV e) : Bd e :=
 ⟨A5g hv, by rw [he]; exact B4r h.1 ks h.2⟩
theorem A6I {a b : GE} (ha : GV a) (h : Bd b) {e : GE} {k : Int} {nm : ByteArray} {num : Int} {ty fr : Ty} {lb : Int} (hk : k ≠ 9) (he : e.tm = .mk k nm num ty fr lb [a.tm, b.tm]) (hv : ¬GV e) : Bd e :=
 ⟨A5g hv, by rw [he]; exact B4s ((V3 _).2 ha) h.1 hk h.2⟩
theorem A5h {e : GE} (h : Bd e) : ¬GV e := fun hv => by have := (V3 e).2 hv; rw [h.1] at this; cases this
theorem A9Q {Γ : GC} {e e' : GE} {A A' : GT} (h : GP Γ e e' A A') : Γ = N0 → GV e ∨ (∃ r, GS e r) ∨ Bd e := by
 induction h with
 | var hx _ => intro hE; subst hE; cases hx
 | num => intro _; exact .inl .num
 | tru => intro _; exact .inl .tru
 | lam _ _ _ => intro _; exact .inl .lam
 | app hf ha i j =>
  intro hE
  refine .inr ?_
  rcases i hE with vf | ⟨r, s⟩ | b
  ·rcases j hE with va | ⟨r, s⟩ | b
   ·rcases B4u hf hE vf rfl with ⟨x, C, e, rfl⟩ | ⟨_, _, _, _, _, _, rfl, hw⟩
    ·exact .inl ⟨_, .beta va⟩
    ·exact .inl ⟨_, .appx hw va⟩
   ·exact .inl ⟨_, .app2 vf s⟩
   ·exact .inr (A6I vf b (k := 6) (by decide) rfl (by intro h; cases h))
  ·exact .inl ⟨_, .app1 s⟩
  ·exact .inr (A2O b (k := 6) rfl (by intro h; cases h))
 | @ar Γ t _ _ _ _ ha hb i j =>
  intro hE
  refine .inr ?_
  rcases i hE with va | ⟨r, s⟩ | b
  ·rcases j hE with vb | ⟨r, s⟩ | b
   ·obtain ⟨m, rfl⟩ := A9O ha hE va rfl
    obtain ⟨n, rfl⟩ := A9O hb hE vb rfl
    exact .inl ⟨_, .ar⟩
   ·exact .inl ⟨_, .ar2 va s⟩
   ·exact .inr (A6I va b (k := if t = true then 8 else 7) (by cases t <;> decide) rfl (by intro h; cases h))
  ·exact .inl ⟨_, .ar1 s⟩
  ·exact .inr (A2O b rfl (by intro h; cases h))
 | ite hc _ _ i _ _ =>
  intro hE
  refine .inr ?_
  rcases i hE with vc | ⟨r, s⟩ | b
  ·obtain ⟨m, rfl⟩ := B4w hc hE vc rfl
   exact .inl ⟨_, .ite⟩
  ·exact .inl ⟨_, .ite1 s⟩
  ·exact .inr (A2O b rfl (by intro h; cases h))
 | pair ha hb i j =>
  intro hE
  rcases i hE with va | ⟨r, s⟩ | b
  ·rcases j hE with vb | ⟨r, s⟩ | b
   ·exact .inl (.pair va vb)
   ·exact .inr (.inl ⟨_, .pair2 va s⟩)
   ·exact .inr (.inr (A6I va b (k := 10) (by decide) rfl (by intro h; cases h with | pair _ h => exact A5h b h)))
  ·exact .inr (.inl ⟨_, .pair1 s⟩)
  ·exact .inr (.inr (A2O b rfl (by intro h; cases h with | pair h _ => exact A5h b h)))
 | part h i =>
  intro hE
  refine .inr ?_
  rcases i hE with vc | ⟨r, s⟩ | b
  ·rcases B4v h hE vc rfl with ⟨_, _, rfl, ha, hb⟩ | ⟨_, _, _, _, _, _, rfl, hw⟩
   ·exact .inl ⟨_, .part ha hb⟩
   ·exact .inl ⟨_, .partx hw⟩
  ·exact .inl ⟨_, .part1 s⟩
  ·exact .inr (A2O b rfl (by intro h; cases h))
 | castL h hc _ i =>
  intro hE
  rcases i hE with hv | ⟨r, s⟩ | b
  ·subst hE; exact A9P h hc hv
  ·exact .inr (.inl ⟨_, .cast1 s⟩)
  ·exact .inr (.inr (A2O b rfl (fun h => A5h b h.ofCast)))
 | castR _ _ _ i => exact i
 | castB h hc _ _ i =>
  intro hE
  rcases i hE with hv | ⟨r, s⟩ | b
  ·subst hE; exact A9P h hc hv
  ·exact .inr (.inl ⟨_, .cast1 s⟩)
  ·exact .inr (.inr (A2O b rfl (fun h => A5h b h.ofCast)))
theorem B4y {e : Tm} (h : (F9 e).2.1 = 1) : M9 e = true ∧ E3 e = false ∧ (H0 e).2.1 = 1 ∧ (F9 e).1 = (H0 e).1 := by
 unfold F9 at h ⊢
 split at h
 ·cases h
 ·rename_i h1
  split at h
  ·cases h
  ·rename_i h2
   split at h
   ·rename_i h3; exact absurd h h3
   ·rename_i h3
    split at h
    ·cases h
    ·rename_i h4
     rw [if_neg h1, if_neg h2, if_neg h3, if_neg h4]
     refine ⟨by cases hv : M9 e with | true => rfl | false => exact absurd hv h1, by cases hv : E3 e with | false => rfl | true => exact absurd hv h2, ?_, rfl⟩
     apply Classical.byContradiction
     intro hc; exact h3 hc
theorem A9R {e : Tm} (h : (F9 e).2.1 = 0) (hc : (H0 e).2.1 ≠ 0) : E3 e = true ∧ (F9 e).1 = e := by
 unfold F9 at h ⊢
 split at h
 ·cases h
 ·rename_i h1
  split at h
  ·rename_i h2; rw [if_neg h1, if_pos h2]; exact ⟨h2, rfl⟩
  ·split at h
   ·exact absurd h hc
   ·split at h <;> cases h
theorem A9S {n : Nat} {e : Tm} (h : (F9 e).2.1 = 1) : I0 (n + 1) e = ((I0 n (F9 e).1).1, (I0 n (F9 e).1).2.1, (I0 n (F9 e).1).2.2.1, (I0 n (F9 e).1).2.2.2 + 1) := by rw [I0, if_pos h]
theorem B4z : ∀ (n : Nat) {e e' : GE} {A A' : GT}, GP N0 e e' A A' → (I0 n e.tm).2.1 = 0 → ∃ w, (I0 n e.tm).1 = w.tm ∧ GV w ∧ Ss e w := by
 intro n
 have fin : ∀ {e e' : GE} {A A' : GT}, GP N0 e e' A A' → (F9 e.tm).2.1 ≠ 1 → (F9 e.tm).2.1 = 0 → ∃ w, (F9 e.tm).1 = w.tm ∧ GV w ∧ Ss e w := by
  intro e e' A A' hp _ h0
  have hv : E3 e.tm = true := by
   rcases A9Q hp rfl with hv | ⟨r, s⟩ | b
   ·exact (V3 _).2 hv
   ·exact (A9R h0 (by rw [A6H s]; show (1 : Int) ≠ 0; decide)).1
   ·exact (A9R h0 (by rw [b.2]; decide)).1
  refine ⟨e, ?_, (V3 _).1 hv, .refl⟩
  unfold F9 at h0 ⊢
  split at h0
  ·cases h0
  ·rename_i h1; rw [if_neg h1, if_pos hv]
 induction n with
 | zero =>
  intro e e' A A' hp h
  rw [I0] at h ⊢
  by_cases h1 : (F9 e.tm).2.1 = 1
  ·rw [if_pos h1] at h; cases h
  ·rw [if_neg h1] at h ⊢; exact fin hp h1 h
 | succ n ih =>
  intro e e' A A' hp h
  by_cases h1 : (F9 e.tm).2.1 = 1
  ·obtain ⟨_, hv, hs, he⟩ := B4y h1
   rcases A9Q hp rfl with hv' | ⟨r, s⟩ | b
   ·rw [(V3 _).2 hv'] at hv; cases hv
   ·rw [A9S h1] at h ⊢
    have hr : (F9 e.tm).1 = r.tm := by rw [he, A6H s]
    rw [hr] at h ⊢
    obtain ⟨r', _, hp'⟩ := sim hp rfl s
    obtain ⟨w, h2, h3, h4⟩ := ih hp' h
    exact ⟨w, h2, h3, .step s h4⟩
   ·rw [b.2] at hs; cases hs
  ·rw [I0, if_neg h1] at h ⊢; exact fin hp h1 h
theorem B4A : ∀ {e w : GE}, Ss e w → GV w → ∀ (n : Nat), M9 e.tm = true → ((I0 n e.tm).2.1 = 0 ∧ (I0 n e.tm).1 = w.tm) ∨ (I0 n e.tm).2.1 = 4 ∨ (I0 n e.tm).2.1 = 5 := by
 intro e w h
 induction h with
 | @refl e =>
  intro hv n hc
  have : F9 e.tm = (e.tm, 0, 0) := by unfold F9; rw [if_neg (by rw [hc]; decide), if_pos ((V3 _).2 hv)]
  cases n with
  | zero => rw [I0, this]; exact .inl ⟨rfl, rfl⟩
  | succ n => rw [I0, this]; exact .inl ⟨rfl, rfl⟩
 | @step a b c s _ ih =>
  intro hv n hc
  have hs := A6H s
  have : F9 a.tm = if M9 b.tm = false then (I3, 4, 0) else (b.tm, 1, 0) := by
   unfold F9; rw [if_neg (by rw [hc]; decide), if_neg (by rw [nv s]; decide), hs, if_neg (by show ¬(1 : Int) ≠ 1; decide)]
  cases hcb : M9 b.tm with
  | false =>
   rw [if_pos hcb] at this
   cases n with
   | zero => rw [I0, this]; exact .inr (.inl rfl)
   | succ n => rw [I0, this]; exact .inr (.inl rfl)
  | true =>
   rw [if_neg (by rw [hcb]; decide)] at this
   cases n with
   | zero => rw [I0, this]; exact .inr (.inr rfl)
   | succ n =>
    rw [A9S (by rw [this]), this]
    exact ih hv n hcb
theorem B4B {n : Nat} {e e' : GE} {A A' : GT} (hp : GP N0 e e' A A') (h : (I0 n e.tm).2.1 = 0) (m : Nat) (hc : M9 e'.tm = true) :
  ∃ w, (I0 n e.tm).1 = w.tm ∧ GV w ∧ (((I0 m e'.tm).2.1 = 0 ∧ ∃ w', (I0 m e'.tm).1 = w'.tm ∧ GV w' ∧ w.tx = w'.tx) ∨ (I0 m e'.tm).2.1 = 4 ∨ (I0 m e'.tm).2.1 = 5) := by
 obtain ⟨w, h1, h2, h3⟩ := B4z n hp h
 obtain ⟨r', s, hp2⟩ := B3w h3 hp
 obtain ⟨w', s2, hw', hp3⟩ := A0U hp2 rfl h2
 refine ⟨w, h1, h2, ?_⟩
 rcases B4A (s.trans s2) hw' m hc with ⟨a, b⟩ | a | a
 ·exact .inl ⟨a, w', b, hw', B3x hp3 rfl h2 hw'⟩
 ·exact .inr (.inl a)
 ·exact .inr (.inr a)
theorem B4C {t : Tm} (h : t.small) : t.nm.size ≤ 4294967296 ∧ t.ty.small ∧ t.fr.small ∧ t.ks.length ≤ 4294967296 ∧ Tm.smallL t.ks := by
 cases t; exact A0t.1 h
theorem A9T {ks : List Ty} (h : Ty.smallL ks) (i : Nat) : (kt ks i).small := by
 unfold kt
 rw [List.getD_eq_getElem?_getD]
 cases hi : ks[i]? with
 | none => exact A2M
 | some t => exact Ty.smallL_mem h t (List.mem_of_getElem? hi)
theorem A9U {t : Ty} (h : t.small) : Ty.smallL t.ks := by cases t; simp only [Ty.small] at h; exact h.2
theorem A3p (t : Ty) : (T3 t).small := by
 unfold T3; split <;> simp [Q5, Ty.small, Ty.smallL]
theorem A2P {e : Tm} {a b : Ty} {l : Int} (h : e.small) (ha : a.small) (hb : b.small) : (K7 e a b l).small := A0t.2 ⟨by decide, hb, ha, by simp, by simp [Tm.smallL, h]⟩
theorem A2e (e : Tm) (a b : Ty) (l : Int) : D6 (K7 e a b l) = D6 e + 1 := by rw [K7, Z4, E9, E9]
theorem A6J {k : Int} {ks : List Tm} (h : Tm.smallL ks) (hl : ks.length ≤ 4294967296) : (Y2 k ks).small := A0t.2 ⟨by decide, A2M, A2M, hl, h⟩
theorem A6K (k : Int) (ks : List Tm) : D6 (Y2 k ks) = E9 ks + 1 := by rw [Y2, Z4]
theorem B4D {a : Tm} (h : a.small) : Tm.smallL [a] := by simp [Tm.smallL, h]
theorem B4E {a b : Tm} (h : a.small) (h2 : b.small) : Tm.smallL [a, b] := by simp [Tm.smallL, h, h2]
theorem A9V : D6 I3 = 1 := by simp [I3, D6, E9]
theorem B4F (t : Tm) : D6 t = E9 t.ks + 1 := by cases t; rw [Z4]; rfl
theorem B4G {k : Int} {ty fr : Ty} {lb : Int} {ks : List Tm} (hk : Tm.smallL ks) (hc : E9 ks ≤ 199) (ht : ty.small) (hf : fr.small) : (N1 k ty fr lb ks).1.small ∧ D6 (N1 k ty fr lb ks).1 ≤ 40100 := by
 have a0 := A2c hk 0
 have a1 := A2c hk 1
 have a2 := A2c hk 2
 have n0 := A5f (ks := ks) 0
 have n1 := A5f (ks := ks) 1
 have n2 := A5f (ks := ks) 2
 obtain ⟨_, b2, b3, _, b5⟩ := B4C a0
 have e0 := B4F (kd ks 0)
 have m := fun i => A5f (ks := (kd ks 0).ks) i
 have st : Q2.1.small ∧ D6 Q2.1 ≤ 40100 := ⟨A4a, by simp [Q2, I3, D6, E9]⟩
 have hty := fun i => A9T (A9U b2) i
 have hfr := fun i => A9T (A9U b3) i
 unfold N1
 split
 ·split
  ·obtain ⟨s1, s2⟩ := A9L (x := (kd ks 0).nm) a1 (kd (kd ks 0).ks 0) (A2c b5 0)
   refine ⟨s1, Nat.le_trans s2 ?_⟩
   have : D6 (kd (kd ks 0).ks 0) * D6 (kd ks 1) ≤ 200 * 200 := Nat.mul_le_mul (by have := m 0; omega) (by omega)
   omega
  ·split
   ·refine ⟨A2P (A6J (B4E (A2c b5 0) (A2P a1 (hty 0) (hfr 0))) (by simp)) (hfr 1) (hty 1), ?_⟩
    have := m 0
    show D6 (K7 _ _ _ _) ≤ 40100
    rw [A2e, A6K, E9, E9, E9, A2e]
    omega
   ·exact st
 ·split
  ·split
   ·split
    ·exact ⟨A0t.2 ⟨by decide, A2M, A2M, by simp, by simp [Tm.smallL]⟩, by simp [A2a, D6, E9]⟩
    ·exact ⟨A6J (by simp [Tm.smallL]) (by simp), by simp [Y3, A6K, E9]⟩
   ·exact st
  ·split
   ·split
    ·exact ⟨a1, by show D6 (kd ks 1) ≤ _; omega⟩
    ·split
     ·exact ⟨a2, by show D6 (kd ks 2) ≤ _; omega⟩
     ·exact st
   ·split
    ·split
     ·exact ⟨A2c b5 _, by have := m (k - 11).toNat; show D6 (kd _ _) ≤ _; omega⟩
     ·split
      ·refine ⟨A2P (A6J (B4D (A2c b5 0)) (by simp)) (hfr _) (hty _), ?_⟩
       have := m 0
       show D6 (K7 _ _ _ _) ≤ 40100
       rw [A2e, A6K, E9, E9]
       omega
      ·exact st
    ·split
     ·split
      ·exact ⟨a0, by show D6 (kd ks 0) ≤ _; omega⟩
      ·split
       ·refine ⟨A2P (A2P a0 hf (A3p fr)) (A3p fr) ht, ?_⟩
        show D6 (K7 _ _ _ _) ≤ 40100
        rw [A2e, A2e]; omega
       ·split
        ·refine ⟨A2P (A2P a0 hf (A3p ty)) (A3p ty) ht, ?_⟩
         show D6 (K7 _ _ _ _) ≤ 40100
         rw [A2e, A2e]; omega
        ·split
         ·exact st
         ·split
          ·exact ⟨A2c b5 0, by have := m 0; show D6 (kd _ _) ≤ _; omega⟩
          ·exact ⟨A4a, by simp [I3, D6, E9]⟩
     ·exact st
theorem B4H (ks : List Tm) (ih : ∀ t ∈ ks, t.small → D6 t ≤ 200 → (H0 t).1.small ∧ D6 (H0 t).1 ≤ D6 t + 40100) : ∀ (n : Nat), Tm.smallL ks → E9 ks ≤ 199 → ∀ us c l, V2 n ks = some (us, c, l) → Tm.smallL us ∧ us.length = ks.length ∧ E9 us ≤ E9 ks + 40100 := by
 induction ks with
 | nil => intro n _ _ us c l h; simp [V2] at h
 | cons t ts ihl =>
  intro n hs hc us c l h
  simp only [Tm.smallL] at hs
  simp only [E9] at hc ⊢
  cases n with
  | zero => simp [V2] at h
  | succ n =>
   rw [V2] at h
   split at h
   ·split at h
    ·rename_i us' c' l' hs'
     cases h
     obtain ⟨l1, l2, l3⟩ := ihl (fun u hu => ih u (List.mem_cons_of_mem _ hu)) n hs.2 (by omega) us' c l hs'
     exact ⟨by simp only [Tm.smallL]; exact ⟨hs.1, l1⟩, by simp [l2], by simp only [E9]; omega⟩
    ·cases h
   ·cases h
    obtain ⟨s1, s2⟩ := ih t List.mem_cons_self hs.1 (by omega)
    exact ⟨by simp only [Tm.smallL]; exact ⟨s1, hs.2⟩, by simp, by simp only [E9]; omega⟩
theorem B4I : ∀ (t : Tm), t.small → D6 t ≤ 200 → (H0 t).1.small ∧ D6 (H0 t).1 ≤ D6 t + 40100 := by
 refine Tm.ind fun k nm num ty fr lb ks ih h hc => ?_
 obtain ⟨h1, h2, h3, h4, h5⟩ := A0t.1 h
 rw [Z4] at hc
 have hL := B4H ks ih (if k = 9 then 1 else ks.length) h5 (by omega)
 rw [H0]
 split
 ·rename_i us c l hs
  obtain ⟨l1, l2, l3⟩ := hL us c l hs
  split
  ·refine ⟨A0t.2 ⟨h1, h2, h3, by omega, l1⟩, ?_⟩
   show D6 (.mk k nm num ty fr lb us) ≤ _
   rw [Z4, Z4]; omega
  ·exact ⟨A4a, by show D6 I3 ≤ _; rw [A9V]; omega⟩
 ·have := B4G (k := k) (lb := lb) h5 (by omega) h2 h3
  rw [Z4]
  exact ⟨this.1, by omega⟩
def A6L (u : Ty) (G : IM) : IM → Value → List A7 → Prop := M3 fun G' v => ∃ cells, v = .agg ⟨cells⟩ ∧ C1 G' u cells
def Y4 (r : Option Ty) (G : IM) : IM → Value → List A7 → Prop := M3 fun G' v => ∃ cells u, v = .tuple ⟨[.agg ⟨cells⟩, .bool r.isSome]⟩ ∧ C1 G' u cells ∧ ∀ t, r = some t → u = t
theorem B4J {G : IM} {k : Int} {a b : Ty} {ca cb : List Value} {p : Option Addr} {c : Nat} (hk : H1 k) (ha : C1 G a ca) (hb : C1 G b cb) (hs : Sl G p 2 c 2 (ca ++ cb)) : C1 G (.mk k [a, b]) [.int .i64 k, .slice p 2 c] := by
 have hL : D5 G [a, b] [ca, cb] := by simp only [D5]; exact ⟨ca, [cb], rfl, ha, cb, [], rfl, hb, rfl⟩
 exact D5.ty (ts := [a, b]) (es := [ca, cb]) hL rfl (by simpa using hs) hk
theorem A9W {Q : Prop} (h : Q := by exact ⟨rfl, by rw [A3f, hA]; first | (rw [decide_eq_true (p := k = k') (by omega)]; rfl) | (rw [decide_eq_false (p := k = k') (by omega)]; rfl), rfl⟩) : Q := h
theorem A6M : ∀ (t t' : Ty) (G : IM) (cells cells' : List Value), C1 G t cells → C1 G t' cells' → Fn Tryz.prog 13 [.agg ⟨cells⟩, .agg ⟨cells'⟩] [] G (H5 (.bool (M5 t t')) G) := by
 refine Ty.ind fun k ks ih t' G cells cells' hr hr' => ?_
 obtain ⟨k', ks'⟩ := t'
 obtain ⟨p, c, es, rfl, hk, hsl, hkl⟩ := hr.open
 obtain ⟨p', c', es', rfl, hk', hsl', hkl'⟩ := hr'.open
 simp only [Ty.k, Ty.ks] at hk hsl hkl hk' hsl' hkl' ⊢
 obtain ⟨A, hA⟩ : ∃ A, A0i ks ks' = A := ⟨_, rfl⟩
 have hA' : A = true ↔ ks.length = ks'.length ∧ ∀ i, i < ks.length → M5 (ks.getD i B4) (ks'.getD i B4) = true := by
  rw [← hA, A32]
  constructor
  ·rintro ⟨h1, h2⟩
   refine ⟨h1, fun i hi => ?_⟩
   have := h2 i hi (by omega)
   simpa [List.getD_eq_getElem?_getD, List.getElem?_eq_getElem hi, List.getElem?_eq_getElem (show i < ks'.length by omega)] using this
  ·rintro ⟨h1, h2⟩
   refine ⟨h1, fun i hi hi' => ?_⟩
   have := h2 i hi
   simpa [List.getD_eq_getElem?_getD, List.getElem?_eq_getElem hi, List.getElem?_eq_getElem hi'] using this
 refine C2 Tryz.func13 rfl Tryz.ntmps13 Tryz.results13 rfl ?_
 intro w0
 refine A5 ?_
 refine sE (C7 rfl rfl) rfl (fun b3 => ?_)
 refine sE (C7 rfl rfl) rfl (fun b4 => ?_)
 refine E1 ?_
 refine sB (qE rfl rfl) rfl rfl (fun h14 => ?_) (fun h14 => ?_)
 refine B2 ?_
 refine H9 rfl (A6k _ _ _ _ _ _ _ _ _ hsl hsl' _ [] [] [] (fun i => M5 (ks.getD i B4) (ks'.getD i B4)) A hA' (fun i e e' he he' => ih _ (hkl.inv he B4).1 _ _ _ _ (hkl.inv he B4).2 (hkl'.inv he' B4).2)) rfl rfl ?_
 refine B0 ?_
 exact A9W
 refine N5 ?_
 exact A9W
theorem A2f (k : Int) (a b : Ty) (G : IM) (ca cb : List Value) (hk : H1 k) (hra : C1 G a ca) (hrb : C1 G b cb) :
  Fn Tryz.prog 106 [.int .i64 k, .agg ⟨ca⟩, .agg ⟨cb⟩] [] G (A6L (.mk k [a, b]) G) := by
 obtain ⟨pa, cca, ea, rfl, _⟩ := hra.open
 obtain ⟨pb, ccb, eb, rfl, _⟩ := hrb.open
 refine C2 Tryz.func106 rfl Tryz.ntmps106 Tryz.results106 rfl ?_
 intro w0
 refine A5 ?_
 refine sE (C7 rfl rfl) rfl (fun b3 => ?_)
 refine sE (C7 rfl rfl) rfl (fun b4 => ?_)
 refine sE (A8 rfl) rfl (fun b5 => ?_)
 refine B5 ?_
 (refine J5 (D2 rfl rfl rfl (by omega) (by unfold maxLen; omega) rfl) rfl ?_; rintro _ ⟨b13, rfl⟩)
 refine B7 ?_
 (refine H3 (by repeat (first | exact Pk.here | apply Pk.there)) (fun G5 hle5 hsl5 hno5 => ?_))
 refine tT ?_
 refine N4 (rC rfl (A6 rfl rfl)) ?_
 exact ⟨rfl, _, rfl, B4J hk (hra.mono hle5) (hrb.mono hle5) hsl5⟩
theorem A1d (k tk : Int) (ks : List Ty) : R6 k (.mk tk ks) = if tk = k then some (ks.getD 0 B4, ks.getD 1 B4) else if tk = 1 then some (Q5, Q5) else none := rfl
def A9X (k : Int) (t : Ty) (G : IM) : IM → Value → List A7 → Prop := M3 fun G' v => ∃ a ca b cb, v = .tuple ⟨[.agg ⟨ca⟩, .agg ⟨cb⟩, .bool (R6 k t).isSome]⟩ ∧ C1 G' a ca ∧ C1 G' b cb ∧ F8 a ∧ F8 b ∧ ∀ p, R6 k t = some p → p = (a, b)
theorem A9Y (k : Int) (t : Ty) (G : IM) (cells : List Value) (hk : k = 4 ∨ k = 5) (ha : F8 t) (hr : C1 G t cells) :
  Fn Tryz.prog 107 [.agg ⟨cells⟩, .int .i64 k] [] G (A9X k t G) := by
 obtain ⟨tk, ks⟩ := t
 have ha2 := ha
 rw [F8] at ha2
 have hkid := ha.kid
 obtain ⟨p, c, es, rfl, htk, hsl, hkl⟩ := hr.open
 simp only [Ty.k, Ty.ks] at htk hsl hkl ⊢
 refine C2 Tryz.func107 rfl Tryz.ntmps107 Tryz.results107 rfl ?_
 intro w0
 refine A5 ?_
 refine sE (C7 rfl rfl) rfl (fun b3 => ?_)
 refine sE (A8 rfl) rfl (fun b4 => ?_)
 refine sE (A8 rfl) rfl (fun b5 => ?_)
 refine J0 ?_
 refine C3 (tS (tR (sQ (qM rfl) rfl (sB (qE rfl rfl) rfl rfl (fun h20 => ?_) (fun h20 => ?_)))))
 refine B2 ?_
 (have hlen : ks.length = 2 := ha2.1 (by omega); obtain ⟨b, o, q0, d0, hp0, hat0, hre0, hg0⟩ := hsl.kidTy hkl (i := 0) (by omega) (by omega); obtain ⟨b', o', q1, d1, hp1, hat1, hre1, hg1⟩ := hsl.kidTy hkl (i := 1) (by omega) (by omega); subst hp0; cases hp1; refine D8 D9 rfl ?_)
 refine I6 (i := 0) (l' := [tt,ff,ff,ff,ff,ff,ff,ff,ff,ff,ff]) rfl D3 (B8 rfl) rfl (by kernel_rfl) rfl rfl ?_
 refine aL 1 rfl (C4 rfl rfl) rfl ?_
 refine aP 2 rfl (B6 (j := 0) rfl rfl rfl (by omega)) rfl ?_
 refine aL 3 rfl (A3 rfl rfl (hat0 _) rfl) rfl ?_
 refine aP 4 rfl (B8 rfl) rfl ?_
 refine aL 5 rfl (C4 rfl rfl) rfl ?_
 refine aP 6 rfl (B6 (j := 1) rfl rfl rfl (by omega)) rfl ?_
 refine aL 7 rfl (A3 rfl rfl (hat1 _) rfl) rfl ?_
 refine A4 8 ?_
 refine H8 rfl ?_
 refine A4 9 ?_
 refine H8 rfl ?_
 refine aP 10 rfl (qA rfl) rfl ?_
 refine B2 ?_
 refine D1 (rC rfl (A6 rfl rfl)) (rC rfl (A6 rfl rfl)) (rT rfl) ?_
 (refine ⟨rfl, _, _, _, _, ?_, hre0, hre1, hkid _ (List.getElem_mem (by omega)), hkid _ (List.getElem_mem (by omega)), ?_⟩ <;> rw [A1d, if_pos (by omega)] <;> first | rfl | (intro p hp; cases hp; simp [hlen]))
 refine B0 ?_
 refine sB (qE rfl rfl) rfl rfl (fun h53 => ?_) (fun h53 => ?_)
 refine B0 ?_
 refine H9 rfl ((A1L _ _)) rfl rfl ?_
 refine H9 rfl ((A1L _ _)) rfl rfl ?_
 refine D0 ?_
 refine D1 (rC rfl (A6 rfl rfl)) (rC rfl (A6 rfl rfl)) (rT rfl) ?_
 (refine ⟨rfl, _, _, _, _, ?_, A0M _, A0M _, A30, A30, ?_⟩ <;> rw [A1d, if_neg (by omega), if_pos (by omega)] <;> first | rfl | (intro p hp; cases hp; rfl))
 refine U5 ?_
 refine D1 (rC rfl (A6 rfl rfl)) (rC rfl (A6 rfl rfl)) (rT rfl) ?_
 (refine ⟨rfl, B4, _, B4, _, ?_, O3 _ ⟨by omega, by omega⟩, O3 _ ⟨by omega, by omega⟩, X0 (by omega) (by omega), X0 (by omega) (by omega), ?_⟩ <;> rw [A1d, if_neg (by omega), if_neg (by omega)] <;> first | rfl | (intro p hp; cases hp))
def A3q (G : IM) (b : ByteArray × Ty) (e : List Value) : Prop := ∃ q d, e = [.string b.1, .int .i64 b.2.k, .slice q b.2.ks.length d] ∧ C1 G b.2 [.int .i64 b.2.k, .slice q b.2.ks.length d]
theorem A3q.mono {G G' : IM} {b : ByteArray × Ty} {e : List Value} (h : A3q G b e) (hg : C6 G G') : A3q G' b e := by
 obtain ⟨q, d, h1, h2⟩ := h
 exact ⟨q, d, h1, h2.mono hg⟩
def T4 (G : IM) (cx : Cx) (p : Option Addr) (n c : Nat) : Prop := n = cx.length ∧ ∃ es : List (List Value), E0 G p n c 3 es ∧ ∀ (i : Nat) (b : ByteArray × Ty), cx[i]? = some b → ∃ e, es[i]? = some e ∧ A3q G b e
theorem T4.mono {G G' : IM} {cx : Cx} {p : Option Addr} {n c : Nat} (h : T4 G cx p n c) (hg : C6 G G') : T4 G' cx p n c := by
 obtain ⟨h1, es, h2, h3⟩ := h
 refine ⟨h1, es, h2.mono hg, fun i b hb => ?_⟩
 obtain ⟨e, he, hr⟩ := h3 i b hb
 exact ⟨e, he, hr.mono hg⟩
theorem T4.nil (G : IM) : T4 G [] none 0 0 := ⟨rfl, [], E0.nil _ _, by simp⟩
theorem T4.le {G : IM} {cx : Cx} {p : Option Addr} {n c : Nat} (h : T4 G cx p n c) : n ≤ 9223372036854775807 := by
 obtain ⟨h1, es, h2, h3⟩ := h
 exact h2.le
theorem T4.get {G : IM} {cx : Cx} {p : Option Addr} {n c : Nat} (h : T4 G cx p n c) {i : Nat} (hi : i < n) :
  ∃ b o nm t q d, cx[i]? = some (nm, t) ∧ p = some ⟨b, o, none⟩ ∧ (∀ hp, At hp G b (o + i * 3) [.string nm, .int .i64 t.k, .slice q t.ks.length d]) ∧ C1 G t [.int .i64 t.k, .slice q t.ks.length d] ∧ G b ≠ none := by
 obtain ⟨h1, es, h2, h3⟩ := h
 obtain ⟨e, b, o, he, rfl, hl, _, hat, hgb⟩ := h2.get (i := i) (by omega)
 have hx : cx[i]? = some cx[i] := List.getElem?_eq_getElem (by omega)
 obtain ⟨e', he', q, d, h4, h5⟩ := h3 i _ hx
 rw [he] at he'
 obtain rfl := Option.some.inj he'
 rw [h4] at hat
 exact ⟨b, o, cx[i].1, cx[i].2, q, d, hx, rfl, hat, h5, hgb⟩
theorem B4K (G : IM) (cx : Cx) (p : Option Addr) (n c : Nat) (nm : ByteArray) (hx : T4 G cx p n c) :
  Fn Tryz.prog 105 [.slice p n c, .string nm] [] G (Y4 (P4 cx nm) G) := by
 have hn := hx.le
 have hn1 := hx.1
 refine C2 Tryz.func105 rfl Tryz.ntmps105 Tryz.results105 rfl ?_
 intro w0
 refine A5 ?_
 refine sE (A8 rfl) rfl (fun b3 => ?_)
 refine D0 ?_
 refine sP (P3 rfl rfl (by omega) (by omega)) rfl rfl ?_
 refine B9 ?_
 refine C3 ?_
 (refine K2 (fun (i : Nat) => ⟨[(6, .int .i64 ((i : Int) - 1)), (0, .slice p n c), (1, .string nm), (4, .pointer (some ⟨b3, 0, none⟩))], [.blk b3 [.int .i64 0, .slice none 0 0]], G⟩) (fun i => i ≤ n ∧ V8 cx nm i = P4 cx nm) (fun i => i) n ?_ ?_ ?_)
 exact E2
 exact ⟨Nat.le_refl _, by rw [hn1]; rfl⟩
 (rintro i ⟨hi, hlk⟩)
 refine B7 ?_
 refine sB (A0S rfl rfl) rfl rfl (fun h25 => ?_) (fun h25 => ?_)
 refine B0 ?_
 (show J2 _ _ (.block 1 _) _ _; obtain ⟨j, rfl⟩ : ∃ j, i = j + 1 := ⟨i - 1, by omega⟩; rw [show ((j + 1 : Nat) : Int) - 1 = (j : Int) from by omega]; obtain ⟨b, o, nm1, t1, q1, d1, hcx, rfl, hat, hr1, hgb⟩ := hx.get (i := j) (by omega); refine C3 ?_)
 refine B7 ?_
 refine sP (B6 rfl rfl rfl (by omega)) rfl rfl ?_
 refine F0 ?_
 refine sL (A0E rfl rfl ((hat _).sub (j := 0) rfl)) rfl rfl ?_
 refine F0 ?_
 refine sB (A0F rfl rfl) rfl rfl (fun h41 => ?_) (fun h41 => ?_)
 refine B5 ?_
 refine sP (B6 rfl rfl rfl (by omega)) rfl rfl ?_
 refine F0 ?_
 refine sL (A3 rfl rfl (hat _).drop rfl) rfl rfl ?_
 refine J0 ?_
 refine I5 (rC rfl (A6 rfl rfl)) (rT rfl) ?_
 (rw [A33 hcx (by assumption)] at hlk; rw [← hlk]; exact ⟨rfl, _, _, rfl, hr1, fun t ht => by cases ht; rfl⟩)
 refine D0 ?_
 refine sP (P3 rfl rfl (by omega) (by omega)) rfl rfl ?_
 refine A5 ?_
 refine K3 j ?_ ?_ ?_
 exact E2
 (rw [A34 hcx (by assumption)] at hlk; exact ⟨by omega, hlk⟩)
 (show _ < _ + 1; omega)
 refine K4 ?_
 refine I5 (rC rfl (A6 rfl rfl)) (rT rfl) ?_
 (obtain rfl : i = 0 := (by omega); rw [V8] at hlk; rw [← hlk]; exact ⟨rfl, _, B4, rfl, O3 _ ⟨by omega, by omega⟩, fun t ht => by cases ht⟩)
theorem B4L {xs ys : List Ty} (h : xs.length = 2) (h' : ys.length = 2) : T2 xs ys = [U8 (xs[0]'(by omega)) (ys[0]'(by omega)), U8 (xs[1]'(by omega)) (ys[1]'(by omega))] := by
 match xs, ys, h, h' with
 | [a, b], [c, d], _, _ => rfl
theorem B4M {k k' : Int} {ks bs : List Ty} (h : K5 (.mk k ks) (.mk k' bs) = true) (hk : k ≠ 1) (hk' : k' ≠ 1) : k = k' ∧ N8 ks bs = true := by
 rw [U6] at h
 simpa [hk, hk'] using h
theorem A9Z : ∀ (a b : Ty) (G : IM) (ca cb : List Value), K5 a b = true → F8 a → F8 b → C1 G a ca → C1 G b cb →
  Fn Tryz.prog 109 [.agg ⟨ca⟩, .agg ⟨cb⟩] [] G (A6L (U8 a b) G) := by
 refine Ty.ind fun k ks ih b G ca cb hc haa hab hra hrb => ?_
 have hsa := haa.small
 have hsb := hab.small
 obtain ⟨bk, bks⟩ := b
 have hra0 := hra
 have hrb0 := hrb
 have ha2 := haa
 have hb2 := hab
 rw [F8] at ha2 hb2
 have hkida := haa.kid
 have hkidb := hab.kid
 obtain ⟨p, c, es, rfl, hk, hsl, hkl⟩ := hra.open
 obtain ⟨p', c', es', rfl, hk', hsl', hkl'⟩ := hrb.open
 simp only [Ty.k, Ty.ks] at hk hsl hkl hk' hsl' hkl' ⊢
 have hn := hsl.le
 rw [A1a]
 refine C2 Tryz.func109 rfl Tryz.ntmps109 Tryz.results109 rfl ?_
 intro w0
 refine A5 ?_
 refine sE (C7 rfl rfl) rfl (fun b3 => ?_)
 refine sE (C7 rfl rfl) rfl (fun b4 => ?_)
 refine sE (A8 rfl) rfl (fun b5 => ?_)
 refine B9 ?_
 refine C3 ?_
 refine B7 ?_
 refine sB (qE rfl rfl) rfl rfl (fun h14 => ?_) (fun h14 => ?_)
 refine B5 ?_
 (refine E5 rfl (A2F _ _ _ hsb hrb0) rfl rfl (fun v G1 hle1 hh => ?_); obtain ⟨cs1, F1, rfl, hs1, hn1⟩ := hh; obtain ⟨p1, c1, rfl, _⟩ := hs1.open; have hr1 := hs1.R.mono (C9.le G1 _))
 refine B0 ?_
 refine N4 (rC rfl (A6 rfl rfl)) ?_
 (rw [if_pos (by omega)]; exact ⟨rfl, _, rfl, hr1⟩)
 refine D0 ?_
 refine sB (qE rfl rfl) rfl rfl (fun h39 => ?_) (fun h39 => ?_)
 refine J4 ?_
 (refine E5 rfl (A2F _ _ _ hsa hra0) rfl rfl (fun v G1 hle1 hh => ?_); obtain ⟨cs1, F1, rfl, hs1, hn1⟩ := hh; obtain ⟨p1, c1, rfl, _⟩ := hs1.open; have hr1 := hs1.R.mono (C9.le G1 _))
 refine B0 ?_
 refine N4 (rC rfl (A6 rfl rfl)) ?_
 (rw [if_neg (by omega)]; split <;> first | exact ⟨rfl, _, rfl, hr1⟩ | (obtain rfl : ks = [] := List.length_eq_zero_iff.1 (by omega); rw [T2]; exact ⟨rfl, _, rfl, hr1⟩; simp))
 refine B7 ?_
 refine sB (qE rfl rfl) rfl rfl (fun h66 => ?_) (fun h66 => ?_)
 refine D0 ?_
 (refine E5 rfl (A2F _ _ _ hsa hra0) rfl rfl (fun v G1 hle1 hh => ?_); obtain ⟨cs1, F1, rfl, hs1, hn1⟩ := hh; obtain ⟨p1, c1, rfl, _⟩ := hs1.open; have hr1 := hs1.R.mono (C9.le G1 _))
 refine B0 ?_
 refine N4 (rC rfl (A6 rfl rfl)) ?_
 (rw [if_neg (by omega)]; split <;> first | exact ⟨rfl, _, rfl, hr1⟩ | (obtain rfl : ks = [] := List.length_eq_zero_iff.1 (by omega); rw [T2]; exact ⟨rfl, _, rfl, hr1⟩; simp))
 refine E1 ?_
 (obtain ⟨hkk, hcl0⟩ := B4M hc (by omega) (by omega); subst hkk; have hcl := (A2z _ _).1 hcl0; have hlen : ks.length = 2 := (by have := ha2.2.1; have := ha2.1; omega); have hlen' : bks.length = 2 := (by omega); obtain ⟨b0, o0, q0, d0, hp0, hat0, hre0, hg0⟩ := hsl.kidTy hkl (i := 0) (by omega) (by omega); obtain ⟨b1, o1, q1, d1, hp1, hat1, hre1, hg1⟩ := hsl.kidTy hkl (i := 1) (by omega) (by omega); subst hp0; cases hp1; obtain ⟨b2, o2, q2, d2, hp2, hat2, hre2, hg2⟩ := hsl'.kidTy hkl' (i := 0) (by omega) (by omega); obtain ⟨b3, o3, q3, d3, hp3, hat3, hre3, hg3⟩ := hsl'.kidTy hkl' (i := 1) (by omega) (by omega); subst hp2; cases hp3; have hM1 := ih ks[0] (List.getElem_mem (by omega)) bks[0] G _ _ (hcl.2 0 (by omega) (by omega)) (hkida _ (List.getElem_mem (by omega))) (hkidb _ (List.getElem_mem (by omega))) hre0 hre2; refine D8 D9 rfl ?_)
 refine I6 (i := 0) (l' := [tt,ff,ff,ff,ff,ff,ff,ff,ff,ff,ff,ff,ff,ff,ff,ff,ff,ff,ff,ff,ff,ff]) rfl D3 (B8 rfl) rfl (by kernel_rfl) rfl rfl ?_
 refine aL 1 rfl (C4 rfl rfl) rfl ?_
 refine aP 2 rfl (B8 rfl) rfl ?_
 refine aL 3 rfl (C4 rfl rfl) rfl ?_
 refine aP 4 rfl (B6 (j := 0) rfl rfl rfl (by omega)) rfl ?_
 refine aL 5 rfl (A3 rfl rfl (hat0 _) rfl) rfl ?_
 refine aP 6 rfl (B8 rfl) rfl ?_
 refine aL 7 rfl (C4 rfl rfl) rfl ?_
 refine aP 8 rfl (B6 (j := 0) rfl rfl rfl (by omega)) rfl ?_
 refine aL 9 rfl (A3 rfl rfl (hat2 _) rfl) rfl ?_
 refine aP 11 rfl (B8 rfl) rfl ?_
 refine aL 12 rfl (C4 rfl rfl) rfl ?_
 refine aP 13 rfl (B6 (j := 1) rfl rfl rfl (by omega)) rfl ?_
 refine aL 14 rfl (A3 rfl rfl (hat1 _) rfl) rfl ?_
 refine aP 15 rfl (B8 rfl) rfl ?_
 refine aL 16 rfl (C4 rfl rfl) rfl ?_
 refine aP 17 rfl (B6 (j := 1) rfl rfl rfl (by omega)) rfl ?_
 refine aL 18 rfl (A3 rfl rfl (hat3 _) rfl) rfl ?_
 refine A4 10 ?_
 (refine H4 rfl rfl hM1 rfl rfl rfl (fun v G1 hle1 hh => ?_); obtain ⟨cm1, rfl, hm1⟩ := hh; have hM2 := ih ks[1] (List.getElem_mem (by omega)) bks[1] G1 _ _ (hcl.2 1 (by omega) (by omega)) (hkida _ (List.getElem_mem (by omega))) (hkidb _ (List.getElem_mem (by omega))) (hre1.mono hle1) (hre3.mono hle1))
 refine A4 19 ?_
 (refine H4 rfl rfl hM2 rfl rfl rfl (fun v G2 hle2 hh => ?_); obtain ⟨cm2, rfl, hm2⟩ := hh; have hB := A2f k _ _ G2 _ _ hk (hm1.mono hle2) hm2)
 refine A4 20 ?_
 (refine H4 rfl rfl hB rfl rfl rfl (fun v G3 hle3 hh => ?_); obtain ⟨cm3, rfl, hm3⟩ := hh; obtain ⟨p5, c5, e5, rfl, _⟩ := hm3.open)
 refine A4 21 ?_
 refine H8 rfl ?_
 refine B9 ?_
 refine N4 (rC rfl (A6 rfl rfl)) ?_
 (rw [if_neg (by omega), if_neg (by omega)]; rw [B4L hlen hlen']; exact ⟨rfl, _, rfl, hm3⟩)
theorem B4N (G : IM) (p : Option Addr) (n c : Nat) (es : List (List Value)) (h : E0 G p n c 9 es) (h0 : 0 < n) (hn : n ≤ 4294967296) :
  Fn Tryz.prog 142 [.slice p n c] [] G (fun G' v outs => G' = G ∧ ∃ p' c', v = .slice p' n c' ∧ outs = [.slc p' c' 28 9 n es.flatten]) := by
 obtain ⟨hl, hc, hm, hat⟩ := h.sl
 obtain ⟨b, o, full, rfl, hg, hv⟩ := hat.resolve_left (by omega)
 have ho : ∀ u ∈ es.flatten, u.oneCell' = true := by
  intro u hu
  obtain ⟨e, he, hue⟩ := List.mem_flatten.1 hu
  exact List.all_eq_true.1 (h.one e he) u hue
 refine C2 Tryz.func142 rfl Tryz.ntmps142 Tryz.results142 rfl ?_
 intro w0
 refine E1 ?_
 refine sQ (A7Z rfl rfl rfl) rfl ?_
 refine B5 ?_
 (refine J5 (D2 rfl rfl rfl (by omega) (by unfold maxLen; omega) rfl) rfl ?_; rintro _ ⟨b18, rfl⟩)
 refine F0 ?_
 refine A1h rfl rfl rfl rfl rfl (fun _ _ => by repeat (first | exact Sw.here | apply Sw.there)) (A4J hg hv) hl ho (by unfold maxLen; omega) (by omega) rfl (fun pn cn => ?_)
 refine B7 ?_
 refine H7 (rT rfl) A0.refl ?_
 exact ⟨rfl, _, _, by rw [Nat.zero_add], by rw [Nat.zero_add]; rfl⟩
theorem At.mono' {hp : List A7} {G G' : IM} {b o : Nat} {vs : List Value} (hg : C6 G G') (h : At [] G b o vs) : At hp G' b o vs := by
 rcases h with ⟨cs, hm, hv⟩ | ⟨n, c, el, sz, cs, hm, hv⟩ | ⟨full, hx, hv⟩
 ·cases hm
 ·cases hm
 ·exact .inr (.inr ⟨full, hg _ _ hx, hv⟩)
theorem E0.kidD {G : IM} {p : Option Addr} {n c : Nat} {es : List (List Value)} {ks : List Ty} (h : E0 G p n c 2 es) (hk : D5 G ks es) {i : Nat} (hi : i < n) (hn : i < ks.length) :
  ∃ b o q d, p = some ⟨b, o, none⟩ ∧ (∀ hp, At hp G b (o + i * 2) [.int .i64 (ks.getD i B4).k, .slice q (ks.getD i B4).ks.length d]) ∧ C1 G (ks.getD i B4) [.int .i64 (ks.getD i B4).k, .slice q (ks.getD i B4).ks.length d] ∧ G b ≠ none := by
 obtain ⟨b, o, q, d, h1, h2, h3, h4⟩ := h.kidTy hk hi hn
 rw [List.getD_eq_getElem?_getD, List.getElem?_eq_getElem hn, Option.getD_some]
 exact ⟨b, o, q, d, h1, h2, h3, h4⟩
theorem A3r {hs : List Ty} (h : ∀ t ∈ hs, F8 t) {i : Nat} (hi : i < hs.length) : F8 (hs.getD i B4) := by
 rw [List.getD_eq_getElem?_getD, List.getElem?_eq_getElem hi, Option.getD_some]
 exact h _ (List.getElem_mem hi)
def L7 (r : Option (List Ty × Ty)) (G : IM) : IM → Value → List A7 → Prop := M3 fun G' v => ∃ p n c es w cu u, v = .tuple ⟨[.slice p n c, .agg ⟨cu⟩, .bool r.isSome]⟩ ∧ n = w.length ∧ E0 G' p n c 2 es ∧ D5 G' w es ∧ C1 G' u cu ∧ ∀ q, r = some q → q = (w, u)
theorem L7.mk {r : Option (List Ty × Ty)} {G G' : IM} {p : Option Addr} {n c : Nat} {es : List (List Value)} {w : List Ty} {cu : List Value} {u : Ty} {b : Bool} (hl : n = w.length) (hs : Sl G' p n c 2 es.flatten) (hw : D5 G' w es) (hu : C1 G' u cu) (h : r = if b = true then some (w, u) else none) :
  L7 r G G' (.tuple ⟨[.slice p n c, .agg ⟨cu⟩, .bool b]⟩) [] := by
 refine ⟨rfl, p, n, c, es, w, cu, u, ?_, hl, E0.of hs (by rw [hw.len, hl]) hw.all (fun e he => (hw.each e he).2), hw, hu, ?_⟩
 ·subst h; cases b <;> rfl
 ·subst h; cases b
  ·simp
  ·intro q hq; simpa using hq.symm
theorem L7.nil {r : Option (List Ty × Ty)} {G G' : IM} {cu : List Value} {u : Ty} {b : Bool} (hu : C1 G' u cu) (h : r = if b = true then some ([], u) else none) :
  L7 r G G' (.tuple ⟨[.slice none 0 0, .agg ⟨cu⟩, .bool b]⟩) [] := L7.mk (es := []) rfl (Sl.nil _ _) (by simp [D5]) hu h
theorem L7.one {r : Option (List Ty × Ty)} {G G' : IM} {p : Option Addr} {c : Nat} {a : Ty} {ca : List Value} {cu : List Value} {u : Ty} {b : Bool} (hs : Sl G' p 1 c 2 ca) (ha : C1 G' a ca) (hu : C1 G' u cu) (h : r = if b = true then some ([a], u) else none) :
  L7 r G G' (.tuple ⟨[.slice p 1 c, .agg ⟨cu⟩, .bool b]⟩) [] := L7.mk (es := [ca]) (w := [a]) rfl (by simpa using hs) ⟨_, _, rfl, ha, rfl⟩ hu h
theorem L7.two {r : Option (List Ty × Ty)} {G G' : IM} {p : Option Addr} {c : Nat} {a a2 : Ty} {ca ca2 : List Value} {cu : List Value} {u : Ty} {b : Bool} (hs : Sl G' p 2 c 2 (ca ++ ca2)) (ha : C1 G' a ca) (ha2 : C1 G' a2 ca2) (hu : C1 G' u cu) (h : r = if b = true then some ([a, a2], u) else none) :
  L7 r G G' (.tuple ⟨[.slice p 2 c, .agg ⟨cu⟩, .bool b]⟩) [] := L7.mk (es := [ca, ca2]) (w := [a, a2]) rfl (by simpa using hs) ⟨_, _, rfl, ha, _, _, rfl, ha2, rfl⟩ hu h
theorem L7.three {r : Option (List Ty × Ty)} {G G' : IM} {p : Option Addr} {c : Nat} {a a2 a3 : Ty} {ca ca2 ca3 : List Value} {cu : List Value} {u : Ty} {b : Bool} (hs : Sl G' p 3 c 2 (ca ++ (ca2 ++ ca3))) (ha : C1 G' a ca) (ha2 : C1 G' a2 ca2) (ha3 : C1 G' a3 ca3) (hu : C1 G' u cu) (h : r = if b = true then some ([a, a2, a3], u) else none) :
  L7 r G G' (.tuple ⟨[.slice p 3 c, .agg ⟨cu⟩, .bool b]⟩) [] := L7.mk (es := [ca, ca2, ca3]) (w := [a, a2, a3]) rfl (by simpa using hs) ⟨_, _, rfl, ha, _, _, rfl, ha2, _, _, rfl, ha3, rfl⟩ hu h
section
variable {cx : Cx} {nm : ByteArray} {ty : Ty} {h : List Ty}
theorem mW1 : J7 cx 1 nm ty h = match P4 cx nm with | some t => some ([], t) | none => none := rfl
theorem mW2 : J7 cx 2 nm ty h = some ([], P9) := rfl
theorem A4b {k : Int} (hk : k = 3 ∨ k = 4) : J7 cx k nm ty h = some ([], U4) := by rcases hk with rfl | rfl <;> rfl
theorem mW5 : J7 cx 5 nm ty h = some ([], .mk 4 [ty, h.getD 0 B4]) := rfl
theorem mW6 : J7 cx 6 nm ty h = match R6 4 (h.getD 0 B4) with | some (a, b) => if K5 (h.getD 1 B4) a = true then some ([.mk 4 [a, b], a], b) else none | none => none := rfl
theorem W5 {k : Int} (hk : k = 7 ∨ k = 8) : J7 cx k nm ty h = if K5 (h.getD 0 B4) P9 = true ∧ K5 (h.getD 1 B4) P9 = true then some ([P9, P9], if k = 8 then U4 else P9) else none := by rcases hk with rfl | rfl <;> rfl
theorem mW9 : J7 cx 9 nm ty h = if K5 (h.getD 0 B4) U4 = true ∧ K5 (h.getD 1 B4) (h.getD 2 B4) = true then some ([U4, U8 (h.getD 1 B4) (h.getD 2 B4), U8 (h.getD 1 B4) (h.getD 2 B4)], U8 (h.getD 1 B4) (h.getD 2 B4)) else none := rfl
theorem A5i : J7 cx 10 nm ty h = some ([], .mk 5 [h.getD 0 B4, h.getD 1 B4]) := rfl
theorem A2Q : J7 cx 13 nm ty h = if K5 (h.getD 0 B4) ty = true then some ([ty], ty) else none := rfl
theorem A3s {k : Int} (hk : k = 11 ∨ k = 12) : J7 cx k nm ty h = match R6 5 (h.getD 0 B4) with | some (a, b) => some ([.mk 5 [a, b]], if k = 12 then b else a) | none => none := by rcases hk with rfl | rfl <;> rfl
end
theorem K8 (G : IM) : C1 G P9 [.int .i64 2, .slice none 0 0] := O3 G ⟨by omega, by omega⟩
theorem A0u (G : IM) : C1 G U4 [.int .i64 3, .slice none 0 0] := O3 G ⟨by omega, by omega⟩
theorem A90 {Q : Prop} (h : Q := by (have hk1 : k = 9 := (by omega); subst hk1; exact L7.three hsl5 (A0u _) (hrM.mono hle5) (hrM.mono hle5) (hrM.mono hle5) (by rw [mW9, if_pos ⟨by assumption, by assumption⟩]; rfl))) : Q := h
theorem A91 {Q : Prop} (h : Q := by (have hk1 : k = 9 := (by omega); subst hk1; exact L7.nil (u := B4) (O3 _ ⟨by omega, by omega⟩) (by rw [mW9, if_neg (fun hc => by first | exact Bool.noConfusion (hc.1.symm.trans (by assumption)) | exact Bool.noConfusion (hc.2.symm.trans (by assumption)) | exact Bool.noConfusion (hc.symm.trans (by assumption)))]; rfl))) : Q := h
theorem B4O (cx : Cx) (k : Int) (nm : ByteArray) (num : Int) (ty fr : Ty) (lb : Int) (ks : List Tm) (h : List Ty) (G : IM) (pc : Option Addr) (nc cc : Nat) (cells : List Value) (p : Option Addr) (n c : Nat) (es : List (List Value))
  (hx : T4 G cx pc nc cc) (hops : D7 k = n) (hnl : n = h.length) (hk14 : k ≠ 14) (hta : F8 ty) (hr : B3 G (.mk k nm num ty fr lb ks) cells) (hsl : E0 G p n c 2 es) (hkl : D5 G h es) (har : ∀ t ∈ h, F8 t) :
  Fn Tryz.prog 67 [.slice pc nc cc, .agg ⟨cells⟩, .slice p n c] [] G (L7 (J7 cx k nm ty h) G) := by
 have hone := hr.one
 have hop := A3l hops
 have hkr : 1 ≤ k ∧ k ≤ 14 := by
  apply Classical.byContradiction
  intro hc
  rw [A4V hc] at hops; omega
 obtain ⟨tyk, tyks⟩ := ty
 obtain ⟨fk, fks⟩ := fr
 obtain ⟨pt, ct, pf, cf, pk, ck, ek, rfl, hk, hnum, hlb, hrty, hrfr, _, _⟩ := hr.open9
 refine C2 Tryz.func67 rfl Tryz.ntmps67 Tryz.results67 rfl ?_
 intro w0
 refine A5 ?_
 refine sE (C7 rfl rfl) rfl (fun b3 => ?_)
 refine F0 ?_
 refine sE (A8 rfl) rfl (fun b5 => ?_)
 refine B2 ?_
 refine H9 rfl ((A1L _ _)) rfl rfl ?_
 refine H9 rfl ((A1L _ _)) rfl rfl ?_
 refine sE (A8 rfl) rfl (fun b13 => ?_)
 refine sE (A8 rfl) rfl (fun b14 => ?_)
 refine I8 ?_
 refine C3 (tS (tR (sB (qE rfl rfl) rfl rfl (fun h29 => ?_) (fun h29 => ?_))))
 refine E1 ?_
 (refine E5 rfl (B4K G cx pc nc cc nm hx) rfl rfl (fun v G1 hle1 hh => ?_); obtain ⟨cu, u, rfl, hru, hu⟩ := hh; obtain ⟨p1, c1, e1, rfl, _⟩ := hru.open)
 refine B9 ?_
 refine sE (A8 rfl) rfl (fun b43 => ?_)
 refine B2 ?_
 refine D8 D9 rfl ?_
 refine L3 (i := 0) (l' := [tt,ff,ff,ff,ff]) rfl D3 (A6 rfl rfl) rfl (by kernel_rfl) rfl rfl ?_
 refine aP 1 rfl (qM rfl) rfl ?_
 refine aP 2 rfl (qA rfl) rfl ?_
 refine A4 3 ?_
 refine H8 rfl ?_
 refine aP 4 rfl (qA rfl) rfl ?_
 refine B2 ?_
 refine D1 (rT rfl) (rC rfl (A6 rfl rfl)) (rT rfl) ?_
 (have hk1 : k = 1 := (by omega); subst hk1; rw [mW1]; refine L7.nil hru ?_; generalize P4 cx nm = r at hu ⊢; cases r with | none => rfl | some t => (rw [hu t rfl]; rfl))
 refine B0 ?_
 refine sB (qE rfl rfl) rfl rfl (fun h69 => ?_) (fun h69 => ?_)
 refine B2 ?_
 refine D8 D9 rfl ?_
 refine L3 (i := 0) (l' := [tt,ff,ff,ff]) rfl D3 (A6 rfl rfl) rfl (by kernel_rfl) rfl rfl ?_
 refine aP 1 rfl (qA rfl) rfl ?_
 refine A4 2 ?_
 refine H8 rfl ?_
 refine aP 3 rfl (qA rfl) rfl ?_
 refine B2 ?_
 refine D1 (rT rfl) (rC rfl (A6 rfl rfl)) (rT rfl) ?_
 (have hk1 : k = 2 := (by omega); subst hk1; exact L7.nil (K8 _) mW2)
 refine B5 ?_
 refine sB (qE rfl rfl) rfl rfl (fun h95 => ?_) (fun h95 => ?_)
 refine D0 ?_
 refine D8 D9 rfl ?_
 refine L3 (i := 0) (l' := [tt,ff,ff,ff]) rfl D3 (A6 rfl rfl) rfl (by kernel_rfl) rfl rfl ?_
 refine aP 1 rfl (qA rfl) rfl ?_
 refine A4 2 ?_
 refine H8 rfl ?_
 refine aP 3 rfl (qA rfl) rfl ?_
 refine B2 ?_
 refine D1 (rT rfl) (rC rfl (A6 rfl rfl)) (rT rfl) ?_
 (exact L7.nil (A0u _) (by rw [A4b (by omega)]; rfl))
 refine B2 ?_
 refine sB (qE rfl rfl) rfl rfl (fun h122 => ?_) (fun h122 => ?_)
 refine B2 ?_
 refine D8 D9 rfl ?_
 refine L3 (i := 0) (l' := [tt,ff,ff,ff]) rfl D3 (A6 rfl rfl) rfl (by kernel_rfl) rfl rfl ?_
 refine aP 1 rfl (qA rfl) rfl ?_
 refine A4 2 ?_
 refine H8 rfl ?_
 refine aP 3 rfl (qA rfl) rfl ?_
 refine B2 ?_
 refine D1 (rT rfl) (rC rfl (A6 rfl rfl)) (rT rfl) ?_
 (exact L7.nil (A0u _) (by rw [A4b (by omega)]; rfl))
 refine B0 ?_
 refine sB (qE rfl rfl) rfl rfl (fun h147 => ?_) (fun h147 => ?_)
 refine B2 ?_
 (have hl1 : n = 1 := hop.2.2 (by omega); obtain ⟨b0, o0, q0, d0, hp0, hat0, hre0, hg0⟩ := hsl.kidD hkl (i := 0) (by omega) (by omega); cases hp0; refine D8 D9 rfl ?_)
 refine I6 (i := 0) (l' := [tt,ff,ff,ff,ff,ff,ff,ff,ff]) rfl D3 (B8 rfl) rfl (by kernel_rfl) rfl rfl ?_
 refine aL 1 rfl (A6 rfl rfl) rfl ?_
 refine aP 2 rfl (qM rfl) rfl ?_
 refine aP 3 rfl (B6 (j := 0) rfl rfl rfl (by omega)) rfl ?_
 refine aL 4 rfl (A3 rfl rfl (hat0 _) rfl) rfl ?_
 refine A4 5 ?_
 (refine H4 rfl rfl (A2f 4 _ _ _ _ _ ⟨by omega, by omega⟩ hrty hre0) rfl rfl rfl (fun v GB hleB hh => ?_); obtain ⟨cB, rfl, hrB⟩ := hh; obtain ⟨p7, c7, e7, rfl, _⟩ := hrB.open)
 refine aP 6 rfl (qA rfl) rfl ?_
 refine A4 7 ?_
 refine H8 rfl ?_
 refine aP 8 rfl (qA rfl) rfl ?_
 refine B2 ?_
 refine D1 (rT rfl) (rC rfl (A6 rfl rfl)) (rT rfl) ?_
 (have hk1 : k = 5 := (by omega); subst hk1; exact L7.nil hrB mW5)
 refine B0 ?_
 refine sB (qE rfl rfl) rfl rfl (fun h178 => ?_) (fun h178 => ?_)
 refine B5 ?_
 (have hl2 : n = 2 := hop.1 (by omega); obtain ⟨b0, o0, q0, d0, hp0, hat0, hre0, hg0⟩ := hsl.kidD hkl (i := 0) (by omega) (by omega); cases hp0; refine sP (B6 (j := 0) rfl rfl rfl (by omega)) rfl rfl ?_)
 refine sL (A3 rfl rfl (hat0 _) rfl) rfl rfl ?_
 (refine E5 rfl (A9Y 4 (h.getD 0 B4) G _ (.inl rfl) (A3r har (by omega)) hre0) rfl rfl (fun v G1 hle1 hh => ?_); obtain ⟨ma, mca, mb, mcb, rfl, hma, hmb, hma2, hmb2, hmm⟩ := hh; obtain ⟨p1, c1, e1, rfl, _⟩ := hma.open; obtain ⟨p2, c2, e2, rfl, _⟩ := hmb.open; replace hsl := hsl.mono hle1; replace hkl := hkl.mono hle1; generalize hmi : (R6 4 (h.getD 0 B4)).isSome = mi; cases mi)
 refine B7 ?_
 refine sE (A8 rfl) rfl (fun b193 => ?_)
 refine sE (A8 rfl) rfl (fun b194 => ?_)
 refine B0 ?_
 (have hl2 : n = 2 := hop.1 (by omega); obtain ⟨b0, o0, q0, d0, hp0, hat0, hre0, hg0⟩ := hsl.kidD hkl (i := 0) (by omega) (by omega); obtain ⟨b1, o1, q1, d1, hp1, hat1, hre1, hg1⟩ := hsl.kidD hkl (i := 1) (by omega) (by omega); cases hp0; cases hp1; refine D8 D9 rfl ?_)
 refine L3 (i := 0) (l' := [tt,ff,ff,ff,ff,ff,ff,ff,ff,ff,ff,ff,ff,ff,ff,ff,ff]) rfl D3 (A6 rfl rfl) rfl (by kernel_rfl) rfl rfl ?_
 refine aL 1 rfl (A6 rfl rfl) rfl ?_
 refine aL 3 rfl (A6 rfl rfl) rfl ?_
 refine aL 5 rfl (A6 rfl rfl) rfl ?_
 refine aP 6 rfl (qM rfl) rfl ?_
 refine A4 2 ?_
 (refine H4 rfl rfl (A2f _ ma mb _ _ _ ⟨by omega, by omega⟩ hma hmb) rfl rfl rfl (fun v GB hleB hh => ?_); obtain ⟨cB, rfl, hrB⟩ := hh; obtain ⟨p7, c7, e7, rfl, _⟩ := hrB.open; have hma' := hma.mono hleB; have hmb' := hmb.mono hleB)
 refine aP 7 rfl (qM rfl) rfl ?_
 refine C5 8 rfl rfl rfl ?_
 refine C5 9 rfl rfl rfl ?_
 refine C5 10 rfl rfl rfl ?_
 refine C5 11 rfl rfl rfl ?_
 refine Q8 (j := 4) (j' := 12) (by kernel_rfl) ?_ ?_
 (refine E6 rfl (D2 rfl rfl rfl (by omega) (by unfold maxLen; omega) rfl) rfl rfl ?_; rintro _ ⟨b215, rfl⟩)
 refine C5 12 rfl rfl rfl ?_
 refine aP 13 rfl (P6 rfl rfl) rfl ?_
 refine aP 14 rfl (qA rfl) rfl ?_
 refine A4 15 ?_
 refine H8 rfl ?_
 refine aP 16 rfl (qA rfl) rfl ?_
 refine A5 ?_
 (refine H3 Pk.here (fun G5 hle5 hsl5 hno5 => ?_))
 refine B9 ?_
 refine D1 (rT rfl) (rC rfl (A6 rfl rfl)) (rT rfl) ?_
 (have hk1 : k = 6 := (by omega); subst hk1; refine L7.two hsl5 (hrB.mono hle5) (hma'.mono hle5) (hmb'.mono hle5) ?_; rw [mW6]; cases hq : R6 4 (h.getD 0 B4) with | none => rfl | some q => (rw [hq] at hmi; cases hmi))
 refine A5Z (l' := [tt,tt,tt,tt,ff,tt,tt,tt,tt,tt,tt,tt,tt,ff,ff,ff,ff]) rfl rfl rfl rfl ?_
 refine aP 13 rfl (P6 rfl rfl) rfl ?_
 refine A4 4 ?_
 (refine E6 rfl (D2 rfl rfl rfl (by omega) (by unfold maxLen; omega) rfl) rfl rfl ?_; rintro _ ⟨b233, rfl⟩)
 refine aP 14 rfl (qA rfl) rfl ?_
 refine A4 15 ?_
 refine H8 rfl ?_
 refine aP 16 rfl (qA rfl) rfl ?_
 refine A5 ?_
 (refine H3 Pk.here (fun G5 hle5 hsl5 hno5 => ?_))
 refine B9 ?_
 refine D1 (rT rfl) (rC rfl (A6 rfl rfl)) (rT rfl) ?_
 (have hk1 : k = 6 := (by omega); subst hk1; refine L7.two hsl5 (hrB.mono hle5) (hma'.mono hle5) (hmb'.mono hle5) ?_; rw [mW6]; cases hq : R6 4 (h.getD 0 B4) with | none => rfl | some q => (rw [hq] at hmi; cases hmi))
 refine B7 ?_
 refine sE (A8 rfl) rfl (fun b250 => ?_)
 refine sE (A8 rfl) rfl (fun b251 => ?_)
 refine B0 ?_
 (have hl2 : n = 2 := hop.1 (by omega); obtain ⟨b0, o0, q0, d0, hp0, hat0, hre0, hg0⟩ := hsl.kidD hkl (i := 0) (by omega) (by omega); obtain ⟨b1, o1, q1, d1, hp1, hat1, hre1, hg1⟩ := hsl.kidD hkl (i := 1) (by omega) (by omega); cases hp0; cases hp1; refine D8 D9 rfl ?_)
 refine L3 (i := 0) (l' := [tt,ff,ff,ff,ff,ff,ff,ff,ff,ff,ff,ff,ff,ff,ff,ff,ff]) rfl D3 (A6 rfl rfl) rfl (by kernel_rfl) rfl rfl ?_
 refine aL 1 rfl (A6 rfl rfl) rfl ?_
 refine aL 3 rfl (A6 rfl rfl) rfl ?_
 refine aL 5 rfl (A6 rfl rfl) rfl ?_
 refine aP 6 rfl (qM rfl) rfl ?_
 refine A4 2 ?_
 (refine H4 rfl rfl (A2f _ ma mb _ _ _ ⟨by omega, by omega⟩ hma hmb) rfl rfl rfl (fun v GB hleB hh => ?_); obtain ⟨cB, rfl, hrB⟩ := hh; obtain ⟨p7, c7, e7, rfl, _⟩ := hrB.open; have hma' := hma.mono hleB; have hmb' := hmb.mono hleB)
 refine aP 7 rfl (qM rfl) rfl ?_
 refine aP 8 rfl (qM rfl) rfl ?_
 refine aP 9 rfl (B6 (j := 1) rfl rfl rfl (by omega)) rfl ?_
 refine aL 10 rfl (A3 rfl rfl (At.mono' hleB (hat1 _)) rfl) rfl ?_
 refine aL 11 rfl (A6 rfl rfl) rfl ?_
 refine Q8 (j := 4) (j' := 12) (by kernel_rfl) ?_ ?_
 (refine E6 rfl (D2 rfl rfl rfl (by omega) (by unfold maxLen; omega) rfl) rfl rfl ?_; rintro _ ⟨b272, rfl⟩)
 refine A4 12 ?_
 refine S2 rfl rfl ((A0c _ _ _ _ _ (hre1.mono hleB) hma')) rfl rfl rfl (fun h274 => ?_) (fun h274 => ?_)
 refine aP 13 rfl (N3 rfl rfl) rfl ?_
 refine aP 14 rfl (qA rfl) rfl ?_
 refine A4 15 ?_
 refine H8 rfl ?_
 refine aP 16 rfl (qA rfl) rfl ?_
 refine A5 ?_
 (refine H3 Pk.here (fun G5 hle5 hsl5 hno5 => ?_))
 refine B9 ?_
 refine D1 (rT rfl) (rC rfl (A6 rfl rfl)) (rT rfl) ?_
 (have hk1 : k = 6 := (by omega); subst hk1; refine L7.two hsl5 (hrB.mono hle5) (hma'.mono hle5) (hmb'.mono hle5) ?_; rw [mW6]; cases hq : R6 4 (h.getD 0 B4) with | none => (rw [hq] at hmi; cases hmi) | some q => (have hq2 := hmm q hq; subst hq2; dsimp only; split <;> first | rfl | (exfalso; simp_all; done)))
 refine aP 13 rfl (N3 rfl rfl) rfl ?_
 refine aP 14 rfl (qA rfl) rfl ?_
 refine A4 15 ?_
 refine H8 rfl ?_
 refine aP 16 rfl (qA rfl) rfl ?_
 refine A5 ?_
 (refine H3 Pk.here (fun G5 hle5 hsl5 hno5 => ?_))
 refine B9 ?_
 refine D1 (rT rfl) (rC rfl (A6 rfl rfl)) (rT rfl) ?_
 (have hk1 : k = 6 := (by omega); subst hk1; refine L7.two hsl5 (hrB.mono hle5) (hma'.mono hle5) (hmb'.mono hle5) ?_; rw [mW6]; cases hq : R6 4 (h.getD 0 B4) with | none => (rw [hq] at hmi; cases hmi) | some q => (have hq2 := hmm q hq; subst hq2; dsimp only; split <;> first | rfl | (exfalso; simp_all; done)))
 refine S2 rfl rfl ((A0c _ _ _ _ _ (hre1.mono hleB) hma')) rfl rfl rfl (fun h301 => ?_) (fun h301 => ?_)
 refine aP 13 rfl (N3 rfl rfl) rfl ?_
 refine A4 4 ?_
 (refine E6 rfl (D2 rfl rfl rfl (by omega) (by unfold maxLen; omega) rfl) rfl rfl ?_; rintro _ ⟨b304, rfl⟩)
 refine aP 14 rfl (qA rfl) rfl ?_
 refine A4 15 ?_
 refine H8 rfl ?_
 refine aP 16 rfl (qA rfl) rfl ?_
 refine A5 ?_
 (refine H3 Pk.here (fun G5 hle5 hsl5 hno5 => ?_))
 refine B9 ?_
 refine D1 (rT rfl) (rC rfl (A6 rfl rfl)) (rT rfl) ?_
 (have hk1 : k = 6 := (by omega); subst hk1; refine L7.two hsl5 (hrB.mono hle5) (hma'.mono hle5) (hmb'.mono hle5) ?_; rw [mW6]; cases hq : R6 4 (h.getD 0 B4) with | none => (rw [hq] at hmi; cases hmi) | some q => (have hq2 := hmm q hq; subst hq2; dsimp only; split <;> first | rfl | (exfalso; simp_all; done)))
 refine aP 13 rfl (N3 rfl rfl) rfl ?_
 refine A4 4 ?_
 (refine E6 rfl (D2 rfl rfl rfl (by omega) (by unfold maxLen; omega) rfl) rfl rfl ?_; rintro _ ⟨b319, rfl⟩)
 refine aP 14 rfl (qA rfl) rfl ?_
 refine A4 15 ?_
 refine H8 rfl ?_
 refine aP 16 rfl (qA rfl) rfl ?_
 refine A5 ?_
 (refine H3 Pk.here (fun G5 hle5 hsl5 hno5 => ?_))
 refine B9 ?_
 refine D1 (rT rfl) (rC rfl (A6 rfl rfl)) (rT rfl) ?_
 (have hk1 : k = 6 := (by omega); subst hk1; refine L7.two hsl5 (hrB.mono hle5) (hma'.mono hle5) (hmb'.mono hle5) ?_; rw [mW6]; cases hq : R6 4 (h.getD 0 B4) with | none => (rw [hq] at hmi; cases hmi) | some q => (have hq2 := hmm q hq; subst hq2; dsimp only; split <;> first | rfl | (exfalso; simp_all; done)))
 refine B5 ?_
 refine sB (qE rfl rfl) rfl rfl (fun h339 => ?_) (fun h339 => ?_)
 refine J0 ?_
 refine sE (A8 rfl) rfl (fun b350 => ?_)
 refine D0 ?_
 refine sP (I7 rfl rfl (by omega)) rfl rfl ?_
 refine B0 ?_
 (have hl2 : n = 2 := hop.1 (by omega); obtain ⟨b0, o0, q0, d0, hp0, hat0, hre0, hg0⟩ := hsl.kidD hkl (i := 0) (by omega) (by omega); obtain ⟨b1, o1, q1, d1, hp1, hat1, hre1, hg1⟩ := hsl.kidD hkl (i := 1) (by omega) (by omega); cases hp0; cases hp1; refine D8 D9 rfl ?_)
 refine L3 (i := 0) (l' := [tt,ff,ff,ff,ff,ff,ff,ff,ff,ff,ff,ff,ff,ff,ff,ff,ff,ff,ff]) rfl D3 (A6 rfl rfl) rfl (by kernel_rfl) rfl rfl ?_
 refine aL 1 rfl (A6 rfl rfl) rfl ?_
 refine aL 3 rfl (A6 rfl rfl) rfl ?_
 refine aP 4 rfl (qM rfl) rfl ?_
 refine aP 5 rfl (B6 (j := 0) rfl rfl rfl (by omega)) rfl ?_
 refine aL 6 rfl (A3 rfl rfl (hat0 _) rfl) rfl ?_
 refine aL 7 rfl (A6 rfl rfl) rfl ?_
 refine Q8 (j := 2) (j' := 8) (by kernel_rfl) ?_ ?_
 (refine E6 rfl (D2 rfl rfl rfl (by omega) (by unfold maxLen; omega) rfl) rfl rfl ?_; rintro _ ⟨b375, rfl⟩)
 refine A4 8 ?_
 refine S2 rfl rfl ((A0c _ _ _ _ _ hre0 (K8 _))) rfl rfl rfl (fun h377 => ?_) (fun h377 => ?_)
 refine aP 9 rfl (qM rfl) rfl ?_
 refine aP 10 rfl (qM rfl) rfl ?_
 refine aP 11 rfl (B6 (j := 1) rfl rfl rfl (by omega)) rfl ?_
 refine aL 12 rfl (A3 rfl rfl (hat1 _) rfl) rfl ?_
 refine aL 13 rfl (A6 rfl rfl) rfl ?_
 refine A4 14 ?_
 refine S2 rfl rfl ((A0c _ _ _ _ _ hre1 (K8 _))) rfl rfl rfl (fun h384 => ?_) (fun h384 => ?_)
 refine aP 15 rfl (N3 rfl rfl) rfl ?_
 refine aP 16 rfl (qA rfl) rfl ?_
 refine A4 17 ?_
 refine H8 rfl ?_
 refine aP 18 rfl (qA rfl) rfl ?_
 refine A5 ?_
 (refine H3 Pk.here (fun G5 hle5 hsl5 hno5 => ?_))
 refine B9 ?_
 refine D1 (rT rfl) (rC rfl (A6 rfl rfl)) (rT rfl) ?_
 (refine L7.two hsl5 (K8 _) (K8 _) (K8 _) ?_; rw [W5 (by omega)]; first | (rw [if_pos ⟨by assumption, by assumption⟩, if_neg (by omega)]; rfl) | (rw [if_neg (fun hc => by first | exact Bool.noConfusion (hc.1.symm.trans (by assumption)) | exact Bool.noConfusion (hc.2.symm.trans (by assumption)) | exact Bool.noConfusion (hc.symm.trans (by assumption)))]; rfl))
 refine aP 15 rfl (N3 rfl rfl) rfl ?_
 refine aP 16 rfl (qA rfl) rfl ?_
 refine A4 17 ?_
 refine H8 rfl ?_
 refine aP 18 rfl (qA rfl) rfl ?_
 refine A5 ?_
 (refine H3 Pk.here (fun G5 hle5 hsl5 hno5 => ?_))
 refine B9 ?_
 refine D1 (rT rfl) (rC rfl (A6 rfl rfl)) (rT rfl) ?_
 (refine L7.two hsl5 (K8 _) (K8 _) (K8 _) ?_; rw [W5 (by omega)]; first | (rw [if_pos ⟨by assumption, by assumption⟩, if_neg (by omega)]; rfl) | (rw [if_neg (fun hc => by first | exact Bool.noConfusion (hc.1.symm.trans (by assumption)) | exact Bool.noConfusion (hc.2.symm.trans (by assumption)) | exact Bool.noConfusion (hc.symm.trans (by assumption)))]; rfl))
 refine aP 9 rfl (qM rfl) rfl ?_
 refine C5 10 rfl rfl rfl ?_
 refine C5 11 rfl rfl rfl ?_
 refine C5 12 rfl rfl rfl ?_
 refine C5 13 rfl rfl rfl ?_
 refine C5 14 rfl rfl rfl ?_
 refine aP 15 rfl (P6 rfl rfl) rfl ?_
 refine aP 16 rfl (qA rfl) rfl ?_
 refine A4 17 ?_
 refine H8 rfl ?_
 refine aP 18 rfl (qA rfl) rfl ?_
 refine A5 ?_
 (refine H3 Pk.here (fun G5 hle5 hsl5 hno5 => ?_))
 refine B9 ?_
 refine D1 (rT rfl) (rC rfl (A6 rfl rfl)) (rT rfl) ?_
 (refine L7.two hsl5 (K8 _) (K8 _) (K8 _) ?_; rw [W5 (by omega)]; first | (rw [if_pos ⟨by assumption, by assumption⟩, if_neg (by omega)]; rfl) | (rw [if_neg (fun hc => by first | exact Bool.noConfusion (hc.1.symm.trans (by assumption)) | exact Bool.noConfusion (hc.2.symm.trans (by assumption)) | exact Bool.noConfusion (hc.symm.trans (by assumption)))]; rfl))
 refine S2 rfl rfl ((A0c _ _ _ _ _ hre0 (K8 _))) rfl rfl rfl (fun h430 => ?_) (fun h430 => ?_)
 refine aP 9 rfl (qM rfl) rfl ?_
 refine aP 10 rfl (qM rfl) rfl ?_
 refine aP 11 rfl (B6 (j := 1) rfl rfl rfl (by omega)) rfl ?_
 refine aL 12 rfl (A3 rfl rfl (hat1 _) rfl) rfl ?_
 refine aL 13 rfl (A6 rfl rfl) rfl ?_
 refine Q8 (j := 2) (j' := 14) (by kernel_rfl) ?_ ?_
 (refine E6 rfl (D2 rfl rfl rfl (by omega) (by unfold maxLen; omega) rfl) rfl rfl ?_; rintro _ ⟨b437, rfl⟩)
 refine A4 14 ?_
 refine S2 rfl rfl ((A0c _ _ _ _ _ hre1 (K8 _))) rfl rfl rfl (fun h439 => ?_) (fun h439 => ?_)
 refine aP 15 rfl (N3 rfl rfl) rfl ?_
 refine aP 16 rfl (qA rfl) rfl ?_
 refine A4 17 ?_
 refine H8 rfl ?_
 refine aP 18 rfl (qA rfl) rfl ?_
 refine A5 ?_
 (refine H3 Pk.here (fun G5 hle5 hsl5 hno5 => ?_))
 refine B9 ?_
 refine D1 (rT rfl) (rC rfl (A6 rfl rfl)) (rT rfl) ?_
 (refine L7.two hsl5 (K8 _) (K8 _) (K8 _) ?_; rw [W5 (by omega)]; first | (rw [if_pos ⟨by assumption, by assumption⟩, if_neg (by omega)]; rfl) | (rw [if_neg (fun hc => by first | exact Bool.noConfusion (hc.1.symm.trans (by assumption)) | exact Bool.noConfusion (hc.2.symm.trans (by assumption)) | exact Bool.noConfusion (hc.symm.trans (by assumption)))]; rfl))
 refine aP 15 rfl (N3 rfl rfl) rfl ?_
 refine aP 16 rfl (qA rfl) rfl ?_
 refine A4 17 ?_
 refine H8 rfl ?_
 refine aP 18 rfl (qA rfl) rfl ?_
 refine A5 ?_
 (refine H3 Pk.here (fun G5 hle5 hsl5 hno5 => ?_))
 refine B9 ?_
 refine D1 (rT rfl) (rC rfl (A6 rfl rfl)) (rT rfl) ?_
 (refine L7.two hsl5 (K8 _) (K8 _) (K8 _) ?_; rw [W5 (by omega)]; first | (rw [if_pos ⟨by assumption, by assumption⟩, if_neg (by omega)]; rfl) | (rw [if_neg (fun hc => by first | exact Bool.noConfusion (hc.1.symm.trans (by assumption)) | exact Bool.noConfusion (hc.2.symm.trans (by assumption)) | exact Bool.noConfusion (hc.symm.trans (by assumption)))]; rfl))
 refine S2 rfl rfl ((A0c _ _ _ _ _ hre1 (K8 _))) rfl rfl rfl (fun h466 => ?_) (fun h466 => ?_)
 refine aP 15 rfl (N3 rfl rfl) rfl ?_
 refine A4 2 ?_
 (refine E6 rfl (D2 rfl rfl rfl (by omega) (by unfold maxLen; omega) rfl) rfl rfl ?_; rintro _ ⟨b469, rfl⟩)
 refine aP 16 rfl (qA rfl) rfl ?_
 refine A4 17 ?_
 refine H8 rfl ?_
 refine aP 18 rfl (qA rfl) rfl ?_
 refine A5 ?_
 (refine H3 Pk.here (fun G5 hle5 hsl5 hno5 => ?_))
 refine B9 ?_
 refine D1 (rT rfl) (rC rfl (A6 rfl rfl)) (rT rfl) ?_
 (refine L7.two hsl5 (K8 _) (K8 _) (K8 _) ?_; rw [W5 (by omega)]; first | (rw [if_pos ⟨by assumption, by assumption⟩, if_neg (by omega)]; rfl) | (rw [if_neg (fun hc => by first | exact Bool.noConfusion (hc.1.symm.trans (by assumption)) | exact Bool.noConfusion (hc.2.symm.trans (by assumption)) | exact Bool.noConfusion (hc.symm.trans (by assumption)))]; rfl))
 refine aP 15 rfl (N3 rfl rfl) rfl ?_
 refine A4 2 ?_
 (refine E6 rfl (D2 rfl rfl rfl (by omega) (by unfold maxLen; omega) rfl) rfl rfl ?_; rintro _ ⟨b484, rfl⟩)
 refine aP 16 rfl (qA rfl) rfl ?_
 refine A4 17 ?_
 refine H8 rfl ?_
 refine aP 18 rfl (qA rfl) rfl ?_
 refine A5 ?_
 (refine H3 Pk.here (fun G5 hle5 hsl5 hno5 => ?_))
 refine B9 ?_
 refine D1 (rT rfl) (rC rfl (A6 rfl rfl)) (rT rfl) ?_
 (refine L7.two hsl5 (K8 _) (K8 _) (K8 _) ?_; rw [W5 (by omega)]; first | (rw [if_pos ⟨by assumption, by assumption⟩, if_neg (by omega)]; rfl) | (rw [if_neg (fun hc => by first | exact Bool.noConfusion (hc.1.symm.trans (by assumption)) | exact Bool.noConfusion (hc.2.symm.trans (by assumption)) | exact Bool.noConfusion (hc.symm.trans (by assumption)))]; rfl))
 refine aP 9 rfl (qM rfl) rfl ?_
 refine C5 10 rfl rfl rfl ?_
 refine C5 11 rfl rfl rfl ?_
 refine C5 12 rfl rfl rfl ?_
 refine C5 13 rfl rfl rfl ?_
 refine Q8 (j := 2) (j' := 14) (by kernel_rfl) ?_ ?_
 (refine E6 rfl (D2 rfl rfl rfl (by omega) (by unfold maxLen; omega) rfl) rfl rfl ?_; rintro _ ⟨b503, rfl⟩)
 refine C5 14 rfl rfl rfl ?_
 refine aP 15 rfl (P6 rfl rfl) rfl ?_
 refine aP 16 rfl (qA rfl) rfl ?_
 refine A4 17 ?_
 refine H8 rfl ?_
 refine aP 18 rfl (qA rfl) rfl ?_
 refine A5 ?_
 (refine H3 Pk.here (fun G5 hle5 hsl5 hno5 => ?_))
 refine B9 ?_
 refine D1 (rT rfl) (rC rfl (A6 rfl rfl)) (rT rfl) ?_
 (refine L7.two hsl5 (K8 _) (K8 _) (K8 _) ?_; rw [W5 (by omega)]; first | (rw [if_pos ⟨by assumption, by assumption⟩, if_neg (by omega)]; rfl) | (rw [if_neg (fun hc => by first | exact Bool.noConfusion (hc.1.symm.trans (by assumption)) | exact Bool.noConfusion (hc.2.symm.trans (by assumption)) | exact Bool.noConfusion (hc.symm.trans (by assumption)))]; rfl))
 refine A5Z (l' := [tt,tt,ff,tt,tt,tt,tt,tt,tt,tt,tt,tt,tt,tt,tt,ff,ff,ff,ff]) rfl rfl rfl rfl ?_
 refine aP 15 rfl (P6 rfl rfl) rfl ?_
 refine A4 2 ?_
 (refine E6 rfl (D2 rfl rfl rfl (by omega) (by unfold maxLen; omega) rfl) rfl rfl ?_; rintro _ ⟨b521, rfl⟩)
 refine aP 16 rfl (qA rfl) rfl ?_
 refine A4 17 ?_
 refine H8 rfl ?_
 refine aP 18 rfl (qA rfl) rfl ?_
 refine A5 ?_
 (refine H3 Pk.here (fun G5 hle5 hsl5 hno5 => ?_))
 refine B9 ?_
 refine D1 (rT rfl) (rC rfl (A6 rfl rfl)) (rT rfl) ?_
 (refine L7.two hsl5 (K8 _) (K8 _) (K8 _) ?_; rw [W5 (by omega)]; first | (rw [if_pos ⟨by assumption, by assumption⟩, if_neg (by omega)]; rfl) | (rw [if_neg (fun hc => by first | exact Bool.noConfusion (hc.1.symm.trans (by assumption)) | exact Bool.noConfusion (hc.2.symm.trans (by assumption)) | exact Bool.noConfusion (hc.symm.trans (by assumption)))]; rfl))
 refine B2 ?_
 refine sB (qE rfl rfl) rfl rfl (fun h539 => ?_) (fun h539 => ?_)
 refine B5 ?_
 refine sE (A8 rfl) rfl (fun b547 => ?_)
 refine D0 ?_
 refine sP (W8 rfl rfl (by omega)) rfl rfl ?_
 refine E1 ?_
 (have hl2 : n = 2 := hop.1 (by omega); obtain ⟨b0, o0, q0, d0, hp0, hat0, hre0, hg0⟩ := hsl.kidD hkl (i := 0) (by omega) (by omega); obtain ⟨b1, o1, q1, d1, hp1, hat1, hre1, hg1⟩ := hsl.kidD hkl (i := 1) (by omega) (by omega); cases hp0; cases hp1; refine D8 D9 rfl ?_)
 refine L3 (i := 0) (l' := [tt,ff,ff,ff,ff,ff,ff,ff,ff,ff,ff,ff,ff,ff,ff,ff,ff,ff,ff]) rfl D3 (A6 rfl rfl) rfl (by kernel_rfl) rfl rfl ?_
 refine aL 1 rfl (A6 rfl rfl) rfl ?_
 refine aL 3 rfl (A6 rfl rfl) rfl ?_
 refine aP 4 rfl (qM rfl) rfl ?_
 refine aP 5 rfl (B6 (j := 0) rfl rfl rfl (by omega)) rfl ?_
 refine aL 6 rfl (A3 rfl rfl (hat0 _) rfl) rfl ?_
 refine aL 7 rfl (A6 rfl rfl) rfl ?_
 refine Q8 (j := 2) (j' := 8) (by kernel_rfl) ?_ ?_
 (refine E6 rfl (D2 rfl rfl rfl (by omega) (by unfold maxLen; omega) rfl) rfl rfl ?_; rintro _ ⟨b575, rfl⟩)
 refine A4 8 ?_
 refine S2 rfl rfl ((A0c _ _ _ _ _ hre0 (K8 _))) rfl rfl rfl (fun h577 => ?_) (fun h577 => ?_)
 refine aP 9 rfl (qM rfl) rfl ?_
 refine aP 10 rfl (qM rfl) rfl ?_
 refine aP 11 rfl (B6 (j := 1) rfl rfl rfl (by omega)) rfl ?_
 refine aL 12 rfl (A3 rfl rfl (hat1 _) rfl) rfl ?_
 refine aL 13 rfl (A6 rfl rfl) rfl ?_
 refine A4 14 ?_
 refine S2 rfl rfl ((A0c _ _ _ _ _ hre1 (K8 _))) rfl rfl rfl (fun h584 => ?_) (fun h584 => ?_)
 refine aP 15 rfl (N3 rfl rfl) rfl ?_
 refine aP 16 rfl (qA rfl) rfl ?_
 refine A4 17 ?_
 refine H8 rfl ?_
 refine aP 18 rfl (qA rfl) rfl ?_
 refine A5 ?_
 (refine H3 Pk.here (fun G5 hle5 hsl5 hno5 => ?_))
 refine B9 ?_
 refine D1 (rT rfl) (rC rfl (A6 rfl rfl)) (rT rfl) ?_
 (refine L7.two hsl5 (K8 _) (K8 _) (A0u _) ?_; rw [W5 (by omega)]; first | (rw [if_pos ⟨by assumption, by assumption⟩, if_pos (by omega)]; rfl) | (rw [if_neg (fun hc => by first | exact Bool.noConfusion (hc.1.symm.trans (by assumption)) | exact Bool.noConfusion (hc.2.symm.trans (by assumption)) | exact Bool.noConfusion (hc.symm.trans (by assumption)))]; rfl))
 refine aP 15 rfl (N3 rfl rfl) rfl ?_
 refine aP 16 rfl (qA rfl) rfl ?_
 refine A4 17 ?_
 refine H8 rfl ?_
 refine aP 18 rfl (qA rfl) rfl ?_
 refine A5 ?_
 (refine H3 Pk.here (fun G5 hle5 hsl5 hno5 => ?_))
 refine B9 ?_
 refine D1 (rT rfl) (rC rfl (A6 rfl rfl)) (rT rfl) ?_
 (refine L7.two hsl5 (K8 _) (K8 _) (A0u _) ?_; rw [W5 (by omega)]; first | (rw [if_pos ⟨by assumption, by assumption⟩, if_pos (by omega)]; rfl) | (rw [if_neg (fun hc => by first | exact Bool.noConfusion (hc.1.symm.trans (by assumption)) | exact Bool.noConfusion (hc.2.symm.trans (by assumption)) | exact Bool.noConfusion (hc.symm.trans (by assumption)))]; rfl))
 refine aP 9 rfl (qM rfl) rfl ?_
 refine C5 10 rfl rfl rfl ?_
 refine C5 11 rfl rfl rfl ?_
 refine C5 12 rfl rfl rfl ?_
 refine C5 13 rfl rfl rfl ?_
 refine C5 14 rfl rfl rfl ?_
 refine aP 15 rfl (P6 rfl rfl) rfl ?_
 refine aP 16 rfl (qA rfl) rfl ?_
 refine A4 17 ?_
 refine H8 rfl ?_
 refine aP 18 rfl (qA rfl) rfl ?_
 refine A5 ?_
 (refine H3 Pk.here (fun G5 hle5 hsl5 hno5 => ?_))
 refine B9 ?_
 refine D1 (rT rfl) (rC rfl (A6 rfl rfl)) (rT rfl) ?_
 (refine L7.two hsl5 (K8 _) (K8 _) (A0u _) ?_; rw [W5 (by omega)]; first | (rw [if_pos ⟨by assumption, by assumption⟩, if_pos (by omega)]; rfl) | (rw [if_neg (fun hc => by first | exact Bool.noConfusion (hc.1.symm.trans (by assumption)) | exact Bool.noConfusion (hc.2.symm.trans (by assumption)) | exact Bool.noConfusion (hc.symm.trans (by assumption)))]; rfl))
 refine S2 rfl rfl ((A0c _ _ _ _ _ hre0 (K8 _))) rfl rfl rfl (fun h630 => ?_) (fun h630 => ?_)
 refine aP 9 rfl (qM rfl) rfl ?_
 refine aP 10 rfl (qM rfl) rfl ?_
 refine aP 11 rfl (B6 (j := 1) rfl rfl rfl (by omega)) rfl ?_
 refine aL 12 rfl (A3 rfl rfl (hat1 _) rfl) rfl ?_
 refine aL 13 rfl (A6 rfl rfl) rfl ?_
 refine Q8 (j := 2) (j' := 14) (by kernel_rfl) ?_ ?_
 (refine E6 rfl (D2 rfl rfl rfl (by omega) (by unfold maxLen; omega) rfl) rfl rfl ?_; rintro _ ⟨b637, rfl⟩)
 refine A4 14 ?_
 refine S2 rfl rfl ((A0c _ _ _ _ _ hre1 (K8 _))) rfl rfl rfl (fun h639 => ?_) (fun h639 => ?_)
 refine aP 15 rfl (N3 rfl rfl) rfl ?_
 refine aP 16 rfl (qA rfl) rfl ?_
 refine A4 17 ?_
 refine H8 rfl ?_
 refine aP 18 rfl (qA rfl) rfl ?_
 refine A5 ?_
 (refine H3 Pk.here (fun G5 hle5 hsl5 hno5 => ?_))
 refine B9 ?_
 refine D1 (rT rfl) (rC rfl (A6 rfl rfl)) (rT rfl) ?_
 (refine L7.two hsl5 (K8 _) (K8 _) (A0u _) ?_; rw [W5 (by omega)]; first | (rw [if_pos ⟨by assumption, by assumption⟩, if_pos (by omega)]; rfl) | (rw [if_neg (fun hc => by first | exact Bool.noConfusion (hc.1.symm.trans (by assumption)) | exact Bool.noConfusion (hc.2.symm.trans (by assumption)) | exact Bool.noConfusion (hc.symm.trans (by assumption)))]; rfl))
 refine aP 15 rfl (N3 rfl rfl) rfl ?_
 refine aP 16 rfl (qA rfl) rfl ?_
 refine A4 17 ?_
 refine H8 rfl ?_
 refine aP 18 rfl (qA rfl) rfl ?_
 refine A5 ?_
 (refine H3 Pk.here (fun G5 hle5 hsl5 hno5 => ?_))
 refine B9 ?_
 refine D1 (rT rfl) (rC rfl (A6 rfl rfl)) (rT rfl) ?_
 (refine L7.two hsl5 (K8 _) (K8 _) (A0u _) ?_; rw [W5 (by omega)]; first | (rw [if_pos ⟨by assumption, by assumption⟩, if_pos (by omega)]; rfl) | (rw [if_neg (fun hc => by first | exact Bool.noConfusion (hc.1.symm.trans (by assumption)) | exact Bool.noConfusion (hc.2.symm.trans (by assumption)) | exact Bool.noConfusion (hc.symm.trans (by assumption)))]; rfl))
 refine S2 rfl rfl ((A0c _ _ _ _ _ hre1 (K8 _))) rfl rfl rfl (fun h666 => ?_) (fun h666 => ?_)
 refine aP 15 rfl (N3 rfl rfl) rfl ?_
 refine A4 2 ?_
 (refine E6 rfl (D2 rfl rfl rfl (by omega) (by unfold maxLen; omega) rfl) rfl rfl ?_; rintro _ ⟨b669, rfl⟩)
 refine aP 16 rfl (qA rfl) rfl ?_
 refine A4 17 ?_
 refine H8 rfl ?_
 refine aP 18 rfl (qA rfl) rfl ?_
 refine A5 ?_
 (refine H3 Pk.here (fun G5 hle5 hsl5 hno5 => ?_))
 refine B9 ?_
 refine D1 (rT rfl) (rC rfl (A6 rfl rfl)) (rT rfl) ?_
 (refine L7.two hsl5 (K8 _) (K8 _) (A0u _) ?_; rw [W5 (by omega)]; first | (rw [if_pos ⟨by assumption, by assumption⟩, if_pos (by omega)]; rfl) | (rw [if_neg (fun hc => by first | exact Bool.noConfusion (hc.1.symm.trans (by assumption)) | exact Bool.noConfusion (hc.2.symm.trans (by assumption)) | exact Bool.noConfusion (hc.symm.trans (by assumption)))]; rfl))
 refine aP 15 rfl (N3 rfl rfl) rfl ?_
 refine A4 2 ?_
 (refine E6 rfl (D2 rfl rfl rfl (by omega) (by unfold maxLen; omega) rfl) rfl rfl ?_; rintro _ ⟨b684, rfl⟩)
 refine aP 16 rfl (qA rfl) rfl ?_
 refine A4 17 ?_
 refine H8 rfl ?_
 refine aP 18 rfl (qA rfl) rfl ?_
 refine A5 ?_
 (refine H3 Pk.here (fun G5 hle5 hsl5 hno5 => ?_))
 refine B9 ?_
 refine D1 (rT rfl) (rC rfl (A6 rfl rfl)) (rT rfl) ?_
 (refine L7.two hsl5 (K8 _) (K8 _) (A0u _) ?_; rw [W5 (by omega)]; first | (rw [if_pos ⟨by assumption, by assumption⟩, if_pos (by omega)]; rfl) | (rw [if_neg (fun hc => by first | exact Bool.noConfusion (hc.1.symm.trans (by assumption)) | exact Bool.noConfusion (hc.2.symm.trans (by assumption)) | exact Bool.noConfusion (hc.symm.trans (by assumption)))]; rfl))
 refine aP 9 rfl (qM rfl) rfl ?_
 refine C5 10 rfl rfl rfl ?_
 refine C5 11 rfl rfl rfl ?_
 refine C5 12 rfl rfl rfl ?_
 refine C5 13 rfl rfl rfl ?_
 refine Q8 (j := 2) (j' := 14) (by kernel_rfl) ?_ ?_
 (refine E6 rfl (D2 rfl rfl rfl (by omega) (by unfold maxLen; omega) rfl) rfl rfl ?_; rintro _ ⟨b703, rfl⟩)
 refine C5 14 rfl rfl rfl ?_
 refine aP 15 rfl (P6 rfl rfl) rfl ?_
 refine aP 16 rfl (qA rfl) rfl ?_
 refine A4 17 ?_
 refine H8 rfl ?_
 refine aP 18 rfl (qA rfl) rfl ?_
 refine A5 ?_
 (refine H3 Pk.here (fun G5 hle5 hsl5 hno5 => ?_))
 refine B9 ?_
 refine D1 (rT rfl) (rC rfl (A6 rfl rfl)) (rT rfl) ?_
 (refine L7.two hsl5 (K8 _) (K8 _) (A0u _) ?_; rw [W5 (by omega)]; first | (rw [if_pos ⟨by assumption, by assumption⟩, if_pos (by omega)]; rfl) | (rw [if_neg (fun hc => by first | exact Bool.noConfusion (hc.1.symm.trans (by assumption)) | exact Bool.noConfusion (hc.2.symm.trans (by assumption)) | exact Bool.noConfusion (hc.symm.trans (by assumption)))]; rfl))
 refine A5Z (l' := [tt,tt,ff,tt,tt,tt,tt,tt,tt,tt,tt,tt,tt,tt,tt,ff,ff,ff,ff]) rfl rfl rfl rfl ?_
 refine aP 15 rfl (P6 rfl rfl) rfl ?_
 refine A4 2 ?_
 (refine E6 rfl (D2 rfl rfl rfl (by omega) (by unfold maxLen; omega) rfl) rfl rfl ?_; rintro _ ⟨b721, rfl⟩)
 refine aP 16 rfl (qA rfl) rfl ?_
 refine A4 17 ?_
 refine H8 rfl ?_
 refine aP 18 rfl (qA rfl) rfl ?_
 refine A5 ?_
 (refine H3 Pk.here (fun G5 hle5 hsl5 hno5 => ?_))
 refine B9 ?_
 refine D1 (rT rfl) (rC rfl (A6 rfl rfl)) (rT rfl) ?_
 (refine L7.two hsl5 (K8 _) (K8 _) (A0u _) ?_; rw [W5 (by omega)]; first | (rw [if_pos ⟨by assumption, by assumption⟩, if_pos (by omega)]; rfl) | (rw [if_neg (fun hc => by first | exact Bool.noConfusion (hc.1.symm.trans (by assumption)) | exact Bool.noConfusion (hc.2.symm.trans (by assumption)) | exact Bool.noConfusion (hc.symm.trans (by assumption)))]; rfl))
 refine B0 ?_
 refine sB (qE rfl rfl) rfl rfl (fun h740 => ?_) (fun h740 => ?_)
 refine B0 ?_
 (have hl3 : n = 3 := hop.2.1 (by omega); obtain ⟨b0, o0, q0, d0, hp0, hat0, hre0, hg0⟩ := hsl.kidD hkl (i := 0) (by omega) (by omega); obtain ⟨b1, o1, q1, d1, hp1, hat1, hre1, hg1⟩ := hsl.kidD hkl (i := 1) (by omega) (by omega); cases hp0; cases hp1; obtain ⟨b2, o2, q2, d2, hp2, hat2, hre2, hg2⟩ := hsl.kidD hkl (i := 2) (by omega) (by omega); cases hp2; refine D8 D9 rfl ?_)
 refine I6 (i := 0) (l' := [tt,ff,ff,ff,ff,ff,ff,ff,ff,ff,ff,ff,ff,ff,ff,ff]) rfl D3 (qM rfl) rfl (by kernel_rfl) rfl rfl ?_
 refine aP 1 rfl (B6 (j := 0) rfl rfl rfl (by omega)) rfl ?_
 refine aL 2 rfl (A3 rfl rfl (hat0 _) rfl) rfl ?_
 refine aL 3 rfl (A6 rfl rfl) rfl ?_
 refine A4 4 ?_
 refine S2 rfl rfl ((A0c _ _ _ _ _ hre0 (A0u _))) rfl rfl rfl (fun h753 => ?_) (fun h753 => ?_)
 refine aP 5 rfl (pNt rfl) rfl ?_
 refine aP 6 rfl (qM rfl) rfl ?_
 refine aP 7 rfl (qM rfl) rfl ?_
 refine aP 8 rfl (B6 (j := 1) rfl rfl rfl (by omega)) rfl ?_
 refine aL 9 rfl (A3 rfl rfl (hat1 _) rfl) rfl ?_
 refine aP 10 rfl (qM rfl) rfl ?_
 refine aP 11 rfl (B6 (j := 2) rfl rfl rfl (by omega)) rfl ?_
 refine aL 12 rfl (A3 rfl rfl (hat2 _) rfl) rfl ?_
 refine A4 13 ?_
 refine S2 rfl rfl ((A0c _ _ _ _ _ hre1 hre2)) rfl rfl rfl (fun h763 => ?_) (fun h763 => ?_)
 refine aP 14 rfl (pNt rfl) rfl ?_
 refine aP 15 rfl (P6 rfl rfl) rfl ?_
 refine B0 ?_
 (have hl3 : n = 3 := hop.2.1 (by omega); obtain ⟨b0, o0, q0, d0, hp0, hat0, hre0, hg0⟩ := hsl.kidD hkl (i := 0) (by omega) (by omega); obtain ⟨b1, o1, q1, d1, hp1, hat1, hre1, hg1⟩ := hsl.kidD hkl (i := 1) (by omega) (by omega); cases hp0; cases hp1; obtain ⟨b2, o2, q2, d2, hp2, hat2, hre2, hg2⟩ := hsl.kidD hkl (i := 2) (by omega) (by omega); cases hp2; refine D8 D9 rfl ?_)
 refine I6 (i := 0) (l' := [tt,ff,ff,ff,ff,ff,ff,ff,ff]) rfl D3 (qM rfl) rfl (by kernel_rfl) rfl rfl ?_
 refine aP 1 rfl (B6 (j := 1) rfl rfl rfl (by omega)) rfl ?_
 refine aL 2 rfl (A3 rfl rfl (hat1 _) rfl) rfl ?_
 refine aP 3 rfl (qM rfl) rfl ?_
 refine aP 4 rfl (B6 (j := 2) rfl rfl rfl (by omega)) rfl ?_
 refine aL 5 rfl (A3 rfl rfl (hat2 _) rfl) rfl ?_
 refine Q8 (j := 6) (j' := 7) (by kernel_rfl) ?_ ?_
 (refine H4 rfl rfl (A9Z _ _ _ _ _ (by assumption) (A3r har (by omega)) (A3r har (by omega)) hre1 hre2) rfl rfl rfl (fun v GM hleM hh => ?_); obtain ⟨cM, rfl, hrM⟩ := hh; obtain ⟨p7, c7, e7, rfl, _⟩ := hrM.open)
 refine A4 7 ?_
 (refine E6 rfl (A8 rfl) rfl rfl ?_; rintro _ ⟨b782, rfl⟩)
 refine A4 8 ?_
 refine H8 rfl ?_
 refine B9 ?_
 (have hl3 : n = 3 := hop.2.1 (by omega); obtain ⟨b0, o0, q0, d0, hp0, hat0, hre0, hg0⟩ := hsl.kidD hkl (i := 0) (by omega) (by omega); obtain ⟨b1, o1, q1, d1, hp1, hat1, hre1, hg1⟩ := hsl.kidD hkl (i := 1) (by omega) (by omega); cases hp0; cases hp1; obtain ⟨b2, o2, q2, d2, hp2, hat2, hre2, hg2⟩ := hsl.kidD hkl (i := 2) (by omega) (by omega); cases hp2; refine D8 D9 rfl ?_)
 refine L3 (i := 0) (l' := [tt,ff,ff,ff,ff,ff,ff,ff]) rfl D3 (A6 rfl rfl) rfl (by kernel_rfl) rfl rfl ?_
 refine aL 1 rfl (A6 rfl rfl) rfl ?_
 refine aL 2 rfl (A6 rfl rfl) rfl ?_
 refine aL 4 rfl (A6 rfl rfl) rfl ?_
 refine A4 3 ?_
 (refine E6 rfl (D2 rfl rfl rfl (by omega) (by unfold maxLen; omega) rfl) rfl rfl ?_; rintro _ ⟨b794, rfl⟩)
 refine aP 5 rfl (qA rfl) rfl ?_
 refine A4 6 ?_
 refine H8 rfl ?_
 refine aP 7 rfl (qA rfl) rfl ?_
 refine A5 ?_
 (refine H3 Pk.here (fun G5 hle5 hsl5 hno5 => ?_))
 refine B9 ?_
 refine D1 (rT rfl) (rC rfl (A6 rfl rfl)) (rT rfl) ?_
 exact A90
 (refine E6 rfl (A8 rfl) rfl rfl ?_; rintro _ ⟨b807, rfl⟩)
 refine A4 6 ?_
 (refine H4 rfl rfl (A9Z _ _ _ _ _ (by assumption) (A3r har (by omega)) (A3r har (by omega)) hre1 hre2) rfl rfl rfl (fun v GM hleM hh => ?_); obtain ⟨cM, rfl, hrM⟩ := hh; obtain ⟨p7, c7, e7, rfl, _⟩ := hrM.open)
 refine A4 8 ?_
 refine H8 rfl ?_
 refine B9 ?_
 (have hl3 : n = 3 := hop.2.1 (by omega); obtain ⟨b0, o0, q0, d0, hp0, hat0, hre0, hg0⟩ := hsl.kidD hkl (i := 0) (by omega) (by omega); obtain ⟨b1, o1, q1, d1, hp1, hat1, hre1, hg1⟩ := hsl.kidD hkl (i := 1) (by omega) (by omega); cases hp0; cases hp1; obtain ⟨b2, o2, q2, d2, hp2, hat2, hre2, hg2⟩ := hsl.kidD hkl (i := 2) (by omega) (by omega); cases hp2; refine D8 D9 rfl ?_)
 refine L3 (i := 0) (l' := [tt,ff,ff,ff,ff,ff,ff,ff]) rfl D3 (A6 rfl rfl) rfl (by kernel_rfl) rfl rfl ?_
 refine aL 1 rfl (A6 rfl rfl) rfl ?_
 refine aL 2 rfl (A6 rfl rfl) rfl ?_
 refine aL 4 rfl (A6 rfl rfl) rfl ?_
 refine A4 3 ?_
 (refine E6 rfl (D2 rfl rfl rfl (by omega) (by unfold maxLen; omega) rfl) rfl rfl ?_; rintro _ ⟨b821, rfl⟩)
 refine aP 5 rfl (qA rfl) rfl ?_
 refine A4 6 ?_
 refine H8 rfl ?_
 refine aP 7 rfl (qA rfl) rfl ?_
 refine A5 ?_
 (refine H3 Pk.here (fun G5 hle5 hsl5 hno5 => ?_))
 refine B9 ?_
 refine D1 (rT rfl) (rC rfl (A6 rfl rfl)) (rT rfl) ?_
 exact A90
 refine aP 14 rfl (pNf rfl) rfl ?_
 refine aP 15 rfl (P6 rfl rfl) rfl ?_
 refine H6 ?_
 refine D1 (rT rfl) (rC rfl (A6 rfl rfl)) (rT rfl) ?_
 exact A91
 refine aP 5 rfl (pNf rfl) rfl ?_
 refine aP 6 rfl (qM rfl) rfl ?_
 refine C5 7 rfl rfl rfl ?_
 refine C5 8 rfl rfl rfl ?_
 refine C5 9 rfl rfl rfl ?_
 refine C5 10 rfl rfl rfl ?_
 refine C5 11 rfl rfl rfl ?_
 refine C5 12 rfl rfl rfl ?_
 refine C5 13 rfl rfl rfl ?_
 refine C5 14 rfl rfl rfl ?_
 refine aP 15 rfl (N3 rfl rfl) rfl ?_
 refine H6 ?_
 refine D1 (rT rfl) (rC rfl (A6 rfl rfl)) (rT rfl) ?_
 exact A91
 refine B0 ?_
 refine sB (qE rfl rfl) rfl rfl (fun h887 => ?_) (fun h887 => ?_)
 refine B2 ?_
 (have hl2 : n = 2 := hop.1 (by omega); obtain ⟨b0, o0, q0, d0, hp0, hat0, hre0, hg0⟩ := hsl.kidD hkl (i := 0) (by omega) (by omega); obtain ⟨b1, o1, q1, d1, hp1, hat1, hre1, hg1⟩ := hsl.kidD hkl (i := 1) (by omega) (by omega); cases hp0; cases hp1; refine D8 D9 rfl ?_)
 refine I6 (i := 0) (l' := [tt,ff,ff,ff,ff,ff,ff,ff,ff,ff]) rfl D3 (qM rfl) rfl (by kernel_rfl) rfl rfl ?_
 refine aP 1 rfl (B6 (j := 0) rfl rfl rfl (by omega)) rfl ?_
 refine aL 2 rfl (A3 rfl rfl (hat0 _) rfl) rfl ?_
 refine aP 3 rfl (qM rfl) rfl ?_
 refine aP 4 rfl (B6 (j := 1) rfl rfl rfl (by omega)) rfl ?_
 refine aL 5 rfl (A3 rfl rfl (hat1 _) rfl) rfl ?_
 refine A4 6 ?_
 (refine H4 rfl rfl (A2f 5 _ _ _ _ _ ⟨by omega, by omega⟩ hre0 hre1) rfl rfl rfl (fun v GB hleB hh => ?_); obtain ⟨cB, rfl, hrB⟩ := hh; obtain ⟨p7, c7, e7, rfl, _⟩ := hrB.open)
 refine aP 7 rfl (qA rfl) rfl ?_
 refine A4 8 ?_
 refine H8 rfl ?_
 refine aP 9 rfl (qA rfl) rfl ?_
 refine B2 ?_
 refine D1 (rT rfl) (rC rfl (A6 rfl rfl)) (rT rfl) ?_
 (have hk1 : k = 10 := (by omega); subst hk1; exact L7.nil hrB A5i)
 refine B0 ?_
 refine sB (qE rfl rfl) rfl rfl (fun h919 => ?_) (fun h919 => ?_)
 refine B2 ?_
 (have hl1 : n = 1 := hop.2.2 (by omega); obtain ⟨b0, o0, q0, d0, hp0, hat0, hre0, hg0⟩ := hsl.kidD hkl (i := 0) (by omega) (by omega); cases hp0; refine D8 D9 rfl ?_)
 refine I6 (i := 0) (l' := [tt,ff,ff,ff,ff,ff,ff,ff,ff,ff,ff,ff,ff,ff]) rfl D3 (B8 rfl) rfl (by kernel_rfl) rfl rfl ?_
 refine aL 1 rfl (A6 rfl rfl) rfl ?_
 refine aP 3 rfl (B8 rfl) rfl ?_
 refine aL 4 rfl (A6 rfl rfl) rfl ?_
 refine aP 5 rfl (qM rfl) rfl ?_
 refine aP 6 rfl (B6 (j := 0) rfl rfl rfl (by omega)) rfl ?_
 refine aL 7 rfl (A3 rfl rfl (hat0 _) rfl) rfl ?_
 refine aP 8 rfl (B8 rfl) rfl ?_
 refine aL 9 rfl (A6 rfl rfl) rfl ?_
 refine Q8 (j := 2) (j' := 10) (by kernel_rfl) ?_ ?_
 (refine E6 rfl (D2 rfl rfl rfl (by omega) (by unfold maxLen; omega) rfl) rfl rfl ?_; rintro _ ⟨b936, rfl⟩)
 refine A4 10 ?_
 refine S2 rfl rfl ((A0c _ _ _ _ _ hre0 hrty)) rfl rfl rfl (fun h938 => ?_) (fun h938 => ?_)
 refine aP 11 rfl (qA rfl) rfl ?_
 refine A4 12 ?_
 refine H8 rfl ?_
 refine aP 13 rfl (qA rfl) rfl ?_
 refine A5 ?_
 (refine H3 Pk.here (fun G5 hle5 hsl5 hno5 => ?_))
 refine B9 ?_
 refine D1 (rT rfl) (rC rfl (A6 rfl rfl)) (rT rfl) ?_
 (have hk1 : k = 13 := (by omega); subst hk1; refine L7.one hsl5 (hrty.mono hle5) (hrty.mono hle5) ?_; rw [A2Q]; split <;> first | rfl | (exfalso; simp_all; done))
 refine aP 11 rfl (qA rfl) rfl ?_
 refine A4 12 ?_
 refine H8 rfl ?_
 refine aP 13 rfl (qA rfl) rfl ?_
 refine A5 ?_
 (refine H3 Pk.here (fun G5 hle5 hsl5 hno5 => ?_))
 refine B9 ?_
 refine D1 (rT rfl) (rC rfl (A6 rfl rfl)) (rT rfl) ?_
 (have hk1 : k = 13 := (by omega); subst hk1; refine L7.one hsl5 (hrty.mono hle5) (hrty.mono hle5) ?_; rw [A2Q]; split <;> first | rfl | (exfalso; simp_all; done))
 refine S2 rfl rfl ((A0c _ _ _ _ _ hre0 hrty)) rfl rfl rfl (fun h963 => ?_) (fun h963 => ?_)
 refine A4 2 ?_
 (refine E6 rfl (D2 rfl rfl rfl (by omega) (by unfold maxLen; omega) rfl) rfl rfl ?_; rintro _ ⟨b965, rfl⟩)
 refine aP 11 rfl (qA rfl) rfl ?_
 refine A4 12 ?_
 refine H8 rfl ?_
 refine aP 13 rfl (qA rfl) rfl ?_
 refine A5 ?_
 (refine H3 Pk.here (fun G5 hle5 hsl5 hno5 => ?_))
 refine B9 ?_
 refine D1 (rT rfl) (rC rfl (A6 rfl rfl)) (rT rfl) ?_
 (have hk1 : k = 13 := (by omega); subst hk1; refine L7.one hsl5 (hrty.mono hle5) (hrty.mono hle5) ?_; rw [A2Q]; split <;> first | rfl | (exfalso; simp_all; done))
 refine A4 2 ?_
 (refine E6 rfl (D2 rfl rfl rfl (by omega) (by unfold maxLen; omega) rfl) rfl rfl ?_; rintro _ ⟨b979, rfl⟩)
 refine aP 11 rfl (qA rfl) rfl ?_
 refine A4 12 ?_
 refine H8 rfl ?_
 refine aP 13 rfl (qA rfl) rfl ?_
 refine A5 ?_
 (refine H3 Pk.here (fun G5 hle5 hsl5 hno5 => ?_))
 refine B9 ?_
 refine D1 (rT rfl) (rC rfl (A6 rfl rfl)) (rT rfl) ?_
 (have hk1 : k = 13 := (by omega); subst hk1; refine L7.one hsl5 (hrty.mono hle5) (hrty.mono hle5) ?_; rw [A2Q]; split <;> first | rfl | (exfalso; simp_all; done))
 refine J0 ?_
 (have hk11 : k = 11 ∨ k = 12 := (by omega); have hl1 : n = 1 := hop.2.2 (by omega); obtain ⟨b0, o0, q0, d0, hp0, hat0, hre0, hg0⟩ := hsl.kidD hkl (i := 0) (by omega) (by omega); cases hp0; refine sP (B6 (j := 0) rfl rfl rfl (by omega)) rfl rfl ?_)
 refine sL (A3 rfl rfl (hat0 _) rfl) rfl rfl ?_
 (refine E5 rfl (A9Y 5 (h.getD 0 B4) G _ (.inr rfl) (A3r har (by omega)) hre0) rfl rfl (fun v G1 hle1 hh => ?_); obtain ⟨ma, mca, mb, mcb, rfl, hma, hmb, hma2, hmb2, hmm⟩ := hh; obtain ⟨p1, c1, e1, rfl, _⟩ := hma.open; obtain ⟨p2, c2, e2, rfl, _⟩ := hmb.open)
 refine B7 ?_
 refine sE (A8 rfl) rfl (fun b1009 => ?_)
 refine sE (A8 rfl) rfl (fun b1010 => ?_)
 refine D0 ?_
 refine sE (A8 rfl) rfl (fun b1019 => ?_)
 refine D0 ?_
 refine sB (qE rfl rfl) rfl rfl (fun h1028 => ?_) (fun h1028 => ?_)
 refine E1 ?_
 (have hl1 : n = 1 := hop.2.2 (by omega); obtain ⟨b0, o0, q0, d0, hp0, hat0, hre0, hg0⟩ := hsl.kidD hkl (i := 0) (by omega) (by omega); cases hp0; refine D8 D9 rfl ?_)
 refine L3 (i := 0) (l' := [tt,ff,ff,ff,ff,ff,ff,ff,ff]) rfl D3 (A6 rfl rfl) rfl (by kernel_rfl) rfl rfl ?_
 refine aL 1 rfl (A6 rfl rfl) rfl ?_
 refine aL 4 rfl (A6 rfl rfl) rfl ?_
 refine aP 5 rfl (qM rfl) rfl ?_
 refine A4 2 ?_
 (refine H4 rfl rfl (A2f _ ma mb _ _ _ ⟨by omega, by omega⟩ hma hmb) rfl rfl rfl (fun v GB hleB hh => ?_); obtain ⟨cB, rfl, hrB⟩ := hh; obtain ⟨p7, c7, e7, rfl, _⟩ := hrB.open; have hma' := hma.mono hleB; have hmb' := hmb.mono hleB)
 refine A4 3 ?_
 (refine E6 rfl (D2 rfl rfl rfl (by omega) (by unfold maxLen; omega) rfl) rfl rfl ?_; rintro _ ⟨b1046, rfl⟩)
 refine aP 6 rfl (qA rfl) rfl ?_
 refine A4 7 ?_
 refine H8 rfl ?_
 refine aP 8 rfl (qA rfl) rfl ?_
 refine A5 ?_
 (refine H3 Pk.here (fun G5 hle5 hsl5 hno5 => ?_))
 refine tT ?_
 refine D1 (rT rfl) (rC rfl (A6 rfl rfl)) (rT rfl) ?_
 (refine L7.one hsl5 (hrB.mono hle5) (hmb'.mono hle5) ?_; rw [A3s (by omega)]; cases hq : R6 5 (h.getD 0 B4) with | none => rfl | some q => (have hq2 := hmm q hq; subst hq2; dsimp only; rw [if_pos (by omega)]; rfl))
 refine B0 ?_
 (have hl1 : n = 1 := hop.2.2 (by omega); obtain ⟨b0, o0, q0, d0, hp0, hat0, hre0, hg0⟩ := hsl.kidD hkl (i := 0) (by omega) (by omega); cases hp0; refine D8 D9 rfl ?_)
 refine L3 (i := 0) (l' := [tt,ff,ff,ff,ff,ff,ff,ff,ff]) rfl D3 (A6 rfl rfl) rfl (by kernel_rfl) rfl rfl ?_
 refine aL 1 rfl (A6 rfl rfl) rfl ?_
 refine aL 4 rfl (A6 rfl rfl) rfl ?_
 refine aP 5 rfl (qM rfl) rfl ?_
 refine A4 2 ?_
 (refine H4 rfl rfl (A2f _ ma mb _ _ _ ⟨by omega, by omega⟩ hma hmb) rfl rfl rfl (fun v GB hleB hh => ?_); obtain ⟨cB, rfl, hrB⟩ := hh; obtain ⟨p7, c7, e7, rfl, _⟩ := hrB.open; have hma' := hma.mono hleB; have hmb' := hmb.mono hleB)
 refine A4 3 ?_
 (refine E6 rfl (D2 rfl rfl rfl (by omega) (by unfold maxLen; omega) rfl) rfl rfl ?_; rintro _ ⟨b1071, rfl⟩)
 refine aP 6 rfl (qA rfl) rfl ?_
 refine A4 7 ?_
 refine H8 rfl ?_
 refine aP 8 rfl (qA rfl) rfl ?_
 refine A5 ?_
 (refine H3 Pk.here (fun G5 hle5 hsl5 hno5 => ?_))
 refine tT ?_
 refine D1 (rT rfl) (rC rfl (A6 rfl rfl)) (rT rfl) ?_
 (refine L7.one hsl5 (hrB.mono hle5) (hma'.mono hle5) ?_; rw [A3s (by omega)]; cases hq : R6 5 (h.getD 0 B4) with | none => rfl | some q => (have hq2 := hmm q hq; subst hq2; dsimp only; rw [if_neg (by omega)]; rfl))
theorem A4c {cx : Cx} {k : Int} {nm : ByteArray} {ty : Ty} {h w : List Ty} {t : Ty} (he : T6 cx k nm ty h = some (w, t)) : F4 t = true ∧ J7 cx k nm ty h = some (w, t) := by
 unfold T6 at he
 split at he
 ·rename_i w' t' hw
  split at he
  ·cases he; exact ⟨by assumption, hw⟩
  ·cases he
 ·cases he
theorem B4P {cx : Cx} {k : Int} {nm : ByteArray} {num : Int} {ty fr : Ty} {lb : Int} {ks : List Tm} {t : Ty} (h14 : k = 14 → F4 ty = true) (h : I2 cx (.mk k nm num ty fr lb ks) = some t) : F4 t = true := by
 rw [I2] at h
 split at h
 ·cases h
 ·split at h
  ·rename_i hk
   split at h
   ·cases h; exact h14 hk
   ·cases h
  ·split at h
   ·cases h
   ·rename_i w u hw
    split at h
    ·cases h; exact (A4c hw).1
    ·cases h
theorem B4Q {cx : Cx} {k : Int} {nm : ByteArray} {ty : Ty} {h w : List Ty} {t : Ty} (hop : (k = 6 ∨ k = 7 ∨ k = 8 ∨ k = 10 → h.length = 2) ∧ (k = 9 → h.length = 3) ∧ (k = 5 ∨ k = 11 ∨ k = 12 ∨ k = 13 → h.length = 1)) (hk : 1 ≤ k ∧ k ≤ 14) (h14 : k ≠ 14) (he : J7 cx k nm ty h = some (w, t)) : w.length ≤ h.length := by
 have hkk : k = 1 ∨ k = 2 ∨ (k = 3 ∨ k = 4) ∨ k = 5 ∨ k = 6 ∨ (k = 7 ∨ k = 8) ∨ k = 9 ∨ k = 10 ∨ (k = 11 ∨ k = 12) ∨ k = 13 := by omega
 rcases hkk with rfl | rfl | hk | rfl | rfl | hk | rfl | rfl | hk | rfl
 ·rw [mW1] at he; split at he <;> cases he; simp
 ·rw [mW2] at he; cases he; simp
 ·rw [A4b hk] at he; cases he; simp
 ·rw [mW5] at he; cases he; simp
 ·rw [mW6] at he
  split at he
  ·split at he <;> cases he
   have := hop.1 (by omega); simp [this]
  ·cases he
 ·rw [W5 hk] at he
  split at he <;> cases he
  have := hop.1 (by omega); simp [this]
 ·rw [mW9] at he
  split at he <;> cases he
  have := hop.2.1 (by omega); simp [this]
 ·rw [A5i] at he; cases he; simp
 ·rw [A3s hk] at he
  split at he
  ·cases he; have := hop.2.2 (by omega); simp [this]
  ·cases he
 ·rw [A2Q] at he
  split at he <;> cases he
  have := hop.2.2 (by omega); simp [this]
theorem T4.snoc {G G' : IM} {cx : Cx} {n : Nat} {p' : Option Addr} {c' : Nat} {es : List (List Value)} {e : List Value} {nm : ByteArray} {t : Ty} (h1 : n = cx.length) (hl : es.length = n) (h2 : ∀ x ∈ es, x.length = 3) (h3 : ∀ x ∈ es, x.all (·.oneCell') = true)
  (h4 : ∀ (i : Nat) (b : ByteArray × Ty), cx[i]? = some b → ∃ e, es[i]? = some e ∧ A3q G b e) (hg : C6 G G') (he : A3q G' (nm, t) e) (hs : Sl G' p' (n + 1) c' 3 (es.flatten ++ e)) : T4 G' (cx ++ [(nm, t)]) p' (n + 1) c' := by
 have hel : e.length = 3 ∧ e.all (·.oneCell') = true := by obtain ⟨q, d, rfl, _⟩ := he; exact ⟨rfl, rfl⟩
 refine ⟨by simp [h1], es ++ [e], E0.of (by simpa using hs) (by simp [hl]) ?_ ?_, ?_⟩
 ·simp only [List.forall_mem_append, List.forall_mem_singleton]; exact ⟨h2, hel.1⟩
 ·simp only [List.forall_mem_append, List.forall_mem_singleton]; exact ⟨h3, hel.2⟩
 ·intro i b hb
  rw [List.getElem?_append] at hb ⊢
  split at hb
  ·rename_i hi
   obtain ⟨e', he', hr⟩ := h4 i b hb
   rw [if_pos (by omega)]
   exact ⟨e', he', hr.mono hg⟩
  ·rename_i hi
   have : i - cx.length = 0 := by
    apply Classical.byContradiction; intro hc
    rw [List.getElem?_eq_none (by simp; omega)] at hb; cases hb
   rw [this] at hb
   simp only [List.getElem?_cons_zero, Option.some.injEq] at hb
   subst hb
   rw [if_neg (by omega)]
   exact ⟨e, by rw [show i - es.length = 0 by omega]; rfl, he⟩
theorem B4R (G : IM) (p : Option Addr) (n c : Nat) (es : List (List Value)) (h : E0 G p n c 3 es) (hn : n ≤ 4294967296) :
  Fn Tryz.prog 66 [.slice p n c] [] G (fun G' v outs => G' = G ∧ ∃ p' c', v = .slice p' n c' ∧ outs = [.slc p' c' 83 3 n es.flatten]) := by
 have hp := h.sl.nn
 have hS := h.sl
 have hone : ∀ u ∈ es.flatten, u.oneCell' = true := by
  intro u hu
  obtain ⟨e, he, hue⟩ := List.mem_flatten.1 hu
  exact List.all_eq_true.1 (h.one e he) u hue
 refine C2 Tryz.func66 rfl Tryz.ntmps66 Tryz.results66 rfl ?_
 intro w0
 cases p with
 | none =>
  obtain rfl := hp rfl
  obtain rfl : es = [] := List.length_eq_zero_iff.1 h.len
  refine U9 83 3 ?_
  refine E1 ?_
  refine sQ (B2y rfl rfl rfl) rfl ?_
  refine J0 ?_
  refine H7 (rT rfl) A0.refl ?_
  exact ⟨rfl, _, _, rfl, rfl⟩
 | some a =>
  refine E1 ?_
  refine sQ (A7Z rfl rfl rfl) rfl ?_
  refine B5 ?_
  (refine J5 (D2 rfl rfl rfl (by omega) (by unfold maxLen; omega) rfl) rfl ?_; rintro _ ⟨b18, rfl⟩)
  refine F0 ?_
  refine A6w rfl rfl rfl rfl rfl (fun _ _ => by repeat (first | exact Sw.here | apply Sw.there)) hS hone (Nat.zero_le _) (by unfold maxLen; omega) (by omega) rfl (fun pn cn => ?_)
  refine B7 ?_
  refine H7 (rT rfl) A0.refl ?_
  exact ⟨rfl, _, _, by rw [Nat.zero_add], by rw [Nat.zero_add]; rfl⟩
theorem Y4.no {r : Option Ty} {G G' : IM} {cu : List Value} {u : Ty} {b : Bool} (hu : C1 G' u cu) (hb : b = false) (h : r = none) : Y4 r G G' (.tuple ⟨[.agg ⟨cu⟩, .bool b]⟩) [] := by
 subst hb h
 exact ⟨rfl, cu, u, rfl, hu, by simp⟩
theorem Y4.yes {r : Option Ty} {G G' : IM} {cu : List Value} {u : Ty} {b : Bool} (hu : C1 G' u cu) (hb : b = true) (h : r = some u) : Y4 r G G' (.tuple ⟨[.agg ⟨cu⟩, .bool b]⟩) [] := by
 subst hb h
 exact ⟨rfl, cu, u, rfl, hu, fun t ht => by cases ht; rfl⟩
section
variable {cx : Cx} {k : Int} {nm : ByteArray} {num : Int} {ty fr : Ty} {lb : Int} {ks : List Tm}
theorem A5j {us w : List Ty} {t : Ty} (h : J7 cx k nm ty us = some (w, t)) {b : Bool} (hb : F4 t = b) : T6 cx k nm ty us = if b = true then some (w, t) else none := by
 unfold T6; rw [h]; simp only [hb]
theorem B4S {us : List Ty} (h : J7 cx k nm ty us = none) : T6 cx k nm ty us = none := by
 unfold T6; rw [h]
end
def B4T (r : Tm) : Tm × Bool := if M9 r = true then (r, true) else (I3, false)
def B8v (t : Tm) (path : List Int) (x : Tm) : Tm × Bool := if M9 t = true ∧ M9 x = true ∧ tAt t path ≠ none then B4T (A9H t path x) else (I3, false)
mutual
theorem A6N (D N : Int) : ∀ (t : Tm) (d d' : Int), d' ≤ d → M8 D N t d = true → M8 D N t d' = true
 | .mk k nm num ty fr lb ks, d, d', hd, h => by
  obtain ⟨h1, h2, h3, h4⟩ := A0s h
  rw [A2E (by omega) h2 h3]
  exact A5k D N ks _ _ (by omega) h4
theorem A5k (D N : Int) : ∀ (ts : List Tm) (d d' : Int), d' ≤ d → O0 D N ts d = true → O0 D N ts d' = true
 | [], d, d', hd, h => by rw [O0]
 | t :: ts, d, d', hd, h => by
  rw [O0, Bool.and_eq_true] at h ⊢
  exact ⟨A6N D N t d d' hd h.1, A5k D N ts d d' hd h.2⟩
end
theorem A92 (cy : Cx) (nm : ByteArray) : ∀ (cx : Cx) (n : Nat), n ≤ cx.length → ∀ t, V8 cx nm n = some t → V8 (cy ++ cx) nm (cy.length + n) = some t
 | cx, 0, _, t, h => by rw [V8] at h; cases h
 | cx, n + 1, hn, t, h => by
  have hb : cx[n]? = some cx[n] := List.getElem?_eq_getElem (by omega)
  have hb2 : (cy ++ cx)[cy.length + n]? = some (cx[n].1, cx[n].2) := by
   rw [List.getElem?_append_right (by omega), show cy.length + n - cy.length = n by omega]; exact hb
  by_cases he : cx[n].1 = nm
  ·rw [A33 (x := cx[n].1) (t := cx[n].2) hb he] at h
   rw [← Nat.add_assoc, A33 hb2 he]; exact h
  ·rw [A34 (x := cx[n].1) (t := cx[n].2) hb he] at h
   rw [← Nat.add_assoc, A34 hb2 he]
   exact A92 cy nm cx n (by omega) t h
theorem B4U {cy cx : Cx} {nm : ByteArray} {t : Ty} (h : P4 cx nm = some t) : P4 (cy ++ cx) nm = some t := by
 unfold P4 at h ⊢
 rw [List.length_append]
 exact A92 cy nm cx _ (Nat.le_refl _) t h
theorem B4V {cy cx : Cx} {k : Int} {nm : ByteArray} {ty : Ty} {h : List Ty} {r : List Ty × Ty} (hr : J7 cx k nm ty h = some r) : J7 (cy ++ cx) k nm ty h = some r := by
 unfold J7 at hr ⊢
 split
 ·rename_i hk
  rw [if_pos hk] at hr
  split at hr
  ·rename_i t ht; rw [B4U ht]; exact hr
  ·cases hr
 ·rename_i hk
  rw [if_neg hk] at hr
  exact hr
theorem B4W {cy cx : Cx} {k : Int} {nm : ByteArray} {ty : Ty} {h : List Ty} {r : List Ty × Ty} (hr : T6 cx k nm ty h = some r) : T6 (cy ++ cx) k nm ty h = some r := by
 unfold T6 at hr ⊢
 split at hr
 ·rename_i w t hw; rw [B4V hw]; exact hr
 ·cases hr
theorem B4X (cy cx : Cx) (k : Int) (nm : ByteArray) (ty : Ty) : K1 (cy ++ cx) k nm ty = cy ++ K1 cx k nm ty := by
 unfold K1; split <;> simp
mutual
theorem A93 (cy : Cx) : ∀ (e : Tm) (cx : Cx) (t : Ty), I2 cx e = some t → I2 (cy ++ cx) e = some t
 | .mk k nm num ty fr lb ks, cx, t, h => by
  rw [I2] at h ⊢
  split at h
  ·cases h
  ·rename_i hs hh
   rw [B4X, A94 cy ks _ hs hh]
   dsimp only
   split at h
   ·rename_i hk; rw [if_pos hk]; exact h
   ·rename_i hk
    rw [if_neg hk]
    split at h
    ·cases h
    ·rename_i w u hw
     rw [B4W hw]; exact h
theorem A94 (cy : Cx) : ∀ (ts : List Tm) (cx : Cx) (us : List Ty), M4 cx ts = some us → M4 (cy ++ cx) ts = some us
 | [], cx, us, h => by rw [M4] at h ⊢; exact h
 | t :: ts, cx, us, h => by
  rw [M4] at h ⊢
  split at h
  ·cases h
  ·rename_i u hu
   split at h
   ·cases h
   ·rename_i us' hus
    rw [A93 cy t cx u hu]
    dsimp only
    rw [A94 cy ts cx us' hus]
    exact h
end
theorem A95 {cx : Cx} : ∀ {ks : List Tm} {h : List Ty}, M4 cx ks = some h → ∀ (j : Nat) (hj : j < ks.length), ∃ u, I2 cx ks[j] = some u ∧ ∀ x, I2 cx x = some u → M4 cx (ks.set j x) = some h
 | [], h, _, j, hj => by simp at hj
 | t :: ts, h, he, j, hj => by
  rw [M4] at he
  split at he
  ·cases he
  ·rename_i u hu
   split at he
   ·cases he
   ·rename_i us hus
    cases he
    cases j with
    | zero => exact ⟨u, hu, fun x hx => by rw [List.set_cons_zero, M4, hx]; dsimp only; rw [hus]⟩
    | succ j =>
     obtain ⟨v, hv, hv2⟩ := A95 hus j (by simpa using hj)
     exact ⟨v, hv, fun x hx => by rw [List.set_cons_succ, M4, hu]; dsimp only; rw [hv2 x hx]⟩
def H2 : List Tm → List Ty → List Ty → Int → List Tm × Int
 | u :: us, a :: h, b :: w, l => if M5 a b = true then (u :: (H2 us h w l).1, (H2 us h w l).2) else (K7 u a b (l + 1) :: (H2 us h w (l + 1)).1, (H2 us h w (l + 1)).2)
 | us, _, _, l => (us, l)
def Q7 (cx : Cx) (k : Int) (nm : ByteArray) (num : Int) (ty fr : Ty) (lb : Int) (us : List Tm) (h : List Ty) (l : Int) : Option (Tm × Ty × Int) :=
 match T6 cx k nm ty h with
 | none => none
 | some (w, t) => some (if k = 13 then (H2 us h w l).1.getD 0 I3 else .mk k nm num ty fr lb (H2 us h w l).1, t, (H2 us h w l).2)
mutual
def M6 (cx : Cx) : Tm → Int → Option (Tm × Ty × Int)
 | .mk k nm num ty fr lb ks, l => match L9 (K1 cx k nm ty) ks l with
  | none => none
  | some (us, h, l') => Q7 cx k nm num ty fr lb us h l'
def L9 (cx : Cx) : List Tm → Int → Option (List Tm × List Ty × Int)
 | [], l => some ([], [], l)
 | t :: ts, l => match M6 cx t l with
  | none => none
  | some (u, a, l') => match L9 cx ts l' with
   | none => none
   | some (us, h, l'') => some (u :: us, a :: h, l'')
end
def T7 (e : Tm) : Option (Tm × Ty) := if S9 e = true then (match M6 [] e 0 with | some (u, t, _) => some (u, t) | none => none) else none
def X9 (cx : Cx) (k : Int) (nm : ByteArray) (ty : Ty) (h : List Ty) : Option Ty := match J7 cx k nm ty h with
 | some (_, t) => if (k = 5 ∨ k = 10) ∧ F4 t = false then none else some t
 | none => none
mutual
def Q3 (cx : Cx) : Tm → Option Ty
 | .mk k nm num ty fr lb ks => match W6 (K1 cx k nm ty) ks with
  | none => none
  | some h => X9 cx k nm ty h
def W6 (cx : Cx) : List Tm → Option (List Ty)
 | [] => some []
 | t :: ts => match Q3 cx t with
  | none => none
  | some a => match W6 cx ts with
   | none => none
   | some h => some (a :: h)
end
theorem A2g (k : Int) (ks : List Ty) (d : Int) : O7 (.mk k ks) d = (decide (d ≤ 4) && decide (V1 k = ks.length) && U2 ks (d + 1)) := by rw [O7]
mutual
theorem A4d : ∀ (t : Ty) (d e : Int), e ≤ d → O7 t d = true → O7 t e = true
 | .mk k ks, d, e, h, hs => by
  rw [A2g, Bool.and_eq_true, Bool.and_eq_true, decide_eq_true_eq, decide_eq_true_eq] at hs ⊢
  exact ⟨⟨by omega, hs.1.2⟩, A96 ks (d + 1) (e + 1) (by omega) hs.2⟩
theorem A96 : ∀ (ts : List Ty) (d e : Int), e ≤ d → U2 ts d = true → U2 ts e = true
 | [], d, e, h, hs => by rw [U2]
 | t :: ts, d, e, h, hs => by
  rw [U2, Bool.and_eq_true] at hs ⊢
  exact ⟨A4d t d e h hs.1, A96 ts d e h hs.2⟩
end
mutual
theorem A6O : ∀ (a b : Ty) (d : Int), K5 a b = true → O7 a d = true → O7 b d = true → O7 (U8 a b) d = true
 | .mk k ks, .mk k' ks', d, hc, ha, hb => by
  rw [A1a]
  split
  ·exact hb
  ·split
   ·exact ha
   ·rw [U6] at hc
    rw [A2g, Bool.and_eq_true, Bool.and_eq_true, decide_eq_true_eq, decide_eq_true_eq] at ha hb ⊢
    simp only [Bool.or_eq_true, Bool.and_eq_true, decide_eq_true_eq] at hc
    obtain ⟨hk, hl⟩ : k = k' ∧ N8 ks ks' = true := by
     rcases hc with (h | h) | h
     ·contradiction
     ·contradiction
     ·exact h
    subst hk
    obtain ⟨m1, m2⟩ := A97 ks ks' (d + 1) hl ha.2 hb.2
    exact ⟨⟨ha.1.1, by rw [m2]; exact ha.1.2⟩, m1⟩
theorem A97 : ∀ (xs ys : List Ty) (d : Int), N8 xs ys = true → U2 xs d = true → U2 ys d = true → U2 (T2 xs ys) d = true ∧ (T2 xs ys).length = xs.length
 | [], [], d, _, _, _ => by simp [T2, U2]
 | [], b :: ys, d, hc, _, _ => by simp [N8] at hc
 | a :: xs, [], d, hc, _, _ => by simp [N8] at hc
 | a :: xs, b :: ys, d, hc, ha, hb => by
  rw [N8, Bool.and_eq_true] at hc
  rw [U2, Bool.and_eq_true] at ha hb
  obtain ⟨m1, m2⟩ := A97 xs ys d hc.2 ha.2 hb.2
  rw [T2, U2, Bool.and_eq_true]
  exact ⟨⟨A6O a b d hc.1 ha.1 hb.1, m1⟩, by simp [m2]⟩
end
theorem A6P {cx : Cx} (h : ∀ b ∈ cx, F4 b.2 = true) {nm : ByteArray} {t : Ty} : ∀ {n : Nat}, V8 cx nm n = some t → F4 t = true
 | 0, hl => by simp [V8] at hl
 | n + 1, hl => by
  rw [V8] at hl
  split at hl
  ·rename_i b hb
   split at hl
   ·cases hl; exact h b (List.mem_of_getElem? hb)
   ·exact A6P h hl
  ·exact A6P h hl
theorem A98 {k : Int} {t a b : Ty} (hk : k = 4 ∨ k = 5) (ht : F4 t = true) (h : R6 k t = some (a, b)) : F4 a = true ∧ F4 b = true := by
 obtain ⟨tk, ks⟩ := t
 rw [show R6 k (.mk tk ks) = (if tk = k then some (ks.getD 0 B4, ks.getD 1 B4) else if tk = 1 then some (Q5, Q5) else none) from rfl] at h
 by_cases he : tk = k
 ·rw [if_pos he] at h
  cases h
  unfold F4 at ht ⊢
  rw [A2g, Bool.and_eq_true, Bool.and_eq_true, decide_eq_true_eq, decide_eq_true_eq] at ht
  have h2 : ks.length = 2 := by
   have : V1 tk = 2 := by rw [he]; rcases hk with rfl | rfl <;> rfl
   omega
  match ks, h2, ht.2 with
  | [x, y], _, hL =>
   simp only [U2, Bool.and_eq_true] at hL
   exact ⟨A4d _ 2 1 (by omega) hL.1, A4d _ 2 1 (by omega) hL.2.1⟩
 ·rw [if_neg he] at h
  by_cases h1 : tk = 1
  ·rw [if_pos h1] at h
   cases h
   exact ⟨by decide, by decide⟩
  ·rw [if_neg h1] at h; cases h
theorem B4Y {l : List Ty} {i : Nat} (h : i < l.length) : l.getD i B4 ∈ l := by
 rw [List.getD_eq_getElem?_getD, List.getElem?_eq_getElem h, Option.getD_some]; exact List.getElem_mem h
theorem B4Z {cx : Cx} {k : Int} {nm : ByteArray} {ty : Ty} {h w : List Ty} {t : Ty} (hcx : ∀ b ∈ cx, F4 b.2 = true) (hh : ∀ a ∈ h, F4 a = true) (hd : F4 (h.getD 0 B4) = true ∨ h = []) (hty : k = 13 → F4 ty = true) (hn : D7 k = (h.length : Int)) (hw : J7 cx k nm ty h = some (w, t)) (h510 : k ≠ 5 ∧ k ≠ 10) : F4 t = true := by
 have hg : ∀ i, i < h.length → F4 (h.getD i B4) = true := fun i hi => hh _ (B4Y hi)
 unfold J7 at hw
 split at hw
 ·split at hw
  ·rename_i u hu; cases hw; exact A6P hcx hu
  ·cases hw
 split at hw
 ·cases hw; decide
 split at hw
 ·cases hw; decide
 split at hw
 ·exact absurd (by assumption) h510.1
 split at hw
 ·rename_i hk6
  have hl : h.length = 2 := by have : D7 k = 2 := (by rw [hk6]; rfl); omega
  split at hw
  ·rename_i a b hm
   split at hw
   ·cases hw; exact (A98 (.inl rfl) (hg 0 (by omega)) hm).2
   ·cases hw
  ·cases hw
 split at hw
 ·split at hw
  ·cases hw; split <;> decide
  ·cases hw
 split at hw
 ·rename_i hk9
  have hl : h.length = 3 := by have : D7 k = 3 := (by rw [hk9]; rfl); omega
  split at hw
  ·rename_i hc
   cases hw
   exact A6O _ _ 1 hc.2 (hg 1 (by omega)) (hg 2 (by omega))
  ·cases hw
 split at hw
 ·exact absurd (by assumption) h510.2
 split at hw
 ·split at hw
  ·cases hw; exact hty (by assumption)
  ·cases hw
 ·split at hw
  ·rename_i a b hm
   have hl : h.length ≠ 0 := by
    intro h0
    rw [List.length_eq_zero_iff] at h0
    subst h0
    rw [show R6 5 (([] : List Ty).getD 0 B4) = none from rfl] at hm
    cases hm
   cases hw
   have := A98 (.inr rfl) (hg 0 (by omega)) hm
   split
   ·exact this.2
   ·exact this.1
  ·cases hw
def cxV (cx : Cx) : Prop := ∀ b ∈ cx, F4 b.2 = true
theorem A3t : cxV [] := by intro b hb; simp at hb
theorem A4e {cx : Cx} {k : Int} {nm : ByteArray} {ty : Ty} (h : cxV cx) (ht : k = 5 → F4 ty = true) : cxV (K1 cx k nm ty) := by
 unfold K1
 split
 ·intro b hb
  rcases List.mem_append.1 hb with hb | hb
  ·exact h b hb
  ·obtain rfl := List.mem_singleton.1 hb; exact ht (by assumption)
 ·exact h
theorem B40 {cx : Cx} {k : Int} {nm : ByteArray} {ty : Ty} {h : List Ty} (hcx : cxV cx) (hh : ∀ a ∈ h, F4 a = true) (hty : k = 13 → F4 ty = true) (hn : D7 k = (h.length : Int)) :
  (∀ w t, T6 cx k nm ty h = some (w, t) → X9 cx k nm ty h = some t ∧ F4 t = true) ∧ (T6 cx k nm ty h = none → X9 cx k nm ty h = none) := by
 unfold T6 X9
 have hv := fun w t (e : J7 cx k nm ty h = some (w, t)) (h5 : k ≠ 5 ∧ k ≠ 10) => B4Z hcx hh (by cases h with | nil => exact .inr rfl | cons x xs => exact .inl (hh _ (by simp))) hty hn e h5
 cases hw : J7 cx k nm ty h with
 | none => simp
 | some p =>
  obtain ⟨w, t⟩ := p
  have hv := hv w t hw
  simp only
  by_cases h5 : k = 5 ∨ k = 10
  ·cases ht : F4 t with
   | true => simp [ht]
   | false => simp [h5]
  ·have := hv (by omega)
   simp [this]
theorem A99 (ks : List Tm) (ih : ∀ t ∈ ks, ∀ d cx l, M8 12 14 t d = true → cxV cx → (∀ u a l', M6 cx t l = some (u, a, l') → Q3 cx t = some a ∧ F4 a = true) ∧ (M6 cx t l = none → Q3 cx t = none)) :
  ∀ d cx l, O0 12 14 ks d = true → cxV cx → (∀ us h l', L9 cx ks l = some (us, h, l') → W6 cx ks = some h ∧ (∀ a ∈ h, F4 a = true) ∧ h.length = ks.length ∧ us.length = ks.length) ∧ (L9 cx ks l = none → W6 cx ks = none) := by
 induction ks with
 | nil =>
  intro d cx l _ _
  refine ⟨fun us h l' he => ?_, fun he => by simp [L9] at he⟩
  simp only [L9, Option.some.injEq, Prod.mk.injEq] at he
  obtain ⟨rfl, rfl, _⟩ := he
  exact ⟨by rw [W6], by simp, rfl, rfl⟩
 | cons t ts ihl =>
  intro d cx l hs hcx
  rw [O0, Bool.and_eq_true] at hs
  obtain ⟨a1, a2⟩ := ih t List.mem_cons_self d cx l hs.1 hcx
  rw [L9, W6]
  cases he : M6 cx t l with
  | none => rw [a2 he]; exact ⟨fun _ _ _ h => by simp at h, fun _ => rfl⟩
  | some p =>
   obtain ⟨u, a, l1⟩ := p
   obtain ⟨b1, b2⟩ := a1 u a l1 he
   rw [b1]
   obtain ⟨c1, c2⟩ := ihl (fun x hx => ih x (List.mem_cons_of_mem _ hx)) d cx l1 hs.2 hcx
   simp only
   cases hL : L9 cx ts l1 with
   | none => rw [c2 hL]; exact ⟨fun _ _ _ h => by simp at h, fun _ => rfl⟩
   | some q =>
    obtain ⟨us, h, l2⟩ := q
    obtain ⟨d1, d2, d3, d4⟩ := c1 us h l2 hL
    rw [d1]
    refine ⟨fun us' h' l' e => ?_, fun e => by simp at e⟩
    simp only [Option.some.injEq, Prod.mk.injEq] at e
    obtain ⟨rfl, rfl, _⟩ := e
    refine ⟨rfl, fun x hx => ?_, by simp [d3], by simp [d4]⟩
    rcases List.mem_cons.1 hx with rfl | hx
    ·exact b2
    ·exact d2 x hx
theorem A3u : ∀ (t : Tm) (d : Int) (cx : Cx) (l : Int), M8 12 14 t d = true → cxV cx → (∀ u a l', M6 cx t l = some (u, a, l') → Q3 cx t = some a ∧ F4 a = true) ∧ (M6 cx t l = none → Q3 cx t = none) := by
 refine Tm.ind fun k nm num ty fr lb ks ih d cx l hs hcx => ?_
 obtain ⟨_, _, h3, h4⟩ := A0s hs
 obtain ⟨n1, _, _, _, _, n6, _⟩ := U3.1 h3
 obtain ⟨L1, L2⟩ := A99 ks ih (d + 1) (K1 cx k nm ty) l h4 (A4e hcx fun hk => n6 (by omega))
 rw [M6, Q3]
 cases hL : L9 (K1 cx k nm ty) ks l with
 | none => rw [L2 hL]; exact ⟨fun _ _ _ h => by simp at h, fun _ => rfl⟩
 | some q =>
  obtain ⟨us, h, l2⟩ := q
  obtain ⟨d1, d2, d3, d4⟩ := L1 us h l2 hL
  rw [d1]
  obtain ⟨e1, e2⟩ := B40 (k := k) (nm := nm) (ty := ty) hcx d2 (fun hk => n6 (.inr (.inl hk))) (by rw [d3]; exact n1)
  simp only [Q7]
  cases hN : T6 cx k nm ty h with
  | none => rw [e2 hN]; exact ⟨fun _ _ _ h => by simp at h, fun _ => rfl⟩
  | some p =>
   obtain ⟨w, t⟩ := p
   obtain ⟨f1, f2⟩ := e1 w t hN
   rw [f1]
   refine ⟨fun u a l' e => ?_, fun e => by simp at e⟩
   simp only [Option.some.injEq, Prod.mk.injEq] at e
   obtain ⟨_, rfl, _⟩ := e
   exact ⟨rfl, f2⟩
theorem A1n {cx : Cx} {k : Int} {nm : ByteArray} {num : Int} {ty fr : Ty} {lb : Int} {ks : List Tm} {T : Ty} (h : I2 cx (.mk k nm num ty fr lb ks) = some T) :
  ∃ us, M4 (K1 cx k nm ty) ks = some us ∧ (k = 14 → us.getD 0 B4 = fr ∧ T = ty) ∧ (k ≠ 14 → F4 T = true ∧ ∃ w, J7 cx k nm ty us = some (w, T) ∧ A0X w us = true) := by
 rw [I2] at h
 split at h
 ·cases h
 ·rename_i us hu
  refine ⟨us, hu, fun hk => ?_, fun hk => ?_⟩
  ·rw [if_pos hk] at h
   split at h
   ·rename_i hs; cases h; exact ⟨(Z2 _ _).1 hs, rfl⟩
   ·cases h
  ·rw [if_neg hk] at h
   split at h
   ·cases h
   ·rename_i w t hn
    split at h
    ·rename_i hs
     cases h
     obtain ⟨h1, h2⟩ := A4c hn
     exact ⟨h1, w, h2, hs⟩
    ·cases h
theorem A6Q {cx : Cx} {k : Int} {nm : ByteArray} {num : Int} {ty fr : Ty} {lb : Int} {ks : List Tm} {T : Ty} {us w : List Ty} (hu : M4 (K1 cx k nm ty) ks = some us) (hk : k ≠ 14) (hv : F4 T = true) (hw : J7 cx k nm ty us = some (w, T)) (hs : A0X w us = true) : I2 cx (.mk k nm num ty fr lb ks) = some T := by
 rw [I2, hu]
 simp only [if_neg hk]
 unfold T6
 rw [hw]
 simp only [hv, if_true, hs]
theorem A4f {cx : Cx} {a : Tm} {us : List Ty} (h : M4 cx [a] = some us) : ∃ x, I2 cx a = some x ∧ us = [x] := by
 rw [M4] at h
 split at h
 ·cases h
 ·rename_i x hx
  rw [M4] at h
  simp only [Option.some.injEq] at h
  exact ⟨x, hx, h.symm⟩
theorem A5l {cx : Cx} {a b : Tm} {us : List Ty} (h : M4 cx [a, b] = some us) : ∃ x y, I2 cx a = some x ∧ I2 cx b = some y ∧ us = [x, y] := by
 rw [M4] at h
 split at h
 ·cases h
 ·rename_i x hx
  split at h
  ·cases h
  ·rename_i vs hv
   obtain ⟨y, hy, rfl⟩ := A4f hv
   simp only [Option.some.injEq] at h
   exact ⟨x, y, hx, hy, h.symm⟩
theorem B41 {cx : Cx} {a b c : Tm} {us : List Ty} (h : M4 cx [a, b, c] = some us) : ∃ x y z, I2 cx a = some x ∧ I2 cx b = some y ∧ I2 cx c = some z ∧ us = [x, y, z] := by
 rw [M4] at h
 split at h
 ·cases h
 ·rename_i x hx
  split at h
  ·cases h
  ·rename_i vs hv
   obtain ⟨y, z, hy, hz, rfl⟩ := A5l hv
   simp only [Option.some.injEq] at h
   exact ⟨x, y, z, hx, hy, hz, h.symm⟩
theorem A6R {cx : Cx} {a : Tm} {x : Ty} (h : I2 cx a = some x) : M4 cx [a] = some [x] := by rw [M4, h]; rfl
theorem B42 {cx : Cx} {a b : Tm} {x y : Ty} (h : I2 cx a = some x) (h2 : I2 cx b = some y) : M4 cx [a, b] = some [x, y] := by rw [M4, h, A6R h2]
mutual
theorem A2h : ∀ a : Ty, K5 a a = true
 | .mk k ks => by rw [U6, B0a ks]; simp
theorem B0a : ∀ xs : List Ty, N8 xs xs = true
 | [] => rfl
 | a :: xs => by rw [N8, A2h a, B0a xs]; rfl
end
mutual
theorem B0b : ∀ a : Ty, U8 a a = a
 | .mk k ks => by
  rw [A1a, B0c ks]
  by_cases h : k = 1
  ·rw [if_pos h]
  ·rw [if_neg h, if_neg h]
theorem B0c : ∀ xs : List Ty, T2 xs xs = xs
 | [] => rfl
 | a :: xs => by rw [T2, B0b a, B0c xs]
end
theorem A3v {k : Int} {ks : List Ty} (hk : k = 4 ∨ k = 5) (h : F4 (.mk k ks) = true) : ∃ a b, ks = [a, b] ∧ F4 a = true ∧ F4 b = true := by
 unfold F4 at h ⊢
 rw [A2g, Bool.and_eq_true, Bool.and_eq_true, decide_eq_true_eq, decide_eq_true_eq] at h
 have h2 : ks.length = 2 := by
  have : V1 k = 2 := by rcases hk with rfl | rfl <;> rfl
  omega
 match ks, h2, h.2 with
 | [x, y], _, hL =>
  simp only [U2, Bool.and_eq_true] at hL
  exact ⟨x, y, rfl, A4d _ 2 1 (by omega) hL.1, A4d _ 2 1 (by omega) hL.2.1⟩
theorem A6S {k : Int} {ks : List Ty} (h : F4 (.mk k ks) = true) (hk : k ≠ 4) (hk5 : k ≠ 5) : (k = 1 ∨ k = 2 ∨ k = 3) ∧ ks = [] := by
 unfold F4 at h
 rw [A2g, Bool.and_eq_true, Bool.and_eq_true, decide_eq_true_eq, decide_eq_true_eq] at h
 obtain ⟨h1, h2, h3⟩ := A1j k
 have hl := h.1.2
 have hk3 : k = 1 ∨ k = 2 ∨ k = 3 := by
  apply Classical.byContradiction
  intro hc
  rw [h3 (by omega) (by omega) (by omega) hk hk5] at hl; omega
 rw [h1 hk3] at hl
 exact ⟨hk3, List.length_eq_zero_iff.1 (by omega)⟩
theorem B0d {cx : Cx} {e : Tm} {T : Ty} (hc : cv e) (h : I2 cx e = some T) : F4 T = true := by
 obtain ⟨k, nm, num, ty, fr, lb, ks⟩ := e
 exact B4P (fun hk => (hc.node.1.c14 hk).2.1) h
section inv
variable {cx : Cx} {nm : ByteArray} {num : Int} {ty fr : Ty} {lb : Int} {a b c : Tm} {T : Ty}
theorem B43 {x y : Ty} (h : A0X [x] [y] = true) : x = y := by
 simp only [A0X, Bool.and_true] at h; exact (Z2 _ _).1 h
theorem B0e {x y x' y' : Ty} (h : A0X [x, y] [x', y'] = true) : x = x' ∧ y = y' := by
 simp only [A0X, Bool.and_true, Bool.and_eq_true] at h; exact ⟨(Z2 _ _).1 h.1, (Z2 _ _).1 h.2⟩
theorem B44 {x y z x' y' z' : Ty} (h : A0X [x, y, z] [x', y', z'] = true) : x = x' ∧ y = y' ∧ z = z' := by
 simp only [A0X, Bool.and_true, Bool.and_eq_true] at h; exact ⟨(Z2 _ _).1 h.1, (Z2 _ _).1 h.2.1, (Z2 _ _).1 h.2.2⟩
theorem A5m : ∀ xs : List Ty, A0X xs xs = true
 | [] => rfl
 | a :: xs => by rw [A0X, A6q, A5m xs]; rfl
theorem B45 (h : I2 cx (.mk 6 nm num ty fr lb [a, b]) = some T) : ∃ A, I2 cx a = some (.mk 4 [A, T]) ∧ I2 cx b = some A := by
 obtain ⟨us, hu, _, hn⟩ := A1n h
 rw [K1, if_neg (by omega)] at hu
 obtain ⟨x, y, hx, hy, rfl⟩ := A5l hu
 obtain ⟨_, w, hw, hs⟩ := hn (by decide)
 unfold J7 at hw
 simp only [show ¬((6 : Int) = 1) by decide, show ¬((6 : Int) = 2) by decide, show ¬((6 : Int) = 3 ∨ (6 : Int) = 4) by decide, show ¬((6 : Int) = 5) by decide, if_false, if_true, List.getD_cons_zero, List.getD_cons_succ] at hw
 split at hw
 ·rename_i p q hm
  split at hw
  ·cases hw
   obtain ⟨h1, h2⟩ := B0e hs
   subst h1 h2
   exact ⟨_, hx, hy⟩
  ·cases hw
 ·cases hw
theorem B46 {A : Ty} (hv : F4 T = true) (ha : I2 cx a = some (.mk 4 [A, T])) (hb : I2 cx b = some A) : I2 cx (.mk 6 nm num ty fr lb [a, b]) = some T := by
 refine A6Q (us := [.mk 4 [A, T], A]) (w := [.mk 4 [A, T], A]) (B42 ha hb) (by decide) hv ?_ (A5m _)
 unfold J7
 simp only [show ¬((6 : Int) = 1) by decide, show ¬((6 : Int) = 2) by decide, show ¬((6 : Int) = 3 ∨ (6 : Int) = 4) by decide, show ¬((6 : Int) = 5) by decide, if_false, if_true, List.getD_cons_zero, List.getD_cons_succ, A1d, A2h]
theorem B47 {k : Int} (hk : k = 7 ∨ k = 8) (h : I2 cx (.mk k nm num ty fr lb [a, b]) = some T) : I2 cx a = some P9 ∧ I2 cx b = some P9 ∧ T = if k = 8 then U4 else P9 := by
 obtain ⟨us, hu, _, hn⟩ := A1n h
 rw [K1, if_neg (by omega)] at hu
 obtain ⟨x, y, hx, hy, rfl⟩ := A5l hu
 obtain ⟨_, w, hw, hs⟩ := hn (by omega)
 unfold J7 at hw
 rw [if_neg (by omega), if_neg (by omega), if_neg (by omega), if_neg (by omega), if_neg (by omega), if_pos hk] at hw
 split at hw
 ·cases hw
  obtain ⟨h1, h2⟩ := B0e hs
  subst h1 h2
  exact ⟨hx, hy, rfl⟩
 ·cases hw
theorem B48 (h : I2 cx (.mk 9 nm num ty fr lb [a, b, c]) = some T) : I2 cx a = some U4 ∧ I2 cx b = some T ∧ I2 cx c = some T := by
 obtain ⟨us, hu, _, hn⟩ := A1n h
 rw [K1, if_neg (by omega)] at hu
 obtain ⟨x, y, z, hx, hy, hz, rfl⟩ := B41 hu
 obtain ⟨_, w, hw, hs⟩ := hn (by decide)
 unfold J7 at hw
 rw [if_neg (by omega), if_neg (by omega), if_neg (by omega), if_neg (by omega), if_neg (by omega), if_neg (by omega), if_pos rfl] at hw
 split at hw
 ·cases hw
  obtain ⟨h1, h2, h3⟩ := B44 hs
  simp only [List.getD_cons_zero, List.getD_cons_succ] at h2 h3 ⊢
  refine ⟨by rw [hx, h1], by rw [hy]; congr 1; exact h2.symm, by rw [hz]; congr 1; exact h3.symm⟩
 ·cases hw
theorem B0f (h : I2 cx (.mk 10 nm num ty fr lb [a, b]) = some T) : ∃ A B, I2 cx a = some A ∧ I2 cx b = some B ∧ T = .mk 5 [A, B] := by
 obtain ⟨us, hu, _, hn⟩ := A1n h
 rw [K1, if_neg (by omega)] at hu
 obtain ⟨x, y, hx, hy, rfl⟩ := A5l hu
 obtain ⟨_, w, hw, hs⟩ := hn (by decide)
 unfold J7 at hw
 rw [if_neg (by omega), if_neg (by omega), if_neg (by omega), if_neg (by omega), if_neg (by omega), if_neg (by omega), if_neg (by omega), if_pos rfl] at hw
 cases hw
 exact ⟨x, y, hx, hy, rfl⟩
theorem B49 {k : Int} (hk : k = 11 ∨ k = 12) (h : I2 cx (.mk k nm num ty fr lb [a]) = some T) : ∃ A B, I2 cx a = some (.mk 5 [A, B]) ∧ T = if k = 12 then B else A := by
 obtain ⟨us, hu, _, hn⟩ := A1n h
 rw [K1, if_neg (by omega)] at hu
 obtain ⟨x, hx, rfl⟩ := A4f hu
 obtain ⟨_, w, hw, hs⟩ := hn (by omega)
 unfold J7 at hw
 rw [if_neg (by omega), if_neg (by omega), if_neg (by omega), if_neg (by omega), if_neg (by omega), if_neg (by omega), if_neg (by omega), if_neg (by omega), if_neg (by omega)] at hw
 split at hw
 ·rename_i p q hm
  cases hw
  have h1 := B43 hs
  subst h1
  exact ⟨p, q, hx, rfl⟩
 ·cases hw
theorem B0g {k : Int} {A B : Ty} (hk : k = 11 ∨ k = 12) (hv : F4 (if k = 12 then B else A) = true) (h : I2 cx a = some (.mk 5 [A, B])) : I2 cx (.mk k nm num ty fr lb [a]) = some (if k = 12 then B else A) := by
 refine A6Q (us := [.mk 5 [A, B]]) (w := [.mk 5 [A, B]]) (by rw [K1, if_neg (by omega)]; exact A6R h) (by omega) hv ?_ (A5m _)
 unfold J7
 rw [if_neg (by omega), if_neg (by omega), if_neg (by omega), if_neg (by omega), if_neg (by omega), if_neg (by omega), if_neg (by omega), if_neg (by omega), if_neg (by omega)]
 simp only [List.getD_cons_zero, A1d, if_true, List.getD_cons_succ]
theorem A4g (h : I2 cx (.mk 14 nm num ty fr lb [a]) = some T) : I2 cx a = some fr ∧ T = ty := by
 obtain ⟨us, hu, hn, _⟩ := A1n h
 obtain ⟨x, hx, rfl⟩ := A4f hu
 obtain ⟨h1, h2⟩ := hn rfl
 simp only [List.getD_cons_zero] at h1
 subst h1
 exact ⟨hx, h2⟩
theorem A1V (h : I2 cx a = some fr) : I2 cx (.mk 14 nm num ty fr lb [a]) = some ty := by
 rw [I2, show K1 cx 14 nm ty = cx from rfl, A6R h]
 simp only [if_true, List.getD_cons_zero, A6q]
theorem B0h (h : I2 cx (.mk 5 nm num ty fr lb [a]) = some T) : ∃ B, I2 (cx ++ [(nm, ty)]) a = some B ∧ T = .mk 4 [ty, B] := by
 obtain ⟨us, hu, _, hn⟩ := A1n h
 rw [K1, if_pos rfl] at hu
 obtain ⟨x, hx, rfl⟩ := A4f hu
 obtain ⟨_, w, hw, hs⟩ := hn (by decide)
 unfold J7 at hw
 rw [if_neg (by omega), if_neg (by omega), if_neg (by omega), if_pos rfl] at hw
 cases hw
 exact ⟨x, hx, rfl⟩
theorem B0i (h : I2 cx (.mk 1 nm num ty fr lb []) = some T) : P4 cx nm = some T := by
 obtain ⟨us, hu, _, hn⟩ := A1n h
 obtain ⟨_, w, hw, hs⟩ := hn (by decide)
 unfold J7 at hw
 rw [if_pos rfl] at hw
 split at hw
 ·rename_i t ht; cases hw; exact ht
 ·cases hw
theorem B5a (h : I2 cx (.mk 2 nm num ty fr lb []) = some T) : T = P9 := by
 obtain ⟨us, hu, _, hn⟩ := A1n h
 obtain ⟨_, w, hw, hs⟩ := hn (by decide)
 cases hw; rfl
theorem B5b {k : Int} (hk : k = 3 ∨ k = 4) (h : I2 cx (.mk k nm num ty fr lb []) = some T) : T = U4 := by
 obtain ⟨us, hu, _, hn⟩ := A1n h
 obtain ⟨_, w, hw, hs⟩ := hn (by omega)
 rcases hk with rfl | rfl <;> (cases hw; rfl)
end inv
theorem A1o (cx : Cx) (x nm : ByteArray) (t : Ty) : P4 (cx ++ [(x, t)]) nm = if x = nm then some t else P4 cx nm := by
 unfold P4
 rw [List.length_append, show ([(x, t)] : Cx).length = 1 from rfl]
 have hl : (cx ++ [(x, t)])[cx.length]? = some (x, t) := by rw [List.getElem?_append_right (Nat.le_refl _)]; simp
 by_cases h : x = nm
 ·rw [A33 hl h, if_pos h]
 ·rw [A34 hl h, if_neg h]
  have : ∀ n, n ≤ cx.length → V8 (cx ++ [(x, t)]) nm n = V8 cx nm n := by
   intro n
   induction n with
   | zero => intro _; rfl
   | succ n ih =>
    intro hn
    rw [V8, V8, List.getElem?_append_left (by omega), ih (by omega)]
  exact this _ (Nat.le_refl _)
theorem B5c {cx cy : Cx} (h : ∀ x, P4 cx x = P4 cy x) (k : Int) (nm : ByteArray) (ty : Ty) : ∀ x, P4 (K1 cx k nm ty) x = P4 (K1 cy k nm ty) x := by
 intro x
 unfold K1
 split
 ·rw [A1o, A1o, h]
 ·exact h x
theorem B0j {cx cy : Cx} {k : Int} {nm : ByteArray} {ty : Ty} {h : List Ty} (he : P4 cx nm = P4 cy nm) : T6 cx k nm ty h = T6 cy k nm ty h := by
 unfold T6 J7
 rw [he]
mutual
theorem B5d : ∀ (e : Tm) (cx cy : Cx), (∀ x, P4 cx x = P4 cy x) → I2 cx e = I2 cy e
 | .mk k nm num ty fr lb ks, cx, cy, h => by
  rw [I2, I2, A6T ks _ _ (B5c h k nm ty)]
  split
  ·rfl
  ·rw [B0j (h nm)]
theorem A6T : ∀ (ts : List Tm) (cx cy : Cx), (∀ x, P4 cx x = P4 cy x) → M4 cx ts = M4 cy ts
 | [], _, _, _ => by rw [M4, M4]
 | t :: ts, cx, cy, h => by rw [M4, M4, B5d t cx cy h, A6T ts cx cy h]
end
theorem B5e {cx cy : Cx} {k : Int} {nm : ByteArray} {ty : Ty} {h : List Ty} (hk : k ≠ 1) : J7 cx k nm ty h = J7 cy k nm ty h := by
 unfold J7
 rw [if_neg hk, if_neg hk]
theorem B0k {cx cy : Cx} {k : Int} {nm : ByteArray} {ty : Ty} {h : List Ty} (hk : k ≠ 1) : T6 cx k nm ty h = T6 cy k nm ty h := by
 unfold T6; rw [B5e (cy := cy) hk]
mutual
theorem B0l {x : ByteArray} {A : Ty} {v : Tm} (hv : I2 [] v = some A) : ∀ (e : Tm) (cx cy : Cx) (T : Ty), cv e → (∀ y, y ≠ x → P4 cx y = P4 cy y) → P4 cx x = some A → I2 cx e = some T → I2 cy (R8 x v e) = some T
 | .mk k nm num ty fr lb ks, cx, cy, T, hc, h, hx, ht => by
  have hkk := hc.node.2
  have hop := hc.node.1.ops
  rw [R8]
  by_cases h1 : k = 1 ∧ nm = x
  ·rw [if_pos h1]
   obtain ⟨rfl, rfl⟩ := h1
   have hks : ks = [] := List.length_eq_zero_iff.1 (by have : D7 1 = 0 := rfl; omega)
   subst hks
   have h2 := B0i ht
   rw [hx] at h2
   cases h2
   have h3 := A93 cy v [] A hv
   rwa [List.append_nil] at h3
  ·rw [if_neg h1]
   by_cases h5 : k = 5 ∧ nm = x
   ·rw [if_pos h5]
    obtain ⟨rfl, rfl⟩ := h5
    rw [I2] at ht ⊢
    rw [← A6T ks (K1 cx 5 nm ty) (K1 cy 5 nm ty) (fun y => by
     rw [K1, K1, if_pos rfl, if_pos rfl, A1o, A1o]
     by_cases hy : nm = y
     ·rw [if_pos hy, if_pos hy]
     ·rw [if_neg hy, if_neg hy]; exact h y (fun e => hy e.symm))]
    split at ht
    ·cases ht
    ·rename_i us hu
     rw [B0k (cy := cx) (by decide)]
     exact ht
   ·rw [if_neg h5]
    rw [I2] at ht ⊢
    have hin : ∀ us, M4 (K1 cx k nm ty) ks = some us → M4 (K1 cy k nm ty) (Q0 x v ks) = some us := by
     intro us hu
     refine B0m hv ks _ _ us hkk ?_ ?_ hu
     ·intro y hy
      unfold K1
      split
      ·rw [A1o, A1o, h y hy]
      ·exact h y hy
     ·unfold K1
      split
      ·rename_i hk
       rw [A1o, if_neg (fun e => h5 ⟨hk, e⟩)]; exact hx
      ·exact hx
    split at ht
    ·cases ht
    ·rename_i us hu
     rw [hin us hu]
     simp only at ht ⊢
     by_cases hk1 : k = 1
     ·subst hk1
      have hn : nm ≠ x := fun e => h1 ⟨rfl, e⟩
      rw [B0j (h nm hn)] at ht
      exact ht
     ·rw [B0k (cy := cx) hk1]
      exact ht
theorem B0m {x : ByteArray} {A : Ty} {v : Tm} (hv : I2 [] v = some A) : ∀ (ts : List Tm) (cx cy : Cx) (us : List Ty), (∀ t ∈ ts, cv t) → (∀ y, y ≠ x → P4 cx y = P4 cy y) → P4 cx x = some A → M4 cx ts = some us → M4 cy (Q0 x v ts) = some us
 | [], cx, cy, us, _, _, _, hu => by rw [M4] at hu; cases hu; rw [Q0, M4]
 | t :: ts, cx, cy, us, hc, h, hx, hu => by
  rw [M4] at hu
  split at hu
  ·cases hu
  ·rename_i T hT
   split at hu
   ·cases hu
   ·rename_i Ts hTs
    cases hu
    rw [Q0, M4, B0l hv t cx cy T (hc t List.mem_cons_self) h hx hT, B0m hv ts cx cy Ts (fun u hu => hc u (List.mem_cons_of_mem _ hu)) h hx hTs]
end
theorem A4h {cx : Cx} : ∀ {ks : List Tm} {i : Nat} (hi : i < ks.length) {l l' l2 : Int} {us : List Tm} {h : List Ty} {u : Tm} {a : Ty}, L9 cx (ks.take i) l = some (us, h, l') → M6 cx ks[i] l' = some (u, a, l2) → L9 cx (ks.take (i + 1)) l = some (us ++ [u], h ++ [a], l2)
 | [], i, hi, _, _, _, _, _, _, _, _, _ => by simp at hi
 | t :: ts, 0, _, l, l', l2, us, h, u, a, h1, h2 => by
  simp only [List.take_zero, L9, Option.some.injEq, Prod.mk.injEq] at h1
  obtain ⟨rfl, rfl, rfl⟩ := h1
  simp only [List.getElem_cons_zero] at h2
  simp [L9, h2]
 | t :: ts, i + 1, hi, l, l', l2, us, h, u, a, h1, h2 => by
  simp only [List.take_succ_cons, L9] at h1 ⊢
  split at h1
  ·cases h1
  ·rename_i u1 a1 l1 he
   split at h1
   ·cases h1
   ·rename_i us1 h1' l1' hL
    simp only [Option.some.injEq, Prod.mk.injEq] at h1
    obtain ⟨rfl, rfl, rfl⟩ := h1
    simp only [List.getElem_cons_succ] at h2
    have := A4h (ks := ts) (i := i) (by simpa using hi) hL h2
    simp only [this, List.cons_append]
theorem A6U {cx : Cx} : ∀ {ks : List Tm} {i : Nat} (hi : i < ks.length) {l l' : Int} {us : List Tm} {h : List Ty}, L9 cx (ks.take i) l = some (us, h, l') → M6 cx ks[i] l' = none → L9 cx ks l = none
 | [], i, hi, _, _, _, _, _, _ => by simp at hi
 | t :: ts, 0, _, l, l', us, h, h1, h2 => by
  simp only [List.take_zero, L9, Option.some.injEq, Prod.mk.injEq] at h1
  obtain ⟨rfl, rfl, rfl⟩ := h1
  simp only [List.getElem_cons_zero] at h2
  simp [L9, h2]
 | t :: ts, i + 1, hi, l, l', us, h, h1, h2 => by
  simp only [List.take_succ_cons, L9] at h1 ⊢
  split at h1
  ·cases h1
  ·rename_i u1 a1 l1 he
   split at h1
   ·cases h1
   ·rename_i us1 h1' l1' hL
    simp only [Option.some.injEq, Prod.mk.injEq] at h1
    obtain ⟨rfl, rfl, rfl⟩ := h1
    simp only [List.getElem_cons_succ] at h2
    have := A6U (ks := ts) (i := i) (by simpa using hi) hL h2
    simp only [this]
theorem V4 (us : List Tm) (h : List Ty) (l : Int) : H2 us h [] l = (us, l) := by
 cases us with
 | nil => rfl
 | cons u us => cases h <;> rfl
theorem A4i : ∀ (us : List Tm) (h w : List Ty) (l : Int) (j : Nat) (hj : j < w.length) (hu : w.length ≤ us.length) (hh : w.length ≤ h.length),
  (H2 us h (w.take j) l).1.length = us.length ∧ (∀ (hq : j < (H2 us h (w.take j) l).1.length), (H2 us h (w.take j) l).1[j] = us[j]'(by omega)) ∧
  H2 us h (w.take (j + 1)) l = if M5 (h[j]'(by omega)) w[j] = true then H2 us h (w.take j) l else ((H2 us h (w.take j) l).1.set j (K7 (us[j]'(by omega)) (h[j]'(by omega)) w[j] ((H2 us h (w.take j) l).2 + 1)), (H2 us h (w.take j) l).2 + 1)
 | us, h, [], l, j, hj, _, _ => by simp at hj
 | [], h, b :: w, l, j, _, hu, _ => by simp at hu
 | u :: us, [], b :: w, l, j, _, _, hh => by simp at hh
 | u :: us, a :: h, b :: w, l, 0, _, _, _ => by
  refine ⟨by simp [H2], by simp [H2], ?_⟩
  simp only [List.take_succ_cons, List.take_zero, H2, V4, List.getElem_cons_zero, List.set_cons_zero]
 | u :: us, a :: h, b :: w, l, j + 1, hj, hu, hh => by
  simp only [List.take_succ_cons, List.getElem_cons_succ]
  by_cases hs : M5 a b = true
  ·have ih := A4i us h w l j (by simpa using hj) (by simpa using hu) (by simpa using hh)
   simp only [H2, if_pos hs]
   obtain ⟨i1, i2, i3⟩ := ih
   refine ⟨by simp [i1], fun hq => by simp [i2], ?_⟩
   rw [i3]
   split <;> simp
  ·have ih := A4i us h w (l + 1) j (by simpa using hj) (by simpa using hu) (by simpa using hh)
   simp only [H2, if_neg hs]
   obtain ⟨i1, i2, i3⟩ := ih
   refine ⟨by simp [i1], fun hq => by simp [i2], ?_⟩
   rw [i3]
   split <;> simp
theorem A1W : ∀ (us : List Tm) (h w : List Ty) (l : Int), (H2 us h w l).1.length = us.length
 | [], h, w, l => by simp [H2]
 | u :: us, [], w, l => by simp [H2]
 | u :: us, a :: h, [], l => by simp [H2]
 | u :: us, a :: h, b :: w, l => by
  simp only [H2]
  split
  ·simp [A1W us h w l]
  ·simp [A1W us h w (l + 1)]
theorem B0n {us : List Tm} {h w : List Ty} {l : Int} {j : Nat} (hj : j < w.length) (hu : w.length ≤ us.length) (hh : w.length ≤ h.length) :
  (H2 us h (w.take (j + 1)) l).1 = (H2 us h (w.take j) l).1.set j (if M5 (h[j]'(by omega)) w[j] = true then us[j]'(by omega) else K7 (us[j]'(by omega)) (h[j]'(by omega)) w[j] ((H2 us h (w.take j) l).2 + 1)) ∧
  (H2 us h (w.take (j + 1)) l).2 = (if M5 (h[j]'(by omega)) w[j] = true then (H2 us h (w.take j) l).2 else (H2 us h (w.take j) l).2 + 1) := by
 obtain ⟨h1, h2, h3⟩ := A4i us h w l j hj hu hh
 by_cases hs : M5 (h[j]'(by omega)) w[j] = true
 ·rw [h3, if_pos hs, if_pos hs, if_pos hs]
  refine ⟨?_, rfl⟩
  rw [← h2 (by omega), List.set_getElem_self]
 ·rw [h3, if_neg hs, if_neg hs, if_neg hs]
  exact ⟨rfl, rfl⟩
theorem A1p : ∀ (us : List Tm) (h w : List Ty) (l : Int), l ≤ (H2 us h w l).2 ∧ (H2 us h w l).2 ≤ l + us.length
 | [], h, w, l => by simp [H2]
 | u :: us, [], w, l => by simp [H2]; omega
 | u :: us, a :: h, [], l => by simp [H2]; omega
 | u :: us, a :: h, b :: w, l => by
  simp only [H2]
  split
  ·have := A1p us h w l; simp only [List.length_cons]; omega
  ·have := A1p us h w (l + 1); simp only [List.length_cons]; omega
mutual
def V9 : Ty → Ty → Bool
 | .mk k ks, t => decide (t.k = 1) || (decide (k = t.k) && S4 ks t.ks)
def S4 : List Ty → List Ty → Bool
 | [], [] => true
 | a :: xs, b :: ys => V9 a b && S4 xs ys
 | _, _ => false
end
theorem A0A (k k' : Int) (ks ks' : List Ty) : V9 (.mk k ks) (.mk k' ks') = (decide (k' = 1) || (decide (k = k') && S4 ks ks')) := by rw [V9]; rfl
theorem A5n : ∀ (xs ys : List Ty), S4 xs ys = true ↔ xs.length = ys.length ∧ ∀ i, (h : i < xs.length) → (h' : i < ys.length) → V9 xs[i] ys[i] = true
 | [], [] => by simp [S4]
 | [], b :: ys => by simp [S4]
 | a :: xs, [] => by simp [S4]
 | a :: xs, b :: ys => by
  simp only [S4, Bool.and_eq_true, A5n xs ys, List.length_cons]
  constructor
  ·rintro ⟨h1, h2, h3⟩
   refine ⟨by omega, fun i hi hi' => ?_⟩
   cases i with
   | zero => exact h1
   | succ i => exact h3 i (by simpa using hi) (by simpa using hi')
  ·rintro ⟨h1, h2⟩
   exact ⟨h2 0 (by simp) (by simp), by omega, fun i hi hi' => h2 (i + 1) (by simpa using hi) (by simpa using hi')⟩
mutual
def W0 : Tm → Tm → Bool
 | .mk k nm num ty _ _ ks, u => decide (k = u.k ∧ nm = u.nm ∧ num = u.num) && (decide (k ≠ 5 ∧ k ≠ 13) || V9 ty u.ty) && X1 ks u.ks
def X1 : List Tm → List Tm → Bool
 | [], [] => true
 | a :: xs, b :: ys => W0 a b && X1 xs ys
 | _, _ => false
end
theorem A2R {k k' : Int} {nm nm' : ByteArray} {num num' : Int} {ty ty' fr fr' : Ty} {lb lb' : Int} {ks ks' : List Tm} :
  W0 (.mk k nm num ty fr lb ks) (.mk k' nm' num' ty' fr' lb' ks') = true ↔ k = k' ∧ nm = nm' ∧ num = num' ∧ (k = 5 ∨ k = 13 → V9 ty ty' = true) ∧ X1 ks ks' = true := by
 rw [W0]
 show (decide (k = k' ∧ nm = nm' ∧ num = num') && (decide (k ≠ 5 ∧ k ≠ 13) || V9 ty ty') && X1 ks ks') = true ↔ _
 simp only [Bool.and_eq_true, Bool.or_eq_true, decide_eq_true_eq]
 constructor
 ·rintro ⟨⟨⟨a, b, c⟩, e⟩, d⟩
  exact ⟨a, b, c, fun h => e.resolve_left (by omega), d⟩
 ·rintro ⟨a, b, c, e, d⟩
  refine ⟨⟨⟨a, b, c⟩, ?_⟩, d⟩
  by_cases h : k = 5 ∨ k = 13
  ·exact .inr (e h)
  ·exact .inl (by omega)
theorem A4j : ∀ (xs ys : List Tm), X1 xs ys = true ↔ xs.length = ys.length ∧ ∀ i, (h : i < xs.length) → (h' : i < ys.length) → W0 xs[i] ys[i] = true
 | [], [] => by simp [X1]
 | [], b :: ys => by simp [X1]
 | a :: xs, [] => by simp [X1]
 | a :: xs, b :: ys => by
  simp only [X1, Bool.and_eq_true, A4j xs ys, List.length_cons]
  constructor
  ·rintro ⟨h1, h2, h3⟩
   refine ⟨by omega, fun i hi hi' => ?_⟩
   cases i with
   | zero => exact h1
   | succ i => exact h3 i (by simpa using hi) (by simpa using hi')
  ·rintro ⟨h1, h2⟩
   exact ⟨h2 0 (by simp) (by simp), by omega, fun i hi hi' => h2 (i + 1) (by simpa using hi) (by simpa using hi')⟩
theorem B5f {k k' : Int} {ks ks' : List Ty} (h : k' = 1) : V9 (.mk k ks) (.mk k' ks') = true := by rw [A0A, decide_eq_true h]; rfl
theorem B5g {k k' : Int} {ks ks' : List Ty} (h' : k' ≠ 1) (hk : k ≠ k') : V9 (.mk k ks) (.mk k' ks') = false := by rw [A0A, decide_eq_false h', decide_eq_false hk]; rfl
theorem B0o {k k' : Int} {ks ks' : List Ty} (h' : k' ≠ 1) (hk : k = k') : V9 (.mk k ks) (.mk k' ks') = S4 ks ks' := by rw [A0A, decide_eq_false h', decide_eq_true hk]; rfl
theorem B5h {ks ks' : List Ty} {i : Nat} (hi : i < ks.length) (hi' : i < ks'.length) (h : V9 ks[i] ks'[i] = false) : S4 ks ks' = false := by
 cases hx : S4 ks ks' with
 | false => rfl
 | true => rw [((A5n ks ks').1 hx).2 i hi hi'] at h; cases h
theorem B0p {k k' : Int} {nm nm' : ByteArray} {num num' : Int} {ty ty' fr fr' : Ty} {lb lb' : Int} {ks ks' : List Tm} (h : ¬ (k = k' ∧ nm = nm' ∧ num = num' ∧ (k = 5 ∨ k = 13 → V9 ty ty' = true) ∧ X1 ks ks' = true)) :
  W0 (.mk k nm num ty fr lb ks) (.mk k' nm' num' ty' fr' lb' ks') = false := by
 cases hx : W0 (.mk k nm num ty fr lb ks) (.mk k' nm' num' ty' fr' lb' ks') with
 | false => rfl
 | true => exact absurd (A2R.1 hx) h
def X2 (a b : Tm) : Bool := S9 a && (S9 b && W0 a b)
theorem B0q (G : IM) (p p' : Option Addr) (n c n' c' : Nat) (es es' : List (List Value)) (hsl : E0 G p n c 9 es) (hsl' : E0 G p' n' c' 9 es') (fid : FuncId) [C0 Tryz.prog fid] (us cs : List Value) (ins : List A7) (q : Nat → Bool)
  (A : Bool) (hA : A = true ↔ n = n' ∧ ∀ i, i < n → q i = true)
  (hq : ∀ i e e', es[i]? = some e → es'[i]? = some e' → Fn Tryz.prog fid (us ++ [.agg ⟨e⟩, .agg ⟨e'⟩] ++ cs) ins G (T9 (.bool (q i)) ins G)) :
  Fn Tryz.prog 35 [.slice p n c, .slice p' n' c', .func (.func fid) ⟨us⟩ ⟨cs⟩] ins G (T9 (.bool A) ins G) := by
 have hn := hsl.le
 have hn' := hsl'.le
 refine C2 Tryz.func35 rfl Tryz.ntmps35 Tryz.results35 rfl ?_
 intro w0
 refine N5 ?_
 refine sB (M1 rfl rfl) rfl rfl (fun h13 => ?_) (fun h13 => ?_)
 refine J0 ?_
 refine H7 (outs := ins) (rT rfl) (by first | exact A0.refl | exact A0.drop (A0.drop A0.refl)) ?_
 exact zq2
 refine J4 ?_
 refine C3 (K2 (fun i : Nat => ⟨[(17, .int .i64 i), (16, .int .i64 n), (15, .slice p n c), (2, .func (.func fid) ⟨us⟩ ⟨cs⟩), (1, .slice p' n' c'), (0, .slice p n c)], ins, G⟩) (fun i => i ≤ n ∧ ∀ j, j < i → q j = true) (fun i => n - i) 0 ?_ ?_ ?_)
 exact E2
 exact ⟨by omega, by omega⟩
 rintro i ⟨hi, hf⟩
 refine A5 ?_
 refine sB (J8 rfl rfl) rfl rfl (fun h46 => ?_) (fun h46 => ?_)
 refine B5 ?_
 refine C3 ?_
 refine B9 ?_
 (obtain ⟨e, b, o, he, rfl, hl, _, hat, _⟩ := hsl.get (i := i) (by omega); refine sP (B6 rfl rfl rfl (by omega)) rfl rfl ?_)
 refine sL (A3 rfl rfl (hat _) hl) rfl rfl ?_
 refine sE (A8 rfl) rfl (fun b60 => ?_)
 refine F0 ?_
 refine W7 rfl rfl rfl (by assumption) (by assumption) rfl (by repeat first | exact Sw.here | apply Sw.there) (by exact D4 (by symm; assumption)) ?_
 refine B0 ?_
 (obtain ⟨e', b', o', he', rfl, hl', _, hat', _⟩ := hsl'.get (i := i) (by omega); refine sP (B6 rfl rfl rfl (by omega)) rfl rfl ?_)
 refine sL (A3 rfl rfl (hat' _) hl') rfl rfl ?_
 refine sE (A8 rfl) rfl (fun b71 => ?_)
 refine W7 rfl rfl rfl (by assumption) (by assumption) rfl (by repeat first | exact Sw.here | apply Sw.there) (by exact D4 (by symm; assumption)) ?_
 refine B2 ?_
 refine sL (A3 rfl rfl (B1 (by repeat first | exact mH | apply mT)) (by assumption)) rfl rfl ?_
 refine sL (A3 rfl rfl (B1 (by repeat first | exact mH | apply mT)) (by assumption)) rfl rfl ?_
 refine A4Q rfl rfl (hq i e e' he he') A8d rfl rfl (fun h80 => ?_) (fun h80 => ?_)
 refine D0 ?_
 refine sP (J6 rfl rfl (by omega) (by omega)) rfl rfl ?_
 refine A5 ?_
 refine K3 (i + 1) ?_ ?_ ?_
 exact E2
 exact zq1
 omega
 refine H6 ?_
 refine H7 (outs := ins) (rT rfl) (by first | exact A0.refl | exact A0.drop (A0.drop A0.refl)) ?_
 exact zq3
 refine H6 ?_
 refine H7 (outs := ins) (rT rfl) (by first | exact A0.refl | exact A0.drop (A0.drop A0.refl)) ?_
 exact zq4
theorem A5o {Q : Prop} (h : Q := by exact ⟨rfl, by (rw [A0A, hA]; first | (rw [decide_eq_true (p := k' = 1) (by omega)]; rfl) | (rw [decide_eq_false (p := k' = 1) (by omega), decide_eq_false (p := k = k') (by omega)]; rfl) | (rw [decide_eq_false (p := k' = 1) (by omega), decide_eq_true (p := k = k') (by omega)]; simp only [*]; rfl)), rfl⟩) : Q := h
theorem B5i : ∀ (t t' : Ty) (G : IM) (cells cells' : List Value), C1 G t cells → C1 G t' cells' →
  Fn Tryz.prog 93 [.agg ⟨cells⟩, .agg ⟨cells'⟩] [] G (H5 (.bool (V9 t t')) G) := by
 refine Ty.ind fun k ks ih t' G cells cells' hr hr' => ?_
 obtain ⟨k', ks'⟩ := t'
 obtain ⟨p, c, es, rfl, hk, hsl, hkl⟩ := hr.open
 obtain ⟨p', c', es', rfl, hk', hsl', hkl'⟩ := hr'.open
 simp only [Ty.k, Ty.ks] at hk hsl hkl hk' hsl' hkl' ⊢
 have hn := hsl.le
 have hn' := hsl'.le
 obtain ⟨A, hA⟩ : ∃ A, S4 ks ks' = A := ⟨_, rfl⟩
 have hA' : A = true ↔ ks.length = ks'.length ∧ ∀ i, i < ks.length → V9 (ks.getD i B4) (ks'.getD i B4) = true := by
  rw [← hA, A5n]
  constructor
  ·rintro ⟨h1, h2⟩
   refine ⟨h1, fun i hi => ?_⟩
   have := h2 i hi (by omega)
   simpa [List.getD_eq_getElem?_getD, List.getElem?_eq_getElem hi, List.getElem?_eq_getElem (show i < ks'.length by omega)] using this
  ·rintro ⟨h1, h2⟩
   refine ⟨h1, fun i hi hi' => ?_⟩
   have := h2 i hi
   simpa [List.getD_eq_getElem?_getD, List.getElem?_eq_getElem hi, List.getElem?_eq_getElem hi'] using this
 refine C2 Tryz.func93 rfl Tryz.ntmps93 Tryz.results93 rfl ?_
 intro w0
 refine A5 ?_
 refine sE (C7 rfl rfl) rfl (fun b3 => ?_)
 refine sE (C7 rfl rfl) rfl (fun b4 => ?_)
 refine B5 ?_
 refine sB (qE rfl rfl) rfl rfl (fun h12 => ?_) (fun h12 => ?_)
 refine A0b ?_
 exact A5o
 refine B2 ?_
 refine sB (qE rfl rfl) rfl rfl (fun h38 => ?_) (fun h38 => ?_)
 refine B2 ?_
 refine E8 rfl (A6k _ _ _ _ _ _ _ _ _ hsl hsl' _ [] [] [] (fun i => V9 (ks.getD i B4) (ks'.getD i B4)) A hA' (fun i e e' he he' => ih _ (hkl.inv he B4).1 _ _ _ _ (hkl.inv he B4).2 (hkl'.inv he' B4).2)) rfl rfl (fun h44 => ?_) (fun h44 => ?_)
 refine B5 ?_
 exact A5o
 refine B5 ?_
 exact A5o
 refine J4 ?_
 exact A5o
theorem B0r : ∀ (t t' : Ty) (G : IM) (cells cells' : List Value) (d d' : Int), O7 t d = true → O7 t' d' = true → C1 G t cells → C1 G t' cells' →
  Fn Tryz.prog 140 [.agg ⟨cells⟩, .agg ⟨cells'⟩] [] G (H5 (.bool (V9 t t')) G) := by
 refine Ty.ind fun k ks ih t' G cells cells' d d' hv hv' hr hr' => ?_
 obtain ⟨k', ks'⟩ := t'
 obtain ⟨p, c, es, rfl, hk, hsl, hkl⟩ := hr.open
 obtain ⟨p', c', es', rfl, hk', hsl', hkl'⟩ := hr'.open
 simp only [Ty.k, Ty.ks] at hk hsl hkl hk' hsl' hkl' ⊢
 have hn := hsl.le
 have hn' := hsl'.le
 obtain ⟨hv1, hv2⟩ := A2C hv
 obtain ⟨hv1', hv2'⟩ := A2C hv'
 have hle : k = k' → ks.length = ks'.length := by rintro rfl; omega
 refine C2 Tryz.func140 rfl Tryz.ntmps140 Tryz.results140 rfl ?_
 intro w0
 refine A5 ?_
 refine sE (C7 rfl rfl) rfl (fun b3 => ?_)
 refine sE (C7 rfl rfl) rfl (fun b4 => ?_)
 refine D0 ?_
 refine sB (qE rfl rfl) rfl rfl (fun h13 => ?_) (fun h13 => ?_)
 refine I8 ?_
 (rw [B5f (by omega)]; exact ⟨rfl, rfl, rfl⟩)
 refine N5 ?_
 refine sB (M1 rfl rfl) rfl rfl (fun h38 => ?_) (fun h38 => ?_)
 refine I8 ?_
 (rw [B5g (by omega) (by omega)]; exact ⟨rfl, rfl, rfl⟩)
 refine I8 ?_
 refine C3 ?_
 (have hll : ks.length = ks'.length := hle (by omega); refine K2 (fun (i : Nat) => ⟨[(5, .int .i64 i), (3, .pointer (some ⟨b4, 0, none⟩)), (2, .pointer (some ⟨b3, 0, none⟩))], [.blk b3 [.int .i64 k, .slice p ks.length c], .blk b4 [.int .i64 k', .slice p' ks'.length c']], G⟩) (fun i => i ≤ ks.length ∧ ∀ j (h : j < ks.length) (h' : j < ks'.length), j < i → V9 ks[j] ks'[j] = true) (fun i => ks.length - i) 0 ?_ ?_ ?_)
 exact E2
 exact ⟨by omega, by omega⟩
 (rintro i ⟨hi, hf⟩)
 refine B5 ?_
 refine sB (J8 rfl rfl) rfl rfl (fun h74 => ?_) (fun h74 => ?_)
 refine B0 ?_
 refine C3 ?_
 refine tS ?_
 (obtain ⟨b, o, p2, c2, rfl, hat, hre, hgb⟩ := hsl.kidTy hkl (i := i) (by omega) (by omega); obtain ⟨b', o', p2', c2', rfl, hat', hre', hgb'⟩ := hsl'.kidTy hkl' (i := i) (by omega) (by omega); refine D8 D9 rfl ?_)
 refine I6 (i := 0) (l' := [tt,ff,ff,ff,ff,ff,ff,ff,ff,ff,ff,ff]) rfl D3 (B8 rfl) rfl (by kernel_rfl) rfl rfl ?_
 refine aL 1 rfl (C4 rfl rfl) rfl ?_
 refine aP 2 rfl (qM rfl) rfl ?_
 refine aP 3 rfl (B6 rfl rfl rfl (by omega)) rfl ?_
 refine aL 4 rfl (A3 rfl rfl (hat _) rfl) rfl ?_
 refine aP 5 rfl (B8 rfl) rfl ?_
 refine aL 6 rfl (C4 rfl rfl) rfl ?_
 refine aP 7 rfl (qM rfl) rfl ?_
 refine aP 8 rfl (B6 rfl rfl rfl (by omega)) rfl ?_
 refine aL 9 rfl (A3 rfl rfl (hat' _) rfl) rfl ?_
 refine A4 10 ?_
 refine S2 rfl rfl (ih ks[i] (List.getElem_mem (by omega)) ks'[i] G _ _ _ _ (hv2 i (by omega)) (hv2' i (by omega)) hre hre') rfl rfl rfl (fun h95 => ?_) (fun h95 => ?_)
 refine aP 11 rfl (pNt rfl) rfl ?_
 refine D0 ?_
 refine sP (J6 rfl rfl (by omega) (by omega)) rfl rfl ?_
 refine A5 ?_
 refine K3 (i + 1) ?_ ?_ ?_
 exact E2
 exact A6n
 omega
 refine aP 11 rfl (pNf rfl) rfl ?_
 refine H6 ?_
 (rw [B0o (by omega) (by omega), B5h (i := i) (by omega) (by omega) (by assumption)]; exact ⟨rfl, rfl, rfl⟩)
 refine H6 ?_
 (rw [B0o (by omega) (by omega), (A5n ks _).2 ⟨hll, fun j hj hj' => hf j hj hj' (by omega)⟩]; exact ⟨rfl, rfl, rfl⟩)
end Gw
end Go.Proofs.YthpdjmbpbdbodaaGreatDoor
