/-
  The calculus of casts is that of the evaluation. What a step gives is small. The program's functions on types and contexts: each computes what the plain words say. Nodes replaced: the program's put, the reference model's l16Replace. The reference model's replacing of nodes. What a node wants of its operands. The type of a term with casts. castType and CastTypeOf compute the type of a term with casts. ReplaceAt: the program's and the reference model's. Nodes at paths, in plain words: paths concatenate. Replacing a node, in plain words: what is put is found, and putting back undoes. A closed term's type is its type everywhere; a node replaced by one of its type leaves the type. Casts put into a term, in plain words. The reference's types are those of the insertion. Terms with casts: what a type says of a node. Casts put into a term: operand by operand. Precision of types and terms, on both sides. Casts put into terms of which one is more precise: the results are so, too. A function that only reads may be handed an own slice.
-/
import Derived.Test.YthpdjmbpbdbodaaGreatDoorKg1
import Derived.Test.YthpdjmbpbdbodaaGreatDoorKg3
import Derived.Test.YthpdjmbpbdbodaaGreatDoorKg2
import Derived.Test.YthpdjmbpbdbodaaGreatDoorKg0
set_option linter.unusedVariables false
set_option linter.unusedSimpArgs false
set_option maxHeartbeats 0
set_option maxRecDepth 100000
set_option synthInstance.maxSize 4000
set_option synthInstance.maxHeartbeats 0
namespace Go.Proofs.YthpdjmbpbdbodaaGreatDoor
open Go Go.RowKit
namespace Gw
def GT.ty : GT → Ty
 | .any => .mk 1 []
 | .int => .mk 2 []
 | .bool => .mk 3 []
 | .fn a b => .mk 4 [a.ty, b.ty]
 | .pr a b => .mk 5 [a.ty, b.ty]
def GE.tm : GE → Tm
 | .var x => .mk 1 x 0 B2 B2 0 []
 | .num n => .mk 2 ⟨#[]⟩ n B2 B2 0 []
 | .tru b => .mk (if b = true then 3 else 4) ⟨#[]⟩ 0 B2 B2 0 []
 | .lam x A e => .mk 5 x 0 A.ty B2 0 [e.tm]
 | .app f a => .mk 6 ⟨#[]⟩ 0 B2 B2 0 [f.tm, a.tm]
 | .ar s a b => .mk (if s = true then 8 else 7) ⟨#[]⟩ 0 B2 B2 0 [a.tm, b.tm]
 | .ite c a b => .mk 9 ⟨#[]⟩ 0 B2 B2 0 [c.tm, a.tm, b.tm]
 | .pair a b => .mk 10 ⟨#[]⟩ 0 B2 B2 0 [a.tm, b.tm]
 | .part s e => .mk (if s = true then 12 else 11) ⟨#[]⟩ 0 B2 B2 0 [e.tm]
 | .cast A B l e => .mk 14 ⟨#[]⟩ 0 B.ty A.ty l [e.tm]
theorem GT.inj : ∀ {a b : GT}, a.ty = b.ty → a = b := by
 intro a
 induction a with
 | any => intro b h; cases b <;> first | rfl | (simp [GT.ty] at h)
 | int => intro b h; cases b <;> first | rfl | (simp [GT.ty] at h)
 | bool => intro b h; cases b <;> first | rfl | (simp [GT.ty] at h)
 | fn a1 a2 i j =>
  intro b h
  cases b with
  | fn b1 b2 => simp only [GT.ty, Ty.mk.injEq, List.cons.injEq, true_and, and_true] at h; rw [i h.1, j h.2]
  | _ => simp [GT.ty] at h
 | pr a1 a2 i j =>
  intro b h
  cases b with
  | pr b1 b2 => simp only [GT.ty, Ty.mk.injEq, List.cons.injEq, true_and, and_true] at h; rw [i h.1, j h.2]
  | _ => simp [GT.ty] at h
theorem A8i (a : GT) : U8 a.ty = a.gr.ty := by cases a <;> rfl
theorem A1W {a : GT} : a.ty.k = 1 ↔ a = .any := by cases a <;> simp [GT.ty, Ty.k]
theorem A2T {a : GT} : U2 a.ty = true ↔ a.Gd := by
 unfold U2 GT.Gd
 rw [Bool.and_eq_true, decide_eq_true_eq, A1d, A8i, Ne, A1W]
 constructor
 ·rintro ⟨h1, h2⟩; exact ⟨h1, (GT.inj h2).symm⟩
 ·rintro ⟨h1, h2⟩; exact ⟨h1, by rw [h2]⟩
theorem B2c {a : GT} (h : ¬a.Gd) : U2 a.ty = false := by
 cases h2 : U2 a.ty with
 | false => rfl
 | true => exact absurd (A2T.1 h2) h
theorem V0 : ∀ e : GE, E7 e.tm = true ↔ GV e := by
 intro e
 induction e with
 | var x => rw [GE.tm, E7]; simp; intro h; cases h
 | num n => rw [GE.tm, E7]; simp; exact .num
 | tru b => rw [GE.tm, E7]; cases b <;> (simp; exact .tru)
 | lam x A e _ => rw [GE.tm, E7]; simp; exact .lam
 | app f a _ _ => rw [GE.tm, E7]; simp; intro h; cases h
 | ar s a b _ _ => rw [GE.tm, E7]; cases s <;> (simp; intro h; cases h)
 | ite c a b _ _ _ => rw [GE.tm, E7]; simp; intro h; cases h
 | pair a b i j =>
  rw [GE.tm, E7, if_pos (.inl rfl), A04, A04, A04, Bool.and_true, Bool.and_eq_true, i, j]
  exact ⟨fun h => .pair h.1 h.2, fun h => by cases h with | pair a b => exact ⟨a, b⟩⟩
 | part s e _ => rw [GE.tm, E7]; cases s <;> (simp; intro h; cases h)
 | cast A B l e i =>
  rw [GE.tm, E7]
  by_cases hp : A.ty.k = B.ty.k ∧ (B.ty.k = 4 ∨ B.ty.k = 5)
  ·rw [if_pos (.inr (.inl ⟨rfl, hp⟩)), A04, A04, Bool.and_true, i]
   constructor
   ·intro h
    cases B <;> cases A <;> first | exact .pf h | exact .pp h | (exfalso; simp [GT.ty, Ty.k] at hp)
   ·intro h; exact h.ofCast
  ·by_cases hi : B.ty.k = 1 ∧ U2 A.ty = true
   ·rw [if_pos (.inr (.inr ⟨rfl, hi⟩)), A04, A04, Bool.and_true, i]
    constructor
    ·intro h
     obtain rfl := A1W.1 hi.1
     exact .inj h (A2T.1 hi.2)
    ·intro h; exact h.ofCast
   ·rw [if_neg (by rintro (h | h | h); exact absurd h (by decide); exact hp h.2; exact hi h.2)]
    constructor
    ·intro h; exact absurd (of_decide_eq_true h) (by decide)
    ·intro h
     exfalso
     cases h with
     | pf _ => exact hp ⟨rfl, .inl rfl⟩
     | pp _ => exact hp ⟨rfl, .inr rfl⟩
     | inj _ hg => exact hi ⟨rfl, A2T.2 hg⟩
theorem A4t {e : GE} (h : ¬GV e) : E7 e.tm = false := by
 cases h2 : E7 e.tm with
 | false => rfl
 | true => exact absurd ((V0 e).1 h2) h
theorem nv {e r : GE} (h : GS e r) : E7 e.tm = false := A4t fun hv => hv.noS _ h
theorem B2d (x : ByteArray) (v : GE) : ∀ e : GE, (e.sub x v).tm = T5 x v.tm e.tm := by
 intro e
 induction e with
 | var y =>
  rw [GE.sub, GE.tm, T5]
  by_cases h : y = x
  ·rw [if_pos h, if_pos ⟨rfl, h⟩]
  ·rw [if_neg h, if_neg (fun c => h c.2), if_neg (by rintro ⟨h, _⟩; exact absurd h (by decide)), GE.tm, S5]
 | num n => rw [GE.sub, GE.tm, T5]; simp [S5]
 | tru b => rw [GE.sub, GE.tm, T5]; cases b <;> simp [S5]
 | lam y A e i =>
  by_cases h : y = x
  ·rw [GE.sub, if_pos h, GE.tm, T5, if_neg (by rintro ⟨h, _⟩; exact absurd h (by decide)), if_pos ⟨rfl, h⟩]
  ·rw [GE.sub, if_neg h, GE.tm, GE.tm, T5, if_neg (by rintro ⟨h, _⟩; exact absurd h (by decide)), if_neg (fun c => h c.2), i, S5, S5]
 | app f a i j => rw [GE.sub, GE.tm, GE.tm, T5, i, j]; simp [S5]
 | ar s a b i j => rw [GE.sub, GE.tm, GE.tm, T5, i, j]; cases s <;> simp [S5]
 | ite c a b i j k => rw [GE.sub, GE.tm, GE.tm, T5, i, j, k]; simp [S5]
 | pair a b i j => rw [GE.sub, GE.tm, GE.tm, T5, i, j]; simp [S5]
 | part s e i => rw [GE.sub, GE.tm, GE.tm, T5, i]; cases s <;> simp [S5]
 | cast A B l e i => rw [GE.sub, GE.tm, GE.tm, T5, i]; simp [S5]
section
variable {k : Int} {nm : ByteArray} {num : Int} {ty fr : Ty} {lb : Int} {a b c : Tm} {t : Tm} {l : Int}
theorem A2U (h : E7 a = false) (ks : List Tm) (hn : k = 9 ∨ ks.length < 3) (r : Tm) (hs : F8 a = (r, 1, 0)) : F8 (.mk k nm num ty fr lb (a :: ks)) = (.mk k nm num ty fr lb (r :: ks), 1, 0) := by
 have : ∃ n, (if k = 9 then 1 else (a :: ks).length) = n + 1 := ⟨if k = 9 then 0 else ks.length, by split <;> simp⟩
 obtain ⟨n, hn⟩ := this
 rw [F8, hn, U9, if_neg (by rw [h]; decide), hs]
 simp
theorem B2e (h : E7 a = false) (ks : List Tm) (hs : (F8 a).2.1 = 2) : (F8 (.mk k nm num ty fr lb (a :: ks))).2.1 = 2 := by
 have : ∃ n, (if k = 9 then 1 else (a :: ks).length) = n + 1 := ⟨if k = 9 then 0 else ks.length, by split <;> simp⟩
 obtain ⟨n, hn⟩ := this
 rw [F8, hn, U9, if_neg (by rw [h]; decide), hs]
 simp
theorem A5V (h0 : E7 a = true) (h : E7 b = false) (hk : k ≠ 9) (r : Tm) (hs : F8 b = (r, 1, 0)) : F8 (.mk k nm num ty fr lb [a, b]) = (.mk k nm num ty fr lb [a, r], 1, 0) := by
 rw [F8, if_neg hk]
 simp only [List.length_cons, List.length_nil, U9, h0, h, if_true, hs]
 simp
theorem B2f (h0 : E7 a = true) (h : E7 b = false) (hk : k ≠ 9) (hs : (F8 b).2.1 = 2) : (F8 (.mk k nm num ty fr lb [a, b])).2.1 = 2 := by
 rw [F8, if_neg hk]
 simp only [List.length_cons, List.length_nil, U9, h0, h, if_true, hs]
 simp
theorem A2u (h : E7 a = true) : F8 (.mk k nm num ty fr lb [a]) = N8 k ty fr lb [a] := by
 rw [F8, show (if k = 9 then 1 else [a].length) = 1 by split <;> rfl, U9, h]
 simp [U9]
theorem A5W (h : E7 a = true) (h2 : E7 b = true) (hk : k ≠ 9) : F8 (.mk k nm num ty fr lb [a, b]) = N8 k ty fr lb [a, b] := by
 rw [F8, if_neg hk]
 simp [U9, h, h2]
theorem B2g (h : E7 a = true) : F8 (.mk 9 nm num ty fr lb [a, b, c]) = N8 9 ty fr lb [a, b, c] := by
 rw [F8, if_pos rfl]
 simp [U9, h]
end
theorem A5X {e r : GE} (h : GS e r) : F8 e.tm = (r.tm, 1, 0) := by
 induction h with
 | app1 s i => rw [GE.tm, A2U (nv s) _ (.inr (by simp)) _ i, GE.tm]
 | app2 v s i => rw [GE.tm, A5V ((V0 _).2 v) (nv s) (by decide) _ i, GE.tm]
 | ar1 s i => rw [GE.tm, A2U (nv s) _ (.inr (by simp)) _ i, GE.tm]
 | @ar2 t _ _ _ v s i => rw [GE.tm, A5V ((V0 _).2 v) (nv s) (by cases t <;> decide) _ i, GE.tm]
 | ite1 s i => rw [GE.tm, A2U (nv s) _ (.inl rfl) _ i, GE.tm]
 | pair1 s i => rw [GE.tm, A2U (nv s) _ (.inr (by simp)) _ i, GE.tm]
 | pair2 v s i => rw [GE.tm, A5V ((V0 _).2 v) (nv s) (by decide) _ i, GE.tm]
 | part1 s i => rw [GE.tm, A2U (nv s) _ (.inr (by simp)) _ i, GE.tm]
 | cast1 s i => rw [GE.tm, A2U (nv s) _ (.inr (by simp)) _ i, GE.tm]
 | beta v =>
  rw [GE.tm, A5W ((V0 _).2 .lam) ((V0 _).2 v) (by decide), B2d]
  rfl
 | appx v w =>
  rw [GE.tm, A5W ((V0 _).2 (.pf v)) ((V0 _).2 w) (by decide)]
  rfl
 | @ar t m n =>
  rw [GE.tm, A5W ((V0 _).2 .num) ((V0 _).2 .num) (by cases t <;> decide)]
  cases t
  ·rfl
  ·unfold A5w
   simp only [if_true]
   show (Z2 (m < n), (1 : Int), (0 : Int)) = _
   unfold Z2
   by_cases h : m < n
   ·simp only [h, if_true, GE.tm, decide_true]; rfl
   ·simp only [h, if_false, GE.tm, decide_false]; rfl
 | @ite b x y =>
  rw [GE.tm, B2g ((V0 _).2 .tru)]
  cases b <;> rfl
 | @part t a b v w =>
  rw [GE.tm, A2u ((V0 _).2 (.pair v w))]
  cases t <;> rfl
 | @partx t a b c d l e v =>
  rw [GE.tm, A2u ((V0 _).2 (.pp v))]
  cases t <;> rfl
 | @cid A l v hv hA =>
  rw [GE.tm, A2u ((V0 _).2 hv)]
  rcases hA with rfl | rfl | rfl <;> rfl
 | @up A l v hv hA hg =>
  rw [GE.tm, A2u ((V0 _).2 hv)]
  cases A with
  | any => exact absurd rfl hA
  | int => exact absurd rfl hg
  | bool => exact absurd rfl hg
  | _ => rfl
 | @down B l v hv hB hg =>
  rw [GE.tm, A2u ((V0 _).2 hv)]
  have hg' := B2c (a := B) fun h => hg h.2
  unfold N8
  rw [if_neg (by decide), if_neg (by decide), if_neg (by decide), if_neg (by decide), if_pos rfl, if_neg, if_neg, if_pos hg', A8i]
  ·rfl
  ·rw [A1W]; exact hB
  ·intro h; exact hB (A1W.1 h.symm)
 | @hit G l m w hv hG =>
  rw [GE.tm, A2u ((V0 _).2 (.inj hv hG))]
  have hg' := A2T.2 hG
  have hi : inj (GE.tm (.cast G .any m w)) = true := by
   rw [GE.tm]; unfold inj; rw [Bool.and_eq_true]; exact ⟨rfl, hg'⟩
  unfold N8
  rw [if_neg (by decide), if_neg (by decide), if_neg (by decide), if_neg (by decide), if_pos rfl, if_neg, if_neg, if_neg (by rw [hg']; decide), if_neg (by show ¬inj (GE.tm (.cast G .any m w)) = false; rw [hi]; decide), if_pos]
  ·rfl
  ·rfl
  ·rw [A1W]; exact hG.1
  ·intro h; exact hG.1 (A1W.1 h.symm)
def Bd (e : GE) : Prop := E7 e.tm = false ∧ (F8 e.tm).2.1 = 2
theorem B2h {Γ : GC} {v v' : GE} {U U' : GT} (h : GP Γ v v' U U') : Γ = N0 → GV v → ∀ {A B}, U = .fn A B → (∃ x C e, v = .lam x C e) ∨ ∃ a b c d l e, v = .cast (.fn a b) (.fn c d) l e ∧ GV e := by
 induction h with
 | castR _ _ _ i => exact i
 | castL _ _ _ _ => intro _ hv A B hU; subst hU; cases hv with | pf h => exact .inr ⟨_, _, _, _, _, _, rfl, h⟩
 | castB _ _ _ _ _ => intro _ hv A B hU; subst hU; cases hv with | pf h => exact .inr ⟨_, _, _, _, _, _, rfl, h⟩
 | lam _ _ _ => intro _ _ _ _ _; exact .inl ⟨_, _, _, rfl⟩
 | app _ _ _ _ => intro _ hv; cases hv
 | ite _ _ _ _ _ _ => intro _ hv; cases hv
 | part _ _ => intro _ hv; cases hv
 | ar _ _ _ _ => intro _ hv; cases hv
 | var _ _ => intro _ hv; cases hv
 | _ => intro _ _ _ _ hU; cases hU
theorem B2i {Γ : GC} {v v' : GE} {U U' : GT} (h : GP Γ v v' U U') : Γ = N0 → GV v → ∀ {A B}, U = .pr A B → (∃ a b, v = .pair a b ∧ GV a ∧ GV b) ∨ ∃ a b c d l e, v = .cast (.pr a b) (.pr c d) l e ∧ GV e := by
 induction h with
 | castR _ _ _ i => exact i
 | castL _ _ _ _ => intro _ hv A B hU; subst hU; cases hv with | pp h => exact .inr ⟨_, _, _, _, _, _, rfl, h⟩
 | castB _ _ _ _ _ => intro _ hv A B hU; subst hU; cases hv with | pp h => exact .inr ⟨_, _, _, _, _, _, rfl, h⟩
 | pair _ _ _ _ => intro _ hv _ _ _; cases hv with | pair a b => exact .inl ⟨_, _, rfl, a, b⟩
 | app _ _ _ _ => intro _ hv; cases hv
 | ite _ _ _ _ _ _ => intro _ hv; cases hv
 | part _ _ => intro _ hv; cases hv
 | ar _ _ _ _ => intro _ hv; cases hv
 | var _ _ => intro _ hv; cases hv
 | _ => intro _ _ _ _ hU; cases hU
theorem A8j {Γ : GC} {v v' : GE} {U U' : GT} (h : GP Γ v v' U U') : Γ = N0 → GV v → U = .int → ∃ n, v = .num n := by
 induction h with
 | castR _ _ _ i => exact i
 | castL _ _ _ _ => intro _ hv hU; subst hU; cases hv
 | castB _ _ _ _ _ => intro _ hv hU; subst hU; cases hv
 | num => intro _ _ _; exact ⟨_, rfl⟩
 | app _ _ _ _ => intro _ hv; cases hv
 | ite _ _ _ _ _ _ => intro _ hv; cases hv
 | part _ _ => intro _ hv; cases hv
 | ar _ _ _ _ => intro _ hv; cases hv
 | var _ _ => intro _ hv; cases hv
 | _ => intro _ _ hU; cases hU
theorem B2j {Γ : GC} {v v' : GE} {U U' : GT} (h : GP Γ v v' U U') : Γ = N0 → GV v → U = .bool → ∃ b, v = .tru b := by
 induction h with
 | castR _ _ _ i => exact i
 | castL _ _ _ _ => intro _ hv hU; subst hU; cases hv
 | castB _ _ _ _ _ => intro _ hv hU; subst hU; cases hv
 | tru => intro _ _ _; exact ⟨_, rfl⟩
 | app _ _ _ _ => intro _ hv; cases hv
 | ite _ _ _ _ _ _ => intro _ hv; cases hv
 | part _ _ => intro _ hv; cases hv
 | ar _ _ _ _ => intro _ hv; cases hv
 | var _ _ => intro _ hv; cases hv
 | _ => intro _ _ hU; cases hU
theorem B2k {Γ : GC} {v v' : GE} {U U' : GT} (h : GP Γ v v' U U') : Γ = N0 → GV v → U = .any → ∃ H l w, v = .cast H .any l w ∧ GV w ∧ H.Gd := by
 induction h with
 | castR _ _ _ i => exact i
 | castL _ _ _ _ => intro _ hv hU; subst hU; cases hv with | inj h g => exact ⟨_, _, _, rfl, h, g⟩
 | castB _ _ _ _ _ => intro _ hv hU; subst hU; cases hv with | inj h g => exact ⟨_, _, _, rfl, h, g⟩
 | app _ _ _ _ => intro _ hv; cases hv
 | ite _ _ _ _ _ _ => intro _ hv; cases hv
 | part _ _ => intro _ hv; cases hv
 | ar _ _ _ _ => intro _ hv; cases hv
 | var _ _ => intro _ hv; cases hv
 | _ => intro _ _ hU; cases hU
theorem A8k {e e' : GE} {A B A' : GT} {l : Int} (h : GP N0 e e' A A') (hc : Co A B) (hv : GV e) : GV (.cast A B l e) ∨ (∃ r, GS (.cast A B l e) r) ∨ Bd (.cast A B l e) := by
 by_cases hA : A = .any
 ·subst hA
  by_cases hB : B = .any
  ·subst hB; exact .inr (.inl ⟨_, .cid hv (.inl rfl)⟩)
  ·by_cases hg : B.gr = B
   ·obtain ⟨H, m, w, rfl, hw, hH⟩ := B2k h rfl hv rfl
    by_cases he : H = B
    ·subst he; exact .inr (.inl ⟨_, .hit hw hH⟩)
    ·refine .inr (.inr ⟨A4t (by intro h; cases h; exact hB rfl), ?_⟩)
     have hg' := A2T.2 (show B.Gd from ⟨hB, hg⟩)
     have hi : inj (GE.tm (.cast H .any m w)) = true := by
      rw [GE.tm]; unfold inj; rw [Bool.and_eq_true]; exact ⟨rfl, A2T.2 hH⟩
     rw [GE.tm, A2u ((V0 _).2 hv)]
     unfold N8
     rw [if_neg (by decide), if_neg (by decide), if_neg (by decide), if_neg (by decide), if_pos rfl, if_neg, if_neg, if_neg (by rw [hg']; decide), if_neg (by show ¬inj (GE.tm (.cast H .any m w)) = false; rw [hi]; decide), if_neg]
     ·show ¬H.ty.k = B.ty.k
      intro hk
      apply he
      rw [← hH.2, ← hg]
      cases H <;> cases B <;> first | rfl | (simp [GT.ty, Ty.k] at hk)
     ·rw [A1W]; exact hB
     ·intro h; exact hB (A1W.1 h.symm)
   ·exact .inr (.inl ⟨_, .down hv hB hg⟩)
 ·by_cases hB : B = .any
  ·subst hB
   by_cases hg : A.gr = A
   ·exact .inl (.inj hv ⟨hA, hg⟩)
   ·exact .inr (.inl ⟨_, .up hv hA hg⟩)
  ·cases hc with
   | l => exact absurd rfl hA
   | r => exact absurd rfl hB
   | int => exact .inr (.inl ⟨_, .cid hv (.inr (.inl rfl))⟩)
   | bool => exact .inr (.inl ⟨_, .cid hv (.inr (.inr rfl))⟩)
   | fn _ _ => exact .inl (.pf hv)
   | pr _ _ => exact .inl (.pp hv)
theorem A2v {a : GE} (h : Bd a) {e : GE} {k : Int} {nm : ByteArray} {num : Int} {ty fr : Ty} {lb : Int} {ks : List Tm} (he : e.tm = .mk k nm num ty fr lb (a.tm :: ks)) (hv : ¬GV e) : Bd e :=
 ⟨A4t hv, by rw [he]; exact B2e h.1 ks h.2⟩
theorem A5Y {a b : GE} (ha : GV a) (h : Bd b) {e : GE} {k : Int} {nm : ByteArray} {num : Int} {ty fr : Ty} {lb : Int} (hk : k ≠ 9) (he : e.tm = .mk k nm num ty fr lb [a.tm, b.tm]) (hv : ¬GV e) : Bd e :=
 ⟨A4t hv, by rw [he]; exact B2f ((V0 _).2 ha) h.1 hk h.2⟩
theorem A4u {e : GE} (h : Bd e) : ¬GV e := fun hv => by have := (V0 e).2 hv; rw [h.1] at this; cases this
theorem A8l {Γ : GC} {e e' : GE} {A A' : GT} (h : GP Γ e e' A A') : Γ = N0 → GV e ∨ (∃ r, GS e r) ∨ Bd e := by
 induction h with
 | var hx _ => intro hE; subst hE; cases hx
 | num => intro _; exact .inl .num
 | tru => intro _; exact .inl .tru
 | lam _ _ _ => intro _; exact .inl .lam
 | app hf ha i j =>
  intro hE
  refine .inr ?_
  rcases i hE with vf | ⟨r, s⟩ | b
  ·rcases j hE with va | ⟨r, s⟩ | b
   ·rcases B2h hf hE vf rfl with ⟨x, C, e, rfl⟩ | ⟨_, _, _, _, _, _, rfl, hw⟩
    ·exact .inl ⟨_, .beta va⟩
    ·exact .inl ⟨_, .appx hw va⟩
   ·exact .inl ⟨_, .app2 vf s⟩
   ·exact .inr (A5Y vf b (k := 6) (by decide) rfl (by intro h; cases h))
  ·exact .inl ⟨_, .app1 s⟩
  ·exact .inr (A2v b (k := 6) rfl (by intro h; cases h))
 | @ar Γ t _ _ _ _ ha hb i j =>
  intro hE
  refine .inr ?_
  rcases i hE with va | ⟨r, s⟩ | b
  ·rcases j hE with vb | ⟨r, s⟩ | b
   ·obtain ⟨m, rfl⟩ := A8j ha hE va rfl
    obtain ⟨n, rfl⟩ := A8j hb hE vb rfl
    exact .inl ⟨_, .ar⟩
   ·exact .inl ⟨_, .ar2 va s⟩
   ·exact .inr (A5Y va b (k := if t = true then 8 else 7) (by cases t <;> decide) rfl (by intro h; cases h))
  ·exact .inl ⟨_, .ar1 s⟩
  ·exact .inr (A2v b rfl (by intro h; cases h))
 | ite hc _ _ i _ _ =>
  intro hE
  refine .inr ?_
  rcases i hE with vc | ⟨r, s⟩ | b
  ·obtain ⟨m, rfl⟩ := B2j hc hE vc rfl
   exact .inl ⟨_, .ite⟩
  ·exact .inl ⟨_, .ite1 s⟩
  ·exact .inr (A2v b rfl (by intro h; cases h))
 | pair ha hb i j =>
  intro hE
  rcases i hE with va | ⟨r, s⟩ | b
  ·rcases j hE with vb | ⟨r, s⟩ | b
   ·exact .inl (.pair va vb)
   ·exact .inr (.inl ⟨_, .pair2 va s⟩)
   ·exact .inr (.inr (A5Y va b (k := 10) (by decide) rfl (by intro h; cases h with | pair _ h => exact A4u b h)))
  ·exact .inr (.inl ⟨_, .pair1 s⟩)
  ·exact .inr (.inr (A2v b rfl (by intro h; cases h with | pair h _ => exact A4u b h)))
 | part h i =>
  intro hE
  refine .inr ?_
  rcases i hE with vc | ⟨r, s⟩ | b
  ·rcases B2i h hE vc rfl with ⟨_, _, rfl, ha, hb⟩ | ⟨_, _, _, _, _, _, rfl, hw⟩
   ·exact .inl ⟨_, .part ha hb⟩
   ·exact .inl ⟨_, .partx hw⟩
  ·exact .inl ⟨_, .part1 s⟩
  ·exact .inr (A2v b rfl (by intro h; cases h))
 | castL h hc _ i =>
  intro hE
  rcases i hE with hv | ⟨r, s⟩ | b
  ·subst hE; exact A8k h hc hv
  ·exact .inr (.inl ⟨_, .cast1 s⟩)
  ·exact .inr (.inr (A2v b rfl (fun h => A4u b h.ofCast)))
 | castR _ _ _ i => exact i
 | castB h hc _ _ i =>
  intro hE
  rcases i hE with hv | ⟨r, s⟩ | b
  ·subst hE; exact A8k h hc hv
  ·exact .inr (.inl ⟨_, .cast1 s⟩)
  ·exact .inr (.inr (A2v b rfl (fun h => A4u b h.ofCast)))
theorem B2l {e : Tm} (h : (E9 e).2.1 = 1) : O5 e = true ∧ E7 e = false ∧ (F8 e).2.1 = 1 ∧ (E9 e).1 = (F8 e).1 := by
 unfold E9 at h ⊢
 split at h
 ·cases h
 ·rename_i h1
  split at h
  ·cases h
  ·rename_i h2
   split at h
   ·rename_i h3; exact absurd h h3
   ·rename_i h3
    split at h
    ·cases h
    ·rename_i h4
     rw [if_neg h1, if_neg h2, if_neg h3, if_neg h4]
     refine ⟨by cases hv : O5 e with | true => rfl | false => exact absurd hv h1, by cases hv : E7 e with | false => rfl | true => exact absurd hv h2, ?_, rfl⟩
     apply Classical.byContradiction
     intro hc; exact h3 hc
theorem A8m {e : Tm} (h : (E9 e).2.1 = 0) (hc : (F8 e).2.1 ≠ 0) : E7 e = true ∧ (E9 e).1 = e := by
 unfold E9 at h ⊢
 split at h
 ·cases h
 ·rename_i h1
  split at h
  ·rename_i h2; rw [if_neg h1, if_pos h2]; exact ⟨h2, rfl⟩
  ·split at h
   ·exact absurd h hc
   ·split at h <;> cases h
theorem A8n {n : Nat} {e : Tm} (h : (E9 e).2.1 = 1) : K1 (n + 1) e = ((K1 n (E9 e).1).1, (K1 n (E9 e).1).2.1, (K1 n (E9 e).1).2.2.1, (K1 n (E9 e).1).2.2.2 + 1) := by rw [K1, if_pos h]
theorem B2m : ∀ (n : Nat) {e e' : GE} {A A' : GT}, GP N0 e e' A A' → (K1 n e.tm).2.1 = 0 → ∃ w, (K1 n e.tm).1 = w.tm ∧ GV w ∧ Ss e w := by
 intro n
 have fin : ∀ {e e' : GE} {A A' : GT}, GP N0 e e' A A' → (E9 e.tm).2.1 ≠ 1 → (E9 e.tm).2.1 = 0 → ∃ w, (E9 e.tm).1 = w.tm ∧ GV w ∧ Ss e w := by
  intro e e' A A' hp _ h0
  have hv : E7 e.tm = true := by
   rcases A8l hp rfl with hv | ⟨r, s⟩ | b
   ·exact (V0 _).2 hv
   ·exact (A8m h0 (by rw [A5X s]; show (1 : Int) ≠ 0; decide)).1
   ·exact (A8m h0 (by rw [b.2]; decide)).1
  refine ⟨e, ?_, (V0 _).1 hv, .refl⟩
  unfold E9 at h0 ⊢
  split at h0
  ·cases h0
  ·rename_i h1; rw [if_neg h1, if_pos hv]
 induction n with
 | zero =>
  intro e e' A A' hp h
  rw [K1] at h ⊢
  by_cases h1 : (E9 e.tm).2.1 = 1
  ·rw [if_pos h1] at h; cases h
  ·rw [if_neg h1] at h ⊢; exact fin hp h1 h
 | succ n ih =>
  intro e e' A A' hp h
  by_cases h1 : (E9 e.tm).2.1 = 1
  ·obtain ⟨_, hv, hs, he⟩ := B2l h1
   rcases A8l hp rfl with hv' | ⟨r, s⟩ | b
   ·rw [(V0 _).2 hv'] at hv; cases hv
   ·rw [A8n h1] at h ⊢
    have hr : (E9 e.tm).1 = r.tm := by rw [he, A5X s]
    rw [hr] at h ⊢
    obtain ⟨r', _, hp'⟩ := sim hp rfl s
    obtain ⟨w, h2, h3, h4⟩ := ih hp' h
    exact ⟨w, h2, h3, .step s h4⟩
   ·rw [b.2] at hs; cases hs
  ·rw [K1, if_neg h1] at h ⊢; exact fin hp h1 h
theorem B2n : ∀ {e w : GE}, Ss e w → GV w → ∀ (n : Nat), O5 e.tm = true → ((K1 n e.tm).2.1 = 0 ∧ (K1 n e.tm).1 = w.tm) ∨ (K1 n e.tm).2.1 = 4 ∨ (K1 n e.tm).2.1 = 5 := by
 intro e w h
 induction h with
 | @refl e =>
  intro hv n hc
  have : E9 e.tm = (e.tm, 0, 0) := by unfold E9; rw [if_neg (by rw [hc]; decide), if_pos ((V0 _).2 hv)]
  cases n with
  | zero => rw [K1, this]; exact .inl ⟨rfl, rfl⟩
  | succ n => rw [K1, this]; exact .inl ⟨rfl, rfl⟩
 | @step a b c s _ ih =>
  intro hv n hc
  have hs := A5X s
  have : E9 a.tm = if O5 b.tm = false then (I2, 4, 0) else (b.tm, 1, 0) := by
   unfold E9; rw [if_neg (by rw [hc]; decide), if_neg (by rw [nv s]; decide), hs, if_neg (by show ¬(1 : Int) ≠ 1; decide)]
  cases hcb : O5 b.tm with
  | false =>
   rw [if_pos hcb] at this
   cases n with
   | zero => rw [K1, this]; exact .inr (.inl rfl)
   | succ n => rw [K1, this]; exact .inr (.inl rfl)
  | true =>
   rw [if_neg (by rw [hcb]; decide)] at this
   cases n with
   | zero => rw [K1, this]; exact .inr (.inr rfl)
   | succ n =>
    rw [A8n (by rw [this]), this]
    exact ih hv n hcb
theorem B2o {n : Nat} {e e' : GE} {A A' : GT} (hp : GP N0 e e' A A') (h : (K1 n e.tm).2.1 = 0) (m : Nat) (hc : O5 e'.tm = true) :
  ∃ w, (K1 n e.tm).1 = w.tm ∧ GV w ∧ (((K1 m e'.tm).2.1 = 0 ∧ ∃ w', (K1 m e'.tm).1 = w'.tm ∧ GV w' ∧ w.tx = w'.tx) ∨ (K1 m e'.tm).2.1 = 4 ∨ (K1 m e'.tm).2.1 = 5) := by
 obtain ⟨w, h1, h2, h3⟩ := B2m n hp h
 obtain ⟨r', s, hp2⟩ := B1m h3 hp
 obtain ⟨w', s2, hw', hp3⟩ := A0K hp2 rfl h2
 refine ⟨w, h1, h2, ?_⟩
 rcases B2n (s.trans s2) hw' m hc with ⟨a, b⟩ | a | a
 ·exact .inl ⟨a, w', b, hw', B1n hp3 rfl h2 hw'⟩
 ·exact .inr (.inl a)
 ·exact .inr (.inr a)
theorem B2p {t : Tm} (h : t.small) : t.nm.size ≤ 4294967296 ∧ t.ty.small ∧ t.fr.small ∧ t.ks.length ≤ 4294967296 ∧ Tm.smallL t.ks := by
 cases t; exact A0o.1 h
theorem A8o {ks : List Ty} (h : Ty.smallL ks) (i : Nat) : (kt ks i).small := by
 unfold kt
 rw [List.getD_eq_getElem?_getD]
 cases hi : ks[i]? with
 | none => exact A2t
 | some t => exact Ty.smallL_mem h t (List.mem_of_getElem? hi)
theorem A8p {t : Ty} (h : t.small) : Ty.smallL t.ks := by cases t; simp only [Ty.small] at h; exact h.2
theorem A2V (t : Ty) : (U8 t).small := by
 unfold U8; split <;> simp [P9, Ty.small, Ty.smallL]
theorem A2w {e : Tm} {a b : Ty} {l : Int} (h : e.small) (ha : a.small) (hb : b.small) : (L4 e a b l).small := A0o.2 ⟨by decide, hb, ha, by simp, by simp [Tm.smallL, h]⟩
theorem A1X (e : Tm) (a b : Ty) (l : Int) : D0 (L4 e a b l) = D0 e + 1 := by rw [L4, Y1, E3, E3]
theorem A5Z {k : Int} {ks : List Tm} (h : Tm.smallL ks) (hl : ks.length ≤ 4294967296) : (A0n k ks).small := A0o.2 ⟨by decide, A2t, A2t, hl, h⟩
theorem A50 (k : Int) (ks : List Tm) : D0 (A0n k ks) = E3 ks + 1 := by rw [A0n, Y1]
theorem B2q {a : Tm} (h : a.small) : Tm.smallL [a] := by simp [Tm.smallL, h]
theorem B2r {a b : Tm} (h : a.small) (h2 : b.small) : Tm.smallL [a, b] := by simp [Tm.smallL, h, h2]
theorem A8q : D0 I2 = 1 := by simp [I2, D0, E3]
theorem B2s (t : Tm) : D0 t = E3 t.ks + 1 := by cases t; rw [Y1]; rfl
theorem B2t {k : Int} {ty fr : Ty} {lb : Int} {ks : List Tm} (hk : Tm.smallL ks) (hc : E3 ks ≤ 199) (ht : ty.small) (hf : fr.small) : (N8 k ty fr lb ks).1.small ∧ D0 (N8 k ty fr lb ks).1 ≤ 40100 := by
 have a0 := A1V hk 0
 have a1 := A1V hk 1
 have a2 := A1V hk 2
 have n0 := A4s (ks := ks) 0
 have n1 := A4s (ks := ks) 1
 have n2 := A4s (ks := ks) 2
 obtain ⟨_, b2, b3, _, b5⟩ := B2p a0
 have e0 := B2s (kd ks 0)
 have m := fun i => A4s (ks := (kd ks 0).ks) i
 have st : Q7.1.small ∧ D0 Q7.1 ≤ 40100 := ⟨A3A, by simp [Q7, I2, D0, E3]⟩
 have hty := fun i => A8o (A8p b2) i
 have hfr := fun i => A8o (A8p b3) i
 unfold N8
 split
 ·split
  ·obtain ⟨s1, s2⟩ := A8g (x := (kd ks 0).nm) a1 (kd (kd ks 0).ks 0) (A1V b5 0)
   refine ⟨s1, Nat.le_trans s2 ?_⟩
   have : D0 (kd (kd ks 0).ks 0) * D0 (kd ks 1) ≤ 200 * 200 := Nat.mul_le_mul (by have := m 0; omega) (by omega)
   omega
  ·split
   ·refine ⟨A2w (A5Z (B2r (A1V b5 0) (A2w a1 (hty 0) (hfr 0))) (by simp)) (hfr 1) (hty 1), ?_⟩
    have := m 0
    show D0 (L4 _ _ _ _) ≤ 40100
    rw [A1X, A50, E3, E3, E3, A1X]
    omega
   ·exact st
 ·split
  ·split
   ·split
    ·exact ⟨A0o.2 ⟨by decide, A2t, A2t, by simp, by simp [Tm.smallL]⟩, by simp [A2p, D0, E3]⟩
    ·exact ⟨A5Z (by simp [Tm.smallL]) (by simp), by simp [Z2, A50, E3]⟩
   ·exact st
  ·split
   ·split
    ·exact ⟨a1, by show D0 (kd ks 1) ≤ _; omega⟩
    ·split
     ·exact ⟨a2, by show D0 (kd ks 2) ≤ _; omega⟩
     ·exact st
   ·split
    ·split
     ·exact ⟨A1V b5 _, by have := m (k - 11).toNat; show D0 (kd _ _) ≤ _; omega⟩
     ·split
      ·refine ⟨A2w (A5Z (B2q (A1V b5 0)) (by simp)) (hfr _) (hty _), ?_⟩
       have := m 0
       show D0 (L4 _ _ _ _) ≤ 40100
       rw [A1X, A50, E3, E3]
       omega
      ·exact st
    ·split
     ·split
      ·exact ⟨a0, by show D0 (kd ks 0) ≤ _; omega⟩
      ·split
       ·refine ⟨A2w (A2w a0 hf (A2V fr)) (A2V fr) ht, ?_⟩
        show D0 (L4 _ _ _ _) ≤ 40100
        rw [A1X, A1X]; omega
       ·split
        ·refine ⟨A2w (A2w a0 hf (A2V ty)) (A2V ty) ht, ?_⟩
         show D0 (L4 _ _ _ _) ≤ 40100
         rw [A1X, A1X]; omega
        ·split
         ·exact st
         ·split
          ·exact ⟨A1V b5 0, by have := m 0; show D0 (kd _ _) ≤ _; omega⟩
          ·exact ⟨A3A, by simp [I2, D0, E3]⟩
     ·exact st
theorem B2u (ks : List Tm) (ih : ∀ t ∈ ks, t.small → D0 t ≤ 200 → (F8 t).1.small ∧ D0 (F8 t).1 ≤ D0 t + 40100) : ∀ (n : Nat), Tm.smallL ks → E3 ks ≤ 199 → ∀ us c l, U9 n ks = some (us, c, l) → Tm.smallL us ∧ us.length = ks.length ∧ E3 us ≤ E3 ks + 40100 := by
 induction ks with
 | nil => intro n _ _ us c l h; simp [U9] at h
 | cons t ts ihl =>
  intro n hs hc us c l h
  simp only [Tm.smallL] at hs
  simp only [E3] at hc ⊢
  cases n with
  | zero => simp [U9] at h
  | succ n =>
   rw [U9] at h
   split at h
   ·split at h
    ·rename_i us' c' l' hs'
     cases h
     obtain ⟨l1, l2, l3⟩ := ihl (fun u hu => ih u (List.mem_cons_of_mem _ hu)) n hs.2 (by omega) us' c l hs'
     exact ⟨by simp only [Tm.smallL]; exact ⟨hs.1, l1⟩, by simp [l2], by simp only [E3]; omega⟩
    ·cases h
   ·cases h
    obtain ⟨s1, s2⟩ := ih t List.mem_cons_self hs.1 (by omega)
    exact ⟨by simp only [Tm.smallL]; exact ⟨s1, hs.2⟩, by simp, by simp only [E3]; omega⟩
theorem B2v : ∀ (t : Tm), t.small → D0 t ≤ 200 → (F8 t).1.small ∧ D0 (F8 t).1 ≤ D0 t + 40100 := by
 refine Tm.ind fun k nm num ty fr lb ks ih h hc => ?_
 obtain ⟨h1, h2, h3, h4, h5⟩ := A0o.1 h
 rw [Y1] at hc
 have hL := B2u ks ih (if k = 9 then 1 else ks.length) h5 (by omega)
 rw [F8]
 split
 ·rename_i us c l hs
  obtain ⟨l1, l2, l3⟩ := hL us c l hs
  split
  ·refine ⟨A0o.2 ⟨h1, h2, h3, by omega, l1⟩, ?_⟩
   show D0 (.mk k nm num ty fr lb us) ≤ _
   rw [Y1, Y1]; omega
  ·exact ⟨A3A, by show D0 I2 ≤ _; rw [A8q]; omega⟩
 ·have := B2t (k := k) (lb := lb) h5 (by omega) h2 h3
  rw [Y1]
  exact ⟨this.1, by omega⟩
def A51 (u : Ty) (G : IM) : IM → Value → List A6 → Prop := M4 fun G' v => ∃ cells, v = .agg ⟨cells⟩ ∧ B6 G' u cells
def X1 (r : Option Ty) (G : IM) : IM → Value → List A6 → Prop := M4 fun G' v => ∃ cells u, v = .tuple ⟨[.agg ⟨cells⟩, .bool r.isSome]⟩ ∧ B6 G' u cells ∧ ∀ t, r = some t → u = t
theorem B2w {G : IM} {k : Int} {a b : Ty} {ca cb : List Value} {p : Option Addr} {c : Nat} (hk : F0 k) (ha : B6 G a ca) (hb : B6 G b cb) (hs : Sl G p 2 c 2 (ca ++ cb)) : B6 G (.mk k [a, b]) [.int .i64 k, .slice p 2 c] := by
 have hL : C9 G [a, b] [ca, cb] := by simp only [C9]; exact ⟨ca, [cb], rfl, ha, cb, [], rfl, hb, rfl⟩
 exact C9.ty (ts := [a, b]) (es := [ca, cb]) hL rfl (by simpa using hs) hk
theorem A52 : ∀ (t t' : Ty) (G : IM) (cells cells' : List Value), B6 G t cells → B6 G t' cells' → Fn Tryz.prog 13 [.agg ⟨cells⟩, .agg ⟨cells'⟩] [] G (H2 (.bool (M5 t t')) G) := by
 refine Ty.ind fun k ks ih t' G cells cells' hr hr' => ?_
 obtain ⟨k', ks'⟩ := t'
 obtain ⟨p, c, es, rfl, hk, hsl, hkl⟩ := hr.open
 obtain ⟨p', c', es', rfl, hk', hsl', hkl'⟩ := hr'.open
 simp only [Ty.k, Ty.ks] at hk hsl hkl hk' hsl' hkl' ⊢
 obtain ⟨A, hA⟩ : ∃ A, A0b ks ks' = A := ⟨_, rfl⟩
 have hA' : A = true ↔ ks.length = ks'.length ∧ ∀ i, i < ks.length → M5 (ks.getD i B2) (ks'.getD i B2) = true := by
  rw [← hA, A3t]
  constructor
  ·rintro ⟨h1, h2⟩
   refine ⟨h1, fun i hi => ?_⟩
   have := h2 i hi (by omega)
   simpa [List.getD_eq_getElem?_getD, List.getElem?_eq_getElem hi, List.getElem?_eq_getElem (show i < ks'.length by omega)] using this
  ·rintro ⟨h1, h2⟩
   refine ⟨h1, fun i hi hi' => ?_⟩
   have := h2 i hi
   simpa [List.getD_eq_getElem?_getD, List.getElem?_eq_getElem hi, List.getElem?_eq_getElem hi'] using this
 refine B7 Tryz.func13 rfl Tryz.ntmps13 Tryz.results13 rfl ?_
 intro w0
 refine tS (tR ?_)
 refine sE (C2 rfl rfl) rfl (fun b3 => ?_)
 refine sE (C2 rfl rfl) rfl (fun b4 => ?_)
 refine D9 ?_
 refine sB (qE rfl rfl) rfl rfl (fun h14 => ?_) (fun h14 => ?_)
 refine O7 ?_
 refine H8 rfl (A5z _ _ _ _ _ _ _ _ _ hsl hsl' _ [] [] [] (fun i => M5 (ks.getD i B2) (ks'.getD i B2)) A hA' (fun i e e' he he' => ih _ (hkl.inv he B2).1 _ _ _ _ (hkl.inv he B2).2 (hkl'.inv he' B2).2)) rfl rfl ?_
 refine H6 ?_
 exact ⟨rfl, by rw [A2i, hA]; first | (rw [decide_eq_true (p := k = k') (by omega)]; rfl) | (rw [decide_eq_false (p := k = k') (by omega)]; rfl), rfl⟩
 refine N5 ?_
 exact ⟨rfl, by rw [A2i, hA]; first | (rw [decide_eq_true (p := k = k') (by omega)]; rfl) | (rw [decide_eq_false (p := k = k') (by omega)]; rfl), rfl⟩
theorem A1Y (k : Int) (a b : Ty) (G : IM) (ca cb : List Value) (hk : F0 k) (hra : B6 G a ca) (hrb : B6 G b cb) :
  Fn Tryz.prog 106 [.int .i64 k, .agg ⟨ca⟩, .agg ⟨cb⟩] [] G (A51 (.mk k [a, b]) G) := by
 obtain ⟨pa, cca, ea, rfl, _⟩ := hra.open
 obtain ⟨pb, ccb, eb, rfl, _⟩ := hrb.open
 refine B7 Tryz.func106 rfl Tryz.ntmps106 Tryz.results106 rfl ?_
 intro w0
 refine tS (tR ?_)
 refine sE (C2 rfl rfl) rfl (fun b3 => ?_)
 refine sE (C2 rfl rfl) rfl (fun b4 => ?_)
 refine sE (A7 rfl) rfl (fun b5 => ?_)
 refine C4 ?_
 (refine J1 (C7 rfl rfl rfl (by omega) (by unfold maxLen; omega) rfl) rfl ?_; rintro _ ⟨b13, rfl⟩)
 refine sQ (Q3 rfl rfl) rfl (F9 ?_)
 refine sD (nS ?_)
 (refine H0 (by repeat (first | exact Pk.here | apply Pk.there)) (fun G5 hle5 hsl5 hno5 => ?_))
 refine tT ?_
 refine E5 (rC rfl (A5 rfl rfl)) ?_
 exact ⟨rfl, _, rfl, B2w hk (hra.mono hle5) (hrb.mono hle5) hsl5⟩
theorem A1I (k tk : Int) (ks : List Ty) : Q5 k (.mk tk ks) = if tk = k then some (ks.getD 0 B2, ks.getD 1 B2) else if tk = 1 then some (P9, P9) else none := rfl
def A8r (k : Int) (t : Ty) (G : IM) : IM → Value → List A6 → Prop := M4 fun G' v => ∃ a ca b cb, v = .tuple ⟨[.agg ⟨ca⟩, .agg ⟨cb⟩, .bool (Q5 k t).isSome]⟩ ∧ B6 G' a ca ∧ B6 G' b cb ∧ E6 a ∧ E6 b ∧ ∀ p, Q5 k t = some p → p = (a, b)
theorem A8s (k : Int) (t : Ty) (G : IM) (cells : List Value) (hk : k = 4 ∨ k = 5) (ha : E6 t) (hr : B6 G t cells) :
  Fn Tryz.prog 107 [.agg ⟨cells⟩, .int .i64 k] [] G (A8r k t G) := by
 obtain ⟨tk, ks⟩ := t
 have ha2 := ha
 rw [E6] at ha2
 have hkid := ha.kid
 obtain ⟨p, c, es, rfl, htk, hsl, hkl⟩ := hr.open
 simp only [Ty.k, Ty.ks] at htk hsl hkl ⊢
 refine B7 Tryz.func107 rfl Tryz.ntmps107 Tryz.results107 rfl ?_
 intro w0
 refine tS (tR ?_)
 refine sE (C2 rfl rfl) rfl (fun b3 => ?_)
 refine sE (A7 rfl) rfl (fun b4 => ?_)
 refine sE (A7 rfl) rfl (fun b5 => ?_)
 refine I5 ?_
 refine B8 (tS (tR (sQ (qM rfl) rfl (sB (qE rfl rfl) rfl rfl (fun h20 => ?_) (fun h20 => ?_)))))
 refine sQ (qA rfl) rfl (sD (nS (qT rfl (tS ?_))))
 (have hlen : ks.length = 2 := ha2.1 (by omega); obtain ⟨b, o, q0, d0, hp0, hat0, hre0, hg0⟩ := hsl.kidTy hkl (i := 0) (by omega) (by omega); obtain ⟨b', o', q1, d1, hp1, hat1, hre1, hg1⟩ := hsl.kidTy hkl (i := 1) (by omega) (by omega); subst hp0; cases hp1; refine D4 D5 rfl ?_)
 refine I3 (i := 0) (l' := [tt,ff,ff,ff,ff,ff,ff,ff,ff,ff,ff]) rfl C8 (B0 rfl) rfl (by kernel_rfl) rfl rfl ?_
 refine aL 1 rfl (B5 rfl rfl) rfl ?_
 refine aP 2 rfl (B3 (j := 0) rfl rfl rfl (by omega)) rfl ?_
 refine aL 3 rfl (A3 rfl rfl (hat0 _) rfl) rfl ?_
 refine aP 4 rfl (B0 rfl) rfl ?_
 refine aL 5 rfl (B5 rfl rfl) rfl ?_
 refine aP 6 rfl (B3 (j := 1) rfl rfl rfl (by omega)) rfl ?_
 refine aL 7 rfl (A3 rfl rfl (hat1 _) rfl) rfl ?_
 refine A4 8 ?_
 refine H7 rfl ?_
 refine A4 9 ?_
 refine H7 rfl ?_
 refine aP 10 rfl (qA rfl) rfl ?_
 refine C1 (nS (tT (rB (rS ?_))))
 refine C6 (rC rfl (A5 rfl rfl)) (rC rfl (A5 rfl rfl)) (rT rfl) ?_
 (refine ⟨rfl, _, _, _, _, ?_, hre0, hre1, hkid _ (List.getElem_mem (by omega)), hkid _ (List.getElem_mem (by omega)), ?_⟩ <;> rw [A1I, if_pos (by omega)] <;> first | rfl | (intro p hp; cases hp; simp [hlen]))
 refine sQ (qA rfl) rfl (sD (nS (cF rfl (tS (tR ?_)))))
 refine sB (qE rfl rfl) rfl rfl (fun h53 => ?_) (fun h53 => ?_)
 refine sQ (qA rfl) rfl (sD (nS (qT rfl (tS (tR ?_)))))
 refine H8 rfl ((A1C _ _)) rfl rfl ?_
 refine H8 rfl ((A1C _ _)) rfl rfl ?_
 refine F9 ?_
 refine F9 ?_
 refine sQ (qA rfl) rfl (sD (nS (tT (rB (rS ?_)))))
 refine C6 (rC rfl (A5 rfl rfl)) (rC rfl (A5 rfl rfl)) (rT rfl) ?_
 (refine ⟨rfl, _, _, _, _, ?_, A0C _, A0C _, A3r, A3r, ?_⟩ <;> rw [A1I, if_neg (by omega), if_pos (by omega)] <;> first | rfl | (intro p hp; cases hp; rfl))
 refine T7 ?_
 refine C6 (rC rfl (A5 rfl rfl)) (rC rfl (A5 rfl rfl)) (rT rfl) ?_
 (refine ⟨rfl, B2, _, B2, _, ?_, M2 _ ⟨by omega, by omega⟩, M2 _ ⟨by omega, by omega⟩, T4 (by omega) (by omega), T4 (by omega) (by omega), ?_⟩ <;> rw [A1I, if_neg (by omega), if_neg (by omega)] <;> first | rfl | (intro p hp; cases hp))
def A2W (G : IM) (b : ByteArray × Ty) (e : List Value) : Prop := ∃ q d, e = [.string b.1, .int .i64 b.2.k, .slice q b.2.ks.length d] ∧ B6 G b.2 [.int .i64 b.2.k, .slice q b.2.ks.length d]
theorem A2W.mono {G G' : IM} {b : ByteArray × Ty} {e : List Value} (h : A2W G b e) (hg : B9 G G') : A2W G' b e := by
 obtain ⟨q, d, h1, h2⟩ := h
 exact ⟨q, d, h1, h2.mono hg⟩
def R1 (G : IM) (cx : Cx) (p : Option Addr) (n c : Nat) : Prop := n = cx.length ∧ ∃ es : List (List Value), D3 G p n c 3 es ∧ ∀ (i : Nat) (b : ByteArray × Ty), cx[i]? = some b → ∃ e, es[i]? = some e ∧ A2W G b e
theorem R1.mono {G G' : IM} {cx : Cx} {p : Option Addr} {n c : Nat} (h : R1 G cx p n c) (hg : B9 G G') : R1 G' cx p n c := by
 obtain ⟨h1, es, h2, h3⟩ := h
 refine ⟨h1, es, h2.mono hg, fun i b hb => ?_⟩
 obtain ⟨e, he, hr⟩ := h3 i b hb
 exact ⟨e, he, hr.mono hg⟩
theorem R1.nil (G : IM) : R1 G [] none 0 0 := ⟨rfl, [], D3.nil _ _, by simp⟩
theorem R1.le {G : IM} {cx : Cx} {p : Option Addr} {n c : Nat} (h : R1 G cx p n c) : n ≤ 9223372036854775807 := by
 obtain ⟨h1, es, h2, h3⟩ := h
 exact h2.le
theorem R1.get {G : IM} {cx : Cx} {p : Option Addr} {n c : Nat} (h : R1 G cx p n c) {i : Nat} (hi : i < n) :
  ∃ b o nm t q d, cx[i]? = some (nm, t) ∧ p = some ⟨b, o, none⟩ ∧ (∀ hp, At hp G b (o + i * 3) [.string nm, .int .i64 t.k, .slice q t.ks.length d]) ∧ B6 G t [.int .i64 t.k, .slice q t.ks.length d] ∧ G b ≠ none := by
 obtain ⟨h1, es, h2, h3⟩ := h
 obtain ⟨e, b, o, he, rfl, hl, _, hat, hgb⟩ := h2.get (i := i) (by omega)
 have hx : cx[i]? = some cx[i] := List.getElem?_eq_getElem (by omega)
 obtain ⟨e', he', q, d, h4, h5⟩ := h3 i _ hx
 rw [he] at he'
 obtain rfl := Option.some.inj he'
 rw [h4] at hat
 exact ⟨b, o, cx[i].1, cx[i].2, q, d, hx, rfl, hat, h5, hgb⟩
theorem B2x (G : IM) (cx : Cx) (p : Option Addr) (n c : Nat) (nm : ByteArray) (hx : R1 G cx p n c) :
  Fn Tryz.prog 105 [.slice p n c, .string nm] [] G (X1 (A0c cx nm) G) := by
 have hn := hx.le
 have hn1 := hx.1
 refine B7 Tryz.func105 rfl Tryz.ntmps105 Tryz.results105 rfl ?_
 intro w0
 refine tS (tR ?_)
 refine sE (A7 rfl) rfl (fun b3 => ?_)
 refine D2 ?_
 refine sP (P1 rfl rfl (by omega) (by omega)) rfl rfl ?_
 refine sQ (qA rfl) rfl (sD (nS ?_))
 refine B8 ?_
 (refine J8 (fun (i : Nat) => ⟨[(6, .int .i64 ((i : Int) - 1)), (0, .slice p n c), (1, .string nm), (4, .pointer (some ⟨b3, 0, none⟩))], [.blk b3 [.int .i64 0, .slice none 0 0]], G⟩) (fun i => i ≤ n ∧ W9 cx nm i = A0c cx nm) (fun i => i) n ?_ ?_ ?_)
 exact D8
 exact ⟨Nat.le_refl _, by rw [hn1]; rfl⟩
 (rintro i ⟨hi, hlk⟩)
 refine tS (tS (tR (sQ (qM rfl) rfl ?_)))
 refine sB (A0I rfl rfl) rfl rfl (fun h25 => ?_) (fun h25 => ?_)
 refine sD (nS (qT rfl (tK (nS (tS ?_)))))
 (show I7 _ _ (.block 1 _) _ _; obtain ⟨j, rfl⟩ : ∃ j, i = j + 1 := ⟨i - 1, by omega⟩; rw [show ((j + 1 : Nat) : Int) - 1 = (j : Int) from by omega]; obtain ⟨b, o, nm1, t1, q1, d1, hcx, rfl, hat, hr1, hgb⟩ := hx.get (i := j) (by omega); refine B8 ?_)
 refine tS (tR (sQ (qM rfl) rfl (sQ (qM rfl) rfl ?_)))
 refine sP (B3 rfl rfl rfl (by omega)) rfl rfl ?_
 refine sQ (qF rfl) rfl ?_
 refine sL (A0w rfl rfl ((hat _).sub (j := 0) rfl)) rfl rfl ?_
 refine sQ (qM rfl) rfl ?_
 refine sB (A0x rfl rfl) rfl rfl (fun h41 => ?_) (fun h41 => ?_)
 refine C4 ?_
 refine sP (B3 rfl rfl rfl (by omega)) rfl rfl ?_
 refine sQ (qF rfl) rfl ?_
 refine sL (A3 rfl rfl (hat _).drop rfl) rfl rfl ?_
 refine I5 ?_
 refine I1 (rC rfl (A5 rfl rfl)) (rT rfl) ?_
 (rw [A5F hcx (by assumption)] at hlk; rw [← hlk]; exact ⟨rfl, _, _, rfl, hr1, fun t ht => by cases ht; rfl⟩)
 refine D2 ?_
 refine sP (P1 rfl rfl (by omega) (by omega)) rfl rfl ?_
 refine sQ (qA rfl) rfl (sD ?_)
 refine J9 j ?_ ?_ ?_
 exact D8
 (rw [A5G hcx (by assumption)] at hlk; exact ⟨by omega, hlk⟩)
 (show _ < _ + 1; omega)
 refine K0 ?_
 refine I1 (rC rfl (A5 rfl rfl)) (rT rfl) ?_
 (obtain rfl : i = 0 := (by omega); rw [W9] at hlk; rw [← hlk]; exact ⟨rfl, _, B2, rfl, M2 _ ⟨by omega, by omega⟩, fun t ht => by cases ht⟩)
theorem B2y {xs ys : List Ty} (h : xs.length = 2) (h' : ys.length = 2) : S4 xs ys = [U1 (xs[0]'(by omega)) (ys[0]'(by omega)), U1 (xs[1]'(by omega)) (ys[1]'(by omega))] := by
 match xs, ys, h, h' with
 | [a, b], [c, d], _, _ => rfl
theorem B2z {k k' : Int} {ks bs : List Ty} (h : K2 (.mk k ks) (.mk k' bs) = true) (hk : k ≠ 1) (hk' : k' ≠ 1) : k = k' ∧ N6 ks bs = true := by
 rw [S2] at h
 simpa [hk, hk'] using h
theorem A8t : ∀ (a b : Ty) (G : IM) (ca cb : List Value), K2 a b = true → E6 a → E6 b → B6 G a ca → B6 G b cb →
  Fn Tryz.prog 109 [.agg ⟨ca⟩, .agg ⟨cb⟩] [] G (A51 (U1 a b) G) := by
 refine Ty.ind fun k ks ih b G ca cb hc haa hab hra hrb => ?_
 have hsa := haa.small
 have hsb := hab.small
 obtain ⟨bk, bks⟩ := b
 have hra0 := hra
 have hrb0 := hrb
 have ha2 := haa
 have hb2 := hab
 rw [E6] at ha2 hb2
 have hkida := haa.kid
 have hkidb := hab.kid
 obtain ⟨p, c, es, rfl, hk, hsl, hkl⟩ := hra.open
 obtain ⟨p', c', es', rfl, hk', hsl', hkl'⟩ := hrb.open
 simp only [Ty.k, Ty.ks] at hk hsl hkl hk' hsl' hkl' ⊢
 have hn := hsl.le
 rw [A02]
 refine B7 Tryz.func109 rfl Tryz.ntmps109 Tryz.results109 rfl ?_
 intro w0
 refine tS (tR ?_)
 refine sE (C2 rfl rfl) rfl (fun b3 => ?_)
 refine sE (C2 rfl rfl) rfl (fun b4 => ?_)
 refine sE (A7 rfl) rfl (fun b5 => ?_)
 refine sD (nS (tS ?_))
 refine B8 ?_
 refine tS (tR (sQ (B0 rfl) rfl (sL (B5 rfl rfl) rfl rfl ?_)))
 refine sB (qE rfl rfl) rfl rfl (fun h14 => ?_) (fun h14 => ?_)
 refine C4 ?_
 (refine E4 rfl (A2j _ _ _ hsb hrb0) rfl rfl (fun v G1 hle1 hh => ?_); obtain ⟨cs1, F1, rfl, hs1, hn1⟩ := hh; obtain ⟨p1, c1, rfl, _⟩ := hs1.open; have hr1 := hs1.R.mono (C5.le G1 _))
 refine F9 ?_
 refine sD (nS (tT (rB (rS ?_))))
 refine E5 (rC rfl (A5 rfl rfl)) ?_
 (rw [if_pos (by omega)]; exact ⟨rfl, _, rfl, hr1⟩)
 refine D2 ?_
 refine sB (qE rfl rfl) rfl rfl (fun h39 => ?_) (fun h39 => ?_)
 refine I9 ?_
 (refine E4 rfl (A2j _ _ _ hsa hra0) rfl rfl (fun v G1 hle1 hh => ?_); obtain ⟨cs1, F1, rfl, hs1, hn1⟩ := hh; obtain ⟨p1, c1, rfl, _⟩ := hs1.open; have hr1 := hs1.R.mono (C5.le G1 _))
 refine F9 ?_
 refine sD (nS (tT (rB (rS ?_))))
 refine E5 (rC rfl (A5 rfl rfl)) ?_
 (rw [if_neg (by omega)]; split <;> first | exact ⟨rfl, _, rfl, hr1⟩ | (obtain rfl : ks = [] := List.length_eq_zero_iff.1 (by omega); rw [S4]; exact ⟨rfl, _, rfl, hr1⟩; simp))
 refine H3 ?_
 refine sB (qE rfl rfl) rfl rfl (fun h66 => ?_) (fun h66 => ?_)
 refine D2 ?_
 (refine E4 rfl (A2j _ _ _ hsa hra0) rfl rfl (fun v G1 hle1 hh => ?_); obtain ⟨cs1, F1, rfl, hs1, hn1⟩ := hh; obtain ⟨p1, c1, rfl, _⟩ := hs1.open; have hr1 := hs1.R.mono (C5.le G1 _))
 refine F9 ?_
 refine sD (nS (tT (rB (rS ?_))))
 refine E5 (rC rfl (A5 rfl rfl)) ?_
 (rw [if_neg (by omega)]; split <;> first | exact ⟨rfl, _, rfl, hr1⟩ | (obtain rfl : ks = [] := List.length_eq_zero_iff.1 (by omega); rw [S4]; exact ⟨rfl, _, rfl, hr1⟩; simp))
 refine D9 ?_
 (obtain ⟨hkk, hcl0⟩ := B2z hc (by omega) (by omega); subst hkk; have hcl := (A1Q _ _).1 hcl0; have hlen : ks.length = 2 := (by have := ha2.2.1; have := ha2.1; omega); have hlen' : bks.length = 2 := (by omega); obtain ⟨b0, o0, q0, d0, hp0, hat0, hre0, hg0⟩ := hsl.kidTy hkl (i := 0) (by omega) (by omega); obtain ⟨b1, o1, q1, d1, hp1, hat1, hre1, hg1⟩ := hsl.kidTy hkl (i := 1) (by omega) (by omega); subst hp0; cases hp1; obtain ⟨b2, o2, q2, d2, hp2, hat2, hre2, hg2⟩ := hsl'.kidTy hkl' (i := 0) (by omega) (by omega); obtain ⟨b3, o3, q3, d3, hp3, hat3, hre3, hg3⟩ := hsl'.kidTy hkl' (i := 1) (by omega) (by omega); subst hp2; cases hp3; have hM1 := ih ks[0] (List.getElem_mem (by omega)) bks[0] G _ _ (hcl.2 0 (by omega) (by omega)) (hkida _ (List.getElem_mem (by omega))) (hkidb _ (List.getElem_mem (by omega))) hre0 hre2; refine D4 D5 rfl ?_)
 refine I3 (i := 0) (l' := [tt,ff,ff,ff,ff,ff,ff,ff,ff,ff,ff,ff,ff,ff,ff,ff,ff,ff,ff,ff,ff,ff]) rfl C8 (B0 rfl) rfl (by kernel_rfl) rfl rfl ?_
 refine aL 1 rfl (B5 rfl rfl) rfl ?_
 refine aP 2 rfl (B0 rfl) rfl ?_
 refine aL 3 rfl (B5 rfl rfl) rfl ?_
 refine aP 4 rfl (B3 (j := 0) rfl rfl rfl (by omega)) rfl ?_
 refine aL 5 rfl (A3 rfl rfl (hat0 _) rfl) rfl ?_
 refine aP 6 rfl (B0 rfl) rfl ?_
 refine aL 7 rfl (B5 rfl rfl) rfl ?_
 refine aP 8 rfl (B3 (j := 0) rfl rfl rfl (by omega)) rfl ?_
 refine aL 9 rfl (A3 rfl rfl (hat2 _) rfl) rfl ?_
 refine aP 11 rfl (B0 rfl) rfl ?_
 refine aL 12 rfl (B5 rfl rfl) rfl ?_
 refine aP 13 rfl (B3 (j := 1) rfl rfl rfl (by omega)) rfl ?_
 refine aL 14 rfl (A3 rfl rfl (hat1 _) rfl) rfl ?_
 refine aP 15 rfl (B0 rfl) rfl ?_
 refine aL 16 rfl (B5 rfl rfl) rfl ?_
 refine aP 17 rfl (B3 (j := 1) rfl rfl rfl (by omega)) rfl ?_
 refine aL 18 rfl (A3 rfl rfl (hat3 _) rfl) rfl ?_
 refine A4 10 ?_
 (refine H1 rfl rfl hM1 rfl rfl rfl (fun v G1 hle1 hh => ?_); obtain ⟨cm1, rfl, hm1⟩ := hh; have hM2 := ih ks[1] (List.getElem_mem (by omega)) bks[1] G1 _ _ (hcl.2 1 (by omega) (by omega)) (hkida _ (List.getElem_mem (by omega))) (hkidb _ (List.getElem_mem (by omega))) (hre1.mono hle1) (hre3.mono hle1))
 refine A4 19 ?_
 (refine H1 rfl rfl hM2 rfl rfl rfl (fun v G2 hle2 hh => ?_); obtain ⟨cm2, rfl, hm2⟩ := hh; have hB := A1Y k _ _ G2 _ _ hk (hm1.mono hle2) hm2)
 refine A4 20 ?_
 (refine H1 rfl rfl hB rfl rfl rfl (fun v G3 hle3 hh => ?_); obtain ⟨cm3, rfl, hm3⟩ := hh; obtain ⟨p5, c5, e5, rfl, _⟩ := hm3.open)
 refine A4 21 ?_
 refine H7 rfl ?_
 refine C1 (nS (tT ?_))
 refine E5 (rC rfl (A5 rfl rfl)) ?_
 (rw [if_neg (by omega), if_neg (by omega)]; rw [B2y hlen hlen']; exact ⟨rfl, _, rfl, hm3⟩)
theorem B2A (G : IM) (p : Option Addr) (n c : Nat) (es : List (List Value)) (h : D3 G p n c 9 es) (h0 : 0 < n) (hn : n ≤ 4294967296) :
  Fn Tryz.prog 142 [.slice p n c] [] G (fun G' v outs => G' = G ∧ ∃ p' c', v = .slice p' n c' ∧ outs = [.slc p' c' 28 9 n es.flatten]) := by
 obtain ⟨hl, hc, hm, hat⟩ := h.sl
 obtain ⟨b, o, full, rfl, hg, hv⟩ := hat.resolve_left (by omega)
 have ho : ∀ u ∈ es.flatten, u.oneCell' = true := by
  intro u hu
  obtain ⟨e, he, hue⟩ := List.mem_flatten.1 hu
  exact List.all_eq_true.1 (h.one e he) u hue
 refine B7 Tryz.func142 rfl Tryz.ntmps142 Tryz.results142 rfl ?_
 intro w0
 refine D9 ?_
 refine sQ (A6L rfl rfl rfl) rfl ?_
 refine sD (nS (cF rfl (tK (nS (tS (tR ?_))))))
 (refine J1 (C7 rfl rfl rfl (by omega) (by unfold maxLen; omega) rfl) rfl ?_; rintro _ ⟨b18, rfl⟩)
 refine sQ (qM rfl) rfl ?_
 refine A08 rfl rfl rfl rfl rfl (fun _ _ => by repeat (first | exact Sw.here | apply Sw.there)) (A3X hg hv) hl ho (by unfold maxLen; omega) (by omega) rfl (fun pn cn => ?_)
 refine sQ (qA rfl) rfl (sD (nS (tT ?_)))
 refine H5 (rT rfl) A0.refl ?_
 exact ⟨rfl, _, _, by rw [Nat.zero_add], by rw [Nat.zero_add]; rfl⟩
theorem At.mono' {hp : List A6} {G G' : IM} {b o : Nat} {vs : List Value} (hg : B9 G G') (h : At [] G b o vs) : At hp G' b o vs := by
 rcases h with ⟨cs, hm, hv⟩ | ⟨n, c, el, sz, cs, hm, hv⟩ | ⟨full, hx, hv⟩
 ·cases hm
 ·cases hm
 ·exact .inr (.inr ⟨full, hg _ _ hx, hv⟩)
theorem D3.kidD {G : IM} {p : Option Addr} {n c : Nat} {es : List (List Value)} {ks : List Ty} (h : D3 G p n c 2 es) (hk : C9 G ks es) {i : Nat} (hi : i < n) (hn : i < ks.length) :
  ∃ b o q d, p = some ⟨b, o, none⟩ ∧ (∀ hp, At hp G b (o + i * 2) [.int .i64 (ks.getD i B2).k, .slice q (ks.getD i B2).ks.length d]) ∧ B6 G (ks.getD i B2) [.int .i64 (ks.getD i B2).k, .slice q (ks.getD i B2).ks.length d] ∧ G b ≠ none := by
 obtain ⟨b, o, q, d, h1, h2, h3, h4⟩ := h.kidTy hk hi hn
 rw [List.getD_eq_getElem?_getD, List.getElem?_eq_getElem hn, Option.getD_some]
 exact ⟨b, o, q, d, h1, h2, h3, h4⟩
theorem A2X {hs : List Ty} (h : ∀ t ∈ hs, E6 t) {i : Nat} (hi : i < hs.length) : E6 (hs.getD i B2) := by
 rw [List.getD_eq_getElem?_getD, List.getElem?_eq_getElem hi, Option.getD_some]
 exact h _ (List.getElem_mem hi)
def L5 (r : Option (List Ty × Ty)) (G : IM) : IM → Value → List A6 → Prop := M4 fun G' v => ∃ p n c es w cu u, v = .tuple ⟨[.slice p n c, .agg ⟨cu⟩, .bool r.isSome]⟩ ∧ n = w.length ∧ D3 G' p n c 2 es ∧ C9 G' w es ∧ B6 G' u cu ∧ ∀ q, r = some q → q = (w, u)
theorem L5.mk {r : Option (List Ty × Ty)} {G G' : IM} {p : Option Addr} {n c : Nat} {es : List (List Value)} {w : List Ty} {cu : List Value} {u : Ty} {b : Bool} (hl : n = w.length) (hs : Sl G' p n c 2 es.flatten) (hw : C9 G' w es) (hu : B6 G' u cu) (h : r = if b = true then some (w, u) else none) :
  L5 r G G' (.tuple ⟨[.slice p n c, .agg ⟨cu⟩, .bool b]⟩) [] := by
 refine ⟨rfl, p, n, c, es, w, cu, u, ?_, hl, D3.of hs (by rw [hw.len, hl]) hw.all (fun e he => (hw.each e he).2), hw, hu, ?_⟩
 ·subst h; cases b <;> rfl
 ·subst h; cases b
  ·simp
  ·intro q hq; simpa using hq.symm
theorem L5.nil {r : Option (List Ty × Ty)} {G G' : IM} {cu : List Value} {u : Ty} {b : Bool} (hu : B6 G' u cu) (h : r = if b = true then some ([], u) else none) :
  L5 r G G' (.tuple ⟨[.slice none 0 0, .agg ⟨cu⟩, .bool b]⟩) [] := L5.mk (es := []) rfl (Sl.nil _ _) (by simp [C9]) hu h
theorem L5.one {r : Option (List Ty × Ty)} {G G' : IM} {p : Option Addr} {c : Nat} {a : Ty} {ca : List Value} {cu : List Value} {u : Ty} {b : Bool} (hs : Sl G' p 1 c 2 ca) (ha : B6 G' a ca) (hu : B6 G' u cu) (h : r = if b = true then some ([a], u) else none) :
  L5 r G G' (.tuple ⟨[.slice p 1 c, .agg ⟨cu⟩, .bool b]⟩) [] := L5.mk (es := [ca]) (w := [a]) rfl (by simpa using hs) ⟨_, _, rfl, ha, rfl⟩ hu h
theorem L5.two {r : Option (List Ty × Ty)} {G G' : IM} {p : Option Addr} {c : Nat} {a a2 : Ty} {ca ca2 : List Value} {cu : List Value} {u : Ty} {b : Bool} (hs : Sl G' p 2 c 2 (ca ++ ca2)) (ha : B6 G' a ca) (ha2 : B6 G' a2 ca2) (hu : B6 G' u cu) (h : r = if b = true then some ([a, a2], u) else none) :
  L5 r G G' (.tuple ⟨[.slice p 2 c, .agg ⟨cu⟩, .bool b]⟩) [] := L5.mk (es := [ca, ca2]) (w := [a, a2]) rfl (by simpa using hs) ⟨_, _, rfl, ha, _, _, rfl, ha2, rfl⟩ hu h
theorem L5.three {r : Option (List Ty × Ty)} {G G' : IM} {p : Option Addr} {c : Nat} {a a2 a3 : Ty} {ca ca2 ca3 : List Value} {cu : List Value} {u : Ty} {b : Bool} (hs : Sl G' p 3 c 2 (ca ++ (ca2 ++ ca3))) (ha : B6 G' a ca) (ha2 : B6 G' a2 ca2) (ha3 : B6 G' a3 ca3) (hu : B6 G' u cu) (h : r = if b = true then some ([a, a2, a3], u) else none) :
  L5 r G G' (.tuple ⟨[.slice p 3 c, .agg ⟨cu⟩, .bool b]⟩) [] := L5.mk (es := [ca, ca2, ca3]) (w := [a, a2, a3]) rfl (by simpa using hs) ⟨_, _, rfl, ha, _, _, rfl, ha2, _, _, rfl, ha3, rfl⟩ hu h
section
variable {cx : Cx} {nm : ByteArray} {ty : Ty} {h : List Ty}
theorem mW1 : L7 cx 1 nm ty h = match A0c cx nm with | some t => some ([], t) | none => none := rfl
theorem mW2 : L7 cx 2 nm ty h = some ([], R8) := rfl
theorem A3B {k : Int} (hk : k = 3 ∨ k = 4) : L7 cx k nm ty h = some ([], W2) := by rcases hk with rfl | rfl <;> rfl
theorem mW5 : L7 cx 5 nm ty h = some ([], .mk 4 [ty, h.getD 0 B2]) := rfl
theorem mW6 : L7 cx 6 nm ty h = match Q5 4 (h.getD 0 B2) with | some (a, b) => if K2 (h.getD 1 B2) a = true then some ([.mk 4 [a, b], a], b) else none | none => none := rfl
theorem V6 {k : Int} (hk : k = 7 ∨ k = 8) : L7 cx k nm ty h = if K2 (h.getD 0 B2) R8 = true ∧ K2 (h.getD 1 B2) R8 = true then some ([R8, R8], if k = 8 then W2 else R8) else none := by rcases hk with rfl | rfl <;> rfl
theorem mW9 : L7 cx 9 nm ty h = if K2 (h.getD 0 B2) W2 = true ∧ K2 (h.getD 1 B2) (h.getD 2 B2) = true then some ([W2, U1 (h.getD 1 B2) (h.getD 2 B2), U1 (h.getD 1 B2) (h.getD 2 B2)], U1 (h.getD 1 B2) (h.getD 2 B2)) else none := rfl
theorem A4v : L7 cx 10 nm ty h = some ([], .mk 5 [h.getD 0 B2, h.getD 1 B2]) := rfl
theorem A2x : L7 cx 13 nm ty h = if K2 (h.getD 0 B2) ty = true then some ([ty], ty) else none := rfl
theorem A2Y {k : Int} (hk : k = 11 ∨ k = 12) : L7 cx k nm ty h = match Q5 5 (h.getD 0 B2) with | some (a, b) => some ([.mk 5 [a, b]], if k = 12 then b else a) | none => none := by rcases hk with rfl | rfl <;> rfl
end
theorem K3 (G : IM) : B6 G R8 [.int .i64 2, .slice none 0 0] := M2 G ⟨by omega, by omega⟩
theorem Z3 (G : IM) : B6 G W2 [.int .i64 3, .slice none 0 0] := M2 G ⟨by omega, by omega⟩
theorem B2B (cx : Cx) (k : Int) (nm : ByteArray) (num : Int) (ty fr : Ty) (lb : Int) (ks : List Tm) (h : List Ty) (G : IM) (pc : Option Addr) (nc cc : Nat) (cells : List Value) (p : Option Addr) (n c : Nat) (es : List (List Value))
  (hx : R1 G cx pc nc cc) (hops : D7 k = n) (hnl : n = h.length) (hk14 : k ≠ 14) (hta : E6 ty) (hr : A9 G (.mk k nm num ty fr lb ks) cells) (hsl : D3 G p n c 2 es) (hkl : C9 G h es) (har : ∀ t ∈ h, E6 t) :
  Fn Tryz.prog 67 [.slice pc nc cc, .agg ⟨cells⟩, .slice p n c] [] G (L5 (L7 cx k nm ty h) G) := by
 have hone := hr.one
 have hop := A2R hops
 have hkr : 1 ≤ k ∧ k ≤ 14 := by
  apply Classical.byContradiction
  intro hc
  rw [A39 hc] at hops; omega
 obtain ⟨tyk, tyks⟩ := ty
 obtain ⟨fk, fks⟩ := fr
 obtain ⟨pt, ct, pf, cf, pk, ck, ek, rfl, hk, hnum, hlb, hrty, hrfr, _, _⟩ := hr.open9
 refine B7 Tryz.func67 rfl Tryz.ntmps67 Tryz.results67 rfl ?_
 intro w0
 refine tS (tR ?_)
 refine sE (C2 rfl rfl) rfl (fun b3 => ?_)
 refine sQ (qA rfl) rfl ?_
 refine sE (A7 rfl) rfl (fun b5 => ?_)
 refine sQ (qA rfl) rfl (sD (nS (tS (tR ?_))))
 refine H8 rfl ((A1C _ _)) rfl rfl ?_
 refine H8 rfl ((A1C _ _)) rfl rfl ?_
 refine sE (A7 rfl) rfl (fun b13 => ?_)
 refine sE (A7 rfl) rfl (fun b14 => ?_)
 refine J3 ?_
 refine B8 (tS (tR (sB (qE rfl rfl) rfl rfl (fun h29 => ?_) (fun h29 => ?_))))
 refine D9 ?_
 (refine E4 rfl (B2x G cx pc nc cc nm hx) rfl rfl (fun v G1 hle1 hh => ?_); obtain ⟨cu, u, rfl, hru, hu⟩ := hh; obtain ⟨p1, c1, e1, rfl, _⟩ := hru.open)
 refine J7 ?_
 refine sE (A7 rfl) rfl (fun b43 => ?_)
 refine F9 ?_
 refine sQ (qA rfl) rfl (sD (nS (tS ?_)))
 refine D4 D5 rfl ?_
 refine K9 (i := 0) (l' := [tt,ff,ff,ff,ff]) rfl C8 (A5 rfl rfl) rfl (by kernel_rfl) rfl rfl ?_
 refine aP 1 rfl (qM rfl) rfl ?_
 refine aP 2 rfl (qA rfl) rfl ?_
 refine A4 3 ?_
 refine H7 rfl ?_
 refine aP 4 rfl (qA rfl) rfl ?_
 refine C1 (nS (tT (rB (rS ?_))))
 refine C6 (rT rfl) (rC rfl (A5 rfl rfl)) (rT rfl) ?_
 (have hk1 : k = 1 := (by omega); subst hk1; rw [mW1]; refine L5.nil hru ?_; generalize A0c cx nm = r at hu ⊢; cases r with | none => rfl | some t => (rw [hu t rfl]; rfl))
 refine sQ (qA rfl) rfl (sD (nS (cF rfl (tS (tR ?_)))))
 refine sB (qE rfl rfl) rfl rfl (fun h69 => ?_) (fun h69 => ?_)
 refine sQ (qA rfl) rfl (sD (nS (qT rfl (tS ?_))))
 refine D4 D5 rfl ?_
 refine K9 (i := 0) (l' := [tt,ff,ff,ff]) rfl C8 (A5 rfl rfl) rfl (by kernel_rfl) rfl rfl ?_
 refine aP 1 rfl (qA rfl) rfl ?_
 refine A4 2 ?_
 refine H7 rfl ?_
 refine aP 3 rfl (qA rfl) rfl ?_
 refine C1 (nS (tT (rB (rS ?_))))
 refine C6 (rT rfl) (rC rfl (A5 rfl rfl)) (rT rfl) ?_
 (have hk1 : k = 2 := (by omega); subst hk1; exact L5.nil (K3 _) mW2)
 refine sQ (qA rfl) rfl (sD (nS (cF rfl (tS (tS (tR ?_))))))
 refine sB (qE rfl rfl) rfl rfl (fun h95 => ?_) (fun h95 => ?_)
 refine D2 ?_
 refine D4 D5 rfl ?_
 refine K9 (i := 0) (l' := [tt,ff,ff,ff]) rfl C8 (A5 rfl rfl) rfl (by kernel_rfl) rfl rfl ?_
 refine aP 1 rfl (qA rfl) rfl ?_
 refine A4 2 ?_
 refine H7 rfl ?_
 refine aP 3 rfl (qA rfl) rfl ?_
 refine C1 (nS (tT (rB (rS ?_))))
 refine C6 (rT rfl) (rC rfl (A5 rfl rfl)) (rT rfl) ?_
 (exact L5.nil (Z3 _) (by rw [A3B (by omega)]; rfl))
 refine sQ (qA rfl) rfl (sD (nS (cF rfl (tR ?_))))
 refine sB (qE rfl rfl) rfl rfl (fun h122 => ?_) (fun h122 => ?_)
 refine sQ (qA rfl) rfl (sD (nS (qT rfl (tS ?_))))
 refine D4 D5 rfl ?_
 refine K9 (i := 0) (l' := [tt,ff,ff,ff]) rfl C8 (A5 rfl rfl) rfl (by kernel_rfl) rfl rfl ?_
 refine aP 1 rfl (qA rfl) rfl ?_
 refine A4 2 ?_
 refine H7 rfl ?_
 refine aP 3 rfl (qA rfl) rfl ?_
 refine C1 (nS (tT (rB (rS ?_))))
 refine C6 (rT rfl) (rC rfl (A5 rfl rfl)) (rT rfl) ?_
 (exact L5.nil (Z3 _) (by rw [A3B (by omega)]; rfl))
 refine sQ (qA rfl) rfl (sD (nS (cF rfl (tS (tR ?_)))))
 refine sB (qE rfl rfl) rfl rfl (fun h147 => ?_) (fun h147 => ?_)
 refine sQ (qA rfl) rfl (sD (nS (qT rfl (tS ?_))))
 (have hl1 : n = 1 := hop.2.2 (by omega); obtain ⟨b0, o0, q0, d0, hp0, hat0, hre0, hg0⟩ := hsl.kidD hkl (i := 0) (by omega) (by omega); cases hp0; refine D4 D5 rfl ?_)
 refine I3 (i := 0) (l' := [tt,ff,ff,ff,ff,ff,ff,ff,ff]) rfl C8 (B0 rfl) rfl (by kernel_rfl) rfl rfl ?_
 refine aL 1 rfl (A5 rfl rfl) rfl ?_
 refine aP 2 rfl (qM rfl) rfl ?_
 refine aP 3 rfl (B3 (j := 0) rfl rfl rfl (by omega)) rfl ?_
 refine aL 4 rfl (A3 rfl rfl (hat0 _) rfl) rfl ?_
 refine A4 5 ?_
 (refine H1 rfl rfl (A1Y 4 _ _ _ _ _ ⟨by omega, by omega⟩ hrty hre0) rfl rfl rfl (fun v GB hleB hh => ?_); obtain ⟨cB, rfl, hrB⟩ := hh; obtain ⟨p7, c7, e7, rfl, _⟩ := hrB.open)
 refine aP 6 rfl (qA rfl) rfl ?_
 refine A4 7 ?_
 refine H7 rfl ?_
 refine aP 8 rfl (qA rfl) rfl ?_
 refine C1 (nS (tT (rB (rS ?_))))
 refine C6 (rT rfl) (rC rfl (A5 rfl rfl)) (rT rfl) ?_
 (have hk1 : k = 5 := (by omega); subst hk1; exact L5.nil hrB mW5)
 refine sQ (qA rfl) rfl (sD (nS (cF rfl (tS (tR ?_)))))
 refine sB (qE rfl rfl) rfl rfl (fun h178 => ?_) (fun h178 => ?_)
 refine C4 ?_
 (have hl2 : n = 2 := hop.1 (by omega); obtain ⟨b0, o0, q0, d0, hp0, hat0, hre0, hg0⟩ := hsl.kidD hkl (i := 0) (by omega) (by omega); cases hp0; refine sP (B3 (j := 0) rfl rfl rfl (by omega)) rfl rfl ?_)
 refine sL (A3 rfl rfl (hat0 _) rfl) rfl rfl ?_
 (refine E4 rfl (A8s 4 (h.getD 0 B2) G _ (.inl rfl) (A2X har (by omega)) hre0) rfl rfl (fun v G1 hle1 hh => ?_); obtain ⟨ma, mca, mb, mcb, rfl, hma, hmb, hma2, hmb2, hmm⟩ := hh; obtain ⟨p1, c1, e1, rfl, _⟩ := hma.open; obtain ⟨p2, c2, e2, rfl, _⟩ := hmb.open; replace hsl := hsl.mono hle1; replace hkl := hkl.mono hle1; generalize hmi : (Q5 4 (h.getD 0 B2)).isSome = mi; cases mi)
 refine H3 ?_
 refine sE (A7 rfl) rfl (fun b193 => ?_)
 refine sE (A7 rfl) rfl (fun b194 => ?_)
 refine F9 ?_
 refine F9 ?_
 refine sQ (qA rfl) rfl (sD (nS (tS ?_)))
 (have hl2 : n = 2 := hop.1 (by omega); obtain ⟨b0, o0, q0, d0, hp0, hat0, hre0, hg0⟩ := hsl.kidD hkl (i := 0) (by omega) (by omega); obtain ⟨b1, o1, q1, d1, hp1, hat1, hre1, hg1⟩ := hsl.kidD hkl (i := 1) (by omega) (by omega); cases hp0; cases hp1; refine D4 D5 rfl ?_)
 refine K9 (i := 0) (l' := [tt,ff,ff,ff,ff,ff,ff,ff,ff,ff,ff,ff,ff,ff,ff,ff,ff]) rfl C8 (A5 rfl rfl) rfl (by kernel_rfl) rfl rfl ?_
 refine aL 1 rfl (A5 rfl rfl) rfl ?_
 refine aL 3 rfl (A5 rfl rfl) rfl ?_
 refine aL 5 rfl (A5 rfl rfl) rfl ?_
 refine aP 6 rfl (qM rfl) rfl ?_
 refine A4 2 ?_
 (refine H1 rfl rfl (A1Y _ ma mb _ _ _ ⟨by omega, by omega⟩ hma hmb) rfl rfl rfl (fun v GB hleB hh => ?_); obtain ⟨cB, rfl, hrB⟩ := hh; obtain ⟨p7, c7, e7, rfl, _⟩ := hrB.open; have hma' := hma.mono hleB; have hmb' := hmb.mono hleB)
 refine aP 7 rfl (qM rfl) rfl ?_
 refine C0 8 rfl rfl rfl ?_
 refine C0 9 rfl rfl rfl ?_
 refine C0 10 rfl rfl rfl ?_
 refine C0 11 rfl rfl rfl ?_
 refine Q2 (j := 4) (j' := 12) (by kernel_rfl) ?_ ?_
 (refine E0 rfl (C7 rfl rfl rfl (by omega) (by unfold maxLen; omega) rfl) rfl rfl ?_; rintro _ ⟨b215, rfl⟩)
 refine C0 12 rfl rfl rfl ?_
 refine aP 13 rfl (N2 rfl rfl) rfl ?_
 refine aP 14 rfl (qA rfl) rfl ?_
 refine A4 15 ?_
 refine H7 rfl ?_
 refine aP 16 rfl (qA rfl) rfl ?_
 refine C1 (nS ?_)
 (refine H0 Pk.here (fun G5 hle5 hsl5 hno5 => ?_))
 refine tT (rB (rS ?_))
 refine C6 (rT rfl) (rC rfl (A5 rfl rfl)) (rT rfl) ?_
 (have hk1 : k = 6 := (by omega); subst hk1; refine L5.two hsl5 (hrB.mono hle5) (hma'.mono hle5) (hmb'.mono hle5) ?_; rw [mW6]; cases hq : Q5 4 (h.getD 0 B2) with | none => rfl | some q => (rw [hq] at hmi; cases hmi))
 refine A5d (l' := [tt,tt,tt,tt,ff,tt,tt,tt,tt,tt,tt,tt,tt,ff,ff,ff,ff]) rfl rfl rfl rfl ?_
 refine aP 13 rfl (N2 rfl rfl) rfl ?_
 refine A4 4 ?_
 (refine E0 rfl (C7 rfl rfl rfl (by omega) (by unfold maxLen; omega) rfl) rfl rfl ?_; rintro _ ⟨b233, rfl⟩)
 refine aP 14 rfl (qA rfl) rfl ?_
 refine A4 15 ?_
 refine H7 rfl ?_
 refine aP 16 rfl (qA rfl) rfl ?_
 refine C1 (nS ?_)
 (refine H0 Pk.here (fun G5 hle5 hsl5 hno5 => ?_))
 refine tT (rB (rS ?_))
 refine C6 (rT rfl) (rC rfl (A5 rfl rfl)) (rT rfl) ?_
 (have hk1 : k = 6 := (by omega); subst hk1; refine L5.two hsl5 (hrB.mono hle5) (hma'.mono hle5) (hmb'.mono hle5) ?_; rw [mW6]; cases hq : Q5 4 (h.getD 0 B2) with | none => rfl | some q => (rw [hq] at hmi; cases hmi))
 refine H3 ?_
 refine sE (A7 rfl) rfl (fun b250 => ?_)
 refine sE (A7 rfl) rfl (fun b251 => ?_)
 refine F9 ?_
 refine F9 ?_
 refine sQ (qA rfl) rfl (sD (nS (tS ?_)))
 (have hl2 : n = 2 := hop.1 (by omega); obtain ⟨b0, o0, q0, d0, hp0, hat0, hre0, hg0⟩ := hsl.kidD hkl (i := 0) (by omega) (by omega); obtain ⟨b1, o1, q1, d1, hp1, hat1, hre1, hg1⟩ := hsl.kidD hkl (i := 1) (by omega) (by omega); cases hp0; cases hp1; refine D4 D5 rfl ?_)
 refine K9 (i := 0) (l' := [tt,ff,ff,ff,ff,ff,ff,ff,ff,ff,ff,ff,ff,ff,ff,ff,ff]) rfl C8 (A5 rfl rfl) rfl (by kernel_rfl) rfl rfl ?_
 refine aL 1 rfl (A5 rfl rfl) rfl ?_
 refine aL 3 rfl (A5 rfl rfl) rfl ?_
 refine aL 5 rfl (A5 rfl rfl) rfl ?_
 refine aP 6 rfl (qM rfl) rfl ?_
 refine A4 2 ?_
 (refine H1 rfl rfl (A1Y _ ma mb _ _ _ ⟨by omega, by omega⟩ hma hmb) rfl rfl rfl (fun v GB hleB hh => ?_); obtain ⟨cB, rfl, hrB⟩ := hh; obtain ⟨p7, c7, e7, rfl, _⟩ := hrB.open; have hma' := hma.mono hleB; have hmb' := hmb.mono hleB)
 refine aP 7 rfl (qM rfl) rfl ?_
 refine aP 8 rfl (qM rfl) rfl ?_
 refine aP 9 rfl (B3 (j := 1) rfl rfl rfl (by omega)) rfl ?_
 refine aL 10 rfl (A3 rfl rfl (At.mono' hleB (hat1 _)) rfl) rfl ?_
 refine aL 11 rfl (A5 rfl rfl) rfl ?_
 refine Q2 (j := 4) (j' := 12) (by kernel_rfl) ?_ ?_
 (refine E0 rfl (C7 rfl rfl rfl (by omega) (by unfold maxLen; omega) rfl) rfl rfl ?_; rintro _ ⟨b272, rfl⟩)
 refine A4 12 ?_
 refine R7 rfl rfl ((Z1 _ _ _ _ _ (hre1.mono hleB) hma')) rfl rfl rfl (fun h274 => ?_) (fun h274 => ?_)
 refine aP 13 rfl (K8 rfl rfl) rfl ?_
 refine aP 14 rfl (qA rfl) rfl ?_
 refine A4 15 ?_
 refine H7 rfl ?_
 refine aP 16 rfl (qA rfl) rfl ?_
 refine C1 (nS ?_)
 (refine H0 Pk.here (fun G5 hle5 hsl5 hno5 => ?_))
 refine tT (rB (rS ?_))
 refine C6 (rT rfl) (rC rfl (A5 rfl rfl)) (rT rfl) ?_
 (have hk1 : k = 6 := (by omega); subst hk1; refine L5.two hsl5 (hrB.mono hle5) (hma'.mono hle5) (hmb'.mono hle5) ?_; rw [mW6]; cases hq : Q5 4 (h.getD 0 B2) with | none => (rw [hq] at hmi; cases hmi) | some q => (have hq2 := hmm q hq; subst hq2; dsimp only; split <;> first | rfl | (exfalso; simp_all; done)))
 refine aP 13 rfl (K8 rfl rfl) rfl ?_
 refine aP 14 rfl (qA rfl) rfl ?_
 refine A4 15 ?_
 refine H7 rfl ?_
 refine aP 16 rfl (qA rfl) rfl ?_
 refine C1 (nS ?_)
 (refine H0 Pk.here (fun G5 hle5 hsl5 hno5 => ?_))
 refine tT (rB (rS ?_))
 refine C6 (rT rfl) (rC rfl (A5 rfl rfl)) (rT rfl) ?_
 (have hk1 : k = 6 := (by omega); subst hk1; refine L5.two hsl5 (hrB.mono hle5) (hma'.mono hle5) (hmb'.mono hle5) ?_; rw [mW6]; cases hq : Q5 4 (h.getD 0 B2) with | none => (rw [hq] at hmi; cases hmi) | some q => (have hq2 := hmm q hq; subst hq2; dsimp only; split <;> first | rfl | (exfalso; simp_all; done)))
 refine R7 rfl rfl ((Z1 _ _ _ _ _ (hre1.mono hleB) hma')) rfl rfl rfl (fun h301 => ?_) (fun h301 => ?_)
 refine aP 13 rfl (K8 rfl rfl) rfl ?_
 refine A4 4 ?_
 (refine E0 rfl (C7 rfl rfl rfl (by omega) (by unfold maxLen; omega) rfl) rfl rfl ?_; rintro _ ⟨b304, rfl⟩)
 refine aP 14 rfl (qA rfl) rfl ?_
 refine A4 15 ?_
 refine H7 rfl ?_
 refine aP 16 rfl (qA rfl) rfl ?_
 refine C1 (nS ?_)
 (refine H0 Pk.here (fun G5 hle5 hsl5 hno5 => ?_))
 refine tT (rB (rS ?_))
 refine C6 (rT rfl) (rC rfl (A5 rfl rfl)) (rT rfl) ?_
 (have hk1 : k = 6 := (by omega); subst hk1; refine L5.two hsl5 (hrB.mono hle5) (hma'.mono hle5) (hmb'.mono hle5) ?_; rw [mW6]; cases hq : Q5 4 (h.getD 0 B2) with | none => (rw [hq] at hmi; cases hmi) | some q => (have hq2 := hmm q hq; subst hq2; dsimp only; split <;> first | rfl | (exfalso; simp_all; done)))
 refine aP 13 rfl (K8 rfl rfl) rfl ?_
 refine A4 4 ?_
 (refine E0 rfl (C7 rfl rfl rfl (by omega) (by unfold maxLen; omega) rfl) rfl rfl ?_; rintro _ ⟨b319, rfl⟩)
 refine aP 14 rfl (qA rfl) rfl ?_
 refine A4 15 ?_
 refine H7 rfl ?_
 refine aP 16 rfl (qA rfl) rfl ?_
 refine C1 (nS ?_)
 (refine H0 Pk.here (fun G5 hle5 hsl5 hno5 => ?_))
 refine tT (rB (rS ?_))
 refine C6 (rT rfl) (rC rfl (A5 rfl rfl)) (rT rfl) ?_
 (have hk1 : k = 6 := (by omega); subst hk1; refine L5.two hsl5 (hrB.mono hle5) (hma'.mono hle5) (hmb'.mono hle5) ?_; rw [mW6]; cases hq : Q5 4 (h.getD 0 B2) with | none => (rw [hq] at hmi; cases hmi) | some q => (have hq2 := hmm q hq; subst hq2; dsimp only; split <;> first | rfl | (exfalso; simp_all; done)))
 refine sQ (qA rfl) rfl (sD (nS (cF rfl (tS (tS (tR ?_))))))
 refine sB (qE rfl rfl) rfl rfl (fun h339 => ?_) (fun h339 => ?_)
 refine I5 ?_
 refine sE (A7 rfl) rfl (fun b350 => ?_)
 refine D2 ?_
 refine sP (I4 rfl rfl (by omega)) rfl rfl ?_
 refine sD (nS (cF rfl (tK (nS (tS ?_)))))
 (have hl2 : n = 2 := hop.1 (by omega); obtain ⟨b0, o0, q0, d0, hp0, hat0, hre0, hg0⟩ := hsl.kidD hkl (i := 0) (by omega) (by omega); obtain ⟨b1, o1, q1, d1, hp1, hat1, hre1, hg1⟩ := hsl.kidD hkl (i := 1) (by omega) (by omega); cases hp0; cases hp1; refine D4 D5 rfl ?_)
 refine K9 (i := 0) (l' := [tt,ff,ff,ff,ff,ff,ff,ff,ff,ff,ff,ff,ff,ff,ff,ff,ff,ff,ff]) rfl C8 (A5 rfl rfl) rfl (by kernel_rfl) rfl rfl ?_
 refine aL 1 rfl (A5 rfl rfl) rfl ?_
 refine aL 3 rfl (A5 rfl rfl) rfl ?_
 refine aP 4 rfl (qM rfl) rfl ?_
 refine aP 5 rfl (B3 (j := 0) rfl rfl rfl (by omega)) rfl ?_
 refine aL 6 rfl (A3 rfl rfl (hat0 _) rfl) rfl ?_
 refine aL 7 rfl (A5 rfl rfl) rfl ?_
 refine Q2 (j := 2) (j' := 8) (by kernel_rfl) ?_ ?_
 (refine E0 rfl (C7 rfl rfl rfl (by omega) (by unfold maxLen; omega) rfl) rfl rfl ?_; rintro _ ⟨b375, rfl⟩)
 refine A4 8 ?_
 refine R7 rfl rfl ((Z1 _ _ _ _ _ hre0 (K3 _))) rfl rfl rfl (fun h377 => ?_) (fun h377 => ?_)
 refine aP 9 rfl (qM rfl) rfl ?_
 refine aP 10 rfl (qM rfl) rfl ?_
 refine aP 11 rfl (B3 (j := 1) rfl rfl rfl (by omega)) rfl ?_
 refine aL 12 rfl (A3 rfl rfl (hat1 _) rfl) rfl ?_
 refine aL 13 rfl (A5 rfl rfl) rfl ?_
 refine A4 14 ?_
 refine R7 rfl rfl ((Z1 _ _ _ _ _ hre1 (K3 _))) rfl rfl rfl (fun h384 => ?_) (fun h384 => ?_)
 refine aP 15 rfl (K8 rfl rfl) rfl ?_
 refine aP 16 rfl (qA rfl) rfl ?_
 refine A4 17 ?_
 refine H7 rfl ?_
 refine aP 18 rfl (qA rfl) rfl ?_
 refine C1 (nS ?_)
 (refine H0 Pk.here (fun G5 hle5 hsl5 hno5 => ?_))
 refine tT (rB (rS ?_))
 refine C6 (rT rfl) (rC rfl (A5 rfl rfl)) (rT rfl) ?_
 (refine L5.two hsl5 (K3 _) (K3 _) (K3 _) ?_; rw [V6 (by omega)]; first | (rw [if_pos ⟨by assumption, by assumption⟩, if_neg (by omega)]; rfl) | (rw [if_neg (fun hc => by first | exact Bool.noConfusion (hc.1.symm.trans (by assumption)) | exact Bool.noConfusion (hc.2.symm.trans (by assumption)) | exact Bool.noConfusion (hc.symm.trans (by assumption)))]; rfl))
 refine aP 15 rfl (K8 rfl rfl) rfl ?_
 refine aP 16 rfl (qA rfl) rfl ?_
 refine A4 17 ?_
 refine H7 rfl ?_
 refine aP 18 rfl (qA rfl) rfl ?_
 refine C1 (nS ?_)
 (refine H0 Pk.here (fun G5 hle5 hsl5 hno5 => ?_))
 refine tT (rB (rS ?_))
 refine C6 (rT rfl) (rC rfl (A5 rfl rfl)) (rT rfl) ?_
 (refine L5.two hsl5 (K3 _) (K3 _) (K3 _) ?_; rw [V6 (by omega)]; first | (rw [if_pos ⟨by assumption, by assumption⟩, if_neg (by omega)]; rfl) | (rw [if_neg (fun hc => by first | exact Bool.noConfusion (hc.1.symm.trans (by assumption)) | exact Bool.noConfusion (hc.2.symm.trans (by assumption)) | exact Bool.noConfusion (hc.symm.trans (by assumption)))]; rfl))
 refine aP 9 rfl (qM rfl) rfl ?_
 refine C0 10 rfl rfl rfl ?_
 refine C0 11 rfl rfl rfl ?_
 refine C0 12 rfl rfl rfl ?_
 refine C0 13 rfl rfl rfl ?_
 refine C0 14 rfl rfl rfl ?_
 refine aP 15 rfl (N2 rfl rfl) rfl ?_
 refine aP 16 rfl (qA rfl) rfl ?_
 refine A4 17 ?_
 refine H7 rfl ?_
 refine aP 18 rfl (qA rfl) rfl ?_
 refine C1 (nS ?_)
 (refine H0 Pk.here (fun G5 hle5 hsl5 hno5 => ?_))
 refine tT (rB (rS ?_))
 refine C6 (rT rfl) (rC rfl (A5 rfl rfl)) (rT rfl) ?_
 (refine L5.two hsl5 (K3 _) (K3 _) (K3 _) ?_; rw [V6 (by omega)]; first | (rw [if_pos ⟨by assumption, by assumption⟩, if_neg (by omega)]; rfl) | (rw [if_neg (fun hc => by first | exact Bool.noConfusion (hc.1.symm.trans (by assumption)) | exact Bool.noConfusion (hc.2.symm.trans (by assumption)) | exact Bool.noConfusion (hc.symm.trans (by assumption)))]; rfl))
 refine R7 rfl rfl ((Z1 _ _ _ _ _ hre0 (K3 _))) rfl rfl rfl (fun h430 => ?_) (fun h430 => ?_)
 refine aP 9 rfl (qM rfl) rfl ?_
 refine aP 10 rfl (qM rfl) rfl ?_
 refine aP 11 rfl (B3 (j := 1) rfl rfl rfl (by omega)) rfl ?_
 refine aL 12 rfl (A3 rfl rfl (hat1 _) rfl) rfl ?_
 refine aL 13 rfl (A5 rfl rfl) rfl ?_
 refine Q2 (j := 2) (j' := 14) (by kernel_rfl) ?_ ?_
 (refine E0 rfl (C7 rfl rfl rfl (by omega) (by unfold maxLen; omega) rfl) rfl rfl ?_; rintro _ ⟨b437, rfl⟩)
 refine A4 14 ?_
 refine R7 rfl rfl ((Z1 _ _ _ _ _ hre1 (K3 _))) rfl rfl rfl (fun h439 => ?_) (fun h439 => ?_)
 refine aP 15 rfl (K8 rfl rfl) rfl ?_
 refine aP 16 rfl (qA rfl) rfl ?_
 refine A4 17 ?_
 refine H7 rfl ?_
 refine aP 18 rfl (qA rfl) rfl ?_
 refine C1 (nS ?_)
 (refine H0 Pk.here (fun G5 hle5 hsl5 hno5 => ?_))
 refine tT (rB (rS ?_))
 refine C6 (rT rfl) (rC rfl (A5 rfl rfl)) (rT rfl) ?_
 (refine L5.two hsl5 (K3 _) (K3 _) (K3 _) ?_; rw [V6 (by omega)]; first | (rw [if_pos ⟨by assumption, by assumption⟩, if_neg (by omega)]; rfl) | (rw [if_neg (fun hc => by first | exact Bool.noConfusion (hc.1.symm.trans (by assumption)) | exact Bool.noConfusion (hc.2.symm.trans (by assumption)) | exact Bool.noConfusion (hc.symm.trans (by assumption)))]; rfl))
 refine aP 15 rfl (K8 rfl rfl) rfl ?_
 refine aP 16 rfl (qA rfl) rfl ?_
 refine A4 17 ?_
 refine H7 rfl ?_
 refine aP 18 rfl (qA rfl) rfl ?_
 refine C1 (nS ?_)
 (refine H0 Pk.here (fun G5 hle5 hsl5 hno5 => ?_))
 refine tT (rB (rS ?_))
 refine C6 (rT rfl) (rC rfl (A5 rfl rfl)) (rT rfl) ?_
 (refine L5.two hsl5 (K3 _) (K3 _) (K3 _) ?_; rw [V6 (by omega)]; first | (rw [if_pos ⟨by assumption, by assumption⟩, if_neg (by omega)]; rfl) | (rw [if_neg (fun hc => by first | exact Bool.noConfusion (hc.1.symm.trans (by assumption)) | exact Bool.noConfusion (hc.2.symm.trans (by assumption)) | exact Bool.noConfusion (hc.symm.trans (by assumption)))]; rfl))
 refine R7 rfl rfl ((Z1 _ _ _ _ _ hre1 (K3 _))) rfl rfl rfl (fun h466 => ?_) (fun h466 => ?_)
 refine aP 15 rfl (K8 rfl rfl) rfl ?_
 refine A4 2 ?_
 (refine E0 rfl (C7 rfl rfl rfl (by omega) (by unfold maxLen; omega) rfl) rfl rfl ?_; rintro _ ⟨b469, rfl⟩)
 refine aP 16 rfl (qA rfl) rfl ?_
 refine A4 17 ?_
 refine H7 rfl ?_
 refine aP 18 rfl (qA rfl) rfl ?_
 refine C1 (nS ?_)
 (refine H0 Pk.here (fun G5 hle5 hsl5 hno5 => ?_))
 refine tT (rB (rS ?_))
 refine C6 (rT rfl) (rC rfl (A5 rfl rfl)) (rT rfl) ?_
 (refine L5.two hsl5 (K3 _) (K3 _) (K3 _) ?_; rw [V6 (by omega)]; first | (rw [if_pos ⟨by assumption, by assumption⟩, if_neg (by omega)]; rfl) | (rw [if_neg (fun hc => by first | exact Bool.noConfusion (hc.1.symm.trans (by assumption)) | exact Bool.noConfusion (hc.2.symm.trans (by assumption)) | exact Bool.noConfusion (hc.symm.trans (by assumption)))]; rfl))
 refine aP 15 rfl (K8 rfl rfl) rfl ?_
 refine A4 2 ?_
 (refine E0 rfl (C7 rfl rfl rfl (by omega) (by unfold maxLen; omega) rfl) rfl rfl ?_; rintro _ ⟨b484, rfl⟩)
 refine aP 16 rfl (qA rfl) rfl ?_
 refine A4 17 ?_
 refine H7 rfl ?_
 refine aP 18 rfl (qA rfl) rfl ?_
 refine C1 (nS ?_)
 (refine H0 Pk.here (fun G5 hle5 hsl5 hno5 => ?_))
 refine tT (rB (rS ?_))
 refine C6 (rT rfl) (rC rfl (A5 rfl rfl)) (rT rfl) ?_
 (refine L5.two hsl5 (K3 _) (K3 _) (K3 _) ?_; rw [V6 (by omega)]; first | (rw [if_pos ⟨by assumption, by assumption⟩, if_neg (by omega)]; rfl) | (rw [if_neg (fun hc => by first | exact Bool.noConfusion (hc.1.symm.trans (by assumption)) | exact Bool.noConfusion (hc.2.symm.trans (by assumption)) | exact Bool.noConfusion (hc.symm.trans (by assumption)))]; rfl))
 refine aP 9 rfl (qM rfl) rfl ?_
 refine C0 10 rfl rfl rfl ?_
 refine C0 11 rfl rfl rfl ?_
 refine C0 12 rfl rfl rfl ?_
 refine C0 13 rfl rfl rfl ?_
 refine Q2 (j := 2) (j' := 14) (by kernel_rfl) ?_ ?_
 (refine E0 rfl (C7 rfl rfl rfl (by omega) (by unfold maxLen; omega) rfl) rfl rfl ?_; rintro _ ⟨b503, rfl⟩)
 refine C0 14 rfl rfl rfl ?_
 refine aP 15 rfl (N2 rfl rfl) rfl ?_
 refine aP 16 rfl (qA rfl) rfl ?_
 refine A4 17 ?_
 refine H7 rfl ?_
 refine aP 18 rfl (qA rfl) rfl ?_
 refine C1 (nS ?_)
 (refine H0 Pk.here (fun G5 hle5 hsl5 hno5 => ?_))
 refine tT (rB (rS ?_))
 refine C6 (rT rfl) (rC rfl (A5 rfl rfl)) (rT rfl) ?_
 (refine L5.two hsl5 (K3 _) (K3 _) (K3 _) ?_; rw [V6 (by omega)]; first | (rw [if_pos ⟨by assumption, by assumption⟩, if_neg (by omega)]; rfl) | (rw [if_neg (fun hc => by first | exact Bool.noConfusion (hc.1.symm.trans (by assumption)) | exact Bool.noConfusion (hc.2.symm.trans (by assumption)) | exact Bool.noConfusion (hc.symm.trans (by assumption)))]; rfl))
 refine A5d (l' := [tt,tt,ff,tt,tt,tt,tt,tt,tt,tt,tt,tt,tt,tt,tt,ff,ff,ff,ff]) rfl rfl rfl rfl ?_
 refine aP 15 rfl (N2 rfl rfl) rfl ?_
 refine A4 2 ?_
 (refine E0 rfl (C7 rfl rfl rfl (by omega) (by unfold maxLen; omega) rfl) rfl rfl ?_; rintro _ ⟨b521, rfl⟩)
 refine aP 16 rfl (qA rfl) rfl ?_
 refine A4 17 ?_
 refine H7 rfl ?_
 refine aP 18 rfl (qA rfl) rfl ?_
 refine C1 (nS ?_)
 (refine H0 Pk.here (fun G5 hle5 hsl5 hno5 => ?_))
 refine tT (rB (rS ?_))
 refine C6 (rT rfl) (rC rfl (A5 rfl rfl)) (rT rfl) ?_
 (refine L5.two hsl5 (K3 _) (K3 _) (K3 _) ?_; rw [V6 (by omega)]; first | (rw [if_pos ⟨by assumption, by assumption⟩, if_neg (by omega)]; rfl) | (rw [if_neg (fun hc => by first | exact Bool.noConfusion (hc.1.symm.trans (by assumption)) | exact Bool.noConfusion (hc.2.symm.trans (by assumption)) | exact Bool.noConfusion (hc.symm.trans (by assumption)))]; rfl))
 refine sQ (qA rfl) rfl (sD (nS (cF rfl (tR ?_))))
 refine sB (qE rfl rfl) rfl rfl (fun h539 => ?_) (fun h539 => ?_)
 refine C4 ?_
 refine sE (A7 rfl) rfl (fun b547 => ?_)
 refine D2 ?_
 refine sP (Y9 rfl rfl (by omega)) rfl rfl ?_
 refine D9 ?_
 (have hl2 : n = 2 := hop.1 (by omega); obtain ⟨b0, o0, q0, d0, hp0, hat0, hre0, hg0⟩ := hsl.kidD hkl (i := 0) (by omega) (by omega); obtain ⟨b1, o1, q1, d1, hp1, hat1, hre1, hg1⟩ := hsl.kidD hkl (i := 1) (by omega) (by omega); cases hp0; cases hp1; refine D4 D5 rfl ?_)
 refine K9 (i := 0) (l' := [tt,ff,ff,ff,ff,ff,ff,ff,ff,ff,ff,ff,ff,ff,ff,ff,ff,ff,ff]) rfl C8 (A5 rfl rfl) rfl (by kernel_rfl) rfl rfl ?_
 refine aL 1 rfl (A5 rfl rfl) rfl ?_
 refine aL 3 rfl (A5 rfl rfl) rfl ?_
 refine aP 4 rfl (qM rfl) rfl ?_
 refine aP 5 rfl (B3 (j := 0) rfl rfl rfl (by omega)) rfl ?_
 refine aL 6 rfl (A3 rfl rfl (hat0 _) rfl) rfl ?_
 refine aL 7 rfl (A5 rfl rfl) rfl ?_
 refine Q2 (j := 2) (j' := 8) (by kernel_rfl) ?_ ?_
 (refine E0 rfl (C7 rfl rfl rfl (by omega) (by unfold maxLen; omega) rfl) rfl rfl ?_; rintro _ ⟨b575, rfl⟩)
 refine A4 8 ?_
 refine R7 rfl rfl ((Z1 _ _ _ _ _ hre0 (K3 _))) rfl rfl rfl (fun h577 => ?_) (fun h577 => ?_)
 refine aP 9 rfl (qM rfl) rfl ?_
 refine aP 10 rfl (qM rfl) rfl ?_
 refine aP 11 rfl (B3 (j := 1) rfl rfl rfl (by omega)) rfl ?_
 refine aL 12 rfl (A3 rfl rfl (hat1 _) rfl) rfl ?_
 refine aL 13 rfl (A5 rfl rfl) rfl ?_
 refine A4 14 ?_
 refine R7 rfl rfl ((Z1 _ _ _ _ _ hre1 (K3 _))) rfl rfl rfl (fun h584 => ?_) (fun h584 => ?_)
 refine aP 15 rfl (K8 rfl rfl) rfl ?_
 refine aP 16 rfl (qA rfl) rfl ?_
 refine A4 17 ?_
 refine H7 rfl ?_
 refine aP 18 rfl (qA rfl) rfl ?_
 refine C1 (nS ?_)
 (refine H0 Pk.here (fun G5 hle5 hsl5 hno5 => ?_))
 refine tT (rB (rS ?_))
 refine C6 (rT rfl) (rC rfl (A5 rfl rfl)) (rT rfl) ?_
 (refine L5.two hsl5 (K3 _) (K3 _) (Z3 _) ?_; rw [V6 (by omega)]; first | (rw [if_pos ⟨by assumption, by assumption⟩, if_pos (by omega)]; rfl) | (rw [if_neg (fun hc => by first | exact Bool.noConfusion (hc.1.symm.trans (by assumption)) | exact Bool.noConfusion (hc.2.symm.trans (by assumption)) | exact Bool.noConfusion (hc.symm.trans (by assumption)))]; rfl))
 refine aP 15 rfl (K8 rfl rfl) rfl ?_
 refine aP 16 rfl (qA rfl) rfl ?_
 refine A4 17 ?_
 refine H7 rfl ?_
 refine aP 18 rfl (qA rfl) rfl ?_
 refine C1 (nS ?_)
 (refine H0 Pk.here (fun G5 hle5 hsl5 hno5 => ?_))
 refine tT (rB (rS ?_))
 refine C6 (rT rfl) (rC rfl (A5 rfl rfl)) (rT rfl) ?_
 (refine L5.two hsl5 (K3 _) (K3 _) (Z3 _) ?_; rw [V6 (by omega)]; first | (rw [if_pos ⟨by assumption, by assumption⟩, if_pos (by omega)]; rfl) | (rw [if_neg (fun hc => by first | exact Bool.noConfusion (hc.1.symm.trans (by assumption)) | exact Bool.noConfusion (hc.2.symm.trans (by assumption)) | exact Bool.noConfusion (hc.symm.trans (by assumption)))]; rfl))
 refine aP 9 rfl (qM rfl) rfl ?_
 refine C0 10 rfl rfl rfl ?_
 refine C0 11 rfl rfl rfl ?_
 refine C0 12 rfl rfl rfl ?_
 refine C0 13 rfl rfl rfl ?_
 refine C0 14 rfl rfl rfl ?_
 refine aP 15 rfl (N2 rfl rfl) rfl ?_
 refine aP 16 rfl (qA rfl) rfl ?_
 refine A4 17 ?_
 refine H7 rfl ?_
 refine aP 18 rfl (qA rfl) rfl ?_
 refine C1 (nS ?_)
 (refine H0 Pk.here (fun G5 hle5 hsl5 hno5 => ?_))
 refine tT (rB (rS ?_))
 refine C6 (rT rfl) (rC rfl (A5 rfl rfl)) (rT rfl) ?_
 (refine L5.two hsl5 (K3 _) (K3 _) (Z3 _) ?_; rw [V6 (by omega)]; first | (rw [if_pos ⟨by assumption, by assumption⟩, if_pos (by omega)]; rfl) | (rw [if_neg (fun hc => by first | exact Bool.noConfusion (hc.1.symm.trans (by assumption)) | exact Bool.noConfusion (hc.2.symm.trans (by assumption)) | exact Bool.noConfusion (hc.symm.trans (by assumption)))]; rfl))
 refine R7 rfl rfl ((Z1 _ _ _ _ _ hre0 (K3 _))) rfl rfl rfl (fun h630 => ?_) (fun h630 => ?_)
 refine aP 9 rfl (qM rfl) rfl ?_
 refine aP 10 rfl (qM rfl) rfl ?_
 refine aP 11 rfl (B3 (j := 1) rfl rfl rfl (by omega)) rfl ?_
 refine aL 12 rfl (A3 rfl rfl (hat1 _) rfl) rfl ?_
 refine aL 13 rfl (A5 rfl rfl) rfl ?_
 refine Q2 (j := 2) (j' := 14) (by kernel_rfl) ?_ ?_
 (refine E0 rfl (C7 rfl rfl rfl (by omega) (by unfold maxLen; omega) rfl) rfl rfl ?_; rintro _ ⟨b637, rfl⟩)
 refine A4 14 ?_
 refine R7 rfl rfl ((Z1 _ _ _ _ _ hre1 (K3 _))) rfl rfl rfl (fun h639 => ?_) (fun h639 => ?_)
 refine aP 15 rfl (K8 rfl rfl) rfl ?_
 refine aP 16 rfl (qA rfl) rfl ?_
 refine A4 17 ?_
 refine H7 rfl ?_
 refine aP 18 rfl (qA rfl) rfl ?_
 refine C1 (nS ?_)
 (refine H0 Pk.here (fun G5 hle5 hsl5 hno5 => ?_))
 refine tT (rB (rS ?_))
 refine C6 (rT rfl) (rC rfl (A5 rfl rfl)) (rT rfl) ?_
 (refine L5.two hsl5 (K3 _) (K3 _) (Z3 _) ?_; rw [V6 (by omega)]; first | (rw [if_pos ⟨by assumption, by assumption⟩, if_pos (by omega)]; rfl) | (rw [if_neg (fun hc => by first | exact Bool.noConfusion (hc.1.symm.trans (by assumption)) | exact Bool.noConfusion (hc.2.symm.trans (by assumption)) | exact Bool.noConfusion (hc.symm.trans (by assumption)))]; rfl))
 refine aP 15 rfl (K8 rfl rfl) rfl ?_
 refine aP 16 rfl (qA rfl) rfl ?_
 refine A4 17 ?_
 refine H7 rfl ?_
 refine aP 18 rfl (qA rfl) rfl ?_
 refine C1 (nS ?_)
 (refine H0 Pk.here (fun G5 hle5 hsl5 hno5 => ?_))
 refine tT (rB (rS ?_))
 refine C6 (rT rfl) (rC rfl (A5 rfl rfl)) (rT rfl) ?_
 (refine L5.two hsl5 (K3 _) (K3 _) (Z3 _) ?_; rw [V6 (by omega)]; first | (rw [if_pos ⟨by assumption, by assumption⟩, if_pos (by omega)]; rfl) | (rw [if_neg (fun hc => by first | exact Bool.noConfusion (hc.1.symm.trans (by assumption)) | exact Bool.noConfusion (hc.2.symm.trans (by assumption)) | exact Bool.noConfusion (hc.symm.trans (by assumption)))]; rfl))
 refine R7 rfl rfl ((Z1 _ _ _ _ _ hre1 (K3 _))) rfl rfl rfl (fun h666 => ?_) (fun h666 => ?_)
 refine aP 15 rfl (K8 rfl rfl) rfl ?_
 refine A4 2 ?_
 (refine E0 rfl (C7 rfl rfl rfl (by omega) (by unfold maxLen; omega) rfl) rfl rfl ?_; rintro _ ⟨b669, rfl⟩)
 refine aP 16 rfl (qA rfl) rfl ?_
 refine A4 17 ?_
 refine H7 rfl ?_
 refine aP 18 rfl (qA rfl) rfl ?_
 refine C1 (nS ?_)
 (refine H0 Pk.here (fun G5 hle5 hsl5 hno5 => ?_))
 refine tT (rB (rS ?_))
 refine C6 (rT rfl) (rC rfl (A5 rfl rfl)) (rT rfl) ?_
 (refine L5.two hsl5 (K3 _) (K3 _) (Z3 _) ?_; rw [V6 (by omega)]; first | (rw [if_pos ⟨by assumption, by assumption⟩, if_pos (by omega)]; rfl) | (rw [if_neg (fun hc => by first | exact Bool.noConfusion (hc.1.symm.trans (by assumption)) | exact Bool.noConfusion (hc.2.symm.trans (by assumption)) | exact Bool.noConfusion (hc.symm.trans (by assumption)))]; rfl))
 refine aP 15 rfl (K8 rfl rfl) rfl ?_
 refine A4 2 ?_
 (refine E0 rfl (C7 rfl rfl rfl (by omega) (by unfold maxLen; omega) rfl) rfl rfl ?_; rintro _ ⟨b684, rfl⟩)
 refine aP 16 rfl (qA rfl) rfl ?_
 refine A4 17 ?_
 refine H7 rfl ?_
 refine aP 18 rfl (qA rfl) rfl ?_
 refine C1 (nS ?_)
 (refine H0 Pk.here (fun G5 hle5 hsl5 hno5 => ?_))
 refine tT (rB (rS ?_))
 refine C6 (rT rfl) (rC rfl (A5 rfl rfl)) (rT rfl) ?_
 (refine L5.two hsl5 (K3 _) (K3 _) (Z3 _) ?_; rw [V6 (by omega)]; first | (rw [if_pos ⟨by assumption, by assumption⟩, if_pos (by omega)]; rfl) | (rw [if_neg (fun hc => by first | exact Bool.noConfusion (hc.1.symm.trans (by assumption)) | exact Bool.noConfusion (hc.2.symm.trans (by assumption)) | exact Bool.noConfusion (hc.symm.trans (by assumption)))]; rfl))
 refine aP 9 rfl (qM rfl) rfl ?_
 refine C0 10 rfl rfl rfl ?_
 refine C0 11 rfl rfl rfl ?_
 refine C0 12 rfl rfl rfl ?_
 refine C0 13 rfl rfl rfl ?_
 refine Q2 (j := 2) (j' := 14) (by kernel_rfl) ?_ ?_
 (refine E0 rfl (C7 rfl rfl rfl (by omega) (by unfold maxLen; omega) rfl) rfl rfl ?_; rintro _ ⟨b703, rfl⟩)
 refine C0 14 rfl rfl rfl ?_
 refine aP 15 rfl (N2 rfl rfl) rfl ?_
 refine aP 16 rfl (qA rfl) rfl ?_
 refine A4 17 ?_
 refine H7 rfl ?_
 refine aP 18 rfl (qA rfl) rfl ?_
 refine C1 (nS ?_)
 (refine H0 Pk.here (fun G5 hle5 hsl5 hno5 => ?_))
 refine tT (rB (rS ?_))
 refine C6 (rT rfl) (rC rfl (A5 rfl rfl)) (rT rfl) ?_
 (refine L5.two hsl5 (K3 _) (K3 _) (Z3 _) ?_; rw [V6 (by omega)]; first | (rw [if_pos ⟨by assumption, by assumption⟩, if_pos (by omega)]; rfl) | (rw [if_neg (fun hc => by first | exact Bool.noConfusion (hc.1.symm.trans (by assumption)) | exact Bool.noConfusion (hc.2.symm.trans (by assumption)) | exact Bool.noConfusion (hc.symm.trans (by assumption)))]; rfl))
 refine A5d (l' := [tt,tt,ff,tt,tt,tt,tt,tt,tt,tt,tt,tt,tt,tt,tt,ff,ff,ff,ff]) rfl rfl rfl rfl ?_
 refine aP 15 rfl (N2 rfl rfl) rfl ?_
 refine A4 2 ?_
 (refine E0 rfl (C7 rfl rfl rfl (by omega) (by unfold maxLen; omega) rfl) rfl rfl ?_; rintro _ ⟨b721, rfl⟩)
 refine aP 16 rfl (qA rfl) rfl ?_
 refine A4 17 ?_
 refine H7 rfl ?_
 refine aP 18 rfl (qA rfl) rfl ?_
 refine C1 (nS ?_)
 (refine H0 Pk.here (fun G5 hle5 hsl5 hno5 => ?_))
 refine tT (rB (rS ?_))
 refine C6 (rT rfl) (rC rfl (A5 rfl rfl)) (rT rfl) ?_
 (refine L5.two hsl5 (K3 _) (K3 _) (Z3 _) ?_; rw [V6 (by omega)]; first | (rw [if_pos ⟨by assumption, by assumption⟩, if_pos (by omega)]; rfl) | (rw [if_neg (fun hc => by first | exact Bool.noConfusion (hc.1.symm.trans (by assumption)) | exact Bool.noConfusion (hc.2.symm.trans (by assumption)) | exact Bool.noConfusion (hc.symm.trans (by assumption)))]; rfl))
 refine sQ (qA rfl) rfl (sD (nS (cF rfl (tS (tR ?_)))))
 refine sB (qE rfl rfl) rfl rfl (fun h740 => ?_) (fun h740 => ?_)
 refine sQ (qA rfl) rfl (sD (nS (qT rfl (tS (tS ?_)))))
 (have hl3 : n = 3 := hop.2.1 (by omega); obtain ⟨b0, o0, q0, d0, hp0, hat0, hre0, hg0⟩ := hsl.kidD hkl (i := 0) (by omega) (by omega); obtain ⟨b1, o1, q1, d1, hp1, hat1, hre1, hg1⟩ := hsl.kidD hkl (i := 1) (by omega) (by omega); cases hp0; cases hp1; obtain ⟨b2, o2, q2, d2, hp2, hat2, hre2, hg2⟩ := hsl.kidD hkl (i := 2) (by omega) (by omega); cases hp2; refine D4 D5 rfl ?_)
 refine I3 (i := 0) (l' := [tt,ff,ff,ff,ff,ff,ff,ff,ff,ff,ff,ff,ff,ff,ff,ff]) rfl C8 (qM rfl) rfl (by kernel_rfl) rfl rfl ?_
 refine aP 1 rfl (B3 (j := 0) rfl rfl rfl (by omega)) rfl ?_
 refine aL 2 rfl (A3 rfl rfl (hat0 _) rfl) rfl ?_
 refine aL 3 rfl (A5 rfl rfl) rfl ?_
 refine A4 4 ?_
 refine R7 rfl rfl ((Z1 _ _ _ _ _ hre0 (Z3 _))) rfl rfl rfl (fun h753 => ?_) (fun h753 => ?_)
 refine aP 5 rfl (V8 rfl) rfl ?_
 refine aP 6 rfl (qM rfl) rfl ?_
 refine aP 7 rfl (qM rfl) rfl ?_
 refine aP 8 rfl (B3 (j := 1) rfl rfl rfl (by omega)) rfl ?_
 refine aL 9 rfl (A3 rfl rfl (hat1 _) rfl) rfl ?_
 refine aP 10 rfl (qM rfl) rfl ?_
 refine aP 11 rfl (B3 (j := 2) rfl rfl rfl (by omega)) rfl ?_
 refine aL 12 rfl (A3 rfl rfl (hat2 _) rfl) rfl ?_
 refine A4 13 ?_
 refine R7 rfl rfl ((Z1 _ _ _ _ _ hre1 hre2)) rfl rfl rfl (fun h763 => ?_) (fun h763 => ?_)
 refine aP 14 rfl (V8 rfl) rfl ?_
 refine aP 15 rfl (N2 rfl rfl) rfl ?_
 refine C1 (nS (cF rfl (tK (nS (tS ?_)))))
 (have hl3 : n = 3 := hop.2.1 (by omega); obtain ⟨b0, o0, q0, d0, hp0, hat0, hre0, hg0⟩ := hsl.kidD hkl (i := 0) (by omega) (by omega); obtain ⟨b1, o1, q1, d1, hp1, hat1, hre1, hg1⟩ := hsl.kidD hkl (i := 1) (by omega) (by omega); cases hp0; cases hp1; obtain ⟨b2, o2, q2, d2, hp2, hat2, hre2, hg2⟩ := hsl.kidD hkl (i := 2) (by omega) (by omega); cases hp2; refine D4 D5 rfl ?_)
 refine I3 (i := 0) (l' := [tt,ff,ff,ff,ff,ff,ff,ff,ff]) rfl C8 (qM rfl) rfl (by kernel_rfl) rfl rfl ?_
 refine aP 1 rfl (B3 (j := 1) rfl rfl rfl (by omega)) rfl ?_
 refine aL 2 rfl (A3 rfl rfl (hat1 _) rfl) rfl ?_
 refine aP 3 rfl (qM rfl) rfl ?_
 refine aP 4 rfl (B3 (j := 2) rfl rfl rfl (by omega)) rfl ?_
 refine aL 5 rfl (A3 rfl rfl (hat2 _) rfl) rfl ?_
 refine Q2 (j := 6) (j' := 7) (by kernel_rfl) ?_ ?_
 (refine H1 rfl rfl (A8t _ _ _ _ _ (by assumption) (A2X har (by omega)) (A2X har (by omega)) hre1 hre2) rfl rfl rfl (fun v GM hleM hh => ?_); obtain ⟨cM, rfl, hrM⟩ := hh; obtain ⟨p7, c7, e7, rfl, _⟩ := hrM.open)
 refine A4 7 ?_
 (refine E0 rfl (A7 rfl) rfl rfl ?_; rintro _ ⟨b782, rfl⟩)
 refine A4 8 ?_
 refine H7 rfl ?_
 refine C1 (nS (tS ?_))
 (have hl3 : n = 3 := hop.2.1 (by omega); obtain ⟨b0, o0, q0, d0, hp0, hat0, hre0, hg0⟩ := hsl.kidD hkl (i := 0) (by omega) (by omega); obtain ⟨b1, o1, q1, d1, hp1, hat1, hre1, hg1⟩ := hsl.kidD hkl (i := 1) (by omega) (by omega); cases hp0; cases hp1; obtain ⟨b2, o2, q2, d2, hp2, hat2, hre2, hg2⟩ := hsl.kidD hkl (i := 2) (by omega) (by omega); cases hp2; refine D4 D5 rfl ?_)
 refine K9 (i := 0) (l' := [tt,ff,ff,ff,ff,ff,ff,ff]) rfl C8 (A5 rfl rfl) rfl (by kernel_rfl) rfl rfl ?_
 refine aL 1 rfl (A5 rfl rfl) rfl ?_
 refine aL 2 rfl (A5 rfl rfl) rfl ?_
 refine aL 4 rfl (A5 rfl rfl) rfl ?_
 refine A4 3 ?_
 (refine E0 rfl (C7 rfl rfl rfl (by omega) (by unfold maxLen; omega) rfl) rfl rfl ?_; rintro _ ⟨b794, rfl⟩)
 refine aP 5 rfl (qA rfl) rfl ?_
 refine A4 6 ?_
 refine H7 rfl ?_
 refine aP 7 rfl (qA rfl) rfl ?_
 refine C1 (nS ?_)
 (refine H0 Pk.here (fun G5 hle5 hsl5 hno5 => ?_))
 refine tT (rB (rS ?_))
 refine C6 (rT rfl) (rC rfl (A5 rfl rfl)) (rT rfl) ?_
 (have hk1 : k = 9 := (by omega); subst hk1; exact L5.three hsl5 (Z3 _) (hrM.mono hle5) (hrM.mono hle5) (hrM.mono hle5) (by rw [mW9, if_pos ⟨by assumption, by assumption⟩]; rfl))
 (refine E0 rfl (A7 rfl) rfl rfl ?_; rintro _ ⟨b807, rfl⟩)
 refine A4 6 ?_
 (refine H1 rfl rfl (A8t _ _ _ _ _ (by assumption) (A2X har (by omega)) (A2X har (by omega)) hre1 hre2) rfl rfl rfl (fun v GM hleM hh => ?_); obtain ⟨cM, rfl, hrM⟩ := hh; obtain ⟨p7, c7, e7, rfl, _⟩ := hrM.open)
 refine A4 8 ?_
 refine H7 rfl ?_
 refine C1 (nS (tS ?_))
 (have hl3 : n = 3 := hop.2.1 (by omega); obtain ⟨b0, o0, q0, d0, hp0, hat0, hre0, hg0⟩ := hsl.kidD hkl (i := 0) (by omega) (by omega); obtain ⟨b1, o1, q1, d1, hp1, hat1, hre1, hg1⟩ := hsl.kidD hkl (i := 1) (by omega) (by omega); cases hp0; cases hp1; obtain ⟨b2, o2, q2, d2, hp2, hat2, hre2, hg2⟩ := hsl.kidD hkl (i := 2) (by omega) (by omega); cases hp2; refine D4 D5 rfl ?_)
 refine K9 (i := 0) (l' := [tt,ff,ff,ff,ff,ff,ff,ff]) rfl C8 (A5 rfl rfl) rfl (by kernel_rfl) rfl rfl ?_
 refine aL 1 rfl (A5 rfl rfl) rfl ?_
 refine aL 2 rfl (A5 rfl rfl) rfl ?_
 refine aL 4 rfl (A5 rfl rfl) rfl ?_
 refine A4 3 ?_
 (refine E0 rfl (C7 rfl rfl rfl (by omega) (by unfold maxLen; omega) rfl) rfl rfl ?_; rintro _ ⟨b821, rfl⟩)
 refine aP 5 rfl (qA rfl) rfl ?_
 refine A4 6 ?_
 refine H7 rfl ?_
 refine aP 7 rfl (qA rfl) rfl ?_
 refine C1 (nS ?_)
 (refine H0 Pk.here (fun G5 hle5 hsl5 hno5 => ?_))
 refine tT (rB (rS ?_))
 refine C6 (rT rfl) (rC rfl (A5 rfl rfl)) (rT rfl) ?_
 (have hk1 : k = 9 := (by omega); subst hk1; exact L5.three hsl5 (Z3 _) (hrM.mono hle5) (hrM.mono hle5) (hrM.mono hle5) (by rw [mW9, if_pos ⟨by assumption, by assumption⟩]; rfl))
 refine aP 14 rfl (Z7 rfl) rfl ?_
 refine aP 15 rfl (N2 rfl rfl) rfl ?_
 refine H4 ?_
 refine C6 (rT rfl) (rC rfl (A5 rfl rfl)) (rT rfl) ?_
 (have hk1 : k = 9 := (by omega); subst hk1; exact L5.nil (u := B2) (M2 _ ⟨by omega, by omega⟩) (by rw [mW9, if_neg (fun hc => by first | exact Bool.noConfusion (hc.1.symm.trans (by assumption)) | exact Bool.noConfusion (hc.2.symm.trans (by assumption)) | exact Bool.noConfusion (hc.symm.trans (by assumption)))]; rfl))
 refine aP 5 rfl (Z7 rfl) rfl ?_
 refine aP 6 rfl (qM rfl) rfl ?_
 refine C0 7 rfl rfl rfl ?_
 refine C0 8 rfl rfl rfl ?_
 refine C0 9 rfl rfl rfl ?_
 refine C0 10 rfl rfl rfl ?_
 refine C0 11 rfl rfl rfl ?_
 refine C0 12 rfl rfl rfl ?_
 refine C0 13 rfl rfl rfl ?_
 refine C0 14 rfl rfl rfl ?_
 refine aP 15 rfl (K8 rfl rfl) rfl ?_
 refine H4 ?_
 refine C6 (rT rfl) (rC rfl (A5 rfl rfl)) (rT rfl) ?_
 (have hk1 : k = 9 := (by omega); subst hk1; exact L5.nil (u := B2) (M2 _ ⟨by omega, by omega⟩) (by rw [mW9, if_neg (fun hc => by first | exact Bool.noConfusion (hc.1.symm.trans (by assumption)) | exact Bool.noConfusion (hc.2.symm.trans (by assumption)) | exact Bool.noConfusion (hc.symm.trans (by assumption)))]; rfl))
 refine sQ (qA rfl) rfl (sD (nS (cF rfl (tS (tR ?_)))))
 refine sB (qE rfl rfl) rfl rfl (fun h887 => ?_) (fun h887 => ?_)
 refine sQ (qA rfl) rfl (sD (nS (qT rfl (tS ?_))))
 (have hl2 : n = 2 := hop.1 (by omega); obtain ⟨b0, o0, q0, d0, hp0, hat0, hre0, hg0⟩ := hsl.kidD hkl (i := 0) (by omega) (by omega); obtain ⟨b1, o1, q1, d1, hp1, hat1, hre1, hg1⟩ := hsl.kidD hkl (i := 1) (by omega) (by omega); cases hp0; cases hp1; refine D4 D5 rfl ?_)
 refine I3 (i := 0) (l' := [tt,ff,ff,ff,ff,ff,ff,ff,ff,ff]) rfl C8 (qM rfl) rfl (by kernel_rfl) rfl rfl ?_
 refine aP 1 rfl (B3 (j := 0) rfl rfl rfl (by omega)) rfl ?_
 refine aL 2 rfl (A3 rfl rfl (hat0 _) rfl) rfl ?_
 refine aP 3 rfl (qM rfl) rfl ?_
 refine aP 4 rfl (B3 (j := 1) rfl rfl rfl (by omega)) rfl ?_
 refine aL 5 rfl (A3 rfl rfl (hat1 _) rfl) rfl ?_
 refine A4 6 ?_
 (refine H1 rfl rfl (A1Y 5 _ _ _ _ _ ⟨by omega, by omega⟩ hre0 hre1) rfl rfl rfl (fun v GB hleB hh => ?_); obtain ⟨cB, rfl, hrB⟩ := hh; obtain ⟨p7, c7, e7, rfl, _⟩ := hrB.open)
 refine aP 7 rfl (qA rfl) rfl ?_
 refine A4 8 ?_
 refine H7 rfl ?_
 refine aP 9 rfl (qA rfl) rfl ?_
 refine C1 (nS (tT (rB (rS ?_))))
 refine C6 (rT rfl) (rC rfl (A5 rfl rfl)) (rT rfl) ?_
 (have hk1 : k = 10 := (by omega); subst hk1; exact L5.nil hrB A4v)
 refine sQ (qA rfl) rfl (sD (nS (cF rfl (tS (tR ?_)))))
 refine sB (qE rfl rfl) rfl rfl (fun h919 => ?_) (fun h919 => ?_)
 refine sQ (qA rfl) rfl (sD (nS (qT rfl (tS ?_))))
 (have hl1 : n = 1 := hop.2.2 (by omega); obtain ⟨b0, o0, q0, d0, hp0, hat0, hre0, hg0⟩ := hsl.kidD hkl (i := 0) (by omega) (by omega); cases hp0; refine D4 D5 rfl ?_)
 refine I3 (i := 0) (l' := [tt,ff,ff,ff,ff,ff,ff,ff,ff,ff,ff,ff,ff,ff]) rfl C8 (B0 rfl) rfl (by kernel_rfl) rfl rfl ?_
 refine aL 1 rfl (A5 rfl rfl) rfl ?_
 refine aP 3 rfl (B0 rfl) rfl ?_
 refine aL 4 rfl (A5 rfl rfl) rfl ?_
 refine aP 5 rfl (qM rfl) rfl ?_
 refine aP 6 rfl (B3 (j := 0) rfl rfl rfl (by omega)) rfl ?_
 refine aL 7 rfl (A3 rfl rfl (hat0 _) rfl) rfl ?_
 refine aP 8 rfl (B0 rfl) rfl ?_
 refine aL 9 rfl (A5 rfl rfl) rfl ?_
 refine Q2 (j := 2) (j' := 10) (by kernel_rfl) ?_ ?_
 (refine E0 rfl (C7 rfl rfl rfl (by omega) (by unfold maxLen; omega) rfl) rfl rfl ?_; rintro _ ⟨b936, rfl⟩)
 refine A4 10 ?_
 refine R7 rfl rfl ((Z1 _ _ _ _ _ hre0 hrty)) rfl rfl rfl (fun h938 => ?_) (fun h938 => ?_)
 refine aP 11 rfl (qA rfl) rfl ?_
 refine A4 12 ?_
 refine H7 rfl ?_
 refine aP 13 rfl (qA rfl) rfl ?_
 refine C1 (nS ?_)
 (refine H0 Pk.here (fun G5 hle5 hsl5 hno5 => ?_))
 refine tT (rB (rS ?_))
 refine C6 (rT rfl) (rC rfl (A5 rfl rfl)) (rT rfl) ?_
 (have hk1 : k = 13 := (by omega); subst hk1; refine L5.one hsl5 (hrty.mono hle5) (hrty.mono hle5) ?_; rw [A2x]; split <;> first | rfl | (exfalso; simp_all; done))
 refine aP 11 rfl (qA rfl) rfl ?_
 refine A4 12 ?_
 refine H7 rfl ?_
 refine aP 13 rfl (qA rfl) rfl ?_
 refine C1 (nS ?_)
 (refine H0 Pk.here (fun G5 hle5 hsl5 hno5 => ?_))
 refine tT (rB (rS ?_))
 refine C6 (rT rfl) (rC rfl (A5 rfl rfl)) (rT rfl) ?_
 (have hk1 : k = 13 := (by omega); subst hk1; refine L5.one hsl5 (hrty.mono hle5) (hrty.mono hle5) ?_; rw [A2x]; split <;> first | rfl | (exfalso; simp_all; done))
 refine R7 rfl rfl ((Z1 _ _ _ _ _ hre0 hrty)) rfl rfl rfl (fun h963 => ?_) (fun h963 => ?_)
 refine A4 2 ?_
 (refine E0 rfl (C7 rfl rfl rfl (by omega) (by unfold maxLen; omega) rfl) rfl rfl ?_; rintro _ ⟨b965, rfl⟩)
 refine aP 11 rfl (qA rfl) rfl ?_
 refine A4 12 ?_
 refine H7 rfl ?_
 refine aP 13 rfl (qA rfl) rfl ?_
 refine C1 (nS ?_)
 (refine H0 Pk.here (fun G5 hle5 hsl5 hno5 => ?_))
 refine tT (rB (rS ?_))
 refine C6 (rT rfl) (rC rfl (A5 rfl rfl)) (rT rfl) ?_
 (have hk1 : k = 13 := (by omega); subst hk1; refine L5.one hsl5 (hrty.mono hle5) (hrty.mono hle5) ?_; rw [A2x]; split <;> first | rfl | (exfalso; simp_all; done))
 refine A4 2 ?_
 (refine E0 rfl (C7 rfl rfl rfl (by omega) (by unfold maxLen; omega) rfl) rfl rfl ?_; rintro _ ⟨b979, rfl⟩)
 refine aP 11 rfl (qA rfl) rfl ?_
 refine A4 12 ?_
 refine H7 rfl ?_
 refine aP 13 rfl (qA rfl) rfl ?_
 refine C1 (nS ?_)
 (refine H0 Pk.here (fun G5 hle5 hsl5 hno5 => ?_))
 refine tT (rB (rS ?_))
 refine C6 (rT rfl) (rC rfl (A5 rfl rfl)) (rT rfl) ?_
 (have hk1 : k = 13 := (by omega); subst hk1; refine L5.one hsl5 (hrty.mono hle5) (hrty.mono hle5) ?_; rw [A2x]; split <;> first | rfl | (exfalso; simp_all; done))
 refine I5 ?_
 (have hk11 : k = 11 ∨ k = 12 := (by omega); have hl1 : n = 1 := hop.2.2 (by omega); obtain ⟨b0, o0, q0, d0, hp0, hat0, hre0, hg0⟩ := hsl.kidD hkl (i := 0) (by omega) (by omega); cases hp0; refine sP (B3 (j := 0) rfl rfl rfl (by omega)) rfl rfl ?_)
 refine sL (A3 rfl rfl (hat0 _) rfl) rfl rfl ?_
 (refine E4 rfl (A8s 5 (h.getD 0 B2) G _ (.inr rfl) (A2X har (by omega)) hre0) rfl rfl (fun v G1 hle1 hh => ?_); obtain ⟨ma, mca, mb, mcb, rfl, hma, hmb, hma2, hmb2, hmm⟩ := hh; obtain ⟨p1, c1, e1, rfl, _⟩ := hma.open; obtain ⟨p2, c2, e2, rfl, _⟩ := hmb.open)
 refine H3 ?_
 refine sE (A7 rfl) rfl (fun b1009 => ?_)
 refine sE (A7 rfl) rfl (fun b1010 => ?_)
 refine D2 ?_
 refine sE (A7 rfl) rfl (fun b1019 => ?_)
 refine D2 ?_
 refine sB (qE rfl rfl) rfl rfl (fun h1028 => ?_) (fun h1028 => ?_)
 refine D9 ?_
 (have hl1 : n = 1 := hop.2.2 (by omega); obtain ⟨b0, o0, q0, d0, hp0, hat0, hre0, hg0⟩ := hsl.kidD hkl (i := 0) (by omega) (by omega); cases hp0; refine D4 D5 rfl ?_)
 refine K9 (i := 0) (l' := [tt,ff,ff,ff,ff,ff,ff,ff,ff]) rfl C8 (A5 rfl rfl) rfl (by kernel_rfl) rfl rfl ?_
 refine aL 1 rfl (A5 rfl rfl) rfl ?_
 refine aL 4 rfl (A5 rfl rfl) rfl ?_
 refine aP 5 rfl (qM rfl) rfl ?_
 refine A4 2 ?_
 (refine H1 rfl rfl (A1Y _ ma mb _ _ _ ⟨by omega, by omega⟩ hma hmb) rfl rfl rfl (fun v GB hleB hh => ?_); obtain ⟨cB, rfl, hrB⟩ := hh; obtain ⟨p7, c7, e7, rfl, _⟩ := hrB.open; have hma' := hma.mono hleB; have hmb' := hmb.mono hleB)
 refine A4 3 ?_
 (refine E0 rfl (C7 rfl rfl rfl (by omega) (by unfold maxLen; omega) rfl) rfl rfl ?_; rintro _ ⟨b1046, rfl⟩)
 refine aP 6 rfl (qA rfl) rfl ?_
 refine A4 7 ?_
 refine H7 rfl ?_
 refine aP 8 rfl (qA rfl) rfl ?_
 refine C1 (nS ?_)
 (refine H0 Pk.here (fun G5 hle5 hsl5 hno5 => ?_))
 refine tT ?_
 refine C6 (rT rfl) (rC rfl (A5 rfl rfl)) (rT rfl) ?_
 (refine L5.one hsl5 (hrB.mono hle5) (hmb'.mono hle5) ?_; rw [A2Y (by omega)]; cases hq : Q5 5 (h.getD 0 B2) with | none => rfl | some q => (have hq2 := hmm q hq; subst hq2; dsimp only; rw [if_pos (by omega)]; rfl))
 refine sD (nS (cF rfl (tK (nS (tS ?_)))))
 (have hl1 : n = 1 := hop.2.2 (by omega); obtain ⟨b0, o0, q0, d0, hp0, hat0, hre0, hg0⟩ := hsl.kidD hkl (i := 0) (by omega) (by omega); cases hp0; refine D4 D5 rfl ?_)
 refine K9 (i := 0) (l' := [tt,ff,ff,ff,ff,ff,ff,ff,ff]) rfl C8 (A5 rfl rfl) rfl (by kernel_rfl) rfl rfl ?_
 refine aL 1 rfl (A5 rfl rfl) rfl ?_
 refine aL 4 rfl (A5 rfl rfl) rfl ?_
 refine aP 5 rfl (qM rfl) rfl ?_
 refine A4 2 ?_
 (refine H1 rfl rfl (A1Y _ ma mb _ _ _ ⟨by omega, by omega⟩ hma hmb) rfl rfl rfl (fun v GB hleB hh => ?_); obtain ⟨cB, rfl, hrB⟩ := hh; obtain ⟨p7, c7, e7, rfl, _⟩ := hrB.open; have hma' := hma.mono hleB; have hmb' := hmb.mono hleB)
 refine A4 3 ?_
 (refine E0 rfl (C7 rfl rfl rfl (by omega) (by unfold maxLen; omega) rfl) rfl rfl ?_; rintro _ ⟨b1071, rfl⟩)
 refine aP 6 rfl (qA rfl) rfl ?_
 refine A4 7 ?_
 refine H7 rfl ?_
 refine aP 8 rfl (qA rfl) rfl ?_
 refine C1 (nS ?_)
 (refine H0 Pk.here (fun G5 hle5 hsl5 hno5 => ?_))
 refine tT ?_
 refine C6 (rT rfl) (rC rfl (A5 rfl rfl)) (rT rfl) ?_
 (refine L5.one hsl5 (hrB.mono hle5) (hma'.mono hle5) ?_; rw [A2Y (by omega)]; cases hq : Q5 5 (h.getD 0 B2) with | none => rfl | some q => (have hq2 := hmm q hq; subst hq2; dsimp only; rw [if_neg (by omega)]; rfl))
theorem A53 {cx : Cx} {k : Int} {nm : ByteArray} {ty : Ty} {h w : List Ty} {t : Ty} (he : X9 cx k nm ty h = some (w, t)) : E8 t = true ∧ L7 cx k nm ty h = some (w, t) := by
 unfold X9 at he
 split at he
 ·rename_i w' t' hw
  split at he
  ·cases he; exact ⟨by assumption, hw⟩
  ·cases he
 ·cases he
theorem B2C {cx : Cx} {k : Int} {nm : ByteArray} {ty : Ty} {h w : List Ty} {t : Ty} (hop : (k = 6 ∨ k = 7 ∨ k = 8 ∨ k = 10 → h.length = 2) ∧ (k = 9 → h.length = 3) ∧ (k = 5 ∨ k = 11 ∨ k = 12 ∨ k = 13 → h.length = 1)) (hk : 1 ≤ k ∧ k ≤ 14) (h14 : k ≠ 14) (he : L7 cx k nm ty h = some (w, t)) : w.length ≤ h.length := by
 have hkk : k = 1 ∨ k = 2 ∨ (k = 3 ∨ k = 4) ∨ k = 5 ∨ k = 6 ∨ (k = 7 ∨ k = 8) ∨ k = 9 ∨ k = 10 ∨ (k = 11 ∨ k = 12) ∨ k = 13 := by omega
 rcases hkk with rfl | rfl | hk | rfl | rfl | hk | rfl | rfl | hk | rfl
 ·rw [mW1] at he; split at he <;> cases he; simp
 ·rw [mW2] at he; cases he; simp
 ·rw [A3B hk] at he; cases he; simp
 ·rw [mW5] at he; cases he; simp
 ·rw [mW6] at he
  split at he
  ·split at he <;> cases he
   have := hop.1 (by omega); simp [this]
  ·cases he
 ·rw [V6 hk] at he
  split at he <;> cases he
  have := hop.1 (by omega); simp [this]
 ·rw [mW9] at he
  split at he <;> cases he
  have := hop.2.1 (by omega); simp [this]
 ·rw [A4v] at he; cases he; simp
 ·rw [A2Y hk] at he
  split at he
  ·cases he; have := hop.2.2 (by omega); simp [this]
  ·cases he
 ·rw [A2x] at he
  split at he <;> cases he
  have := hop.2.2 (by omega); simp [this]
theorem R1.snoc {G G' : IM} {cx : Cx} {n : Nat} {p' : Option Addr} {c' : Nat} {es : List (List Value)} {e : List Value} {nm : ByteArray} {t : Ty} (h1 : n = cx.length) (hl : es.length = n) (h2 : ∀ x ∈ es, x.length = 3) (h3 : ∀ x ∈ es, x.all (·.oneCell') = true)
  (h4 : ∀ (i : Nat) (b : ByteArray × Ty), cx[i]? = some b → ∃ e, es[i]? = some e ∧ A2W G b e) (hg : B9 G G') (he : A2W G' (nm, t) e) (hs : Sl G' p' (n + 1) c' 3 (es.flatten ++ e)) : R1 G' (cx ++ [(nm, t)]) p' (n + 1) c' := by
 have hel : e.length = 3 ∧ e.all (·.oneCell') = true := by obtain ⟨q, d, rfl, _⟩ := he; exact ⟨rfl, rfl⟩
 refine ⟨by simp [h1], es ++ [e], D3.of (by simpa using hs) (by simp [hl]) ?_ ?_, ?_⟩
 ·simp only [List.forall_mem_append, List.forall_mem_singleton]; exact ⟨h2, hel.1⟩
 ·simp only [List.forall_mem_append, List.forall_mem_singleton]; exact ⟨h3, hel.2⟩
 ·intro i b hb
  rw [List.getElem?_append] at hb ⊢
  split at hb
  ·rename_i hi
   obtain ⟨e', he', hr⟩ := h4 i b hb
   rw [if_pos (by omega)]
   exact ⟨e', he', hr.mono hg⟩
  ·rename_i hi
   have : i - cx.length = 0 := by
    apply Classical.byContradiction; intro hc
    rw [List.getElem?_eq_none (by simp; omega)] at hb; cases hb
   rw [this] at hb
   simp only [List.getElem?_cons_zero, Option.some.injEq] at hb
   subst hb
   rw [if_neg (by omega)]
   exact ⟨e, by rw [show i - es.length = 0 by omega]; rfl, he⟩
theorem B2D (G : IM) (p : Option Addr) (n c : Nat) (es : List (List Value)) (h : D3 G p n c 3 es) (hn : n ≤ 4294967296) :
  Fn Tryz.prog 66 [.slice p n c] [] G (fun G' v outs => G' = G ∧ ∃ p' c', v = .slice p' n c' ∧ outs = [.slc p' c' 83 3 n es.flatten]) := by
 have hp := h.sl.nn
 have hS := h.sl
 have hone : ∀ u ∈ es.flatten, u.oneCell' = true := by
  intro u hu
  obtain ⟨e, he, hue⟩ := List.mem_flatten.1 hu
  exact List.all_eq_true.1 (h.one e he) u hue
 refine B7 Tryz.func66 rfl Tryz.ntmps66 Tryz.results66 rfl ?_
 intro w0
 cases p with
 | none =>
  obtain rfl := hp rfl
  obtain rfl : es = [] := List.length_eq_zero_iff.1 h.len
  refine U5 83 3 ?_
  refine D9 ?_
  refine sQ (B0m rfl rfl rfl) rfl ?_
  refine I5 ?_
  refine H5 (rT rfl) A0.refl ?_
  exact ⟨rfl, _, _, rfl, rfl⟩
 | some a =>
  refine D9 ?_
  refine sQ (A6L rfl rfl rfl) rfl ?_
  refine sD (nS (cF rfl (tK (nS (tS (tR ?_))))))
  (refine J1 (C7 rfl rfl rfl (by omega) (by unfold maxLen; omega) rfl) rfl ?_; rintro _ ⟨b18, rfl⟩)
  refine sQ (qM rfl) rfl ?_
  refine A5M rfl rfl rfl rfl rfl (fun _ _ => by repeat (first | exact Sw.here | apply Sw.there)) hS hone (Nat.zero_le _) (by unfold maxLen; omega) (by omega) rfl (fun pn cn => ?_)
  refine sQ (qA rfl) rfl (sD (nS (tT ?_)))
  refine H5 (rT rfl) A0.refl ?_
  exact ⟨rfl, _, _, by rw [Nat.zero_add], by rw [Nat.zero_add]; rfl⟩
theorem X1.no {r : Option Ty} {G G' : IM} {cu : List Value} {u : Ty} {b : Bool} (hu : B6 G' u cu) (hb : b = false) (h : r = none) : X1 r G G' (.tuple ⟨[.agg ⟨cu⟩, .bool b]⟩) [] := by
 subst hb h
 exact ⟨rfl, cu, u, rfl, hu, by simp⟩
theorem X1.yes {r : Option Ty} {G G' : IM} {cu : List Value} {u : Ty} {b : Bool} (hu : B6 G' u cu) (hb : b = true) (h : r = some u) : X1 r G G' (.tuple ⟨[.agg ⟨cu⟩, .bool b]⟩) [] := by
 subst hb h
 exact ⟨rfl, cu, u, rfl, hu, fun t ht => by cases ht; rfl⟩
section
variable {cx : Cx} {k : Int} {nm : ByteArray} {num : Int} {ty fr : Ty} {lb : Int} {ks : List Tm}
theorem A3C {us w : List Ty} {t : Ty} (h : L7 cx k nm ty us = some (w, t)) {b : Bool} (hb : E8 t = b) : X9 cx k nm ty us = if b = true then some (w, t) else none := by
 unfold X9; rw [h]; simp only [hb]
theorem B2E {us : List Ty} (h : L7 cx k nm ty us = none) : X9 cx k nm ty us = none := by
 unfold X9; rw [h]
end
def B2F (r : Tm) : Tm × Bool := if O5 r = true then (r, true) else (I2, false)
def B5Y (t : Tm) (path : List Int) (x : Tm) : Tm × Bool := if O5 t = true ∧ O5 x = true ∧ tAt t path ≠ none then B2F (A8b t path x) else (I2, false)
mutual
theorem A54 (D N : Int) : ∀ (t : Tm) (d d' : Int), d' ≤ d → M9 D N t d = true → M9 D N t d' = true
 | .mk k nm num ty fr lb ks, d, d', hd, h => by
  obtain ⟨h1, h2, h3, h4⟩ := A0t h
  rw [A1c (by omega) h2 h3]
  exact A4w D N ks _ _ (by omega) h4
theorem A4w (D N : Int) : ∀ (ts : List Tm) (d d' : Int), d' ≤ d → N7 D N ts d = true → N7 D N ts d' = true
 | [], d, d', hd, h => by rw [N7]
 | t :: ts, d, d', hd, h => by
  rw [N7, Bool.and_eq_true] at h ⊢
  exact ⟨A54 D N t d d' hd h.1, A4w D N ts d d' hd h.2⟩
end
def F4 : List Tm → List Ty → List Ty → Int → List Tm × Int
 | u :: us, a :: h, b :: w, l => if M5 a b = true then (u :: (F4 us h w l).1, (F4 us h w l).2) else (L4 u a b (l + 1) :: (F4 us h w (l + 1)).1, (F4 us h w (l + 1)).2)
 | us, _, _, l => (us, l)
def Q1 (cx : Cx) (k : Int) (nm : ByteArray) (num : Int) (ty fr : Ty) (lb : Int) (us : List Tm) (h : List Ty) (l : Int) : Option (Tm × Ty × Int) :=
 match X9 cx k nm ty h with
 | none => none
 | some (w, t) => some (if k = 13 then (F4 us h w l).1.getD 0 I2 else .mk k nm num ty fr lb (F4 us h w l).1, t, (F4 us h w l).2)
mutual
def M6 (cx : Cx) : Tm → Int → Option (Tm × Ty × Int)
 | .mk k nm num ty fr lb ks, l => match L8 (O2 cx k nm ty) ks l with
  | none => none
  | some (us, h, l') => Q1 cx k nm num ty fr lb us h l'
def L8 (cx : Cx) : List Tm → Int → Option (List Tm × List Ty × Int)
 | [], l => some ([], [], l)
 | t :: ts, l => match M6 cx t l with
  | none => none
  | some (u, a, l') => match L8 cx ts l' with
   | none => none
   | some (us, h, l'') => some (u :: us, a :: h, l'')
end
def U3 (e : Tm) : Option (Tm × Ty) := if R0 e = true then (match M6 [] e 0 with | some (u, t, _) => some (u, t) | none => none) else none
def W4 (cx : Cx) (k : Int) (nm : ByteArray) (ty : Ty) (h : List Ty) : Option Ty := match L7 cx k nm ty h with
 | some (_, t) => if (k = 5 ∨ k = 10) ∧ E8 t = false then none else some t
 | none => none
mutual
def P7 (cx : Cx) : Tm → Option Ty
 | .mk k nm num ty fr lb ks => match V7 (O2 cx k nm ty) ks with
  | none => none
  | some h => W4 cx k nm ty h
def V7 (cx : Cx) : List Tm → Option (List Ty)
 | [] => some []
 | t :: ts => match P7 cx t with
  | none => none
  | some a => match V7 cx ts with
   | none => none
   | some h => some (a :: h)
end
theorem A1Z (k : Int) (ks : List Ty) (d : Int) : K5 (.mk k ks) d = (decide (d ≤ 4) && decide (U7 k = ks.length) && T3 ks (d + 1)) := by rw [K5]
mutual
theorem A3D : ∀ (t : Ty) (d e : Int), e ≤ d → K5 t d = true → K5 t e = true
 | .mk k ks, d, e, h, hs => by
  rw [A1Z, Bool.and_eq_true, Bool.and_eq_true, decide_eq_true_eq, decide_eq_true_eq] at hs ⊢
  exact ⟨⟨by omega, hs.1.2⟩, A8u ks (d + 1) (e + 1) (by omega) hs.2⟩
theorem A8u : ∀ (ts : List Ty) (d e : Int), e ≤ d → T3 ts d = true → T3 ts e = true
 | [], d, e, h, hs => by rw [T3]
 | t :: ts, d, e, h, hs => by
  rw [T3, Bool.and_eq_true] at hs ⊢
  exact ⟨A3D t d e h hs.1, A8u ts d e h hs.2⟩
end
mutual
theorem A55 : ∀ (a b : Ty) (d : Int), K2 a b = true → K5 a d = true → K5 b d = true → K5 (U1 a b) d = true
 | .mk k ks, .mk k' ks', d, hc, ha, hb => by
  rw [A02]
  split
  ·exact hb
  ·split
   ·exact ha
   ·rw [S2] at hc
    rw [A1Z, Bool.and_eq_true, Bool.and_eq_true, decide_eq_true_eq, decide_eq_true_eq] at ha hb ⊢
    simp only [Bool.or_eq_true, Bool.and_eq_true, decide_eq_true_eq] at hc
    obtain ⟨hk, hl⟩ : k = k' ∧ N6 ks ks' = true := by
     rcases hc with (h | h) | h
     ·contradiction
     ·contradiction
     ·exact h
    subst hk
    obtain ⟨m1, m2⟩ := A8v ks ks' (d + 1) hl ha.2 hb.2
    exact ⟨⟨ha.1.1, by rw [m2]; exact ha.1.2⟩, m1⟩
theorem A8v : ∀ (xs ys : List Ty) (d : Int), N6 xs ys = true → T3 xs d = true → T3 ys d = true → T3 (S4 xs ys) d = true ∧ (S4 xs ys).length = xs.length
 | [], [], d, _, _, _ => by simp [S4, T3]
 | [], b :: ys, d, hc, _, _ => by simp [N6] at hc
 | a :: xs, [], d, hc, _, _ => by simp [N6] at hc
 | a :: xs, b :: ys, d, hc, ha, hb => by
  rw [N6, Bool.and_eq_true] at hc
  rw [T3, Bool.and_eq_true] at ha hb
  obtain ⟨m1, m2⟩ := A8v xs ys d hc.2 ha.2 hb.2
  rw [S4, T3, Bool.and_eq_true]
  exact ⟨⟨A55 a b d hc.1 ha.1 hb.1, m1⟩, by simp [m2]⟩
end
theorem A56 {cx : Cx} (h : ∀ b ∈ cx, E8 b.2 = true) {nm : ByteArray} {t : Ty} : ∀ {n : Nat}, W9 cx nm n = some t → E8 t = true
 | 0, hl => by simp [W9] at hl
 | n + 1, hl => by
  rw [W9] at hl
  split at hl
  ·rename_i b hb
   split at hl
   ·cases hl; exact h b (List.mem_of_getElem? hb)
   ·exact A56 h hl
  ·exact A56 h hl
theorem A8w {k : Int} {t a b : Ty} (hk : k = 4 ∨ k = 5) (ht : E8 t = true) (h : Q5 k t = some (a, b)) : E8 a = true ∧ E8 b = true := by
 obtain ⟨tk, ks⟩ := t
 rw [show Q5 k (.mk tk ks) = (if tk = k then some (ks.getD 0 B2, ks.getD 1 B2) else if tk = 1 then some (P9, P9) else none) from rfl] at h
 by_cases he : tk = k
 ·rw [if_pos he] at h
  cases h
  unfold E8 at ht ⊢
  rw [A1Z, Bool.and_eq_true, Bool.and_eq_true, decide_eq_true_eq, decide_eq_true_eq] at ht
  have h2 : ks.length = 2 := by
   have : U7 tk = 2 := by rw [he]; rcases hk with rfl | rfl <;> rfl
   omega
  match ks, h2, ht.2 with
  | [x, y], _, hL =>
   simp only [T3, Bool.and_eq_true] at hL
   exact ⟨A3D _ 2 1 (by omega) hL.1, A3D _ 2 1 (by omega) hL.2.1⟩
 ·rw [if_neg he] at h
  by_cases h1 : tk = 1
  ·rw [if_pos h1] at h
   cases h
   exact ⟨by decide, by decide⟩
  ·rw [if_neg h1] at h; cases h
theorem B2G {l : List Ty} {i : Nat} (h : i < l.length) : l.getD i B2 ∈ l := by
 rw [List.getD_eq_getElem?_getD, List.getElem?_eq_getElem h, Option.getD_some]; exact List.getElem_mem h
theorem B2H {cx : Cx} {k : Int} {nm : ByteArray} {ty : Ty} {h w : List Ty} {t : Ty} (hcx : ∀ b ∈ cx, E8 b.2 = true) (hh : ∀ a ∈ h, E8 a = true) (hd : E8 (h.getD 0 B2) = true ∨ h = []) (hty : k = 13 → E8 ty = true) (hn : D7 k = (h.length : Int)) (hw : L7 cx k nm ty h = some (w, t)) (h510 : k ≠ 5 ∧ k ≠ 10) : E8 t = true := by
 have hg : ∀ i, i < h.length → E8 (h.getD i B2) = true := fun i hi => hh _ (B2G hi)
 unfold L7 at hw
 split at hw
 ·split at hw
  ·rename_i u hu; cases hw; exact A56 hcx hu
  ·cases hw
 split at hw
 ·cases hw; decide
 split at hw
 ·cases hw; decide
 split at hw
 ·exact absurd (by assumption) h510.1
 split at hw
 ·rename_i hk6
  have hl : h.length = 2 := by have : D7 k = 2 := (by rw [hk6]; rfl); omega
  split at hw
  ·rename_i a b hm
   split at hw
   ·cases hw; exact (A8w (.inl rfl) (hg 0 (by omega)) hm).2
   ·cases hw
  ·cases hw
 split at hw
 ·split at hw
  ·cases hw; split <;> decide
  ·cases hw
 split at hw
 ·rename_i hk9
  have hl : h.length = 3 := by have : D7 k = 3 := (by rw [hk9]; rfl); omega
  split at hw
  ·rename_i hc
   cases hw
   exact A55 _ _ 1 hc.2 (hg 1 (by omega)) (hg 2 (by omega))
  ·cases hw
 split at hw
 ·exact absurd (by assumption) h510.2
 split at hw
 ·split at hw
  ·cases hw; exact hty (by assumption)
  ·cases hw
 ·split at hw
  ·rename_i a b hm
   have hl : h.length ≠ 0 := by
    intro h0
    rw [List.length_eq_zero_iff] at h0
    subst h0
    rw [show Q5 5 (([] : List Ty).getD 0 B2) = none from rfl] at hm
    cases hm
   cases hw
   have := A8w (.inr rfl) (hg 0 (by omega)) hm
   split
   ·exact this.2
   ·exact this.1
  ·cases hw
def Z4 (cx : Cx) : Prop := ∀ b ∈ cx, E8 b.2 = true
theorem A2Z : Z4 [] := by intro b hb; simp at hb
theorem A3E {cx : Cx} {k : Int} {nm : ByteArray} {ty : Ty} (h : Z4 cx) (ht : k = 5 → E8 ty = true) : Z4 (O2 cx k nm ty) := by
 unfold O2
 split
 ·intro b hb
  rcases List.mem_append.1 hb with hb | hb
  ·exact h b hb
  ·obtain rfl := List.mem_singleton.1 hb; exact ht (by assumption)
 ·exact h
theorem B2I {cx : Cx} {k : Int} {nm : ByteArray} {ty : Ty} {h : List Ty} (hcx : Z4 cx) (hh : ∀ a ∈ h, E8 a = true) (hty : k = 13 → E8 ty = true) (hn : D7 k = (h.length : Int)) :
  (∀ w t, X9 cx k nm ty h = some (w, t) → W4 cx k nm ty h = some t ∧ E8 t = true) ∧ (X9 cx k nm ty h = none → W4 cx k nm ty h = none) := by
 unfold X9 W4
 have hv := fun w t (e : L7 cx k nm ty h = some (w, t)) (h5 : k ≠ 5 ∧ k ≠ 10) => B2H hcx hh (by cases h with | nil => exact .inr rfl | cons x xs => exact .inl (hh _ (by simp))) hty hn e h5
 cases hw : L7 cx k nm ty h with
 | none => simp
 | some p =>
  obtain ⟨w, t⟩ := p
  have hv := hv w t hw
  simp only
  by_cases h5 : k = 5 ∨ k = 10
  ·cases ht : E8 t with
   | true => simp [ht]
   | false => simp [h5]
  ·have := hv (by omega)
   simp [this]
theorem A8x (ks : List Tm) (ih : ∀ t ∈ ks, ∀ d cx l, M9 12 14 t d = true → Z4 cx → (∀ u a l', M6 cx t l = some (u, a, l') → P7 cx t = some a ∧ E8 a = true) ∧ (M6 cx t l = none → P7 cx t = none)) :
  ∀ d cx l, N7 12 14 ks d = true → Z4 cx → (∀ us h l', L8 cx ks l = some (us, h, l') → V7 cx ks = some h ∧ (∀ a ∈ h, E8 a = true) ∧ h.length = ks.length ∧ us.length = ks.length) ∧ (L8 cx ks l = none → V7 cx ks = none) := by
 induction ks with
 | nil =>
  intro d cx l _ _
  refine ⟨fun us h l' he => ?_, fun he => by simp [L8] at he⟩
  simp only [L8, Option.some.injEq, Prod.mk.injEq] at he
  obtain ⟨rfl, rfl, _⟩ := he
  exact ⟨by rw [V7], by simp, rfl, rfl⟩
 | cons t ts ihl =>
  intro d cx l hs hcx
  rw [N7, Bool.and_eq_true] at hs
  obtain ⟨a1, a2⟩ := ih t List.mem_cons_self d cx l hs.1 hcx
  rw [L8, V7]
  cases he : M6 cx t l with
  | none => rw [a2 he]; exact ⟨fun _ _ _ h => by simp at h, fun _ => rfl⟩
  | some p =>
   obtain ⟨u, a, l1⟩ := p
   obtain ⟨b1, b2⟩ := a1 u a l1 he
   rw [b1]
   obtain ⟨c1, c2⟩ := ihl (fun x hx => ih x (List.mem_cons_of_mem _ hx)) d cx l1 hs.2 hcx
   simp only
   cases hL : L8 cx ts l1 with
   | none => rw [c2 hL]; exact ⟨fun _ _ _ h => by simp at h, fun _ => rfl⟩
   | some q =>
    obtain ⟨us, h, l2⟩ := q
    obtain ⟨d1, d2, d3, d4⟩ := c1 us h l2 hL
    rw [d1]
    refine ⟨fun us' h' l' e => ?_, fun e => by simp at e⟩
    simp only [Option.some.injEq, Prod.mk.injEq] at e
    obtain ⟨rfl, rfl, _⟩ := e
    refine ⟨rfl, fun x hx => ?_, by simp [d3], by simp [d4]⟩
    rcases List.mem_cons.1 hx with rfl | hx
    ·exact b2
    ·exact d2 x hx
theorem A20 : ∀ (t : Tm) (d : Int) (cx : Cx) (l : Int), M9 12 14 t d = true → Z4 cx → (∀ u a l', M6 cx t l = some (u, a, l') → P7 cx t = some a ∧ E8 a = true) ∧ (M6 cx t l = none → P7 cx t = none) := by
 refine Tm.ind fun k nm num ty fr lb ks ih d cx l hs hcx => ?_
 obtain ⟨_, _, h3, h4⟩ := A0t hs
 obtain ⟨n1, _, _, _, _, n6, _⟩ := T8.1 h3
 obtain ⟨L1, L2⟩ := A8x ks ih (d + 1) (O2 cx k nm ty) l h4 (A3E hcx fun hk => n6 (by omega))
 rw [M6, P7]
 cases hL : L8 (O2 cx k nm ty) ks l with
 | none => rw [L2 hL]; exact ⟨fun _ _ _ h => by simp at h, fun _ => rfl⟩
 | some q =>
  obtain ⟨us, h, l2⟩ := q
  obtain ⟨d1, d2, d3, d4⟩ := L1 us h l2 hL
  rw [d1]
  obtain ⟨e1, e2⟩ := B2I (k := k) (nm := nm) (ty := ty) hcx d2 (fun hk => n6 (.inr (.inl hk))) (by rw [d3]; exact n1)
  simp only [Q1]
  cases hN : X9 cx k nm ty h with
  | none => rw [e2 hN]; exact ⟨fun _ _ _ h => by simp at h, fun _ => rfl⟩
  | some p =>
   obtain ⟨w, t⟩ := p
   obtain ⟨f1, f2⟩ := e1 w t hN
   rw [f1]
   refine ⟨fun u a l' e => ?_, fun e => by simp at e⟩
   simp only [Option.some.injEq, Prod.mk.injEq] at e
   obtain ⟨_, rfl, _⟩ := e
   exact ⟨rfl, f2⟩
theorem B2J {cx : Cx} {k : Int} {nm : ByteArray} {num : Int} {ty fr : Ty} {lb : Int} {ks : List Tm} {T : Ty} {us w : List Ty} (hu : Y0 (O2 cx k nm ty) ks = some us) (hk : k ≠ 14) (hv : E8 T = true) (hw : L7 cx k nm ty us = some (w, T)) (hs : A3u w us = true) : A0N cx (.mk k nm num ty fr lb ks) = some T := by
 rw [A0N, hu]
 simp only [if_neg hk]
 unfold X9
 rw [hw]
 simp only [hv, if_true, hs]
theorem B2K {cx : Cx} {a : Tm} {us : List Ty} (h : Y0 cx [a] = some us) : ∃ x, A0N cx a = some x ∧ us = [x] := by
 rw [Y0] at h
 split at h
 ·cases h
 ·rename_i x hx
  rw [Y0] at h
  simp only [Option.some.injEq] at h
  exact ⟨x, hx, h.symm⟩
theorem B2L {cx : Cx} {a : Tm} {x : Ty} (h : A0N cx a = some x) : Y0 cx [a] = some [x] := by rw [Y0, h]; rfl
mutual
theorem A2y : ∀ a : Ty, K2 a a = true
 | .mk k ks => by rw [S2, A8y ks]; simp
theorem A8y : ∀ xs : List Ty, N6 xs xs = true
 | [] => rfl
 | a :: xs => by rw [N6, A2y a, A8y xs]; rfl
end
mutual
theorem A8z : ∀ a : Ty, U1 a a = a
 | .mk k ks => by
  rw [A02, A8A ks]
  by_cases h : k = 1
  ·rw [if_pos h]
  ·rw [if_neg h, if_neg h]
theorem A8A : ∀ xs : List Ty, S4 xs xs = xs
 | [] => rfl
 | a :: xs => by rw [S4, A8z a, A8A xs]
end
theorem A4x {k : Int} {ks : List Ty} (hk : k = 4 ∨ k = 5) (h : E8 (.mk k ks) = true) : ∃ a b, ks = [a, b] ∧ E8 a = true ∧ E8 b = true := by
 unfold E8 at h ⊢
 rw [A1Z, Bool.and_eq_true, Bool.and_eq_true, decide_eq_true_eq, decide_eq_true_eq] at h
 have h2 : ks.length = 2 := by
  have : U7 k = 2 := by rcases hk with rfl | rfl <;> rfl
  omega
 match ks, h2, h.2 with
 | [x, y], _, hL =>
  simp only [T3, Bool.and_eq_true] at hL
  exact ⟨x, y, rfl, A3D _ 2 1 (by omega) hL.1, A3D _ 2 1 (by omega) hL.2.1⟩
theorem B2M {k : Int} {ks : List Ty} (h : E8 (.mk k ks) = true) (hk : k ≠ 4) (hk5 : k ≠ 5) : (k = 1 ∨ k = 2 ∨ k = 3) ∧ ks = [] := by
 unfold E8 at h
 rw [A1Z, Bool.and_eq_true, Bool.and_eq_true, decide_eq_true_eq, decide_eq_true_eq] at h
 obtain ⟨h1, h2, h3⟩ := M8 k
 have hl := h.1.2
 have hk3 : k = 1 ∨ k = 2 ∨ k = 3 := by
  apply Classical.byContradiction
  intro hc
  rw [h3 (by omega) (by omega) (by omega) hk hk5] at hl; omega
 rw [h1 hk3] at hl
 exact ⟨hk3, List.length_eq_zero_iff.1 (by omega)⟩
section inv
variable {cx : Cx} {nm : ByteArray} {num : Int} {ty fr : Ty} {lb : Int} {a b c : Tm} {T : Ty}
theorem A8B : ∀ xs : List Ty, A3u xs xs = true
 | [] => rfl
 | a :: xs => by rw [A3u, A5E, A8B xs]; rfl
theorem B2N (h : A0N cx a = some fr) : A0N cx (.mk 14 nm num ty fr lb [a]) = some ty := by
 rw [A0N, show O2 cx 14 nm ty = cx from rfl, B2L h]
 simp only [if_true, List.getD_cons_zero, A5E]
end inv
theorem B2O (cx : Cx) (x nm : ByteArray) (t : Ty) : A0c (cx ++ [(x, t)]) nm = if x = nm then some t else A0c cx nm := by
 unfold A0c
 rw [List.length_append, show ([(x, t)] : Cx).length = 1 from rfl]
 have hl : (cx ++ [(x, t)])[cx.length]? = some (x, t) := by rw [List.getElem?_append_right (Nat.le_refl _)]; simp
 by_cases h : x = nm
 ·rw [A5F hl h, if_pos h]
 ·rw [A5G hl h, if_neg h]
  have : ∀ n, n ≤ cx.length → W9 (cx ++ [(x, t)]) nm n = W9 cx nm n := by
   intro n
   induction n with
   | zero => intro _; rfl
   | succ n ih =>
    intro hn
    rw [W9, W9, List.getElem?_append_left (by omega), ih (by omega)]
  exact this _ (Nat.le_refl _)
theorem A3F {cx : Cx} : ∀ {ks : List Tm} {i : Nat} (hi : i < ks.length) {l l' l2 : Int} {us : List Tm} {h : List Ty} {u : Tm} {a : Ty}, L8 cx (ks.take i) l = some (us, h, l') → M6 cx ks[i] l' = some (u, a, l2) → L8 cx (ks.take (i + 1)) l = some (us ++ [u], h ++ [a], l2)
 | [], i, hi, _, _, _, _, _, _, _, _, _ => by simp at hi
 | t :: ts, 0, _, l, l', l2, us, h, u, a, h1, h2 => by
  simp only [List.take_zero, L8, Option.some.injEq, Prod.mk.injEq] at h1
  obtain ⟨rfl, rfl, rfl⟩ := h1
  simp only [List.getElem_cons_zero] at h2
  simp [L8, h2]
 | t :: ts, i + 1, hi, l, l', l2, us, h, u, a, h1, h2 => by
  simp only [List.take_succ_cons, L8] at h1 ⊢
  split at h1
  ·cases h1
  ·rename_i u1 a1 l1 he
   split at h1
   ·cases h1
   ·rename_i us1 h1' l1' hL
    simp only [Option.some.injEq, Prod.mk.injEq] at h1
    obtain ⟨rfl, rfl, rfl⟩ := h1
    simp only [List.getElem_cons_succ] at h2
    have := A3F (ks := ts) (i := i) (by simpa using hi) hL h2
    simp only [this, List.cons_append]
theorem A57 {cx : Cx} : ∀ {ks : List Tm} {i : Nat} (hi : i < ks.length) {l l' : Int} {us : List Tm} {h : List Ty}, L8 cx (ks.take i) l = some (us, h, l') → M6 cx ks[i] l' = none → L8 cx ks l = none
 | [], i, hi, _, _, _, _, _, _ => by simp at hi
 | t :: ts, 0, _, l, l', us, h, h1, h2 => by
  simp only [List.take_zero, L8, Option.some.injEq, Prod.mk.injEq] at h1
  obtain ⟨rfl, rfl, rfl⟩ := h1
  simp only [List.getElem_cons_zero] at h2
  simp [L8, h2]
 | t :: ts, i + 1, hi, l, l', us, h, h1, h2 => by
  simp only [List.take_succ_cons, L8] at h1 ⊢
  split at h1
  ·cases h1
  ·rename_i u1 a1 l1 he
   split at h1
   ·cases h1
   ·rename_i us1 h1' l1' hL
    simp only [Option.some.injEq, Prod.mk.injEq] at h1
    obtain ⟨rfl, rfl, rfl⟩ := h1
    simp only [List.getElem_cons_succ] at h2
    have := A57 (ks := ts) (i := i) (by simpa using hi) hL h2
    simp only [this]
theorem V1 (us : List Tm) (h : List Ty) (l : Int) : F4 us h [] l = (us, l) := by
 cases us with
 | nil => rfl
 | cons u us => cases h <;> rfl
theorem A3G : ∀ (us : List Tm) (h w : List Ty) (l : Int) (j : Nat) (hj : j < w.length) (hu : w.length ≤ us.length) (hh : w.length ≤ h.length),
  (F4 us h (w.take j) l).1.length = us.length ∧ (∀ (hq : j < (F4 us h (w.take j) l).1.length), (F4 us h (w.take j) l).1[j] = us[j]'(by omega)) ∧
  F4 us h (w.take (j + 1)) l = if M5 (h[j]'(by omega)) w[j] = true then F4 us h (w.take j) l else ((F4 us h (w.take j) l).1.set j (L4 (us[j]'(by omega)) (h[j]'(by omega)) w[j] ((F4 us h (w.take j) l).2 + 1)), (F4 us h (w.take j) l).2 + 1)
 | us, h, [], l, j, hj, _, _ => by simp at hj
 | [], h, b :: w, l, j, _, hu, _ => by simp at hu
 | u :: us, [], b :: w, l, j, _, _, hh => by simp at hh
 | u :: us, a :: h, b :: w, l, 0, _, _, _ => by
  refine ⟨by simp [F4], by simp [F4], ?_⟩
  simp only [List.take_succ_cons, List.take_zero, F4, V1, List.getElem_cons_zero, List.set_cons_zero]
 | u :: us, a :: h, b :: w, l, j + 1, hj, hu, hh => by
  simp only [List.take_succ_cons, List.getElem_cons_succ]
  by_cases hs : M5 a b = true
  ·have ih := A3G us h w l j (by simpa using hj) (by simpa using hu) (by simpa using hh)
   simp only [F4, if_pos hs]
   obtain ⟨i1, i2, i3⟩ := ih
   refine ⟨by simp [i1], fun hq => by simp [i2], ?_⟩
   rw [i3]
   split <;> simp
  ·have ih := A3G us h w (l + 1) j (by simpa using hj) (by simpa using hu) (by simpa using hh)
   simp only [F4, if_neg hs]
   obtain ⟨i1, i2, i3⟩ := ih
   refine ⟨by simp [i1], fun hq => by simp [i2], ?_⟩
   rw [i3]
   split <;> simp
theorem A1J : ∀ (us : List Tm) (h w : List Ty) (l : Int), (F4 us h w l).1.length = us.length
 | [], h, w, l => by simp [F4]
 | u :: us, [], w, l => by simp [F4]
 | u :: us, a :: h, [], l => by simp [F4]
 | u :: us, a :: h, b :: w, l => by
  simp only [F4]
  split
  ·simp [A1J us h w l]
  ·simp [A1J us h w (l + 1)]
theorem A8C {us : List Tm} {h w : List Ty} {l : Int} {j : Nat} (hj : j < w.length) (hu : w.length ≤ us.length) (hh : w.length ≤ h.length) :
  (F4 us h (w.take (j + 1)) l).1 = (F4 us h (w.take j) l).1.set j (if M5 (h[j]'(by omega)) w[j] = true then us[j]'(by omega) else L4 (us[j]'(by omega)) (h[j]'(by omega)) w[j] ((F4 us h (w.take j) l).2 + 1)) ∧
  (F4 us h (w.take (j + 1)) l).2 = (if M5 (h[j]'(by omega)) w[j] = true then (F4 us h (w.take j) l).2 else (F4 us h (w.take j) l).2 + 1) := by
 obtain ⟨h1, h2, h3⟩ := A3G us h w l j hj hu hh
 by_cases hs : M5 (h[j]'(by omega)) w[j] = true
 ·rw [h3, if_pos hs, if_pos hs, if_pos hs]
  refine ⟨?_, rfl⟩
  rw [← h2 (by omega), List.set_getElem_self]
 ·rw [h3, if_neg hs, if_neg hs, if_neg hs]
  exact ⟨rfl, rfl⟩
theorem A1g : ∀ (us : List Tm) (h w : List Ty) (l : Int), l ≤ (F4 us h w l).2 ∧ (F4 us h w l).2 ≤ l + us.length
 | [], h, w, l => by simp [F4]
 | u :: us, [], w, l => by simp [F4]; omega
 | u :: us, a :: h, [], l => by simp [F4]; omega
 | u :: us, a :: h, b :: w, l => by
  simp only [F4]
  split
  ·have := A1g us h w l; simp only [List.length_cons]; omega
  ·have := A1g us h w (l + 1); simp only [List.length_cons]; omega
mutual
def P5 : Ty → Ty → Bool
 | .mk k ks, t => decide (t.k = 1) || (decide (k = t.k) && V9 ks t.ks)
def V9 : List Ty → List Ty → Bool
 | [], [] => true
 | a :: xs, b :: ys => P5 a b && V9 xs ys
 | _, _ => false
end
theorem A0f (k k' : Int) (ks ks' : List Ty) : P5 (.mk k ks) (.mk k' ks') = (decide (k' = 1) || (decide (k = k') && V9 ks ks')) := by rw [P5]; rfl
theorem A4y : ∀ (xs ys : List Ty), V9 xs ys = true ↔ xs.length = ys.length ∧ ∀ i, (h : i < xs.length) → (h' : i < ys.length) → P5 xs[i] ys[i] = true
 | [], [] => by simp [V9]
 | [], b :: ys => by simp [V9]
 | a :: xs, [] => by simp [V9]
 | a :: xs, b :: ys => by
  simp only [V9, Bool.and_eq_true, A4y xs ys, List.length_cons]
  constructor
  ·rintro ⟨h1, h2, h3⟩
   refine ⟨by omega, fun i hi hi' => ?_⟩
   cases i with
   | zero => exact h1
   | succ i => exact h3 i (by simpa using hi) (by simpa using hi')
  ·rintro ⟨h1, h2⟩
   exact ⟨h2 0 (by simp) (by simp), by omega, fun i hi hi' => h2 (i + 1) (by simpa using hi) (by simpa using hi')⟩
mutual
def S7 : Tm → Tm → Bool
 | .mk k nm num ty _ _ ks, u => decide (k = u.k ∧ nm = u.nm ∧ num = u.num) && (decide (k ≠ 5 ∧ k ≠ 13) || P5 ty u.ty) && A0D ks u.ks
def A0D : List Tm → List Tm → Bool
 | [], [] => true
 | a :: xs, b :: ys => S7 a b && A0D xs ys
 | _, _ => false
end
theorem A4z {k k' : Int} {nm nm' : ByteArray} {num num' : Int} {ty ty' fr fr' : Ty} {lb lb' : Int} {ks ks' : List Tm} :
  S7 (.mk k nm num ty fr lb ks) (.mk k' nm' num' ty' fr' lb' ks') = true ↔ k = k' ∧ nm = nm' ∧ num = num' ∧ (k = 5 ∨ k = 13 → P5 ty ty' = true) ∧ A0D ks ks' = true := by
 rw [S7]
 show (decide (k = k' ∧ nm = nm' ∧ num = num') && (decide (k ≠ 5 ∧ k ≠ 13) || P5 ty ty') && A0D ks ks') = true ↔ _
 simp only [Bool.and_eq_true, Bool.or_eq_true, decide_eq_true_eq]
 constructor
 ·rintro ⟨⟨⟨a, b, c⟩, e⟩, d⟩
  exact ⟨a, b, c, fun h => e.resolve_left (by omega), d⟩
 ·rintro ⟨a, b, c, e, d⟩
  refine ⟨⟨⟨a, b, c⟩, ?_⟩, d⟩
  by_cases h : k = 5 ∨ k = 13
  ·exact .inr (e h)
  ·exact .inl (by omega)
theorem V5 : ∀ (xs ys : List Tm), A0D xs ys = true ↔ xs.length = ys.length ∧ ∀ i, (h : i < xs.length) → (h' : i < ys.length) → S7 xs[i] ys[i] = true
 | [], [] => by simp [A0D]
 | [], b :: ys => by simp [A0D]
 | a :: xs, [] => by simp [A0D]
 | a :: xs, b :: ys => by
  simp only [A0D, Bool.and_eq_true, V5 xs ys, List.length_cons]
  constructor
  ·rintro ⟨h1, h2, h3⟩
   refine ⟨by omega, fun i hi hi' => ?_⟩
   cases i with
   | zero => exact h1
   | succ i => exact h3 i (by simpa using hi) (by simpa using hi')
  ·rintro ⟨h1, h2⟩
   exact ⟨h2 0 (by simp) (by simp), by omega, fun i hi hi' => h2 (i + 1) (by simpa using hi) (by simpa using hi')⟩
theorem B2P {k k' : Int} {ks ks' : List Ty} (h : k' = 1) : P5 (.mk k ks) (.mk k' ks') = true := by rw [A0f, decide_eq_true h]; rfl
theorem B2Q {k k' : Int} {ks ks' : List Ty} (h' : k' ≠ 1) (hk : k ≠ k') : P5 (.mk k ks) (.mk k' ks') = false := by rw [A0f, decide_eq_false h', decide_eq_false hk]; rfl
theorem A8D {k k' : Int} {ks ks' : List Ty} (h' : k' ≠ 1) (hk : k = k') : P5 (.mk k ks) (.mk k' ks') = V9 ks ks' := by rw [A0f, decide_eq_false h', decide_eq_true hk]; rfl
theorem B2R {ks ks' : List Ty} {i : Nat} (hi : i < ks.length) (hi' : i < ks'.length) (h : P5 ks[i] ks'[i] = false) : V9 ks ks' = false := by
 cases hx : V9 ks ks' with
 | false => rfl
 | true => rw [((A4y ks ks').1 hx).2 i hi hi'] at h; cases h
theorem A8E {k k' : Int} {nm nm' : ByteArray} {num num' : Int} {ty ty' fr fr' : Ty} {lb lb' : Int} {ks ks' : List Tm} (h : ¬ (k = k' ∧ nm = nm' ∧ num = num' ∧ (k = 5 ∨ k = 13 → P5 ty ty' = true) ∧ A0D ks ks' = true)) :
  S7 (.mk k nm num ty fr lb ks) (.mk k' nm' num' ty' fr' lb' ks') = false := by
 cases hx : S7 (.mk k nm num ty fr lb ks) (.mk k' nm' num' ty' fr' lb' ks') with
 | false => rfl
 | true => exact absurd (A4z.1 hx) h
def W5 (a b : Tm) : Bool := R0 a && (R0 b && S7 a b)
theorem A8F (G : IM) (p p' : Option Addr) (n c n' c' : Nat) (es es' : List (List Value)) (hsl : D3 G p n c 9 es) (hsl' : D3 G p' n' c' 9 es') (fid : FuncId) [B4 Tryz.prog fid] (us cs : List Value) (ins : List A6) (q : Nat → Bool)
  (A : Bool) (hA : A = true ↔ n = n' ∧ ∀ i, i < n → q i = true)
  (hq : ∀ i e e', es[i]? = some e → es'[i]? = some e' → Fn Tryz.prog fid (us ++ [.agg ⟨e⟩, .agg ⟨e'⟩] ++ cs) ins G (T1 (.bool (q i)) ins G)) :
  Fn Tryz.prog 35 [.slice p n c, .slice p' n' c', .func (.func fid) ⟨us⟩ ⟨cs⟩] ins G (T1 (.bool A) ins G) := by
 have hn := hsl.le
 have hn' := hsl'.le
 refine B7 Tryz.func35 rfl Tryz.ntmps35 Tryz.results35 rfl ?_
 intro w0
 refine N5 ?_
 refine sB (M3 rfl rfl) rfl rfl (fun h13 => ?_) (fun h13 => ?_)
 refine I5 ?_
 refine H5 (outs := ins) (rT rfl) (by first | exact A0.refl | exact A0.drop (A0.drop A0.refl)) ?_
 exact ⟨rfl, by (cases A with | false => rfl | true => exact absurd (hA.1 rfl).1 (by omega)), rfl⟩
 refine I9 ?_
 refine B8 (J8 (fun i : Nat => ⟨[(17, .int .i64 i), (16, .int .i64 n), (15, .slice p n c), (2, .func (.func fid) ⟨us⟩ ⟨cs⟩), (1, .slice p' n' c'), (0, .slice p n c)], ins, G⟩) (fun i => i ≤ n ∧ ∀ j, j < i → q j = true) (fun i => n - i) 0 ?_ ?_ ?_)
 exact D8
 exact ⟨by omega, by omega⟩
 rintro i ⟨hi, hf⟩
 refine tS (tR ?_)
 refine sB (J4 rfl rfl) rfl rfl (fun h46 => ?_) (fun h46 => ?_)
 refine sD (nS (tS (qT rfl (tK (nS (tS ?_))))))
 refine B8 ?_
 refine tS (tR (sQ (qM rfl) rfl ?_))
 (obtain ⟨e, b, o, he, rfl, hl, _, hat, _⟩ := hsl.get (i := i) (by omega); refine sP (B3 rfl rfl rfl (by omega)) rfl rfl ?_)
 refine sL (A3 rfl rfl (hat _) hl) rfl rfl ?_
 refine sE (A7 rfl) rfl (fun b60 => ?_)
 refine sQ (qA rfl) rfl ?_
 refine W7 rfl rfl rfl (by assumption) (by assumption) rfl (by repeat first | exact Sw.here | apply Sw.there) (by exact D1 (by symm; assumption)) ?_
 refine sD (nS (tS (tR (sQ (qM rfl) rfl (sQ (qM rfl) rfl ?_)))))
 (obtain ⟨e', b', o', he', rfl, hl', _, hat', _⟩ := hsl'.get (i := i) (by omega); refine sP (B3 rfl rfl rfl (by omega)) rfl rfl ?_)
 refine sL (A3 rfl rfl (hat' _) hl') rfl rfl ?_
 refine sE (A7 rfl) rfl (fun b71 => ?_)
 refine W7 rfl rfl rfl (by assumption) (by assumption) rfl (by repeat first | exact Sw.here | apply Sw.there) (by exact D1 (by symm; assumption)) ?_
 refine sD (nS (tS (tR (sQ (qM rfl) rfl ?_))))
 refine sL (A3 rfl rfl (B1 (by repeat first | exact mH | apply mT)) (by assumption)) rfl rfl ?_
 refine sL (A3 rfl rfl (B1 (by repeat first | exact mH | apply mT)) (by assumption)) rfl rfl ?_
 refine A34 rfl rfl (hq i e e' he he') A6Z rfl rfl (fun h80 => ?_) (fun h80 => ?_)
 refine D2 ?_
 refine sP (J2 rfl rfl (by omega) (by omega)) rfl rfl ?_
 refine sQ (qM rfl) rfl (sD ?_)
 refine J9 (i + 1) ?_ ?_ ?_
 exact D8
 exact ⟨by omega, fun j hj => by by_cases hji : j = i; (subst hji; assumption); exact hf j (by omega)⟩
 omega
 refine H4 ?_
 refine H5 (outs := ins) (rT rfl) (by first | exact A0.refl | exact A0.drop (A0.drop A0.refl)) ?_
 exact ⟨rfl, by (cases A with | false => rfl | true => have h0 := (hA.1 rfl).2 i (by omega); simp_all), rfl⟩
 refine H4 ?_
 refine H5 (outs := ins) (rT rfl) (by first | exact A0.refl | exact A0.drop (A0.drop A0.refl)) ?_
 exact ⟨rfl, by rw [hA.2 ⟨by omega, fun j hj => hf j (by omega)⟩], rfl⟩
theorem B2S : ∀ (t t' : Ty) (G : IM) (cells cells' : List Value), B6 G t cells → B6 G t' cells' →
  Fn Tryz.prog 93 [.agg ⟨cells⟩, .agg ⟨cells'⟩] [] G (H2 (.bool (P5 t t')) G) := by
 refine Ty.ind fun k ks ih t' G cells cells' hr hr' => ?_
 obtain ⟨k', ks'⟩ := t'
 obtain ⟨p, c, es, rfl, hk, hsl, hkl⟩ := hr.open
 obtain ⟨p', c', es', rfl, hk', hsl', hkl'⟩ := hr'.open
 simp only [Ty.k, Ty.ks] at hk hsl hkl hk' hsl' hkl' ⊢
 have hn := hsl.le
 have hn' := hsl'.le
 obtain ⟨A, hA⟩ : ∃ A, V9 ks ks' = A := ⟨_, rfl⟩
 have hA' : A = true ↔ ks.length = ks'.length ∧ ∀ i, i < ks.length → P5 (ks.getD i B2) (ks'.getD i B2) = true := by
  rw [← hA, A4y]
  constructor
  ·rintro ⟨h1, h2⟩
   refine ⟨h1, fun i hi => ?_⟩
   have := h2 i hi (by omega)
   simpa [List.getD_eq_getElem?_getD, List.getElem?_eq_getElem hi, List.getElem?_eq_getElem (show i < ks'.length by omega)] using this
  ·rintro ⟨h1, h2⟩
   refine ⟨h1, fun i hi hi' => ?_⟩
   have := h2 i hi
   simpa [List.getD_eq_getElem?_getD, List.getElem?_eq_getElem hi, List.getElem?_eq_getElem hi'] using this
 refine B7 Tryz.func93 rfl Tryz.ntmps93 Tryz.results93 rfl ?_
 intro w0
 refine tS (tR ?_)
 refine sE (C2 rfl rfl) rfl (fun b3 => ?_)
 refine sE (C2 rfl rfl) rfl (fun b4 => ?_)
 refine C4 ?_
 refine sB (qE rfl rfl) rfl rfl (fun h12 => ?_) (fun h12 => ?_)
 refine Z0 ?_
 exact ⟨rfl, by (rw [A0f, hA]; first | (rw [decide_eq_true (p := k' = 1) (by omega)]; rfl) | (rw [decide_eq_false (p := k' = 1) (by omega), decide_eq_false (p := k = k') (by omega)]; rfl) | (rw [decide_eq_false (p := k' = 1) (by omega), decide_eq_true (p := k = k') (by omega)]; simp only [*]; rfl)), rfl⟩
 refine O7 ?_
 refine sB (qE rfl rfl) rfl rfl (fun h38 => ?_) (fun h38 => ?_)
 refine O7 ?_
 refine E2 rfl (A5z _ _ _ _ _ _ _ _ _ hsl hsl' _ [] [] [] (fun i => P5 (ks.getD i B2) (ks'.getD i B2)) A hA' (fun i e e' he he' => ih _ (hkl.inv he B2).1 _ _ _ _ (hkl.inv he B2).2 (hkl'.inv he' B2).2)) rfl rfl (fun h44 => ?_) (fun h44 => ?_)
 refine C4 ?_
 exact ⟨rfl, by (rw [A0f, hA]; first | (rw [decide_eq_true (p := k' = 1) (by omega)]; rfl) | (rw [decide_eq_false (p := k' = 1) (by omega), decide_eq_false (p := k = k') (by omega)]; rfl) | (rw [decide_eq_false (p := k' = 1) (by omega), decide_eq_true (p := k = k') (by omega)]; simp only [*]; rfl)), rfl⟩
 refine C4 ?_
 exact ⟨rfl, by (rw [A0f, hA]; first | (rw [decide_eq_true (p := k' = 1) (by omega)]; rfl) | (rw [decide_eq_false (p := k' = 1) (by omega), decide_eq_false (p := k = k') (by omega)]; rfl) | (rw [decide_eq_false (p := k' = 1) (by omega), decide_eq_true (p := k = k') (by omega)]; simp only [*]; rfl)), rfl⟩
 refine I9 ?_
 exact ⟨rfl, by (rw [A0f, hA]; first | (rw [decide_eq_true (p := k' = 1) (by omega)]; rfl) | (rw [decide_eq_false (p := k' = 1) (by omega), decide_eq_false (p := k = k') (by omega)]; rfl) | (rw [decide_eq_false (p := k' = 1) (by omega), decide_eq_true (p := k = k') (by omega)]; simp only [*]; rfl)), rfl⟩
theorem A8G : ∀ (t t' : Ty) (G : IM) (cells cells' : List Value) (d d' : Int), K5 t d = true → K5 t' d' = true → B6 G t cells → B6 G t' cells' →
  Fn Tryz.prog 140 [.agg ⟨cells⟩, .agg ⟨cells'⟩] [] G (H2 (.bool (P5 t t')) G) := by
 refine Ty.ind fun k ks ih t' G cells cells' d d' hv hv' hr hr' => ?_
 obtain ⟨k', ks'⟩ := t'
 obtain ⟨p, c, es, rfl, hk, hsl, hkl⟩ := hr.open
 obtain ⟨p', c', es', rfl, hk', hsl', hkl'⟩ := hr'.open
 simp only [Ty.k, Ty.ks] at hk hsl hkl hk' hsl' hkl' ⊢
 have hn := hsl.le
 have hn' := hsl'.le
 obtain ⟨hv1, hv2⟩ := A2h hv
 obtain ⟨hv1', hv2'⟩ := A2h hv'
 have hle : k = k' → ks.length = ks'.length := by rintro rfl; omega
 refine B7 Tryz.func140 rfl Tryz.ntmps140 Tryz.results140 rfl ?_
 intro w0
 refine tS (tR ?_)
 refine sE (C2 rfl rfl) rfl (fun b3 => ?_)
 refine sE (C2 rfl rfl) rfl (fun b4 => ?_)
 refine D2 ?_
 refine sB (qE rfl rfl) rfl rfl (fun h13 => ?_) (fun h13 => ?_)
 refine J3 ?_
 (rw [B2P (by omega)]; exact ⟨rfl, rfl, rfl⟩)
 refine N5 ?_
 refine sB (M3 rfl rfl) rfl rfl (fun h38 => ?_) (fun h38 => ?_)
 refine J3 ?_
 (rw [B2Q (by omega) (by omega)]; exact ⟨rfl, rfl, rfl⟩)
 refine J3 ?_
 refine B8 ?_
 (have hll : ks.length = ks'.length := hle (by omega); refine J8 (fun (i : Nat) => ⟨[(5, .int .i64 i), (3, .pointer (some ⟨b4, 0, none⟩)), (2, .pointer (some ⟨b3, 0, none⟩))], [.blk b3 [.int .i64 k, .slice p ks.length c], .blk b4 [.int .i64 k', .slice p' ks'.length c']], G⟩) (fun i => i ≤ ks.length ∧ ∀ j (h : j < ks.length) (h' : j < ks'.length), j < i → P5 ks[j] ks'[j] = true) (fun i => ks.length - i) 0 ?_ ?_ ?_)
 exact D8
 exact ⟨by omega, by omega⟩
 (rintro i ⟨hi, hf⟩)
 refine C4 ?_
 refine sB (J4 rfl rfl) rfl rfl (fun h74 => ?_) (fun h74 => ?_)
 refine sD (nS (qT rfl (tK (nS (tS ?_)))))
 refine B8 ?_
 refine tS ?_
 (obtain ⟨b, o, p2, c2, rfl, hat, hre, hgb⟩ := hsl.kidTy hkl (i := i) (by omega) (by omega); obtain ⟨b', o', p2', c2', rfl, hat', hre', hgb'⟩ := hsl'.kidTy hkl' (i := i) (by omega) (by omega); refine D4 D5 rfl ?_)
 refine I3 (i := 0) (l' := [tt,ff,ff,ff,ff,ff,ff,ff,ff,ff,ff,ff]) rfl C8 (B0 rfl) rfl (by kernel_rfl) rfl rfl ?_
 refine aL 1 rfl (B5 rfl rfl) rfl ?_
 refine aP 2 rfl (qM rfl) rfl ?_
 refine aP 3 rfl (B3 rfl rfl rfl (by omega)) rfl ?_
 refine aL 4 rfl (A3 rfl rfl (hat _) rfl) rfl ?_
 refine aP 5 rfl (B0 rfl) rfl ?_
 refine aL 6 rfl (B5 rfl rfl) rfl ?_
 refine aP 7 rfl (qM rfl) rfl ?_
 refine aP 8 rfl (B3 rfl rfl rfl (by omega)) rfl ?_
 refine aL 9 rfl (A3 rfl rfl (hat' _) rfl) rfl ?_
 refine A4 10 ?_
 refine R7 rfl rfl (ih ks[i] (List.getElem_mem (by omega)) ks'[i] G _ _ _ _ (hv2 i (by omega)) (hv2' i (by omega)) hre hre') rfl rfl rfl (fun h95 => ?_) (fun h95 => ?_)
 refine aP 11 rfl (V8 rfl) rfl ?_
 refine D2 ?_
 refine sP (J2 rfl rfl (by omega) (by omega)) rfl rfl ?_
 refine sQ (qA rfl) rfl (sD ?_)
 refine J9 (i + 1) ?_ ?_ ?_
 exact D8
 exact ⟨by omega, fun j hj hj' hji => by (by_cases he : j = i; (subst he; assumption); exact hf j hj hj' (by omega))⟩
 omega
 refine aP 11 rfl (Z7 rfl) rfl ?_
 refine H4 ?_
 (rw [A8D (by omega) (by omega), B2R (i := i) (by omega) (by omega) (by assumption)]; exact ⟨rfl, rfl, rfl⟩)
 refine H4 ?_
 (rw [A8D (by omega) (by omega), (A4y ks _).2 ⟨hll, fun j hj hj' => hf j hj hj' (by omega)⟩]; exact ⟨rfl, rfl, rfl⟩)
theorem A10 : ∀ (t : Ty), E8 t = true → ∃ a : GT, t = a.ty
 | .mk k ks, h => by
  by_cases h4 : k = 4
  ·obtain ⟨x, y, hxy, hx, hy⟩ := A4x (.inl h4) h
   have : SizeOf.sizeOf x < SizeOf.sizeOf ks ∧ SizeOf.sizeOf y < SizeOf.sizeOf ks := by subst hxy; simp; omega
   obtain ⟨a, ha⟩ := A10 x hx
   obtain ⟨b, hb⟩ := A10 y hy
   exact ⟨.fn a b, by rw [h4, hxy, ha, hb]; rfl⟩
  ·by_cases h5 : k = 5
   ·obtain ⟨x, y, hxy, hx, hy⟩ := A4x (.inr h5) h
    have : SizeOf.sizeOf x < SizeOf.sizeOf ks ∧ SizeOf.sizeOf y < SizeOf.sizeOf ks := by subst hxy; simp; omega
    obtain ⟨a, ha⟩ := A10 x hx
    obtain ⟨b, hb⟩ := A10 y hy
    exact ⟨.pr a b, by rw [h5, hxy, ha, hb]; rfl⟩
   ·obtain ⟨h1, rfl⟩ := B2M h h4 h5
    rcases h1 with rfl | rfl | rfl
    ·exact ⟨.any, rfl⟩
    ·exact ⟨.int, rfl⟩
    ·exact ⟨.bool, rfl⟩
 termination_by t => SizeOf.sizeOf t
 decreasing_by all_goals (simp only [Ty.mk.sizeOf_spec]; omega)
theorem A8H : ∀ (a b : GT), P5 a.ty b.ty = true ↔ Le a b := by
 intro a
 induction a with
 | any => intro b; cases b <;> simp [GT.ty, A0f, V9] <;> first | exact .any | (intro h; cases h)
 | int => intro b; cases b <;> simp [GT.ty, A0f, V9] <;> first | exact .any | exact .int | (intro h; cases h)
 | bool => intro b; cases b <;> simp [GT.ty, A0f, V9] <;> first | exact .any | exact .bool | (intro h; cases h)
 | fn x y i j =>
  intro b
  cases b with
  | fn z w => simp only [GT.ty, A0f, V9, i, j, Bool.or_eq_true, Bool.and_eq_true, decide_eq_true_eq, Bool.and_true, true_and]; exact ⟨fun h => by rcases h with h | h; exact absurd h (by decide); exact .fn h.1 h.2, fun h => by cases h with | fn a b => exact .inr ⟨a, b⟩⟩
  | any => simp [GT.ty, A0f, V9]; exact .any
  | _ => simp [GT.ty, A0f, V9]; intro h; cases h
 | pr x y i j =>
  intro b
  cases b with
  | pr z w => simp only [GT.ty, A0f, V9, i, j, Bool.or_eq_true, Bool.and_eq_true, decide_eq_true_eq, Bool.and_true, true_and]; exact ⟨fun h => by rcases h with h | h; exact absurd h (by decide); exact .pr h.1 h.2, fun h => by cases h with | pr a b => exact .inr ⟨a, b⟩⟩
  | any => simp [GT.ty, A0f, V9]; exact .any
  | _ => simp [GT.ty, A0f, V9]; intro h; cases h
theorem A0O : ∀ (a b : GT), K2 a.ty b.ty = true ↔ Co a b := by
 intro a
 induction a with
 | any => intro b; cases b <;> simp [GT.ty, S2, N6] <;> exact .l
 | int => intro b; cases b <;> simp [GT.ty, S2, N6] <;> first | exact .r | exact .int | (intro h; cases h)
 | bool => intro b; cases b <;> simp [GT.ty, S2, N6] <;> first | exact .r | exact .bool | (intro h; cases h)
 | fn x y i j =>
  intro b
  cases b with
  | fn z w => simp only [GT.ty, S2, N6, i, j, Bool.or_eq_true, Bool.and_eq_true, decide_eq_true_eq, Bool.and_true, true_and]; exact ⟨fun h => by rcases h with h | h; exact absurd h (by decide); exact .fn h.1 h.2, fun h => by cases h with | fn a b => exact .inr ⟨a, b⟩⟩
  | any => simp [GT.ty, S2, N6]; exact .r
  | _ => simp [GT.ty, S2, N6]; intro h; cases h
 | pr x y i j =>
  intro b
  cases b with
  | pr z w => simp only [GT.ty, S2, N6, i, j, Bool.or_eq_true, Bool.and_eq_true, decide_eq_true_eq, Bool.and_true, true_and]; exact ⟨fun h => by rcases h with h | h; exact absurd h (by decide); exact .pr h.1 h.2, fun h => by cases h with | pr a b => exact .inr ⟨a, b⟩⟩
  | any => simp [GT.ty, S2, N6]; exact .r
  | _ => simp [GT.ty, S2, N6]; intro h; cases h
def R2 : GT → GT → GT
 | .any, b => b
 | .fn a b, .fn c d => .fn (R2 a c) (R2 b d)
 | .pr a b, .pr c d => .pr (R2 a c) (R2 b d)
 | a, _ => a
theorem A21 (a : GT) : R2 a .any = a := by cases a <;> rfl
theorem A8I {a b : GT} (h : Co a b) : U1 a.ty b.ty = (R2 a b).ty := by
 induction h with
 | l => simp [GT.ty, U1, R2]
 | @r a => rw [A21]; cases a <;> simp [GT.ty, A02]
 | int => simp [GT.ty, A02, S4, R2]
 | bool => simp [GT.ty, A02, S4, R2]
 | fn _ _ i j => simp [GT.ty, A02, S4, R2, i, j]
 | pr _ _ i j => simp [GT.ty, A02, S4, R2, i, j]
theorem A4A {a b : GT} (h : Co a b) : Le (R2 a b) a := by
 induction h with
 | l => exact .any
 | r => rw [A21]; exact Le.refl
 | int => exact .int
 | bool => exact .bool
 | fn _ _ i j => exact .fn i j
 | pr _ _ i j => exact .pr i j
theorem A4B {a b : GT} (h : Co a b) : Le (R2 a b) b := by
 induction h with
 | l => exact Le.refl
 | r => exact .any
 | int => exact .int
 | bool => exact .bool
 | fn _ _ i j => exact .fn i j
 | pr _ _ i j => exact .pr i j
theorem B2T {a b : GT} (h : Co a b) : ∀ {a' b' : GT}, Le a a' → Le b b' → Le (R2 a b) (R2 a' b') := by
 induction h with
 | l => intro a' b' h1 h2; cases h1; exact h2
 | r => intro a' b' h1 h2; cases h2; rw [A21, A21]; exact h1
 | int => intro a' b' h1 h2; cases h1 <;> cases h2 <;> first | exact .int | exact .any
 | bool => intro a' b' h1 h2; cases h1 <;> cases h2 <;> first | exact .bool | exact .any
 | fn c d i j =>
  intro a' b' h1 h2
  cases h1 with
  | any => exact (A4B (.fn c d)).trans h2
  | fn p q => cases h2 with
   | any => rw [A21]; exact (A4A (.fn c d)).trans (.fn p q)
   | fn r s => exact .fn (i p r) (j q s)
 | pr c d i j =>
  intro a' b' h1 h2
  cases h1 with
  | any => exact (A4B (.pr c d)).trans h2
  | pr p q => cases h2 with
   | any => rw [A21]; exact (A4A (.pr c d)).trans (.pr p q)
   | pr r s => exact .pr (i p r) (j q s)
theorem B2U {a b : GT} (h : Le a b) : ∀ (d : Int), K5 a.ty d = true → K5 b.ty d = true := by
 induction h with
 | @any a => intro d h; cases a <;> (simp only [GT.ty, A1Z, Bool.and_eq_true, decide_eq_true_eq] at h ⊢; exact ⟨⟨h.1.1, rfl⟩, by rw [T3]⟩)
 | int => exact fun _ h => h
 | bool => exact fun _ h => h
 | fn _ _ i j =>
  intro d h
  simp only [GT.ty, A1Z, T3, Bool.and_eq_true, decide_eq_true_eq] at h ⊢
  exact ⟨⟨h.1.1, rfl⟩, i _ h.2.1, j _ h.2.2.1, trivial⟩
 | pr _ _ i j =>
  intro d h
  simp only [GT.ty, A1Z, T3, Bool.and_eq_true, decide_eq_true_eq] at h ⊢
  exact ⟨⟨h.1.1, rfl⟩, i _ h.2.1, j _ h.2.2.1, trivial⟩
theorem A2z {a b : GT} (h : Le a b) (hv : E8 a.ty = true) : E8 b.ty = true := B2U h 1 hv
def gmF : GT → Option (GT × GT)
 | .fn a b => some (a, b)
 | .any => some (.any, .any)
 | _ => none
def gmP : GT → Option (GT × GT)
 | .pr a b => some (a, b)
 | .any => some (.any, .any)
 | _ => none
theorem A8J (a : GT) : Q5 4 a.ty = (gmF a).map fun p => (p.1.ty, p.2.ty) := by cases a <;> rfl
theorem A8K (a : GT) : Q5 5 a.ty = (gmP a).map fun p => (p.1.ty, p.2.ty) := by cases a <;> rfl
theorem B2V {a b p q : GT} (h : Le a b) (hm : gmF a = some (p, q)) : Co a (.fn p q) ∧ ∃ p' q', gmF b = some (p', q') ∧ Le p p' ∧ Le q q' ∧ Co b (.fn p' q') := by
 cases h with
 | any =>
  refine ⟨?_, .any, .any, rfl, .any, .any, .l⟩
  cases a with
  | fn _ _ => cases hm; exact Co.refl
  | any => exact .l
  | _ => cases hm
 | fn h1 h2 => cases hm; exact ⟨Co.refl, _, _, rfl, h1, h2, Co.refl⟩
 | _ => cases hm
theorem B2W {a b p q : GT} (h : Le a b) (hm : gmP a = some (p, q)) : Co a (.pr p q) ∧ ∃ p' q', gmP b = some (p', q') ∧ Le p p' ∧ Le q q' ∧ Co b (.pr p' q') := by
 cases h with
 | any =>
  refine ⟨?_, .any, .any, rfl, .any, .any, .l⟩
  cases a with
  | pr _ _ => cases hm; exact Co.refl
  | any => exact .l
  | _ => cases hm
 | pr h1 h2 => cases hm; exact ⟨Co.refl, _, _, rfl, h1, h2, Co.refl⟩
 | _ => cases hm
def CxR (cx cx' : Cx) (Γ : GC) : Prop := ∀ x a, A0c cx x = some a → ∃ A A', a = A.ty ∧ A0c cx' x = some A'.ty ∧ Γ x = some (A, A') ∧ Le A A'
theorem B2X : CxR [] [] N0 := by intro x a h; simp [A0c, W9] at h
theorem B2Y {cx cx' : Cx} {Γ : GC} (h : CxR cx cx' Γ) {A A' : GT} (hl : Le A A') (x : ByteArray) : CxR (cx ++ [(x, A.ty)]) (cx' ++ [(x, A'.ty)]) (gup Γ x A A') := by
 intro y a ha
 rw [B2O] at ha ⊢
 unfold gup
 by_cases hy : x = y
 ·rw [if_pos hy] at ha ⊢
  rw [if_pos hy]
  cases ha
  exact ⟨A, A', rfl, rfl, rfl, hl⟩
 ·rw [if_neg hy] at ha ⊢
  rw [if_neg hy]
  exact h y a ha
def R9 (A B : GT) (l : Int) (e : GE) : GE := if M5 A.ty B.ty = true then e else .cast A B l e
theorem A1K {Γ : GC} {e e' : GE} {A A' B B' : GT} {l l' : Int} (h : GP Γ e e' A A') (h1 : Co A B) (h2 : Co A' B') (h3 : Le B B') : GP Γ (R9 A B l e) (R9 A' B' l' e') B B' := by
 unfold R9
 by_cases hs : M5 A.ty B.ty = true
 ·rw [if_pos hs]
  obtain rfl := GT.inj ((A1d _ _).1 hs)
  by_cases ht : M5 A'.ty B'.ty = true
  ·rw [if_pos ht]
   obtain rfl := GT.inj ((A1d _ _).1 ht)
   exact h
  ·rw [if_neg ht]; exact .castR h h2 h3
 ·rw [if_neg hs]
  by_cases ht : M5 A'.ty B'.ty = true
  ·rw [if_pos ht]
   obtain rfl := GT.inj ((A1d _ _).1 ht)
   exact .castL h h1 h3
  ·rw [if_neg ht]; exact .castB h h1 h2 h3
theorem A58 (e : GE) (us : List Tm) (A B : GT) (h w : List Ty) (l : Int) : ∃ m l1, F4 (e.tm :: us) (A.ty :: h) (B.ty :: w) l = ((R9 A B m e).tm :: (F4 us h w l1).1, (F4 us h w l1).2) := by
 rw [F4]
 unfold R9
 by_cases hs : M5 A.ty B.ty = true
 ·rw [if_pos hs]; exact ⟨0, l, by rw [if_pos hs]⟩
 ·rw [if_neg hs]; exact ⟨l + 1, l + 1, by rw [if_neg hs]; rfl⟩
theorem A3H (e : GE) (A B : GT) (l : Int) : ∃ m l1, F4 [e.tm] [A.ty] [B.ty] l = ([(R9 A B m e).tm], l1) := by
 obtain ⟨m, l1, h⟩ := A58 e [] A B [] [] l
 rw [V1] at h
 exact ⟨m, l1, h⟩
theorem A3I (e f : GE) (A B C D : GT) (l : Int) : ∃ m n l1, F4 [e.tm, f.tm] [A.ty, C.ty] [B.ty, D.ty] l = ([(R9 A B m e).tm, (R9 C D n f).tm], l1) := by
 obtain ⟨m, l1, h⟩ := A58 e [f.tm] A B [C.ty] [D.ty] l
 obtain ⟨n, l2, h2⟩ := A3H f C D l1
 rw [h2] at h
 exact ⟨m, n, l2, h⟩
theorem A8L (e f g : GE) (A B C D E F : GT) (l : Int) : ∃ m n o l1, F4 [e.tm, f.tm, g.tm] [A.ty, C.ty, E.ty] [B.ty, D.ty, F.ty] l = ([(R9 A B m e).tm, (R9 C D n f).tm, (R9 E F o g).tm], l1) := by
 obtain ⟨m, l1, h⟩ := A58 e [f.tm, g.tm] A B [C.ty, E.ty] [D.ty, F.ty] l
 obtain ⟨n, o, l2, h2⟩ := A3I f g C D E F l1
 rw [h2] at h
 exact ⟨m, n, o, l2, h⟩
inductive GPL (Γ : GC) : List GE → List GE → List GT → List GT → Prop
 | nil : GPL Γ [] [] [] []
 | cons {e e' A A' es es' As As'} : GP Γ e e' A A' → GPL Γ es es' As As' → GPL Γ (e :: es) (e' :: es') (A :: As) (A' :: As')
theorem GPL.one {Γ : GC} {es es' : List GE} {As As' : List GT} (h : GPL Γ es es' As As') (hl : es.length = 1) : ∃ e e' A A', es = [e] ∧ es' = [e'] ∧ As = [A] ∧ As' = [A'] ∧ GP Γ e e' A A' := by
 cases h with
 | nil => simp at hl
 | cons h h2 => cases h2 with
  | nil => exact ⟨_, _, _, _, rfl, rfl, rfl, rfl, h⟩
  | cons _ _ => simp at hl
theorem GPL.two {Γ : GC} {es es' : List GE} {As As' : List GT} (h : GPL Γ es es' As As') (hl : es.length = 2) : ∃ e e' A A' f f' B B', es = [e, f] ∧ es' = [e', f'] ∧ As = [A, B] ∧ As' = [A', B'] ∧ GP Γ e e' A A' ∧ GP Γ f f' B B' := by
 cases h with
 | nil => simp at hl
 | cons h h2 =>
  obtain ⟨f, f', B, B', rfl, rfl, rfl, rfl, h3⟩ := h2.one (by simpa using hl)
  exact ⟨_, _, _, _, f, f', B, B', rfl, rfl, rfl, rfl, h, h3⟩
theorem GPL.three {Γ : GC} {es es' : List GE} {As As' : List GT} (h : GPL Γ es es' As As') (hl : es.length = 3) : ∃ e e' A A' f f' B B' g g' C C', es = [e, f, g] ∧ es' = [e', f', g'] ∧ As = [A, B, C] ∧ As' = [A', B', C'] ∧ GP Γ e e' A A' ∧ GP Γ f f' B B' ∧ GP Γ g g' C C' := by
 cases h with
 | nil => simp at hl
 | cons h h2 =>
  obtain ⟨f, f', B, B', g, g', C, C', rfl, rfl, rfl, rfl, h3, h4⟩ := h2.two (by simpa using hl)
  exact ⟨_, _, _, _, f, f', B, B', g, g', C, C', rfl, rfl, rfl, rfl, h, h3, h4⟩
theorem GPL.zero {Γ : GC} {es es' : List GE} {As As' : List GT} (h : GPL Γ es es' As As') (hl : es.length = 0) : es = [] ∧ es' = [] ∧ As = [] ∧ As' = [] := by
 cases h with
 | nil => exact ⟨rfl, rfl, rfl, rfl⟩
 | cons _ _ => simp at hl
theorem A1h {cx : Cx} {k : Int} {nm : ByteArray} {num : Int} {ty fr : Ty} {lb : Int} {us : List Tm} {h : List Ty} {l : Int} {u : Tm} {a : Ty} {l2 : Int} (he : Q1 cx k nm num ty fr lb us h l = some (u, a, l2)) :
  ∃ w, L7 cx k nm ty h = some (w, a) ∧ E8 a = true ∧ u = if k = 13 then (F4 us h w l).1.getD 0 I2 else .mk k nm num ty fr lb (F4 us h w l).1 := by
 unfold Q1 at he
 split at he
 ·cases he
 ·rename_i w t hn
  simp only [Option.some.injEq, Prod.mk.injEq] at he
  obtain ⟨rfl, rfl, rfl⟩ := he
  obtain ⟨h1, h2⟩ := A53 hn
  exact ⟨w, h2, h1, rfl⟩
theorem A1i {cx : Cx} {k : Int} {nm : ByteArray} {num : Int} {ty fr : Ty} {lb : Int} {us : List Tm} {h : List Ty} {l : Int} {w : List Ty} {a : Ty} (hw : L7 cx k nm ty h = some (w, a)) (hv : E8 a = true) :
  Q1 cx k nm num ty fr lb us h l = some (if k = 13 then (F4 us h w l).1.getD 0 I2 else .mk k nm num ty fr lb (F4 us h w l).1, a, (F4 us h w l).2) := by
 unfold Q1 X9
 rw [hw]
 simp only [hv, if_true]
theorem A8M {k : Int} {nm : ByteArray} {num : Int} {ty fr : Ty} {lb : Int} {ks : List Tm} {d : Int} (h : M9 12 14 (.mk k nm num ty fr lb ks) d = true) :
  D7 k = ks.length ∧ k ≠ 14 ∧ (¬(k = 1 ∨ k = 5) → nm = ⟨#[]⟩) ∧ (k ≠ 2 → num = 0) ∧ (k = 5 ∨ k = 13 → E8 ty = true) ∧ (¬(k = 5 ∨ k = 13) → ty = B2) ∧ fr = B2 ∧ lb = 0 ∧ N7 12 14 ks (d + 1) = true := by
 obtain ⟨_, h2, h3, h4⟩ := A0t h
 obtain ⟨n1, n2, n3, n4, n5, n6, n7, n8, n9⟩ := T8.1 h3
 exact ⟨n1, h2, n3, fun hk => by have := A2q.1 (n5 hk); omega, fun hk => n6 (by omega), fun hk => A1T (n7 (by omega)), A1T (n9 h2).1, (n9 h2).2, h4⟩
abbrev ElR (Γ : GC) (u : Tm) (a : Ty) (r : Option (Tm × Ty × Int)) : Prop := ∃ e A e' A' l2, u = e.tm ∧ a = A.ty ∧ r = some (e'.tm, A'.ty, l2) ∧ GP Γ e e' A A'
section
variable {cx cx' : Cx} {Γ : GC} {es es' : List GE} {As As' : List GT} {l l' : Int} {u : Tm} {a : Ty} {l2 : Int} {nm : ByteArray} {num : Int}
theorem B2Z (hc : CxR cx cx' Γ) (he : Q1 cx 1 nm 0 B2 B2 0 [] [] l = some (u, a, l2)) : ElR Γ u a (Q1 cx' 1 nm 0 B2 B2 0 [] [] l') := by
 obtain ⟨w, hw, hv, rfl⟩ := A1h he
 unfold L7 at hw
 rw [if_pos rfl] at hw
 split at hw
 ·rename_i t ht
  cases hw
  obtain ⟨A, A', rfl, h2, h3, h4⟩ := hc _ _ ht
  refine ⟨.var nm, A, .var nm, A', l', ?_, rfl, ?_, .var h3 h4⟩
  ·rw [V1, if_neg (by decide)]; rfl
  ·rw [A1i (w := []) (a := A'.ty) (by unfold L7; rw [if_pos rfl, h2]) (A2z h4 hv), V1, if_neg (by decide)]; rfl
 ·cases hw
theorem B20 (he : Q1 cx 2 ⟨#[]⟩ num B2 B2 0 [] [] l = some (u, a, l2)) : ElR Γ u a (Q1 cx' 2 ⟨#[]⟩ num B2 B2 0 [] [] l') := by
 obtain ⟨w, hw, hv, rfl⟩ := A1h he
 cases hw
 exact ⟨.num num, .int, .num num, .int, l', by rw [V1, if_neg (by decide)]; rfl, rfl, by rw [A1i (w := []) (a := R8) rfl hv, V1, if_neg (by decide)]; rfl, .num⟩
theorem B21 (b : Bool) (he : Q1 cx (if b = true then 3 else 4) ⟨#[]⟩ 0 B2 B2 0 [] [] l = some (u, a, l2)) : ElR Γ u a (Q1 cx' (if b = true then 3 else 4) ⟨#[]⟩ 0 B2 B2 0 [] [] l') := by
 obtain ⟨w, hw, hv, rfl⟩ := A1h he
 cases b <;> (cases hw; exact ⟨.tru _, .bool, .tru _, .bool, l', by rw [V1, if_neg (by decide)]; rfl, rfl, by rw [A1i (w := []) (a := W2) rfl hv, V1, if_neg (by decide)]; rfl, .tru⟩)
theorem B22 {A A' B B' : GT} {e e' : GE} (hA : Le A A') (hp : GP (gup Γ nm A A') e e' B B') (he : Q1 cx 5 nm 0 A.ty B2 0 [e.tm] [B.ty] l = some (u, a, l2)) : ElR Γ u a (Q1 cx' 5 nm 0 A'.ty B2 0 [e'.tm] [B'.ty] l') := by
 obtain ⟨w, hw, hv, rfl⟩ := A1h he
 cases hw
 exact ⟨.lam nm A e, .fn A B, .lam nm A' e', .fn A' B', l', by rw [V1, if_neg (by decide)]; rfl, rfl, by rw [A1i (w := []) (a := .mk 4 [A'.ty, B'.ty]) rfl (A2z (.fn hA hp.le) hv), V1, if_neg (by decide)]; rfl, .lam hA hp⟩
theorem B23 {A A' B B' : GT} {e e' f f' : GE} (hp : GP Γ e e' A A') (hq : GP Γ f f' B B') (he : Q1 cx 6 ⟨#[]⟩ 0 B2 B2 0 [e.tm, f.tm] [A.ty, B.ty] l = some (u, a, l2)) : ElR Γ u a (Q1 cx' 6 ⟨#[]⟩ 0 B2 B2 0 [e'.tm, f'.tm] [A'.ty, B'.ty] l') := by
 obtain ⟨w, hw, hv, rfl⟩ := A1h he
 unfold L7 at hw
 rw [if_neg (by decide), if_neg (by decide), if_neg (by decide), if_neg (by decide), if_pos rfl] at hw
 simp only [List.getD_cons_zero, List.getD_cons_succ, A8J] at hw
 cases hm : gmF A with
 | none => rw [hm] at hw; cases hw
 | some pq =>
  obtain ⟨p, q⟩ := pq
  rw [hm] at hw
  simp only [Option.map_some] at hw
  split at hw
  ·rename_i hc
   cases hw
   obtain ⟨c1, p', q', hm', h1, h2, c2⟩ := B2V hp.le hm
   have hco := (A0O _ _).1 hc
   have hco' := hco.up hq.le h1
   obtain ⟨m, n, l1, h3⟩ := A3I e f A (.fn p q) B p l
   obtain ⟨m', n', l1', h3'⟩ := A3I e' f' A' (.fn p' q') B' p' l'
   refine ⟨.app (R9 A (.fn p q) m e) (R9 B p n f), q, .app (R9 A' (.fn p' q') m' e') (R9 B' p' n' f'), q', l1', ?_, rfl, ?_, .app (A1K hp c1 c2 (.fn h1 h2)) (A1K hq hco hco' h1)⟩
   ·rw [if_neg (by decide)]
    show Tm.mk _ _ _ _ _ _ (F4 [e.tm, f.tm] [A.ty, B.ty] [(GT.fn p q).ty, p.ty] l).1 = _
    rw [h3]; rfl
   ·rw [A1i (w := [(GT.fn p' q').ty, p'.ty]) (a := q'.ty) ?_ (A2z h2 hv), if_neg (by decide), h3']
    ·rfl
    ·unfold L7
     rw [if_neg (by decide), if_neg (by decide), if_neg (by decide), if_neg (by decide), if_pos rfl]
     simp only [List.getD_cons_zero, List.getD_cons_succ, A8J, hm', Option.map_some]
     rw [if_pos ((A0O _ _).2 hco')]; rfl
  ·cases hw
theorem B24 (s : Bool) {A A' B B' : GT} {e e' f f' : GE} (hp : GP Γ e e' A A') (hq : GP Γ f f' B B') (he : Q1 cx (if s = true then 8 else 7) ⟨#[]⟩ 0 B2 B2 0 [e.tm, f.tm] [A.ty, B.ty] l = some (u, a, l2)) : ElR Γ u a (Q1 cx' (if s = true then 8 else 7) ⟨#[]⟩ 0 B2 B2 0 [e'.tm, f'.tm] [A'.ty, B'.ty] l') := by
 have hk : (if s = true then (8 : Int) else 7) = 7 ∨ (if s = true then (8 : Int) else 7) = 8 := by cases s <;> simp
 have hT : (if (if s = true then (8 : Int) else 7) = 8 then W2 else R8) = GT.ty (if s = true then .bool else .int) := by cases s <;> rfl
 obtain ⟨w, hw, hv, rfl⟩ := A1h he
 unfold L7 at hw
 rw [if_neg (by omega), if_neg (by omega), if_neg (by omega), if_neg (by omega), if_neg (by omega), if_pos hk] at hw
 simp only [List.getD_cons_zero, List.getD_cons_succ] at hw
 split at hw
 ·rename_i hc
  rw [hT] at hw
  cases hw
  have c1 := (A0O A .int).1 hc.1
  have c2 := (A0O B .int).1 hc.2
  have d1 := c1.up hp.le Le.refl
  have d2 := c2.up hq.le Le.refl
  obtain ⟨m, n, l1, h3⟩ := A3I e f A .int B .int l
  obtain ⟨m', n', l1', h3'⟩ := A3I e' f' A' .int B' .int l'
  refine ⟨.ar s (R9 A .int m e) (R9 B .int n f), _, .ar s (R9 A' .int m' e') (R9 B' .int n' f'), _, l1', ?_, rfl, ?_, .ar (A1K hp c1 d1 .int) (A1K hq c2 d2 .int)⟩
  ·rw [if_neg (by omega)]
   show Tm.mk _ _ _ _ _ _ (F4 [e.tm, f.tm] [A.ty, B.ty] [GT.int.ty, GT.int.ty] l).1 = _
   rw [h3]; rfl
  ·rw [A1i (w := [GT.int.ty, GT.int.ty]) (a := GT.ty (if s = true then .bool else .int)) ?_ hv, if_neg (by omega), h3']
   ·rfl
   ·unfold L7
    rw [if_neg (by omega), if_neg (by omega), if_neg (by omega), if_neg (by omega), if_neg (by omega), if_pos hk]
    simp only [List.getD_cons_zero, List.getD_cons_succ]
    rw [if_pos ⟨(A0O A' .int).2 d1, (A0O B' .int).2 d2⟩, hT]; rfl
 ·cases hw
theorem B25 {A A' B B' C C' : GT} {e e' f f' g g' : GE} (hp : GP Γ e e' A A') (hq : GP Γ f f' B B') (hr : GP Γ g g' C C') (he : Q1 cx 9 ⟨#[]⟩ 0 B2 B2 0 [e.tm, f.tm, g.tm] [A.ty, B.ty, C.ty] l = some (u, a, l2)) :
  ElR Γ u a (Q1 cx' 9 ⟨#[]⟩ 0 B2 B2 0 [e'.tm, f'.tm, g'.tm] [A'.ty, B'.ty, C'.ty] l') := by
 obtain ⟨w, hw, hv, rfl⟩ := A1h he
 unfold L7 at hw
 rw [if_neg (by decide), if_neg (by decide), if_neg (by decide), if_neg (by decide), if_neg (by decide), if_neg (by decide), if_pos rfl] at hw
 simp only [List.getD_cons_zero, List.getD_cons_succ] at hw
 split at hw
 ·rename_i hc
  have c1 := (A0O A .bool).1 hc.1
  have c2 := (A0O B C).1 hc.2
  have d1 := c1.up hp.le Le.refl
  have d2 := c2.up hq.le hr.le
  rw [A8I c2] at hw
  cases hw
  have hM := B2T c2 hq.le hr.le
  obtain ⟨m, n, o, l1, h3⟩ := A8L e f g A .bool B (R2 B C) C (R2 B C) l
  obtain ⟨m', n', o', l1', h3'⟩ := A8L e' f' g' A' .bool B' (R2 B' C') C' (R2 B' C') l'
  refine ⟨.ite (R9 A .bool m e) (R9 B (R2 B C) n f) (R9 C (R2 B C) o g), R2 B C, .ite (R9 A' .bool m' e') (R9 B' (R2 B' C') n' f') (R9 C' (R2 B' C') o' g'), R2 B' C', l1', ?_, rfl, ?_,
   .ite (A1K hp c1 d1 .bool) (A1K hq (A4A c2).co.symm (A4A d2).co.symm hM) (A1K hr (A4B c2).co.symm (A4B d2).co.symm hM)⟩
  ·rw [if_neg (by decide)]
   show Tm.mk _ _ _ _ _ _ (F4 [e.tm, f.tm, g.tm] [A.ty, B.ty, C.ty] [GT.bool.ty, (R2 B C).ty, (R2 B C).ty] l).1 = _
   rw [h3]; rfl
  ·rw [A1i (w := [GT.bool.ty, (R2 B' C').ty, (R2 B' C').ty]) (a := (R2 B' C').ty) ?_ (A2z hM hv), if_neg (by decide), h3']
   ·rfl
   ·unfold L7
    rw [if_neg (by decide), if_neg (by decide), if_neg (by decide), if_neg (by decide), if_neg (by decide), if_neg (by decide), if_pos rfl]
    simp only [List.getD_cons_zero, List.getD_cons_succ]
    rw [if_pos ⟨(A0O A' .bool).2 d1, (A0O B' C').2 d2⟩, A8I d2]; rfl
 ·cases hw
theorem B26 {A A' B B' : GT} {e e' f f' : GE} (hp : GP Γ e e' A A') (hq : GP Γ f f' B B') (he : Q1 cx 10 ⟨#[]⟩ 0 B2 B2 0 [e.tm, f.tm] [A.ty, B.ty] l = some (u, a, l2)) : ElR Γ u a (Q1 cx' 10 ⟨#[]⟩ 0 B2 B2 0 [e'.tm, f'.tm] [A'.ty, B'.ty] l') := by
 obtain ⟨w, hw, hv, rfl⟩ := A1h he
 cases hw
 exact ⟨.pair e f, .pr A B, .pair e' f', .pr A' B', l', by rw [V1, if_neg (by decide)]; rfl, rfl, by rw [A1i (w := []) (a := .mk 5 [A'.ty, B'.ty]) rfl (A2z (.pr hp.le hq.le) hv), V1, if_neg (by decide)]; rfl, .pair hp hq⟩
theorem B27 (s : Bool) {A A' : GT} {e e' : GE} (hp : GP Γ e e' A A') (he : Q1 cx (if s = true then 12 else 11) ⟨#[]⟩ 0 B2 B2 0 [e.tm] [A.ty] l = some (u, a, l2)) : ElR Γ u a (Q1 cx' (if s = true then 12 else 11) ⟨#[]⟩ 0 B2 B2 0 [e'.tm] [A'.ty] l') := by
 have hk : (if s = true then (12 : Int) else 11) = 11 ∨ (if s = true then (12 : Int) else 11) = 12 := by cases s <;> simp
 have hT : ∀ p q : GT, (if (if s = true then (12 : Int) else 11) = 12 then q.ty else p.ty) = GT.ty (if s = true then q else p) := by intro p q; cases s <;> rfl
 obtain ⟨w, hw, hv, rfl⟩ := A1h he
 unfold L7 at hw
 rw [if_neg (by omega), if_neg (by omega), if_neg (by omega), if_neg (by omega), if_neg (by omega), if_neg (by omega), if_neg (by omega), if_neg (by omega), if_neg (by omega)] at hw
 simp only [List.getD_cons_zero, A8K] at hw
 cases hm : gmP A with
 | none => rw [hm] at hw; cases hw
 | some pq =>
  obtain ⟨p, q⟩ := pq
  rw [hm] at hw
  simp only [Option.map_some, hT] at hw
  cases hw
  obtain ⟨c1, p', q', hm', h1, h2, c2⟩ := B2W hp.le hm
  obtain ⟨m, l1, h3⟩ := A3H e A (.pr p q) l
  obtain ⟨m', l1', h3'⟩ := A3H e' A' (.pr p' q') l'
  refine ⟨.part s (R9 A (.pr p q) m e), _, .part s (R9 A' (.pr p' q') m' e'), _, l1', ?_, rfl, ?_, .part (A1K hp c1 c2 (.pr h1 h2))⟩
  ·rw [if_neg (by omega)]
   show Tm.mk _ _ _ _ _ _ (F4 [e.tm] [A.ty] [(GT.pr p q).ty] l).1 = _
   rw [h3]; rfl
  ·rw [A1i (w := [(GT.pr p' q').ty]) (a := GT.ty (if s = true then q' else p')) ?_ (A2z (by cases s; exact h1; exact h2) hv), if_neg (by omega), h3']
   ·rfl
   ·unfold L7
    rw [if_neg (by omega), if_neg (by omega), if_neg (by omega), if_neg (by omega), if_neg (by omega), if_neg (by omega), if_neg (by omega), if_neg (by omega), if_neg (by omega)]
    simp only [List.getD_cons_zero, A8K, hm', Option.map_some, hT]; rfl
theorem B28 {A A' B B' : GT} {e e' : GE} (hB : Le B B') (hp : GP Γ e e' A A') (he : Q1 cx 13 ⟨#[]⟩ 0 B.ty B2 0 [e.tm] [A.ty] l = some (u, a, l2)) : ElR Γ u a (Q1 cx' 13 ⟨#[]⟩ 0 B'.ty B2 0 [e'.tm] [A'.ty] l') := by
 obtain ⟨w, hw, hv, rfl⟩ := A1h he
 unfold L7 at hw
 rw [if_neg (by decide), if_neg (by decide), if_neg (by decide), if_neg (by decide), if_neg (by decide), if_neg (by decide), if_neg (by decide), if_neg (by decide), if_pos rfl] at hw
 simp only [List.getD_cons_zero] at hw
 split at hw
 ·rename_i hc
  cases hw
  have c1 := (A0O A B).1 hc
  have d1 := c1.up hp.le hB
  obtain ⟨m, l1, h3⟩ := A3H e A B l
  obtain ⟨m', l1', h3'⟩ := A3H e' A' B' l'
  refine ⟨R9 A B m e, B, R9 A' B' m' e', B', l1', ?_, rfl, ?_, A1K hp c1 d1 hB⟩
  ·rw [if_pos rfl, h3]; rfl
  ·rw [A1i (w := [B'.ty]) (a := B'.ty) ?_ (A2z hB hv), if_pos rfl, h3']
   ·rfl
   ·unfold L7
    rw [if_neg (by decide), if_neg (by decide), if_neg (by decide), if_neg (by decide), if_neg (by decide), if_neg (by decide), if_neg (by decide), if_neg (by decide), if_pos rfl]
    simp only [List.getD_cons_zero]
    rw [if_pos ((A0O A' B').2 d1)]
 ·cases hw
end
theorem B29 (ks : List Tm) (ih : ∀ t ∈ ks, ∀ (t' : Tm) (d : Int) (cx cx' : Cx) (Γ : GC) (l l' : Int) (u : Tm) (a : Ty) (l2 : Int), M9 12 14 t d = true → M9 12 14 t' d = true → S7 t t' = true → CxR cx cx' Γ → M6 cx t l = some (u, a, l2) → ElR Γ u a (M6 cx' t' l')) :
  ∀ (ks' : List Tm) (d : Int) (cx cx' : Cx) (Γ : GC) (l l' : Int) (us : List Tm) (h : List Ty) (l2 : Int), N7 12 14 ks d = true → N7 12 14 ks' d = true → A0D ks ks' = true → CxR cx cx' Γ → L8 cx ks l = some (us, h, l2) →
   ∃ es As es' As' l2', us = es.map GE.tm ∧ h = As.map GT.ty ∧ L8 cx' ks' l' = some (es'.map GE.tm, As'.map GT.ty, l2') ∧ GPL Γ es es' As As' := by
 induction ks with
 | nil =>
  intro ks' d cx cx' Γ l l' us h l2 _ _ hp _ he
  cases ks' with
  | cons _ _ => cases hp
  | nil =>
   rw [L8] at he
   cases he
   exact ⟨[], [], [], [], l', rfl, rfl, by rw [L8]; rfl, .nil⟩
 | cons t ts ihl =>
  intro ks' d cx cx' Γ l l' us h l2 hs hs' hp hc he
  cases ks' with
  | nil => cases hp
  | cons t' ts' =>
   rw [N7, Bool.and_eq_true] at hs hs'
   rw [A0D, Bool.and_eq_true] at hp
   rw [L8] at he ⊢
   split at he
   ·cases he
   ·rename_i u a l1 h1
    split at he
    ·cases he
    ·rename_i us' h' l3 h2
     cases he
     obtain ⟨e, A, e', A', m, rfl, rfl, h3, h4⟩ := ih t List.mem_cons_self t' d cx cx' Γ l l' u a l1 hs.1 hs'.1 hp.1 hc h1
     obtain ⟨es, As, es', As', m2, rfl, rfl, h5, h6⟩ := ihl (fun x hx => ih x (List.mem_cons_of_mem _ hx)) ts' d cx cx' Γ l1 m us' h' l2 hs.2 hs'.2 hp.2 hc h2
     rw [h3]
     simp only [h5]
     exact ⟨e :: es, A :: As, e' :: es', A' :: As', m2, rfl, rfl, rfl, .cons h4 h6⟩
theorem A59 {cx : Cx} : ∀ {ks : List Tm} {l : Int} {us : List Tm} {h : List Ty} {l2 : Int}, L8 cx ks l = some (us, h, l2) → us.length = ks.length
 | [], _, _, _, _, h => by rw [L8] at h; cases h; rfl
 | t :: ts, _, _, _, _, h => by
  rw [L8] at h
  split at h
  ·cases h
  ·split at h
   ·cases h
   ·rename_i h2; cases h; simp [A59 h2]
theorem B3a : ∀ (t t' : Tm) (d : Int) (cx cx' : Cx) (Γ : GC) (l l' : Int) (u : Tm) (a : Ty) (l2 : Int), M9 12 14 t d = true → M9 12 14 t' d = true → S7 t t' = true → CxR cx cx' Γ → M6 cx t l = some (u, a, l2) → ElR Γ u a (M6 cx' t' l') := by
 refine Tm.ind fun k nm num ty fr lb ks ih t' d cx cx' Γ l l' u a l2 hs hs' hp hc he => ?_
 obtain ⟨k', nm', num', ty', fr', lb', ks'⟩ := t'
 obtain ⟨rfl, rfl, rfl, hty, hpk⟩ := A4z.1 hp
 obtain ⟨n1, n2, n3, n4, n5, n6, n7, n8, n9⟩ := A8M hs
 obtain ⟨m1, m2, m3, m4, m5, m6, m7, m8, m9⟩ := A8M hs'
 subst n7 n8 m7 m8
 rw [M6] at he ⊢
 split at he
 ·cases he
 ·rename_i us h l1 hL
  
  have key : ∀ Δ, CxR (O2 cx k nm ty) (O2 cx' k nm ty') Δ → ∃ es As es' As' l2', us = es.map GE.tm ∧ h = As.map GT.ty ∧ L8 (O2 cx' k nm ty') ks' l' = some (es'.map GE.tm, As'.map GT.ty, l2') ∧ GPL Δ es es' As As' :=
   fun Δ hD => B29 ks ih ks' (d + 1) _ _ Δ l l' us h l1 n9 m9 hpk hD hL
  by_cases h5 : k = 5
  ·subst h5
   obtain ⟨A, rfl⟩ := A10 ty (n5 (.inl rfl))
   obtain ⟨A', rfl⟩ := A10 ty' (m5 (.inl rfl))
   have hA := (A8H A A').1 (hty (.inl rfl))
   obtain rfl := n4 (by decide)
   obtain ⟨es, As, es', As', l3, rfl, rfl, e1, e2⟩ := key (gup Γ nm A A') (by rw [O2, O2, if_pos rfl, if_pos rfl]; exact B2Y hc hA nm)
   have hlen : es.length = 1 := by
    have h1 := A59 hL
    rw [List.length_map] at h1
    have : D7 5 = 1 := rfl
    omega
   obtain ⟨e, e', B, B', rfl, rfl, rfl, rfl, hq⟩ := e2.one hlen
   rw [e1]
   exact B22 hA hq he
  ·obtain ⟨es, As, es', As', l3, rfl, rfl, e1, e2⟩ := key Γ (by rw [O2, O2, if_neg h5, if_neg h5]; exact hc)
   have hlen : (es.length : Int) = D7 k := by
    have h1 := A59 hL
    rw [List.length_map] at h1
    omega
   rw [e1]
   have hk : 1 ≤ k ∧ k ≤ 14 := by
    apply Classical.byContradiction
    intro hk
    rw [A39 hk] at n1; omega
   by_cases h1 : k = 1
   ·subst h1
    obtain rfl := n4 (by decide)
    obtain rfl := n6 (by decide)
    obtain rfl := m6 (by decide)
    obtain ⟨rfl, rfl, rfl, rfl⟩ := e2.zero (by have : D7 1 = 0 := rfl; omega)
    exact B2Z hc he
   obtain rfl := n3 (by omega)
   by_cases h2 : k = 2
   ·subst h2
    obtain rfl := n6 (by decide)
    obtain rfl := m6 (by decide)
    obtain ⟨rfl, rfl, rfl, rfl⟩ := e2.zero (by have : D7 2 = 0 := rfl; omega)
    exact B20 he
   obtain rfl := n4 h2
   by_cases h13 : k = 13
   ·subst h13
    obtain ⟨B, rfl⟩ := A10 ty (n5 (.inr rfl))
    obtain ⟨B', rfl⟩ := A10 ty' (m5 (.inr rfl))
    obtain ⟨e, e', A, A', rfl, rfl, rfl, rfl, hq⟩ := e2.one (by have : D7 13 = 1 := rfl; omega)
    exact B28 ((A8H B B').1 (hty (.inr rfl))) hq he
   obtain rfl := n6 (by omega)
   obtain rfl := m6 (by omega)
   by_cases h34 : k = 3 ∨ k = 4
   ·obtain ⟨b, rfl⟩ : ∃ b : Bool, k = if b = true then 3 else 4 := by rcases h34 with h | h; exact ⟨true, h⟩; exact ⟨false, h⟩
    obtain ⟨rfl, rfl, rfl, rfl⟩ := e2.zero (by have : D7 (if b = true then 3 else 4) = 0 := (by cases b <;> rfl); omega)
    exact B21 b he
   by_cases h6 : k = 6
   ·subst h6
    obtain ⟨e, e', A, A', f, f', B, B', rfl, rfl, rfl, rfl, hp1, hp2⟩ := e2.two (by have : D7 6 = 2 := rfl; omega)
    exact B23 hp1 hp2 he
   by_cases h78 : k = 7 ∨ k = 8
   ·obtain ⟨b, rfl⟩ : ∃ b : Bool, k = if b = true then 8 else 7 := by rcases h78 with h | h; exact ⟨false, h⟩; exact ⟨true, h⟩
    obtain ⟨e, e', A, A', f, f', B, B', rfl, rfl, rfl, rfl, hp1, hp2⟩ := e2.two (by have : D7 (if b = true then 8 else 7) = 2 := (by cases b <;> rfl); omega)
    exact B24 b hp1 hp2 he
   by_cases h9 : k = 9
   ·subst h9
    obtain ⟨e, e', A, A', f, f', B, B', g, g', C, C', rfl, rfl, rfl, rfl, hp1, hp2, hp3⟩ := e2.three (by have : D7 9 = 3 := rfl; omega)
    exact B25 hp1 hp2 hp3 he
   by_cases h10 : k = 10
   ·subst h10
    obtain ⟨e, e', A, A', f, f', B, B', rfl, rfl, rfl, rfl, hp1, hp2⟩ := e2.two (by have : D7 10 = 2 := rfl; omega)
    exact B26 hp1 hp2 he
   have h11 : k = 11 ∨ k = 12 := by omega
   obtain ⟨b, rfl⟩ : ∃ b : Bool, k = if b = true then 12 else 11 := by rcases h11 with h | h; exact ⟨false, h⟩; exact ⟨true, h⟩
   obtain ⟨e, e', A, A', rfl, rfl, rfl, rfl, hp1⟩ := e2.one (by have : D7 (if b = true then 12 else 11) = 1 := (by cases b <;> rfl); omega)
   exact B27 b hp1 he
theorem B3b {a b u : Tm} {t : Ty} (ha : U3 a = some (u, t)) (hp : W5 a b = true) : ∃ e e' A A', u = e.tm ∧ t = A.ty ∧ U3 b = some (e'.tm, A'.ty) ∧ GP N0 e e' A A' := by
 unfold W5 at hp
 rw [Bool.and_eq_true, Bool.and_eq_true] at hp
 unfold U3 at ha ⊢
 rw [if_pos hp.1] at ha
 rw [if_pos hp.2.1]
 split at ha
 ·rename_i u' t' l' he
  cases ha
  obtain ⟨e, A, e', A', l2, rfl, rfl, h1, h2⟩ := B3a a b 1 [] [] N0 0 0 u t l' ((A0B a).1 hp.1).1 ((A0B b).1 hp.2.1).1 hp.2.2 B2X he
  rw [h1]
  exact ⟨e, e', A, A', rfl, rfl, rfl, h2⟩
 ·cases ha
variable {P : Program} {G : IM}
theorem Fn.forget {f : FuncId} {args : List Value} {v0 : Value} {post : IM → Value → List A6 → Prop} (h : Fn P f args [] G post) (hv : ∀ G' v outs, post G' v outs → v = v0) : Fn P f args [] G (H2 v0 G) := by
 refine ⟨fun w hw => (h.run w hw).mono ?_⟩
 rintro e w' ⟨u, G', outs, rfl, hres, hp⟩
 refine ⟨u, G, [], rfl, ⟨⟨fun b l hb => hres.own.inn b l (hres.le b l hb), by simp, by simp [Fp], by simp [Fp]⟩, hres.ext, B9.refl _, fun _ _ h => .inl h, by simp [Fp], fun b l h h0 => absurd h (by rw [h0]; simp)⟩, rfl, hv _ _ _ hp, rfl⟩
end Gw
end Go.Proofs.YthpdjmbpbdbodaaGreatDoor
