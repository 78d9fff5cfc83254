/-
  The calculus of casts is that of the evaluation. What a step gives is small. The program's functions on types and contexts: each computes what the plain words say. Nodes replaced: the program's put, the reference model's l16Replace. The reference model's replacing of nodes. What a node wants of its operands. The type of a term with casts. castType and CastTypeOf compute the type of a term with casts. ReplaceAt: the program's and the reference model's. Nodes at paths, in plain words: paths concatenate. Replacing a node, in plain words: what is put is found, and putting back undoes. A closed term's type is its type everywhere; a node replaced by one of its type leaves the type. Casts put into a term, in plain words. The reference's types are those of the insertion. Terms with casts: what a type says of a node. Casts put into a term: operand by operand. Precision of types and terms, on both sides. Casts put into terms of which one is more precise: the results are so, too. A function that only reads may be handed an own slice. The program's evaluator: proxies, injections, values, casts. The program's evaluator: values, casts, nodes.
-/
import Derived.Test.YtfpgncjeejickaaGreatDoorKc1
import Derived.Test.YtfpgncjeejickaaGreatDoorKc3
import Derived.Test.YtfpgncjeejickaaGreatDoorKc2
import Derived.Test.YtfpgncjeejickaaGreatDoorKc0
set_option linter.unusedVariables false
set_option linter.unusedSimpArgs false
set_option maxHeartbeats 0
set_option maxRecDepth 100000
set_option synthInstance.maxSize 4000
set_option synthInstance.maxHeartbeats 0
namespace Go.Proofs.YtfpgncjeejickaaGreatDoor
open Go Go.RowKit
namespace Gw
def GT.ty : GT → Ty
 | .any => .mk 1 []
 | .int => .mk 2 []
 | .bool => .mk 3 []
 | .fn a b => .mk 4 [a.ty, b.ty]
 | .pr a b => .mk 5 [a.ty, b.ty]
def GE.tm : GE → Tm
 | .var x => .mk 1 x 0 A7 A7 0 []
 | .num n => .mk 2 ⟨#[]⟩ n A7 A7 0 []
 | .tru b => .mk (if b = true then 3 else 4) ⟨#[]⟩ 0 A7 A7 0 []
 | .lam x A e => .mk 5 x 0 A.ty A7 0 [e.tm]
 | .app f a => .mk 6 ⟨#[]⟩ 0 A7 A7 0 [f.tm, a.tm]
 | .ar s a b => .mk (if s = true then 8 else 7) ⟨#[]⟩ 0 A7 A7 0 [a.tm, b.tm]
 | .ite c a b => .mk 9 ⟨#[]⟩ 0 A7 A7 0 [c.tm, a.tm, b.tm]
 | .pair a b => .mk 10 ⟨#[]⟩ 0 A7 A7 0 [a.tm, b.tm]
 | .part s e => .mk (if s = true then 12 else 11) ⟨#[]⟩ 0 A7 A7 0 [e.tm]
 | .cast A B l e => .mk 14 ⟨#[]⟩ 0 B.ty A.ty l [e.tm]
theorem GT.inj : ∀ {a b : GT}, a.ty = b.ty → a = b := by
 intro a
 induction a with
 | any => intro b h; cases b <;> first | rfl | (simp [GT.ty] at h)
 | int => intro b h; cases b <;> first | rfl | (simp [GT.ty] at h)
 | bool => intro b h; cases b <;> first | rfl | (simp [GT.ty] at h)
 | fn a1 a2 i j =>
  intro b h
  cases b with
  | fn b1 b2 => simp only [GT.ty, Ty.mk.injEq, List.cons.injEq, true_and, and_true] at h; rw [i h.1, j h.2]
  | _ => simp [GT.ty] at h
 | pr a1 a2 i j =>
  intro b h
  cases b with
  | pr b1 b2 => simp only [GT.ty, Ty.mk.injEq, List.cons.injEq, true_and, and_true] at h; rw [i h.1, j h.2]
  | _ => simp [GT.ty] at h
theorem A83 (a : GT) : Y7 a.ty = a.gr.ty := by cases a <;> rfl
theorem A1o {a : GT} : a.ty.k = 1 ↔ a = .any := by cases a <;> simp [GT.ty, Ty.k]
theorem A2Y {a : GT} : V1 a.ty = true ↔ a.Gd := by
 unfold V1 GT.Gd
 rw [Bool.and_eq_true, decide_eq_true_eq, A1i, A83, Ne, A1o]
 constructor
 ·rintro ⟨h1, h2⟩; exact ⟨h1, (GT.inj h2).symm⟩
 ·rintro ⟨h1, h2⟩; exact ⟨h1, by rw [h2]⟩
theorem B3r {a : GT} (h : ¬a.Gd) : V1 a.ty = false := by
 cases h2 : V1 a.ty with
 | false => rfl
 | true => exact absurd (A2Y.1 h2) h
theorem Q0 : ∀ e : GE, C8 e.tm = true ↔ GV e := by
 intro e
 induction e with
 | var x => rw [GE.tm, C8]; simp; intro h; cases h
 | num n => rw [GE.tm, C8]; simp; exact .num
 | tru b => rw [GE.tm, C8]; cases b <;> (simp; exact .tru)
 | lam x A e _ => rw [GE.tm, C8]; simp; exact .lam
 | app f a _ _ => rw [GE.tm, C8]; simp; intro h; cases h
 | ar s a b _ _ => rw [GE.tm, C8]; cases s <;> (simp; intro h; cases h)
 | ite c a b _ _ _ => rw [GE.tm, C8]; simp; intro h; cases h
 | pair a b i j =>
  rw [GE.tm, C8, if_pos (.inl rfl), A07, A07, A07, Bool.and_true, Bool.and_eq_true, i, j]
  exact ⟨fun h => .pair h.1 h.2, fun h => by cases h with | pair a b => exact ⟨a, b⟩⟩
 | part s e _ => rw [GE.tm, C8]; cases s <;> (simp; intro h; cases h)
 | cast A B l e i =>
  rw [GE.tm, C8]
  by_cases hp : A.ty.k = B.ty.k ∧ (B.ty.k = 4 ∨ B.ty.k = 5)
  ·rw [if_pos (.inr (.inl ⟨rfl, hp⟩)), A07, A07, Bool.and_true, i]
   constructor
   ·intro h
    cases B <;> cases A <;> first | exact .pf h | exact .pp h | (exfalso; simp [GT.ty, Ty.k] at hp)
   ·intro h; exact h.ofCast
  ·by_cases hi : B.ty.k = 1 ∧ V1 A.ty = true
   ·rw [if_pos (.inr (.inr ⟨rfl, hi⟩)), A07, A07, Bool.and_true, i]
    constructor
    ·intro h
     obtain rfl := A1o.1 hi.1
     exact .inj h (A2Y.1 hi.2)
    ·intro h; exact h.ofCast
   ·rw [if_neg (by rintro (h | h | h); exact absurd h (by decide); exact hp h.2; exact hi h.2)]
    constructor
    ·intro h; exact absurd (of_decide_eq_true h) (by decide)
    ·intro h
     exfalso
     cases h with
     | pf _ => exact hp ⟨rfl, .inl rfl⟩
     | pp _ => exact hp ⟨rfl, .inr rfl⟩
     | inj _ hg => exact hi ⟨rfl, A2Y.2 hg⟩
theorem A4V {e : GE} (h : ¬GV e) : C8 e.tm = false := by
 cases h2 : C8 e.tm with
 | false => rfl
 | true => exact absurd ((Q0 e).1 h2) h
theorem nv {e r : GE} (h : GS e r) : C8 e.tm = false := A4V fun hv => hv.noS _ h
theorem A84 (x : ByteArray) (v : GE) : ∀ e : GE, (e.sub x v).tm = S2 x v.tm e.tm := by
 intro e
 induction e with
 | var y =>
  rw [GE.sub, GE.tm, S2]
  by_cases h : y = x
  ·rw [if_pos h, if_pos ⟨rfl, h⟩]
  ·rw [if_neg h, if_neg (fun c => h c.2), if_neg (by rintro ⟨h, _⟩; exact absurd h (by decide)), GE.tm, R5]
 | num n => rw [GE.sub, GE.tm, S2]; simp [R5]
 | tru b => rw [GE.sub, GE.tm, S2]; cases b <;> simp [R5]
 | lam y A e i =>
  by_cases h : y = x
  ·rw [GE.sub, if_pos h, GE.tm, S2, if_neg (by rintro ⟨h, _⟩; exact absurd h (by decide)), if_pos ⟨rfl, h⟩]
  ·rw [GE.sub, if_neg h, GE.tm, GE.tm, S2, if_neg (by rintro ⟨h, _⟩; exact absurd h (by decide)), if_neg (fun c => h c.2), i, R5, R5]
 | app f a i j => rw [GE.sub, GE.tm, GE.tm, S2, i, j]; simp [R5]
 | ar s a b i j => rw [GE.sub, GE.tm, GE.tm, S2, i, j]; cases s <;> simp [R5]
 | ite c a b i j k => rw [GE.sub, GE.tm, GE.tm, S2, i, j, k]; simp [R5]
 | pair a b i j => rw [GE.sub, GE.tm, GE.tm, S2, i, j]; simp [R5]
 | part s e i => rw [GE.sub, GE.tm, GE.tm, S2, i]; cases s <;> simp [R5]
 | cast A B l e i => rw [GE.sub, GE.tm, GE.tm, S2, i]; simp [R5]
section
variable {k : Int} {nm : ByteArray} {num : Int} {ty fr : Ty} {lb : Int} {a b c : Tm} {t : Tm} {l : Int}
theorem A2Z (h : C8 a = false) (ks : List Tm) (hn : k = 9 ∨ ks.length < 3) (r : Tm) (hs : H7 a = (r, 1, 0)) : H7 (.mk k nm num ty fr lb (a :: ks)) = (.mk k nm num ty fr lb (r :: ks), 1, 0) := by
 have : ∃ n, (if k = 9 then 1 else (a :: ks).length) = n + 1 := ⟨if k = 9 then 0 else ks.length, by split <;> simp⟩
 obtain ⟨n, hn⟩ := this
 rw [H7, hn, V8, if_neg (by rw [h]; decide), hs]
 simp
theorem B3s (h : C8 a = false) (ks : List Tm) (hs : (H7 a).2.1 = 2) : (H7 (.mk k nm num ty fr lb (a :: ks))).2.1 = 2 := by
 have : ∃ n, (if k = 9 then 1 else (a :: ks).length) = n + 1 := ⟨if k = 9 then 0 else ks.length, by split <;> simp⟩
 obtain ⟨n, hn⟩ := this
 rw [H7, hn, V8, if_neg (by rw [h]; decide), hs]
 simp
theorem A6s (h0 : C8 a = true) (h : C8 b = false) (hk : k ≠ 9) (r : Tm) (hs : H7 b = (r, 1, 0)) : H7 (.mk k nm num ty fr lb [a, b]) = (.mk k nm num ty fr lb [a, r], 1, 0) := by
 rw [H7, if_neg hk]
 simp only [List.length_cons, List.length_nil, V8, h0, h, if_true, hs]
 simp
theorem B3t (h0 : C8 a = true) (h : C8 b = false) (hk : k ≠ 9) (hs : (H7 b).2.1 = 2) : (H7 (.mk k nm num ty fr lb [a, b])).2.1 = 2 := by
 rw [H7, if_neg hk]
 simp only [List.length_cons, List.length_nil, V8, h0, h, if_true, hs]
 simp
theorem A2x (h : C8 a = true) : H7 (.mk k nm num ty fr lb [a]) = Q7 k ty fr lb [a] := by
 rw [H7, show (if k = 9 then 1 else [a].length) = 1 by split <;> rfl, V8, h]
 simp [V8]
theorem A6t (h : C8 a = true) (h2 : C8 b = true) (hk : k ≠ 9) : H7 (.mk k nm num ty fr lb [a, b]) = Q7 k ty fr lb [a, b] := by
 rw [H7, if_neg hk]
 simp [V8, h, h2]
theorem B3u (h : C8 a = true) : H7 (.mk 9 nm num ty fr lb [a, b, c]) = Q7 9 ty fr lb [a, b, c] := by
 rw [H7, if_pos rfl]
 simp [V8, h]
end
theorem A4W {e r : GE} (h : GS e r) : H7 e.tm = (r.tm, 1, 0) := by
 induction h with
 | app1 s i => rw [GE.tm, A2Z (nv s) _ (.inr (by simp)) _ i, GE.tm]
 | app2 v s i => rw [GE.tm, A6s ((Q0 _).2 v) (nv s) (by decide) _ i, GE.tm]
 | ar1 s i => rw [GE.tm, A2Z (nv s) _ (.inr (by simp)) _ i, GE.tm]
 | @ar2 t _ _ _ v s i => rw [GE.tm, A6s ((Q0 _).2 v) (nv s) (by cases t <;> decide) _ i, GE.tm]
 | ite1 s i => rw [GE.tm, A2Z (nv s) _ (.inl rfl) _ i, GE.tm]
 | pair1 s i => rw [GE.tm, A2Z (nv s) _ (.inr (by simp)) _ i, GE.tm]
 | pair2 v s i => rw [GE.tm, A6s ((Q0 _).2 v) (nv s) (by decide) _ i, GE.tm]
 | part1 s i => rw [GE.tm, A2Z (nv s) _ (.inr (by simp)) _ i, GE.tm]
 | cast1 s i => rw [GE.tm, A2Z (nv s) _ (.inr (by simp)) _ i, GE.tm]
 | beta v =>
  rw [GE.tm, A6t ((Q0 _).2 .lam) ((Q0 _).2 v) (by decide), A84]
  rfl
 | appx v w =>
  rw [GE.tm, A6t ((Q0 _).2 (.pf v)) ((Q0 _).2 w) (by decide)]
  rfl
 | @ar t m n =>
  rw [GE.tm, A6t ((Q0 _).2 .num) ((Q0 _).2 .num) (by cases t <;> decide)]
  cases t
  ·rfl
  ·unfold A0G
   simp only [if_true]
   show (W8 (m < n), (1 : Int), (0 : Int)) = _
   unfold W8
   by_cases h : m < n
   ·simp only [h, if_true, GE.tm, decide_true]; rfl
   ·simp only [h, if_false, GE.tm, decide_false]; rfl
 | @ite b x y =>
  rw [GE.tm, B3u ((Q0 _).2 .tru)]
  cases b <;> rfl
 | @part t a b v w =>
  rw [GE.tm, A2x ((Q0 _).2 (.pair v w))]
  cases t <;> rfl
 | @partx t a b c d l e v =>
  rw [GE.tm, A2x ((Q0 _).2 (.pp v))]
  cases t <;> rfl
 | @cid A l v hv hA =>
  rw [GE.tm, A2x ((Q0 _).2 hv)]
  rcases hA with rfl | rfl | rfl <;> rfl
 | @up A l v hv hA hg =>
  rw [GE.tm, A2x ((Q0 _).2 hv)]
  cases A with
  | any => exact absurd rfl hA
  | int => exact absurd rfl hg
  | bool => exact absurd rfl hg
  | _ => rfl
 | @down B l v hv hB hg =>
  rw [GE.tm, A2x ((Q0 _).2 hv)]
  have hg' := B3r (a := B) fun h => hg h.2
  unfold Q7
  rw [if_neg (by decide), if_neg (by decide), if_neg (by decide), if_neg (by decide), if_pos rfl, if_neg, if_neg, if_pos hg', A83]
  ·rfl
  ·rw [A1o]; exact hB
  ·intro h; exact hB (A1o.1 h.symm)
 | @hit G l m w hv hG =>
  rw [GE.tm, A2x ((Q0 _).2 (.inj hv hG))]
  have hg' := A2Y.2 hG
  have hi : inj (GE.tm (.cast G .any m w)) = true := by
   rw [GE.tm]; unfold inj; rw [Bool.and_eq_true]; exact ⟨rfl, hg'⟩
  unfold Q7
  rw [if_neg (by decide), if_neg (by decide), if_neg (by decide), if_neg (by decide), if_pos rfl, if_neg, if_neg, if_neg (by rw [hg']; decide), if_neg (by show ¬inj (GE.tm (.cast G .any m w)) = false; rw [hi]; decide), if_pos]
  ·rfl
  ·rfl
  ·rw [A1o]; exact hG.1
  ·intro h; exact hG.1 (A1o.1 h.symm)
def Bd (e : GE) : Prop := C8 e.tm = false ∧ (H7 e.tm).2.1 = 2
theorem B3v {Γ : GC} {v v' : GE} {U U' : GT} (h : GP Γ v v' U U') : Γ = N1 → GV v → ∀ {A B}, U = .fn A B → (∃ x C e, v = .lam x C e) ∨ ∃ a b c d l e, v = .cast (.fn a b) (.fn c d) l e ∧ GV e := by
 induction h with
 | castR _ _ _ i => exact i
 | castL _ _ _ _ => intro _ hv A B hU; subst hU; cases hv with | pf h => exact .inr ⟨_, _, _, _, _, _, rfl, h⟩
 | castB _ _ _ _ _ => intro _ hv A B hU; subst hU; cases hv with | pf h => exact .inr ⟨_, _, _, _, _, _, rfl, h⟩
 | lam _ _ _ => intro _ _ _ _ _; exact .inl ⟨_, _, _, rfl⟩
 | app _ _ _ _ => intro _ hv; cases hv
 | ite _ _ _ _ _ _ => intro _ hv; cases hv
 | part _ _ => intro _ hv; cases hv
 | ar _ _ _ _ => intro _ hv; cases hv
 | var _ _ => intro _ hv; cases hv
 | _ => intro _ _ _ _ hU; cases hU
theorem B3w {Γ : GC} {v v' : GE} {U U' : GT} (h : GP Γ v v' U U') : Γ = N1 → GV v → ∀ {A B}, U = .pr A B → (∃ a b, v = .pair a b ∧ GV a ∧ GV b) ∨ ∃ a b c d l e, v = .cast (.pr a b) (.pr c d) l e ∧ GV e := by
 induction h with
 | castR _ _ _ i => exact i
 | castL _ _ _ _ => intro _ hv A B hU; subst hU; cases hv with | pp h => exact .inr ⟨_, _, _, _, _, _, rfl, h⟩
 | castB _ _ _ _ _ => intro _ hv A B hU; subst hU; cases hv with | pp h => exact .inr ⟨_, _, _, _, _, _, rfl, h⟩
 | pair _ _ _ _ => intro _ hv _ _ _; cases hv with | pair a b => exact .inl ⟨_, _, rfl, a, b⟩
 | app _ _ _ _ => intro _ hv; cases hv
 | ite _ _ _ _ _ _ => intro _ hv; cases hv
 | part _ _ => intro _ hv; cases hv
 | ar _ _ _ _ => intro _ hv; cases hv
 | var _ _ => intro _ hv; cases hv
 | _ => intro _ _ _ _ hU; cases hU
theorem A85 {Γ : GC} {v v' : GE} {U U' : GT} (h : GP Γ v v' U U') : Γ = N1 → GV v → U = .int → ∃ n, v = .num n := by
 induction h with
 | castR _ _ _ i => exact i
 | castL _ _ _ _ => intro _ hv hU; subst hU; cases hv
 | castB _ _ _ _ _ => intro _ hv hU; subst hU; cases hv
 | num => intro _ _ _; exact ⟨_, rfl⟩
 | app _ _ _ _ => intro _ hv; cases hv
 | ite _ _ _ _ _ _ => intro _ hv; cases hv
 | part _ _ => intro _ hv; cases hv
 | ar _ _ _ _ => intro _ hv; cases hv
 | var _ _ => intro _ hv; cases hv
 | _ => intro _ _ hU; cases hU
theorem B3x {Γ : GC} {v v' : GE} {U U' : GT} (h : GP Γ v v' U U') : Γ = N1 → GV v → U = .bool → ∃ b, v = .tru b := by
 induction h with
 | castR _ _ _ i => exact i
 | castL _ _ _ _ => intro _ hv hU; subst hU; cases hv
 | castB _ _ _ _ _ => intro _ hv hU; subst hU; cases hv
 | tru => intro _ _ _; exact ⟨_, rfl⟩
 | app _ _ _ _ => intro _ hv; cases hv
 | ite _ _ _ _ _ _ => intro _ hv; cases hv
 | part _ _ => intro _ hv; cases hv
 | ar _ _ _ _ => intro _ hv; cases hv
 | var _ _ => intro _ hv; cases hv
 | _ => intro _ _ hU; cases hU
theorem B3y {Γ : GC} {v v' : GE} {U U' : GT} (h : GP Γ v v' U U') : Γ = N1 → GV v → U = .any → ∃ H l w, v = .cast H .any l w ∧ GV w ∧ H.Gd := by
 induction h with
 | castR _ _ _ i => exact i
 | castL _ _ _ _ => intro _ hv hU; subst hU; cases hv with | inj h g => exact ⟨_, _, _, rfl, h, g⟩
 | castB _ _ _ _ _ => intro _ hv hU; subst hU; cases hv with | inj h g => exact ⟨_, _, _, rfl, h, g⟩
 | app _ _ _ _ => intro _ hv; cases hv
 | ite _ _ _ _ _ _ => intro _ hv; cases hv
 | part _ _ => intro _ hv; cases hv
 | ar _ _ _ _ => intro _ hv; cases hv
 | var _ _ => intro _ hv; cases hv
 | _ => intro _ _ hU; cases hU
theorem A86 {e e' : GE} {A B A' : GT} {l : Int} (h : GP N1 e e' A A') (hc : Co A B) (hv : GV e) : GV (.cast A B l e) ∨ (∃ r, GS (.cast A B l e) r) ∨ Bd (.cast A B l e) := by
 by_cases hA : A = .any
 ·subst hA
  by_cases hB : B = .any
  ·subst hB; exact .inr (.inl ⟨_, .cid hv (.inl rfl)⟩)
  ·by_cases hg : B.gr = B
   ·obtain ⟨H, m, w, rfl, hw, hH⟩ := B3y h rfl hv rfl
    by_cases he : H = B
    ·subst he; exact .inr (.inl ⟨_, .hit hw hH⟩)
    ·refine .inr (.inr ⟨A4V (by intro h; cases h; exact hB rfl), ?_⟩)
     have hg' := A2Y.2 (show B.Gd from ⟨hB, hg⟩)
     have hi : inj (GE.tm (.cast H .any m w)) = true := by
      rw [GE.tm]; unfold inj; rw [Bool.and_eq_true]; exact ⟨rfl, A2Y.2 hH⟩
     rw [GE.tm, A2x ((Q0 _).2 hv)]
     unfold Q7
     rw [if_neg (by decide), if_neg (by decide), if_neg (by decide), if_neg (by decide), if_pos rfl, if_neg, if_neg, if_neg (by rw [hg']; decide), if_neg (by show ¬inj (GE.tm (.cast H .any m w)) = false; rw [hi]; decide), if_neg]
     ·show ¬H.ty.k = B.ty.k
      intro hk
      apply he
      rw [← hH.2, ← hg]
      cases H <;> cases B <;> first | rfl | (simp [GT.ty, Ty.k] at hk)
     ·rw [A1o]; exact hB
     ·intro h; exact hB (A1o.1 h.symm)
   ·exact .inr (.inl ⟨_, .down hv hB hg⟩)
 ·by_cases hB : B = .any
  ·subst hB
   by_cases hg : A.gr = A
   ·exact .inl (.inj hv ⟨hA, hg⟩)
   ·exact .inr (.inl ⟨_, .up hv hA hg⟩)
  ·cases hc with
   | l => exact absurd rfl hA
   | r => exact absurd rfl hB
   | int => exact .inr (.inl ⟨_, .cid hv (.inr (.inl rfl))⟩)
   | bool => exact .inr (.inl ⟨_, .cid hv (.inr (.inr rfl))⟩)
   | fn _ _ => exact .inl (.pf hv)
   | pr _ _ => exact .inl (.pp hv)
theorem A2y {a : GE} (h : Bd a) {e : GE} {k : Int} {nm : ByteArray} {num : Int} {ty fr : Ty} {lb : Int} {ks : List Tm} (he : e.tm = .mk k nm num ty fr lb (a.tm :: ks)) (hv : ¬GV e) : Bd e :=
 ⟨A4V hv, by rw [he]; exact B3s h.1 ks h.2⟩
theorem A6u {a b : GE} (ha : GV a) (h : Bd b) {e : GE} {k : Int} {nm : ByteArray} {num : Int} {ty fr : Ty} {lb : Int} (hk : k ≠ 9) (he : e.tm = .mk k nm num ty fr lb [a.tm, b.tm]) (hv : ¬GV e) : Bd e :=
 ⟨A4V hv, by rw [he]; exact B3t ((Q0 _).2 ha) h.1 hk h.2⟩
theorem A4X {e : GE} (h : Bd e) : ¬GV e := fun hv => by have := (Q0 e).2 hv; rw [h.1] at this; cases this
theorem A4Y {Γ : GC} {e e' : GE} {A A' : GT} (h : GP Γ e e' A A') : Γ = N1 → GV e ∨ (∃ r, GS e r) ∨ Bd e := by
 induction h with
 | var hx _ => intro hE; subst hE; cases hx
 | num => intro _; exact .inl .num
 | tru => intro _; exact .inl .tru
 | lam _ _ _ => intro _; exact .inl .lam
 | app hf ha i j =>
  intro hE
  refine .inr ?_
  rcases i hE with vf | ⟨r, s⟩ | b
  ·rcases j hE with va | ⟨r, s⟩ | b
   ·rcases B3v hf hE vf rfl with ⟨x, C, e, rfl⟩ | ⟨_, _, _, _, _, _, rfl, hw⟩
    ·exact .inl ⟨_, .beta va⟩
    ·exact .inl ⟨_, .appx hw va⟩
   ·exact .inl ⟨_, .app2 vf s⟩
   ·exact .inr (A6u vf b (k := 6) (by decide) rfl (by intro h; cases h))
  ·exact .inl ⟨_, .app1 s⟩
  ·exact .inr (A2y b (k := 6) rfl (by intro h; cases h))
 | @ar Γ t _ _ _ _ ha hb i j =>
  intro hE
  refine .inr ?_
  rcases i hE with va | ⟨r, s⟩ | b
  ·rcases j hE with vb | ⟨r, s⟩ | b
   ·obtain ⟨m, rfl⟩ := A85 ha hE va rfl
    obtain ⟨n, rfl⟩ := A85 hb hE vb rfl
    exact .inl ⟨_, .ar⟩
   ·exact .inl ⟨_, .ar2 va s⟩
   ·exact .inr (A6u va b (k := if t = true then 8 else 7) (by cases t <;> decide) rfl (by intro h; cases h))
  ·exact .inl ⟨_, .ar1 s⟩
  ·exact .inr (A2y b rfl (by intro h; cases h))
 | ite hc _ _ i _ _ =>
  intro hE
  refine .inr ?_
  rcases i hE with vc | ⟨r, s⟩ | b
  ·obtain ⟨m, rfl⟩ := B3x hc hE vc rfl
   exact .inl ⟨_, .ite⟩
  ·exact .inl ⟨_, .ite1 s⟩
  ·exact .inr (A2y b rfl (by intro h; cases h))
 | pair ha hb i j =>
  intro hE
  rcases i hE with va | ⟨r, s⟩ | b
  ·rcases j hE with vb | ⟨r, s⟩ | b
   ·exact .inl (.pair va vb)
   ·exact .inr (.inl ⟨_, .pair2 va s⟩)
   ·exact .inr (.inr (A6u va b (k := 10) (by decide) rfl (by intro h; cases h with | pair _ h => exact A4X b h)))
  ·exact .inr (.inl ⟨_, .pair1 s⟩)
  ·exact .inr (.inr (A2y b rfl (by intro h; cases h with | pair h _ => exact A4X b h)))
 | part h i =>
  intro hE
  refine .inr ?_
  rcases i hE with vc | ⟨r, s⟩ | b
  ·rcases B3w h hE vc rfl with ⟨_, _, rfl, ha, hb⟩ | ⟨_, _, _, _, _, _, rfl, hw⟩
   ·exact .inl ⟨_, .part ha hb⟩
   ·exact .inl ⟨_, .partx hw⟩
  ·exact .inl ⟨_, .part1 s⟩
  ·exact .inr (A2y b rfl (by intro h; cases h))
 | castL h hc _ i =>
  intro hE
  rcases i hE with hv | ⟨r, s⟩ | b
  ·subst hE; exact A86 h hc hv
  ·exact .inr (.inl ⟨_, .cast1 s⟩)
  ·exact .inr (.inr (A2y b rfl (fun h => A4X b h.ofCast)))
 | castR _ _ _ i => exact i
 | castB h hc _ _ i =>
  intro hE
  rcases i hE with hv | ⟨r, s⟩ | b
  ·subst hE; exact A86 h hc hv
  ·exact .inr (.inl ⟨_, .cast1 s⟩)
  ·exact .inr (.inr (A2y b rfl (fun h => A4X b h.ofCast)))
theorem B3z {e : Tm} (h : (H5 e).2.1 = 1) : J3 e = true ∧ C8 e = false ∧ (H7 e).2.1 = 1 ∧ (H5 e).1 = (H7 e).1 := by
 unfold H5 at h ⊢
 split at h
 ·cases h
 ·rename_i h1
  split at h
  ·cases h
  ·rename_i h2
   split at h
   ·rename_i h3; exact absurd h h3
   ·rename_i h3
    split at h
    ·cases h
    ·rename_i h4
     rw [if_neg h1, if_neg h2, if_neg h3, if_neg h4]
     refine ⟨by cases hv : J3 e with | true => rfl | false => exact absurd hv h1, by cases hv : C8 e with | false => rfl | true => exact absurd hv h2, ?_, rfl⟩
     apply Classical.byContradiction
     intro hc; exact h3 hc
theorem A87 {e : Tm} (h : (H5 e).2.1 = 0) (hc : (H7 e).2.1 ≠ 0) : C8 e = true ∧ (H5 e).1 = e := by
 unfold H5 at h ⊢
 split at h
 ·cases h
 ·rename_i h1
  split at h
  ·rename_i h2; rw [if_neg h1, if_pos h2]; exact ⟨h2, rfl⟩
  ·split at h
   ·exact absurd h hc
   ·split at h <;> cases h
theorem A88 {n : Nat} {e : Tm} (h : (H5 e).2.1 = 1) : N4 (n + 1) e = ((N4 n (H5 e).1).1, (N4 n (H5 e).1).2.1, (N4 n (H5 e).1).2.2.1, (N4 n (H5 e).1).2.2.2 + 1) := by rw [N4, if_pos h]
theorem B3A {t : Tm} (h : t.small) : t.nm.size ≤ 4294967296 ∧ t.ty.small ∧ t.fr.small ∧ t.ks.length ≤ 4294967296 ∧ Tm.smallL t.ks := by
 cases t; exact A0y.1 h
theorem A89 {ks : List Ty} (h : Ty.smallL ks) (i : Nat) : (kt ks i).small := by
 unfold kt
 rw [List.getD_eq_getElem?_getD]
 cases hi : ks[i]? with
 | none => exact A13
 | some t => exact Ty.smallL_mem h t (List.mem_of_getElem? hi)
theorem A9a {t : Ty} (h : t.small) : Ty.smallL t.ks := by cases t; simp only [Ty.small] at h; exact h.2
theorem A4Z (t : Ty) : (Y7 t).small := by
 unfold Y7; split <;> simp [O9, Ty.small, Ty.smallL]
theorem A2z {e : Tm} {a b : Ty} {l : Int} (h : e.small) (ha : a.small) (hb : b.small) : (O7 e a b l).small := A0y.2 ⟨by decide, hb, ha, by simp, by simp [Tm.smallL, h]⟩
theorem A15 (e : Tm) (a b : Ty) (l : Int) : C6 (O7 e a b l) = C6 e + 1 := by rw [O7, U1, D6, D6]
theorem A6v {k : Int} {ks : List Tm} (h : Tm.smallL ks) (hl : ks.length ≤ 4294967296) : (A0t k ks).small := A0y.2 ⟨by decide, A13, A13, hl, h⟩
theorem A6w (k : Int) (ks : List Tm) : C6 (A0t k ks) = D6 ks + 1 := by rw [A0t, U1]
theorem B3B {a : Tm} (h : a.small) : Tm.smallL [a] := by simp [Tm.smallL, h]
theorem B3C {a b : Tm} (h : a.small) (h2 : b.small) : Tm.smallL [a, b] := by simp [Tm.smallL, h, h2]
theorem A9b : C6 F4 = 1 := by simp [F4, C6, D6]
theorem B3D (t : Tm) : C6 t = D6 t.ks + 1 := by cases t; rw [U1]; rfl
theorem B3E {k : Int} {ty fr : Ty} {lb : Int} {ks : List Tm} (hk : Tm.smallL ks) (hc : D6 ks ≤ 199) (ht : ty.small) (hf : fr.small) : (Q7 k ty fr lb ks).1.small ∧ C6 (Q7 k ty fr lb ks).1 ≤ 40100 := by
 have a0 := A14 hk 0
 have a1 := A14 hk 1
 have a2 := A14 hk 2
 have n0 := A4U (ks := ks) 0
 have n1 := A4U (ks := ks) 1
 have n2 := A4U (ks := ks) 2
 obtain ⟨_, b2, b3, _, b5⟩ := B3A a0
 have e0 := B3D (kd ks 0)
 have m := fun i => A4U (ks := (kd ks 0).ks) i
 have st : S8.1.small ∧ C6 S8.1 ≤ 40100 := ⟨A3U, by simp [S8, F4, C6, D6]⟩
 have hty := fun i => A89 (A9a b2) i
 have hfr := fun i => A89 (A9a b3) i
 unfold Q7
 split
 ·split
  ·obtain ⟨s1, s2⟩ := A81 (x := (kd ks 0).nm) a1 (kd (kd ks 0).ks 0) (A14 b5 0)
   refine ⟨s1, Nat.le_trans s2 ?_⟩
   have : C6 (kd (kd ks 0).ks 0) * C6 (kd ks 1) ≤ 200 * 200 := Nat.mul_le_mul (by have := m 0; omega) (by omega)
   omega
  ·split
   ·refine ⟨A2z (A6v (B3C (A14 b5 0) (A2z a1 (hty 0) (hfr 0))) (by simp)) (hfr 1) (hty 1), ?_⟩
    have := m 0
    show C6 (O7 _ _ _ _) ≤ 40100
    rw [A15, A6w, D6, D6, D6, A15]
    omega
   ·exact st
 ·split
  ·split
   ·split
    ·exact ⟨A0y.2 ⟨by decide, A13, A13, by simp, by simp [Tm.smallL]⟩, by simp [A1N, C6, D6]⟩
    ·exact ⟨A6v (by simp [Tm.smallL]) (by simp), by simp [W8, A6w, D6]⟩
   ·exact st
  ·split
   ·split
    ·exact ⟨a1, by show C6 (kd ks 1) ≤ _; omega⟩
    ·split
     ·exact ⟨a2, by show C6 (kd ks 2) ≤ _; omega⟩
     ·exact st
   ·split
    ·split
     ·exact ⟨A14 b5 _, by have := m (k - 11).toNat; show C6 (kd _ _) ≤ _; omega⟩
     ·split
      ·refine ⟨A2z (A6v (B3B (A14 b5 0)) (by simp)) (hfr _) (hty _), ?_⟩
       have := m 0
       show C6 (O7 _ _ _ _) ≤ 40100
       rw [A15, A6w, D6, D6]
       omega
      ·exact st
    ·split
     ·split
      ·exact ⟨a0, by show C6 (kd ks 0) ≤ _; omega⟩
      ·split
       ·refine ⟨A2z (A2z a0 hf (A4Z fr)) (A4Z fr) ht, ?_⟩
        show C6 (O7 _ _ _ _) ≤ 40100
        rw [A15, A15]; omega
       ·split
        ·refine ⟨A2z (A2z a0 hf (A4Z ty)) (A4Z ty) ht, ?_⟩
         show C6 (O7 _ _ _ _) ≤ 40100
         rw [A15, A15]; omega
        ·split
         ·exact st
         ·split
          ·exact ⟨A14 b5 0, by have := m 0; show C6 (kd _ _) ≤ _; omega⟩
          ·exact ⟨A3U, by simp [F4, C6, D6]⟩
     ·exact st
def A6x (u : Ty) (G : IM) : IM → Value → List A4 → Prop := L5 fun G' v => ∃ cells, v = .agg ⟨cells⟩ ∧ B7 G' u cells
def Y1 (r : Option Ty) (G : IM) : IM → Value → List A4 → Prop := L5 fun G' v => ∃ cells u, v = .tuple ⟨[.agg ⟨cells⟩, .bool r.isSome]⟩ ∧ B7 G' u cells ∧ ∀ t, r = some t → u = t
theorem B3F {G : IM} {k : Int} {a b : Ty} {ca cb : List Value} {p : Option Addr} {c : Nat} (hk : E6 k) (ha : B7 G a ca) (hb : B7 G b cb) (hs : Sl G p 2 c 2 (ca ++ cb)) : B7 G (.mk k [a, b]) [.int .i64 k, .slice p 2 c] := by
 have hL : D2 G [a, b] [ca, cb] := by simp only [D2]; exact ⟨ca, [cb], rfl, ha, cb, [], rfl, hb, rfl⟩
 exact D2.ty (ts := [a, b]) (es := [ca, cb]) hL rfl (by simpa using hs) hk
theorem A6y : ∀ (t t' : Ty) (G : IM) (cells cells' : List Value), B7 G t cells → B7 G t' cells' → Fn Tryz.prog 30 [.agg ⟨cells⟩, .agg ⟨cells'⟩] [] G (H0 (.bool (O2 t t')) G) := by
 refine Ty.ind fun k ks ih t' G cells cells' hr hr' => ?_
 obtain ⟨k', ks'⟩ := t'
 obtain ⟨p, c, es, rfl, hk, hsl, hkl⟩ := hr.open
 obtain ⟨p', c', es', rfl, hk', hsl', hkl'⟩ := hr'.open
 simp only [Ty.k, Ty.ks] at hk hsl hkl hk' hsl' hkl' ⊢
 obtain ⟨A, hA⟩ : ∃ A, A0j ks ks' = A := ⟨_, rfl⟩
 have hA' : A = true ↔ ks.length = ks'.length ∧ ∀ i, i < ks.length → O2 (ks.getD i A7) (ks'.getD i A7) = true := by
  rw [← hA, A3H]
  constructor
  ·rintro ⟨h1, h2⟩
   refine ⟨h1, fun i hi => ?_⟩
   have := h2 i hi (by omega)
   simpa [List.getD_eq_getElem?_getD, List.getElem?_eq_getElem hi, List.getElem?_eq_getElem (show i < ks'.length by omega)] using this
  ·rintro ⟨h1, h2⟩
   refine ⟨h1, fun i hi hi' => ?_⟩
   have := h2 i hi
   simpa [List.getD_eq_getElem?_getD, List.getElem?_eq_getElem hi, List.getElem?_eq_getElem hi'] using this
 refine B2 Tryz.func30 rfl Tryz.ntmps30 Tryz.results30 rfl ?_
 intro w0
 refine tS (tR ?_)
 refine sE (B9 rfl rfl) rfl (fun b3 => ?_)
 refine sE (B9 rfl rfl) rfl (fun b4 => ?_)
 refine D4 ?_
 refine sB (qE rfl rfl) rfl rfl (fun h14 => ?_) (fun h14 => ?_)
 refine R1 ?_
 refine H3 rfl (A8h _ _ _ _ _ _ _ _ _ hsl hsl' _ [] [] [] (fun i => O2 (ks.getD i A7) (ks'.getD i A7)) A hA' (fun i e e' he he' => ih _ (hkl.inv he A7).1 _ _ _ _ (hkl.inv he A7).2 (hkl'.inv he' A7).2)) rfl rfl ?_
 refine J8 ?_
 exact ⟨rfl, by rw [A2t, hA]; first | (rw [decide_eq_true (p := k = k') (by omega)]; rfl) | (rw [decide_eq_false (p := k = k') (by omega)]; rfl), rfl⟩
 refine N6 ?_
 exact ⟨rfl, by rw [A2t, hA]; first | (rw [decide_eq_true (p := k = k') (by omega)]; rfl) | (rw [decide_eq_false (p := k = k') (by omega)]; rfl), rfl⟩
theorem A16 (k : Int) (a b : Ty) (G : IM) (ca cb : List Value) (hk : E6 k) (hra : B7 G a ca) (hrb : B7 G b cb) :
  Fn Tryz.prog 160 [.int .i64 k, .agg ⟨ca⟩, .agg ⟨cb⟩] [] G (A6x (.mk k [a, b]) G) := by
 obtain ⟨pa, cca, ea, rfl, _⟩ := hra.open
 obtain ⟨pb, ccb, eb, rfl, _⟩ := hrb.open
 refine B2 Tryz.func160 rfl Tryz.ntmps160 Tryz.results160 rfl ?_
 intro w0
 refine tS (tR ?_)
 refine sE (B9 rfl rfl) rfl (fun b3 => ?_)
 refine sE (B9 rfl rfl) rfl (fun b4 => ?_)
 refine sE (A5 rfl) rfl (fun b5 => ?_)
 refine C2 ?_
 (refine L9 (C9 rfl rfl rfl (by omega) (by unfold maxLen; omega) rfl) rfl ?_; rintro _ ⟨b13, rfl⟩)
 refine sQ (W1 rfl rfl) rfl (F9 ?_)
 refine sD (nS ?_)
 (refine I5 (by repeat (first | exact Pk.here | apply Pk.there)) (fun G5 hle5 hsl5 hno5 => ?_))
 refine tT ?_
 refine D9 (rC rfl (A2 rfl rfl)) ?_
 exact ⟨rfl, _, rfl, B3F hk (hra.mono hle5) (hrb.mono hle5) hsl5⟩
theorem A1O (k tk : Int) (ks : List Ty) : R3 k (.mk tk ks) = if tk = k then some (ks.getD 0 A7, ks.getD 1 A7) else if tk = 1 then some (O9, O9) else none := rfl
def A9c (k : Int) (t : Ty) (G : IM) : IM → Value → List A4 → Prop := L5 fun G' v => ∃ a ca b cb, v = .tuple ⟨[.agg ⟨ca⟩, .agg ⟨cb⟩, .bool (R3 k t).isSome]⟩ ∧ B7 G' a ca ∧ B7 G' b cb ∧ E5 a ∧ E5 b ∧ ∀ p, R3 k t = some p → p = (a, b)
theorem A9d (k : Int) (t : Ty) (G : IM) (cells : List Value) (hk : k = 4 ∨ k = 5) (ha : E5 t) (hr : B7 G t cells) :
  Fn Tryz.prog 161 [.agg ⟨cells⟩, .int .i64 k] [] G (A9c k t G) := by
 obtain ⟨tk, ks⟩ := t
 have ha2 := ha
 rw [E5] at ha2
 have hkid := ha.kid
 obtain ⟨p, c, es, rfl, htk, hsl, hkl⟩ := hr.open
 simp only [Ty.k, Ty.ks] at htk hsl hkl ⊢
 refine B2 Tryz.func161 rfl Tryz.ntmps161 Tryz.results161 rfl ?_
 intro w0
 refine tS (tR ?_)
 refine sE (B9 rfl rfl) rfl (fun b3 => ?_)
 refine sE (A5 rfl) rfl (fun b4 => ?_)
 refine sE (A5 rfl) rfl (fun b5 => ?_)
 refine I9 ?_
 refine B4 (tS (tR (sQ (qM rfl) rfl (sB (qE rfl rfl) rfl rfl (fun h20 => ?_) (fun h20 => ?_)))))
 refine sQ (qA rfl) rfl (sD (nS (qT rfl (tS ?_))))
 (have hlen : ks.length = 2 := ha2.1 (by omega); obtain ⟨b, o, q0, d0, hp0, hat0, hre0, hg0⟩ := hsl.kidTy hkl (i := 0) (by omega) (by omega); obtain ⟨b', o', q1, d1, hp1, hat1, hre1, hg1⟩ := hsl.kidTy hkl (i := 1) (by omega) (by omega); subst hp0; cases hp1; refine E1 E2 rfl ?_)
 refine J5 (i := 0) (l' := [tt,ff,ff,ff,ff,ff,ff,ff,ff,ff,ff]) rfl D5 (B1 rfl) rfl (by kernel_rfl) rfl rfl ?_
 refine aL 1 rfl (C0 rfl rfl) rfl ?_
 refine aP 2 rfl (B3 (j := 0) rfl rfl rfl (by omega)) rfl ?_
 refine aL 3 rfl (A1 rfl rfl (hat0 _) rfl) rfl ?_
 refine aP 4 rfl (B1 rfl) rfl ?_
 refine aL 5 rfl (C0 rfl rfl) rfl ?_
 refine aP 6 rfl (B3 (j := 1) rfl rfl rfl (by omega)) rfl ?_
 refine aL 7 rfl (A1 rfl rfl (hat1 _) rfl) rfl ?_
 refine A3 8 ?_
 refine J0 rfl ?_
 refine A3 9 ?_
 refine J0 rfl ?_
 refine aP 10 rfl (qA rfl) rfl ?_
 refine C5 (nS (tT (rB (rS ?_))))
 refine C4 (rC rfl (A2 rfl rfl)) (rC rfl (A2 rfl rfl)) (rT rfl) ?_
 (refine ⟨rfl, _, _, _, _, ?_, hre0, hre1, hkid _ (List.getElem_mem (by omega)), hkid _ (List.getElem_mem (by omega)), ?_⟩ <;> rw [A1O, if_pos (by omega)] <;> first | rfl | (intro p hp; cases hp; simp [hlen]))
 refine sQ (qA rfl) rfl (sD (nS (cF rfl (tS (tR ?_)))))
 refine sB (qE rfl rfl) rfl rfl (fun h53 => ?_) (fun h53 => ?_)
 refine sQ (qA rfl) rfl (sD (nS (qT rfl (tS (tR ?_)))))
 refine H3 rfl ((A1g _ _)) rfl rfl ?_
 refine H3 rfl ((A1g _ _)) rfl rfl ?_
 refine F9 ?_
 refine F9 ?_
 refine sQ (qA rfl) rfl (sD (nS (tT (rB (rS ?_)))))
 refine C4 (rC rfl (A2 rfl rfl)) (rC rfl (A2 rfl rfl)) (rT rfl) ?_
 (refine ⟨rfl, _, _, _, _, ?_, A0H _, A0H _, A3E, A3E, ?_⟩ <;> rw [A1O, if_neg (by omega), if_pos (by omega)] <;> first | rfl | (intro p hp; cases hp; rfl))
 refine T0 ?_
 refine C4 (rC rfl (A2 rfl rfl)) (rC rfl (A2 rfl rfl)) (rT rfl) ?_
 (refine ⟨rfl, A7, _, A7, _, ?_, N3 _ ⟨by omega, by omega⟩, N3 _ ⟨by omega, by omega⟩, T9 (by omega) (by omega), T9 (by omega) (by omega), ?_⟩ <;> rw [A1O, if_neg (by omega), if_neg (by omega)] <;> first | rfl | (intro p hp; cases hp))
def A20 (G : IM) (b : ByteArray × Ty) (e : List Value) : Prop := ∃ q d, e = [.string b.1, .int .i64 b.2.k, .slice q b.2.ks.length d] ∧ B7 G b.2 [.int .i64 b.2.k, .slice q b.2.ks.length d]
theorem A20.mono {G G' : IM} {b : ByteArray × Ty} {e : List Value} (h : A20 G b e) (hg : B6 G G') : A20 G' b e := by
 obtain ⟨q, d, h1, h2⟩ := h
 exact ⟨q, d, h1, h2.mono hg⟩
def T2 (G : IM) (cx : Cx) (p : Option Addr) (n c : Nat) : Prop := n = cx.length ∧ ∃ es : List (List Value), D0 G p n c 3 es ∧ ∀ (i : Nat) (b : ByteArray × Ty), cx[i]? = some b → ∃ e, es[i]? = some e ∧ A20 G b e
theorem T2.mono {G G' : IM} {cx : Cx} {p : Option Addr} {n c : Nat} (h : T2 G cx p n c) (hg : B6 G G') : T2 G' cx p n c := by
 obtain ⟨h1, es, h2, h3⟩ := h
 refine ⟨h1, es, h2.mono hg, fun i b hb => ?_⟩
 obtain ⟨e, he, hr⟩ := h3 i b hb
 exact ⟨e, he, hr.mono hg⟩
theorem T2.nil (G : IM) : T2 G [] none 0 0 := ⟨rfl, [], D0.nil _ _, by simp⟩
theorem T2.le {G : IM} {cx : Cx} {p : Option Addr} {n c : Nat} (h : T2 G cx p n c) : n ≤ 9223372036854775807 := by
 obtain ⟨h1, es, h2, h3⟩ := h
 exact h2.le
theorem T2.get {G : IM} {cx : Cx} {p : Option Addr} {n c : Nat} (h : T2 G cx p n c) {i : Nat} (hi : i < n) :
  ∃ b o nm t q d, cx[i]? = some (nm, t) ∧ p = some ⟨b, o, none⟩ ∧ (∀ hp, At hp G b (o + i * 3) [.string nm, .int .i64 t.k, .slice q t.ks.length d]) ∧ B7 G t [.int .i64 t.k, .slice q t.ks.length d] ∧ G b ≠ none := by
 obtain ⟨h1, es, h2, h3⟩ := h
 obtain ⟨e, b, o, he, rfl, hl, _, hat, hgb⟩ := h2.get (i := i) (by omega)
 have hx : cx[i]? = some cx[i] := List.getElem?_eq_getElem (by omega)
 obtain ⟨e', he', q, d, h4, h5⟩ := h3 i _ hx
 rw [he] at he'
 obtain rfl := Option.some.inj he'
 rw [h4] at hat
 exact ⟨b, o, cx[i].1, cx[i].2, q, d, hx, rfl, hat, h5, hgb⟩
theorem B3G (G : IM) (cx : Cx) (p : Option Addr) (n c : Nat) (nm : ByteArray) (hx : T2 G cx p n c) :
  Fn Tryz.prog 159 [.slice p n c, .string nm] [] G (Y1 (W3 cx nm) G) := by
 have hn := hx.le
 have hn1 := hx.1
 refine B2 Tryz.func159 rfl Tryz.ntmps159 Tryz.results159 rfl ?_
 intro w0
 refine tS (tR ?_)
 refine sE (A5 rfl) rfl (fun b3 => ?_)
 refine D3 ?_
 refine sP (P5 rfl rfl (by omega) (by omega)) rfl rfl ?_
 refine sQ (qA rfl) rfl (sD (nS ?_))
 refine B4 ?_
 (refine K9 (fun (i : Nat) => ⟨[(6, .int .i64 ((i : Int) - 1)), (0, .slice p n c), (1, .string nm), (4, .pointer (some ⟨b3, 0, none⟩))], [.blk b3 [.int .i64 0, .slice none 0 0]], G⟩) (fun i => i ≤ n ∧ X1 cx nm i = W3 cx nm) (fun i => i) n ?_ ?_ ?_)
 exact D1
 exact ⟨Nat.le_refl _, by rw [hn1]; rfl⟩
 (rintro i ⟨hi, hlk⟩)
 refine tS (tS (tR (sQ (qM rfl) rfl ?_)))
 refine sB (A0L rfl rfl) rfl rfl (fun h25 => ?_) (fun h25 => ?_)
 refine sD (nS (qT rfl (tK (nS (tS ?_)))))
 (show I8 _ _ (.block 1 _) _ _; obtain ⟨j, rfl⟩ : ∃ j, i = j + 1 := ⟨i - 1, by omega⟩; rw [show ((j + 1 : Nat) : Int) - 1 = (j : Int) from by omega]; obtain ⟨b, o, nm1, t1, q1, d1, hcx, rfl, hat, hr1, hgb⟩ := hx.get (i := j) (by omega); refine B4 ?_)
 refine tS (tR (sQ (qM rfl) rfl (sQ (qM rfl) rfl ?_)))
 refine sP (B3 rfl rfl rfl (by omega)) rfl rfl ?_
 refine sQ (qF rfl) rfl ?_
 refine sL (A0p rfl rfl ((hat _).sub (j := 0) rfl)) rfl rfl ?_
 refine sQ (qM rfl) rfl ?_
 refine sB (A1b rfl rfl) rfl rfl (fun h41 => ?_) (fun h41 => ?_)
 refine C2 ?_
 refine sP (B3 rfl rfl rfl (by omega)) rfl rfl ?_
 refine sQ (qF rfl) rfl ?_
 refine sL (A1 rfl rfl (hat _).drop rfl) rfl rfl ?_
 refine I9 ?_
 refine I2 (rC rfl (A2 rfl rfl)) (rT rfl) ?_
 (rw [A6c hcx (by assumption)] at hlk; rw [← hlk]; exact ⟨rfl, _, _, rfl, hr1, fun t ht => by cases ht; rfl⟩)
 refine D3 ?_
 refine sP (P5 rfl rfl (by omega) (by omega)) rfl rfl ?_
 refine sQ (qA rfl) rfl (sD ?_)
 refine K7 j ?_ ?_ ?_
 exact D1
 (rw [A6d hcx (by assumption)] at hlk; exact ⟨by omega, hlk⟩)
 (show _ < _ + 1; omega)
 refine K4 ?_
 refine I2 (rC rfl (A2 rfl rfl)) (rT rfl) ?_
 (obtain rfl : i = 0 := (by omega); rw [X1] at hlk; rw [← hlk]; exact ⟨rfl, _, A7, rfl, N3 _ ⟨by omega, by omega⟩, fun t ht => by cases ht⟩)
theorem B3H {xs ys : List Ty} (h : xs.length = 2) (h' : ys.length = 2) : S7 xs ys = [V0 (xs[0]'(by omega)) (ys[0]'(by omega)), V0 (xs[1]'(by omega)) (ys[1]'(by omega))] := by
 match xs, ys, h, h' with
 | [a, b], [c, d], _, _ => rfl
theorem B3I {k k' : Int} {ks bs : List Ty} (h : K1 (.mk k ks) (.mk k' bs) = true) (hk : k ≠ 1) (hk' : k' ≠ 1) : k = k' ∧ N0 ks bs = true := by
 rw [S5] at h
 simpa [hk, hk'] using h
theorem A9e : ∀ (a b : Ty) (G : IM) (ca cb : List Value), K1 a b = true → E5 a → E5 b → B7 G a ca → B7 G b cb →
  Fn Tryz.prog 163 [.agg ⟨ca⟩, .agg ⟨cb⟩] [] G (A6x (V0 a b) G) := by
 refine Ty.ind fun k ks ih b G ca cb hc haa hab hra hrb => ?_
 have hsa := haa.small
 have hsb := hab.small
 obtain ⟨bk, bks⟩ := b
 have hra0 := hra
 have hrb0 := hrb
 have ha2 := haa
 have hb2 := hab
 rw [E5] at ha2 hb2
 have hkida := haa.kid
 have hkidb := hab.kid
 obtain ⟨p, c, es, rfl, hk, hsl, hkl⟩ := hra.open
 obtain ⟨p', c', es', rfl, hk', hsl', hkl'⟩ := hrb.open
 simp only [Ty.k, Ty.ks] at hk hsl hkl hk' hsl' hkl' ⊢
 have hn := hsl.le
 rw [A06]
 refine B2 Tryz.func163 rfl Tryz.ntmps163 Tryz.results163 rfl ?_
 intro w0
 refine tS (tR ?_)
 refine sE (B9 rfl rfl) rfl (fun b3 => ?_)
 refine sE (B9 rfl rfl) rfl (fun b4 => ?_)
 refine sE (A5 rfl) rfl (fun b5 => ?_)
 refine sD (nS (tS ?_))
 refine B4 ?_
 refine tS (tR (sQ (B1 rfl) rfl (sL (C0 rfl rfl) rfl rfl ?_)))
 refine sB (qE rfl rfl) rfl rfl (fun h14 => ?_) (fun h14 => ?_)
 refine C2 ?_
 (refine E0 rfl (A10 _ _ _ hsb hrb0) rfl rfl (fun v G1 hle1 hh => ?_); obtain ⟨cs1, F1, rfl, hs1, hn1⟩ := hh; obtain ⟨p1, c1, rfl, _⟩ := hs1.open; have hr1 := hs1.R.mono (C1.le G1 _))
 refine F9 ?_
 refine sD (nS (tT (rB (rS ?_))))
 refine D9 (rC rfl (A2 rfl rfl)) ?_
 (rw [if_pos (by omega)]; exact ⟨rfl, _, rfl, hr1⟩)
 refine D3 ?_
 refine sB (qE rfl rfl) rfl rfl (fun h39 => ?_) (fun h39 => ?_)
 refine J9 ?_
 (refine E0 rfl (A10 _ _ _ hsa hra0) rfl rfl (fun v G1 hle1 hh => ?_); obtain ⟨cs1, F1, rfl, hs1, hn1⟩ := hh; obtain ⟨p1, c1, rfl, _⟩ := hs1.open; have hr1 := hs1.R.mono (C1.le G1 _))
 refine F9 ?_
 refine sD (nS (tT (rB (rS ?_))))
 refine D9 (rC rfl (A2 rfl rfl)) ?_
 (rw [if_neg (by omega)]; split <;> first | exact ⟨rfl, _, rfl, hr1⟩ | (obtain rfl : ks = [] := List.length_eq_zero_iff.1 (by omega); rw [S7]; exact ⟨rfl, _, rfl, hr1⟩; simp))
 refine F0 ?_
 refine sB (qE rfl rfl) rfl rfl (fun h66 => ?_) (fun h66 => ?_)
 refine D3 ?_
 (refine E0 rfl (A10 _ _ _ hsa hra0) rfl rfl (fun v G1 hle1 hh => ?_); obtain ⟨cs1, F1, rfl, hs1, hn1⟩ := hh; obtain ⟨p1, c1, rfl, _⟩ := hs1.open; have hr1 := hs1.R.mono (C1.le G1 _))
 refine F9 ?_
 refine sD (nS (tT (rB (rS ?_))))
 refine D9 (rC rfl (A2 rfl rfl)) ?_
 (rw [if_neg (by omega)]; split <;> first | exact ⟨rfl, _, rfl, hr1⟩ | (obtain rfl : ks = [] := List.length_eq_zero_iff.1 (by omega); rw [S7]; exact ⟨rfl, _, rfl, hr1⟩; simp))
 refine D4 ?_
 (obtain ⟨hkk, hcl0⟩ := B3I hc (by omega) (by omega); subst hkk; have hcl := (A1X _ _).1 hcl0; have hlen : ks.length = 2 := (by have := ha2.2.1; have := ha2.1; omega); have hlen' : bks.length = 2 := (by omega); obtain ⟨b0, o0, q0, d0, hp0, hat0, hre0, hg0⟩ := hsl.kidTy hkl (i := 0) (by omega) (by omega); obtain ⟨b1, o1, q1, d1, hp1, hat1, hre1, hg1⟩ := hsl.kidTy hkl (i := 1) (by omega) (by omega); subst hp0; cases hp1; obtain ⟨b2, o2, q2, d2, hp2, hat2, hre2, hg2⟩ := hsl'.kidTy hkl' (i := 0) (by omega) (by omega); obtain ⟨b3, o3, q3, d3, hp3, hat3, hre3, hg3⟩ := hsl'.kidTy hkl' (i := 1) (by omega) (by omega); subst hp2; cases hp3; have hM1 := ih ks[0] (List.getElem_mem (by omega)) bks[0] G _ _ (hcl.2 0 (by omega) (by omega)) (hkida _ (List.getElem_mem (by omega))) (hkidb _ (List.getElem_mem (by omega))) hre0 hre2; refine E1 E2 rfl ?_)
 refine J5 (i := 0) (l' := [tt,ff,ff,ff,ff,ff,ff,ff,ff,ff,ff,ff,ff,ff,ff,ff,ff,ff,ff,ff,ff,ff]) rfl D5 (B1 rfl) rfl (by kernel_rfl) rfl rfl ?_
 refine aL 1 rfl (C0 rfl rfl) rfl ?_
 refine aP 2 rfl (B1 rfl) rfl ?_
 refine aL 3 rfl (C0 rfl rfl) rfl ?_
 refine aP 4 rfl (B3 (j := 0) rfl rfl rfl (by omega)) rfl ?_
 refine aL 5 rfl (A1 rfl rfl (hat0 _) rfl) rfl ?_
 refine aP 6 rfl (B1 rfl) rfl ?_
 refine aL 7 rfl (C0 rfl rfl) rfl ?_
 refine aP 8 rfl (B3 (j := 0) rfl rfl rfl (by omega)) rfl ?_
 refine aL 9 rfl (A1 rfl rfl (hat2 _) rfl) rfl ?_
 refine aP 11 rfl (B1 rfl) rfl ?_
 refine aL 12 rfl (C0 rfl rfl) rfl ?_
 refine aP 13 rfl (B3 (j := 1) rfl rfl rfl (by omega)) rfl ?_
 refine aL 14 rfl (A1 rfl rfl (hat1 _) rfl) rfl ?_
 refine aP 15 rfl (B1 rfl) rfl ?_
 refine aL 16 rfl (C0 rfl rfl) rfl ?_
 refine aP 17 rfl (B3 (j := 1) rfl rfl rfl (by omega)) rfl ?_
 refine aL 18 rfl (A1 rfl rfl (hat3 _) rfl) rfl ?_
 refine A3 10 ?_
 (refine K0 rfl rfl hM1 rfl rfl rfl (fun v G1 hle1 hh => ?_); obtain ⟨cm1, rfl, hm1⟩ := hh; have hM2 := ih ks[1] (List.getElem_mem (by omega)) bks[1] G1 _ _ (hcl.2 1 (by omega) (by omega)) (hkida _ (List.getElem_mem (by omega))) (hkidb _ (List.getElem_mem (by omega))) (hre1.mono hle1) (hre3.mono hle1))
 refine A3 19 ?_
 (refine K0 rfl rfl hM2 rfl rfl rfl (fun v G2 hle2 hh => ?_); obtain ⟨cm2, rfl, hm2⟩ := hh; have hB := A16 k _ _ G2 _ _ hk (hm1.mono hle2) hm2)
 refine A3 20 ?_
 (refine K0 rfl rfl hB rfl rfl rfl (fun v G3 hle3 hh => ?_); obtain ⟨cm3, rfl, hm3⟩ := hh; obtain ⟨p5, c5, e5, rfl, _⟩ := hm3.open)
 refine A3 21 ?_
 refine J0 rfl ?_
 refine C5 (nS (tT ?_))
 refine D9 (rC rfl (A2 rfl rfl)) ?_
 (rw [if_neg (by omega), if_neg (by omega)]; rw [B3H hlen hlen']; exact ⟨rfl, _, rfl, hm3⟩)
theorem A9f (G : IM) (p : Option Addr) (n c : Nat) (es : List (List Value)) (h : D0 G p n c 9 es) (h0 : 0 < n) (hn : n ≤ 4294967296) :
  Fn Tryz.prog 219 [.slice p n c] [] G (fun G' v outs => G' = G ∧ ∃ p' c', v = .slice p' n c' ∧ outs = [.slc p' c' 28 9 n es.flatten]) := by
 obtain ⟨hl, hc, hm, hat⟩ := h.sl
 obtain ⟨b, o, full, rfl, hg, hv⟩ := hat.resolve_left (by omega)
 have ho : ∀ u ∈ es.flatten, u.oneCell' = true := by
  intro u hu
  obtain ⟨e, he, hue⟩ := List.mem_flatten.1 hu
  exact List.all_eq_true.1 (h.one e he) u hue
 refine B2 Tryz.func219 rfl Tryz.ntmps219 Tryz.results219 rfl ?_
 intro w0
 refine D4 ?_
 refine sQ (A7q rfl rfl rfl) rfl ?_
 refine sD (nS (cF rfl (tK (nS (tS (tR ?_))))))
 (refine L9 (C9 rfl rfl rfl (by omega) (by unfold maxLen; omega) rfl) rfl ?_; rintro _ ⟨b18, rfl⟩)
 refine sQ (qM rfl) rfl ?_
 refine A4s rfl rfl rfl rfl rfl (fun _ _ => by repeat (first | exact Sw.here | apply Sw.there)) (A4j hg hv) hl ho (by unfold maxLen; omega) (by omega) rfl (fun pn cn => ?_)
 refine sQ (qA rfl) rfl (sD (nS (tT ?_)))
 refine H6 (rT rfl) A0.refl ?_
 exact ⟨rfl, _, _, by rw [Nat.zero_add], by rw [Nat.zero_add]; rfl⟩
theorem At.mono' {hp : List A4} {G G' : IM} {b o : Nat} {vs : List Value} (hg : B6 G G') (h : At [] G b o vs) : At hp G' b o vs := by
 rcases h with ⟨cs, hm, hv⟩ | ⟨n, c, el, sz, cs, hm, hv⟩ | ⟨full, hx, hv⟩
 ·cases hm
 ·cases hm
 ·exact .inr (.inr ⟨full, hg _ _ hx, hv⟩)
theorem D0.kidD {G : IM} {p : Option Addr} {n c : Nat} {es : List (List Value)} {ks : List Ty} (h : D0 G p n c 2 es) (hk : D2 G ks es) {i : Nat} (hi : i < n) (hn : i < ks.length) :
  ∃ b o q d, p = some ⟨b, o, none⟩ ∧ (∀ hp, At hp G b (o + i * 2) [.int .i64 (ks.getD i A7).k, .slice q (ks.getD i A7).ks.length d]) ∧ B7 G (ks.getD i A7) [.int .i64 (ks.getD i A7).k, .slice q (ks.getD i A7).ks.length d] ∧ G b ≠ none := by
 obtain ⟨b, o, q, d, h1, h2, h3, h4⟩ := h.kidTy hk hi hn
 rw [List.getD_eq_getElem?_getD, List.getElem?_eq_getElem hn, Option.getD_some]
 exact ⟨b, o, q, d, h1, h2, h3, h4⟩
theorem A21 {hs : List Ty} (h : ∀ t ∈ hs, E5 t) {i : Nat} (hi : i < hs.length) : E5 (hs.getD i A7) := by
 rw [List.getD_eq_getElem?_getD, List.getElem?_eq_getElem hi, Option.getD_some]
 exact h _ (List.getElem_mem hi)
def L6 (r : Option (List Ty × Ty)) (G : IM) : IM → Value → List A4 → Prop := L5 fun G' v => ∃ p n c es w cu u, v = .tuple ⟨[.slice p n c, .agg ⟨cu⟩, .bool r.isSome]⟩ ∧ n = w.length ∧ D0 G' p n c 2 es ∧ D2 G' w es ∧ B7 G' u cu ∧ ∀ q, r = some q → q = (w, u)
theorem L6.mk {r : Option (List Ty × Ty)} {G G' : IM} {p : Option Addr} {n c : Nat} {es : List (List Value)} {w : List Ty} {cu : List Value} {u : Ty} {b : Bool} (hl : n = w.length) (hs : Sl G' p n c 2 es.flatten) (hw : D2 G' w es) (hu : B7 G' u cu) (h : r = if b = true then some (w, u) else none) :
  L6 r G G' (.tuple ⟨[.slice p n c, .agg ⟨cu⟩, .bool b]⟩) [] := by
 refine ⟨rfl, p, n, c, es, w, cu, u, ?_, hl, D0.of hs (by rw [hw.len, hl]) hw.all (fun e he => (hw.each e he).2), hw, hu, ?_⟩
 ·subst h; cases b <;> rfl
 ·subst h; cases b
  ·simp
  ·intro q hq; simpa using hq.symm
theorem L6.nil {r : Option (List Ty × Ty)} {G G' : IM} {cu : List Value} {u : Ty} {b : Bool} (hu : B7 G' u cu) (h : r = if b = true then some ([], u) else none) :
  L6 r G G' (.tuple ⟨[.slice none 0 0, .agg ⟨cu⟩, .bool b]⟩) [] := L6.mk (es := []) rfl (Sl.nil _ _) (by simp [D2]) hu h
theorem L6.one {r : Option (List Ty × Ty)} {G G' : IM} {p : Option Addr} {c : Nat} {a : Ty} {ca : List Value} {cu : List Value} {u : Ty} {b : Bool} (hs : Sl G' p 1 c 2 ca) (ha : B7 G' a ca) (hu : B7 G' u cu) (h : r = if b = true then some ([a], u) else none) :
  L6 r G G' (.tuple ⟨[.slice p 1 c, .agg ⟨cu⟩, .bool b]⟩) [] := L6.mk (es := [ca]) (w := [a]) rfl (by simpa using hs) ⟨_, _, rfl, ha, rfl⟩ hu h
theorem L6.two {r : Option (List Ty × Ty)} {G G' : IM} {p : Option Addr} {c : Nat} {a a2 : Ty} {ca ca2 : List Value} {cu : List Value} {u : Ty} {b : Bool} (hs : Sl G' p 2 c 2 (ca ++ ca2)) (ha : B7 G' a ca) (ha2 : B7 G' a2 ca2) (hu : B7 G' u cu) (h : r = if b = true then some ([a, a2], u) else none) :
  L6 r G G' (.tuple ⟨[.slice p 2 c, .agg ⟨cu⟩, .bool b]⟩) [] := L6.mk (es := [ca, ca2]) (w := [a, a2]) rfl (by simpa using hs) ⟨_, _, rfl, ha, _, _, rfl, ha2, rfl⟩ hu h
theorem L6.three {r : Option (List Ty × Ty)} {G G' : IM} {p : Option Addr} {c : Nat} {a a2 a3 : Ty} {ca ca2 ca3 : List Value} {cu : List Value} {u : Ty} {b : Bool} (hs : Sl G' p 3 c 2 (ca ++ (ca2 ++ ca3))) (ha : B7 G' a ca) (ha2 : B7 G' a2 ca2) (ha3 : B7 G' a3 ca3) (hu : B7 G' u cu) (h : r = if b = true then some ([a, a2, a3], u) else none) :
  L6 r G G' (.tuple ⟨[.slice p 3 c, .agg ⟨cu⟩, .bool b]⟩) [] := L6.mk (es := [ca, ca2, ca3]) (w := [a, a2, a3]) rfl (by simpa using hs) ⟨_, _, rfl, ha, _, _, rfl, ha2, _, _, rfl, ha3, rfl⟩ hu h
section
variable {cx : Cx} {nm : ByteArray} {ty : Ty} {h : List Ty}
theorem mW1 : N2 cx 1 nm ty h = match W3 cx nm with | some t => some ([], t) | none => none := rfl
theorem mW2 : N2 cx 2 nm ty h = some ([], T1) := rfl
theorem A40 {k : Int} (hk : k = 3 ∨ k = 4) : N2 cx k nm ty h = some ([], Y0) := by rcases hk with rfl | rfl <;> rfl
theorem mW5 : N2 cx 5 nm ty h = some ([], .mk 4 [ty, h.getD 0 A7]) := rfl
theorem mW6 : N2 cx 6 nm ty h = match R3 4 (h.getD 0 A7) with | some (a, b) => if K1 (h.getD 1 A7) a = true then some ([.mk 4 [a, b], a], b) else none | none => none := rfl
theorem W9 {k : Int} (hk : k = 7 ∨ k = 8) : N2 cx k nm ty h = if K1 (h.getD 0 A7) T1 = true ∧ K1 (h.getD 1 A7) T1 = true then some ([T1, T1], if k = 8 then Y0 else T1) else none := by rcases hk with rfl | rfl <;> rfl
theorem mW9 : N2 cx 9 nm ty h = if K1 (h.getD 0 A7) Y0 = true ∧ K1 (h.getD 1 A7) (h.getD 2 A7) = true then some ([Y0, V0 (h.getD 1 A7) (h.getD 2 A7), V0 (h.getD 1 A7) (h.getD 2 A7)], V0 (h.getD 1 A7) (h.getD 2 A7)) else none := rfl
theorem A6z : N2 cx 10 nm ty h = some ([], .mk 5 [h.getD 0 A7, h.getD 1 A7]) := rfl
theorem A22 : N2 cx 13 nm ty h = if K1 (h.getD 0 A7) ty = true then some ([ty], ty) else none := rfl
theorem A3V {k : Int} (hk : k = 11 ∨ k = 12) : N2 cx k nm ty h = match R3 5 (h.getD 0 A7) with | some (a, b) => some ([.mk 5 [a, b]], if k = 12 then b else a) | none => none := by rcases hk with rfl | rfl <;> rfl
end
theorem L0 (G : IM) : B7 G T1 [.int .i64 2, .slice none 0 0] := N3 G ⟨by omega, by omega⟩
theorem A0l (G : IM) : B7 G Y0 [.int .i64 3, .slice none 0 0] := N3 G ⟨by omega, by omega⟩
theorem B3J (cx : Cx) (k : Int) (nm : ByteArray) (num : Int) (ty fr : Ty) (lb : Int) (ks : List Tm) (h : List Ty) (G : IM) (pc : Option Addr) (nc cc : Nat) (cells : List Value) (p : Option Addr) (n c : Nat) (es : List (List Value))
  (hx : T2 G cx pc nc cc) (hops : C7 k = n) (hnl : n = h.length) (hk14 : k ≠ 14) (hta : E5 ty) (hr : A8 G (.mk k nm num ty fr lb ks) cells) (hsl : D0 G p n c 2 es) (hkl : D2 G h es) (har : ∀ t ∈ h, E5 t) :
  Fn Tryz.prog 117 [.slice pc nc cc, .agg ⟨cells⟩, .slice p n c] [] G (L6 (N2 cx k nm ty h) G) := by
 have hone := hr.one
 have hop := A4R hops
 have hkr : 1 ≤ k ∧ k ≤ 14 := by
  apply Classical.byContradiction
  intro hc
  rw [A4v hc] at hops; omega
 obtain ⟨tyk, tyks⟩ := ty
 obtain ⟨fk, fks⟩ := fr
 obtain ⟨pt, ct, pf, cf, pk, ck, ek, rfl, hk, hnum, hlb, hrty, hrfr, _, _⟩ := hr.open9
 refine B2 Tryz.func117 rfl Tryz.ntmps117 Tryz.results117 rfl ?_
 intro w0
 refine tS (tR ?_)
 refine sE (B9 rfl rfl) rfl (fun b3 => ?_)
 refine sQ (qA rfl) rfl ?_
 refine sE (A5 rfl) rfl (fun b5 => ?_)
 refine sQ (qA rfl) rfl (sD (nS (tS (tR ?_))))
 refine H3 rfl ((A1g _ _)) rfl rfl ?_
 refine H3 rfl ((A1g _ _)) rfl rfl ?_
 refine sE (A5 rfl) rfl (fun b13 => ?_)
 refine sE (A5 rfl) rfl (fun b14 => ?_)
 refine I6 ?_
 refine B4 (tS (tR (sB (qE rfl rfl) rfl rfl (fun h29 => ?_) (fun h29 => ?_))))
 refine D4 ?_
 (refine E0 rfl (B3G G cx pc nc cc nm hx) rfl rfl (fun v G1 hle1 hh => ?_); obtain ⟨cu, u, rfl, hru, hu⟩ := hh; obtain ⟨p1, c1, e1, rfl, _⟩ := hru.open)
 refine K3 ?_
 refine sE (A5 rfl) rfl (fun b43 => ?_)
 refine F9 ?_
 refine sQ (qA rfl) rfl (sD (nS (tS ?_)))
 refine E1 E2 rfl ?_
 refine P9 (i := 0) (l' := [tt,ff,ff,ff,ff]) rfl D5 (A2 rfl rfl) rfl (by kernel_rfl) rfl rfl ?_
 refine aP 1 rfl (qM rfl) rfl ?_
 refine aP 2 rfl (qA rfl) rfl ?_
 refine A3 3 ?_
 refine J0 rfl ?_
 refine aP 4 rfl (qA rfl) rfl ?_
 refine C5 (nS (tT (rB (rS ?_))))
 refine C4 (rT rfl) (rC rfl (A2 rfl rfl)) (rT rfl) ?_
 (have hk1 : k = 1 := (by omega); subst hk1; rw [mW1]; refine L6.nil hru ?_; generalize W3 cx nm = r at hu ⊢; cases r with | none => rfl | some t => (rw [hu t rfl]; rfl))
 refine sQ (qA rfl) rfl (sD (nS (cF rfl (tS (tR ?_)))))
 refine sB (qE rfl rfl) rfl rfl (fun h69 => ?_) (fun h69 => ?_)
 refine sQ (qA rfl) rfl (sD (nS (qT rfl (tS ?_))))
 refine E1 E2 rfl ?_
 refine P9 (i := 0) (l' := [tt,ff,ff,ff]) rfl D5 (A2 rfl rfl) rfl (by kernel_rfl) rfl rfl ?_
 refine aP 1 rfl (qA rfl) rfl ?_
 refine A3 2 ?_
 refine J0 rfl ?_
 refine aP 3 rfl (qA rfl) rfl ?_
 refine C5 (nS (tT (rB (rS ?_))))
 refine C4 (rT rfl) (rC rfl (A2 rfl rfl)) (rT rfl) ?_
 (have hk1 : k = 2 := (by omega); subst hk1; exact L6.nil (L0 _) mW2)
 refine sQ (qA rfl) rfl (sD (nS (cF rfl (tS (tS (tR ?_))))))
 refine sB (qE rfl rfl) rfl rfl (fun h95 => ?_) (fun h95 => ?_)
 refine D3 ?_
 refine E1 E2 rfl ?_
 refine P9 (i := 0) (l' := [tt,ff,ff,ff]) rfl D5 (A2 rfl rfl) rfl (by kernel_rfl) rfl rfl ?_
 refine aP 1 rfl (qA rfl) rfl ?_
 refine A3 2 ?_
 refine J0 rfl ?_
 refine aP 3 rfl (qA rfl) rfl ?_
 refine C5 (nS (tT (rB (rS ?_))))
 refine C4 (rT rfl) (rC rfl (A2 rfl rfl)) (rT rfl) ?_
 (exact L6.nil (A0l _) (by rw [A40 (by omega)]; rfl))
 refine sQ (qA rfl) rfl (sD (nS (cF rfl (tR ?_))))
 refine sB (qE rfl rfl) rfl rfl (fun h122 => ?_) (fun h122 => ?_)
 refine sQ (qA rfl) rfl (sD (nS (qT rfl (tS ?_))))
 refine E1 E2 rfl ?_
 refine P9 (i := 0) (l' := [tt,ff,ff,ff]) rfl D5 (A2 rfl rfl) rfl (by kernel_rfl) rfl rfl ?_
 refine aP 1 rfl (qA rfl) rfl ?_
 refine A3 2 ?_
 refine J0 rfl ?_
 refine aP 3 rfl (qA rfl) rfl ?_
 refine C5 (nS (tT (rB (rS ?_))))
 refine C4 (rT rfl) (rC rfl (A2 rfl rfl)) (rT rfl) ?_
 (exact L6.nil (A0l _) (by rw [A40 (by omega)]; rfl))
 refine sQ (qA rfl) rfl (sD (nS (cF rfl (tS (tR ?_)))))
 refine sB (qE rfl rfl) rfl rfl (fun h147 => ?_) (fun h147 => ?_)
 refine sQ (qA rfl) rfl (sD (nS (qT rfl (tS ?_))))
 (have hl1 : n = 1 := hop.2.2 (by omega); obtain ⟨b0, o0, q0, d0, hp0, hat0, hre0, hg0⟩ := hsl.kidD hkl (i := 0) (by omega) (by omega); cases hp0; refine E1 E2 rfl ?_)
 refine J5 (i := 0) (l' := [tt,ff,ff,ff,ff,ff,ff,ff,ff]) rfl D5 (B1 rfl) rfl (by kernel_rfl) rfl rfl ?_
 refine aL 1 rfl (A2 rfl rfl) rfl ?_
 refine aP 2 rfl (qM rfl) rfl ?_
 refine aP 3 rfl (B3 (j := 0) rfl rfl rfl (by omega)) rfl ?_
 refine aL 4 rfl (A1 rfl rfl (hat0 _) rfl) rfl ?_
 refine A3 5 ?_
 (refine K0 rfl rfl (A16 4 _ _ _ _ _ ⟨by omega, by omega⟩ hrty hre0) rfl rfl rfl (fun v GB hleB hh => ?_); obtain ⟨cB, rfl, hrB⟩ := hh; obtain ⟨p7, c7, e7, rfl, _⟩ := hrB.open)
 refine aP 6 rfl (qA rfl) rfl ?_
 refine A3 7 ?_
 refine J0 rfl ?_
 refine aP 8 rfl (qA rfl) rfl ?_
 refine C5 (nS (tT (rB (rS ?_))))
 refine C4 (rT rfl) (rC rfl (A2 rfl rfl)) (rT rfl) ?_
 (have hk1 : k = 5 := (by omega); subst hk1; exact L6.nil hrB mW5)
 refine sQ (qA rfl) rfl (sD (nS (cF rfl (tS (tR ?_)))))
 refine sB (qE rfl rfl) rfl rfl (fun h178 => ?_) (fun h178 => ?_)
 refine C2 ?_
 (have hl2 : n = 2 := hop.1 (by omega); obtain ⟨b0, o0, q0, d0, hp0, hat0, hre0, hg0⟩ := hsl.kidD hkl (i := 0) (by omega) (by omega); cases hp0; refine sP (B3 (j := 0) rfl rfl rfl (by omega)) rfl rfl ?_)
 refine sL (A1 rfl rfl (hat0 _) rfl) rfl rfl ?_
 (refine E0 rfl (A9d 4 (h.getD 0 A7) G _ (.inl rfl) (A21 har (by omega)) hre0) rfl rfl (fun v G1 hle1 hh => ?_); obtain ⟨ma, mca, mb, mcb, rfl, hma, hmb, hma2, hmb2, hmm⟩ := hh; obtain ⟨p1, c1, e1, rfl, _⟩ := hma.open; obtain ⟨p2, c2, e2, rfl, _⟩ := hmb.open; replace hsl := hsl.mono hle1; replace hkl := hkl.mono hle1; generalize hmi : (R3 4 (h.getD 0 A7)).isSome = mi; cases mi)
 refine F0 ?_
 refine sE (A5 rfl) rfl (fun b193 => ?_)
 refine sE (A5 rfl) rfl (fun b194 => ?_)
 refine F9 ?_
 refine F9 ?_
 refine sQ (qA rfl) rfl (sD (nS (tS ?_)))
 (have hl2 : n = 2 := hop.1 (by omega); obtain ⟨b0, o0, q0, d0, hp0, hat0, hre0, hg0⟩ := hsl.kidD hkl (i := 0) (by omega) (by omega); obtain ⟨b1, o1, q1, d1, hp1, hat1, hre1, hg1⟩ := hsl.kidD hkl (i := 1) (by omega) (by omega); cases hp0; cases hp1; refine E1 E2 rfl ?_)
 refine P9 (i := 0) (l' := [tt,ff,ff,ff,ff,ff,ff,ff,ff,ff,ff,ff,ff,ff,ff,ff,ff]) rfl D5 (A2 rfl rfl) rfl (by kernel_rfl) rfl rfl ?_
 refine aL 1 rfl (A2 rfl rfl) rfl ?_
 refine aL 3 rfl (A2 rfl rfl) rfl ?_
 refine aL 5 rfl (A2 rfl rfl) rfl ?_
 refine aP 6 rfl (qM rfl) rfl ?_
 refine A3 2 ?_
 (refine K0 rfl rfl (A16 _ ma mb _ _ _ ⟨by omega, by omega⟩ hma hmb) rfl rfl rfl (fun v GB hleB hh => ?_); obtain ⟨cB, rfl, hrB⟩ := hh; obtain ⟨p7, c7, e7, rfl, _⟩ := hrB.open; have hma' := hma.mono hleB; have hmb' := hmb.mono hleB)
 refine aP 7 rfl (qM rfl) rfl ?_
 refine B5 8 rfl rfl rfl ?_
 refine B5 9 rfl rfl rfl ?_
 refine B5 10 rfl rfl rfl ?_
 refine B5 11 rfl rfl rfl ?_
 refine V3 (j := 4) (j' := 12) (by kernel_rfl) ?_ ?_
 (refine E4 rfl (C9 rfl rfl rfl (by omega) (by unfold maxLen; omega) rfl) rfl rfl ?_; rintro _ ⟨b215, rfl⟩)
 refine B5 12 rfl rfl rfl ?_
 refine aP 13 rfl (O3 rfl rfl) rfl ?_
 refine aP 14 rfl (qA rfl) rfl ?_
 refine A3 15 ?_
 refine J0 rfl ?_
 refine aP 16 rfl (qA rfl) rfl ?_
 refine C5 (nS ?_)
 (refine I5 Pk.here (fun G5 hle5 hsl5 hno5 => ?_))
 refine tT (rB (rS ?_))
 refine C4 (rT rfl) (rC rfl (A2 rfl rfl)) (rT rfl) ?_
 (have hk1 : k = 6 := (by omega); subst hk1; refine L6.two hsl5 (hrB.mono hle5) (hma'.mono hle5) (hmb'.mono hle5) ?_; rw [mW6]; cases hq : R3 4 (h.getD 0 A7) with | none => rfl | some q => (rw [hq] at hmi; cases hmi))
 refine A5Q (l' := [tt,tt,tt,tt,ff,tt,tt,tt,tt,tt,tt,tt,tt,ff,ff,ff,ff]) rfl rfl rfl rfl ?_
 refine aP 13 rfl (O3 rfl rfl) rfl ?_
 refine A3 4 ?_
 (refine E4 rfl (C9 rfl rfl rfl (by omega) (by unfold maxLen; omega) rfl) rfl rfl ?_; rintro _ ⟨b233, rfl⟩)
 refine aP 14 rfl (qA rfl) rfl ?_
 refine A3 15 ?_
 refine J0 rfl ?_
 refine aP 16 rfl (qA rfl) rfl ?_
 refine C5 (nS ?_)
 (refine I5 Pk.here (fun G5 hle5 hsl5 hno5 => ?_))
 refine tT (rB (rS ?_))
 refine C4 (rT rfl) (rC rfl (A2 rfl rfl)) (rT rfl) ?_
 (have hk1 : k = 6 := (by omega); subst hk1; refine L6.two hsl5 (hrB.mono hle5) (hma'.mono hle5) (hmb'.mono hle5) ?_; rw [mW6]; cases hq : R3 4 (h.getD 0 A7) with | none => rfl | some q => (rw [hq] at hmi; cases hmi))
 refine F0 ?_
 refine sE (A5 rfl) rfl (fun b250 => ?_)
 refine sE (A5 rfl) rfl (fun b251 => ?_)
 refine F9 ?_
 refine F9 ?_
 refine sQ (qA rfl) rfl (sD (nS (tS ?_)))
 (have hl2 : n = 2 := hop.1 (by omega); obtain ⟨b0, o0, q0, d0, hp0, hat0, hre0, hg0⟩ := hsl.kidD hkl (i := 0) (by omega) (by omega); obtain ⟨b1, o1, q1, d1, hp1, hat1, hre1, hg1⟩ := hsl.kidD hkl (i := 1) (by omega) (by omega); cases hp0; cases hp1; refine E1 E2 rfl ?_)
 refine P9 (i := 0) (l' := [tt,ff,ff,ff,ff,ff,ff,ff,ff,ff,ff,ff,ff,ff,ff,ff,ff]) rfl D5 (A2 rfl rfl) rfl (by kernel_rfl) rfl rfl ?_
 refine aL 1 rfl (A2 rfl rfl) rfl ?_
 refine aL 3 rfl (A2 rfl rfl) rfl ?_
 refine aL 5 rfl (A2 rfl rfl) rfl ?_
 refine aP 6 rfl (qM rfl) rfl ?_
 refine A3 2 ?_
 (refine K0 rfl rfl (A16 _ ma mb _ _ _ ⟨by omega, by omega⟩ hma hmb) rfl rfl rfl (fun v GB hleB hh => ?_); obtain ⟨cB, rfl, hrB⟩ := hh; obtain ⟨p7, c7, e7, rfl, _⟩ := hrB.open; have hma' := hma.mono hleB; have hmb' := hmb.mono hleB)
 refine aP 7 rfl (qM rfl) rfl ?_
 refine aP 8 rfl (qM rfl) rfl ?_
 refine aP 9 rfl (B3 (j := 1) rfl rfl rfl (by omega)) rfl ?_
 refine aL 10 rfl (A1 rfl rfl (At.mono' hleB (hat1 _)) rfl) rfl ?_
 refine aL 11 rfl (A2 rfl rfl) rfl ?_
 refine V3 (j := 4) (j' := 12) (by kernel_rfl) ?_ ?_
 (refine E4 rfl (C9 rfl rfl rfl (by omega) (by unfold maxLen; omega) rfl) rfl rfl ?_; rintro _ ⟨b272, rfl⟩)
 refine A3 12 ?_
 refine U7 rfl rfl ((Z8 _ _ _ _ _ (hre1.mono hleB) hma')) rfl rfl rfl (fun h274 => ?_) (fun h274 => ?_)
 refine aP 13 rfl (L4 rfl rfl) rfl ?_
 refine aP 14 rfl (qA rfl) rfl ?_
 refine A3 15 ?_
 refine J0 rfl ?_
 refine aP 16 rfl (qA rfl) rfl ?_
 refine C5 (nS ?_)
 (refine I5 Pk.here (fun G5 hle5 hsl5 hno5 => ?_))
 refine tT (rB (rS ?_))
 refine C4 (rT rfl) (rC rfl (A2 rfl rfl)) (rT rfl) ?_
 (have hk1 : k = 6 := (by omega); subst hk1; refine L6.two hsl5 (hrB.mono hle5) (hma'.mono hle5) (hmb'.mono hle5) ?_; rw [mW6]; cases hq : R3 4 (h.getD 0 A7) with | none => (rw [hq] at hmi; cases hmi) | some q => (have hq2 := hmm q hq; subst hq2; dsimp only; split <;> first | rfl | (exfalso; simp_all; done)))
 refine aP 13 rfl (L4 rfl rfl) rfl ?_
 refine aP 14 rfl (qA rfl) rfl ?_
 refine A3 15 ?_
 refine J0 rfl ?_
 refine aP 16 rfl (qA rfl) rfl ?_
 refine C5 (nS ?_)
 (refine I5 Pk.here (fun G5 hle5 hsl5 hno5 => ?_))
 refine tT (rB (rS ?_))
 refine C4 (rT rfl) (rC rfl (A2 rfl rfl)) (rT rfl) ?_
 (have hk1 : k = 6 := (by omega); subst hk1; refine L6.two hsl5 (hrB.mono hle5) (hma'.mono hle5) (hmb'.mono hle5) ?_; rw [mW6]; cases hq : R3 4 (h.getD 0 A7) with | none => (rw [hq] at hmi; cases hmi) | some q => (have hq2 := hmm q hq; subst hq2; dsimp only; split <;> first | rfl | (exfalso; simp_all; done)))
 refine U7 rfl rfl ((Z8 _ _ _ _ _ (hre1.mono hleB) hma')) rfl rfl rfl (fun h301 => ?_) (fun h301 => ?_)
 refine aP 13 rfl (L4 rfl rfl) rfl ?_
 refine A3 4 ?_
 (refine E4 rfl (C9 rfl rfl rfl (by omega) (by unfold maxLen; omega) rfl) rfl rfl ?_; rintro _ ⟨b304, rfl⟩)
 refine aP 14 rfl (qA rfl) rfl ?_
 refine A3 15 ?_
 refine J0 rfl ?_
 refine aP 16 rfl (qA rfl) rfl ?_
 refine C5 (nS ?_)
 (refine I5 Pk.here (fun G5 hle5 hsl5 hno5 => ?_))
 refine tT (rB (rS ?_))
 refine C4 (rT rfl) (rC rfl (A2 rfl rfl)) (rT rfl) ?_
 (have hk1 : k = 6 := (by omega); subst hk1; refine L6.two hsl5 (hrB.mono hle5) (hma'.mono hle5) (hmb'.mono hle5) ?_; rw [mW6]; cases hq : R3 4 (h.getD 0 A7) with | none => (rw [hq] at hmi; cases hmi) | some q => (have hq2 := hmm q hq; subst hq2; dsimp only; split <;> first | rfl | (exfalso; simp_all; done)))
 refine aP 13 rfl (L4 rfl rfl) rfl ?_
 refine A3 4 ?_
 (refine E4 rfl (C9 rfl rfl rfl (by omega) (by unfold maxLen; omega) rfl) rfl rfl ?_; rintro _ ⟨b319, rfl⟩)
 refine aP 14 rfl (qA rfl) rfl ?_
 refine A3 15 ?_
 refine J0 rfl ?_
 refine aP 16 rfl (qA rfl) rfl ?_
 refine C5 (nS ?_)
 (refine I5 Pk.here (fun G5 hle5 hsl5 hno5 => ?_))
 refine tT (rB (rS ?_))
 refine C4 (rT rfl) (rC rfl (A2 rfl rfl)) (rT rfl) ?_
 (have hk1 : k = 6 := (by omega); subst hk1; refine L6.two hsl5 (hrB.mono hle5) (hma'.mono hle5) (hmb'.mono hle5) ?_; rw [mW6]; cases hq : R3 4 (h.getD 0 A7) with | none => (rw [hq] at hmi; cases hmi) | some q => (have hq2 := hmm q hq; subst hq2; dsimp only; split <;> first | rfl | (exfalso; simp_all; done)))
 refine sQ (qA rfl) rfl (sD (nS (cF rfl (tS (tS (tR ?_))))))
 refine sB (qE rfl rfl) rfl rfl (fun h339 => ?_) (fun h339 => ?_)
 refine I9 ?_
 refine sE (A5 rfl) rfl (fun b350 => ?_)
 refine D3 ?_
 refine sP (H4 rfl rfl (by omega)) rfl rfl ?_
 refine sD (nS (cF rfl (tK (nS (tS ?_)))))
 (have hl2 : n = 2 := hop.1 (by omega); obtain ⟨b0, o0, q0, d0, hp0, hat0, hre0, hg0⟩ := hsl.kidD hkl (i := 0) (by omega) (by omega); obtain ⟨b1, o1, q1, d1, hp1, hat1, hre1, hg1⟩ := hsl.kidD hkl (i := 1) (by omega) (by omega); cases hp0; cases hp1; refine E1 E2 rfl ?_)
 refine P9 (i := 0) (l' := [tt,ff,ff,ff,ff,ff,ff,ff,ff,ff,ff,ff,ff,ff,ff,ff,ff,ff,ff]) rfl D5 (A2 rfl rfl) rfl (by kernel_rfl) rfl rfl ?_
 refine aL 1 rfl (A2 rfl rfl) rfl ?_
 refine aL 3 rfl (A2 rfl rfl) rfl ?_
 refine aP 4 rfl (qM rfl) rfl ?_
 refine aP 5 rfl (B3 (j := 0) rfl rfl rfl (by omega)) rfl ?_
 refine aL 6 rfl (A1 rfl rfl (hat0 _) rfl) rfl ?_
 refine aL 7 rfl (A2 rfl rfl) rfl ?_
 refine V3 (j := 2) (j' := 8) (by kernel_rfl) ?_ ?_
 (refine E4 rfl (C9 rfl rfl rfl (by omega) (by unfold maxLen; omega) rfl) rfl rfl ?_; rintro _ ⟨b375, rfl⟩)
 refine A3 8 ?_
 refine U7 rfl rfl ((Z8 _ _ _ _ _ hre0 (L0 _))) rfl rfl rfl (fun h377 => ?_) (fun h377 => ?_)
 refine aP 9 rfl (qM rfl) rfl ?_
 refine aP 10 rfl (qM rfl) rfl ?_
 refine aP 11 rfl (B3 (j := 1) rfl rfl rfl (by omega)) rfl ?_
 refine aL 12 rfl (A1 rfl rfl (hat1 _) rfl) rfl ?_
 refine aL 13 rfl (A2 rfl rfl) rfl ?_
 refine A3 14 ?_
 refine U7 rfl rfl ((Z8 _ _ _ _ _ hre1 (L0 _))) rfl rfl rfl (fun h384 => ?_) (fun h384 => ?_)
 refine aP 15 rfl (L4 rfl rfl) rfl ?_
 refine aP 16 rfl (qA rfl) rfl ?_
 refine A3 17 ?_
 refine J0 rfl ?_
 refine aP 18 rfl (qA rfl) rfl ?_
 refine C5 (nS ?_)
 (refine I5 Pk.here (fun G5 hle5 hsl5 hno5 => ?_))
 refine tT (rB (rS ?_))
 refine C4 (rT rfl) (rC rfl (A2 rfl rfl)) (rT rfl) ?_
 (refine L6.two hsl5 (L0 _) (L0 _) (L0 _) ?_; rw [W9 (by omega)]; first | (rw [if_pos ⟨by assumption, by assumption⟩, if_neg (by omega)]; rfl) | (rw [if_neg (fun hc => by first | exact Bool.noConfusion (hc.1.symm.trans (by assumption)) | exact Bool.noConfusion (hc.2.symm.trans (by assumption)) | exact Bool.noConfusion (hc.symm.trans (by assumption)))]; rfl))
 refine aP 15 rfl (L4 rfl rfl) rfl ?_
 refine aP 16 rfl (qA rfl) rfl ?_
 refine A3 17 ?_
 refine J0 rfl ?_
 refine aP 18 rfl (qA rfl) rfl ?_
 refine C5 (nS ?_)
 (refine I5 Pk.here (fun G5 hle5 hsl5 hno5 => ?_))
 refine tT (rB (rS ?_))
 refine C4 (rT rfl) (rC rfl (A2 rfl rfl)) (rT rfl) ?_
 (refine L6.two hsl5 (L0 _) (L0 _) (L0 _) ?_; rw [W9 (by omega)]; first | (rw [if_pos ⟨by assumption, by assumption⟩, if_neg (by omega)]; rfl) | (rw [if_neg (fun hc => by first | exact Bool.noConfusion (hc.1.symm.trans (by assumption)) | exact Bool.noConfusion (hc.2.symm.trans (by assumption)) | exact Bool.noConfusion (hc.symm.trans (by assumption)))]; rfl))
 refine aP 9 rfl (qM rfl) rfl ?_
 refine B5 10 rfl rfl rfl ?_
 refine B5 11 rfl rfl rfl ?_
 refine B5 12 rfl rfl rfl ?_
 refine B5 13 rfl rfl rfl ?_
 refine B5 14 rfl rfl rfl ?_
 refine aP 15 rfl (O3 rfl rfl) rfl ?_
 refine aP 16 rfl (qA rfl) rfl ?_
 refine A3 17 ?_
 refine J0 rfl ?_
 refine aP 18 rfl (qA rfl) rfl ?_
 refine C5 (nS ?_)
 (refine I5 Pk.here (fun G5 hle5 hsl5 hno5 => ?_))
 refine tT (rB (rS ?_))
 refine C4 (rT rfl) (rC rfl (A2 rfl rfl)) (rT rfl) ?_
 (refine L6.two hsl5 (L0 _) (L0 _) (L0 _) ?_; rw [W9 (by omega)]; first | (rw [if_pos ⟨by assumption, by assumption⟩, if_neg (by omega)]; rfl) | (rw [if_neg (fun hc => by first | exact Bool.noConfusion (hc.1.symm.trans (by assumption)) | exact Bool.noConfusion (hc.2.symm.trans (by assumption)) | exact Bool.noConfusion (hc.symm.trans (by assumption)))]; rfl))
 refine U7 rfl rfl ((Z8 _ _ _ _ _ hre0 (L0 _))) rfl rfl rfl (fun h430 => ?_) (fun h430 => ?_)
 refine aP 9 rfl (qM rfl) rfl ?_
 refine aP 10 rfl (qM rfl) rfl ?_
 refine aP 11 rfl (B3 (j := 1) rfl rfl rfl (by omega)) rfl ?_
 refine aL 12 rfl (A1 rfl rfl (hat1 _) rfl) rfl ?_
 refine aL 13 rfl (A2 rfl rfl) rfl ?_
 refine V3 (j := 2) (j' := 14) (by kernel_rfl) ?_ ?_
 (refine E4 rfl (C9 rfl rfl rfl (by omega) (by unfold maxLen; omega) rfl) rfl rfl ?_; rintro _ ⟨b437, rfl⟩)
 refine A3 14 ?_
 refine U7 rfl rfl ((Z8 _ _ _ _ _ hre1 (L0 _))) rfl rfl rfl (fun h439 => ?_) (fun h439 => ?_)
 refine aP 15 rfl (L4 rfl rfl) rfl ?_
 refine aP 16 rfl (qA rfl) rfl ?_
 refine A3 17 ?_
 refine J0 rfl ?_
 refine aP 18 rfl (qA rfl) rfl ?_
 refine C5 (nS ?_)
 (refine I5 Pk.here (fun G5 hle5 hsl5 hno5 => ?_))
 refine tT (rB (rS ?_))
 refine C4 (rT rfl) (rC rfl (A2 rfl rfl)) (rT rfl) ?_
 (refine L6.two hsl5 (L0 _) (L0 _) (L0 _) ?_; rw [W9 (by omega)]; first | (rw [if_pos ⟨by assumption, by assumption⟩, if_neg (by omega)]; rfl) | (rw [if_neg (fun hc => by first | exact Bool.noConfusion (hc.1.symm.trans (by assumption)) | exact Bool.noConfusion (hc.2.symm.trans (by assumption)) | exact Bool.noConfusion (hc.symm.trans (by assumption)))]; rfl))
 refine aP 15 rfl (L4 rfl rfl) rfl ?_
 refine aP 16 rfl (qA rfl) rfl ?_
 refine A3 17 ?_
 refine J0 rfl ?_
 refine aP 18 rfl (qA rfl) rfl ?_
 refine C5 (nS ?_)
 (refine I5 Pk.here (fun G5 hle5 hsl5 hno5 => ?_))
 refine tT (rB (rS ?_))
 refine C4 (rT rfl) (rC rfl (A2 rfl rfl)) (rT rfl) ?_
 (refine L6.two hsl5 (L0 _) (L0 _) (L0 _) ?_; rw [W9 (by omega)]; first | (rw [if_pos ⟨by assumption, by assumption⟩, if_neg (by omega)]; rfl) | (rw [if_neg (fun hc => by first | exact Bool.noConfusion (hc.1.symm.trans (by assumption)) | exact Bool.noConfusion (hc.2.symm.trans (by assumption)) | exact Bool.noConfusion (hc.symm.trans (by assumption)))]; rfl))
 refine U7 rfl rfl ((Z8 _ _ _ _ _ hre1 (L0 _))) rfl rfl rfl (fun h466 => ?_) (fun h466 => ?_)
 refine aP 15 rfl (L4 rfl rfl) rfl ?_
 refine A3 2 ?_
 (refine E4 rfl (C9 rfl rfl rfl (by omega) (by unfold maxLen; omega) rfl) rfl rfl ?_; rintro _ ⟨b469, rfl⟩)
 refine aP 16 rfl (qA rfl) rfl ?_
 refine A3 17 ?_
 refine J0 rfl ?_
 refine aP 18 rfl (qA rfl) rfl ?_
 refine C5 (nS ?_)
 (refine I5 Pk.here (fun G5 hle5 hsl5 hno5 => ?_))
 refine tT (rB (rS ?_))
 refine C4 (rT rfl) (rC rfl (A2 rfl rfl)) (rT rfl) ?_
 (refine L6.two hsl5 (L0 _) (L0 _) (L0 _) ?_; rw [W9 (by omega)]; first | (rw [if_pos ⟨by assumption, by assumption⟩, if_neg (by omega)]; rfl) | (rw [if_neg (fun hc => by first | exact Bool.noConfusion (hc.1.symm.trans (by assumption)) | exact Bool.noConfusion (hc.2.symm.trans (by assumption)) | exact Bool.noConfusion (hc.symm.trans (by assumption)))]; rfl))
 refine aP 15 rfl (L4 rfl rfl) rfl ?_
 refine A3 2 ?_
 (refine E4 rfl (C9 rfl rfl rfl (by omega) (by unfold maxLen; omega) rfl) rfl rfl ?_; rintro _ ⟨b484, rfl⟩)
 refine aP 16 rfl (qA rfl) rfl ?_
 refine A3 17 ?_
 refine J0 rfl ?_
 refine aP 18 rfl (qA rfl) rfl ?_
 refine C5 (nS ?_)
 (refine I5 Pk.here (fun G5 hle5 hsl5 hno5 => ?_))
 refine tT (rB (rS ?_))
 refine C4 (rT rfl) (rC rfl (A2 rfl rfl)) (rT rfl) ?_
 (refine L6.two hsl5 (L0 _) (L0 _) (L0 _) ?_; rw [W9 (by omega)]; first | (rw [if_pos ⟨by assumption, by assumption⟩, if_neg (by omega)]; rfl) | (rw [if_neg (fun hc => by first | exact Bool.noConfusion (hc.1.symm.trans (by assumption)) | exact Bool.noConfusion (hc.2.symm.trans (by assumption)) | exact Bool.noConfusion (hc.symm.trans (by assumption)))]; rfl))
 refine aP 9 rfl (qM rfl) rfl ?_
 refine B5 10 rfl rfl rfl ?_
 refine B5 11 rfl rfl rfl ?_
 refine B5 12 rfl rfl rfl ?_
 refine B5 13 rfl rfl rfl ?_
 refine V3 (j := 2) (j' := 14) (by kernel_rfl) ?_ ?_
 (refine E4 rfl (C9 rfl rfl rfl (by omega) (by unfold maxLen; omega) rfl) rfl rfl ?_; rintro _ ⟨b503, rfl⟩)
 refine B5 14 rfl rfl rfl ?_
 refine aP 15 rfl (O3 rfl rfl) rfl ?_
 refine aP 16 rfl (qA rfl) rfl ?_
 refine A3 17 ?_
 refine J0 rfl ?_
 refine aP 18 rfl (qA rfl) rfl ?_
 refine C5 (nS ?_)
 (refine I5 Pk.here (fun G5 hle5 hsl5 hno5 => ?_))
 refine tT (rB (rS ?_))
 refine C4 (rT rfl) (rC rfl (A2 rfl rfl)) (rT rfl) ?_
 (refine L6.two hsl5 (L0 _) (L0 _) (L0 _) ?_; rw [W9 (by omega)]; first | (rw [if_pos ⟨by assumption, by assumption⟩, if_neg (by omega)]; rfl) | (rw [if_neg (fun hc => by first | exact Bool.noConfusion (hc.1.symm.trans (by assumption)) | exact Bool.noConfusion (hc.2.symm.trans (by assumption)) | exact Bool.noConfusion (hc.symm.trans (by assumption)))]; rfl))
 refine A5Q (l' := [tt,tt,ff,tt,tt,tt,tt,tt,tt,tt,tt,tt,tt,tt,tt,ff,ff,ff,ff]) rfl rfl rfl rfl ?_
 refine aP 15 rfl (O3 rfl rfl) rfl ?_
 refine A3 2 ?_
 (refine E4 rfl (C9 rfl rfl rfl (by omega) (by unfold maxLen; omega) rfl) rfl rfl ?_; rintro _ ⟨b521, rfl⟩)
 refine aP 16 rfl (qA rfl) rfl ?_
 refine A3 17 ?_
 refine J0 rfl ?_
 refine aP 18 rfl (qA rfl) rfl ?_
 refine C5 (nS ?_)
 (refine I5 Pk.here (fun G5 hle5 hsl5 hno5 => ?_))
 refine tT (rB (rS ?_))
 refine C4 (rT rfl) (rC rfl (A2 rfl rfl)) (rT rfl) ?_
 (refine L6.two hsl5 (L0 _) (L0 _) (L0 _) ?_; rw [W9 (by omega)]; first | (rw [if_pos ⟨by assumption, by assumption⟩, if_neg (by omega)]; rfl) | (rw [if_neg (fun hc => by first | exact Bool.noConfusion (hc.1.symm.trans (by assumption)) | exact Bool.noConfusion (hc.2.symm.trans (by assumption)) | exact Bool.noConfusion (hc.symm.trans (by assumption)))]; rfl))
 refine sQ (qA rfl) rfl (sD (nS (cF rfl (tR ?_))))
 refine sB (qE rfl rfl) rfl rfl (fun h539 => ?_) (fun h539 => ?_)
 refine C2 ?_
 refine sE (A5 rfl) rfl (fun b547 => ?_)
 refine D3 ?_
 refine sP (T5 rfl rfl (by omega)) rfl rfl ?_
 refine D4 ?_
 (have hl2 : n = 2 := hop.1 (by omega); obtain ⟨b0, o0, q0, d0, hp0, hat0, hre0, hg0⟩ := hsl.kidD hkl (i := 0) (by omega) (by omega); obtain ⟨b1, o1, q1, d1, hp1, hat1, hre1, hg1⟩ := hsl.kidD hkl (i := 1) (by omega) (by omega); cases hp0; cases hp1; refine E1 E2 rfl ?_)
 refine P9 (i := 0) (l' := [tt,ff,ff,ff,ff,ff,ff,ff,ff,ff,ff,ff,ff,ff,ff,ff,ff,ff,ff]) rfl D5 (A2 rfl rfl) rfl (by kernel_rfl) rfl rfl ?_
 refine aL 1 rfl (A2 rfl rfl) rfl ?_
 refine aL 3 rfl (A2 rfl rfl) rfl ?_
 refine aP 4 rfl (qM rfl) rfl ?_
 refine aP 5 rfl (B3 (j := 0) rfl rfl rfl (by omega)) rfl ?_
 refine aL 6 rfl (A1 rfl rfl (hat0 _) rfl) rfl ?_
 refine aL 7 rfl (A2 rfl rfl) rfl ?_
 refine V3 (j := 2) (j' := 8) (by kernel_rfl) ?_ ?_
 (refine E4 rfl (C9 rfl rfl rfl (by omega) (by unfold maxLen; omega) rfl) rfl rfl ?_; rintro _ ⟨b575, rfl⟩)
 refine A3 8 ?_
 refine U7 rfl rfl ((Z8 _ _ _ _ _ hre0 (L0 _))) rfl rfl rfl (fun h577 => ?_) (fun h577 => ?_)
 refine aP 9 rfl (qM rfl) rfl ?_
 refine aP 10 rfl (qM rfl) rfl ?_
 refine aP 11 rfl (B3 (j := 1) rfl rfl rfl (by omega)) rfl ?_
 refine aL 12 rfl (A1 rfl rfl (hat1 _) rfl) rfl ?_
 refine aL 13 rfl (A2 rfl rfl) rfl ?_
 refine A3 14 ?_
 refine U7 rfl rfl ((Z8 _ _ _ _ _ hre1 (L0 _))) rfl rfl rfl (fun h584 => ?_) (fun h584 => ?_)
 refine aP 15 rfl (L4 rfl rfl) rfl ?_
 refine aP 16 rfl (qA rfl) rfl ?_
 refine A3 17 ?_
 refine J0 rfl ?_
 refine aP 18 rfl (qA rfl) rfl ?_
 refine C5 (nS ?_)
 (refine I5 Pk.here (fun G5 hle5 hsl5 hno5 => ?_))
 refine tT (rB (rS ?_))
 refine C4 (rT rfl) (rC rfl (A2 rfl rfl)) (rT rfl) ?_
 (refine L6.two hsl5 (L0 _) (L0 _) (A0l _) ?_; rw [W9 (by omega)]; first | (rw [if_pos ⟨by assumption, by assumption⟩, if_pos (by omega)]; rfl) | (rw [if_neg (fun hc => by first | exact Bool.noConfusion (hc.1.symm.trans (by assumption)) | exact Bool.noConfusion (hc.2.symm.trans (by assumption)) | exact Bool.noConfusion (hc.symm.trans (by assumption)))]; rfl))
 refine aP 15 rfl (L4 rfl rfl) rfl ?_
 refine aP 16 rfl (qA rfl) rfl ?_
 refine A3 17 ?_
 refine J0 rfl ?_
 refine aP 18 rfl (qA rfl) rfl ?_
 refine C5 (nS ?_)
 (refine I5 Pk.here (fun G5 hle5 hsl5 hno5 => ?_))
 refine tT (rB (rS ?_))
 refine C4 (rT rfl) (rC rfl (A2 rfl rfl)) (rT rfl) ?_
 (refine L6.two hsl5 (L0 _) (L0 _) (A0l _) ?_; rw [W9 (by omega)]; first | (rw [if_pos ⟨by assumption, by assumption⟩, if_pos (by omega)]; rfl) | (rw [if_neg (fun hc => by first | exact Bool.noConfusion (hc.1.symm.trans (by assumption)) | exact Bool.noConfusion (hc.2.symm.trans (by assumption)) | exact Bool.noConfusion (hc.symm.trans (by assumption)))]; rfl))
 refine aP 9 rfl (qM rfl) rfl ?_
 refine B5 10 rfl rfl rfl ?_
 refine B5 11 rfl rfl rfl ?_
 refine B5 12 rfl rfl rfl ?_
 refine B5 13 rfl rfl rfl ?_
 refine B5 14 rfl rfl rfl ?_
 refine aP 15 rfl (O3 rfl rfl) rfl ?_
 refine aP 16 rfl (qA rfl) rfl ?_
 refine A3 17 ?_
 refine J0 rfl ?_
 refine aP 18 rfl (qA rfl) rfl ?_
 refine C5 (nS ?_)
 (refine I5 Pk.here (fun G5 hle5 hsl5 hno5 => ?_))
 refine tT (rB (rS ?_))
 refine C4 (rT rfl) (rC rfl (A2 rfl rfl)) (rT rfl) ?_
 (refine L6.two hsl5 (L0 _) (L0 _) (A0l _) ?_; rw [W9 (by omega)]; first | (rw [if_pos ⟨by assumption, by assumption⟩, if_pos (by omega)]; rfl) | (rw [if_neg (fun hc => by first | exact Bool.noConfusion (hc.1.symm.trans (by assumption)) | exact Bool.noConfusion (hc.2.symm.trans (by assumption)) | exact Bool.noConfusion (hc.symm.trans (by assumption)))]; rfl))
 refine U7 rfl rfl ((Z8 _ _ _ _ _ hre0 (L0 _))) rfl rfl rfl (fun h630 => ?_) (fun h630 => ?_)
 refine aP 9 rfl (qM rfl) rfl ?_
 refine aP 10 rfl (qM rfl) rfl ?_
 refine aP 11 rfl (B3 (j := 1) rfl rfl rfl (by omega)) rfl ?_
 refine aL 12 rfl (A1 rfl rfl (hat1 _) rfl) rfl ?_
 refine aL 13 rfl (A2 rfl rfl) rfl ?_
 refine V3 (j := 2) (j' := 14) (by kernel_rfl) ?_ ?_
 (refine E4 rfl (C9 rfl rfl rfl (by omega) (by unfold maxLen; omega) rfl) rfl rfl ?_; rintro _ ⟨b637, rfl⟩)
 refine A3 14 ?_
 refine U7 rfl rfl ((Z8 _ _ _ _ _ hre1 (L0 _))) rfl rfl rfl (fun h639 => ?_) (fun h639 => ?_)
 refine aP 15 rfl (L4 rfl rfl) rfl ?_
 refine aP 16 rfl (qA rfl) rfl ?_
 refine A3 17 ?_
 refine J0 rfl ?_
 refine aP 18 rfl (qA rfl) rfl ?_
 refine C5 (nS ?_)
 (refine I5 Pk.here (fun G5 hle5 hsl5 hno5 => ?_))
 refine tT (rB (rS ?_))
 refine C4 (rT rfl) (rC rfl (A2 rfl rfl)) (rT rfl) ?_
 (refine L6.two hsl5 (L0 _) (L0 _) (A0l _) ?_; rw [W9 (by omega)]; first | (rw [if_pos ⟨by assumption, by assumption⟩, if_pos (by omega)]; rfl) | (rw [if_neg (fun hc => by first | exact Bool.noConfusion (hc.1.symm.trans (by assumption)) | exact Bool.noConfusion (hc.2.symm.trans (by assumption)) | exact Bool.noConfusion (hc.symm.trans (by assumption)))]; rfl))
 refine aP 15 rfl (L4 rfl rfl) rfl ?_
 refine aP 16 rfl (qA rfl) rfl ?_
 refine A3 17 ?_
 refine J0 rfl ?_
 refine aP 18 rfl (qA rfl) rfl ?_
 refine C5 (nS ?_)
 (refine I5 Pk.here (fun G5 hle5 hsl5 hno5 => ?_))
 refine tT (rB (rS ?_))
 refine C4 (rT rfl) (rC rfl (A2 rfl rfl)) (rT rfl) ?_
 (refine L6.two hsl5 (L0 _) (L0 _) (A0l _) ?_; rw [W9 (by omega)]; first | (rw [if_pos ⟨by assumption, by assumption⟩, if_pos (by omega)]; rfl) | (rw [if_neg (fun hc => by first | exact Bool.noConfusion (hc.1.symm.trans (by assumption)) | exact Bool.noConfusion (hc.2.symm.trans (by assumption)) | exact Bool.noConfusion (hc.symm.trans (by assumption)))]; rfl))
 refine U7 rfl rfl ((Z8 _ _ _ _ _ hre1 (L0 _))) rfl rfl rfl (fun h666 => ?_) (fun h666 => ?_)
 refine aP 15 rfl (L4 rfl rfl) rfl ?_
 refine A3 2 ?_
 (refine E4 rfl (C9 rfl rfl rfl (by omega) (by unfold maxLen; omega) rfl) rfl rfl ?_; rintro _ ⟨b669, rfl⟩)
 refine aP 16 rfl (qA rfl) rfl ?_
 refine A3 17 ?_
 refine J0 rfl ?_
 refine aP 18 rfl (qA rfl) rfl ?_
 refine C5 (nS ?_)
 (refine I5 Pk.here (fun G5 hle5 hsl5 hno5 => ?_))
 refine tT (rB (rS ?_))
 refine C4 (rT rfl) (rC rfl (A2 rfl rfl)) (rT rfl) ?_
 (refine L6.two hsl5 (L0 _) (L0 _) (A0l _) ?_; rw [W9 (by omega)]; first | (rw [if_pos ⟨by assumption, by assumption⟩, if_pos (by omega)]; rfl) | (rw [if_neg (fun hc => by first | exact Bool.noConfusion (hc.1.symm.trans (by assumption)) | exact Bool.noConfusion (hc.2.symm.trans (by assumption)) | exact Bool.noConfusion (hc.symm.trans (by assumption)))]; rfl))
 refine aP 15 rfl (L4 rfl rfl) rfl ?_
 refine A3 2 ?_
 (refine E4 rfl (C9 rfl rfl rfl (by omega) (by unfold maxLen; omega) rfl) rfl rfl ?_; rintro _ ⟨b684, rfl⟩)
 refine aP 16 rfl (qA rfl) rfl ?_
 refine A3 17 ?_
 refine J0 rfl ?_
 refine aP 18 rfl (qA rfl) rfl ?_
 refine C5 (nS ?_)
 (refine I5 Pk.here (fun G5 hle5 hsl5 hno5 => ?_))
 refine tT (rB (rS ?_))
 refine C4 (rT rfl) (rC rfl (A2 rfl rfl)) (rT rfl) ?_
 (refine L6.two hsl5 (L0 _) (L0 _) (A0l _) ?_; rw [W9 (by omega)]; first | (rw [if_pos ⟨by assumption, by assumption⟩, if_pos (by omega)]; rfl) | (rw [if_neg (fun hc => by first | exact Bool.noConfusion (hc.1.symm.trans (by assumption)) | exact Bool.noConfusion (hc.2.symm.trans (by assumption)) | exact Bool.noConfusion (hc.symm.trans (by assumption)))]; rfl))
 refine aP 9 rfl (qM rfl) rfl ?_
 refine B5 10 rfl rfl rfl ?_
 refine B5 11 rfl rfl rfl ?_
 refine B5 12 rfl rfl rfl ?_
 refine B5 13 rfl rfl rfl ?_
 refine V3 (j := 2) (j' := 14) (by kernel_rfl) ?_ ?_
 (refine E4 rfl (C9 rfl rfl rfl (by omega) (by unfold maxLen; omega) rfl) rfl rfl ?_; rintro _ ⟨b703, rfl⟩)
 refine B5 14 rfl rfl rfl ?_
 refine aP 15 rfl (O3 rfl rfl) rfl ?_
 refine aP 16 rfl (qA rfl) rfl ?_
 refine A3 17 ?_
 refine J0 rfl ?_
 refine aP 18 rfl (qA rfl) rfl ?_
 refine C5 (nS ?_)
 (refine I5 Pk.here (fun G5 hle5 hsl5 hno5 => ?_))
 refine tT (rB (rS ?_))
 refine C4 (rT rfl) (rC rfl (A2 rfl rfl)) (rT rfl) ?_
 (refine L6.two hsl5 (L0 _) (L0 _) (A0l _) ?_; rw [W9 (by omega)]; first | (rw [if_pos ⟨by assumption, by assumption⟩, if_pos (by omega)]; rfl) | (rw [if_neg (fun hc => by first | exact Bool.noConfusion (hc.1.symm.trans (by assumption)) | exact Bool.noConfusion (hc.2.symm.trans (by assumption)) | exact Bool.noConfusion (hc.symm.trans (by assumption)))]; rfl))
 refine A5Q (l' := [tt,tt,ff,tt,tt,tt,tt,tt,tt,tt,tt,tt,tt,tt,tt,ff,ff,ff,ff]) rfl rfl rfl rfl ?_
 refine aP 15 rfl (O3 rfl rfl) rfl ?_
 refine A3 2 ?_
 (refine E4 rfl (C9 rfl rfl rfl (by omega) (by unfold maxLen; omega) rfl) rfl rfl ?_; rintro _ ⟨b721, rfl⟩)
 refine aP 16 rfl (qA rfl) rfl ?_
 refine A3 17 ?_
 refine J0 rfl ?_
 refine aP 18 rfl (qA rfl) rfl ?_
 refine C5 (nS ?_)
 (refine I5 Pk.here (fun G5 hle5 hsl5 hno5 => ?_))
 refine tT (rB (rS ?_))
 refine C4 (rT rfl) (rC rfl (A2 rfl rfl)) (rT rfl) ?_
 (refine L6.two hsl5 (L0 _) (L0 _) (A0l _) ?_; rw [W9 (by omega)]; first | (rw [if_pos ⟨by assumption, by assumption⟩, if_pos (by omega)]; rfl) | (rw [if_neg (fun hc => by first | exact Bool.noConfusion (hc.1.symm.trans (by assumption)) | exact Bool.noConfusion (hc.2.symm.trans (by assumption)) | exact Bool.noConfusion (hc.symm.trans (by assumption)))]; rfl))
 refine sQ (qA rfl) rfl (sD (nS (cF rfl (tS (tR ?_)))))
 refine sB (qE rfl rfl) rfl rfl (fun h740 => ?_) (fun h740 => ?_)
 refine sQ (qA rfl) rfl (sD (nS (qT rfl (tS (tS ?_)))))
 (have hl3 : n = 3 := hop.2.1 (by omega); obtain ⟨b0, o0, q0, d0, hp0, hat0, hre0, hg0⟩ := hsl.kidD hkl (i := 0) (by omega) (by omega); obtain ⟨b1, o1, q1, d1, hp1, hat1, hre1, hg1⟩ := hsl.kidD hkl (i := 1) (by omega) (by omega); cases hp0; cases hp1; obtain ⟨b2, o2, q2, d2, hp2, hat2, hre2, hg2⟩ := hsl.kidD hkl (i := 2) (by omega) (by omega); cases hp2; refine E1 E2 rfl ?_)
 refine J5 (i := 0) (l' := [tt,ff,ff,ff,ff,ff,ff,ff,ff,ff,ff,ff,ff,ff,ff,ff]) rfl D5 (qM rfl) rfl (by kernel_rfl) rfl rfl ?_
 refine aP 1 rfl (B3 (j := 0) rfl rfl rfl (by omega)) rfl ?_
 refine aL 2 rfl (A1 rfl rfl (hat0 _) rfl) rfl ?_
 refine aL 3 rfl (A2 rfl rfl) rfl ?_
 refine A3 4 ?_
 refine U7 rfl rfl ((Z8 _ _ _ _ _ hre0 (A0l _))) rfl rfl rfl (fun h753 => ?_) (fun h753 => ?_)
 refine aP 5 rfl (Z3 rfl) rfl ?_
 refine aP 6 rfl (qM rfl) rfl ?_
 refine aP 7 rfl (qM rfl) rfl ?_
 refine aP 8 rfl (B3 (j := 1) rfl rfl rfl (by omega)) rfl ?_
 refine aL 9 rfl (A1 rfl rfl (hat1 _) rfl) rfl ?_
 refine aP 10 rfl (qM rfl) rfl ?_
 refine aP 11 rfl (B3 (j := 2) rfl rfl rfl (by omega)) rfl ?_
 refine aL 12 rfl (A1 rfl rfl (hat2 _) rfl) rfl ?_
 refine A3 13 ?_
 refine U7 rfl rfl ((Z8 _ _ _ _ _ hre1 hre2)) rfl rfl rfl (fun h763 => ?_) (fun h763 => ?_)
 refine aP 14 rfl (Z3 rfl) rfl ?_
 refine aP 15 rfl (O3 rfl rfl) rfl ?_
 refine C5 (nS (cF rfl (tK (nS (tS ?_)))))
 (have hl3 : n = 3 := hop.2.1 (by omega); obtain ⟨b0, o0, q0, d0, hp0, hat0, hre0, hg0⟩ := hsl.kidD hkl (i := 0) (by omega) (by omega); obtain ⟨b1, o1, q1, d1, hp1, hat1, hre1, hg1⟩ := hsl.kidD hkl (i := 1) (by omega) (by omega); cases hp0; cases hp1; obtain ⟨b2, o2, q2, d2, hp2, hat2, hre2, hg2⟩ := hsl.kidD hkl (i := 2) (by omega) (by omega); cases hp2; refine E1 E2 rfl ?_)
 refine J5 (i := 0) (l' := [tt,ff,ff,ff,ff,ff,ff,ff,ff]) rfl D5 (qM rfl) rfl (by kernel_rfl) rfl rfl ?_
 refine aP 1 rfl (B3 (j := 1) rfl rfl rfl (by omega)) rfl ?_
 refine aL 2 rfl (A1 rfl rfl (hat1 _) rfl) rfl ?_
 refine aP 3 rfl (qM rfl) rfl ?_
 refine aP 4 rfl (B3 (j := 2) rfl rfl rfl (by omega)) rfl ?_
 refine aL 5 rfl (A1 rfl rfl (hat2 _) rfl) rfl ?_
 refine V3 (j := 6) (j' := 7) (by kernel_rfl) ?_ ?_
 (refine K0 rfl rfl (A9e _ _ _ _ _ (by assumption) (A21 har (by omega)) (A21 har (by omega)) hre1 hre2) rfl rfl rfl (fun v GM hleM hh => ?_); obtain ⟨cM, rfl, hrM⟩ := hh; obtain ⟨p7, c7, e7, rfl, _⟩ := hrM.open)
 refine A3 7 ?_
 (refine E4 rfl (A5 rfl) rfl rfl ?_; rintro _ ⟨b782, rfl⟩)
 refine A3 8 ?_
 refine J0 rfl ?_
 refine C5 (nS (tS ?_))
 (have hl3 : n = 3 := hop.2.1 (by omega); obtain ⟨b0, o0, q0, d0, hp0, hat0, hre0, hg0⟩ := hsl.kidD hkl (i := 0) (by omega) (by omega); obtain ⟨b1, o1, q1, d1, hp1, hat1, hre1, hg1⟩ := hsl.kidD hkl (i := 1) (by omega) (by omega); cases hp0; cases hp1; obtain ⟨b2, o2, q2, d2, hp2, hat2, hre2, hg2⟩ := hsl.kidD hkl (i := 2) (by omega) (by omega); cases hp2; refine E1 E2 rfl ?_)
 refine P9 (i := 0) (l' := [tt,ff,ff,ff,ff,ff,ff,ff]) rfl D5 (A2 rfl rfl) rfl (by kernel_rfl) rfl rfl ?_
 refine aL 1 rfl (A2 rfl rfl) rfl ?_
 refine aL 2 rfl (A2 rfl rfl) rfl ?_
 refine aL 4 rfl (A2 rfl rfl) rfl ?_
 refine A3 3 ?_
 (refine E4 rfl (C9 rfl rfl rfl (by omega) (by unfold maxLen; omega) rfl) rfl rfl ?_; rintro _ ⟨b794, rfl⟩)
 refine aP 5 rfl (qA rfl) rfl ?_
 refine A3 6 ?_
 refine J0 rfl ?_
 refine aP 7 rfl (qA rfl) rfl ?_
 refine C5 (nS ?_)
 (refine I5 Pk.here (fun G5 hle5 hsl5 hno5 => ?_))
 refine tT (rB (rS ?_))
 refine C4 (rT rfl) (rC rfl (A2 rfl rfl)) (rT rfl) ?_
 (have hk1 : k = 9 := (by omega); subst hk1; exact L6.three hsl5 (A0l _) (hrM.mono hle5) (hrM.mono hle5) (hrM.mono hle5) (by rw [mW9, if_pos ⟨by assumption, by assumption⟩]; rfl))
 (refine E4 rfl (A5 rfl) rfl rfl ?_; rintro _ ⟨b807, rfl⟩)
 refine A3 6 ?_
 (refine K0 rfl rfl (A9e _ _ _ _ _ (by assumption) (A21 har (by omega)) (A21 har (by omega)) hre1 hre2) rfl rfl rfl (fun v GM hleM hh => ?_); obtain ⟨cM, rfl, hrM⟩ := hh; obtain ⟨p7, c7, e7, rfl, _⟩ := hrM.open)
 refine A3 8 ?_
 refine J0 rfl ?_
 refine C5 (nS (tS ?_))
 (have hl3 : n = 3 := hop.2.1 (by omega); obtain ⟨b0, o0, q0, d0, hp0, hat0, hre0, hg0⟩ := hsl.kidD hkl (i := 0) (by omega) (by omega); obtain ⟨b1, o1, q1, d1, hp1, hat1, hre1, hg1⟩ := hsl.kidD hkl (i := 1) (by omega) (by omega); cases hp0; cases hp1; obtain ⟨b2, o2, q2, d2, hp2, hat2, hre2, hg2⟩ := hsl.kidD hkl (i := 2) (by omega) (by omega); cases hp2; refine E1 E2 rfl ?_)
 refine P9 (i := 0) (l' := [tt,ff,ff,ff,ff,ff,ff,ff]) rfl D5 (A2 rfl rfl) rfl (by kernel_rfl) rfl rfl ?_
 refine aL 1 rfl (A2 rfl rfl) rfl ?_
 refine aL 2 rfl (A2 rfl rfl) rfl ?_
 refine aL 4 rfl (A2 rfl rfl) rfl ?_
 refine A3 3 ?_
 (refine E4 rfl (C9 rfl rfl rfl (by omega) (by unfold maxLen; omega) rfl) rfl rfl ?_; rintro _ ⟨b821, rfl⟩)
 refine aP 5 rfl (qA rfl) rfl ?_
 refine A3 6 ?_
 refine J0 rfl ?_
 refine aP 7 rfl (qA rfl) rfl ?_
 refine C5 (nS ?_)
 (refine I5 Pk.here (fun G5 hle5 hsl5 hno5 => ?_))
 refine tT (rB (rS ?_))
 refine C4 (rT rfl) (rC rfl (A2 rfl rfl)) (rT rfl) ?_
 (have hk1 : k = 9 := (by omega); subst hk1; exact L6.three hsl5 (A0l _) (hrM.mono hle5) (hrM.mono hle5) (hrM.mono hle5) (by rw [mW9, if_pos ⟨by assumption, by assumption⟩]; rfl))
 refine aP 14 rfl (pNf rfl) rfl ?_
 refine aP 15 rfl (O3 rfl rfl) rfl ?_
 refine H9 ?_
 refine C4 (rT rfl) (rC rfl (A2 rfl rfl)) (rT rfl) ?_
 (have hk1 : k = 9 := (by omega); subst hk1; exact L6.nil (u := A7) (N3 _ ⟨by omega, by omega⟩) (by rw [mW9, if_neg (fun hc => by first | exact Bool.noConfusion (hc.1.symm.trans (by assumption)) | exact Bool.noConfusion (hc.2.symm.trans (by assumption)) | exact Bool.noConfusion (hc.symm.trans (by assumption)))]; rfl))
 refine aP 5 rfl (pNf rfl) rfl ?_
 refine aP 6 rfl (qM rfl) rfl ?_
 refine B5 7 rfl rfl rfl ?_
 refine B5 8 rfl rfl rfl ?_
 refine B5 9 rfl rfl rfl ?_
 refine B5 10 rfl rfl rfl ?_
 refine B5 11 rfl rfl rfl ?_
 refine B5 12 rfl rfl rfl ?_
 refine B5 13 rfl rfl rfl ?_
 refine B5 14 rfl rfl rfl ?_
 refine aP 15 rfl (L4 rfl rfl) rfl ?_
 refine H9 ?_
 refine C4 (rT rfl) (rC rfl (A2 rfl rfl)) (rT rfl) ?_
 (have hk1 : k = 9 := (by omega); subst hk1; exact L6.nil (u := A7) (N3 _ ⟨by omega, by omega⟩) (by rw [mW9, if_neg (fun hc => by first | exact Bool.noConfusion (hc.1.symm.trans (by assumption)) | exact Bool.noConfusion (hc.2.symm.trans (by assumption)) | exact Bool.noConfusion (hc.symm.trans (by assumption)))]; rfl))
 refine sQ (qA rfl) rfl (sD (nS (cF rfl (tS (tR ?_)))))
 refine sB (qE rfl rfl) rfl rfl (fun h887 => ?_) (fun h887 => ?_)
 refine sQ (qA rfl) rfl (sD (nS (qT rfl (tS ?_))))
 (have hl2 : n = 2 := hop.1 (by omega); obtain ⟨b0, o0, q0, d0, hp0, hat0, hre0, hg0⟩ := hsl.kidD hkl (i := 0) (by omega) (by omega); obtain ⟨b1, o1, q1, d1, hp1, hat1, hre1, hg1⟩ := hsl.kidD hkl (i := 1) (by omega) (by omega); cases hp0; cases hp1; refine E1 E2 rfl ?_)
 refine J5 (i := 0) (l' := [tt,ff,ff,ff,ff,ff,ff,ff,ff,ff]) rfl D5 (qM rfl) rfl (by kernel_rfl) rfl rfl ?_
 refine aP 1 rfl (B3 (j := 0) rfl rfl rfl (by omega)) rfl ?_
 refine aL 2 rfl (A1 rfl rfl (hat0 _) rfl) rfl ?_
 refine aP 3 rfl (qM rfl) rfl ?_
 refine aP 4 rfl (B3 (j := 1) rfl rfl rfl (by omega)) rfl ?_
 refine aL 5 rfl (A1 rfl rfl (hat1 _) rfl) rfl ?_
 refine A3 6 ?_
 (refine K0 rfl rfl (A16 5 _ _ _ _ _ ⟨by omega, by omega⟩ hre0 hre1) rfl rfl rfl (fun v GB hleB hh => ?_); obtain ⟨cB, rfl, hrB⟩ := hh; obtain ⟨p7, c7, e7, rfl, _⟩ := hrB.open)
 refine aP 7 rfl (qA rfl) rfl ?_
 refine A3 8 ?_
 refine J0 rfl ?_
 refine aP 9 rfl (qA rfl) rfl ?_
 refine C5 (nS (tT (rB (rS ?_))))
 refine C4 (rT rfl) (rC rfl (A2 rfl rfl)) (rT rfl) ?_
 (have hk1 : k = 10 := (by omega); subst hk1; exact L6.nil hrB A6z)
 refine sQ (qA rfl) rfl (sD (nS (cF rfl (tS (tR ?_)))))
 refine sB (qE rfl rfl) rfl rfl (fun h919 => ?_) (fun h919 => ?_)
 refine sQ (qA rfl) rfl (sD (nS (qT rfl (tS ?_))))
 (have hl1 : n = 1 := hop.2.2 (by omega); obtain ⟨b0, o0, q0, d0, hp0, hat0, hre0, hg0⟩ := hsl.kidD hkl (i := 0) (by omega) (by omega); cases hp0; refine E1 E2 rfl ?_)
 refine J5 (i := 0) (l' := [tt,ff,ff,ff,ff,ff,ff,ff,ff,ff,ff,ff,ff,ff]) rfl D5 (B1 rfl) rfl (by kernel_rfl) rfl rfl ?_
 refine aL 1 rfl (A2 rfl rfl) rfl ?_
 refine aP 3 rfl (B1 rfl) rfl ?_
 refine aL 4 rfl (A2 rfl rfl) rfl ?_
 refine aP 5 rfl (qM rfl) rfl ?_
 refine aP 6 rfl (B3 (j := 0) rfl rfl rfl (by omega)) rfl ?_
 refine aL 7 rfl (A1 rfl rfl (hat0 _) rfl) rfl ?_
 refine aP 8 rfl (B1 rfl) rfl ?_
 refine aL 9 rfl (A2 rfl rfl) rfl ?_
 refine V3 (j := 2) (j' := 10) (by kernel_rfl) ?_ ?_
 (refine E4 rfl (C9 rfl rfl rfl (by omega) (by unfold maxLen; omega) rfl) rfl rfl ?_; rintro _ ⟨b936, rfl⟩)
 refine A3 10 ?_
 refine U7 rfl rfl ((Z8 _ _ _ _ _ hre0 hrty)) rfl rfl rfl (fun h938 => ?_) (fun h938 => ?_)
 refine aP 11 rfl (qA rfl) rfl ?_
 refine A3 12 ?_
 refine J0 rfl ?_
 refine aP 13 rfl (qA rfl) rfl ?_
 refine C5 (nS ?_)
 (refine I5 Pk.here (fun G5 hle5 hsl5 hno5 => ?_))
 refine tT (rB (rS ?_))
 refine C4 (rT rfl) (rC rfl (A2 rfl rfl)) (rT rfl) ?_
 (have hk1 : k = 13 := (by omega); subst hk1; refine L6.one hsl5 (hrty.mono hle5) (hrty.mono hle5) ?_; rw [A22]; split <;> first | rfl | (exfalso; simp_all; done))
 refine aP 11 rfl (qA rfl) rfl ?_
 refine A3 12 ?_
 refine J0 rfl ?_
 refine aP 13 rfl (qA rfl) rfl ?_
 refine C5 (nS ?_)
 (refine I5 Pk.here (fun G5 hle5 hsl5 hno5 => ?_))
 refine tT (rB (rS ?_))
 refine C4 (rT rfl) (rC rfl (A2 rfl rfl)) (rT rfl) ?_
 (have hk1 : k = 13 := (by omega); subst hk1; refine L6.one hsl5 (hrty.mono hle5) (hrty.mono hle5) ?_; rw [A22]; split <;> first | rfl | (exfalso; simp_all; done))
 refine U7 rfl rfl ((Z8 _ _ _ _ _ hre0 hrty)) rfl rfl rfl (fun h963 => ?_) (fun h963 => ?_)
 refine A3 2 ?_
 (refine E4 rfl (C9 rfl rfl rfl (by omega) (by unfold maxLen; omega) rfl) rfl rfl ?_; rintro _ ⟨b965, rfl⟩)
 refine aP 11 rfl (qA rfl) rfl ?_
 refine A3 12 ?_
 refine J0 rfl ?_
 refine aP 13 rfl (qA rfl) rfl ?_
 refine C5 (nS ?_)
 (refine I5 Pk.here (fun G5 hle5 hsl5 hno5 => ?_))
 refine tT (rB (rS ?_))
 refine C4 (rT rfl) (rC rfl (A2 rfl rfl)) (rT rfl) ?_
 (have hk1 : k = 13 := (by omega); subst hk1; refine L6.one hsl5 (hrty.mono hle5) (hrty.mono hle5) ?_; rw [A22]; split <;> first | rfl | (exfalso; simp_all; done))
 refine A3 2 ?_
 (refine E4 rfl (C9 rfl rfl rfl (by omega) (by unfold maxLen; omega) rfl) rfl rfl ?_; rintro _ ⟨b979, rfl⟩)
 refine aP 11 rfl (qA rfl) rfl ?_
 refine A3 12 ?_
 refine J0 rfl ?_
 refine aP 13 rfl (qA rfl) rfl ?_
 refine C5 (nS ?_)
 (refine I5 Pk.here (fun G5 hle5 hsl5 hno5 => ?_))
 refine tT (rB (rS ?_))
 refine C4 (rT rfl) (rC rfl (A2 rfl rfl)) (rT rfl) ?_
 (have hk1 : k = 13 := (by omega); subst hk1; refine L6.one hsl5 (hrty.mono hle5) (hrty.mono hle5) ?_; rw [A22]; split <;> first | rfl | (exfalso; simp_all; done))
 refine I9 ?_
 (have hk11 : k = 11 ∨ k = 12 := (by omega); have hl1 : n = 1 := hop.2.2 (by omega); obtain ⟨b0, o0, q0, d0, hp0, hat0, hre0, hg0⟩ := hsl.kidD hkl (i := 0) (by omega) (by omega); cases hp0; refine sP (B3 (j := 0) rfl rfl rfl (by omega)) rfl rfl ?_)
 refine sL (A1 rfl rfl (hat0 _) rfl) rfl rfl ?_
 (refine E0 rfl (A9d 5 (h.getD 0 A7) G _ (.inr rfl) (A21 har (by omega)) hre0) rfl rfl (fun v G1 hle1 hh => ?_); obtain ⟨ma, mca, mb, mcb, rfl, hma, hmb, hma2, hmb2, hmm⟩ := hh; obtain ⟨p1, c1, e1, rfl, _⟩ := hma.open; obtain ⟨p2, c2, e2, rfl, _⟩ := hmb.open)
 refine F0 ?_
 refine sE (A5 rfl) rfl (fun b1009 => ?_)
 refine sE (A5 rfl) rfl (fun b1010 => ?_)
 refine D3 ?_
 refine sE (A5 rfl) rfl (fun b1019 => ?_)
 refine D3 ?_
 refine sB (qE rfl rfl) rfl rfl (fun h1028 => ?_) (fun h1028 => ?_)
 refine D4 ?_
 (have hl1 : n = 1 := hop.2.2 (by omega); obtain ⟨b0, o0, q0, d0, hp0, hat0, hre0, hg0⟩ := hsl.kidD hkl (i := 0) (by omega) (by omega); cases hp0; refine E1 E2 rfl ?_)
 refine P9 (i := 0) (l' := [tt,ff,ff,ff,ff,ff,ff,ff,ff]) rfl D5 (A2 rfl rfl) rfl (by kernel_rfl) rfl rfl ?_
 refine aL 1 rfl (A2 rfl rfl) rfl ?_
 refine aL 4 rfl (A2 rfl rfl) rfl ?_
 refine aP 5 rfl (qM rfl) rfl ?_
 refine A3 2 ?_
 (refine K0 rfl rfl (A16 _ ma mb _ _ _ ⟨by omega, by omega⟩ hma hmb) rfl rfl rfl (fun v GB hleB hh => ?_); obtain ⟨cB, rfl, hrB⟩ := hh; obtain ⟨p7, c7, e7, rfl, _⟩ := hrB.open; have hma' := hma.mono hleB; have hmb' := hmb.mono hleB)
 refine A3 3 ?_
 (refine E4 rfl (C9 rfl rfl rfl (by omega) (by unfold maxLen; omega) rfl) rfl rfl ?_; rintro _ ⟨b1046, rfl⟩)
 refine aP 6 rfl (qA rfl) rfl ?_
 refine A3 7 ?_
 refine J0 rfl ?_
 refine aP 8 rfl (qA rfl) rfl ?_
 refine C5 (nS ?_)
 (refine I5 Pk.here (fun G5 hle5 hsl5 hno5 => ?_))
 refine tT ?_
 refine C4 (rT rfl) (rC rfl (A2 rfl rfl)) (rT rfl) ?_
 (refine L6.one hsl5 (hrB.mono hle5) (hmb'.mono hle5) ?_; rw [A3V (by omega)]; cases hq : R3 5 (h.getD 0 A7) with | none => rfl | some q => (have hq2 := hmm q hq; subst hq2; dsimp only; rw [if_pos (by omega)]; rfl))
 refine sD (nS (cF rfl (tK (nS (tS ?_)))))
 (have hl1 : n = 1 := hop.2.2 (by omega); obtain ⟨b0, o0, q0, d0, hp0, hat0, hre0, hg0⟩ := hsl.kidD hkl (i := 0) (by omega) (by omega); cases hp0; refine E1 E2 rfl ?_)
 refine P9 (i := 0) (l' := [tt,ff,ff,ff,ff,ff,ff,ff,ff]) rfl D5 (A2 rfl rfl) rfl (by kernel_rfl) rfl rfl ?_
 refine aL 1 rfl (A2 rfl rfl) rfl ?_
 refine aL 4 rfl (A2 rfl rfl) rfl ?_
 refine aP 5 rfl (qM rfl) rfl ?_
 refine A3 2 ?_
 (refine K0 rfl rfl (A16 _ ma mb _ _ _ ⟨by omega, by omega⟩ hma hmb) rfl rfl rfl (fun v GB hleB hh => ?_); obtain ⟨cB, rfl, hrB⟩ := hh; obtain ⟨p7, c7, e7, rfl, _⟩ := hrB.open; have hma' := hma.mono hleB; have hmb' := hmb.mono hleB)
 refine A3 3 ?_
 (refine E4 rfl (C9 rfl rfl rfl (by omega) (by unfold maxLen; omega) rfl) rfl rfl ?_; rintro _ ⟨b1071, rfl⟩)
 refine aP 6 rfl (qA rfl) rfl ?_
 refine A3 7 ?_
 refine J0 rfl ?_
 refine aP 8 rfl (qA rfl) rfl ?_
 refine C5 (nS ?_)
 (refine I5 Pk.here (fun G5 hle5 hsl5 hno5 => ?_))
 refine tT ?_
 refine C4 (rT rfl) (rC rfl (A2 rfl rfl)) (rT rfl) ?_
 (refine L6.one hsl5 (hrB.mono hle5) (hma'.mono hle5) ?_; rw [A3V (by omega)]; cases hq : R3 5 (h.getD 0 A7) with | none => rfl | some q => (have hq2 := hmm q hq; subst hq2; dsimp only; rw [if_neg (by omega)]; rfl))
theorem A9g {cx : Cx} {k : Int} {nm : ByteArray} {ty : Ty} {h w : List Ty} {t : Ty} (he : Z9 cx k nm ty h = some (w, t)) : E7 t = true ∧ N2 cx k nm ty h = some (w, t) := by
 unfold Z9 at he
 split at he
 ·rename_i w' t' hw
  split at he
  ·cases he; exact ⟨by assumption, hw⟩
  ·cases he
 ·cases he
theorem B3K {cx : Cx} {k : Int} {nm : ByteArray} {ty : Ty} {h w : List Ty} {t : Ty} (hop : (k = 6 ∨ k = 7 ∨ k = 8 ∨ k = 10 → h.length = 2) ∧ (k = 9 → h.length = 3) ∧ (k = 5 ∨ k = 11 ∨ k = 12 ∨ k = 13 → h.length = 1)) (hk : 1 ≤ k ∧ k ≤ 14) (h14 : k ≠ 14) (he : N2 cx k nm ty h = some (w, t)) : w.length ≤ h.length := by
 have hkk : k = 1 ∨ k = 2 ∨ (k = 3 ∨ k = 4) ∨ k = 5 ∨ k = 6 ∨ (k = 7 ∨ k = 8) ∨ k = 9 ∨ k = 10 ∨ (k = 11 ∨ k = 12) ∨ k = 13 := by omega
 rcases hkk with rfl | rfl | hk | rfl | rfl | hk | rfl | rfl | hk | rfl
 ·rw [mW1] at he; split at he <;> cases he; simp
 ·rw [mW2] at he; cases he; simp
 ·rw [A40 hk] at he; cases he; simp
 ·rw [mW5] at he; cases he; simp
 ·rw [mW6] at he
  split at he
  ·split at he <;> cases he
   have := hop.1 (by omega); simp [this]
  ·cases he
 ·rw [W9 hk] at he
  split at he <;> cases he
  have := hop.1 (by omega); simp [this]
 ·rw [mW9] at he
  split at he <;> cases he
  have := hop.2.1 (by omega); simp [this]
 ·rw [A6z] at he; cases he; simp
 ·rw [A3V hk] at he
  split at he
  ·cases he; have := hop.2.2 (by omega); simp [this]
  ·cases he
 ·rw [A22] at he
  split at he <;> cases he
  have := hop.2.2 (by omega); simp [this]
theorem T2.snoc {G G' : IM} {cx : Cx} {n : Nat} {p' : Option Addr} {c' : Nat} {es : List (List Value)} {e : List Value} {nm : ByteArray} {t : Ty} (h1 : n = cx.length) (hl : es.length = n) (h2 : ∀ x ∈ es, x.length = 3) (h3 : ∀ x ∈ es, x.all (·.oneCell') = true)
  (h4 : ∀ (i : Nat) (b : ByteArray × Ty), cx[i]? = some b → ∃ e, es[i]? = some e ∧ A20 G b e) (hg : B6 G G') (he : A20 G' (nm, t) e) (hs : Sl G' p' (n + 1) c' 3 (es.flatten ++ e)) : T2 G' (cx ++ [(nm, t)]) p' (n + 1) c' := by
 have hel : e.length = 3 ∧ e.all (·.oneCell') = true := by obtain ⟨q, d, rfl, _⟩ := he; exact ⟨rfl, rfl⟩
 refine ⟨by simp [h1], es ++ [e], D0.of (by simpa using hs) (by simp [hl]) ?_ ?_, ?_⟩
 ·simp only [List.forall_mem_append, List.forall_mem_singleton]; exact ⟨h2, hel.1⟩
 ·simp only [List.forall_mem_append, List.forall_mem_singleton]; exact ⟨h3, hel.2⟩
 ·intro i b hb
  rw [List.getElem?_append] at hb ⊢
  split at hb
  ·rename_i hi
   obtain ⟨e', he', hr⟩ := h4 i b hb
   rw [if_pos (by omega)]
   exact ⟨e', he', hr.mono hg⟩
  ·rename_i hi
   have : i - cx.length = 0 := by
    apply Classical.byContradiction; intro hc
    rw [List.getElem?_eq_none (by simp; omega)] at hb; cases hb
   rw [this] at hb
   simp only [List.getElem?_cons_zero, Option.some.injEq] at hb
   subst hb
   rw [if_neg (by omega)]
   exact ⟨e, by rw [show i - es.length = 0 by omega]; rfl, he⟩
theorem B3L (G : IM) (p : Option Addr) (n c : Nat) (es : List (List Value)) (h : D0 G p n c 3 es) (hn : n ≤ 4294967296) :
  Fn Tryz.prog 116 [.slice p n c] [] G (fun G' v outs => G' = G ∧ ∃ p' c', v = .slice p' n c' ∧ outs = [.slc p' c' 93 3 n es.flatten]) := by
 have hp := h.sl.nn
 have hS := h.sl
 have hone : ∀ u ∈ es.flatten, u.oneCell' = true := by
  intro u hu
  obtain ⟨e, he, hue⟩ := List.mem_flatten.1 hu
  exact List.all_eq_true.1 (h.one e he) u hue
 refine B2 Tryz.func116 rfl Tryz.ntmps116 Tryz.results116 rfl ?_
 intro w0
 cases p with
 | none =>
  obtain rfl := hp rfl
  obtain rfl : es = [] := List.length_eq_zero_iff.1 h.len
  refine V5 93 3 ?_
  refine D4 ?_
  refine sQ (B1J rfl rfl rfl) rfl ?_
  refine I9 ?_
  refine H6 (rT rfl) A0.refl ?_
  exact ⟨rfl, _, _, rfl, rfl⟩
 | some a =>
  refine D4 ?_
  refine sQ (A7q rfl rfl rfl) rfl ?_
  refine sD (nS (cF rfl (tK (nS (tS (tR ?_))))))
  (refine L9 (C9 rfl rfl rfl (by omega) (by unfold maxLen; omega) rfl) rfl ?_; rintro _ ⟨b18, rfl⟩)
  refine sQ (qM rfl) rfl ?_
  refine A3M rfl rfl rfl rfl rfl (fun _ _ => by repeat (first | exact Sw.here | apply Sw.there)) hS hone (Nat.zero_le _) (by unfold maxLen; omega) (by omega) rfl (fun pn cn => ?_)
  refine sQ (qA rfl) rfl (sD (nS (tT ?_)))
  refine H6 (rT rfl) A0.refl ?_
  exact ⟨rfl, _, _, by rw [Nat.zero_add], by rw [Nat.zero_add]; rfl⟩
theorem Y1.no {r : Option Ty} {G G' : IM} {cu : List Value} {u : Ty} {b : Bool} (hu : B7 G' u cu) (hb : b = false) (h : r = none) : Y1 r G G' (.tuple ⟨[.agg ⟨cu⟩, .bool b]⟩) [] := by
 subst hb h
 exact ⟨rfl, cu, u, rfl, hu, by simp⟩
theorem Y1.yes {r : Option Ty} {G G' : IM} {cu : List Value} {u : Ty} {b : Bool} (hu : B7 G' u cu) (hb : b = true) (h : r = some u) : Y1 r G G' (.tuple ⟨[.agg ⟨cu⟩, .bool b]⟩) [] := by
 subst hb h
 exact ⟨rfl, cu, u, rfl, hu, fun t ht => by cases ht; rfl⟩
section
variable {cx : Cx} {k : Int} {nm : ByteArray} {num : Int} {ty fr : Ty} {lb : Int} {ks : List Tm}
theorem A3W {us w : List Ty} {t : Ty} (h : N2 cx k nm ty us = some (w, t)) {b : Bool} (hb : E7 t = b) : Z9 cx k nm ty us = if b = true then some (w, t) else none := by
 unfold Z9; rw [h]; simp only [hb]
theorem B3M {us : List Ty} (h : N2 cx k nm ty us = none) : Z9 cx k nm ty us = none := by
 unfold Z9; rw [h]
end
def B3N (r : Tm) : Tm × Bool := if J3 r = true then (r, true) else (F4, false)
def B7U (t : Tm) (path : List Int) (x : Tm) : Tm × Bool := if J3 t = true ∧ J3 x = true ∧ tAt t path ≠ none then B3N (A8Y t path x) else (F4, false)
mutual
theorem A6A (D N : Int) : ∀ (t : Tm) (d d' : Int), d' ≤ d → J1 D N t d = true → J1 D N t d' = true
 | .mk k nm num ty fr lb ks, d, d', hd, h => by
  obtain ⟨h1, h2, h3, h4⟩ := W6 h
  rw [A0O (by omega) h2 h3]
  exact A41 D N ks _ _ (by omega) h4
theorem A41 (D N : Int) : ∀ (ts : List Tm) (d d' : Int), d' ≤ d → E9 D N ts d = true → E9 D N ts d' = true
 | [], d, d', hd, h => by rw [E9]
 | t :: ts, d, d', hd, h => by
  rw [E9, Bool.and_eq_true] at h ⊢
  exact ⟨A6A D N t d d' hd h.1, A41 D N ts d d' hd h.2⟩
end
def E8 : List Tm → List Ty → List Ty → Int → List Tm × Int
 | u :: us, a :: h, b :: w, l => if O2 a b = true then (u :: (E8 us h w l).1, (E8 us h w l).2) else (O7 u a b (l + 1) :: (E8 us h w (l + 1)).1, (E8 us h w (l + 1)).2)
 | us, _, _, l => (us, l)
def Q8 (cx : Cx) (k : Int) (nm : ByteArray) (num : Int) (ty fr : Ty) (lb : Int) (us : List Tm) (h : List Ty) (l : Int) : Option (Tm × Ty × Int) :=
 match Z9 cx k nm ty h with
 | none => none
 | some (w, t) => some (if k = 13 then (E8 us h w l).1.getD 0 F4 else .mk k nm num ty fr lb (E8 us h w l).1, t, (E8 us h w l).2)
mutual
def M5 (cx : Cx) : Tm → Int → Option (Tm × Ty × Int)
 | .mk k nm num ty fr lb ks, l => match M1 (P0 cx k nm ty) ks l with
  | none => none
  | some (us, h, l') => Q8 cx k nm num ty fr lb us h l'
def M1 (cx : Cx) : List Tm → Int → Option (List Tm × List Ty × Int)
 | [], l => some ([], [], l)
 | t :: ts, l => match M5 cx t l with
  | none => none
  | some (u, a, l') => match M1 cx ts l' with
   | none => none
   | some (us, h, l'') => some (u :: us, a :: h, l'')
end
def T3 (e : Tm) : Option (Tm × Ty) := if N9 e = true then (match M5 [] e 0 with | some (u, t, _) => some (u, t) | none => none) else none
def X3 (cx : Cx) (k : Int) (nm : ByteArray) (ty : Ty) (h : List Ty) : Option Ty := match N2 cx k nm ty h with
 | some (_, t) => if (k = 5 ∨ k = 10) ∧ E7 t = false then none else some t
 | none => none
mutual
def Q3 (cx : Cx) : Tm → Option Ty
 | .mk k nm num ty fr lb ks => match W7 (P0 cx k nm ty) ks with
  | none => none
  | some h => X3 cx k nm ty h
def W7 (cx : Cx) : List Tm → Option (List Ty)
 | [] => some []
 | t :: ts => match Q3 cx t with
  | none => none
  | some a => match W7 cx ts with
   | none => none
   | some h => some (a :: h)
end
theorem A17 (k : Int) (ks : List Ty) (d : Int) : K8 (.mk k ks) d = (decide (d ≤ 4) && decide (V7 k = ks.length) && T7 ks (d + 1)) := by rw [K8]
mutual
theorem A3X : ∀ (t : Ty) (d e : Int), e ≤ d → K8 t d = true → K8 t e = true
 | .mk k ks, d, e, h, hs => by
  rw [A17, Bool.and_eq_true, Bool.and_eq_true, decide_eq_true_eq, decide_eq_true_eq] at hs ⊢
  exact ⟨⟨by omega, hs.1.2⟩, A9h ks (d + 1) (e + 1) (by omega) hs.2⟩
theorem A9h : ∀ (ts : List Ty) (d e : Int), e ≤ d → T7 ts d = true → T7 ts e = true
 | [], d, e, h, hs => by rw [T7]
 | t :: ts, d, e, h, hs => by
  rw [T7, Bool.and_eq_true] at hs ⊢
  exact ⟨A3X t d e h hs.1, A9h ts d e h hs.2⟩
end
mutual
theorem A6B : ∀ (a b : Ty) (d : Int), K1 a b = true → K8 a d = true → K8 b d = true → K8 (V0 a b) d = true
 | .mk k ks, .mk k' ks', d, hc, ha, hb => by
  rw [A06]
  split
  ·exact hb
  ·split
   ·exact ha
   ·rw [S5] at hc
    rw [A17, Bool.and_eq_true, Bool.and_eq_true, decide_eq_true_eq, decide_eq_true_eq] at ha hb ⊢
    simp only [Bool.or_eq_true, Bool.and_eq_true, decide_eq_true_eq] at hc
    obtain ⟨hk, hl⟩ : k = k' ∧ N0 ks ks' = true := by
     rcases hc with (h | h) | h
     ·contradiction
     ·contradiction
     ·exact h
    subst hk
    obtain ⟨m1, m2⟩ := A9i ks ks' (d + 1) hl ha.2 hb.2
    exact ⟨⟨ha.1.1, by rw [m2]; exact ha.1.2⟩, m1⟩
theorem A9i : ∀ (xs ys : List Ty) (d : Int), N0 xs ys = true → T7 xs d = true → T7 ys d = true → T7 (S7 xs ys) d = true ∧ (S7 xs ys).length = xs.length
 | [], [], d, _, _, _ => by simp [S7, T7]
 | [], b :: ys, d, hc, _, _ => by simp [N0] at hc
 | a :: xs, [], d, hc, _, _ => by simp [N0] at hc
 | a :: xs, b :: ys, d, hc, ha, hb => by
  rw [N0, Bool.and_eq_true] at hc
  rw [T7, Bool.and_eq_true] at ha hb
  obtain ⟨m1, m2⟩ := A9i xs ys d hc.2 ha.2 hb.2
  rw [S7, T7, Bool.and_eq_true]
  exact ⟨⟨A6B a b d hc.1 ha.1 hb.1, m1⟩, by simp [m2]⟩
end
theorem A6C {cx : Cx} (h : ∀ b ∈ cx, E7 b.2 = true) {nm : ByteArray} {t : Ty} : ∀ {n : Nat}, X1 cx nm n = some t → E7 t = true
 | 0, hl => by simp [X1] at hl
 | n + 1, hl => by
  rw [X1] at hl
  split at hl
  ·rename_i b hb
   split at hl
   ·cases hl; exact h b (List.mem_of_getElem? hb)
   ·exact A6C h hl
  ·exact A6C h hl
theorem A9j {k : Int} {t a b : Ty} (hk : k = 4 ∨ k = 5) (ht : E7 t = true) (h : R3 k t = some (a, b)) : E7 a = true ∧ E7 b = true := by
 obtain ⟨tk, ks⟩ := t
 rw [show R3 k (.mk tk ks) = (if tk = k then some (ks.getD 0 A7, ks.getD 1 A7) else if tk = 1 then some (O9, O9) else none) from rfl] at h
 by_cases he : tk = k
 ·rw [if_pos he] at h
  cases h
  unfold E7 at ht ⊢
  rw [A17, Bool.and_eq_true, Bool.and_eq_true, decide_eq_true_eq, decide_eq_true_eq] at ht
  have h2 : ks.length = 2 := by
   have : V7 tk = 2 := by rw [he]; rcases hk with rfl | rfl <;> rfl
   omega
  match ks, h2, ht.2 with
  | [x, y], _, hL =>
   simp only [T7, Bool.and_eq_true] at hL
   exact ⟨A3X _ 2 1 (by omega) hL.1, A3X _ 2 1 (by omega) hL.2.1⟩
 ·rw [if_neg he] at h
  by_cases h1 : tk = 1
  ·rw [if_pos h1] at h
   cases h
   exact ⟨by decide, by decide⟩
  ·rw [if_neg h1] at h; cases h
theorem B3O {l : List Ty} {i : Nat} (h : i < l.length) : l.getD i A7 ∈ l := by
 rw [List.getD_eq_getElem?_getD, List.getElem?_eq_getElem h, Option.getD_some]; exact List.getElem_mem h
theorem B3P {cx : Cx} {k : Int} {nm : ByteArray} {ty : Ty} {h w : List Ty} {t : Ty} (hcx : ∀ b ∈ cx, E7 b.2 = true) (hh : ∀ a ∈ h, E7 a = true) (hd : E7 (h.getD 0 A7) = true ∨ h = []) (hty : k = 13 → E7 ty = true) (hn : C7 k = (h.length : Int)) (hw : N2 cx k nm ty h = some (w, t)) (h510 : k ≠ 5 ∧ k ≠ 10) : E7 t = true := by
 have hg : ∀ i, i < h.length → E7 (h.getD i A7) = true := fun i hi => hh _ (B3O hi)
 unfold N2 at hw
 split at hw
 ·split at hw
  ·rename_i u hu; cases hw; exact A6C hcx hu
  ·cases hw
 split at hw
 ·cases hw; decide
 split at hw
 ·cases hw; decide
 split at hw
 ·exact absurd (by assumption) h510.1
 split at hw
 ·rename_i hk6
  have hl : h.length = 2 := by have : C7 k = 2 := (by rw [hk6]; rfl); omega
  split at hw
  ·rename_i a b hm
   split at hw
   ·cases hw; exact (A9j (.inl rfl) (hg 0 (by omega)) hm).2
   ·cases hw
  ·cases hw
 split at hw
 ·split at hw
  ·cases hw; split <;> decide
  ·cases hw
 split at hw
 ·rename_i hk9
  have hl : h.length = 3 := by have : C7 k = 3 := (by rw [hk9]; rfl); omega
  split at hw
  ·rename_i hc
   cases hw
   exact A6B _ _ 1 hc.2 (hg 1 (by omega)) (hg 2 (by omega))
  ·cases hw
 split at hw
 ·exact absurd (by assumption) h510.2
 split at hw
 ·split at hw
  ·cases hw; exact hty (by assumption)
  ·cases hw
 ·split at hw
  ·rename_i a b hm
   have hl : h.length ≠ 0 := by
    intro h0
    rw [List.length_eq_zero_iff] at h0
    subst h0
    rw [show R3 5 (([] : List Ty).getD 0 A7) = none from rfl] at hm
    cases hm
   cases hw
   have := A9j (.inr rfl) (hg 0 (by omega)) hm
   split
   ·exact this.2
   ·exact this.1
  ·cases hw
def Y2 (cx : Cx) : Prop := ∀ b ∈ cx, E7 b.2 = true
theorem A23 : Y2 [] := by intro b hb; simp at hb
theorem A3Y {cx : Cx} {k : Int} {nm : ByteArray} {ty : Ty} (h : Y2 cx) (ht : k = 5 → E7 ty = true) : Y2 (P0 cx k nm ty) := by
 unfold P0
 split
 ·intro b hb
  rcases List.mem_append.1 hb with hb | hb
  ·exact h b hb
  ·obtain rfl := List.mem_singleton.1 hb; exact ht (by assumption)
 ·exact h
theorem B3Q {cx : Cx} {k : Int} {nm : ByteArray} {ty : Ty} {h : List Ty} (hcx : Y2 cx) (hh : ∀ a ∈ h, E7 a = true) (hty : k = 13 → E7 ty = true) (hn : C7 k = (h.length : Int)) :
  (∀ w t, Z9 cx k nm ty h = some (w, t) → X3 cx k nm ty h = some t ∧ E7 t = true) ∧ (Z9 cx k nm ty h = none → X3 cx k nm ty h = none) := by
 unfold Z9 X3
 have hv := fun w t (e : N2 cx k nm ty h = some (w, t)) (h5 : k ≠ 5 ∧ k ≠ 10) => B3P hcx hh (by cases h with | nil => exact .inr rfl | cons x xs => exact .inl (hh _ (by simp))) hty hn e h5
 cases hw : N2 cx k nm ty h with
 | none => simp
 | some p =>
  obtain ⟨w, t⟩ := p
  have hv := hv w t hw
  simp only
  by_cases h5 : k = 5 ∨ k = 10
  ·cases ht : E7 t with
   | true => simp [ht]
   | false => simp [h5]
  ·have := hv (by omega)
   simp [this]
theorem A9k (ks : List Tm) (ih : ∀ t ∈ ks, ∀ d cx l, J1 12 14 t d = true → Y2 cx → (∀ u a l', M5 cx t l = some (u, a, l') → Q3 cx t = some a ∧ E7 a = true) ∧ (M5 cx t l = none → Q3 cx t = none)) :
  ∀ d cx l, E9 12 14 ks d = true → Y2 cx → (∀ us h l', M1 cx ks l = some (us, h, l') → W7 cx ks = some h ∧ (∀ a ∈ h, E7 a = true) ∧ h.length = ks.length ∧ us.length = ks.length) ∧ (M1 cx ks l = none → W7 cx ks = none) := by
 induction ks with
 | nil =>
  intro d cx l _ _
  refine ⟨fun us h l' he => ?_, fun he => by simp [M1] at he⟩
  simp only [M1, Option.some.injEq, Prod.mk.injEq] at he
  obtain ⟨rfl, rfl, _⟩ := he
  exact ⟨by rw [W7], by simp, rfl, rfl⟩
 | cons t ts ihl =>
  intro d cx l hs hcx
  rw [E9, Bool.and_eq_true] at hs
  obtain ⟨a1, a2⟩ := ih t List.mem_cons_self d cx l hs.1 hcx
  rw [M1, W7]
  cases he : M5 cx t l with
  | none => rw [a2 he]; exact ⟨fun _ _ _ h => by simp at h, fun _ => rfl⟩
  | some p =>
   obtain ⟨u, a, l1⟩ := p
   obtain ⟨b1, b2⟩ := a1 u a l1 he
   rw [b1]
   obtain ⟨c1, c2⟩ := ihl (fun x hx => ih x (List.mem_cons_of_mem _ hx)) d cx l1 hs.2 hcx
   simp only
   cases hL : M1 cx ts l1 with
   | none => rw [c2 hL]; exact ⟨fun _ _ _ h => by simp at h, fun _ => rfl⟩
   | some q =>
    obtain ⟨us, h, l2⟩ := q
    obtain ⟨d1, d2, d3, d4⟩ := c1 us h l2 hL
    rw [d1]
    refine ⟨fun us' h' l' e => ?_, fun e => by simp at e⟩
    simp only [Option.some.injEq, Prod.mk.injEq] at e
    obtain ⟨rfl, rfl, _⟩ := e
    refine ⟨rfl, fun x hx => ?_, by simp [d3], by simp [d4]⟩
    rcases List.mem_cons.1 hx with rfl | hx
    ·exact b2
    ·exact d2 x hx
theorem A3Z : ∀ (t : Tm) (d : Int) (cx : Cx) (l : Int), J1 12 14 t d = true → Y2 cx → (∀ u a l', M5 cx t l = some (u, a, l') → Q3 cx t = some a ∧ E7 a = true) ∧ (M5 cx t l = none → Q3 cx t = none) := by
 refine Tm.ind fun k nm num ty fr lb ks ih d cx l hs hcx => ?_
 obtain ⟨_, _, h3, h4⟩ := W6 hs
 obtain ⟨n1, _, _, _, _, n6, _⟩ := U8.1 h3
 obtain ⟨L1, L2⟩ := A9k ks ih (d + 1) (P0 cx k nm ty) l h4 (A3Y hcx fun hk => n6 (by omega))
 rw [M5, Q3]
 cases hL : M1 (P0 cx k nm ty) ks l with
 | none => rw [L2 hL]; exact ⟨fun _ _ _ h => by simp at h, fun _ => rfl⟩
 | some q =>
  obtain ⟨us, h, l2⟩ := q
  obtain ⟨d1, d2, d3, d4⟩ := L1 us h l2 hL
  rw [d1]
  obtain ⟨e1, e2⟩ := B3Q (k := k) (nm := nm) (ty := ty) hcx d2 (fun hk => n6 (.inr (.inl hk))) (by rw [d3]; exact n1)
  simp only [Q8]
  cases hN : Z9 cx k nm ty h with
  | none => rw [e2 hN]; exact ⟨fun _ _ _ h => by simp at h, fun _ => rfl⟩
  | some p =>
   obtain ⟨w, t⟩ := p
   obtain ⟨f1, f2⟩ := e1 w t hN
   rw [f1]
   refine ⟨fun u a l' e => ?_, fun e => by simp at e⟩
   simp only [Option.some.injEq, Prod.mk.injEq] at e
   obtain ⟨_, rfl, _⟩ := e
   exact ⟨rfl, f2⟩
theorem B3R {cx : Cx} {k : Int} {nm : ByteArray} {num : Int} {ty fr : Ty} {lb : Int} {ks : List Tm} {T : Ty} {us w : List Ty} (hu : Y6 (P0 cx k nm ty) ks = some us) (hk : k ≠ 14) (hv : E7 T = true) (hw : N2 cx k nm ty us = some (w, T)) (hs : A3I w us = true) : A0P cx (.mk k nm num ty fr lb ks) = some T := by
 rw [A0P, hu]
 simp only [if_neg hk]
 unfold Z9
 rw [hw]
 simp only [hv, if_true, hs]
theorem B3S {cx : Cx} {a : Tm} {us : List Ty} (h : Y6 cx [a] = some us) : ∃ x, A0P cx a = some x ∧ us = [x] := by
 rw [Y6] at h
 split at h
 ·cases h
 ·rename_i x hx
  rw [Y6] at h
  simp only [Option.some.injEq] at h
  exact ⟨x, hx, h.symm⟩
theorem B3T {cx : Cx} {a : Tm} {x : Ty} (h : A0P cx a = some x) : Y6 cx [a] = some [x] := by rw [Y6, h]; rfl
mutual
theorem A2A : ∀ a : Ty, K1 a a = true
 | .mk k ks => by rw [S5, A9l ks]; simp
theorem A9l : ∀ xs : List Ty, N0 xs xs = true
 | [] => rfl
 | a :: xs => by rw [N0, A2A a, A9l xs]; rfl
end
mutual
theorem A6D : ∀ a : Ty, V0 a a = a
 | .mk k ks => by
  rw [A06, A9m ks]
  by_cases h : k = 1
  ·rw [if_pos h]
  ·rw [if_neg h, if_neg h]
theorem A9m : ∀ xs : List Ty, S7 xs xs = xs
 | [] => rfl
 | a :: xs => by rw [S7, A6D a, A9m xs]
end
theorem A42 {k : Int} {ks : List Ty} (hk : k = 4 ∨ k = 5) (h : E7 (.mk k ks) = true) : ∃ a b, ks = [a, b] ∧ E7 a = true ∧ E7 b = true := by
 unfold E7 at h ⊢
 rw [A17, Bool.and_eq_true, Bool.and_eq_true, decide_eq_true_eq, decide_eq_true_eq] at h
 have h2 : ks.length = 2 := by
  have : V7 k = 2 := by rcases hk with rfl | rfl <;> rfl
  omega
 match ks, h2, h.2 with
 | [x, y], _, hL =>
  simp only [T7, Bool.and_eq_true] at hL
  exact ⟨x, y, rfl, A3X _ 2 1 (by omega) hL.1, A3X _ 2 1 (by omega) hL.2.1⟩
theorem B3U {k : Int} {ks : List Ty} (h : E7 (.mk k ks) = true) (hk : k ≠ 4) (hk5 : k ≠ 5) : (k = 1 ∨ k = 2 ∨ k = 3) ∧ ks = [] := by
 unfold E7 at h
 rw [A17, Bool.and_eq_true, Bool.and_eq_true, decide_eq_true_eq, decide_eq_true_eq] at h
 obtain ⟨h1, h2, h3⟩ := N7 k
 have hl := h.1.2
 have hk3 : k = 1 ∨ k = 2 ∨ k = 3 := by
  apply Classical.byContradiction
  intro hc
  rw [h3 (by omega) (by omega) (by omega) hk hk5] at hl; omega
 rw [h1 hk3] at hl
 exact ⟨hk3, List.length_eq_zero_iff.1 (by omega)⟩
section inv
variable {cx : Cx} {nm : ByteArray} {num : Int} {ty fr : Ty} {lb : Int} {a b c : Tm} {T : Ty}
theorem A9n : ∀ xs : List Ty, A3I xs xs = true
 | [] => rfl
 | a :: xs => by rw [A3I, A6b, A9n xs]; rfl
theorem B3V (h : A0P cx a = some fr) : A0P cx (.mk 14 nm num ty fr lb [a]) = some ty := by
 rw [A0P, show P0 cx 14 nm ty = cx from rfl, B3T h]
 simp only [if_true, List.getD_cons_zero, A6b]
end inv
theorem A9o (cx : Cx) (x nm : ByteArray) (t : Ty) : W3 (cx ++ [(x, t)]) nm = if x = nm then some t else W3 cx nm := by
 unfold W3
 rw [List.length_append, show ([(x, t)] : Cx).length = 1 from rfl]
 have hl : (cx ++ [(x, t)])[cx.length]? = some (x, t) := by rw [List.getElem?_append_right (Nat.le_refl _)]; simp
 by_cases h : x = nm
 ·rw [A6c hl h, if_pos h]
 ·rw [A6d hl h, if_neg h]
  have : ∀ n, n ≤ cx.length → X1 (cx ++ [(x, t)]) nm n = X1 cx nm n := by
   intro n
   induction n with
   | zero => intro _; rfl
   | succ n ih =>
    intro hn
    rw [X1, X1, List.getElem?_append_left (by omega), ih (by omega)]
  exact this _ (Nat.le_refl _)
theorem A43 {cx : Cx} : ∀ {ks : List Tm} {i : Nat} (hi : i < ks.length) {l l' l2 : Int} {us : List Tm} {h : List Ty} {u : Tm} {a : Ty}, M1 cx (ks.take i) l = some (us, h, l') → M5 cx ks[i] l' = some (u, a, l2) → M1 cx (ks.take (i + 1)) l = some (us ++ [u], h ++ [a], l2)
 | [], i, hi, _, _, _, _, _, _, _, _, _ => by simp at hi
 | t :: ts, 0, _, l, l', l2, us, h, u, a, h1, h2 => by
  simp only [List.take_zero, M1, Option.some.injEq, Prod.mk.injEq] at h1
  obtain ⟨rfl, rfl, rfl⟩ := h1
  simp only [List.getElem_cons_zero] at h2
  simp [M1, h2]
 | t :: ts, i + 1, hi, l, l', l2, us, h, u, a, h1, h2 => by
  simp only [List.take_succ_cons, M1] at h1 ⊢
  split at h1
  ·cases h1
  ·rename_i u1 a1 l1 he
   split at h1
   ·cases h1
   ·rename_i us1 h1' l1' hL
    simp only [Option.some.injEq, Prod.mk.injEq] at h1
    obtain ⟨rfl, rfl, rfl⟩ := h1
    simp only [List.getElem_cons_succ] at h2
    have := A43 (ks := ts) (i := i) (by simpa using hi) hL h2
    simp only [this, List.cons_append]
theorem A9p {cx : Cx} : ∀ {ks : List Tm} {i : Nat} (hi : i < ks.length) {l l' : Int} {us : List Tm} {h : List Ty}, M1 cx (ks.take i) l = some (us, h, l') → M5 cx ks[i] l' = none → M1 cx ks l = none
 | [], i, hi, _, _, _, _, _, _ => by simp at hi
 | t :: ts, 0, _, l, l', us, h, h1, h2 => by
  simp only [List.take_zero, M1, Option.some.injEq, Prod.mk.injEq] at h1
  obtain ⟨rfl, rfl, rfl⟩ := h1
  simp only [List.getElem_cons_zero] at h2
  simp [M1, h2]
 | t :: ts, i + 1, hi, l, l', us, h, h1, h2 => by
  simp only [List.take_succ_cons, M1] at h1 ⊢
  split at h1
  ·cases h1
  ·rename_i u1 a1 l1 he
   split at h1
   ·cases h1
   ·rename_i us1 h1' l1' hL
    simp only [Option.some.injEq, Prod.mk.injEq] at h1
    obtain ⟨rfl, rfl, rfl⟩ := h1
    simp only [List.getElem_cons_succ] at h2
    have := A9p (ks := ts) (i := i) (by simpa using hi) hL h2
    simp only [this]
theorem Y3 (us : List Tm) (h : List Ty) (l : Int) : E8 us h [] l = (us, l) := by
 cases us with
 | nil => rfl
 | cons u us => cases h <;> rfl
theorem A44 : ∀ (us : List Tm) (h w : List Ty) (l : Int) (j : Nat) (hj : j < w.length) (hu : w.length ≤ us.length) (hh : w.length ≤ h.length),
  (E8 us h (w.take j) l).1.length = us.length ∧ (∀ (hq : j < (E8 us h (w.take j) l).1.length), (E8 us h (w.take j) l).1[j] = us[j]'(by omega)) ∧
  E8 us h (w.take (j + 1)) l = if O2 (h[j]'(by omega)) w[j] = true then E8 us h (w.take j) l else ((E8 us h (w.take j) l).1.set j (O7 (us[j]'(by omega)) (h[j]'(by omega)) w[j] ((E8 us h (w.take j) l).2 + 1)), (E8 us h (w.take j) l).2 + 1)
 | us, h, [], l, j, hj, _, _ => by simp at hj
 | [], h, b :: w, l, j, _, hu, _ => by simp at hu
 | u :: us, [], b :: w, l, j, _, _, hh => by simp at hh
 | u :: us, a :: h, b :: w, l, 0, _, _, _ => by
  refine ⟨by simp [E8], by simp [E8], ?_⟩
  simp only [List.take_succ_cons, List.take_zero, E8, Y3, List.getElem_cons_zero, List.set_cons_zero]
 | u :: us, a :: h, b :: w, l, j + 1, hj, hu, hh => by
  simp only [List.take_succ_cons, List.getElem_cons_succ]
  by_cases hs : O2 a b = true
  ·have ih := A44 us h w l j (by simpa using hj) (by simpa using hu) (by simpa using hh)
   simp only [E8, if_pos hs]
   obtain ⟨i1, i2, i3⟩ := ih
   refine ⟨by simp [i1], fun hq => by simp [i2], ?_⟩
   rw [i3]
   split <;> simp
  ·have ih := A44 us h w (l + 1) j (by simpa using hj) (by simpa using hu) (by simpa using hh)
   simp only [E8, if_neg hs]
   obtain ⟨i1, i2, i3⟩ := ih
   refine ⟨by simp [i1], fun hq => by simp [i2], ?_⟩
   rw [i3]
   split <;> simp
theorem A24 : ∀ (us : List Tm) (h w : List Ty) (l : Int), (E8 us h w l).1.length = us.length
 | [], h, w, l => by simp [E8]
 | u :: us, [], w, l => by simp [E8]
 | u :: us, a :: h, [], l => by simp [E8]
 | u :: us, a :: h, b :: w, l => by
  simp only [E8]
  split
  ·simp [A24 us h w l]
  ·simp [A24 us h w (l + 1)]
theorem B3W {us : List Tm} {h w : List Ty} {l : Int} {j : Nat} (hj : j < w.length) (hu : w.length ≤ us.length) (hh : w.length ≤ h.length) :
  (E8 us h (w.take (j + 1)) l).1 = (E8 us h (w.take j) l).1.set j (if O2 (h[j]'(by omega)) w[j] = true then us[j]'(by omega) else O7 (us[j]'(by omega)) (h[j]'(by omega)) w[j] ((E8 us h (w.take j) l).2 + 1)) ∧
  (E8 us h (w.take (j + 1)) l).2 = (if O2 (h[j]'(by omega)) w[j] = true then (E8 us h (w.take j) l).2 else (E8 us h (w.take j) l).2 + 1) := by
 obtain ⟨h1, h2, h3⟩ := A44 us h w l j hj hu hh
 by_cases hs : O2 (h[j]'(by omega)) w[j] = true
 ·rw [h3, if_pos hs, if_pos hs, if_pos hs]
  refine ⟨?_, rfl⟩
  rw [← h2 (by omega), List.set_getElem_self]
 ·rw [h3, if_neg hs, if_neg hs, if_neg hs]
  exact ⟨rfl, rfl⟩
theorem A18 : ∀ (us : List Tm) (h w : List Ty) (l : Int), l ≤ (E8 us h w l).2 ∧ (E8 us h w l).2 ≤ l + us.length
 | [], h, w, l => by simp [E8]
 | u :: us, [], w, l => by simp [E8]; omega
 | u :: us, a :: h, [], l => by simp [E8]; omega
 | u :: us, a :: h, b :: w, l => by
  simp only [E8]
  split
  ·have := A18 us h w l; simp only [List.length_cons]; omega
  ·have := A18 us h w (l + 1); simp only [List.length_cons]; omega
mutual
def A1P : Ty → Ty → Bool
 | .mk k ks, t => decide (t.k = 1) || (decide (k = t.k) && A0z ks t.ks)
def A0z : List Ty → List Ty → Bool
 | [], [] => true
 | a :: xs, b :: ys => A1P a b && A0z xs ys
 | _, _ => false
end
theorem A1p (k k' : Int) (ks ks' : List Ty) : A1P (.mk k ks) (.mk k' ks') = (decide (k' = 1) || (decide (k = k') && A0z ks ks')) := by rw [A1P]; rfl
mutual
def A2B : Tm → Tm → Bool
 | .mk k nm num ty _ _ ks, u => decide (k = u.k ∧ nm = u.nm ∧ num = u.num) && (decide (k ≠ 5 ∧ k ≠ 13) || A1P ty u.ty) && A19 ks u.ks
def A19 : List Tm → List Tm → Bool
 | [], [] => true
 | a :: xs, b :: ys => A2B a b && A19 xs ys
 | _, _ => false
end
theorem A9q {k k' : Int} {nm nm' : ByteArray} {num num' : Int} {ty ty' fr fr' : Ty} {lb lb' : Int} {ks ks' : List Tm} :
  A2B (.mk k nm num ty fr lb ks) (.mk k' nm' num' ty' fr' lb' ks') = true ↔ k = k' ∧ nm = nm' ∧ num = num' ∧ (k = 5 ∨ k = 13 → A1P ty ty' = true) ∧ A19 ks ks' = true := by
 rw [A2B]
 show (decide (k = k' ∧ nm = nm' ∧ num = num') && (decide (k ≠ 5 ∧ k ≠ 13) || A1P ty ty') && A19 ks ks') = true ↔ _
 simp only [Bool.and_eq_true, Bool.or_eq_true, decide_eq_true_eq]
 constructor
 ·rintro ⟨⟨⟨a, b, c⟩, e⟩, d⟩
  exact ⟨a, b, c, fun h => e.resolve_left (by omega), d⟩
 ·rintro ⟨a, b, c, e, d⟩
  refine ⟨⟨⟨a, b, c⟩, ?_⟩, d⟩
  by_cases h : k = 5 ∨ k = 13
  ·exact .inr (e h)
  ·exact .inl (by omega)
def A45 (a b : Tm) : Bool := N9 a && (N9 b && A2B a b)
theorem A2a : ∀ (t : Ty), E7 t = true → ∃ a : GT, t = a.ty
 | .mk k ks, h => by
  by_cases h4 : k = 4
  ·obtain ⟨x, y, hxy, hx, hy⟩ := A42 (.inl h4) h
   have : SizeOf.sizeOf x < SizeOf.sizeOf ks ∧ SizeOf.sizeOf y < SizeOf.sizeOf ks := by subst hxy; simp; omega
   obtain ⟨a, ha⟩ := A2a x hx
   obtain ⟨b, hb⟩ := A2a y hy
   exact ⟨.fn a b, by rw [h4, hxy, ha, hb]; rfl⟩
  ·by_cases h5 : k = 5
   ·obtain ⟨x, y, hxy, hx, hy⟩ := A42 (.inr h5) h
    have : SizeOf.sizeOf x < SizeOf.sizeOf ks ∧ SizeOf.sizeOf y < SizeOf.sizeOf ks := by subst hxy; simp; omega
    obtain ⟨a, ha⟩ := A2a x hx
    obtain ⟨b, hb⟩ := A2a y hy
    exact ⟨.pr a b, by rw [h5, hxy, ha, hb]; rfl⟩
   ·obtain ⟨h1, rfl⟩ := B3U h h4 h5
    rcases h1 with rfl | rfl | rfl
    ·exact ⟨.any, rfl⟩
    ·exact ⟨.int, rfl⟩
    ·exact ⟨.bool, rfl⟩
 termination_by t => SizeOf.sizeOf t
 decreasing_by all_goals (simp only [Ty.mk.sizeOf_spec]; omega)
theorem A9r : ∀ (a b : GT), A1P a.ty b.ty = true ↔ Le a b := by
 intro a
 induction a with
 | any => intro b; cases b <;> simp [GT.ty, A1p, A0z] <;> first | exact .any | (intro h; cases h)
 | int => intro b; cases b <;> simp [GT.ty, A1p, A0z] <;> first | exact .any | exact .int | (intro h; cases h)
 | bool => intro b; cases b <;> simp [GT.ty, A1p, A0z] <;> first | exact .any | exact .bool | (intro h; cases h)
 | fn x y i j =>
  intro b
  cases b with
  | fn z w => simp only [GT.ty, A1p, A0z, i, j, Bool.or_eq_true, Bool.and_eq_true, decide_eq_true_eq, Bool.and_true, true_and]; exact ⟨fun h => by rcases h with h | h; exact absurd h (by decide); exact .fn h.1 h.2, fun h => by cases h with | fn a b => exact .inr ⟨a, b⟩⟩
  | any => simp [GT.ty, A1p, A0z]; exact .any
  | _ => simp [GT.ty, A1p, A0z]; intro h; cases h
 | pr x y i j =>
  intro b
  cases b with
  | pr z w => simp only [GT.ty, A1p, A0z, i, j, Bool.or_eq_true, Bool.and_eq_true, decide_eq_true_eq, Bool.and_true, true_and]; exact ⟨fun h => by rcases h with h | h; exact absurd h (by decide); exact .pr h.1 h.2, fun h => by cases h with | pr a b => exact .inr ⟨a, b⟩⟩
  | any => simp [GT.ty, A1p, A0z]; exact .any
  | _ => simp [GT.ty, A1p, A0z]; intro h; cases h
theorem A0I : ∀ (a b : GT), K1 a.ty b.ty = true ↔ Co a b := by
 intro a
 induction a with
 | any => intro b; cases b <;> simp [GT.ty, S5, N0] <;> exact .l
 | int => intro b; cases b <;> simp [GT.ty, S5, N0] <;> first | exact .r | exact .int | (intro h; cases h)
 | bool => intro b; cases b <;> simp [GT.ty, S5, N0] <;> first | exact .r | exact .bool | (intro h; cases h)
 | fn x y i j =>
  intro b
  cases b with
  | fn z w => simp only [GT.ty, S5, N0, i, j, Bool.or_eq_true, Bool.and_eq_true, decide_eq_true_eq, Bool.and_true, true_and]; exact ⟨fun h => by rcases h with h | h; exact absurd h (by decide); exact .fn h.1 h.2, fun h => by cases h with | fn a b => exact .inr ⟨a, b⟩⟩
  | any => simp [GT.ty, S5, N0]; exact .r
  | _ => simp [GT.ty, S5, N0]; intro h; cases h
 | pr x y i j =>
  intro b
  cases b with
  | pr z w => simp only [GT.ty, S5, N0, i, j, Bool.or_eq_true, Bool.and_eq_true, decide_eq_true_eq, Bool.and_true, true_and]; exact ⟨fun h => by rcases h with h | h; exact absurd h (by decide); exact .pr h.1 h.2, fun h => by cases h with | pr a b => exact .inr ⟨a, b⟩⟩
  | any => simp [GT.ty, S5, N0]; exact .r
  | _ => simp [GT.ty, S5, N0]; intro h; cases h
def R8 : GT → GT → GT
 | .any, b => b
 | .fn a b, .fn c d => .fn (R8 a c) (R8 b d)
 | .pr a b, .pr c d => .pr (R8 a c) (R8 b d)
 | a, _ => a
theorem A25 (a : GT) : R8 a .any = a := by cases a <;> rfl
theorem A9s {a b : GT} (h : Co a b) : V0 a.ty b.ty = (R8 a b).ty := by
 induction h with
 | l => simp [GT.ty, V0, R8]
 | @r a => rw [A25]; cases a <;> simp [GT.ty, A06]
 | int => simp [GT.ty, A06, S7, R8]
 | bool => simp [GT.ty, A06, S7, R8]
 | fn _ _ i j => simp [GT.ty, A06, S7, R8, i, j]
 | pr _ _ i j => simp [GT.ty, A06, S7, R8, i, j]
theorem A46 {a b : GT} (h : Co a b) : Le (R8 a b) a := by
 induction h with
 | l => exact .any
 | r => rw [A25]; exact Le.refl
 | int => exact .int
 | bool => exact .bool
 | fn _ _ i j => exact .fn i j
 | pr _ _ i j => exact .pr i j
theorem A47 {a b : GT} (h : Co a b) : Le (R8 a b) b := by
 induction h with
 | l => exact Le.refl
 | r => exact .any
 | int => exact .int
 | bool => exact .bool
 | fn _ _ i j => exact .fn i j
 | pr _ _ i j => exact .pr i j
theorem B3X {a b : GT} (h : Co a b) : ∀ {a' b' : GT}, Le a a' → Le b b' → Le (R8 a b) (R8 a' b') := by
 induction h with
 | l => intro a' b' h1 h2; cases h1; exact h2
 | r => intro a' b' h1 h2; cases h2; rw [A25, A25]; exact h1
 | int => intro a' b' h1 h2; cases h1 <;> cases h2 <;> first | exact .int | exact .any
 | bool => intro a' b' h1 h2; cases h1 <;> cases h2 <;> first | exact .bool | exact .any
 | fn c d i j =>
  intro a' b' h1 h2
  cases h1 with
  | any => exact (A47 (.fn c d)).trans h2
  | fn p q => cases h2 with
   | any => rw [A25]; exact (A46 (.fn c d)).trans (.fn p q)
   | fn r s => exact .fn (i p r) (j q s)
 | pr c d i j =>
  intro a' b' h1 h2
  cases h1 with
  | any => exact (A47 (.pr c d)).trans h2
  | pr p q => cases h2 with
   | any => rw [A25]; exact (A46 (.pr c d)).trans (.pr p q)
   | pr r s => exact .pr (i p r) (j q s)
theorem B3Y {a b : GT} (h : Le a b) : ∀ (d : Int), K8 a.ty d = true → K8 b.ty d = true := by
 induction h with
 | @any a => intro d h; cases a <;> (simp only [GT.ty, A17, Bool.and_eq_true, decide_eq_true_eq] at h ⊢; exact ⟨⟨h.1.1, rfl⟩, by rw [T7]⟩)
 | int => exact fun _ h => h
 | bool => exact fun _ h => h
 | fn _ _ i j =>
  intro d h
  simp only [GT.ty, A17, T7, Bool.and_eq_true, decide_eq_true_eq] at h ⊢
  exact ⟨⟨h.1.1, rfl⟩, i _ h.2.1, j _ h.2.2.1, trivial⟩
 | pr _ _ i j =>
  intro d h
  simp only [GT.ty, A17, T7, Bool.and_eq_true, decide_eq_true_eq] at h ⊢
  exact ⟨⟨h.1.1, rfl⟩, i _ h.2.1, j _ h.2.2.1, trivial⟩
theorem A2C {a b : GT} (h : Le a b) (hv : E7 a.ty = true) : E7 b.ty = true := B3Y h 1 hv
def gmF : GT → Option (GT × GT)
 | .fn a b => some (a, b)
 | .any => some (.any, .any)
 | _ => none
def gmP : GT → Option (GT × GT)
 | .pr a b => some (a, b)
 | .any => some (.any, .any)
 | _ => none
theorem A9t (a : GT) : R3 4 a.ty = (gmF a).map fun p => (p.1.ty, p.2.ty) := by cases a <;> rfl
theorem A9u (a : GT) : R3 5 a.ty = (gmP a).map fun p => (p.1.ty, p.2.ty) := by cases a <;> rfl
theorem B3Z {a b p q : GT} (h : Le a b) (hm : gmF a = some (p, q)) : Co a (.fn p q) ∧ ∃ p' q', gmF b = some (p', q') ∧ Le p p' ∧ Le q q' ∧ Co b (.fn p' q') := by
 cases h with
 | any =>
  refine ⟨?_, .any, .any, rfl, .any, .any, .l⟩
  cases a with
  | fn _ _ => cases hm; exact Co.refl
  | any => exact .l
  | _ => cases hm
 | fn h1 h2 => cases hm; exact ⟨Co.refl, _, _, rfl, h1, h2, Co.refl⟩
 | _ => cases hm
theorem B30 {a b p q : GT} (h : Le a b) (hm : gmP a = some (p, q)) : Co a (.pr p q) ∧ ∃ p' q', gmP b = some (p', q') ∧ Le p p' ∧ Le q q' ∧ Co b (.pr p' q') := by
 cases h with
 | any =>
  refine ⟨?_, .any, .any, rfl, .any, .any, .l⟩
  cases a with
  | pr _ _ => cases hm; exact Co.refl
  | any => exact .l
  | _ => cases hm
 | pr h1 h2 => cases hm; exact ⟨Co.refl, _, _, rfl, h1, h2, Co.refl⟩
 | _ => cases hm
def CxR (cx cx' : Cx) (Γ : GC) : Prop := ∀ x a, W3 cx x = some a → ∃ A A', a = A.ty ∧ W3 cx' x = some A'.ty ∧ Γ x = some (A, A') ∧ Le A A'
theorem B31 : CxR [] [] N1 := by intro x a h; simp [W3, X1] at h
theorem B32 {cx cx' : Cx} {Γ : GC} (h : CxR cx cx' Γ) {A A' : GT} (hl : Le A A') (x : ByteArray) : CxR (cx ++ [(x, A.ty)]) (cx' ++ [(x, A'.ty)]) (gup Γ x A A') := by
 intro y a ha
 rw [A9o] at ha ⊢
 unfold gup
 by_cases hy : x = y
 ·rw [if_pos hy] at ha ⊢
  rw [if_pos hy]
  cases ha
  exact ⟨A, A', rfl, rfl, rfl, hl⟩
 ·rw [if_neg hy] at ha ⊢
  rw [if_neg hy]
  exact h y a ha
def S4 (A B : GT) (l : Int) (e : GE) : GE := if O2 A.ty B.ty = true then e else .cast A B l e
theorem A1Q {Γ : GC} {e e' : GE} {A A' B B' : GT} {l l' : Int} (h : GP Γ e e' A A') (h1 : Co A B) (h2 : Co A' B') (h3 : Le B B') : GP Γ (S4 A B l e) (S4 A' B' l' e') B B' := by
 unfold S4
 by_cases hs : O2 A.ty B.ty = true
 ·rw [if_pos hs]
  obtain rfl := GT.inj ((A1i _ _).1 hs)
  by_cases ht : O2 A'.ty B'.ty = true
  ·rw [if_pos ht]
   obtain rfl := GT.inj ((A1i _ _).1 ht)
   exact h
  ·rw [if_neg ht]; exact .castR h h2 h3
 ·rw [if_neg hs]
  by_cases ht : O2 A'.ty B'.ty = true
  ·rw [if_pos ht]
   obtain rfl := GT.inj ((A1i _ _).1 ht)
   exact .castL h h1 h3
  ·rw [if_neg ht]; exact .castB h h1 h2 h3
theorem A6E (e : GE) (us : List Tm) (A B : GT) (h w : List Ty) (l : Int) : ∃ m l1, E8 (e.tm :: us) (A.ty :: h) (B.ty :: w) l = ((S4 A B m e).tm :: (E8 us h w l1).1, (E8 us h w l1).2) := by
 rw [E8]
 unfold S4
 by_cases hs : O2 A.ty B.ty = true
 ·rw [if_pos hs]; exact ⟨0, l, by rw [if_pos hs]⟩
 ·rw [if_neg hs]; exact ⟨l + 1, l + 1, by rw [if_neg hs]; rfl⟩
theorem A30 (e : GE) (A B : GT) (l : Int) : ∃ m l1, E8 [e.tm] [A.ty] [B.ty] l = ([(S4 A B m e).tm], l1) := by
 obtain ⟨m, l1, h⟩ := A6E e [] A B [] [] l
 rw [Y3] at h
 exact ⟨m, l1, h⟩
theorem A31 (e f : GE) (A B C D : GT) (l : Int) : ∃ m n l1, E8 [e.tm, f.tm] [A.ty, C.ty] [B.ty, D.ty] l = ([(S4 A B m e).tm, (S4 C D n f).tm], l1) := by
 obtain ⟨m, l1, h⟩ := A6E e [f.tm] A B [C.ty] [D.ty] l
 obtain ⟨n, l2, h2⟩ := A30 f C D l1
 rw [h2] at h
 exact ⟨m, n, l2, h⟩
theorem A9v (e f g : GE) (A B C D E F : GT) (l : Int) : ∃ m n o l1, E8 [e.tm, f.tm, g.tm] [A.ty, C.ty, E.ty] [B.ty, D.ty, F.ty] l = ([(S4 A B m e).tm, (S4 C D n f).tm, (S4 E F o g).tm], l1) := by
 obtain ⟨m, l1, h⟩ := A6E e [f.tm, g.tm] A B [C.ty, E.ty] [D.ty, F.ty] l
 obtain ⟨n, o, l2, h2⟩ := A31 f g C D E F l1
 rw [h2] at h
 exact ⟨m, n, o, l2, h⟩
inductive GPL (Γ : GC) : List GE → List GE → List GT → List GT → Prop
 | nil : GPL Γ [] [] [] []
 | cons {e e' A A' es es' As As'} : GP Γ e e' A A' → GPL Γ es es' As As' → GPL Γ (e :: es) (e' :: es') (A :: As) (A' :: As')
theorem GPL.one {Γ : GC} {es es' : List GE} {As As' : List GT} (h : GPL Γ es es' As As') (hl : es.length = 1) : ∃ e e' A A', es = [e] ∧ es' = [e'] ∧ As = [A] ∧ As' = [A'] ∧ GP Γ e e' A A' := by
 cases h with
 | nil => simp at hl
 | cons h h2 => cases h2 with
  | nil => exact ⟨_, _, _, _, rfl, rfl, rfl, rfl, h⟩
  | cons _ _ => simp at hl
theorem GPL.two {Γ : GC} {es es' : List GE} {As As' : List GT} (h : GPL Γ es es' As As') (hl : es.length = 2) : ∃ e e' A A' f f' B B', es = [e, f] ∧ es' = [e', f'] ∧ As = [A, B] ∧ As' = [A', B'] ∧ GP Γ e e' A A' ∧ GP Γ f f' B B' := by
 cases h with
 | nil => simp at hl
 | cons h h2 =>
  obtain ⟨f, f', B, B', rfl, rfl, rfl, rfl, h3⟩ := h2.one (by simpa using hl)
  exact ⟨_, _, _, _, f, f', B, B', rfl, rfl, rfl, rfl, h, h3⟩
theorem GPL.three {Γ : GC} {es es' : List GE} {As As' : List GT} (h : GPL Γ es es' As As') (hl : es.length = 3) : ∃ e e' A A' f f' B B' g g' C C', es = [e, f, g] ∧ es' = [e', f', g'] ∧ As = [A, B, C] ∧ As' = [A', B', C'] ∧ GP Γ e e' A A' ∧ GP Γ f f' B B' ∧ GP Γ g g' C C' := by
 cases h with
 | nil => simp at hl
 | cons h h2 =>
  obtain ⟨f, f', B, B', g, g', C, C', rfl, rfl, rfl, rfl, h3, h4⟩ := h2.two (by simpa using hl)
  exact ⟨_, _, _, _, f, f', B, B', g, g', C, C', rfl, rfl, rfl, rfl, h, h3, h4⟩
theorem GPL.zero {Γ : GC} {es es' : List GE} {As As' : List GT} (h : GPL Γ es es' As As') (hl : es.length = 0) : es = [] ∧ es' = [] ∧ As = [] ∧ As' = [] := by
 cases h with
 | nil => exact ⟨rfl, rfl, rfl, rfl⟩
 | cons _ _ => simp at hl
theorem A08 {cx : Cx} {k : Int} {nm : ByteArray} {num : Int} {ty fr : Ty} {lb : Int} {us : List Tm} {h : List Ty} {l : Int} {u : Tm} {a : Ty} {l2 : Int} (he : Q8 cx k nm num ty fr lb us h l = some (u, a, l2)) :
  ∃ w, N2 cx k nm ty h = some (w, a) ∧ E7 a = true ∧ u = if k = 13 then (E8 us h w l).1.getD 0 F4 else .mk k nm num ty fr lb (E8 us h w l).1 := by
 unfold Q8 at he
 split at he
 ·cases he
 ·rename_i w t hn
  simp only [Option.some.injEq, Prod.mk.injEq] at he
  obtain ⟨rfl, rfl, rfl⟩ := he
  obtain ⟨h1, h2⟩ := A9g hn
  exact ⟨w, h2, h1, rfl⟩
theorem A1q {cx : Cx} {k : Int} {nm : ByteArray} {num : Int} {ty fr : Ty} {lb : Int} {us : List Tm} {h : List Ty} {l : Int} {w : List Ty} {a : Ty} (hw : N2 cx k nm ty h = some (w, a)) (hv : E7 a = true) :
  Q8 cx k nm num ty fr lb us h l = some (if k = 13 then (E8 us h w l).1.getD 0 F4 else .mk k nm num ty fr lb (E8 us h w l).1, a, (E8 us h w l).2) := by
 unfold Q8 Z9
 rw [hw]
 simp only [hv, if_true]
theorem A6F {k : Int} {nm : ByteArray} {num : Int} {ty fr : Ty} {lb : Int} {ks : List Tm} {d : Int} (h : J1 12 14 (.mk k nm num ty fr lb ks) d = true) :
  C7 k = ks.length ∧ k ≠ 14 ∧ (¬(k = 1 ∨ k = 5) → nm = ⟨#[]⟩) ∧ (k ≠ 2 → num = 0) ∧ (k = 5 ∨ k = 13 → E7 ty = true) ∧ (¬(k = 5 ∨ k = 13) → ty = A7) ∧ fr = A7 ∧ lb = 0 ∧ E9 12 14 ks (d + 1) = true := by
 obtain ⟨_, h2, h3, h4⟩ := W6 h
 obtain ⟨n1, n2, n3, n4, n5, n6, n7, n8, n9⟩ := U8.1 h3
 exact ⟨n1, h2, n3, fun hk => by have := A3T.1 (n5 hk); omega, fun hk => n6 (by omega), fun hk => A1J (n7 (by omega)), A1J (n9 h2).1, (n9 h2).2, h4⟩
abbrev ElR (Γ : GC) (u : Tm) (a : Ty) (r : Option (Tm × Ty × Int)) : Prop := ∃ e A e' A' l2, u = e.tm ∧ a = A.ty ∧ r = some (e'.tm, A'.ty, l2) ∧ GP Γ e e' A A'
section
variable {cx cx' : Cx} {Γ : GC} {es es' : List GE} {As As' : List GT} {l l' : Int} {u : Tm} {a : Ty} {l2 : Int} {nm : ByteArray} {num : Int}
theorem B33 (hc : CxR cx cx' Γ) (he : Q8 cx 1 nm 0 A7 A7 0 [] [] l = some (u, a, l2)) : ElR Γ u a (Q8 cx' 1 nm 0 A7 A7 0 [] [] l') := by
 obtain ⟨w, hw, hv, rfl⟩ := A08 he
 unfold N2 at hw
 rw [if_pos rfl] at hw
 split at hw
 ·rename_i t ht
  cases hw
  obtain ⟨A, A', rfl, h2, h3, h4⟩ := hc _ _ ht
  refine ⟨.var nm, A, .var nm, A', l', ?_, rfl, ?_, .var h3 h4⟩
  ·rw [Y3, if_neg (by decide)]; rfl
  ·rw [A1q (w := []) (a := A'.ty) (by unfold N2; rw [if_pos rfl, h2]) (A2C h4 hv), Y3, if_neg (by decide)]; rfl
 ·cases hw
theorem B34 (he : Q8 cx 2 ⟨#[]⟩ num A7 A7 0 [] [] l = some (u, a, l2)) : ElR Γ u a (Q8 cx' 2 ⟨#[]⟩ num A7 A7 0 [] [] l') := by
 obtain ⟨w, hw, hv, rfl⟩ := A08 he
 cases hw
 exact ⟨.num num, .int, .num num, .int, l', by rw [Y3, if_neg (by decide)]; rfl, rfl, by rw [A1q (w := []) (a := T1) rfl hv, Y3, if_neg (by decide)]; rfl, .num⟩
theorem B35 (b : Bool) (he : Q8 cx (if b = true then 3 else 4) ⟨#[]⟩ 0 A7 A7 0 [] [] l = some (u, a, l2)) : ElR Γ u a (Q8 cx' (if b = true then 3 else 4) ⟨#[]⟩ 0 A7 A7 0 [] [] l') := by
 obtain ⟨w, hw, hv, rfl⟩ := A08 he
 cases b <;> (cases hw; exact ⟨.tru _, .bool, .tru _, .bool, l', by rw [Y3, if_neg (by decide)]; rfl, rfl, by rw [A1q (w := []) (a := Y0) rfl hv, Y3, if_neg (by decide)]; rfl, .tru⟩)
theorem B36 {A A' B B' : GT} {e e' : GE} (hA : Le A A') (hp : GP (gup Γ nm A A') e e' B B') (he : Q8 cx 5 nm 0 A.ty A7 0 [e.tm] [B.ty] l = some (u, a, l2)) : ElR Γ u a (Q8 cx' 5 nm 0 A'.ty A7 0 [e'.tm] [B'.ty] l') := by
 obtain ⟨w, hw, hv, rfl⟩ := A08 he
 cases hw
 exact ⟨.lam nm A e, .fn A B, .lam nm A' e', .fn A' B', l', by rw [Y3, if_neg (by decide)]; rfl, rfl, by rw [A1q (w := []) (a := .mk 4 [A'.ty, B'.ty]) rfl (A2C (.fn hA hp.le) hv), Y3, if_neg (by decide)]; rfl, .lam hA hp⟩
theorem B37 {A A' B B' : GT} {e e' f f' : GE} (hp : GP Γ e e' A A') (hq : GP Γ f f' B B') (he : Q8 cx 6 ⟨#[]⟩ 0 A7 A7 0 [e.tm, f.tm] [A.ty, B.ty] l = some (u, a, l2)) : ElR Γ u a (Q8 cx' 6 ⟨#[]⟩ 0 A7 A7 0 [e'.tm, f'.tm] [A'.ty, B'.ty] l') := by
 obtain ⟨w, hw, hv, rfl⟩ := A08 he
 unfold N2 at hw
 rw [if_neg (by decide), if_neg (by decide), if_neg (by decide), if_neg (by decide), if_pos rfl] at hw
 simp only [List.getD_cons_zero, List.getD_cons_succ, A9t] at hw
 cases hm : gmF A with
 | none => rw [hm] at hw; cases hw
 | some pq =>
  obtain ⟨p, q⟩ := pq
  rw [hm] at hw
  simp only [Option.map_some] at hw
  split at hw
  ·rename_i hc
   cases hw
   obtain ⟨c1, p', q', hm', h1, h2, c2⟩ := B3Z hp.le hm
   have hco := (A0I _ _).1 hc
   have hco' := hco.up hq.le h1
   obtain ⟨m, n, l1, h3⟩ := A31 e f A (.fn p q) B p l
   obtain ⟨m', n', l1', h3'⟩ := A31 e' f' A' (.fn p' q') B' p' l'
   refine ⟨.app (S4 A (.fn p q) m e) (S4 B p n f), q, .app (S4 A' (.fn p' q') m' e') (S4 B' p' n' f'), q', l1', ?_, rfl, ?_, .app (A1Q hp c1 c2 (.fn h1 h2)) (A1Q hq hco hco' h1)⟩
   ·rw [if_neg (by decide)]
    show Tm.mk _ _ _ _ _ _ (E8 [e.tm, f.tm] [A.ty, B.ty] [(GT.fn p q).ty, p.ty] l).1 = _
    rw [h3]; rfl
   ·rw [A1q (w := [(GT.fn p' q').ty, p'.ty]) (a := q'.ty) ?_ (A2C h2 hv), if_neg (by decide), h3']
    ·rfl
    ·unfold N2
     rw [if_neg (by decide), if_neg (by decide), if_neg (by decide), if_neg (by decide), if_pos rfl]
     simp only [List.getD_cons_zero, List.getD_cons_succ, A9t, hm', Option.map_some]
     rw [if_pos ((A0I _ _).2 hco')]; rfl
  ·cases hw
theorem B38 (s : Bool) {A A' B B' : GT} {e e' f f' : GE} (hp : GP Γ e e' A A') (hq : GP Γ f f' B B') (he : Q8 cx (if s = true then 8 else 7) ⟨#[]⟩ 0 A7 A7 0 [e.tm, f.tm] [A.ty, B.ty] l = some (u, a, l2)) : ElR Γ u a (Q8 cx' (if s = true then 8 else 7) ⟨#[]⟩ 0 A7 A7 0 [e'.tm, f'.tm] [A'.ty, B'.ty] l') := by
 have hk : (if s = true then (8 : Int) else 7) = 7 ∨ (if s = true then (8 : Int) else 7) = 8 := by cases s <;> simp
 have hT : (if (if s = true then (8 : Int) else 7) = 8 then Y0 else T1) = GT.ty (if s = true then .bool else .int) := by cases s <;> rfl
 obtain ⟨w, hw, hv, rfl⟩ := A08 he
 unfold N2 at hw
 rw [if_neg (by omega), if_neg (by omega), if_neg (by omega), if_neg (by omega), if_neg (by omega), if_pos hk] at hw
 simp only [List.getD_cons_zero, List.getD_cons_succ] at hw
 split at hw
 ·rename_i hc
  rw [hT] at hw
  cases hw
  have c1 := (A0I A .int).1 hc.1
  have c2 := (A0I B .int).1 hc.2
  have d1 := c1.up hp.le Le.refl
  have d2 := c2.up hq.le Le.refl
  obtain ⟨m, n, l1, h3⟩ := A31 e f A .int B .int l
  obtain ⟨m', n', l1', h3'⟩ := A31 e' f' A' .int B' .int l'
  refine ⟨.ar s (S4 A .int m e) (S4 B .int n f), _, .ar s (S4 A' .int m' e') (S4 B' .int n' f'), _, l1', ?_, rfl, ?_, .ar (A1Q hp c1 d1 .int) (A1Q hq c2 d2 .int)⟩
  ·rw [if_neg (by omega)]
   show Tm.mk _ _ _ _ _ _ (E8 [e.tm, f.tm] [A.ty, B.ty] [GT.int.ty, GT.int.ty] l).1 = _
   rw [h3]; rfl
  ·rw [A1q (w := [GT.int.ty, GT.int.ty]) (a := GT.ty (if s = true then .bool else .int)) ?_ hv, if_neg (by omega), h3']
   ·rfl
   ·unfold N2
    rw [if_neg (by omega), if_neg (by omega), if_neg (by omega), if_neg (by omega), if_neg (by omega), if_pos hk]
    simp only [List.getD_cons_zero, List.getD_cons_succ]
    rw [if_pos ⟨(A0I A' .int).2 d1, (A0I B' .int).2 d2⟩, hT]; rfl
 ·cases hw
theorem B39 {A A' B B' C C' : GT} {e e' f f' g g' : GE} (hp : GP Γ e e' A A') (hq : GP Γ f f' B B') (hr : GP Γ g g' C C') (he : Q8 cx 9 ⟨#[]⟩ 0 A7 A7 0 [e.tm, f.tm, g.tm] [A.ty, B.ty, C.ty] l = some (u, a, l2)) :
  ElR Γ u a (Q8 cx' 9 ⟨#[]⟩ 0 A7 A7 0 [e'.tm, f'.tm, g'.tm] [A'.ty, B'.ty, C'.ty] l') := by
 obtain ⟨w, hw, hv, rfl⟩ := A08 he
 unfold N2 at hw
 rw [if_neg (by decide), if_neg (by decide), if_neg (by decide), if_neg (by decide), if_neg (by decide), if_neg (by decide), if_pos rfl] at hw
 simp only [List.getD_cons_zero, List.getD_cons_succ] at hw
 split at hw
 ·rename_i hc
  have c1 := (A0I A .bool).1 hc.1
  have c2 := (A0I B C).1 hc.2
  have d1 := c1.up hp.le Le.refl
  have d2 := c2.up hq.le hr.le
  rw [A9s c2] at hw
  cases hw
  have hM := B3X c2 hq.le hr.le
  obtain ⟨m, n, o, l1, h3⟩ := A9v e f g A .bool B (R8 B C) C (R8 B C) l
  obtain ⟨m', n', o', l1', h3'⟩ := A9v e' f' g' A' .bool B' (R8 B' C') C' (R8 B' C') l'
  refine ⟨.ite (S4 A .bool m e) (S4 B (R8 B C) n f) (S4 C (R8 B C) o g), R8 B C, .ite (S4 A' .bool m' e') (S4 B' (R8 B' C') n' f') (S4 C' (R8 B' C') o' g'), R8 B' C', l1', ?_, rfl, ?_,
   .ite (A1Q hp c1 d1 .bool) (A1Q hq (A46 c2).co.symm (A46 d2).co.symm hM) (A1Q hr (A47 c2).co.symm (A47 d2).co.symm hM)⟩
  ·rw [if_neg (by decide)]
   show Tm.mk _ _ _ _ _ _ (E8 [e.tm, f.tm, g.tm] [A.ty, B.ty, C.ty] [GT.bool.ty, (R8 B C).ty, (R8 B C).ty] l).1 = _
   rw [h3]; rfl
  ·rw [A1q (w := [GT.bool.ty, (R8 B' C').ty, (R8 B' C').ty]) (a := (R8 B' C').ty) ?_ (A2C hM hv), if_neg (by decide), h3']
   ·rfl
   ·unfold N2
    rw [if_neg (by decide), if_neg (by decide), if_neg (by decide), if_neg (by decide), if_neg (by decide), if_neg (by decide), if_pos rfl]
    simp only [List.getD_cons_zero, List.getD_cons_succ]
    rw [if_pos ⟨(A0I A' .bool).2 d1, (A0I B' C').2 d2⟩, A9s d2]; rfl
 ·cases hw
theorem B4a {A A' B B' : GT} {e e' f f' : GE} (hp : GP Γ e e' A A') (hq : GP Γ f f' B B') (he : Q8 cx 10 ⟨#[]⟩ 0 A7 A7 0 [e.tm, f.tm] [A.ty, B.ty] l = some (u, a, l2)) : ElR Γ u a (Q8 cx' 10 ⟨#[]⟩ 0 A7 A7 0 [e'.tm, f'.tm] [A'.ty, B'.ty] l') := by
 obtain ⟨w, hw, hv, rfl⟩ := A08 he
 cases hw
 exact ⟨.pair e f, .pr A B, .pair e' f', .pr A' B', l', by rw [Y3, if_neg (by decide)]; rfl, rfl, by rw [A1q (w := []) (a := .mk 5 [A'.ty, B'.ty]) rfl (A2C (.pr hp.le hq.le) hv), Y3, if_neg (by decide)]; rfl, .pair hp hq⟩
theorem B4b (s : Bool) {A A' : GT} {e e' : GE} (hp : GP Γ e e' A A') (he : Q8 cx (if s = true then 12 else 11) ⟨#[]⟩ 0 A7 A7 0 [e.tm] [A.ty] l = some (u, a, l2)) : ElR Γ u a (Q8 cx' (if s = true then 12 else 11) ⟨#[]⟩ 0 A7 A7 0 [e'.tm] [A'.ty] l') := by
 have hk : (if s = true then (12 : Int) else 11) = 11 ∨ (if s = true then (12 : Int) else 11) = 12 := by cases s <;> simp
 have hT : ∀ p q : GT, (if (if s = true then (12 : Int) else 11) = 12 then q.ty else p.ty) = GT.ty (if s = true then q else p) := by intro p q; cases s <;> rfl
 obtain ⟨w, hw, hv, rfl⟩ := A08 he
 unfold N2 at hw
 rw [if_neg (by omega), if_neg (by omega), if_neg (by omega), if_neg (by omega), if_neg (by omega), if_neg (by omega), if_neg (by omega), if_neg (by omega), if_neg (by omega)] at hw
 simp only [List.getD_cons_zero, A9u] at hw
 cases hm : gmP A with
 | none => rw [hm] at hw; cases hw
 | some pq =>
  obtain ⟨p, q⟩ := pq
  rw [hm] at hw
  simp only [Option.map_some, hT] at hw
  cases hw
  obtain ⟨c1, p', q', hm', h1, h2, c2⟩ := B30 hp.le hm
  obtain ⟨m, l1, h3⟩ := A30 e A (.pr p q) l
  obtain ⟨m', l1', h3'⟩ := A30 e' A' (.pr p' q') l'
  refine ⟨.part s (S4 A (.pr p q) m e), _, .part s (S4 A' (.pr p' q') m' e'), _, l1', ?_, rfl, ?_, .part (A1Q hp c1 c2 (.pr h1 h2))⟩
  ·rw [if_neg (by omega)]
   show Tm.mk _ _ _ _ _ _ (E8 [e.tm] [A.ty] [(GT.pr p q).ty] l).1 = _
   rw [h3]; rfl
  ·rw [A1q (w := [(GT.pr p' q').ty]) (a := GT.ty (if s = true then q' else p')) ?_ (A2C (by cases s; exact h1; exact h2) hv), if_neg (by omega), h3']
   ·rfl
   ·unfold N2
    rw [if_neg (by omega), if_neg (by omega), if_neg (by omega), if_neg (by omega), if_neg (by omega), if_neg (by omega), if_neg (by omega), if_neg (by omega), if_neg (by omega)]
    simp only [List.getD_cons_zero, A9u, hm', Option.map_some, hT]; rfl
theorem B4c {A A' B B' : GT} {e e' : GE} (hB : Le B B') (hp : GP Γ e e' A A') (he : Q8 cx 13 ⟨#[]⟩ 0 B.ty A7 0 [e.tm] [A.ty] l = some (u, a, l2)) : ElR Γ u a (Q8 cx' 13 ⟨#[]⟩ 0 B'.ty A7 0 [e'.tm] [A'.ty] l') := by
 obtain ⟨w, hw, hv, rfl⟩ := A08 he
 unfold N2 at hw
 rw [if_neg (by decide), if_neg (by decide), if_neg (by decide), if_neg (by decide), if_neg (by decide), if_neg (by decide), if_neg (by decide), if_neg (by decide), if_pos rfl] at hw
 simp only [List.getD_cons_zero] at hw
 split at hw
 ·rename_i hc
  cases hw
  have c1 := (A0I A B).1 hc
  have d1 := c1.up hp.le hB
  obtain ⟨m, l1, h3⟩ := A30 e A B l
  obtain ⟨m', l1', h3'⟩ := A30 e' A' B' l'
  refine ⟨S4 A B m e, B, S4 A' B' m' e', B', l1', ?_, rfl, ?_, A1Q hp c1 d1 hB⟩
  ·rw [if_pos rfl, h3]; rfl
  ·rw [A1q (w := [B'.ty]) (a := B'.ty) ?_ (A2C hB hv), if_pos rfl, h3']
   ·rfl
   ·unfold N2
    rw [if_neg (by decide), if_neg (by decide), if_neg (by decide), if_neg (by decide), if_neg (by decide), if_neg (by decide), if_neg (by decide), if_neg (by decide), if_pos rfl]
    simp only [List.getD_cons_zero]
    rw [if_pos ((A0I A' B').2 d1)]
 ·cases hw
end
theorem B4d (ks : List Tm) (ih : ∀ t ∈ ks, ∀ (t' : Tm) (d : Int) (cx cx' : Cx) (Γ : GC) (l l' : Int) (u : Tm) (a : Ty) (l2 : Int), J1 12 14 t d = true → J1 12 14 t' d = true → A2B t t' = true → CxR cx cx' Γ → M5 cx t l = some (u, a, l2) → ElR Γ u a (M5 cx' t' l')) :
  ∀ (ks' : List Tm) (d : Int) (cx cx' : Cx) (Γ : GC) (l l' : Int) (us : List Tm) (h : List Ty) (l2 : Int), E9 12 14 ks d = true → E9 12 14 ks' d = true → A19 ks ks' = true → CxR cx cx' Γ → M1 cx ks l = some (us, h, l2) →
   ∃ es As es' As' l2', us = es.map GE.tm ∧ h = As.map GT.ty ∧ M1 cx' ks' l' = some (es'.map GE.tm, As'.map GT.ty, l2') ∧ GPL Γ es es' As As' := by
 induction ks with
 | nil =>
  intro ks' d cx cx' Γ l l' us h l2 _ _ hp _ he
  cases ks' with
  | cons _ _ => cases hp
  | nil =>
   rw [M1] at he
   cases he
   exact ⟨[], [], [], [], l', rfl, rfl, by rw [M1]; rfl, .nil⟩
 | cons t ts ihl =>
  intro ks' d cx cx' Γ l l' us h l2 hs hs' hp hc he
  cases ks' with
  | nil => cases hp
  | cons t' ts' =>
   rw [E9, Bool.and_eq_true] at hs hs'
   rw [A19, Bool.and_eq_true] at hp
   rw [M1] at he ⊢
   split at he
   ·cases he
   ·rename_i u a l1 h1
    split at he
    ·cases he
    ·rename_i us' h' l3 h2
     cases he
     obtain ⟨e, A, e', A', m, rfl, rfl, h3, h4⟩ := ih t List.mem_cons_self t' d cx cx' Γ l l' u a l1 hs.1 hs'.1 hp.1 hc h1
     obtain ⟨es, As, es', As', m2, rfl, rfl, h5, h6⟩ := ihl (fun x hx => ih x (List.mem_cons_of_mem _ hx)) ts' d cx cx' Γ l1 m us' h' l2 hs.2 hs'.2 hp.2 hc h2
     rw [h3]
     simp only [h5]
     exact ⟨e :: es, A :: As, e' :: es', A' :: As', m2, rfl, rfl, rfl, .cons h4 h6⟩
theorem A6G {cx : Cx} : ∀ {ks : List Tm} {l : Int} {us : List Tm} {h : List Ty} {l2 : Int}, M1 cx ks l = some (us, h, l2) → us.length = ks.length
 | [], _, _, _, _, h => by rw [M1] at h; cases h; rfl
 | t :: ts, _, _, _, _, h => by
  rw [M1] at h
  split at h
  ·cases h
  ·split at h
   ·cases h
   ·rename_i h2; cases h; simp [A6G h2]
theorem B4e : ∀ (t t' : Tm) (d : Int) (cx cx' : Cx) (Γ : GC) (l l' : Int) (u : Tm) (a : Ty) (l2 : Int), J1 12 14 t d = true → J1 12 14 t' d = true → A2B t t' = true → CxR cx cx' Γ → M5 cx t l = some (u, a, l2) → ElR Γ u a (M5 cx' t' l') := by
 refine Tm.ind fun k nm num ty fr lb ks ih t' d cx cx' Γ l l' u a l2 hs hs' hp hc he => ?_
 obtain ⟨k', nm', num', ty', fr', lb', ks'⟩ := t'
 obtain ⟨rfl, rfl, rfl, hty, hpk⟩ := A9q.1 hp
 obtain ⟨n1, n2, n3, n4, n5, n6, n7, n8, n9⟩ := A6F hs
 obtain ⟨m1, m2, m3, m4, m5, m6, m7, m8, m9⟩ := A6F hs'
 subst n7 n8 m7 m8
 rw [M5] at he ⊢
 split at he
 ·cases he
 ·rename_i us h l1 hL
  
  have key : ∀ Δ, CxR (P0 cx k nm ty) (P0 cx' k nm ty') Δ → ∃ es As es' As' l2', us = es.map GE.tm ∧ h = As.map GT.ty ∧ M1 (P0 cx' k nm ty') ks' l' = some (es'.map GE.tm, As'.map GT.ty, l2') ∧ GPL Δ es es' As As' :=
   fun Δ hD => B4d ks ih ks' (d + 1) _ _ Δ l l' us h l1 n9 m9 hpk hD hL
  by_cases h5 : k = 5
  ·subst h5
   obtain ⟨A, rfl⟩ := A2a ty (n5 (.inl rfl))
   obtain ⟨A', rfl⟩ := A2a ty' (m5 (.inl rfl))
   have hA := (A9r A A').1 (hty (.inl rfl))
   obtain rfl := n4 (by decide)
   obtain ⟨es, As, es', As', l3, rfl, rfl, e1, e2⟩ := key (gup Γ nm A A') (by rw [P0, P0, if_pos rfl, if_pos rfl]; exact B32 hc hA nm)
   have hlen : es.length = 1 := by
    have h1 := A6G hL
    rw [List.length_map] at h1
    have : C7 5 = 1 := rfl
    omega
   obtain ⟨e, e', B, B', rfl, rfl, rfl, rfl, hq⟩ := e2.one hlen
   rw [e1]
   exact B36 hA hq he
  ·obtain ⟨es, As, es', As', l3, rfl, rfl, e1, e2⟩ := key Γ (by rw [P0, P0, if_neg h5, if_neg h5]; exact hc)
   have hlen : (es.length : Int) = C7 k := by
    have h1 := A6G hL
    rw [List.length_map] at h1
    omega
   rw [e1]
   have hk : 1 ≤ k ∧ k ≤ 14 := by
    apply Classical.byContradiction
    intro hk
    rw [A4v hk] at n1; omega
   by_cases h1 : k = 1
   ·subst h1
    obtain rfl := n4 (by decide)
    obtain rfl := n6 (by decide)
    obtain rfl := m6 (by decide)
    obtain ⟨rfl, rfl, rfl, rfl⟩ := e2.zero (by have : C7 1 = 0 := rfl; omega)
    exact B33 hc he
   obtain rfl := n3 (by omega)
   by_cases h2 : k = 2
   ·subst h2
    obtain rfl := n6 (by decide)
    obtain rfl := m6 (by decide)
    obtain ⟨rfl, rfl, rfl, rfl⟩ := e2.zero (by have : C7 2 = 0 := rfl; omega)
    exact B34 he
   obtain rfl := n4 h2
   by_cases h13 : k = 13
   ·subst h13
    obtain ⟨B, rfl⟩ := A2a ty (n5 (.inr rfl))
    obtain ⟨B', rfl⟩ := A2a ty' (m5 (.inr rfl))
    obtain ⟨e, e', A, A', rfl, rfl, rfl, rfl, hq⟩ := e2.one (by have : C7 13 = 1 := rfl; omega)
    exact B4c ((A9r B B').1 (hty (.inr rfl))) hq he
   obtain rfl := n6 (by omega)
   obtain rfl := m6 (by omega)
   by_cases h34 : k = 3 ∨ k = 4
   ·obtain ⟨b, rfl⟩ : ∃ b : Bool, k = if b = true then 3 else 4 := by rcases h34 with h | h; exact ⟨true, h⟩; exact ⟨false, h⟩
    obtain ⟨rfl, rfl, rfl, rfl⟩ := e2.zero (by have : C7 (if b = true then 3 else 4) = 0 := (by cases b <;> rfl); omega)
    exact B35 b he
   by_cases h6 : k = 6
   ·subst h6
    obtain ⟨e, e', A, A', f, f', B, B', rfl, rfl, rfl, rfl, hp1, hp2⟩ := e2.two (by have : C7 6 = 2 := rfl; omega)
    exact B37 hp1 hp2 he
   by_cases h78 : k = 7 ∨ k = 8
   ·obtain ⟨b, rfl⟩ : ∃ b : Bool, k = if b = true then 8 else 7 := by rcases h78 with h | h; exact ⟨false, h⟩; exact ⟨true, h⟩
    obtain ⟨e, e', A, A', f, f', B, B', rfl, rfl, rfl, rfl, hp1, hp2⟩ := e2.two (by have : C7 (if b = true then 8 else 7) = 2 := (by cases b <;> rfl); omega)
    exact B38 b hp1 hp2 he
   by_cases h9 : k = 9
   ·subst h9
    obtain ⟨e, e', A, A', f, f', B, B', g, g', C, C', rfl, rfl, rfl, rfl, hp1, hp2, hp3⟩ := e2.three (by have : C7 9 = 3 := rfl; omega)
    exact B39 hp1 hp2 hp3 he
   by_cases h10 : k = 10
   ·subst h10
    obtain ⟨e, e', A, A', f, f', B, B', rfl, rfl, rfl, rfl, hp1, hp2⟩ := e2.two (by have : C7 10 = 2 := rfl; omega)
    exact B4a hp1 hp2 he
   have h11 : k = 11 ∨ k = 12 := by omega
   obtain ⟨b, rfl⟩ : ∃ b : Bool, k = if b = true then 12 else 11 := by rcases h11 with h | h; exact ⟨false, h⟩; exact ⟨true, h⟩
   obtain ⟨e, e', A, A', rfl, rfl, rfl, rfl, hp1⟩ := e2.one (by have : C7 (if b = true then 12 else 11) = 1 := (by cases b <;> rfl); omega)
   exact B4b b hp1 he
theorem B4f {a b u : Tm} {t : Ty} (ha : T3 a = some (u, t)) (hp : A45 a b = true) : ∃ e e' A A', u = e.tm ∧ t = A.ty ∧ T3 b = some (e'.tm, A'.ty) ∧ GP N1 e e' A A' := by
 unfold A45 at hp
 rw [Bool.and_eq_true, Bool.and_eq_true] at hp
 unfold T3 at ha ⊢
 rw [if_pos hp.1] at ha
 rw [if_pos hp.2.1]
 split at ha
 ·rename_i u' t' l' he
  cases ha
  obtain ⟨e, A, e', A', l2, rfl, rfl, h1, h2⟩ := B4e a b 1 [] [] N1 0 0 u t l' ((A0a a).1 hp.1).1 ((A0a b).1 hp.2.1).1 hp.2.2 B31 he
  rw [h1]
  exact ⟨e, e', A, A', rfl, rfl, rfl, h2⟩
 ·cases ha
variable {P : Program} {G : IM}
theorem Fn.forget {f : FuncId} {args : List Value} {v0 : Value} {post : IM → Value → List A4 → Prop} (h : Fn P f args [] G post) (hv : ∀ G' v outs, post G' v outs → v = v0) : Fn P f args [] G (H0 v0 G) := by
 refine ⟨fun w hw => (h.run w hw).mono ?_⟩
 rintro e w' ⟨u, G', outs, rfl, hres, hp⟩
 refine ⟨u, G, [], rfl, ⟨⟨fun b l hb => hres.own.inn b l (hres.le b l hb), by simp, by simp [Fp], by simp [Fp]⟩, hres.ext, B6.refl _, fun _ _ h => .inl h, by simp [Fp], fun b l h h0 => absurd h (by rw [h0]; simp)⟩, rfl, hv _ _ _ hp, rfl⟩
def U2 (t : Tm) : IM → Value → List A4 → Prop := L5 fun G' v => ∃ cells, v = .agg ⟨cells⟩ ∧ A8 G' t cells
theorem U2.mk {G : IM} {t : Tm} {cells : List Value} (h : A8 G t cells) : U2 t G (.agg ⟨cells⟩) [] := ⟨rfl, cells, rfl, h⟩
def mGk (k : Int) : Ty := if k = 4 ∨ k = 5 then .mk k [O9, O9] else .mk k []
theorem A32 {G : IM} {k : Int} {ks : List Tm} {p : Option Addr} {n c : Nat} {es : List (List Value)} (hk : E6 k) (hn : n = ks.length) (hs : D0 G p n c 9 es) (hr : D7 G ks es) : A8 G (A0t k ks) [.int .i64 k, .string ⟨⟨[]⟩⟩, .int .i64 0, .int .i64 0, .slice none 0 0, .int .i64 0, .slice none 0 0, .int .i64 0, .slice p n c] := by
 subst hn
 simp only [A0t, A8]
 exact ⟨[.int .i64 0, .slice none 0 0], [.int .i64 0, .slice none 0 0], p, c, es, rfl, hk, ⟨by decide, by decide⟩, ⟨by decide, by decide⟩, A1l G, A1l G, hs, hr⟩
theorem A6H (k : Int) (G : IM) (hk : E6 k) : Fn Tryz.prog 213 [.int .i64 k] [] G (L5 fun G' v => ∃ cells, v = .agg ⟨cells⟩ ∧ B7 G' (mGk k) cells) := by
 have hB := A16 k O9 O9 G _ _ hk (A0H G) (A0H G)
 refine B2 Tryz.func213 rfl Tryz.ntmps213 Tryz.results213 rfl ?_
 intro w0
 refine tS (tR ?_)
 refine sE (A5 rfl) rfl (fun b3 => ?_)
 refine sD (nS (tS (tS (tR (sQ (qM rfl) rfl ?_)))))
 refine sB (qE rfl rfl) rfl rfl (fun h10 => ?_) (fun h10 => ?_)
 refine I9 ?_
 refine H3 rfl ((A1g _ _)) rfl rfl ?_
 refine H3 rfl ((A1g _ _)) rfl rfl ?_
 (refine E0 rfl hB rfl rfl (fun v G1 hle1 hh => ?_); obtain ⟨cb, rfl, hrb⟩ := hh; obtain ⟨p1, c1, e1, rfl, _⟩ := hrb.open)
 refine F9 ?_
 refine sD (nS (tT (rS ?_)))
 refine D9 (rC rfl (A2 rfl rfl)) ?_
 (exact ⟨rfl, _, rfl, by unfold mGk; rw [if_pos (by omega)]; exact hrb⟩)
 refine sQ (qM rfl) rfl (sQ (qM rfl) rfl ?_)
 refine sB (qE rfl rfl) rfl rfl (fun h33 => ?_) (fun h33 => ?_)
 refine C2 ?_
 refine H3 rfl ((A1g _ _)) rfl rfl ?_
 refine H3 rfl ((A1g _ _)) rfl rfl ?_
 (refine E0 rfl hB rfl rfl (fun v G1 hle1 hh => ?_); obtain ⟨cb, rfl, hrb⟩ := hh; obtain ⟨p1, c1, e1, rfl, _⟩ := hrb.open)
 refine F9 ?_
 refine sD (nS (tT (rS ?_)))
 refine D9 (rC rfl (A2 rfl rfl)) ?_
 (exact ⟨rfl, _, rfl, by unfold mGk; rw [if_pos (by omega)]; exact hrb⟩)
 refine D4 ?_
 refine H3 rfl ((A1g _ _)) rfl rfl ?_
 refine F9 ?_
 refine sD (nS (tT ?_))
 refine D9 (rC rfl (A2 rfl rfl)) ?_
 (exact ⟨rfl, _, rfl, by unfold mGk; rw [if_neg (by omega)]; exact N3 _ hk⟩)
theorem A9w (t : Ty) (G : IM) (cells : List Value) (hr : B7 G t cells) : Fn Tryz.prog 157 [.agg ⟨cells⟩] [] G (H0 (.bool (V1 t)) G) := by
 refine Fn.forget (post := L5 fun _ v => v = .bool (V1 t)) ?_ (fun _ _ _ h => h.2)
 have hr0 := hr
 obtain ⟨tk, tks⟩ := t
 obtain ⟨p, c, es, rfl, hk, _⟩ := hr.open
 simp only [Ty.k, Ty.ks] at hk hr0 ⊢
 rw [show V1 (.mk tk tks) = (decide (tk ≠ 1) && O2 (.mk tk tks) (mGk tk)) from rfl]
 refine B2 Tryz.func157 rfl Tryz.ntmps157 Tryz.results157 rfl ?_
 intro w0
 refine tS (tR ?_)
 refine sE (B9 rfl rfl) rfl (fun b3 => ?_)
 refine sQ (qA rfl) rfl (sD (nS (tS ?_)))
 refine E1 E2 rfl ?_
 refine J5 (i := 0) (l' := [tt,ff,ff,ff,ff,ff,ff,ff,ff,ff,ff]) rfl D5 (B1 rfl) rfl (by kernel_rfl) rfl rfl ?_
 refine aL 1 rfl (C0 rfl rfl) rfl ?_
 refine A0K (i := 2) (l' := [tt,tt,tt,ff,ff,ff,ff,ff,ff,ff,ff]) rfl D5 (M7 rfl rfl) rfl (by kernel_rfl) rfl rfl (fun h11 => ?_) (fun h11 => ?_)
 refine aP 3 rfl (qM rfl) rfl ?_
 refine aL 4 rfl (A2 rfl rfl) rfl ?_
 refine aP 5 rfl (B1 rfl) rfl ?_
 refine aL 6 rfl (C0 rfl rfl) rfl ?_
 refine A3 7 ?_
 (refine K0 rfl rfl (A6H tk G hk) rfl rfl rfl (fun v G1 hle1 hh => ?_); obtain ⟨cg, rfl, hrg⟩ := hh; have hT := A6y (.mk tk tks) (mGk tk) G1 _ _ (hr0.mono hle1) hrg; obtain ⟨pg, cgg, eg, rfl, _⟩ := hrg.open)
 refine A3 8 ?_
 refine P6 rfl rfl (hT) rfl rfl rfl ?_
 refine aP 9 rfl (L4 rfl rfl) rfl ?_
 refine aP 10 rfl (qA rfl) rfl ?_
 refine C5 (nS (tT (D9 (rT rfl) ?_)))
 (exact ⟨rfl, by rw [decide_eq_true (by omega), Bool.true_and]⟩)
 refine aP 3 rfl (qM rfl) rfl ?_
 refine B5 4 rfl rfl rfl ?_
 refine B5 5 rfl rfl rfl ?_
 refine B5 6 rfl rfl rfl ?_
 refine B5 7 rfl rfl rfl ?_
 refine B5 8 rfl rfl rfl ?_
 refine aP 9 rfl (O3 rfl rfl) rfl ?_
 refine aP 10 rfl (qA rfl) rfl ?_
 refine C5 (nS (tT (D9 (rT rfl) ?_)))
 (exact ⟨rfl, by rw [decide_eq_false (by omega), Bool.false_and]⟩)
theorem A2D (t : Tm) (G : IM) (cells : List Value) (hr : A8 G t cells) : Fn Tryz.prog 111 [.agg ⟨cells⟩] [] G (H0 (.bool (R4 t)) G) := by
 obtain ⟨k, nm, num, ⟨tk, tks⟩, ⟨fk, fks⟩, lb, ks⟩ := t
 obtain ⟨pt, ct, pf, cf, p, c, es, rfl, hk, hnum, hlb, hty, hfr, hsl, hkl⟩ := hr.open9
 have hd : R4 (.mk k nm num (.mk tk tks) (.mk fk fks) lb ks) = decide (k = 14 ∧ fk = tk ∧ (tk = 4 ∨ tk = 5)) := rfl
 rw [hd]
 refine B2 Tryz.func111 rfl Tryz.ntmps111 Tryz.results111 rfl ?_
 intro w0
 refine tS (tR ?_)
 refine sE (B9 rfl rfl) rfl (fun b3 => ?_)
 refine C2 ?_
 refine sB (qE rfl rfl) rfl rfl (fun h11 => ?_) (fun h11 => ?_)
 refine C2 ?_
 refine sB (qE rfl rfl) rfl rfl (fun h19 => ?_) (fun h19 => ?_)
 refine R1 ?_
 refine sB (qE rfl rfl) rfl rfl (fun h25 => ?_) (fun h25 => ?_)
 refine N6 ?_
 (exact ⟨rfl, by rw [decide_eq_true (by omega)], rfl⟩)
 refine F0 ?_
 refine sB (qE rfl rfl) rfl rfl (fun h43 => ?_) (fun h43 => ?_)
 refine C2 ?_
 (exact ⟨rfl, by rw [decide_eq_true (by omega)], rfl⟩)
 refine C2 ?_
 (exact ⟨rfl, by rw [decide_eq_false (by omega)], rfl⟩)
 refine V6 ?_
 (exact ⟨rfl, by rw [decide_eq_false (by omega)], rfl⟩)
 refine A4r ?_
 (exact ⟨rfl, by rw [decide_eq_false (by omega)], rfl⟩)
theorem A33 (t : Tm) (G : IM) (cells : List Value) (hr : A8 G t cells) : Fn Tryz.prog 112 [.agg ⟨cells⟩] [] G (H0 (.bool (inj t)) G) := by
 obtain ⟨k, nm, num, ⟨tk, tks⟩, ⟨fk, fks⟩, lb, ks⟩ := t
 obtain ⟨pt, ct, pf, cf, p, c, es, rfl, hk, hnum, hlb, hty, hfr, hsl, hkl⟩ := hr.open9
 have hd : inj (.mk k nm num (.mk tk tks) (.mk fk fks) lb ks) = (decide (k = 14 ∧ tk = 1) && V1 (.mk fk fks)) := rfl
 rw [hd]
 refine B2 Tryz.func112 rfl Tryz.ntmps112 Tryz.results112 rfl ?_
 intro w0
 refine tS (tR ?_)
 refine sE (B9 rfl rfl) rfl (fun b3 => ?_)
 refine C2 ?_
 refine sB (qE rfl rfl) rfl rfl (fun h11 => ?_) (fun h11 => ?_)
 refine F0 ?_
 refine sB (qE rfl rfl) rfl rfl (fun h16 => ?_) (fun h16 => ?_)
 refine F0 ?_
 refine H3 rfl ((A9w (.mk fk fks) G _ hfr)) rfl rfl ?_
 refine J8 ?_
 (exact ⟨rfl, by rw [decide_eq_true (by omega), Bool.true_and], rfl⟩)
 refine I6 ?_
 (exact ⟨rfl, by rw [decide_eq_false (by omega), Bool.false_and], rfl⟩)
 refine K4 ?_
 (exact ⟨rfl, by rw [decide_eq_false (by omega), Bool.false_and], rfl⟩)
theorem B4g (t : Tm) (G : IM) (cells : List Value) (hr : A8 G t cells) : Fn Tryz.prog 115 [.agg ⟨cells⟩] [] G (H0 (.bool (decide (t.k = 2 ∨ t.k = 3 ∨ t.k = 4 ∨ t.k = 5))) G) := by
 obtain ⟨k, nm, num, ⟨tk, tks⟩, ⟨fk, fks⟩, lb, ks⟩ := t
 obtain ⟨pt, ct, pf, cf, p, c, es, rfl, hk, hnum, hlb, hty, hfr, hsl, hkl⟩ := hr.open9
 rw [show (Tm.mk k nm num (.mk tk tks) (.mk fk fks) lb ks).k = k from rfl]
 refine B2 Tryz.func115 rfl Tryz.ntmps115 Tryz.results115 rfl ?_
 intro w0
 refine tS (tR ?_)
 refine sE (B9 rfl rfl) rfl (fun b3 => ?_)
 refine C2 ?_
 refine sB (qE rfl rfl) rfl rfl (fun h11 => ?_) (fun h11 => ?_)
 refine A0u ?_
 (exact ⟨rfl, by rw [decide_eq_true (by omega)], rfl⟩)
 refine K3 ?_
 refine sB (qE rfl rfl) rfl rfl (fun h36 => ?_) (fun h36 => ?_)
 refine K4 ?_
 (exact ⟨rfl, by rw [decide_eq_true (by omega)], rfl⟩)
 refine F0 ?_
 refine sB (qE rfl rfl) rfl rfl (fun h58 => ?_) (fun h58 => ?_)
 refine I6 ?_
 (exact ⟨rfl, by rw [decide_eq_true (by omega)], rfl⟩)
 refine F0 ?_
 refine sB (qE rfl rfl) rfl rfl (fun h75 => ?_) (fun h75 => ?_)
 refine J8 ?_
 (exact ⟨rfl, by rw [decide_eq_true (by omega)], rfl⟩)
 refine J8 ?_
 (exact ⟨rfl, by rw [decide_eq_false (by omega)], rfl⟩)
theorem B4h (G : IM) (p : Option Addr) (n c : Nat) (es : List (List Value)) (hsl : D0 G p n c 9 es) (fid : FuncId) [B0 Tryz.prog fid] (us cs : List Value) (ins : List A4) (q : Nat → Bool)
  (hq : ∀ i e, es[i]? = some e → Fn Tryz.prog fid (us ++ [.agg ⟨e⟩] ++ cs) ins G (U6 (.bool (q i)) ins G)) :
  Fn Tryz.prog 158 [.slice p n c, .func (.func fid) ⟨us⟩ ⟨cs⟩] ins G (U6 (.int .i64 (A0E q n)) ins G) := by
 have hn := hsl.le
 refine B2 Tryz.func158 rfl Tryz.ntmps158 Tryz.results158 rfl ?_
 intro w0
 refine J9 ?_
 refine B4 ?_
 refine K9 (fun i : Nat => ⟨[(8, .int .i64 i), (7, .int .i64 n), (1, .func (.func fid) ⟨us⟩ ⟨cs⟩), (0, .slice p n c)], ins, G⟩) (fun i => i ≤ n ∧ ∀ j, j < i → q j = false) (fun i => n - i) 0 ?_ ?_ ?_
 exact D1
 exact ⟨by omega, by omega⟩
 rintro i ⟨hi, hf⟩
 refine tS (tR ?_)
 refine sB (K6 rfl rfl) rfl rfl (fun h21 => ?_) (fun h21 => ?_)
 refine sD (nS (tS (qT rfl (tK (nS (tS ?_))))))
 refine B4 ?_
 refine I6 ?_
 (obtain ⟨e, b, o, he, rfl, hl, _, hat, _⟩ := hsl.get (i := i) (by omega); refine sP (B3 rfl rfl rfl (by omega)) rfl rfl ?_)
 refine sL (A1 rfl rfl (hat _) hl) rfl rfl ?_
 refine A5N rfl rfl (hq i e he) Z6 rfl rfl (fun h43 => ?_) (fun h43 => ?_)
 refine H9 ?_
 refine H6 (rT rfl) A0.refl ?_
 exact ⟨rfl, by rw [A7J (by omega) hf (by assumption)], rfl⟩
 refine sD (nS (cF rfl (tK (M8 (nS (tR ?_))))))
 refine sP (K2 rfl rfl (by omega) (by omega)) rfl rfl ?_
 refine sQ (qM rfl) rfl (sD ?_)
 refine K7 (i + 1) ?_ ?_ ?_
 exact D1
 exact ⟨by omega, fun j hj => by by_cases hji : j = i; (subst hji; assumption); exact hf j (by omega)⟩
 omega
 refine H9 ?_
 refine H6 (rT rfl) A0.refl ?_
 exact ⟨rfl, by rw [A5S (fun j hj => hf j (by omega))], rfl⟩
theorem B4i (G : IM) (p : Option Addr) (n c : Nat) (es : List (List Value)) (hsl : D0 G p n c 9 es) (fid : FuncId) [B0 Tryz.prog fid] (us cs : List Value) (ins : List A4) (q : Nat → Bool)
  (hq : ∀ i e, es[i]? = some e → Fn Tryz.prog fid (us ++ [.agg ⟨e⟩] ++ cs) ins G (U6 (.bool (q i)) ins G)) :
  Fn Tryz.prog 113 [.slice p n c, .func (.func fid) ⟨us⟩ ⟨cs⟩] ins G (U6 (.bool (decide (0 ≤ A0E q n))) ins G) := by
 refine B2 Tryz.func113 rfl Tryz.ntmps113 Tryz.results113 rfl ?_
 intro w0
 refine D4 ?_
 refine A1D rfl (B4h G p n c es hsl fid us cs ins q hq) Z6 rfl rfl ?_
 refine sQ (A0L rfl rfl) rfl ?_
 refine sQ (qA rfl) rfl (sD (nS (tT ?_)))
 refine H6 (rT rfl) A0.refl ?_
 exact ⟨rfl, rfl, rfl⟩
theorem A9x (G : IM) (p : Option Addr) (n c : Nat) (es : List (List Value)) (hsl : D0 G p n c 9 es) (fid : FuncId) [B0 Tryz.prog fid] (us cs : List Value) (ins : List A4) (f : Tm → Bool) (ks : List Tm)
  (hn : ks.length = n) {A : Bool} (hA : ks.all f = A) (hq : ∀ i e, es[i]? = some e → Fn Tryz.prog fid (us ++ [.agg ⟨e⟩] ++ cs) ins G (U6 (.bool (!f (ks.getD i F4))) ins G)) :
  Fn Tryz.prog 113 [.slice p n c, .func (.func fid) ⟨us⟩ ⟨cs⟩] ins G (U6 (.bool (!A)) ins G) := by
 subst hn hA
 rw [← A7L f ks F4]
 exact B4i G p _ c es hsl fid us cs ins _ hq
theorem A9y : ∀ ks, A07 ks = ks.all C8
 | [] => rfl
 | t :: ts => by rw [A07, A9y ts, List.all_cons]
theorem B4j (t : Tm) (G : IM) (cells : List Value) (hl : cells.length = 9) (ho : cells.all (·.oneCell') = true) (h : Fn Tryz.prog 48 [.agg ⟨cells⟩] [] G (H0 (.bool (C8 t)) G)) :
  Fn Tryz.prog 114 [.agg ⟨cells⟩] [] G (U6 (.bool (!C8 t)) [] G) := by
 refine B2 Tryz.func114 rfl Tryz.ntmps114 Tryz.results114 rfl ?_
 intro w0
 refine tS (tR ?_)
 refine sE (B9 rfl rfl) rfl (fun b3 => ?_)
 refine sQ (qA rfl) rfl (sD (nS (tS (tR ?_))))
 refine sL (A1 rfl rfl (A9 (by repeat first | exact mH | apply mT)) hl) rfl rfl ?_
 refine H3 rfl (h) rfl rfl ?_
 refine sQ (A1A rfl) rfl ?_
 refine sQ (qA rfl) rfl (sD (nS (tT (D9 (rT rfl) ?_))))
 (exact ⟨rfl, rfl, rfl⟩)
theorem A2b (k : Int) (nm : ByteArray) (num : Int) (ty fr : Ty) (lb : Int) (ks : List Tm) : R4 (.mk k nm num ty fr lb ks) = decide (k = 14 ∧ fr.k = ty.k ∧ (ty.k = 4 ∨ ty.k = 5)) := rfl
theorem A48 (k : Int) (nm : ByteArray) (num : Int) (ty fr : Ty) (lb : Int) (ks : List Tm) : inj (.mk k nm num ty fr lb ks) = (decide (k = 14 ∧ ty.k = 1) && V1 fr) := rfl
theorem A34 {k : Int} {nm : ByteArray} {num : Int} {ty fr : Ty} {lb : Int} {ks : List Tm} (h : k = 10 ∨ R4 (.mk k nm num ty fr lb ks) = true ∨ inj (.mk k nm num ty fr lb ks) = true) : C8 (.mk k nm num ty fr lb ks) = ks.all C8 := by
 rw [C8, if_pos, A9y]
 rw [A2b, A48] at h
 simp only [Bool.and_eq_true, decide_eq_true_eq] at h
 rcases h with h | h | h
 ·exact .inl h
 ·exact .inr (.inl h)
 ·exact .inr (.inr ⟨h.1.1, h.1.2, h.2⟩)
theorem A49 {k : Int} {nm : ByteArray} {num : Int} {ty fr : Ty} {lb : Int} {ks : List Tm} (h : ¬k = 10) (h2 : R4 (.mk k nm num ty fr lb ks) = false) (h3 : inj (.mk k nm num ty fr lb ks) = false) : C8 (.mk k nm num ty fr lb ks) = decide (k = 2 ∨ k = 3 ∨ k = 4 ∨ k = 5) := by
 rw [C8, if_neg]
 rw [A2b] at h2
 rw [A48] at h3
 simp only [Bool.and_eq_false_iff, decide_eq_false_iff_not] at h2 h3
 rintro (h' | h' | h')
 ·exact h h'
 ·exact h2 h'
 ·rcases h3 with h3 | h3
  ·exact h3 ⟨h'.1, h'.2.1⟩
  ·rw [h3] at h'; cases h'.2.2
theorem A5a : ∀ (t : Tm) (G : IM) (cells : List Value), A8 G t cells → Fn Tryz.prog 48 [.agg ⟨cells⟩] [] G (H0 (.bool (C8 t)) G) := by
 refine Tm.ind fun k nm num ty fr lb ks ih G cells hr => ?_
 have hr0 := hr
 have hP := A2D _ G _ hr
 have hI := A33 _ G _ hr
 have hPl := B4g _ G _ hr
 have hy := @A34 k nm num ty fr lb ks
 have hn := @A49 k nm num ty fr lb ks
 rw [show (Tm.mk k nm num ty fr lb ks).k = k from rfl] at hPl
 obtain ⟨A, hA⟩ : ∃ A, ks.all C8 = A := ⟨_, rfl⟩
 rw [hA] at hy
 generalize hpx : R4 (.mk k nm num ty fr lb ks) = bp at hP hy hn
 generalize hij : inj (.mk k nm num ty fr lb ks) = bi at hI hy hn
 generalize C8 (.mk k nm num ty fr lb ks) = R at hy hn ⊢
 obtain ⟨tk, tks⟩ := ty
 obtain ⟨fk, fks⟩ := fr
 obtain ⟨pt, ct, pf, cf, p, c, es, rfl, hk, hnum, hlb, hty, hfr, hsl, hkl⟩ := hr.open9
 have hC := A9x G p ks.length c es hsl 114 [] [] [] C8 ks rfl hA (fun i e he => by
  have hx := hkl.inv he F4
  exact B4j _ G e hx.2.len hx.2.one (ih _ hx.1 G e hx.2))
 refine B2 Tryz.func48 rfl Tryz.ntmps48 Tryz.results48 rfl ?_
 intro w0
 refine tS (tR ?_)
 refine sE (B9 rfl rfl) rfl (fun b3 => ?_)
 refine D3 ?_
 refine sB (qE rfl rfl) rfl rfl (fun h12 => ?_) (fun h12 => ?_)
 refine H9 ?_
 refine A1D rfl hC Z6 rfl rfl ?_
 refine sQ (A1A rfl) rfl ?_
 refine sQ (qA rfl) rfl (sD (nS (tT (rS (D9 (rT rfl) ?_)))))
 (exact ⟨rfl, by rw [hy (by first | exact .inl (by omega) | exact .inr (.inl (by assumption)) | exact .inr (.inr (by assumption)))]; cases A <;> rfl, rfl⟩)
 refine sQ (qM rfl) rfl (sL (A2 rfl rfl) rfl rfl ?_)
 refine D8 rfl (hP) rfl rfl (fun h39 => ?_) (fun h39 => ?_)
 refine N6 ?_
 refine A1D rfl hC Z6 rfl rfl ?_
 refine sQ (A1A rfl) rfl ?_
 refine sQ (qA rfl) rfl (sD (nS (tT (rS (D9 (rT rfl) ?_)))))
 (exact ⟨rfl, by rw [hy (by first | exact .inl (by omega) | exact .inr (.inl (by assumption)) | exact .inr (.inr (by assumption)))]; cases A <;> rfl, rfl⟩)
 refine K3 ?_
 refine D8 rfl (hI) rfl rfl (fun h64 => ?_) (fun h64 => ?_)
 refine D3 ?_
 refine A1D rfl hC Z6 rfl rfl ?_
 refine sQ (A1A rfl) rfl ?_
 refine sQ (qA rfl) rfl (sD (nS (tT (rS (D9 (rT rfl) ?_)))))
 (exact ⟨rfl, by rw [hy (by first | exact .inl (by omega) | exact .inr (.inl (by assumption)) | exact .inr (.inr (by assumption)))]; cases A <;> rfl, rfl⟩)
 refine D4 ?_
 refine H3 rfl (hPl) rfl rfl ?_
 refine sQ (qA rfl) rfl (sD (nS (tT (D9 (rT rfl) ?_))))
 (exact ⟨rfl, by rw [hn (by omega) (by assumption) (by assumption)], rfl⟩)
end Gw
end Go.Proofs.YtfpgncjeejickaaGreatDoor
