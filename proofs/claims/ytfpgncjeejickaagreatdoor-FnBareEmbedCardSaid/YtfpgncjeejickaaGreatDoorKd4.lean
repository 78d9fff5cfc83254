/-
  The calculus of casts is that of the evaluation.
-/
import Derived.Test.YtfpgncjeejickaaGreatDoorKd1
import Derived.Test.YtfpgncjeejickaaGreatDoorKd3
import Derived.Test.YtfpgncjeejickaaGreatDoorKd2
import Derived.Test.YtfpgncjeejickaaGreatDoorKd0
set_option linter.unusedVariables false
set_option linter.unusedSimpArgs false
set_option maxHeartbeats 0
set_option maxRecDepth 100000
set_option synthInstance.maxSize 4000
set_option synthInstance.maxHeartbeats 0
namespace Go.Proofs.YtfpgncjeejickaaGreatDoor
open Go Go.RowKit
namespace Gw
def GT.ty : GT → Ty
 | .any => .mk 1 []
 | .int => .mk 2 []
 | .bool => .mk 3 []
 | .fn a b => .mk 4 [a.ty, b.ty]
 | .pr a b => .mk 5 [a.ty, b.ty]
def GE.tm : GE → Tm
 | .var x => .mk 1 x 0 A6 A6 0 []
 | .num n => .mk 2 ⟨#[]⟩ n A6 A6 0 []
 | .tru b => .mk (if b = true then 3 else 4) ⟨#[]⟩ 0 A6 A6 0 []
 | .lam x A e => .mk 5 x 0 A.ty A6 0 [e.tm]
 | .app f a => .mk 6 ⟨#[]⟩ 0 A6 A6 0 [f.tm, a.tm]
 | .ar s a b => .mk (if s = true then 8 else 7) ⟨#[]⟩ 0 A6 A6 0 [a.tm, b.tm]
 | .ite c a b => .mk 9 ⟨#[]⟩ 0 A6 A6 0 [c.tm, a.tm, b.tm]
 | .pair a b => .mk 10 ⟨#[]⟩ 0 A6 A6 0 [a.tm, b.tm]
 | .part s e => .mk (if s = true then 12 else 11) ⟨#[]⟩ 0 A6 A6 0 [e.tm]
 | .cast A B l e => .mk 14 ⟨#[]⟩ 0 B.ty A.ty l [e.tm]
theorem GT.inj : ∀ {a b : GT}, a.ty = b.ty → a = b := by
 intro a
 induction a with
 | any => intro b h; cases b <;> first | rfl | (simp [GT.ty] at h)
 | int => intro b h; cases b <;> first | rfl | (simp [GT.ty] at h)
 | bool => intro b h; cases b <;> first | rfl | (simp [GT.ty] at h)
 | fn a1 a2 i j =>
  intro b h
  cases b with
  | fn b1 b2 => simp only [GT.ty, Ty.mk.injEq, List.cons.injEq, true_and, and_true] at h; rw [i h.1, j h.2]
  | _ => simp [GT.ty] at h
 | pr a1 a2 i j =>
  intro b h
  cases b with
  | pr b1 b2 => simp only [GT.ty, Ty.mk.injEq, List.cons.injEq, true_and, and_true] at h; rw [i h.1, j h.2]
  | _ => simp [GT.ty] at h
theorem A9G (a : GT) : W8 a.ty = a.gr.ty := by cases a <;> rfl
theorem A1W {a : GT} : a.ty.k = 1 ↔ a = .any := by cases a <;> simp [GT.ty, Ty.k]
theorem A3c {a : GT} : S2 a.ty = true ↔ a.Gd := by
 unfold S2 GT.Gd
 rw [Bool.and_eq_true, decide_eq_true_eq, X6, A9G, Ne, A1W]
 constructor
 ·rintro ⟨h1, h2⟩; exact ⟨h1, (GT.inj h2).symm⟩
 ·rintro ⟨h1, h2⟩; exact ⟨h1, by rw [h2]⟩
theorem B4x {a : GT} (h : ¬a.Gd) : S2 a.ty = false := by
 cases h2 : S2 a.ty with
 | false => rfl
 | true => exact absurd (A3c.1 h2) h
theorem O6 : ∀ e : GE, C5 e.tm = true ↔ GV e := by
 intro e
 induction e with
 | var x => rw [GE.tm, C5]; simp; intro h; cases h
 | num n => rw [GE.tm, C5]; simp; exact .num
 | tru b => rw [GE.tm, C5]; cases b <;> (simp; exact .tru)
 | lam x A e _ => rw [GE.tm, C5]; simp; exact .lam
 | app f a _ _ => rw [GE.tm, C5]; simp; intro h; cases h
 | ar s a b _ _ => rw [GE.tm, C5]; cases s <;> (simp; intro h; cases h)
 | ite c a b _ _ _ => rw [GE.tm, C5]; simp; intro h; cases h
 | pair a b i j =>
  rw [GE.tm, C5, if_pos (.inl rfl), A1g, A1g, A1g, Bool.and_true, Bool.and_eq_true, i, j]
  exact ⟨fun h => .pair h.1 h.2, fun h => by cases h with | pair a b => exact ⟨a, b⟩⟩
 | part s e _ => rw [GE.tm, C5]; cases s <;> (simp; intro h; cases h)
 | cast A B l e i =>
  rw [GE.tm, C5]
  by_cases hp : A.ty.k = B.ty.k ∧ (B.ty.k = 4 ∨ B.ty.k = 5)
  ·rw [if_pos (.inr (.inl ⟨rfl, hp⟩)), A1g, A1g, Bool.and_true, i]
   constructor
   ·intro h
    cases B <;> cases A <;> first | exact .pf h | exact .pp h | (exfalso; simp [GT.ty, Ty.k] at hp)
   ·intro h; exact h.ofCast
  ·by_cases hi : B.ty.k = 1 ∧ S2 A.ty = true
   ·rw [if_pos (.inr (.inr ⟨rfl, hi⟩)), A1g, A1g, Bool.and_true, i]
    constructor
    ·intro h
     obtain rfl := A1W.1 hi.1
     exact .inj h (A3c.1 hi.2)
    ·intro h; exact h.ofCast
   ·rw [if_neg (by rintro (h | h | h); exact absurd h (by decide); exact hp h.2; exact hi h.2)]
    constructor
    ·intro h; exact absurd (of_decide_eq_true h) (by decide)
    ·intro h
     exfalso
     cases h with
     | pf _ => exact hp ⟨rfl, .inl rfl⟩
     | pp _ => exact hp ⟨rfl, .inr rfl⟩
     | inj _ hg => exact hi ⟨rfl, A3c.2 hg⟩
theorem A4d {e : GE} (h : ¬GV e) : C5 e.tm = false := by
 cases h2 : C5 e.tm with
 | false => rfl
 | true => exact absurd ((O6 e).1 h2) h
theorem nv {e r : GE} (h : GS e r) : C5 e.tm = false := A4d fun hv => hv.noS _ h
theorem A9H (x : ByteArray) (v : GE) : ∀ e : GE, (e.sub x v).tm = R3 x v.tm e.tm := by
 intro e
 induction e with
 | var y =>
  rw [GE.sub, GE.tm, R3]
  by_cases h : y = x
  ·rw [if_pos h, if_pos ⟨rfl, h⟩]
  ·rw [if_neg h, if_neg (fun c => h c.2), if_neg (by rintro ⟨h, _⟩; exact absurd h (by decide)), GE.tm, Q2]
 | num n => rw [GE.sub, GE.tm, R3]; simp [Q2]
 | tru b => rw [GE.sub, GE.tm, R3]; cases b <;> simp [Q2]
 | lam y A e i =>
  by_cases h : y = x
  ·rw [GE.sub, if_pos h, GE.tm, R3, if_neg (by rintro ⟨h, _⟩; exact absurd h (by decide)), if_pos ⟨rfl, h⟩]
  ·rw [GE.sub, if_neg h, GE.tm, GE.tm, R3, if_neg (by rintro ⟨h, _⟩; exact absurd h (by decide)), if_neg (fun c => h c.2), i, Q2, Q2]
 | app f a i j => rw [GE.sub, GE.tm, GE.tm, R3, i, j]; simp [Q2]
 | ar s a b i j => rw [GE.sub, GE.tm, GE.tm, R3, i, j]; cases s <;> simp [Q2]
 | ite c a b i j k => rw [GE.sub, GE.tm, GE.tm, R3, i, j, k]; simp [Q2]
 | pair a b i j => rw [GE.sub, GE.tm, GE.tm, R3, i, j]; simp [Q2]
 | part s e i => rw [GE.sub, GE.tm, GE.tm, R3, i]; cases s <;> simp [Q2]
 | cast A B l e i => rw [GE.sub, GE.tm, GE.tm, R3, i]; simp [Q2]
section
variable {k : Int} {nm : ByteArray} {num : Int} {ty fr : Ty} {lb : Int} {a b c : Tm} {t : Tm} {l : Int}
theorem A3d (h : C5 a = false) (ks : List Tm) (hn : k = 9 ∨ ks.length < 3) (r : Tm) (hs : J0 a = (r, 1, 0)) : J0 (.mk k nm num ty fr lb (a :: ks)) = (.mk k nm num ty fr lb (r :: ks), 1, 0) := by
 have : ∃ n, (if k = 9 then 1 else (a :: ks).length) = n + 1 := ⟨if k = 9 then 0 else ks.length, by split <;> simp⟩
 obtain ⟨n, hn⟩ := this
 rw [J0, hn, Y0, if_neg (by rw [h]; decide), hs]
 simp
theorem B4y (h : C5 a = false) (ks : List Tm) (hs : (J0 a).2.1 = 2) : (J0 (.mk k nm num ty fr lb (a :: ks))).2.1 = 2 := by
 have : ∃ n, (if k = 9 then 1 else (a :: ks).length) = n + 1 := ⟨if k = 9 then 0 else ks.length, by split <;> simp⟩
 obtain ⟨n, hn⟩ := this
 rw [J0, hn, Y0, if_neg (by rw [h]; decide), hs]
 simp
theorem A6S (h0 : C5 a = true) (h : C5 b = false) (hk : k ≠ 9) (r : Tm) (hs : J0 b = (r, 1, 0)) : J0 (.mk k nm num ty fr lb [a, b]) = (.mk k nm num ty fr lb [a, r], 1, 0) := by
 rw [J0, if_neg hk]
 simp only [List.length_cons, List.length_nil, Y0, h0, h, if_true, hs]
 simp
theorem B4z (h0 : C5 a = true) (h : C5 b = false) (hk : k ≠ 9) (hs : (J0 b).2.1 = 2) : (J0 (.mk k nm num ty fr lb [a, b])).2.1 = 2 := by
 rw [J0, if_neg hk]
 simp only [List.length_cons, List.length_nil, Y0, h0, h, if_true, hs]
 simp
theorem A2I (h : C5 a = true) : J0 (.mk k nm num ty fr lb [a]) = S4 k ty fr lb [a] := by
 rw [J0, show (if k = 9 then 1 else [a].length) = 1 by split <;> rfl, Y0, h]
 simp [Y0]
theorem A6T (h : C5 a = true) (h2 : C5 b = true) (hk : k ≠ 9) : J0 (.mk k nm num ty fr lb [a, b]) = S4 k ty fr lb [a, b] := by
 rw [J0, if_neg hk]
 simp [Y0, h, h2]
theorem B4A (h : C5 a = true) : J0 (.mk 9 nm num ty fr lb [a, b, c]) = S4 9 ty fr lb [a, b, c] := by
 rw [J0, if_pos rfl]
 simp [Y0, h]
end
theorem A5g {e r : GE} (h : GS e r) : J0 e.tm = (r.tm, 1, 0) := by
 induction h with
 | app1 s i => rw [GE.tm, A3d (nv s) _ (.inr (by simp)) _ i, GE.tm]
 | app2 v s i => rw [GE.tm, A6S ((O6 _).2 v) (nv s) (by decide) _ i, GE.tm]
 | ar1 s i => rw [GE.tm, A3d (nv s) _ (.inr (by simp)) _ i, GE.tm]
 | @ar2 t _ _ _ v s i => rw [GE.tm, A6S ((O6 _).2 v) (nv s) (by cases t <;> decide) _ i, GE.tm]
 | ite1 s i => rw [GE.tm, A3d (nv s) _ (.inl rfl) _ i, GE.tm]
 | pair1 s i => rw [GE.tm, A3d (nv s) _ (.inr (by simp)) _ i, GE.tm]
 | pair2 v s i => rw [GE.tm, A6S ((O6 _).2 v) (nv s) (by decide) _ i, GE.tm]
 | part1 s i => rw [GE.tm, A3d (nv s) _ (.inr (by simp)) _ i, GE.tm]
 | cast1 s i => rw [GE.tm, A3d (nv s) _ (.inr (by simp)) _ i, GE.tm]
 | beta v =>
  rw [GE.tm, A6T ((O6 _).2 .lam) ((O6 _).2 v) (by decide), A9H]
  rfl
 | appx v w =>
  rw [GE.tm, A6T ((O6 _).2 (.pf v)) ((O6 _).2 w) (by decide)]
  rfl
 | @ar t m n =>
  rw [GE.tm, A6T ((O6 _).2 .num) ((O6 _).2 .num) (by cases t <;> decide)]
  cases t
  ·rfl
  ·unfold A1r
   simp only [if_true]
   show (W3 (m < n), (1 : Int), (0 : Int)) = _
   unfold W3
   by_cases h : m < n
   ·simp only [h, if_true, GE.tm, decide_true]; rfl
   ·simp only [h, if_false, GE.tm, decide_false]; rfl
 | @ite b x y =>
  rw [GE.tm, B4A ((O6 _).2 .tru)]
  cases b <;> rfl
 | @part t a b v w =>
  rw [GE.tm, A2I ((O6 _).2 (.pair v w))]
  cases t <;> rfl
 | @partx t a b c d l e v =>
  rw [GE.tm, A2I ((O6 _).2 (.pp v))]
  cases t <;> rfl
 | @cid A l v hv hA =>
  rw [GE.tm, A2I ((O6 _).2 hv)]
  rcases hA with rfl | rfl | rfl <;> rfl
 | @up A l v hv hA hg =>
  rw [GE.tm, A2I ((O6 _).2 hv)]
  cases A with
  | any => exact absurd rfl hA
  | int => exact absurd rfl hg
  | bool => exact absurd rfl hg
  | _ => rfl
 | @down B l v hv hB hg =>
  rw [GE.tm, A2I ((O6 _).2 hv)]
  have hg' := B4x (a := B) fun h => hg h.2
  unfold S4
  rw [if_neg (by decide), if_neg (by decide), if_neg (by decide), if_neg (by decide), if_pos rfl, if_neg, if_neg, if_pos hg', A9G]
  ·rfl
  ·rw [A1W]; exact hB
  ·intro h; exact hB (A1W.1 h.symm)
 | @hit G l m w hv hG =>
  rw [GE.tm, A2I ((O6 _).2 (.inj hv hG))]
  have hg' := A3c.2 hG
  have hi : inj (GE.tm (.cast G .any m w)) = true := by
   rw [GE.tm]; unfold inj; rw [Bool.and_eq_true]; exact ⟨rfl, hg'⟩
  unfold S4
  rw [if_neg (by decide), if_neg (by decide), if_neg (by decide), if_neg (by decide), if_pos rfl, if_neg, if_neg, if_neg (by rw [hg']; decide), if_neg (by show ¬inj (GE.tm (.cast G .any m w)) = false; rw [hi]; decide), if_pos]
  ·rfl
  ·rfl
  ·rw [A1W]; exact hG.1
  ·intro h; exact hG.1 (A1W.1 h.symm)
def Bd (e : GE) : Prop := C5 e.tm = false ∧ (J0 e.tm).2.1 = 2
theorem B4B {Γ : GC} {v v' : GE} {U U' : GT} (h : GP Γ v v' U U') : Γ = N3 → GV v → ∀ {A B}, U = .fn A B → (∃ x C e, v = .lam x C e) ∨ ∃ a b c d l e, v = .cast (.fn a b) (.fn c d) l e ∧ GV e := by
 induction h with
 | castR _ _ _ i => exact i
 | castL _ _ _ _ => intro _ hv A B hU; subst hU; cases hv with | pf h => exact .inr ⟨_, _, _, _, _, _, rfl, h⟩
 | castB _ _ _ _ _ => intro _ hv A B hU; subst hU; cases hv with | pf h => exact .inr ⟨_, _, _, _, _, _, rfl, h⟩
 | lam _ _ _ => intro _ _ _ _ _; exact .inl ⟨_, _, _, rfl⟩
 | app _ _ _ _ => intro _ hv; cases hv
 | ite _ _ _ _ _ _ => intro _ hv; cases hv
 | part _ _ => intro _ hv; cases hv
 | ar _ _ _ _ => intro _ hv; cases hv
 | var _ _ => intro _ hv; cases hv
 | _ => intro _ _ _ _ hU; cases hU
theorem B4C {Γ : GC} {v v' : GE} {U U' : GT} (h : GP Γ v v' U U') : Γ = N3 → GV v → ∀ {A B}, U = .pr A B → (∃ a b, v = .pair a b ∧ GV a ∧ GV b) ∨ ∃ a b c d l e, v = .cast (.pr a b) (.pr c d) l e ∧ GV e := by
 induction h with
 | castR _ _ _ i => exact i
 | castL _ _ _ _ => intro _ hv A B hU; subst hU; cases hv with | pp h => exact .inr ⟨_, _, _, _, _, _, rfl, h⟩
 | castB _ _ _ _ _ => intro _ hv A B hU; subst hU; cases hv with | pp h => exact .inr ⟨_, _, _, _, _, _, rfl, h⟩
 | pair _ _ _ _ => intro _ hv _ _ _; cases hv with | pair a b => exact .inl ⟨_, _, rfl, a, b⟩
 | app _ _ _ _ => intro _ hv; cases hv
 | ite _ _ _ _ _ _ => intro _ hv; cases hv
 | part _ _ => intro _ hv; cases hv
 | ar _ _ _ _ => intro _ hv; cases hv
 | var _ _ => intro _ hv; cases hv
 | _ => intro _ _ _ _ hU; cases hU
theorem A9I {Γ : GC} {v v' : GE} {U U' : GT} (h : GP Γ v v' U U') : Γ = N3 → GV v → U = .int → ∃ n, v = .num n := by
 induction h with
 | castR _ _ _ i => exact i
 | castL _ _ _ _ => intro _ hv hU; subst hU; cases hv
 | castB _ _ _ _ _ => intro _ hv hU; subst hU; cases hv
 | num => intro _ _ _; exact ⟨_, rfl⟩
 | app _ _ _ _ => intro _ hv; cases hv
 | ite _ _ _ _ _ _ => intro _ hv; cases hv
 | part _ _ => intro _ hv; cases hv
 | ar _ _ _ _ => intro _ hv; cases hv
 | var _ _ => intro _ hv; cases hv
 | _ => intro _ _ hU; cases hU
theorem B4D {Γ : GC} {v v' : GE} {U U' : GT} (h : GP Γ v v' U U') : Γ = N3 → GV v → U = .bool → ∃ b, v = .tru b := by
 induction h with
 | castR _ _ _ i => exact i
 | castL _ _ _ _ => intro _ hv hU; subst hU; cases hv
 | castB _ _ _ _ _ => intro _ hv hU; subst hU; cases hv
 | tru => intro _ _ _; exact ⟨_, rfl⟩
 | app _ _ _ _ => intro _ hv; cases hv
 | ite _ _ _ _ _ _ => intro _ hv; cases hv
 | part _ _ => intro _ hv; cases hv
 | ar _ _ _ _ => intro _ hv; cases hv
 | var _ _ => intro _ hv; cases hv
 | _ => intro _ _ hU; cases hU
theorem B4E {Γ : GC} {v v' : GE} {U U' : GT} (h : GP Γ v v' U U') : Γ = N3 → GV v → U = .any → ∃ H l w, v = .cast H .any l w ∧ GV w ∧ H.Gd := by
 induction h with
 | castR _ _ _ i => exact i
 | castL _ _ _ _ => intro _ hv hU; subst hU; cases hv with | inj h g => exact ⟨_, _, _, rfl, h, g⟩
 | castB _ _ _ _ _ => intro _ hv hU; subst hU; cases hv with | inj h g => exact ⟨_, _, _, rfl, h, g⟩
 | app _ _ _ _ => intro _ hv; cases hv
 | ite _ _ _ _ _ _ => intro _ hv; cases hv
 | part _ _ => intro _ hv; cases hv
 | ar _ _ _ _ => intro _ hv; cases hv
 | var _ _ => intro _ hv; cases hv
 | _ => intro _ _ hU; cases hU
theorem A9J {e e' : GE} {A B A' : GT} {l : Int} (h : GP N3 e e' A A') (hc : Co A B) (hv : GV e) : GV (.cast A B l e) ∨ (∃ r, GS (.cast A B l e) r) ∨ Bd (.cast A B l e) := by
 by_cases hA : A = .any
 ·subst hA
  by_cases hB : B = .any
  ·subst hB; exact .inr (.inl ⟨_, .cid hv (.inl rfl)⟩)
  ·by_cases hg : B.gr = B
   ·obtain ⟨H, m, w, rfl, hw, hH⟩ := B4E h rfl hv rfl
    by_cases he : H = B
    ·subst he; exact .inr (.inl ⟨_, .hit hw hH⟩)
    ·refine .inr (.inr ⟨A4d (by intro h; cases h; exact hB rfl), ?_⟩)
     have hg' := A3c.2 (show B.Gd from ⟨hB, hg⟩)
     have hi : inj (GE.tm (.cast H .any m w)) = true := by
      rw [GE.tm]; unfold inj; rw [Bool.and_eq_true]; exact ⟨rfl, A3c.2 hH⟩
     rw [GE.tm, A2I ((O6 _).2 hv)]
     unfold S4
     rw [if_neg (by decide), if_neg (by decide), if_neg (by decide), if_neg (by decide), if_pos rfl, if_neg, if_neg, if_neg (by rw [hg']; decide), if_neg (by show ¬inj (GE.tm (.cast H .any m w)) = false; rw [hi]; decide), if_neg]
     ·show ¬H.ty.k = B.ty.k
      intro hk
      apply he
      rw [← hH.2, ← hg]
      cases H <;> cases B <;> first | rfl | (simp [GT.ty, Ty.k] at hk)
     ·rw [A1W]; exact hB
     ·intro h; exact hB (A1W.1 h.symm)
   ·exact .inr (.inl ⟨_, .down hv hB hg⟩)
 ·by_cases hB : B = .any
  ·subst hB
   by_cases hg : A.gr = A
   ·exact .inl (.inj hv ⟨hA, hg⟩)
   ·exact .inr (.inl ⟨_, .up hv hA hg⟩)
  ·cases hc with
   | l => exact absurd rfl hA
   | r => exact absurd rfl hB
   | int => exact .inr (.inl ⟨_, .cid hv (.inr (.inl rfl))⟩)
   | bool => exact .inr (.inl ⟨_, .cid hv (.inr (.inr rfl))⟩)
   | fn _ _ => exact .inl (.pf hv)
   | pr _ _ => exact .inl (.pp hv)
theorem A2J {a : GE} (h : Bd a) {e : GE} {k : Int} {nm : ByteArray} {num : Int} {ty fr : Ty} {lb : Int} {ks : List Tm} (he : e.tm = .mk k nm num ty fr lb (a.tm :: ks)) (hv : ¬GV e) : Bd e :=
 ⟨A4d hv, by rw [he]; exact B4y h.1 ks h.2⟩
theorem A6U {a b : GE} (ha : GV a) (h : Bd b) {e : GE} {k : Int} {nm : ByteArray} {num : Int} {ty fr : Ty} {lb : Int} (hk : k ≠ 9) (he : e.tm = .mk k nm num ty fr lb [a.tm, b.tm]) (hv : ¬GV e) : Bd e :=
 ⟨A4d hv, by rw [he]; exact B4z ((O6 _).2 ha) h.1 hk h.2⟩
theorem A5h {e : GE} (h : Bd e) : ¬GV e := fun hv => by have := (O6 e).2 hv; rw [h.1] at this; cases this
theorem A6V {Γ : GC} {e e' : GE} {A A' : GT} (h : GP Γ e e' A A') : Γ = N3 → GV e ∨ (∃ r, GS e r) ∨ Bd e := by
 induction h with
 | var hx _ => intro hE; subst hE; cases hx
 | num => intro _; exact .inl .num
 | tru => intro _; exact .inl .tru
 | lam _ _ _ => intro _; exact .inl .lam
 | app hf ha i j =>
  intro hE
  refine .inr ?_
  rcases i hE with vf | ⟨r, s⟩ | b
  ·rcases j hE with va | ⟨r, s⟩ | b
   ·rcases B4B hf hE vf rfl with ⟨x, C, e, rfl⟩ | ⟨_, _, _, _, _, _, rfl, hw⟩
    ·exact .inl ⟨_, .beta va⟩
    ·exact .inl ⟨_, .appx hw va⟩
   ·exact .inl ⟨_, .app2 vf s⟩
   ·exact .inr (A6U vf b (k := 6) (by decide) rfl (by intro h; cases h))
  ·exact .inl ⟨_, .app1 s⟩
  ·exact .inr (A2J b (k := 6) rfl (by intro h; cases h))
 | @ar Γ t _ _ _ _ ha hb i j =>
  intro hE
  refine .inr ?_
  rcases i hE with va | ⟨r, s⟩ | b
  ·rcases j hE with vb | ⟨r, s⟩ | b
   ·obtain ⟨m, rfl⟩ := A9I ha hE va rfl
    obtain ⟨n, rfl⟩ := A9I hb hE vb rfl
    exact .inl ⟨_, .ar⟩
   ·exact .inl ⟨_, .ar2 va s⟩
   ·exact .inr (A6U va b (k := if t = true then 8 else 7) (by cases t <;> decide) rfl (by intro h; cases h))
  ·exact .inl ⟨_, .ar1 s⟩
  ·exact .inr (A2J b rfl (by intro h; cases h))
 | ite hc _ _ i _ _ =>
  intro hE
  refine .inr ?_
  rcases i hE with vc | ⟨r, s⟩ | b
  ·obtain ⟨m, rfl⟩ := B4D hc hE vc rfl
   exact .inl ⟨_, .ite⟩
  ·exact .inl ⟨_, .ite1 s⟩
  ·exact .inr (A2J b rfl (by intro h; cases h))
 | pair ha hb i j =>
  intro hE
  rcases i hE with va | ⟨r, s⟩ | b
  ·rcases j hE with vb | ⟨r, s⟩ | b
   ·exact .inl (.pair va vb)
   ·exact .inr (.inl ⟨_, .pair2 va s⟩)
   ·exact .inr (.inr (A6U va b (k := 10) (by decide) rfl (by intro h; cases h with | pair _ h => exact A5h b h)))
  ·exact .inr (.inl ⟨_, .pair1 s⟩)
  ·exact .inr (.inr (A2J b rfl (by intro h; cases h with | pair h _ => exact A5h b h)))
 | part h i =>
  intro hE
  refine .inr ?_
  rcases i hE with vc | ⟨r, s⟩ | b
  ·rcases B4C h hE vc rfl with ⟨_, _, rfl, ha, hb⟩ | ⟨_, _, _, _, _, _, rfl, hw⟩
   ·exact .inl ⟨_, .part ha hb⟩
   ·exact .inl ⟨_, .partx hw⟩
  ·exact .inl ⟨_, .part1 s⟩
  ·exact .inr (A2J b rfl (by intro h; cases h))
 | castL h hc _ i =>
  intro hE
  rcases i hE with hv | ⟨r, s⟩ | b
  ·subst hE; exact A9J h hc hv
  ·exact .inr (.inl ⟨_, .cast1 s⟩)
  ·exact .inr (.inr (A2J b rfl (fun h => A5h b h.ofCast)))
 | castR _ _ _ i => exact i
 | castB h hc _ _ i =>
  intro hE
  rcases i hE with hv | ⟨r, s⟩ | b
  ·subst hE; exact A9J h hc hv
  ·exact .inr (.inl ⟨_, .cast1 s⟩)
  ·exact .inr (.inr (A2J b rfl (fun h => A5h b h.ofCast)))
theorem A9K {e : Tm} (h : (H2 e).2.1 = 1) : J1 e = true ∧ C5 e = false ∧ (J0 e).2.1 = 1 ∧ (H2 e).1 = (J0 e).1 := by
 unfold H2 at h ⊢
 split at h
 ·cases h
 ·rename_i h1
  split at h
  ·cases h
  ·rename_i h2
   split at h
   ·rename_i h3; exact absurd h h3
   ·rename_i h3
    split at h
    ·cases h
    ·rename_i h4
     rw [if_neg h1, if_neg h2, if_neg h3, if_neg h4]
     refine ⟨by cases hv : J1 e with | true => rfl | false => exact absurd hv h1, by cases hv : C5 e with | false => rfl | true => exact absurd hv h2, ?_, rfl⟩
     apply Classical.byContradiction
     intro hc; exact h3 hc
theorem A9L {e : Tm} (h : (H2 e).2.1 = 0) (hc : (J0 e).2.1 ≠ 0) : C5 e = true ∧ (H2 e).1 = e := by
 unfold H2 at h ⊢
 split at h
 ·cases h
 ·rename_i h1
  split at h
  ·rename_i h2; rw [if_neg h1, if_pos h2]; exact ⟨h2, rfl⟩
  ·split at h
   ·exact absurd h hc
   ·split at h <;> cases h
theorem A9M {n : Nat} {e : Tm} (h : (H2 e).2.1 = 1) : K7 (n + 1) e = ((K7 n (H2 e).1).1, (K7 n (H2 e).1).2.1, (K7 n (H2 e).1).2.2.1, (K7 n (H2 e).1).2.2.2 + 1) := by rw [K7, if_pos h]
theorem B4F {t : Tm} (h : t.small) : t.nm.size ≤ 4294967296 ∧ t.ty.small ∧ t.fr.small ∧ t.ks.length ≤ 4294967296 ∧ Tm.smallL t.ks := by
 cases t; exact A0F.1 h
theorem A9N {ks : List Ty} (h : Ty.smallL ks) (i : Nat) : (kt ks i).small := by
 unfold kt
 rw [List.getD_eq_getElem?_getD]
 cases hi : ks[i]? with
 | none => exact A2g
 | some t => exact Ty.smallL_mem h t (List.mem_of_getElem? hi)
theorem A9O {t : Ty} (h : t.small) : Ty.smallL t.ks := by cases t; simp only [Ty.small] at h; exact h.2
theorem A5i (t : Ty) : (W8 t).small := by
 unfold W8; split <;> simp [K1, Ty.small, Ty.smallL]
theorem A2K {e : Tm} {a b : Ty} {l : Int} (h : e.small) (ha : a.small) (hb : b.small) : (N1 e a b l).small := A0F.2 ⟨by decide, hb, ha, by simp, by simp [Tm.smallL, h]⟩
theorem A2i (e : Tm) (a b : Ty) (l : Int) : D2 (N1 e a b l) = D2 e + 1 := by rw [N1, A0E, E0, E0]
theorem A6W {k : Int} {ks : List Tm} (h : Tm.smallL ks) (hl : ks.length ≤ 4294967296) : (Y8 k ks).small := A0F.2 ⟨by decide, A2g, A2g, hl, h⟩
theorem A6X (k : Int) (ks : List Tm) : D2 (Y8 k ks) = E0 ks + 1 := by rw [Y8, A0E]
theorem B4G {a : Tm} (h : a.small) : Tm.smallL [a] := by simp [Tm.smallL, h]
theorem B4H {a b : Tm} (h : a.small) (h2 : b.small) : Tm.smallL [a, b] := by simp [Tm.smallL, h, h2]
theorem A9P : D2 E2 = 1 := by simp [E2, D2, E0]
theorem B4I (t : Tm) : D2 t = E0 t.ks + 1 := by cases t; rw [A0E]; rfl
theorem B4J {k : Int} {ty fr : Ty} {lb : Int} {ks : List Tm} (hk : Tm.smallL ks) (hc : E0 ks ≤ 199) (ht : ty.small) (hf : fr.small) : (S4 k ty fr lb ks).1.small ∧ D2 (S4 k ty fr lb ks).1 ≤ 40100 := by
 have a0 := A2h hk 0
 have a1 := A2h hk 1
 have a2 := A2h hk 2
 have n0 := A5f (ks := ks) 0
 have n1 := A5f (ks := ks) 1
 have n2 := A5f (ks := ks) 2
 obtain ⟨_, b2, b3, _, b5⟩ := B4F a0
 have e0 := B4I (kd ks 0)
 have m := fun i => A5f (ks := (kd ks 0).ks) i
 have st : S3.1.small ∧ D2 S3.1 ≤ 40100 := ⟨A4c, by simp [S3, E2, D2, E0]⟩
 have hty := fun i => A9N (A9O b2) i
 have hfr := fun i => A9N (A9O b3) i
 unfold S4
 split
 ·split
  ·obtain ⟨s1, s2⟩ := A9E (x := (kd ks 0).nm) a1 (kd (kd ks 0).ks 0) (A2h b5 0)
   refine ⟨s1, Nat.le_trans s2 ?_⟩
   have : D2 (kd (kd ks 0).ks 0) * D2 (kd ks 1) ≤ 200 * 200 := Nat.mul_le_mul (by have := m 0; omega) (by omega)
   omega
  ·split
   ·refine ⟨A2K (A6W (B4H (A2h b5 0) (A2K a1 (hty 0) (hfr 0))) (by simp)) (hfr 1) (hty 1), ?_⟩
    have := m 0
    show D2 (N1 _ _ _ _) ≤ 40100
    rw [A2i, A6X, E0, E0, E0, A2i]
    omega
   ·exact st
 ·split
  ·split
   ·split
    ·exact ⟨A0F.2 ⟨by decide, A2g, A2g, by simp, by simp [Tm.smallL]⟩, by simp [A1z, D2, E0]⟩
    ·exact ⟨A6W (by simp [Tm.smallL]) (by simp), by simp [W3, A6X, E0]⟩
   ·exact st
  ·split
   ·split
    ·exact ⟨a1, by show D2 (kd ks 1) ≤ _; omega⟩
    ·split
     ·exact ⟨a2, by show D2 (kd ks 2) ≤ _; omega⟩
     ·exact st
   ·split
    ·split
     ·exact ⟨A2h b5 _, by have := m (k - 11).toNat; show D2 (kd _ _) ≤ _; omega⟩
     ·split
      ·refine ⟨A2K (A6W (B4G (A2h b5 0)) (by simp)) (hfr _) (hty _), ?_⟩
       have := m 0
       show D2 (N1 _ _ _ _) ≤ 40100
       rw [A2i, A6X, E0, E0]
       omega
      ·exact st
    ·split
     ·split
      ·exact ⟨a0, by show D2 (kd ks 0) ≤ _; omega⟩
      ·split
       ·refine ⟨A2K (A2K a0 hf (A5i fr)) (A5i fr) ht, ?_⟩
        show D2 (N1 _ _ _ _) ≤ 40100
        rw [A2i, A2i]; omega
       ·split
        ·refine ⟨A2K (A2K a0 hf (A5i ty)) (A5i ty) ht, ?_⟩
         show D2 (N1 _ _ _ _) ≤ 40100
         rw [A2i, A2i]; omega
        ·split
         ·exact st
         ·split
          ·exact ⟨A2h b5 0, by have := m 0; show D2 (kd _ _) ≤ _; omega⟩
          ·exact ⟨A4c, by simp [E2, D2, E0]⟩
     ·exact st
def A6Y (u : Ty) (G : IM) : IM → Value → List A5 → Prop := M9 fun G' v => ∃ cells, v = .agg ⟨cells⟩ ∧ C3 G' u cells
def A1X (r : Option Ty) (G : IM) : IM → Value → List A5 → Prop := M9 fun G' v => ∃ cells u, v = .tuple ⟨[.agg ⟨cells⟩, .bool r.isSome]⟩ ∧ C3 G' u cells ∧ ∀ t, r = some t → u = t
theorem B4K {G : IM} {k : Int} {a b : Ty} {ca cb : List Value} {p : Option Addr} {c : Nat} (hk : F8 k) (ha : C3 G a ca) (hb : C3 G b cb) (hs : Sl G p 2 c 2 (ca ++ cb)) : C3 G (.mk k [a, b]) [.int .i64 k, .slice p 2 c] := by
 have hL : H0 G [a, b] [ca, cb] := by simp only [H0]; exact ⟨ca, [cb], rfl, ha, cb, [], rfl, hb, rfl⟩
 exact H0.ty (ts := [a, b]) (es := [ca, cb]) hL rfl (by simpa using hs) hk
theorem A6Z : ∀ (t t' : Ty) (G : IM) (cells cells' : List Value), C3 G t cells → C3 G t' cells' → Fn Tryz.prog 30 [.agg ⟨cells⟩, .agg ⟨cells'⟩] [] G (H8 (.bool (N5 t t')) G) := by
 refine Ty.ind fun k ks ih t' G cells cells' hr hr' => ?_
 obtain ⟨k', ks'⟩ := t'
 obtain ⟨p, c, es, rfl, hk, hsl, hkl⟩ := hr.open
 obtain ⟨p', c', es', rfl, hk', hsl', hkl'⟩ := hr'.open
 simp only [Ty.k, Ty.ks] at hk hsl hkl hk' hsl' hkl' ⊢
 obtain ⟨A, hA⟩ : ∃ A, A0n ks ks' = A := ⟨_, rfl⟩
 have hA' : A = true ↔ ks.length = ks'.length ∧ ∀ i, i < ks.length → N5 (ks.getD i A6) (ks'.getD i A6) = true := by
  rw [← hA, A31]
  constructor
  ·rintro ⟨h1, h2⟩
   refine ⟨h1, fun i hi => ?_⟩
   have := h2 i hi (by omega)
   simpa [List.getD_eq_getElem?_getD, List.getElem?_eq_getElem hi, List.getElem?_eq_getElem (show i < ks'.length by omega)] using this
  ·rintro ⟨h1, h2⟩
   refine ⟨h1, fun i hi hi' => ?_⟩
   have := h2 i hi
   simpa [List.getD_eq_getElem?_getD, List.getElem?_eq_getElem hi, List.getElem?_eq_getElem hi'] using this
 refine B7 Tryz.func30 rfl Tryz.ntmps30 Tryz.results30 rfl ?_
 intro w0
 refine A1 ?_
 refine sE (C7 rfl rfl) rfl (fun b3 => ?_)
 refine sE (C7 rfl rfl) rfl (fun b4 => ?_)
 refine D8 ?_
 refine sB (qE rfl rfl) rfl rfl (fun h14 => ?_) (fun h14 => ?_)
 refine B1 ?_
 refine I3 rfl (A8S _ _ _ _ _ _ _ _ _ hsl hsl' _ [] [] [] (fun i => N5 (ks.getD i A6) (ks'.getD i A6)) A hA' (fun i e e' he he' => ih _ (hkl.inv he A6).1 _ _ _ _ (hkl.inv he A6).2 (hkl'.inv he' A6).2)) rfl rfl ?_
 refine A7 ?_
 exact ⟨rfl, by rw [A2D, hA]; first | (rw [decide_eq_true (p := k = k') (by omega)]; rfl) | (rw [decide_eq_false (p := k = k') (by omega)]; rfl), rfl⟩
 refine O0 ?_
 exact ⟨rfl, by rw [A2D, hA]; first | (rw [decide_eq_true (p := k = k') (by omega)]; rfl) | (rw [decide_eq_false (p := k = k') (by omega)]; rfl), rfl⟩
theorem A2j (k : Int) (a b : Ty) (G : IM) (ca cb : List Value) (hk : F8 k) (hra : C3 G a ca) (hrb : C3 G b cb) :
  Fn Tryz.prog 160 [.int .i64 k, .agg ⟨ca⟩, .agg ⟨cb⟩] [] G (A6Y (.mk k [a, b]) G) := by
 obtain ⟨pa, cca, ea, rfl, _⟩ := hra.open
 obtain ⟨pb, ccb, eb, rfl, _⟩ := hrb.open
 refine B7 Tryz.func160 rfl Tryz.ntmps160 Tryz.results160 rfl ?_
 intro w0
 refine A1 ?_
 refine sE (C7 rfl rfl) rfl (fun b3 => ?_)
 refine sE (C7 rfl rfl) rfl (fun b4 => ?_)
 refine sE (B0 rfl) rfl (fun b5 => ?_)
 refine B4 ?_
 (refine M5 (D4 rfl rfl rfl (by omega) (by unfold maxLen; omega) rfl) rfl ?_; rintro _ ⟨b13, rfl⟩)
 refine B3 ?_
 (refine I5 (by repeat (first | exact Pk.here | apply Pk.there)) (fun G5 hle5 hsl5 hno5 => ?_))
 refine tT ?_
 refine L3 (rC rfl (A4 rfl rfl)) ?_
 exact ⟨rfl, _, rfl, B4K hk (hra.mono hle5) (hrb.mono hle5) hsl5⟩
theorem A1h (k tk : Int) (ks : List Ty) : S1 k (.mk tk ks) = if tk = k then some (ks.getD 0 A6, ks.getD 1 A6) else if tk = 1 then some (K1, K1) else none := rfl
def A9Q (k : Int) (t : Ty) (G : IM) : IM → Value → List A5 → Prop := M9 fun G' v => ∃ a ca b cb, v = .tuple ⟨[.agg ⟨ca⟩, .agg ⟨cb⟩, .bool (S1 k t).isSome]⟩ ∧ C3 G' a ca ∧ C3 G' b cb ∧ F4 a ∧ F4 b ∧ ∀ p, S1 k t = some p → p = (a, b)
theorem A9R (k : Int) (t : Ty) (G : IM) (cells : List Value) (hk : k = 4 ∨ k = 5) (ha : F4 t) (hr : C3 G t cells) :
  Fn Tryz.prog 161 [.agg ⟨cells⟩, .int .i64 k] [] G (A9Q k t G) := by
 obtain ⟨tk, ks⟩ := t
 have ha2 := ha
 rw [F4] at ha2
 have hkid := ha.kid
 obtain ⟨p, c, es, rfl, htk, hsl, hkl⟩ := hr.open
 simp only [Ty.k, Ty.ks] at htk hsl hkl ⊢
 refine B7 Tryz.func161 rfl Tryz.ntmps161 Tryz.results161 rfl ?_
 intro w0
 refine A1 ?_
 refine sE (C7 rfl rfl) rfl (fun b3 => ?_)
 refine sE (B0 rfl) rfl (fun b4 => ?_)
 refine sE (B0 rfl) rfl (fun b5 => ?_)
 refine J2 ?_
 refine C0 (tS (tR (sQ (qM rfl) rfl (sB (qE rfl rfl) rfl rfl (fun h20 => ?_) (fun h20 => ?_)))))
 refine B1 ?_
 (have hlen : ks.length = 2 := ha2.1 (by omega); obtain ⟨b, o, q0, d0, hp0, hat0, hre0, hg0⟩ := hsl.kidTy hkl (i := 0) (by omega) (by omega); obtain ⟨b', o', q1, d1, hp1, hat1, hre1, hg1⟩ := hsl.kidTy hkl (i := 1) (by omega) (by omega); subst hp0; cases hp1; refine E3 E4 rfl ?_)
 refine J5 (i := 0) (l' := [tt,ff,ff,ff,ff,ff,ff,ff,ff,ff,ff]) rfl D7 (B9 rfl) rfl (by kernel_rfl) rfl rfl ?_
 refine aL 1 rfl (D3 rfl rfl) rfl ?_
 refine aP 2 rfl (B8 (j := 0) rfl rfl rfl (by omega)) rfl ?_
 refine aL 3 rfl (A2 rfl rfl (hat0 _) rfl) rfl ?_
 refine aP 4 rfl (B9 rfl) rfl ?_
 refine aL 5 rfl (D3 rfl rfl) rfl ?_
 refine aP 6 rfl (B8 (j := 1) rfl rfl rfl (by omega)) rfl ?_
 refine aL 7 rfl (A2 rfl rfl (hat1 _) rfl) rfl ?_
 refine A3 8 ?_
 refine I9 rfl ?_
 refine A3 9 ?_
 refine I9 rfl ?_
 refine aP 10 rfl (qA rfl) rfl ?_
 refine B1 ?_
 refine D1 (rC rfl (A4 rfl rfl)) (rC rfl (A4 rfl rfl)) (rT rfl) ?_
 (refine ⟨rfl, _, _, _, _, ?_, hre0, hre1, hkid _ (List.getElem_mem (by omega)), hkid _ (List.getElem_mem (by omega)), ?_⟩ <;> rw [A1h, if_pos (by omega)] <;> first | rfl | (intro p hp; cases hp; simp [hlen]))
 refine A7 ?_
 refine sB (qE rfl rfl) rfl rfl (fun h53 => ?_) (fun h53 => ?_)
 refine A7 ?_
 refine I3 rfl ((A0M _ _)) rfl rfl ?_
 refine I3 rfl ((A0M _ _)) rfl rfl ?_
 refine D0 ?_
 refine D1 (rC rfl (A4 rfl rfl)) (rC rfl (A4 rfl rfl)) (rT rfl) ?_
 (refine ⟨rfl, _, _, _, _, ?_, A0N _, A0N _, A3Y, A3Y, ?_⟩ <;> rw [A1h, if_neg (by omega), if_pos (by omega)] <;> first | rfl | (intro p hp; cases hp; rfl))
 refine V3 ?_
 refine D1 (rC rfl (A4 rfl rfl)) (rC rfl (A4 rfl rfl)) (rT rfl) ?_
 (refine ⟨rfl, A6, _, A6, _, ?_, O2 _ ⟨by omega, by omega⟩, O2 _ ⟨by omega, by omega⟩, U3 (by omega) (by omega), U3 (by omega) (by omega), ?_⟩ <;> rw [A1h, if_neg (by omega), if_neg (by omega)] <;> first | rfl | (intro p hp; cases hp))
def A3e (G : IM) (b : ByteArray × Ty) (e : List Value) : Prop := ∃ q d, e = [.string b.1, .int .i64 b.2.k, .slice q b.2.ks.length d] ∧ C3 G b.2 [.int .i64 b.2.k, .slice q b.2.ks.length d]
theorem A3e.mono {G G' : IM} {b : ByteArray × Ty} {e : List Value} (h : A3e G b e) (hg : C2 G G') : A3e G' b e := by
 obtain ⟨q, d, h1, h2⟩ := h
 exact ⟨q, d, h1, h2.mono hg⟩
def U4 (G : IM) (cx : Cx) (p : Option Addr) (n c : Nat) : Prop := n = cx.length ∧ ∃ es : List (List Value), D6 G p n c 3 es ∧ ∀ (i : Nat) (b : ByteArray × Ty), cx[i]? = some b → ∃ e, es[i]? = some e ∧ A3e G b e
theorem U4.mono {G G' : IM} {cx : Cx} {p : Option Addr} {n c : Nat} (h : U4 G cx p n c) (hg : C2 G G') : U4 G' cx p n c := by
 obtain ⟨h1, es, h2, h3⟩ := h
 refine ⟨h1, es, h2.mono hg, fun i b hb => ?_⟩
 obtain ⟨e, he, hr⟩ := h3 i b hb
 exact ⟨e, he, hr.mono hg⟩
theorem U4.nil (G : IM) : U4 G [] none 0 0 := ⟨rfl, [], D6.nil _ _, by simp⟩
theorem U4.le {G : IM} {cx : Cx} {p : Option Addr} {n c : Nat} (h : U4 G cx p n c) : n ≤ 9223372036854775807 := by
 obtain ⟨h1, es, h2, h3⟩ := h
 exact h2.le
theorem U4.get {G : IM} {cx : Cx} {p : Option Addr} {n c : Nat} (h : U4 G cx p n c) {i : Nat} (hi : i < n) :
  ∃ b o nm t q d, cx[i]? = some (nm, t) ∧ p = some ⟨b, o, none⟩ ∧ (∀ hp, At hp G b (o + i * 3) [.string nm, .int .i64 t.k, .slice q t.ks.length d]) ∧ C3 G t [.int .i64 t.k, .slice q t.ks.length d] ∧ G b ≠ none := by
 obtain ⟨h1, es, h2, h3⟩ := h
 obtain ⟨e, b, o, he, rfl, hl, _, hat, hgb⟩ := h2.get (i := i) (by omega)
 have hx : cx[i]? = some cx[i] := List.getElem?_eq_getElem (by omega)
 obtain ⟨e', he', q, d, h4, h5⟩ := h3 i _ hx
 rw [he] at he'
 obtain rfl := Option.some.inj he'
 rw [h4] at hat
 exact ⟨b, o, cx[i].1, cx[i].2, q, d, hx, rfl, hat, h5, hgb⟩
theorem B4L (G : IM) (cx : Cx) (p : Option Addr) (n c : Nat) (nm : ByteArray) (hx : U4 G cx p n c) :
  Fn Tryz.prog 159 [.slice p n c, .string nm] [] G (A1X (P7 cx nm) G) := by
 have hn := hx.le
 have hn1 := hx.1
 refine B7 Tryz.func159 rfl Tryz.ntmps159 Tryz.results159 rfl ?_
 intro w0
 refine A1 ?_
 refine sE (B0 rfl) rfl (fun b3 => ?_)
 refine D0 ?_
 refine sP (Q5 rfl rfl (by omega) (by omega)) rfl rfl ?_
 refine B6 ?_
 refine C0 ?_
 (refine L9 (fun (i : Nat) => ⟨[(6, .int .i64 ((i : Int) - 1)), (0, .slice p n c), (1, .string nm), (4, .pointer (some ⟨b3, 0, none⟩))], [.blk b3 [.int .i64 0, .slice none 0 0]], G⟩) (fun i => i ≤ n ∧ W2 cx nm i = P7 cx nm) (fun i => i) n ?_ ?_ ?_)
 exact D5
 exact ⟨Nat.le_refl _, by rw [hn1]; rfl⟩
 (rintro i ⟨hi, hlk⟩)
 refine B3 ?_
 refine sB (A06 rfl rfl) rfl rfl (fun h25 => ?_) (fun h25 => ?_)
 refine A7 ?_
 (show J3 _ _ (.block 1 _) _ _; obtain ⟨j, rfl⟩ : ∃ j, i = j + 1 := ⟨i - 1, by omega⟩; rw [show ((j + 1 : Nat) : Int) - 1 = (j : Int) from by omega]; obtain ⟨b, o, nm1, t1, q1, d1, hcx, rfl, hat, hr1, hgb⟩ := hx.get (i := j) (by omega); refine C0 ?_)
 refine B3 ?_
 refine sP (B8 rfl rfl rfl (by omega)) rfl rfl ?_
 refine E8 ?_
 refine sL (A0u rfl rfl ((hat _).sub (j := 0) rfl)) rfl rfl ?_
 refine E8 ?_
 refine sB (A1p rfl rfl) rfl rfl (fun h41 => ?_) (fun h41 => ?_)
 refine B4 ?_
 refine sP (B8 rfl rfl rfl (by omega)) rfl rfl ?_
 refine E8 ?_
 refine sL (A2 rfl rfl (hat _).drop rfl) rfl rfl ?_
 refine J2 ?_
 refine I8 (rC rfl (A4 rfl rfl)) (rT rfl) ?_
 (rw [A32 hcx (by assumption)] at hlk; rw [← hlk]; exact ⟨rfl, _, _, rfl, hr1, fun t ht => by cases ht; rfl⟩)
 refine D0 ?_
 refine sP (Q5 rfl rfl (by omega) (by omega)) rfl rfl ?_
 refine A1 ?_
 refine L0 j ?_ ?_ ?_
 exact D5
 (rw [A33 hcx (by assumption)] at hlk; exact ⟨by omega, hlk⟩)
 (show _ < _ + 1; omega)
 refine J7 ?_
 refine I8 (rC rfl (A4 rfl rfl)) (rT rfl) ?_
 (obtain rfl : i = 0 := (by omega); rw [W2] at hlk; rw [← hlk]; exact ⟨rfl, _, A6, rfl, O2 _ ⟨by omega, by omega⟩, fun t ht => by cases ht⟩)
theorem B4M {xs ys : List Ty} (h : xs.length = 2) (h' : ys.length = 2) : T2 xs ys = [U1 (xs[0]'(by omega)) (ys[0]'(by omega)), U1 (xs[1]'(by omega)) (ys[1]'(by omega))] := by
 match xs, ys, h, h' with
 | [a, b], [c, d], _, _ => rfl
theorem B4N {k k' : Int} {ks bs : List Ty} (h : K3 (.mk k ks) (.mk k' bs) = true) (hk : k ≠ 1) (hk' : k' ≠ 1) : k = k' ∧ O5 ks bs = true := by
 rw [S9] at h
 simpa [hk, hk'] using h
theorem A9S : ∀ (a b : Ty) (G : IM) (ca cb : List Value), K3 a b = true → F4 a → F4 b → C3 G a ca → C3 G b cb →
  Fn Tryz.prog 163 [.agg ⟨ca⟩, .agg ⟨cb⟩] [] G (A6Y (U1 a b) G) := by
 refine Ty.ind fun k ks ih b G ca cb hc haa hab hra hrb => ?_
 have hsa := haa.small
 have hsb := hab.small
 obtain ⟨bk, bks⟩ := b
 have hra0 := hra
 have hrb0 := hrb
 have ha2 := haa
 have hb2 := hab
 rw [F4] at ha2 hb2
 have hkida := haa.kid
 have hkidb := hab.kid
 obtain ⟨p, c, es, rfl, hk, hsl, hkl⟩ := hra.open
 obtain ⟨p', c', es', rfl, hk', hsl', hkl'⟩ := hrb.open
 simp only [Ty.k, Ty.ks] at hk hsl hkl hk' hsl' hkl' ⊢
 have hn := hsl.le
 rw [A1f]
 refine B7 Tryz.func163 rfl Tryz.ntmps163 Tryz.results163 rfl ?_
 intro w0
 refine A1 ?_
 refine sE (C7 rfl rfl) rfl (fun b3 => ?_)
 refine sE (C7 rfl rfl) rfl (fun b4 => ?_)
 refine sE (B0 rfl) rfl (fun b5 => ?_)
 refine B6 ?_
 refine C0 ?_
 refine B3 ?_
 refine sB (qE rfl rfl) rfl rfl (fun h14 => ?_) (fun h14 => ?_)
 refine B4 ?_
 (refine E7 rfl (A2d _ _ _ hsb hrb0) rfl rfl (fun v G1 hle1 hh => ?_); obtain ⟨T8, F1, rfl, hs1, hn1⟩ := hh; obtain ⟨p1, c1, rfl, _⟩ := hs1.open; have hr1 := hs1.R.mono (C8.le G1 _))
 refine A7 ?_
 refine L3 (rC rfl (A4 rfl rfl)) ?_
 (rw [if_pos (by omega)]; exact ⟨rfl, _, rfl, hr1⟩)
 refine D0 ?_
 refine sB (qE rfl rfl) rfl rfl (fun h39 => ?_) (fun h39 => ?_)
 refine J6 ?_
 (refine E7 rfl (A2d _ _ _ hsa hra0) rfl rfl (fun v G1 hle1 hh => ?_); obtain ⟨T8, F1, rfl, hs1, hn1⟩ := hh; obtain ⟨p1, c1, rfl, _⟩ := hs1.open; have hr1 := hs1.R.mono (C8.le G1 _))
 refine A7 ?_
 refine L3 (rC rfl (A4 rfl rfl)) ?_
 (rw [if_neg (by omega)]; split <;> first | exact ⟨rfl, _, rfl, hr1⟩ | (obtain rfl : ks = [] := List.length_eq_zero_iff.1 (by omega); rw [T2]; exact ⟨rfl, _, rfl, hr1⟩; simp))
 refine B3 ?_
 refine sB (qE rfl rfl) rfl rfl (fun h66 => ?_) (fun h66 => ?_)
 refine D0 ?_
 (refine E7 rfl (A2d _ _ _ hsa hra0) rfl rfl (fun v G1 hle1 hh => ?_); obtain ⟨T8, F1, rfl, hs1, hn1⟩ := hh; obtain ⟨p1, c1, rfl, _⟩ := hs1.open; have hr1 := hs1.R.mono (C8.le G1 _))
 refine A7 ?_
 refine L3 (rC rfl (A4 rfl rfl)) ?_
 (rw [if_neg (by omega)]; split <;> first | exact ⟨rfl, _, rfl, hr1⟩ | (obtain rfl : ks = [] := List.length_eq_zero_iff.1 (by omega); rw [T2]; exact ⟨rfl, _, rfl, hr1⟩; simp))
 refine D8 ?_
 (obtain ⟨hkk, hcl0⟩ := B4N hc (by omega) (by omega); subst hkk; have hcl := (A19 _ _).1 hcl0; have hlen : ks.length = 2 := (by have := ha2.2.1; have := ha2.1; omega); have hlen' : bks.length = 2 := (by omega); obtain ⟨b0, o0, q0, d0, hp0, hat0, hre0, hg0⟩ := hsl.kidTy hkl (i := 0) (by omega) (by omega); obtain ⟨b1, o1, q1, d1, hp1, hat1, hre1, hg1⟩ := hsl.kidTy hkl (i := 1) (by omega) (by omega); subst hp0; cases hp1; obtain ⟨b2, o2, q2, d2, hp2, hat2, hre2, hg2⟩ := hsl'.kidTy hkl' (i := 0) (by omega) (by omega); obtain ⟨b3, o3, q3, d3, hp3, hat3, hre3, hg3⟩ := hsl'.kidTy hkl' (i := 1) (by omega) (by omega); subst hp2; cases hp3; have hM1 := ih ks[0] (List.getElem_mem (by omega)) bks[0] G _ _ (hcl.2 0 (by omega) (by omega)) (hkida _ (List.getElem_mem (by omega))) (hkidb _ (List.getElem_mem (by omega))) hre0 hre2; refine E3 E4 rfl ?_)
 refine J5 (i := 0) (l' := [tt,ff,ff,ff,ff,ff,ff,ff,ff,ff,ff,ff,ff,ff,ff,ff,ff,ff,ff,ff,ff,ff]) rfl D7 (B9 rfl) rfl (by kernel_rfl) rfl rfl ?_
 refine aL 1 rfl (D3 rfl rfl) rfl ?_
 refine aP 2 rfl (B9 rfl) rfl ?_
 refine aL 3 rfl (D3 rfl rfl) rfl ?_
 refine aP 4 rfl (B8 (j := 0) rfl rfl rfl (by omega)) rfl ?_
 refine aL 5 rfl (A2 rfl rfl (hat0 _) rfl) rfl ?_
 refine aP 6 rfl (B9 rfl) rfl ?_
 refine aL 7 rfl (D3 rfl rfl) rfl ?_
 refine aP 8 rfl (B8 (j := 0) rfl rfl rfl (by omega)) rfl ?_
 refine aL 9 rfl (A2 rfl rfl (hat2 _) rfl) rfl ?_
 refine aP 11 rfl (B9 rfl) rfl ?_
 refine aL 12 rfl (D3 rfl rfl) rfl ?_
 refine aP 13 rfl (B8 (j := 1) rfl rfl rfl (by omega)) rfl ?_
 refine aL 14 rfl (A2 rfl rfl (hat1 _) rfl) rfl ?_
 refine aP 15 rfl (B9 rfl) rfl ?_
 refine aL 16 rfl (D3 rfl rfl) rfl ?_
 refine aP 17 rfl (B8 (j := 1) rfl rfl rfl (by omega)) rfl ?_
 refine aL 18 rfl (A2 rfl rfl (hat3 _) rfl) rfl ?_
 refine A3 10 ?_
 (refine K4 rfl rfl hM1 rfl rfl rfl (fun v G1 hle1 hh => ?_); obtain ⟨cm1, rfl, hm1⟩ := hh; have hM2 := ih ks[1] (List.getElem_mem (by omega)) bks[1] G1 _ _ (hcl.2 1 (by omega) (by omega)) (hkida _ (List.getElem_mem (by omega))) (hkidb _ (List.getElem_mem (by omega))) (hre1.mono hle1) (hre3.mono hle1))
 refine A3 19 ?_
 (refine K4 rfl rfl hM2 rfl rfl rfl (fun v G2 hle2 hh => ?_); obtain ⟨cm2, rfl, hm2⟩ := hh; have hB := A2j k _ _ G2 _ _ hk (hm1.mono hle2) hm2)
 refine A3 20 ?_
 (refine K4 rfl rfl hB rfl rfl rfl (fun v G3 hle3 hh => ?_); obtain ⟨cm3, rfl, hm3⟩ := hh; obtain ⟨p5, c5, e5, rfl, _⟩ := hm3.open)
 refine A3 21 ?_
 refine I9 rfl ?_
 refine B6 ?_
 refine L3 (rC rfl (A4 rfl rfl)) ?_
 (rw [if_neg (by omega), if_neg (by omega)]; rw [B4M hlen hlen']; exact ⟨rfl, _, rfl, hm3⟩)
theorem A9T (G : IM) (p : Option Addr) (n c : Nat) (es : List (List Value)) (h : D6 G p n c 9 es) (h0 : 0 < n) (hn : n ≤ 4294967296) :
  Fn Tryz.prog 219 [.slice p n c] [] G (fun G' v outs => G' = G ∧ ∃ p' c', v = .slice p' n c' ∧ outs = [.slc p' c' 28 9 n es.flatten]) := by
 obtain ⟨hl, hc, hm, hat⟩ := h.sl
 obtain ⟨b, o, full, rfl, hg, hv⟩ := hat.resolve_left (by omega)
 have ho : ∀ u ∈ es.flatten, u.oneCell' = true := by
  intro u hu
  obtain ⟨e, he, hue⟩ := List.mem_flatten.1 hu
  exact List.all_eq_true.1 (h.one e he) u hue
 refine B7 Tryz.func219 rfl Tryz.ntmps219 Tryz.results219 rfl ?_
 intro w0
 refine D8 ?_
 refine sQ (A76 rfl rfl rfl) rfl ?_
 refine B4 ?_
 (refine M5 (D4 rfl rfl rfl (by omega) (by unfold maxLen; omega) rfl) rfl ?_; rintro _ ⟨b18, rfl⟩)
 refine E8 ?_
 refine A4R rfl rfl rfl rfl rfl (fun _ _ => by repeat (first | exact Sw.here | apply Sw.there)) (A4H hg hv) hl ho (by unfold maxLen; omega) (by omega) rfl (fun pn cn => ?_)
 refine B3 ?_
 refine H5 (rT rfl) A0.refl ?_
 exact ⟨rfl, _, _, by rw [Nat.zero_add], by rw [Nat.zero_add]; rfl⟩
theorem At.mono' {hp : List A5} {G G' : IM} {b o : Nat} {vs : List Value} (hg : C2 G G') (h : At [] G b o vs) : At hp G' b o vs := by
 rcases h with ⟨cs, hm, hv⟩ | ⟨n, c, el, sz, cs, hm, hv⟩ | ⟨full, hx, hv⟩
 ·cases hm
 ·cases hm
 ·exact .inr (.inr ⟨full, hg _ _ hx, hv⟩)
theorem D6.kidD {G : IM} {p : Option Addr} {n c : Nat} {es : List (List Value)} {ks : List Ty} (h : D6 G p n c 2 es) (hk : H0 G ks es) {i : Nat} (hi : i < n) (hn : i < ks.length) :
  ∃ b o q d, p = some ⟨b, o, none⟩ ∧ (∀ hp, At hp G b (o + i * 2) [.int .i64 (ks.getD i A6).k, .slice q (ks.getD i A6).ks.length d]) ∧ C3 G (ks.getD i A6) [.int .i64 (ks.getD i A6).k, .slice q (ks.getD i A6).ks.length d] ∧ G b ≠ none := by
 obtain ⟨b, o, q, d, h1, h2, h3, h4⟩ := h.kidTy hk hi hn
 rw [List.getD_eq_getElem?_getD, List.getElem?_eq_getElem hn, Option.getD_some]
 exact ⟨b, o, q, d, h1, h2, h3, h4⟩
theorem A3f {hs : List Ty} (h : ∀ t ∈ hs, F4 t) {i : Nat} (hi : i < hs.length) : F4 (hs.getD i A6) := by
 rw [List.getD_eq_getElem?_getD, List.getElem?_eq_getElem hi, Option.getD_some]
 exact h _ (List.getElem_mem hi)
def M6 (r : Option (List Ty × Ty)) (G : IM) : IM → Value → List A5 → Prop := M9 fun G' v => ∃ p n c es w cu u, v = .tuple ⟨[.slice p n c, .agg ⟨cu⟩, .bool r.isSome]⟩ ∧ n = w.length ∧ D6 G' p n c 2 es ∧ H0 G' w es ∧ C3 G' u cu ∧ ∀ q, r = some q → q = (w, u)
theorem M6.mk {r : Option (List Ty × Ty)} {G G' : IM} {p : Option Addr} {n c : Nat} {es : List (List Value)} {w : List Ty} {cu : List Value} {u : Ty} {b : Bool} (hl : n = w.length) (hs : Sl G' p n c 2 es.flatten) (hw : H0 G' w es) (hu : C3 G' u cu) (h : r = if b = true then some (w, u) else none) :
  M6 r G G' (.tuple ⟨[.slice p n c, .agg ⟨cu⟩, .bool b]⟩) [] := by
 refine ⟨rfl, p, n, c, es, w, cu, u, ?_, hl, D6.of hs (by rw [hw.len, hl]) hw.all (fun e he => (hw.each e he).2), hw, hu, ?_⟩
 ·subst h; cases b <;> rfl
 ·subst h; cases b
  ·simp
  ·intro q hq; simpa using hq.symm
theorem M6.nil {r : Option (List Ty × Ty)} {G G' : IM} {cu : List Value} {u : Ty} {b : Bool} (hu : C3 G' u cu) (h : r = if b = true then some ([], u) else none) :
  M6 r G G' (.tuple ⟨[.slice none 0 0, .agg ⟨cu⟩, .bool b]⟩) [] := M6.mk (es := []) rfl (Sl.nil _ _) (by simp [H0]) hu h
theorem M6.one {r : Option (List Ty × Ty)} {G G' : IM} {p : Option Addr} {c : Nat} {a : Ty} {ca : List Value} {cu : List Value} {u : Ty} {b : Bool} (hs : Sl G' p 1 c 2 ca) (ha : C3 G' a ca) (hu : C3 G' u cu) (h : r = if b = true then some ([a], u) else none) :
  M6 r G G' (.tuple ⟨[.slice p 1 c, .agg ⟨cu⟩, .bool b]⟩) [] := M6.mk (es := [ca]) (w := [a]) rfl (by simpa using hs) ⟨_, _, rfl, ha, rfl⟩ hu h
theorem M6.two {r : Option (List Ty × Ty)} {G G' : IM} {p : Option Addr} {c : Nat} {a a2 : Ty} {ca ca2 : List Value} {cu : List Value} {u : Ty} {b : Bool} (hs : Sl G' p 2 c 2 (ca ++ ca2)) (ha : C3 G' a ca) (ha2 : C3 G' a2 ca2) (hu : C3 G' u cu) (h : r = if b = true then some ([a, a2], u) else none) :
  M6 r G G' (.tuple ⟨[.slice p 2 c, .agg ⟨cu⟩, .bool b]⟩) [] := M6.mk (es := [ca, ca2]) (w := [a, a2]) rfl (by simpa using hs) ⟨_, _, rfl, ha, _, _, rfl, ha2, rfl⟩ hu h
theorem M6.three {r : Option (List Ty × Ty)} {G G' : IM} {p : Option Addr} {c : Nat} {a a2 a3 : Ty} {ca ca2 ca3 : List Value} {cu : List Value} {u : Ty} {b : Bool} (hs : Sl G' p 3 c 2 (ca ++ (ca2 ++ ca3))) (ha : C3 G' a ca) (ha2 : C3 G' a2 ca2) (ha3 : C3 G' a3 ca3) (hu : C3 G' u cu) (h : r = if b = true then some ([a, a2, a3], u) else none) :
  M6 r G G' (.tuple ⟨[.slice p 3 c, .agg ⟨cu⟩, .bool b]⟩) [] := M6.mk (es := [ca, ca2, ca3]) (w := [a, a2, a3]) rfl (by simpa using hs) ⟨_, _, rfl, ha, _, _, rfl, ha2, _, _, rfl, ha3, rfl⟩ hu h
section
variable {cx : Cx} {nm : ByteArray} {ty : Ty} {h : List Ty}
theorem mW1 : J8 cx 1 nm ty h = match P7 cx nm with | some t => some ([], t) | none => none := rfl
theorem mW2 : J8 cx 2 nm ty h = some ([], Q6) := rfl
theorem A5j {k : Int} (hk : k = 3 ∨ k = 4) : J8 cx k nm ty h = some ([], S7) := by rcases hk with rfl | rfl <;> rfl
theorem mW5 : J8 cx 5 nm ty h = some ([], .mk 4 [ty, h.getD 0 A6]) := rfl
theorem mW6 : J8 cx 6 nm ty h = match S1 4 (h.getD 0 A6) with | some (a, b) => if K3 (h.getD 1 A6) a = true then some ([.mk 4 [a, b], a], b) else none | none => none := rfl
theorem X1 {k : Int} (hk : k = 7 ∨ k = 8) : J8 cx k nm ty h = if K3 (h.getD 0 A6) Q6 = true ∧ K3 (h.getD 1 A6) Q6 = true then some ([Q6, Q6], if k = 8 then S7 else Q6) else none := by rcases hk with rfl | rfl <;> rfl
theorem mW9 : J8 cx 9 nm ty h = if K3 (h.getD 0 A6) S7 = true ∧ K3 (h.getD 1 A6) (h.getD 2 A6) = true then some ([S7, U1 (h.getD 1 A6) (h.getD 2 A6), U1 (h.getD 1 A6) (h.getD 2 A6)], U1 (h.getD 1 A6) (h.getD 2 A6)) else none := rfl
theorem A60 : J8 cx 10 nm ty h = some ([], .mk 5 [h.getD 0 A6, h.getD 1 A6]) := rfl
theorem A3g : J8 cx 13 nm ty h = if K3 (h.getD 0 A6) ty = true then some ([ty], ty) else none := rfl
theorem A4e {k : Int} (hk : k = 11 ∨ k = 12) : J8 cx k nm ty h = match S1 5 (h.getD 0 A6) with | some (a, b) => some ([.mk 5 [a, b]], if k = 12 then b else a) | none => none := by rcases hk with rfl | rfl <;> rfl
end
theorem M0 (G : IM) : C3 G Q6 [.int .i64 2, .slice none 0 0] := O2 G ⟨by omega, by omega⟩
theorem A0p (G : IM) : C3 G S7 [.int .i64 3, .slice none 0 0] := O2 G ⟨by omega, by omega⟩
theorem B4O (cx : Cx) (k : Int) (nm : ByteArray) (num : Int) (ty fr : Ty) (lb : Int) (ks : List Tm) (h : List Ty) (G : IM) (pc : Option Addr) (nc cc : Nat) (cells : List Value) (p : Option Addr) (n c : Nat) (es : List (List Value))
  (hx : U4 G cx pc nc cc) (hops : C4 k = n) (hnl : n = h.length) (hk14 : k ≠ 14) (hta : F4 ty) (hr : A8 G (.mk k nm num ty fr lb ks) cells) (hsl : D6 G p n c 2 es) (hkl : H0 G h es) (har : ∀ t ∈ h, F4 t) :
  Fn Tryz.prog 117 [.slice pc nc cc, .agg ⟨cells⟩, .slice p n c] [] G (M6 (J8 cx k nm ty h) G) := by
 have hone := hr.one
 have hop := A5c hops
 have hkr : 1 ≤ k ∧ k ≤ 14 := by
  apply Classical.byContradiction
  intro hc
  rw [A3O hc] at hops; omega
 obtain ⟨tyk, tyks⟩ := ty
 obtain ⟨fk, fks⟩ := fr
 obtain ⟨pt, ct, pf, cf, pk, ck, ek, rfl, hk, hnum, hlb, hrty, hrfr, _, _⟩ := hr.open9
 refine B7 Tryz.func117 rfl Tryz.ntmps117 Tryz.results117 rfl ?_
 intro w0
 refine A1 ?_
 refine sE (C7 rfl rfl) rfl (fun b3 => ?_)
 refine E8 ?_
 refine sE (B0 rfl) rfl (fun b5 => ?_)
 refine B1 ?_
 refine I3 rfl ((A0M _ _)) rfl rfl ?_
 refine I3 rfl ((A0M _ _)) rfl rfl ?_
 refine sE (B0 rfl) rfl (fun b13 => ?_)
 refine sE (B0 rfl) rfl (fun b14 => ?_)
 refine J4 ?_
 refine C0 (tS (tR (sB (qE rfl rfl) rfl rfl (fun h29 => ?_) (fun h29 => ?_))))
 refine D8 ?_
 (refine E7 rfl (B4L G cx pc nc cc nm hx) rfl rfl (fun v G1 hle1 hh => ?_); obtain ⟨cu, u, rfl, hru, hu⟩ := hh; obtain ⟨p1, c1, e1, rfl, _⟩ := hru.open)
 refine B6 ?_
 refine sE (B0 rfl) rfl (fun b43 => ?_)
 refine B1 ?_
 refine E3 E4 rfl ?_
 refine Q9 (i := 0) (l' := [tt,ff,ff,ff,ff]) rfl D7 (A4 rfl rfl) rfl (by kernel_rfl) rfl rfl ?_
 refine aP 1 rfl (qM rfl) rfl ?_
 refine aP 2 rfl (qA rfl) rfl ?_
 refine A3 3 ?_
 refine I9 rfl ?_
 refine aP 4 rfl (qA rfl) rfl ?_
 refine B1 ?_
 refine D1 (rT rfl) (rC rfl (A4 rfl rfl)) (rT rfl) ?_
 (have hk1 : k = 1 := (by omega); subst hk1; rw [mW1]; refine M6.nil hru ?_; generalize P7 cx nm = r at hu ⊢; cases r with | none => rfl | some t => (rw [hu t rfl]; rfl))
 refine A7 ?_
 refine sB (qE rfl rfl) rfl rfl (fun h69 => ?_) (fun h69 => ?_)
 refine B1 ?_
 refine E3 E4 rfl ?_
 refine Q9 (i := 0) (l' := [tt,ff,ff,ff]) rfl D7 (A4 rfl rfl) rfl (by kernel_rfl) rfl rfl ?_
 refine aP 1 rfl (qA rfl) rfl ?_
 refine A3 2 ?_
 refine I9 rfl ?_
 refine aP 3 rfl (qA rfl) rfl ?_
 refine B1 ?_
 refine D1 (rT rfl) (rC rfl (A4 rfl rfl)) (rT rfl) ?_
 (have hk1 : k = 2 := (by omega); subst hk1; exact M6.nil (M0 _) mW2)
 refine B4 ?_
 refine sB (qE rfl rfl) rfl rfl (fun h95 => ?_) (fun h95 => ?_)
 refine D0 ?_
 refine E3 E4 rfl ?_
 refine Q9 (i := 0) (l' := [tt,ff,ff,ff]) rfl D7 (A4 rfl rfl) rfl (by kernel_rfl) rfl rfl ?_
 refine aP 1 rfl (qA rfl) rfl ?_
 refine A3 2 ?_
 refine I9 rfl ?_
 refine aP 3 rfl (qA rfl) rfl ?_
 refine B1 ?_
 refine D1 (rT rfl) (rC rfl (A4 rfl rfl)) (rT rfl) ?_
 (exact M6.nil (A0p _) (by rw [A5j (by omega)]; rfl))
 refine B1 ?_
 refine sB (qE rfl rfl) rfl rfl (fun h122 => ?_) (fun h122 => ?_)
 refine B1 ?_
 refine E3 E4 rfl ?_
 refine Q9 (i := 0) (l' := [tt,ff,ff,ff]) rfl D7 (A4 rfl rfl) rfl (by kernel_rfl) rfl rfl ?_
 refine aP 1 rfl (qA rfl) rfl ?_
 refine A3 2 ?_
 refine I9 rfl ?_
 refine aP 3 rfl (qA rfl) rfl ?_
 refine B1 ?_
 refine D1 (rT rfl) (rC rfl (A4 rfl rfl)) (rT rfl) ?_
 (exact M6.nil (A0p _) (by rw [A5j (by omega)]; rfl))
 refine A7 ?_
 refine sB (qE rfl rfl) rfl rfl (fun h147 => ?_) (fun h147 => ?_)
 refine B1 ?_
 (have hl1 : n = 1 := hop.2.2 (by omega); obtain ⟨b0, o0, q0, d0, hp0, hat0, hre0, hg0⟩ := hsl.kidD hkl (i := 0) (by omega) (by omega); cases hp0; refine E3 E4 rfl ?_)
 refine J5 (i := 0) (l' := [tt,ff,ff,ff,ff,ff,ff,ff,ff]) rfl D7 (B9 rfl) rfl (by kernel_rfl) rfl rfl ?_
 refine aL 1 rfl (A4 rfl rfl) rfl ?_
 refine aP 2 rfl (qM rfl) rfl ?_
 refine aP 3 rfl (B8 (j := 0) rfl rfl rfl (by omega)) rfl ?_
 refine aL 4 rfl (A2 rfl rfl (hat0 _) rfl) rfl ?_
 refine A3 5 ?_
 (refine K4 rfl rfl (A2j 4 _ _ _ _ _ ⟨by omega, by omega⟩ hrty hre0) rfl rfl rfl (fun v GB hleB hh => ?_); obtain ⟨cB, rfl, hrB⟩ := hh; obtain ⟨p7, c7, e7, rfl, _⟩ := hrB.open)
 refine aP 6 rfl (qA rfl) rfl ?_
 refine A3 7 ?_
 refine I9 rfl ?_
 refine aP 8 rfl (qA rfl) rfl ?_
 refine B1 ?_
 refine D1 (rT rfl) (rC rfl (A4 rfl rfl)) (rT rfl) ?_
 (have hk1 : k = 5 := (by omega); subst hk1; exact M6.nil hrB mW5)
 refine A7 ?_
 refine sB (qE rfl rfl) rfl rfl (fun h178 => ?_) (fun h178 => ?_)
 refine B4 ?_
 (have hl2 : n = 2 := hop.1 (by omega); obtain ⟨b0, o0, q0, d0, hp0, hat0, hre0, hg0⟩ := hsl.kidD hkl (i := 0) (by omega) (by omega); cases hp0; refine sP (B8 (j := 0) rfl rfl rfl (by omega)) rfl rfl ?_)
 refine sL (A2 rfl rfl (hat0 _) rfl) rfl rfl ?_
 (refine E7 rfl (A9R 4 (h.getD 0 A6) G _ (.inl rfl) (A3f har (by omega)) hre0) rfl rfl (fun v G1 hle1 hh => ?_); obtain ⟨ma, mca, mb, mcb, rfl, hma, hmb, hma2, hmb2, hmm⟩ := hh; obtain ⟨p1, c1, e1, rfl, _⟩ := hma.open; obtain ⟨p2, c2, e2, rfl, _⟩ := hmb.open; replace hsl := hsl.mono hle1; replace hkl := hkl.mono hle1; generalize hmi : (S1 4 (h.getD 0 A6)).isSome = mi; cases mi)
 refine B3 ?_
 refine sE (B0 rfl) rfl (fun b193 => ?_)
 refine sE (B0 rfl) rfl (fun b194 => ?_)
 refine A7 ?_
 (have hl2 : n = 2 := hop.1 (by omega); obtain ⟨b0, o0, q0, d0, hp0, hat0, hre0, hg0⟩ := hsl.kidD hkl (i := 0) (by omega) (by omega); obtain ⟨b1, o1, q1, d1, hp1, hat1, hre1, hg1⟩ := hsl.kidD hkl (i := 1) (by omega) (by omega); cases hp0; cases hp1; refine E3 E4 rfl ?_)
 refine Q9 (i := 0) (l' := [tt,ff,ff,ff,ff,ff,ff,ff,ff,ff,ff,ff,ff,ff,ff,ff,ff]) rfl D7 (A4 rfl rfl) rfl (by kernel_rfl) rfl rfl ?_
 refine aL 1 rfl (A4 rfl rfl) rfl ?_
 refine aL 3 rfl (A4 rfl rfl) rfl ?_
 refine aL 5 rfl (A4 rfl rfl) rfl ?_
 refine aP 6 rfl (qM rfl) rfl ?_
 refine A3 2 ?_
 (refine K4 rfl rfl (A2j _ ma mb _ _ _ ⟨by omega, by omega⟩ hma hmb) rfl rfl rfl (fun v GB hleB hh => ?_); obtain ⟨cB, rfl, hrB⟩ := hh; obtain ⟨p7, c7, e7, rfl, _⟩ := hrB.open; have hma' := hma.mono hleB; have hmb' := hmb.mono hleB)
 refine aP 7 rfl (qM rfl) rfl ?_
 refine C1 8 rfl rfl rfl ?_
 refine C1 9 rfl rfl rfl ?_
 refine C1 10 rfl rfl rfl ?_
 refine C1 11 rfl rfl rfl ?_
 refine U6 (j := 4) (j' := 12) (by kernel_rfl) ?_ ?_
 (refine E6 rfl (D4 rfl rfl rfl (by omega) (by unfold maxLen; omega) rfl) rfl rfl ?_; rintro _ ⟨b215, rfl⟩)
 refine C1 12 rfl rfl rfl ?_
 refine aP 13 rfl (R0 rfl rfl) rfl ?_
 refine aP 14 rfl (qA rfl) rfl ?_
 refine A3 15 ?_
 refine I9 rfl ?_
 refine aP 16 rfl (qA rfl) rfl ?_
 refine A1 ?_
 (refine I5 Pk.here (fun G5 hle5 hsl5 hno5 => ?_))
 refine B6 ?_
 refine D1 (rT rfl) (rC rfl (A4 rfl rfl)) (rT rfl) ?_
 (have hk1 : k = 6 := (by omega); subst hk1; refine M6.two hsl5 (hrB.mono hle5) (hma'.mono hle5) (hmb'.mono hle5) ?_; rw [mW6]; cases hq : S1 4 (h.getD 0 A6) with | none => rfl | some q => (rw [hq] at hmi; cases hmi))
 refine A6c (l' := [tt,tt,tt,tt,ff,tt,tt,tt,tt,tt,tt,tt,tt,ff,ff,ff,ff]) rfl rfl rfl rfl ?_
 refine aP 13 rfl (R0 rfl rfl) rfl ?_
 refine A3 4 ?_
 (refine E6 rfl (D4 rfl rfl rfl (by omega) (by unfold maxLen; omega) rfl) rfl rfl ?_; rintro _ ⟨b233, rfl⟩)
 refine aP 14 rfl (qA rfl) rfl ?_
 refine A3 15 ?_
 refine I9 rfl ?_
 refine aP 16 rfl (qA rfl) rfl ?_
 refine A1 ?_
 (refine I5 Pk.here (fun G5 hle5 hsl5 hno5 => ?_))
 refine B6 ?_
 refine D1 (rT rfl) (rC rfl (A4 rfl rfl)) (rT rfl) ?_
 (have hk1 : k = 6 := (by omega); subst hk1; refine M6.two hsl5 (hrB.mono hle5) (hma'.mono hle5) (hmb'.mono hle5) ?_; rw [mW6]; cases hq : S1 4 (h.getD 0 A6) with | none => rfl | some q => (rw [hq] at hmi; cases hmi))
 refine B3 ?_
 refine sE (B0 rfl) rfl (fun b250 => ?_)
 refine sE (B0 rfl) rfl (fun b251 => ?_)
 refine A7 ?_
 (have hl2 : n = 2 := hop.1 (by omega); obtain ⟨b0, o0, q0, d0, hp0, hat0, hre0, hg0⟩ := hsl.kidD hkl (i := 0) (by omega) (by omega); obtain ⟨b1, o1, q1, d1, hp1, hat1, hre1, hg1⟩ := hsl.kidD hkl (i := 1) (by omega) (by omega); cases hp0; cases hp1; refine E3 E4 rfl ?_)
 refine Q9 (i := 0) (l' := [tt,ff,ff,ff,ff,ff,ff,ff,ff,ff,ff,ff,ff,ff,ff,ff,ff]) rfl D7 (A4 rfl rfl) rfl (by kernel_rfl) rfl rfl ?_
 refine aL 1 rfl (A4 rfl rfl) rfl ?_
 refine aL 3 rfl (A4 rfl rfl) rfl ?_
 refine aL 5 rfl (A4 rfl rfl) rfl ?_
 refine aP 6 rfl (qM rfl) rfl ?_
 refine A3 2 ?_
 (refine K4 rfl rfl (A2j _ ma mb _ _ _ ⟨by omega, by omega⟩ hma hmb) rfl rfl rfl (fun v GB hleB hh => ?_); obtain ⟨cB, rfl, hrB⟩ := hh; obtain ⟨p7, c7, e7, rfl, _⟩ := hrB.open; have hma' := hma.mono hleB; have hmb' := hmb.mono hleB)
 refine aP 7 rfl (qM rfl) rfl ?_
 refine aP 8 rfl (qM rfl) rfl ?_
 refine aP 9 rfl (B8 (j := 1) rfl rfl rfl (by omega)) rfl ?_
 refine aL 10 rfl (A2 rfl rfl (At.mono' hleB (hat1 _)) rfl) rfl ?_
 refine aL 11 rfl (A4 rfl rfl) rfl ?_
 refine U6 (j := 4) (j' := 12) (by kernel_rfl) ?_ ?_
 (refine E6 rfl (D4 rfl rfl rfl (by omega) (by unfold maxLen; omega) rfl) rfl rfl ?_; rintro _ ⟨b272, rfl⟩)
 refine A3 12 ?_
 refine U7 rfl rfl ((A0c _ _ _ _ _ (hre1.mono hleB) hma')) rfl rfl rfl (fun h274 => ?_) (fun h274 => ?_)
 refine aP 13 rfl (O4 rfl rfl) rfl ?_
 refine aP 14 rfl (qA rfl) rfl ?_
 refine A3 15 ?_
 refine I9 rfl ?_
 refine aP 16 rfl (qA rfl) rfl ?_
 refine A1 ?_
 (refine I5 Pk.here (fun G5 hle5 hsl5 hno5 => ?_))
 refine B6 ?_
 refine D1 (rT rfl) (rC rfl (A4 rfl rfl)) (rT rfl) ?_
 (have hk1 : k = 6 := (by omega); subst hk1; refine M6.two hsl5 (hrB.mono hle5) (hma'.mono hle5) (hmb'.mono hle5) ?_; rw [mW6]; cases hq : S1 4 (h.getD 0 A6) with | none => (rw [hq] at hmi; cases hmi) | some q => (have hq2 := hmm q hq; subst hq2; dsimp only; split <;> first | rfl | (exfalso; simp_all; done)))
 refine aP 13 rfl (O4 rfl rfl) rfl ?_
 refine aP 14 rfl (qA rfl) rfl ?_
 refine A3 15 ?_
 refine I9 rfl ?_
 refine aP 16 rfl (qA rfl) rfl ?_
 refine A1 ?_
 (refine I5 Pk.here (fun G5 hle5 hsl5 hno5 => ?_))
 refine B6 ?_
 refine D1 (rT rfl) (rC rfl (A4 rfl rfl)) (rT rfl) ?_
 (have hk1 : k = 6 := (by omega); subst hk1; refine M6.two hsl5 (hrB.mono hle5) (hma'.mono hle5) (hmb'.mono hle5) ?_; rw [mW6]; cases hq : S1 4 (h.getD 0 A6) with | none => (rw [hq] at hmi; cases hmi) | some q => (have hq2 := hmm q hq; subst hq2; dsimp only; split <;> first | rfl | (exfalso; simp_all; done)))
 refine U7 rfl rfl ((A0c _ _ _ _ _ (hre1.mono hleB) hma')) rfl rfl rfl (fun h301 => ?_) (fun h301 => ?_)
 refine aP 13 rfl (O4 rfl rfl) rfl ?_
 refine A3 4 ?_
 (refine E6 rfl (D4 rfl rfl rfl (by omega) (by unfold maxLen; omega) rfl) rfl rfl ?_; rintro _ ⟨b304, rfl⟩)
 refine aP 14 rfl (qA rfl) rfl ?_
 refine A3 15 ?_
 refine I9 rfl ?_
 refine aP 16 rfl (qA rfl) rfl ?_
 refine A1 ?_
 (refine I5 Pk.here (fun G5 hle5 hsl5 hno5 => ?_))
 refine B6 ?_
 refine D1 (rT rfl) (rC rfl (A4 rfl rfl)) (rT rfl) ?_
 (have hk1 : k = 6 := (by omega); subst hk1; refine M6.two hsl5 (hrB.mono hle5) (hma'.mono hle5) (hmb'.mono hle5) ?_; rw [mW6]; cases hq : S1 4 (h.getD 0 A6) with | none => (rw [hq] at hmi; cases hmi) | some q => (have hq2 := hmm q hq; subst hq2; dsimp only; split <;> first | rfl | (exfalso; simp_all; done)))
 refine aP 13 rfl (O4 rfl rfl) rfl ?_
 refine A3 4 ?_
 (refine E6 rfl (D4 rfl rfl rfl (by omega) (by unfold maxLen; omega) rfl) rfl rfl ?_; rintro _ ⟨b319, rfl⟩)
 refine aP 14 rfl (qA rfl) rfl ?_
 refine A3 15 ?_
 refine I9 rfl ?_
 refine aP 16 rfl (qA rfl) rfl ?_
 refine A1 ?_
 (refine I5 Pk.here (fun G5 hle5 hsl5 hno5 => ?_))
 refine B6 ?_
 refine D1 (rT rfl) (rC rfl (A4 rfl rfl)) (rT rfl) ?_
 (have hk1 : k = 6 := (by omega); subst hk1; refine M6.two hsl5 (hrB.mono hle5) (hma'.mono hle5) (hmb'.mono hle5) ?_; rw [mW6]; cases hq : S1 4 (h.getD 0 A6) with | none => (rw [hq] at hmi; cases hmi) | some q => (have hq2 := hmm q hq; subst hq2; dsimp only; split <;> first | rfl | (exfalso; simp_all; done)))
 refine B4 ?_
 refine sB (qE rfl rfl) rfl rfl (fun h339 => ?_) (fun h339 => ?_)
 refine J2 ?_
 refine sE (B0 rfl) rfl (fun b350 => ?_)
 refine D0 ?_
 refine sP (H7 rfl rfl (by omega)) rfl rfl ?_
 refine A7 ?_
 (have hl2 : n = 2 := hop.1 (by omega); obtain ⟨b0, o0, q0, d0, hp0, hat0, hre0, hg0⟩ := hsl.kidD hkl (i := 0) (by omega) (by omega); obtain ⟨b1, o1, q1, d1, hp1, hat1, hre1, hg1⟩ := hsl.kidD hkl (i := 1) (by omega) (by omega); cases hp0; cases hp1; refine E3 E4 rfl ?_)
 refine Q9 (i := 0) (l' := [tt,ff,ff,ff,ff,ff,ff,ff,ff,ff,ff,ff,ff,ff,ff,ff,ff,ff,ff]) rfl D7 (A4 rfl rfl) rfl (by kernel_rfl) rfl rfl ?_
 refine aL 1 rfl (A4 rfl rfl) rfl ?_
 refine aL 3 rfl (A4 rfl rfl) rfl ?_
 refine aP 4 rfl (qM rfl) rfl ?_
 refine aP 5 rfl (B8 (j := 0) rfl rfl rfl (by omega)) rfl ?_
 refine aL 6 rfl (A2 rfl rfl (hat0 _) rfl) rfl ?_
 refine aL 7 rfl (A4 rfl rfl) rfl ?_
 refine U6 (j := 2) (j' := 8) (by kernel_rfl) ?_ ?_
 (refine E6 rfl (D4 rfl rfl rfl (by omega) (by unfold maxLen; omega) rfl) rfl rfl ?_; rintro _ ⟨b375, rfl⟩)
 refine A3 8 ?_
 refine U7 rfl rfl ((A0c _ _ _ _ _ hre0 (M0 _))) rfl rfl rfl (fun h377 => ?_) (fun h377 => ?_)
 refine aP 9 rfl (qM rfl) rfl ?_
 refine aP 10 rfl (qM rfl) rfl ?_
 refine aP 11 rfl (B8 (j := 1) rfl rfl rfl (by omega)) rfl ?_
 refine aL 12 rfl (A2 rfl rfl (hat1 _) rfl) rfl ?_
 refine aL 13 rfl (A4 rfl rfl) rfl ?_
 refine A3 14 ?_
 refine U7 rfl rfl ((A0c _ _ _ _ _ hre1 (M0 _))) rfl rfl rfl (fun h384 => ?_) (fun h384 => ?_)
 refine aP 15 rfl (O4 rfl rfl) rfl ?_
 refine aP 16 rfl (qA rfl) rfl ?_
 refine A3 17 ?_
 refine I9 rfl ?_
 refine aP 18 rfl (qA rfl) rfl ?_
 refine A1 ?_
 (refine I5 Pk.here (fun G5 hle5 hsl5 hno5 => ?_))
 refine B6 ?_
 refine D1 (rT rfl) (rC rfl (A4 rfl rfl)) (rT rfl) ?_
 (refine M6.two hsl5 (M0 _) (M0 _) (M0 _) ?_; rw [X1 (by omega)]; first | (rw [if_pos ⟨by assumption, by assumption⟩, if_neg (by omega)]; rfl) | (rw [if_neg (fun hc => by first | exact Bool.noConfusion (hc.1.symm.trans (by assumption)) | exact Bool.noConfusion (hc.2.symm.trans (by assumption)) | exact Bool.noConfusion (hc.symm.trans (by assumption)))]; rfl))
 refine aP 15 rfl (O4 rfl rfl) rfl ?_
 refine aP 16 rfl (qA rfl) rfl ?_
 refine A3 17 ?_
 refine I9 rfl ?_
 refine aP 18 rfl (qA rfl) rfl ?_
 refine A1 ?_
 (refine I5 Pk.here (fun G5 hle5 hsl5 hno5 => ?_))
 refine B6 ?_
 refine D1 (rT rfl) (rC rfl (A4 rfl rfl)) (rT rfl) ?_
 (refine M6.two hsl5 (M0 _) (M0 _) (M0 _) ?_; rw [X1 (by omega)]; first | (rw [if_pos ⟨by assumption, by assumption⟩, if_neg (by omega)]; rfl) | (rw [if_neg (fun hc => by first | exact Bool.noConfusion (hc.1.symm.trans (by assumption)) | exact Bool.noConfusion (hc.2.symm.trans (by assumption)) | exact Bool.noConfusion (hc.symm.trans (by assumption)))]; rfl))
 refine aP 9 rfl (qM rfl) rfl ?_
 refine C1 10 rfl rfl rfl ?_
 refine C1 11 rfl rfl rfl ?_
 refine C1 12 rfl rfl rfl ?_
 refine C1 13 rfl rfl rfl ?_
 refine C1 14 rfl rfl rfl ?_
 refine aP 15 rfl (R0 rfl rfl) rfl ?_
 refine aP 16 rfl (qA rfl) rfl ?_
 refine A3 17 ?_
 refine I9 rfl ?_
 refine aP 18 rfl (qA rfl) rfl ?_
 refine A1 ?_
 (refine I5 Pk.here (fun G5 hle5 hsl5 hno5 => ?_))
 refine B6 ?_
 refine D1 (rT rfl) (rC rfl (A4 rfl rfl)) (rT rfl) ?_
 (refine M6.two hsl5 (M0 _) (M0 _) (M0 _) ?_; rw [X1 (by omega)]; first | (rw [if_pos ⟨by assumption, by assumption⟩, if_neg (by omega)]; rfl) | (rw [if_neg (fun hc => by first | exact Bool.noConfusion (hc.1.symm.trans (by assumption)) | exact Bool.noConfusion (hc.2.symm.trans (by assumption)) | exact Bool.noConfusion (hc.symm.trans (by assumption)))]; rfl))
 refine U7 rfl rfl ((A0c _ _ _ _ _ hre0 (M0 _))) rfl rfl rfl (fun h430 => ?_) (fun h430 => ?_)
 refine aP 9 rfl (qM rfl) rfl ?_
 refine aP 10 rfl (qM rfl) rfl ?_
 refine aP 11 rfl (B8 (j := 1) rfl rfl rfl (by omega)) rfl ?_
 refine aL 12 rfl (A2 rfl rfl (hat1 _) rfl) rfl ?_
 refine aL 13 rfl (A4 rfl rfl) rfl ?_
 refine U6 (j := 2) (j' := 14) (by kernel_rfl) ?_ ?_
 (refine E6 rfl (D4 rfl rfl rfl (by omega) (by unfold maxLen; omega) rfl) rfl rfl ?_; rintro _ ⟨b437, rfl⟩)
 refine A3 14 ?_
 refine U7 rfl rfl ((A0c _ _ _ _ _ hre1 (M0 _))) rfl rfl rfl (fun h439 => ?_) (fun h439 => ?_)
 refine aP 15 rfl (O4 rfl rfl) rfl ?_
 refine aP 16 rfl (qA rfl) rfl ?_
 refine A3 17 ?_
 refine I9 rfl ?_
 refine aP 18 rfl (qA rfl) rfl ?_
 refine A1 ?_
 (refine I5 Pk.here (fun G5 hle5 hsl5 hno5 => ?_))
 refine B6 ?_
 refine D1 (rT rfl) (rC rfl (A4 rfl rfl)) (rT rfl) ?_
 (refine M6.two hsl5 (M0 _) (M0 _) (M0 _) ?_; rw [X1 (by omega)]; first | (rw [if_pos ⟨by assumption, by assumption⟩, if_neg (by omega)]; rfl) | (rw [if_neg (fun hc => by first | exact Bool.noConfusion (hc.1.symm.trans (by assumption)) | exact Bool.noConfusion (hc.2.symm.trans (by assumption)) | exact Bool.noConfusion (hc.symm.trans (by assumption)))]; rfl))
 refine aP 15 rfl (O4 rfl rfl) rfl ?_
 refine aP 16 rfl (qA rfl) rfl ?_
 refine A3 17 ?_
 refine I9 rfl ?_
 refine aP 18 rfl (qA rfl) rfl ?_
 refine A1 ?_
 (refine I5 Pk.here (fun G5 hle5 hsl5 hno5 => ?_))
 refine B6 ?_
 refine D1 (rT rfl) (rC rfl (A4 rfl rfl)) (rT rfl) ?_
 (refine M6.two hsl5 (M0 _) (M0 _) (M0 _) ?_; rw [X1 (by omega)]; first | (rw [if_pos ⟨by assumption, by assumption⟩, if_neg (by omega)]; rfl) | (rw [if_neg (fun hc => by first | exact Bool.noConfusion (hc.1.symm.trans (by assumption)) | exact Bool.noConfusion (hc.2.symm.trans (by assumption)) | exact Bool.noConfusion (hc.symm.trans (by assumption)))]; rfl))
 refine U7 rfl rfl ((A0c _ _ _ _ _ hre1 (M0 _))) rfl rfl rfl (fun h466 => ?_) (fun h466 => ?_)
 refine aP 15 rfl (O4 rfl rfl) rfl ?_
 refine A3 2 ?_
 (refine E6 rfl (D4 rfl rfl rfl (by omega) (by unfold maxLen; omega) rfl) rfl rfl ?_; rintro _ ⟨b469, rfl⟩)
 refine aP 16 rfl (qA rfl) rfl ?_
 refine A3 17 ?_
 refine I9 rfl ?_
 refine aP 18 rfl (qA rfl) rfl ?_
 refine A1 ?_
 (refine I5 Pk.here (fun G5 hle5 hsl5 hno5 => ?_))
 refine B6 ?_
 refine D1 (rT rfl) (rC rfl (A4 rfl rfl)) (rT rfl) ?_
 (refine M6.two hsl5 (M0 _) (M0 _) (M0 _) ?_; rw [X1 (by omega)]; first | (rw [if_pos ⟨by assumption, by assumption⟩, if_neg (by omega)]; rfl) | (rw [if_neg (fun hc => by first | exact Bool.noConfusion (hc.1.symm.trans (by assumption)) | exact Bool.noConfusion (hc.2.symm.trans (by assumption)) | exact Bool.noConfusion (hc.symm.trans (by assumption)))]; rfl))
 refine aP 15 rfl (O4 rfl rfl) rfl ?_
 refine A3 2 ?_
 (refine E6 rfl (D4 rfl rfl rfl (by omega) (by unfold maxLen; omega) rfl) rfl rfl ?_; rintro _ ⟨b484, rfl⟩)
 refine aP 16 rfl (qA rfl) rfl ?_
 refine A3 17 ?_
 refine I9 rfl ?_
 refine aP 18 rfl (qA rfl) rfl ?_
 refine A1 ?_
 (refine I5 Pk.here (fun G5 hle5 hsl5 hno5 => ?_))
 refine B6 ?_
 refine D1 (rT rfl) (rC rfl (A4 rfl rfl)) (rT rfl) ?_
 (refine M6.two hsl5 (M0 _) (M0 _) (M0 _) ?_; rw [X1 (by omega)]; first | (rw [if_pos ⟨by assumption, by assumption⟩, if_neg (by omega)]; rfl) | (rw [if_neg (fun hc => by first | exact Bool.noConfusion (hc.1.symm.trans (by assumption)) | exact Bool.noConfusion (hc.2.symm.trans (by assumption)) | exact Bool.noConfusion (hc.symm.trans (by assumption)))]; rfl))
 refine aP 9 rfl (qM rfl) rfl ?_
 refine C1 10 rfl rfl rfl ?_
 refine C1 11 rfl rfl rfl ?_
 refine C1 12 rfl rfl rfl ?_
 refine C1 13 rfl rfl rfl ?_
 refine U6 (j := 2) (j' := 14) (by kernel_rfl) ?_ ?_
 (refine E6 rfl (D4 rfl rfl rfl (by omega) (by unfold maxLen; omega) rfl) rfl rfl ?_; rintro _ ⟨b503, rfl⟩)
 refine C1 14 rfl rfl rfl ?_
 refine aP 15 rfl (R0 rfl rfl) rfl ?_
 refine aP 16 rfl (qA rfl) rfl ?_
 refine A3 17 ?_
 refine I9 rfl ?_
 refine aP 18 rfl (qA rfl) rfl ?_
 refine A1 ?_
 (refine I5 Pk.here (fun G5 hle5 hsl5 hno5 => ?_))
 refine B6 ?_
 refine D1 (rT rfl) (rC rfl (A4 rfl rfl)) (rT rfl) ?_
 (refine M6.two hsl5 (M0 _) (M0 _) (M0 _) ?_; rw [X1 (by omega)]; first | (rw [if_pos ⟨by assumption, by assumption⟩, if_neg (by omega)]; rfl) | (rw [if_neg (fun hc => by first | exact Bool.noConfusion (hc.1.symm.trans (by assumption)) | exact Bool.noConfusion (hc.2.symm.trans (by assumption)) | exact Bool.noConfusion (hc.symm.trans (by assumption)))]; rfl))
 refine A6c (l' := [tt,tt,ff,tt,tt,tt,tt,tt,tt,tt,tt,tt,tt,tt,tt,ff,ff,ff,ff]) rfl rfl rfl rfl ?_
 refine aP 15 rfl (R0 rfl rfl) rfl ?_
 refine A3 2 ?_
 (refine E6 rfl (D4 rfl rfl rfl (by omega) (by unfold maxLen; omega) rfl) rfl rfl ?_; rintro _ ⟨b521, rfl⟩)
 refine aP 16 rfl (qA rfl) rfl ?_
 refine A3 17 ?_
 refine I9 rfl ?_
 refine aP 18 rfl (qA rfl) rfl ?_
 refine A1 ?_
 (refine I5 Pk.here (fun G5 hle5 hsl5 hno5 => ?_))
 refine B6 ?_
 refine D1 (rT rfl) (rC rfl (A4 rfl rfl)) (rT rfl) ?_
 (refine M6.two hsl5 (M0 _) (M0 _) (M0 _) ?_; rw [X1 (by omega)]; first | (rw [if_pos ⟨by assumption, by assumption⟩, if_neg (by omega)]; rfl) | (rw [if_neg (fun hc => by first | exact Bool.noConfusion (hc.1.symm.trans (by assumption)) | exact Bool.noConfusion (hc.2.symm.trans (by assumption)) | exact Bool.noConfusion (hc.symm.trans (by assumption)))]; rfl))
 refine B1 ?_
 refine sB (qE rfl rfl) rfl rfl (fun h539 => ?_) (fun h539 => ?_)
 refine B4 ?_
 refine sE (B0 rfl) rfl (fun b547 => ?_)
 refine D0 ?_
 refine sP (S8 rfl rfl (by omega)) rfl rfl ?_
 refine D8 ?_
 (have hl2 : n = 2 := hop.1 (by omega); obtain ⟨b0, o0, q0, d0, hp0, hat0, hre0, hg0⟩ := hsl.kidD hkl (i := 0) (by omega) (by omega); obtain ⟨b1, o1, q1, d1, hp1, hat1, hre1, hg1⟩ := hsl.kidD hkl (i := 1) (by omega) (by omega); cases hp0; cases hp1; refine E3 E4 rfl ?_)
 refine Q9 (i := 0) (l' := [tt,ff,ff,ff,ff,ff,ff,ff,ff,ff,ff,ff,ff,ff,ff,ff,ff,ff,ff]) rfl D7 (A4 rfl rfl) rfl (by kernel_rfl) rfl rfl ?_
 refine aL 1 rfl (A4 rfl rfl) rfl ?_
 refine aL 3 rfl (A4 rfl rfl) rfl ?_
 refine aP 4 rfl (qM rfl) rfl ?_
 refine aP 5 rfl (B8 (j := 0) rfl rfl rfl (by omega)) rfl ?_
 refine aL 6 rfl (A2 rfl rfl (hat0 _) rfl) rfl ?_
 refine aL 7 rfl (A4 rfl rfl) rfl ?_
 refine U6 (j := 2) (j' := 8) (by kernel_rfl) ?_ ?_
 (refine E6 rfl (D4 rfl rfl rfl (by omega) (by unfold maxLen; omega) rfl) rfl rfl ?_; rintro _ ⟨b575, rfl⟩)
 refine A3 8 ?_
 refine U7 rfl rfl ((A0c _ _ _ _ _ hre0 (M0 _))) rfl rfl rfl (fun h577 => ?_) (fun h577 => ?_)
 refine aP 9 rfl (qM rfl) rfl ?_
 refine aP 10 rfl (qM rfl) rfl ?_
 refine aP 11 rfl (B8 (j := 1) rfl rfl rfl (by omega)) rfl ?_
 refine aL 12 rfl (A2 rfl rfl (hat1 _) rfl) rfl ?_
 refine aL 13 rfl (A4 rfl rfl) rfl ?_
 refine A3 14 ?_
 refine U7 rfl rfl ((A0c _ _ _ _ _ hre1 (M0 _))) rfl rfl rfl (fun h584 => ?_) (fun h584 => ?_)
 refine aP 15 rfl (O4 rfl rfl) rfl ?_
 refine aP 16 rfl (qA rfl) rfl ?_
 refine A3 17 ?_
 refine I9 rfl ?_
 refine aP 18 rfl (qA rfl) rfl ?_
 refine A1 ?_
 (refine I5 Pk.here (fun G5 hle5 hsl5 hno5 => ?_))
 refine B6 ?_
 refine D1 (rT rfl) (rC rfl (A4 rfl rfl)) (rT rfl) ?_
 (refine M6.two hsl5 (M0 _) (M0 _) (A0p _) ?_; rw [X1 (by omega)]; first | (rw [if_pos ⟨by assumption, by assumption⟩, if_pos (by omega)]; rfl) | (rw [if_neg (fun hc => by first | exact Bool.noConfusion (hc.1.symm.trans (by assumption)) | exact Bool.noConfusion (hc.2.symm.trans (by assumption)) | exact Bool.noConfusion (hc.symm.trans (by assumption)))]; rfl))
 refine aP 15 rfl (O4 rfl rfl) rfl ?_
 refine aP 16 rfl (qA rfl) rfl ?_
 refine A3 17 ?_
 refine I9 rfl ?_
 refine aP 18 rfl (qA rfl) rfl ?_
 refine A1 ?_
 (refine I5 Pk.here (fun G5 hle5 hsl5 hno5 => ?_))
 refine B6 ?_
 refine D1 (rT rfl) (rC rfl (A4 rfl rfl)) (rT rfl) ?_
 (refine M6.two hsl5 (M0 _) (M0 _) (A0p _) ?_; rw [X1 (by omega)]; first | (rw [if_pos ⟨by assumption, by assumption⟩, if_pos (by omega)]; rfl) | (rw [if_neg (fun hc => by first | exact Bool.noConfusion (hc.1.symm.trans (by assumption)) | exact Bool.noConfusion (hc.2.symm.trans (by assumption)) | exact Bool.noConfusion (hc.symm.trans (by assumption)))]; rfl))
 refine aP 9 rfl (qM rfl) rfl ?_
 refine C1 10 rfl rfl rfl ?_
 refine C1 11 rfl rfl rfl ?_
 refine C1 12 rfl rfl rfl ?_
 refine C1 13 rfl rfl rfl ?_
 refine C1 14 rfl rfl rfl ?_
 refine aP 15 rfl (R0 rfl rfl) rfl ?_
 refine aP 16 rfl (qA rfl) rfl ?_
 refine A3 17 ?_
 refine I9 rfl ?_
 refine aP 18 rfl (qA rfl) rfl ?_
 refine A1 ?_
 (refine I5 Pk.here (fun G5 hle5 hsl5 hno5 => ?_))
 refine B6 ?_
 refine D1 (rT rfl) (rC rfl (A4 rfl rfl)) (rT rfl) ?_
 (refine M6.two hsl5 (M0 _) (M0 _) (A0p _) ?_; rw [X1 (by omega)]; first | (rw [if_pos ⟨by assumption, by assumption⟩, if_pos (by omega)]; rfl) | (rw [if_neg (fun hc => by first | exact Bool.noConfusion (hc.1.symm.trans (by assumption)) | exact Bool.noConfusion (hc.2.symm.trans (by assumption)) | exact Bool.noConfusion (hc.symm.trans (by assumption)))]; rfl))
 refine U7 rfl rfl ((A0c _ _ _ _ _ hre0 (M0 _))) rfl rfl rfl (fun h630 => ?_) (fun h630 => ?_)
 refine aP 9 rfl (qM rfl) rfl ?_
 refine aP 10 rfl (qM rfl) rfl ?_
 refine aP 11 rfl (B8 (j := 1) rfl rfl rfl (by omega)) rfl ?_
 refine aL 12 rfl (A2 rfl rfl (hat1 _) rfl) rfl ?_
 refine aL 13 rfl (A4 rfl rfl) rfl ?_
 refine U6 (j := 2) (j' := 14) (by kernel_rfl) ?_ ?_
 (refine E6 rfl (D4 rfl rfl rfl (by omega) (by unfold maxLen; omega) rfl) rfl rfl ?_; rintro _ ⟨b637, rfl⟩)
 refine A3 14 ?_
 refine U7 rfl rfl ((A0c _ _ _ _ _ hre1 (M0 _))) rfl rfl rfl (fun h639 => ?_) (fun h639 => ?_)
 refine aP 15 rfl (O4 rfl rfl) rfl ?_
 refine aP 16 rfl (qA rfl) rfl ?_
 refine A3 17 ?_
 refine I9 rfl ?_
 refine aP 18 rfl (qA rfl) rfl ?_
 refine A1 ?_
 (refine I5 Pk.here (fun G5 hle5 hsl5 hno5 => ?_))
 refine B6 ?_
 refine D1 (rT rfl) (rC rfl (A4 rfl rfl)) (rT rfl) ?_
 (refine M6.two hsl5 (M0 _) (M0 _) (A0p _) ?_; rw [X1 (by omega)]; first | (rw [if_pos ⟨by assumption, by assumption⟩, if_pos (by omega)]; rfl) | (rw [if_neg (fun hc => by first | exact Bool.noConfusion (hc.1.symm.trans (by assumption)) | exact Bool.noConfusion (hc.2.symm.trans (by assumption)) | exact Bool.noConfusion (hc.symm.trans (by assumption)))]; rfl))
 refine aP 15 rfl (O4 rfl rfl) rfl ?_
 refine aP 16 rfl (qA rfl) rfl ?_
 refine A3 17 ?_
 refine I9 rfl ?_
 refine aP 18 rfl (qA rfl) rfl ?_
 refine A1 ?_
 (refine I5 Pk.here (fun G5 hle5 hsl5 hno5 => ?_))
 refine B6 ?_
 refine D1 (rT rfl) (rC rfl (A4 rfl rfl)) (rT rfl) ?_
 (refine M6.two hsl5 (M0 _) (M0 _) (A0p _) ?_; rw [X1 (by omega)]; first | (rw [if_pos ⟨by assumption, by assumption⟩, if_pos (by omega)]; rfl) | (rw [if_neg (fun hc => by first | exact Bool.noConfusion (hc.1.symm.trans (by assumption)) | exact Bool.noConfusion (hc.2.symm.trans (by assumption)) | exact Bool.noConfusion (hc.symm.trans (by assumption)))]; rfl))
 refine U7 rfl rfl ((A0c _ _ _ _ _ hre1 (M0 _))) rfl rfl rfl (fun h666 => ?_) (fun h666 => ?_)
 refine aP 15 rfl (O4 rfl rfl) rfl ?_
 refine A3 2 ?_
 (refine E6 rfl (D4 rfl rfl rfl (by omega) (by unfold maxLen; omega) rfl) rfl rfl ?_; rintro _ ⟨b669, rfl⟩)
 refine aP 16 rfl (qA rfl) rfl ?_
 refine A3 17 ?_
 refine I9 rfl ?_
 refine aP 18 rfl (qA rfl) rfl ?_
 refine A1 ?_
 (refine I5 Pk.here (fun G5 hle5 hsl5 hno5 => ?_))
 refine B6 ?_
 refine D1 (rT rfl) (rC rfl (A4 rfl rfl)) (rT rfl) ?_
 (refine M6.two hsl5 (M0 _) (M0 _) (A0p _) ?_; rw [X1 (by omega)]; first | (rw [if_pos ⟨by assumption, by assumption⟩, if_pos (by omega)]; rfl) | (rw [if_neg (fun hc => by first | exact Bool.noConfusion (hc.1.symm.trans (by assumption)) | exact Bool.noConfusion (hc.2.symm.trans (by assumption)) | exact Bool.noConfusion (hc.symm.trans (by assumption)))]; rfl))
 refine aP 15 rfl (O4 rfl rfl) rfl ?_
 refine A3 2 ?_
 (refine E6 rfl (D4 rfl rfl rfl (by omega) (by unfold maxLen; omega) rfl) rfl rfl ?_; rintro _ ⟨b684, rfl⟩)
 refine aP 16 rfl (qA rfl) rfl ?_
 refine A3 17 ?_
 refine I9 rfl ?_
 refine aP 18 rfl (qA rfl) rfl ?_
 refine A1 ?_
 (refine I5 Pk.here (fun G5 hle5 hsl5 hno5 => ?_))
 refine B6 ?_
 refine D1 (rT rfl) (rC rfl (A4 rfl rfl)) (rT rfl) ?_
 (refine M6.two hsl5 (M0 _) (M0 _) (A0p _) ?_; rw [X1 (by omega)]; first | (rw [if_pos ⟨by assumption, by assumption⟩, if_pos (by omega)]; rfl) | (rw [if_neg (fun hc => by first | exact Bool.noConfusion (hc.1.symm.trans (by assumption)) | exact Bool.noConfusion (hc.2.symm.trans (by assumption)) | exact Bool.noConfusion (hc.symm.trans (by assumption)))]; rfl))
 refine aP 9 rfl (qM rfl) rfl ?_
 refine C1 10 rfl rfl rfl ?_
 refine C1 11 rfl rfl rfl ?_
 refine C1 12 rfl rfl rfl ?_
 refine C1 13 rfl rfl rfl ?_
 refine U6 (j := 2) (j' := 14) (by kernel_rfl) ?_ ?_
 (refine E6 rfl (D4 rfl rfl rfl (by omega) (by unfold maxLen; omega) rfl) rfl rfl ?_; rintro _ ⟨b703, rfl⟩)
 refine C1 14 rfl rfl rfl ?_
 refine aP 15 rfl (R0 rfl rfl) rfl ?_
 refine aP 16 rfl (qA rfl) rfl ?_
 refine A3 17 ?_
 refine I9 rfl ?_
 refine aP 18 rfl (qA rfl) rfl ?_
 refine A1 ?_
 (refine I5 Pk.here (fun G5 hle5 hsl5 hno5 => ?_))
 refine B6 ?_
 refine D1 (rT rfl) (rC rfl (A4 rfl rfl)) (rT rfl) ?_
 (refine M6.two hsl5 (M0 _) (M0 _) (A0p _) ?_; rw [X1 (by omega)]; first | (rw [if_pos ⟨by assumption, by assumption⟩, if_pos (by omega)]; rfl) | (rw [if_neg (fun hc => by first | exact Bool.noConfusion (hc.1.symm.trans (by assumption)) | exact Bool.noConfusion (hc.2.symm.trans (by assumption)) | exact Bool.noConfusion (hc.symm.trans (by assumption)))]; rfl))
 refine A6c (l' := [tt,tt,ff,tt,tt,tt,tt,tt,tt,tt,tt,tt,tt,tt,tt,ff,ff,ff,ff]) rfl rfl rfl rfl ?_
 refine aP 15 rfl (R0 rfl rfl) rfl ?_
 refine A3 2 ?_
 (refine E6 rfl (D4 rfl rfl rfl (by omega) (by unfold maxLen; omega) rfl) rfl rfl ?_; rintro _ ⟨b721, rfl⟩)
 refine aP 16 rfl (qA rfl) rfl ?_
 refine A3 17 ?_
 refine I9 rfl ?_
 refine aP 18 rfl (qA rfl) rfl ?_
 refine A1 ?_
 (refine I5 Pk.here (fun G5 hle5 hsl5 hno5 => ?_))
 refine B6 ?_
 refine D1 (rT rfl) (rC rfl (A4 rfl rfl)) (rT rfl) ?_
 (refine M6.two hsl5 (M0 _) (M0 _) (A0p _) ?_; rw [X1 (by omega)]; first | (rw [if_pos ⟨by assumption, by assumption⟩, if_pos (by omega)]; rfl) | (rw [if_neg (fun hc => by first | exact Bool.noConfusion (hc.1.symm.trans (by assumption)) | exact Bool.noConfusion (hc.2.symm.trans (by assumption)) | exact Bool.noConfusion (hc.symm.trans (by assumption)))]; rfl))
 refine A7 ?_
 refine sB (qE rfl rfl) rfl rfl (fun h740 => ?_) (fun h740 => ?_)
 refine A7 ?_
 (have hl3 : n = 3 := hop.2.1 (by omega); obtain ⟨b0, o0, q0, d0, hp0, hat0, hre0, hg0⟩ := hsl.kidD hkl (i := 0) (by omega) (by omega); obtain ⟨b1, o1, q1, d1, hp1, hat1, hre1, hg1⟩ := hsl.kidD hkl (i := 1) (by omega) (by omega); cases hp0; cases hp1; obtain ⟨b2, o2, q2, d2, hp2, hat2, hre2, hg2⟩ := hsl.kidD hkl (i := 2) (by omega) (by omega); cases hp2; refine E3 E4 rfl ?_)
 refine J5 (i := 0) (l' := [tt,ff,ff,ff,ff,ff,ff,ff,ff,ff,ff,ff,ff,ff,ff,ff]) rfl D7 (qM rfl) rfl (by kernel_rfl) rfl rfl ?_
 refine aP 1 rfl (B8 (j := 0) rfl rfl rfl (by omega)) rfl ?_
 refine aL 2 rfl (A2 rfl rfl (hat0 _) rfl) rfl ?_
 refine aL 3 rfl (A4 rfl rfl) rfl ?_
 refine A3 4 ?_
 refine U7 rfl rfl ((A0c _ _ _ _ _ hre0 (A0p _))) rfl rfl rfl (fun h753 => ?_) (fun h753 => ?_)
 refine aP 5 rfl (pNt rfl) rfl ?_
 refine aP 6 rfl (qM rfl) rfl ?_
 refine aP 7 rfl (qM rfl) rfl ?_
 refine aP 8 rfl (B8 (j := 1) rfl rfl rfl (by omega)) rfl ?_
 refine aL 9 rfl (A2 rfl rfl (hat1 _) rfl) rfl ?_
 refine aP 10 rfl (qM rfl) rfl ?_
 refine aP 11 rfl (B8 (j := 2) rfl rfl rfl (by omega)) rfl ?_
 refine aL 12 rfl (A2 rfl rfl (hat2 _) rfl) rfl ?_
 refine A3 13 ?_
 refine U7 rfl rfl ((A0c _ _ _ _ _ hre1 hre2)) rfl rfl rfl (fun h763 => ?_) (fun h763 => ?_)
 refine aP 14 rfl (pNt rfl) rfl ?_
 refine aP 15 rfl (R0 rfl rfl) rfl ?_
 refine A7 ?_
 (have hl3 : n = 3 := hop.2.1 (by omega); obtain ⟨b0, o0, q0, d0, hp0, hat0, hre0, hg0⟩ := hsl.kidD hkl (i := 0) (by omega) (by omega); obtain ⟨b1, o1, q1, d1, hp1, hat1, hre1, hg1⟩ := hsl.kidD hkl (i := 1) (by omega) (by omega); cases hp0; cases hp1; obtain ⟨b2, o2, q2, d2, hp2, hat2, hre2, hg2⟩ := hsl.kidD hkl (i := 2) (by omega) (by omega); cases hp2; refine E3 E4 rfl ?_)
 refine J5 (i := 0) (l' := [tt,ff,ff,ff,ff,ff,ff,ff,ff]) rfl D7 (qM rfl) rfl (by kernel_rfl) rfl rfl ?_
 refine aP 1 rfl (B8 (j := 1) rfl rfl rfl (by omega)) rfl ?_
 refine aL 2 rfl (A2 rfl rfl (hat1 _) rfl) rfl ?_
 refine aP 3 rfl (qM rfl) rfl ?_
 refine aP 4 rfl (B8 (j := 2) rfl rfl rfl (by omega)) rfl ?_
 refine aL 5 rfl (A2 rfl rfl (hat2 _) rfl) rfl ?_
 refine U6 (j := 6) (j' := 7) (by kernel_rfl) ?_ ?_
 (refine K4 rfl rfl (A9S _ _ _ _ _ (by assumption) (A3f har (by omega)) (A3f har (by omega)) hre1 hre2) rfl rfl rfl (fun v GM hleM hh => ?_); obtain ⟨cM, rfl, hrM⟩ := hh; obtain ⟨p7, c7, e7, rfl, _⟩ := hrM.open)
 refine A3 7 ?_
 (refine E6 rfl (B0 rfl) rfl rfl ?_; rintro _ ⟨b782, rfl⟩)
 refine A3 8 ?_
 refine I9 rfl ?_
 refine B6 ?_
 (have hl3 : n = 3 := hop.2.1 (by omega); obtain ⟨b0, o0, q0, d0, hp0, hat0, hre0, hg0⟩ := hsl.kidD hkl (i := 0) (by omega) (by omega); obtain ⟨b1, o1, q1, d1, hp1, hat1, hre1, hg1⟩ := hsl.kidD hkl (i := 1) (by omega) (by omega); cases hp0; cases hp1; obtain ⟨b2, o2, q2, d2, hp2, hat2, hre2, hg2⟩ := hsl.kidD hkl (i := 2) (by omega) (by omega); cases hp2; refine E3 E4 rfl ?_)
 refine Q9 (i := 0) (l' := [tt,ff,ff,ff,ff,ff,ff,ff]) rfl D7 (A4 rfl rfl) rfl (by kernel_rfl) rfl rfl ?_
 refine aL 1 rfl (A4 rfl rfl) rfl ?_
 refine aL 2 rfl (A4 rfl rfl) rfl ?_
 refine aL 4 rfl (A4 rfl rfl) rfl ?_
 refine A3 3 ?_
 (refine E6 rfl (D4 rfl rfl rfl (by omega) (by unfold maxLen; omega) rfl) rfl rfl ?_; rintro _ ⟨b794, rfl⟩)
 refine aP 5 rfl (qA rfl) rfl ?_
 refine A3 6 ?_
 refine I9 rfl ?_
 refine aP 7 rfl (qA rfl) rfl ?_
 refine A1 ?_
 (refine I5 Pk.here (fun G5 hle5 hsl5 hno5 => ?_))
 refine B6 ?_
 refine D1 (rT rfl) (rC rfl (A4 rfl rfl)) (rT rfl) ?_
 (have hk1 : k = 9 := (by omega); subst hk1; exact M6.three hsl5 (A0p _) (hrM.mono hle5) (hrM.mono hle5) (hrM.mono hle5) (by rw [mW9, if_pos ⟨by assumption, by assumption⟩]; rfl))
 (refine E6 rfl (B0 rfl) rfl rfl ?_; rintro _ ⟨b807, rfl⟩)
 refine A3 6 ?_
 (refine K4 rfl rfl (A9S _ _ _ _ _ (by assumption) (A3f har (by omega)) (A3f har (by omega)) hre1 hre2) rfl rfl rfl (fun v GM hleM hh => ?_); obtain ⟨cM, rfl, hrM⟩ := hh; obtain ⟨p7, c7, e7, rfl, _⟩ := hrM.open)
 refine A3 8 ?_
 refine I9 rfl ?_
 refine B6 ?_
 (have hl3 : n = 3 := hop.2.1 (by omega); obtain ⟨b0, o0, q0, d0, hp0, hat0, hre0, hg0⟩ := hsl.kidD hkl (i := 0) (by omega) (by omega); obtain ⟨b1, o1, q1, d1, hp1, hat1, hre1, hg1⟩ := hsl.kidD hkl (i := 1) (by omega) (by omega); cases hp0; cases hp1; obtain ⟨b2, o2, q2, d2, hp2, hat2, hre2, hg2⟩ := hsl.kidD hkl (i := 2) (by omega) (by omega); cases hp2; refine E3 E4 rfl ?_)
 refine Q9 (i := 0) (l' := [tt,ff,ff,ff,ff,ff,ff,ff]) rfl D7 (A4 rfl rfl) rfl (by kernel_rfl) rfl rfl ?_
 refine aL 1 rfl (A4 rfl rfl) rfl ?_
 refine aL 2 rfl (A4 rfl rfl) rfl ?_
 refine aL 4 rfl (A4 rfl rfl) rfl ?_
 refine A3 3 ?_
 (refine E6 rfl (D4 rfl rfl rfl (by omega) (by unfold maxLen; omega) rfl) rfl rfl ?_; rintro _ ⟨b821, rfl⟩)
 refine aP 5 rfl (qA rfl) rfl ?_
 refine A3 6 ?_
 refine I9 rfl ?_
 refine aP 7 rfl (qA rfl) rfl ?_
 refine A1 ?_
 (refine I5 Pk.here (fun G5 hle5 hsl5 hno5 => ?_))
 refine B6 ?_
 refine D1 (rT rfl) (rC rfl (A4 rfl rfl)) (rT rfl) ?_
 (have hk1 : k = 9 := (by omega); subst hk1; exact M6.three hsl5 (A0p _) (hrM.mono hle5) (hrM.mono hle5) (hrM.mono hle5) (by rw [mW9, if_pos ⟨by assumption, by assumption⟩]; rfl))
 refine aP 14 rfl (pNf rfl) rfl ?_
 refine aP 15 rfl (R0 rfl rfl) rfl ?_
 refine I6 ?_
 refine D1 (rT rfl) (rC rfl (A4 rfl rfl)) (rT rfl) ?_
 (have hk1 : k = 9 := (by omega); subst hk1; exact M6.nil (u := A6) (O2 _ ⟨by omega, by omega⟩) (by rw [mW9, if_neg (fun hc => by first | exact Bool.noConfusion (hc.1.symm.trans (by assumption)) | exact Bool.noConfusion (hc.2.symm.trans (by assumption)) | exact Bool.noConfusion (hc.symm.trans (by assumption)))]; rfl))
 refine aP 5 rfl (pNf rfl) rfl ?_
 refine aP 6 rfl (qM rfl) rfl ?_
 refine C1 7 rfl rfl rfl ?_
 refine C1 8 rfl rfl rfl ?_
 refine C1 9 rfl rfl rfl ?_
 refine C1 10 rfl rfl rfl ?_
 refine C1 11 rfl rfl rfl ?_
 refine C1 12 rfl rfl rfl ?_
 refine C1 13 rfl rfl rfl ?_
 refine C1 14 rfl rfl rfl ?_
 refine aP 15 rfl (O4 rfl rfl) rfl ?_
 refine I6 ?_
 refine D1 (rT rfl) (rC rfl (A4 rfl rfl)) (rT rfl) ?_
 (have hk1 : k = 9 := (by omega); subst hk1; exact M6.nil (u := A6) (O2 _ ⟨by omega, by omega⟩) (by rw [mW9, if_neg (fun hc => by first | exact Bool.noConfusion (hc.1.symm.trans (by assumption)) | exact Bool.noConfusion (hc.2.symm.trans (by assumption)) | exact Bool.noConfusion (hc.symm.trans (by assumption)))]; rfl))
 refine A7 ?_
 refine sB (qE rfl rfl) rfl rfl (fun h887 => ?_) (fun h887 => ?_)
 refine B1 ?_
 (have hl2 : n = 2 := hop.1 (by omega); obtain ⟨b0, o0, q0, d0, hp0, hat0, hre0, hg0⟩ := hsl.kidD hkl (i := 0) (by omega) (by omega); obtain ⟨b1, o1, q1, d1, hp1, hat1, hre1, hg1⟩ := hsl.kidD hkl (i := 1) (by omega) (by omega); cases hp0; cases hp1; refine E3 E4 rfl ?_)
 refine J5 (i := 0) (l' := [tt,ff,ff,ff,ff,ff,ff,ff,ff,ff]) rfl D7 (qM rfl) rfl (by kernel_rfl) rfl rfl ?_
 refine aP 1 rfl (B8 (j := 0) rfl rfl rfl (by omega)) rfl ?_
 refine aL 2 rfl (A2 rfl rfl (hat0 _) rfl) rfl ?_
 refine aP 3 rfl (qM rfl) rfl ?_
 refine aP 4 rfl (B8 (j := 1) rfl rfl rfl (by omega)) rfl ?_
 refine aL 5 rfl (A2 rfl rfl (hat1 _) rfl) rfl ?_
 refine A3 6 ?_
 (refine K4 rfl rfl (A2j 5 _ _ _ _ _ ⟨by omega, by omega⟩ hre0 hre1) rfl rfl rfl (fun v GB hleB hh => ?_); obtain ⟨cB, rfl, hrB⟩ := hh; obtain ⟨p7, c7, e7, rfl, _⟩ := hrB.open)
 refine aP 7 rfl (qA rfl) rfl ?_
 refine A3 8 ?_
 refine I9 rfl ?_
 refine aP 9 rfl (qA rfl) rfl ?_
 refine B1 ?_
 refine D1 (rT rfl) (rC rfl (A4 rfl rfl)) (rT rfl) ?_
 (have hk1 : k = 10 := (by omega); subst hk1; exact M6.nil hrB A60)
 refine A7 ?_
 refine sB (qE rfl rfl) rfl rfl (fun h919 => ?_) (fun h919 => ?_)
 refine B1 ?_
 (have hl1 : n = 1 := hop.2.2 (by omega); obtain ⟨b0, o0, q0, d0, hp0, hat0, hre0, hg0⟩ := hsl.kidD hkl (i := 0) (by omega) (by omega); cases hp0; refine E3 E4 rfl ?_)
 refine J5 (i := 0) (l' := [tt,ff,ff,ff,ff,ff,ff,ff,ff,ff,ff,ff,ff,ff]) rfl D7 (B9 rfl) rfl (by kernel_rfl) rfl rfl ?_
 refine aL 1 rfl (A4 rfl rfl) rfl ?_
 refine aP 3 rfl (B9 rfl) rfl ?_
 refine aL 4 rfl (A4 rfl rfl) rfl ?_
 refine aP 5 rfl (qM rfl) rfl ?_
 refine aP 6 rfl (B8 (j := 0) rfl rfl rfl (by omega)) rfl ?_
 refine aL 7 rfl (A2 rfl rfl (hat0 _) rfl) rfl ?_
 refine aP 8 rfl (B9 rfl) rfl ?_
 refine aL 9 rfl (A4 rfl rfl) rfl ?_
 refine U6 (j := 2) (j' := 10) (by kernel_rfl) ?_ ?_
 (refine E6 rfl (D4 rfl rfl rfl (by omega) (by unfold maxLen; omega) rfl) rfl rfl ?_; rintro _ ⟨b936, rfl⟩)
 refine A3 10 ?_
 refine U7 rfl rfl ((A0c _ _ _ _ _ hre0 hrty)) rfl rfl rfl (fun h938 => ?_) (fun h938 => ?_)
 refine aP 11 rfl (qA rfl) rfl ?_
 refine A3 12 ?_
 refine I9 rfl ?_
 refine aP 13 rfl (qA rfl) rfl ?_
 refine A1 ?_
 (refine I5 Pk.here (fun G5 hle5 hsl5 hno5 => ?_))
 refine B6 ?_
 refine D1 (rT rfl) (rC rfl (A4 rfl rfl)) (rT rfl) ?_
 (have hk1 : k = 13 := (by omega); subst hk1; refine M6.one hsl5 (hrty.mono hle5) (hrty.mono hle5) ?_; rw [A3g]; split <;> first | rfl | (exfalso; simp_all; done))
 refine aP 11 rfl (qA rfl) rfl ?_
 refine A3 12 ?_
 refine I9 rfl ?_
 refine aP 13 rfl (qA rfl) rfl ?_
 refine A1 ?_
 (refine I5 Pk.here (fun G5 hle5 hsl5 hno5 => ?_))
 refine B6 ?_
 refine D1 (rT rfl) (rC rfl (A4 rfl rfl)) (rT rfl) ?_
 (have hk1 : k = 13 := (by omega); subst hk1; refine M6.one hsl5 (hrty.mono hle5) (hrty.mono hle5) ?_; rw [A3g]; split <;> first | rfl | (exfalso; simp_all; done))
 refine U7 rfl rfl ((A0c _ _ _ _ _ hre0 hrty)) rfl rfl rfl (fun h963 => ?_) (fun h963 => ?_)
 refine A3 2 ?_
 (refine E6 rfl (D4 rfl rfl rfl (by omega) (by unfold maxLen; omega) rfl) rfl rfl ?_; rintro _ ⟨b965, rfl⟩)
 refine aP 11 rfl (qA rfl) rfl ?_
 refine A3 12 ?_
 refine I9 rfl ?_
 refine aP 13 rfl (qA rfl) rfl ?_
 refine A1 ?_
 (refine I5 Pk.here (fun G5 hle5 hsl5 hno5 => ?_))
 refine B6 ?_
 refine D1 (rT rfl) (rC rfl (A4 rfl rfl)) (rT rfl) ?_
 (have hk1 : k = 13 := (by omega); subst hk1; refine M6.one hsl5 (hrty.mono hle5) (hrty.mono hle5) ?_; rw [A3g]; split <;> first | rfl | (exfalso; simp_all; done))
 refine A3 2 ?_
 (refine E6 rfl (D4 rfl rfl rfl (by omega) (by unfold maxLen; omega) rfl) rfl rfl ?_; rintro _ ⟨b979, rfl⟩)
 refine aP 11 rfl (qA rfl) rfl ?_
 refine A3 12 ?_
 refine I9 rfl ?_
 refine aP 13 rfl (qA rfl) rfl ?_
 refine A1 ?_
 (refine I5 Pk.here (fun G5 hle5 hsl5 hno5 => ?_))
 refine B6 ?_
 refine D1 (rT rfl) (rC rfl (A4 rfl rfl)) (rT rfl) ?_
 (have hk1 : k = 13 := (by omega); subst hk1; refine M6.one hsl5 (hrty.mono hle5) (hrty.mono hle5) ?_; rw [A3g]; split <;> first | rfl | (exfalso; simp_all; done))
 refine J2 ?_
 (have hk11 : k = 11 ∨ k = 12 := (by omega); have hl1 : n = 1 := hop.2.2 (by omega); obtain ⟨b0, o0, q0, d0, hp0, hat0, hre0, hg0⟩ := hsl.kidD hkl (i := 0) (by omega) (by omega); cases hp0; refine sP (B8 (j := 0) rfl rfl rfl (by omega)) rfl rfl ?_)
 refine sL (A2 rfl rfl (hat0 _) rfl) rfl rfl ?_
 (refine E7 rfl (A9R 5 (h.getD 0 A6) G _ (.inr rfl) (A3f har (by omega)) hre0) rfl rfl (fun v G1 hle1 hh => ?_); obtain ⟨ma, mca, mb, mcb, rfl, hma, hmb, hma2, hmb2, hmm⟩ := hh; obtain ⟨p1, c1, e1, rfl, _⟩ := hma.open; obtain ⟨p2, c2, e2, rfl, _⟩ := hmb.open)
 refine B3 ?_
 refine sE (B0 rfl) rfl (fun b1009 => ?_)
 refine sE (B0 rfl) rfl (fun b1010 => ?_)
 refine D0 ?_
 refine sE (B0 rfl) rfl (fun b1019 => ?_)
 refine D0 ?_
 refine sB (qE rfl rfl) rfl rfl (fun h1028 => ?_) (fun h1028 => ?_)
 refine D8 ?_
 (have hl1 : n = 1 := hop.2.2 (by omega); obtain ⟨b0, o0, q0, d0, hp0, hat0, hre0, hg0⟩ := hsl.kidD hkl (i := 0) (by omega) (by omega); cases hp0; refine E3 E4 rfl ?_)
 refine Q9 (i := 0) (l' := [tt,ff,ff,ff,ff,ff,ff,ff,ff]) rfl D7 (A4 rfl rfl) rfl (by kernel_rfl) rfl rfl ?_
 refine aL 1 rfl (A4 rfl rfl) rfl ?_
 refine aL 4 rfl (A4 rfl rfl) rfl ?_
 refine aP 5 rfl (qM rfl) rfl ?_
 refine A3 2 ?_
 (refine K4 rfl rfl (A2j _ ma mb _ _ _ ⟨by omega, by omega⟩ hma hmb) rfl rfl rfl (fun v GB hleB hh => ?_); obtain ⟨cB, rfl, hrB⟩ := hh; obtain ⟨p7, c7, e7, rfl, _⟩ := hrB.open; have hma' := hma.mono hleB; have hmb' := hmb.mono hleB)
 refine A3 3 ?_
 (refine E6 rfl (D4 rfl rfl rfl (by omega) (by unfold maxLen; omega) rfl) rfl rfl ?_; rintro _ ⟨b1046, rfl⟩)
 refine aP 6 rfl (qA rfl) rfl ?_
 refine A3 7 ?_
 refine I9 rfl ?_
 refine aP 8 rfl (qA rfl) rfl ?_
 refine A1 ?_
 (refine I5 Pk.here (fun G5 hle5 hsl5 hno5 => ?_))
 refine tT ?_
 refine D1 (rT rfl) (rC rfl (A4 rfl rfl)) (rT rfl) ?_
 (refine M6.one hsl5 (hrB.mono hle5) (hmb'.mono hle5) ?_; rw [A4e (by omega)]; cases hq : S1 5 (h.getD 0 A6) with | none => rfl | some q => (have hq2 := hmm q hq; subst hq2; dsimp only; rw [if_pos (by omega)]; rfl))
 refine A7 ?_
 (have hl1 : n = 1 := hop.2.2 (by omega); obtain ⟨b0, o0, q0, d0, hp0, hat0, hre0, hg0⟩ := hsl.kidD hkl (i := 0) (by omega) (by omega); cases hp0; refine E3 E4 rfl ?_)
 refine Q9 (i := 0) (l' := [tt,ff,ff,ff,ff,ff,ff,ff,ff]) rfl D7 (A4 rfl rfl) rfl (by kernel_rfl) rfl rfl ?_
 refine aL 1 rfl (A4 rfl rfl) rfl ?_
 refine aL 4 rfl (A4 rfl rfl) rfl ?_
 refine aP 5 rfl (qM rfl) rfl ?_
 refine A3 2 ?_
 (refine K4 rfl rfl (A2j _ ma mb _ _ _ ⟨by omega, by omega⟩ hma hmb) rfl rfl rfl (fun v GB hleB hh => ?_); obtain ⟨cB, rfl, hrB⟩ := hh; obtain ⟨p7, c7, e7, rfl, _⟩ := hrB.open; have hma' := hma.mono hleB; have hmb' := hmb.mono hleB)
 refine A3 3 ?_
 (refine E6 rfl (D4 rfl rfl rfl (by omega) (by unfold maxLen; omega) rfl) rfl rfl ?_; rintro _ ⟨b1071, rfl⟩)
 refine aP 6 rfl (qA rfl) rfl ?_
 refine A3 7 ?_
 refine I9 rfl ?_
 refine aP 8 rfl (qA rfl) rfl ?_
 refine A1 ?_
 (refine I5 Pk.here (fun G5 hle5 hsl5 hno5 => ?_))
 refine tT ?_
 refine D1 (rT rfl) (rC rfl (A4 rfl rfl)) (rT rfl) ?_
 (refine M6.one hsl5 (hrB.mono hle5) (hma'.mono hle5) ?_; rw [A4e (by omega)]; cases hq : S1 5 (h.getD 0 A6) with | none => rfl | some q => (have hq2 := hmm q hq; subst hq2; dsimp only; rw [if_neg (by omega)]; rfl))
theorem A5k {cx : Cx} {k : Int} {nm : ByteArray} {ty : Ty} {h w : List Ty} {t : Ty} (he : U2 cx k nm ty h = some (w, t)) : H1 t = true ∧ J8 cx k nm ty h = some (w, t) := by
 unfold U2 at he
 split at he
 ·rename_i w' t' hw
  split at he
  ·cases he; exact ⟨by assumption, hw⟩
  ·cases he
 ·cases he
theorem B4P {cx : Cx} {k : Int} {nm : ByteArray} {num : Int} {ty fr : Ty} {lb : Int} {ks : List Tm} {t : Ty} (h14 : k = 14 → H1 ty = true) (h : H9 cx (.mk k nm num ty fr lb ks) = some t) : H1 t = true := by
 rw [H9] at h
 split at h
 ·cases h
 ·split at h
  ·rename_i hk
   split at h
   ·cases h; exact h14 hk
   ·cases h
  ·split at h
   ·cases h
   ·rename_i w u hw
    split at h
    ·cases h; exact (A5k hw).1
    ·cases h
theorem B4Q {cx : Cx} {k : Int} {nm : ByteArray} {ty : Ty} {h w : List Ty} {t : Ty} (hop : (k = 6 ∨ k = 7 ∨ k = 8 ∨ k = 10 → h.length = 2) ∧ (k = 9 → h.length = 3) ∧ (k = 5 ∨ k = 11 ∨ k = 12 ∨ k = 13 → h.length = 1)) (hk : 1 ≤ k ∧ k ≤ 14) (h14 : k ≠ 14) (he : J8 cx k nm ty h = some (w, t)) : w.length ≤ h.length := by
 have hkk : k = 1 ∨ k = 2 ∨ (k = 3 ∨ k = 4) ∨ k = 5 ∨ k = 6 ∨ (k = 7 ∨ k = 8) ∨ k = 9 ∨ k = 10 ∨ (k = 11 ∨ k = 12) ∨ k = 13 := by omega
 rcases hkk with rfl | rfl | hk | rfl | rfl | hk | rfl | rfl | hk | rfl
 ·rw [mW1] at he; split at he <;> cases he; simp
 ·rw [mW2] at he; cases he; simp
 ·rw [A5j hk] at he; cases he; simp
 ·rw [mW5] at he; cases he; simp
 ·rw [mW6] at he
  split at he
  ·split at he <;> cases he
   have := hop.1 (by omega); simp [this]
  ·cases he
 ·rw [X1 hk] at he
  split at he <;> cases he
  have := hop.1 (by omega); simp [this]
 ·rw [mW9] at he
  split at he <;> cases he
  have := hop.2.1 (by omega); simp [this]
 ·rw [A60] at he; cases he; simp
 ·rw [A4e hk] at he
  split at he
  ·cases he; have := hop.2.2 (by omega); simp [this]
  ·cases he
 ·rw [A3g] at he
  split at he <;> cases he
  have := hop.2.2 (by omega); simp [this]
theorem U4.snoc {G G' : IM} {cx : Cx} {n : Nat} {p' : Option Addr} {c' : Nat} {es : List (List Value)} {e : List Value} {nm : ByteArray} {t : Ty} (h1 : n = cx.length) (hl : es.length = n) (h2 : ∀ x ∈ es, x.length = 3) (h3 : ∀ x ∈ es, x.all (·.oneCell') = true)
  (h4 : ∀ (i : Nat) (b : ByteArray × Ty), cx[i]? = some b → ∃ e, es[i]? = some e ∧ A3e G b e) (hg : C2 G G') (he : A3e G' (nm, t) e) (hs : Sl G' p' (n + 1) c' 3 (es.flatten ++ e)) : U4 G' (cx ++ [(nm, t)]) p' (n + 1) c' := by
 have hel : e.length = 3 ∧ e.all (·.oneCell') = true := by obtain ⟨q, d, rfl, _⟩ := he; exact ⟨rfl, rfl⟩
 refine ⟨by simp [h1], es ++ [e], D6.of (by simpa using hs) (by simp [hl]) ?_ ?_, ?_⟩
 ·simp only [List.forall_mem_append, List.forall_mem_singleton]; exact ⟨h2, hel.1⟩
 ·simp only [List.forall_mem_append, List.forall_mem_singleton]; exact ⟨h3, hel.2⟩
 ·intro i b hb
  rw [List.getElem?_append] at hb ⊢
  split at hb
  ·rename_i hi
   obtain ⟨e', he', hr⟩ := h4 i b hb
   rw [if_pos (by omega)]
   exact ⟨e', he', hr.mono hg⟩
  ·rename_i hi
   have : i - cx.length = 0 := by
    apply Classical.byContradiction; intro hc
    rw [List.getElem?_eq_none (by simp; omega)] at hb; cases hb
   rw [this] at hb
   simp only [List.getElem?_cons_zero, Option.some.injEq] at hb
   subst hb
   rw [if_neg (by omega)]
   exact ⟨e, by rw [show i - es.length = 0 by omega]; rfl, he⟩
theorem B4R (G : IM) (p : Option Addr) (n c : Nat) (es : List (List Value)) (h : D6 G p n c 3 es) (hn : n ≤ 4294967296) :
  Fn Tryz.prog 116 [.slice p n c] [] G (fun G' v outs => G' = G ∧ ∃ p' c', v = .slice p' n c' ∧ outs = [.slc p' c' 93 3 n es.flatten]) := by
 have hp := h.sl.nn
 have hS := h.sl
 have hone : ∀ u ∈ es.flatten, u.oneCell' = true := by
  intro u hu
  obtain ⟨e, he, hue⟩ := List.mem_flatten.1 hu
  exact List.all_eq_true.1 (h.one e he) u hue
 refine B7 Tryz.func116 rfl Tryz.ntmps116 Tryz.results116 rfl ?_
 intro w0
 cases p with
 | none =>
  obtain rfl := hp rfl
  obtain rfl : es = [] := List.length_eq_zero_iff.1 h.len
  refine V7 93 3 ?_
  refine D8 ?_
  refine sQ (B2I rfl rfl rfl) rfl ?_
  refine J2 ?_
  refine H5 (rT rfl) A0.refl ?_
  exact ⟨rfl, _, _, rfl, rfl⟩
 | some a =>
  refine D8 ?_
  refine sQ (A76 rfl rfl rfl) rfl ?_
  refine B4 ?_
  (refine M5 (D4 rfl rfl rfl (by omega) (by unfold maxLen; omega) rfl) rfl ?_; rintro _ ⟨b18, rfl⟩)
  refine E8 ?_
  refine A6E rfl rfl rfl rfl rfl (fun _ _ => by repeat (first | exact Sw.here | apply Sw.there)) hS hone (Nat.zero_le _) (by unfold maxLen; omega) (by omega) rfl (fun pn cn => ?_)
  refine B3 ?_
  refine H5 (rT rfl) A0.refl ?_
  exact ⟨rfl, _, _, by rw [Nat.zero_add], by rw [Nat.zero_add]; rfl⟩
theorem A1X.no {r : Option Ty} {G G' : IM} {cu : List Value} {u : Ty} {b : Bool} (hu : C3 G' u cu) (hb : b = false) (h : r = none) : A1X r G G' (.tuple ⟨[.agg ⟨cu⟩, .bool b]⟩) [] := by
 subst hb h
 exact ⟨rfl, cu, u, rfl, hu, by simp⟩
section
variable {cx : Cx} {k : Int} {nm : ByteArray} {num : Int} {ty fr : Ty} {lb : Int} {ks : List Tm}
theorem A4f {us w : List Ty} {t : Ty} (h : J8 cx k nm ty us = some (w, t)) {b : Bool} (hb : H1 t = b) : U2 cx k nm ty us = if b = true then some (w, t) else none := by
 unfold U2; rw [h]; simp only [hb]
theorem B4S {us : List Ty} (h : J8 cx k nm ty us = none) : U2 cx k nm ty us = none := by
 unfold U2; rw [h]
end
def A61 (r : Tm) : Tm × Bool := if J1 r = true then (r, true) else (E2, false)
def B91 (t : Tm) (path : List Int) (x : Tm) : Tm × Bool := if J1 t = true ∧ J1 x = true ∧ tAt t path ≠ none then A61 (A9A t path x) else (E2, false)
mutual
theorem A62 (D N : Int) : ∀ (t : Tm) (d d' : Int), d' ≤ d → L7 D N t d = true → L7 D N t d' = true
 | .mk k nm num ty fr lb ks, d, d', hd, h => by
  obtain ⟨h1, h2, h3, h4⟩ := X8 h
  rw [A0V (by omega) h2 h3]
  exact A5l D N ks _ _ (by omega) h4
theorem A5l (D N : Int) : ∀ (ts : List Tm) (d d' : Int), d' ≤ d → L5 D N ts d = true → L5 D N ts d' = true
 | [], d, d', hd, h => by rw [L5]
 | t :: ts, d, d', hd, h => by
  rw [L5, Bool.and_eq_true] at h ⊢
  exact ⟨A62 D N t d d' hd h.1, A5l D N ts d d' hd h.2⟩
end
theorem A9U (cy : Cx) (nm : ByteArray) : ∀ (cx : Cx) (n : Nat), n ≤ cx.length → ∀ t, W2 cx nm n = some t → W2 (cy ++ cx) nm (cy.length + n) = some t
 | cx, 0, _, t, h => by rw [W2] at h; cases h
 | cx, n + 1, hn, t, h => by
  have hb : cx[n]? = some cx[n] := List.getElem?_eq_getElem (by omega)
  have hb2 : (cy ++ cx)[cy.length + n]? = some (cx[n].1, cx[n].2) := by
   rw [List.getElem?_append_right (by omega), show cy.length + n - cy.length = n by omega]; exact hb
  by_cases he : cx[n].1 = nm
  ·rw [A32 (x := cx[n].1) (t := cx[n].2) hb he] at h
   rw [← Nat.add_assoc, A32 hb2 he]; exact h
  ·rw [A33 (x := cx[n].1) (t := cx[n].2) hb he] at h
   rw [← Nat.add_assoc, A33 hb2 he]
   exact A9U cy nm cx n (by omega) t h
theorem B4T {cy cx : Cx} {nm : ByteArray} {t : Ty} (h : P7 cx nm = some t) : P7 (cy ++ cx) nm = some t := by
 unfold P7 at h ⊢
 rw [List.length_append]
 exact A9U cy nm cx _ (Nat.le_refl _) t h
theorem B4U {cy cx : Cx} {k : Int} {nm : ByteArray} {ty : Ty} {h : List Ty} {r : List Ty × Ty} (hr : J8 cx k nm ty h = some r) : J8 (cy ++ cx) k nm ty h = some r := by
 unfold J8 at hr ⊢
 split
 ·rename_i hk
  rw [if_pos hk] at hr
  split at hr
  ·rename_i t ht; rw [B4T ht]; exact hr
  ·cases hr
 ·rename_i hk
  rw [if_neg hk] at hr
  exact hr
theorem B4V {cy cx : Cx} {k : Int} {nm : ByteArray} {ty : Ty} {h : List Ty} {r : List Ty × Ty} (hr : U2 cx k nm ty h = some r) : U2 (cy ++ cx) k nm ty h = some r := by
 unfold U2 at hr ⊢
 split at hr
 ·rename_i w t hw; rw [B4U hw]; exact hr
 ·cases hr
theorem B4W (cy cx : Cx) (k : Int) (nm : ByteArray) (ty : Ty) : J9 (cy ++ cx) k nm ty = cy ++ J9 cx k nm ty := by
 unfold J9; split <;> simp
mutual
theorem A9V (cy : Cx) : ∀ (e : Tm) (cx : Cx) (t : Ty), H9 cx e = some t → H9 (cy ++ cx) e = some t
 | .mk k nm num ty fr lb ks, cx, t, h => by
  rw [H9] at h ⊢
  split at h
  ·cases h
  ·rename_i hs hh
   rw [B4W, A9W cy ks _ hs hh]
   dsimp only
   split at h
   ·rename_i hk; rw [if_pos hk]; exact h
   ·rename_i hk
    rw [if_neg hk]
    split at h
    ·cases h
    ·rename_i w u hw
     rw [B4V hw]; exact h
theorem A9W (cy : Cx) : ∀ (ts : List Tm) (cx : Cx) (us : List Ty), N6 cx ts = some us → N6 (cy ++ cx) ts = some us
 | [], cx, us, h => by rw [N6] at h ⊢; exact h
 | t :: ts, cx, us, h => by
  rw [N6] at h ⊢
  split at h
  ·cases h
  ·rename_i u hu
   split at h
   ·cases h
   ·rename_i us' hus
    rw [A9V cy t cx u hu]
    dsimp only
    rw [A9W cy ts cx us' hus]
    exact h
end
theorem A9X {cx : Cx} : ∀ {ks : List Tm} {h : List Ty}, N6 cx ks = some h → ∀ (j : Nat) (hj : j < ks.length), ∃ u, H9 cx ks[j] = some u ∧ ∀ x, H9 cx x = some u → N6 cx (ks.set j x) = some h
 | [], h, _, j, hj => by simp at hj
 | t :: ts, h, he, j, hj => by
  rw [N6] at he
  split at he
  ·cases he
  ·rename_i u hu
   split at he
   ·cases he
   ·rename_i us hus
    cases he
    cases j with
    | zero => exact ⟨u, hu, fun x hx => by rw [List.set_cons_zero, N6, hx]; dsimp only; rw [hus]⟩
    | succ j =>
     obtain ⟨v, hv, hv2⟩ := A9X hus j (by simpa using hj)
     exact ⟨v, hv, fun x hx => by rw [List.set_cons_succ, N6, hu]; dsimp only; rw [hv2 x hx]⟩
def F9 : List Tm → List Ty → List Ty → Int → List Tm × Int
 | u :: us, a :: h, b :: w, l => if N5 a b = true then (u :: (F9 us h w l).1, (F9 us h w l).2) else (N1 u a b (l + 1) :: (F9 us h w (l + 1)).1, (F9 us h w (l + 1)).2)
 | us, _, _, l => (us, l)
def Q7 (cx : Cx) (k : Int) (nm : ByteArray) (num : Int) (ty fr : Ty) (lb : Int) (us : List Tm) (h : List Ty) (l : Int) : Option (Tm × Ty × Int) :=
 match U2 cx k nm ty h with
 | none => none
 | some (w, t) => some (if k = 13 then (F9 us h w l).1.getD 0 E2 else .mk k nm num ty fr lb (F9 us h w l).1, t, (F9 us h w l).2)
mutual
def K8 (cx : Cx) : Tm → Int → Option (Tm × Ty × Int)
 | .mk k nm num ty fr lb ks, l => match M4 (J9 cx k nm ty) ks l with
  | none => none
  | some (us, h, l') => Q7 cx k nm num ty fr lb us h l'
def M4 (cx : Cx) : List Tm → Int → Option (List Tm × List Ty × Int)
 | [], l => some ([], [], l)
 | t :: ts, l => match K8 cx t l with
  | none => none
  | some (u, a, l') => match M4 cx ts l' with
   | none => none
   | some (us, h, l'') => some (u :: us, a :: h, l'')
end
def T6 (e : Tm) : Option (Tm × Ty) := if M8 e = true then (match K8 [] e 0 with | some (u, t, _) => some (u, t) | none => none) else none
def Y1 (cx : Cx) (k : Int) (nm : ByteArray) (ty : Ty) (h : List Ty) : Option Ty := match J8 cx k nm ty h with
 | some (_, t) => if (k = 5 ∨ k = 10) ∧ H1 t = false then none else some t
 | none => none
mutual
def R4 (cx : Cx) : Tm → Option Ty
 | .mk k nm num ty fr lb ks => match W9 (J9 cx k nm ty) ks with
  | none => none
  | some h => Y1 cx k nm ty h
def W9 (cx : Cx) : List Tm → Option (List Ty)
 | [] => some []
 | t :: ts => match R4 cx t with
  | none => none
  | some a => match W9 cx ts with
   | none => none
   | some h => some (a :: h)
end
theorem A2k (k : Int) (ks : List Ty) (d : Int) : L6 (.mk k ks) d = (decide (d ≤ 4) && decide (V4 k = ks.length) && T9 ks (d + 1)) := by rw [L6]
mutual
theorem A4g : ∀ (t : Ty) (d e : Int), e ≤ d → L6 t d = true → L6 t e = true
 | .mk k ks, d, e, h, hs => by
  rw [A2k, Bool.and_eq_true, Bool.and_eq_true, decide_eq_true_eq, decide_eq_true_eq] at hs ⊢
  exact ⟨⟨by omega, hs.1.2⟩, A9Y ks (d + 1) (e + 1) (by omega) hs.2⟩
theorem A9Y : ∀ (ts : List Ty) (d e : Int), e ≤ d → T9 ts d = true → T9 ts e = true
 | [], d, e, h, hs => by rw [T9]
 | t :: ts, d, e, h, hs => by
  rw [T9, Bool.and_eq_true] at hs ⊢
  exact ⟨A4g t d e h hs.1, A9Y ts d e h hs.2⟩
end
mutual
theorem A63 : ∀ (a b : Ty) (d : Int), K3 a b = true → L6 a d = true → L6 b d = true → L6 (U1 a b) d = true
 | .mk k ks, .mk k' ks', d, hc, ha, hb => by
  rw [A1f]
  split
  ·exact hb
  ·split
   ·exact ha
   ·rw [S9] at hc
    rw [A2k, Bool.and_eq_true, Bool.and_eq_true, decide_eq_true_eq, decide_eq_true_eq] at ha hb ⊢
    simp only [Bool.or_eq_true, Bool.and_eq_true, decide_eq_true_eq] at hc
    obtain ⟨hk, hl⟩ : k = k' ∧ O5 ks ks' = true := by
     rcases hc with (h | h) | h
     ·contradiction
     ·contradiction
     ·exact h
    subst hk
    obtain ⟨m1, m2⟩ := A9Z ks ks' (d + 1) hl ha.2 hb.2
    exact ⟨⟨ha.1.1, by rw [m2]; exact ha.1.2⟩, m1⟩
theorem A9Z : ∀ (xs ys : List Ty) (d : Int), O5 xs ys = true → T9 xs d = true → T9 ys d = true → T9 (T2 xs ys) d = true ∧ (T2 xs ys).length = xs.length
 | [], [], d, _, _, _ => by simp [T2, T9]
 | [], b :: ys, d, hc, _, _ => by simp [O5] at hc
 | a :: xs, [], d, hc, _, _ => by simp [O5] at hc
 | a :: xs, b :: ys, d, hc, ha, hb => by
  rw [O5, Bool.and_eq_true] at hc
  rw [T9, Bool.and_eq_true] at ha hb
  obtain ⟨m1, m2⟩ := A9Z xs ys d hc.2 ha.2 hb.2
  rw [T2, T9, Bool.and_eq_true]
  exact ⟨⟨A63 a b d hc.1 ha.1 hb.1, m1⟩, by simp [m2]⟩
end
theorem A64 {cx : Cx} (h : ∀ b ∈ cx, H1 b.2 = true) {nm : ByteArray} {t : Ty} : ∀ {n : Nat}, W2 cx nm n = some t → H1 t = true
 | 0, hl => by simp [W2] at hl
 | n + 1, hl => by
  rw [W2] at hl
  split at hl
  ·rename_i b hb
   split at hl
   ·cases hl; exact h b (List.mem_of_getElem? hb)
   ·exact A64 h hl
  ·exact A64 h hl
theorem A90 {k : Int} {t a b : Ty} (hk : k = 4 ∨ k = 5) (ht : H1 t = true) (h : S1 k t = some (a, b)) : H1 a = true ∧ H1 b = true := by
 obtain ⟨tk, ks⟩ := t
 rw [show S1 k (.mk tk ks) = (if tk = k then some (ks.getD 0 A6, ks.getD 1 A6) else if tk = 1 then some (K1, K1) else none) from rfl] at h
 by_cases he : tk = k
 ·rw [if_pos he] at h
  cases h
  unfold H1 at ht ⊢
  rw [A2k, Bool.and_eq_true, Bool.and_eq_true, decide_eq_true_eq, decide_eq_true_eq] at ht
  have h2 : ks.length = 2 := by
   have : V4 tk = 2 := by rw [he]; rcases hk with rfl | rfl <;> rfl
   omega
  match ks, h2, ht.2 with
  | [x, y], _, hL =>
   simp only [T9, Bool.and_eq_true] at hL
   exact ⟨A4g _ 2 1 (by omega) hL.1, A4g _ 2 1 (by omega) hL.2.1⟩
 ·rw [if_neg he] at h
  by_cases h1 : tk = 1
  ·rw [if_pos h1] at h
   cases h
   exact ⟨by decide, by decide⟩
  ·rw [if_neg h1] at h; cases h
theorem B4X {l : List Ty} {i : Nat} (h : i < l.length) : l.getD i A6 ∈ l := by
 rw [List.getD_eq_getElem?_getD, List.getElem?_eq_getElem h, Option.getD_some]; exact List.getElem_mem h
theorem B4Y {cx : Cx} {k : Int} {nm : ByteArray} {ty : Ty} {h w : List Ty} {t : Ty} (hcx : ∀ b ∈ cx, H1 b.2 = true) (hh : ∀ a ∈ h, H1 a = true) (hd : H1 (h.getD 0 A6) = true ∨ h = []) (hty : k = 13 → H1 ty = true) (hn : C4 k = (h.length : Int)) (hw : J8 cx k nm ty h = some (w, t)) (h510 : k ≠ 5 ∧ k ≠ 10) : H1 t = true := by
 have hg : ∀ i, i < h.length → H1 (h.getD i A6) = true := fun i hi => hh _ (B4X hi)
 unfold J8 at hw
 split at hw
 ·split at hw
  ·rename_i u hu; cases hw; exact A64 hcx hu
  ·cases hw
 split at hw
 ·cases hw; decide
 split at hw
 ·cases hw; decide
 split at hw
 ·exact absurd (by assumption) h510.1
 split at hw
 ·rename_i hk6
  have hl : h.length = 2 := by have : C4 k = 2 := (by rw [hk6]; rfl); omega
  split at hw
  ·rename_i a b hm
   split at hw
   ·cases hw; exact (A90 (.inl rfl) (hg 0 (by omega)) hm).2
   ·cases hw
  ·cases hw
 split at hw
 ·split at hw
  ·cases hw; split <;> decide
  ·cases hw
 split at hw
 ·rename_i hk9
  have hl : h.length = 3 := by have : C4 k = 3 := (by rw [hk9]; rfl); omega
  split at hw
  ·rename_i hc
   cases hw
   exact A63 _ _ 1 hc.2 (hg 1 (by omega)) (hg 2 (by omega))
  ·cases hw
 split at hw
 ·exact absurd (by assumption) h510.2
 split at hw
 ·split at hw
  ·cases hw; exact hty (by assumption)
  ·cases hw
 ·split at hw
  ·rename_i a b hm
   have hl : h.length ≠ 0 := by
    intro h0
    rw [List.length_eq_zero_iff] at h0
    subst h0
    rw [show S1 5 (([] : List Ty).getD 0 A6) = none from rfl] at hm
    cases hm
   cases hw
   have := A90 (.inr rfl) (hg 0 (by omega)) hm
   split
   ·exact this.2
   ·exact this.1
  ·cases hw
def cxV (cx : Cx) : Prop := ∀ b ∈ cx, H1 b.2 = true
theorem A5m : cxV [] := by intro b hb; simp at hb
theorem A5n {cx : Cx} {k : Int} {nm : ByteArray} {ty : Ty} (h : cxV cx) (ht : k = 5 → H1 ty = true) : cxV (J9 cx k nm ty) := by
 unfold J9
 split
 ·intro b hb
  rcases List.mem_append.1 hb with hb | hb
  ·exact h b hb
  ·obtain rfl := List.mem_singleton.1 hb; exact ht (by assumption)
 ·exact h
theorem B4Z {cx : Cx} {k : Int} {nm : ByteArray} {ty : Ty} {h : List Ty} (hcx : cxV cx) (hh : ∀ a ∈ h, H1 a = true) (hty : k = 13 → H1 ty = true) (hn : C4 k = (h.length : Int)) :
  (∀ w t, U2 cx k nm ty h = some (w, t) → Y1 cx k nm ty h = some t ∧ H1 t = true) ∧ (U2 cx k nm ty h = none → Y1 cx k nm ty h = none) := by
 unfold U2 Y1
 have hv := fun w t (e : J8 cx k nm ty h = some (w, t)) (h5 : k ≠ 5 ∧ k ≠ 10) => B4Y hcx hh (by cases h with | nil => exact .inr rfl | cons x xs => exact .inl (hh _ (by simp))) hty hn e h5
 cases hw : J8 cx k nm ty h with
 | none => simp
 | some p =>
  obtain ⟨w, t⟩ := p
  have hv := hv w t hw
  simp only
  by_cases h5 : k = 5 ∨ k = 10
  ·cases ht : H1 t with
   | true => simp [ht]
   | false => simp [h5]
  ·have := hv (by omega)
   simp [this]
theorem B40 (ks : List Tm) (ih : ∀ t ∈ ks, ∀ d cx l, L7 12 14 t d = true → cxV cx → (∀ u a l', K8 cx t l = some (u, a, l') → R4 cx t = some a ∧ H1 a = true) ∧ (K8 cx t l = none → R4 cx t = none)) :
  ∀ d cx l, L5 12 14 ks d = true → cxV cx → (∀ us h l', M4 cx ks l = some (us, h, l') → W9 cx ks = some h ∧ (∀ a ∈ h, H1 a = true) ∧ h.length = ks.length ∧ us.length = ks.length) ∧ (M4 cx ks l = none → W9 cx ks = none) := by
 induction ks with
 | nil =>
  intro d cx l _ _
  refine ⟨fun us h l' he => ?_, fun he => by simp [M4] at he⟩
  simp only [M4, Option.some.injEq, Prod.mk.injEq] at he
  obtain ⟨rfl, rfl, _⟩ := he
  exact ⟨by rw [W9], by simp, rfl, rfl⟩
 | cons t ts ihl =>
  intro d cx l hs hcx
  rw [L5, Bool.and_eq_true] at hs
  obtain ⟨a1, a2⟩ := ih t List.mem_cons_self d cx l hs.1 hcx
  rw [M4, W9]
  cases he : K8 cx t l with
  | none => rw [a2 he]; exact ⟨fun _ _ _ h => by simp at h, fun _ => rfl⟩
  | some p =>
   obtain ⟨u, a, l1⟩ := p
   obtain ⟨b1, b2⟩ := a1 u a l1 he
   rw [b1]
   obtain ⟨c1, c2⟩ := ihl (fun x hx => ih x (List.mem_cons_of_mem _ hx)) d cx l1 hs.2 hcx
   simp only
   cases hL : M4 cx ts l1 with
   | none => rw [c2 hL]; exact ⟨fun _ _ _ h => by simp at h, fun _ => rfl⟩
   | some q =>
    obtain ⟨us, h, l2⟩ := q
    obtain ⟨d1, d2, d3, d4⟩ := c1 us h l2 hL
    rw [d1]
    refine ⟨fun us' h' l' e => ?_, fun e => by simp at e⟩
    simp only [Option.some.injEq, Prod.mk.injEq] at e
    obtain ⟨rfl, rfl, _⟩ := e
    refine ⟨rfl, fun x hx => ?_, by simp [d3], by simp [d4]⟩
    rcases List.mem_cons.1 hx with rfl | hx
    ·exact b2
    ·exact d2 x hx
theorem A5o : ∀ (t : Tm) (d : Int) (cx : Cx) (l : Int), L7 12 14 t d = true → cxV cx → (∀ u a l', K8 cx t l = some (u, a, l') → R4 cx t = some a ∧ H1 a = true) ∧ (K8 cx t l = none → R4 cx t = none) := by
 refine Tm.ind fun k nm num ty fr lb ks ih d cx l hs hcx => ?_
 obtain ⟨_, _, h3, h4⟩ := X8 hs
 obtain ⟨n1, _, _, _, _, n6, _⟩ := T0.1 h3
 obtain ⟨L1, L2⟩ := B40 ks ih (d + 1) (J9 cx k nm ty) l h4 (A5n hcx fun hk => n6 (by omega))
 rw [K8, R4]
 cases hL : M4 (J9 cx k nm ty) ks l with
 | none => rw [L2 hL]; exact ⟨fun _ _ _ h => by simp at h, fun _ => rfl⟩
 | some q =>
  obtain ⟨us, h, l2⟩ := q
  obtain ⟨d1, d2, d3, d4⟩ := L1 us h l2 hL
  rw [d1]
  obtain ⟨e1, e2⟩ := B4Z (k := k) (nm := nm) (ty := ty) hcx d2 (fun hk => n6 (.inr (.inl hk))) (by rw [d3]; exact n1)
  simp only [Q7]
  cases hN : U2 cx k nm ty h with
  | none => rw [e2 hN]; exact ⟨fun _ _ _ h => by simp at h, fun _ => rfl⟩
  | some p =>
   obtain ⟨w, t⟩ := p
   obtain ⟨f1, f2⟩ := e1 w t hN
   rw [f1]
   refine ⟨fun u a l' e => ?_, fun e => by simp at e⟩
   simp only [Option.some.injEq, Prod.mk.injEq] at e
   obtain ⟨_, rfl, _⟩ := e
   exact ⟨rfl, f2⟩
theorem A1A {cx : Cx} {k : Int} {nm : ByteArray} {num : Int} {ty fr : Ty} {lb : Int} {ks : List Tm} {T : Ty} (h : H9 cx (.mk k nm num ty fr lb ks) = some T) :
  ∃ us, N6 (J9 cx k nm ty) ks = some us ∧ (k = 14 → us.getD 0 A6 = fr ∧ T = ty) ∧ (k ≠ 14 → H1 T = true ∧ ∃ w, J8 cx k nm ty us = some (w, T) ∧ A0W w us = true) := by
 rw [H9] at h
 split at h
 ·cases h
 ·rename_i us hu
  refine ⟨us, hu, fun hk => ?_, fun hk => ?_⟩
  ·rw [if_pos hk] at h
   split at h
   ·rename_i hs; cases h; exact ⟨(X6 _ _).1 hs, rfl⟩
   ·cases h
  ·rw [if_neg hk] at h
   split at h
   ·cases h
   ·rename_i w t hn
    split at h
    ·rename_i hs
     cases h
     obtain ⟨h1, h2⟩ := A5k hn
     exact ⟨h1, w, h2, hs⟩
    ·cases h
theorem A65 {cx : Cx} {k : Int} {nm : ByteArray} {num : Int} {ty fr : Ty} {lb : Int} {ks : List Tm} {T : Ty} {us w : List Ty} (hu : N6 (J9 cx k nm ty) ks = some us) (hk : k ≠ 14) (hv : H1 T = true) (hw : J8 cx k nm ty us = some (w, T)) (hs : A0W w us = true) : H9 cx (.mk k nm num ty fr lb ks) = some T := by
 rw [H9, hu]
 simp only [if_neg hk]
 unfold U2
 rw [hw]
 simp only [hv, if_true, hs]
theorem A4h {cx : Cx} {a : Tm} {us : List Ty} (h : N6 cx [a] = some us) : ∃ x, H9 cx a = some x ∧ us = [x] := by
 rw [N6] at h
 split at h
 ·cases h
 ·rename_i x hx
  rw [N6] at h
  simp only [Option.some.injEq] at h
  exact ⟨x, hx, h.symm⟩
theorem A5p {cx : Cx} {a b : Tm} {us : List Ty} (h : N6 cx [a, b] = some us) : ∃ x y, H9 cx a = some x ∧ H9 cx b = some y ∧ us = [x, y] := by
 rw [N6] at h
 split at h
 ·cases h
 ·rename_i x hx
  split at h
  ·cases h
  ·rename_i vs hv
   obtain ⟨y, hy, rfl⟩ := A4h hv
   simp only [Option.some.injEq] at h
   exact ⟨x, y, hx, hy, h.symm⟩
theorem B41 {cx : Cx} {a b c : Tm} {us : List Ty} (h : N6 cx [a, b, c] = some us) : ∃ x y z, H9 cx a = some x ∧ H9 cx b = some y ∧ H9 cx c = some z ∧ us = [x, y, z] := by
 rw [N6] at h
 split at h
 ·cases h
 ·rename_i x hx
  split at h
  ·cases h
  ·rename_i vs hv
   obtain ⟨y, z, hy, hz, rfl⟩ := A5p hv
   simp only [Option.some.injEq] at h
   exact ⟨x, y, z, hx, hy, hz, h.symm⟩
theorem A66 {cx : Cx} {a : Tm} {x : Ty} (h : H9 cx a = some x) : N6 cx [a] = some [x] := by rw [N6, h]; rfl
theorem B42 {cx : Cx} {a b : Tm} {x y : Ty} (h : H9 cx a = some x) (h2 : H9 cx b = some y) : N6 cx [a, b] = some [x, y] := by rw [N6, h, A66 h2]
mutual
theorem A2l : ∀ a : Ty, K3 a a = true
 | .mk k ks => by rw [S9, A91 ks]; simp
theorem A91 : ∀ xs : List Ty, O5 xs xs = true
 | [] => rfl
 | a :: xs => by rw [O5, A2l a, A91 xs]; rfl
end
mutual
theorem A92 : ∀ a : Ty, U1 a a = a
 | .mk k ks => by
  rw [A1f, A93 ks]
  by_cases h : k = 1
  ·rw [if_pos h]
  ·rw [if_neg h, if_neg h]
theorem A93 : ∀ xs : List Ty, T2 xs xs = xs
 | [] => rfl
 | a :: xs => by rw [T2, A92 a, A93 xs]
end
theorem A3h {k : Int} {ks : List Ty} (hk : k = 4 ∨ k = 5) (h : H1 (.mk k ks) = true) : ∃ a b, ks = [a, b] ∧ H1 a = true ∧ H1 b = true := by
 unfold H1 at h ⊢
 rw [A2k, Bool.and_eq_true, Bool.and_eq_true, decide_eq_true_eq, decide_eq_true_eq] at h
 have h2 : ks.length = 2 := by
  have : V4 k = 2 := by rcases hk with rfl | rfl <;> rfl
  omega
 match ks, h2, h.2 with
 | [x, y], _, hL =>
  simp only [T9, Bool.and_eq_true] at hL
  exact ⟨x, y, rfl, A4g _ 2 1 (by omega) hL.1, A4g _ 2 1 (by omega) hL.2.1⟩
theorem A67 {k : Int} {ks : List Ty} (h : H1 (.mk k ks) = true) (hk : k ≠ 4) (hk5 : k ≠ 5) : (k = 1 ∨ k = 2 ∨ k = 3) ∧ ks = [] := by
 unfold H1 at h
 rw [A2k, Bool.and_eq_true, Bool.and_eq_true, decide_eq_true_eq, decide_eq_true_eq] at h
 obtain ⟨h1, h2, h3⟩ := N9 k
 have hl := h.1.2
 have hk3 : k = 1 ∨ k = 2 ∨ k = 3 := by
  apply Classical.byContradiction
  intro hc
  rw [h3 (by omega) (by omega) (by omega) hk hk5] at hl; omega
 rw [h1 hk3] at hl
 exact ⟨hk3, List.length_eq_zero_iff.1 (by omega)⟩
theorem A94 {cx : Cx} {e : Tm} {T : Ty} (hc : cv e) (h : H9 cx e = some T) : H1 T = true := by
 obtain ⟨k, nm, num, ty, fr, lb, ks⟩ := e
 exact B4P (fun hk => (hc.node.1.c14 hk).2.1) h
section inv
variable {cx : Cx} {nm : ByteArray} {num : Int} {ty fr : Ty} {lb : Int} {a b c : Tm} {T : Ty}
theorem B43 {x y : Ty} (h : A0W [x] [y] = true) : x = y := by
 simp only [A0W, Bool.and_true] at h; exact (X6 _ _).1 h
theorem A95 {x y x' y' : Ty} (h : A0W [x, y] [x', y'] = true) : x = x' ∧ y = y' := by
 simp only [A0W, Bool.and_true, Bool.and_eq_true] at h; exact ⟨(X6 _ _).1 h.1, (X6 _ _).1 h.2⟩
theorem B44 {x y z x' y' z' : Ty} (h : A0W [x, y, z] [x', y', z'] = true) : x = x' ∧ y = y' ∧ z = z' := by
 simp only [A0W, Bool.and_true, Bool.and_eq_true] at h; exact ⟨(X6 _ _).1 h.1, (X6 _ _).1 h.2.1, (X6 _ _).1 h.2.2⟩
theorem A5q : ∀ xs : List Ty, A0W xs xs = true
 | [] => rfl
 | a :: xs => by rw [A0W, A89, A5q xs]; rfl
theorem B45 (h : H9 cx (.mk 6 nm num ty fr lb [a, b]) = some T) : ∃ A, H9 cx a = some (.mk 4 [A, T]) ∧ H9 cx b = some A := by
 obtain ⟨us, hu, _, hn⟩ := A1A h
 rw [J9, if_neg (by omega)] at hu
 obtain ⟨x, y, hx, hy, rfl⟩ := A5p hu
 obtain ⟨_, w, hw, hs⟩ := hn (by decide)
 unfold J8 at hw
 simp only [show ¬((6 : Int) = 1) by decide, show ¬((6 : Int) = 2) by decide, show ¬((6 : Int) = 3 ∨ (6 : Int) = 4) by decide, show ¬((6 : Int) = 5) by decide, if_false, if_true, List.getD_cons_zero, List.getD_cons_succ] at hw
 split at hw
 ·rename_i p q hm
  split at hw
  ·cases hw
   obtain ⟨h1, h2⟩ := A95 hs
   subst h1 h2
   exact ⟨_, hx, hy⟩
  ·cases hw
 ·cases hw
theorem B46 {A : Ty} (hv : H1 T = true) (ha : H9 cx a = some (.mk 4 [A, T])) (hb : H9 cx b = some A) : H9 cx (.mk 6 nm num ty fr lb [a, b]) = some T := by
 refine A65 (us := [.mk 4 [A, T], A]) (w := [.mk 4 [A, T], A]) (B42 ha hb) (by decide) hv ?_ (A5q _)
 unfold J8
 simp only [show ¬((6 : Int) = 1) by decide, show ¬((6 : Int) = 2) by decide, show ¬((6 : Int) = 3 ∨ (6 : Int) = 4) by decide, show ¬((6 : Int) = 5) by decide, if_false, if_true, List.getD_cons_zero, List.getD_cons_succ, A1h, A2l]
theorem B47 {k : Int} (hk : k = 7 ∨ k = 8) (h : H9 cx (.mk k nm num ty fr lb [a, b]) = some T) : H9 cx a = some Q6 ∧ H9 cx b = some Q6 ∧ T = if k = 8 then S7 else Q6 := by
 obtain ⟨us, hu, _, hn⟩ := A1A h
 rw [J9, if_neg (by omega)] at hu
 obtain ⟨x, y, hx, hy, rfl⟩ := A5p hu
 obtain ⟨_, w, hw, hs⟩ := hn (by omega)
 unfold J8 at hw
 rw [if_neg (by omega), if_neg (by omega), if_neg (by omega), if_neg (by omega), if_neg (by omega), if_pos hk] at hw
 split at hw
 ·cases hw
  obtain ⟨h1, h2⟩ := A95 hs
  subst h1 h2
  exact ⟨hx, hy, rfl⟩
 ·cases hw
theorem B48 (h : H9 cx (.mk 9 nm num ty fr lb [a, b, c]) = some T) : H9 cx a = some S7 ∧ H9 cx b = some T ∧ H9 cx c = some T := by
 obtain ⟨us, hu, _, hn⟩ := A1A h
 rw [J9, if_neg (by omega)] at hu
 obtain ⟨x, y, z, hx, hy, hz, rfl⟩ := B41 hu
 obtain ⟨_, w, hw, hs⟩ := hn (by decide)
 unfold J8 at hw
 rw [if_neg (by omega), if_neg (by omega), if_neg (by omega), if_neg (by omega), if_neg (by omega), if_neg (by omega), if_pos rfl] at hw
 split at hw
 ·cases hw
  obtain ⟨h1, h2, h3⟩ := B44 hs
  simp only [List.getD_cons_zero, List.getD_cons_succ] at h2 h3 ⊢
  refine ⟨by rw [hx, h1], by rw [hy]; congr 1; exact h2.symm, by rw [hz]; congr 1; exact h3.symm⟩
 ·cases hw
theorem A96 (h : H9 cx (.mk 10 nm num ty fr lb [a, b]) = some T) : ∃ A B, H9 cx a = some A ∧ H9 cx b = some B ∧ T = .mk 5 [A, B] := by
 obtain ⟨us, hu, _, hn⟩ := A1A h
 rw [J9, if_neg (by omega)] at hu
 obtain ⟨x, y, hx, hy, rfl⟩ := A5p hu
 obtain ⟨_, w, hw, hs⟩ := hn (by decide)
 unfold J8 at hw
 rw [if_neg (by omega), if_neg (by omega), if_neg (by omega), if_neg (by omega), if_neg (by omega), if_neg (by omega), if_neg (by omega), if_pos rfl] at hw
 cases hw
 exact ⟨x, y, hx, hy, rfl⟩
theorem B49 {k : Int} (hk : k = 11 ∨ k = 12) (h : H9 cx (.mk k nm num ty fr lb [a]) = some T) : ∃ A B, H9 cx a = some (.mk 5 [A, B]) ∧ T = if k = 12 then B else A := by
 obtain ⟨us, hu, _, hn⟩ := A1A h
 rw [J9, if_neg (by omega)] at hu
 obtain ⟨x, hx, rfl⟩ := A4h hu
 obtain ⟨_, w, hw, hs⟩ := hn (by omega)
 unfold J8 at hw
 rw [if_neg (by omega), if_neg (by omega), if_neg (by omega), if_neg (by omega), if_neg (by omega), if_neg (by omega), if_neg (by omega), if_neg (by omega), if_neg (by omega)] at hw
 split at hw
 ·rename_i p q hm
  cases hw
  have h1 := B43 hs
  subst h1
  exact ⟨p, q, hx, rfl⟩
 ·cases hw
theorem A97 {k : Int} {A B : Ty} (hk : k = 11 ∨ k = 12) (hv : H1 (if k = 12 then B else A) = true) (h : H9 cx a = some (.mk 5 [A, B])) : H9 cx (.mk k nm num ty fr lb [a]) = some (if k = 12 then B else A) := by
 refine A65 (us := [.mk 5 [A, B]]) (w := [.mk 5 [A, B]]) (by rw [J9, if_neg (by omega)]; exact A66 h) (by omega) hv ?_ (A5q _)
 unfold J8
 rw [if_neg (by omega), if_neg (by omega), if_neg (by omega), if_neg (by omega), if_neg (by omega), if_neg (by omega), if_neg (by omega), if_neg (by omega), if_neg (by omega)]
 simp only [List.getD_cons_zero, A1h, if_true, List.getD_cons_succ]
theorem A4i (h : H9 cx (.mk 14 nm num ty fr lb [a]) = some T) : H9 cx a = some fr ∧ T = ty := by
 obtain ⟨us, hu, hn, _⟩ := A1A h
 obtain ⟨x, hx, rfl⟩ := A4h hu
 obtain ⟨h1, h2⟩ := hn rfl
 simp only [List.getD_cons_zero] at h1
 subst h1
 exact ⟨hx, h2⟩
theorem A1Y (h : H9 cx a = some fr) : H9 cx (.mk 14 nm num ty fr lb [a]) = some ty := by
 rw [H9, show J9 cx 14 nm ty = cx from rfl, A66 h]
 simp only [if_true, List.getD_cons_zero, A89]
theorem A98 (h : H9 cx (.mk 5 nm num ty fr lb [a]) = some T) : ∃ B, H9 (cx ++ [(nm, ty)]) a = some B ∧ T = .mk 4 [ty, B] := by
 obtain ⟨us, hu, _, hn⟩ := A1A h
 rw [J9, if_pos rfl] at hu
 obtain ⟨x, hx, rfl⟩ := A4h hu
 obtain ⟨_, w, hw, hs⟩ := hn (by decide)
 unfold J8 at hw
 rw [if_neg (by omega), if_neg (by omega), if_neg (by omega), if_pos rfl] at hw
 cases hw
 exact ⟨x, hx, rfl⟩
theorem A99 (h : H9 cx (.mk 1 nm num ty fr lb []) = some T) : P7 cx nm = some T := by
 obtain ⟨us, hu, _, hn⟩ := A1A h
 obtain ⟨_, w, hw, hs⟩ := hn (by decide)
 unfold J8 at hw
 rw [if_pos rfl] at hw
 split at hw
 ·rename_i t ht; cases hw; exact ht
 ·cases hw
theorem B5a (h : H9 cx (.mk 2 nm num ty fr lb []) = some T) : T = Q6 := by
 obtain ⟨us, hu, _, hn⟩ := A1A h
 obtain ⟨_, w, hw, hs⟩ := hn (by decide)
 cases hw; rfl
theorem B5b {k : Int} (hk : k = 3 ∨ k = 4) (h : H9 cx (.mk k nm num ty fr lb []) = some T) : T = S7 := by
 obtain ⟨us, hu, _, hn⟩ := A1A h
 obtain ⟨_, w, hw, hs⟩ := hn (by omega)
 rcases hk with rfl | rfl <;> (cases hw; rfl)
end inv
theorem A1i (cx : Cx) (x nm : ByteArray) (t : Ty) : P7 (cx ++ [(x, t)]) nm = if x = nm then some t else P7 cx nm := by
 unfold P7
 rw [List.length_append, show ([(x, t)] : Cx).length = 1 from rfl]
 have hl : (cx ++ [(x, t)])[cx.length]? = some (x, t) := by rw [List.getElem?_append_right (Nat.le_refl _)]; simp
 by_cases h : x = nm
 ·rw [A32 hl h, if_pos h]
 ·rw [A33 hl h, if_neg h]
  have : ∀ n, n ≤ cx.length → W2 (cx ++ [(x, t)]) nm n = W2 cx nm n := by
   intro n
   induction n with
   | zero => intro _; rfl
   | succ n ih =>
    intro hn
    rw [W2, W2, List.getElem?_append_left (by omega), ih (by omega)]
  exact this _ (Nat.le_refl _)
theorem B5c {cx cy : Cx} (h : ∀ x, P7 cx x = P7 cy x) (k : Int) (nm : ByteArray) (ty : Ty) : ∀ x, P7 (J9 cx k nm ty) x = P7 (J9 cy k nm ty) x := by
 intro x
 unfold J9
 split
 ·rw [A1i, A1i, h]
 ·exact h x
theorem B0a {cx cy : Cx} {k : Int} {nm : ByteArray} {ty : Ty} {h : List Ty} (he : P7 cx nm = P7 cy nm) : U2 cx k nm ty h = U2 cy k nm ty h := by
 unfold U2 J8
 rw [he]
mutual
theorem B5d : ∀ (e : Tm) (cx cy : Cx), (∀ x, P7 cx x = P7 cy x) → H9 cx e = H9 cy e
 | .mk k nm num ty fr lb ks, cx, cy, h => by
  rw [H9, H9, A68 ks _ _ (B5c h k nm ty)]
  split
  ·rfl
  ·rw [B0a (h nm)]
theorem A68 : ∀ (ts : List Tm) (cx cy : Cx), (∀ x, P7 cx x = P7 cy x) → N6 cx ts = N6 cy ts
 | [], _, _, _ => by rw [N6, N6]
 | t :: ts, cx, cy, h => by rw [N6, N6, B5d t cx cy h, A68 ts cx cy h]
end
theorem B5e {cx cy : Cx} {k : Int} {nm : ByteArray} {ty : Ty} {h : List Ty} (hk : k ≠ 1) : J8 cx k nm ty h = J8 cy k nm ty h := by
 unfold J8
 rw [if_neg hk, if_neg hk]
theorem B0b {cx cy : Cx} {k : Int} {nm : ByteArray} {ty : Ty} {h : List Ty} (hk : k ≠ 1) : U2 cx k nm ty h = U2 cy k nm ty h := by
 unfold U2; rw [B5e (cy := cy) hk]
mutual
theorem B0c {x : ByteArray} {A : Ty} {v : Tm} (hv : H9 [] v = some A) : ∀ (e : Tm) (cx cy : Cx) (T : Ty), cv e → (∀ y, y ≠ x → P7 cx y = P7 cy y) → P7 cx x = some A → H9 cx e = some T → H9 cy (R3 x v e) = some T
 | .mk k nm num ty fr lb ks, cx, cy, T, hc, h, hx, ht => by
  have hkk := hc.node.2
  have hop := hc.node.1.ops
  rw [R3]
  by_cases h1 : k = 1 ∧ nm = x
  ·rw [if_pos h1]
   obtain ⟨rfl, rfl⟩ := h1
   have hks : ks = [] := List.length_eq_zero_iff.1 (by have : C4 1 = 0 := rfl; omega)
   subst hks
   have h2 := A99 ht
   rw [hx] at h2
   cases h2
   have h3 := A9V cy v [] A hv
   rwa [List.append_nil] at h3
  ·rw [if_neg h1]
   by_cases h5 : k = 5 ∧ nm = x
   ·rw [if_pos h5]
    obtain ⟨rfl, rfl⟩ := h5
    rw [H9] at ht ⊢
    rw [← A68 ks (J9 cx 5 nm ty) (J9 cy 5 nm ty) (fun y => by
     rw [J9, J9, if_pos rfl, if_pos rfl, A1i, A1i]
     by_cases hy : nm = y
     ·rw [if_pos hy, if_pos hy]
     ·rw [if_neg hy, if_neg hy]; exact h y (fun e => hy e.symm))]
    split at ht
    ·cases ht
    ·rename_i us hu
     rw [B0b (cy := cx) (by decide)]
     exact ht
   ·rw [if_neg h5]
    rw [H9] at ht ⊢
    have hin : ∀ us, N6 (J9 cx k nm ty) ks = some us → N6 (J9 cy k nm ty) (Q2 x v ks) = some us := by
     intro us hu
     refine B0d hv ks _ _ us hkk ?_ ?_ hu
     ·intro y hy
      unfold J9
      split
      ·rw [A1i, A1i, h y hy]
      ·exact h y hy
     ·unfold J9
      split
      ·rename_i hk
       rw [A1i, if_neg (fun e => h5 ⟨hk, e⟩)]; exact hx
      ·exact hx
    split at ht
    ·cases ht
    ·rename_i us hu
     rw [hin us hu]
     simp only at ht ⊢
     by_cases hk1 : k = 1
     ·subst hk1
      have hn : nm ≠ x := fun e => h1 ⟨rfl, e⟩
      rw [B0a (h nm hn)] at ht
      exact ht
     ·rw [B0b (cy := cx) hk1]
      exact ht
theorem B0d {x : ByteArray} {A : Ty} {v : Tm} (hv : H9 [] v = some A) : ∀ (ts : List Tm) (cx cy : Cx) (us : List Ty), (∀ t ∈ ts, cv t) → (∀ y, y ≠ x → P7 cx y = P7 cy y) → P7 cx x = some A → N6 cx ts = some us → N6 cy (Q2 x v ts) = some us
 | [], cx, cy, us, _, _, _, hu => by rw [N6] at hu; cases hu; rw [Q2, N6]
 | t :: ts, cx, cy, us, hc, h, hx, hu => by
  rw [N6] at hu
  split at hu
  ·cases hu
  ·rename_i T hT
   split at hu
   ·cases hu
   ·rename_i Ts hTs
    cases hu
    rw [Q2, N6, B0c hv t cx cy T (hc t List.mem_cons_self) h hx hT, B0d hv ts cx cy Ts (fun u hu => hc u (List.mem_cons_of_mem _ hu)) h hx hTs]
end
theorem A5r {cx : Cx} : ∀ {ks : List Tm} {i : Nat} (hi : i < ks.length) {l l' l2 : Int} {us : List Tm} {h : List Ty} {u : Tm} {a : Ty}, M4 cx (ks.take i) l = some (us, h, l') → K8 cx ks[i] l' = some (u, a, l2) → M4 cx (ks.take (i + 1)) l = some (us ++ [u], h ++ [a], l2)
 | [], i, hi, _, _, _, _, _, _, _, _, _ => by simp at hi
 | t :: ts, 0, _, l, l', l2, us, h, u, a, h1, h2 => by
  simp only [List.take_zero, M4, Option.some.injEq, Prod.mk.injEq] at h1
  obtain ⟨rfl, rfl, rfl⟩ := h1
  simp only [List.getElem_cons_zero] at h2
  simp [M4, h2]
 | t :: ts, i + 1, hi, l, l', l2, us, h, u, a, h1, h2 => by
  simp only [List.take_succ_cons, M4] at h1 ⊢
  split at h1
  ·cases h1
  ·rename_i u1 a1 l1 he
   split at h1
   ·cases h1
   ·rename_i us1 h1' l1' hL
    simp only [Option.some.injEq, Prod.mk.injEq] at h1
    obtain ⟨rfl, rfl, rfl⟩ := h1
    simp only [List.getElem_cons_succ] at h2
    have := A5r (ks := ts) (i := i) (by simpa using hi) hL h2
    simp only [this, List.cons_append]
theorem B0e {cx : Cx} : ∀ {ks : List Tm} {i : Nat} (hi : i < ks.length) {l l' : Int} {us : List Tm} {h : List Ty}, M4 cx (ks.take i) l = some (us, h, l') → K8 cx ks[i] l' = none → M4 cx ks l = none
 | [], i, hi, _, _, _, _, _, _ => by simp at hi
 | t :: ts, 0, _, l, l', us, h, h1, h2 => by
  simp only [List.take_zero, M4, Option.some.injEq, Prod.mk.injEq] at h1
  obtain ⟨rfl, rfl, rfl⟩ := h1
  simp only [List.getElem_cons_zero] at h2
  simp [M4, h2]
 | t :: ts, i + 1, hi, l, l', us, h, h1, h2 => by
  simp only [List.take_succ_cons, M4] at h1 ⊢
  split at h1
  ·cases h1
  ·rename_i u1 a1 l1 he
   split at h1
   ·cases h1
   ·rename_i us1 h1' l1' hL
    simp only [Option.some.injEq, Prod.mk.injEq] at h1
    obtain ⟨rfl, rfl, rfl⟩ := h1
    simp only [List.getElem_cons_succ] at h2
    have := B0e (ks := ts) (i := i) (by simpa using hi) hL h2
    simp only [this]
theorem U9 (us : List Tm) (h : List Ty) (l : Int) : F9 us h [] l = (us, l) := by
 cases us with
 | nil => rfl
 | cons u us => cases h <;> rfl
theorem A5s : ∀ (us : List Tm) (h w : List Ty) (l : Int) (j : Nat) (hj : j < w.length) (hu : w.length ≤ us.length) (hh : w.length ≤ h.length),
  (F9 us h (w.take j) l).1.length = us.length ∧ (∀ (hq : j < (F9 us h (w.take j) l).1.length), (F9 us h (w.take j) l).1[j] = us[j]'(by omega)) ∧
  F9 us h (w.take (j + 1)) l = if N5 (h[j]'(by omega)) w[j] = true then F9 us h (w.take j) l else ((F9 us h (w.take j) l).1.set j (N1 (us[j]'(by omega)) (h[j]'(by omega)) w[j] ((F9 us h (w.take j) l).2 + 1)), (F9 us h (w.take j) l).2 + 1)
 | us, h, [], l, j, hj, _, _ => by simp at hj
 | [], h, b :: w, l, j, _, hu, _ => by simp at hu
 | u :: us, [], b :: w, l, j, _, _, hh => by simp at hh
 | u :: us, a :: h, b :: w, l, 0, _, _, _ => by
  refine ⟨by simp [F9], by simp [F9], ?_⟩
  simp only [List.take_succ_cons, List.take_zero, F9, U9, List.getElem_cons_zero, List.set_cons_zero]
 | u :: us, a :: h, b :: w, l, j + 1, hj, hu, hh => by
  simp only [List.take_succ_cons, List.getElem_cons_succ]
  by_cases hs : N5 a b = true
  ·have ih := A5s us h w l j (by simpa using hj) (by simpa using hu) (by simpa using hh)
   simp only [F9, if_pos hs]
   obtain ⟨i1, i2, i3⟩ := ih
   refine ⟨by simp [i1], fun hq => by simp [i2], ?_⟩
   rw [i3]
   split <;> simp
  ·have ih := A5s us h w (l + 1) j (by simpa using hj) (by simpa using hu) (by simpa using hh)
   simp only [F9, if_neg hs]
   obtain ⟨i1, i2, i3⟩ := ih
   refine ⟨by simp [i1], fun hq => by simp [i2], ?_⟩
   rw [i3]
   split <;> simp
theorem A3i : ∀ (us : List Tm) (h w : List Ty) (l : Int), (F9 us h w l).1.length = us.length
 | [], h, w, l => by simp [F9]
 | u :: us, [], w, l => by simp [F9]
 | u :: us, a :: h, [], l => by simp [F9]
 | u :: us, a :: h, b :: w, l => by
  simp only [F9]
  split
  ·simp [A3i us h w l]
  ·simp [A3i us h w (l + 1)]
theorem B5f {us : List Tm} {h w : List Ty} {l : Int} {j : Nat} (hj : j < w.length) (hu : w.length ≤ us.length) (hh : w.length ≤ h.length) :
  (F9 us h (w.take (j + 1)) l).1 = (F9 us h (w.take j) l).1.set j (if N5 (h[j]'(by omega)) w[j] = true then us[j]'(by omega) else N1 (us[j]'(by omega)) (h[j]'(by omega)) w[j] ((F9 us h (w.take j) l).2 + 1)) ∧
  (F9 us h (w.take (j + 1)) l).2 = (if N5 (h[j]'(by omega)) w[j] = true then (F9 us h (w.take j) l).2 else (F9 us h (w.take j) l).2 + 1) := by
 obtain ⟨h1, h2, h3⟩ := A5s us h w l j hj hu hh
 by_cases hs : N5 (h[j]'(by omega)) w[j] = true
 ·rw [h3, if_pos hs, if_pos hs, if_pos hs]
  refine ⟨?_, rfl⟩
  rw [← h2 (by omega), List.set_getElem_self]
 ·rw [h3, if_neg hs, if_neg hs, if_neg hs]
  exact ⟨rfl, rfl⟩
theorem A2m : ∀ (us : List Tm) (h w : List Ty) (l : Int), l ≤ (F9 us h w l).2 ∧ (F9 us h w l).2 ≤ l + us.length
 | [], h, w, l => by simp [F9]
 | u :: us, [], w, l => by simp [F9]; omega
 | u :: us, a :: h, [], l => by simp [F9]; omega
 | u :: us, a :: h, b :: w, l => by
  simp only [F9]
  split
  ·have := A2m us h w l; simp only [List.length_cons]; omega
  ·have := A2m us h w (l + 1); simp only [List.length_cons]; omega
mutual
def A1Z : Ty → Ty → Bool
 | .mk k ks, t => decide (t.k = 1) || (decide (k = t.k) && A0G ks t.ks)
def A0G : List Ty → List Ty → Bool
 | [], [] => true
 | a :: xs, b :: ys => A1Z a b && A0G xs ys
 | _, _ => false
end
theorem A1B (k k' : Int) (ks ks' : List Ty) : A1Z (.mk k ks) (.mk k' ks') = (decide (k' = 1) || (decide (k = k') && A0G ks ks')) := by rw [A1Z]; rfl
mutual
def A2L : Tm → Tm → Bool
 | .mk k nm num ty _ _ ks, u => decide (k = u.k ∧ nm = u.nm ∧ num = u.num) && (decide (k ≠ 5 ∧ k ≠ 13) || A1Z ty u.ty) && A2n ks u.ks
def A2n : List Tm → List Tm → Bool
 | [], [] => true
 | a :: xs, b :: ys => A2L a b && A2n xs ys
 | _, _ => false
end
theorem B0f {k k' : Int} {nm nm' : ByteArray} {num num' : Int} {ty ty' fr fr' : Ty} {lb lb' : Int} {ks ks' : List Tm} :
  A2L (.mk k nm num ty fr lb ks) (.mk k' nm' num' ty' fr' lb' ks') = true ↔ k = k' ∧ nm = nm' ∧ num = num' ∧ (k = 5 ∨ k = 13 → A1Z ty ty' = true) ∧ A2n ks ks' = true := by
 rw [A2L]
 show (decide (k = k' ∧ nm = nm' ∧ num = num') && (decide (k ≠ 5 ∧ k ≠ 13) || A1Z ty ty') && A2n ks ks') = true ↔ _
 simp only [Bool.and_eq_true, Bool.or_eq_true, decide_eq_true_eq]
 constructor
 ·rintro ⟨⟨⟨a, b, c⟩, e⟩, d⟩
  exact ⟨a, b, c, fun h => e.resolve_left (by omega), d⟩
 ·rintro ⟨a, b, c, e, d⟩
  refine ⟨⟨⟨a, b, c⟩, ?_⟩, d⟩
  by_cases h : k = 5 ∨ k = 13
  ·exact .inr (e h)
  ·exact .inl (by omega)
def A5t (a b : Tm) : Bool := M8 a && (M8 b && A2L a b)
theorem A2o : ∀ (t : Ty), H1 t = true → ∃ a : GT, t = a.ty
 | .mk k ks, h => by
  by_cases h4 : k = 4
  ·obtain ⟨x, y, hxy, hx, hy⟩ := A3h (.inl h4) h
   have : SizeOf.sizeOf x < SizeOf.sizeOf ks ∧ SizeOf.sizeOf y < SizeOf.sizeOf ks := by subst hxy; simp; omega
   obtain ⟨a, ha⟩ := A2o x hx
   obtain ⟨b, hb⟩ := A2o y hy
   exact ⟨.fn a b, by rw [h4, hxy, ha, hb]; rfl⟩
  ·by_cases h5 : k = 5
   ·obtain ⟨x, y, hxy, hx, hy⟩ := A3h (.inr h5) h
    have : SizeOf.sizeOf x < SizeOf.sizeOf ks ∧ SizeOf.sizeOf y < SizeOf.sizeOf ks := by subst hxy; simp; omega
    obtain ⟨a, ha⟩ := A2o x hx
    obtain ⟨b, hb⟩ := A2o y hy
    exact ⟨.pr a b, by rw [h5, hxy, ha, hb]; rfl⟩
   ·obtain ⟨h1, rfl⟩ := A67 h h4 h5
    rcases h1 with rfl | rfl | rfl
    ·exact ⟨.any, rfl⟩
    ·exact ⟨.int, rfl⟩
    ·exact ⟨.bool, rfl⟩
 termination_by t => SizeOf.sizeOf t
 decreasing_by all_goals (simp only [Ty.mk.sizeOf_spec]; omega)
theorem B0g : ∀ (a b : GT), A1Z a.ty b.ty = true ↔ Le a b := by
 intro a
 induction a with
 | any => intro b; cases b <;> simp [GT.ty, A1B, A0G] <;> first | exact .any | (intro h; cases h)
 | int => intro b; cases b <;> simp [GT.ty, A1B, A0G] <;> first | exact .any | exact .int | (intro h; cases h)
 | bool => intro b; cases b <;> simp [GT.ty, A1B, A0G] <;> first | exact .any | exact .bool | (intro h; cases h)
 | fn x y i j =>
  intro b
  cases b with
  | fn z w => simp only [GT.ty, A1B, A0G, i, j, Bool.or_eq_true, Bool.and_eq_true, decide_eq_true_eq, Bool.and_true, true_and]; exact ⟨fun h => by rcases h with h | h; exact absurd h (by decide); exact .fn h.1 h.2, fun h => by cases h with | fn a b => exact .inr ⟨a, b⟩⟩
  | any => simp [GT.ty, A1B, A0G]; exact .any
  | _ => simp [GT.ty, A1B, A0G]; intro h; cases h
 | pr x y i j =>
  intro b
  cases b with
  | pr z w => simp only [GT.ty, A1B, A0G, i, j, Bool.or_eq_true, Bool.and_eq_true, decide_eq_true_eq, Bool.and_true, true_and]; exact ⟨fun h => by rcases h with h | h; exact absurd h (by decide); exact .pr h.1 h.2, fun h => by cases h with | pr a b => exact .inr ⟨a, b⟩⟩
  | any => simp [GT.ty, A1B, A0G]; exact .any
  | _ => simp [GT.ty, A1B, A0G]; intro h; cases h
theorem A0f : ∀ (a b : GT), K3 a.ty b.ty = true ↔ Co a b := by
 intro a
 induction a with
 | any => intro b; cases b <;> simp [GT.ty, S9, O5] <;> exact .l
 | int => intro b; cases b <;> simp [GT.ty, S9, O5] <;> first | exact .r | exact .int | (intro h; cases h)
 | bool => intro b; cases b <;> simp [GT.ty, S9, O5] <;> first | exact .r | exact .bool | (intro h; cases h)
 | fn x y i j =>
  intro b
  cases b with
  | fn z w => simp only [GT.ty, S9, O5, i, j, Bool.or_eq_true, Bool.and_eq_true, decide_eq_true_eq, Bool.and_true, true_and]; exact ⟨fun h => by rcases h with h | h; exact absurd h (by decide); exact .fn h.1 h.2, fun h => by cases h with | fn a b => exact .inr ⟨a, b⟩⟩
  | any => simp [GT.ty, S9, O5]; exact .r
  | _ => simp [GT.ty, S9, O5]; intro h; cases h
 | pr x y i j =>
  intro b
  cases b with
  | pr z w => simp only [GT.ty, S9, O5, i, j, Bool.or_eq_true, Bool.and_eq_true, decide_eq_true_eq, Bool.and_true, true_and]; exact ⟨fun h => by rcases h with h | h; exact absurd h (by decide); exact .pr h.1 h.2, fun h => by cases h with | pr a b => exact .inr ⟨a, b⟩⟩
  | any => simp [GT.ty, S9, O5]; exact .r
  | _ => simp [GT.ty, S9, O5]; intro h; cases h
def S5 : GT → GT → GT
 | .any, b => b
 | .fn a b, .fn c d => .fn (S5 a c) (S5 b d)
 | .pr a b, .pr c d => .pr (S5 a c) (S5 b d)
 | a, _ => a
theorem A3j (a : GT) : S5 a .any = a := by cases a <;> rfl
theorem A69 {a b : GT} (h : Co a b) : U1 a.ty b.ty = (S5 a b).ty := by
 induction h with
 | l => simp [GT.ty, U1, S5]
 | @r a => rw [A3j]; cases a <;> simp [GT.ty, A1f]
 | int => simp [GT.ty, A1f, T2, S5]
 | bool => simp [GT.ty, A1f, T2, S5]
 | fn _ _ i j => simp [GT.ty, A1f, T2, S5, i, j]
 | pr _ _ i j => simp [GT.ty, A1f, T2, S5, i, j]
theorem A5u {a b : GT} (h : Co a b) : Le (S5 a b) a := by
 induction h with
 | l => exact .any
 | r => rw [A3j]; exact Le.refl
 | int => exact .int
 | bool => exact .bool
 | fn _ _ i j => exact .fn i j
 | pr _ _ i j => exact .pr i j
theorem A5v {a b : GT} (h : Co a b) : Le (S5 a b) b := by
 induction h with
 | l => exact Le.refl
 | r => exact .any
 | int => exact .int
 | bool => exact .bool
 | fn _ _ i j => exact .fn i j
 | pr _ _ i j => exact .pr i j
theorem B5g {a b : GT} (h : Co a b) : ∀ {a' b' : GT}, Le a a' → Le b b' → Le (S5 a b) (S5 a' b') := by
 induction h with
 | l => intro a' b' h1 h2; cases h1; exact h2
 | r => intro a' b' h1 h2; cases h2; rw [A3j, A3j]; exact h1
 | int => intro a' b' h1 h2; cases h1 <;> cases h2 <;> first | exact .int | exact .any
 | bool => intro a' b' h1 h2; cases h1 <;> cases h2 <;> first | exact .bool | exact .any
 | fn c d i j =>
  intro a' b' h1 h2
  cases h1 with
  | any => exact (A5v (.fn c d)).trans h2
  | fn p q => cases h2 with
   | any => rw [A3j]; exact (A5u (.fn c d)).trans (.fn p q)
   | fn r s => exact .fn (i p r) (j q s)
 | pr c d i j =>
  intro a' b' h1 h2
  cases h1 with
  | any => exact (A5v (.pr c d)).trans h2
  | pr p q => cases h2 with
   | any => rw [A3j]; exact (A5u (.pr c d)).trans (.pr p q)
   | pr r s => exact .pr (i p r) (j q s)
theorem B5h {a b : GT} (h : Le a b) : ∀ (d : Int), L6 a.ty d = true → L6 b.ty d = true := by
 induction h with
 | @any a => intro d h; cases a <;> (simp only [GT.ty, A2k, Bool.and_eq_true, decide_eq_true_eq] at h ⊢; exact ⟨⟨h.1.1, rfl⟩, by rw [T9]⟩)
 | int => exact fun _ h => h
 | bool => exact fun _ h => h
 | fn _ _ i j =>
  intro d h
  simp only [GT.ty, A2k, T9, Bool.and_eq_true, decide_eq_true_eq] at h ⊢
  exact ⟨⟨h.1.1, rfl⟩, i _ h.2.1, j _ h.2.2.1, trivial⟩
 | pr _ _ i j =>
  intro d h
  simp only [GT.ty, A2k, T9, Bool.and_eq_true, decide_eq_true_eq] at h ⊢
  exact ⟨⟨h.1.1, rfl⟩, i _ h.2.1, j _ h.2.2.1, trivial⟩
theorem A2M {a b : GT} (h : Le a b) (hv : H1 a.ty = true) : H1 b.ty = true := B5h h 1 hv
def gmF : GT → Option (GT × GT)
 | .fn a b => some (a, b)
 | .any => some (.any, .any)
 | _ => none
def gmP : GT → Option (GT × GT)
 | .pr a b => some (a, b)
 | .any => some (.any, .any)
 | _ => none
theorem A7a (a : GT) : S1 4 a.ty = (gmF a).map fun p => (p.1.ty, p.2.ty) := by cases a <;> rfl
theorem A7b (a : GT) : S1 5 a.ty = (gmP a).map fun p => (p.1.ty, p.2.ty) := by cases a <;> rfl
theorem B5i {a b p q : GT} (h : Le a b) (hm : gmF a = some (p, q)) : Co a (.fn p q) ∧ ∃ p' q', gmF b = some (p', q') ∧ Le p p' ∧ Le q q' ∧ Co b (.fn p' q') := by
 cases h with
 | any =>
  refine ⟨?_, .any, .any, rfl, .any, .any, .l⟩
  cases a with
  | fn _ _ => cases hm; exact Co.refl
  | any => exact .l
  | _ => cases hm
 | fn h1 h2 => cases hm; exact ⟨Co.refl, _, _, rfl, h1, h2, Co.refl⟩
 | _ => cases hm
theorem B5j {a b p q : GT} (h : Le a b) (hm : gmP a = some (p, q)) : Co a (.pr p q) ∧ ∃ p' q', gmP b = some (p', q') ∧ Le p p' ∧ Le q q' ∧ Co b (.pr p' q') := by
 cases h with
 | any =>
  refine ⟨?_, .any, .any, rfl, .any, .any, .l⟩
  cases a with
  | pr _ _ => cases hm; exact Co.refl
  | any => exact .l
  | _ => cases hm
 | pr h1 h2 => cases hm; exact ⟨Co.refl, _, _, rfl, h1, h2, Co.refl⟩
 | _ => cases hm
def CxR (cx cx' : Cx) (Γ : GC) : Prop := ∀ x a, P7 cx x = some a → ∃ A A', a = A.ty ∧ P7 cx' x = some A'.ty ∧ Γ x = some (A, A') ∧ Le A A'
theorem B5k : CxR [] [] N3 := by intro x a h; simp [P7, W2] at h
theorem B5l {cx cx' : Cx} {Γ : GC} (h : CxR cx cx' Γ) {A A' : GT} (hl : Le A A') (x : ByteArray) : CxR (cx ++ [(x, A.ty)]) (cx' ++ [(x, A'.ty)]) (gup Γ x A A') := by
 intro y a ha
 rw [A1i] at ha ⊢
 unfold gup
 by_cases hy : x = y
 ·rw [if_pos hy] at ha ⊢
  rw [if_pos hy]
  cases ha
  exact ⟨A, A', rfl, rfl, rfl, hl⟩
 ·rw [if_neg hy] at ha ⊢
  rw [if_neg hy]
  exact h y a ha
def P1 (A B : GT) (l : Int) (e : GE) : GE := if N5 A.ty B.ty = true then e else .cast A B l e
theorem A10 {Γ : GC} {e e' : GE} {A A' B B' : GT} {l l' : Int} (h : GP Γ e e' A A') (h1 : Co A B) (h2 : Co A' B') (h3 : Le B B') : GP Γ (P1 A B l e) (P1 A' B' l' e') B B' := by
 unfold P1
 by_cases hs : N5 A.ty B.ty = true
 ·rw [if_pos hs]
  obtain rfl := GT.inj ((X6 _ _).1 hs)
  by_cases ht : N5 A'.ty B'.ty = true
  ·rw [if_pos ht]
   obtain rfl := GT.inj ((X6 _ _).1 ht)
   exact h
  ·rw [if_neg ht]; exact .castR h h2 h3
 ·rw [if_neg hs]
  by_cases ht : N5 A'.ty B'.ty = true
  ·rw [if_pos ht]
   obtain rfl := GT.inj ((X6 _ _).1 ht)
   exact .castL h h1 h3
  ·rw [if_neg ht]; exact .castB h h1 h2 h3
theorem A7c (e : GE) (us : List Tm) (A B : GT) (h w : List Ty) (l : Int) : ∃ m l1, F9 (e.tm :: us) (A.ty :: h) (B.ty :: w) l = ((P1 A B m e).tm :: (F9 us h w l1).1, (F9 us h w l1).2) := by
 rw [F9]
 unfold P1
 by_cases hs : N5 A.ty B.ty = true
 ·rw [if_pos hs]; exact ⟨0, l, by rw [if_pos hs]⟩
 ·rw [if_neg hs]; exact ⟨l + 1, l + 1, by rw [if_neg hs]; rfl⟩
theorem A2N (e : GE) (A B : GT) (l : Int) : ∃ m l1, F9 [e.tm] [A.ty] [B.ty] l = ([(P1 A B m e).tm], l1) := by
 obtain ⟨m, l1, h⟩ := A7c e [] A B [] [] l
 rw [U9] at h
 exact ⟨m, l1, h⟩
theorem A2O (e f : GE) (A B C D : GT) (l : Int) : ∃ m n l1, F9 [e.tm, f.tm] [A.ty, C.ty] [B.ty, D.ty] l = ([(P1 A B m e).tm, (P1 C D n f).tm], l1) := by
 obtain ⟨m, l1, h⟩ := A7c e [f.tm] A B [C.ty] [D.ty] l
 obtain ⟨n, l2, h2⟩ := A2N f C D l1
 rw [h2] at h
 exact ⟨m, n, l2, h⟩
theorem A7d (e f g : GE) (A B C D E F : GT) (l : Int) : ∃ m n o l1, F9 [e.tm, f.tm, g.tm] [A.ty, C.ty, E.ty] [B.ty, D.ty, F.ty] l = ([(P1 A B m e).tm, (P1 C D n f).tm, (P1 E F o g).tm], l1) := by
 obtain ⟨m, l1, h⟩ := A7c e [f.tm, g.tm] A B [C.ty, E.ty] [D.ty, F.ty] l
 obtain ⟨n, o, l2, h2⟩ := A2O f g C D E F l1
 rw [h2] at h
 exact ⟨m, n, o, l2, h⟩
inductive GPL (Γ : GC) : List GE → List GE → List GT → List GT → Prop
 | nil : GPL Γ [] [] [] []
 | cons {e e' A A' es es' As As'} : GP Γ e e' A A' → GPL Γ es es' As As' → GPL Γ (e :: es) (e' :: es') (A :: As) (A' :: As')
theorem GPL.one {Γ : GC} {es es' : List GE} {As As' : List GT} (h : GPL Γ es es' As As') (hl : es.length = 1) : ∃ e e' A A', es = [e] ∧ es' = [e'] ∧ As = [A] ∧ As' = [A'] ∧ GP Γ e e' A A' := by
 cases h with
 | nil => simp at hl
 | cons h h2 => cases h2 with
  | nil => exact ⟨_, _, _, _, rfl, rfl, rfl, rfl, h⟩
  | cons _ _ => simp at hl
theorem GPL.two {Γ : GC} {es es' : List GE} {As As' : List GT} (h : GPL Γ es es' As As') (hl : es.length = 2) : ∃ e e' A A' f f' B B', es = [e, f] ∧ es' = [e', f'] ∧ As = [A, B] ∧ As' = [A', B'] ∧ GP Γ e e' A A' ∧ GP Γ f f' B B' := by
 cases h with
 | nil => simp at hl
 | cons h h2 =>
  obtain ⟨f, f', B, B', rfl, rfl, rfl, rfl, h3⟩ := h2.one (by simpa using hl)
  exact ⟨_, _, _, _, f, f', B, B', rfl, rfl, rfl, rfl, h, h3⟩
theorem GPL.three {Γ : GC} {es es' : List GE} {As As' : List GT} (h : GPL Γ es es' As As') (hl : es.length = 3) : ∃ e e' A A' f f' B B' g g' C C', es = [e, f, g] ∧ es' = [e', f', g'] ∧ As = [A, B, C] ∧ As' = [A', B', C'] ∧ GP Γ e e' A A' ∧ GP Γ f f' B B' ∧ GP Γ g g' C C' := by
 cases h with
 | nil => simp at hl
 | cons h h2 =>
  obtain ⟨f, f', B, B', g, g', C, C', rfl, rfl, rfl, rfl, h3, h4⟩ := h2.two (by simpa using hl)
  exact ⟨_, _, _, _, f, f', B, B', g, g', C, C', rfl, rfl, rfl, rfl, h, h3, h4⟩
theorem GPL.zero {Γ : GC} {es es' : List GE} {As As' : List GT} (h : GPL Γ es es' As As') (hl : es.length = 0) : es = [] ∧ es' = [] ∧ As = [] ∧ As' = [] := by
 cases h with
 | nil => exact ⟨rfl, rfl, rfl, rfl⟩
 | cons _ _ => simp at hl
theorem A1C {cx : Cx} {k : Int} {nm : ByteArray} {num : Int} {ty fr : Ty} {lb : Int} {us : List Tm} {h : List Ty} {l : Int} {u : Tm} {a : Ty} {l2 : Int} (he : Q7 cx k nm num ty fr lb us h l = some (u, a, l2)) :
  ∃ w, J8 cx k nm ty h = some (w, a) ∧ H1 a = true ∧ u = if k = 13 then (F9 us h w l).1.getD 0 E2 else .mk k nm num ty fr lb (F9 us h w l).1 := by
 unfold Q7 at he
 split at he
 ·cases he
 ·rename_i w t hn
  simp only [Option.some.injEq, Prod.mk.injEq] at he
  obtain ⟨rfl, rfl, rfl⟩ := he
  obtain ⟨h1, h2⟩ := A5k hn
  exact ⟨w, h2, h1, rfl⟩
theorem X2 {cx : Cx} {k : Int} {nm : ByteArray} {num : Int} {ty fr : Ty} {lb : Int} {us : List Tm} {h : List Ty} {l : Int} {w : List Ty} {a : Ty} (hw : J8 cx k nm ty h = some (w, a)) (hv : H1 a = true) :
  Q7 cx k nm num ty fr lb us h l = some (if k = 13 then (F9 us h w l).1.getD 0 E2 else .mk k nm num ty fr lb (F9 us h w l).1, a, (F9 us h w l).2) := by
 unfold Q7 U2
 rw [hw]
 simp only [hv, if_true]
theorem A7e {k : Int} {nm : ByteArray} {num : Int} {ty fr : Ty} {lb : Int} {ks : List Tm} {d : Int} (h : L7 12 14 (.mk k nm num ty fr lb ks) d = true) :
  C4 k = ks.length ∧ k ≠ 14 ∧ (¬(k = 1 ∨ k = 5) → nm = ⟨#[]⟩) ∧ (k ≠ 2 → num = 0) ∧ (k = 5 ∨ k = 13 → H1 ty = true) ∧ (¬(k = 5 ∨ k = 13) → ty = A6) ∧ fr = A6 ∧ lb = 0 ∧ L5 12 14 ks (d + 1) = true := by
 obtain ⟨_, h2, h3, h4⟩ := X8 h
 obtain ⟨n1, n2, n3, n4, n5, n6, n7, n8, n9⟩ := T0.1 h3
 exact ⟨n1, h2, n3, fun hk => by have := A2H.1 (n5 hk); omega, fun hk => n6 (by omega), fun hk => A0X (n7 (by omega)), A0X (n9 h2).1, (n9 h2).2, h4⟩
abbrev ElR (Γ : GC) (u : Tm) (a : Ty) (r : Option (Tm × Ty × Int)) : Prop := ∃ e A e' A' l2, u = e.tm ∧ a = A.ty ∧ r = some (e'.tm, A'.ty, l2) ∧ GP Γ e e' A A'
section
variable {cx cx' : Cx} {Γ : GC} {es es' : List GE} {As As' : List GT} {l l' : Int} {u : Tm} {a : Ty} {l2 : Int} {nm : ByteArray} {num : Int}
theorem B5m (hc : CxR cx cx' Γ) (he : Q7 cx 1 nm 0 A6 A6 0 [] [] l = some (u, a, l2)) : ElR Γ u a (Q7 cx' 1 nm 0 A6 A6 0 [] [] l') := by
 obtain ⟨w, hw, hv, rfl⟩ := A1C he
 unfold J8 at hw
 rw [if_pos rfl] at hw
 split at hw
 ·rename_i t ht
  cases hw
  obtain ⟨A, A', rfl, h2, h3, h4⟩ := hc _ _ ht
  refine ⟨.var nm, A, .var nm, A', l', ?_, rfl, ?_, .var h3 h4⟩
  ·rw [U9, if_neg (by decide)]; rfl
  ·rw [X2 (w := []) (a := A'.ty) (by unfold J8; rw [if_pos rfl, h2]) (A2M h4 hv), U9, if_neg (by decide)]; rfl
 ·cases hw
theorem B5n (he : Q7 cx 2 ⟨#[]⟩ num A6 A6 0 [] [] l = some (u, a, l2)) : ElR Γ u a (Q7 cx' 2 ⟨#[]⟩ num A6 A6 0 [] [] l') := by
 obtain ⟨w, hw, hv, rfl⟩ := A1C he
 cases hw
 exact ⟨.num num, .int, .num num, .int, l', by rw [U9, if_neg (by decide)]; rfl, rfl, by rw [X2 (w := []) (a := Q6) rfl hv, U9, if_neg (by decide)]; rfl, .num⟩
theorem B5o (b : Bool) (he : Q7 cx (if b = true then 3 else 4) ⟨#[]⟩ 0 A6 A6 0 [] [] l = some (u, a, l2)) : ElR Γ u a (Q7 cx' (if b = true then 3 else 4) ⟨#[]⟩ 0 A6 A6 0 [] [] l') := by
 obtain ⟨w, hw, hv, rfl⟩ := A1C he
 cases b <;> (cases hw; exact ⟨.tru _, .bool, .tru _, .bool, l', by rw [U9, if_neg (by decide)]; rfl, rfl, by rw [X2 (w := []) (a := S7) rfl hv, U9, if_neg (by decide)]; rfl, .tru⟩)
theorem B5p {A A' B B' : GT} {e e' : GE} (hA : Le A A') (hp : GP (gup Γ nm A A') e e' B B') (he : Q7 cx 5 nm 0 A.ty A6 0 [e.tm] [B.ty] l = some (u, a, l2)) : ElR Γ u a (Q7 cx' 5 nm 0 A'.ty A6 0 [e'.tm] [B'.ty] l') := by
 obtain ⟨w, hw, hv, rfl⟩ := A1C he
 cases hw
 exact ⟨.lam nm A e, .fn A B, .lam nm A' e', .fn A' B', l', by rw [U9, if_neg (by decide)]; rfl, rfl, by rw [X2 (w := []) (a := .mk 4 [A'.ty, B'.ty]) rfl (A2M (.fn hA hp.le) hv), U9, if_neg (by decide)]; rfl, .lam hA hp⟩
theorem B5q {A A' B B' : GT} {e e' f f' : GE} (hp : GP Γ e e' A A') (hq : GP Γ f f' B B') (he : Q7 cx 6 ⟨#[]⟩ 0 A6 A6 0 [e.tm, f.tm] [A.ty, B.ty] l = some (u, a, l2)) : ElR Γ u a (Q7 cx' 6 ⟨#[]⟩ 0 A6 A6 0 [e'.tm, f'.tm] [A'.ty, B'.ty] l') := by
 obtain ⟨w, hw, hv, rfl⟩ := A1C he
 unfold J8 at hw
 rw [if_neg (by decide), if_neg (by decide), if_neg (by decide), if_neg (by decide), if_pos rfl] at hw
 simp only [List.getD_cons_zero, List.getD_cons_succ, A7a] at hw
 cases hm : gmF A with
 | none => rw [hm] at hw; cases hw
 | some pq =>
  obtain ⟨p, q⟩ := pq
  rw [hm] at hw
  simp only [Option.map_some] at hw
  split at hw
  ·rename_i hc
   cases hw
   obtain ⟨c1, p', q', hm', h1, h2, c2⟩ := B5i hp.le hm
   have hco := (A0f _ _).1 hc
   have hco' := hco.up hq.le h1
   obtain ⟨m, n, l1, h3⟩ := A2O e f A (.fn p q) B p l
   obtain ⟨m', n', l1', h3'⟩ := A2O e' f' A' (.fn p' q') B' p' l'
   refine ⟨.app (P1 A (.fn p q) m e) (P1 B p n f), q, .app (P1 A' (.fn p' q') m' e') (P1 B' p' n' f'), q', l1', ?_, rfl, ?_, .app (A10 hp c1 c2 (.fn h1 h2)) (A10 hq hco hco' h1)⟩
   ·rw [if_neg (by decide)]
    show Tm.mk _ _ _ _ _ _ (F9 [e.tm, f.tm] [A.ty, B.ty] [(GT.fn p q).ty, p.ty] l).1 = _
    rw [h3]; rfl
   ·rw [X2 (w := [(GT.fn p' q').ty, p'.ty]) (a := q'.ty) ?_ (A2M h2 hv), if_neg (by decide), h3']
    ·rfl
    ·unfold J8
     rw [if_neg (by decide), if_neg (by decide), if_neg (by decide), if_neg (by decide), if_pos rfl]
     simp only [List.getD_cons_zero, List.getD_cons_succ, A7a, hm', Option.map_some]
     rw [if_pos ((A0f _ _).2 hco')]; rfl
  ·cases hw
theorem B5r (s : Bool) {A A' B B' : GT} {e e' f f' : GE} (hp : GP Γ e e' A A') (hq : GP Γ f f' B B') (he : Q7 cx (if s = true then 8 else 7) ⟨#[]⟩ 0 A6 A6 0 [e.tm, f.tm] [A.ty, B.ty] l = some (u, a, l2)) : ElR Γ u a (Q7 cx' (if s = true then 8 else 7) ⟨#[]⟩ 0 A6 A6 0 [e'.tm, f'.tm] [A'.ty, B'.ty] l') := by
 have hk : (if s = true then (8 : Int) else 7) = 7 ∨ (if s = true then (8 : Int) else 7) = 8 := by cases s <;> simp
 have hT : (if (if s = true then (8 : Int) else 7) = 8 then S7 else Q6) = GT.ty (if s = true then .bool else .int) := by cases s <;> rfl
 obtain ⟨w, hw, hv, rfl⟩ := A1C he
 unfold J8 at hw
 rw [if_neg (by omega), if_neg (by omega), if_neg (by omega), if_neg (by omega), if_neg (by omega), if_pos hk] at hw
 simp only [List.getD_cons_zero, List.getD_cons_succ] at hw
 split at hw
 ·rename_i hc
  rw [hT] at hw
  cases hw
  have c1 := (A0f A .int).1 hc.1
  have c2 := (A0f B .int).1 hc.2
  have d1 := c1.up hp.le Le.refl
  have d2 := c2.up hq.le Le.refl
  obtain ⟨m, n, l1, h3⟩ := A2O e f A .int B .int l
  obtain ⟨m', n', l1', h3'⟩ := A2O e' f' A' .int B' .int l'
  refine ⟨.ar s (P1 A .int m e) (P1 B .int n f), _, .ar s (P1 A' .int m' e') (P1 B' .int n' f'), _, l1', ?_, rfl, ?_, .ar (A10 hp c1 d1 .int) (A10 hq c2 d2 .int)⟩
  ·rw [if_neg (by omega)]
   show Tm.mk _ _ _ _ _ _ (F9 [e.tm, f.tm] [A.ty, B.ty] [GT.int.ty, GT.int.ty] l).1 = _
   rw [h3]; rfl
  ·rw [X2 (w := [GT.int.ty, GT.int.ty]) (a := GT.ty (if s = true then .bool else .int)) ?_ hv, if_neg (by omega), h3']
   ·rfl
   ·unfold J8
    rw [if_neg (by omega), if_neg (by omega), if_neg (by omega), if_neg (by omega), if_neg (by omega), if_pos hk]
    simp only [List.getD_cons_zero, List.getD_cons_succ]
    rw [if_pos ⟨(A0f A' .int).2 d1, (A0f B' .int).2 d2⟩, hT]; rfl
 ·cases hw
theorem B5s {A A' B B' C C' : GT} {e e' f f' g g' : GE} (hp : GP Γ e e' A A') (hq : GP Γ f f' B B') (hr : GP Γ g g' C C') (he : Q7 cx 9 ⟨#[]⟩ 0 A6 A6 0 [e.tm, f.tm, g.tm] [A.ty, B.ty, C.ty] l = some (u, a, l2)) :
  ElR Γ u a (Q7 cx' 9 ⟨#[]⟩ 0 A6 A6 0 [e'.tm, f'.tm, g'.tm] [A'.ty, B'.ty, C'.ty] l') := by
 obtain ⟨w, hw, hv, rfl⟩ := A1C he
 unfold J8 at hw
 rw [if_neg (by decide), if_neg (by decide), if_neg (by decide), if_neg (by decide), if_neg (by decide), if_neg (by decide), if_pos rfl] at hw
 simp only [List.getD_cons_zero, List.getD_cons_succ] at hw
 split at hw
 ·rename_i hc
  have c1 := (A0f A .bool).1 hc.1
  have c2 := (A0f B C).1 hc.2
  have d1 := c1.up hp.le Le.refl
  have d2 := c2.up hq.le hr.le
  rw [A69 c2] at hw
  cases hw
  have hM := B5g c2 hq.le hr.le
  obtain ⟨m, n, o, l1, h3⟩ := A7d e f g A .bool B (S5 B C) C (S5 B C) l
  obtain ⟨m', n', o', l1', h3'⟩ := A7d e' f' g' A' .bool B' (S5 B' C') C' (S5 B' C') l'
  refine ⟨.ite (P1 A .bool m e) (P1 B (S5 B C) n f) (P1 C (S5 B C) o g), S5 B C, .ite (P1 A' .bool m' e') (P1 B' (S5 B' C') n' f') (P1 C' (S5 B' C') o' g'), S5 B' C', l1', ?_, rfl, ?_,
   .ite (A10 hp c1 d1 .bool) (A10 hq (A5u c2).co.symm (A5u d2).co.symm hM) (A10 hr (A5v c2).co.symm (A5v d2).co.symm hM)⟩
  ·rw [if_neg (by decide)]
   show Tm.mk _ _ _ _ _ _ (F9 [e.tm, f.tm, g.tm] [A.ty, B.ty, C.ty] [GT.bool.ty, (S5 B C).ty, (S5 B C).ty] l).1 = _
   rw [h3]; rfl
  ·rw [X2 (w := [GT.bool.ty, (S5 B' C').ty, (S5 B' C').ty]) (a := (S5 B' C').ty) ?_ (A2M hM hv), if_neg (by decide), h3']
   ·rfl
   ·unfold J8
    rw [if_neg (by decide), if_neg (by decide), if_neg (by decide), if_neg (by decide), if_neg (by decide), if_neg (by decide), if_pos rfl]
    simp only [List.getD_cons_zero, List.getD_cons_succ]
    rw [if_pos ⟨(A0f A' .bool).2 d1, (A0f B' C').2 d2⟩, A69 d2]; rfl
 ·cases hw
theorem B5t {A A' B B' : GT} {e e' f f' : GE} (hp : GP Γ e e' A A') (hq : GP Γ f f' B B') (he : Q7 cx 10 ⟨#[]⟩ 0 A6 A6 0 [e.tm, f.tm] [A.ty, B.ty] l = some (u, a, l2)) : ElR Γ u a (Q7 cx' 10 ⟨#[]⟩ 0 A6 A6 0 [e'.tm, f'.tm] [A'.ty, B'.ty] l') := by
 obtain ⟨w, hw, hv, rfl⟩ := A1C he
 cases hw
 exact ⟨.pair e f, .pr A B, .pair e' f', .pr A' B', l', by rw [U9, if_neg (by decide)]; rfl, rfl, by rw [X2 (w := []) (a := .mk 5 [A'.ty, B'.ty]) rfl (A2M (.pr hp.le hq.le) hv), U9, if_neg (by decide)]; rfl, .pair hp hq⟩
theorem B5u (s : Bool) {A A' : GT} {e e' : GE} (hp : GP Γ e e' A A') (he : Q7 cx (if s = true then 12 else 11) ⟨#[]⟩ 0 A6 A6 0 [e.tm] [A.ty] l = some (u, a, l2)) : ElR Γ u a (Q7 cx' (if s = true then 12 else 11) ⟨#[]⟩ 0 A6 A6 0 [e'.tm] [A'.ty] l') := by
 have hk : (if s = true then (12 : Int) else 11) = 11 ∨ (if s = true then (12 : Int) else 11) = 12 := by cases s <;> simp
 have hT : ∀ p q : GT, (if (if s = true then (12 : Int) else 11) = 12 then q.ty else p.ty) = GT.ty (if s = true then q else p) := by intro p q; cases s <;> rfl
 obtain ⟨w, hw, hv, rfl⟩ := A1C he
 unfold J8 at hw
 rw [if_neg (by omega), if_neg (by omega), if_neg (by omega), if_neg (by omega), if_neg (by omega), if_neg (by omega), if_neg (by omega), if_neg (by omega), if_neg (by omega)] at hw
 simp only [List.getD_cons_zero, A7b] at hw
 cases hm : gmP A with
 | none => rw [hm] at hw; cases hw
 | some pq =>
  obtain ⟨p, q⟩ := pq
  rw [hm] at hw
  simp only [Option.map_some, hT] at hw
  cases hw
  obtain ⟨c1, p', q', hm', h1, h2, c2⟩ := B5j hp.le hm
  obtain ⟨m, l1, h3⟩ := A2N e A (.pr p q) l
  obtain ⟨m', l1', h3'⟩ := A2N e' A' (.pr p' q') l'
  refine ⟨.part s (P1 A (.pr p q) m e), _, .part s (P1 A' (.pr p' q') m' e'), _, l1', ?_, rfl, ?_, .part (A10 hp c1 c2 (.pr h1 h2))⟩
  ·rw [if_neg (by omega)]
   show Tm.mk _ _ _ _ _ _ (F9 [e.tm] [A.ty] [(GT.pr p q).ty] l).1 = _
   rw [h3]; rfl
  ·rw [X2 (w := [(GT.pr p' q').ty]) (a := GT.ty (if s = true then q' else p')) ?_ (A2M (by cases s; exact h1; exact h2) hv), if_neg (by omega), h3']
   ·rfl
   ·unfold J8
    rw [if_neg (by omega), if_neg (by omega), if_neg (by omega), if_neg (by omega), if_neg (by omega), if_neg (by omega), if_neg (by omega), if_neg (by omega), if_neg (by omega)]
    simp only [List.getD_cons_zero, A7b, hm', Option.map_some, hT]; rfl
theorem B5v {A A' B B' : GT} {e e' : GE} (hB : Le B B') (hp : GP Γ e e' A A') (he : Q7 cx 13 ⟨#[]⟩ 0 B.ty A6 0 [e.tm] [A.ty] l = some (u, a, l2)) : ElR Γ u a (Q7 cx' 13 ⟨#[]⟩ 0 B'.ty A6 0 [e'.tm] [A'.ty] l') := by
 obtain ⟨w, hw, hv, rfl⟩ := A1C he
 unfold J8 at hw
 rw [if_neg (by decide), if_neg (by decide), if_neg (by decide), if_neg (by decide), if_neg (by decide), if_neg (by decide), if_neg (by decide), if_neg (by decide), if_pos rfl] at hw
 simp only [List.getD_cons_zero] at hw
 split at hw
 ·rename_i hc
  cases hw
  have c1 := (A0f A B).1 hc
  have d1 := c1.up hp.le hB
  obtain ⟨m, l1, h3⟩ := A2N e A B l
  obtain ⟨m', l1', h3'⟩ := A2N e' A' B' l'
  refine ⟨P1 A B m e, B, P1 A' B' m' e', B', l1', ?_, rfl, ?_, A10 hp c1 d1 hB⟩
  ·rw [if_pos rfl, h3]; rfl
  ·rw [X2 (w := [B'.ty]) (a := B'.ty) ?_ (A2M hB hv), if_pos rfl, h3']
   ·rfl
   ·unfold J8
    rw [if_neg (by decide), if_neg (by decide), if_neg (by decide), if_neg (by decide), if_neg (by decide), if_neg (by decide), if_neg (by decide), if_neg (by decide), if_pos rfl]
    simp only [List.getD_cons_zero]
    rw [if_pos ((A0f A' B').2 d1)]
 ·cases hw
end
theorem B5w (ks : List Tm) (ih : ∀ t ∈ ks, ∀ (t' : Tm) (d : Int) (cx cx' : Cx) (Γ : GC) (l l' : Int) (u : Tm) (a : Ty) (l2 : Int), L7 12 14 t d = true → L7 12 14 t' d = true → A2L t t' = true → CxR cx cx' Γ → K8 cx t l = some (u, a, l2) → ElR Γ u a (K8 cx' t' l')) :
  ∀ (ks' : List Tm) (d : Int) (cx cx' : Cx) (Γ : GC) (l l' : Int) (us : List Tm) (h : List Ty) (l2 : Int), L5 12 14 ks d = true → L5 12 14 ks' d = true → A2n ks ks' = true → CxR cx cx' Γ → M4 cx ks l = some (us, h, l2) →
   ∃ es As es' As' l2', us = es.map GE.tm ∧ h = As.map GT.ty ∧ M4 cx' ks' l' = some (es'.map GE.tm, As'.map GT.ty, l2') ∧ GPL Γ es es' As As' := by
 induction ks with
 | nil =>
  intro ks' d cx cx' Γ l l' us h l2 _ _ hp _ he
  cases ks' with
  | cons _ _ => cases hp
  | nil =>
   rw [M4] at he
   cases he
   exact ⟨[], [], [], [], l', rfl, rfl, by rw [M4]; rfl, .nil⟩
 | cons t ts ihl =>
  intro ks' d cx cx' Γ l l' us h l2 hs hs' hp hc he
  cases ks' with
  | nil => cases hp
  | cons t' ts' =>
   rw [L5, Bool.and_eq_true] at hs hs'
   rw [A2n, Bool.and_eq_true] at hp
   rw [M4] at he ⊢
   split at he
   ·cases he
   ·rename_i u a l1 h1
    split at he
    ·cases he
    ·rename_i us' h' l3 h2
     cases he
     obtain ⟨e, A, e', A', m, rfl, rfl, h3, h4⟩ := ih t List.mem_cons_self t' d cx cx' Γ l l' u a l1 hs.1 hs'.1 hp.1 hc h1
     obtain ⟨es, As, es', As', m2, rfl, rfl, h5, h6⟩ := ihl (fun x hx => ih x (List.mem_cons_of_mem _ hx)) ts' d cx cx' Γ l1 m us' h' l2 hs.2 hs'.2 hp.2 hc h2
     rw [h3]
     simp only [h5]
     exact ⟨e :: es, A :: As, e' :: es', A' :: As', m2, rfl, rfl, rfl, .cons h4 h6⟩
theorem A7f {cx : Cx} : ∀ {ks : List Tm} {l : Int} {us : List Tm} {h : List Ty} {l2 : Int}, M4 cx ks l = some (us, h, l2) → us.length = ks.length
 | [], _, _, _, _, h => by rw [M4] at h; cases h; rfl
 | t :: ts, _, _, _, _, h => by
  rw [M4] at h
  split at h
  ·cases h
  ·split at h
   ·cases h
   ·rename_i h2; cases h; simp [A7f h2]
theorem B5x : ∀ (t t' : Tm) (d : Int) (cx cx' : Cx) (Γ : GC) (l l' : Int) (u : Tm) (a : Ty) (l2 : Int), L7 12 14 t d = true → L7 12 14 t' d = true → A2L t t' = true → CxR cx cx' Γ → K8 cx t l = some (u, a, l2) → ElR Γ u a (K8 cx' t' l') := by
 refine Tm.ind fun k nm num ty fr lb ks ih t' d cx cx' Γ l l' u a l2 hs hs' hp hc he => ?_
 obtain ⟨k', nm', num', ty', fr', lb', ks'⟩ := t'
 obtain ⟨rfl, rfl, rfl, hty, hpk⟩ := B0f.1 hp
 obtain ⟨n1, n2, n3, n4, n5, n6, n7, n8, n9⟩ := A7e hs
 obtain ⟨m1, m2, m3, m4, m5, m6, m7, m8, m9⟩ := A7e hs'
 subst n7 n8 m7 m8
 rw [K8] at he ⊢
 split at he
 ·cases he
 ·rename_i us h l1 hL
  
  have key : ∀ Δ, CxR (J9 cx k nm ty) (J9 cx' k nm ty') Δ → ∃ es As es' As' l2', us = es.map GE.tm ∧ h = As.map GT.ty ∧ M4 (J9 cx' k nm ty') ks' l' = some (es'.map GE.tm, As'.map GT.ty, l2') ∧ GPL Δ es es' As As' :=
   fun Δ hD => B5w ks ih ks' (d + 1) _ _ Δ l l' us h l1 n9 m9 hpk hD hL
  by_cases h5 : k = 5
  ·subst h5
   obtain ⟨A, rfl⟩ := A2o ty (n5 (.inl rfl))
   obtain ⟨A', rfl⟩ := A2o ty' (m5 (.inl rfl))
   have hA := (B0g A A').1 (hty (.inl rfl))
   obtain rfl := n4 (by decide)
   obtain ⟨es, As, es', As', l3, rfl, rfl, e1, e2⟩ := key (gup Γ nm A A') (by rw [J9, J9, if_pos rfl, if_pos rfl]; exact B5l hc hA nm)
   have hlen : es.length = 1 := by
    have h1 := A7f hL
    rw [List.length_map] at h1
    have : C4 5 = 1 := rfl
    omega
   obtain ⟨e, e', B, B', rfl, rfl, rfl, rfl, hq⟩ := e2.one hlen
   rw [e1]
   exact B5p hA hq he
  ·obtain ⟨es, As, es', As', l3, rfl, rfl, e1, e2⟩ := key Γ (by rw [J9, J9, if_neg h5, if_neg h5]; exact hc)
   have hlen : (es.length : Int) = C4 k := by
    have h1 := A7f hL
    rw [List.length_map] at h1
    omega
   rw [e1]
   have hk : 1 ≤ k ∧ k ≤ 14 := by
    apply Classical.byContradiction
    intro hk
    rw [A3O hk] at n1; omega
   by_cases h1 : k = 1
   ·subst h1
    obtain rfl := n4 (by decide)
    obtain rfl := n6 (by decide)
    obtain rfl := m6 (by decide)
    obtain ⟨rfl, rfl, rfl, rfl⟩ := e2.zero (by have : C4 1 = 0 := rfl; omega)
    exact B5m hc he
   obtain rfl := n3 (by omega)
   by_cases h2 : k = 2
   ·subst h2
    obtain rfl := n6 (by decide)
    obtain rfl := m6 (by decide)
    obtain ⟨rfl, rfl, rfl, rfl⟩ := e2.zero (by have : C4 2 = 0 := rfl; omega)
    exact B5n he
   obtain rfl := n4 h2
   by_cases h13 : k = 13
   ·subst h13
    obtain ⟨B, rfl⟩ := A2o ty (n5 (.inr rfl))
    obtain ⟨B', rfl⟩ := A2o ty' (m5 (.inr rfl))
    obtain ⟨e, e', A, A', rfl, rfl, rfl, rfl, hq⟩ := e2.one (by have : C4 13 = 1 := rfl; omega)
    exact B5v ((B0g B B').1 (hty (.inr rfl))) hq he
   obtain rfl := n6 (by omega)
   obtain rfl := m6 (by omega)
   by_cases h34 : k = 3 ∨ k = 4
   ·obtain ⟨b, rfl⟩ : ∃ b : Bool, k = if b = true then 3 else 4 := by rcases h34 with h | h; exact ⟨true, h⟩; exact ⟨false, h⟩
    obtain ⟨rfl, rfl, rfl, rfl⟩ := e2.zero (by have : C4 (if b = true then 3 else 4) = 0 := (by cases b <;> rfl); omega)
    exact B5o b he
   by_cases h6 : k = 6
   ·subst h6
    obtain ⟨e, e', A, A', f, f', B, B', rfl, rfl, rfl, rfl, hp1, hp2⟩ := e2.two (by have : C4 6 = 2 := rfl; omega)
    exact B5q hp1 hp2 he
   by_cases h78 : k = 7 ∨ k = 8
   ·obtain ⟨b, rfl⟩ : ∃ b : Bool, k = if b = true then 8 else 7 := by rcases h78 with h | h; exact ⟨false, h⟩; exact ⟨true, h⟩
    obtain ⟨e, e', A, A', f, f', B, B', rfl, rfl, rfl, rfl, hp1, hp2⟩ := e2.two (by have : C4 (if b = true then 8 else 7) = 2 := (by cases b <;> rfl); omega)
    exact B5r b hp1 hp2 he
   by_cases h9 : k = 9
   ·subst h9
    obtain ⟨e, e', A, A', f, f', B, B', g, g', C, C', rfl, rfl, rfl, rfl, hp1, hp2, hp3⟩ := e2.three (by have : C4 9 = 3 := rfl; omega)
    exact B5s hp1 hp2 hp3 he
   by_cases h10 : k = 10
   ·subst h10
    obtain ⟨e, e', A, A', f, f', B, B', rfl, rfl, rfl, rfl, hp1, hp2⟩ := e2.two (by have : C4 10 = 2 := rfl; omega)
    exact B5t hp1 hp2 he
   have h11 : k = 11 ∨ k = 12 := by omega
   obtain ⟨b, rfl⟩ : ∃ b : Bool, k = if b = true then 12 else 11 := by rcases h11 with h | h; exact ⟨false, h⟩; exact ⟨true, h⟩
   obtain ⟨e, e', A, A', rfl, rfl, rfl, rfl, hp1⟩ := e2.one (by have : C4 (if b = true then 12 else 11) = 1 := (by cases b <;> rfl); omega)
   exact B5u b hp1 he
theorem B5y {a b u : Tm} {t : Ty} (ha : T6 a = some (u, t)) (hp : A5t a b = true) : ∃ e e' A A', u = e.tm ∧ t = A.ty ∧ T6 b = some (e'.tm, A'.ty) ∧ GP N3 e e' A A' := by
 unfold A5t at hp
 rw [Bool.and_eq_true, Bool.and_eq_true] at hp
 unfold T6 at ha ⊢
 rw [if_pos hp.1] at ha
 rw [if_pos hp.2.1]
 split at ha
 ·rename_i u' t' l' he
  cases ha
  obtain ⟨e, A, e', A', l2, rfl, rfl, h1, h2⟩ := B5x a b 1 [] [] N3 0 0 u t l' ((X7 a).1 hp.1).1 ((X7 b).1 hp.2.1).1 hp.2.2 B5k he
  rw [h1]
  exact ⟨e, e', A, A', rfl, rfl, rfl, h2⟩
 ·cases ha
variable {P : Program} {G : IM}
theorem Fn.forget {f : FuncId} {args : List Value} {v0 : Value} {post : IM → Value → List A5 → Prop} (h : Fn P f args [] G post) (hv : ∀ G' v outs, post G' v outs → v = v0) : Fn P f args [] G (H8 v0 G) := by
 refine ⟨fun w hw => (h.run w hw).mono ?_⟩
 rintro e w' ⟨u, G', outs, rfl, hres, hp⟩
 refine ⟨u, G, [], rfl, ⟨⟨fun b l hb => hres.own.inn b l (hres.le b l hb), by simp, by simp [Fp], by simp [Fp]⟩, hres.ext, C2.refl _, fun _ _ h => .inl h, by simp [Fp], fun b l h h0 => absurd h (by rw [h0]; simp)⟩, rfl, hv _ _ _ hp, rfl⟩
def P9 (t : Tm) : IM → Value → List A5 → Prop := M9 fun G' v => ∃ cells, v = .agg ⟨cells⟩ ∧ A8 G' t cells
theorem P9.mk {G : IM} {t : Tm} {cells : List Value} (h : A8 G t cells) : P9 t G (.agg ⟨cells⟩) [] := ⟨rfl, cells, rfl, h⟩
def mGk (k : Int) : Ty := if k = 4 ∨ k = 5 then .mk k [K1, K1] else .mk k []
theorem A4j {G : IM} {k : Int} {ks : List Tm} {p : Option Addr} {n c : Nat} {es : List (List Value)} (hk : F8 k) (hn : n = ks.length) (hs : D6 G p n c 9 es) (hr : D9 G ks es) : A8 G (Y8 k ks) [.int .i64 k, .string ⟨⟨[]⟩⟩, .int .i64 0, .int .i64 0, .slice none 0 0, .int .i64 0, .slice none 0 0, .int .i64 0, .slice p n c] := by
 subst hn
 simp only [Y8, A8]
 exact ⟨[.int .i64 0, .slice none 0 0], [.int .i64 0, .slice none 0 0], p, c, es, rfl, hk, ⟨by decide, by decide⟩, ⟨by decide, by decide⟩, A0Y G, A0Y G, hs, hr⟩
theorem A7g (k : Int) (G : IM) (hk : F8 k) : Fn Tryz.prog 213 [.int .i64 k] [] G (M9 fun G' v => ∃ cells, v = .agg ⟨cells⟩ ∧ C3 G' (mGk k) cells) := by
 have hB := A2j k K1 K1 G _ _ hk (A0N G) (A0N G)
 refine B7 Tryz.func213 rfl Tryz.ntmps213 Tryz.results213 rfl ?_
 intro w0
 refine A1 ?_
 refine sE (B0 rfl) rfl (fun b3 => ?_)
 refine A7 ?_
 refine sB (qE rfl rfl) rfl rfl (fun h10 => ?_) (fun h10 => ?_)
 refine J2 ?_
 refine I3 rfl ((A0M _ _)) rfl rfl ?_
 refine I3 rfl ((A0M _ _)) rfl rfl ?_
 (refine E7 rfl hB rfl rfl (fun v G1 hle1 hh => ?_); obtain ⟨cb, rfl, hrb⟩ := hh; obtain ⟨p1, c1, e1, rfl, _⟩ := hrb.open)
 refine B1 ?_
 refine L3 (rC rfl (A4 rfl rfl)) ?_
 (exact ⟨rfl, _, rfl, by unfold mGk; rw [if_pos (by omega)]; exact hrb⟩)
 refine A1 ?_
 refine sB (qE rfl rfl) rfl rfl (fun h33 => ?_) (fun h33 => ?_)
 refine B4 ?_
 refine I3 rfl ((A0M _ _)) rfl rfl ?_
 refine I3 rfl ((A0M _ _)) rfl rfl ?_
 (refine E7 rfl hB rfl rfl (fun v G1 hle1 hh => ?_); obtain ⟨cb, rfl, hrb⟩ := hh; obtain ⟨p1, c1, e1, rfl, _⟩ := hrb.open)
 refine B1 ?_
 refine L3 (rC rfl (A4 rfl rfl)) ?_
 (exact ⟨rfl, _, rfl, by unfold mGk; rw [if_pos (by omega)]; exact hrb⟩)
 refine D8 ?_
 refine I3 rfl ((A0M _ _)) rfl rfl ?_
 refine B3 ?_
 refine L3 (rC rfl (A4 rfl rfl)) ?_
 (exact ⟨rfl, _, rfl, by unfold mGk; rw [if_neg (by omega)]; exact O2 _ hk⟩)
theorem B0h (t : Ty) (G : IM) (cells : List Value) (hr : C3 G t cells) : Fn Tryz.prog 157 [.agg ⟨cells⟩] [] G (H8 (.bool (S2 t)) G) := by
 refine Fn.forget (post := M9 fun _ v => v = .bool (S2 t)) ?_ (fun _ _ _ h => h.2)
 have hr0 := hr
 obtain ⟨tk, tks⟩ := t
 obtain ⟨p, c, es, rfl, hk, _⟩ := hr.open
 simp only [Ty.k, Ty.ks] at hk hr0 ⊢
 rw [show S2 (.mk tk tks) = (decide (tk ≠ 1) && N5 (.mk tk tks) (mGk tk)) from rfl]
 refine B7 Tryz.func157 rfl Tryz.ntmps157 Tryz.results157 rfl ?_
 intro w0
 refine A1 ?_
 refine sE (C7 rfl rfl) rfl (fun b3 => ?_)
 refine B3 ?_
 refine E3 E4 rfl ?_
 refine J5 (i := 0) (l' := [tt,ff,ff,ff,ff,ff,ff,ff,ff,ff,ff]) rfl D7 (B9 rfl) rfl (by kernel_rfl) rfl rfl ?_
 refine aL 1 rfl (D3 rfl rfl) rfl ?_
 refine A0Q (i := 2) (l' := [tt,tt,tt,ff,ff,ff,ff,ff,ff,ff,ff]) rfl D7 (N7 rfl rfl) rfl (by kernel_rfl) rfl rfl (fun h11 => ?_) (fun h11 => ?_)
 refine aP 3 rfl (qM rfl) rfl ?_
 refine aL 4 rfl (A4 rfl rfl) rfl ?_
 refine aP 5 rfl (B9 rfl) rfl ?_
 refine aL 6 rfl (D3 rfl rfl) rfl ?_
 refine A3 7 ?_
 (refine K4 rfl rfl (A7g tk G hk) rfl rfl rfl (fun v G1 hle1 hh => ?_); obtain ⟨cg, rfl, hrg⟩ := hh; have hT := A6Z (.mk tk tks) (mGk tk) G1 _ _ (hr0.mono hle1) hrg; obtain ⟨pg, cgg, eg, rfl, _⟩ := hrg.open)
 refine A3 8 ?_
 refine P4 rfl rfl (hT) rfl rfl rfl ?_
 refine aP 9 rfl (O4 rfl rfl) rfl ?_
 refine aP 10 rfl (qA rfl) rfl ?_
 refine B3 ?_
 (exact ⟨rfl, by rw [decide_eq_true (by omega), Bool.true_and]⟩)
 refine aP 3 rfl (qM rfl) rfl ?_
 refine C1 4 rfl rfl rfl ?_
 refine C1 5 rfl rfl rfl ?_
 refine C1 6 rfl rfl rfl ?_
 refine C1 7 rfl rfl rfl ?_
 refine C1 8 rfl rfl rfl ?_
 refine aP 9 rfl (R0 rfl rfl) rfl ?_
 refine aP 10 rfl (qA rfl) rfl ?_
 refine B3 ?_
 (exact ⟨rfl, by rw [decide_eq_false (by omega), Bool.false_and]⟩)
theorem A2P (t : Tm) (G : IM) (cells : List Value) (hr : A8 G t cells) : Fn Tryz.prog 111 [.agg ⟨cells⟩] [] G (H8 (.bool (Q1 t)) G) := by
 obtain ⟨k, nm, num, ⟨tk, tks⟩, ⟨fk, fks⟩, lb, ks⟩ := t
 obtain ⟨pt, ct, pf, cf, p, c, es, rfl, hk, hnum, hlb, hty, hfr, hsl, hkl⟩ := hr.open9
 have hd : Q1 (.mk k nm num (.mk tk tks) (.mk fk fks) lb ks) = decide (k = 14 ∧ fk = tk ∧ (tk = 4 ∨ tk = 5)) := rfl
 rw [hd]
 refine B7 Tryz.func111 rfl Tryz.ntmps111 Tryz.results111 rfl ?_
 intro w0
 refine A1 ?_
 refine sE (C7 rfl rfl) rfl (fun b3 => ?_)
 refine B4 ?_
 refine sB (qE rfl rfl) rfl rfl (fun h11 => ?_) (fun h11 => ?_)
 refine B4 ?_
 refine sB (qE rfl rfl) rfl rfl (fun h19 => ?_) (fun h19 => ?_)
 refine B1 ?_
 refine sB (qE rfl rfl) rfl rfl (fun h25 => ?_) (fun h25 => ?_)
 refine O0 ?_
 (exact ⟨rfl, by rw [decide_eq_true (by omega)], rfl⟩)
 refine B3 ?_
 refine sB (qE rfl rfl) rfl rfl (fun h43 => ?_) (fun h43 => ?_)
 refine B4 ?_
 (exact ⟨rfl, by rw [decide_eq_true (by omega)], rfl⟩)
 refine B4 ?_
 (exact ⟨rfl, by rw [decide_eq_false (by omega)], rfl⟩)
 refine V9 ?_
 (exact ⟨rfl, by rw [decide_eq_false (by omega)], rfl⟩)
 refine A4Q ?_
 (exact ⟨rfl, by rw [decide_eq_false (by omega)], rfl⟩)
theorem A4k (t : Tm) (G : IM) (cells : List Value) (hr : A8 G t cells) : Fn Tryz.prog 112 [.agg ⟨cells⟩] [] G (H8 (.bool (inj t)) G) := by
 obtain ⟨k, nm, num, ⟨tk, tks⟩, ⟨fk, fks⟩, lb, ks⟩ := t
 obtain ⟨pt, ct, pf, cf, p, c, es, rfl, hk, hnum, hlb, hty, hfr, hsl, hkl⟩ := hr.open9
 have hd : inj (.mk k nm num (.mk tk tks) (.mk fk fks) lb ks) = (decide (k = 14 ∧ tk = 1) && S2 (.mk fk fks)) := rfl
 rw [hd]
 refine B7 Tryz.func112 rfl Tryz.ntmps112 Tryz.results112 rfl ?_
 intro w0
 refine A1 ?_
 refine sE (C7 rfl rfl) rfl (fun b3 => ?_)
 refine B4 ?_
 refine sB (qE rfl rfl) rfl rfl (fun h11 => ?_) (fun h11 => ?_)
 refine B3 ?_
 refine sB (qE rfl rfl) rfl rfl (fun h16 => ?_) (fun h16 => ?_)
 refine B3 ?_
 refine I3 rfl ((B0h (.mk fk fks) G _ hfr)) rfl rfl ?_
 refine A7 ?_
 (exact ⟨rfl, by rw [decide_eq_true (by omega), Bool.true_and], rfl⟩)
 refine J4 ?_
 (exact ⟨rfl, by rw [decide_eq_false (by omega), Bool.false_and], rfl⟩)
 refine J7 ?_
 (exact ⟨rfl, by rw [decide_eq_false (by omega), Bool.false_and], rfl⟩)
theorem B5z (t : Tm) (G : IM) (cells : List Value) (hr : A8 G t cells) : Fn Tryz.prog 115 [.agg ⟨cells⟩] [] G (H8 (.bool (decide (t.k = 2 ∨ t.k = 3 ∨ t.k = 4 ∨ t.k = 5))) G) := by
 obtain ⟨k, nm, num, ⟨tk, tks⟩, ⟨fk, fks⟩, lb, ks⟩ := t
 obtain ⟨pt, ct, pf, cf, p, c, es, rfl, hk, hnum, hlb, hty, hfr, hsl, hkl⟩ := hr.open9
 rw [show (Tm.mk k nm num (.mk tk tks) (.mk fk fks) lb ks).k = k from rfl]
 refine B7 Tryz.func115 rfl Tryz.ntmps115 Tryz.results115 rfl ?_
 intro w0
 refine A1 ?_
 refine sE (C7 rfl rfl) rfl (fun b3 => ?_)
 refine B4 ?_
 refine sB (qE rfl rfl) rfl rfl (fun h11 => ?_) (fun h11 => ?_)
 refine A0x ?_
 (exact ⟨rfl, by rw [decide_eq_true (by omega)], rfl⟩)
 refine B6 ?_
 refine sB (qE rfl rfl) rfl rfl (fun h36 => ?_) (fun h36 => ?_)
 refine J7 ?_
 (exact ⟨rfl, by rw [decide_eq_true (by omega)], rfl⟩)
 refine B3 ?_
 refine sB (qE rfl rfl) rfl rfl (fun h58 => ?_) (fun h58 => ?_)
 refine J4 ?_
 (exact ⟨rfl, by rw [decide_eq_true (by omega)], rfl⟩)
 refine B3 ?_
 refine sB (qE rfl rfl) rfl rfl (fun h75 => ?_) (fun h75 => ?_)
 refine A7 ?_
 (exact ⟨rfl, by rw [decide_eq_true (by omega)], rfl⟩)
 refine A7 ?_
 (exact ⟨rfl, by rw [decide_eq_false (by omega)], rfl⟩)
end Gw
end Go.Proofs.YtfpgncjeejickaaGreatDoor
