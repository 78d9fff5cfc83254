/-
  The calculus of casts is that of the evaluation.
-/
import Derived.Test.YtmceanphadildaaGreatDoorKc1
import Derived.Test.YtmceanphadildaaGreatDoorKc3
import Derived.Test.YtmceanphadildaaGreatDoorKc4
import Derived.Test.YtmceanphadildaaGreatDoorKc6
import Derived.Test.YtmceanphadildaaGreatDoorKc2
import Derived.Test.YtmceanphadildaaGreatDoorKc5
set_option linter.unusedVariables false
set_option linter.unusedSimpArgs false
set_option linter.ambiguousOpen false
set_option maxHeartbeats 0
set_option maxRecDepth 100000
set_option synthInstance.maxSize 4000
set_option synthInstance.maxHeartbeats 0
namespace Go.Proofs.YtmceanphadildaaGreatDoor
open Go Go.RowKit Tryz Go.Proofs.Tryz
namespace Gw
theorem y39 {p : Prop} (h : p := by
  (obtain ⟨e1, hks, hT, hPe⟩ := hyes zO0 zO0; subst hks hT; obtain ⟨b, o, e, rfl, hl, ho, hat, hre, _, hgb⟩ := hsl.kidR hkl (i := 0) zP0 zP0; replace hre : D3 G e1.nt e := hre; refine sP (B2 (j := 0) rfl rfl rfl zP0) rfl rfl ?_)
  refine sL (A3 rfl rfl (hat _) hl) rfl rfl ?_
  refine F0 rfl ((hPe G e hre)) rfl rfl ?_
  refine A7 ?_
  (exact ⟨rfl, rfl, rfl⟩)
) : p := h
theorem y40 {p : Prop} (h : p := by
  refine K7 ?_
  refine A0L () (D6 zA0 zQ) ⟨by rintro ⟨h1, h2⟩; first | omega | contradiction, by rintro ⟨h1, h2⟩; first | omega | contradiction⟩
) : p := h
def GT.ty : GT → Ty
 | .any => .mk 1 []
 | .int => .mk 2 []
 | .bool => .mk 3 []
 | .fn a b => .mk 4 [a.ty, b.ty]
 | .pr a b => .mk 5 [a.ty, b.ty]
def GE.tm : GE → Tm
 | .var x => .mk 1 x 0 C5 C5 0 []
 | .num n => .mk 2 ⟨#[]⟩ n C5 C5 0 []
 | .tru b => .mk (if b = true then 3 else 4) ⟨#[]⟩ 0 C5 C5 0 []
 | .lam x A e => .mk 5 x 0 A.ty C5 0 [e.tm]
 | .app f a => .mk 6 ⟨#[]⟩ 0 C5 C5 0 [f.tm, a.tm]
 | .ar s a b => .mk (if s = true then 8 else 7) ⟨#[]⟩ 0 C5 C5 0 [a.tm, b.tm]
 | .ite c a b => .mk 9 ⟨#[]⟩ 0 C5 C5 0 [c.tm, a.tm, b.tm]
 | .pair a b => .mk 10 ⟨#[]⟩ 0 C5 C5 0 [a.tm, b.tm]
 | .part s e => .mk (if s = true then 12 else 11) ⟨#[]⟩ 0 C5 C5 0 [e.tm]
 | .cast A B l e => .mk 14 ⟨#[]⟩ 0 B.ty A.ty l [e.tm]
theorem GT.inj : ∀ {a b : GT}, a.ty = b.ty → a = b := by
 intro a
 induction a with
 | any => intro b h; cases b <;> first | rfl | (simp [GT.ty] at h)
 | int => intro b h; cases b <;> first | rfl | (simp [GT.ty] at h)
 | bool => intro b h; cases b <;> first | rfl | (simp [GT.ty] at h)
 | fn a1 a2 i j =>
  intro b h
  cases b with
  | fn b1 b2 => simp only [GT.ty, Ty.mk.injEq, List.cons.injEq, true_and, and_true] at h; rw [i h.1, j h.2]
  | _ => simp [GT.ty] at h
 | pr a1 a2 i j =>
  intro b h
  cases b with
  | pr b1 b2 => simp only [GT.ty, Ty.mk.injEq, List.cons.injEq, true_and, and_true] at h; rw [i h.1, j h.2]
  | _ => simp [GT.ty] at h
theorem A47 (a : GT) : A0n a.ty = a.gr.ty := by cases a <;> rfl
variable {a : GT}
theorem A1Y : a.ty.k = 1 ↔ a = .any := by cases a <;> simp [GT.ty, Ty.k]
theorem A2Y : U7 a.ty = true ↔ a.Gd := by
 unfold U7 GT.Gd
 rw [Bool.and_eq_true, decide_eq_true_eq, A0M, A47, Ne, A1Y]
 constructor
 ·rintro ⟨h1, h2⟩; exact ⟨h1, (GT.inj h2).symm⟩
 ·rintro ⟨h1, h2⟩; exact ⟨h1, by rw [h2]⟩
theorem B8B (h : ¬a.Gd) : U7 a.ty = false := by
 cases h2 : U7 a.ty with
 | false => rfl
 | true => exact absurd (A2Y.1 h2) h
theorem T3 : ∀ e : GE, H5 e.tm = true ↔ GV e := by
 intro e
 induction e with
 | var x => rw [GE.tm, H5]; simp; intro h; cases h
 | num n => rw [GE.tm, H5]; simp; exact .num
 | tru b => rw [GE.tm, H5]; cases b <;> (simp; exact .tru)
 | lam x A e _ => rw [GE.tm, H5]; simp; exact .lam
 | app f a _ _ => rw [GE.tm, H5]; simp; intro h; cases h
 | ar s a b _ _ => rw [GE.tm, H5]; cases s <;> (simp; intro h; cases h)
 | ite c a b _ _ _ => rw [GE.tm, H5]; simp; intro h; cases h
 | pair a b i j =>
  rw [GE.tm, H5, if_pos (.inl rfl), A1H, A1H, A1H, Bool.and_true, Bool.and_eq_true, i, j]
  exact ⟨fun h => .pair h.1 h.2, fun h => by cases h with | pair a b => exact ⟨a, b⟩⟩
 | part s e _ => rw [GE.tm, H5]; cases s <;> (simp; intro h; cases h)
 | cast A B l e i =>
  rw [GE.tm, H5]
  by_cases hp : A.ty.k = B.ty.k ∧ (B.ty.k = 4 ∨ B.ty.k = 5)
  ·rw [if_pos (.inr (.inl ⟨rfl, hp⟩)), A1H, A1H, Bool.and_true, i]
   constructor
   ·intro h
    cases B <;> cases A <;> first | exact .pf h | exact .pp h | (exfalso; simp [GT.ty, Ty.k] at hp)
   ·intro h; exact h.ofCast
  ·by_cases hi : B.ty.k = 1 ∧ U7 A.ty = true
   ·rw [if_pos (.inr (.inr ⟨rfl, hi⟩)), A1H, A1H, Bool.and_true, i]
    constructor
    ·intro h
     obtain rfl := A1Y.1 hi.1
     exact .inj h (A2Y.1 hi.2)
    ·intro h; exact h.ofCast
   ·rw [if_neg (by rintro (h | h | h); exact absurd h zN0; exact hp h.2; exact hi h.2)]
    constructor
    ·intro h; exact absurd (of_decide_eq_true h) zN0
    ·intro h
     exfalso
     cases h with
     | pf _ => exact hp ⟨rfl, .inl rfl⟩
     | pp _ => exact hp ⟨rfl, .inr rfl⟩
     | inj _ hg => exact hi ⟨rfl, A2Y.2 hg⟩
variable {e : GE}
theorem A1c (h : ¬GV e) : H5 e.tm = false := by
 cases h2 : H5 e.tm with
 | false => rfl
 | true => exact absurd ((T3 e).1 h2) h
theorem nv {r : GE} (h : GS e r) : H5 e.tm = false := A1c fun hv => hv.noS _ h
theorem B8C (x : ByteArray) (v : GE) : ∀ e : GE, (e.sub x v).tm = V5 x v.tm e.tm := by
 intro e
 induction e with
 | var y =>
  rw [GE.sub, GE.tm, V5]
  by_cases h : y = x
  ·rw [if_pos h, if_pos ⟨rfl, h⟩]
  ·rw [if_neg h, if_neg (fun c => h c.2), if_neg zD0, GE.tm, U8]
 | num n => rw [GE.sub, GE.tm, V5]; simp [U8]
 | tru b => rw [GE.sub, GE.tm, V5]; cases b <;> simp [U8]
 | lam y A e i =>
  by_cases h : y = x
  ·rw [GE.sub, if_pos h, GE.tm, V5, if_neg zD0, if_pos ⟨rfl, h⟩]
  ·rw [GE.sub, if_neg h, GE.tm, GE.tm, V5, if_neg zD0, if_neg (fun c => h c.2), i, U8, U8]
 | app f a i j => rw [GE.sub, GE.tm, GE.tm, V5, i, j]; simp [U8]
 | ar s a b i j => rw [GE.sub, GE.tm, GE.tm, V5, i, j]; cases s <;> simp [U8]
 | ite c a b i j k => rw [GE.sub, GE.tm, GE.tm, V5, i, j, k]; simp [U8]
 | pair a b i j => rw [GE.sub, GE.tm, GE.tm, V5, i, j]; simp [U8]
 | part s e i => rw [GE.sub, GE.tm, GE.tm, V5, i]; cases s <;> simp [U8]
 | cast A B l e i => rw [GE.sub, GE.tm, GE.tm, V5, i]; simp [U8]
section
variable {k : Int} {nm : ByteArray} {num : Int} {ty fr : Ty} {lb : Int} {a b c : Tm} {t : Tm} {l : Int}
theorem A4e (h : H5 a = false) (ks : List Tm) (hn : k = 9 ∨ ks.length < 3) (r : Tm) (hs : I8 a = (r, 1, 0)) : I8 (.mk k nm num ty fr lb (a :: ks)) = (.mk k nm num ty fr lb (r :: ks), 1, 0) := by
 have : ∃ n, (if k = 9 then 1 else (a :: ks).length) = n + 1 := ⟨if k = 9 then 0 else ks.length, by split <;> simp⟩
 obtain ⟨n, hn⟩ := this
 rw [I8, hn, X5, if_neg (by rw [h]; decide), hs]
 simp
theorem B8D (h : H5 a = false) (ks : List Tm) (hs : (I8 a).2.1 = 2) : (I8 (.mk k nm num ty fr lb (a :: ks))).2.1 = 2 := by
 have : ∃ n, (if k = 9 then 1 else (a :: ks).length) = n + 1 := ⟨if k = 9 then 0 else ks.length, by split <;> simp⟩
 obtain ⟨n, hn⟩ := this
 rw [I8, hn, X5, if_neg (by rw [h]; decide), hs]
 simp
theorem A8l (h0 : H5 a = true) (h : H5 b = false) (hk : k ≠ 9) (r : Tm) (hs : I8 b = (r, 1, 0)) : I8 (.mk k nm num ty fr lb [a, b]) = (.mk k nm num ty fr lb [a, r], 1, 0) := by
 rw [I8, if_neg hk]
 simp only [List.length_cons, List.length_nil, X5, h0, h, if_true, hs]
 simp
theorem B8E (h0 : H5 a = true) (h : H5 b = false) (hk : k ≠ 9) (hs : (I8 b).2.1 = 2) : (I8 (.mk k nm num ty fr lb [a, b])).2.1 = 2 := by
 rw [I8, if_neg hk]
 simp only [List.length_cons, List.length_nil, X5, h0, h, if_true, hs]
 simp
theorem A2Z (h : H5 a = true) : I8 (.mk k nm num ty fr lb [a]) = W4 k ty fr lb [a] := by
 rw [I8, show (if k = 9 then 1 else [a].length) = 1 by split <;> rfl, X5, h]
 simp [X5]
theorem A8m (h : H5 a = true) (h2 : H5 b = true) (hk : k ≠ 9) : I8 (.mk k nm num ty fr lb [a, b]) = W4 k ty fr lb [a, b] := by
 rw [I8, if_neg hk]
 simp [X5, h, h2]
theorem B8F (h : H5 a = true) : I8 (.mk 9 nm num ty fr lb [a, b, c]) = W4 9 ty fr lb [a, b, c] := by
 rw [I8, if_pos rfl]
 simp [X5, h]
end
theorem A6n {r : GE} (h : GS e r) : I8 e.tm = (r.tm, 1, 0) := by
 induction h with
 | app1 s i => rw [GE.tm, A4e (nv s) _ (.inr zP0) _ i, GE.tm]
 | app2 v s i => rw [GE.tm, A8l ((T3 _).2 v) (nv s) zN0 _ i, GE.tm]
 | ar1 s i => rw [GE.tm, A4e (nv s) _ (.inr zP0) _ i, GE.tm]
 | @ar2 t _ _ _ v s i => rw [GE.tm, A8l ((T3 _).2 v) (nv s) (by cases t <;> decide) _ i, GE.tm]
 | ite1 s i => rw [GE.tm, A4e (nv s) _ (.inl rfl) _ i, GE.tm]
 | pair1 s i => rw [GE.tm, A4e (nv s) _ (.inr zP0) _ i, GE.tm]
 | pair2 v s i => rw [GE.tm, A8l ((T3 _).2 v) (nv s) zN0 _ i, GE.tm]
 | part1 s i => rw [GE.tm, A4e (nv s) _ (.inr zP0) _ i, GE.tm]
 | cast1 s i => rw [GE.tm, A4e (nv s) _ (.inr zP0) _ i, GE.tm]
 | beta v =>
  rw [GE.tm, A8m ((T3 _).2 .lam) ((T3 _).2 v) zN0, B8C]
  rfl
 | appx v w =>
  rw [GE.tm, A8m ((T3 _).2 (.pf v)) ((T3 _).2 w) zN0]
  rfl
 | @ar t m n =>
  rw [GE.tm, A8m ((T3 _).2 .num) ((T3 _).2 .num) (by cases t <;> decide)]
  cases t
  ·rfl
  ·unfold A3M
   simp only [if_true]
   show (U3 (m < n), (1 : Int), (0 : Int)) = _
   unfold U3
   by_cases h : m < n
   ·simp only [h, if_true, GE.tm, decide_true]; rfl
   ·simp only [h, if_false, GE.tm, decide_false]; rfl
 | @ite b x y =>
  rw [GE.tm, B8F ((T3 _).2 .tru)]
  cases b <;> rfl
 | @part t a b v w =>
  rw [GE.tm, A2Z ((T3 _).2 (.pair v w))]
  cases t <;> rfl
 | @partx t a b c d l e v =>
  rw [GE.tm, A2Z ((T3 _).2 (.pp v))]
  cases t <;> rfl
 | @cid A l v hv hA =>
  rw [GE.tm, A2Z ((T3 _).2 hv)]
  rcases hA with rfl | rfl | rfl <;> rfl
 | @up A l v hv hA hg =>
  rw [GE.tm, A2Z ((T3 _).2 hv)]
  cases A with
  | any => exact absurd rfl hA
  | int => exact absurd rfl hg
  | bool => exact absurd rfl hg
  | _ => rfl
 | @down B l v hv hB hg =>
  rw [GE.tm, A2Z ((T3 _).2 hv)]
  have hg' := B8B (a := B) fun h => hg h.2
  unfold W4
  rw [if_neg zN0, if_neg zN0, if_neg zN0, if_neg zN0, if_pos rfl, if_neg, if_neg, if_pos hg', A47]
  ·rfl
  ·rw [A1Y]; exact hB
  ·intro h; exact hB (A1Y.1 h.symm)
 | @hit G l m w hv hG =>
  rw [GE.tm, A2Z ((T3 _).2 (.inj hv hG))]
  have hg' := A2Y.2 hG
  have hi : inj (GE.tm (.cast G .any m w)) = true := by
   rw [GE.tm]; unfold inj; rw [Bool.and_eq_true]; exact ⟨rfl, hg'⟩
  unfold W4
  rw [if_neg zN0, if_neg zN0, if_neg zN0, if_neg zN0, if_pos rfl, if_neg, if_neg, if_neg (by rw [hg']; decide), if_neg (by show ¬inj (GE.tm (.cast G .any m w)) = false; rw [hi]; decide), if_pos]
  ·rfl
  ·rfl
  ·rw [A1Y]; exact hG.1
  ·intro h; exact hG.1 (A1Y.1 h.symm)
def Bd (e : GE) : Prop := H5 e.tm = false ∧ (I8 e.tm).2.1 = 2
variable {U' : GT} {v v' : GE} {Γ : GC}
theorem B2s {U : GT} (h : GP Γ v v' U U') : Γ = D1 → GV v → ∀ {A B}, U = .fn A B → (∃ x C e, v = .lam x C e) ∨ ∃ a b c d l e, v = .cast (.fn a b) (.fn c d) l e ∧ GV e := by
 induction h with
 | castR _ _ _ i => exact i
 | castL _ _ _ _ => intro _ hv A B hU; subst hU; cases hv with | pf h => exact .inr ⟨_, _, _, _, _, _, rfl, h⟩
 | castB _ _ _ _ _ => intro _ hv A B hU; subst hU; cases hv with | pf h => exact .inr ⟨_, _, _, _, _, _, rfl, h⟩
 | lam _ _ _ => intro _ _ _ _ _; exact .inl ⟨_, _, _, rfl⟩
 | app _ _ _ _ => intro _ hv; cases hv
 | ite _ _ _ _ _ _ => intro _ hv; cases hv
 | part _ _ => intro _ hv; cases hv
 | ar _ _ _ _ => intro _ hv; cases hv
 | var _ _ => intro _ hv; cases hv
 | _ => intro _ _ _ _ hU; cases hU
theorem B2t {U : GT} (h : GP Γ v v' U U') : Γ = D1 → GV v → ∀ {A B}, U = .pr A B → (∃ a b, v = .pair a b ∧ GV a ∧ GV b) ∨ ∃ a b c d l e, v = .cast (.pr a b) (.pr c d) l e ∧ GV e := by
 induction h with
 | castR _ _ _ i => exact i
 | castL _ _ _ _ => intro _ hv A B hU; subst hU; cases hv with | pp h => exact .inr ⟨_, _, _, _, _, _, rfl, h⟩
 | castB _ _ _ _ _ => intro _ hv A B hU; subst hU; cases hv with | pp h => exact .inr ⟨_, _, _, _, _, _, rfl, h⟩
 | pair _ _ _ _ => intro _ hv _ _ _; cases hv with | pair a b => exact .inl ⟨_, _, rfl, a, b⟩
 | app _ _ _ _ => intro _ hv; cases hv
 | ite _ _ _ _ _ _ => intro _ hv; cases hv
 | part _ _ => intro _ hv; cases hv
 | ar _ _ _ _ => intro _ hv; cases hv
 | var _ _ => intro _ hv; cases hv
 | _ => intro _ _ _ _ hU; cases hU
theorem A6o {U : GT} (h : GP Γ v v' U U') : Γ = D1 → GV v → U = .int → ∃ n, v = .num n := by
 induction h with
 | castR _ _ _ i => exact i
 | castL _ _ _ _ => intro _ hv hU; subst hU; cases hv
 | castB _ _ _ _ _ => intro _ hv hU; subst hU; cases hv
 | num => intro _ _ _; exact ⟨_, rfl⟩
 | app _ _ _ _ => intro _ hv; cases hv
 | ite _ _ _ _ _ _ => intro _ hv; cases hv
 | part _ _ => intro _ hv; cases hv
 | ar _ _ _ _ => intro _ hv; cases hv
 | var _ _ => intro _ hv; cases hv
 | _ => intro _ _ hU; cases hU
theorem B2u {U : GT} (h : GP Γ v v' U U') : Γ = D1 → GV v → U = .bool → ∃ b, v = .tru b := by
 induction h with
 | castR _ _ _ i => exact i
 | castL _ _ _ _ => intro _ hv hU; subst hU; cases hv
 | castB _ _ _ _ _ => intro _ hv hU; subst hU; cases hv
 | tru => intro _ _ _; exact ⟨_, rfl⟩
 | app _ _ _ _ => intro _ hv; cases hv
 | ite _ _ _ _ _ _ => intro _ hv; cases hv
 | part _ _ => intro _ hv; cases hv
 | ar _ _ _ _ => intro _ hv; cases hv
 | var _ _ => intro _ hv; cases hv
 | _ => intro _ _ hU; cases hU
theorem B2v {U : GT} (h : GP Γ v v' U U') : Γ = D1 → GV v → U = .any → ∃ H l w, v = .cast H .any l w ∧ GV w ∧ H.Gd := by
 induction h with
 | castR _ _ _ i => exact i
 | castL _ _ _ _ => intro _ hv hU; subst hU; cases hv with | inj h g => exact ⟨_, _, _, rfl, h, g⟩
 | castB _ _ _ _ _ => intro _ hv hU; subst hU; cases hv with | inj h g => exact ⟨_, _, _, rfl, h, g⟩
 | app _ _ _ _ => intro _ hv; cases hv
 | ite _ _ _ _ _ _ => intro _ hv; cases hv
 | part _ _ => intro _ hv; cases hv
 | ar _ _ _ _ => intro _ hv; cases hv
 | var _ _ => intro _ hv; cases hv
 | _ => intro _ _ hU; cases hU
variable {l : Int} {A B A' : GT}
theorem B2w {e' : GE} (h : GP D1 e e' A A') (hc : Co A B) (hv : GV e) : GV (.cast A B l e) ∨ (∃ r, GS (.cast A B l e) r) ∨ Bd (.cast A B l e) := by
 by_cases hA : A = .any
 ·subst hA
  by_cases hB : B = .any
  ·subst hB; exact .inr (.inl ⟨_, .cid hv (.inl rfl)⟩)
  ·by_cases hg : B.gr = B
   ·obtain ⟨H, m, w, rfl, hw, hH⟩ := B2v h rfl hv rfl
    by_cases he : H = B
    ·subst he; exact .inr (.inl ⟨_, .hit hw hH⟩)
    ·refine .inr (.inr ⟨A1c (by intro h; cases h; exact hB rfl), ?_⟩)
     have hg' := A2Y.2 (show B.Gd from ⟨hB, hg⟩)
     have hi : inj (GE.tm (.cast H .any m w)) = true := by
      rw [GE.tm]; unfold inj; rw [Bool.and_eq_true]; exact ⟨rfl, A2Y.2 hH⟩
     rw [GE.tm, A2Z ((T3 _).2 hv)]
     unfold W4
     rw [if_neg zN0, if_neg zN0, if_neg zN0, if_neg zN0, if_pos rfl, if_neg, if_neg, if_neg (by rw [hg']; decide), if_neg (by show ¬inj (GE.tm (.cast H .any m w)) = false; rw [hi]; decide), if_neg]
     ·show ¬H.ty.k = B.ty.k
      intro hk
      apply he
      rw [← hH.2, ← hg]
      cases H <;> cases B <;> first | rfl | (simp [GT.ty, Ty.k] at hk)
     ·rw [A1Y]; exact hB
     ·intro h; exact hB (A1Y.1 h.symm)
   ·exact .inr (.inl ⟨_, .down hv hB hg⟩)
 ·by_cases hB : B = .any
  ·subst hB
   by_cases hg : A.gr = A
   ·exact .inl (.inj hv ⟨hA, hg⟩)
   ·exact .inr (.inl ⟨_, .up hv hA hg⟩)
  ·cases hc with
   | l => exact absurd rfl hA
   | r => exact absurd rfl hB
   | int => exact .inr (.inl ⟨_, .cid hv (.inr (.inl rfl))⟩)
   | bool => exact .inr (.inl ⟨_, .cid hv (.inr (.inr rfl))⟩)
   | fn _ _ => exact .inl (.pf hv)
   | pr _ _ => exact .inl (.pp hv)
theorem A3u {a : GE} (h : Bd a) {k : Int} {nm : ByteArray} {num : Int} {ty fr : Ty} {lb : Int} {ks : List Tm} (he : e.tm = .mk k nm num ty fr lb (a.tm :: ks)) (hv : ¬GV e) : Bd e :=
 ⟨A1c hv, by rw [he]; exact B8D h.1 ks h.2⟩
theorem A8n {a b : GE} (ha : GV a) (h : Bd b) {k : Int} {nm : ByteArray} {num : Int} {ty fr : Ty} {lb : Int} (hk : k ≠ 9) (he : e.tm = .mk k nm num ty fr lb [a.tm, b.tm]) (hv : ¬GV e) : Bd e :=
 ⟨A1c hv, by rw [he]; exact B8E ((T3 _).2 ha) h.1 hk h.2⟩
theorem A6p (h : Bd e) : ¬GV e := fun hv => by have := (T3 e).2 hv; rw [h.1] at this; cases this
theorem B2x {e' : GE} (h : GP Γ e e' A A') : Γ = D1 → GV e ∨ (∃ r, GS e r) ∨ Bd e := by
 induction h with
 | var hx _ => intro hE; subst hE; cases hx
 | num => intro _; exact .inl .num
 | tru => intro _; exact .inl .tru
 | lam _ _ _ => intro _; exact .inl .lam
 | app hf ha i j =>
  intro hE
  refine .inr ?_
  rcases i hE with vf | ⟨r, s⟩ | b
  ·rcases j hE with va | ⟨r, s⟩ | b
   ·rcases B2s hf hE vf rfl with ⟨x, C, e, rfl⟩ | ⟨_, _, _, _, _, _, rfl, hw⟩
    ·exact .inl ⟨_, .beta va⟩
    ·exact .inl ⟨_, .appx hw va⟩
   ·exact .inl ⟨_, .app2 vf s⟩
   ·exact .inr (A8n vf b (k := 6) zN0 rfl (by intro h; cases h))
  ·exact .inl ⟨_, .app1 s⟩
  ·exact .inr (A3u b (k := 6) rfl (by intro h; cases h))
 | @ar Γ t _ _ _ _ ha hb i j =>
  intro hE
  refine .inr ?_
  rcases i hE with va | ⟨r, s⟩ | b
  ·rcases j hE with vb | ⟨r, s⟩ | b
   ·obtain ⟨m, rfl⟩ := A6o ha hE va rfl
    obtain ⟨n, rfl⟩ := A6o hb hE vb rfl
    exact .inl ⟨_, .ar⟩
   ·exact .inl ⟨_, .ar2 va s⟩
   ·exact .inr (A8n va b (k := if t = true then 8 else 7) (by cases t <;> decide) rfl (by intro h; cases h))
  ·exact .inl ⟨_, .ar1 s⟩
  ·exact .inr (A3u b rfl (by intro h; cases h))
 | ite hc _ _ i _ _ =>
  intro hE
  refine .inr ?_
  rcases i hE with vc | ⟨r, s⟩ | b
  ·obtain ⟨m, rfl⟩ := B2u hc hE vc rfl
   exact .inl ⟨_, .ite⟩
  ·exact .inl ⟨_, .ite1 s⟩
  ·exact .inr (A3u b rfl (by intro h; cases h))
 | pair ha hb i j =>
  intro hE
  rcases i hE with va | ⟨r, s⟩ | b
  ·rcases j hE with vb | ⟨r, s⟩ | b
   ·exact .inl (.pair va vb)
   ·exact .inr (.inl ⟨_, .pair2 va s⟩)
   ·exact .inr (.inr (A8n va b (k := 10) zN0 rfl (by intro h; cases h with | pair _ h => exact A6p b h)))
  ·exact .inr (.inl ⟨_, .pair1 s⟩)
  ·exact .inr (.inr (A3u b rfl (by intro h; cases h with | pair h _ => exact A6p b h)))
 | part h i =>
  intro hE
  refine .inr ?_
  rcases i hE with vc | ⟨r, s⟩ | b
  ·rcases B2t h hE vc rfl with ⟨_, _, rfl, ha, hb⟩ | ⟨_, _, _, _, _, _, rfl, hw⟩
   ·exact .inl ⟨_, .part ha hb⟩
   ·exact .inl ⟨_, .partx hw⟩
  ·exact .inl ⟨_, .part1 s⟩
  ·exact .inr (A3u b rfl (by intro h; cases h))
 | castL h hc _ i =>
  intro hE
  rcases i hE with hv | ⟨r, s⟩ | b
  ·subst hE; exact B2w h hc hv
  ·exact .inr (.inl ⟨_, .cast1 s⟩)
  ·exact .inr (.inr (A3u b rfl (fun h => A6p b h.ofCast)))
 | castR _ _ _ i => exact i
 | castB h hc _ _ i =>
  intro hE
  rcases i hE with hv | ⟨r, s⟩ | b
  ·subst hE; exact B2w h hc hv
  ·exact .inr (.inl ⟨_, .cast1 s⟩)
  ·exact .inr (.inr (A3u b rfl (fun h => A6p b h.ofCast)))
theorem B2y {e : Tm} (h : (I2 e).2.1 = 1) : P7 e = true ∧ H5 e = false ∧ (I8 e).2.1 = 1 ∧ (I2 e).1 = (I8 e).1 := by
 unfold I2 at h ⊢
 split at h
 ·cases h
 ·rename_i h1
  split at h
  ·cases h
  ·rename_i h2
   split at h
   ·rename_i h3; exact absurd h h3
   ·rename_i h3
    split at h
    ·cases h
    ·rename_i h4
     rw [if_neg h1, if_neg h2, if_neg h3, if_neg h4]
     refine ⟨by cases hv : P7 e with | true => rfl | false => exact absurd hv h1, by cases hv : H5 e with | false => rfl | true => exact absurd hv h2, ?_, rfl⟩
     apply Classical.byContradiction
     intro hc; exact h3 hc
theorem B2z {e : Tm} (h : (I2 e).2.1 = 0) (hc : (I8 e).2.1 ≠ 0) : H5 e = true ∧ (I2 e).1 = e := by
 unfold I2 at h ⊢
 split at h
 ·cases h
 ·rename_i h1
  split at h
  ·rename_i h2; rw [if_neg h1, if_pos h2]; exact ⟨h2, rfl⟩
  ·split at h
   ·exact absurd h hc
   ·split at h <;> cases h
variable {n : Nat}
theorem B2A {e : Tm} (h : (I2 e).2.1 = 1) : M1 (n + 1) e = ((M1 n (I2 e).1).1, (M1 n (I2 e).1).2.1, (M1 n (I2 e).1).2.2.1, (M1 n (I2 e).1).2.2.2 + 1) := by rw [M1, if_pos h]
theorem B8G : ∀ (n : Nat) {e e' : GE} {A A' : GT}, GP D1 e e' A A' → (M1 n e.tm).2.1 = 0 → ∃ w, (M1 n e.tm).1 = w.tm ∧ GV w ∧ Ss e w := by
 intro n
 have fin : ∀ {e e' : GE} {A A' : GT}, GP D1 e e' A A' → (I2 e.tm).2.1 ≠ 1 → (I2 e.tm).2.1 = 0 → ∃ w, (I2 e.tm).1 = w.tm ∧ GV w ∧ Ss e w := by
  intro e e' A A' hp _ h0
  have hv : H5 e.tm = true := by
   rcases B2x hp rfl with hv | ⟨r, s⟩ | b
   ·exact (T3 _).2 hv
   ·exact (B2z h0 (by rw [A6n s]; show (1 : Int) ≠ 0; decide)).1
   ·exact (B2z h0 (by rw [b.2]; decide)).1
  refine ⟨e, ?_, (T3 _).1 hv, .refl⟩
  unfold I2 at h0 ⊢
  split at h0
  ·cases h0
  ·rename_i h1; rw [if_neg h1, if_pos hv]
 induction n with
 | zero =>
  intro e e' A A' hp h
  rw [M1] at h ⊢
  by_cases h1 : (I2 e.tm).2.1 = 1
  ·rw [if_pos h1] at h; cases h
  ·rw [if_neg h1] at h ⊢; exact fin hp h1 h
 | succ n ih =>
  intro e e' A A' hp h
  by_cases h1 : (I2 e.tm).2.1 = 1
  ·obtain ⟨_, hv, hs, he⟩ := B2y h1
   rcases B2x hp rfl with hv' | ⟨r, s⟩ | b
   ·rw [(T3 _).2 hv'] at hv; cases hv
   ·rw [B2A h1] at h ⊢
    have hr : (I2 e.tm).1 = r.tm := by rw [he, A6n s]
    rw [hr] at h ⊢
    obtain ⟨r', _, hp'⟩ := sim hp rfl s
    obtain ⟨w, h2, h3, h4⟩ := ih hp' h
    exact ⟨w, h2, h3, .step s h4⟩
   ·rw [b.2] at hs; cases hs
  ·rw [M1, if_neg h1] at h ⊢; exact fin hp h1 h
section
variable {P : Program} {Γ : M5} {env : M8} {hp : List A9} {G : IM} {ty : TypeId}
theorem A6q {x y : Operand} {t t' : TypeId} {m n : Int} (hx : evo env x = some (.int .i64 m)) (hy : evo env y = some (.int .i64 n)) : J6 P Γ ⟨env, hp, G⟩ (.binOp .add t x y t') ty (.int .i64 (IntKind.i64.wrap (m + n))) :=
 by refine ⟨?_⟩; exact fun a _ hs _ _ _ _ w => by simp [execOp, eqGuard, binOp, Op.intArith, (hs.evo hx : a.eval x = _), (hs.evo hy : a.eval y = _)]
end
theorem B8H {k tg lb : Int} {ks : List Cn} (h : k = 4 ∨ k = 5) : (Cn.mk k tg lb ks).ht = Cn.htL 0 ks := by rw [Cn.ht, if_pos h]
theorem B8I {k tg lb : Int} {ks : List Cn} (h : ¬(k = 4 ∨ k = 5)) : (Cn.mk k tg lb ks).ht = IntKind.i64.wrap (Cn.htL 0 ks + 1) := by rw [Cn.ht, if_neg h]
theorem B8J : ∀ (t : Cn) (G : IM) (cells : List Value), H3 G t cells → Fn prog 68 [.agg ⟨cells⟩] [] G (I1 (.int .i64 t.ht) G) := by
 refine Cn.ind fun k tg lb ks ih G cells hr => ?_
 obtain ⟨p, c, es, rfl, hk, htg, hlb, hn2, _, _, hsl, hkl⟩ := hr.open4
 have hy := @B8H k tg lb ks
 have hn' := @B8I k tg lb ks
 generalize (Cn.mk k tg lb ks).ht = R at hy hn' ⊢
 clear hr
 have hn := hsl.le
 refine C4 func68 rfl ntmps68 results68 rfl ?_
 intro w0
 refine A5 ?_
 refine zf2 (fun b3 => ?_)
 refine W8 ?_
 refine C2 ?_
 (refine K2 (fun (i : Nat) => ⟨[(9, .int .i64 (i : Int)), (8, .int .i64 (ks.length : Int)), (7, .slice p ks.length c), (3, .int .i64 (Cn.htL 0 (ks.take i))), (1, .pointer (some ⟨b3, 0, none⟩))], [.blk b3 [.int .i64 k, .int .i64 tg, .int .i64 lb, .slice p ks.length c]], G⟩) (fun i => i ≤ ks.length) (fun i => ks.length - i) 0 ?_ ?_ ?_)
 exact E3
 exact Nat.zero_le _
 (rintro i hi)
 refine A5 ?_
 refine zf8 (fun h28 => ?_) (fun h28 => ?_)
 refine B8 ?_
 refine C2 ?_
 refine A5 ?_
 (obtain ⟨b, o, e, rfl, hl, ho, hat, hre, _, hgb⟩ := hsl.kidR hkl (i := i) zO0 zO0; refine sP (B2 (j := i) rfl rfl rfl zO0) rfl rfl ?_)
 refine sL (A3 rfl rfl (hat _) hl) rfl rfl ?_
 refine zf1 (fun b41 => ?_)
 refine sS rfl rfl rfl hl ho rfl ?_ (hu := by exact E0 hl.symm)
 refine B6 ?_
 refine sL (A3 rfl rfl (B9 zG0) hl) rfl rfl ?_
 (refine F0 rfl (ih ks[i] (List.getElem_mem zO0) G _ hre) rfl rfl ?_)
 refine sQ (A6m rfl rfl) rfl ?_
 refine B1 ?_
 refine zf4 ?_
 refine A5 ?_
 (refine J7 (i + 1) ?_ ?_ ?_; rw [show Cn.htL 0 (ks.take (i + 1)) = (if Cn.htL 0 (ks.take i) < ks[i].ht then ks[i].ht else Cn.htL 0 (ks.take i)) from B6M zO0])
 exact E3
 omega
 omega
 refine K5 ?_
 refine zf0 (fun h76 => ?_) (fun h76 => ?_)
 refine W8 ?_
 (obtain rfl : i = ks.length := zO0; rw [List.take_length]; exact ⟨rfl, by rw [hy zO0], rfl⟩)
 refine B5 ?_
 refine zf0 (fun h98 => ?_) (fun h98 => ?_)
 refine K7 ?_
 (obtain rfl : i = ks.length := zO0; rw [List.take_length]; exact ⟨rfl, by rw [hy zO0], rfl⟩)
 refine E1 ?_
 refine sP (A6q (m := Cn.htL 0 (ks.take i)) rfl rfl) rfl rfl ?_
 refine B1 ?_
 (obtain rfl : i = ks.length := zO0; rw [List.take_length]; exact ⟨rfl, by rw [hn' zO0], rfl⟩)
variable {c : GK}
theorem B2B {k tg lb : Int} {ks : List Cn} (h : c.cn = .mk k tg lb ks) : (k = 2 → c.tg = 4) ∧ (k = 3 → c.tg = 5) ∧ (k = 1 ∨ k = 6 → c.tg = tg) ∧ (k = 5 → c.tg = 0) ∧ (k = 4 → ∃ d, c = .inj d ∧ ks = [d.cn]) ∧ (k = 5 → ∃ d, c = .prj lb d ∧ ks = [d.cn]) ∧ (k = 1 ∨ k = 2 ∨ k = 3 ∨ k = 4 ∨ k = 5 ∨ k = 6) := by
 cases c <;> simp only [GK.cn, Cn.mk.injEq] at h <;> obtain ⟨rfl, rfl, rfl, rfl⟩ := h <;> simp [GK.tg]
theorem A1Z (c : GK) : ∃ k tg lb ks, c.cn = Cn.mk k tg lb ks := by cases c.cn; exact ⟨_, _, _, _, rfl⟩
theorem B2C (c : GK) (ih : ∀ d, c = .inj d → ∀ (G : IM) (cells : List Value), H3 G d.cn cells → Fn prog 167 [.agg ⟨cells⟩] [] G (I1 (.int .i64 d.tg) G)) (G : IM) (cells : List Value) (hr : H3 G c.cn cells) : Fn prog 167 [.agg ⟨cells⟩] [] G (I1 (.int .i64 c.tg) G) := by
 obtain ⟨k, tg, lb, ks, hc⟩ := A1Z c
 obtain ⟨t2, t3, t1, t5, t4, _, t0⟩ := B2B hc
 rw [hc] at hr
 obtain ⟨p, cp, es, rfl, hk, htg, hlb, hn2, har2, har4, hsl, hkl⟩ := hr.open4
 refine C4 func167 rfl ntmps167 results167 rfl ?_
 intro w0
 refine A5 ?_
 refine zf2 (fun b3 => ?_)
 refine I9 ?_
 refine C2 (tS (tR (sB (qE rfl rfl) rfl rfl (fun h17 => ?_) (fun h17 => ?_))))
 refine K7 ?_
 (exact ⟨rfl, by rw [t2 zO0], rfl⟩)
 refine A7 ?_
 refine zf0 (fun h38 => ?_) (fun h38 => ?_)
 refine K7 ?_
 (exact ⟨rfl, by rw [t3 zO0], rfl⟩)
 refine A7 ?_
 refine zf0 (fun h59 => ?_) (fun h59 => ?_)
 refine D4 ?_
 (obtain ⟨d, rfl, hks⟩ := t4 zO0; subst hks; obtain ⟨b, o, e, rfl, hl, ho, hat, hre, _, hgb⟩ := hsl.kidR hkl (i := 0) zP0 zP0; replace hre : H3 G d.cn e := hre; refine sP (B2 (j := 0) rfl rfl rfl zP0) rfl rfl ?_)
 refine sL (A3 rfl rfl (hat _) hl) rfl rfl ?_
 (refine F0 rfl (ih d rfl G _ hre) rfl rfl ?_)
 refine B8 ?_
 (exact ⟨rfl, rfl, rfl⟩)
 refine B8 ?_
 refine zf0 (fun h86 => ?_) (fun h86 => ?_)
 refine A0H ?_
 (exact ⟨rfl, by rw [t1 zO0], rfl⟩)
 refine B1 ?_
 refine zf0 (fun h111 => ?_) (fun h111 => ?_)
 refine K1 ?_
 (exact ⟨rfl, by rw [t1 zO0], rfl⟩)
 refine K5 ?_
 (exact ⟨rfl, by rw [t5 zO0], rfl⟩)
theorem A8o : ∀ (c : GK) (G : IM) (cells : List Value), H3 G c.cn cells → Fn prog 167 [.agg ⟨cells⟩] [] G (I1 (.int .i64 c.tg) G) := by
 intro c
 induction c with
 | inj d ih => exact B2C _ fun d' h => by cases h; exact ih
 | _ => exact B2C _ fun d' h => by cases h
def Cn.any : Cn → Bool
 | .mk k tg _ _ => decide (k = 1 ∧ tg = 1)
theorem B2D (c : Cn) (G : IM) (cells : List Value) (hr : H3 G c cells) : Fn prog 165 [.agg ⟨cells⟩] [] G (I1 (.bool c.any) G) := by
 obtain ⟨k, tg, lb, ks⟩ := c
 obtain ⟨p, cp, es, rfl, hk, htg, hlb, hn2, har2, har4, hsl, hkl⟩ := hr.open4
 rw [Cn.any]
 refine C4 func165 rfl ntmps165 results165 rfl ?_
 intro w0
 refine A5 ?_
 refine zf2 (fun b3 => ?_)
 refine B8 ?_
 refine zf0 (fun h11 => ?_) (fun h11 => ?_)
 refine B5 ?_
 refine zf0 (fun h15 => ?_) (fun h15 => ?_)
 refine A7 ?_
 (exact ⟨rfl, by rw [decide_eq_true zO0], rfl⟩)
 refine A7 ?_
 (exact ⟨rfl, by rw [decide_eq_false zO0], rfl⟩)
 refine I9 ?_
 (exact ⟨rfl, by rw [decide_eq_false zO0], rfl⟩)
theorem A48 (k tg lb : Int) (p0 : Option Addr) (n0 c0 : Nat) (ok : Bool) (p : Option Addr) (n c : Nat) (G : IM) : Fn prog 166 [.agg ⟨[.int .i64 k, .int .i64 tg, .int .i64 lb, .slice p0 n0 c0]⟩, .bool ok, .slice p n c] [] G (I1 (.tuple ⟨[.agg ⟨[.int .i64 k, .int .i64 tg, .int .i64 lb, .slice p n c]⟩, .bool ok]⟩) G) := by
 refine C4 func166 rfl ntmps166 results166 rfl ?_
 intro w0
 refine A5 ?_
 refine zf2 (fun b3 => ?_)
 refine zf1 (fun b4 => ?_)
 refine A2G ?_
 refine zf5 ?_
 (exact ⟨rfl, rfl, rfl⟩)
def GT.m : GT → Nat
 | .any => 0
 | .int => 1
 | .bool => 1
 | .fn a b => a.m + b.m + 1
 | .pr a b => a.m + b.m + 1
def GT.isA : GT → Bool
 | .any => true
 | _ => false
def Z6 (A B : GT) : Nat := 2 * (A.m + B.m) + (if A.isA = B.isA then 0 else 3)
def CnP (c : Cn) : IM → Value → List A9 → Prop := M3 fun G' v => ∃ cells, v = .agg ⟨cells⟩ ∧ H3 G' c cells
variable {cells : List Value} {G : IM}
theorem CnP.mk {c : Cn} (h : H3 G c cells) : CnP c G (.agg ⟨cells⟩) [] := ⟨rfl, cells, rfl, h⟩
theorem A6r {k : Int} {ks : List Ty} (h : A.ty = .mk k ks) : (k = 1 ∨ k = 2 ∨ k = 3 → ks.length = 0) ∧ (k = 4 ∨ k = 5 → ks.length = 2) ∧ (k = 1 ↔ A.isA = true) ∧ (k = 1 ∨ k = 2 ∨ k = 3 ∨ k = 4 ∨ k = 5) := by
 cases A <;> simp only [GT.ty, Ty.mk.injEq] at h <;> obtain ⟨rfl, rfl⟩ := h <;> simp [GT.isA]
theorem B8K {ks : List Ty} (h : A.ty = .mk 4 ks) : ∃ a b : GT, A = .fn a b ∧ ks = [a.ty, b.ty] := by
 cases A <;> simp only [GT.ty, Ty.mk.injEq] at h <;> first | exact ⟨_, _, rfl, h.2.symm⟩ | (exfalso; omega)
theorem B8L {ks : List Ty} (h : A.ty = .mk 5 ks) : ∃ a b : GT, A = .pr a b ∧ ks = [a.ty, b.ty] := by
 cases A <;> simp only [GT.ty, Ty.mk.injEq] at h <;> first | exact ⟨_, _, rfl, h.2.symm⟩ | (exfalso; omega)
theorem A20 : A.isA = true ↔ A = .any := by cases A <;> simp [GT.isA]
theorem B2E (h : A ≠ .any) : A.gr.m = 1 ∧ A.gr.isA = false := by cases A <;> first | exact absurd rfl h | exact ⟨rfl, rfl⟩
theorem A6s (A B : GT) : Z6 A B ≤ 2 * (A.m + B.m) + 3 := by unfold Z6; split <;> omega
theorem B2F (h : A ≠ .any) : Z6 A A.gr < Z6 A .any := by
 have h1 := B2E h
 have h2 : A.isA = false := by cases A <;> first | rfl | exact absurd rfl h
 unfold Z6
 rw [h1.2, h2, h1.1]
 simp [GT.m, GT.isA]
 omega
theorem B2G (h : B ≠ .any) : Z6 B.gr B < Z6 .any B := by
 have h1 := B2E h
 have h2 : B.isA = false := by cases B <;> first | rfl | exact absurd rfl h
 unfold Z6
 rw [h1.2, h2, h1.1]
 simp [GT.m, GT.isA]
 omega
theorem A8p (a b c d : GT) : Z6 c a < Z6 (.fn a b) (.fn c d) ∧ Z6 b d < Z6 (.fn a b) (.fn c d) := by
 have h1 := A6s c a
 have h2 := A6s b d
 have e : Z6 (.fn a b) (.fn c d) = 2 * (a.m + b.m + 1 + (c.m + d.m + 1)) := rfl
 omega
theorem A8q (a b c d : GT) : Z6 a c < Z6 (.pr a b) (.pr c d) ∧ Z6 b d < Z6 (.pr a b) (.pr c d) := by
 have h1 := A6s a c
 have h2 := A6s b d
 have e : Z6 (.pr a b) (.pr c d) = 2 * (a.m + b.m + 1 + (c.m + d.m + 1)) := rfl
 omega
variable {bks : List Ty}
theorem B2H {k : Int} {ks : List Ty} (hA : A.ty = .mk k ks) (hB : B.ty = .mk k bks) (hn : ks.length = 0) (l : Int) : (kc A B l).cn = .mk 1 k 0 [] := by
 cases A <;> cases B <;> simp only [GT.ty, Ty.mk.injEq] at hA hB <;> obtain ⟨rfl, rfl⟩ := hA <;> first | (exfalso; omega) | (exfalso; simp at hn; done) | skip
 ·rw [Z1, R0]; rfl
 ·rw [A4y]; rfl
 ·rw [A4z]; rfl
theorem B2I (hA : A ≠ .any) (l : Int) : kc A .any l = .inj (kc A A.gr l) := by
 rw [A0w]
 cases A with
 | any => exact absurd rfl hA
 | int => rw [R9, GT.gr, A4y]
 | bool => rw [R9, GT.gr, A4z]
 | fn a b => rw [R9, GT.gr, A1j, Z1, A0w]
 | pr a b => rw [R9, GT.gr, A1k, A0w, A0w]
theorem B2J (hB : B ≠ .any) (l : Int) : kc .any B l = .prj l (kc B.gr B l) := by
 rw [Z1]
 cases B with
 | any => exact absurd rfl hB
 | int => rw [R0, GT.gr, A4y]
 | bool => rw [R0, GT.gr, A4z]
 | fn a b => rw [R0, GT.gr, A1j, A0w, Z1]
 | pr a b => rw [R0, GT.gr, A1k, Z1, Z1]
variable {p : Option Addr} {x1 x2 x3 x4 : Value}
theorem A1r {c : Cn} {k tg lb : Int} {cp : Nat} (h : H3 G c [x1, x2, x3, x4]) (hs : Sl G p 1 cp 4 [x1, x2, x3, x4]) (hk : F8 k) (ht : F8 tg) (hl : F8 lb) (h5 : ¬(k = 2 ∨ k = 3)) : H3 G (.mk k tg lb [c]) [.int .i64 k, .int .i64 tg, .int .i64 lb, .slice p 1 cp] :=
 H3.put (ks := [c]) (es := [[x1, x2, x3, x4]]) hk ht hl zP0 (fun h => absurd h h5) (fun _ => rfl) rfl (D7.of hs rfl (by intro x hx; obtain rfl := List.mem_singleton.1 hx; rfl) (by intro x hx; obtain rfl := List.mem_singleton.1 hx; exact h.one)) (KR.cons h KR.nil)
theorem A2y {c d : Cn} {k tg lb : Int} {y1 y2 y3 y4 : Value} {cp : Nat} (h : H3 G c [x1, x2, x3, x4]) (h' : H3 G d [y1, y2, y3, y4]) (hs : Sl G p 2 cp 4 [x1, x2, x3, x4, y1, y2, y3, y4]) (hk : F8 k) (ht : F8 tg) (hl : F8 lb) (h5 : ¬(k = 4 ∨ k = 5)) : H3 G (.mk k tg lb [c, d]) [.int .i64 k, .int .i64 tg, .int .i64 lb, .slice p 2 cp] :=
 H3.put (ks := [c, d]) (es := [[x1, x2, x3, x4], [y1, y2, y3, y4]]) hk ht hl zP0 (fun _ => rfl) (fun h => absurd h h5) rfl (D7.of hs rfl (by intro x hx; simp only [List.mem_cons, List.not_mem_nil, or_false] at hx; rcases hx with rfl | rfl <;> rfl) zU) (KR.cons h (KR.cons h' KR.nil))
theorem B2K (h : Co A B) {ks : List Ty} {bk : Int} (hA : A.ty = .mk 4 ks) (hB : B.ty = .mk bk bks) (hb : bk ≠ 1) : ∃ a b c d : GT, A = .fn a b ∧ B = .fn c d ∧ ks = [a.ty, b.ty] ∧ bks = [c.ty, d.ty] ∧ Co c a ∧ Co b d := by
 obtain ⟨a, b, rfl, rfl⟩ := B8K hA
 cases h with
 | r => simp only [GT.ty, Ty.mk.injEq] at hB; exact absurd hB.1.symm hb
 | fn h1 h2 => simp only [GT.ty, Ty.mk.injEq] at hB; exact ⟨_, _, _, _, rfl, rfl, rfl, hB.2.symm, h1.symm, h2⟩
theorem B2L (h : Co A B) {ks : List Ty} {bk : Int} (hA : A.ty = .mk 5 ks) (hB : B.ty = .mk bk bks) (hb : bk ≠ 1) : ∃ a b c d : GT, A = .pr a b ∧ B = .pr c d ∧ ks = [a.ty, b.ty] ∧ bks = [c.ty, d.ty] ∧ Co a c ∧ Co b d := by
 obtain ⟨a, b, rfl, rfl⟩ := B8L hA
 cases h with
 | r => simp only [GT.ty, Ty.mk.injEq] at hB; exact absurd hB.1.symm hb
 | pr h1 h2 => simp only [GT.ty, Ty.mk.injEq] at hB; exact ⟨_, _, _, _, rfl, rfl, rfl, hB.2.symm, h1, h2⟩
theorem B2M {k : Int} {ks : List Ty} (h : A.ty = .mk k ks) : mGk k = A.gr.ty := by
 rw [← A47, h]; rfl
theorem B2N (h : Co A B) {k bk : Int} {ks : List Ty} (hA : A.ty = .mk k ks) (hB : B.ty = .mk bk bks) (h1 : ¬(k = bk ∧ ks.length = 0)) (h2 : bk ≠ 1) (h3 : k ≠ 1) (h4 : k ≠ 4) : k = 5 := by
 cases h with
 | l => simp only [GT.ty, Ty.mk.injEq] at hA; exact absurd hA.1.symm h3
 | r => simp only [GT.ty, Ty.mk.injEq] at hB; exact absurd hB.1.symm h2
 | int => simp only [GT.ty, Ty.mk.injEq] at hA hB; exact absurd ⟨hA.1.symm.trans hB.1, by rw [← hA.2]; rfl⟩ h1
 | bool => simp only [GT.ty, Ty.mk.injEq] at hA hB; exact absurd ⟨hA.1.symm.trans hB.1, by rw [← hA.2]; rfl⟩ h1
 | fn _ _ => simp only [GT.ty, Ty.mk.injEq] at hA; exact absurd hA.1.symm h4
 | pr _ _ => simp only [GT.ty, Ty.mk.injEq] at hA; exact hA.1.symm
theorem B8M : ∀ (n : Nat) (A B : GT) (l : Int) (G : IM) (ac bc : List Value), Z6 A B < n → Co A B → -99 ≤ l ∧ l ≤ 99 → C6 G A.ty ac → C6 G B.ty bc → Fn prog 67 [.agg ⟨ac⟩, .agg ⟨bc⟩, .int .i64 l] [] G (CnP (kc A B l).cn) := by
 intro n
 induction n with
 | zero => intro A B l G ac bc h; omega
 | succ n ih =>
  intro A B l G ac bc hmu hco hl hra hrb
  obtain ⟨ak, aks, hA⟩ : ∃ ak aks, A.ty = .mk ak aks := by cases A.ty; exact ⟨_, _, rfl⟩
  obtain ⟨bk, bks, hB⟩ : ∃ ak aks, B.ty = .mk ak aks := by cases B.ty; exact ⟨_, _, rfl⟩
  have fA := A6r hA
  have fB := A6r hB
  have hAa : ak ≠ 1 → A ≠ .any := fun h e => h (fA.2.2.1.2 (A20.2 e))
  have hBa : bk ≠ 1 → B ≠ .any := fun h e => h (fB.2.2.1.2 (A20.2 e))
  have hAb : ak = 1 → A = .any := fun h => A20.1 (fA.2.2.1.1 h)
  have hBb : bk = 1 → B = .any := fun h => A20.1 (fB.2.2.1.1 h)
  have hF := fun (h : ak = 4) (hb : bk ≠ 1) => B2K hco (by rw [hA, h]) hB hb
  have hP := fun (h : ak = 5) (hb : bk ≠ 1) => B2L hco (by rw [hA, h]) hB hb
  have h55 := B2N hco hA hB
  have hsm := fun (h : bk = ak) (hn : aks.length = 0) => B2H hA (by rw [hB, h]) hn l
  have hgA := B2M hA
  have hgB := B2M hB
  have hra0 := hra
  have hrb0 := hrb
  rw [hA] at hra
  rw [hB] at hrb
  obtain ⟨pa, ca, ea, rfl, hak, hsa, hla⟩ := hra.open
  obtain ⟨pb, cb, eb, rfl, hbk, hsb, hlb⟩ := hrb.open
  simp only [Ty.k, Ty.ks] at hak hsa hla hbk hsb hlb hra0 hrb0 ⊢
  have h0 : F8 0 := ⟨by decide, by decide⟩
  have hl64 : F8 l := ⟨by omega, by omega⟩
  refine C4 func67 rfl ntmps67 results67 rfl ?_
  intro w0
  refine A5 ?_
  refine zf2 (fun b3 => ?_)
  refine zf2 (fun b4 => ?_)
  refine zf1 (fun b5 => ?_)
  refine B5 ?_
  refine C2 ?_
  refine A7 ?_
  refine zf0 (fun h16 => ?_) (fun h16 => ?_)
  refine B6 ?_
  refine zf0 (fun h21 => ?_) (fun h21 => ?_)
  refine L9 ?_
  refine zf9 ?_
  (exact CnP.mk (by rw [hsm zO0 zO0]; exact H3.put (ks := []) (es := []) ⟨by decide, by decide⟩ hak h0 zN0 zN0 zN0 rfl (D7.nil _ _) KR.nil))
  refine E1 ?_
  refine zf11 ?_
  refine D4 ?_
  refine zf11 ?_
  refine D4 ?_
  refine zf0 (fun h67 => ?_) (fun h67 => ?_)
  refine B1 ?_
  (have hg : aks.length = 2 := fA.2.1 zO0; obtain ⟨a, b, c, d, rfl, rfl, rfl, rfl, hc1, hc2⟩ := hF zO0 zO0; have hm := A8p a b c d; obtain ⟨b1, o1, q1, d1, rfl, hat1, hre1, hgb1⟩ := hsa.kidTy hla (i := 0) zP0 zP0; obtain ⟨b2, o2, q2, d2, hE2, hat2, hre2, hgb2⟩ := hsa.kidTy hla (i := 1) zP0 zP0; cases hE2; obtain ⟨b3, o3, q3, d3, rfl, hat3, hre3, hgb3⟩ := hsb.kidTy hlb (i := 0) zP0 zP0; obtain ⟨b4, o4, q4, d4, hE4, hat4, hre4, hgb4⟩ := hsb.kidTy hlb (i := 1) zP0 zP0; cases hE4; refine zdd D9 rfl ?_)
  refine xx9 0 1 2 3 4 5 6 7 8 ?_
  refine aP 9 rfl (A3B rfl zO0 zO0) rfl ?_
  refine xx9 11 12 13 14 15 16 17 18 19 ?_
  refine A2 10 ?_
  (refine E6 rfl rfl (ih c a (-l) G _ _ zO0 hc1 ⟨by omega, by omega⟩ hre3 hre1) rfl rfl rfl (fun u G1 hle1 hh => ?_); obtain ⟨uc, rfl, hru⟩ := hh; obtain ⟨x1, x2, x3, x4, rfl⟩ := A0z hru.len)
  refine A2 20 ?_
  (refine E6 rfl rfl (ih b d l G1 _ _ zO0 hc2 hl (hre2.mono hle1) (hre4.mono hle1)) rfl rfl rfl (fun u G2 hle2 hh => ?_); obtain ⟨vc, rfl, hrv⟩ := hh; obtain ⟨y1, y2, y3, y4, rfl⟩ := A0z hrv.len)
  refine A2 21 ?_
  refine zf3 (fun b98 => ?_)
  refine xx1 22 ?_
  refine A2 23 ?_
  refine E9 rfl ?_
  refine A5 ?_
  (refine H1 (cs := [x1, x2, x3, x4, y1, y2, y3, y4]) zB0 (fun G5 hle5 hsl5 hno5 => ?_))
  refine B5 ?_
  refine zf9 ?_
  (exact CnP.mk (by rw [A1j, GK.cn]; exact A2y (hru.mono (hle2.trans hle5)) (hrv.mono hle5) hsl5 ⟨by decide, by decide⟩ h0 h0 zN0))
  refine D4 ?_
  (have hg : aks.length = 2 := fA.2.1 zO0; obtain ⟨a, b, c, d, rfl, rfl, rfl, rfl, hc1, hc2⟩ := hP (h55 zO0 zO0 zO0 zO0) zO0; have hm := A8q a b c d; obtain ⟨b1, o1, q1, d1, rfl, hat1, hre1, hgb1⟩ := hsa.kidTy hla (i := 0) zP0 zP0; obtain ⟨b2, o2, q2, d2, hE2, hat2, hre2, hgb2⟩ := hsa.kidTy hla (i := 1) zP0 zP0; cases hE2; obtain ⟨b3, o3, q3, d3, rfl, hat3, hre3, hgb3⟩ := hsb.kidTy hlb (i := 0) zP0 zP0; obtain ⟨b4, o4, q4, d4, hE4, hat4, hre4, hgb4⟩ := hsb.kidTy hlb (i := 1) zP0 zP0; cases hE4; refine zdd D9 rfl ?_)
  refine xx18 0 1 2 3 4 5 6 7 8 10 11 12 13 14 15 16 17 18 ?_
  refine A2 9 ?_
  (refine E6 rfl rfl (ih a c l G _ _ zO0 hc1 hl hre1 hre3) rfl rfl rfl (fun u G1 hle1 hh => ?_); obtain ⟨uc, rfl, hru⟩ := hh; obtain ⟨x1, x2, x3, x4, rfl⟩ := A0z hru.len)
  refine A2 19 ?_
  (refine E6 rfl rfl (ih b d l G1 _ _ zO0 hc2 hl (hre2.mono hle1) (hre4.mono hle1)) rfl rfl rfl (fun u G2 hle2 hh => ?_); obtain ⟨vc, rfl, hrv⟩ := hh; obtain ⟨y1, y2, y3, y4, rfl⟩ := A0z hrv.len)
  refine A2 20 ?_
  refine zf3 (fun b142 => ?_)
  refine xx1 21 ?_
  refine A2 22 ?_
  refine E9 rfl ?_
  refine A5 ?_
  (refine H1 (cs := [x1, x2, x3, x4, y1, y2, y3, y4]) zB0 (fun G5 hle5 hsl5 hno5 => ?_))
  refine tT ?_
  refine zf9 ?_
  (exact CnP.mk (by rw [A1k, GK.cn]; exact A2y (hru.mono (hle2.trans hle5)) (hrv.mono hle5) hsl5 ⟨by decide, by decide⟩ h0 h0 zN0))
  refine K5 ?_
  refine zf0 (fun h166 => ?_) (fun h166 => ?_)
  refine B1 ?_
  refine zf6 ?_
  refine xx4 0 1 2 4 ?_
  refine A2 3 ?_
  (refine E6 rfl rfl (A4Q ak G hak) rfl rfl rfl (fun u G1 hle1 hh => ?_); obtain ⟨gc, rfl, hrg⟩ := hh; rw [hgA] at hrg; have hAn := hAa zO0; obtain rfl := hBb zO0)
  refine A2 5 ?_
  (refine E6 rfl rfl (ih A A.gr l G1 _ _ (by have := B2F hAn; omega) Co.gr hl (hra0.mono hle1) hrg) rfl rfl rfl (fun u G2 hle2 hh => ?_); obtain ⟨uc, rfl, hru⟩ := hh; obtain ⟨x1, x2, x3, x4, rfl⟩ := A0z hru.len)
  refine A2 6 ?_
  refine zf3 (fun b182 => ?_)
  refine xx1 7 ?_
  refine A2 8 ?_
  refine E9 rfl ?_
  refine A5 ?_
  (refine H1 (cs := [x1, x2, x3, x4]) zB0 (fun G5 hle5 hsl5 hno5 => ?_))
  refine B5 ?_
  refine zf9 ?_
  (exact CnP.mk (by rw [B2I hAn, GK.cn]; exact A1r (hru.mono hle5) hsl5 ⟨by decide, by decide⟩ h0 h0 zN0))
  refine D4 ?_
  refine zf0 (fun h202 => ?_) (fun h202 => ?_)
  refine B1 ?_
  refine zf6 ?_
  refine xx5 0 1 2 4 5 ?_
  refine A2 3 ?_
  (refine E6 rfl rfl (A4Q bk G hbk) rfl rfl rfl (fun u G1 hle1 hh => ?_); obtain ⟨gc, rfl, hrg⟩ := hh; rw [hgB] at hrg; have hBn := hBa zO0; obtain rfl := hAb zO0)
  refine A2 6 ?_
  (refine E6 rfl rfl (ih B.gr B l G1 _ _ (by have := B2G hBn; omega) Co.gr.symm hl hrg (hrb0.mono hle1)) rfl rfl rfl (fun u G2 hle2 hh => ?_); obtain ⟨uc, rfl, hru⟩ := hh; obtain ⟨x1, x2, x3, x4, rfl⟩ := A0z hru.len)
  refine A2 7 ?_
  refine zf3 (fun b219 => ?_)
  refine xx1 8 ?_
  refine A2 9 ?_
  refine E9 rfl ?_
  refine A5 ?_
  (refine H1 (cs := [x1, x2, x3, x4]) zB0 (fun G5 hle5 hsl5 hno5 => ?_))
  refine B5 ?_
  refine zf9 ?_
  (exact CnP.mk (by rw [B2J hBn, GK.cn]; exact A1r (hru.mono hle5) hsl5 ⟨by decide, by decide⟩ h0 hl64 zN0))
  refine D4 ?_
  refine zf0 (fun h239 => ?_) (fun h239 => ?_)
  refine B1 ?_
  (have hg : aks.length = 2 := fA.2.1 zO0; obtain ⟨a, b, c, d, rfl, rfl, rfl, rfl, hc1, hc2⟩ := hF zO0 zO0; have hm := A8p a b c d; obtain ⟨b1, o1, q1, d1, rfl, hat1, hre1, hgb1⟩ := hsa.kidTy hla (i := 0) zP0 zP0; obtain ⟨b2, o2, q2, d2, hE2, hat2, hre2, hgb2⟩ := hsa.kidTy hla (i := 1) zP0 zP0; cases hE2; obtain ⟨b3, o3, q3, d3, rfl, hat3, hre3, hgb3⟩ := hsb.kidTy hlb (i := 0) zP0 zP0; obtain ⟨b4, o4, q4, d4, hE4, hat4, hre4, hgb4⟩ := hsb.kidTy hlb (i := 1) zP0 zP0; cases hE4; refine zdd D9 rfl ?_)
  refine xx9 0 1 2 3 4 5 6 7 8 ?_
  refine aP 9 rfl (A3B rfl zO0 zO0) rfl ?_
  refine xx9 11 12 13 14 15 16 17 18 19 ?_
  refine A2 10 ?_
  (refine E6 rfl rfl (ih c a (-l) G _ _ zO0 hc1 ⟨by omega, by omega⟩ hre3 hre1) rfl rfl rfl (fun u G1 hle1 hh => ?_); obtain ⟨uc, rfl, hru⟩ := hh; obtain ⟨x1, x2, x3, x4, rfl⟩ := A0z hru.len)
  refine A2 20 ?_
  (refine E6 rfl rfl (ih b d l G1 _ _ zO0 hc2 hl (hre2.mono hle1) (hre4.mono hle1)) rfl rfl rfl (fun u G2 hle2 hh => ?_); obtain ⟨vc, rfl, hrv⟩ := hh; obtain ⟨y1, y2, y3, y4, rfl⟩ := A0z hrv.len)
  refine A2 21 ?_
  refine zf3 (fun b270 => ?_)
  refine xx1 22 ?_
  refine A2 23 ?_
  refine E9 rfl ?_
  refine A5 ?_
  (refine H1 (cs := [x1, x2, x3, x4, y1, y2, y3, y4]) zB0 (fun G5 hle5 hsl5 hno5 => ?_))
  refine B5 ?_
  refine zf9 ?_
  (exact CnP.mk (by rw [A1j, GK.cn]; exact A2y (hru.mono (hle2.trans hle5)) (hrv.mono hle5) hsl5 ⟨by decide, by decide⟩ h0 h0 zN0))
  refine D4 ?_
  (have hg : aks.length = 2 := fA.2.1 zO0; obtain ⟨a, b, c, d, rfl, rfl, rfl, rfl, hc1, hc2⟩ := hP (h55 zO0 zO0 zO0 zO0) zO0; have hm := A8q a b c d; obtain ⟨b1, o1, q1, d1, rfl, hat1, hre1, hgb1⟩ := hsa.kidTy hla (i := 0) zP0 zP0; obtain ⟨b2, o2, q2, d2, hE2, hat2, hre2, hgb2⟩ := hsa.kidTy hla (i := 1) zP0 zP0; cases hE2; obtain ⟨b3, o3, q3, d3, rfl, hat3, hre3, hgb3⟩ := hsb.kidTy hlb (i := 0) zP0 zP0; obtain ⟨b4, o4, q4, d4, hE4, hat4, hre4, hgb4⟩ := hsb.kidTy hlb (i := 1) zP0 zP0; cases hE4; refine zdd D9 rfl ?_)
  refine xx18 0 1 2 3 4 5 6 7 8 10 11 12 13 14 15 16 17 18 ?_
  refine A2 9 ?_
  (refine E6 rfl rfl (ih a c l G _ _ zO0 hc1 hl hre1 hre3) rfl rfl rfl (fun u G1 hle1 hh => ?_); obtain ⟨uc, rfl, hru⟩ := hh; obtain ⟨x1, x2, x3, x4, rfl⟩ := A0z hru.len)
  refine A2 19 ?_
  (refine E6 rfl rfl (ih b d l G1 _ _ zO0 hc2 hl (hre2.mono hle1) (hre4.mono hle1)) rfl rfl rfl (fun u G2 hle2 hh => ?_); obtain ⟨vc, rfl, hrv⟩ := hh; obtain ⟨y1, y2, y3, y4, rfl⟩ := A0z hrv.len)
  refine A2 20 ?_
  refine zf3 (fun b314 => ?_)
  refine xx1 21 ?_
  refine A2 22 ?_
  refine E9 rfl ?_
  refine A5 ?_
  (refine H1 (cs := [x1, x2, x3, x4, y1, y2, y3, y4]) zB0 (fun G5 hle5 hsl5 hno5 => ?_))
  refine tT ?_
  refine zf9 ?_
  (exact CnP.mk (by rw [A1k, GK.cn]; exact A2y (hru.mono (hle2.trans hle5)) (hrv.mono hle5) hsl5 ⟨by decide, by decide⟩ h0 h0 zN0))
mutual
def R3 : Tm → List Ty
 | .mk k _ _ ty _ _ ks => (if k = 5 ∨ k = 13 then [ty] else []) ++ O3 ks
def O3 : List Tm → List Ty
 | [] => []
 | t :: ts => R3 t ++ O3 ts
end
theorem A8r : ∀ (a b : List Tm), O3 (a ++ b) = O3 a ++ O3 b
 | [], b => by simp [O3]
 | t :: a, b => by simp [O3, A8r a b]
variable {i : Nat}
theorem A49 {ks : List Tm} (hi : i < ks.length) : O3 (ks.take (i + 1)) = O3 (ks.take i) ++ R3 ks[i] := by
 rw [List.take_succ_eq_append_getElem hi, A8r, O3, O3, List.append_nil]
mutual
theorem B2O : ∀ t : Tm, (R3 t).length ≤ H9 t
 | .mk k nm num ty fr lb ks => by
  have := A6t ks
  rw [R3, H9, List.length_append]
  split <;> simp <;> omega
theorem A6t : ∀ ts : List Tm, (O3 ts).length ≤ I3 ts
 | [] => by simp [O3]
 | t :: ts => by
  have := B2O t
  have := A6t ts
  rw [O3, I3, List.length_append]; omega
end
mutual
def A1d : Tm → List Ty → Tm
 | .mk k nm num ty fr lb ks, l => .mk k nm num (if k = 5 ∨ k = 13 then l.getD 0 C5 else ty) fr lb (X4 ks (if k = 5 ∨ k = 13 then l.drop 1 else l))
def X4 : List Tm → List Ty → List Tm
 | [], _ => []
 | t :: ts, l => A1d t l :: X4 ts (l.drop (R3 t).length)
end
theorem A6u : ∀ (ts : List Tm) (l : List Ty), (X4 ts l).length = ts.length
 | [], _ => rfl
 | t :: ts, l => by rw [X4, List.length_cons, A6u ts, List.length_cons]
theorem B2P : ∀ (a b : List Tm) (l : List Ty), X4 (a ++ b) l = X4 a l ++ X4 b (l.drop (O3 a).length)
 | [], b, l => by simp [X4, O3]
 | t :: a, b, l => by simp [X4, O3, B2P a b, List.drop_drop]
theorem B2Q {ks : List Tm} (hi : i < ks.length) (l : List Ty) : X4 (ks.take (i + 1)) l = X4 (ks.take i) l ++ [A1d ks[i] (l.drop (O3 (ks.take i)).length)] := by
 rw [List.take_succ_eq_append_getElem hi, B2P, X4, X4]
def B2R (mask : Nat) : Nat → List Ty → List Ty
 | _, [] => []
 | i, t :: ts => (if (mask / 2 ^ i) % 2 = 1 then .mk 1 [] else t) :: B2R mask (i + 1) ts
def B8N (e : Tm) (mask : Nat) : Tm := A1d e (B2R mask 0 (R3 e))
def C0I (e : Tm) : List Tm := (List.range (2 ^ (R3 e).length)).map (B8N e)
theorem B2S {ks : List Tm} (hi : i < ks.length) : (O3 (ks.take i)).length + (R3 ks[i]).length ≤ (O3 ks).length := by
 have h : ks = ks.take (i + 1) ++ ks.drop (i + 1) := (List.take_append_drop _ _).symm
 conv => rhs; rw [h]
 rw [A8r, A49 hi]
 simp only [List.length_append]; omega
def C0J (k : Int) : Bool := decide (k = 5 ∨ k = 13)
section cap
variable {P : Program} {Γ : M5} {env : M8} {hp : List A9} {G : IM} {K : Po} {ops : Array Oper} {rest : List Oper}
end cap
theorem E7.append {G : IM} : ∀ {a b : List Ty} {es fs : List (List Value)}, E7 G a es → E7 G b fs → E7 G (a ++ b) (es ++ fs)
 | [], b, es, fs, h, h2 => by simp only [E7] at h; subst h; simpa using h2
 | t :: a, b, es, fs, h, h2 => by
  simp only [E7] at h
  obtain ⟨x, r, rfl, h3, h4⟩ := h
  simp only [List.cons_append, E7]
  exact ⟨x, r ++ fs, rfl, h3, E7.append h4 h2⟩
theorem E7.one1 {t : Ty} {c : List Value} (h : C6 G t c) : E7 G [t] [c] := by
 simp only [E7]; exact ⟨c, [], rfl, h, rfl⟩
def A21 (ts : List Ty) : IM → Value → List A9 → Prop := fun G' v outs => ∃ p c es, v = .slice p ts.length c ∧ outs = [.slc p c 25 2 ts.length es.flatten] ∧ E7 G' ts es
variable {es : List (List Value)}
theorem A21.mk {ts : List Ty} {G' : IM} {c : Nat} (hn : ts.length = n) (hr : E7 G' ts es) : A21 ts G' (.slice p n c) [.slc p c 25 2 n es.flatten] := by
 subst hn
 exact ⟨p, c, es, rfl, rfl, hr⟩
def RtP (u : Tm) (l : List Ty) : IM → Value → List A9 → Prop := fun G' v outs => outs = [] ∧ ∃ cu p c el, v = .tuple ⟨[.agg ⟨cu⟩, .slice p l.length c]⟩ ∧ B7 G' u cu ∧ D7 G' p l.length c 2 el ∧ E7 G' l el
def Z7 (t : Nt) : IM → Value → List A9 → Prop := M3 fun G' v => ∃ cells, v = .agg ⟨cells⟩ ∧ D3 G' t cells
theorem Z7.mk {t : Nt} (h : D3 G t cells) : Z7 t G (.agg ⟨cells⟩) [] := ⟨rfl, cells, rfl, h⟩
theorem H3.ints {c : Cn} (h : H3 G c cells) : ∃ a b d p n cp, cells = [.int .i64 a, .int .i64 b, .int .i64 d, .slice p n cp] := by
 cases h; exact ⟨_, _, _, _, _, _, rfl⟩
theorem KR.each {ks : List Nt} (h : KR (D3 G) ks es) (hl : ks.length = es.length) : ∀ e ∈ es, e.length = 14 ∧ e.all (·.oneCell') = true := by
 intro e he
 obtain ⟨i, hi, rfl⟩ := List.getElem_of_mem he
 have := h i (ks[i]'zO0) es[i] (List.getElem?_eq_getElem zO0) (List.getElem?_eq_getElem hi)
 exact ⟨this.len, this.one⟩
theorem A6v (t : Nt) (kd : Int) (G : IM) (cells : List Value) (hr : D3 G t cells) : Fn prog 69 [.agg ⟨cells⟩, .int .i64 kd] [] G (I1 (.bool (decide (t.k = 14 ∧ t.co.k = kd))) G) := by
 obtain ⟨k, nm, num, ⟨ck, ctg, clb, cks⟩, ks⟩ := t
 obtain ⟨tk, tks, fk, fks, lb, pt, ct, pf, cf, p0, c0, pc, cc, p, c, es, rfl, hnd, hco, hn3, h14, hsl, hkl⟩ := hr.open14
 rw [show (Nt.mk k nm num (.mk ck ctg clb cks) ks).k = k from rfl, show (Nt.mk k nm num (.mk ck ctg clb cks) ks).co.k = ck from rfl]
 refine C4 func69 rfl ntmps69 results69 rfl ?_
 intro w0
 refine A5 ?_
 refine zf2 (fun b3 => ?_)
 refine D4 ?_
 refine zf0 (fun h12 => ?_) (fun h12 => ?_)
 refine B1 ?_
 refine zf0 (fun h18 => ?_) (fun h18 => ?_)
 refine A7 ?_
 (exact ⟨rfl, by rw [decide_eq_true zO0], rfl⟩)
 refine A7 ?_
 (exact ⟨rfl, by rw [decide_eq_false zO0], rfl⟩)
 refine P3 ?_
 (exact ⟨rfl, by rw [decide_eq_false zO0], rfl⟩)
theorem B8O : ∀ (t : Nt) (G : IM) (cells : List Value), t.sz ≤ 4294967296 → D3 G t cells → Fn prog 37 [.agg ⟨cells⟩] [] G (I1 (.int .i64 (t.sz : Int)) G) := by
 refine Nt.ind fun k nm num co ks ih G cells hcnt hr => ?_
 obtain ⟨ck, ctg, clb, cks⟩ := co
 obtain ⟨tk, tks, fk, fks, lb, pt, ct, pf, cf, p0, c0, pc, cc, p, c, es, rfl, hnd, hco, hn3, h14, hsl, hkl⟩ := hr.open14
 rw [Nt.sz] at hcnt ⊢
 refine C4 func37 rfl ntmps37 results37 rfl ?_
 intro w0
 refine A5 ?_
 refine zf2 (fun b3 => ?_)
 refine W8 ?_
 refine C2 ?_
 (refine K2 (fun (i : Nat) => ⟨[(9, .int .i64 i), (8, .int .i64 ks.length), (7, .slice p ks.length c), (3, .int .i64 ((Nt.szL (ks.take i) + 1 : Nat) : Int))], [], G⟩) (fun i => i ≤ ks.length) (fun i => ks.length - i) 0 ?_ ?_ ?_)
 exact E3
 exact Nat.zero_le _
 (rintro i hi)
 refine A5 ?_
 refine zf8 (fun h28 => ?_) (fun h28 => ?_)
 refine B8 ?_
 refine C2 ?_
 refine A5 ?_
 (obtain ⟨b, o, e, rfl, hl, hone, hat, hre, _, hgb⟩ := hsl.kidR hkl (i := i) zO0 zO0; have htk := B00 (ks := ks) (i := i) zO0; refine sP (B2 (j := i) rfl rfl rfl zO0) rfl rfl ?_)
 refine sL (A3 rfl rfl (hat _) hl) rfl rfl ?_
 refine zf1 (fun b41 => ?_)
 refine sS rfl rfl rfl hl hone rfl ?_ (hu := by exact E0 hl.symm)
 refine B6 ?_
 refine sL (A3 rfl rfl (B9 zG0) hl) rfl rfl ?_
 (refine F0 rfl (ih ks[i] (List.getElem_mem zO0) G _ zO0 hre) rfl rfl ?_)
 refine zf4 ?_
 refine B1 ?_
 refine zf4 ?_
 refine A5 ?_
 (refine J7 (i + 1) ?_ ?_ ?_; rw [show ((Nt.szL (ks.take (i + 1)) + 1 : Nat) : Int) = ((Nt.szL (ks.take i) + 1 : Nat) : Int) + (ks[i].sz : Int) from by rw [A7L zO0]; omega])
 exact E3
 omega
 omega
 refine W8 ?_
 (obtain rfl : i = ks.length := zO0; rw [List.take_length]; exact ⟨rfl, rfl, rfl⟩)
theorem B2T : ∀ (t : Nt) (G : IM) (cells : List Value), D3 G t cells → Fn prog 33 [.agg ⟨cells⟩] [] G (I1 (.int .i64 t.ht) G) := by
 refine Nt.ind fun k nm num co ks ih G cells hr => ?_
 have hCh := fun cs => B8J co G cs
 rw [Nt.ht]
 obtain ⟨ck, ctg, clb, cks⟩ := co
 generalize (Cn.mk ck ctg clb cks).ht = CH at hCh ⊢
 obtain ⟨tk, tks, fk, fks, lb, pt, ct, pf, cf, p0, c0, pc, cc, p, c, es, rfl, hnd, hco, hn3, h14, hsl, hkl⟩ := hr.open14
 replace hCh := hCh _ hco
 have hn := hsl.le
 refine C4 func33 rfl ntmps33 results33 rfl ?_
 intro w0
 refine A5 ?_
 refine zf2 (fun b3 => ?_)
 refine K5 ?_
 refine zf0 (fun h18 => ?_) (fun h18 => ?_)
 refine A7 ?_
 refine F0 rfl (hCh) rfl rfl ?_
 refine P3 ?_
 refine C2 ?_
 (have hz : k = 14 := zO0; refine K2 (fun (i : Nat) => ⟨[(16, .int .i64 (i : Int)), (15, .int .i64 (ks.length : Int)), (14, .slice p ks.length c), (3, .int .i64 (Nt.htL CH (ks.take i)))], [], G⟩) (fun i => i ≤ ks.length) (fun i => ks.length - i) 0 ?_ ?_ ?_)
 exact E3
 exact Nat.zero_le _
 (rintro i hi)
 refine A5 ?_
 refine zf8 (fun h45 => ?_) (fun h45 => ?_)
 refine B8 ?_
 refine C2 ?_
 refine A5 ?_
 (obtain ⟨b, o, e, rfl, hl, ho, hat, hre, _, hgb⟩ := hsl.kidR hkl (i := i) zO0 zO0; refine sP (B2 (j := i) rfl rfl rfl zO0) rfl rfl ?_)
 refine sL (A3 rfl rfl (hat _) hl) rfl rfl ?_
 refine zf1 (fun b58 => ?_)
 refine sS rfl rfl rfl hl ho rfl ?_ (hu := by exact E0 hl.symm)
 refine B6 ?_
 refine sL (A3 rfl rfl (B9 zG0) hl) rfl rfl ?_
 (refine F0 rfl (ih ks[i] (List.getElem_mem zO0) G _ hre) rfl rfl ?_)
 refine sQ (A6m rfl rfl) rfl ?_
 refine B1 ?_
 refine zf4 ?_
 refine A5 ?_
 (have hz2 : k = 14 := hz; refine J7 (i + 1) ?_ ?_ ?_; rw [show Nt.htL CH (ks.take (i + 1)) = (if Nt.htL CH (ks.take i) < ks[i].ht then ks[i].ht else Nt.htL CH (ks.take i)) from B03 zO0])
 exact E3
 omega
 omega
 refine W8 ?_
 (obtain rfl : i = ks.length := zO0; rw [List.take_length]; exact ⟨rfl, by rw [if_pos hz], rfl⟩)
 refine K5 ?_
 refine C2 ?_
 (have hz : k ≠ 14 := zO0; refine K2 (fun (i : Nat) => ⟨[(16, .int .i64 (i : Int)), (15, .int .i64 (ks.length : Int)), (14, .slice p ks.length c), (3, .int .i64 (Nt.htL 0 (ks.take i)))], [], G⟩) (fun i => i ≤ ks.length) (fun i => ks.length - i) 0 ?_ ?_ ?_)
 exact E3
 exact Nat.zero_le _
 (rintro i hi)
 refine A5 ?_
 refine zf8 (fun h118 => ?_) (fun h118 => ?_)
 refine B8 ?_
 refine C2 ?_
 refine A5 ?_
 (obtain ⟨b, o, e, rfl, hl, ho, hat, hre, _, hgb⟩ := hsl.kidR hkl (i := i) zO0 zO0; refine sP (B2 (j := i) rfl rfl rfl zO0) rfl rfl ?_)
 refine sL (A3 rfl rfl (hat _) hl) rfl rfl ?_
 refine zf1 (fun b131 => ?_)
 refine sS rfl rfl rfl hl ho rfl ?_ (hu := by exact E0 hl.symm)
 refine B6 ?_
 refine sL (A3 rfl rfl (B9 zG0) hl) rfl rfl ?_
 (refine F0 rfl (ih ks[i] (List.getElem_mem zO0) G _ hre) rfl rfl ?_)
 refine sQ (A6m rfl rfl) rfl ?_
 refine B1 ?_
 refine zf4 ?_
 refine A5 ?_
 (refine J7 (i + 1) ?_ ?_ ?_; rw [show Nt.htL 0 (ks.take (i + 1)) = (if Nt.htL 0 (ks.take i) < ks[i].ht then ks[i].ht else Nt.htL 0 (ks.take i)) from B03 zO0])
 exact E3
 omega
 omega
 refine W8 ?_
 (obtain rfl : i = ks.length := zO0; rw [List.take_length]; exact ⟨rfl, by rw [if_neg hz], rfl⟩)
theorem A6w {t : Nt} {C : Cn} {k : Int} {v1 v2 v3 v4 v5 v6 v7 v8 v9 w1 w2 w3 w4 w5 : Value} {cp : Nat} (hk : F8 k) (hc : H3 G C [x1, x2, x3, x4]) (h : D3 G t [v1, v2, v3, v4, v5, v6, v7, v8, v9, w1, w2, w3, w4, w5]) (hs : Sl G p 1 cp 14 [v1, v2, v3, v4, v5, v6, v7, v8, v9, w1, w2, w3, w4, w5]) :
  D3 G (.mk k ⟨⟨[]⟩⟩ 0 C [t]) [.int .i64 k, .string ⟨⟨[]⟩⟩, .int .i64 0, .int .i64 0, .slice none 0 0, .int .i64 0, .slice none 0 0, .int .i64 0, .slice none 0 0, x1, x2, x3, x4, .slice p 1 cp] :=
 .mk (tks := []) (fks := []) (ks := [t]) (es := [[v1, v2, v3, v4, v5, v6, v7, v8, v9, w1, w2, w3, w4, w5]]) (A4T _ hk ⟨by decide, by decide⟩) hc zP0 (fun _ => rfl) (D7.of hs rfl (by intro x hx; obtain rfl := List.mem_singleton.1 hx; rfl) (by intro x hx; obtain rfl := List.mem_singleton.1 hx; exact h.one)) (KR.cons h KR.nil)
theorem A3v (t : Nt) (C : Cn) (G : IM) (cells cc : List Value) (hr : D3 G t cells) (hc : H3 G C cc) : Fn prog 75 [.agg ⟨cells⟩, .agg ⟨cc⟩] [] G (Z7 (.mk 14 ⟨⟨[]⟩⟩ 0 C [t])) := by
 obtain ⟨x1, x2, x3, p4, n4, c4, rfl⟩ := hc.ints
 obtain ⟨v1, v2, v3, v4, v5, v6, v7, v8, v9, w1, w2, w3, w4, w5, rfl⟩ := A1p hr.len
 refine C4 func75 rfl ntmps75 results75 rfl ?_
 intro w0
 refine A5 ?_
 refine zf2 (fun b3 => ?_)
 refine zf2 (fun b4 => ?_)
 refine zf1 (fun b5 => ?_)
 refine B1 ?_
 refine sL (A3 rfl rfl (B9 zG0) rfl) rfl rfl ?_
 refine sL (A3 rfl rfl (B9 zG0) rfl) rfl rfl ?_
 refine zf7 (fun b13 => ?_)
 refine B6 ?_
 (refine H1 (cs := [v1, v2, v3, v4, v5, v6, v7, v8, v9, w1, w2, w3, w4, w5]) zB0 (fun G2 hle2 hsl2 hno2 => ?_))
 refine tT ?_
 refine zf9 ?_
 (exact Z7.mk (A6w ⟨by decide, by decide⟩ (hc.mono hle2) (hr.mono hle2) hsl2))
theorem B8P (G : IM) (p : Option Addr) (n c : Nat) (es : List (List Value)) (h : D7 G p n c 14 es) (h0 : 0 < n) (hn : n ≤ 4294967296) :
  Fn prog 127 [.slice p n c] [] G (fun G' v outs => G' = G ∧ ∃ p' c', v = .slice p' n c' ∧ outs = [.slc p' c' 68 14 n es.flatten]) := by
 obtain ⟨hl, hc, hm, hat⟩ := h.sl
 obtain ⟨b, o, full, rfl, hg, hv⟩ := hat.resolve_left zO0
 have ho : ∀ u ∈ es.flatten, u.oneCell' = true := by
  intro u hu
  obtain ⟨e, he, hue⟩ := List.mem_flatten.1 hu
  exact List.all_eq_true.1 (h.one e he) u hue
 refine C4 func127 rfl ntmps127 results127 rfl ?_
 intro w0
 refine E1 ?_
 refine sQ (A6T rfl rfl rfl) rfl ?_
 refine B8 ?_
 refine zf7 (fun b18 => ?_)
 refine I0 ?_
 refine A2g rfl rfl rfl rfl rfl (fun _ _ => by repeat (first | exact Sw.here | apply Sw.there)) (A4q hg hv) hl ho zJ0 zO0 rfl (fun pn cn => ?_)
 refine B6 ?_
 refine I6 (rT rfl) A1.refl ?_
 exact ⟨rfl, _, _, by rw [Nat.zero_add], by rw [Nat.zero_add]; rfl⟩
theorem B8Q (y : ByteArray) (v : Nt) (vc : List Value) : ∀ (t : Nt) (G : IM) (cells : List Value), D3 G t cells → D3 G v vc → Fn prog 74 [.agg ⟨cells⟩, .string y, .agg ⟨vc⟩] [] G (Z7 (A0d y v t)) := by
 refine Nt.ind fun k nm num co ks ih G cells hr hv => ?_
 have hr0 := hr
 have hvl := hv.len
 have hvo := hv.one
 rw [A0d]
 obtain ⟨ck, ctg, clb, cks⟩ := co
 obtain ⟨tk, tks, fk, fks, lb, pt, ct, pf, cf, p0, c0, pc, cc, p, c, es, rfl, hnd, hco, hn3, h14, hsl, hkl⟩ := hr.open14
 have hn := hsl.le
 refine C4 func74 rfl ntmps74 results74 rfl ?_
 intro w0
 have hm0 : True := trivial
 refine tS ?_
 (clear hm0; have hm1 : True := trivial; refine tR ?_)
 refine zf2 (fun b3 => ?_)
 refine zf2 (fun b4 => ?_)
 refine zf1 (fun b5 => ?_)
 refine A5 ?_
 (clear hm1; have hm2 : True := trivial; refine tS ?_; refine A3R (fun (_ : Unit) => ⟨[(1, .string y), (3, .pointer (some ⟨b3, 0, none⟩)), (5, .pointer (some ⟨b4, 0, none⟩)), (6, .pointer (some ⟨b5, 0, none⟩))], [.blk b5 zq14, .blk b4 vc, .blk b3 [.int .i64 k, .string nm, .int .i64 num, .int .i64 tk, .slice pt tks.length ct, .int .i64 fk, .slice pf fks.length cf, .int .i64 lb, .slice p0 0 c0, .int .i64 ck, .int .i64 ctg, .int .i64 clb, .slice pc cks.length cc, .slice p ks.length c]], G⟩) (fun _ => ¬(k = 1 ∧ nm = y) ∧ ¬(k = 5 ∧ nm = y)) ?_ ?_)
 refine C2 ?_
 refine B1 ?_
 refine zf0 (fun h15 => ?_) (fun h15 => ?_)
 refine B1 ?_
 refine sB (A1h rfl rfl) rfl rfl (fun h21 => ?_) (fun h21 => ?_)
 refine B8 ?_
 refine sL (A3 rfl rfl (B9 zG0) hvl) rfl rfl ?_
 refine sS rfl rfl rfl hvl hvo rfl ?_ (hu := by exact E0 hvl.symm)
 refine B6 ?_
 refine A0l ?_
 refine K6 (rC rfl (A3 rfl rfl (B9 zG0) hvl)) ?_
 (rw [if_pos (by refine ⟨by omega, by assumption⟩)]; exact Z7.mk hv)
 refine I9 ?_
 refine zf11 ?_
 exact y40
 refine L9 ?_
 refine zf0 (fun h79 => ?_) (fun h79 => ?_)
 refine B1 ?_
 refine sB (A1h rfl rfl) rfl rfl (fun h85 => ?_) (fun h85 => ?_)
 refine K7 ?_
 refine A0l ?_
 refine zf9 ?_
 (rw [if_neg (by rintro ⟨h1, h2⟩; first | omega | contradiction), if_pos (by refine ⟨by omega, by assumption⟩)]; exact Z7.mk hr0)
 refine B8 ?_
 refine A0L () (D6 zA0 zQ) ⟨by rintro ⟨h1, h2⟩; first | omega | contradiction, by rintro ⟨h1, h2⟩; first | omega | contradiction⟩
 exact y40
 (clear hm2; rintro _ ⟨hk1, hk5⟩)
 refine B5 ?_
 refine zf1 (fun b128 => ?_)
 refine A0H ?_
 refine C2 ?_
 (refine V1 68 14 ?_; refine K2 (fun (x : Nat × Option Addr × Nat × List (List Value) × IM) => ⟨[(41, .int .i64 x.1), (40, .int .i64 ks.length), (39, .slice p ks.length c), (1, .string y), (3, .pointer (some ⟨b3, 0, none⟩)), (5, .pointer (some ⟨b4, 0, none⟩)), (6, .pointer (some ⟨b5, 0, none⟩)), (7, .pointer (some ⟨b128, 0, none⟩))], [.blk b128 [.int .i64 k, .string nm, .int .i64 num, .int .i64 tk, .slice pt tks.length ct, .int .i64 fk, .slice pf fks.length cf, .int .i64 lb, .slice p0 0 c0, .int .i64 ck, .int .i64 ctg, .int .i64 clb, .slice pc cks.length cc, .slice x.2.1 x.1 x.2.2.1], .slc x.2.1 x.2.2.1 68 14 x.1 x.2.2.2.1.flatten, .blk b5 zq14, .blk b4 vc, .blk b3 [.int .i64 k, .string nm, .int .i64 num, .int .i64 tk, .slice pt tks.length ct, .int .i64 fk, .slice pf fks.length cf, .int .i64 lb, .slice p0 0 c0, .int .i64 ck, .int .i64 ctg, .int .i64 clb, .slice pc cks.length cc, .slice p ks.length c]], x.2.2.2.2⟩) (fun x => x.1 ≤ ks.length ∧ C3 G x.2.2.2.2 ∧ x.2.2.2.1.length = x.1 ∧ KR (D3 x.2.2.2.2) ((S3 y v ks).take x.1) x.2.2.2.1) (fun x => ks.length - x.1) (0, none, 0, [], G) ?_ ?_ ?_)
 (simp only [J5]; exact E3)
 (exact ⟨Nat.zero_le _, C3.refl _, rfl, by rw [List.take_zero]; exact KR.nil⟩)
 (rintro ⟨i, pn, cn, es', Gi⟩ ⟨hi, hle, hel', hst⟩; simp only [] at hi hle hel' hst ⊢; replace hsl := hsl.mono hle; replace hkl := KR.imp hkl (fun a e h => h.mono hle); replace hv := hv.mono hle; replace hnd := hnd.mono hle; replace hco := hco.mono hle)
 refine A5 ?_
 refine zf8 (fun h154 => ?_) (fun h154 => ?_)
 refine B8 ?_
 refine C2 ?_
 refine A5 ?_
 (have hil : i < ks.length := zO0; obtain ⟨bx, ox, e, rfl, hel, heo, hat, hre, _, hgb⟩ := hsl.kidR hkl (i := i) zO0 zO0; refine sP (B2 (j := i) rfl rfl rfl zO0) rfl rfl ?_)
 refine sL (A3 rfl rfl (hat _) hel) rfl rfl ?_
 refine zf1 (fun b167 => ?_)
 refine sS rfl rfl rfl hel heo rfl ?_ (hu := by exact E0 hel.symm)
 refine A5 ?_
 refine zf6 ?_
 refine aL 2 rfl (A3 rfl rfl (B9 zG0) hel) rfl ?_
 refine aL 4 rfl (A3 rfl rfl (B9 zG0) hvl) rfl ?_
 refine xx3 0 1 3 ?_
 refine A2 5 ?_
 (refine E6 rfl rfl (ih ks[i] (List.getElem_mem zO0) Gi _ hre hv) rfl rfl rfl (fun u G1 hle1 hh => ?_); obtain ⟨uc, rfl, hru⟩ := hh; have hul := hru.len; have huo := hru.one; obtain ⟨v1, v2, v3, v4, v5, v6, v7, v8, v9, w1, w2, w3, w4, w5, rfl⟩ := A1p hul)
 refine A2 6 ?_
 refine zf3 (fun b180 => ?_)
 refine A2 7 ?_
 (refine R4 rfl rfl rfl rfl rfl rfl (fun _ _ => by repeat (first | exact Sw.here | apply Sw.there)) (O4 zG0) rfl (fun u hu => List.all_eq_true.1 huo u hu) zJ0 zO0 rfl rfl zI (fun p7 c7 => ?_))
 refine xx1 8 ?_
 refine A2 9 ?_
 refine R8 rfl rfl rfl rfl rfl rfl rfl rfl zK0 zC0 (by rfl) ?_
 refine B6 ?_
 refine zf4 ?_
 refine A5 ?_
 refine J7 (i + 1, p7, c7, es' ++ [[v1, v2, v3, v4, v5, v6, v7, v8, v9, w1, w2, w3, w4, w5]], G1) ?_ ?_ ?_
 (simp only [J5]; exact E3)
 (dsimp only; exact ⟨by omega, hle.trans hle1, by rw [List.length_append]; simp only [List.length_singleton]; omega, by rw [B04 zO0]; exact KR.snoc (KR.imp hst fun a e h => h.mono hle1) (by rw [List.length_take, A0Y]; omega) hru⟩)
 (show ks.length - (i + 1) < ks.length - i; omega)
 refine K1 ?_
 (refine H1 (cs := es'.flatten) zB0 (fun G2 hle2 hsl2 hno2 => ?_); obtain rfl : i = ks.length := zO0)
 refine tT ?_
 refine zf9 ?_
 (rw [if_neg hk1, if_neg hk5]; rw [List.take_of_length_le (by rw [A0Y]; omega)] at hst; exact Z7.mk (D3.put (us := S3 y v ks) (hnd.mono hle2) (hco.mono hle2) (by rw [A0Y]; omega) (fun h => by rw [A0Y]; exact h14 h) (by rw [A0Y]) (D7.of hsl2 zO0 (fun e he => (hst.each (by rw [A0Y]; omega) e he).1) (fun e he => (hst.each (by rw [A0Y]; omega) e he).2)) (KR.imp hst fun a e h => h.mono hle2)))
mutual
def B2U : Ty → Ty → Bool
 | .mk k ks, t => decide (t.k = 1) || (decide (k = t.k) && B2V ks t.ks)
def B2V : List Ty → List Ty → Bool
 | [], [] => true
 | a :: xs, b :: ys => B2U a b && B2V xs ys
 | _, _ => false
end
mutual
def B2W : Tm → Tm → Bool
 | .mk k nm num ty _ _ ks, u => decide (k = u.k ∧ nm = u.nm ∧ num = u.num) && (decide (k ≠ 5 ∧ k ≠ 13) || B2U ty u.ty) && B2X ks u.ks
def B2X : List Tm → List Tm → Bool
 | [], [] => true
 | a :: xs, b :: ys => B2W a b && B2X xs ys
 | _, _ => false
end
def B8R (a b : Tm) : Bool := S6 a && (S6 b && B2W a b)
theorem A10 : ∀ (t : Ty), H7 t = true → ∃ a : GT, t = a.ty
 | .mk k ks, h => by
  by_cases h4 : k = 4
  ·obtain ⟨x, y, hxy, hx, hy⟩ := A37 (.inl h4) h
   have : SizeOf.sizeOf x < SizeOf.sizeOf ks ∧ SizeOf.sizeOf y < SizeOf.sizeOf ks := by subst hxy; simp; omega
   obtain ⟨a, ha⟩ := A10 x hx
   obtain ⟨b, hb⟩ := A10 y hy
   exact ⟨.fn a b, by rw [h4, hxy, ha, hb]; rfl⟩
  ·by_cases h5 : k = 5
   ·obtain ⟨x, y, hxy, hx, hy⟩ := A37 (.inr h5) h
    have : SizeOf.sizeOf x < SizeOf.sizeOf ks ∧ SizeOf.sizeOf y < SizeOf.sizeOf ks := by subst hxy; simp; omega
    obtain ⟨a, ha⟩ := A10 x hx
    obtain ⟨b, hb⟩ := A10 y hy
    exact ⟨.pr a b, by rw [h5, hxy, ha, hb]; rfl⟩
   ·obtain ⟨h1, rfl⟩ := A7T h h4 h5
    rcases h1 with rfl | rfl | rfl
    ·exact ⟨.any, rfl⟩
    ·exact ⟨.int, rfl⟩
    ·exact ⟨.bool, rfl⟩
 termination_by t => SizeOf.sizeOf t
 decreasing_by all_goals (simp only [Ty.mk.sizeOf_spec]; omega)
theorem A8s : ∀ (a b : GT), K8 a.ty b.ty = true ↔ Co a b := by
 intro a
 induction a with
 | any => intro b; cases b <;> simp [GT.ty, T6, O0] <;> exact .l
 | int => intro b; cases b <;> simp [GT.ty, T6, O0] <;> first | exact .r | exact .int | (intro h; cases h)
 | bool => intro b; cases b <;> simp [GT.ty, T6, O0] <;> first | exact .r | exact .bool | (intro h; cases h)
 | fn x y i j =>
  intro b
  cases b with
  | fn z w => simp only [GT.ty, T6, O0, i, j, Bool.or_eq_true, Bool.and_eq_true, decide_eq_true_eq, Bool.and_true, true_and]; exact ⟨fun h => by rcases h with h | h; exact absurd h zN0; exact .fn h.1 h.2, fun h => by cases h with | fn a b => exact .inr ⟨a, b⟩⟩
  | any => simp [GT.ty, T6, O0]; exact .r
  | _ => simp [GT.ty, T6, O0]; intro h; cases h
 | pr x y i j =>
  intro b
  cases b with
  | pr z w => simp only [GT.ty, T6, O0, i, j, Bool.or_eq_true, Bool.and_eq_true, decide_eq_true_eq, Bool.and_true, true_and]; exact ⟨fun h => by rcases h with h | h; exact absurd h zN0; exact .pr h.1 h.2, fun h => by cases h with | pr a b => exact .inr ⟨a, b⟩⟩
  | any => simp [GT.ty, T6, O0]; exact .r
  | _ => simp [GT.ty, T6, O0]; intro h; cases h
def A6x : GT → GT → GT
 | .any, b => b
 | .fn a b, .fn c d => .fn (A6x a c) (A6x b d)
 | .pr a b, .pr c d => .pr (A6x a c) (A6x b d)
 | a, _ => a
def gmF : GT → Option (GT × GT)
 | .fn a b => some (a, b)
 | .any => some (.any, .any)
 | _ => none
def gmP : GT → Option (GT × GT)
 | .pr a b => some (a, b)
 | .any => some (.any, .any)
 | _ => none
def CxR (cx cx' : Cx) (Γ : GC) : Prop := ∀ x a, Q0 cx x = some a → ∃ A A', a = A.ty ∧ Q0 cx' x = some A'.ty ∧ Γ x = some (A, A') ∧ Le A A'
theorem B8S : CxR [] [] D1 := by intro x a h; simp [Q0, X1] at h
theorem B8T {cx cx' : Cx} (h : CxR cx cx' Γ) (hl : Le A A') (x : ByteArray) : CxR (cx ++ [(x, A.ty)]) (cx' ++ [(x, A'.ty)]) (O8 Γ x A A') := by
 intro y a ha
 rw [A1V] at ha ⊢
 unfold O8
 by_cases hy : x = y
 ·rw [if_pos hy] at ha ⊢
  rw [if_pos hy]
  cases ha
  exact ⟨A, A', rfl, rfl, rfl, hl⟩
 ·rw [if_neg hy] at ha ⊢
  rw [if_neg hy]
  exact h y a ha
def C0K (A B : GT) (l : Int) (e : GE) : GE := if N1 A.ty B.ty = true then e else .cast A B l e
inductive GPL (Γ : GC) : List GE → List GE → List GT → List GT → Prop
 | nil : GPL Γ [] [] [] []
 | cons {e e' A A' es es' As As' : _} : GP Γ e e' A A' → GPL Γ es es' As As' → GPL Γ (e :: es) (e' :: es') (A :: As) (A' :: As')
abbrev ElR (Γ : GC) (u : Tm) (a : Ty) (r : Option (Tm × Ty × Int)) : Prop := ∃ e A e' A' l2, u = e.tm ∧ a = A.ty ∧ r = some (e'.tm, A'.ty, l2) ∧ GP Γ e e' A A'
section
variable {cx cx' : Cx} {Γ : GC} {es es' : List GE} {As As' : List GT} {l l' : Int} {u : Tm} {a : Ty} {l2 : Int} {nm : ByteArray} {num : Int}
end
def A0N : Ty → GT
 | .mk k [a, b] => if k = 4 then .fn (A0N a) (A0N b) else .pr (A0N a) (A0N b)
 | .mk k _ => if k = 2 then .int else if k = 3 then .bool else .any
theorem A1s : ∀ A : GT, A0N A.ty = A
 | .any => rfl
 | .int => rfl
 | .bool => rfl
 | .fn a b => by rw [GT.ty, A0N, if_pos rfl, A1s a, A1s b]
 | .pr a b => by rw [GT.ty, A0N, if_neg zN0, A1s a, A1s b]
mutual
def X9 : Tm → Nt
 | .mk k nm num ty fr lb ks => .mk k nm num (if k = 14 then (kc (A0N fr) (A0N ty) lb).cn else I5) (Q4 ks)
def Q4 : List Tm → List Nt
 | [] => []
 | t :: ts => X9 t :: Q4 ts
end
theorem A8t : ∀ ks, Q4 ks = ks.map X9
 | [] => rfl
 | t :: ts => by rw [Q4, A8t ts, List.map_cons]
theorem T9 (ks : List Tm) : (Q4 ks).length = ks.length := by rw [A8t, List.length_map]
theorem A6y {ks : List Tm} (h : i < ks.length) : (Q4 ks).take (i + 1) = (Q4 ks).take i ++ [X9 ks[i]] := by
 rw [A8t, List.take_succ_eq_append_getElem (by rw [List.length_map]; exact h), List.getElem_map]
theorem D3.put' {k : Int} {nm : ByteArray} {num tk fk lb : Int} {tks fks : List Ty} {co : Cn} {a b d : Int} {us : List Nt} {pt pf p0 pc : Option Addr} {ct cf c0 cc m c : Nat}
  (h1 : B7 G (.mk k nm num (.mk tk tks) (.mk fk fks) lb []) [.int .i64 k, .string nm, .int .i64 num, .int .i64 tk, .slice pt tks.length ct, .int .i64 fk, .slice pf fks.length cf, .int .i64 lb, .slice p0 0 c0])
  (h2 : H3 G co [.int .i64 a, .int .i64 b, .int .i64 d, .slice pc m cc]) (h3 : us.length ≤ 3) (h4 : k = 14 → us.length = 1) (hn : n = us.length) (h5 : D7 G p n c 14 es) (h6 : KR (D3 G) us es) :
  D3 G (.mk k nm num co us) [.int .i64 k, .string nm, .int .i64 num, .int .i64 tk, .slice pt tks.length ct, .int .i64 fk, .slice pf fks.length cf, .int .i64 lb, .slice p0 0 c0, .int .i64 a, .int .i64 b, .int .i64 d, .slice pc m cc, .slice p n c] := by
 subst hn
 exact .mk h1 h2 h3 h4 h5 h6
theorem B2Y {k : Int} (h : k = 14) : E4 k = 1 := by subst h; rfl
theorem B8U : ∀ (t : Tm) (G : IM) (cells : List Value), cv t → B7 G t cells → Fn prog 32 [.agg ⟨cells⟩] [] G (Z7 (X9 t)) := by
 refine Tm.ind fun k nm num ty fr lb ks ih G cells hcv hr => ?_
 obtain ⟨hN, hkk⟩ := hcv.node
 have hops := hN.ops
 have hle3 := A1G k
 have h14 : k = 14 → ks.length = 1 := fun h => by have := B2Y h; omega
 have hC : k = 14 → ∃ A B : GT, fr = A.ty ∧ ty = B.ty ∧ Co A B := by
  intro h
  obtain ⟨h1, h2, h3⟩ := hN.c14 h
  obtain ⟨A, rfl⟩ := A10 fr h3
  obtain ⟨B, rfl⟩ := A10 ty h2
  exact ⟨A, B, rfl, rfl, (A8s A B).1 h1⟩
 have hlb9 := hN.lbB
 have hmt : X9 (.mk k nm num ty fr lb ks) = .mk k nm num (if k = 14 then (kc (A0N fr) (A0N ty) lb).cn else I5) (Q4 ks) := by rw [X9]
 rw [hmt]
 obtain ⟨tk, tks⟩ := ty
 obtain ⟨fk, fks⟩ := fr
 obtain ⟨pt, ct, pf, cf, p, c, es, rfl, hk, hnum, hlb, hty, hfr, hsl, hkl⟩ := hr.open9
 have hn := hsl.le
 refine C4 func32 rfl ntmps32 results32 rfl ?_
 intro w0
 refine A5 ?_
 refine zf2 (fun b3 => ?_)
 refine zf1 (fun b4 => ?_)
 refine A7 ?_
 refine zf1 (fun b11 => ?_)
 refine K1 ?_
 refine zf0 (fun h27 => ?_) (fun h27 => ?_)
 refine I9 ?_
 (obtain ⟨A, B, eA, eB, hco⟩ := hC zO0; refine H6 rfl (B8M _ A B lb G _ _ (Nat.lt_succ_self _) hco hlb9 (by rw [← eA]; exact hfr) (by rw [← eB]; exact hty)) rfl rfl (fun u G1 hle1 hh => ?_); obtain ⟨uc, rfl, hru⟩ := hh; obtain ⟨x1, x2, x3, p4, n4, c4, rfl⟩ := hru.ints)
 refine K7 ?_
 refine C2 ?_
 (have hco := hru; refine V1 68 14 ?_; refine K2 (fun (x : Nat × Option Addr × Nat × List (List Value) × IM) => ⟨[(24, .int .i64 x.1), (23, .int .i64 ks.length), (22, .slice p ks.length c), (1, .pointer (some ⟨b3, 0, none⟩)), (2, .pointer (some ⟨b4, 0, none⟩)), (3, .pointer (some ⟨b11, 0, none⟩))], [.blk b11 [.int .i64 k, .string nm, .int .i64 num, .int .i64 tk, .slice pt tks.length ct, .int .i64 fk, .slice pf fks.length cf, .int .i64 lb, .slice none 0 0, .int .i64 x1, .int .i64 x2, .int .i64 x3, .slice p4 n4 c4, .slice x.2.1 x.1 x.2.2.1], .slc x.2.1 x.2.2.1 68 14 x.1 x.2.2.2.1.flatten, .blk b4 zq14, .blk b3 [.int .i64 k, .string nm, .int .i64 num, .int .i64 tk, .slice pt tks.length ct, .int .i64 fk, .slice pf fks.length cf, .int .i64 lb, .slice p ks.length c]], x.2.2.2.2⟩) (fun x => x.1 ≤ ks.length ∧ C3 G1 x.2.2.2.2 ∧ x.2.2.2.1.length = x.1 ∧ KR (D3 x.2.2.2.2) ((Q4 ks).take x.1) x.2.2.2.1) (fun x => ks.length - x.1) (0, none, 0, [], G1) ?_ ?_ ?_)
 (simp only [J5]; exact E3)
 (exact ⟨Nat.zero_le _, C3.refl _, rfl, by rw [List.take_zero]; exact KR.nil⟩)
 (rintro ⟨i, pn, cn, es', Gi⟩ ⟨hi, hle, hel', hst⟩; simp only [] at hi hle hel' hst ⊢; replace hsl := hsl.mono zE0; replace hkl := hkl.mono zE0; replace hty := hty.mono zE0; replace hfr := hfr.mono zE0; replace hco := hco.mono hle)
 refine A5 ?_
 refine zf8 (fun h59 => ?_) (fun h59 => ?_)
 refine B8 ?_
 refine C2 ?_
 refine A5 ?_
 (have hil : i < ks.length := zO0; obtain ⟨bx, ox, e, rfl, hl, hat, hre, hgb⟩ := hsl.kidTm hkl (i := i) zO0 zO0; have hel := hre.len; have heo := hre.one; refine sP (B2 (j := i) rfl rfl rfl zO0) rfl rfl ?_)
 refine sL (A3 rfl rfl (hat _) hl) rfl rfl ?_
 refine zf1 (fun b72 => ?_)
 refine sS rfl rfl rfl hel heo rfl ?_ (hu := by exact E0 hel.symm)
 refine A5 ?_
 refine zf6 ?_
 refine aL 2 rfl (A3 rfl rfl (B9 zG0) hel) rfl ?_
 refine xx2 0 1 ?_
 refine A2 3 ?_
 (refine E6 rfl rfl (ih ks[i] (List.getElem_mem zO0) Gi _ (hkk _ (List.getElem_mem zO0)) hre) rfl rfl rfl (fun u G3 hle3 hh => ?_); obtain ⟨uc, rfl, hrv⟩ := hh; have hul := hrv.len; have huo := hrv.one; obtain ⟨v1, v2, v3, v4, v5, v6, v7, v8, v9, w1, w2, w3, w4, w5, rfl⟩ := A1p hul)
 refine A2 4 ?_
 refine zf3 (fun b83 => ?_)
 refine A2 5 ?_
 (refine R4 rfl rfl rfl rfl rfl rfl (fun _ _ => by repeat (first | exact Sw.here | apply Sw.there)) (O4 zG0) rfl (fun u hu => List.all_eq_true.1 huo u hu) zJ0 zO0 rfl rfl zI (fun p7 c7 => ?_))
 refine xx1 6 ?_
 refine A2 7 ?_
 refine R8 rfl rfl rfl rfl rfl rfl rfl rfl zK0 zC0 (by rfl) ?_
 refine B6 ?_
 refine zf4 ?_
 refine A5 ?_
 refine J7 (i + 1, p7, c7, es' ++ [[v1, v2, v3, v4, v5, v6, v7, v8, v9, w1, w2, w3, w4, w5]], G3) ?_ ?_ ?_
 (simp only [J5]; exact E3)
 (dsimp only; exact ⟨by omega, hle.trans hle3, by rw [List.length_append]; simp only [List.length_singleton]; omega, by rw [A6y zO0]; exact KR.snoc (KR.imp hst fun a e h => h.mono hle3) (by rw [List.length_take, T9]; omega) hrv⟩)
 (show ks.length - (i + 1) < ks.length - i; omega)
 refine K1 ?_
 (obtain rfl : i = ks.length := zO0; refine H1 (cs := es'.flatten) zB0 (fun G5 hle5 hsl5 hno5 => ?_))
 refine tT ?_
 refine zf9 ?_
 (rw [List.take_of_length_le (by rw [T9]; omega)] at hst; rw [if_pos zO0, eA, eB, A1s, A1s]; exact Z7.mk (D3.put' (us := Q4 ks) (B7.put (us := []) hk hnum hlb (hty.mono hle5) (hfr.mono hle5) rfl (D7.nil _ _) (by simp only [H4])) (hco.mono hle5) (by rw [T9]; omega) (fun h => by rw [T9]; exact h14 h) (by rw [T9]) (D7.of hsl5 zO0 (fun e he => (hst.each (by rw [T9]; omega) e he).1) (fun e he => (hst.each (by rw [T9]; omega) e he).2)) (KR.imp hst fun a e h => h.mono hle5)))
 refine K5 ?_
 refine C2 ?_
 (have hco := (A09 G); refine V1 68 14 ?_; refine K2 (fun (x : Nat × Option Addr × Nat × List (List Value) × IM) => ⟨[(24, .int .i64 x.1), (23, .int .i64 ks.length), (22, .slice p ks.length c), (1, .pointer (some ⟨b3, 0, none⟩)), (2, .pointer (some ⟨b4, 0, none⟩)), (3, .pointer (some ⟨b11, 0, none⟩))], [.blk b11 [.int .i64 k, .string nm, .int .i64 num, .int .i64 tk, .slice pt tks.length ct, .int .i64 fk, .slice pf fks.length cf, .int .i64 lb, .slice none 0 0, .int .i64 0, .int .i64 0, .int .i64 0, .slice none 0 0, .slice x.2.1 x.1 x.2.2.1], .slc x.2.1 x.2.2.1 68 14 x.1 x.2.2.2.1.flatten, .blk b4 zq14, .blk b3 [.int .i64 k, .string nm, .int .i64 num, .int .i64 tk, .slice pt tks.length ct, .int .i64 fk, .slice pf fks.length cf, .int .i64 lb, .slice p ks.length c]], x.2.2.2.2⟩) (fun x => x.1 ≤ ks.length ∧ C3 G x.2.2.2.2 ∧ x.2.2.2.1.length = x.1 ∧ KR (D3 x.2.2.2.2) ((Q4 ks).take x.1) x.2.2.2.1) (fun x => ks.length - x.1) (0, none, 0, [], G) ?_ ?_ ?_)
 (simp only [J5]; exact E3)
 (exact ⟨Nat.zero_le _, C3.refl _, rfl, by rw [List.take_zero]; exact KR.nil⟩)
 (rintro ⟨i, pn, cn, es', Gi⟩ ⟨hi, hle, hel', hst⟩; simp only [] at hi hle hel' hst ⊢; replace hsl := hsl.mono zE0; replace hkl := hkl.mono zE0; replace hty := hty.mono zE0; replace hfr := hfr.mono zE0; replace hco := hco.mono hle)
 refine A5 ?_
 refine zf8 (fun h140 => ?_) (fun h140 => ?_)
 refine B8 ?_
 refine C2 ?_
 refine A5 ?_
 (have hil : i < ks.length := zO0; obtain ⟨bx, ox, e, rfl, hl, hat, hre, hgb⟩ := hsl.kidTm hkl (i := i) zO0 zO0; have hel := hre.len; have heo := hre.one; refine sP (B2 (j := i) rfl rfl rfl zO0) rfl rfl ?_)
 refine sL (A3 rfl rfl (hat _) hl) rfl rfl ?_
 refine zf1 (fun b153 => ?_)
 refine sS rfl rfl rfl hel heo rfl ?_ (hu := by exact E0 hel.symm)
 refine A5 ?_
 refine zf6 ?_
 refine aL 2 rfl (A3 rfl rfl (B9 zG0) hel) rfl ?_
 refine xx2 0 1 ?_
 refine A2 3 ?_
 (refine E6 rfl rfl (ih ks[i] (List.getElem_mem zO0) Gi _ (hkk _ (List.getElem_mem zO0)) hre) rfl rfl rfl (fun u G3 hle3 hh => ?_); obtain ⟨uc, rfl, hrv⟩ := hh; have hul := hrv.len; have huo := hrv.one; obtain ⟨v1, v2, v3, v4, v5, v6, v7, v8, v9, w1, w2, w3, w4, w5, rfl⟩ := A1p hul)
 refine A2 4 ?_
 refine zf3 (fun b164 => ?_)
 refine A2 5 ?_
 (refine R4 rfl rfl rfl rfl rfl rfl (fun _ _ => by repeat (first | exact Sw.here | apply Sw.there)) (O4 zG0) rfl (fun u hu => List.all_eq_true.1 huo u hu) zJ0 zO0 rfl rfl zI (fun p7 c7 => ?_))
 refine xx1 6 ?_
 refine A2 7 ?_
 refine R8 rfl rfl rfl rfl rfl rfl rfl rfl zK0 zC0 (by rfl) ?_
 refine B6 ?_
 refine zf4 ?_
 refine A5 ?_
 refine J7 (i + 1, p7, c7, es' ++ [[v1, v2, v3, v4, v5, v6, v7, v8, v9, w1, w2, w3, w4, w5]], G3) ?_ ?_ ?_
 (simp only [J5]; exact E3)
 (dsimp only; exact ⟨by omega, hle.trans hle3, by rw [List.length_append]; simp only [List.length_singleton]; omega, by rw [A6y zO0]; exact KR.snoc (KR.imp hst fun a e h => h.mono hle3) (by rw [List.length_take, T9]; omega) hrv⟩)
 (show ks.length - (i + 1) < ks.length - i; omega)
 refine K1 ?_
 (obtain rfl : i = ks.length := zO0; refine H1 (cs := es'.flatten) zB0 (fun G5 hle5 hsl5 hno5 => ?_))
 refine tT ?_
 refine zf9 ?_
 (rw [List.take_of_length_le (by rw [T9]; omega)] at hst; rw [if_neg zO0]; exact Z7.mk (D3.put' (us := Q4 ks) (B7.put (us := []) hk hnum hlb (hty.mono hle5) (hfr.mono hle5) rfl (D7.nil _ _) (by simp only [H4])) (hco.mono hle5) (by rw [T9]; omega) (fun h => by rw [T9]; exact h14 h) (by rw [T9]) (D7.of hsl5 zO0 (fun e he => (hst.each (by rw [T9]; omega) e he).1) (fun e he => (hst.each (by rw [T9]; omega) e he).2)) (KR.imp hst fun a e h => h.mono hle5)))
theorem At.moS {hp : List A9} {G' : IM} {b o : Nat} {vs : List Value} (hg : C3 G G') (h : At [] G b o vs) : At hp G' b o vs := by
 rcases h with ⟨cs, hm, hv⟩ | ⟨n, c, el, sz, cs, hm, hv⟩ | ⟨full, hx, hv⟩
 ·cases hm
 ·cases hm
 ·exact .inr (.inr ⟨full, hg _ _ hx, hv⟩)
def GK.z : GK → Nat
 | .fn c d => c.z + d.z + 1
 | .pr c d => c.z + d.z + 1
 | .inj c => c.z + 1
 | .prj _ c => c.z + 1
 | _ => 1
section
variable {a b : GK} {ak atg alb bk btg blb : Int} {aks bks : List Cn}
theorem A8u (h : a.cn = .mk ak atg alb aks) : ak = 1 ∨ ak = 2 ∨ ak = 3 ∨ ak = 4 ∨ ak = 5 ∨ ak = 6 := by
 cases a <;> simp only [GK.cn, Cn.mk.injEq] at h <;> obtain ⟨rfl, _⟩ := h <;> simp
theorem A5a (h : a.cn = .mk ak atg alb aks) (h1 : ak = 1 ∧ atg = 1) : a = .ida := by
 cases a <;> simp only [GK.cn, Cn.mk.injEq] at h <;> first | rfl | (exfalso; omega)
theorem A6z (h : a.cn = .mk ak atg alb aks) (h1 : ak = 5) : ∃ c, a = .prj alb c ∧ aks = [c.cn] ∧ atg = 0 := by
 cases a <;> simp only [GK.cn, Cn.mk.injEq] at h <;> first | (exfalso; omega) | exact ⟨_, by rw [h.2.2.1], h.2.2.2.symm, h.2.1.symm⟩
theorem A3w (h : a.cn = .mk ak atg alb aks) (h1 : ak = 6) : a = .fl alb atg ∧ aks = [] := by
 cases a <;> simp only [GK.cn, Cn.mk.injEq] at h <;> first | (exfalso; omega) | exact ⟨by rw [h.2.2.1, h.2.1], h.2.2.2.symm⟩
theorem A3x (h : a.cn = .mk ak atg alb aks) (h1 : ak = 4) : ∃ c, a = .inj c ∧ aks = [c.cn] ∧ atg = 0 ∧ alb = 0 := by
 cases a <;> simp only [GK.cn, Cn.mk.injEq] at h <;> first | (exfalso; omega) | exact ⟨_, rfl, h.2.2.2.symm, h.2.1.symm, h.2.2.1.symm⟩
theorem A6A (h : a.cn = .mk ak atg alb aks) (h1 : ak = 2) : ∃ c d, a = .fn c d ∧ aks = [c.cn, d.cn] ∧ atg = 0 ∧ alb = 0 := by
 cases a <;> simp only [GK.cn, Cn.mk.injEq] at h <;> first | (exfalso; omega) | exact ⟨_, _, rfl, h.2.2.2.symm, h.2.1.symm, h.2.2.1.symm⟩
theorem A6B (h : a.cn = .mk ak atg alb aks) (h1 : ak = 3) : ∃ c d, a = .pr c d ∧ aks = [c.cn, d.cn] ∧ atg = 0 ∧ alb = 0 := by
 cases a <;> simp only [GK.cn, Cn.mk.injEq] at h <;> first | (exfalso; omega) | exact ⟨_, _, rfl, h.2.2.2.symm, h.2.1.symm, h.2.2.1.symm⟩
theorem A3y (h : a.cn = .mk ak atg alb aks) (h1 : ¬(ak = 1 ∧ atg = 1)) (h4 : ak ≠ 4) (h5 : ak ≠ 5) (h6 : ak ≠ 6) : a.pl = true := by
 cases a <;> simp only [GK.cn, Cn.mk.injEq] at h <;> first | rfl | (exfalso; omega)
theorem B2Z (h : b.cn = .mk bk btg blb bks) (hf : fit .ida b = true) : bk = 5 ∨ (bk = 1 ∧ btg = 1) := by
 rw [fit] at hf
 cases b <;> simp only [GK.cn, Cn.mk.injEq] at h <;> first | (exfalso; simp [GK.md] at hf; done) | (obtain ⟨rfl, rfl, _⟩ := h; simp)
theorem A8v (h : b.cn = .mk bk btg blb bks) (h5 : bk ≠ 5) (hf : fit (.inj c) b = true) : b = .ida := by
 cases b with
 | ida => rfl
 | prj l d => simp only [GK.cn, Cn.mk.injEq] at h; exact absurd h.1.symm h5
 | _ => exfalso; rw [fit] at hf <;> first | (simp at hf; done) | simp
theorem A8w {t : Int} (hp : a.pl = true) (hf : fit a (.fl l t) = true) : a.tg = t := by
 cases a <;> first | (cases hp; done) | (rw [fit] at hf; exact of_decide_eq_true hf)
theorem B20 {e : GK} (hp : a.pl = true) (hf : fit a (.inj e) = true) : fit a e = true := by
 cases a <;> first | (cases hp; done) | (rw [fit] at hf; exact hf)
theorem A6C (ha : a.cn = .mk ak atg alb aks) (hb : b.cn = .mk bk btg blb bks) (hp : a.pl = true) (h4 : bk ≠ 4) (h6 : bk ≠ 6) (hf : fit a b = true) : ak = bk ∧ atg = btg ∧ (ak = 1 → cmp a b = a) := by
 cases a <;> first | (cases hp; done) | skip
 all_goals cases b <;> first | (exfalso; rw [fit] at hf <;> first | (simp at hf; done) | (simp; done)) | (simp only [GK.cn, Cn.mk.injEq] at ha hb; exfalso; omega) | (simp only [GK.cn, Cn.mk.injEq] at ha hb; exact ⟨by omega, by omega, fun h => by first | (exfalso; omega) | rw [cmp]⟩)
theorem B8V (ha : a.cn = .mk ak atg alb aks) (hb : b.cn = .mk bk btg blb bks) (h1 : ak = 2) (h2 : bk = ak) (hf : fit a b = true) : ∃ c d c' d', a = .fn c d ∧ b = .fn c' d' ∧ aks = [c.cn, d.cn] ∧ bks = [c'.cn, d'.cn] ∧ fit c' c = true ∧ fit d d' = true ∧ atg = 0 ∧ alb = 0 := by
 obtain ⟨c, d, rfl, hk, ht, hl⟩ := A6A ha h1
 obtain ⟨c', d', rfl, hk', _⟩ := A6A hb zO0
 rw [fit, Bool.and_eq_true] at hf
 exact ⟨c, d, c', d', rfl, rfl, hk, hk', hf.1, hf.2, ht, hl⟩
theorem B8W (ha : a.cn = .mk ak atg alb aks) (hb : b.cn = .mk bk btg blb bks) (h1 : ak = 3) (h2 : bk = ak) (hf : fit a b = true) : ∃ c d c' d', a = .pr c d ∧ b = .pr c' d' ∧ aks = [c.cn, d.cn] ∧ bks = [c'.cn, d'.cn] ∧ fit c c' = true ∧ fit d d' = true ∧ atg = 0 ∧ alb = 0 := by
 obtain ⟨c, d, rfl, hk, ht, hl⟩ := A6B ha h1
 obtain ⟨c', d', rfl, hk', _⟩ := A6B hb zO0
 rw [fit, Bool.and_eq_true] at hf
 exact ⟨c, d, c', d', rfl, rfl, hk, hk', hf.1, hf.2, ht, hl⟩
end
theorem B21 {a b : GK} (h : fit (.prj l a) b = true) : fit a b = true := by rw [fit] at h; exact h
theorem B8X {a d : GK} (h : fit (.inj a) (.prj l d) = true) (ht : a.tg = d.tg) : fit a d = true := by rw [fit, if_pos ht] at h; exact h
def CmP (c : GK) : IM → Value → List A9 → Prop := M3 fun G' v => ∃ cells, v = .tuple ⟨[.agg ⟨cells⟩, .bool true]⟩ ∧ H3 G' c.cn cells
theorem CmP.mk (h : H3 G c.cn cells) : CmP c G (.tuple ⟨[.agg ⟨cells⟩, .bool true]⟩) [] := ⟨rfl, cells, rfl, h⟩
theorem B22 {t : Int} (hl : F8 l) (ht : F8 t) : H3 G (GK.fl l t).cn [.int .i64 6, .int .i64 t, .int .i64 l, .slice none 0 0] :=
 H3.put (ks := []) (es := []) ⟨by decide, by decide⟩ ht hl zN0 zN0 zN0 rfl (D7.nil _ _) KR.nil
theorem B23 : ∀ (a : GK) {G : IM} {cells : List Value}, H3 G a.cn cells → F8 a.tg := by
 intro a
 induction a with
 | inj c i =>
  intro G cells h
  obtain ⟨p, cp, es, rfl, _, _, _, _, _, _, hs, hk⟩ := h.open4
  obtain ⟨_, _, e, _, _, _, _, hre, _, _⟩ := hs.kidR hk (i := 0) zP0 zP0
  exact i hre
 | fl l t => intro G cells h; obtain ⟨p, cp, es, rfl, _, ht, _⟩ := h.open4; exact ht
 | _ => intro G cells _; exact ⟨by simp [GK.tg], by simp [GK.tg]⟩
theorem B8Y {a b : GK} {ak atg alb bk btg blb : Int} {aks bks : List Cn} (ha : a.cn = .mk ak atg alb aks) (hb : b.cn = .mk bk btg blb bks) (hg : ak = 2 ∨ ak = 3) (e : bk = ak) (hf : fit a b = true) : ∃ a1 a2 b1 b2 : GK, aks = [a1.cn, a2.cn] ∧ bks = [b1.cn, b2.cn] ∧ atg = 0 ∧ alb = 0 ∧ a1.z + b1.z < a.z + b.z ∧ a2.z + b2.z < a.z + b.z ∧ fit a2 b2 = true ∧ (ak = 2 → fit b1 a1 = true ∧ (cmp a b).cn = .mk 2 0 0 [(cmp b1 a1).cn, (cmp a2 b2).cn]) ∧ (ak = 3 → fit a1 b1 = true ∧ (cmp a b).cn = .mk 3 0 0 [(cmp a1 b1).cn, (cmp a2 b2).cn]) := by
 rcases hg with hg | hg
 ·obtain ⟨a1, a2, b1, b2, rfl, rfl, rfl, rfl, hf1, hf2, rfl, rfl⟩ := B8V ha hb hg e hf
  exact ⟨a1, a2, b1, b2, rfl, rfl, rfl, rfl, by simp [GK.z]; omega, by simp [GK.z]; omega, hf2, fun _ => ⟨hf1, by rw [cmp, GK.cn]⟩, fun h => by omega⟩
 ·obtain ⟨a1, a2, b1, b2, rfl, rfl, rfl, rfl, hf1, hf2, rfl, rfl⟩ := B8W ha hb hg e hf
  exact ⟨a1, a2, b1, b2, rfl, rfl, rfl, rfl, by simp [GK.z]; omega, by simp [GK.z]; omega, hf2, fun h => by omega, fun _ => ⟨hf1, by rw [cmp, GK.cn]⟩⟩
theorem B8Z : ∀ (n : Nat) (a b : GK) (G : IM) (ca cb : List Value), a.z + b.z ≤ n → fit a b = true → H3 G a.cn ca → H3 G b.cn cb → Fn prog 126 [.agg ⟨ca⟩, .agg ⟨cb⟩] [] G (CmP (cmp a b)) := by
 intro n
 induction n with
 | zero => intro a b G ca cb h; exfalso; cases a <;> simp [GK.z] at h
 | succ n ih =>
  intro a b G ca cb hz hf hra hrb
  have htg64 := B23 a hra
  have hra0 := hra
  have hrb0 := hrb
  obtain ⟨ak, atg, alb, aks, ha⟩ := A1Z a
  obtain ⟨bk, btg, blb, bks, hb⟩ := A1Z b
  have hkA := A8u ha
  have hkB := A8u hb
  have hTa := fun G1 (h : C3 G G1) => A8o a G1 ca (hra.mono h)
  have hTb := fun G1 (h : C3 G G1) => A8o b G1 cb (hrb.mono h)
  have hAa := B2D _ G _ hra
  have hAb := B2D _ G _ hrb
  rw [ha] at hAa hra
  rw [hb] at hAb hrb
  rw [Cn.any] at hAa hAb
  obtain ⟨pa, cpa, ea, rfl, hak, hatg, halb, hna, _, _, hsa, hka⟩ := hra.open4
  obtain ⟨pb, cpb, eb, rfl, hbk, hbtg, hblb, hnb, _, _, hsb, hkb⟩ := hrb.open4
  have h0 : F8 0 := ⟨by decide, by decide⟩
  have hm0 : True := trivial
  refine C4 func126 rfl ntmps126 results126 rfl ?_
  intro w0
  refine A5 ?_
  refine zf2 (fun b3 => ?_)
  refine zf2 (fun b4 => ?_)
  refine zf1 (fun b5 => ?_)
  refine B6 ?_
  refine C2 ?_
  refine B5 ?_
  focus (by_cases g1 : ak = 1 ∧ atg = 1; rw [decide_eq_true g1] at hAa; rotate_left; rw [decide_eq_false g1] at hAa; rotate_left; all_goals (refine F0 rfl hAa rfl rfl ?_))
  refine B1 ?_
  refine zf6 ?_
  refine xx3 0 1 2 ?_
  refine A0r (i := 3) (l' := [tt,tt,tt,tt,ff,ff,ff,ff,ff,ff]) rfl C7 (qE rfl rfl) rfl zM0 rfl rfl (fun h24 => ?_) (fun h24 => ?_)
  refine xx4 4 5 6 7 ?_
  refine A2 8 ?_
  refine E9 rfl ?_
  refine xx1 9 ?_
  refine B1 ?_
  refine zf5 ?_
  (exact CmP.mk (by obtain rfl := A5a ha zO0; rw [cmp]; exact hrb0))
  refine xx2 4 5 ?_
  refine A2 6 ?_
  (have g2 : bk = 1 ∧ btg = 1 := (by obtain rfl := A5a ha zO0; have := B2Z hb hf; omega); rw [decide_eq_true g2] at hAb; refine M9 rfl rfl hAb rfl rfl rfl ?_)
  refine xx1 7 ?_
  refine A2 8 ?_
  refine E9 rfl ?_
  refine xx1 9 ?_
  refine B1 ?_
  refine zf5 ?_
  (exact CmP.mk (by obtain rfl := A5a ha zO0; rw [cmp]; exact hrb0))
  refine D4 ?_
  refine zf0 (fun h62 => ?_) (fun h62 => ?_)
  refine B1 ?_
  (have hg : ak = 5 := zO0; obtain ⟨c, rfl, rfl, rfl⟩ := A6z ha hg; subst hg; obtain ⟨b1, o1, e1, rfl, hl1, ho1, hat1, hre1, _, hgb1⟩ := hsa.kidR hka (i := 0) zP0 zP0; replace hre1 : H3 G c.cn e1 := hre1; refine zdd D9 rfl ?_)
  refine xx5 0 1 2 3 4 ?_
  refine N5 (j := 5) (j' := 9) zM0 ?_ ?_
  (refine E6 rfl rfl (ih c b G _ _ (by simp [GK.z] at hz; omega) (B21 hf) hre1 hrb0) rfl rfl rfl (fun u G1 hle1 hh => ?_); obtain ⟨uc, rfl, hru⟩ := hh; obtain ⟨x1, x2, x3, p4, n4, c4, rfl⟩ := hru.ints)
  refine xx3 6 7 8 ?_
  refine A2 9 ?_
  refine zf10 (fun b80 => ?_)
  refine A2 10 ?_
  refine E9 rfl ?_
  refine xx1 11 ?_
  refine B8 ?_
  refine zf7 (fun b91 => ?_)
  refine F0 rfl ((A48 _ _ _ _ _ _ _ _ _ _ _)) rfl rfl ?_
  refine A7 ?_
  (refine H1 (cs := [.int .i64 x1, .int .i64 x2, .int .i64 x3, .slice p4 n4 c4]) zB0 (fun G5 hle5 hsl5 hno5 => ?_))
  refine B5 ?_
  refine zf5 ?_
  (exact CmP.mk (by rw [cmp, GK.cn]; exact A1r (hru.mono hle5) hsl5 hak hatg halb zN0))
  refine zf10 (fun b105 => ?_)
  refine A2 5 ?_
  (refine E6 rfl rfl (ih c b G _ _ (by simp [GK.z] at hz; omega) (B21 hf) hre1 hrb0) rfl rfl rfl (fun u G1 hle1 hh => ?_); obtain ⟨uc, rfl, hru⟩ := hh; obtain ⟨x1, x2, x3, p4, n4, c4, rfl⟩ := hru.ints)
  refine xx3 6 7 8 ?_
  refine A2 10 ?_
  refine E9 rfl ?_
  refine xx1 11 ?_
  refine B8 ?_
  refine zf7 (fun b121 => ?_)
  refine F0 rfl ((A48 _ _ _ _ _ _ _ _ _ _ _)) rfl rfl ?_
  refine A7 ?_
  (refine H1 (cs := [.int .i64 x1, .int .i64 x2, .int .i64 x3, .slice p4 n4 c4]) zB0 (fun G5 hle5 hsl5 hno5 => ?_))
  refine B5 ?_
  refine zf5 ?_
  (exact CmP.mk (by rw [cmp, GK.cn]; exact A1r (hru.mono hle5) hsl5 hak hatg halb zN0))
  refine D4 ?_
  refine zf0 (fun h143 => ?_) (fun h143 => ?_)
  refine K5 ?_
  refine zf5 ?_
  (exact CmP.mk (by obtain ⟨rfl, _⟩ := A3w ha zO0; rw [cmp]; exact hra0))
  refine D4 ?_
  refine zf0 (fun h168 => ?_) (fun h168 => ?_)
  refine B5 ?_
  refine zf0 (fun h172 => ?_) (fun h172 => ?_)
  refine B8 ?_
  (have hg : ak = 4 := zO0; have hg2 : bk = 5 := zO0; obtain ⟨c, rfl, rfl, rfl, rfl⟩ := A3x ha hg; obtain ⟨d, rfl, rfl, rfl⟩ := A6z hb hg2; subst hg; subst hg2; obtain ⟨b1, o1, e1, rfl, hl1, ho1, hat1, hre1, _, hgb1⟩ := hsa.kidR hka (i := 0) zP0 zP0; replace hre1 : H3 G c.cn e1 := hre1; obtain ⟨b3, o3, e3, rfl, hl3, ho3, hat3, hre3, _, hgb3⟩ := hsb.kidR hkb (i := 0) zP0 zP0; replace hre3 : H3 G d.cn e3 := hre3; refine zdd D9 rfl ?_)
  refine xx5 0 2 3 4 5 ?_
  refine A2 1 ?_
  refine M9 rfl rfl ((hTa G (C3.refl _))) rfl rfl rfl ?_
  refine A2 6 ?_
  refine M9 rfl rfl ((A8o d G e3 hre3)) rfl rfl rfl ?_
  refine A0r (i := 7) (l' := [tt,tt,tt,tt,tt,tt,tt,tt]) rfl C7 (qE rfl rfl) rfl zM0 rfl rfl (fun h190 => ?_) (fun h190 => ?_)
  refine B6 ?_
  refine zf6 ?_
  refine xx8 0 1 2 3 4 5 6 7 ?_
  refine A2 8 ?_
  (refine E6 rfl rfl (ih c d G _ _ (by simp [GK.z] at hz; omega) (B8X hf zL0) hre1 hre3) rfl rfl rfl (fun u G1 hle1 hh => ?_); obtain ⟨uc, rfl, hru⟩ := hh; obtain ⟨x1, x2, x3, p4, n4, c4, rfl⟩ := hru.ints)
  refine xx2 9 10 ?_
  refine A2 11 ?_
  refine E9 rfl ?_
  refine xx1 12 ?_
  refine A7 ?_
  refine zf5 ?_
  (exact CmP.mk (by rw [cmp, if_pos zL0]; exact hru))
  refine A7 ?_
  refine zf6 ?_
  refine xx3 0 1 2 ?_
  refine A2 3 ?_
  refine M9 rfl rfl ((hTa G (C3.refl _))) rfl rfl rfl ?_
  refine xx1 4 ?_
  refine A2 5 ?_
  refine E9 rfl ?_
  refine xx1 6 ?_
  refine B1 ?_
  refine zf5 ?_
  (exact CmP.mk (by rw [cmp, if_neg zL0]; exact B22 hblb htg64))
  refine E1 ?_
  refine zf12 ?_
  refine B1 ?_
  refine zf6 ?_
  refine xx2 0 1 ?_
  refine A2 2 ?_
  (have g2 : bk = 1 ∧ btg = 1 := (by obtain ⟨c, rfl, _⟩ := A3x ha zO0; obtain rfl := A8v hb zO0 hf; simp only [GK.cn, Cn.mk.injEq] at hb; omega); rw [decide_eq_true g2] at hAb; refine M9 rfl rfl hAb rfl rfl rfl ?_)
  refine A2 3 ?_
  refine E9 rfl ?_
  refine xx1 4 ?_
  refine B1 ?_
  refine zf5 ?_
  (exact CmP.mk (by obtain ⟨c, rfl, _⟩ := A3x ha zO0; obtain rfl := A8v hb zO0 hf; rw [A2N]; exact hra0))
  refine K7 ?_
  refine zf11 ?_
  refine D4 ?_
  refine zf0 (fun h294 => ?_) (fun h294 => ?_)
  refine B1 ?_
  refine zf6 ?_
  refine xx3 0 1 3 ?_
  refine A2 2 ?_
  refine M9 rfl rfl ((hTa G (C3.refl _))) rfl rfl rfl ?_
  refine A2 4 ?_
  refine M9 rfl rfl ((hTb G (C3.refl _))) rfl rfl rfl ?_
  refine A0r (i := 5) (l' := [tt,tt,tt,tt,tt,tt,ff,ff]) rfl C7 (qE rfl rfl) rfl zM0 rfl rfl (fun h308 => ?_) (fun h308 => ?_)
  refine A2 6 ?_
  refine E9 rfl ?_
  refine xx1 7 ?_
  refine B1 ?_
  refine zf5 ?_
  (exact CmP.mk (by have hpl := A3y ha zO0 zO0 zO0 zO0; obtain ⟨rfl, _⟩ := A3w hb zO0; rw [A1E hpl]; exact hrb0))
  refine A2 6 ?_
  refine E9 rfl ?_
  refine xx1 7 ?_
  refine B1 ?_
  refine zf5 ?_
  (exfalso; have hpl := A3y ha zO0 zO0 zO0 zO0; obtain ⟨rfl, _⟩ := A3w hb zO0; have hq := A8w hpl hf; exact absurd hq zL0)
  refine D4 ?_
  refine zf0 (fun h337 => ?_) (fun h337 => ?_)
  refine B1 ?_
  (have hg : bk = 4 := zO0; have hpl := A3y ha zO0 zO0 zO0 zO0; obtain ⟨d, rfl, rfl, rfl, rfl⟩ := A3x hb hg; subst hg; obtain ⟨b3, o3, e3, rfl, hl3, ho3, hat3, hre3, _, hgb3⟩ := hsb.kidR hkb (i := 0) zP0 zP0; replace hre3 : H3 G d.cn e3 := hre3; refine zdd D9 rfl ?_)
  refine xx5 0 1 2 3 4 ?_
  refine N5 (j := 5) (j' := 9) zM0 ?_ ?_
  (refine E6 rfl rfl (ih a d G _ _ (by simp [GK.z] at hz; omega) (B20 hpl hf) hra0 hre3) rfl rfl rfl (fun u G1 hle1 hh => ?_); obtain ⟨uc, rfl, hru⟩ := hh; obtain ⟨x1, x2, x3, p4, n4, c4, rfl⟩ := hru.ints)
  refine xx3 6 7 8 ?_
  refine A2 9 ?_
  refine zf10 (fun b355 => ?_)
  refine A2 10 ?_
  refine E9 rfl ?_
  refine xx1 11 ?_
  refine B8 ?_
  refine zf7 (fun b366 => ?_)
  refine F0 rfl ((A48 _ _ _ _ _ _ _ _ _ _ _)) rfl rfl ?_
  refine A7 ?_
  (refine H1 (cs := [.int .i64 x1, .int .i64 x2, .int .i64 x3, .slice p4 n4 c4]) zB0 (fun G5 hle5 hsl5 hno5 => ?_))
  refine B5 ?_
  refine zf5 ?_
  (exact CmP.mk (by rw [A0T hpl, GK.cn]; exact A1r (hru.mono hle5) hsl5 hbk hbtg hblb zN0))
  refine zf10 (fun b380 => ?_)
  refine A2 5 ?_
  (refine E6 rfl rfl (ih a d G _ _ (by simp [GK.z] at hz; omega) (B20 hpl hf) hra0 hre3) rfl rfl rfl (fun u G1 hle1 hh => ?_); obtain ⟨uc, rfl, hru⟩ := hh; obtain ⟨x1, x2, x3, p4, n4, c4, rfl⟩ := hru.ints)
  refine xx3 6 7 8 ?_
  refine A2 10 ?_
  refine E9 rfl ?_
  refine xx1 11 ?_
  refine B8 ?_
  refine zf7 (fun b396 => ?_)
  refine F0 rfl ((A48 _ _ _ _ _ _ _ _ _ _ _)) rfl rfl ?_
  refine A7 ?_
  (refine H1 (cs := [.int .i64 x1, .int .i64 x2, .int .i64 x3, .slice p4 n4 c4]) zB0 (fun G5 hle5 hsl5 hno5 => ?_))
  refine B5 ?_
  refine zf5 ?_
  (exact CmP.mk (by rw [A0T hpl, GK.cn]; exact A1r (hru.mono hle5) hsl5 hbk hbtg hblb zN0))
  refine I9 ?_
  refine zf16 (fun h420 => ?_) (fun h420 => ?_)
  refine A1i ?_
  refine zf5 ?_
  (exfalso; have hq := A6C ha hb (A3y ha zO0 zO0 zO0 zO0) zO0 zO0 hf; omega)
  refine B1 ?_
  refine zf16 (fun h449 => ?_) (fun h449 => ?_)
  refine K1 ?_
  refine zf5 ?_
  (exfalso; have hq := A6C ha hb (A3y ha zO0 zO0 zO0 zO0) zO0 zO0 hf; omega)
  refine E1 ?_
  refine zf0 (fun h476 => ?_) (fun h476 => ?_)
  refine K5 ?_
  refine zf5 ?_
  (exact CmP.mk (by rw [(A6C ha hb (A3y ha zO0 zO0 zO0 zO0) zO0 zO0 hf).2.2 zO0]; exact hra0))
  refine D4 ?_
  (clear hm0; have hg : ak = 2 ∨ ak = 3 := zO0; obtain ⟨a1, a2, b1, b2, rfl, rfl, rfl, rfl, hz1, hz2, hf2, hp2, hp3⟩ := B8Y ha hb hg zO0 hf; obtain ⟨q1, o1, e1, rfl, hl1, ho1, hat1, hre1, _, hgb1⟩ := hsa.kidR hka (i := 0) zP0 zP0; obtain ⟨q2, o2, e2, hE2, hl2, ho2, hat2, hre2, _, hgb2⟩ := hsa.kidR hka (i := 1) zP0 zP0; cases hE2; obtain ⟨q3, o3, e3, rfl, hl3, ho3, hat3, hre3, _, hgb3⟩ := hsb.kidR hkb (i := 0) zP0 zP0; obtain ⟨q4, o4, e4, hE4, hl4, ho4, hat4, hre4, _, hgb4⟩ := hsb.kidR hkb (i := 1) zP0 zP0; cases hE4; replace hre1 : H3 G a1.cn e1 := hre1; replace hre2 : H3 G a2.cn e2 := hre2; replace hre3 : H3 G b1.cn e3 := hre3; replace hre4 : H3 G b2.cn e4 := hre4; obtain ⟨f1, f2, f3, r1, m1, z1, rfl⟩ := hre1.ints; obtain ⟨g1, g2, g3, r2, m2, z2, rfl⟩ := hre2.ints; obtain ⟨h1, h2, h3, r3, m3, z3, rfl⟩ := hre3.ints; obtain ⟨j1, j2, j3, r4, m4, z4, rfl⟩ := hre4.ints; have hm1 : True := trivial; refine P4 (fun (x : Nat × Nat) => ⟨[(11, .pointer (some ⟨x.2, 0, none⟩)), (10, .pointer (some ⟨x.1, 0, none⟩)), (5, .bool false), (4, .pointer (some ⟨b5, 0, none⟩)), (3, .pointer (some ⟨b4, 0, none⟩)), (2, .pointer (some ⟨b3, 0, none⟩))], [.blk x.2 [.int .i64 h1, .int .i64 h2, .int .i64 h3, .slice r3 m3 z3], .blk x.1 [.int .i64 f1, .int .i64 f2, .int .i64 f3, .slice r1 m1 z1], .blk b5 [.int .i64 0, .int .i64 0, .int .i64 0, .slice none 0 0], .blk b4 [.int .i64 bk, .int .i64 btg, .int .i64 blb, .slice (some ⟨q3, o3, none⟩) [b1.cn, b2.cn].length cpb], .blk b3 [.int .i64 ak, .int .i64 0, .int .i64 0, .slice (some ⟨q1, o1, none⟩) [a1.cn, a2.cn].length cpa]], G⟩) (fun _ => True) (zdd D9 rfl ?_) ?_)
  refine xx8 0 1 2 3 4 5 6 7 ?_
  refine N5 (j := 8) (j' := 9) zM0 ?_ ?_
  refine zf10 (fun b511 => ?_)
  refine A2 9 ?_
  refine zf10 (fun b513 => ?_)
  refine A2 10 ?_
  (refine oS rfl rfl rfl rfl hl1 ho1 rfl rfl ?_ (hu := by exact E0 hl1.symm))
  refine A2 11 ?_
  (refine oS rfl rfl rfl rfl hl1 ho1 rfl rfl ?_ (hu := by exact E0 hl1.symm))
  refine V0 ?_
  refine E2 (_, _) (D6 zA0 zQ) trivial
  refine zf10 (fun b520 => ?_)
  refine A2 8 ?_
  refine zf10 (fun b522 => ?_)
  refine A2 10 ?_
  (refine oS rfl rfl rfl rfl hl1 ho1 rfl rfl ?_ (hu := by exact E0 hl1.symm))
  refine A2 11 ?_
  (refine oS rfl rfl rfl rfl hl1 ho1 rfl rfl ?_ (hu := by exact E0 hl1.symm))
  refine V0 ?_
  refine E2 (_, _) (D6 zA0 zQ) trivial
  (clear hm1; rintro ⟨x10, x11⟩ -; simp only []; have hm2 : True := trivial)
  (clear hm2; have hm3 : True := trivial; refine tS ?_; refine P4 (fun (x : List Value × List Value) => ⟨[(11, .pointer (some ⟨x11, 0, none⟩)), (10, .pointer (some ⟨x10, 0, none⟩)), (5, .bool false), (4, .pointer (some ⟨b5, 0, none⟩)), (3, .pointer (some ⟨b4, 0, none⟩)), (2, .pointer (some ⟨b3, 0, none⟩))], [.blk x11 x.2, .blk x10 x.1, .blk b5 [.int .i64 0, .int .i64 0, .int .i64 0, .slice none 0 0], .blk b4 [.int .i64 bk, .int .i64 btg, .int .i64 blb, .slice (some ⟨q3, o3, none⟩) [b1.cn, b2.cn].length cpb], .blk b3 [.int .i64 ak, .int .i64 0, .int .i64 0, .slice (some ⟨q1, o1, none⟩) [a1.cn, a2.cn].length cpa]], G⟩) (fun x => ∃ c d, H3 G c.cn x.1 ∧ H3 G d.cn x.2 ∧ c.z + d.z ≤ n ∧ fit c d = true ∧ (cmp a b).cn = .mk ak 0 0 [(cmp c d).cn, (cmp a2 b2).cn]) ?_ ?_)
  refine B6 ?_
  refine zf0 (fun h535 => ?_) (fun h535 => ?_)
  refine B6 ?_
  refine sL (A3 rfl rfl (B9 zG0) hl3) rfl rfl ?_
  refine sL (A3 rfl rfl (B9 zG0) hl1) rfl rfl ?_
  refine sS rfl rfl rfl hl1 ho1 rfl ?_ (hu := by exact E0 hl1.symm)
  refine sS rfl rfl rfl hl1 ho1 rfl ?_ (hu := by exact E0 hl1.symm)
  refine sD ?_
  refine E2 (_, _) (D6 zA0 zQ) ⟨b1, a1, hre3, hre1, by omega, (hp2 zO0).1, by have ek : ak = 2 := zO0; rw [(hp2 ek).2, ek]⟩
  refine B6 ?_
  refine E2 (_, _) (D6 zA0 zQ) ⟨a1, b1, hre1, hre3, by omega, (hp3 zO0).1, by have ek : ak = 3 := zO0; rw [(hp3 ek).2, ek]⟩
  (clear hm3; rintro ⟨cx, dx⟩ ⟨c0, d0, hrc, hrd, hzc, hfc, hcm⟩; simp only [] at hrc hrd ⊢; obtain ⟨f1, f2, f3, r1, m1, z1, rfl⟩ := hrc.ints; obtain ⟨h1, h2, h3, r3, m3, z3, rfl⟩ := hrd.ints; have hm4 : True := trivial)
  refine B6 ?_
  (refine H6 rfl (ih c0 d0 G _ _ hzc hfc hrc hrd) rfl rfl (fun u G1 hle1 hh => ?_); obtain ⟨uc, rfl, hru⟩ := hh; obtain ⟨x1, x2, x3, p4, n4, c4, rfl⟩ := hru.ints)
  refine B5 ?_
  refine zf1 (fun b560 => ?_)
  refine sS rfl rfl rfl hl1 ho1 rfl ?_ (hu := by exact E0 hl1.symm)
  refine B6 ?_
  (have hq := hm4; refine P4 (fun (x : Nat × List Value × IM) => ⟨[(15, .bool true), (14, .pointer (some ⟨x.1, 0, none⟩)), (13, .bool true), (12, .pointer (some ⟨b560, 0, none⟩)), (5, .bool false), (4, .pointer (some ⟨b5, 0, none⟩)), (3, .pointer (some ⟨b4, 0, none⟩)), (2, .pointer (some ⟨b3, 0, none⟩))], [.blk x.1 x.2.1, .blk b560 [.int .i64 x1, .int .i64 x2, .int .i64 x3, .slice p4 n4 c4], .blk b5 [.int .i64 0, .int .i64 0, .int .i64 0, .slice none 0 0], .blk b4 [.int .i64 bk, .int .i64 btg, .int .i64 blb, .slice (some ⟨q3, o3, none⟩) [b1.cn, b2.cn].length cpb], .blk b3 [.int .i64 ak, .int .i64 0, .int .i64 0, .slice (some ⟨q1, o1, none⟩) [a1.cn, a2.cn].length cpa]], x.2.2⟩) (fun x => C3 G1 x.2.2 ∧ H3 x.2.2 (cmp a2 b2).cn x.2.1) (zdd D9 rfl ?_) ?_)
  refine xx3 0 1 2 ?_
  refine aL 3 rfl (A3 rfl rfl (At.moS hle1 (hat2 [])) hl2) rfl ?_
  refine xx3 4 5 6 ?_
  refine aL 7 rfl (A3 rfl rfl (At.moS hle1 (hat4 [])) hl4) rfl ?_
  refine N5 (j := 8) (j' := 12) zM0 ?_ ?_
  (refine E6 rfl rfl (ih a2 b2 G1 _ _ zO0 hf2 (hre2.mono hle1) (hre4.mono hle1)) rfl rfl rfl (fun u G2 hle2 hh => ?_); obtain ⟨vc, rfl, hrv⟩ := hh; obtain ⟨y1, y2, y3, p5, n5, c5, rfl⟩ := hrv.ints)
  refine xx3 9 10 11 ?_
  refine A2 12 ?_
  refine zf10 (fun b581 => ?_)
  refine A2 13 ?_
  (refine oS rfl rfl rfl rfl hl1 ho1 rfl rfl ?_ (hu := by exact E0 hl1.symm))
  refine xx1 14 ?_
  refine V0 ?_
  refine E2 (_, _, G2) (D6 zA0 zQ) ⟨hle2, hrv⟩
  refine zf10 (fun b587 => ?_)
  refine A2 8 ?_
  (refine E6 rfl rfl (ih a2 b2 G1 _ _ zO0 hf2 (hre2.mono hle1) (hre4.mono hle1)) rfl rfl rfl (fun u G2 hle2 hh => ?_); obtain ⟨vc, rfl, hrv⟩ := hh; obtain ⟨y1, y2, y3, p5, n5, c5, rfl⟩ := hrv.ints)
  refine xx3 9 10 11 ?_
  refine A2 13 ?_
  (refine oS rfl rfl rfl rfl hl1 ho1 rfl rfl ?_ (hu := by exact E0 hl1.symm))
  refine xx1 14 ?_
  refine V0 ?_
  refine E2 (_, _, G2) (D6 zA0 zQ) ⟨hle2, hrv⟩
  (clear hm4; rintro ⟨x14, cx, G2⟩ ⟨hle2, hrv⟩; simp only [] at hle2 hrv ⊢; obtain ⟨y1, y2, y3, p5, n5, c5, rfl⟩ := hrv.ints)
  refine E1 ?_
  refine zf7 (fun b608 => ?_)
  refine F0 rfl ((A48 _ _ _ _ _ _ _ _ _ _ _)) rfl rfl ?_
  refine A5 ?_
  refine sS rfl rfl rfl hl1 ho1 rfl ?_ (hu := by exact E0 hl1.symm)
  refine B5 ?_
  (refine H1 (cs := [.int .i64 x1, .int .i64 x2, .int .i64 x3, .slice p4 n4 c4, .int .i64 y1, .int .i64 y2, .int .i64 y3, .slice p5 n5 c5]) zB0 (fun G5 hle5 hsl5 hno5 => ?_))
  refine tT ?_
  refine zf5 ?_
  (exact CmP.mk (by rw [hcm]; exact A2y (hru.mono (hle2.trans hle5)) (hrv.mono hle5) hsl5 hak h0 h0 zO0))
theorem B80 (G : IM) (p : Option Addr) (n c : Nat) (es : List (List Value)) (hsl : D7 G p n c 14 es) (fid : FuncId) [C1 prog fid] (us cs : List Value) (ins : List A9) (q : Nat → Bool)
  (hq : ∀ i e, es[i]? = some e → Fn prog fid (us ++ [.agg ⟨e⟩] ++ cs) ins G (S5 (.bool (q i)) ins G)) :
  Fn prog 162 [.slice p n c, .func (.func fid) ⟨us⟩ ⟨cs⟩] ins G (S5 (.int .i64 (A0v q n)) ins G) := by
 have hn := hsl.le
 refine C4 func162 rfl ntmps162 results162 rfl ?_
 intro w0
 refine K7 ?_
 refine C2 ?_
 refine K2 (fun i : Nat => ⟨[(8, .int .i64 i), (7, .int .i64 n), (1, .func (.func fid) ⟨us⟩ ⟨cs⟩), (0, .slice p n c)], ins, G⟩) (fun i => i ≤ n ∧ ∀ j, j < i → q j = false) (fun i => n - i) 0 ?_ ?_ ?_
 exact E3
 exact ⟨by omega, by omega⟩
 rintro i ⟨hi, hf⟩
 refine A5 ?_
 refine zf8 (fun h21 => ?_) (fun h21 => ?_)
 refine B8 ?_
 refine C2 ?_
 refine J3 ?_
 (obtain ⟨e, b, o, he, rfl, hl, _, hat, _⟩ := hsl.get (i := i) zO0; refine sP (B2 rfl rfl rfl zO0) rfl rfl ?_)
 refine sL (A3 rfl rfl (hat _) hl) rfl rfl ?_
 refine A5t rfl rfl (hq i e he) A04 rfl rfl (fun h43 => ?_) (fun h43 => ?_)
 refine K1 ?_
 refine I6 (rT rfl) A1.refl ?_
 exact ⟨rfl, by rw [A66 zO0 hf zL0], rfl⟩
 refine B8 ?_
 refine zf4 ?_
 refine A5 ?_
 refine J7 (i + 1) ?_ ?_ ?_
 exact E3
 exact ⟨by omega, fun j hj => by by_cases hji : j = i; (subst hji; assumption); exact hf j zO0⟩
 omega
 refine K1 ?_
 refine I6 (rT rfl) A1.refl ?_
 exact ⟨rfl, by rw [A5w (fun j hj => hf j zO0)], rfl⟩
theorem B81 (G : IM) (p : Option Addr) (n c : Nat) (es : List (List Value)) (hsl : D7 G p n c 14 es) (fid : FuncId) [C1 prog fid] (us cs : List Value) (ins : List A9) (q : Nat → Bool)
  (hq : ∀ i e, es[i]? = some e → Fn prog fid (us ++ [.agg ⟨e⟩] ++ cs) ins G (S5 (.bool (q i)) ins G)) :
  Fn prog 120 [.slice p n c, .func (.func fid) ⟨us⟩ ⟨cs⟩] ins G (S5 (.bool (decide (0 ≤ A0v q n))) ins G) := by
 refine C4 func120 rfl ntmps120 results120 rfl ?_
 intro w0
 refine E1 ?_
 refine A2f rfl (B80 G p n c es hsl fid us cs ins q hq) A04 rfl rfl ?_
 refine sQ (A1g rfl rfl) rfl ?_
 refine B6 ?_
 refine I6 (rT rfl) A1.refl ?_
 exact ⟨rfl, rfl, rfl⟩
def PlC (t : TH) : Prop := ∀ (G : IM) (cells : List Value), D3 G t.nt cells → Fn prog 70 [.agg ⟨cells⟩] [] G (I1 (.bool t.pln) G)
def VlC (t : TH) : Prop := ∀ (G : IM) (cells : List Value), D3 G t.nt cells → Fn prog 34 [.agg ⟨cells⟩] [] G (I1 (.bool t.val) G)
theorem B24 (b : Bool) (G : IM) (cells : List Value) (hl : cells.length = 14) (ho : cells.all (·.oneCell') = true) (h : Fn prog 34 [.agg ⟨cells⟩] [] G (I1 (.bool b) G)) :
  Fn prog 121 [.agg ⟨cells⟩] [] G (S5 (.bool (!b)) [] G) := by
 refine C4 func121 rfl ntmps121 results121 rfl ?_
 intro w0
 refine A5 ?_
 refine zf2 (fun b3 => ?_)
 refine B1 ?_
 refine sL (A3 rfl rfl (B9 zG0) hl) rfl rfl ?_
 refine F0 rfl (h) rfl rfl ?_
 refine sQ (A2C rfl) rfl ?_
 refine B1 ?_
 (exact ⟨rfl, rfl, rfl⟩)
theorem A1t (t : TH) : ∃ k nm num ck ctg clb cks ks, t.nt = .mk k nm num (.mk ck ctg clb cks) ks := by
 rcases t.nt with ⟨k, nm, num, ⟨ck, ctg, clb, cks⟩, ks⟩
 exact ⟨_, _, _, _, _, _, _, _, rfl⟩
theorem B82 (a b : Bool) (q : Nat → Bool) (h0 : q 0 = !a) (h1 : q 1 = !b) : (!decide (0 ≤ A0v q 2)) = (a && b) := by
 cases a <;> cases b <;> simp [A0v, List.range, List.range.loop, h0, h1]
theorem A6D (t : TH) (hk : ∀ a b, t = .pair a b → VlC a ∧ VlC b) : PlC t := by
 intro G cells hr
 obtain ⟨k, nm, num, ck, ctg, clb, cks, ks, ht⟩ := A1t t
 rw [ht] at hr
 have hpl := @B07 t k nm num _ ks ht
 have hpr := fun (h : k = 10) => @B08 t nm num (.mk ck ctg clb cks) ks (by rw [← h]; exact ht)
 obtain ⟨tk, tks, fk, fks, lb, pt, ct, pf, cf, p0, c0, pc, cc, p, c, es, rfl, hnd, hco, hn3, h14, hsl, hkl⟩ := hr.open14
 have hIP := B0S _ G _ hnd
 rw [show (Tm.mk k nm num (.mk tk tks) (.mk fk fks) lb []).k = k from rfl] at hIP
 have hC : k = 10 → Fn prog 120 [.slice p ks.length c, .func (.func 121) ⟨[]⟩ ⟨[]⟩] [] G (S5 (.bool (!t.pln)) [] G) := by
  intro h
  obtain ⟨a, b, rfl, rfl⟩ := hpr h
  obtain ⟨ha, hb⟩ := hk a b rfl
  have := B81 G p 2 c es hsl 121 [] [] [] (fun i => if i = 0 then !a.val else !b.val) (by
   intro i e he
   have hlt : i < 2 := by have := (List.getElem?_eq_some_iff.1 he).1; rw [hsl.len] at this; exact this
   match i, hlt with
   | 0, _ => have hre := hkl 0 a.nt e rfl he; exact B24 _ G e hre.len hre.one (ha G e hre)
   | 1, _ => have hre := hkl 1 b.nt e rfl he; exact B24 _ G e hre.len hre.one (hb G e hre))
  have e2 := B82 a.val b.val (fun i => if i = 0 then !a.val else !b.val) rfl rfl
  rw [show (TH.pair a b).pln = (a.val && b.val) from by rw [TH.pln], ← e2, Bool.not_not]
  exact this
 generalize t.pln = T at hpl hC ⊢
 refine C4 func70 rfl ntmps70 results70 rfl ?_
 intro w0
 refine A5 ?_
 refine zf2 (fun b3 => ?_)
 refine E1 ?_
 refine zf0 (fun h13 => ?_) (fun h13 => ?_)
 refine B8 ?_
 refine A2f rfl (hC zO0) A04 rfl rfl ?_
 refine sQ (A2C rfl) rfl ?_
 refine A7 ?_
 (exact ⟨rfl, by rw [Bool.not_not], rfl⟩)
 refine E1 ?_
 refine F0 rfl (hIP) rfl rfl ?_
 refine B1 ?_
 (exact ⟨rfl, by rw [hpl zO0], rfl⟩)
theorem A8x (t : TH) (hP : PlC t) (hk : ∀ c e, t = .conv c e → PlC e) : VlC t := by
 intro G cells hr
 have hPl := hP G cells hr
 have hRo := hr.one
 obtain ⟨k, nm, num, ck, ctg, clb, cks, ks, ht⟩ := A1t t
 rw [ht] at hr
 have h1 := A6v _ 4 G cells hr
 have h2 := A6v _ 2 G cells hr
 have h3 := A6v _ 3 G cells hr
 rw [show (Nt.mk k nm num (.mk ck ctg clb cks) ks).k = k from rfl, show (Nt.mk k nm num (.mk ck ctg clb cks) ks).co.k = ck from rfl] at h1 h2 h3
 have hcv := fun (h : k = 14) => @A33 t nm num (.mk ck ctg clb cks) ks (by rw [← h]; exact ht)
 have hnc := fun (h : k ≠ 14) => B09 (A3m ht h)
 have hno : k = 14 → ¬(ck = 4 ∨ ck = 2 ∨ ck = 3) → t.val = t.pln := by
  intro h hn
  obtain ⟨g, e, rfl, rfl, hE⟩ := hcv h
  have := A57 g
  rw [← hE, show (Cn.mk ck ctg clb cks).k = ck from rfl] at this
  rw [TH.val, TH.pln]
  cases hv : g.vl with
  | false => rfl
  | true => exact absurd (this.2 hv) hn
 have hyes : k = 14 → (ck = 4 ∨ ck = 2 ∨ ck = 3) → ∃ e, ks = [e.nt] ∧ t.val = e.pln ∧ PlC e := by
  intro h hn
  obtain ⟨g, e, rfl, rfl, hE⟩ := hcv h
  have := A57 g
  rw [← hE, show (Cn.mk ck ctg clb cks).k = ck from rfl] at this
  exact ⟨e, rfl, by rw [TH.val, this.1 hn, Bool.true_and], hk g e rfl⟩
 generalize t.val = T at hno hyes hnc ⊢
 generalize t.pln = T2 at hno hnc hPl
 obtain ⟨tk, tks, fk, fks, lb, pt, ct, pf, cf, p0, c0, pc, cc, p, c, es, rfl, hnd, hco, hn3, h14, hsl, hkl⟩ := hr.open14
 refine C4 func34 rfl ntmps34 results34 rfl ?_
 intro w0
 refine A5 ?_
 refine zf2 (fun b3 => ?_)
 refine B8 ?_
 focus (by_cases g1 : k = 14 ∧ ck = 4; rw [decide_eq_true g1] at h1; rotate_left; rw [decide_eq_false g1] at h1; rotate_left; all_goals (refine F0 rfl h1 rfl rfl ?_))
 refine K1 ?_
 exact y39
 refine A5 ?_
 focus (by_cases g2 : k = 14 ∧ ck = 2; rw [decide_eq_true g2] at h2; rotate_left; rw [decide_eq_false g2] at h2; rotate_left; all_goals (refine F0 rfl h2 rfl rfl ?_))
 refine P3 ?_
 exact y39
 refine B5 ?_
 focus (by_cases g3 : k = 14 ∧ ck = 3; rw [decide_eq_true g3] at h3; rotate_left; rw [decide_eq_false g3] at h3; rotate_left; all_goals (refine F0 rfl h3 rfl rfl ?_))
 refine D4 ?_
 exact y39
 refine E1 ?_
 refine F0 rfl (hPl) rfl rfl ?_
 refine B1 ?_
 (exact ⟨rfl, by (by_cases hz : k = 14); (rw [hno hz zO0]); (rw [hnc hz]), rfl⟩)
theorem A8y : ∀ t : TH, PlC t ∧ VlC t := by
 intro t
 induction t with
 | pair a b i j =>
  have hp : PlC (.pair a b) := A6D _ fun a' b' h => by cases h; exact ⟨i.2, j.2⟩
  exact ⟨hp, A8x _ hp fun c e h => by cases h⟩
 | conv c e i =>
  have hp : PlC (.conv c e) := A6D _ fun a' b' h => by cases h
  exact ⟨hp, A8x _ hp fun c' e' h => by cases h; exact i.1⟩
 | _ => refine ⟨A6D _ ?_, A8x _ (A6D _ ?_) ?_⟩ <;> (intro a b h; cases h)
def TH.tx : TH → ByteArray
 | .conv _ e => e.tx
 | .pair _ _ => A4b
 | .lam _ _ _ => A4c
 | .num n => A1q 2 n
 | .tru b => A1q (if b = true then 3 else 4) 0
 | _ => ⟨⟨[]⟩⟩
def TH.nk : TH → Prop
 | .var _ => True
 | .num n => 0 ≤ n ∧ n ≤ 999
 | .tru _ => True
 | .lam _ _ e => e.nk
 | .app f a => f.nk ∧ a.nk
 | .ar _ a b => a.nk ∧ b.nk
 | .ite c a b => c.nk ∧ a.nk ∧ b.nk
 | .pair a b => a.nk ∧ b.nk
 | .part _ e => e.nk
 | .conv _ e => e.nk
variable {t : TH}
theorem B25 {k : Int} {nm : ByteArray} {num : Int} {co : Cn} {ks : List Nt} (hv : t.val = true) (hn : t.nk) (h : t.nt = .mk k nm num co ks) : (k = 14 → ∃ c e, t = .conv c e ∧ ks = [e.nt] ∧ e.val = true ∧ e.nk) ∧ (k = 10 → t.tx = A4b) ∧ (k = 5 → t.tx = A4c) ∧ (k ≠ 14 → k ≠ 10 → k ≠ 5 → (k = 2 ∨ k = 3 ∨ k = 4) ∧ t.tx = A1q k num ∧ 0 ≤ num ∧ num ≤ 999) := by
 cases t with
 | var x => cases hv
 | num n => simp only [TH.nt, Nt.mk.injEq] at h; obtain ⟨rfl, rfl, rfl, rfl, rfl⟩ := h; exact ⟨by simp, by simp, by simp, fun _ _ _ => ⟨.inl rfl, rfl, hn⟩⟩
 | tru b => simp only [TH.nt, Nt.mk.injEq] at h; obtain ⟨rfl, rfl, rfl, rfl, rfl⟩ := h; exact ⟨by cases b <;> simp, by cases b <;> simp, by cases b <;> simp, fun _ _ _ => ⟨by cases b <;> simp, rfl, by decide, by decide⟩⟩
 | lam x A e => simp only [TH.nt, Nt.mk.injEq] at h; obtain ⟨rfl, rfl, rfl, rfl, rfl⟩ := h; exact ⟨by simp, by simp, fun _ => rfl, by simp⟩
 | pair a b => simp only [TH.nt, Nt.mk.injEq] at h; obtain ⟨rfl, rfl, rfl, rfl, rfl⟩ := h; exact ⟨by simp, fun _ => rfl, by simp, by simp⟩
 | conv c e =>
  simp only [TH.nt, Nt.mk.injEq] at h; obtain ⟨rfl, rfl, rfl, rfl, rfl⟩ := h
  exact ⟨fun _ => ⟨c, e, rfl, rfl, A5I (A0x hv).2, hn⟩, by simp, by simp, by simp⟩
 | app f a => rw [TH.val] at hv; cases hv
 | ar s a b => rw [TH.val] at hv; cases hv
 | ite c a b => rw [TH.val] at hv; cases hv
 | part s e => rw [TH.val] at hv; cases hv
def TxC (t : TH) : Prop := ∀ (G : IM) (cells : List Value), A05 G → t.val = true → t.nk → D3 G t.nt cells → Fn prog 35 [.agg ⟨cells⟩] [] G (I1 (.string t.tx) G)
theorem B26 (t : TH) (ih : ∀ c e, t = .conv c e → TxC e) : TxC t := by
 intro G cells hT hv hnk hr
 obtain ⟨k, nm, num, ck, ctg, clb, cks, ks, ht⟩ := A1t t
 obtain ⟨h14, h10, h5, hlf⟩ := B25 hv hnk ht
 rw [ht] at hr
 obtain ⟨tk, tks, fk, fks, lb, pt, ct, pf, cf, p0, c0, pc, cc, p, c, es, rfl, hnd, hco, hn3, _, hsl, hkl⟩ := hr.open14
 have hL := fun h1 h2 h3 => B2r k nm num _ _ lb [] G _ hT (hlf h1 h2 h3).1 (hlf h1 h2 h3).2.2 hnd
 refine C4 func35 rfl ntmps35 results35 rfl ?_
 intro w0
 refine A5 ?_
 refine zf2 (fun b3 => ?_)
 refine J3 ?_
 refine C2 (tS (tR (sB (qE rfl rfl) rfl rfl (fun h18 => ?_) (fun h18 => ?_))))
 refine D4 ?_
 (obtain ⟨g, e1, rfl, hks, hv1, hn1⟩ := h14 zO0; subst hks; obtain ⟨b, o, e, rfl, hl, ho, hat, hre, _, hgb⟩ := hsl.kidR hkl (i := 0) zP0 zP0; replace hre : D3 G e1.nt e := hre; have hih := ih g e1 rfl G e hT hv1 hn1 hre; refine sP (B2 (j := 0) rfl rfl rfl zP0) rfl rfl ?_)
 refine sL (A3 rfl rfl (hat _) hl) rfl rfl ?_
 refine F0 rfl (hih) rfl rfl ?_
 refine B8 ?_
 (exact ⟨rfl, by rw [TH.tx], rfl⟩)
 refine A7 ?_
 refine zf0 (fun h44 => ?_) (fun h44 => ?_)
 refine K7 ?_
 (exact ⟨rfl, by rw [h10 zO0]; rfl, rfl⟩)
 refine A7 ?_
 refine zf0 (fun h65 => ?_) (fun h65 => ?_)
 refine K7 ?_
 (exact ⟨rfl, by rw [h5 zO0]; rfl, rfl⟩)
 refine J3 ?_
 refine F0 rfl ((hL zO0 zO0 zO0)) rfl rfl ?_
 refine B1 ?_
 (exact ⟨rfl, by rw [(hlf zO0 zO0 zO0).2.1], rfl⟩)
theorem B83 : ∀ t : TH, TxC t := by
 intro t
 induction t with
 | conv c e i => exact B26 _ fun c' e' h => by cases h; exact i
 | _ => refine B26 _ ?_; intro a b h; cases h
def TH.kids : TH → List TH
 | .lam _ _ e => [e]
 | .app f a => [f, a]
 | .ar _ a b => [a, b]
 | .ite c a b => [c, a, b]
 | .pair a b => [a, b]
 | .part _ e => [e]
 | .conv _ e => [e]
 | _ => []
theorem A6E {k : Int} {nm : ByteArray} {num : Int} {co : Cn} {ks : List Nt} (h : t.nt = .mk k nm num co ks) : ks = t.kids.map TH.nt := by
 cases t <;> simp only [TH.nt, Nt.mk.injEq] at h <;> obtain ⟨_, _, _, _, rfl⟩ := h <;> rfl
theorem B27 (h : t.nk) : ∀ u ∈ t.kids, u.nk := by
 intro u hu
 cases t with
 | lam x A e => obtain rfl := List.mem_singleton.1 hu; exact h
 | part s e => obtain rfl := List.mem_singleton.1 hu; exact h
 | conv s e => obtain rfl := List.mem_singleton.1 hu; exact h
 | app f a => simp only [TH.kids, List.mem_cons, List.not_mem_nil, or_false] at hu; rcases hu with rfl | rfl; exact h.1; exact h.2
 | ar s f a => simp only [TH.kids, List.mem_cons, List.not_mem_nil, or_false] at hu; rcases hu with rfl | rfl; exact h.1; exact h.2
 | pair f a => simp only [TH.kids, List.mem_cons, List.not_mem_nil, or_false] at hu; rcases hu with rfl | rfl; exact h.1; exact h.2
 | ite c f a => simp only [TH.kids, List.mem_cons, List.not_mem_nil, or_false] at hu; rcases hu with rfl | rfl | rfl; exact h.1; exact h.2.1; exact h.2.2
 | _ => cases hu
def A6F (t : TH) (i : Nat) (u : TH) : Prop := t.kids[i]? = some u ∧ ∃ C : TH → TH, t.stp = Y5 C u.stp ∧ ∀ (x : TH) (k : Int) (nm : ByteArray) (num : Int) (co : Cn) (ks : List Nt), t.nt = .mk k nm num co ks → (C x).nt = .mk k nm num co (ks.set i x.nt)
def P6 (r : A0k) : IM → Value → List A9 → Prop := M3 fun G' v => ∃ cells n, v = .tuple ⟨[.agg ⟨cells⟩, .int .i64 r.2.1, .int .i64 r.2.2]⟩ ∧ D3 G' n cells ∧ (r.2.1 = 1 → n = r.1.nt)
theorem P6.mk {r : A0k} {n : Nt} {c : Int} (h1 : c = r.2.1) (h2 : l = r.2.2) (hr : D3 G n cells) (hn : r.2.1 = 1 → n = r.1.nt) : P6 r G (.tuple ⟨[.agg ⟨cells⟩, .int .i64 c, .int .i64 l]⟩) [] := by
 subst h1 h2; exact ⟨rfl, cells, n, rfl, hr, hn⟩
theorem P6.ok {r : A0k} (h : r = (t, 1, 0)) (hr : D3 G t.nt cells) : P6 r G (.tuple ⟨[.agg ⟨cells⟩, .int .i64 1, .int .i64 0]⟩) [] := by
 subst h; exact ⟨rfl, cells, _, rfl, hr, fun _ => rfl⟩
def A6G (t : TH) : Prop := ∀ (G : IM) (cells : List Value) (A : GT), ST D1 t A → t.val = false → t.nk → D3 G t.nt cells → Fn prog 36 [.agg ⟨cells⟩] [] G (P6 t.stp)
theorem B28 (t u : TH) (i : Nat) (G : IM) (cells : List Value) (hK : A6F t i u) (hS : ∀ (G : IM) (cells : List Value), D3 G u.nt cells → Fn prog 36 [.agg ⟨cells⟩] [] G (P6 u.stp)) (hr : D3 G t.nt cells) :
  Fn prog 73 [.agg ⟨cells⟩, .int .i64 (i : Int)] [] G (P6 t.stp) := by
 obtain ⟨hu, C, hC, hCn⟩ := hK
 obtain ⟨k, nm, num, ck, ctg, clb, cks, ks, ht⟩ := A1t t
 have hks := A6E ht
 have hCn' := fun x => hCn x _ _ _ _ _ ht
 rw [ht] at hr
 have hiu : ks[i]? = some u.nt := by rw [hks, List.getElem?_map, hu]; rfl
 have hik : i < ks.length := (List.getElem?_eq_some_iff.1 hiu).1
 obtain ⟨tk, tks, fk, fks, lb, pt, ct, pf, cf, p0, c0, pc, cc, p, c, es, rfl, hnd, hco, hn3, h14, hsl, hkl⟩ := hr.open14
 obtain ⟨bx, ox, e, rfl, hel, heo, hat, hre, _, hgb⟩ := hsl.kidR hkl (i := i) hik hik
 have hre' : D3 G u.nt e := by
  have := (List.getElem?_eq_some_iff.1 hiu).2
  rw [this] at hre
  exact hre
 have hn := hsl.le
 have hnc := hsl.sl.2.1
 refine C4 func73 rfl ntmps73 results73 rfl ?_
 intro w0
 refine A5 ?_
 refine zf2 (fun b3 => ?_)
 refine zf1 (fun b4 => ?_)
 refine E1 ?_
 (have hg : True := trivial; refine sP (B2 (j := i) rfl rfl rfl hik) rfl rfl ?_)
 refine sL (A3 rfl rfl (hat _) hel) rfl rfl ?_
 (refine H6 rfl (hS G e hre') rfl rfl (fun v G1 hle1 hh => ?_); obtain ⟨uc, n1, rfl, hru, hu1⟩ := hh; have hul := hru.len; have huo := hru.one; have hClo := B8P G1 _ ks.length c es (hsl.mono hle1) zO0 zO0)
 refine B6 ?_
 refine zf1 (fun b21 => ?_)
 refine sS rfl rfl rfl hul huo rfl ?_ (hu := by exact E0 hul.symm)
 refine B8 ?_
 refine zf1 (fun b30 => ?_)
 refine B8 ?_
 (refine A2e rfl hClo rfl rfl (fun v38 G38 outs38 hle38 h38 => ?_); obtain ⟨hG, p1, c1, rfl, rfl⟩ := h38; replace hG := hG.symm; subst hG; refine A3j (cs := es.flatten) zB0 zO0 (fun bc Cc hpe hnc1 hcm => ?_); subst hpe)
 refine E1 ?_
 refine sL (A3 rfl rfl (B9 zG0) hul) rfl rfl ?_
 (have hg : True := trivial; refine sP (B2 (j := i) rfl rfl rfl hik) rfl rfl ?_)
 refine Y2 rfl rfl rfl hul huo rfl zC0 (by exact A3k (by rw [hsl.len]; omega) (fun e he => (hsl.all e he)) hul) ?_
 refine P3 ?_
 (refine A2i (bs := [(bc, (es.set i uc).flatten ++ Cc)]) (Pk.perm zB0) (fun hn2 hd2 hle2 => ?_))
 refine tT ?_
 refine zf15 ?_
 (have hks2 : KR (D3 _) (ks.set i n1) (es.set i uc) := KR.set (KR.imp hkl fun a e h => (h.mono hle1).mono hle2) (hru.mono hle2); have hes2 : ∀ x ∈ es.set i uc, x.length = 14 ∧ x.all (·.oneCell') = true := KR.each hks2 (by rw [List.length_set, List.length_set, hsl.len]); exact P6.mk (by rw [hC]; rfl) (by rw [hC]; rfl) (D3.put (us := ks.set i n1) (es := es.set i uc) ((hnd.mono hle1).mono hle2) ((hco.mono hle1).mono hle2) (by rw [List.length_set]; exact hn3) (fun h => by rw [List.length_set]; exact h14 h) (by rw [List.length_set]) (D7.of (Sl.of_blk (A := []) (by rw [A0S (fun x hx => (hes2 x hx).1), List.length_set, hsl.len]) zO0 hcm (Wi.in hn2 List.mem_cons_self)) (by rw [List.length_set, hsl.len]) (fun x hx => (hes2 x hx).1) (fun x hx => (hes2 x hx).2)) hks2) (fun h => by rw [hC] at h ⊢; show _ = (C u.stp.1).nt; rw [hCn', hu1 h]))
theorem B84 {e : TH} (hc : e.cnv = false) (hp : e.pln = false) : A6F (.conv c e) 0 e := by
 refine ⟨rfl, fun x => .conv c x, ?_, ?_⟩
 ·rw [TH.stp, Y6 hc, if_pos hp]
 ·intro x k nm num co ks h
  simp only [TH.nt, Nt.mk.injEq] at h
  obtain ⟨rfl, rfl, rfl, rfl, rfl⟩ := h
  rfl
theorem B29 {k tg lb : Int} {ks : List Cn} (h : c.cn = .mk k tg lb ks) (hk : k = 1) (e : TH) : plS e c = (e, 1, 0) := by
 cases c <;> simp only [GK.cn, Cn.mk.injEq] at h <;> first | rfl | (exfalso; omega)
theorem A4f {k tg lb : Int} {ks : List Cn} (h : c.cn = .mk k tg lb ks) (hk : k = 6) (e : TH) : plS e c = (.nul, 2, lb) := by
 obtain ⟨rfl, _⟩ := A3w h hk
 rfl
theorem A4g {k tg lb : Int} {ks : List Cn} (h : c.cn = .mk k tg lb ks) (h1 : k ≠ 1) (h6 : k ≠ 6) (e : TH) : plS e c = (.nul, 3, 0) := by
 cases c <;> simp only [GK.cn, Cn.mk.injEq] at h <;> first | rfl | (exfalso; omega)
theorem B85 (c : GK) (e : TH) (G : IM) (cells : List Value) (A : GT) (hT : ST D1 (.conv c e) A) (hnk : e.nk) (ih : A6G e) (hr : D3 G (TH.conv c e).nt cells) : Fn prog 72 [.agg ⟨cells⟩] [] G (P6 (TH.conv c e).stp) := by
 obtain ⟨B, hTe, hTc⟩ := A0K hT
 have hr0 := hr
 obtain ⟨ck, ctg, clb, cks, hc⟩ := A1Z c
 obtain ⟨ek, enm, enum, eck, ectg, eclb, ecks, eks, he⟩ := A1t e
 rw [TH.nt, hc] at hr
 obtain ⟨tk, tks, fk, fks, lb, pt, ct, pf, cf, p0, c0, pc, cc, p, cp, es, rfl, hnd, hco, hn3, h14, hsl, hkl⟩ := hr.open14
 obtain ⟨bx, ox, e0, rfl, hel, heo, hat, hre, _, hgb⟩ := hsl.kidR hkl (i := 0) zP0 zP0
 replace hre : D3 G e.nt e0 := hre
 have hPl := (A8y e).1 G e0 hre
 have hcv := fun (h : ek = 14) => @A33 e enm enum (.mk eck ectg eclb ecks) eks (by rw [← h]; exact he)
 have hnc := fun (h : ek ≠ 14) => A3m he h
 have hIO := fun (h1 : e.cnv = false) (h2 : e.pln = false) => B28 (.conv c e) e 0 G _ (B84 h1 h2) (fun G' cs h => ih G' cs B hTe (by
  cases hv : e.val with
  | false => rfl
  | true => rw [A0U hv h1] at h2; cases h2) hnk h) hr0
 have hre0 := hre
 rw [he] at hre
 obtain ⟨tk1, tks1, fk1, fks1, lb1, pt1, ct1, pf1, cf1, p01, c01, pc1, cc1, p1, cp1, es1, rfl, hnd1, hco1, hn31, h141, hsl1, hkl1⟩ := hre.open14
 rw [← hc] at hco
 refine C4 func72 rfl ntmps72 results72 rfl ?_
 intro w0
 refine A5 ?_
 refine zf2 (fun b3 => ?_)
 refine zf1 (fun b4 => ?_)
 refine D4 ?_
 (have hg : True := trivial; refine sP (B2 (j := 0) rfl rfl rfl zP0) rfl rfl ?_)
 refine sL (A3 rfl rfl (hat _) rfl) rfl rfl ?_
 refine zf1 (fun b15 => ?_)
 refine E1 ?_
 refine zf0 (fun h25 => ?_) (fun h25 => ?_)
 refine E1 ?_
 (obtain ⟨d, u, rfl, rfl, hE⟩ := hcv zO0; obtain ⟨X, hTu, hTd⟩ := A0K hTe; rw [hE] at hco1; obtain ⟨bu, ou, e2, rfl, hul, huo, hat2, hru, _, hgb2⟩ := hsl1.kidR hkl1 (i := 0) zP0 zP0; replace hru : D3 G u.nt e2 := hru; refine H6 rfl (B8Z _ d c G _ _ (Nat.le_refl _) (hTd.fit hTc) hco1 hco) rfl rfl (fun v G1 hle1 hh => ?_); obtain ⟨uc, rfl, hrc⟩ := hh; obtain ⟨x1, x2, x3, p4, n4, c4, rfl⟩ := hrc.ints)
 refine B5 ?_
 refine zf1 (fun b39 => ?_)
 refine K1 ?_
 refine zf6 ?_
 refine xx3 0 1 2 ?_
 refine aL 3 rfl (A3 rfl rfl (At.moS hle1 (hat2 [])) hul) rfl ?_
 refine xx1 4 ?_
 refine A2 5 ?_
 (refine E6 rfl rfl (A3v u.nt _ G1 _ _ (hru.mono hle1) hrc) rfl rfl rfl (fun v G2 hle2 hh => ?_); obtain ⟨vc, rfl, hrv⟩ := hh; have hvl := hrv.len; have hvo := hrv.one)
 refine A2 6 ?_
 (refine oS rfl rfl rfl rfl hvl hvo rfl rfl ?_ (hu := by exact E0 hvl.symm))
 refine xx2 7 8 ?_
 refine B6 ?_
 refine E5 (rC rfl (A3 rfl rfl (B9 zG0) hvl)) (rT rfl) (rT rfl) ?_
 (exact P6.ok (t := .conv (cmp d c) u) (by rw [TH.stp, A5J (hTd.fit hTc)]) hrv)
 refine E1 ?_
 focus (have hcn := hnc zO0; cases hpp : e.pln; all_goals (rw [hpp] at hPl; refine F0 rfl hPl rfl rfl ?_))
 refine B8 ?_
 (refine H6 rfl (hIO hcn hpp) rfl rfl (fun v G1 hle1 hh => ?_); obtain ⟨vc, n1, rfl, hrv, hn1⟩ := hh; have hvl := hrv.len; have hvo := hrv.one)
 refine B5 ?_
 refine sS rfl rfl rfl hvl hvo rfl ?_ (hu := by exact E0 hvl.symm)
 refine A7 ?_
 refine E5 (rC rfl (A3 rfl rfl (B9 zG0) hvl)) (rT rfl) (rT rfl) ?_
 (exact ⟨rfl, vc, n1, rfl, hrv, hn1⟩)
 refine K5 ?_
 refine C2 (tS (tR (sB (qE rfl rfl) rfl rfl (fun h120 => ?_) (fun h120 => ?_))))
 refine K1 ?_
 refine zf15 ?_
 (exact P6.ok (t := e) (by rw [TH.stp, Y6 hcn, if_neg (by rw [hpp]; decide), B29 hc zO0]) hre0)
 refine A7 ?_
 refine zf0 (fun h144 => ?_) (fun h144 => ?_)
 refine B1 ?_
 refine zf6 ?_
 refine xx4 0 1 2 3 ?_
 refine A2 4 ?_
 refine E9 rfl ?_
 refine xx2 5 6 ?_
 refine B1 ?_
 refine zf15 ?_
 (exact P6.mk (by rw [TH.stp, Y6 hcn, if_neg (by rw [hpp]; decide), A4f hc zO0]) (by rw [TH.stp, Y6 hcn, if_neg (by rw [hpp]; decide), A4f hc zO0]) (A56 _) (by rw [TH.stp, Y6 hcn, if_neg (by rw [hpp]; decide), A4f hc zO0]; intro h; simp at h))
 refine L9 ?_
 refine zf15 ?_
 (exact P6.mk (by rw [TH.stp, Y6 hcn, if_neg (by rw [hpp]; decide), A4g hc zO0 zO0]) (by rw [TH.stp, Y6 hcn, if_neg (by rw [hpp]; decide), A4g hc zO0 zO0]) (A56 _) (by rw [TH.stp, Y6 hcn, if_neg (by rw [hpp]; decide), A4g hc zO0 zO0]; intro h; simp at h))
def TH.cnt (t : TH) : Nat := match t with
 | .ite _ _ _ => 1
 | _ => t.kids.length
theorem B3a {k : Int} {nm : ByteArray} {num : Int} {co : Cn} {ks : List Nt} (h : t.nt = .mk k nm num co ks) : t.cnt = if k = 9 then 1 else ks.length := by
 cases t with
 | ar s a b => simp only [TH.nt, Nt.mk.injEq] at h; obtain ⟨rfl, _, _, _, rfl⟩ := h; cases s <;> rfl
 | part s a => simp only [TH.nt, Nt.mk.injEq] at h; obtain ⟨rfl, _, _, _, rfl⟩ := h; cases s <;> rfl
 | tru s => simp only [TH.nt, Nt.mk.injEq] at h; obtain ⟨rfl, _, _, _, rfl⟩ := h; cases s <;> rfl
 | _ => simp only [TH.nt, Nt.mk.injEq] at h; obtain ⟨rfl, _, _, _, rfl⟩ := h; rfl
theorem B3b (hT : ST D1 t A) (hc : t.cnv = false) (hv : t.val = false) (hi : i < t.cnt) (hl : i < t.kids.length) (hj : ∀ j, j < i → (h : j < t.kids.length) → t.kids[j].val = true) (hn : t.kids[i].val = false) : A6F t i t.kids[i] ∧ ∃ B, ST D1 t.kids[i] B := by
 have nn : ∀ {b : Bool}, b = true → ¬b = false := fun h h' => by rw [h] at h'; cases h'
 cases t with
 | var x => exact absurd hl (by simp [TH.kids])
 | num n => cases hv
 | tru b => cases hv
 | lam x A e => cases hv
 | conv c e => cases hc
 | app f a =>
  cases hT with
  | app h1 h2 =>
   match i, hl with
   | 0, _ => exact ⟨⟨rfl, fun x => .app x a, by rw [TH.stp]; exact if_pos hn, fun x k nm num co ks h => by simp only [TH.nt, Nt.mk.injEq] at h; obtain ⟨rfl, rfl, rfl, rfl, rfl⟩ := h; rfl⟩, _, h1⟩
   | 1, _ => exact ⟨⟨rfl, fun x => .app f x, by rw [TH.stp]; exact (if_neg (nn (hj 0 zN0 (by simp [TH.kids])))).trans (if_pos hn), fun x k nm num co ks h => by simp only [TH.nt, Nt.mk.injEq] at h; obtain ⟨rfl, rfl, rfl, rfl, rfl⟩ := h; rfl⟩, _, h2⟩
 | ar s f a =>
  cases hT with
  | ar h1 h2 _ =>
   match i, hl with
   | 0, _ => exact ⟨⟨rfl, fun x => .ar s x a, by rw [TH.stp]; exact if_pos hn, fun x k nm num co ks h => by simp only [TH.nt, Nt.mk.injEq] at h; obtain ⟨rfl, rfl, rfl, rfl, rfl⟩ := h; rfl⟩, _, h1⟩
   | 1, _ => exact ⟨⟨rfl, fun x => .ar s f x, by rw [TH.stp]; exact (if_neg (nn (hj 0 zN0 (by simp [TH.kids])))).trans (if_pos hn), fun x k nm num co ks h => by simp only [TH.nt, Nt.mk.injEq] at h; obtain ⟨rfl, rfl, rfl, rfl, rfl⟩ := h; rfl⟩, _, h2⟩
 | pair f a =>
  cases hT with
  | pair h1 h2 =>
   match i, hl with
   | 0, _ => exact ⟨⟨rfl, fun x => .pair x a, by rw [TH.stp]; exact if_pos hn, fun x k nm num co ks h => by simp only [TH.nt, Nt.mk.injEq] at h; obtain ⟨rfl, rfl, rfl, rfl, rfl⟩ := h; rfl⟩, _, h1⟩
   | 1, _ => exact ⟨⟨rfl, fun x => .pair f x, by rw [TH.stp]; exact if_neg (nn (hj 0 zN0 (by simp [TH.kids]))), fun x k nm num co ks h => by simp only [TH.nt, Nt.mk.injEq] at h; obtain ⟨rfl, rfl, rfl, rfl, rfl⟩ := h; rfl⟩, _, h2⟩
 | ite c f a =>
  cases hT with
  | ite h1 h2 h3 =>
   have hi0 : i = 0 := by have : i < 1 := hi; omega
   subst hi0
   exact ⟨⟨rfl, fun x => .ite x f a, by rw [TH.stp]; exact if_pos hn, fun x k nm num co ks h => by simp only [TH.nt, Nt.mk.injEq] at h; obtain ⟨rfl, rfl, rfl, rfl, rfl⟩ := h; rfl⟩, _, h1⟩
 | part s e =>
  cases hT with
  | part h1 _ =>
   match i, hl with
   | 0, _ => exact ⟨⟨rfl, fun x => .part s x, by rw [TH.stp]; exact if_pos hn, fun x k nm num co ks h => by simp only [TH.nt, Nt.mk.injEq] at h; obtain ⟨rfl, rfl, rfl, rfl, rfl⟩ := h; rfl⟩, _, h1⟩
theorem A11 {t : TH} {A : GT} (hT : ST D1 t A) (hc : t.cnv = false) (hv : t.val = false) (hj : ∀ j, j < t.cnt → (h : j < t.kids.length) → t.kids[j].val = true) :
  (∃ x B e w, t = .app (.lam x B e) w ∧ t.stp = (e.sub x w, 1, 0)) ∨
  (∃ c d x B e w, t = .app (.conv (.fn c d) (.lam x B e)) w ∧ t.stp = (.conv d (.app (.lam x B e) (.conv c w)), 1, 0)) ∨
  (∃ s m n, t = .ar s (.num m) (.num n) ∧ t.stp = (arT s m n, 1, 0)) ∨
  (∃ b x y, t = .ite (.tru b) x y ∧ t.stp = (if b = true then x else y, 1, 0)) ∨
  (∃ s a b, t = .part s (.pair a b) ∧ t.stp = (if s = true then b else a, 1, 0)) ∨
  (∃ s c d a b, t = .part s (.conv (.pr c d) (.pair a b)) ∧ t.stp = (.conv (if s = true then d else c) (.part s (.pair a b)), 1, 0)) := by
 have nn : ∀ {b : Bool}, b = true → ¬b = false := fun h h' => by rw [h] at h'; cases h'
 cases t with
 | var x => cases hT with | var h => cases h
 | num n => cases hv
 | tru b => cases hv
 | lam x A e => cases hv
 | conv c e => cases hc
 | app f a =>
  have h0 := hj 0 (by show 0 < 2; decide) (by show 0 < 2; decide)
  have h1 := hj 1 (by show 1 < 2; decide) (by show 1 < 2; decide)
  have hs : (TH.app f a).stp = apS a f := by rw [TH.stp]; exact (if_neg (nn h0)).trans (if_neg (nn h1))
  cases hT with
  | app t1 t2 =>
   rcases A4A t1 h0 with ⟨x, e, rfl, _⟩ | ⟨c, d, x, e, A', B', rfl, _⟩
   ·exact .inl ⟨_, _, _, _, rfl, hs⟩
   ·exact .inr (.inl ⟨_, _, _, _, _, _, rfl, hs⟩)
 | ar s f a =>
  have h0 := hj 0 (by show 0 < 2; decide) (by show 0 < 2; decide)
  have h1 := hj 1 (by show 1 < 2; decide) (by show 1 < 2; decide)
  have hs : (TH.ar s f a).stp = arS s f a := by rw [TH.stp]; exact (if_neg (nn h0)).trans (if_neg (nn h1))
  cases hT with
  | ar t1 t2 _ =>
   obtain ⟨m, rfl⟩ := A3Q t1 h0
   obtain ⟨n, rfl⟩ := A3Q t2 h1
   exact .inr (.inr (.inl ⟨_, _, _, rfl, hs⟩))
 | ite c f a =>
  have h0 := hj 0 (by show 0 < 1; decide) (by show 0 < 3; decide)
  have hs : (TH.ite c f a).stp = itS f a c := by rw [TH.stp]; exact if_neg (nn h0)
  cases hT with
  | ite t1 _ _ =>
   obtain ⟨m, rfl⟩ := A7m t1 h0
   exact .inr (.inr (.inr (.inl ⟨_, _, _, rfl, hs⟩)))
 | pair f a =>
  have h0 := hj 0 (by show 0 < 2; decide) (by show 0 < 2; decide)
  have h1 := hj 1 (by show 1 < 2; decide) (by show 1 < 2; decide)
  have h0' : f.val = true := h0
  have h1' : a.val = true := h1
  rw [TH.val, h0', h1'] at hv
  cases hv
 | part s e =>
  have h0 := hj 0 (by show 0 < 1; decide) (by show 0 < 1; decide)
  have hs : (TH.part s e).stp = ptS s e := by rw [TH.stp]; exact if_neg (nn h0)
  cases hT with
  | part t1 _ =>
   rcases A4B t1 h0 with ⟨a, b, rfl, _⟩ | ⟨c, d, a, b, A', B', rfl, _⟩
   ·exact .inr (.inr (.inr (.inr (.inl ⟨_, _, _, rfl, hs⟩))))
   ·exact .inr (.inr (.inr (.inr (.inr ⟨_, _, _, _, _, rfl, hs⟩))))
end Gw
end Go.Proofs.YtmceanphadildaaGreatDoor
