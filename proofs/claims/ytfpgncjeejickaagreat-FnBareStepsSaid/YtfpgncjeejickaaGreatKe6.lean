/-
  The program's InsertCasts, TypeOf.
-/
import Derived.Test.YtfpgncjeejickaaGreatKe5
import Derived.Test.YtfpgncjeejickaaGreatKe4
import Derived.Test.YtfpgncjeejickaaGreatKe3
import Derived.Test.YtfpgncjeejickaaGreatKe1
import Derived.Test.YtfpgncjeejickaaGreatKe2
set_option linter.unusedVariables false
set_option linter.unusedSimpArgs false
set_option maxHeartbeats 0
set_option maxRecDepth 100000
set_option synthInstance.maxSize 4000
set_option synthInstance.maxHeartbeats 0
namespace Go.Proofs.YtfpgncjeejickaaGreat
open Go Go.RowKit
namespace Gw
def A14 (r : Option (Tm × Ty)) : IM → Value → List A4 → Prop := K5 fun G' v => ∃ cu ct, v = .tuple ⟨[.agg ⟨cu⟩, .agg ⟨ct⟩, .bool r.isSome]⟩ ∧ A6 G' (r.getD (D7, A8)).1 cu ∧ B5 G' (r.getD (D7, A8)).2 ct
theorem A14.no {G : IM} {r : Option (Tm × Ty)} {cu ct : List Value} (h : r = none) (hu : A6 G D7 cu) (ht : B5 G A8 ct) : A14 r G (.tuple ⟨[.agg ⟨cu⟩, .agg ⟨ct⟩, .bool false]⟩) [] := by subst h; exact ⟨rfl, cu, ct, rfl, hu, ht⟩
theorem A14.yes {G : IM} {r : Option (Tm × Ty)} {u : Tm} {t : Ty} {cu ct : List Value} (h : r = some (u, t)) (hu : A6 G u cu) (ht : B5 G t ct) : A14 r G (.tuple ⟨[.agg ⟨cu⟩, .agg ⟨ct⟩, .bool true]⟩) [] := by subst h; exact ⟨rfl, cu, ct, rfl, hu, ht⟩
theorem A9g {e : Tm} (h : O4 e = false) : U9 e = none := by unfold U9; rw [if_neg (by rw [h]; decide)]
theorem A9h {e : Tm} (h : O4 e = true) (h2 : M7 [] e 0 = none) : U9 e = none := by unfold U9; rw [if_pos h, h2]
theorem A9i {e u : Tm} {t : Ty} {l : Int} (h : O4 e = true) (h2 : M7 [] e 0 = some (u, t, l)) : U9 e = some (u, t) := by unfold U9; rw [if_pos h, h2]
theorem B3Z (e : Tm) (G : IM) (cells : List Value) (hr : A6 G e cells) : Fn Tryz.prog 12 [.agg ⟨cells⟩] [] G (A14 (U9 e)) := by
 have hRl := hr.len
 have hRo := hr.one
 have hV := A5z e G cells hr
 have hno := @A9g e
 have hnn := @A9h e
 have hso := @A9i e
 refine B3 Tryz.func12 rfl Tryz.ntmps12 Tryz.results12 rfl ?_
 intro w0
 refine tS (tR ?_)
 refine sE (C0 rfl rfl) rfl (fun b3 => ?_)
 refine sE (A7 rfl) rfl (fun b4 => ?_)
 refine sE (A7 rfl) rfl (fun b5 => ?_)
 refine sQ (qA rfl) rfl (sD (nS (tS (tS (tR ?_)))))
 refine sL (A3 rfl rfl (A9 (by repeat first | exact mH | apply mT)) hRl) rfl rfl ?_
 refine E2 rfl (hV) rfl rfl (fun h13 => ?_) (fun h13 => ?_)
 refine D9 ?_
 refine sE (C0 rfl rfl) rfl (fun b23 => ?_)
 refine sL (A3 rfl rfl (A9 (by repeat first | exact mH | apply mT)) hRl) rfl rfl ?_
 focus (have htv : O4 e = true := (by assumption); obtain ⟨hsh, hcn⟩ := (A0b e).1 htv; refine H4 rfl (B3Y _ e 1 [] 0 G none 0 0 _ hsh (by omega) A4E (T1.nil G) hr (by omega) (by omega)) (Pk.perm (by repeat (first | exact Pk.here | apply Pk.there))) rfl rfl (fun v G1 outs hle1 hh => ?_); obtain ⟨u, uc, t, tc, l3, rfl, rfl, hru, hrt, hl3, hl4, hu⟩ := hh; have hul := hru.len; have huo := hru.one; obtain ⟨p3, c3, e3, rfl, _⟩ := hrt.open; have hnn := hnn htv; have hso := @hso u t l3 htv; rcases hE : M7 [] e 0 with _ | ⟨u2, t2, l2⟩; rotate_left; have hue := hu _ hE; simp only [Prod.mk.injEq] at hue; obtain ⟨rfl, rfl, rfl⟩ := hue; have hso := hso hE; obtain ⟨hg1, hg2, hg3⟩ := B3Q hso; rotate_left; simp only [Option.isSome]; rotate_left; simp only [Option.isSome])
 refine H1 ?_
 refine sE (A7 rfl) rfl (fun b30 => ?_)
 refine sE (A7 rfl) rfl (fun b31 => ?_)
 refine sS rfl rfl rfl hul huo rfl ?_ (hu := by exact C3 hul.symm)
 refine I0 ?_
 refine D5 D6 rfl ?_
 refine O9 (i := 0) (l' := [tt,ff,ff,ff,ff,ff,ff]) rfl D1 (A3 rfl rfl (A9 (by repeat first | exact mH | apply mT)) hul) rfl (by kernel_rfl) rfl rfl ?_
 refine aL 2 rfl (A1 rfl rfl) rfl ?_
 refine A2 1 ?_
 (refine I9 rfl rfl (A2K _ _ _ (A2Y hg1) hru) rfl rfl rfl (fun v G2 hle2 hh => ?_); obtain ⟨cs2, F2, rfl, hs2, hn2⟩ := hh; have hwl := hs2.R.len; have hwo := hs2.R.one; have hr2 := hs2.R.mono (C1.le G2 G1); replace hrt := hrt.mono hle2)
 refine A2 3 ?_
 (refine I9 rfl rfl (A1T _ _ _ (A4U hg3).small hrt) rfl rfl rfl (fun v G3 hle3 hh => ?_); obtain ⟨cs3, F3, rfl, hs3, hn3⟩ := hh; obtain ⟨p4, c4, rfl, _⟩ := hs3.open; have hr3 := hs3.R.mono (C1.le G3 G2); replace hr2 := hr2.mono hle3)
 refine A2 4 ?_
 refine oS rfl rfl rfl rfl hwl hwo rfl rfl ?_ (hu := by exact C3 hwl.symm)
 refine A2 5 ?_
 refine oS rfl rfl rfl rfl rfl rfl rfl rfl ?_
 refine aP 6 rfl (qA rfl) rfl ?_
 refine C2 (nS (tT ?_))
 refine C7 (rC rfl (A3 rfl rfl (A9 (by repeat first | exact mH | apply mT)) hwl)) (rC rfl (A1 rfl rfl)) (rT rfl) ?_
 (exact A14.yes hso hr2 hr3)
 refine H1 ?_
 refine sE (A7 rfl) rfl (fun b69 => ?_)
 refine sE (A7 rfl) rfl (fun b70 => ?_)
 refine sS rfl rfl rfl hul huo rfl ?_ (hu := by exact C3 hul.symm)
 refine A1O ?_
 refine C7 (rC rfl (A1 rfl rfl)) (rC rfl (A1 rfl rfl)) (rT rfl) ?_
 (exact A14.no (hnn hE) (L0 _) (N6 _ ⟨by omega, by omega⟩))
 refine I0 ?_
 refine C7 (rC rfl (A1 rfl rfl)) (rC rfl (A1 rfl rfl)) (rT rfl) ?_
 (exact A14.no (hno (by assumption)) (L0 _) (N6 _ ⟨by omega, by omega⟩))
def A0B (e : Tm) : Option Ty := match U9 e with | some (_, t) => some t | none => none
theorem B30 {e : Tm} (h : O4 e = false) : A0B e = none := by unfold A0B; rw [A9g h]
def A9j (e : Tm) (fuel : Int) : ByteArray × Int × Int := match U9 e with
 | none => (⟨⟨[]⟩⟩, 3, 0)
 | some (u, _) => if (S4 u fuel).2.1 = 0 then (A02 (S4 u fuel).1, 0, 0) else (⟨⟨[]⟩⟩, (S4 u fuel).2.1, (S4 u fuel).2.2)
def B65 (r : ByteArray × Int × Int) (G : IM) : IM → Value → List A4 → Prop := K5 fun _ v => v = .tuple ⟨[.string r.1, .int .i64 r.2.1, .int .i64 r.2.2]⟩
def B31 (r s : ByteArray × Int × Int) : Int := if r.2.1 = 2 then 2 else if r.2.1 ≠ 0 ∨ s.2.1 = 4 ∨ s.2.1 = 5 then 3 else if s.2.1 = 0 ∧ r.1 = s.1 then 1 else 4
def B66 (a b : Tm) (fuel : Int) : Int := if (A0B a).isSome = true ∧ A4K a b = true ∧ P6 fuel 0 300 = true then B31 (A9j a fuel) (A9j b fuel) else 0
def gxT : GX → ByteArray
 | .n n => A9e n
 | .b b => if b = true then txT else txF
 | .p => A9c
 | .f => A9d
theorem A9k {v : GE} (h : GV v) : A02 v.tm = gxT v.tx := by
 induction h with
 | num => rfl
 | @tru b => cases b <;> rfl
 | lam => rfl
 | pair _ _ _ _ => rfl
 | pf _ _ => rfl
 | pp _ _ => rfl
 | @inj A l e hv hg i =>
  rw [GE.tm, B3T (h0 := by simp)]
  ·exact i
  ·rw [A2V]
   refine decide_eq_false ?_
   rintro ⟨_, _, h | h⟩ <;> simp [GT.ty, Ty.k] at h
  ·rfl
theorem B32 {a u : Tm} {t : Ty} (h : U9 a = some (u, t)) : A0B a = some t := by unfold A0B; rw [h]
def GE.er : GE → GE
 | .var x => .var x
 | .num n => .num n
 | .tru b => .tru b
 | .lam x _ e => .lam x .any e.er
 | .app f a => .app f.er a.er
 | .ar s a b => .ar s a.er b.er
 | .ite c a b => .ite c.er a.er b.er
 | .pair a b => .pair a.er b.er
 | .part s e => .part s e.er
 | .cast _ _ _ e => e.er
def GE.nt : GE → Prop
 | .var _ => True
 | .num _ => True
 | .tru _ => True
 | .lam _ A e => A = .any ∧ e.nt
 | .app f a => f.nt ∧ a.nt
 | .ar _ a b => a.nt ∧ b.nt
 | .ite c a b => c.nt ∧ a.nt ∧ b.nt
 | .pair a b => a.nt ∧ b.nt
 | .part _ e => e.nt
 | .cast _ _ _ _ => False
theorem B33 : ∀ e : GE, e.er.nt := by
 intro e
 induction e with
 | var x => trivial
 | num n => trivial
 | tru b => trivial
 | lam x A e i => exact ⟨rfl, i⟩
 | app f a i j => exact ⟨i, j⟩
 | ar s a b i j => exact ⟨i, j⟩
 | ite c a b i j k => exact ⟨i, j, k⟩
 | pair a b i j => exact ⟨i, j⟩
 | part s e i => exact i
 | cast A B l e i => exact i
theorem B34 (x : ByteArray) (v : GE) : ∀ e : GE, (e.sub x v).er = e.er.sub x v.er := by
 intro e
 induction e with
 | var y => simp only [GE.er, GE.sub]; split <;> rfl
 | num n => rfl
 | tru b => rfl
 | lam y A e i =>
  simp only [GE.er, GE.sub]
  split
  ·rfl
  ·rw [GE.er, i]
 | app f a i j => simp only [GE.er, GE.sub, i, j]
 | ar s a b i j => simp only [GE.er, GE.sub, i, j]
 | ite c a b i j k => simp only [GE.er, GE.sub, i, j, k]
 | pair a b i j => simp only [GE.er, GE.sub, i, j]
 | part s e i => simp only [GE.er, GE.sub, i]
 | cast A B l e i => simp only [GE.er, GE.sub, i]
theorem A15 {e : GE} (h : GV e) : GV e.er := by
 induction h with
 | num => exact .num
 | tru => exact .tru
 | lam => exact .lam
 | pair _ _ i j => exact .pair i j
 | pf _ i => exact i
 | pp _ i => exact i
 | inj _ _ i => exact i
theorem B35 {e r : GE} (h : GS e r) : e.er = r.er ∨ GS e.er r.er := by
 induction h with
 | app1 _ i => exact i.elim (fun h => .inl (by simp only [GE.er, h])) (fun h => .inr (.app1 h))
 | app2 v _ i => exact i.elim (fun h => .inl (by simp only [GE.er, h])) (fun h => .inr (.app2 (A15 v) h))
 | ar1 _ i => exact i.elim (fun h => .inl (by simp only [GE.er, h])) (fun h => .inr (.ar1 h))
 | ar2 v _ i => exact i.elim (fun h => .inl (by simp only [GE.er, h])) (fun h => .inr (.ar2 (A15 v) h))
 | ite1 _ i => exact i.elim (fun h => .inl (by simp only [GE.er, h])) (fun h => .inr (.ite1 h))
 | pair1 _ i => exact i.elim (fun h => .inl (by simp only [GE.er, h])) (fun h => .inr (.pair1 h))
 | pair2 v _ i => exact i.elim (fun h => .inl (by simp only [GE.er, h])) (fun h => .inr (.pair2 (A15 v) h))
 | part1 _ i => exact i.elim (fun h => .inl (by simp only [GE.er, h])) (fun h => .inr (.part1 h))
 | cast1 _ i => exact i
 | beta v => exact .inr (by rw [B34]; exact .beta (A15 v))
 | appx _ _ => exact .inl rfl
 | @ar s m n => exact .inr (by rw [show (A1C s m n).er = A1C s m n by unfold A1C; split <;> rfl]; exact .ar)
 | @ite b x y => exact .inr (by rw [show (if b = true then x else y).er = if b = true then x.er else y.er by split <;> rfl]; exact .ite)
 | @part s a b v v2 => exact .inr (by rw [show (if s = true then b else a).er = if s = true then b.er else a.er by split <;> rfl]; exact .part (A15 v) (A15 v2))
 | partx _ => exact .inl rfl
 | cid _ _ => exact .inl rfl
 | up _ _ _ => exact .inl rfl
 | down _ _ _ => exact .inl rfl
 | hit _ _ => exact .inl rfl
inductive Sn : Nat → GE → GE → Prop
 | refl {e} : Sn 0 e e
 | step {n a b c} : GS a b → Sn n b c → Sn (n + 1) a c
theorem B36 {n : Nat} {e r : GE} (h : Sn n e r) : ∃ m, m ≤ n ∧ Sn m e.er r.er := by
 induction h with
 | refl => exact ⟨0, Nat.le_refl _, .refl⟩
 | step s _ i =>
  obtain ⟨m, h1, h2⟩ := i
  rcases B35 s with h | h
  ·exact ⟨m, by omega, by rw [h]; exact h2⟩
  ·exact ⟨m + 1, by omega, .step h h2⟩
theorem B37 {Γ : GC} {v v' : GE} {U U' : GT} (h : GP Γ v v' U U') : ∀ {A B : GT}, Γ = N0 → U = .fn A B → GV v → v.er.tx = .f := by
 induction h with
 | castR _ _ _ i => exact i
 | castL h _ _ i =>
  intro A B hE hU hv
  subst hU
  cases hv with
  | pf hv => exact i hE rfl hv
 | castB h _ _ _ i =>
  intro A B hE hU hv
  subst hU
  cases hv with
  | pf hv => exact i hE rfl hv
 | lam _ _ _ => intro _ _ _ _ _; rfl
 | app _ _ _ _ => intro _ _ _ _ hv; cases hv
 | ite _ _ _ _ _ _ => intro _ _ _ _ hv; cases hv
 | part _ _ => intro _ _ _ _ hv; cases hv
 | ar _ _ _ _ => intro _ _ _ _ hv; cases hv
 | var _ _ => intro _ _ _ _ hv; cases hv
 | _ => intro _ _ _ hU; cases hU
theorem B38 {Γ : GC} {v v' : GE} {U U' : GT} (h : GP Γ v v' U U') : ∀ {A B : GT}, Γ = N0 → U = .pr A B → GV v → v.er.tx = .p := by
 induction h with
 | castR _ _ _ i => exact i
 | castL h _ _ i =>
  intro A B hE hU hv
  subst hU
  cases hv with
  | pp hv => exact i hE rfl hv
 | castB h _ _ _ i =>
  intro A B hE hU hv
  subst hU
  cases hv with
  | pp hv => exact i hE rfl hv
 | pair _ _ _ _ => intro _ _ _ _ _; rfl
 | app _ _ _ _ => intro _ _ _ _ hv; cases hv
 | ite _ _ _ _ _ _ => intro _ _ _ _ hv; cases hv
 | part _ _ => intro _ _ _ _ hv; cases hv
 | ar _ _ _ _ => intro _ _ _ _ hv; cases hv
 | var _ _ => intro _ _ _ _ hv; cases hv
 | _ => intro _ _ _ hU; cases hU
theorem B39 {Γ : GC} {v v' : GE} {U U' : GT} (h : GP Γ v v' U U') : Γ = N0 → GV v → v.er.tx = v.tx := by
 have cst : ∀ {Γ : GC} {e e' : GE} {A B A' : GT} {l : Int}, GP Γ e e' A A' → (Γ = N0 → GV e → e.er.tx = e.tx) → Γ = N0 → GV (.cast A B l e) → (GE.cast A B l e).er.tx = (GE.cast A B l e).tx := by
  intro Γ e e' A B A' l h i hE hv
  cases hv with
  | pf hv => rw [GE.er, B37 h hE rfl hv]; rfl
  | pp hv => rw [GE.er, B38 h hE rfl hv]; rfl
  | inj hv _ => exact i hE hv
 induction h with
 | castL h _ _ i => exact cst h i
 | castB h _ _ _ i => exact cst h i
 | castR _ _ _ i => exact i
 | num => intro _ _; rfl
 | tru => intro _ _; rfl
 | lam _ _ _ => intro _ _; rfl
 | pair _ _ _ _ => intro _ _; rfl
 | app _ _ _ _ => intro _ hv; cases hv
 | ite _ _ _ _ _ _ => intro _ hv; cases hv
 | part _ _ => intro _ hv; cases hv
 | ar _ _ _ _ => intro _ hv; cases hv
 | var _ _ => intro _ hv; cases hv
def A16 (k : Int) : Int := if k = 6 then 1 else if k = 7 ∨ k = 8 then 2 else if k = 9 then 3 else if k = 11 ∨ k = 12 then 4 else 5
def U3 (k : Int) (ks : List Tm) : Z0 := match O8 k ks with
 | some u => (u, 1, 0)
 | none => (D7, 2, A16 k)
mutual
def F9 : Tm → Z0
 | .mk k nm num ty fr lb ks => match W7 (if k = 9 then 1 else ks.length) ks with
  | some (ks', c, l) => if c = 1 then (.mk k nm num ty fr lb ks', 1, 0) else (D7, c, l)
  | none => U3 k ks
def W7 : Nat → List Tm → Option (List Tm × Int × Int)
 | _, [] => none
 | n, t :: ts => match n with
  | 0 => none
  | n + 1 => if D0 t = true then (match W7 n ts with
    | some (us, c, l) => some (t :: us, c, l)
    | none => none)
   else some ((F9 t).1 :: ts, (F9 t).2.1, (F9 t).2.2)
end
mutual
def M0 : Tm → Bool
 | .mk k _ _ ty _ _ ks => decide (k ≠ 14 ∧ (k ≠ 5 ∨ ty.k = 1)) && A4V ks
def A4V : List Tm → Bool
 | [] => true
 | t :: ts => M0 t && A4V ts
end
theorem A6g : ∀ ks, A4V ks = ks.all M0
 | [] => rfl
 | t :: ts => by rw [A4V, A6g ts, List.all_cons]
theorem V6 {k : Int} {nm : ByteArray} {num : Int} {ty fr : Ty} {lb : Int} {ks : List Tm} : M0 (.mk k nm num ty fr lb ks) = true ↔ (k ≠ 14 ∧ (k ≠ 5 ∨ ty.k = 1)) ∧ ∀ t ∈ ks, M0 t = true := by
 rw [M0, Bool.and_eq_true, decide_eq_true_eq, A6g, List.all_eq_true]
def Q9 (e : Tm) : Bool := O3 e && M0 e
def H2 (e : Tm) : Z0 :=
 if Q9 e = false then (D7, 3, 0) else if D0 e = true then (e, 0, 0)
 else if (F9 e).2.1 ≠ 1 then (D7, (F9 e).2.1, (F9 e).2.2)
 else if Q9 (F9 e).1 = false then (D7, 4, 0) else ((F9 e).1, 1, 0)
def P3 : Nat → Tm → Tm × Int × Int × Nat
 | 0, e => ((H2 e).1, (H2 e).2.1, (H2 e).2.2, 0)
 | n + 1, e => if (H2 e).2.1 = 1 then ((P3 n (H2 e).1).1, (P3 n (H2 e).1).2.1, (P3 n (H2 e).1).2.2.1, (P3 n (H2 e).1).2.2.2 + 1)
  else ((H2 e).1, (H2 e).2.1, (H2 e).2.2, 0)
def J0 : Nat → Tm → Tm × Int × Int × Nat
 | 0, e => if (H2 e).2.1 = 1 then (D7, 5, 0, 0) else ((H2 e).1, (H2 e).2.1, (H2 e).2.2, 0)
 | n + 1, e => if (H2 e).2.1 = 1 then ((J0 n (H2 e).1).1, (J0 n (H2 e).1).2.1, (J0 n (H2 e).1).2.2.1, (J0 n (H2 e).1).2.2.2 + 1)
  else ((H2 e).1, (H2 e).2.1, (H2 e).2.2, 0)
theorem A9l (e : Tm) : P3 0 e = ((H2 e).1, (H2 e).2.1, (H2 e).2.2, 0) := by rw [P3]
theorem A9m {n : Nat} {e : Tm} (h : (H2 e).2.1 = 1) : P3 (n + 1) e = ((P3 n (H2 e).1).1, (P3 n (H2 e).1).2.1, (P3 n (H2 e).1).2.2.1, (P3 n (H2 e).1).2.2.2 + 1) := by rw [P3, if_pos h]
theorem A9n {n : Nat} {e : Tm} (h : (H2 e).2.1 ≠ 1) : P3 (n + 1) e = ((H2 e).1, (H2 e).2.1, (H2 e).2.2, 0) := by rw [P3, if_neg h]
theorem A6h : ∀ (n : Nat) (e : Tm), (P3 n e).2.1 = 1 → J0 n e = (D7, 5, 0, (P3 n e).2.2.2)
 | 0, e, h => by rw [A9l] at h ⊢; rw [J0, if_pos h]
 | n + 1, e, h => by
  by_cases h1 : (H2 e).2.1 = 1
  ·rw [A9m h1] at h ⊢
   rw [J0, if_pos h1, A6h n _ h]
  ·rw [A9n h1] at h; exact absurd h h1
theorem A6i : ∀ (n : Nat) (e : Tm), (P3 n e).2.1 ≠ 1 → J0 n e = P3 n e
 | 0, e, h => by rw [A9l] at h ⊢; rw [J0, if_neg h]
 | n + 1, e, h => by
  by_cases h1 : (H2 e).2.1 = 1
  ·rw [A9m h1] at h ⊢
   rw [J0, if_pos h1, A6i n _ h]
  ·rw [A9n h1]; rw [J0, if_neg h1]
theorem B4a (n : Nat) (e : Tm) : (J0 n e).2.2.2 = (P3 n e).2.2.2 := by
 by_cases h : (P3 n e).2.1 = 1
 ·rw [A6h n e h]
 ·rw [A6i n e h]
theorem B4b {m i : Nat} {e : Tm} (h : (H2 e).2.1 ≠ 1 ∨ m = 0) : V0 i (P3 m e) = ((H2 e).1, (H2 e).2.1, (H2 e).2.2, i) := by
 cases m with
 | zero => simp [V0, P3]
 | succ m =>
  rcases h with h | h
  ·simp only [V0, P3]; rw [if_neg h]; simp
  ·cases h
theorem B4c {m i : Nat} {e : Tm} (h : (H2 e).2.1 = 1) (hm : 0 < m) : V0 i (P3 m e) = V0 (i + 1) (P3 (m - 1) (H2 e).1) := by
 obtain ⟨k, rfl⟩ : ∃ k, m = k + 1 := ⟨m - 1, by omega⟩
 simp only [V0, P3]; rw [if_pos h]; simp only [Nat.add_sub_cancel, Nat.add_assoc, Nat.add_comm 1 i]
theorem B4d {m i : Nat} {e : Tm} (h : (H2 e).2.1 ≠ 1) : V0 i (J0 m e) = ((H2 e).1, (H2 e).2.1, (H2 e).2.2, i) := by
 cases m with
 | zero => rw [J0, if_neg h]; simp [V0]
 | succ m => rw [J0, if_neg h]; simp [V0]
theorem B4e {m i : Nat} {e : Tm} (h : (H2 e).2.1 = 1) (hm : m = 0) : V0 i (J0 m e) = (D7, 5, 0, i) := by
 subst hm; rw [J0, if_pos h]; simp [V0]
theorem B4f {m i : Nat} {e : Tm} (h : (H2 e).2.1 = 1) (hm : 0 < m) : V0 i (J0 m e) = V0 (i + 1) (J0 (m - 1) (H2 e).1) := by
 obtain ⟨k, rfl⟩ : ∃ k, m = k + 1 := ⟨m - 1, by omega⟩
 rw [J0, if_pos h]; simp only [V0, Nat.add_sub_cancel, Nat.add_assoc, Nat.add_comm 1 i]
def A0l (e : Tm) (fuel : Int) : Z0 := if 0 ≤ fuel ∧ fuel ≤ 300 then ((J0 fuel.toNat e).1, (J0 fuel.toNat e).2.1, (J0 fuel.toNat e).2.2.1) else (D7, 3, 0)
def Z1 (e : Tm) (fuel : Int) : Int := if 0 ≤ fuel ∧ fuel ≤ 300 then ((J0 fuel.toNat e).2.2.2 : Int) else 0
theorem A3L (n : Nat) (t : Tm) (ts : List Tm) : W7 (n + 1) (t :: ts) = if D0 t = true then (match W7 n ts with | some (us, c, l) => some (t :: us, c, l) | none => none) else some ((F9 t).1 :: ts, (F9 t).2.1, (F9 t).2.2) := by
 rw [W7]
theorem A9o : ∀ (n : Nat) (ks : List Tm), (∀ i, i < n → (h : i < ks.length) → D0 ks[i] = true) → W7 n ks = none
 | n, [], _ => by cases n <;> rfl
 | 0, t :: ts, _ => rfl
 | n + 1, t :: ts, h => by
  rw [A3L, if_pos (show D0 t = true from h 0 (by omega) (by simp)), A9o n ts (fun i hi hl => h (i + 1) (by omega) (by simpa using hl))]
theorem A6j : ∀ (n : Nat) (ks : List Tm) (i : Nat) (hi : i < ks.length), i < n → (∀ j, j < i → (h : j < ks.length) → D0 ks[j] = true) → D0 ks[i] = false → W7 n ks = some (ks.set i (F9 ks[i]).1, (F9 ks[i]).2.1, (F9 ks[i]).2.2)
 | n, [], i, hi, _, _, _ => by simp at hi
 | 0, t :: ts, i, _, hn, _, _ => by omega
 | n + 1, t :: ts, 0, _, _, _, hv => by
  rw [A3L, if_neg (by rw [show D0 t = false from hv]; decide)]; rfl
 | n + 1, t :: ts, i + 1, hi, hn, hj, hv => by
  rw [A3L, if_pos (show D0 t = true from hj 0 (by omega) (by simp)), A6j n ts i (by simpa using hi) (by omega) (fun j hji hl => hj (j + 1) (by omega) (by simpa using hl)) hv]
  rfl
theorem B4g {k : Int} {nm : ByteArray} {num : Int} {ty fr : Ty} {lb : Int} {ks : List Tm} (h : (F9 (.mk k nm num ty fr lb ks)).2.1 = 1) : (F9 (.mk k nm num ty fr lb ks)).2.2 = 0 := by
 rw [F9] at h ⊢
 cases hL : W7 (if k = 9 then 1 else ks.length) ks with
 | none =>
  rw [hL] at h
  simp only [U3] at h ⊢
  cases hr : O8 k ks with
  | none => rw [hr] at h; cases h
  | some u => rfl
 | some p =>
  obtain ⟨us, c, l⟩ := p
  rw [hL] at h
  simp only at h ⊢
  by_cases hc : c = 1
  ·rw [if_pos hc]
  ·rw [if_neg hc] at h; exact absurd h hc
theorem B4h {t : Tm} (h : (F9 t).2.1 = 1) : (F9 t).2.2 = 0 := by cases t; exact B4g h
theorem B4i {k : Int} {nm : ByteArray} {num : Int} {ty fr : Ty} {lb : Int} {ks : List Tm} {i : Nat} (hi : i < ks.length) (hn : i < (if k = 9 then 1 else ks.length)) (hj : ∀ j, j < i → (h : j < ks.length) → D0 ks[j] = true) (hv : D0 ks[i] = false) :
  (F9 (.mk k nm num ty fr lb ks)).2.1 = (F9 ks[i]).2.1 ∧ (F9 (.mk k nm num ty fr lb ks)).2.2 = (F9 ks[i]).2.2 ∧ ((F9 ks[i]).2.1 = 1 → (F9 (.mk k nm num ty fr lb ks)).1 = .mk k nm num ty fr lb (ks.set i (F9 ks[i]).1)) := by
 rw [F9, A6j _ ks i hi hn hj hv]
 simp only
 by_cases hc : (F9 ks[i]).2.1 = 1
 ·rw [if_pos hc]
  exact ⟨hc.symm, (B4h hc).symm, fun _ => rfl⟩
 ·rw [if_neg hc]
  exact ⟨rfl, rfl, fun h => absurd h hc⟩
theorem A9p {k : Int} {nm : ByteArray} {num : Int} {ty fr : Ty} {lb : Int} {ks : List Tm} (h : ∀ i, i < (if k = 9 then 1 else ks.length) → (hl : i < ks.length) → D0 ks[i] = true) : F9 (.mk k nm num ty fr lb ks) = U3 k ks := by
 rw [F9, A9o _ _ h]
theorem A03 {k : Int} {ks : List Tm} {u : Tm} (h : O8 k ks = some u) : U3 k ks = (u, 1, 0) := by unfold U3; rw [h]
theorem A17 {k : Int} {ks : List Tm} (h : O8 k ks = none) : U3 k ks = (D7, 2, A16 k) := by unfold U3; rw [h]
theorem A4W {e : Tm} (h : Q9 e = false) : H2 e = (D7, 3, 0) := by unfold H2; rw [if_pos h]
theorem A4X {e : Tm} (h : Q9 e = true) (h2 : D0 e = true) : H2 e = (e, 0, 0) := by unfold H2; rw [if_neg (by rw [h]; decide), if_pos h2]
theorem A6k {e : Tm} (h : Q9 e = true) (h2 : D0 e = false) (h3 : (F9 e).2.1 ≠ 1) : H2 e = (D7, (F9 e).2.1, (F9 e).2.2) := by
 unfold H2; rw [if_neg (by rw [h]; decide), if_neg (by rw [h2]; decide), if_pos h3]
theorem A4Y {e : Tm} (h : Q9 e = true) (h2 : D0 e = false) (h3 : (F9 e).2.1 = 1) (h4 : Q9 (F9 e).1 = false) : H2 e = (D7, 4, 0) := by
 unfold H2; rw [if_neg (by rw [h]; decide), if_neg (by rw [h2]; decide), if_neg (by omega), if_pos h4]
theorem A4Z {e : Tm} (h : Q9 e = true) (h2 : D0 e = false) (h3 : (F9 e).2.1 = 1) (h4 : Q9 (F9 e).1 = true) : H2 e = ((F9 e).1, 1, 0) := by
 unfold H2; rw [if_neg (by rw [h]; decide), if_neg (by rw [h2]; decide), if_neg (by omega), if_neg (by rw [h4]; decide)]
theorem A04 {e : Tm} (h : Q9 e = true) : O3 e = true ∧ M0 e = true := by
 unfold Q9 at h; rwa [Bool.and_eq_true] at h
mutual
theorem A9q {x : ByteArray} {v : Tm} (hv : M0 v = true) : ∀ t : Tm, M0 t = true → M0 (R7 x v t) = true
 | .mk k nm num ty fr lb ks, h => by
  have h' := V6.1 h
  rw [R7]
  split
  ·exact hv
  ·split
   ·exact h
   ·exact V6.2 ⟨h'.1, A9r hv ks h'.2⟩
theorem A9r {x : ByteArray} {v : Tm} (hv : M0 v = true) : ∀ ts : List Tm, (∀ t ∈ ts, M0 t = true) → ∀ t ∈ R0 x v ts, M0 t = true
 | [], _ => by simp [R0]
 | t :: ts, h => by
  have h1 := A9q (x := x) hv t (h t List.mem_cons_self)
  have h2 := A9r (x := x) hv ts fun u hu => h u (List.mem_cons_of_mem _ hu)
  intro u hu
  rw [R0] at hu
  rcases List.mem_cons.1 hu with he | hu
  ·rw [he]; exact h1
  ·exact h2 u hu
end
theorem B4j : M0 D7 = true := by decide
theorem A40 {ks : List Tm} (h : ∀ t ∈ ks, M0 t = true) (i : Nat) : M0 (kd ks i) = true := by
 unfold kd
 rw [List.getD_eq_getElem?_getD]
 cases hi : ks[i]? with
 | none => exact B4j
 | some t => exact h t (List.mem_of_getElem? hi)
theorem B4k {t : Tm} (h : M0 t = true) : ∀ u ∈ t.ks, M0 u = true := by cases t; exact (V6.1 h).2
theorem B4l {k : Int} {ks : List Tm} {u : Tm} (h : ∀ t ∈ ks, M0 t = true) (hr : O8 k ks = some u) : M0 u = true := by
 have a0 := A40 h 0
 have a1 := A40 h 1
 have a2 := A40 h 2
 have b := fun i => A40 (B4k a0) i
 revert hr
 unfold O8
 split
 ·split
  ·intro he; cases he; exact A9q a1 _ (b 0)
  ·intro he; cases he
 ·split
  ·split
   ·intro he
    cases he
    split
    ·exact V6.2 ⟨⟨by decide, .inl (by decide)⟩, by simp⟩
    ·exact V6.2 ⟨⟨by split <;> decide, .inl (by split <;> decide)⟩, by simp⟩
   ·intro he; cases he
  ·split
   ·split
    ·intro he; cases he; exact a1
    ·split
     ·intro he; cases he; exact a2
     ·intro he; cases he
   ·split
    ·split
     ·intro he; cases he; exact b _
     ·intro he; cases he
    ·intro he; cases he
theorem B4m (ks : List Tm) (ih : ∀ t ∈ ks, M0 t = true → (F9 t).2.1 = 1 → M0 (F9 t).1 = true) : ∀ (n : Nat) (us : List Tm) (c l : Int), (∀ t ∈ ks, M0 t = true) → W7 n ks = some (us, c, l) → c = 1 → ∀ t ∈ us, M0 t = true := by
 induction ks with
 | nil => intro n us c l _ h; cases n <;> (rw [W7] at h; cases h)
 | cons t ts ihl =>
  intro n us c l hb h hc
  cases n with
  | zero => rw [W7] at h; cases h
  | succ n =>
   rw [A3L] at h
   split at h
   ·split at h
    ·rename_i us' c' l' h'
     cases h
     have := ihl (fun t ht => ih t (List.mem_cons_of_mem _ ht)) n us' c l (fun t ht => hb t (List.mem_cons_of_mem _ ht)) h' hc
     intro u hu
     rcases List.mem_cons.1 hu with he | hu
     ·rw [he]; exact hb t List.mem_cons_self
     ·exact this u hu
    ·cases h
   ·cases h
    intro u hu
    rcases List.mem_cons.1 hu with he | hu
    ·rw [he]; exact ih t List.mem_cons_self (hb t List.mem_cons_self) hc
    ·exact hb u (List.mem_cons_of_mem _ hu)
theorem B4n : ∀ t : Tm, M0 t = true → (F9 t).2.1 = 1 → M0 (F9 t).1 = true := by
 refine Tm.ind fun k nm num ty fr lb ks ih h hc => ?_
 obtain ⟨h1, h2⟩ := V6.1 h
 rw [F9] at hc ⊢
 split at hc
 ·rename_i ks' c l hs
  by_cases h1' : c = 1
  ·rw [if_pos h1']
   exact V6.2 ⟨h1, B4m ks ih _ _ _ _ h2 hs h1'⟩
  ·rw [if_neg h1'] at hc; exact absurd hc h1'
 ·cases hr : O8 k ks with
  | none => rw [A17 hr] at hc; cases hc
  | some u => rw [A03 hr]; exact B4l h2 hr
theorem B4o {e : Tm} (h : Q9 e = true) (h3 : (F9 e).2.1 = 1) : Q9 (F9 e).1 = O3 (F9 e).1 := by
 unfold Q9
 rw [B4n e (A04 h).2 h3, Bool.and_true]
theorem B4p {e : Tm} (h : (H2 e).2.1 = 1) : Q9 (H2 e).1 = true := by
 cases h1 : Q9 e with
 | false => rw [A4W h1] at h; simp at h
 | true =>
  cases h2 : D0 e with
  | true => rw [A4X h1 h2] at h; simp at h
  | false =>
   by_cases h3 : (F9 e).2.1 = 1
   ·cases h4 : Q9 (F9 e).1 with
    | false => rw [A4Y h1 h2 h3 h4] at h; simp at h
    | true => rw [A4Z h1 h2 h3 h4]; exact h4
   ·rw [A6k h1 h2 h3] at h; exact absurd h h3
section
variable {k : Int} {nm : ByteArray} {num : Int} {ty fr : Ty} {lb : Int} {a b c : Tm} {t : Tm} {l : Int}
theorem A3M (h : D0 a = false) (ks : List Tm) (r : Tm) (hs : F9 a = (r, 1, 0)) : F9 (.mk k nm num ty fr lb (a :: ks)) = (.mk k nm num ty fr lb (r :: ks), 1, 0) := by
 have : ∃ n, (if k = 9 then 1 else (a :: ks).length) = n + 1 := ⟨if k = 9 then 0 else ks.length, by split <;> simp⟩
 obtain ⟨n, hn⟩ := this
 rw [F9, hn, W7, if_neg (by rw [h]; decide), hs]
 simp
theorem A6l (h0 : D0 a = true) (h : D0 b = false) (hk : k ≠ 9) (r : Tm) (hs : F9 b = (r, 1, 0)) : F9 (.mk k nm num ty fr lb [a, b]) = (.mk k nm num ty fr lb [a, r], 1, 0) := by
 rw [F9, if_neg hk]
 simp only [List.length_cons, List.length_nil, W7, h0, h, if_true, hs]
 simp
theorem B4q (h : D0 a = true) : F9 (.mk k nm num ty fr lb [a]) = U3 k [a] := by
 rw [F9, show (if k = 9 then 1 else [a].length) = 1 by split <;> rfl, W7, h]
 simp [W7]
theorem A9s (h : D0 a = true) (h2 : D0 b = true) (hk : k ≠ 9) : F9 (.mk k nm num ty fr lb [a, b]) = U3 k [a, b] := by
 rw [F9, if_neg hk]
 simp [W7, h, h2]
theorem B4r (h : D0 a = true) : F9 (.mk 9 nm num ty fr lb [a, b, c]) = U3 9 [a, b, c] := by
 rw [F9, if_pos rfl]
 simp [W7, h]
end
theorem B4s {x : ByteArray} {v : GE} (hv : v.nt) : ∀ e : GE, e.nt → (e.sub x v).nt := by
 intro e
 induction e with
 | var y => intro _; rw [GE.sub]; split; exact hv; trivial
 | num n => intro h; exact h
 | tru b => intro h; exact h
 | lam y A e i => intro h; rw [GE.sub]; split; exact h; exact ⟨h.1, i h.2⟩
 | app f a i j => intro h; exact ⟨i h.1, j h.2⟩
 | ar s a b i j => intro h; exact ⟨i h.1, j h.2⟩
 | ite c a b i j k => intro h; exact ⟨i h.1, j h.2.1, k h.2.2⟩
 | pair a b i j => intro h; exact ⟨i h.1, j h.2⟩
 | part s e i => intro h; exact i h
 | cast A B l e i => intro h; exact h.elim
theorem B4t {e r : GE} (h : GS e r) : e.nt → F9 e.tm = (r.tm, 1, 0) ∧ r.nt := by
 induction h with
 | app1 s i => exact fun h => ⟨by rw [GE.tm, A3M (nv s) _ _ (i h.1).1, GE.tm], (i h.1).2, h.2⟩
 | app2 v s i => exact fun h => ⟨by rw [GE.tm, A6l ((R1 _).2 v) (nv s) (by decide) _ (i h.2).1, GE.tm], h.1, (i h.2).2⟩
 | ar1 s i => exact fun h => ⟨by rw [GE.tm, A3M (nv s) _ _ (i h.1).1, GE.tm], (i h.1).2, h.2⟩
 | @ar2 t _ _ _ v s i => exact fun h => ⟨by rw [GE.tm, A6l ((R1 _).2 v) (nv s) (by cases t <;> decide) _ (i h.2).1, GE.tm], h.1, (i h.2).2⟩
 | ite1 s i => exact fun h => ⟨by rw [GE.tm, A3M (nv s) _ _ (i h.1).1, GE.tm], (i h.1).2, h.2⟩
 | pair1 s i => exact fun h => ⟨by rw [GE.tm, A3M (nv s) _ _ (i h.1).1, GE.tm], (i h.1).2, h.2⟩
 | pair2 v s i => exact fun h => ⟨by rw [GE.tm, A6l ((R1 _).2 v) (nv s) (by decide) _ (i h.2).1, GE.tm], h.1, (i h.2).2⟩
 | part1 s i => exact fun h => ⟨by rw [GE.tm, A3M (nv s) _ _ (i h).1, GE.tm], (i h).2⟩
 | cast1 s i => exact fun h => h.elim
 | @beta x A b v hv =>
  intro h
  refine ⟨?_, B4s h.2 _ h.1.2⟩
  rw [GE.tm, A9s ((R1 _).2 .lam) ((R1 _).2 hv) (by decide), A03 (u := (b.sub x v).tm) (by rw [A8g]; rfl)]
 | appx _ _ => exact fun h => h.1.elim
 | @ar s m n =>
  intro h
  refine ⟨?_, by unfold A1C; split <;> trivial⟩
  rw [GE.tm, A9s rfl rfl (by cases s <;> decide)]
  cases s
  ·rfl
  ·by_cases hmn : m < n
   ·simp only [A1C, if_true, decide_eq_true hmn, GE.tm]
    refine A03 ?_
    simp only [O8, kd, List.getD_cons_zero, List.getD_cons_succ, Tm.k, Tm.num]
    simp [V8, A0k, hmn]
   ·simp only [A1C, if_true, decide_eq_false hmn, GE.tm]
    refine A03 ?_
    simp only [O8, kd, List.getD_cons_zero, List.getD_cons_succ, Tm.k, Tm.num]
    simp [V8, A0k, hmn]
 | @ite b x y =>
  intro h
  refine ⟨?_, by cases b; exact h.2.2; exact h.2.1⟩
  rw [GE.tm, B4r ((R1 _).2 .tru)]
  cases b <;> rfl
 | @part s a b v v2 =>
  intro h
  refine ⟨?_, by cases s; exact h.1; exact h.2⟩
  rw [GE.tm, B4q ((R1 _).2 (.pair v v2))]
  cases s <;> rfl
 | partx _ => exact fun h => h.elim
 | cid _ _ => exact fun h => h.elim
 | up _ _ _ => exact fun h => h.elim
 | down _ _ _ => exact fun h => h.elim
 | hit _ _ => exact fun h => h.elim
theorem A6m : ∀ e : GE, M0 e.tm = true ↔ e.nt := by
 intro e
 induction e with
 | var x => rw [GE.tm, V6]; simp [GE.nt]
 | num n => rw [GE.tm, V6]; simp [GE.nt]
 | tru b => rw [GE.tm, V6]; cases b <;> simp [GE.nt]
 | lam x A e i => rw [GE.tm, V6, A1j]; simp [GE.nt, i]
 | app f a i j => rw [GE.tm, V6]; simp [GE.nt, i, j]
 | ar s a b i j => rw [GE.tm, V6]; cases s <;> simp [GE.nt, i, j]
 | ite c a b i j k => rw [GE.tm, V6]; simp [GE.nt, i, j, k]
 | pair a b i j => rw [GE.tm, V6]; simp [GE.nt, i, j]
 | part s e i => rw [GE.tm, V6]; cases s <;> simp [GE.nt, i]
 | cast A B l e i => rw [GE.tm, V6]; simp [GE.nt]
theorem B4u {n : Nat} {e : Tm} (h : (H2 e).2.1 = 1) : J0 (n + 1) e = ((J0 n (H2 e).1).1, (J0 n (H2 e).1).2.1, (J0 n (H2 e).1).2.2.1, (J0 n (H2 e).1).2.2.2 + 1) := by rw [J0, if_pos h]
theorem B4v : ∀ {m : Nat} {e w : GE}, Sn m e w → GV w → e.nt → ∀ (n : Nat), O3 e.tm = true → ((J0 n e.tm).2.1 = 0 ∧ (J0 n e.tm).1 = w.tm ∧ (J0 n e.tm).2.2.2 = m ∧ (J0 n e.tm).2.2.1 = 0) ∨ (J0 n e.tm).2.1 = 4 ∨ ((J0 n e.tm).2.1 = 5 ∧ n < m) := by
 intro m e w h
 induction h with
 | @refl e =>
  intro hv hn n hc
  have hb : Q9 e.tm = true := by unfold Q9; rw [hc, (A6m e).2 hn]; rfl
  have : H2 e.tm = (e.tm, 0, 0) := A4X hb ((R1 _).2 hv)
  cases n with
  | zero => rw [J0, this]; exact .inl ⟨rfl, rfl, rfl, rfl⟩
  | succ n => rw [J0, this]; exact .inl ⟨rfl, rfl, rfl, rfl⟩
 | @step m a b c s _ ih =>
  intro hv hn n hc
  obtain ⟨hs, hnb⟩ := B4t s hn
  have hb : Q9 a.tm = true := by unfold Q9; rw [hc, (A6m a).2 hn]; rfl
  have hbb : Q9 b.tm = O3 b.tm := by unfold Q9; rw [(A6m b).2 hnb, Bool.and_true]
  cases hcb : O3 b.tm with
  | false =>
   have : H2 a.tm = (D7, 4, 0) := A4Y hb (nv s) (by rw [hs]) (by rw [hs]; show Q9 b.tm = false; rw [hbb, hcb])
   cases n with
   | zero => rw [J0, this]; exact .inr (.inl rfl)
   | succ n => rw [J0, this]; exact .inr (.inl rfl)
  | true =>
   have : H2 a.tm = (b.tm, 1, 0) := by
    have h5 := A4Z hb (nv s) (by rw [hs]) (by rw [hs]; show Q9 b.tm = true; rw [hbb, hcb])
    rw [h5, hs]
   cases n with
   | zero => rw [J0, this]; exact .inr (.inr ⟨rfl, Nat.succ_pos _⟩)
   | succ n =>
    rw [B4u (by rw [this]), this]
    rcases ih hv hnb n hcb with ⟨h1, h2, h3, h4⟩ | h1 | ⟨h1, h2⟩
    ·exact .inl ⟨h1, h2, by show (J0 n b.tm).2.2.2 + 1 = _; rw [h3], h4⟩
    ·exact .inr (.inl h1)
    ·exact .inr (.inr ⟨h1, by omega⟩)
theorem B4w : ∀ (n : Nat) {e e' : GE} {A A' : GT}, GP N0 e e' A A' → (Q1 n e.tm).2.1 = 0 → ∃ w, (Q1 n e.tm).1 = w.tm ∧ GV w ∧ Sn (Q1 n e.tm).2.2.2 e w ∧ (Q1 n e.tm).2.2.2 ≤ n ∧ ∃ w' B B', GP N0 w w' B B' := by
 intro n
 have fin : ∀ {n : Nat} {e e' : GE} {A A' : GT}, GP N0 e e' A A' → (H8 e.tm).2.1 = 0 → ∃ w, (H8 e.tm).1 = w.tm ∧ GV w ∧ Sn 0 e w ∧ 0 ≤ n ∧ ∃ w' B B', GP N0 w w' B B' := by
  intro n e e' A A' hp h0
  have hv : D0 e.tm = true := by
   rcases A8k hp rfl with hv | ⟨r, s⟩ | b
   ·exact (R1 _).2 hv
   ·exact (A8l h0 (by rw [A8h s]; show (1 : Int) ≠ 0; decide)).1
   ·exact (A8l h0 (by rw [b.2]; decide)).1
  refine ⟨e, ?_, (R1 _).1 hv, .refl, Nat.zero_le _, e', A, A', hp⟩
  unfold H8 at h0 ⊢
  split at h0
  ·cases h0
  ·rename_i h1; rw [if_neg h1, if_pos hv]
 induction n with
 | zero =>
  intro e e' A A' hp h
  rw [Q1] at h ⊢
  by_cases h1 : (H8 e.tm).2.1 = 1
  ·rw [if_pos h1] at h; cases h
  ·rw [if_neg h1] at h ⊢; exact fin hp h
 | succ n ih =>
  intro e e' A A' hp h
  by_cases h1 : (H8 e.tm).2.1 = 1
  ·obtain ⟨_, hv, hs, he⟩ := B2n h1
   rcases A8k hp rfl with hv' | ⟨r, s⟩ | b
   ·rw [(R1 _).2 hv'] at hv; cases hv
   ·rw [B2o h1] at h ⊢
    have hr : (H8 e.tm).1 = r.tm := by rw [he, A8h s]
    rw [hr] at h ⊢
    obtain ⟨r', _, hp'⟩ := sim hp rfl s
    obtain ⟨w, h2, h3, h4, h5, h6⟩ := ih hp' h
    exact ⟨w, h2, h3, .step s h4, by show (Q1 n r.tm).2.2.2 + 1 ≤ n + 1; omega, h6⟩
   ·rw [b.2] at hs; cases hs
  ·rw [Q1, if_neg h1] at h ⊢; exact fin hp h
def pAt (t : Tm) (label : Int) (l : List Int) : Bool := match tAt t l with
 | some x => decide (x.k = 14 ∧ x.lb = label)
 | none => false
def A6n (t : Tm) (label : Int) : List Int × Bool := match (B1b t).find? (pAt t label) with
 | some l => (l, true)
 | none => ([], false)
def SP1 (G : IM) (l : List Int) (p : Option Addr) (c : Nat) : Prop := Sl G p l.length c 1 (A3j l) ∧ ∀ b ∈ J1 p, G b ≠ none
def CpP (t : Tm) (label : Int) (G : IM) : IM → Value → List A4 → Prop := K5 fun G' v => ∃ p c, v = .tuple ⟨[.slice p (A6n t label).1.length c, .bool (A6n t label).2]⟩ ∧ SP1 (C1 G' G) (A6n t label).1 p c
mutual
def A2v : Tm → List Tm
 | .mk k nm num ty fr lb ks => (if k = 14 then [.mk k nm num ty fr lb ks] else []) ++ A6o ks
def A6o : List Tm → List Tm
 | [] => []
 | t :: ts => A2v t ++ A6o ts
end
def A9t (label : Int) (x : Tm) : Bool := decide (x.lb = label)
def B67 (t : Tm) (label : Int) : Prop := ((A2v t).find? (A9t label) = none → (A4d t []).find? (pAt t label) = none) ∧ (∀ x, (A2v t).find? (A9t label) = some x → ∃ l, (A4d t []).find? (pAt t label) = some l ∧ tAt t l = some x)
def A9u (label : Int) : List Tm → List Ty
 | [] => []
 | c :: cs => (if c.lb = label then [c.fr, c.ty] else []) ++ A9u label cs
def B68 (t : Tm) (label : Int) : List Ty := if O3 t = true then A9u label (A2v t) else []
mutual
def A2Z : GT → GT → Bool
 | _, .any => true
 | .fn a b, .fn c d => A18 c a && A2Z b d
 | .pr a b, .pr c d => A2Z a c && A2Z b d
 | .int, .int => true
 | .bool, .bool => true
 | _, _ => false
termination_by a b => SizeOf.sizeOf a + SizeOf.sizeOf b
def A18 : GT → GT → Bool
 | .any, _ => true
 | .fn a b, .any => A2Z .any a && A18 b .any
 | .pr a b, .any => A18 a .any && A18 b .any
 | .int, .any => true
 | .bool, .any => true
 | .fn a b, .fn c d => A2Z c a && A18 b d
 | .pr a b, .pr c d => A18 a c && A18 b d
 | .int, .int => true
 | .bool, .bool => true
 | _, _ => false
termination_by a b => SizeOf.sizeOf a + SizeOf.sizeOf b
end
def GQ (Q : GT → GT → Int → Prop) : GE → Prop
 | .var _ => True
 | .num _ => True
 | .tru _ => True
 | .lam _ _ e => GQ Q e
 | .app f a => GQ Q f ∧ GQ Q a
 | .ar _ a b => GQ Q a ∧ GQ Q b
 | .ite c a b => GQ Q c ∧ GQ Q a ∧ GQ Q b
 | .pair a b => GQ Q a ∧ GQ Q b
 | .part _ e => GQ Q e
 | .cast A B l e => Q A B l ∧ GQ Q e
structure Clo (Q : GT → GT → Int → Prop) : Prop where
 fn : ∀ {a b c d l}, Q (.fn a b) (.fn c d) l → Q c a (-l) ∧ Q b d l
 pr : ∀ {a b c d l}, Q (.pr a b) (.pr c d) l → Q a c l ∧ Q b d l
 up : ∀ {A l}, A ≠ .any → Q A .any l → Q A.gr .any l ∧ Q A A.gr l
 down : ∀ {B l}, B ≠ .any → Q .any B l → Q B.gr B l ∧ Q .any B.gr l
def QL (m : Int) : GT → GT → Int → Prop := fun A B l => (l = m → A2Z A B = true) ∧ (l = -m → A18 A B = true)
mutual
def A2w : Tm → List Ty
 | .mk k _ _ ty _ _ ks => (if k = 5 ∨ k = 13 then [ty] else []) ++ A9v ks
def A9v : List Tm → List Ty
 | [] => []
 | t :: ts => A2w t ++ A9v ts
end
mutual
def A6p : Tm → List Ty → Tm
 | .mk k nm num ty fr lb ks, l => .mk k nm num (if k = 5 ∨ k = 13 then l.getD 0 A8 else ty) fr lb (A9w ks (if k = 5 ∨ k = 13 then l.drop 1 else l))
def A9w : List Tm → List Ty → List Tm
 | [], _ => []
 | t :: ts, l => A6p t l :: A9w ts (l.drop (A2w t).length)
end
def A9x (mask : Nat) : Nat → List Ty → List Ty
 | _, [] => []
 | i, t :: ts => (if (mask / 2 ^ i) % 2 = 1 then .mk 1 [] else t) :: A9x mask (i + 1) ts
def B4x (e : Tm) (mask : Nat) : Tm := A6p e (A9x mask 0 (A2w e))
def B4y (e : Tm) : List Tm := (List.range (2 ^ (A2w e).length)).map (B4x e)
section cap
variable {P : Program} {Γ : K6} {env : L6} {hp : List A4} {G : IM} {K : Po} {ops : Array Oper} {rest : List Oper}
end cap
def B69 (ts : List Ty) : IM → Value → List A4 → Prop := fun G' v outs => ∃ p c es, v = .slice p ts.length c ∧ outs = [.slc p c 25 2 ts.length es.flatten] ∧ E6 G' ts es
def RtP (u : Tm) (l : List Ty) : IM → Value → List A4 → Prop := fun G' v outs => outs = [] ∧ ∃ cu p c el, v = .tuple ⟨[.agg ⟨cu⟩, .slice p l.length c]⟩ ∧ A6 G' u cu ∧ C9 G' p l.length c 2 el ∧ E6 G' l el
section bits
variable {P : Program} {Γ : K6} {env : L6} {hp : List A4} {G : IM} {ty : TypeId}
end bits
section wr
variable {P : Program} {Γ : K6} {env : L6} {hp : List A4} {G : IM} {ty : TypeId} {K : Po} {ops : Array Oper} {rest : List Oper}
variable {pos : String} {af : Array Edge} {gd : Option (Nat × Bool)}
end wr
theorem A6q (G : IM) : B5 G (.mk 1 []) [.int .i64 1, .slice none 0 0] := by
 simp only [B5]; exact ⟨none, 0, [], rfl, ⟨by decide, by decide⟩, C9.nil G 2, by simp [E6]⟩
def B7a (e : Tm) : Option (List Tm) := if (A0B e).isSome = true ∧ (A2w e).length ≤ 6 then some (B4y e) else none
def CfP (r : Option (List Tm)) : IM → Value → List A4 → Prop := fun G' v outs => outs = [] ∧ ∃ p c es, v = .tuple ⟨[.slice p (r.getD []).length c, .bool r.isSome]⟩ ∧ C9 G' p (r.getD []).length c 9 es ∧ D2 G' (r.getD []) es
def MsP (r : Option (List Int)) (e : A4) (G : IM) : IM → Value → List A4 → Prop := fun G' v outs => outs = [e] ∧ ∃ p c, v = .tuple ⟨[.slice p (r.getD []).length c, .bool r.isSome]⟩ ∧ SP1 (C1 G' G) (r.getD []) p c
def IsP (l : List Int) (b : Bool) (G : IM) : IM → Value → List A4 → Prop := K5 fun G' v => ∃ p c, v = .tuple ⟨[.slice p l.length c, .bool b]⟩ ∧ SP1 (C1 G' G) l p c
theorem A6.nine {G : IM} {t : Tm} {cells : List Value} (h : A6 G t cells) : ∃ v1 v2 v3 v4 v5 v6 v7 v8 v9, cells = [v1, v2, v3, v4, v5, v6, v7, v8, v9] := by
 obtain ⟨_, _, _, _, _, _, _, _, _, rfl, _⟩ := h.open
 exact ⟨_, _, _, _, _, _, _, _, _, rfl⟩
theorem A3N {G : IM} {e : Tm} {ce : List Value} {k : Int} {nm : ByteArray} {tk : Int} {tks : List Ty} {q p : Option Addr} {d c : Nat} (hk : E3 k) (ht : B5 G (.mk tk tks) [.int .i64 tk, .slice q tks.length d]) (h1 : A6 G e ce) (hs : Sl G p 1 c 9 ce) :
  A6 G (.mk k nm 0 (.mk tk tks) A8 0 [e]) [.int .i64 k, .string nm, .int .i64 0, .int .i64 tk, .slice q tks.length d, .int .i64 0, .slice none 0 0, .int .i64 0, .slice p 1 c] := by
 obtain ⟨a1, a2⟩ := B2e h1 hs
 exact A6.of9 (ks := [e]) hk ⟨by omega, by omega⟩ ⟨by omega, by omega⟩ ht (N6 _ ⟨by omega, by omega⟩) a1 a2
theorem A3O {G : IM} {e f : Tm} {ce cf : List Value} {k : Int} {nm : ByteArray} {p : Option Addr} {c : Nat} (hk : E3 k) (h1 : A6 G e ce) (h2 : A6 G f cf) (hs : Sl G p 2 c 9 (ce ++ cf)) :
  A6 G (.mk k nm 0 A8 A8 0 [e, f]) [.int .i64 k, .string nm, .int .i64 0, .int .i64 0, .slice none 0 0, .int .i64 0, .slice none 0 0, .int .i64 0, .slice p 2 c] := by
 have hL : D2 G [e, f] [ce, cf] := by simp only [D2]; exact ⟨ce, [cf], rfl, h1, cf, [], rfl, h2, rfl⟩
 exact A6.of9 (ks := [e, f]) hk ⟨by omega, by omega⟩ ⟨by omega, by omega⟩ (N6 _ ⟨by omega, by omega⟩) (N6 _ ⟨by omega, by omega⟩)
  (C9.of (by simpa using hs) rfl hL.all (fun x hx => by obtain ⟨q, hq⟩ := List.getElem?_of_mem hx; exact (hL.inv hq D7).2.one)) hL
theorem B4z {G : IM} {e f g : Tm} {ce cf cg : List Value} {k : Int} {nm : ByteArray} {p : Option Addr} {c : Nat} (hk : E3 k) (h1 : A6 G e ce) (h2 : A6 G f cf) (h3 : A6 G g cg) (hs : Sl G p 3 c 9 (ce ++ (cf ++ cg))) :
  A6 G (.mk k nm 0 A8 A8 0 [e, f, g]) [.int .i64 k, .string nm, .int .i64 0, .int .i64 0, .slice none 0 0, .int .i64 0, .slice none 0 0, .int .i64 0, .slice p 3 c] := by
 have hL : D2 G [e, f, g] [ce, cf, cg] := by simp only [D2]; exact ⟨ce, [cf, cg], rfl, h1, cf, [cg], rfl, h2, cg, [], rfl, h3, rfl⟩
 exact A6.of9 (ks := [e, f, g]) hk ⟨by omega, by omega⟩ ⟨by omega, by omega⟩ (N6 _ ⟨by omega, by omega⟩) (N6 _ ⟨by omega, by omega⟩)
  (C9.of (by simpa using hs) rfl hL.all (fun x hx => by obtain ⟨q, hq⟩ := List.getElem?_of_mem hx; exact (hL.inv hq D7).2.one)) hL
def mB : Nat → Nat
 | 0 => 200
 | n + 1 => 3 * mB n + 200
theorem A1o (n : Nat) : 200 ≤ mB n := by cases n <;> simp only [mB] <;> omega
def A1p (n : Nat) (depth : Int) (t : Ty) : Prop := Q6 4 t ∧ (n : Int) - 1000 ≤ depth ∧ depth ≤ 1000 ∧ ((depth ≤ 1 ∧ Q6 n t) ∨ (2 ≤ depth ∧ depth + 3 ≤ n))
theorem A1p.sub {n : Nat} {depth : Int} {t t' : Ty} (h : A1p (n + 1) depth t) (hd : 1 < depth) (h4 : Q6 4 t') : A1p n (depth - 1) t' := by
 obtain ⟨h1, h2, h3, h5⟩ := h
 refine ⟨h4, by omega, by omega, ?_⟩
 rcases h5 with ⟨h5, _⟩ | ⟨h5, h6⟩
 ·omega
 ·by_cases h7 : 3 ≤ depth
  ·exact .inr ⟨by omega, by omega⟩
  ·exact .inl ⟨by omega, h4.le (by omega)⟩
theorem A1p.kid {n : Nat} {depth : Int} {k : Int} {ks : List Ty} {t' : Ty} (h : A1p (n + 1) depth (.mk k ks)) (ht : t' ∈ ks) : A1p n (depth - 1) t' := by
 have h4 : Q6 4 t' := (A5B h.1 ht).up
 by_cases hd : 1 < depth
 ·exact h.sub hd h4
 ·obtain ⟨h1, h2, h3, h5⟩ := h
  refine ⟨h4, by omega, by omega, .inl ⟨by omega, ?_⟩⟩
  rcases h5 with ⟨_, h5⟩ | ⟨h5, _⟩
  ·exact A5B h5 ht
  ·omega
theorem A1p.pos {n : Nat} {depth : Int} {k : Int} {ks : List Ty} (h : A1p n depth (.mk k ks)) (hd : 1 < depth ∨ k = 4 ∨ k = 5) : ∃ m, n = m + 1 := by
 cases n with
 | succ m => exact ⟨m, rfl⟩
 | zero =>
  obtain ⟨h1, h2, h3, h5⟩ := h
  rcases h5 with ⟨h5, h6⟩ | ⟨h5, h6⟩
  ·have := h6.2
   omega
  ·omega
theorem P8 : A8.small := by simp [A8, Ty.small, Ty.smallL]
theorem O1 {k : Int} {nm : ByteArray} {num : Int} (h : nm.size ≤ 1) : (Tm.mk k nm num A8 A8 0 []).small := by
 simp only [Tm.small, Tm.smallL]; exact ⟨by omega, P8, P8, by simp, trivial⟩
theorem K3 {k : Int} {nm : ByteArray} {num : Int} {ty : Ty} {a : Tm} (h : nm.size ≤ 1) (ht : ty.small) (ha : a.small) : (Tm.mk k nm num ty A8 0 [a]).small := by
 simp only [Tm.small, Tm.smallL]; exact ⟨by omega, ht, P8, by simp, ha, trivial⟩
theorem S1 {k : Int} {nm : ByteArray} {num : Int} {a b : Tm} (h : nm.size ≤ 1) (ha : a.small) (hb : b.small) : (Tm.mk k nm num A8 A8 0 [a, b]).small := by
 simp only [Tm.small, Tm.smallL]; exact ⟨by omega, P8, P8, by simp, ha, hb, trivial⟩
theorem A0v {k : Int} {nm : ByteArray} {num : Int} {a b c : Tm} (h : nm.size ≤ 1) (ha : a.small) (hb : b.small) (hc : c.small) : (Tm.mk k nm num A8 A8 0 [a, b, c]).small := by
 simp only [Tm.small, Tm.smallL]; exact ⟨by omega, P8, P8, by simp, ha, hb, hc, trivial⟩
theorem A0w : (Ty.mk 1 []).small := by simp [Ty.small, Ty.smallL]
def A9y (br : Nat) (pb : Option Addr) (nb cb : Nat) (bs : List UInt8) (n : Nat) : Prop := ∀ (depth : Int) (t : Ty) (p : Nat) (G : IM) (pc : Option Addr) (nc cc : Nat) (cells : List Value), A1p n depth t → (n : Int) - 1000 ≤ depth → depth ≤ 1000 → nc + n ≤ 40 → W4 G pc nc cc → B5 G t cells → Sl G pb nb cb 1 (N9 bs) → p + mB n < 1099511627776 →
 Fn Tryz.prog 151 [.pointer (some ⟨br, 0, none⟩), .slice pc nc cc, .agg ⟨cells⟩, .int .i64 depth] [rd br pb nb cb p] G
  (Y7 br pb nb cb p (mB n) (fun G' v => ∃ e cells, v = .agg ⟨cells⟩ ∧ A6 G' e cells ∧ e.small ∧ C6 e ≤ mB n))
theorem A9z (br : Nat) (pb : Option Addr) (nb cb : Nat) (bs : List UInt8) (hnb : nb ≤ 2000) (m : Nat) (hM : A9y br pb nb cb bs m) (depth : Int) (a t : Ty) (p : Nat) (G : IM) (pc : Option Addr) (nc cc : Nat) (ca cells : List Value)
  (hfu : A1p m depth t) (hd0 : (m : Int) - 1000 ≤ depth) (hd1 : depth ≤ 1000) (hnc : nc + 1 + m ≤ 40) (hx : W4 G pc nc cc) (hra : B5 G a ca) (haa : E4 a ∧ J8 a ≤ 30) (hrt : B5 G t cells) (hb : Sl G pb nb cb 1 (N9 bs)) (hp : p + 1 + mB m < 1099511627776) :
  Fn Tryz.prog 209 [.pointer (some ⟨br, 0, none⟩), .slice pc nc cc, .agg ⟨ca⟩, .agg ⟨cells⟩, .int .i64 depth] [rd br pb nb cb p] G
   (Y7 br pb nb cb p (1 + mB m) (fun G' v => ∃ e cells, v = .agg ⟨cells⟩ ∧ A6 G' e cells ∧ e.small ∧ C6 e ≤ 1 + mB m)) := by
 obtain ⟨ak, aks⟩ := a
 obtain ⟨tk, tks⟩ := t
 obtain ⟨pa, cca, ea, rfl, _⟩ := hra.open
 obtain ⟨pt, cct, et, rfl, _⟩ := hrt.open
 simp only [Ty.k, Ty.ks] at hra hrt ⊢
 refine B3 Tryz.func209 rfl Tryz.ntmps209 Tryz.results209 rfl ?_
 intro w0
 refine tS (tR ?_)
 refine sE (C0 rfl rfl) rfl (fun b3 => ?_)
 refine sE (C0 rfl rfl) rfl (fun b4 => ?_)
 refine sE (A7 rfl) rfl (fun b5 => ?_)
 refine sD (nS (tS (tR (sQ (qM rfl) rfl ?_))))
 (refine L4 (C8 rfl rfl rfl (by omega) (by unfold maxLen; omega) rfl) rfl ?_; rintro _ ⟨b11, rfl⟩)
 (refine T8 (by repeat (first | exact Pk.here | apply Pk.there)) (fun G4 hle4 hsl4 _ => ?_); refine H4 rfl (A5K G4 br pb nb cb p bs _ _ _ _ (hb.mono hle4) hnb (by omega) hsl4 (by decide)) (Pk.perm (by repeat (first | exact Pk.here | apply Pk.there))) rfl rfl (fun v G5 outs hle5 hh => ?_); obtain ⟨rfl, rfl, hv⟩ := hh; obtain ⟨nm, rfl, hnm⟩ : ∃ nm : ByteArray, v = .string nm ∧ nm.size ≤ 1 := (by simp only [List.mem_cons, List.not_mem_nil, or_false] at hv; rcases hv with rfl | rfl | rfl | rfl <;> exact ⟨_, rfl, by decide⟩); replace hra := hra.mono hle4; replace hx := hx.mono hle4; replace hb := hb.mono hle4; replace hrt := hrt.mono hle4;)
 refine sQ (qA rfl) rfl (sD (nS (tS ?_)))
 refine D5 D6 rfl ?_
 refine I3 (i := 0) (l' := [tt,ff,ff,ff,ff,ff,ff,ff,ff,ff,ff,ff,ff,ff]) rfl D1 (qM rfl) rfl (by kernel_rfl) rfl rfl ?_
 refine aL 1 rfl (A1 rfl rfl) rfl ?_
 refine aP 3 rfl (qM rfl) rfl ?_
 refine aP 4 rfl (qM rfl) rfl ?_
 refine aP 5 rfl (qM rfl) rfl ?_
 refine aL 6 rfl (A1 rfl rfl) rfl ?_
 refine aL 8 rfl (A1 rfl rfl) rfl ?_
 refine aP 9 rfl (qM rfl) rfl ?_
 refine A2 2 ?_
 (refine I9 rfl rfl (V4 _ _ _ haa.1.small hra) rfl rfl rfl (fun v G6 hle6 hh => ?_); obtain ⟨S6, F1, rfl, hs1, hn1⟩ := hh; obtain ⟨p1, c1, rfl, _⟩ := hs1.open; have hr1 := hs1.R.mono (C1.le G6 _); replace hra := hra.mono hle6; replace hx := hx.mono hle6; replace hb := hb.mono hle6; replace hrt := hrt.mono hle6;)
 refine A2 7 ?_
 (refine I9 rfl rfl (B17 _ pc nc cc nm (.mk ak aks) _ hx (by omega) hra haa.1 haa.2 hnm) rfl rfl rfl (fun v G7 hle7 hh => ?_); obtain ⟨pm, cm, rfl, hxm⟩ := hh; replace hr1 := hr1.mono hle7; replace hx := hx.mono hle7; replace hb := hb.mono hle7; replace hrt := hrt.mono hle7; have hcall := hM depth (.mk tk tks) (p + 1) _ pm (nc + 1) cm _ hfu hd0 hd1 (by omega) hxm hrt hb (by omega))
 refine A2 10 ?_
 (refine X8 (l' := [tt,tt,tt,tt,tt,tt,tt,tt,tt,tt,tt,ff,ff,ff]) rfl rfl hcall (Pk.perm (by repeat (first | exact Pk.here | apply Pk.there))) rfl rfl rfl (by repeat (first | exact A5.nil | apply A5.dep (by decide +kernel) | apply A5.blk (by decide +kernel) (by repeat (first | exact Pk.here | apply Pk.there)) (by repeat first | exact mH | apply mT))) (fun v G8 outs hle8 hh => ?_); obtain ⟨p8, hp81, hp82, rfl, e8, c8, rfl, hr8, hs8, hc8⟩ := hh; obtain ⟨a1, a2, a3, a4, a5, a6, a7, a8, a9, rfl⟩ := hr8.nine; replace hr1 := hr1.mono hle8)
 refine A2 11 ?_
 (refine E1 rfl (C8 rfl rfl rfl (by omega) (by unfold maxLen; omega) rfl) rfl rfl ?_; rintro _ ⟨b33, rfl⟩)
 refine aP 12 rfl (T3 rfl rfl) rfl ?_
 refine A2 13 ?_
 refine Q4 rfl rfl rfl rfl rfl rfl rfl rfl (by decide +kernel) (by repeat first | exact Sw.here | apply Sw.there) (by rfl) ?_
 refine C2 (nS ?_)
 (refine H5 (cs := [a1, a2, a3, a4, a5, a6, a7, a8, a9]) (by repeat (first | exact Pk.here | apply Pk.there)) (fun G9 hle9 hsl9 hno9 => ?_); have hN := A3N (k := 5) (nm := nm) ⟨by omega, by omega⟩ (hr1.mono hle9) (hr8.mono hle9) hsl9)
 refine tT ?_
 refine F8 (outs := [rd br pb nb cb p8]) (rC rfl (A1 rfl rfl)) (by repeat (first | exact A0.nil | refine A0.cons Pk.here ?_ | refine A0.cons (Pk.there Pk.here) ?_ | refine A0.cons (Pk.there (Pk.there Pk.here)) ?_ | apply A0.drop)) ?_
 (exact ⟨p8, by omega, by omega, rfl, _, _, rfl, hN, K3 hnm haa.1.small hs8, by simp only [C6, D4]; omega⟩)
structure A3P {ι : Type} (S : ι → Sy) (φ : ι → Prop) (K : Po) (e : Exit) (σ : Sy) : Prop where
 run : match e with
  | .normal => ∃ i, φ i ∧ Sub σ (S i)
  | e => K e σ
section cut
variable {P : Program} {Γ : K6} {K : Po} {σ : Sy} {ι : Type}
theorem A9A {c y : Code} (S : ι → Sy) (φ : ι → Prop) (h : I2 P Γ c (A3P S φ K) σ) (k : ∀ i, φ i → I2 P Γ y K (S i)) : I2 P Γ c (A0O P Γ y K) σ := by
 refine A49 h ?_
 rintro e σ ⟨hk⟩
 cases e with
 | normal => obtain ⟨i, hi, hs⟩ := hk; exact ⟨A6A hs (k i hi)⟩
 | _ => exact ⟨hk⟩
theorem A3Q {S : ι → Sy} {φ : ι → Prop} {σ : Sy} (i : ι) (hs : Sub σ (S i)) (h : φ i) : A3P S φ K .normal σ := ⟨⟨i, h, hs⟩⟩
theorem A0M {S : ι → Sy} {φ : ι → Prop} {σ : Sy} (h : K .ret σ) : A3P S φ K .ret σ := ⟨h⟩
theorem B4A {S : ι → Sy} {φ : ι → Prop} (h : Y3 K) : Y3 (A3P S φ K) := fun c σ hk => h c σ hk.run
instance npC6 {S : ι → Sy} {φ : ι → Prop} [h : NpC K] : NpC (A3P S φ K) := ⟨B4A h.h⟩
end cut
theorem A19 (G : IM) (nm : ByteArray) (num : Int) {k : Int} (hk : E3 k) (hn : E3 num) : A6 G (.mk k nm num A8 A8 0 []) [.int .i64 k, .string nm, .int .i64 num, .int .i64 0, .slice none 0 0, .int .i64 0, .slice none 0 0, .int .i64 0, .slice none 0 0] := A1g hk hn
theorem B5.kidsM {G : IM} {k : Int} {ks : List Ty} {q : Option Addr} {c : Nat} (h : B5 G (.mk k ks) [.int .i64 k, .slice q ks.length c]) : ∃ es, C9 G q ks.length c 2 es ∧ E6 G ks es := by
 obtain ⟨q', c', es, he, _, h1, h2⟩ := h.open
 cases he
 exact ⟨es, h1, h2⟩
theorem B4B (br : Nat) (pb : Option Addr) (nb cb : Nat) (bs : List UInt8) (hnb : nb ≤ 2000) : ∀ n, A9y br pb nb cb bs n := by
 refine fun n => Nat.strongRecOn n fun n ih depth t p G pc nc cc cells hfu hd0 hd1 hnc hx hrt hb hp => ?_
 have hge := A1o n
 have har := hfu.1.ar
 have hszt := A4k hfu.1
 have hnn := A0X t
 have hncl := hx.le
 obtain ⟨k, ks⟩ := t
 obtain ⟨q, c, es, rfl, hk, _, _⟩ := hrt.open
 simp only [Ty.k, Ty.ks] at hk hrt ⊢
 have hsz30 : J8 (.mk k ks) ≤ 30 := hszt
 have hops : k = 4 ∨ k = 5 → ks.length = 2 := by have h2 := har; rw [E4] at h2; exact h2.1
 refine B3 Tryz.func151 rfl Tryz.ntmps151 Tryz.results151 rfl ?_
 intro w0
 refine tS (tR ?_)
 refine sE (C0 rfl rfl) rfl (fun b3 => ?_)
 refine sE (A7 rfl) rfl (fun b4 => ?_)
 refine C4 ?_
 refine sP (P0 rfl rfl (by omega) (by omega)) rfl rfl ?_
 refine sQ (qA rfl) rfl (sD (nS ?_))
 refine B7 ?_
 (refine L3 (fun (x : Nat × Nat × IM) => ⟨(9, .int .i64 ((x.1 : Int) - 1)) :: [(0, .pointer (some ⟨br, 0, none⟩)), (1, .slice pc nc cc), (3, .int .i64 depth), (6, .pointer (some ⟨b3, 0, none⟩)), (8, .pointer (some ⟨b4, 0, none⟩))], [rd br pb nb cb x.2.1, .blk b4 [.int .i64 0, .string ⟨⟨[]⟩⟩, .int .i64 0, .int .i64 0, .slice none 0 0, .int .i64 0, .slice none 0 0, .int .i64 0, .slice none 0 0], .blk b3 [.int .i64 k, .slice q ks.length c]], x.2.2⟩) (fun x => x.1 ≤ nc ∧ B6 G x.2.2 ∧ p ≤ x.2.1 ∧ x.2.1 + x.1 ≤ p + nc) (fun x => x.1) (nc, p, G) ?_ ?_ ?_)
 (simp only [I6]; exact D3)
 (exact ⟨Nat.le_refl _, B6.refl _, Nat.le_refl _, Nat.le_refl _⟩)
 (rintro ⟨(i : Nat), (p1 : Nat), G1⟩ ⟨hi, hleL, hpL, hpL2⟩; simp only [] at hi hleL hpL hpL2 ⊢; replace hx := hx.mono hleL; replace hb := hb.mono hleL; replace hrt := hrt.mono hleL;)
 refine tS (tS (tR (sQ (qM rfl) rfl ?_)))
 refine sB (A0R rfl rfl) rfl rfl (fun h25 => ?_) (fun h25 => ?_)
 refine sD (nS (qT rfl (tK (nS (tS ?_)))))
 (show I2 _ _ (.block 1 ..) _ _; obtain ⟨j, rfl⟩ : ∃ j, i = j + 1 := ⟨i - 1, by omega⟩; rw [show ((j + 1 : Nat) : Int) - 1 = (j : Int) from by omega]; obtain ⟨b, o, nm1, t1, qq1, dd1, rfl, hat, hr1, ha1, hs1, hgb, hns1⟩ := hx.get (i := j) (by omega); refine B7 ?_)
 refine Q3 ?_
 refine sP (B2 (j := j) rfl rfl rfl (by omega)) rfl rfl ?_
 refine sQ (qF rfl) rfl ?_
 refine sL (A0h rfl rfl ((hat _).sub (j := 0) rfl)) rfl rfl ?_
 (refine E5 rfl (B16 _ _ nc cc nm1 hx) rfl rfl (fun v G2 hle2 hh => ?_); obtain ⟨ts, tcs, xs, rfl, hrs, has, hss⟩ := hh; obtain ⟨ps, cs, ess, rfl, _⟩ := hrs.open; obtain ⟨b, o, nm1, t1, qq1, dd1, hpp, hat, hr1, ha1, hs1, hgb, hns1⟩ := (hx.mono hle2).get (i := j) (by omega); cases hpp; replace hx := hx.mono hle2; replace hb := hb.mono hle2; replace hrt := hrt.mono hle2;)
 refine L9 ?_
 refine sE (A7 rfl) rfl (fun b45 => ?_)
 refine C4 ?_
 (have hinloop := hrs; refine H4 rfl (W3 _ br pb nb cb (p1) bs 3 hb hnb (by omega)) (Pk.perm (by repeat (first | exact Pk.here | apply Pk.there))) rfl rfl (fun v Gp outs hle53 hh => ?_); obtain ⟨rfl, rfl, j53, rfl, hj53, hk53⟩ := hh; have hinl := hj53)
 replace hrs := hrs.mono hle53
 replace hr1 := hr1.mono hle53
 replace hb := hb.mono hle53
 replace hrt := hrt.mono hle53
 replace hinloop := hinloop.mono hle53
 refine sB (qE rfl rfl) rfl rfl (fun h54 => ?_) (fun h54 => ?_)
 refine sQ (qM rfl) rfl (sL (A1 rfl rfl) rfl rfl ?_)
 refine E2 rfl ((A1S ts _ _ hrs)) rfl rfl (fun h57 => ?_) (fun h57 => ?_)
 refine H1 ?_
 refine E2 rfl ((A1E ts (.mk k ks) _ _ _ has har hrs hrt)) rfl rfl (fun h62 => ?_) (fun h62 => ?_)
 refine D8 ?_
 refine sP (B2 (j := j) rfl rfl rfl (by omega)) rfl rfl ?_
 refine sQ (qF rfl) rfl ?_
 refine sL (A0h rfl rfl ((hat _).sub (j := 0) rfl)) rfl rfl ?_
 refine I7 ?_
 refine F8 (outs := [rd br pb nb cb (p1 + 1)]) (rC rfl (A1 rfl rfl)) (by repeat (first | exact A0.nil | refine A0.cons Pk.here ?_ | refine A0.cons (Pk.there Pk.here) ?_ | refine A0.cons (Pk.there (Pk.there Pk.here)) ?_ | apply A0.drop)) ?_
 (exact ⟨(p1 + 1), by omega, by omega, rfl, _, _, rfl, A19 _ _ _ ⟨by omega, by omega⟩ (by first | exact ⟨by omega, by omega⟩ | exact hkn), by first | exact O1 (by first | assumption | decide) | exact A0v (by decide) (by assumption) (by assumption) (by assumption) | exact S1 (by decide) (by assumption) (by assumption) | exact K3 (by decide) P8 (by assumption) | exact K3 (by decide) har.small (by assumption) | exact K3 (by decide) P8 (S1 (by decide) (by assumption) (O1 (by decide))) | exact K3 (by decide) A0w (O1 (by decide)) | assumption, by simp only [C6, D4]; omega⟩)
 refine D9 ?_
 refine sP (P0 rfl rfl (by omega) (by omega)) rfl rfl ?_
 refine sQ (qA rfl) rfl (sD ?_)
 (have hinloop := hrs; refine K7 (j, p1 + 1, Gp) ?_ ?_ ?_)
 (simp only [I6]; exact D3)
 (dsimp only; exact ⟨by omega, hleL.trans hle2, by omega, by omega⟩)
 (show _ < _ + 1; omega)
 refine L5 ?_
 refine sP (P0 rfl rfl (by omega) (by omega)) rfl rfl ?_
 refine sQ (qA rfl) rfl (sD ?_)
 (have hinloop := hrs; refine K7 (j, p1 + 1, Gp) ?_ ?_ ?_)
 (simp only [I6]; exact D3)
 (dsimp only; exact ⟨by omega, hleL.trans hle2, by omega, by omega⟩)
 (show _ < _ + 1; omega)
 refine V2 ?_
 refine sP (P0 rfl rfl (by omega) (by omega)) rfl rfl ?_
 refine sQ (qA rfl) rfl (sD ?_)
 (have hinloop := hrs; refine K7 (j, p1 + 1, Gp) ?_ ?_ ?_)
 (simp only [I6]; exact D3)
 (dsimp only; exact ⟨by omega, hleL.trans hle2, by omega, by omega⟩)
 (show _ < _ + 1; omega)
 refine I7 ?_
 (show I2 _ _ (.region 7 ..) _ _; refine A0c (fun (x : Bool) => ⟨(49, .bool x) :: [(0, .pointer (some ⟨br, 0, none⟩)), (1, .slice pc nc cc), (3, .int .i64 depth), (6, .pointer (some ⟨b3, 0, none⟩)), (8, .pointer (some ⟨b4, 0, none⟩))], [rd br pb nb cb p1, .blk b4 [.int .i64 0, .string ⟨⟨[]⟩⟩, .int .i64 0, .int .i64 0, .slice none 0 0, .int .i64 0, .slice none 0 0, .int .i64 0, .slice none 0 0], .blk b3 [.int .i64 k, .slice q ks.length c]], G1⟩) (fun x => x = true → 1 < depth) ?_ ?_)
 refine tR (sQ (qM rfl) rfl ?_)
 refine sB (Y6 rfl rfl) rfl rfl (fun h160 => ?_) (fun h160 => ?_)
 refine sD ?_
 refine Q0 true (O2 (by repeat (first | exact E7.nil | refine E7.cons rfl ?_)) (by repeat (first | exact A0.refl | exact A0.nil | refine A0.cons (by repeat (first | exact Pk.here | apply Pk.there)) ?_ | apply A0.drop))) (fun _ => by omega)
 refine sD ?_
 refine Q0 false (O2 (by repeat (first | exact E7.nil | refine E7.cons rfl ?_)) (by repeat (first | exact A0.refl | exact A0.nil | refine A0.cons (by repeat (first | exact Pk.here | apply Pk.there)) ?_ | apply A0.drop))) (fun h => absurd h (by decide))
 (rintro (x49 : Bool) hx49)
 (show I2 _ _ (.cond (.tmp 49) _ _) _ _; refine A9A (fun (x : Nat × IM) => ⟨[(0, .pointer (some ⟨br, 0, none⟩)), (1, .slice pc nc cc), (3, .int .i64 depth), (6, .pointer (some ⟨b3, 0, none⟩)), (8, .pointer (some ⟨b4, 0, none⟩))], [rd br pb nb cb x.1, .blk b4 [.int .i64 0, .string ⟨⟨[]⟩⟩, .int .i64 0, .int .i64 0, .slice none 0 0, .int .i64 0, .slice none 0 0, .int .i64 0, .slice none 0 0], .blk b3 [.int .i64 k, .slice q ks.length c]], x.2⟩) (fun x => B6 G1 x.2 ∧ p1 ≤ x.1 ∧ x.1 ≤ p1 + 1) (A3S rfl (fun hxt => ?_) (fun hxf => ?_)) ?_)
 refine tS (tR (sQ (qM rfl) rfl ?_))
 (have hx49b := hx49 hxt; refine H4 rfl (W3 _ br pb nb cb (p1) bs 9 hb hnb (by omega)) (Pk.perm (by repeat (first | exact Pk.here | apply Pk.there))) rfl rfl (fun v Gp outs hle170 hh => ?_); obtain ⟨rfl, rfl, j170, rfl, hj170, hk170⟩ := hh; have hpk9 := hj170)
 replace hb := hb.mono hle170
 replace hrt := hrt.mono hle170
 refine sD (nS ?_)
 refine B7 (tS (tR (sB (qE rfl rfl) rfl rfl (fun h176 => ?_) (fun h176 => ?_))))
 refine sQ (qA rfl) rfl (sD (nS (qT rfl (tS ?_))))
 (obtain ⟨m, rfl⟩ := hfu.pos (.inl (by omega)); have hmB : mB (m + 1) = 3 * mB m + 200 := rfl; have hgm := A1o m; refine D5 D6 rfl ?_)
 refine O9 (i := 0) (l' := [tt,ff,ff,ff,ff,ff,ff,ff,ff,ff,ff,ff,ff]) rfl D1 (A1 rfl rfl) rfl (by kernel_rfl) rfl rfl ?_
 refine aP 2 rfl (qM rfl) rfl ?_
 refine aP 3 rfl (qM rfl) rfl ?_
 refine aP 4 rfl (qM rfl) rfl ?_
 refine aL 5 rfl (A1 rfl rfl) rfl ?_
 refine aP 7 rfl (qM rfl) rfl ?_
 refine aP 8 rfl (P0 rfl rfl (by omega) (by omega)) rfl ?_
 refine A2 1 ?_
 (refine I9 rfl rfl (V4 _ _ _ har.small hrt) rfl rfl rfl (fun v G6 hle6 hh => ?_); obtain ⟨S6, F1, rfl, hs1, hn1⟩ := hh; obtain ⟨pz, cz, rfl, _⟩ := hs1.open; have hrz := hs1.R.mono (C1.le G6 _); replace hx := hx.mono hle6; replace hb := hb.mono hle6; replace hrt := hrt.mono hle6;)
 refine A2 6 ?_
 (have hcall := A5Q br pb nb cb bs hnb (.mk k ks) (p1 + 1) _ _ har hrt hb (by omega); refine X8 (l' := [tt,tt,tt,tt,tt,tt,tt,tt,tt,ff,ff,ff,ff]) rfl rfl hcall (Pk.perm (by repeat (first | exact Pk.here | apply Pk.there))) rfl rfl rfl (by repeat (first | exact A5.nil | apply A5.dep (by decide +kernel) | apply A5.im (by decide +kernel) hg0 (by repeat first | exact mH | apply mT) | apply A5.im (by decide +kernel) hg1 (by repeat first | exact mH | apply mT) | apply A5.blk (by decide +kernel) (by repeat (first | exact Pk.here | apply Pk.there)) (by repeat first | exact mH | apply mT))) (fun v Gn outs hleA hh => ?_); obtain ⟨pA, hpA1, hpA2, rfl, uA, cuA, rfl, hruA, huaA, husA, huhA⟩ := hh; obtain ⟨quA, duA, euA, rfl, _⟩ := hruA.open; replace hrz := hrz.mono hleA; replace hx := hx.mono hleA; replace hb := hb.mono hleA; replace hrt := hrt.mono hleA;)
 refine A2 9 ?_
 (have hcall := ih m (by omega) (depth - 1) uA pA _ pc nc cc _ (hfu.sub (by omega) (huhA 4 hfu.1)) (by omega) (by omega) (by omega) hx hruA hb (by omega); refine X8 (l' := [tt,tt,tt,tt,tt,tt,tt,tt,tt,tt,ff,ff,ff]) rfl rfl hcall (Pk.perm (by repeat (first | exact Pk.here | apply Pk.there))) rfl rfl rfl (by repeat (first | exact A5.nil | apply A5.dep (by decide +kernel) | apply A5.im (by decide +kernel) hg0 (by repeat first | exact mH | apply mT) | apply A5.im (by decide +kernel) hg1 (by repeat first | exact mH | apply mT) | apply A5.blk (by decide +kernel) (by repeat (first | exact Pk.here | apply Pk.there)) (by repeat first | exact mH | apply mT))) (fun v Gn outs hlea hh => ?_); obtain ⟨pa, hpa1, hpa2, rfl, ea, ca, rfl, hra, hsma, hca⟩ := hh; obtain ⟨a1, a2, a3, a4, a5, a6, a7, a8, a9, rfl⟩ := hra.nine; replace hrz := hrz.mono hlea; replace hx := hx.mono hlea; replace hb := hb.mono hlea; replace hrt := hrt.mono hlea;)
 refine A2 10 ?_
 (refine E1 rfl (C8 rfl rfl rfl (by omega) (by unfold maxLen; omega) rfl) rfl rfl ?_; rintro _ ⟨b197, rfl⟩)
 refine aP 11 rfl (T3 rfl rfl) rfl ?_
 refine A2 12 ?_
 refine Q4 rfl rfl rfl rfl rfl rfl rfl rfl (by decide +kernel) (by repeat first | exact Sw.here | apply Sw.there) (by rfl) ?_
 refine C2 (nS ?_)
 (refine H5 (cs := [a1, a2, a3, a4, a5, a6, a7, a8, a9]) (by repeat (first | exact Pk.here | apply Pk.there)) (fun G9 hle9 hsl9 hno9 => ?_); have hN := A3N (k := 13) (nm := ⟨⟨[]⟩⟩) ⟨by omega, by omega⟩ (hrz.mono hle9) (hra.mono hle9) hsl9)
 refine tT (rB ?_)
 refine A0M ?_
 refine F8 (outs := [rd br pb nb cb pa]) (rC rfl (A1 rfl rfl)) (by repeat (first | exact A0.nil | refine A0.cons Pk.here ?_ | refine A0.cons (Pk.there Pk.here) ?_ | refine A0.cons (Pk.there (Pk.there Pk.here)) ?_ | apply A0.drop)) ?_
 (exact ⟨pa, by omega, by omega, rfl, _, _, rfl, hN, by first | exact O1 (by first | assumption | decide) | exact A0v (by decide) (by assumption) (by assumption) (by assumption) | exact S1 (by decide) (by assumption) (by assumption) | exact K3 (by decide) P8 (by assumption) | exact K3 (by decide) har.small (by assumption) | exact K3 (by decide) P8 (S1 (by decide) (by assumption) (O1 (by decide))) | exact K3 (by decide) A0w (O1 (by decide)) | assumption, by simp only [C6, D4]; omega⟩)
 refine sQ (qA rfl) rfl (sD (nS (cF rfl (tS (tR ?_)))))
 refine sB (qE rfl rfl) rfl rfl (fun h215 => ?_) (fun h215 => ?_)
 refine sQ (qA rfl) rfl (sD (nS (qT rfl (tS ?_))))
 (obtain ⟨m, rfl⟩ := hfu.pos (.inl (by omega)); have hmB : mB (m + 1) = 3 * mB m + 200 := rfl; have hgm := A1o m; refine D5 D6 rfl ?_)
 refine I3 (i := 0) (l' := [tt,ff,ff,ff,ff,ff,ff,ff,ff,ff,ff,ff,ff,ff,ff,ff,ff,ff,ff,ff,ff]) rfl D1 (qM rfl) rfl (by kernel_rfl) rfl rfl ?_
 refine aP 1 rfl (qM rfl) rfl ?_
 refine aP 3 rfl (qM rfl) rfl ?_
 refine aP 4 rfl (P0 rfl rfl (by omega) (by omega)) rfl ?_
 refine aP 6 rfl (qM rfl) rfl ?_
 refine aP 7 rfl (qM rfl) rfl ?_
 refine aL 8 rfl (A1 rfl rfl) rfl ?_
 refine aP 9 rfl (qM rfl) rfl ?_
 refine aP 10 rfl (P0 rfl rfl (by omega) (by omega)) rfl ?_
 refine aP 12 rfl (qM rfl) rfl ?_
 refine aP 13 rfl (qM rfl) rfl ?_
 refine aL 14 rfl (A1 rfl rfl) rfl ?_
 refine aP 15 rfl (qM rfl) rfl ?_
 refine aP 16 rfl (P0 rfl rfl (by omega) (by omega)) rfl ?_
 refine A2 2 ?_
 refine O5 rfl rfl ((A3y _)) rfl rfl rfl ?_
 refine A2 5 ?_
 (have hcall := ih m (by omega) (depth - 1) (.mk 3 []) (p1 + 1) _ pc nc cc _ (hfu.sub (by omega) (A2J 4 (by decide) (by decide))) (by omega) (by omega) (by omega) hx (N6 _ ⟨by omega, by omega⟩) hb (by omega); refine X8 (l' := [tt,tt,tt,tt,tt,tt,tt,tt,tt,tt,tt,ff,tt,tt,tt,tt,tt,ff,ff,ff,ff]) rfl rfl hcall (Pk.perm (by repeat (first | exact Pk.here | apply Pk.there))) rfl rfl rfl (by repeat (first | exact A5.nil | apply A5.dep (by decide +kernel) | apply A5.im (by decide +kernel) hg0 (by repeat first | exact mH | apply mT) | apply A5.im (by decide +kernel) hg1 (by repeat first | exact mH | apply mT) | apply A5.blk (by decide +kernel) (by repeat (first | exact Pk.here | apply Pk.there)) (by repeat first | exact mH | apply mT))) (fun v Gn outs hlef hh => ?_); obtain ⟨pf, hpf1, hpf2, rfl, ef, cf, rfl, hrf, hsmf, hcf⟩ := hh; obtain ⟨f1, f2, f3, f4, f5, f6, f7, f8, f9, rfl⟩ := hrf.nine; replace hx := hx.mono hlef; replace hb := hb.mono hlef; replace hrt := hrt.mono hlef;)
 refine A2 11 ?_
 (have hcall := ih m (by omega) (depth - 1) (.mk k ks) pf _ pc nc cc _ (hfu.sub (by omega) hfu.1) (by omega) (by omega) (by omega) hx hrt hb (by omega); refine X8 (l' := [tt,tt,tt,tt,tt,tt,tt,tt,tt,tt,tt,tt,tt,tt,tt,tt,tt,ff,ff,ff,ff]) rfl rfl hcall (Pk.perm (by repeat (first | exact Pk.here | apply Pk.there))) rfl rfl rfl (by repeat (first | exact A5.nil | apply A5.dep (by decide +kernel) | apply A5.im (by decide +kernel) hg0 (by repeat first | exact mH | apply mT) | apply A5.im (by decide +kernel) hg1 (by repeat first | exact mH | apply mT) | apply A5.blk (by decide +kernel) (by repeat (first | exact Pk.here | apply Pk.there)) (by repeat first | exact mH | apply mT))) (fun v Gn outs hleg hh => ?_); obtain ⟨pg, hpg1, hpg2, rfl, eg, cg, rfl, hrg, hsmg, hcg⟩ := hh; obtain ⟨g1, g2, g3, g4, g5, g6, g7, g8, g9, rfl⟩ := hrg.nine; replace hrf := hrf.mono hleg; replace hx := hx.mono hleg; replace hb := hb.mono hleg; replace hrt := hrt.mono hleg;)
 refine A2 17 ?_
 (have hcall := ih m (by omega) (depth - 1) (.mk k ks) pg _ pc nc cc _ (hfu.sub (by omega) hfu.1) (by omega) (by omega) (by omega) hx hrt hb (by omega); refine X8 (l' := [tt,tt,tt,tt,tt,tt,tt,tt,tt,tt,tt,tt,tt,tt,tt,tt,tt,tt,ff,ff,ff]) rfl rfl hcall (Pk.perm (by repeat (first | exact Pk.here | apply Pk.there))) rfl rfl rfl (by repeat (first | exact A5.nil | apply A5.dep (by decide +kernel) | apply A5.im (by decide +kernel) hg0 (by repeat first | exact mH | apply mT) | apply A5.im (by decide +kernel) hg1 (by repeat first | exact mH | apply mT) | apply A5.blk (by decide +kernel) (by repeat (first | exact Pk.here | apply Pk.there)) (by repeat first | exact mH | apply mT))) (fun v Gn outs hlei hh => ?_); obtain ⟨pi, hpi1, hpi2, rfl, ei, ci, rfl, hri, hsmi, hci⟩ := hh; obtain ⟨i1, i2, i3, i4, i5, i6, i7, i8, i9, rfl⟩ := hri.nine; replace hrf := hrf.mono hlei; replace hrg := hrg.mono hlei; replace hx := hx.mono hlei; replace hb := hb.mono hlei; replace hrt := hrt.mono hlei;)
 refine A2 18 ?_
 (refine E1 rfl (C8 rfl rfl rfl (by omega) (by unfold maxLen; omega) rfl) rfl rfl ?_; rintro _ ⟨b245, rfl⟩)
 refine A2 19 ?_
 refine O5 rfl rfl ((A2k _ _ _ _ _)) rfl rfl rfl ?_
 refine A2 20 ?_
 refine Q4 rfl rfl rfl rfl rfl rfl rfl rfl (by decide +kernel) (by repeat first | exact Sw.here | apply Sw.there) (by rfl) ?_
 refine C2 (nS ?_)
 (refine H5 (cs := [f1, f2, f3, f4, f5, f6, f7, f8, f9] ++ ([g1, g2, g3, g4, g5, g6, g7, g8, g9] ++ [i1, i2, i3, i4, i5, i6, i7, i8, i9])) (by repeat (first | exact Pk.here | apply Pk.there)) (fun G9 hle9 hsl9 hno9 => ?_); have hN := B4z (k := 9) (nm := ⟨⟨[]⟩⟩) ⟨by omega, by omega⟩ (hrf.mono hle9) (hrg.mono hle9) (hri.mono hle9) hsl9)
 refine tT (rB ?_)
 refine A0M ?_
 refine F8 (outs := [rd br pb nb cb pi]) (rC rfl (A1 rfl rfl)) (by repeat (first | exact A0.nil | refine A0.cons Pk.here ?_ | refine A0.cons (Pk.there Pk.here) ?_ | refine A0.cons (Pk.there (Pk.there Pk.here)) ?_ | apply A0.drop)) ?_
 (exact ⟨pi, by omega, by omega, rfl, _, _, rfl, hN, by first | exact O1 (by first | assumption | decide) | exact A0v (by decide) (by assumption) (by assumption) (by assumption) | exact S1 (by decide) (by assumption) (by assumption) | exact K3 (by decide) P8 (by assumption) | exact K3 (by decide) har.small (by assumption) | exact K3 (by decide) P8 (S1 (by decide) (by assumption) (O1 (by decide))) | exact K3 (by decide) A0w (O1 (by decide)) | assumption, by simp only [C6, D4]; omega⟩)
 refine sQ (qA rfl) rfl (sD (nS (cF rfl (tS (tR ?_)))))
 refine sB (qE rfl rfl) rfl rfl (fun h264 => ?_) (fun h264 => ?_)
 refine C4 ?_
 (have hcall := A3w br pb nb cb bs hnb 0 (p1 + 1) _ (by omega) hb (by have : dB (0 + 1) ≤ 6 := (by decide); omega); refine H4 rfl hcall (Pk.perm (by repeat (first | exact Pk.here | apply Pk.there))) rfl rfl (fun v Gn outs hleD hh => ?_); obtain ⟨pD, hpD1, hpD2, rfl, uD, cuD, rfl, hruD, husD, huhD⟩ := hh; have huaD := huhD.ar; obtain ⟨quD, duD, euD, rfl, _⟩ := hruD.open; have hdBD : dB (0 + 1) ≤ 6 := (by decide); replace hx := hx.mono hleD; replace hb := hb.mono hleD; replace hrt := hrt.mono hleD;)
 refine sE (A7 rfl) rfl (fun b273 => ?_)
 refine F4 ?_
 refine sD (nS (tS ?_))
 (obtain ⟨m, rfl⟩ := hfu.pos (.inl (by omega)); have hmB : mB (m + 1) = 3 * mB m + 200 := rfl; have hgm := A1o m; refine D5 D6 rfl ?_)
 refine I3 (i := 0) (l' := [tt,ff,ff,ff,ff,ff,ff,ff,ff,ff,ff,ff,ff,ff,ff,ff,ff,ff]) rfl D1 (qM rfl) rfl (by kernel_rfl) rfl rfl ?_
 refine aP 1 rfl (qM rfl) rfl ?_
 refine aL 2 rfl (A1 rfl rfl) rfl ?_
 refine aL 3 rfl (A1 rfl rfl) rfl ?_
 refine aP 4 rfl (qM rfl) rfl ?_
 refine aP 5 rfl (P0 rfl rfl (by omega) (by omega)) rfl ?_
 refine aP 7 rfl (qM rfl) rfl ?_
 refine aP 8 rfl (qM rfl) rfl ?_
 refine aP 9 rfl (qM rfl) rfl ?_
 refine aL 10 rfl (A1 rfl rfl) rfl ?_
 refine aP 12 rfl (qM rfl) rfl ?_
 refine aP 13 rfl (P0 rfl rfl (by omega) (by omega)) rfl ?_
 refine A2 6 ?_
 (have hcall := A9z br pb nb cb bs hnb m (ih m (by omega)) (depth - 1) uD (.mk k ks) (pD) _ pc nc cc _ _ (hfu.sub (by omega) hfu.1) (by omega) (by omega) (by omega) hx hruD ⟨huaD, by omega⟩ hrt hb (by omega); refine X8 (l' := [tt,tt,tt,tt,tt,tt,tt,tt,tt,tt,tt,ff,tt,tt,ff,ff,ff,ff]) rfl rfl hcall (Pk.perm (by repeat (first | exact Pk.here | apply Pk.there))) rfl rfl rfl (by repeat (first | exact A5.nil | apply A5.dep (by decide +kernel) | apply A5.im (by decide +kernel) hg0 (by repeat first | exact mH | apply mT) | apply A5.im (by decide +kernel) hg1 (by repeat first | exact mH | apply mT) | apply A5.blk (by decide +kernel) (by repeat (first | exact Pk.here | apply Pk.there)) (by repeat first | exact mH | apply mT))) (fun v Gn outs hlel hh => ?_); obtain ⟨pl, hpl1, hpl2, rfl, el, cl, rfl, hrl, hsml, hcl⟩ := hh; obtain ⟨l1, l2, l3, l4, l5, l6, l7, l8, l9, rfl⟩ := hrl.nine; replace hruD := hruD.mono hlel; replace hx := hx.mono hlel; replace hb := hb.mono hlel; replace hrt := hrt.mono hlel;)
 refine A2 11 ?_
 (have hcall := A5Q br pb nb cb bs hnb uD (pl) _ _ huaD hruD hb (by omega); refine X8 (l' := [tt,tt,tt,tt,tt,tt,tt,tt,tt,tt,tt,tt,tt,tt,ff,ff,ff,ff]) rfl rfl hcall (Pk.perm (by repeat (first | exact Pk.here | apply Pk.there))) rfl rfl rfl (by repeat (first | exact A5.nil | apply A5.dep (by decide +kernel) | apply A5.im (by decide +kernel) hg0 (by repeat first | exact mH | apply mT) | apply A5.im (by decide +kernel) hg1 (by repeat first | exact mH | apply mT) | apply A5.blk (by decide +kernel) (by repeat (first | exact Pk.here | apply Pk.there)) (by repeat first | exact mH | apply mT))) (fun v Gn outs hleE hh => ?_); obtain ⟨pE, hpE1, hpE2, rfl, uE, cuE, rfl, hruE, huaE, husE, huhE⟩ := hh; obtain ⟨quE, duE, euE, rfl, _⟩ := hruE.open; replace hrl := hrl.mono hleE; replace hx := hx.mono hleE; replace hb := hb.mono hleE; replace hrt := hrt.mono hleE;)
 refine A2 14 ?_
 (have hcall := ih m (by omega) (depth - 1) uE pE _ pc nc cc _ (hfu.sub (by omega) (huhE 4 (huhD.le (by omega)))) (by omega) (by omega) (by omega) hx hruE hb (by omega); refine X8 (l' := [tt,tt,tt,tt,tt,tt,tt,tt,tt,tt,tt,tt,tt,tt,tt,ff,ff,ff]) rfl rfl hcall (Pk.perm (by repeat (first | exact Pk.here | apply Pk.there))) rfl rfl rfl (by repeat (first | exact A5.nil | apply A5.dep (by decide +kernel) | apply A5.im (by decide +kernel) hg0 (by repeat first | exact mH | apply mT) | apply A5.im (by decide +kernel) hg1 (by repeat first | exact mH | apply mT) | apply A5.blk (by decide +kernel) (by repeat (first | exact Pk.here | apply Pk.there)) (by repeat first | exact mH | apply mT))) (fun v Gn outs hled hh => ?_); obtain ⟨pd, hpd1, hpd2, rfl, ed, cd, rfl, hrd, hsmd, hcd⟩ := hh; obtain ⟨d1, d2, d3, d4, d5, d6, d7, d8, d9, rfl⟩ := hrd.nine; replace hrl := hrl.mono hled; replace hx := hx.mono hled; replace hb := hb.mono hled; replace hrt := hrt.mono hled;)
 refine A2 15 ?_
 (refine E1 rfl (C8 rfl rfl rfl (by omega) (by unfold maxLen; omega) rfl) rfl rfl ?_; rintro _ ⟨b298, rfl⟩)
 refine A2 16 ?_
 refine O5 rfl rfl ((A2k _ _ _ _ _)) rfl rfl rfl ?_
 refine A2 17 ?_
 refine Q4 rfl rfl rfl rfl rfl rfl rfl rfl (by decide +kernel) (by repeat first | exact Sw.here | apply Sw.there) (by rfl) ?_
 refine C2 (nS ?_)
 (refine H5 (cs := [l1, l2, l3, l4, l5, l6, l7, l8, l9] ++ [d1, d2, d3, d4, d5, d6, d7, d8, d9]) (by repeat (first | exact Pk.here | apply Pk.there)) (fun G9 hle9 hsl9 hno9 => ?_); have hN := A3O (k := 6) (nm := ⟨⟨[]⟩⟩) ⟨by omega, by omega⟩ (hrl.mono hle9) (hrd.mono hle9) hsl9)
 refine tT (rB ?_)
 refine A0M ?_
 refine F8 (outs := [rd br pb nb cb pd]) (rC rfl (A1 rfl rfl)) (by repeat (first | exact A0.nil | refine A0.cons Pk.here ?_ | refine A0.cons (Pk.there Pk.here) ?_ | refine A0.cons (Pk.there (Pk.there Pk.here)) ?_ | apply A0.drop)) ?_
 (exact ⟨pd, by omega, by omega, rfl, _, _, rfl, hN, by first | exact O1 (by first | assumption | decide) | exact A0v (by decide) (by assumption) (by assumption) (by assumption) | exact S1 (by decide) (by assumption) (by assumption) | exact K3 (by decide) P8 (by assumption) | exact K3 (by decide) har.small (by assumption) | exact K3 (by decide) P8 (S1 (by decide) (by assumption) (O1 (by decide))) | exact K3 (by decide) A0w (O1 (by decide)) | assumption, by simp only [C6, D4]; omega⟩)
 refine sQ (qA rfl) rfl (sD (nS (cF rfl (tS (tR ?_)))))
 refine sB (qE rfl rfl) rfl rfl (fun h317 => ?_) (fun h317 => ?_)
 refine I7 ?_
 refine sP (P0 rfl rfl (by omega) (by omega)) rfl rfl ?_
 (have hpkq := hpk9; obtain ⟨m, rfl⟩ := hfu.pos (.inl (by omega)); have hmB : mB (m + 1) = 3 * mB m + 200 := rfl; have hgm := A1o m; have hcall := ih m (by omega) (depth - 1) (.mk k ks) (p1 + 1) _ pc nc cc _ (hfu.sub (by omega) hfu.1) (by omega) (by omega) (by omega) hx hrt hb (by omega); refine H4 rfl hcall (Pk.perm (by repeat (first | exact Pk.here | apply Pk.there))) rfl rfl (fun v Gn outs hleh hh => ?_); obtain ⟨ph, hph1, hph2, rfl, eh, ch, rfl, hrh, hsmh, hch⟩ := hh; obtain ⟨h1, h2, h3, h4, h5, h6, h7, h8, h9, rfl⟩ := hrh.nine; replace hx := hx.mono hleh; replace hb := hb.mono hleh; replace hrt := hrt.mono hleh;)
 refine I5 rfl ((A1U _ _)) rfl rfl ?_
 (refine L4 (C8 rfl rfl rfl (by omega) (by unfold maxLen; omega) rfl) rfl ?_; rintro _ ⟨b331, rfl⟩)
 refine I5 rfl ((A2k _ _ _ _ _)) rfl rfl ?_
 (refine L4 (C8 rfl rfl rfl (by omega) (by unfold maxLen; omega) rfl) rfl ?_; rintro _ ⟨b333, rfl⟩)
 refine I5 rfl ((A2k _ _ _ _ _)) rfl rfl ?_
 refine F4 ?_
 refine sD (nS ?_)
 (refine H5 (cs := [h1, h2, h3, h4, h5, h6, h7, h8, h9] ++ [.int .i64 2, .string ⟨⟨[]⟩⟩, .int .i64 1, .int .i64 0, .slice none 0 0, .int .i64 0, .slice none 0 0, .int .i64 0, .slice none 0 0]) (by repeat (first | exact Pk.here | apply Pk.there)) (fun G8 hle8 hsl8 hno8 => ?_); have hNi := A3O (k := 10) (nm := ⟨⟨[]⟩⟩) ⟨by omega, by omega⟩ (hrh.mono hle8) (A19 G8 ⟨⟨[]⟩⟩ 1 (k := 2) ⟨by omega, by omega⟩ ⟨by omega, by omega⟩) hsl8; refine H5 (by repeat (first | exact Pk.here | apply Pk.there)) (fun G9 hle9 hsl9 hno9 => ?_); have hN := A3N (k := 11) (nm := ⟨⟨[]⟩⟩) ⟨by omega, by omega⟩ (N6 G9 (k := 0) ⟨by omega, by omega⟩) (hNi.mono hle9) hsl9)
 refine tT (rB ?_)
 refine A0M ?_
 refine F8 (outs := [rd br pb nb cb ph]) (rC rfl (A1 rfl rfl)) (by repeat (first | exact A0.nil | refine A0.cons Pk.here ?_ | refine A0.cons (Pk.there Pk.here) ?_ | refine A0.cons (Pk.there (Pk.there Pk.here)) ?_ | apply A0.drop)) ?_
 (exact ⟨ph, by omega, by omega, rfl, _, _, rfl, hN, by first | exact O1 (by first | assumption | decide) | exact A0v (by decide) (by assumption) (by assumption) (by assumption) | exact S1 (by decide) (by assumption) (by assumption) | exact K3 (by decide) P8 (by assumption) | exact K3 (by decide) har.small (by assumption) | exact K3 (by decide) P8 (S1 (by decide) (by assumption) (O1 (by decide))) | exact K3 (by decide) A0w (O1 (by decide)) | assumption, by simp only [C6, D4]; omega⟩)
 refine sQ (qA rfl) rfl (sD (nS (cF rfl (tK (N3 ?_)))))
 refine A3Q (p1 + 1, Gp) (O2 (by repeat (first | exact E7.nil | refine E7.cons rfl ?_)) (by repeat (first | exact A0.refl | exact A0.nil | refine A0.cons (by repeat (first | exact Pk.here | apply Pk.there)) ?_ | apply A0.drop))) ⟨B6.refl _, by dsimp only; omega, by dsimp only; omega⟩
 refine tK ?_
 refine A3Q (p1, G1) (O2 (by repeat (first | exact E7.nil | refine E7.cons rfl ?_)) (by repeat (first | exact A0.refl | exact A0.nil | refine A0.cons (by repeat (first | exact Pk.here | apply Pk.there)) ?_ | apply A0.drop))) ⟨B6.refl _, by dsimp only; omega, by dsimp only; omega⟩
 (rintro ⟨(p2 : Nat), G2⟩ ⟨hle2c, hp2a, hp2b⟩; simp only [] at hle2c hp2a hp2b ⊢; have hcut1 := hp2a; replace hx := hx.mono hle2c; replace hb := hb.mono hle2c; replace hrt := hrt.mono hle2c;)
 refine C4 ?_
 (show I2 _ _ (.block 3 ..) _ _; refine A9A (fun (x : Nat × IM) => ⟨[(0, .pointer (some ⟨br, 0, none⟩)), (1, .slice pc nc cc), (3, .int .i64 depth), (6, .pointer (some ⟨b3, 0, none⟩)), (8, .pointer (some ⟨b4, 0, none⟩))], [rd br pb nb cb x.1, .blk b4 [.int .i64 0, .string ⟨⟨[]⟩⟩, .int .i64 0, .int .i64 0, .slice none 0 0, .int .i64 0, .slice none 0 0, .int .i64 0, .slice none 0 0], .blk b3 [.int .i64 k, .slice q ks.length c]], x.2⟩) (fun x => B6 G2 x.2 ∧ p2 ≤ x.1 ∧ x.1 ≤ p2 + 2) ?_ ?_)
 refine B7 (tS (tR (sB (qE rfl rfl) rfl rfl (fun h365 => ?_) (fun h365 => ?_))))
 refine D8 ?_
 refine sB (Y6 rfl rfl) rfl rfl (fun h374 => ?_) (fun h374 => ?_)
 refine sQ (qM rfl) rfl (sQ (qM rfl) rfl ?_)
 (have hkk3 : k = 3 := (by omega); refine H4 rfl (W3 _ br pb nb cb (p2) bs 2 hb hnb (by omega)) (Pk.perm (by repeat (first | exact Pk.here | apply Pk.there))) rfl rfl (fun v Gp outs hle377 hh => ?_); obtain ⟨rfl, rfl, j377, rfl, hj377, hk377⟩ := hh; have hpk22 := hj377)
 replace hb := hb.mono hle377
 replace hrt := hrt.mono hle377
 refine sB (qE rfl rfl) rfl rfl (fun h378 => ?_) (fun h378 => ?_)
 refine D8 ?_
 refine I5 rfl ((A1i _)) rfl rfl ?_
 refine sQ (qM rfl) rfl ?_
 refine sP (P0 rfl rfl (by omega) (by omega)) rfl rfl ?_
 (have hkk3q := hkk3; obtain ⟨m, rfl⟩ := hfu.pos (.inl (by omega)); have hmB : mB (m + 1) = 3 * mB m + 200 := rfl; have hgm := A1o m; have hcall := ih m (by omega) (depth - 1) (.mk 2 []) (p2 + 1) _ pc nc cc _ (hfu.sub (by omega) (A2J 4 (by decide) (by decide))) (by omega) (by omega) (by omega) hx (N6 _ ⟨by omega, by omega⟩) hb (by omega); refine H4 rfl hcall (Pk.perm (by repeat (first | exact Pk.here | apply Pk.there))) rfl rfl (fun v Gn outs hlen hh => ?_); obtain ⟨pn, hpn1, hpn2, rfl, en, cn, rfl, hrn, hsmn, hcn⟩ := hh; obtain ⟨n1, n2, n3, n4, n5, n6, n7, n8, n9, rfl⟩ := hrn.nine; replace hx := hx.mono hlen; replace hb := hb.mono hlen; replace hrt := hrt.mono hlen;)
 refine sQ (qM rfl) rfl (sQ (qM rfl) rfl ?_)
 refine I5 rfl ((A1i _)) rfl rfl ?_
 refine sQ (qM rfl) rfl ?_
 refine sP (P0 rfl rfl (by omega) (by omega)) rfl rfl ?_
 (have hcall := ih m (by omega) (depth - 1) (.mk 2 []) pn _ pc nc cc _ (hfu.sub (by omega) (A2J 4 (by decide) (by decide))) (by omega) (by omega) (by omega) hx (N6 _ ⟨by omega, by omega⟩) hb (by omega); refine H4 rfl hcall (Pk.perm (by repeat (first | exact Pk.here | apply Pk.there))) rfl rfl (fun v Gn outs hleo hh => ?_); obtain ⟨po, hpo1, hpo2, rfl, eo, co, rfl, hro, hsmo, hco⟩ := hh; obtain ⟨o1, o2, o3, o4, o5, o6, o7, o8, o9, rfl⟩ := hro.nine; replace hrn := hrn.mono hleo; replace hx := hx.mono hleo; replace hb := hb.mono hleo; replace hrt := hrt.mono hleo;)
 (refine L4 (C8 rfl rfl rfl (by omega) (by unfold maxLen; omega) rfl) rfl ?_; rintro _ ⟨b397, rfl⟩)
 refine I5 rfl ((A2k _ _ _ _ _)) rfl rfl ?_
 refine F4 ?_
 refine sD (nS ?_)
 (refine H5 (cs := [n1, n2, n3, n4, n5, n6, n7, n8, n9] ++ [o1, o2, o3, o4, o5, o6, o7, o8, o9]) (by repeat (first | exact Pk.here | apply Pk.there)) (fun G9 hle9 hsl9 hno9 => ?_); have hN := A3O (k := 8) (nm := ⟨⟨[]⟩⟩) ⟨by omega, by omega⟩ (hrn.mono hle9) (hro.mono hle9) hsl9)
 refine tT (rS (rB ?_))
 refine A0M ?_
 refine F8 (outs := [rd br pb nb cb po]) (rC rfl (A1 rfl rfl)) (by repeat (first | exact A0.nil | refine A0.cons Pk.here ?_ | refine A0.cons (Pk.there Pk.here) ?_ | refine A0.cons (Pk.there (Pk.there Pk.here)) ?_ | apply A0.drop)) ?_
 (exact ⟨po, by omega, by omega, rfl, _, _, rfl, hN, by first | exact O1 (by first | assumption | decide) | exact A0v (by decide) (by assumption) (by assumption) (by assumption) | exact S1 (by decide) (by assumption) (by assumption) | exact K3 (by decide) P8 (by assumption) | exact K3 (by decide) har.small (by assumption) | exact K3 (by decide) P8 (S1 (by decide) (by assumption) (O1 (by decide))) | exact K3 (by decide) A0w (O1 (by decide)) | assumption, by simp only [C6, D4]; omega⟩)
 refine L5 ?_
 refine A0M ?_
 refine F8 (outs := [rd br pb nb cb (p2 + 1)]) (rC rfl (A1 rfl rfl)) (by repeat (first | exact A0.nil | refine A0.cons Pk.here ?_ | refine A0.cons (Pk.there Pk.here) ?_ | refine A0.cons (Pk.there (Pk.there Pk.here)) ?_ | apply A0.drop)) ?_
 (exact ⟨(p2 + 1), by omega, by omega, rfl, _, _, rfl, A19 _ _ _ ⟨by omega, by omega⟩ (by first | exact ⟨by omega, by omega⟩ | exact hkn), by first | exact O1 (by first | assumption | decide) | exact A0v (by decide) (by assumption) (by assumption) (by assumption) | exact S1 (by decide) (by assumption) (by assumption) | exact K3 (by decide) P8 (by assumption) | exact K3 (by decide) har.small (by assumption) | exact K3 (by decide) P8 (S1 (by decide) (by assumption) (O1 (by decide))) | exact K3 (by decide) A0w (O1 (by decide)) | assumption, by simp only [C6, D4]; omega⟩)
 refine U6 ?_
 refine A0M ?_
 refine F8 (outs := [rd br pb nb cb p2]) (rC rfl (A1 rfl rfl)) (by repeat (first | exact A0.nil | refine A0.cons Pk.here ?_ | refine A0.cons (Pk.there Pk.here) ?_ | refine A0.cons (Pk.there (Pk.there Pk.here)) ?_ | apply A0.drop)) ?_
 (exact ⟨p2, by omega, by omega, rfl, _, _, rfl, A19 _ _ _ ⟨by omega, by omega⟩ (by first | exact ⟨by omega, by omega⟩ | exact hkn), by first | exact O1 (by first | assumption | decide) | exact A0v (by decide) (by assumption) (by assumption) (by assumption) | exact S1 (by decide) (by assumption) (by assumption) | exact K3 (by decide) P8 (by assumption) | exact K3 (by decide) har.small (by assumption) | exact K3 (by decide) P8 (S1 (by decide) (by assumption) (O1 (by decide))) | exact K3 (by decide) A0w (O1 (by decide)) | assumption, by simp only [C6, D4]; omega⟩)
 refine sQ (qA rfl) rfl (sD (nS (cF rfl (tS (tR ?_)))))
 refine sB (qE rfl rfl) rfl rfl (fun h453 => ?_) (fun h453 => ?_)
 refine sQ (qA rfl) rfl (sD (nS (qT rfl (tS ?_))))
 (have hk45 : k = 4 ∨ k = 5 := (by omega); have hl2 := hops hk45; obtain ⟨m, rfl⟩ := hfu.pos (.inr hk45); have hmB : mB (m + 1) = 3 * mB m + 200 := rfl; have hgm := A1o m; obtain ⟨es9, hsl, hkl⟩ := hrt.kidsM; obtain ⟨b0, o0, q0, d0, hp0, hat0, hre0, hg0⟩ := hsl.kidTy hkl (i := 0) (by omega) (by omega); obtain ⟨b1, o1, q1, d1, hp1, hat1, hre1, hg1⟩ := hsl.kidTy hkl (i := 1) (by omega) (by omega); cases hp0; cases hp1; have hmem0 := List.getElem_mem (l := ks) (n := 0) (by omega); have hmem1 := List.getElem_mem (l := ks) (n := 1) (by omega); refine D5 D6 rfl ?_)
 refine I3 (i := 0) (l' := [tt,ff,ff,ff,ff,ff,ff,ff,ff,ff,ff,ff,ff,ff]) rfl D1 (qM rfl) rfl (by kernel_rfl) rfl rfl ?_
 refine aP 1 rfl (qM rfl) rfl ?_
 refine aP 2 rfl (B0 rfl) rfl ?_
 refine aL 3 rfl (B9 rfl rfl) rfl ?_
 refine aP 4 rfl (B2 (j := 0) rfl rfl rfl (by omega)) rfl ?_
 refine aL 5 rfl (A3 rfl rfl (hat0 _) rfl) rfl ?_
 refine aP 6 rfl (B0 rfl) rfl ?_
 refine aL 7 rfl (B9 rfl rfl) rfl ?_
 refine aP 8 rfl (B2 (j := 1) rfl rfl rfl (by omega)) rfl ?_
 refine aL 9 rfl (A3 rfl rfl (hat1 _) rfl) rfl ?_
 refine aP 10 rfl (qM rfl) rfl ?_
 refine aP 11 rfl (P0 rfl rfl (by omega) (by omega)) rfl ?_
 refine A2 12 ?_
 (have hcall := A9z br pb nb cb bs hnb m (ih m (by omega)) (depth - 1) ks[0] ks[1] (p2) _ pc nc cc _ _ (hfu.kid hmem1) (by omega) (by omega) (by omega) hx hre0 ⟨har.kid _ hmem0, by have := B14 (k := k) hmem0; omega⟩ hre1 hb (by omega); refine X8 (l' := [tt,tt,tt,tt,tt,tt,tt,tt,tt,tt,tt,tt,tt,ff]) rfl rfl hcall (Pk.perm (by repeat (first | exact Pk.here | apply Pk.there))) rfl rfl rfl (by repeat (first | exact A5.nil | apply A5.dep (by decide +kernel) | apply A5.im (by decide +kernel) hg0 (by repeat first | exact mH | apply mT) | apply A5.im (by decide +kernel) hg1 (by repeat first | exact mH | apply mT) | apply A5.blk (by decide +kernel) (by repeat (first | exact Pk.here | apply Pk.there)) (by repeat first | exact mH | apply mT))) (fun v Gn outs hlek hh => ?_); obtain ⟨pk, hpk1, hpk2, rfl, ek, ck, rfl, hrk, hsmk, hck⟩ := hh; obtain ⟨k1, k2, k3, k4, k5, k6, k7, k8, k9, rfl⟩ := hrk.nine; replace hx := hx.mono hlek; replace hb := hb.mono hlek; replace hrt := hrt.mono hlek;)
 refine A2 13 ?_
 refine Q4 rfl rfl rfl rfl rfl hrk.one rfl rfl (by kernel_rfl) (by repeat first | exact Sw.here | apply Sw.there) (by rfl) ?_
 refine C2 (nS (tT (rB ?_)))
 refine A0M ?_
 refine F8 (outs := [rd br pb nb cb pk]) (rC rfl (A1 rfl rfl)) (by repeat (first | exact A0.nil | refine A0.cons Pk.here ?_ | refine A0.cons (Pk.there Pk.here) ?_ | refine A0.cons (Pk.there (Pk.there Pk.here)) ?_ | apply A0.drop)) ?_
 (exact ⟨pk, by omega, by omega, rfl, _, _, rfl, hrk, hsmk, by omega⟩)
 refine sQ (qA rfl) rfl (sD (nS (cF rfl (tS (tR ?_)))))
 refine sB (qE rfl rfl) rfl rfl (fun h489 => ?_) (fun h489 => ?_)
 refine sQ (qA rfl) rfl (sD (nS (qT rfl (tS ?_))))
 (have hk45 : k = 4 ∨ k = 5 := (by omega); have hl2 := hops hk45; obtain ⟨m, rfl⟩ := hfu.pos (.inr hk45); have hmB : mB (m + 1) = 3 * mB m + 200 := rfl; have hgm := A1o m; obtain ⟨es9, hsl, hkl⟩ := hrt.kidsM; obtain ⟨b0, o0, q0, d0, hp0, hat0, hre0, hg0⟩ := hsl.kidTy hkl (i := 0) (by omega) (by omega); obtain ⟨b1, o1, q1, d1, hp1, hat1, hre1, hg1⟩ := hsl.kidTy hkl (i := 1) (by omega) (by omega); cases hp0; cases hp1; have hmem0 := List.getElem_mem (l := ks) (n := 0) (by omega); have hmem1 := List.getElem_mem (l := ks) (n := 1) (by omega); refine D5 D6 rfl ?_)
 refine I3 (i := 0) (l' := [tt,ff,ff,ff,ff,ff,ff,ff,ff,ff,ff,ff,ff,ff,ff,ff,ff,ff,ff,ff,ff]) rfl D1 (qM rfl) rfl (by kernel_rfl) rfl rfl ?_
 refine aP 1 rfl (qM rfl) rfl ?_
 refine aP 2 rfl (B0 rfl) rfl ?_
 refine aL 3 rfl (B9 rfl rfl) rfl ?_
 refine aP 4 rfl (B2 (j := 0) rfl rfl rfl (by omega)) rfl ?_
 refine aL 5 rfl (A3 rfl rfl (hat0 _) rfl) rfl ?_
 refine aP 6 rfl (qM rfl) rfl ?_
 refine aP 7 rfl (P0 rfl rfl (by omega) (by omega)) rfl ?_
 refine aP 9 rfl (qM rfl) rfl ?_
 refine aP 10 rfl (qM rfl) rfl ?_
 refine aP 11 rfl (B0 rfl) rfl ?_
 refine aL 12 rfl (B9 rfl rfl) rfl ?_
 refine aP 13 rfl (B2 (j := 1) rfl rfl rfl (by omega)) rfl ?_
 refine aL 14 rfl (A3 rfl rfl (hat1 _) rfl) rfl ?_
 refine aP 15 rfl (qM rfl) rfl ?_
 refine aP 16 rfl (P0 rfl rfl (by omega) (by omega)) rfl ?_
 refine A2 8 ?_
 (have hcall := ih m (by omega) (depth - 1) ks[0] p2 _ pc nc cc _ (hfu.kid hmem0) (by omega) (by omega) (by omega) hx hre0 hb (by omega); refine X8 (l' := [tt,tt,tt,tt,tt,tt,tt,tt,tt,tt,tt,tt,tt,tt,tt,tt,tt,ff,ff,ff,ff]) rfl rfl hcall (Pk.perm (by repeat (first | exact Pk.here | apply Pk.there))) rfl rfl rfl (by repeat (first | exact A5.nil | apply A5.dep (by decide +kernel) | apply A5.im (by decide +kernel) hg0 (by repeat first | exact mH | apply mT) | apply A5.im (by decide +kernel) hg1 (by repeat first | exact mH | apply mT) | apply A5.blk (by decide +kernel) (by repeat (first | exact Pk.here | apply Pk.there)) (by repeat first | exact mH | apply mT))) (fun v Gn outs hles hh => ?_); obtain ⟨ps, hps1, hps2, rfl, es, cs, rfl, hrs, hsms, hcs⟩ := hh; obtain ⟨s1, s2, s3, s4, s5, s6, s7, s8, s9, rfl⟩ := hrs.nine; replace hre1 := hre1.mono hles; replace hx := hx.mono hles; replace hb := hb.mono hles; replace hrt := hrt.mono hles;)
 refine A2 17 ?_
 (have hcall := ih m (by omega) (depth - 1) ks[1] ps _ pc nc cc _ (hfu.kid hmem1) (by omega) (by omega) (by omega) hx hre1 hb (by omega); refine X8 (l' := [tt,tt,tt,tt,tt,tt,tt,tt,tt,tt,tt,tt,tt,tt,tt,tt,tt,tt,ff,ff,ff]) rfl rfl hcall (Pk.perm (by repeat (first | exact Pk.here | apply Pk.there))) rfl rfl rfl (by repeat (first | exact A5.nil | apply A5.dep (by decide +kernel) | apply A5.im (by decide +kernel) hg0 (by repeat first | exact mH | apply mT) | apply A5.im (by decide +kernel) hg1 (by repeat first | exact mH | apply mT) | apply A5.blk (by decide +kernel) (by repeat (first | exact Pk.here | apply Pk.there)) (by repeat first | exact mH | apply mT))) (fun v Gn outs hlew hh => ?_); obtain ⟨pw, hpw1, hpw2, rfl, ew, cw, rfl, hrw, hsmw, hcw⟩ := hh; obtain ⟨w1, w2, w3, w4, w5, w6, w7, w8, w9, rfl⟩ := hrw.nine; replace hrs := hrs.mono hlew; replace hx := hx.mono hlew; replace hb := hb.mono hlew; replace hrt := hrt.mono hlew;)
 refine A2 18 ?_
 (refine E1 rfl (C8 rfl rfl rfl (by omega) (by unfold maxLen; omega) rfl) rfl rfl ?_; rintro _ ⟨b517, rfl⟩)
 refine A2 19 ?_
 refine O5 rfl rfl ((A2k _ _ _ _ _)) rfl rfl rfl ?_
 refine A2 20 ?_
 refine Q4 rfl rfl rfl rfl rfl rfl rfl rfl (by decide +kernel) (by repeat first | exact Sw.here | apply Sw.there) (by rfl) ?_
 refine C2 (nS ?_)
 (refine H5 (cs := [s1, s2, s3, s4, s5, s6, s7, s8, s9] ++ [w1, w2, w3, w4, w5, w6, w7, w8, w9]) (by repeat (first | exact Pk.here | apply Pk.there)) (fun G9 hle9 hsl9 hno9 => ?_); have hN := A3O (k := 10) (nm := ⟨⟨[]⟩⟩) ⟨by omega, by omega⟩ (hrs.mono hle9) (hrw.mono hle9) hsl9)
 refine tT (rB ?_)
 refine A0M ?_
 refine F8 (outs := [rd br pb nb cb pw]) (rC rfl (A1 rfl rfl)) (by repeat (first | exact A0.nil | refine A0.cons Pk.here ?_ | refine A0.cons (Pk.there Pk.here) ?_ | refine A0.cons (Pk.there (Pk.there Pk.here)) ?_ | apply A0.drop)) ?_
 (exact ⟨pw, by omega, by omega, rfl, _, _, rfl, hN, by first | exact O1 (by first | assumption | decide) | exact A0v (by decide) (by assumption) (by assumption) (by assumption) | exact S1 (by decide) (by assumption) (by assumption) | exact K3 (by decide) P8 (by assumption) | exact K3 (by decide) har.small (by assumption) | exact K3 (by decide) P8 (S1 (by decide) (by assumption) (O1 (by decide))) | exact K3 (by decide) A0w (O1 (by decide)) | assumption, by simp only [C6, D4]; omega⟩)
 refine sQ (qA rfl) rfl (sD (nS (cF rfl (tS (tR ?_)))))
 refine sB (qE rfl rfl) rfl rfl (fun h536 => ?_) (fun h536 => ?_)
 refine D8 ?_
 refine sB (Y6 rfl rfl) rfl rfl (fun h545 => ?_) (fun h545 => ?_)
 refine sQ (qM rfl) rfl (sQ (qM rfl) rfl ?_)
 (have hkk1 : k = 1 := (by omega); refine H4 rfl (W3 _ br pb nb cb (p2) bs 3 hb hnb (by omega)) (Pk.perm (by repeat (first | exact Pk.here | apply Pk.there))) rfl rfl (fun v Gp outs hle548 hh => ?_); obtain ⟨rfl, rfl, j548, rfl, hj548, hk548⟩ := hh; have hpk23 := hj548)
 replace hb := hb.mono hle548
 replace hrt := hrt.mono hle548
 refine sB (qE rfl rfl) rfl rfl (fun h549 => ?_) (fun h549 => ?_)
 refine D9 ?_
 (have hcall := A3w br pb nb cb bs hnb 1 (p2 + 1) _ (by omega) hb (by have : dB (1 + 1) ≤ 6 := (by decide); omega); refine H4 rfl hcall (Pk.perm (by repeat (first | exact Pk.here | apply Pk.there))) rfl rfl (fun v Gn outs hleF hh => ?_); obtain ⟨pF, hpF1, hpF2, rfl, uF, cuF, rfl, hruF, husF, huhF⟩ := hh; have huaF := huhF.ar; obtain ⟨quF, duF, euF, rfl, _⟩ := hruF.open; have hdBF : dB (1 + 1) ≤ 6 := (by decide); replace hx := hx.mono hleF; replace hb := hb.mono hleF; replace hrt := hrt.mono hleF;)
 refine sQ (qM rfl) rfl ?_
 refine sP (P0 rfl rfl (by omega) (by omega)) rfl rfl ?_
 (obtain ⟨m, rfl⟩ := hfu.pos (.inl (by omega)); have hmB : mB (m + 1) = 3 * mB m + 200 := rfl; have hgm := A1o m; have hcall := ih m (by omega) (depth - 1) uF pF _ pc nc cc _ (hfu.sub (by omega) (huhF.le (by omega))) (by omega) (by omega) (by omega) hx hruF hb (by omega); refine H4 rfl hcall (Pk.perm (by repeat (first | exact Pk.here | apply Pk.there))) rfl rfl (fun v Gn outs hlex hh => ?_); obtain ⟨px, hpx1, hpx2, rfl, ex, cx, rfl, hrx, hsmx, hcx⟩ := hh; obtain ⟨x1, x2, x3, x4, x5, x6, x7, x8, x9, rfl⟩ := hrx.nine; replace hx := hx.mono hlex; replace hb := hb.mono hlex; replace hrt := hrt.mono hlex;)
 refine sS rfl rfl rfl rfl hrx.one rfl ?_
 refine sD (nS (tT (rS (rB ?_))))
 refine A0M ?_
 refine F8 (outs := [rd br pb nb cb px]) (rC rfl (A1 rfl rfl)) (by repeat (first | exact A0.nil | refine A0.cons Pk.here ?_ | refine A0.cons (Pk.there Pk.here) ?_ | refine A0.cons (Pk.there (Pk.there Pk.here)) ?_ | apply A0.drop)) ?_
 (exact ⟨px, by omega, by omega, rfl, _, _, rfl, hrx, hsmx, by omega⟩)
 refine D9 ?_
 (refine H4 rfl (W3 _ br pb nb cb (p2 + 1) bs 3 hb hnb (by omega)) (Pk.perm (by repeat (first | exact Pk.here | apply Pk.there))) rfl rfl (fun v Gp outs hle581 hh => ?_); obtain ⟨rfl, rfl, j581, rfl, hj581, hk581⟩ := hh; have hpk21 := hj581)
 replace hb := hb.mono hle581
 replace hrt := hrt.mono hle581
 refine sB (qE rfl rfl) rfl rfl (fun h582 => ?_) (fun h582 => ?_)
 refine sD (nS (qT rfl (tS (tR ?_))))
 refine I5 rfl ((A1e _)) rfl rfl ?_
 refine sQ (T3 rfl rfl) rfl ?_
 (refine L4 (C8 rfl rfl rfl (by omega) (by unfold maxLen; omega) rfl) rfl ?_; rintro _ ⟨b590, rfl⟩)
 refine sQ (T3 rfl rfl) rfl (F4 ?_)
 refine sD (nS ?_)
 (refine H5 (cs := [.int .i64 4, .string ⟨⟨[]⟩⟩, .int .i64 0, .int .i64 0, .slice none 0 0, .int .i64 0, .slice none 0 0, .int .i64 0, .slice none 0 0]) (by repeat (first | exact Pk.here | apply Pk.there)) (fun G9 hle9 hsl9 hno9 => ?_); have hN := A3N (k := 13) (nm := ⟨⟨[]⟩⟩) ⟨by omega, by omega⟩ (A0A _) (A19 G9 ⟨⟨[]⟩⟩ 0 (k := 4) ⟨by omega, by omega⟩ ⟨by omega, by omega⟩) hsl9)
 refine tT (rB ?_)
 refine A0M ?_
 refine F8 (outs := [rd br pb nb cb (p2 + 1 + 1)]) (rC rfl (A1 rfl rfl)) (by repeat (first | exact A0.nil | refine A0.cons Pk.here ?_ | refine A0.cons (Pk.there Pk.here) ?_ | refine A0.cons (Pk.there (Pk.there Pk.here)) ?_ | apply A0.drop)) ?_
 (exact ⟨(p2 + 1 + 1), by omega, by omega, rfl, _, _, rfl, hN, by first | exact O1 (by first | assumption | decide) | exact A0v (by decide) (by assumption) (by assumption) (by assumption) | exact S1 (by decide) (by assumption) (by assumption) | exact K3 (by decide) P8 (by assumption) | exact K3 (by decide) har.small (by assumption) | exact K3 (by decide) P8 (S1 (by decide) (by assumption) (O1 (by decide))) | exact K3 (by decide) A0w (O1 (by decide)) | assumption, by simp only [C6, D4]; omega⟩)
 refine sD (nS (cF rfl (tK (N3 ?_))))
 refine A3Q (p2 + 1 + 1, Gp) (O2 (by repeat (first | exact E7.nil | refine E7.cons rfl ?_)) (by repeat (first | exact A0.refl | exact A0.nil | refine A0.cons (by repeat (first | exact Pk.here | apply Pk.there)) ?_ | apply A0.drop))) ⟨B6.refl _, by dsimp only; omega, by dsimp only; omega⟩
 refine J3 ?_
 (have hkk1 : k = 1 := (by omega); refine H4 rfl (W3 _ br pb nb cb (p2) bs 3 hb hnb (by omega)) (Pk.perm (by repeat (first | exact Pk.here | apply Pk.there))) rfl rfl (fun v Gp outs hle620 hh => ?_); obtain ⟨rfl, rfl, j620, rfl, hj620, hk620⟩ := hh; have hpk23 := hj620)
 replace hb := hb.mono hle620
 replace hrt := hrt.mono hle620
 refine sB (qE rfl rfl) rfl rfl (fun h621 => ?_) (fun h621 => ?_)
 refine sD (nS (qT rfl (tS (tR ?_))))
 refine I5 rfl ((A1e _)) rfl rfl ?_
 refine sQ (T3 rfl rfl) rfl ?_
 (refine L4 (C8 rfl rfl rfl (by omega) (by unfold maxLen; omega) rfl) rfl ?_; rintro _ ⟨b629, rfl⟩)
 refine sQ (T3 rfl rfl) rfl (F4 ?_)
 refine sD (nS ?_)
 (refine H5 (cs := [.int .i64 4, .string ⟨⟨[]⟩⟩, .int .i64 0, .int .i64 0, .slice none 0 0, .int .i64 0, .slice none 0 0, .int .i64 0, .slice none 0 0]) (by repeat (first | exact Pk.here | apply Pk.there)) (fun G9 hle9 hsl9 hno9 => ?_); have hN := A3N (k := 13) (nm := ⟨⟨[]⟩⟩) ⟨by omega, by omega⟩ (A0A _) (A19 G9 ⟨⟨[]⟩⟩ 0 (k := 4) ⟨by omega, by omega⟩ ⟨by omega, by omega⟩) hsl9)
 refine tT (rB ?_)
 refine A0M ?_
 refine F8 (outs := [rd br pb nb cb (p2 + 1)]) (rC rfl (A1 rfl rfl)) (by repeat (first | exact A0.nil | refine A0.cons Pk.here ?_ | refine A0.cons (Pk.there Pk.here) ?_ | refine A0.cons (Pk.there (Pk.there Pk.here)) ?_ | apply A0.drop)) ?_
 (exact ⟨(p2 + 1), by omega, by omega, rfl, _, _, rfl, hN, by first | exact O1 (by first | assumption | decide) | exact A0v (by decide) (by assumption) (by assumption) (by assumption) | exact S1 (by decide) (by assumption) (by assumption) | exact K3 (by decide) P8 (by assumption) | exact K3 (by decide) har.small (by assumption) | exact K3 (by decide) P8 (S1 (by decide) (by assumption) (O1 (by decide))) | exact K3 (by decide) A0w (O1 (by decide)) | assumption, by simp only [C6, D4]; omega⟩)
 refine sD (nS (cF rfl (tK (N3 ?_))))
 refine A3Q (p2 + 1, Gp) (O2 (by repeat (first | exact E7.nil | refine E7.cons rfl ?_)) (by repeat (first | exact A0.refl | exact A0.nil | refine A0.cons (by repeat (first | exact Pk.here | apply Pk.there)) ?_ | apply A0.drop))) ⟨B6.refl _, by dsimp only; omega, by dsimp only; omega⟩
 refine sQ (qA rfl) rfl (sD (nS (cF rfl (tK (N3 ?_)))))
 refine A3Q (p2, G2) (O2 (by repeat (first | exact E7.nil | refine E7.cons rfl ?_)) (by repeat (first | exact A0.refl | exact A0.nil | refine A0.cons (by repeat (first | exact Pk.here | apply Pk.there)) ?_ | apply A0.drop))) ⟨B6.refl _, by dsimp only; omega, by dsimp only; omega⟩
 (have hq := hcut1; rintro ⟨(p5 : Nat), G5⟩ ⟨hle5c, hp5a, hp5b⟩; simp only [] at hle5c hp5a hp5b ⊢; have hcut2 := hp5a; replace hx := hx.mono hle5c; replace hb := hb.mono hle5c; replace hrt := hrt.mono hle5c;)
 refine tS (tS (tR (sQ (qM rfl) rfl ?_)))
 refine sB (Y6 rfl rfl) rfl rfl (fun h658 => ?_) (fun h658 => ?_)
 refine sQ (qM rfl) rfl (sQ (qM rfl) rfl ?_)
 (refine H4 rfl (W3 _ br pb nb cb (p5) bs 2 hb hnb (by omega)) (Pk.perm (by repeat (first | exact Pk.here | apply Pk.there))) rfl rfl (fun v Gp outs hle661 hh => ?_); obtain ⟨rfl, rfl, j661, rfl, hj661, hk661⟩ := hh; have hpk5 := hj661)
 replace hb := hb.mono hle661
 replace hrt := hrt.mono hle661
 refine sB (qE rfl rfl) rfl rfl (fun h662 => ?_) (fun h662 => ?_)
 refine D9 ?_
 refine I5 rfl ((A1i _)) rfl rfl ?_
 (have hz2 : J8 (.mk 2 []) = 0 := rfl; have hcall := A5Q br pb nb cb bs hnb (.mk 2 []) (p5 + 1) _ _ (S8 (by decide) (by decide)) (N6 _ ⟨by omega, by omega⟩) hb (by omega); refine H4 rfl hcall (Pk.perm (by repeat (first | exact Pk.here | apply Pk.there))) rfl rfl (fun v Gn outs hleG hh => ?_); obtain ⟨pG, hpG1, hpG2, rfl, uG, cuG, rfl, hruG, huaG, husG, huhG⟩ := hh; obtain ⟨quG, duG, euG, rfl, _⟩ := hruG.open; replace hx := hx.mono hleG; replace hb := hb.mono hleG; replace hrt := hrt.mono hleG;)
 refine sQ (qM rfl) rfl ?_
 refine sP (P0 rfl rfl (by omega) (by omega)) rfl rfl ?_
 (obtain ⟨m, rfl⟩ := hfu.pos (.inl (by omega)); have hmB : mB (m + 1) = 3 * mB m + 200 := rfl; have hgm := A1o m; have hcall := ih m (by omega) (depth - 1) uG pG _ pc nc cc _ (hfu.sub (by omega) (huhG 4 (A2J 4 (by decide) (by decide)))) (by omega) (by omega) (by omega) hx hruG hb (by omega); refine H4 rfl hcall (Pk.perm (by repeat (first | exact Pk.here | apply Pk.there))) rfl rfl (fun v Gn outs hley hh => ?_); obtain ⟨py, hpy1, hpy2, rfl, ey, cy, rfl, hry, hsmy, hcy⟩ := hh; obtain ⟨y1, y2, y3, y4, y5, y6, y7, y8, y9, rfl⟩ := hry.nine; replace hx := hx.mono hley; replace hb := hb.mono hley; replace hrt := hrt.mono hley;)
 refine sQ (qM rfl) rfl (sQ (qM rfl) rfl ?_)
 refine I5 rfl ((A1i _)) rfl rfl ?_
 refine sQ (qM rfl) rfl ?_
 refine sP (P0 rfl rfl (by omega) (by omega)) rfl rfl ?_
 (have hcall := ih m (by omega) (depth - 1) (.mk 2 []) py _ pc nc cc _ (hfu.sub (by omega) (A2J 4 (by decide) (by decide))) (by omega) (by omega) (by omega) hx (N6 _ ⟨by omega, by omega⟩) hb (by omega); refine H4 rfl hcall (Pk.perm (by repeat (first | exact Pk.here | apply Pk.there))) rfl rfl (fun v Gn outs hlec hh => ?_); obtain ⟨pc, hpc1, hpc2, rfl, ec, cc, rfl, hrc, hsmc, hcc⟩ := hh; obtain ⟨c1, c2, c3, c4, c5, c6, c7, c8, c9, rfl⟩ := hrc.nine; replace hry := hry.mono hlec; replace hx := hx.mono hlec; replace hb := hb.mono hlec; replace hrt := hrt.mono hlec;)
 (refine L4 (C8 rfl rfl rfl (by omega) (by unfold maxLen; omega) rfl) rfl ?_; rintro _ ⟨b683, rfl⟩)
 refine I5 rfl ((A2k _ _ _ _ _)) rfl rfl ?_
 refine F4 ?_
 refine sD (nS ?_)
 (refine H5 (cs := [y1, y2, y3, y4, y5, y6, y7, y8, y9] ++ [c1, c2, c3, c4, c5, c6, c7, c8, c9]) (by repeat (first | exact Pk.here | apply Pk.there)) (fun G9 hle9 hsl9 hno9 => ?_); have hN := A3O (k := 7) (nm := ⟨⟨[]⟩⟩) ⟨by omega, by omega⟩ (hry.mono hle9) (hrc.mono hle9) hsl9)
 refine tT (rS ?_)
 refine F8 (outs := [rd br pb nb cb pc]) (rC rfl (A1 rfl rfl)) (by repeat (first | exact A0.nil | refine A0.cons Pk.here ?_ | refine A0.cons (Pk.there Pk.here) ?_ | refine A0.cons (Pk.there (Pk.there Pk.here)) ?_ | apply A0.drop)) ?_
 (exact ⟨pc, by omega, by omega, rfl, _, _, rfl, hN, by first | exact O1 (by first | assumption | decide) | exact A0v (by decide) (by assumption) (by assumption) (by assumption) | exact S1 (by decide) (by assumption) (by assumption) | exact K3 (by decide) P8 (by assumption) | exact K3 (by decide) har.small (by assumption) | exact K3 (by decide) P8 (S1 (by decide) (by assumption) (O1 (by decide))) | exact K3 (by decide) A0w (O1 (by decide)) | assumption, by simp only [C6, D4]; omega⟩)
 refine D9 ?_
 (refine L4 (C8 rfl rfl rfl (by omega) (by unfold maxLen; omega) rfl) rfl ?_; rintro _ ⟨b702, rfl⟩)
 (refine T8 (by repeat (first | exact Pk.here | apply Pk.there)) (fun G4 hle4 hsl4 _ => ?_); refine H4 rfl (X9 G4 br pb nb cb (p5 + 1) bs _ _ _ _ (hb.mono hle4) hnb (by omega) hsl4 (by decide)) (Pk.perm (by repeat (first | exact Pk.here | apply Pk.there))) rfl rfl (fun v G7 outs hle7 hh => ?_); obtain ⟨rfl, rfl, hv⟩ := hh; obtain ⟨kn, rfl, hkn⟩ : ∃ k, v = .int .i64 k ∧ E3 k := (by simp only [List.mem_cons, List.not_mem_nil, or_false] at hv; rcases hv with rfl | rfl | rfl | rfl | rfl <;> exact ⟨_, rfl, by unfold E3; omega⟩))
 refine I5 rfl ((A1U _ _)) rfl rfl ?_
 refine F4 ?_
 refine sD (nS (tT ?_))
 refine F8 (outs := [rd br pb nb cb (p5 + 1 + 1)]) (rC rfl (A1 rfl rfl)) (by repeat (first | exact A0.nil | refine A0.cons Pk.here ?_ | refine A0.cons (Pk.there Pk.here) ?_ | refine A0.cons (Pk.there (Pk.there Pk.here)) ?_ | apply A0.drop)) ?_
 (exact ⟨(p5 + 1 + 1), by omega, by omega, rfl, _, _, rfl, A19 _ _ _ ⟨by omega, by omega⟩ (by first | exact ⟨by omega, by omega⟩ | exact hkn), by first | exact O1 (by first | assumption | decide) | exact A0v (by decide) (by assumption) (by assumption) (by assumption) | exact S1 (by decide) (by assumption) (by assumption) | exact K3 (by decide) P8 (by assumption) | exact K3 (by decide) har.small (by assumption) | exact K3 (by decide) P8 (S1 (by decide) (by assumption) (O1 (by decide))) | exact K3 (by decide) A0w (O1 (by decide)) | assumption, by simp only [C6, D4]; omega⟩)
 refine J3 ?_
 (refine L4 (C8 rfl rfl rfl (by omega) (by unfold maxLen; omega) rfl) rfl ?_; rintro _ ⟨b724, rfl⟩)
 (refine T8 (by repeat (first | exact Pk.here | apply Pk.there)) (fun G4 hle4 hsl4 _ => ?_); refine H4 rfl (X9 G4 br pb nb cb p5 bs _ _ _ _ (hb.mono hle4) hnb (by omega) hsl4 (by decide)) (Pk.perm (by repeat (first | exact Pk.here | apply Pk.there))) rfl rfl (fun v G7 outs hle7 hh => ?_); obtain ⟨rfl, rfl, hv⟩ := hh; obtain ⟨kn, rfl, hkn⟩ : ∃ k, v = .int .i64 k ∧ E3 k := (by simp only [List.mem_cons, List.not_mem_nil, or_false] at hv; rcases hv with rfl | rfl | rfl | rfl | rfl <;> exact ⟨_, rfl, by unfold E3; omega⟩))
 refine I5 rfl ((A1U _ _)) rfl rfl ?_
 refine F4 ?_
 refine sD (nS (tT ?_))
 refine F8 (outs := [rd br pb nb cb (p5 + 1)]) (rC rfl (A1 rfl rfl)) (by repeat (first | exact A0.nil | refine A0.cons Pk.here ?_ | refine A0.cons (Pk.there Pk.here) ?_ | refine A0.cons (Pk.there (Pk.there Pk.here)) ?_ | apply A0.drop)) ?_
 (exact ⟨(p5 + 1), by omega, by omega, rfl, _, _, rfl, A19 _ _ _ ⟨by omega, by omega⟩ (by first | exact ⟨by omega, by omega⟩ | exact hkn), by first | exact O1 (by first | assumption | decide) | exact A0v (by decide) (by assumption) (by assumption) (by assumption) | exact S1 (by decide) (by assumption) (by assumption) | exact K3 (by decide) P8 (by assumption) | exact K3 (by decide) har.small (by assumption) | exact K3 (by decide) P8 (S1 (by decide) (by assumption) (O1 (by decide))) | exact K3 (by decide) A0w (O1 (by decide)) | assumption, by simp only [C6, D4]; omega⟩)
def P4 (o : Option Ty) (G : IM) : IM → Value → List A4 → Prop := K5 fun G' v => ∃ t cells, v = .tuple ⟨[.agg ⟨cells⟩, .bool o.isSome]⟩ ∧ B5 G' t cells ∧ E4 t ∧ ∀ u, o = some u → u = t
theorem P4.yes {G G' : IM} {o : Option Ty} {t : Ty} {cells : List Value} (h : o = some t) (hr : B5 G' t cells) (ha : E4 t) : P4 o G G' (.tuple ⟨[.agg ⟨cells⟩, .bool true]⟩) [] := by
 subst h; exact ⟨rfl, t, cells, rfl, hr, ha, fun u h => (by cases h; rfl)⟩
theorem P4.no {G G' : IM} {o : Option Ty} {t : Ty} {cells : List Value} (h : o = none) (hr : B5 G' t cells) (ha : E4 t) : P4 o G G' (.tuple ⟨[.agg ⟨cells⟩, .bool false]⟩) [] := by
 subst h; exact ⟨rfl, t, cells, rfl, hr, ha, fun u h => (by cases h)⟩
theorem P4.mk {G G' : IM} {o : Option Ty} {b : Bool} {t : Ty} {cells : List Value} (h : o = if b = true then some t else none) (hr : B5 G' t cells) (ha : E4 t) : P4 o G G' (.tuple ⟨[.agg ⟨cells⟩, .bool b]⟩) [] := by
 cases b
 ·exact P4.no h hr ha
 ·exact P4.yes h hr ha
theorem B4C {t : Ty} (h : E8 t = true) : E4 t := (A4w h).1
theorem A41 (k : Int) (a b : Ty) (G : IM) (ca cb : List Value) (hk : k = 4 ∨ k = 5) (ha : E4 a) (hb : E4 b) (hra : B5 G a ca) (hrb : B5 G b cb) :
  Fn Tryz.prog 200 [.int .i64 k, .agg ⟨ca⟩, .agg ⟨cb⟩] [] G (K5 fun G' v => ∃ cells, v = .tuple ⟨[.agg ⟨cells⟩, .bool (E8 (.mk k [a, b]))]⟩ ∧ B5 G' (.mk k [a, b]) cells) := by
 obtain ⟨ak, aks⟩ := a
 obtain ⟨bk, bks⟩ := b
 obtain ⟨pa, cca, ea, rfl, _⟩ := hra.open
 obtain ⟨pb, ccb, eb, rfl, _⟩ := hrb.open
 have hki : E3 k := ⟨by omega, by omega⟩
 refine B3 Tryz.func200 rfl Tryz.ntmps200 Tryz.results200 rfl ?_
 intro w0
 refine tS (tR ?_)
 refine sE (C0 rfl rfl) rfl (fun b3 => ?_)
 refine sE (C0 rfl rfl) rfl (fun b4 => ?_)
 refine sE (A7 rfl) rfl (fun b5 => ?_)
 refine sQ (qA rfl) rfl (sD (nS (tS ?_)))
 refine D5 D6 rfl ?_
 refine I3 (i := 0) (l' := [tt,ff,ff,ff,ff,ff,ff,ff,ff]) rfl D1 (qM rfl) rfl (by kernel_rfl) rfl rfl ?_
 refine aL 1 rfl (A1 rfl rfl) rfl ?_
 refine aL 3 rfl (A1 rfl rfl) rfl ?_
 refine T2 (j := 2) (j' := 7) (by kernel_rfl) ?_ ?_
 (refine I9 rfl rfl (V4 _ G _ ha.small hra) rfl rfl rfl (fun v G1 hle1 hh => ?_); obtain ⟨S6, F1, rfl, hs1, hn1⟩ := hh; obtain ⟨p1, c1, rfl, _⟩ := hs1.open; have hC2 := V4 _ G1 _ hb.small (hrb.mono hle1))
 refine T2 (j := 4) (j' := 7) (by kernel_rfl) ?_ ?_
 (refine I9 rfl rfl hC2 rfl rfl rfl (fun v G2 hle2 hh => ?_); obtain ⟨cs2, F2, rfl, hs2, hn2⟩ := hh; obtain ⟨p2, c2, rfl, _⟩ := hs2.open; have hr1 := hs1.R.mono ((C1.le G1 G).trans hle2); have hr2 := hs2.R.mono (C1.le G2 G1))
 refine T2 (j := 5) (j' := 7) (by kernel_rfl) ?_ ?_
 (refine E1 rfl (C8 rfl rfl rfl (by omega) (by unfold maxLen; omega) rfl) rfl rfl ?_; rintro _ ⟨b19, rfl⟩)
 refine aP 6 rfl (T3 rfl rfl) rfl ?_
 refine A2 7 ?_
 (refine E1 rfl (A7 rfl) rfl rfl ?_; rintro _ ⟨b22, rfl⟩)
 refine A2 8 ?_
 refine H7 rfl ?_
 refine C2 (nS (tS ?_))
 (have hr1' := hr1; refine A1y (by repeat (first | exact Pk.here | apply Pk.there)) (fun G5 hle5 hsl5 hno5 => ?_); have hRT : B5 G5 (.mk k [.mk ak aks, .mk bk bks]) _ := E6.ty (ts := [.mk ak aks, .mk bk bks]) (es := [[.int .i64 ak, .slice p1 aks.length c1], [.int .i64 bk, .slice p2 bks.length c2]]) ⟨_, _, rfl, hr1.mono hle5, _, _, rfl, hr2.mono hle5, rfl⟩ rfl hsl5 hki; have hV := A1S _ G5 _ hRT; refine D5 D6 rfl ?_)
 refine O9 (i := 0) (l' := [tt,ff,ff,ff,ff]) rfl D1 (A1 rfl rfl) rfl (by kernel_rfl) rfl rfl ?_
 refine aL 1 rfl (A1 rfl rfl) rfl ?_
 refine A2 2 ?_
 refine O5 rfl rfl (hV) rfl rfl rfl ?_
 refine A2 3 ?_
 refine H7 rfl ?_
 refine aP 4 rfl (qA rfl) rfl ?_
 refine C2 (nS (tT ?_))
 refine I4 (rC rfl (A1 rfl rfl)) (rT rfl) ?_
 (exact ⟨rfl, _, rfl, hRT⟩)
 (refine E1 rfl (A7 rfl) rfl rfl ?_; rintro _ ⟨b41, rfl⟩)
 refine A2 5 ?_
 (refine E1 rfl (C8 rfl rfl rfl (by omega) (by unfold maxLen; omega) rfl) rfl rfl ?_; rintro _ ⟨b43, rfl⟩)
 refine aP 6 rfl (T3 rfl rfl) rfl ?_
 refine A2 8 ?_
 refine H7 rfl ?_
 refine C2 (nS (tS ?_))
 (have hr1' := hr1; refine A1y (by repeat (first | exact Pk.here | apply Pk.there)) (fun G5 hle5 hsl5 hno5 => ?_); have hRT : B5 G5 (.mk k [.mk ak aks, .mk bk bks]) _ := E6.ty (ts := [.mk ak aks, .mk bk bks]) (es := [[.int .i64 ak, .slice p1 aks.length c1], [.int .i64 bk, .slice p2 bks.length c2]]) ⟨_, _, rfl, hr1.mono hle5, _, _, rfl, hr2.mono hle5, rfl⟩ rfl hsl5 hki; have hV := A1S _ G5 _ hRT; refine D5 D6 rfl ?_)
 refine O9 (i := 0) (l' := [tt,ff,ff,ff,ff]) rfl D1 (A1 rfl rfl) rfl (by kernel_rfl) rfl rfl ?_
 refine aL 1 rfl (A1 rfl rfl) rfl ?_
 refine A2 2 ?_
 refine O5 rfl rfl (hV) rfl rfl rfl ?_
 refine A2 3 ?_
 refine H7 rfl ?_
 refine aP 4 rfl (qA rfl) rfl ?_
 refine C2 (nS (tT ?_))
 refine I4 (rC rfl (A1 rfl rfl)) (rT rfl) ?_
 (exact ⟨rfl, _, rfl, hRT⟩)
 (refine E1 rfl (A7 rfl) rfl rfl ?_; rintro _ ⟨b63, rfl⟩)
 refine A2 4 ?_
 (refine I9 rfl rfl hC2 rfl rfl rfl (fun v G2 hle2 hh => ?_); obtain ⟨cs2, F2, rfl, hs2, hn2⟩ := hh; obtain ⟨p2, c2, rfl, _⟩ := hs2.open; have hr1 := hs1.R.mono ((C1.le G1 G).trans hle2); have hr2 := hs2.R.mono (C1.le G2 G1))
 refine A2 5 ?_
 (refine E1 rfl (C8 rfl rfl rfl (by omega) (by unfold maxLen; omega) rfl) rfl rfl ?_; rintro _ ⟨b67, rfl⟩)
 refine aP 6 rfl (T3 rfl rfl) rfl ?_
 refine A2 8 ?_
 refine H7 rfl ?_
 refine C2 (nS (tS ?_))
 (have hr1' := hr1; refine A1y (by repeat (first | exact Pk.here | apply Pk.there)) (fun G5 hle5 hsl5 hno5 => ?_); have hRT : B5 G5 (.mk k [.mk ak aks, .mk bk bks]) _ := E6.ty (ts := [.mk ak aks, .mk bk bks]) (es := [[.int .i64 ak, .slice p1 aks.length c1], [.int .i64 bk, .slice p2 bks.length c2]]) ⟨_, _, rfl, hr1.mono hle5, _, _, rfl, hr2.mono hle5, rfl⟩ rfl hsl5 hki; have hV := A1S _ G5 _ hRT; refine D5 D6 rfl ?_)
 refine O9 (i := 0) (l' := [tt,ff,ff,ff,ff]) rfl D1 (A1 rfl rfl) rfl (by kernel_rfl) rfl rfl ?_
 refine aL 1 rfl (A1 rfl rfl) rfl ?_
 refine A2 2 ?_
 refine O5 rfl rfl (hV) rfl rfl rfl ?_
 refine A2 3 ?_
 refine H7 rfl ?_
 refine aP 4 rfl (qA rfl) rfl ?_
 refine C2 (nS (tT ?_))
 refine I4 (rC rfl (A1 rfl rfl)) (rT rfl) ?_
 (exact ⟨rfl, _, rfl, hRT⟩)
 (refine E1 rfl (A7 rfl) rfl rfl ?_; rintro _ ⟨b87, rfl⟩)
 refine A2 2 ?_
 (refine I9 rfl rfl (V4 _ G _ ha.small hra) rfl rfl rfl (fun v G1 hle1 hh => ?_); obtain ⟨S6, F1, rfl, hs1, hn1⟩ := hh; obtain ⟨p1, c1, rfl, _⟩ := hs1.open; have hC2 := V4 _ G1 _ hb.small (hrb.mono hle1))
 refine A2 4 ?_
 (refine I9 rfl rfl hC2 rfl rfl rfl (fun v G2 hle2 hh => ?_); obtain ⟨cs2, F2, rfl, hs2, hn2⟩ := hh; obtain ⟨p2, c2, rfl, _⟩ := hs2.open; have hr1 := hs1.R.mono ((C1.le G1 G).trans hle2); have hr2 := hs2.R.mono (C1.le G2 G1))
 refine A2 5 ?_
 (refine E1 rfl (C8 rfl rfl rfl (by omega) (by unfold maxLen; omega) rfl) rfl rfl ?_; rintro _ ⟨b93, rfl⟩)
 refine aP 6 rfl (T3 rfl rfl) rfl ?_
 refine A2 8 ?_
 refine H7 rfl ?_
 refine C2 (nS (tS ?_))
 (have hr1' := hr1; refine A1y (by repeat (first | exact Pk.here | apply Pk.there)) (fun G5 hle5 hsl5 hno5 => ?_); have hRT : B5 G5 (.mk k [.mk ak aks, .mk bk bks]) _ := E6.ty (ts := [.mk ak aks, .mk bk bks]) (es := [[.int .i64 ak, .slice p1 aks.length c1], [.int .i64 bk, .slice p2 bks.length c2]]) ⟨_, _, rfl, hr1.mono hle5, _, _, rfl, hr2.mono hle5, rfl⟩ rfl hsl5 hki; have hV := A1S _ G5 _ hRT; refine D5 D6 rfl ?_)
 refine O9 (i := 0) (l' := [tt,ff,ff,ff,ff]) rfl D1 (A1 rfl rfl) rfl (by kernel_rfl) rfl rfl ?_
 refine aL 1 rfl (A1 rfl rfl) rfl ?_
 refine A2 2 ?_
 refine O5 rfl rfl (hV) rfl rfl rfl ?_
 refine A2 3 ?_
 refine H7 rfl ?_
 refine aP 4 rfl (qA rfl) rfl ?_
 refine C2 (nS (tT ?_))
 refine I4 (rC rfl (A1 rfl rfl)) (rT rfl) ?_
 (exact ⟨rfl, _, rfl, hRT⟩)
theorem A6r (k : Int) (t : Ty) (G : IM) (cells : List Value) (hk : k = 4 ∨ k = 5) (ha : E4 t) (hr : B5 G t cells) :
  Fn Tryz.prog 202 [.int .i64 k, .agg ⟨cells⟩] [] G (A8p k t G) := by
 obtain ⟨tk, ks⟩ := t
 have ha2 := ha
 rw [E4] at ha2
 have hkid := ha.kid
 obtain ⟨p, c, es, rfl, htk, hsl, hkl⟩ := hr.open
 simp only [Ty.k, Ty.ks] at htk hsl hkl ⊢
 refine B3 Tryz.func202 rfl Tryz.ntmps202 Tryz.results202 rfl ?_
 intro w0
 refine tS (tR ?_)
 refine sE (C0 rfl rfl) rfl (fun b3 => ?_)
 refine sE (A7 rfl) rfl (fun b4 => ?_)
 refine sE (A7 rfl) rfl (fun b5 => ?_)
 refine D8 ?_
 refine sB (qE rfl rfl) rfl rfl (fun h14 => ?_) (fun h14 => ?_)
 refine sD (nS (qT rfl (tS (tR ?_))))
 refine I5 rfl ((A1e _)) rfl rfl ?_
 refine I5 rfl ((A1e _)) rfl rfl ?_
 refine F4 ?_
 refine F4 ?_
 refine sQ (qA rfl) rfl (sD (nS (tT (rS ?_))))
 refine C7 (rC rfl (A1 rfl rfl)) (rC rfl (A1 rfl rfl)) (rT rfl) ?_
 (refine ⟨rfl, _, _, _, _, ?_, A0A _, A0A _, A3q, A3q, ?_⟩ <;> rw [A1I, if_neg (by omega), if_pos (by omega)] <;> first | rfl | (intro p hp; cases hp; rfl))
 refine J2 ?_
 refine sB (M8 rfl rfl) rfl rfl (fun h42 => ?_) (fun h42 => ?_)
 refine L5 ?_
 refine C7 (rC rfl (A1 rfl rfl)) (rC rfl (A1 rfl rfl)) (rT rfl) ?_
 (refine ⟨rfl, A8, _, A8, _, ?_, N6 _ ⟨by omega, by omega⟩, N6 _ ⟨by omega, by omega⟩, S8 (by omega) (by omega), S8 (by omega) (by omega), ?_⟩ <;> rw [A1I, if_neg (by omega), if_neg (by omega)] <;> first | rfl | (intro p hp; cases hp))
 refine sD (nS (cF rfl (tK (nS (tS ?_)))))
 (have hlen : ks.length = 2 := ha2.1 (by omega); obtain ⟨b, o, q0, d0, hp0, hat0, hre0, hg0⟩ := hsl.kidTy hkl (i := 0) (by omega) (by omega); obtain ⟨b', o', q1, d1, hp1, hat1, hre1, hg1⟩ := hsl.kidTy hkl (i := 1) (by omega) (by omega); subst hp0; cases hp1; have hC1 := V4 _ G _ (hkid _ (List.getElem_mem (by omega))).small hre0; refine D5 D6 rfl ?_)
 refine I3 (i := 0) (l' := [tt,ff,ff,ff,ff,ff,ff,ff,ff,ff,ff,ff,ff]) rfl D1 (B0 rfl) rfl (by kernel_rfl) rfl rfl ?_
 refine aL 1 rfl (B9 rfl rfl) rfl ?_
 refine aP 2 rfl (B2 (j := 0) rfl rfl rfl (by omega)) rfl ?_
 refine aL 3 rfl (A3 rfl rfl (hat0 _) rfl) rfl ?_
 refine aP 5 rfl (B0 rfl) rfl ?_
 refine aL 6 rfl (B9 rfl rfl) rfl ?_
 refine aP 7 rfl (B2 (j := 1) rfl rfl rfl (by omega)) rfl ?_
 refine aL 8 rfl (A3 rfl rfl (hat1 _) rfl) rfl ?_
 refine A2 4 ?_
 (refine I9 rfl rfl hC1 rfl rfl rfl (fun v G1 hle1 hh => ?_); obtain ⟨S6, F1, rfl, hs1, hn1⟩ := hh; obtain ⟨p1, c1, rfl, _⟩ := hs1.open; have hC2 := V4 _ G1 _ (hkid _ (List.getElem_mem (by omega))).small (hre1.mono hle1))
 refine A2 9 ?_
 (refine I9 rfl rfl hC2 rfl rfl rfl (fun v G2 hle2 hh => ?_); obtain ⟨cs2, F2, rfl, hs2, hn2⟩ := hh; obtain ⟨p2, c2, rfl, _⟩ := hs2.open; have hr1 := hs1.R.mono ((C1.le G1 G).trans hle2); have hr2 := hs2.R.mono (C1.le G2 G1))
 refine A2 10 ?_
 refine H7 rfl ?_
 refine A2 11 ?_
 refine Q4 rfl rfl rfl rfl rfl rfl rfl rfl (by decide +kernel) (by repeat first | exact Sw.here | apply Sw.there) (by rfl) ?_
 refine aP 12 rfl (qA rfl) rfl ?_
 refine C2 (nS (tT ?_))
 refine C7 (rC rfl (A1 rfl rfl)) (rC rfl (A1 rfl rfl)) (rT rfl) ?_
 (refine ⟨rfl, _, _, _, _, ?_, hr1, hr2, hkid _ (List.getElem_mem (by omega)), hkid _ (List.getElem_mem (by omega)), ?_⟩ <;> rw [A1I, if_pos (by omega)] <;> first | rfl | (intro p hp; cases hp; simp [hlen]))
theorem B4D (G : IM) (cx : Cx) (hv : cxV cx) (p : Option Addr) (n c : Nat) (nm : ByteArray) (hx : T1 G cx p n c) :
  Fn Tryz.prog 197 [.slice p n c, .string nm] [] G (P4 (Z9 cx nm) G) := by
 have hn := hx.le
 refine B3 Tryz.func197 rfl Tryz.ntmps197 Tryz.results197 rfl ?_
 intro w0
 refine tS (tR ?_)
 refine sE (A7 rfl) rfl (fun b3 => ?_)
 refine D8 ?_
 refine sP (P0 rfl rfl (by omega) (by omega)) rfl rfl ?_
 refine sQ (qA rfl) rfl (sD (nS ?_))
 refine B7 ?_
 (refine L3 (fun (i : Nat) => ⟨[(6, .int .i64 ((i : Int) - 1)), (0, .slice p n c), (1, .string nm), (4, .pointer (some ⟨b3, 0, none⟩))], [.blk b3 [.int .i64 0, .slice none 0 0]], G⟩) (fun i => i ≤ n ∧ Z9 cx nm = X2 cx nm i) (fun i => i) n ?_ ?_ ?_)
 exact D3
 (exact ⟨Nat.le_refl _, by unfold Z9; rw [hx.1]⟩)
 (rintro i ⟨hi, hlk⟩)
 refine tS (tS (tR (sQ (qM rfl) rfl ?_)))
 refine sB (A0R rfl rfl) rfl rfl (fun h25 => ?_) (fun h25 => ?_)
 refine sD (nS (qT rfl (tK (nS (tS ?_)))))
 (show I2 _ _ (.block 1 _) _ _; obtain ⟨j, rfl⟩ : ∃ j, i = j + 1 := ⟨i - 1, by omega⟩; rw [show ((j + 1 : Nat) : Int) - 1 = (j : Int) from by omega]; obtain ⟨b, o, nm1, t1, q1, d1, hcx, rfl, hat, hr1, hgb⟩ := hx.get (i := j) (by omega); have ha1 := B4C (hv _ (List.mem_of_getElem? hcx)); refine B7 ?_)
 refine tS (tR (sQ (qM rfl) rfl (sQ (qM rfl) rfl ?_)))
 refine sP (B2 rfl rfl rfl (by omega)) rfl rfl ?_
 refine sQ (qF rfl) rfl ?_
 refine sL (A0h rfl rfl ((hat _).sub (j := 0) rfl)) rfl rfl ?_
 refine sQ (qM rfl) rfl ?_
 refine sB (A1v rfl rfl) rfl rfl (fun h41 => ?_) (fun h41 => ?_)
 refine C4 ?_
 refine sP (B2 rfl rfl rfl (by omega)) rfl rfl ?_
 refine sQ (qF rfl) rfl ?_
 refine sL (A3 rfl rfl (hat _).drop rfl) rfl rfl ?_
 (refine E5 rfl (V4 _ G _ ha1.small hr1) rfl rfl (fun v G1 hle1 hh => ?_); obtain ⟨S6, F1, rfl, hs1', hn1⟩ := hh; obtain ⟨p1, c1, rfl, _⟩ := hs1'.open; have hrr := hs1'.R.mono (C1.le G1 G))
 refine I7 ?_
 refine I4 (rC rfl (A1 rfl rfl)) (rT rfl) ?_
 (exact P4.yes (by rw [hlk]; exact A5E hcx (by assumption)) hrr ha1)
 refine D8 ?_
 refine sP (P0 rfl rfl (by omega) (by omega)) rfl rfl ?_
 refine sQ (qA rfl) rfl (sD ?_)
 refine K7 j ?_ ?_ ?_
 exact D3
 (exact ⟨by omega, by rw [hlk]; exact A5F hcx (by assumption)⟩)
 (show _ < _ + 1; omega)
 refine I8 ?_
 refine I4 (rC rfl (A1 rfl rfl)) (rT rfl) ?_
 (obtain rfl : i = 0 := (by omega); exact P4.no (by rw [hlk]; rfl) (N6 _ ⟨by omega, by omega⟩) (S8 (by omega) (by omega)))
theorem A42 : ∀ (xs ys : List Ty), xs.length = ys.length → (S0 xs ys).length = xs.length
 | [], [], _ => rfl
 | a :: xs, b :: ys, h => by simp only [S0, List.length_cons]; rw [A42 xs ys (by simpa using h)]
 | [], b :: ys, h => by simp at h
 | a :: xs, [], h => by simp at h
theorem A6s : ∀ (xs ys : List Ty) (i : Nat) (h : i < xs.length) (h' : i < ys.length) (hl : i < (S0 xs ys).length), (S0 xs ys)[i] = T6 xs[i] ys[i]
 | [], _, i, h, _, _ => by simp at h
 | a :: xs, [], i, _, h', _ => by simp at h'
 | a :: xs, b :: ys, 0, _, _, _ => by simp [S0]
 | a :: xs, b :: ys, i + 1, h, h', hl => by
  simp only [S0, List.getElem_cons_succ]
  exact A6s xs ys i (by simpa using h) (by simpa using h') _
theorem B4E {xs ys : List Ty} {i : Nat} (hl : xs.length = ys.length) (h : i < xs.length) : (S0 xs ys).take (i + 1) = (S0 xs ys).take i ++ [T6 xs[i] (ys[i]'(by omega))] := by
 rw [List.take_succ_eq_append_getElem (by rw [A42 _ _ hl]; exact h), A6s _ _ i h (by omega)]
theorem B4F : ∀ (a b : Ty) (G : IM) (ca cb : List Value), J6 a b = true → E4 a → E4 b → B5 G a ca → B5 G b cb → Fn Tryz.prog 234 [.agg ⟨ca⟩, .agg ⟨cb⟩] [] G (K5 fun G' v => ∃ cells, v = .agg ⟨cells⟩ ∧ B5 G' (T6 a b) cells) := by
 refine Ty.ind fun ak aks ih b G ca cb hc ha hb hra hrb => ?_
 obtain ⟨bk, bks⟩ := b
 have hka := ha.kid
 have hkb := hb.kid
 have hca := V4 _ G _ ha.small hra
 have hcb := V4 _ G _ hb.small hrb
 have hcc : ak ≠ 1 → bk ≠ 1 → aks.length = bks.length ∧ ∀ i, (h : i < aks.length) → (h' : i < bks.length) → J6 aks[i] bks[i] = true := by
  intro h1 h2
  rw [S2, decide_eq_false h1, decide_eq_false h2] at hc
  simp only [Bool.false_or, Bool.and_eq_true, decide_eq_true_eq] at hc
  exact (A1P _ _).1 hc.2
 rw [A00]
 obtain ⟨pa, cca, ea, rfl, hak, hsla, hkla⟩ := hra.open
 obtain ⟨pb, ccb, eb, rfl, hbk, hslb, hklb⟩ := hrb.open
 simp only [Ty.k, Ty.ks] at hak hsla hkla hbk hslb hklb ⊢
 have hna := hsla.le
 have hnb := hslb.le
 have hl2 := ha.two
 refine B3 Tryz.func234 rfl Tryz.ntmps234 Tryz.results234 rfl ?_
 intro w0
 refine tS (tR ?_)
 refine sE (C0 rfl rfl) rfl (fun b3 => ?_)
 refine sE (C0 rfl rfl) rfl (fun b4 => ?_)
 refine sE (A7 rfl) rfl (fun b5 => ?_)
 refine C4 ?_
 refine sB (qE rfl rfl) rfl rfl (fun h13 => ?_) (fun h13 => ?_)
 refine sD (nS (qT rfl (tS (tR (sL (A1 rfl rfl) rfl rfl ?_)))))
 (refine E5 rfl (by first | exact hcb | exact hca) rfl rfl (fun v G1 hle1 hh => ?_); obtain ⟨S6, F1, rfl, hs1, hn1⟩ := hh; obtain ⟨p1, c1, rfl, _⟩ := hs1.open; have hr1 := hs1.R.mono (C1.le G1 G))
 refine F4 ?_
 refine sD (nS (tT (rS ?_)))
 refine E0 (rC rfl (A1 rfl rfl)) ?_
 (rw [if_pos (by omega)]; exact ⟨rfl, _, rfl, hr1⟩)
 refine I7 ?_
 refine sB (qE rfl rfl) rfl rfl (fun h38 => ?_) (fun h38 => ?_)
 refine sD (nS (qT rfl (tS (tR (sL (A1 rfl rfl) rfl rfl ?_)))))
 (refine E5 rfl (by first | exact hcb | exact hca) rfl rfl (fun v G1 hle1 hh => ?_); obtain ⟨S6, F1, rfl, hs1, hn1⟩ := hh; obtain ⟨p1, c1, rfl, _⟩ := hs1.open; have hr1 := hs1.R.mono (C1.le G1 G))
 refine F4 ?_
 refine sD (nS (tT (rS ?_)))
 refine E0 (rC rfl (A1 rfl rfl)) ?_
 (rw [if_neg (by omega), if_pos (by omega)]; exact ⟨rfl, _, rfl, hr1⟩)
 refine I7 ?_
 refine sE (A7 rfl) rfl (fun b63 => ?_)
 refine F4 ?_
 refine sD (nS (tS (tS (tR (sQ (qA rfl) rfl (sD (nS ?_)))))))
 refine B7 ?_
 (obtain ⟨hlab, hcab⟩ := hcc (by omega) (by omega); refine U5 25 2 ?_; refine L3 (fun (x : Nat × Option Addr × Nat × List Ty × List (List Value) × IM) => ⟨[(6, .int .i64 x.1), (5, .pointer (some ⟨b63, 0, none⟩)), (4, .pointer (some ⟨b5, 0, none⟩)), (2, .pointer (some ⟨b3, 0, none⟩)), (3, .pointer (some ⟨b4, 0, none⟩))], [.blk b63 [.int .i64 ak, .slice x.2.1 x.1 x.2.2.1], .slc x.2.1 x.2.2.1 25 2 x.1 x.2.2.2.2.1.flatten, .blk b5 [.int .i64 0, .slice none 0 0], .blk b4 [.int .i64 bk, .slice pb bks.length ccb], .blk b3 [.int .i64 ak, .slice pa aks.length cca]], x.2.2.2.2.2⟩) (fun x => x.1 ≤ aks.length ∧ B6 G x.2.2.2.2.2 ∧ x.2.2.2.1.length = x.1 ∧ E6 x.2.2.2.2.2 x.2.2.2.1 x.2.2.2.2.1 ∧ x.2.2.2.1 = (S0 aks bks).take x.1) (fun x => aks.length - x.1) (0, none, 0, [], [], G) ?_ ?_ ?_)
 (simp only [I6]; exact D3)
 (exact ⟨by simp, B6.refl _, rfl, by simp [E6], rfl⟩)
 (rintro ⟨i, pn, cn, us, es', Gi⟩ ⟨hi, hle, hlu, hst, hus⟩; simp only [] at hi hle hlu hst hus ⊢; replace hsla := hsla.mono hle; replace hkla := hkla.mono hle; replace hslb := hslb.mono hle; replace hklb := hklb.mono hle)
 refine C4 ?_
 refine sB (J9 rfl rfl) rfl rfl (fun h85 => ?_) (fun h85 => ?_)
 refine sD (nS (qT rfl (tK (nS (tS ?_)))))
 refine B7 ?_
 (obtain ⟨b, o, q0, d0, hp0, hat0, hre0, hg0⟩ := hsla.kidTy hkla (i := i) (by omega) (by omega); obtain ⟨b', o', q1, d1, hp1, hat1, hre1, hg1⟩ := hslb.kidTy hklb (i := i) (by omega) (by omega); subst hp0; subst hp1; have hih := ih aks[i] (List.getElem_mem (by omega)) bks[i] Gi _ _ (hcab i (by omega) (by omega)) (hka _ (List.getElem_mem (by omega))) (hkb _ (List.getElem_mem (by omega))) hre0 hre1; refine D5 D6 rfl ?_)
 refine I3 (i := 0) (l' := [tt,ff,ff,ff,ff,ff,ff,ff,ff,ff,ff,ff,ff,ff,ff,ff,ff]) rfl D1 (B0 rfl) rfl (by kernel_rfl) rfl rfl ?_
 refine aL 1 rfl (B9 rfl rfl) rfl ?_
 refine aP 2 rfl (B0 rfl) rfl ?_
 refine aL 3 rfl (B9 rfl rfl) rfl ?_
 refine aP 4 rfl (qM rfl) rfl ?_
 refine aP 5 rfl (B2 rfl rfl rfl (by omega)) rfl ?_
 refine aL 6 rfl (A3 rfl rfl (hat0 _) rfl) rfl ?_
 refine aP 7 rfl (B0 rfl) rfl ?_
 refine aL 8 rfl (B9 rfl rfl) rfl ?_
 refine aP 9 rfl (qM rfl) rfl ?_
 refine aP 10 rfl (B2 rfl rfl rfl (by omega)) rfl ?_
 refine aL 11 rfl (A3 rfl rfl (hat1 _) rfl) rfl ?_
 refine A2 12 ?_
 (refine I9 rfl rfl hih rfl rfl rfl (fun v G1 hle1 hh => ?_); obtain ⟨cells', rfl, hru⟩ := hh; generalize hu : T6 aks[i] bks[i] = u at hru; obtain ⟨p3, c3, es3, rfl, _⟩ := hru.open)
 refine A2 13 ?_
 (refine E1 rfl (C8 rfl rfl rfl (by omega) (by unfold maxLen; omega) rfl) rfl rfl ?_; rintro _ ⟨b109, rfl⟩)
 refine A2 14 ?_
 refine Q5 rfl rfl rfl rfl rfl rfl (fun _ _ => by repeat (first | exact Sw.here | apply Sw.there)) (P5 (by repeat first | exact mH | apply mT)) rfl (by simp [Value.oneCell']) (by unfold maxLen; omega) (by omega) rfl rfl (by repeat (first | exact A5.nil | apply A5.dep (by decide +kernel) | apply A5.blk (by decide +kernel) (by repeat (first | exact Pk.here | apply Pk.there)) (by repeat first | exact mH | apply mT))) (fun pn' cn' => ?_)
 refine aP 15 rfl (B0 rfl) rfl ?_
 refine A2 16 ?_
 refine Q4 rfl rfl rfl rfl rfl rfl rfl rfl (by decide +kernel) (by repeat first | exact Sw.here | apply Sw.there) (by rfl) ?_
 refine C2 (N3 (nS (tR (sQ (qM rfl) rfl ?_))))
 refine sP (K4 rfl rfl (by omega) (by omega)) rfl rfl ?_
 refine sQ (qA rfl) rfl (sD ?_)
 refine K7 (i + 1, pn', cn', us ++ [u], es' ++ [[.int .i64 u.k, .slice p3 u.ks.length c3]], G1) ?_ ?_ ?_
 (simp only [I6]; exact D3)
 (dsimp only; exact ⟨by omega, hle.trans hle1, by simp [hlu], E6.snoc (hst.mono hle1) hru, by rw [B4E hlab (by omega), ← hus, hu]⟩)
 (show aks.length - (i + 1) < aks.length - i; omega)
 refine L5 ?_
 (refine H5 (by repeat (first | exact Pk.here | apply Pk.there)) (fun G2 hle2 hsl2 hno2 => ?_); obtain rfl : i = aks.length := (by omega))
 refine tT ?_
 refine E0 (rC rfl (A1 rfl rfl)) ?_
 (rw [List.take_of_length_le (by rw [A42 _ _ hlab]; omega)] at hus; rw [if_neg (by omega), if_neg (by omega), ← hus]; exact ⟨rfl, _, rfl, (hst.mono hle2).ty hlu hsl2 hak⟩)
theorem gD {ts : List Ty} {i : Nat} (h : i < ts.length) : ts.getD i A8 = ts[i] := by rw [List.getD_eq_getElem?_getD, List.getElem?_eq_getElem h, Option.getD_some]
section
variable {cx : Cx} {k : Int} {nm : ByteArray} {ty : Ty} {ts : List Ty}
theorem A9B (h : 1 < ts.length) : W6 cx 6 nm ty ts = match R6 4 ts[0] with | some (a, b) => if J6 ts[1] a = true then some b else none | none => none := by
 unfold W6 N5
 rw [gD (i := 0) (by omega), gD (i := 1) h]
 simp only [show ¬((6 : Int) = 1) by decide, show ¬((6 : Int) = 2) by decide, show ¬((6 : Int) = 3 ∨ (6 : Int) = 4) by decide, show ¬((6 : Int) = 5) by decide, if_false, if_true]
 cases R6 4 ts[0] with
 | none => rfl
 | some p =>
  obtain ⟨a, b⟩ := p
  by_cases hc : J6 ts[1] a = true
  ·simp [hc]
  ·simp [hc]
theorem A43 (hk : k = 7 ∨ k = 8) (h : 1 < ts.length) : W6 cx k nm ty ts = if J6 ts[0] S3 = true ∧ J6 ts[1] S3 = true then some (if k = 8 then X1 else S3) else none := by
 unfold W6 N5
 rw [gD (i := 0) (by omega), gD (i := 1) h, if_neg (by omega), if_neg (by omega), if_neg (by omega), if_neg (by omega), if_neg (by omega), if_pos hk]
 by_cases hc : J6 ts[0] S3 = true ∧ J6 ts[1] S3 = true
 ·rw [if_pos hc, if_pos hc]; simp only; rw [if_neg (by omega)]
 ·rw [if_neg hc, if_neg hc]
theorem A9C (h : 2 < ts.length) : W6 cx 9 nm ty ts = if J6 ts[0] X1 = true ∧ J6 ts[1] ts[2] = true then some (T6 ts[1] ts[2]) else none := by
 unfold W6 N5
 rw [gD (i := 0) (by omega), gD (i := 1) (by omega), gD (i := 2) h, if_neg (by omega), if_neg (by omega), if_neg (by omega), if_neg (by omega), if_neg (by omega), if_neg (by omega), if_pos rfl]
 by_cases hc : J6 ts[0] X1 = true ∧ J6 ts[1] ts[2] = true
 ·rw [if_pos hc, if_pos hc]; simp
 ·rw [if_neg hc, if_neg hc]
theorem B4G (h : 1 < ts.length) : W6 cx 10 nm ty ts = if E8 (.mk 5 [ts[0], ts[1]]) = true then some (.mk 5 [ts[0], ts[1]]) else none := by
 unfold W6 N5
 rw [gD (i := 0) (by omega), gD (i := 1) h, if_neg (by omega), if_neg (by omega), if_neg (by omega), if_neg (by omega), if_neg (by omega), if_neg (by omega), if_neg (by omega), if_pos rfl]
 cases hv : E8 (.mk 5 [ts[0], ts[1]]) <;> simp [hv]
theorem B4H (h : 0 < ts.length) : W6 cx 13 nm ty ts = if J6 ts[0] ty = true then some ty else none := by
 unfold W6 N5
 rw [gD (i := 0) h, if_neg (by omega), if_neg (by omega), if_neg (by omega), if_neg (by omega), if_neg (by omega), if_neg (by omega), if_neg (by omega), if_neg (by omega), if_pos rfl]
 by_cases hc : J6 ts[0] ty = true
 ·rw [if_pos hc, if_pos hc]; simp
 ·rw [if_neg hc, if_neg hc]
theorem A44 (hk : k = 11 ∨ k = 12) (h : 0 < ts.length) : W6 cx k nm ty ts = match R6 5 ts[0] with | some (a, b) => some (if k = 12 then b else a) | none => none := by
 unfold W6 N5
 rw [gD (i := 0) h, if_neg (by omega), if_neg (by omega), if_neg (by omega), if_neg (by omega), if_neg (by omega), if_neg (by omega), if_neg (by omega), if_neg (by omega), if_neg (by omega)]
 cases R6 5 ts[0] with
 | none => rfl
 | some p =>
  obtain ⟨a, b⟩ := p
  simp only
  rw [if_neg (by omega)]
end
theorem B4I : ∀ (a b : Ty), J6 a b = true → E4 a → E4 b → E4 (T6 a b) := by
 refine Ty.ind fun k ks ih b hc ha hb => ?_
 obtain ⟨k', ks'⟩ := b
 rw [A00]
 split
 ·exact hb
 ·split
  ·exact ha
  ·rw [S2] at hc
   simp only [Bool.or_eq_true, Bool.and_eq_true, decide_eq_true_eq] at hc
   obtain ⟨hk, hl⟩ : k = k' ∧ O0 ks ks' = true := by
    rcases hc with (h | h) | h
    ·contradiction
    ·contradiction
    ·exact h
   obtain ⟨hll, hcc⟩ := (A1P _ _).1 hl
   have hlen := A42 ks ks' hll
   refine A76 ha hlen fun u hu => ?_
   obtain ⟨i, hi, rfl⟩ := List.mem_iff_getElem.1 hu
   rw [A6s ks ks' i (by omega) (by omega)]
   exact ih _ (List.getElem_mem _) _ (hcc i (by omega) (by omega)) (ha.kid _ (List.getElem_mem _)) (hb.kid _ (List.getElem_mem _))
theorem B4J (cx : Cx) (k : Int) (nm : ByteArray) (num : Int) (ty fr : Ty) (lb : Int) (ks : List Tm) (ts : List Ty) (G : IM) (cells : List Value) (p : Option Addr) (c : Nat) (es : List (List Value))
  (hops : C5 k = ts.length) (hk6 : 6 ≤ k ∧ k ≤ 13) (hty : E4 ty) (hr : A6 G (.mk k nm num ty fr lb ks) cells) (hsl : C9 G p ts.length c 2 es) (hkl : E6 G ts es) (har : ∀ t ∈ ts, E4 t) :
  Fn Tryz.prog 201 [.agg ⟨cells⟩, .slice p ts.length c] [] G (P4 (W6 cx k nm ty ts) G) := by
 have hone := hr.one
 have hop := A4v hops
 have ha0 := fun h : 0 < ts.length => har _ (List.getElem_mem h)
 have ha1 := fun h : 1 < ts.length => har _ (List.getElem_mem h)
 have ha2 := fun h : 2 < ts.length => har _ (List.getElem_mem h)
 obtain ⟨tk, tks⟩ := ty
 obtain ⟨fk, fks⟩ := fr
 obtain ⟨pt, ct, pf, cf, pk, ck, ek, rfl, hk, hnum, hlb, hrty, hrfr, _, _⟩ := hr.open9
 refine B3 Tryz.func201 rfl Tryz.ntmps201 Tryz.results201 rfl ?_
 intro w0
 refine tS (tR ?_)
 refine sE (C0 rfl rfl) rfl (fun b3 => ?_)
 refine sE (A7 rfl) rfl (fun b4 => ?_)
 refine I7 ?_
 refine B7 (tS (tR (sB (qE rfl rfl) rfl rfl (fun h18 => ?_) (fun h18 => ?_))))
 refine C4 ?_
 (have hl2 : ts.length = 2 := hop.1 (by omega); obtain ⟨b0, o0, q0, d0, hp0, hat0, hre0, hg0⟩ := hsl.kidTy hkl (i := 0) (by omega) (by omega); obtain ⟨b1, o1, q1, d1, hp1, hat1, hre1, hg1⟩ := hsl.kidTy hkl (i := 1) (by omega) (by omega); cases hp0; cases hp1; refine sP (B2 (j := 0) rfl rfl rfl (by omega)) rfl rfl ?_)
 refine sL (A3 rfl rfl (hat0 _) rfl) rfl rfl ?_
 focus (refine E5 rfl (A6r 4 ts[0] G _ (.inl rfl) (ha0 (by omega)) hre0) rfl rfl (fun v G1 hle1 hh => ?_); obtain ⟨ma, mca, mb, mcb, rfl, hma, hmb, hma2, hmb2, hpp⟩ := hh; obtain ⟨p1, c1, e1, rfl, _⟩ := hma.open; obtain ⟨p2, c2, e2, rfl, _⟩ := hmb.open; replace hsl := hsl.mono hle1; replace hkl := hkl.mono hle1; rcases hm : R6 4 ts[0] with _ | pr; rotate_left; obtain rfl := hpp _ hm; rotate_left; all_goals simp only [Option.isSome])
 refine H1 ?_
 refine sE (A7 rfl) rfl (fun b33 => ?_)
 refine sE (A7 rfl) rfl (fun b34 => ?_)
 refine F4 ?_
 refine F4 ?_
 refine sQ (qA rfl) rfl (sD (nS (tS ?_)))
 (have hl2 : ts.length = 2 := hop.1 (by omega); obtain ⟨b0, o0, q0, d0, hp0, hat0, hre0, hg0⟩ := hsl.kidTy hkl (i := 0) (by omega) (by omega); obtain ⟨b1, o1, q1, d1, hp1, hat1, hre1, hg1⟩ := hsl.kidTy hkl (i := 1) (by omega) (by omega); cases hp0; cases hp1; refine D5 D6 rfl ?_)
 refine O9 (i := 0) (l' := [tt,ff,ff,ff,ff,ff,ff,ff,ff,ff,ff]) rfl D1 (A1 rfl rfl) rfl (by kernel_rfl) rfl rfl ?_
 refine aP 1 rfl (qM rfl) rfl ?_
 refine aP 2 rfl (qM rfl) rfl ?_
 refine B4 3 rfl rfl rfl ?_
 refine B4 4 rfl rfl rfl ?_
 refine B4 5 rfl rfl rfl ?_
 refine B4 6 rfl rfl rfl ?_
 refine B4 7 rfl rfl rfl ?_
 refine aP 8 rfl (N2 rfl rfl) rfl ?_
 refine A2 9 ?_
 refine H7 rfl ?_
 refine aP 10 rfl (qA rfl) rfl ?_
 refine C2 (nS (tT (rB (rS ?_))))
 refine I4 (rC rfl (A1 rfl rfl)) (rT rfl) ?_
 (obtain rfl : k = 6 := (by omega); exact P4.no (by rw [A9B (by omega), hm]) hmb hmb2)
 refine H1 ?_
 refine sE (A7 rfl) rfl (fun b65 => ?_)
 refine sE (A7 rfl) rfl (fun b66 => ?_)
 refine F4 ?_
 refine F4 ?_
 refine sQ (qA rfl) rfl (sD (nS (tS ?_)))
 (have hl2 : ts.length = 2 := hop.1 (by omega); obtain ⟨b0, o0, q0, d0, hp0, hat0, hre0, hg0⟩ := hsl.kidTy hkl (i := 0) (by omega) (by omega); obtain ⟨b1, o1, q1, d1, hp1, hat1, hre1, hg1⟩ := hsl.kidTy hkl (i := 1) (by omega) (by omega); cases hp0; cases hp1; refine D5 D6 rfl ?_)
 refine O9 (i := 0) (l' := [tt,ff,ff,ff,ff,ff,ff,ff,ff,ff,ff]) rfl D1 (A1 rfl rfl) rfl (by kernel_rfl) rfl rfl ?_
 refine aP 1 rfl (qM rfl) rfl ?_
 refine aP 2 rfl (qM rfl) rfl ?_
 refine aP 3 rfl (qM rfl) rfl ?_
 refine aP 4 rfl (B2 (j := 1) rfl rfl rfl (by omega)) rfl ?_
 refine aL 5 rfl (A3 rfl rfl (hat1 _) rfl) rfl ?_
 refine aL 6 rfl (A1 rfl rfl) rfl ?_
 refine A2 7 ?_
 refine O5 rfl rfl ((A1E ts[1] ma _ _ _ (ha1 (by omega)) hma2 hre1 hma)) rfl rfl rfl ?_
 refine aP 8 rfl (K8 rfl rfl) rfl ?_
 refine A2 9 ?_
 refine H7 rfl ?_
 refine aP 10 rfl (qA rfl) rfl ?_
 refine C2 (nS (tT (rB (rS ?_))))
 refine I4 (rC rfl (A1 rfl rfl)) (rT rfl) ?_
 (obtain rfl : k = 6 := (by omega); exact P4.mk (by rw [A9B (by omega), hm]) hmb hmb2)
 refine sQ (qA rfl) rfl (sD (nS (cF rfl (tS (tR ?_)))))
 refine sB (qE rfl rfl) rfl rfl (fun h100 => ?_) (fun h100 => ?_)
 refine sQ (qA rfl) rfl (sD (nS (qT rfl (tS ?_))))
 (have hl2 : ts.length = 2 := hop.1 (by omega); obtain ⟨b0, o0, q0, d0, hp0, hat0, hre0, hg0⟩ := hsl.kidTy hkl (i := 0) (by omega) (by omega); obtain ⟨b1, o1, q1, d1, hp1, hat1, hre1, hg1⟩ := hsl.kidTy hkl (i := 1) (by omega) (by omega); cases hp0; cases hp1; refine D5 D6 rfl ?_)
 refine I3 (i := 1) (l' := [ff,tt,ff,ff,ff,ff,ff,ff,ff,ff,ff,ff,ff,ff,ff]) rfl D1 (qM rfl) rfl (by kernel_rfl) rfl rfl ?_
 refine aP 2 rfl (B2 (j := 0) rfl rfl rfl (by omega)) rfl ?_
 refine aL 3 rfl (A3 rfl rfl (hat0 _) rfl) rfl ?_
 refine A2 0 ?_
 refine O5 rfl rfl ((A1i _)) rfl rfl rfl ?_
 refine A2 4 ?_
 refine O5 rfl rfl ((A1i _)) rfl rfl rfl ?_
 refine A2 5 ?_
 refine T4 rfl rfl ((A1E ts[0] (.mk 2 []) _ _ _ (ha0 (by omega)) (S8 (by decide) (by decide)) hre0 (N6 _ ⟨by omega, by omega⟩))) rfl rfl rfl (fun h115 => ?_) (fun h115 => ?_)
 refine aP 6 rfl (qM rfl) rfl ?_
 refine aP 7 rfl (qM rfl) rfl ?_
 refine aP 8 rfl (B2 (j := 1) rfl rfl rfl (by omega)) rfl ?_
 refine aL 9 rfl (A3 rfl rfl (hat1 _) rfl) rfl ?_
 refine A2 10 ?_
 refine O5 rfl rfl ((A1i _)) rfl rfl rfl ?_
 refine A2 11 ?_
 refine O5 rfl rfl ((A1E ts[1] (.mk 2 []) _ _ _ (ha1 (by omega)) (S8 (by decide) (by decide)) hre1 (N6 _ ⟨by omega, by omega⟩))) rfl rfl rfl ?_
 refine aP 12 rfl (K8 rfl rfl) rfl ?_
 refine A2 13 ?_
 refine H7 rfl ?_
 refine aP 14 rfl (qA rfl) rfl ?_
 refine C2 (nS (tT (rB (rS ?_))))
 refine I4 (rC rfl (A1 rfl rfl)) (rT rfl) ?_
 (have hk7 : k = 7 := (by omega); exact P4.mk (by rw [A43 (.inl hk7) (by omega)]; simp_all [S3]) (N6 _ ⟨by omega, by omega⟩) (S8 (by omega) (by omega)))
 refine aP 6 rfl (qM rfl) rfl ?_
 refine B4 7 rfl rfl rfl ?_
 refine B4 8 rfl rfl rfl ?_
 refine B4 9 rfl rfl rfl ?_
 refine B4 10 rfl rfl rfl ?_
 refine B4 11 rfl rfl rfl ?_
 refine aP 12 rfl (N2 rfl rfl) rfl ?_
 refine A2 13 ?_
 refine H7 rfl ?_
 refine aP 14 rfl (qA rfl) rfl ?_
 refine C2 (nS (tT (rB (rS ?_))))
 refine I4 (rC rfl (A1 rfl rfl)) (rT rfl) ?_
 (have hk7 : k = 7 := (by omega); exact P4.mk (by rw [A43 (.inl hk7) (by omega)]; simp_all [S3]) (N6 _ ⟨by omega, by omega⟩) (S8 (by omega) (by omega)))
 refine sQ (qA rfl) rfl (sD (nS (cF rfl (tS (tR ?_)))))
 refine sB (qE rfl rfl) rfl rfl (fun h158 => ?_) (fun h158 => ?_)
 refine sQ (qA rfl) rfl (sD (nS (qT rfl (tS ?_))))
 (have hl2 : ts.length = 2 := hop.1 (by omega); obtain ⟨b0, o0, q0, d0, hp0, hat0, hre0, hg0⟩ := hsl.kidTy hkl (i := 0) (by omega) (by omega); obtain ⟨b1, o1, q1, d1, hp1, hat1, hre1, hg1⟩ := hsl.kidTy hkl (i := 1) (by omega) (by omega); cases hp0; cases hp1; refine D5 D6 rfl ?_)
 refine I3 (i := 1) (l' := [ff,tt,ff,ff,ff,ff,ff,ff,ff,ff,ff,ff,ff,ff,ff]) rfl D1 (qM rfl) rfl (by kernel_rfl) rfl rfl ?_
 refine aP 2 rfl (B2 (j := 0) rfl rfl rfl (by omega)) rfl ?_
 refine aL 3 rfl (A3 rfl rfl (hat0 _) rfl) rfl ?_
 refine A2 0 ?_
 refine O5 rfl rfl ((A3y _)) rfl rfl rfl ?_
 refine A2 4 ?_
 refine O5 rfl rfl ((A1i _)) rfl rfl rfl ?_
 refine A2 5 ?_
 refine T4 rfl rfl ((A1E ts[0] (.mk 2 []) _ _ _ (ha0 (by omega)) (S8 (by decide) (by decide)) hre0 (N6 _ ⟨by omega, by omega⟩))) rfl rfl rfl (fun h173 => ?_) (fun h173 => ?_)
 refine aP 6 rfl (qM rfl) rfl ?_
 refine aP 7 rfl (qM rfl) rfl ?_
 refine aP 8 rfl (B2 (j := 1) rfl rfl rfl (by omega)) rfl ?_
 refine aL 9 rfl (A3 rfl rfl (hat1 _) rfl) rfl ?_
 refine A2 10 ?_
 refine O5 rfl rfl ((A1i _)) rfl rfl rfl ?_
 refine A2 11 ?_
 refine O5 rfl rfl ((A1E ts[1] (.mk 2 []) _ _ _ (ha1 (by omega)) (S8 (by decide) (by decide)) hre1 (N6 _ ⟨by omega, by omega⟩))) rfl rfl rfl ?_
 refine aP 12 rfl (K8 rfl rfl) rfl ?_
 refine A2 13 ?_
 refine H7 rfl ?_
 refine aP 14 rfl (qA rfl) rfl ?_
 refine C2 (nS (tT (rB (rS ?_))))
 refine I4 (rC rfl (A1 rfl rfl)) (rT rfl) ?_
 (have hk8 : k = 8 := (by omega); exact P4.mk (by rw [A43 (.inr hk8) (by omega)]; simp_all [S3, X1]) (N6 _ ⟨by omega, by omega⟩) (S8 (by omega) (by omega)))
 refine aP 6 rfl (qM rfl) rfl ?_
 refine B4 7 rfl rfl rfl ?_
 refine B4 8 rfl rfl rfl ?_
 refine B4 9 rfl rfl rfl ?_
 refine B4 10 rfl rfl rfl ?_
 refine B4 11 rfl rfl rfl ?_
 refine aP 12 rfl (N2 rfl rfl) rfl ?_
 refine A2 13 ?_
 refine H7 rfl ?_
 refine aP 14 rfl (qA rfl) rfl ?_
 refine C2 (nS (tT (rB (rS ?_))))
 refine I4 (rC rfl (A1 rfl rfl)) (rT rfl) ?_
 (have hk8 : k = 8 := (by omega); exact P4.mk (by rw [A43 (.inr hk8) (by omega)]; simp_all [S3, X1]) (N6 _ ⟨by omega, by omega⟩) (S8 (by omega) (by omega)))
 refine sQ (qA rfl) rfl (sD (nS (cF rfl (tS (tR ?_)))))
 refine sB (qE rfl rfl) rfl rfl (fun h216 => ?_) (fun h216 => ?_)
 refine sQ (qA rfl) rfl (sD (nS (qT rfl (tS (tS ?_)))))
 (have hl3 : ts.length = 3 := hop.2.1 (by omega); obtain ⟨b0, o0, q0, d0, hp0, hat0, hre0, hg0⟩ := hsl.kidTy hkl (i := 0) (by omega) (by omega); obtain ⟨b1, o1, q1, d1, hp1, hat1, hre1, hg1⟩ := hsl.kidTy hkl (i := 1) (by omega) (by omega); obtain ⟨b2, o2, q2, d2, hp2, hat2, hre2, hg2⟩ := hsl.kidTy hkl (i := 2) (by omega) (by omega); cases hp0; cases hp1; cases hp2; refine D5 D6 rfl ?_)
 refine I3 (i := 0) (l' := [tt,ff,ff,ff,ff,ff,ff,ff]) rfl D1 (qM rfl) rfl (by kernel_rfl) rfl rfl ?_
 refine aP 1 rfl (B2 (j := 1) rfl rfl rfl (by omega)) rfl ?_
 refine aL 2 rfl (A3 rfl rfl (hat1 _) rfl) rfl ?_
 refine aP 3 rfl (qM rfl) rfl ?_
 refine aP 4 rfl (B2 (j := 2) rfl rfl rfl (by omega)) rfl ?_
 refine aL 5 rfl (A3 rfl rfl (hat2 _) rfl) rfl ?_
 refine A2 6 ?_
 refine T4 rfl rfl ((A1E ts[1] ts[2] _ _ _ (ha1 (by omega)) (ha2 (by omega)) hre1 hre2)) rfl rfl rfl (fun h231 => ?_) (fun h231 => ?_)
 refine aP 7 rfl (W0 rfl) rfl ?_
 refine C2 (nS (cF rfl (tK (nS (tS ?_)))))
 (have hl3 : ts.length = 3 := hop.2.1 (by omega); obtain ⟨b0, o0, q0, d0, hp0, hat0, hre0, hg0⟩ := hsl.kidTy hkl (i := 0) (by omega) (by omega); obtain ⟨b1, o1, q1, d1, hp1, hat1, hre1, hg1⟩ := hsl.kidTy hkl (i := 1) (by omega) (by omega); obtain ⟨b2, o2, q2, d2, hp2, hat2, hre2, hg2⟩ := hsl.kidTy hkl (i := 2) (by omega) (by omega); cases hp0; cases hp1; cases hp2; refine D5 D6 rfl ?_)
 refine I3 (i := 0) (l' := [tt,ff,ff,ff,ff,ff,ff,ff,ff,ff,ff,ff,ff,ff]) rfl D1 (qM rfl) rfl (by kernel_rfl) rfl rfl ?_
 refine aP 1 rfl (B2 (j := 1) rfl rfl rfl (by omega)) rfl ?_
 refine aL 2 rfl (A3 rfl rfl (hat1 _) rfl) rfl ?_
 refine aP 3 rfl (qM rfl) rfl ?_
 refine aP 4 rfl (B2 (j := 2) rfl rfl rfl (by omega)) rfl ?_
 refine aL 5 rfl (A3 rfl rfl (hat2 _) rfl) rfl ?_
 refine aP 7 rfl (qM rfl) rfl ?_
 refine aP 8 rfl (B2 (j := 0) rfl rfl rfl (by omega)) rfl ?_
 refine aL 9 rfl (A3 rfl rfl (hat0 _) rfl) rfl ?_
 refine A2 6 ?_
 (refine I9 rfl rfl (B4F ts[1] ts[2] G _ _ (by assumption) (ha1 (by omega)) (ha2 (by omega)) hre1 hre2) rfl rfl rfl (fun v G1 hle1 hh => ?_); obtain ⟨mc, rfl, hmr⟩ := hh; obtain ⟨mt, hmt⟩ : ∃ mt, T6 ts[1] ts[2] = mt := ⟨_, rfl⟩; rw [hmt] at hmr; have hma : E4 mt := (hmt ▸ B4I ts[1] ts[2] (by assumption) (ha1 (by omega)) (ha2 (by omega))); obtain ⟨p1, c1, e1, rfl, _⟩ := hmr.open; have hre0q := hre0.mono hle1)
 refine A2 10 ?_
 refine O5 rfl rfl ((A3y _)) rfl rfl rfl ?_
 refine A2 11 ?_
 refine O5 rfl rfl ((A1E ts[0] (.mk 3 []) _ _ _ (ha0 (by omega)) (S8 (by decide) (by decide)) hre0q (N6 _ ⟨by omega, by omega⟩))) rfl rfl rfl ?_
 refine A2 12 ?_
 refine H7 rfl ?_
 refine aP 13 rfl (qA rfl) rfl ?_
 refine C2 (nS (tT (rB (rS ?_))))
 refine I4 (rC rfl (A1 rfl rfl)) (rT rfl) ?_
 (obtain rfl : k = 9 := (by omega); exact P4.mk (by rw [A9C (by omega), hmt]; simp_all [X1]) hmr hma)
 refine aP 7 rfl (pNf rfl) rfl ?_
 refine L5 ?_
 refine I4 (rC rfl (A1 rfl rfl)) (rT rfl) ?_
 (obtain rfl : k = 9 := (by omega); exact P4.no (by rw [A9C (by omega)]; simp_all) (N6 _ ⟨by omega, by omega⟩) (S8 (by omega) (by omega)))
 refine sQ (qA rfl) rfl (sD (nS (cF rfl (tS (tR ?_)))))
 refine sB (qE rfl rfl) rfl rfl (fun h288 => ?_) (fun h288 => ?_)
 refine sQ (qA rfl) rfl (sD (nS (qT rfl (tS ?_))))
 (have hl2 : ts.length = 2 := hop.1 (by omega); obtain ⟨b0, o0, q0, d0, hp0, hat0, hre0, hg0⟩ := hsl.kidTy hkl (i := 0) (by omega) (by omega); obtain ⟨b1, o1, q1, d1, hp1, hat1, hre1, hg1⟩ := hsl.kidTy hkl (i := 1) (by omega) (by omega); cases hp0; cases hp1; refine D5 D6 rfl ?_)
 refine I3 (i := 0) (l' := [tt,ff,ff,ff,ff,ff,ff,ff,ff,ff,ff]) rfl D1 (qM rfl) rfl (by kernel_rfl) rfl rfl ?_
 refine aP 1 rfl (B2 (j := 0) rfl rfl rfl (by omega)) rfl ?_
 refine aL 2 rfl (A3 rfl rfl (hat0 _) rfl) rfl ?_
 refine aP 3 rfl (qM rfl) rfl ?_
 refine aP 4 rfl (B2 (j := 1) rfl rfl rfl (by omega)) rfl ?_
 refine aL 5 rfl (A3 rfl rfl (hat1 _) rfl) rfl ?_
 refine A2 6 ?_
 (refine I9 rfl rfl (A41 5 ts[0] ts[1] G _ _ (.inr rfl) (ha0 (by omega)) (ha1 (by omega)) hre0 hre1) rfl rfl rfl (fun v G1 hle1 hh => ?_); obtain ⟨mc, rfl, hmr⟩ := hh; have hma := A4u (.inr rfl) (ha0 (by omega)) (ha1 (by omega)); obtain ⟨p1, c1, e1, rfl, _⟩ := hmr.open)
 refine aP 7 rfl (pX rfl rfl) rfl ?_
 refine aP 8 rfl (pX rfl rfl) rfl ?_
 refine A2 9 ?_
 refine H7 rfl ?_
 refine aP 10 rfl (qA rfl) rfl ?_
 refine C2 (nS (tT (rB (rS ?_))))
 refine I4 (rC rfl (A1 rfl rfl)) (rT rfl) ?_
 (obtain rfl : k = 10 := (by omega); exact P4.mk (by rw [B4G (by omega)]) hmr hma)
 refine sQ (qA rfl) rfl (sD (nS (cF rfl (tS (tR ?_)))))
 refine sB (qE rfl rfl) rfl rfl (fun h321 => ?_) (fun h321 => ?_)
 refine C4 ?_
 (have hl1 : ts.length = 1 := hop.2.2 (by omega); obtain ⟨b0, o0, q0, d0, hp0, hat0, hre0, hg0⟩ := hsl.kidTy hkl (i := 0) (by omega) (by omega); cases hp0; refine sP (B2 (j := 0) rfl rfl rfl (by omega)) rfl rfl ?_)
 refine sL (A3 rfl rfl (hat0 _) rfl) rfl rfl ?_
 focus (refine E5 rfl (A6r 5 ts[0] G _ (.inr rfl) (ha0 (by omega)) hre0) rfl rfl (fun v G1 hle1 hh => ?_); obtain ⟨ma, mca, mb, mcb, rfl, hma, hmb, hma2, hmb2, hpp⟩ := hh; obtain ⟨p1, c1, e1, rfl, _⟩ := hma.open; obtain ⟨p2, c2, e2, rfl, _⟩ := hmb.open; rcases hm : R6 5 ts[0] with _ | pr; rotate_left; obtain rfl := hpp _ hm; rotate_left; all_goals simp only [Option.isSome])
 refine H1 ?_
 refine sE (A7 rfl) rfl (fun b336 => ?_)
 refine sE (A7 rfl) rfl (fun b337 => ?_)
 refine I8 ?_
 refine I4 (rC rfl (A1 rfl rfl)) (rT rfl) ?_
 (have hk11 : k = 11 := (by omega); exact P4.no (by rw [A44 (.inl hk11) (by omega), hm]) hma hma2)
 refine H1 ?_
 refine sE (A7 rfl) rfl (fun b360 => ?_)
 refine sE (A7 rfl) rfl (fun b361 => ?_)
 refine I8 ?_
 refine I4 (rC rfl (A1 rfl rfl)) (rT rfl) ?_
 (have hk11 : k = 11 := (by omega); exact P4.yes (by rw [A44 (.inl hk11) (by omega), hm]; simp only; rw [if_neg (by omega)]) hma hma2)
 refine sQ (qA rfl) rfl (sD (nS (cF rfl (tS (tR ?_)))))
 refine sB (qE rfl rfl) rfl rfl (fun h386 => ?_) (fun h386 => ?_)
 refine C4 ?_
 (have hl1 : ts.length = 1 := hop.2.2 (by omega); obtain ⟨b0, o0, q0, d0, hp0, hat0, hre0, hg0⟩ := hsl.kidTy hkl (i := 0) (by omega) (by omega); cases hp0; refine sP (B2 (j := 0) rfl rfl rfl (by omega)) rfl rfl ?_)
 refine sL (A3 rfl rfl (hat0 _) rfl) rfl rfl ?_
 focus (refine E5 rfl (A6r 5 ts[0] G _ (.inr rfl) (ha0 (by omega)) hre0) rfl rfl (fun v G1 hle1 hh => ?_); obtain ⟨ma, mca, mb, mcb, rfl, hma, hmb, hma2, hmb2, hpp⟩ := hh; obtain ⟨p1, c1, e1, rfl, _⟩ := hma.open; obtain ⟨p2, c2, e2, rfl, _⟩ := hmb.open; rcases hm : R6 5 ts[0] with _ | pr; rotate_left; obtain rfl := hpp _ hm; rotate_left; all_goals simp only [Option.isSome])
 refine H1 ?_
 refine sE (A7 rfl) rfl (fun b401 => ?_)
 refine sE (A7 rfl) rfl (fun b402 => ?_)
 refine I8 ?_
 refine I4 (rC rfl (A1 rfl rfl)) (rT rfl) ?_
 (have hk12 : k = 12 := (by omega); exact P4.no (by rw [A44 (.inr hk12) (by omega), hm]) hmb hmb2)
 refine H1 ?_
 refine sE (A7 rfl) rfl (fun b425 => ?_)
 refine sE (A7 rfl) rfl (fun b426 => ?_)
 refine I8 ?_
 refine I4 (rC rfl (A1 rfl rfl)) (rT rfl) ?_
 (have hk12 : k = 12 := (by omega); exact P4.yes (by rw [A44 (.inr hk12) (by omega), hm]; simp only; rw [if_pos (by omega)]) hmb hmb2)
 refine sQ (qA rfl) rfl (sD (nS (cF rfl (tS (tR ?_)))))
 refine sP (W2 rfl rfl (by omega)) rfl rfl ?_
 refine sQ (qA rfl) rfl (sD (nS (qT rfl (tS ?_))))
 (have hl1 : ts.length = 1 := hop.2.2 (by omega); obtain ⟨b0, o0, q0, d0, hp0, hat0, hre0, hg0⟩ := hsl.kidTy hkl (i := 0) (by omega) (by omega); cases hp0; refine D5 D6 rfl ?_)
 refine I3 (i := 0) (l' := [tt,ff,ff,ff,ff,ff,ff,ff,ff,ff,ff]) rfl D1 (B0 rfl) rfl (by kernel_rfl) rfl rfl ?_
 refine aL 1 rfl (A1 rfl rfl) rfl ?_
 refine aP 3 rfl (qM rfl) rfl ?_
 refine aP 4 rfl (B2 (j := 0) rfl rfl rfl (by omega)) rfl ?_
 refine aL 5 rfl (A3 rfl rfl (hat0 _) rfl) rfl ?_
 refine aP 6 rfl (B0 rfl) rfl ?_
 refine aL 7 rfl (A1 rfl rfl) rfl ?_
 refine A2 2 ?_
 (refine I9 rfl rfl (V4 (.mk tk tks) G _ hty.small hrty) rfl rfl rfl (fun v G1 hle1 hh => ?_); obtain ⟨S6, F1, rfl, hs1, hn1⟩ := hh; obtain ⟨p1, c1, rfl, _⟩ := hs1.open; have hmr := hs1.R.mono (C1.le G1 G); have hre0q := hre0.mono hle1; have hrtyq := hrty.mono hle1)
 refine A2 8 ?_
 refine O5 rfl rfl ((A1E ts[0] (.mk tk tks) _ _ _ (ha0 (by omega)) hty hre0q hrtyq)) rfl rfl rfl ?_
 refine A2 9 ?_
 refine H7 rfl ?_
 refine aP 10 rfl (qA rfl) rfl ?_
 refine C2 (nS (tT (rB (rS ?_))))
 refine I4 (rC rfl (A1 rfl rfl)) (rT rfl) ?_
 (obtain rfl : k = 13 := (by omega); exact P4.mk (by rw [B4H (by omega)]) hmr hty)
end Gw
end Go.Proofs.YtfpgncjeejickaaGreat
