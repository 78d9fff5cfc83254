/-
  Casts and coercions come to the same (plain).
-/
import Derived.Test.YtmceanphadildaaGreatDoorKc8
import Derived.Test.YtmceanphadildaaGreatDoorKc9
import Derived.Test.YtmceanphadildaaGreatDoorKc6
import Derived.Test.YtmceanphadildaaGreatDoorKc3
import Derived.Test.YtmceanphadildaaGreatDoorKc1
import Derived.Test.YtmceanphadildaaGreatDoorKc7
import Derived.Test.YtmceanphadildaaGreatDoorKc2
set_option linter.unusedVariables false
set_option linter.unusedSimpArgs false
set_option linter.ambiguousOpen false
set_option maxHeartbeats 0
set_option maxRecDepth 100000
set_option synthInstance.maxSize 4000
set_option synthInstance.maxHeartbeats 0
namespace Go.Proofs.YtmceanphadildaaGreatDoor
open Go Go.RowKit Tryz Go.Proofs.Tryz
namespace Gw
theorem y53 {p : Prop} (h : p := by
  refine zf5 ?_
  (rw [hno (fun hc => by first | omega | exact Bool.noConfusion (hc.1.symm.trans (show S6 t = false by assumption)) | exact Bool.noConfusion ((hc.2.2 _ (List.getElem_mem (show i < L.length by omega))).symm.trans zL0))]; exact ⟨rfl, _, rfl, (Q6.zero _).R⟩)
) : p := h
theorem y54 {p : Prop} (h : p := by
  refine sQ (A6M rfl rfl) rfl ?_
  refine B5 ?_
  refine zf12 ?_
  refine B6 ?_
  refine zf12 ?_
  refine B8 ?_
  (exact ⟨rfl, rfl⟩)
) : p := h
variable {A B : GT} {d : GK}
theorem A8N {c : GK} {u : TH} {C : GT} {r : Rs} (hu : ST D1 u A) (hd : CT d A B) (hc : CT c B C) (h : F9 (.conv (cmp d c) u) r) : F9 (.conv c (.conv d u)) r := by
 cases h with
 | conv g1 g2 =>
  obtain ⟨t1, t2⟩ := g1.T hu _ rfl
  rw [A5M t2 t1 hd hc] at g2
  cases h3 : Z2 d _ with
  | none => rw [h3] at g2; cases g2
  | some r0 =>
   rw [h3] at g2
   cases r0 with
   | v y => exact .conv (.conv g1 h3) g2
   | b l =>
    have : r = .b l := by cases g2; rfl
    rw [this]
    exact .conv1 (.conv g1 h3)
 | conv1 g1 => exact .conv1 (.conv1 g1)
def N3 (t t' : TH) : Prop := ∀ r, F9 t r ↔ F9 t' r
theorem N3.symm {t t' : TH} (h : N3 t t') : N3 t' t := fun r => (h r).symm
theorem N3.trans {a b c : TH} (h : N3 a b) (h' : N3 b c) : N3 a c := fun r => (h r).trans (h' r)
theorem A25 {c : GK} {u : TH} {C : GT} (hu : ST D1 u A) (hd : CT d A B) (hc : CT c B C) : N3 (.conv c (.conv d u)) (.conv (cmp d c) u) := fun _ => ⟨A7p hu hd hc, A8N hu hd hc⟩
variable {t t' : TH}
theorem A8O {c : GK} (h : ∀ r, F9 t r → F9 t' r) : ∀ r, F9 (.conv c t) r → F9 (.conv c t') r := by
 intro r hr
 cases hr with
 | conv g1 g2 => exact .conv (h _ g1) g2
 | conv1 g1 => exact .conv1 (h _ g1)
variable {a : TH}
theorem A8P (h : ∀ r, F9 t r → F9 t' r) : ∀ r, F9 (.app t a) r → F9 (.app t' a) r := by
 intro r hr
 cases hr with
 | app g1 g2 g3 => exact .app (h _ g1) g2 g3
 | appc g1 g2 g3 g4 g5 => exact .appc (h _ g1) g2 g3 g4 g5
 | appb g1 g2 g3 => exact .appb (h _ g1) g2 g3
 | app1 g1 => exact .app1 (h _ g1)
 | app2 g1 g2 => exact .app2 (h _ g1) g2
variable {f : TH}
theorem A8Q (h : ∀ r, F9 t r → F9 t' r) : ∀ r, F9 (.app f t) r → F9 (.app f t') r := by
 intro r hr
 cases hr with
 | app g1 g2 g3 => exact .app g1 (h _ g2) g3
 | appc g1 g2 g3 g4 g5 => exact .appc g1 (h _ g2) g3 g4 g5
 | appb g1 g2 g3 => exact .appb g1 (h _ g2) g3
 | app1 g1 => exact .app1 g1
 | app2 g1 g2 => exact .app2 g1 (h _ g2)
variable {s : Bool}
theorem A8R (h : ∀ r, F9 t r → F9 t' r) : ∀ r, F9 (.part s t) r → F9 (.part s t') r := by
 intro r hr
 cases hr with
 | part g1 g2 => exact .part (h _ g1) g2
 | partc g1 g2 => exact .partc (h _ g1) g2
 | part1 g1 => exact .part1 (h _ g1)
theorem N3.conv {c : GK} {t t' : TH} (h : N3 t t') : N3 (.conv c t) (.conv c t') := fun r => ⟨A8O (fun r => (h r).1) r, A8O (fun r => (h r).2) r⟩
theorem N3.app1 (h : N3 t t') : N3 (.app t a) (.app t' a) := fun r => ⟨A8P (fun r => (h r).1) r, A8P (fun r => (h r).2) r⟩
theorem N3.app2 (h : N3 t t') : N3 (.app f t) (.app f t') := fun r => ⟨A8Q (fun r => (h r).1) r, A8Q (fun r => (h r).2) r⟩
theorem N3.part {s : Bool} {t t' : TH} (h : N3 t t') : N3 (.part s t) (.part s t') := fun r => ⟨A8R (fun r => (h r).1) r, A8R (fun r => (h r).2) r⟩
theorem A5g {y : TH} (h : F9 t (.v y)) (hv : y.val = true) : N3 t y := fun r => ⟨fun g => by rw [h.det g]; exact Y7 y hv, fun g => by rw [(Y7 y hv).det g]; exact h⟩
variable {b : TH}
theorem A8S {c : GK} {x : ByteArray} : N3 (.app (.conv (.fn c d) (.lam x A b)) a) (.conv d (.app (.lam x A b) (.conv c a))) := by
 have hf2 : F9 (.conv (.fn c d) (.lam x A b)) (.v (.conv (.fn c d) (.lam x A b))) := Y7 _ rfl
 intro r
 constructor
 ·intro h
  cases h with
  | app g1 _ _ => cases hf2.det g1
  | appc g1 g2 g3 g4 g5 =>
   cases hf2.det g1
   rename_i r0
   cases r0 with
   | v y => exact .conv (.app .lam (.conv g2 g3) g4) g5
   | b l => cases g5; exact .conv1 (.app .lam (.conv g2 g3) g4)
  | appb g1 g2 g3 => cases hf2.det g1; exact .conv1 (.app2 .lam (.conv g2 g3))
  | app1 g1 => cases hf2.det g1
  | app2 _ g2 => exact .conv1 (.app2 .lam (.conv1 g2))
 ·intro h
  cases h with
  | conv g1 g2 =>
   cases g1 with
   | app k1 k2 k3 =>
    cases k1
    cases k2 with
    | conv m1 m2 => exact .appc hf2 m1 m2 k3 g2
   | appc k1 _ _ _ _ => cases k1
  | conv1 g1 =>
   cases g1 with
   | app k1 k2 k3 =>
    cases k1
    cases k2 with
    | conv m1 m2 => exact .appc hf2 m1 m2 k3 rfl
   | appc k1 _ _ _ _ => cases k1
   | appb k1 _ _ => cases k1
   | app1 k1 => cases k1
   | app2 k1 k2 =>
    cases k2 with
    | conv m1 m2 => exact .appb hf2 m1 m2
    | conv1 m1 => exact .app2 hf2 m1
theorem A8T {c : GK} (ha : a.val = true) (hb : b.val = true) : N3 (.part s (.conv (.pr c d) (.pair a b))) (.conv (if s = true then d else c) (if s = true then b else a)) := by
 have hp : (TH.conv (.pr c d) (.pair a b)).val = true := by rw [TH.val, TH.pln, ha, hb]; rfl
 have hf2 := Y7 _ hp
 have hx : F9 (if s = true then b else a) (.v (if s = true then b else a)) := by cases s; exact Y7 a ha; exact Y7 b hb
 intro r
 constructor
 ·intro h
  cases h with
  | part g1 _ => cases hf2.det g1
  | partc g1 g2 => cases hf2.det g1; exact .conv hx g2
  | part1 g1 => cases hf2.det g1
 ·intro h
  cases h with
  | conv g1 g2 => cases hx.det g1; exact .partc hf2 g2
  | conv1 g1 => cases hx.det g1
variable {e : GE}
theorem WT.weak {Γ : GC} (h : WT Γ e A) : ∀ {Δ : GC}, (∀ y p, Γ y = some p → Δ y = some p) → WT Δ e A := by
 induction h with
 | var h => intro Δ hD; exact .var (hD _ _ h)
 | num => intro _ _; exact .num
 | tru => intro _ _; exact .tru
 | lam _ i =>
  intro Δ hD
  refine .lam (i fun y p hy => ?_)
  unfold O8 at hy ⊢
  split
  ·rename_i h; rw [if_pos h] at hy; exact hy
  ·rename_i h; rw [if_neg h] at hy; exact hD _ _ hy
 | app _ _ i j => intro Δ hD; exact .app (i hD) (j hD)
 | ar _ _ i j => intro Δ hD; exact .ar (i hD) (j hD)
 | ite _ _ _ i j k => intro Δ hD; exact .ite (i hD) (j hD) (k hD)
 | pair _ _ i j => intro Δ hD; exact .pair (i hD) (j hD)
 | part _ i => intro Δ hD; exact .part (i hD)
 | cast _ c i => intro Δ hD; exact .cast (i hD) c
theorem WT.sub {x : ByteArray} {v : GE} {A : GT} (hv : WT D1 v A) {Γ : GC} {e : GE} {B : GT} (h : WT Γ e B) :
  ∀ {Δ : GC}, (∀ y, x ≠ y → Γ y = Δ y) → Γ x = some (A, A) → WT Δ (e.sub x v) B := by
 induction h with
 | @var Γ y C hy =>
  intro Δ hD hx
  simp only [GE.sub]
  split
  ·rename_i he
   subst he
   rw [hx] at hy
   cases hy
   exact hv.weak fun z p hz => by cases hz
  ·rename_i he
   exact .var (by rw [← hD y (fun e => he e.symm)]; exact hy)
 | num => intro _ _ _; exact .num
 | tru => intro _ _ _; exact .tru
 | @lam Γ y C D e h i =>
  intro Δ hD hx
  simp only [GE.sub]
  by_cases he : y = x
  ·rw [if_pos he]
   refine .lam (h.weak fun z p hz => ?_)
   unfold O8 at hz ⊢
   split
   ·rename_i h2; rw [if_pos h2] at hz; exact hz
   ·rename_i h2; rw [if_neg h2] at hz; rw [← hD z (fun e => h2 (he.trans e))]; exact hz
  ·rw [if_neg he]
   refine .lam (i (fun z hz => ?_) ?_)
   ·unfold O8
    split
    ·rfl
    ·exact hD z hz
   ·unfold O8; rw [if_neg he]; exact hx
 | app _ _ i j => intro Δ hD hx; exact .app (i hD hx) (j hD hx)
 | ar _ _ i j => intro Δ hD hx; exact .ar (i hD hx) (j hD hx)
 | ite _ _ _ i j k => intro Δ hD hx; exact .ite (i hD hx) (j hD hx) (k hD hx)
 | pair _ _ i j => intro Δ hD hx; exact .pair (i hD hx) (j hD hx)
 | part _ i => intro Δ hD hx; exact .part (i hD hx)
 | cast _ c i => intro Δ hD hx; exact .cast (i hD hx) c
variable {v : GE}
theorem B9P {x : ByteArray} (hv : v.lk) : ∀ {e : GE}, e.lk → (e.sub x v).lk := by
 intro e
 induction e with
 | var y => intro _; rw [GE.sub]; split; exact hv; trivial
 | num n => exact fun h => h
 | tru b => exact fun h => h
 | lam y A e i => intro h; rw [GE.sub]; split; exact h; exact i h
 | app f a i j => exact fun h => ⟨i h.1, j h.2⟩
 | ar s a b i j => exact fun h => ⟨i h.1, j h.2⟩
 | ite c a b i j k => exact fun h => ⟨i h.1, j h.2.1, k h.2.2⟩
 | pair a b i j => exact fun h => ⟨i h.1, j h.2⟩
 | part s e i => exact fun h => i h
 | cast A B l e i => exact fun h => ⟨h.1, i h.2⟩
theorem B9Q (x : ByteArray) (v : GE) : ∀ e : GE, (e.sub x v).th = e.th.sub x v.th := by
 intro e
 induction e with
 | var y => rw [GE.sub, GE.th, TH.sub]; split <;> rfl
 | num n => rfl
 | tru b => rfl
 | lam y A e i => rw [GE.sub, GE.th, TH.sub]; split; rfl; rw [GE.th, i]
 | app f a i j => rw [GE.sub, GE.th, GE.th, TH.sub, i, j]
 | ar s a b i j => rw [GE.sub, GE.th, GE.th, TH.sub, i, j]
 | ite c a b i j k => rw [GE.sub, GE.th, GE.th, TH.sub, i, j, k]
 | pair a b i j => rw [GE.sub, GE.th, GE.th, TH.sub, i, j]
 | part s e i => rw [GE.sub, GE.th, GE.th, TH.sub, i]
 | cast A B l e i => rw [GE.sub, GE.th, GE.th, TH.sub, i]
theorem A0g {e' : GE} (h : GS e e') : ∀ {A}, WT D1 e A → e.lk → WT D1 e' A ∧ e'.lk := by
 induction h with
 | app1 _ i => intro A h l; cases h with | app h1 h2 => exact ⟨.app (i h1 l.1).1 h2, (i h1 l.1).2, l.2⟩
 | app2 _ _ i => intro A h l; cases h with | app h1 h2 => exact ⟨.app h1 (i h2 l.2).1, l.1, (i h2 l.2).2⟩
 | ar1 _ i => intro A h l; cases h with | ar h1 h2 => exact ⟨.ar (i h1 l.1).1 h2, (i h1 l.1).2, l.2⟩
 | ar2 _ _ i => intro A h l; cases h with | ar h1 h2 => exact ⟨.ar h1 (i h2 l.2).1, l.1, (i h2 l.2).2⟩
 | ite1 _ i => intro A h l; cases h with | ite h1 h2 h3 => exact ⟨.ite (i h1 l.1).1 h2 h3, (i h1 l.1).2, l.2⟩
 | pair1 _ i => intro A h l; cases h with | pair h1 h2 => exact ⟨.pair (i h1 l.1).1 h2, (i h1 l.1).2, l.2⟩
 | pair2 _ _ i => intro A h l; cases h with | pair h1 h2 => exact ⟨.pair h1 (i h2 l.2).1, l.1, (i h2 l.2).2⟩
 | part1 _ i => intro A h l; cases h with | part h1 => exact ⟨.part (i h1 l).1, (i h1 l).2⟩
 | cast1 _ i => intro A h l; cases h with | cast h1 h2 => exact ⟨.cast (i h1 l.2).1 h2, l.1, (i h1 l.2).2⟩
 | beta _ =>
  intro A h l
  cases h with | app h1 h2 => cases h1 with | lam h3 =>
  exact ⟨h2.sub h3 (fun y hy => by unfold O8; rw [if_neg hy]) (by unfold O8; rw [if_pos rfl]), B9P l.2 l.1⟩
 | appx _ _ =>
  intro A h l
  cases h with | app h1 h2 => cases h1 with | cast h3 hc =>
  cases hc with | fn c1 c2 =>
  exact ⟨.cast (.app h3 (.cast h2 c1.symm)) c2, l.1.1, l.1.2, by have := l.1.1; omega, l.2⟩
 | @ar s m n =>
  intro A h l
  cases h with | ar h1 h2 =>
  unfold A3M
  cases s with
  | true => exact ⟨.tru, trivial⟩
  | false => exact ⟨.num, by simp only [Bool.false_eq_true, if_false, GE.lk]; omega⟩
 | @ite b x y =>
  intro A h l
  cases h with | ite h1 h2 h3 =>
  cases b with
  | true => exact ⟨h2, l.2.1⟩
  | false => exact ⟨h3, l.2.2⟩
 | @part s a b _ _ =>
  intro A h l
  cases h with | part h1 => cases h1 with | pair h2 h3 =>
  cases s with
  | true => exact ⟨h3, l.2⟩
  | false => exact ⟨h2, l.1⟩
 | @partx s a b c d l e _ =>
  intro A h l
  cases h with | part h1 => cases h1 with | cast h2 hc =>
  cases hc with | pr c1 c2 =>
  cases s with
  | true => exact ⟨.cast (.part (s := true) h2) c2, l.1, l.2⟩
  | false => exact ⟨.cast (.part (s := false) h2) c1, l.1, l.2⟩
 | cid _ _ => intro A h l; cases h with | cast h1 _ => exact ⟨h1, l.2⟩
 | up _ _ _ => intro A h l; cases h with | cast h1 _ => exact ⟨.cast (.cast h1 Co.gr) .r, l.1, l.1, l.2⟩
 | down _ _ _ => intro A h l; cases h with | cast h1 _ => exact ⟨.cast (.cast h1 .l) Co.gr.symm, l.1, l.1, l.2⟩
 | hit _ _ => intro A h l; cases h with | cast h1 _ => cases h1 with | cast h2 _ => exact ⟨h2, l.2.2⟩
theorem B3L {l : Int} (h : A.ty.k = B.ty.k ∧ (B.ty.k = 4 ∨ B.ty.k = 5)) : T8 (GE.cast A B l e).tm = true := by
 rw [GE.tm, A08, decide_eq_true_eq]; exact ⟨rfl, h⟩
theorem A1e (h : GV v) : ∀ {A}, WT D1 v A → v.lk → ∃ w, F9 v.th (.v w) ∧ w.val = true ∧ WW D1 v.th w A ∧ w.tx = X8 v.tm := by
 induction h with
 | num => intro A h l; cases h; exact ⟨_, .num, rfl, .num, by rw [GE.tm, A8g (by rw [A08]; rfl) zN0 zN0 zN0]; rfl⟩
 | @tru b => intro A h l; cases h; exact ⟨_, .tru, rfl, .tru, by cases b <;> (rw [GE.tm, A8g (by rw [A08]; rfl) zN0 zN0 zN0]; rfl)⟩
 | lam => intro A h l; exact ⟨_, .lam, rfl, .refl (N9 h l), by rw [GE.tm, A8f (by rintro (h | ⟨h, _⟩); exact absurd h zN0; rw [A08] at h; exact absurd h zP0) (.inl rfl)]; rfl⟩
 | pair _ _ i j =>
  intro A h l
  cases h with | pair h1 h2 =>
  obtain ⟨w1, e1, v1, q1, _⟩ := i h1 l.1
  obtain ⟨w2, e2, v2, q2, _⟩ := j h2 l.2
  exact ⟨_, .pair e1 e2, by rw [TH.val, v1, v2]; rfl, .pair q1 q2, by rw [GE.tm, A8e (.inl rfl)]; rfl⟩
 | @pf a b c d l0 e _ i =>
  intro A h l
  cases h with | cast h1 hc =>
  obtain ⟨w, e1, v1, q1, _⟩ := i h1 l.2
  have hk := A0j hc l0 l.1
  have htx : X8 (GE.cast (.fn a b) (.fn c d) l0 e).tm = A4c := by
   rw [GE.tm, A8f (by rintro (h | ⟨_, h⟩); exact absurd h zN0; simp [GT.ty, Ty.k] at h) (.inr (B3L (e := e) (l := l0) (A := .fn a b) (B := .fn c d) ⟨rfl, .inl rfl⟩))]
  rw [htx]
  rw [GE.th]
  rw [A1j] at hk ⊢
  rcases A4A q1.R v1 with ⟨x, b1, rfl, _⟩ | ⟨c1, d1, x, b1, A', B', rfl, _⟩
  ·exact ⟨_, .conv e1 (A4C rfl rfl), rfl, .conv q1 hk, rfl⟩
  ·refine ⟨.conv (cmp (.fn c1 d1) (.fn _ _)) _, .conv e1 ?_, ?_, .mrg q1 hk, rfl⟩
   ·show fin _ (cmp (.fn c1 d1) (.fn _ _)) = _
    rw [cmp]; rfl
   ·rw [cmp]; rfl
 | @pp a b c d l0 e _ i =>
  intro A h l
  cases h with | cast h1 hc =>
  obtain ⟨w, e1, v1, q1, _⟩ := i h1 l.2
  have hk := A0j hc l0 l.1
  have htx : X8 (GE.cast (.pr a b) (.pr c d) l0 e).tm = A4b := by
   rw [GE.tm, A8e (.inr ⟨B3L (e := e) (l := l0) (A := .pr a b) (B := .pr c d) ⟨rfl, .inr rfl⟩, rfl⟩)]
  rw [htx]
  rw [GE.th]
  rw [A1k] at hk ⊢
  rcases A4B q1.R v1 with ⟨a1, b1, rfl, hav, hbv, _⟩ | ⟨c1, d1, a1, b1, A', B', rfl, _, _, hav, hbv, _⟩
  ·exact ⟨_, .conv e1 (A4C rfl rfl), by rw [TH.val, TH.pln, hav, hbv]; rfl, .conv q1 hk, rfl⟩
  ·refine ⟨.conv (cmp (.pr c1 d1) (.pr _ _)) _, .conv e1 ?_, ?_, .mrg q1 hk, rfl⟩
   ·show fin _ (cmp (.pr c1 d1) (.pr _ _)) = _
    rw [cmp]; rfl
   ·rw [cmp, TH.val, TH.pln, hav, hbv]; rfl
 | @inj A0 l0 e _ hg i =>
  intro A h l
  cases h with | cast h1 hc =>
  obtain ⟨w, e1, v1, q1, hx⟩ := i h1 l.2
  have hk := A0j hc l0 l.1
  obtain ⟨d, hd, hdp, _⟩ := A9T l0 hg
  have htx : X8 (GE.cast A0 .any l0 e).tm = X8 e.tm := by
   rw [GE.tm, B2l (by rw [A08, decide_eq_false_iff_not]; rintro ⟨_, _, h⟩; exact absurd h zN0) rfl zP0]; rfl
  rw [htx]
  rw [GE.th]
  rw [hd] at hk ⊢
  cases hcn : w.cnv with
  | false => exact ⟨_, .conv e1 (A4C hcn rfl), by rw [TH.val, A0U v1 hcn]; rfl, .conv q1 hk, by rw [TH.tx]; exact hx⟩
  | true =>
   cases w <;> first | cases hcn | skip
   rename_i c0 u
   obtain ⟨hv1, hv2⟩ := A0x v1
   obtain ⟨X, t1, t2⟩ := A0K q1.R
   have hc0 : c0.pl = true := by
    cases t2 <;> first | rfl | (cases hv1; done) | exact absurd rfl hg.1
   refine ⟨.conv (cmp c0 (.inj d)) u, .conv e1 ?_, ?_, .mrg q1 hk, by rw [TH.tx] at hx ⊢; exact hx⟩
   ·show fin u (cmp c0 (.inj d)) = _
    rw [A0T hc0]; rfl
   ·rw [A0T hc0, TH.val, hv2]; rfl
structure ECx (C : TH → TH) (A B : GT) : Prop where
 mono : ∀ {t t' : TH}, (∀ r, F9 t r → F9 t' r) → ∀ r, F9 (C t) r → F9 (C t') r
 str : ∀ {t : TH} {r : Rs}, F9 (C t) r → ∃ r0, F9 t r0
 bl : ∀ {t : TH} {l : Int}, F9 t (.b l) → F9 (C t) (.b l)
 con : ∀ {t t' : TH}, WW D1 t t' A → WW D1 (C t) (C t') B
def Bk (t1 t : TH) (A : GT) : Prop := ∀ r1, F9 t1 r1 → ∃ r, F9 t r ∧ WR A r1 r
theorem ECx.bk {C : TH → TH} (h : ECx C A B) {t1 : TH} (ht : Bk t1 t A) (h1 : ST D1 t1 A) (h2 : ST D1 t A) : Bk (C t1) (C t) B := by
 intro r1 hr
 obtain ⟨r0, h0⟩ := h.str hr
 obtain ⟨r, e1, q1⟩ := ht r0 h0
 cases q1 with
 | b => rw [(h.bl h0).det hr]; exact ⟨_, h.bl e1, .b⟩
 | @v y1 y q1 =>
  have g1 := h.mono (fun r => (A5g h0 (h0.T h1 _ rfl).2 r).1) r1 hr
  obtain ⟨r2, g2, q2⟩ := (h.con q1).ev g1
  exact ⟨r2, h.mono (fun r => (A5g e1 (e1.T h2 _ rfl).2 r).2) r2 g2, q2⟩
theorem B9R (ha : ST D1 a A) : ECx (fun t => .app t a) (.fn A B) B where
 mono := A8P
 str := fun h => by cases h <;> exact ⟨_, by assumption⟩
 bl := .app1
 con := fun h => .app h (.refl ha)
variable {w : TH}
theorem B9S (hf : ST D1 f (.fn A B)) (hw : F9 f (.v w)) : ECx (fun t => .app f t) A B where
 mono := A8Q
 str := fun h => by
  cases h with
  | app1 g => cases hw.det g
  | _ => exact ⟨_, by assumption⟩
 bl := .app2 hw
 con := fun h => .app (.refl hf) h
theorem B9T (hb : ST D1 b .int) : ECx (fun t => .ar s t b) .int (A3O s) where
 mono := fun H r h => by
  cases h with
  | ar g1 g2 => exact .ar (H _ g1) g2
  | ar1 g1 => exact .ar1 (H _ g1)
  | ar2 g1 g2 => exact .ar2 (H _ g1) g2
 str := fun h => by cases h <;> exact ⟨_, by assumption⟩
 bl := .ar1
 con := fun h => .ar h (.refl hb) rfl
theorem B9U (ha : ST D1 a .int) (hw : F9 a (.v w)) : ECx (fun t => .ar s a t) .int (A3O s) where
 mono := fun H r h => by
  cases h with
  | ar g1 g2 => exact .ar g1 (H _ g2)
  | ar1 g1 => exact .ar1 g1
  | ar2 g1 g2 => exact .ar2 g1 (H _ g2)
 str := fun h => by
  cases h with
  | ar1 g => cases hw.det g
  | _ => exact ⟨_, by assumption⟩
 bl := .ar2 hw
 con := fun h => .ar (.refl ha) h rfl
theorem B9V (ha : ST D1 a A) (hb : ST D1 b A) : ECx (fun t => .ite t a b) .bool A where
 mono := fun H r h => by
  cases h with
  | ite g1 g2 => exact .ite (H _ g1) g2
  | ite1 g1 => exact .ite1 (H _ g1)
 str := fun h => by cases h <;> exact ⟨_, by assumption⟩
 bl := .ite1
 con := fun h => .ite h (.refl ha) (.refl hb)
theorem B9W (hb : ST D1 b B) : ECx (fun t => .pair t b) A (.pr A B) where
 mono := fun H r h => by
  cases h with
  | pair g1 g2 => exact .pair (H _ g1) g2
  | pair1 g1 => exact .pair1 (H _ g1)
  | pair2 g1 g2 => exact .pair2 (H _ g1) g2
 str := fun h => by cases h <;> exact ⟨_, by assumption⟩
 bl := .pair1
 con := fun h => .pair h (.refl hb)
theorem B9X (ha : ST D1 a A) (hw : F9 a (.v w)) : ECx (fun t => .pair a t) B (.pr A B) where
 mono := fun H r h => by
  cases h with
  | pair g1 g2 => exact .pair g1 (H _ g2)
  | pair1 g1 => exact .pair1 g1
  | pair2 g1 g2 => exact .pair2 g1 (H _ g2)
 str := fun h => by
  cases h with
  | pair1 g => cases hw.det g
  | _ => exact ⟨_, by assumption⟩
 bl := .pair2 hw
 con := fun h => .pair (.refl ha) h
theorem B9Y : ECx (fun t => .part s t) (.pr A B) (if s = true then B else A) where
 mono := A8R
 str := fun h => by cases h <;> exact ⟨_, by assumption⟩
 bl := .part1
 con := fun h => .part h rfl
theorem B9Z {c : GK} (hc : CT c A B) : ECx (fun t => .conv c t) A B where
 mono := A8O
 str := fun h => by cases h <;> exact ⟨_, by assumption⟩
 bl := .conv1
 con := fun h => .conv h hc
theorem Bk.eqv {t1 : TH} (h : N3 t1 t) (h1 : ST D1 t1 A) : Bk t1 t A := by
 intro r hr
 refine ⟨r, (h r).1 hr, ?_⟩
 cases r with
 | b l => exact .b
 | v y => exact .v (.refl (hr.T h1 _ rfl).1)
theorem Bk.idn {t : TH} {c : GK} {A : GT} (hT : ST D1 t A) (hc : CT c A A) (hi : c.idn = true) : Bk t (.conv c t) A := by
 intro r hr
 exact Y0 (.refl hT) ⟨r, hr, by
  cases r with
  | b l => exact .b
  | v y => exact .v (.refl (hr.T hT _ rfl).1)⟩ hc hi
theorem B3M {e' : GE} (h : GS e e') : ∀ {A}, WT D1 e A → e.lk → Bk e'.th e.th A := by
 induction h with
 | app1 s i =>
  intro A h l
  cases h with | app h1 h2 =>
  have hw := A0g s h1 l.1
  exact (B9R (N9 h2 l.2)).bk (i h1 l.1) (N9 hw.1 hw.2) (N9 h1 l.1)
 | app2 v s i =>
  intro A h l
  cases h with | app h1 h2 =>
  have hw := A0g s h2 l.2
  obtain ⟨w, hv, _⟩ := A1e v h1 l.1
  exact (B9S (N9 h1 l.1) hv).bk (i h2 l.2) (N9 hw.1 hw.2) (N9 h2 l.2)
 | ar1 s i =>
  intro A h l
  cases h with | ar h1 h2 =>
  have hw := A0g s h1 l.1
  exact (B9T (N9 h2 l.2)).bk (i h1 l.1) (N9 hw.1 hw.2) (N9 h1 l.1)
 | ar2 v s i =>
  intro A h l
  cases h with | ar h1 h2 =>
  have hw := A0g s h2 l.2
  obtain ⟨w, hv, _⟩ := A1e v h1 l.1
  exact (B9U (N9 h1 l.1) hv).bk (i h2 l.2) (N9 hw.1 hw.2) (N9 h2 l.2)
 | ite1 s i =>
  intro A h l
  cases h with | ite h1 h2 h3 =>
  have hw := A0g s h1 l.1
  exact (B9V (N9 h2 l.2.1) (N9 h3 l.2.2)).bk (i h1 l.1) (N9 hw.1 hw.2) (N9 h1 l.1)
 | pair1 s i =>
  intro A h l
  cases h with | pair h1 h2 =>
  have hw := A0g s h1 l.1
  exact (B9W (N9 h2 l.2)).bk (i h1 l.1) (N9 hw.1 hw.2) (N9 h1 l.1)
 | pair2 v s i =>
  intro A h l
  cases h with | pair h1 h2 =>
  have hw := A0g s h2 l.2
  obtain ⟨w, hv, _⟩ := A1e v h1 l.1
  exact (B9X (N9 h1 l.1) hv).bk (i h2 l.2) (N9 hw.1 hw.2) (N9 h2 l.2)
 | part1 s i =>
  intro A h l
  cases h with | part h1 =>
  have hw := A0g s h1 l
  exact B9Y.bk (i h1 l) (N9 hw.1 hw.2) (N9 h1 l)
 | cast1 s i =>
  intro A h l
  cases h with | cast h1 hc =>
  have hw := A0g s h1 l.2
  exact (B9Z (A0j hc _ l.1)).bk (i h1 l.2) (N9 hw.1 hw.2) (N9 h1 l.2)
 | @beta x C b v hv =>
  intro A h l
  cases h with | app h1 h2 => cases h1 with | lam h3 =>
  obtain ⟨w, e1, _, q1, _⟩ := A1e hv h2 l.2
  intro r1 hr
  rw [B9Q] at hr
  obtain ⟨r, e2, q2⟩ := (q1.bsub (.refl (N9 h3 l.1))).ev hr
  exact ⟨r, .app .lam e1 e2, q2⟩
 | @appx a b c d l0 f v hf hv =>
  intro A h l
  have hT := N9 (A0g (.appx hf hv) h l).1 (A0g (.appx hf hv) h l).2
  cases h with | app h1 h2 => cases h1 with | cast h3 hc =>
  cases hc with | fn c1 c2 =>
  have hl := l.1.1
  have k1 := A0j c1.symm (-l0) zO0
  have k2 := A0j c2 l0 hl
  obtain ⟨w, e1, v1, q1, _⟩ := A1e hf h3 l.1.2
  refine Bk.eqv ?_ hT
  simp only [GE.th]
  rw [A1j]
  have hF := A5g e1 v1
  have hvT := N9 h2 l.2
  rcases A4A q1.R v1 with ⟨x, e, rfl, _⟩ | ⟨p, q, x, e, A', B', rfl, hp, hq, he⟩
  ·exact (N3.conv hF.app1).trans (A8S.symm.trans (N3.app1 (N3.conv hF).symm))
  ·have hlam : ST D1 (.lam x A' e) (.fn A' B') := .lam he
   have m1 : N3 (.conv (.fn (kc c a (-l0)) (kc b d l0)) f.th) (.conv (.fn (cmp (kc c a (-l0)) p) (cmp q (kc b d l0))) (.lam x A' e)) := by
    refine (N3.conv hF).trans ?_
    have := A25 hlam (.fn hp hq) (CT.fn k1 k2)
    rw [cmp] at this
    exact this
   refine N3.trans ?_ (N3.app1 m1).symm
   refine N3.trans ?_ A8S.symm
   refine (N3.conv (hF.app1.trans A8S)).trans ?_
   refine (A25 (.app hlam (.conv (.conv hvT k1) hp)) hq k2).trans ?_
   exact N3.conv (N3.app2 (A25 hvT k1 hp))
 | @ar s m n =>
  intro A h l
  intro r1 hr
  have hx : (A3M s m n).th = arT s m n := by unfold A3M arT; cases s <;> rfl
  rw [hx] at hr
  have hv : F9 (arT s m n) (.v (arT s m n)) := Y7 _ (by unfold arT; cases s <;> rfl)
  rw [← hx] at hr
  have := A0g (.ar (s := s) (m := m) (n := n)) h l
  have hT := N9 this.1 this.2
  refine ⟨_, .ar .num .num, ?_⟩
  rw [hx] at hr hT
  rw [hv.det hr]
  exact .v (.refl hT)
 | @ite b x y =>
  intro A h l
  have hw := A0g (.ite (b := b) (x := x) (y := y)) h l
  have hT := N9 hw.1 hw.2
  intro r1 hr
  refine ⟨r1, .ite .tru (by cases b <;> exact hr), ?_⟩
  cases r1 with
  | b l => exact .b
  | v z => exact .v (.refl (hr.T hT _ rfl).1)
 | @part s a b va vb =>
  intro A h l
  have hw := A0g (.part (s := s) va vb) h l
  have hT := N9 hw.1 hw.2
  cases h with | part h1 => cases h1 with | pair h2 h3 =>
  obtain ⟨w1, e1, v1, _⟩ := A1e va h2 l.1
  obtain ⟨w2, e2, v2, _⟩ := A1e vb h3 l.2
  intro r1 hr
  refine ⟨r1, ?_, ?_⟩
  ·refine .part (.pair e1 e2) ?_
   cases s with
   | true => exact e2.det hr
   | false => exact e1.det hr
  ·cases r1 with
   | b l => exact .b
   | v z => exact .v (.refl (hr.T hT _ rfl).1)
 | @partx s a b c d l0 v hv =>
  intro A h l
  have hw := A0g (.partx (s := s) (a := a) (b := b) (c := c) (d := d) (l := l0) hv) h l
  have hT := N9 hw.1 hw.2
  cases h with | part h1 => cases h1 with | cast h2 hc =>
  cases hc with | pr c1 c2 =>
  have k1 := A0j c1 l0 l.1
  have k2 := A0j c2 l0 l.1
  obtain ⟨w, e1, v1, q1, _⟩ := A1e hv h2 l.2
  refine Bk.eqv ?_ hT
  have hF := A5g e1 v1
  have hE : (GE.part s (.cast (.pr a b) (.pr c d) l0 v)).th = .part s (.conv (.pr (kc a c l0) (kc b d l0)) v.th) := by rw [GE.th, GE.th, A1k]
  rw [hE]
  have hE2 : (GE.cast (if s = true then b else a) (if s = true then d else c) l0 (.part s v)).th = .conv (if s = true then kc b d l0 else kc a c l0) (.part s v.th) := by rw [GE.th, GE.th]; cases s <;> rfl
  rw [hE2]
  rcases A4B q1.R v1 with ⟨x, y, rfl, hx, hy, tx, ty⟩ | ⟨p, q, x, y, A', B', rfl, hp, hq, hx, hy, tx, ty⟩
  ·have hpp : (TH.pair x y).val = true := by rw [TH.val, hx, hy]; rfl
   have hsel : F9 (.part s (.pair x y)) (.v (if s = true then y else x)) := .part (Y7 _ hpp) rfl
   have hselv : (if s = true then y else x).val = true := by cases s <;> assumption
   refine (N3.conv (hF.part.trans (A5g hsel hselv))).trans ?_
   refine N3.trans ?_ (N3.part (N3.conv hF)).symm
   exact (A8T hx hy).symm
  ·refine (N3.conv (hF.part.trans (A8T hx hy))).trans ?_
   have hpp : ST D1 (.pair x y) (.pr A' B') := .pair tx ty
   have m1 : N3 (.conv (.pr (kc a c l0) (kc b d l0)) v.th) (.conv (.pr (cmp p (kc a c l0)) (cmp q (kc b d l0))) (.pair x y)) := by
    refine (N3.conv hF).trans ?_
    have := A25 hpp (.pr hp hq) (CT.pr k1 k2)
    rw [cmp] at this
    exact this
   refine N3.trans ?_ (N3.part m1).symm
   refine N3.trans ?_ (A8T hx hy).symm
   cases s with
   | true => exact A25 ty hq k2
   | false => exact A25 tx hp k1
 | @cid A0 l0 v hv h0 =>
  intro A h l
  cases h with | cast h1 hc =>
  exact Bk.idn (N9 h1 l.2) (A0j hc l0 l.1) (A5b _ _)
 | @up A0 l0 v hv hA hg =>
  intro A h l
  have hw := A0g (.up (l := l0) hv hA hg) h l
  have hT := N9 hw.1 hw.2
  cases h with | cast h1 hc =>
  refine Bk.eqv ?_ hT
  simp only [GE.th]
  rw [← B5s l0 l.1 hA hg]
  exact A25 (N9 h1 l.2) (A0j Co.gr l0 l.1) (A0j .r l0 l.1)
 | @down B0 l0 v hv hB hg =>
  intro A h l
  have hw := A0g (.down (l := l0) hv hB hg) h l
  have hT := N9 hw.1 hw.2
  cases h with | cast h1 hc =>
  refine Bk.eqv ?_ hT
  simp only [GE.th]
  rw [← B5t l0 l.1 hB hg]
  exact A25 (N9 h1 l.2) (A0j .l l0 l.1) (A0j Co.gr.symm l0 l.1)
 | @hit G0 l0 m0 w hw hG =>
  intro A h l
  cases h with | cast h1 hc => cases h1 with | cast h2 hc2 =>
  have hT := N9 h2 l.2.2
  have k1 := A0j (Co.r (a := G0)) m0 l.2.1
  have k2 := A0j (Co.l (b := G0)) l0 l.1
  have hi : (cmp (kc G0 .any m0) (kc .any G0 l0)).idn = true := by rw [A0w, Z1]; exact A5c G0 l0 m0
  intro r1 hr
  obtain ⟨r, e1, q1⟩ := Bk.idn hT (k1.cmp k2) hi r1 hr
  exact ⟨r, A8N hT k1 k2 e1, q1⟩
theorem B90 {L : Int} (h : Bl e L) : ∀ {A}, WT D1 e A → e.lk → F9 e.th (.b L) := by
 induction h with
 | app1 _ i => intro A h l; cases h with | app h1 h2 => exact .app1 (i h1 l.1)
 | app2 v _ i => intro A h l; cases h with | app h1 h2 => obtain ⟨w, e1, _⟩ := A1e v h1 l.1; exact .app2 e1 (i h2 l.2)
 | ar1 _ i => intro A h l; cases h with | ar h1 h2 => exact .ar1 (i h1 l.1)
 | ar2 v _ i => intro A h l; cases h with | ar h1 h2 => obtain ⟨w, e1, _⟩ := A1e v h1 l.1; exact .ar2 e1 (i h2 l.2)
 | ite1 _ i => intro A h l; cases h with | ite h1 h2 h3 => exact .ite1 (i h1 l.1)
 | pair1 _ i => intro A h l; cases h with | pair h1 h2 => exact .pair1 (i h1 l.1)
 | pair2 v _ i => intro A h l; cases h with | pair h1 h2 => obtain ⟨w, e1, _⟩ := A1e v h1 l.1; exact .pair2 e1 (i h2 l.2)
 | part1 _ i => intro A h l; cases h with | part h1 => exact .part1 (i h1 l)
 | cast1 _ i => intro A h l; cases h with | cast h1 hc => exact .conv1 (i h1 l.2)
 | @fail G0 H0 l0 m0 w hw hG hH hne =>
  intro A h l
  cases h with | cast h1 hc => cases h1 with | cast h2 hc2 =>
  obtain ⟨w', e1, v1, q1, hx⟩ := A1e hw h2 l.2.2
  clear hx
  have k1 := A0j (Co.r (a := H0)) m0 l.2.1
  have k2 := A0j (Co.l (b := G0)) l0 l.1
  obtain ⟨d, hd, hdp, hdt⟩ := A9T m0 hH
  obtain ⟨d2, hd2, hdp2, hdt2⟩ := B5u l0 hG
  have hk : cmp (kc H0 .any m0) (kc .any G0 l0) = .fl l0 d.tg := by
   rw [hd, hd2, cmp, if_neg]
   rw [hdt, hdt2]
   exact fun he => hne (A4x hG hH he.symm)
  refine A8N (N9 h2 l.2.2) k1 k2 ?_
  rw [hk]
  refine .conv e1 ?_
  cases hcn : w'.cnv with
  | false => rw [A0V hcn]; rfl
  | true =>
   cases w' <;> first | cases hcn | skip
   rename_i c0 u
   obtain ⟨hv1, hv2⟩ := A0x v1
   obtain ⟨X, t1, t2⟩ := A0K q1.R
   have hc0 : c0.pl = true := by
    cases t2 <;> first | rfl | (cases hv1; done) | exact absurd rfl hH.1
   show fin u (cmp c0 (.fl l0 d.tg)) = _
   rw [A1E hc0]; rfl
theorem B91 {x x' : TH} (h : WW D1 x x' A) (hv : x.val = true) (hv' : x'.val = true) : x.tx = x'.tx := by
 have nc : ∀ {u u' : TH} {A : GT}, WW D1 u u' A → u.cnv = false → u'.cnv = false → u.pln = true → u.tx = u'.tx := by
  intro u u' A h h1 h2 h3
  cases h <;> first | rfl | (rw [TH.pln] at h3; cases h3) | cases h1 | cases h2
 rcases A5e h hv hv' with ⟨h1, h2⟩ | ⟨h1, c, u', rfl, h3, h4, h5, h6⟩ | ⟨c, u, u', X, rfl, rfl, h1, h2, h3, h4⟩
 ·exact nc h h1 h2 (A0U hv h1)
 ·rw [TH.tx.eq_1]; exact nc h6 h1 h3 (A0U hv h1)
 ·rw [TH.tx.eq_1, TH.tx.eq_1]; exact nc h4 h1 h2 (A0x hv).2
theorem B92 (h : Ss e v) : GV v → ∀ {A}, WT D1 e A → e.lk → ∃ w, F9 e.th (.v w) ∧ w.tx = X8 v.tm := by
 induction h with
 | refl => intro hv A h l; obtain ⟨w, e1, _, _, hx⟩ := A1e hv h l; exact ⟨w, e1, hx⟩
 | step s _ i =>
  intro hv A h l
  obtain ⟨h2, l2⟩ := A0g s h l
  obtain ⟨w, e1, hx⟩ := i hv h2 l2
  obtain ⟨r, e2, q⟩ := B3M s h l _ e1
  obtain ⟨w2, rfl, q2⟩ := q.v_inv
  exact ⟨w2, e2, by rw [← hx]; exact (B91 q2 (e1.T (N9 h2 l2) _ rfl).2 (e2.T (N9 h l) _ rfl).2).symm⟩
theorem B93 {L : Int} (h : Ss e v) : Bl v L → ∀ {A}, WT D1 e A → e.lk → F9 e.th (.b L) := by
 induction h with
 | refl => intro hv A h l; exact B90 hv h l
 | step s _ i =>
  intro hv A h l
  obtain ⟨h2, l2⟩ := A0g s h l
  obtain ⟨r, e2, q⟩ := B3M s h l _ (i hv h2 l2)
  rw [q.b_inv] at e2
  exact e2
theorem B94 {Γ : GC} (h : WT Γ e A) : GP Γ e e A A := by
 induction h with
 | var h => exact .var h Le.refl
 | num => exact .num
 | tru => exact .tru
 | lam _ i => exact .lam Le.refl i
 | app _ _ i j => exact .app i j
 | ar _ _ i j => exact .ar i j
 | ite _ _ _ i j k => exact .ite i j k
 | pair _ _ i j => exact .pair i j
 | part _ i => exact .part i
 | cast _ c i => exact .castB i c c Le.refl
theorem B95 {e : Tm} {fuel f2 : Int} (hf : Q5 fuel 0 300 = true) (hf2 : Q5 f2 0 300 = true) :
  (A12 e fuel).2.1 = 4 ∨ (A12 e fuel).2.1 = 5 ∨ (U4 e f2).2.1 = 4 ∨ (U4 e f2).2.1 = 5 ∨ A12 e fuel = U4 e f2 := by
 cases hI : S4 e with
 | none => rw [A8B hI, B2m hI]; exact .inr (.inr (.inr (.inr rfl)))
 | some p =>
  obtain ⟨u, T⟩ := p
  obtain ⟨hv, hT, _⟩ := A45 hI
  obtain ⟨A, _, hsp⟩ := spT hv hT
  have hlk := B3j (A0f u) (by rw [← hsp.eq]; exact (A1S hv).1)
  rw [A8C hI]
  have hsd : A00 (A0f u).th fuel = U9 fuel.toNat (A0f u).th := by unfold A00; rw [if_pos (A2J hf)]
  rw [hsd]
  have hec : P1 u f2 = ((M1 f2.toNat u).1, (M1 f2.toNat u).2.1, (M1 f2.toNat u).2.2.1) := by unfold P1; rw [if_pos (A2J hf2)]
  have hgp := B94 hsp.wt
  by_cases h0 : (P1 u f2).2.1 = 0
  ·have hrt : U4 e f2 = (X8 (P1 u f2).1, 0, 0) := A8i hI h0
   rw [hec] at h0
   simp only at h0
   rw [hsp.eq] at h0
   obtain ⟨w, hw1, hw2, hw3⟩ := B8G _ hgp h0
   obtain ⟨z, e1, hx⟩ := B92 hw3 hw2 hsp.wt hlk
   rcases B3m fuel.toNat hsp.st with h | h | ⟨w', h3, h4⟩ | ⟨l, h3, h4⟩
   ·exact .inl h
   ·exact .inr (.inl h)
   ·cases e1.det h3
    refine .inr (.inr (.inr (.inr ?_)))
    rw [hrt, h4, hx, hec]
    simp only
    rw [hsp.eq, hw1]
   ·cases e1.det h3
  ·have hrt : U4 e f2 = (⟨⟨[]⟩⟩, (P1 u f2).2.1, (P1 u f2).2.2) := A8j hI h0
   have hcodes : (U4 e f2).2.1 = 0 ∨ (U4 e f2).2.1 = 2 ∨ (U4 e f2).2.1 = 4 ∨ (U4 e f2).2.1 = 5 := B9b (by rw [B9a hI]; rfl) hf2
   rcases hcodes with h | h | h | h
   ·rw [hrt] at h; exact absurd h h0
   ·have h2 : (M1 f2.toNat (A0f u).tm).2.1 = 2 := by rw [hrt, hec] at h; rw [← hsp.eq]; exact h
    obtain ⟨w, hw1, hw2⟩ := B9f _ hgp h2
    have e1 := B93 hw1 hw2 hsp.wt hlk
    rcases B3m fuel.toNat hsp.st with h | h | ⟨w', h3, h4⟩ | ⟨l, h3, h4⟩
    ·exact .inl h
    ·exact .inr (.inl h)
    ·cases e1.det h3
    ·have := e1.det h3
     refine .inr (.inr (.inr (.inr ?_)))
     rw [hrt, hec, h4]
     simp only
     rw [hsp.eq, h2]
     cases this
     rw [← hsp.eq]
   ·exact .inr (.inr (.inl h))
   ·exact .inr (.inr (.inr (.inl h)))
variable {G : IM}
theorem B7.nine {t : Tm} {cells : List Value} (h : B7 G t cells) : ∃ v1 v2 v3 v4 v5 v6 v7 v8 v9, cells = [v1, v2, v3, v4, v5, v6, v7, v8, v9] := by
 obtain ⟨_, _, _, _, _, _, _, _, _, rfl, _⟩ := h.open
 exact ⟨_, _, _, _, _, _, _, _, _, rfl⟩
variable {c : Nat} {p : Option Addr} {ce : List Value}
theorem A5h {e : Tm} {k : Int} {nm : ByteArray} {tk : Int} {tks : List Ty} {q : Option Addr} {d : Nat} (hk : F8 k) (ht : C6 G (.mk tk tks) [.int .i64 tk, .slice q tks.length d]) (h1 : B7 G e ce) (hs : Sl G p 1 c 9 ce) :
  B7 G (.mk k nm 0 (.mk tk tks) C5 0 [e]) [.int .i64 k, .string nm, .int .i64 0, .int .i64 tk, .slice q tks.length d, .int .i64 0, .slice none 0 0, .int .i64 0, .slice p 1 c] := by
 obtain ⟨a1, a2⟩ := A5Z h1 hs
 exact B7.of9 (ks := [e]) hk ⟨by omega, by omega⟩ ⟨by omega, by omega⟩ ht (N2 _ ⟨by omega, by omega⟩) a1 a2
theorem A5i {e f : Tm} {cf : List Value} {k : Int} {nm : ByteArray} (hk : F8 k) (h1 : B7 G e ce) (h2 : B7 G f cf) (hs : Sl G p 2 c 9 (ce ++ cf)) :
  B7 G (.mk k nm 0 C5 C5 0 [e, f]) [.int .i64 k, .string nm, .int .i64 0, .int .i64 0, .slice none 0 0, .int .i64 0, .slice none 0 0, .int .i64 0, .slice p 2 c] := by
 have hL : H4 G [e, f] [ce, cf] := by simp only [H4]; exact ⟨ce, [cf], rfl, h1, cf, [], rfl, h2, rfl⟩
 exact B7.of9 (ks := [e, f]) hk ⟨by omega, by omega⟩ ⟨by omega, by omega⟩ (N2 _ ⟨by omega, by omega⟩) (N2 _ ⟨by omega, by omega⟩)
  (D7.of (by simpa using hs) rfl hL.all (fun x hx => by obtain ⟨q, hq⟩ := List.getElem?_of_mem hx; exact (hL.inv hq L7).2.one)) hL
theorem B96 {e f g : Tm} {cf cg : List Value} {k : Int} {nm : ByteArray} (hk : F8 k) (h1 : B7 G e ce) (h2 : B7 G f cf) (h3 : B7 G g cg) (hs : Sl G p 3 c 9 (ce ++ (cf ++ cg))) :
  B7 G (.mk k nm 0 C5 C5 0 [e, f, g]) [.int .i64 k, .string nm, .int .i64 0, .int .i64 0, .slice none 0 0, .int .i64 0, .slice none 0 0, .int .i64 0, .slice p 3 c] := by
 have hL : H4 G [e, f, g] [ce, cf, cg] := by simp only [H4]; exact ⟨ce, [cf, cg], rfl, h1, cf, [cg], rfl, h2, cg, [], rfl, h3, rfl⟩
 exact B7.of9 (ks := [e, f, g]) hk ⟨by omega, by omega⟩ ⟨by omega, by omega⟩ (N2 _ ⟨by omega, by omega⟩) (N2 _ ⟨by omega, by omega⟩)
  (D7.of (by simpa using hs) rfl hL.all (fun x hx => by obtain ⟨q, hq⟩ := List.getElem?_of_mem hx; exact (hL.inv hq L7).2.one)) hL
def mB : Nat → Nat
 | 0 => 200
 | n + 1 => 3 * mB n + 200
theorem A13 (n : Nat) : 200 ≤ mB n := by cases n <;> simp only [mB] <;> omega
def A14 (n : Nat) (depth : Int) (t : Ty) : Prop := R6 4 t ∧ (n : Int) - 1000 ≤ depth ∧ depth ≤ 1000 ∧ ((depth ≤ 1 ∧ R6 n t) ∨ (2 ≤ depth ∧ depth + 3 ≤ n))
variable {depth : Int} {n : Nat}
theorem A14.sub {t t' : Ty} (h : A14 (n + 1) depth t) (hd : 1 < depth) (h4 : R6 4 t') : A14 n (depth - 1) t' := by
 obtain ⟨h1, h2, h3, h5⟩ := h
 refine ⟨h4, by omega, by omega, ?_⟩
 rcases h5 with ⟨h5, _⟩ | ⟨h5, h6⟩
 ·omega
 ·by_cases h7 : 3 ≤ depth
  ·exact .inr ⟨by omega, by omega⟩
  ·exact .inl ⟨by omega, h4.le zO0⟩
theorem A14.kid {k : Int} {ks : List Ty} {t' : Ty} (h : A14 (n + 1) depth (.mk k ks)) (ht : t' ∈ ks) : A14 n (depth - 1) t' := by
 have h4 : R6 4 t' := (A7s h.1 ht).up
 by_cases hd : 1 < depth
 ·exact h.sub hd h4
 ·obtain ⟨h1, h2, h3, h5⟩ := h
  refine ⟨h4, by omega, by omega, .inl ⟨by omega, ?_⟩⟩
  rcases h5 with ⟨_, h5⟩ | ⟨h5, _⟩
  ·exact A7s h5 ht
  ·omega
theorem A14.pos {k : Int} {ks : List Ty} (h : A14 n depth (.mk k ks)) (hd : 1 < depth ∨ k = 4 ∨ k = 5) : ∃ m, n = m + 1 := by
 cases n with
 | succ m => exact ⟨m, rfl⟩
 | zero =>
  obtain ⟨h1, h2, h3, h5⟩ := h
  rcases h5 with ⟨h5, h6⟩ | ⟨h5, h6⟩
  ·have := h6.2
   omega
  ·omega
theorem Q8 : C5.small := by simp [C5, Ty.small, Ty.smallL]
theorem P2 {k : Int} {nm : ByteArray} {num : Int} (h : nm.size ≤ 1) : (Tm.mk k nm num C5 C5 0 []).small := by
 simp only [Tm.small, Tm.smallL]; exact ⟨by omega, Q8, Q8, by simp, trivial⟩
theorem L6 {k : Int} {nm : ByteArray} {num : Int} {ty : Ty} {a : Tm} (h : nm.size ≤ 1) (ht : ty.small) (ha : a.small) : (Tm.mk k nm num ty C5 0 [a]).small := by
 simp only [Tm.small, Tm.smallL]; exact ⟨by omega, ht, Q8, by simp, ha, trivial⟩
theorem U1 {k : Int} {nm : ByteArray} {num : Int} {a b : Tm} (h : nm.size ≤ 1) (ha : a.small) (hb : b.small) : (Tm.mk k nm num C5 C5 0 [a, b]).small := by
 simp only [Tm.small, Tm.smallL]; exact ⟨by omega, Q8, Q8, by simp, ha, hb, trivial⟩
theorem A01 {k : Int} {nm : ByteArray} {num : Int} {a b c : Tm} (h : nm.size ≤ 1) (ha : a.small) (hb : b.small) (hc : c.small) : (Tm.mk k nm num C5 C5 0 [a, b, c]).small := by
 simp only [Tm.small, Tm.smallL]; exact ⟨by omega, Q8, Q8, by simp, ha, hb, hc, trivial⟩
theorem A02 : (Ty.mk 1 []).small := by simp [Ty.small, Ty.smallL]
def B3N (br : Nat) (pb : Option Addr) (nb cb : Nat) (bs : List UInt8) (n : Nat) : Prop := ∀ (depth : Int) (t : Ty) (p : Nat) (G : IM) (pc : Option Addr) (nc cc : Nat) (cells : List Value), A14 n depth t → (n : Int) - 1000 ≤ depth → depth ≤ 1000 → nc + n ≤ 40 → Z3 G pc nc cc → C6 G t cells → Sl G pb nb cb 1 (O7 bs) → p + mB n < 1099511627776 →
 Fn prog 143 [.pointer (some ⟨br, 0, none⟩), .slice pc nc cc, .agg ⟨cells⟩, .int .i64 depth] [rd br pb nb cb p] G
  (A0J br pb nb cb p (mB n) (fun G' v => ∃ e cells, v = .agg ⟨cells⟩ ∧ B7 G' e cells ∧ e.small ∧ H9 e ≤ mB n))
theorem B3O (br : Nat) (pb : Option Addr) (nb cb : Nat) (bs : List UInt8) (hnb : nb ≤ 2000) (m : Nat) (hM : B3N br pb nb cb bs m) (depth : Int) (a t : Ty) (p : Nat) (G : IM) (pc : Option Addr) (nc cc : Nat) (ca cells : List Value)
  (hfu : A14 m depth t) (hd0 : (m : Int) - 1000 ≤ depth) (hd1 : depth ≤ 1000) (hnc : nc + 1 + m ≤ 40) (hx : Z3 G pc nc cc) (hra : C6 G a ca) (haa : H8 a ∧ L3 a ≤ 30) (hrt : C6 G t cells) (hb : Sl G pb nb cb 1 (O7 bs)) (hp : p + 1 + mB m < 1099511627776) :
  Fn prog 183 [.pointer (some ⟨br, 0, none⟩), .slice pc nc cc, .agg ⟨ca⟩, .agg ⟨cells⟩, .int .i64 depth] [rd br pb nb cb p] G
   (A0J br pb nb cb p (1 + mB m) (fun G' v => ∃ e cells, v = .agg ⟨cells⟩ ∧ B7 G' e cells ∧ e.small ∧ H9 e ≤ 1 + mB m)) := by
 obtain ⟨ak, aks⟩ := a
 obtain ⟨tk, tks⟩ := t
 obtain ⟨pa, cca, ea, rfl, _⟩ := hra.open
 obtain ⟨pt, cct, et, rfl, _⟩ := hrt.open
 simp only [Ty.k, Ty.ks] at hra hrt ⊢
 refine C4 func183 rfl ntmps183 results183 rfl ?_
 intro w0
 refine A5 ?_
 refine zf2 (fun b3 => ?_)
 refine zf2 (fun b4 => ?_)
 refine zf1 (fun b5 => ?_)
 refine B1 ?_
 refine zf7 (fun b11 => ?_)
 (refine V7 zB0 (fun G4 hle4 hsl4 _ => ?_); refine K4 rfl (A7y G4 br pb nb cb p bs _ _ _ _ (hb.mono hle4) hnb zO0 hsl4 zN0) (Pk.perm zB0) rfl rfl (fun v G5 outs hle5 hh => ?_); obtain ⟨rfl, rfl, hv⟩ := hh; obtain ⟨nm, rfl, hnm⟩ : ∃ nm : ByteArray, v = .string nm ∧ nm.size ≤ 1 := (by simp only [List.mem_cons, List.not_mem_nil, or_false] at hv; rcases hv with rfl | rfl | rfl | rfl <;> exact ⟨_, rfl, by decide⟩); replace hra := hra.mono hle4; replace hx := hx.mono hle4; replace hb := hb.mono hle4; replace hrt := hrt.mono hle4;)
 refine B6 ?_
 refine zf6 ?_
 refine xx8 0 1 3 4 5 6 8 9 ?_
 refine A2 2 ?_
 (refine E6 rfl rfl (W3 _ _ _ haa.1.small hra) rfl rfl rfl (fun v G6 hle6 hh => ?_); obtain ⟨cs1, F1, rfl, hs1, hn1⟩ := hh; obtain ⟨p1, c1, rfl, _⟩ := hs1.open; have hr1 := hs1.R.mono (E8.le G6 _); replace hra := hra.mono hle6; replace hx := hx.mono hle6; replace hb := hb.mono hle6; replace hrt := hrt.mono hle6;)
 refine A2 7 ?_
 (refine E6 rfl rfl (B6m _ pc nc cc nm (.mk ak aks) _ hx zO0 hra haa.1 haa.2 hnm) rfl rfl rfl (fun v G7 hle7 hh => ?_); obtain ⟨pm, cm, rfl, hxm⟩ := hh; replace hr1 := hr1.mono hle7; replace hx := hx.mono hle7; replace hb := hb.mono hle7; replace hrt := hrt.mono hle7; have hcall := hM depth (.mk tk tks) (p + 1) _ pm (nc + 1) cm _ hfu hd0 hd1 zO0 hxm hrt hb zO0)
 refine A2 10 ?_
 (refine Z9 (l' := [tt,tt,tt,tt,tt,tt,tt,tt,tt,tt,tt,ff,ff,ff]) rfl rfl hcall (Pk.perm zB0) rfl rfl rfl zK (fun v G8 outs hle8 hh => ?_); obtain ⟨p8, hp81, hp82, rfl, e8, c8, rfl, hr8, hs8, hc8⟩ := hh; obtain ⟨a1, a2, a3, a4, a5, a6, a7, a8, a9, rfl⟩ := hr8.nine; replace hr1 := hr1.mono hle8)
 refine A2 11 ?_
 refine zf3 (fun b33 => ?_)
 refine xx1 12 ?_
 refine A2 13 ?_
 refine R8 rfl rfl rfl rfl rfl rfl rfl rfl zK0 zC0 (by rfl) ?_
 refine A5 ?_
 (refine H1 (cs := [a1, a2, a3, a4, a5, a6, a7, a8, a9]) zB0 (fun G9 hle9 hsl9 hno9 => ?_); have hN := A5h (k := 5) (nm := nm) ⟨by omega, by omega⟩ (hr1.mono hle9) (hr8.mono hle9) hsl9)
 refine tT ?_
 refine I6 (outs := [rd br pb nb cb p8]) (rC rfl (A4 rfl rfl)) zN ?_
 (exact ⟨p8, by omega, by omega, rfl, _, _, rfl, hN, L6 hnm haa.1.small hs8, by simp only [H9, I3]; omega⟩)
theorem A26 (G : IM) (nm : ByteArray) (num : Int) {k : Int} (hk : F8 k) (hn : F8 num) : B7 G (.mk k nm num C5 C5 0 []) [.int .i64 k, .string nm, .int .i64 num, .int .i64 0, .slice none 0 0, .int .i64 0, .slice none 0 0, .int .i64 0, .slice none 0 0] := A2o hk hn
theorem C6.kidsM {k : Int} {ks : List Ty} {q : Option Addr} (h : C6 G (.mk k ks) [.int .i64 k, .slice q ks.length c]) : ∃ es, D7 G q ks.length c 2 es ∧ E7 G ks es := by
 obtain ⟨q', c', es, he, _, h1, h2⟩ := h.open
 cases he
 exact ⟨es, h1, h2⟩
theorem B97 (br : Nat) (pb : Option Addr) (nb cb : Nat) (bs : List UInt8) (hnb : nb ≤ 2000) : ∀ n, B3N br pb nb cb bs n := by
 refine fun n => Nat.strongRecOn n fun n ih depth t p G pc nc cc cells hfu hd0 hd1 hnc hx hrt hb hp => ?_
 have hge := A13 n
 have har := hfu.1.ar
 have hszt := A5P hfu.1
 have hnn := A1C t
 have hncl := hx.le
 obtain ⟨k, ks⟩ := t
 obtain ⟨q, c, es, rfl, hk, _, _⟩ := hrt.open
 simp only [Ty.k, Ty.ks] at hk hrt ⊢
 have hsz30 : L3 (.mk k ks) ≤ 30 := hszt
 have hops : k = 4 ∨ k = 5 → ks.length = 2 := by have h2 := har; rw [H8] at h2; exact h2.1
 refine C4 func143 rfl ntmps143 results143 rfl ?_
 intro w0
 refine A5 ?_
 refine zf2 (fun b3 => ?_)
 refine zf1 (fun b4 => ?_)
 refine B8 ?_
 refine zf14 ?_
 refine B5 ?_
 refine C2 ?_
 (refine K2 (fun (x : Nat × Nat × IM) => ⟨(9, .int .i64 ((x.1 : Int) - 1)) :: [(0, .pointer (some ⟨br, 0, none⟩)), (1, .slice pc nc cc), (3, .int .i64 depth), (6, .pointer (some ⟨b3, 0, none⟩)), (8, .pointer (some ⟨b4, 0, none⟩))], [rd br pb nb cb x.2.1, .blk b4 zq9, .blk b3 [.int .i64 k, .slice q ks.length c]], x.2.2⟩) (fun x => x.1 ≤ nc ∧ C3 G x.2.2 ∧ p ≤ x.2.1 ∧ x.2.1 + x.1 ≤ p + nc) (fun x => x.1) (nc, p, G) ?_ ?_ ?_)
 (simp only [J5]; exact E3)
 (exact ⟨Nat.le_refl _, C3.refl _, Nat.le_refl _, Nat.le_refl _⟩)
 (rintro ⟨(i : Nat), (p1 : Nat), G1⟩ ⟨hi, hleL, hpL, hpL2⟩; simp only [] at hi hleL hpL hpL2 ⊢; replace hx := hx.mono hleL; replace hb := hb.mono hleL; replace hrt := hrt.mono hleL;)
 refine B6 ?_
 refine sB (A1g rfl rfl) rfl rfl (fun h25 => ?_) (fun h25 => ?_)
 refine A7 ?_
 (show J9 _ _ (.block 1 ..) _ _; obtain ⟨j, rfl⟩ : ∃ j, i = j + 1 := ⟨i - 1, by omega⟩; rw [show ((j + 1 : Nat) : Int) - 1 = (j : Int) from by omega]; obtain ⟨b, o, nm1, t1, qq1, dd1, rfl, hat, hr1, ha1, hs1, hgb, hns1⟩ := hx.get (i := j) zO0; refine C2 ?_)
 refine B1 ?_
 refine sP (B2 (j := j) rfl rfl rfl zO0) rfl rfl ?_
 refine I0 ?_
 refine sL (A0t rfl rfl ((hat _).sub (j := 0) rfl)) rfl rfl ?_
 (refine H6 rfl (B6l _ _ nc cc nm1 hx) rfl rfl (fun v G2 hle2 hh => ?_); obtain ⟨ts, tcs, xs, rfl, hrs, has, hss⟩ := hh; obtain ⟨ps, cs, ess, rfl, _⟩ := hrs.open; obtain ⟨b, o, nm1, t1, qq1, dd1, hpp, hat, hr1, ha1, hs1, hgb, hns1⟩ := (hx.mono hle2).get (i := j) zO0; cases hpp; replace hx := hx.mono hle2; replace hb := hb.mono hle2; replace hrt := hrt.mono hle2;)
 refine B5 ?_
 refine zf1 (fun b45 => ?_)
 refine B8 ?_
 (have hinloop := hrs; refine K4 rfl (A0i _ br pb nb cb (p1) bs 3 hb hnb zO0) (Pk.perm zB0) rfl rfl (fun v Gp outs hle53 hh => ?_); obtain ⟨rfl, rfl, j53, rfl, hj53, hk53⟩ := hh; have hinl := hj53)
 replace hrs := hrs.mono hle53
 replace hr1 := hr1.mono hle53
 replace hb := hb.mono hle53
 replace hrt := hrt.mono hle53
 replace hinloop := hinloop.mono hle53
 refine zf0 (fun h54 => ?_) (fun h54 => ?_)
 refine A5 ?_
 refine L4 rfl ((A2l ts _ _ hrs)) rfl rfl (fun h57 => ?_) (fun h57 => ?_)
 refine B6 ?_
 refine L4 rfl ((A2p ts (.mk k ks) _ _ _ has har hrs hrt)) rfl rfl (fun h62 => ?_) (fun h62 => ?_)
 refine D4 ?_
 refine sP (B2 (j := j) rfl rfl rfl zO0) rfl rfl ?_
 refine I0 ?_
 refine sL (A0t rfl rfl ((hat _).sub (j := 0) rfl)) rfl rfl ?_
 refine I9 ?_
 refine I6 (outs := [rd br pb nb cb (p1 + 1)]) (rC rfl (A4 rfl rfl)) zN ?_
 (exact ⟨(p1 + 1), by omega, by omega, rfl, _, _, rfl, A26 _ _ _ ⟨by omega, by omega⟩ (by first | exact ⟨by omega, by omega⟩ | exact hkn), by first | exact P2 (by first | assumption | decide) | exact A01 zN0 zL0 zL0 zL0 | exact U1 zN0 zL0 zL0 | exact L6 zN0 Q8 zL0 | exact L6 zN0 har.small zL0 | exact L6 zN0 Q8 (U1 zN0 zL0 (P2 zN0)) | exact L6 zN0 A02 (P2 zN0) | assumption, by simp only [H9, I3]; omega⟩)
 refine E1 ?_
 refine zf14 ?_
 refine A5 ?_
 (have hinloop := hrs; refine J7 (j, p1 + 1, Gp) ?_ ?_ ?_)
 (simp only [J5]; exact E3)
 (dsimp only; exact ⟨by omega, hleL.trans hle2, by omega, by omega⟩)
 (show _ < _ + 1; omega)
 refine K5 ?_
 refine zf14 ?_
 refine A5 ?_
 (have hinloop := hrs; refine J7 (j, p1 + 1, Gp) ?_ ?_ ?_)
 (simp only [J5]; exact E3)
 (dsimp only; exact ⟨by omega, hleL.trans hle2, by omega, by omega⟩)
 (show _ < _ + 1; omega)
 refine W8 ?_
 refine zf14 ?_
 refine A5 ?_
 (have hinloop := hrs; refine J7 (j, p1 + 1, Gp) ?_ ?_ ?_)
 (simp only [J5]; exact E3)
 (dsimp only; exact ⟨by omega, hleL.trans hle2, by omega, by omega⟩)
 (show _ < _ + 1; omega)
 refine I9 ?_
 (show J9 _ _ (.region 7 ..) _ _; refine P4 (fun (x : Bool) => ⟨(49, .bool x) :: [(0, .pointer (some ⟨br, 0, none⟩)), (1, .slice pc nc cc), (3, .int .i64 depth), (6, .pointer (some ⟨b3, 0, none⟩)), (8, .pointer (some ⟨b4, 0, none⟩))], [rd br pb nb cb p1, .blk b4 zq9, .blk b3 [.int .i64 k, .slice q ks.length c]], G1⟩) (fun x => x = true → 1 < depth) ?_ ?_)
 refine A5 ?_
 refine zf17 (fun h160 => ?_) (fun h160 => ?_)
 refine sD ?_
 refine E2 true (D6 zA0 zQ) (fun _ => by omega)
 refine sD ?_
 refine E2 false (D6 zA0 zQ) (fun h => absurd h zN0)
 (rintro (x49 : Bool) hx49)
 (show J9 _ _ (.cond (.tmp 49) _ _) _ _; refine A3R (fun (x : Nat × IM) => ⟨[(0, .pointer (some ⟨br, 0, none⟩)), (1, .slice pc nc cc), (3, .int .i64 depth), (6, .pointer (some ⟨b3, 0, none⟩)), (8, .pointer (some ⟨b4, 0, none⟩))], [rd br pb nb cb x.1, .blk b4 zq9, .blk b3 [.int .i64 k, .slice q ks.length c]], x.2⟩) (fun x => C3 G1 x.2 ∧ p1 ≤ x.1 ∧ x.1 ≤ p1 + 1) (A4n rfl (fun hxt => ?_) (fun hxf => ?_)) ?_)
 refine B5 ?_
 (have hx49b := hx49 hxt; refine K4 rfl (A0i _ br pb nb cb (p1) bs 9 hb hnb zO0) (Pk.perm zB0) rfl rfl (fun v Gp outs hle170 hh => ?_); obtain ⟨rfl, rfl, j170, rfl, hj170, hk170⟩ := hh; have hpk9 := hj170)
 replace hb := hb.mono hle170
 replace hrt := hrt.mono hle170
 refine A5 ?_
 refine C2 (tS (tR (sB (qE rfl rfl) rfl rfl (fun h176 => ?_) (fun h176 => ?_))))
 refine B1 ?_
 (obtain ⟨m, rfl⟩ := hfu.pos (.inl zO0); have hmB : mB (m + 1) = 3 * mB m + 200 := rfl; have hgm := A13 m; refine zdd D9 rfl ?_)
 refine xx6 0 2 3 4 5 7 ?_
 refine aP 8 rfl (N7 rfl rfl zO0 zO0) rfl ?_
 refine A2 1 ?_
 (refine E6 rfl rfl (W3 _ _ _ har.small hrt) rfl rfl rfl (fun v G6 hle6 hh => ?_); obtain ⟨cs1, F1, rfl, hs1, hn1⟩ := hh; obtain ⟨pz, cz, rfl, _⟩ := hs1.open; have hrz := hs1.R.mono (E8.le G6 _); replace hx := hx.mono hle6; replace hb := hb.mono hle6; replace hrt := hrt.mono hle6;)
 refine A2 6 ?_
 (have hcall := A5Y br pb nb cb bs hnb (.mk k ks) (p1 + 1) _ _ har hrt hb zO0; refine Z9 (l' := [tt,tt,tt,tt,tt,tt,tt,tt,tt,ff,ff,ff,ff]) rfl rfl hcall (Pk.perm zB0) rfl rfl rfl zE (fun v Gn outs hleA hh => ?_); obtain ⟨pA, hpA1, hpA2, rfl, uA, cuA, rfl, hruA, huaA, husA, huhA⟩ := hh; obtain ⟨quA, duA, euA, rfl, _⟩ := hruA.open; replace hrz := hrz.mono hleA; replace hx := hx.mono hleA; replace hb := hb.mono hleA; replace hrt := hrt.mono hleA;)
 refine A2 9 ?_
 (have hcall := ih m zO0 (depth - 1) uA pA _ pc nc cc _ (hfu.sub zO0 (huhA 4 hfu.1)) zO0 zO0 zO0 hx hruA hb zO0; refine Z9 (l' := [tt,tt,tt,tt,tt,tt,tt,tt,tt,tt,ff,ff,ff]) rfl rfl hcall (Pk.perm zB0) rfl rfl rfl zE (fun v Gn outs hlea hh => ?_); obtain ⟨pa, hpa1, hpa2, rfl, ea, ca, rfl, hra, hsma, hca⟩ := hh; obtain ⟨a1, a2, a3, a4, a5, a6, a7, a8, a9, rfl⟩ := hra.nine; replace hrz := hrz.mono hlea; replace hx := hx.mono hlea; replace hb := hb.mono hlea; replace hrt := hrt.mono hlea;)
 refine A2 10 ?_
 refine zf3 (fun b197 => ?_)
 refine xx1 11 ?_
 refine A2 12 ?_
 refine R8 rfl rfl rfl rfl rfl rfl rfl rfl zK0 zC0 (by rfl) ?_
 refine A5 ?_
 (refine H1 (cs := [a1, a2, a3, a4, a5, a6, a7, a8, a9]) zB0 (fun G9 hle9 hsl9 hno9 => ?_); have hN := A5h (k := 13) (nm := ⟨⟨[]⟩⟩) ⟨by omega, by omega⟩ (hrz.mono hle9) (hra.mono hle9) hsl9)
 refine A5 ?_
 refine A0l ?_
 refine I6 (outs := [rd br pb nb cb pa]) (rC rfl (A4 rfl rfl)) zN ?_
 (exact ⟨pa, by omega, by omega, rfl, _, _, rfl, hN, by first | exact P2 (by first | assumption | decide) | exact A01 zN0 zL0 zL0 zL0 | exact U1 zN0 zL0 zL0 | exact L6 zN0 Q8 zL0 | exact L6 zN0 har.small zL0 | exact L6 zN0 Q8 (U1 zN0 zL0 (P2 zN0)) | exact L6 zN0 A02 (P2 zN0) | assumption, by simp only [H9, I3]; omega⟩)
 refine A7 ?_
 refine zf0 (fun h215 => ?_) (fun h215 => ?_)
 refine B1 ?_
 (obtain ⟨m, rfl⟩ := hfu.pos (.inl zO0); have hmB : mB (m + 1) = 3 * mB m + 200 := rfl; have hgm := A13 m; refine zdd D9 rfl ?_)
 refine xx3 0 1 3 ?_
 refine aP 4 rfl (N7 rfl rfl zO0 zO0) rfl ?_
 refine xx4 6 7 8 9 ?_
 refine aP 10 rfl (N7 rfl rfl zO0 zO0) rfl ?_
 refine xx4 12 13 14 15 ?_
 refine aP 16 rfl (N7 rfl rfl zO0 zO0) rfl ?_
 refine A2 2 ?_
 refine M9 rfl rfl ((A3W _)) rfl rfl rfl ?_
 refine A2 5 ?_
 (have hcall := ih m zO0 (depth - 1) (.mk 3 []) (p1 + 1) _ pc nc cc _ (hfu.sub zO0 (A3T 4 zN0 zN0)) zO0 zO0 zO0 hx (N2 _ ⟨by omega, by omega⟩) hb zO0; refine Z9 (l' := [tt,tt,tt,tt,tt,tt,tt,tt,tt,tt,tt,ff,tt,tt,tt,tt,tt,ff,ff,ff,ff]) rfl rfl hcall (Pk.perm zB0) rfl rfl rfl zE (fun v Gn outs hlef hh => ?_); obtain ⟨pf, hpf1, hpf2, rfl, ef, cf, rfl, hrf, hsmf, hcf⟩ := hh; obtain ⟨f1, f2, f3, f4, f5, f6, f7, f8, f9, rfl⟩ := hrf.nine; replace hx := hx.mono hlef; replace hb := hb.mono hlef; replace hrt := hrt.mono hlef;)
 refine A2 11 ?_
 (have hcall := ih m zO0 (depth - 1) (.mk k ks) pf _ pc nc cc _ (hfu.sub zO0 hfu.1) zO0 zO0 zO0 hx hrt hb zO0; refine Z9 (l' := [tt,tt,tt,tt,tt,tt,tt,tt,tt,tt,tt,tt,tt,tt,tt,tt,tt,ff,ff,ff,ff]) rfl rfl hcall (Pk.perm zB0) rfl rfl rfl zE (fun v Gn outs hleg hh => ?_); obtain ⟨pg, hpg1, hpg2, rfl, eg, cg, rfl, hrg, hsmg, hcg⟩ := hh; obtain ⟨g1, g2, g3, g4, g5, g6, g7, g8, g9, rfl⟩ := hrg.nine; replace hrf := hrf.mono hleg; replace hx := hx.mono hleg; replace hb := hb.mono hleg; replace hrt := hrt.mono hleg;)
 refine A2 17 ?_
 (have hcall := ih m zO0 (depth - 1) (.mk k ks) pg _ pc nc cc _ (hfu.sub zO0 hfu.1) zO0 zO0 zO0 hx hrt hb zO0; refine Z9 (l' := [tt,tt,tt,tt,tt,tt,tt,tt,tt,tt,tt,tt,tt,tt,tt,tt,tt,tt,ff,ff,ff]) rfl rfl hcall (Pk.perm zB0) rfl rfl rfl zE (fun v Gn outs hlei hh => ?_); obtain ⟨pi, hpi1, hpi2, rfl, ei, ci, rfl, hri, hsmi, hci⟩ := hh; obtain ⟨i1, i2, i3, i4, i5, i6, i7, i8, i9, rfl⟩ := hri.nine; replace hrf := hrf.mono hlei; replace hrg := hrg.mono hlei; replace hx := hx.mono hlei; replace hb := hb.mono hlei; replace hrt := hrt.mono hlei;)
 refine A2 18 ?_
 refine zf3 (fun b245 => ?_)
 refine A2 19 ?_
 refine M9 rfl rfl ((A3h _ _ _ _ _)) rfl rfl rfl ?_
 refine A2 20 ?_
 refine R8 rfl rfl rfl rfl rfl rfl rfl rfl zK0 zC0 (by rfl) ?_
 refine A5 ?_
 (refine H1 (cs := [f1, f2, f3, f4, f5, f6, f7, f8, f9] ++ ([g1, g2, g3, g4, g5, g6, g7, g8, g9] ++ [i1, i2, i3, i4, i5, i6, i7, i8, i9])) zB0 (fun G9 hle9 hsl9 hno9 => ?_); have hN := B96 (k := 9) (nm := ⟨⟨[]⟩⟩) ⟨by omega, by omega⟩ (hrf.mono hle9) (hrg.mono hle9) (hri.mono hle9) hsl9)
 refine A5 ?_
 refine A0l ?_
 refine I6 (outs := [rd br pb nb cb pi]) (rC rfl (A4 rfl rfl)) zN ?_
 (exact ⟨pi, by omega, by omega, rfl, _, _, rfl, hN, by first | exact P2 (by first | assumption | decide) | exact A01 zN0 zL0 zL0 zL0 | exact U1 zN0 zL0 zL0 | exact L6 zN0 Q8 zL0 | exact L6 zN0 har.small zL0 | exact L6 zN0 Q8 (U1 zN0 zL0 (P2 zN0)) | exact L6 zN0 A02 (P2 zN0) | assumption, by simp only [H9, I3]; omega⟩)
 refine A7 ?_
 refine zf0 (fun h264 => ?_) (fun h264 => ?_)
 refine B8 ?_
 (have hcall := A4M br pb nb cb bs hnb 0 (p1 + 1) _ zO0 hb (by have : dB (0 + 1) ≤ 6 := zN0; omega); refine K4 rfl hcall (Pk.perm zB0) rfl rfl (fun v Gn outs hleD hh => ?_); obtain ⟨pD, hpD1, hpD2, rfl, uD, cuD, rfl, hruD, husD, huhD⟩ := hh; have huaD := huhD.ar; obtain ⟨quD, duD, euD, rfl, _⟩ := hruD.open; have hdBD : dB (0 + 1) ≤ 6 := zN0; replace hx := hx.mono hleD; replace hb := hb.mono hleD; replace hrt := hrt.mono hleD;)
 refine zf1 (fun b273 => ?_)
 refine B6 ?_
 (obtain ⟨m, rfl⟩ := hfu.pos (.inl zO0); have hmB : mB (m + 1) = 3 * mB m + 200 := rfl; have hgm := A13 m; refine zdd D9 rfl ?_)
 refine xx5 0 1 2 3 4 ?_
 refine aP 5 rfl (N7 rfl rfl zO0 zO0) rfl ?_
 refine xx5 7 8 9 10 12 ?_
 refine aP 13 rfl (N7 rfl rfl zO0 zO0) rfl ?_
 refine A2 6 ?_
 (have hcall := B3O br pb nb cb bs hnb m (ih m zO0) (depth - 1) uD (.mk k ks) (pD) _ pc nc cc _ _ (hfu.sub zO0 hfu.1) zO0 zO0 zO0 hx hruD ⟨huaD, by omega⟩ hrt hb zO0; refine Z9 (l' := [tt,tt,tt,tt,tt,tt,tt,tt,tt,tt,tt,ff,tt,tt,ff,ff,ff,ff]) rfl rfl hcall (Pk.perm zB0) rfl rfl rfl zE (fun v Gn outs hlel hh => ?_); obtain ⟨pl, hpl1, hpl2, rfl, el, cl, rfl, hrl, hsml, hcl⟩ := hh; obtain ⟨l1, l2, l3, l4, l5, l6, l7, l8, l9, rfl⟩ := hrl.nine; replace hruD := hruD.mono hlel; replace hx := hx.mono hlel; replace hb := hb.mono hlel; replace hrt := hrt.mono hlel;)
 refine A2 11 ?_
 (have hcall := A5Y br pb nb cb bs hnb uD (pl) _ _ huaD hruD hb zO0; refine Z9 (l' := [tt,tt,tt,tt,tt,tt,tt,tt,tt,tt,tt,tt,tt,tt,ff,ff,ff,ff]) rfl rfl hcall (Pk.perm zB0) rfl rfl rfl zE (fun v Gn outs hleE hh => ?_); obtain ⟨pE, hpE1, hpE2, rfl, uE, cuE, rfl, hruE, huaE, husE, huhE⟩ := hh; obtain ⟨quE, duE, euE, rfl, _⟩ := hruE.open; replace hrl := hrl.mono hleE; replace hx := hx.mono hleE; replace hb := hb.mono hleE; replace hrt := hrt.mono hleE;)
 refine A2 14 ?_
 (have hcall := ih m zO0 (depth - 1) uE pE _ pc nc cc _ (hfu.sub zO0 (huhE 4 (huhD.le zO0))) zO0 zO0 zO0 hx hruE hb zO0; refine Z9 (l' := [tt,tt,tt,tt,tt,tt,tt,tt,tt,tt,tt,tt,tt,tt,tt,ff,ff,ff]) rfl rfl hcall (Pk.perm zB0) rfl rfl rfl zE (fun v Gn outs hled hh => ?_); obtain ⟨pd, hpd1, hpd2, rfl, ed, cd, rfl, hrd, hsmd, hcd⟩ := hh; obtain ⟨d1, d2, d3, d4, d5, d6, d7, d8, d9, rfl⟩ := hrd.nine; replace hrl := hrl.mono hled; replace hx := hx.mono hled; replace hb := hb.mono hled; replace hrt := hrt.mono hled;)
 refine A2 15 ?_
 refine zf3 (fun b298 => ?_)
 refine A2 16 ?_
 refine M9 rfl rfl ((A3h _ _ _ _ _)) rfl rfl rfl ?_
 refine A2 17 ?_
 refine R8 rfl rfl rfl rfl rfl rfl rfl rfl zK0 zC0 (by rfl) ?_
 refine A5 ?_
 (refine H1 (cs := [l1, l2, l3, l4, l5, l6, l7, l8, l9] ++ [d1, d2, d3, d4, d5, d6, d7, d8, d9]) zB0 (fun G9 hle9 hsl9 hno9 => ?_); have hN := A5i (k := 6) (nm := ⟨⟨[]⟩⟩) ⟨by omega, by omega⟩ (hrl.mono hle9) (hrd.mono hle9) hsl9)
 refine A5 ?_
 refine A0l ?_
 refine I6 (outs := [rd br pb nb cb pd]) (rC rfl (A4 rfl rfl)) zN ?_
 (exact ⟨pd, by omega, by omega, rfl, _, _, rfl, hN, by first | exact P2 (by first | assumption | decide) | exact A01 zN0 zL0 zL0 zL0 | exact U1 zN0 zL0 zL0 | exact L6 zN0 Q8 zL0 | exact L6 zN0 har.small zL0 | exact L6 zN0 Q8 (U1 zN0 zL0 (P2 zN0)) | exact L6 zN0 A02 (P2 zN0) | assumption, by simp only [H9, I3]; omega⟩)
 refine A7 ?_
 refine zf0 (fun h317 => ?_) (fun h317 => ?_)
 refine I9 ?_
 refine zf14 ?_
 (have hpkq := hpk9; obtain ⟨m, rfl⟩ := hfu.pos (.inl zO0); have hmB : mB (m + 1) = 3 * mB m + 200 := rfl; have hgm := A13 m; have hcall := ih m zO0 (depth - 1) (.mk k ks) (p1 + 1) _ pc nc cc _ (hfu.sub zO0 hfu.1) zO0 zO0 zO0 hx hrt hb zO0; refine K4 rfl hcall (Pk.perm zB0) rfl rfl (fun v Gn outs hleh hh => ?_); obtain ⟨ph, hph1, hph2, rfl, eh, ch, rfl, hrh, hsmh, hch⟩ := hh; obtain ⟨h1, h2, h3, h4, h5, h6, h7, h8, h9, rfl⟩ := hrh.nine; replace hx := hx.mono hleh; replace hb := hb.mono hleh; replace hrt := hrt.mono hleh;)
 refine F0 rfl ((A3g _ _)) rfl rfl ?_
 refine zf7 (fun b331 => ?_)
 refine F0 rfl ((A3h _ _ _ _ _)) rfl rfl ?_
 refine zf7 (fun b333 => ?_)
 refine F0 rfl ((A3h _ _ _ _ _)) rfl rfl ?_
 refine B5 ?_
 (refine H1 (cs := [h1, h2, h3, h4, h5, h6, h7, h8, h9] ++ [.int .i64 2, .string ⟨⟨[]⟩⟩, .int .i64 1, .int .i64 0, .slice none 0 0, .int .i64 0, .slice none 0 0, .int .i64 0, .slice none 0 0]) zB0 (fun G8 hle8 hsl8 hno8 => ?_); have hNi := A5i (k := 10) (nm := ⟨⟨[]⟩⟩) ⟨by omega, by omega⟩ (hrh.mono hle8) (A26 G8 ⟨⟨[]⟩⟩ 1 (k := 2) ⟨by omega, by omega⟩ ⟨by omega, by omega⟩) hsl8; refine H1 zB0 (fun G9 hle9 hsl9 hno9 => ?_); have hN := A5h (k := 11) (nm := ⟨⟨[]⟩⟩) ⟨by omega, by omega⟩ (N2 G9 (k := 0) ⟨by omega, by omega⟩) (hNi.mono hle9) hsl9)
 refine A5 ?_
 refine A0l ?_
 refine I6 (outs := [rd br pb nb cb ph]) (rC rfl (A4 rfl rfl)) zN ?_
 (exact ⟨ph, by omega, by omega, rfl, _, _, rfl, hN, by first | exact P2 (by first | assumption | decide) | exact A01 zN0 zL0 zL0 zL0 | exact U1 zN0 zL0 zL0 | exact L6 zN0 Q8 zL0 | exact L6 zN0 har.small zL0 | exact L6 zN0 Q8 (U1 zN0 zL0 (P2 zN0)) | exact L6 zN0 A02 (P2 zN0) | assumption, by simp only [H9, I3]; omega⟩)
 refine A7 ?_
 refine A0L (p1 + 1, Gp) (D6 zA0 zQ) ⟨C3.refl _, by dsimp only; omega, by dsimp only; omega⟩
 refine tK ?_
 refine A0L (p1, G1) (D6 zA0 zQ) ⟨C3.refl _, by dsimp only; omega, by dsimp only; omega⟩
 (rintro ⟨(p2 : Nat), G2⟩ ⟨hle2c, hp2a, hp2b⟩; simp only [] at hle2c hp2a hp2b ⊢; have hcut1 := hp2a; replace hx := hx.mono hle2c; replace hb := hb.mono hle2c; replace hrt := hrt.mono hle2c;)
 refine B8 ?_
 (show J9 _ _ (.block 3 ..) _ _; refine A3R (fun (x : Nat × IM) => ⟨[(0, .pointer (some ⟨br, 0, none⟩)), (1, .slice pc nc cc), (3, .int .i64 depth), (6, .pointer (some ⟨b3, 0, none⟩)), (8, .pointer (some ⟨b4, 0, none⟩))], [rd br pb nb cb x.1, .blk b4 zq9, .blk b3 [.int .i64 k, .slice q ks.length c]], x.2⟩) (fun x => C3 G2 x.2 ∧ p2 ≤ x.1 ∧ x.1 ≤ p2 + 2) ?_ ?_)
 refine C2 (tS (tR (sB (qE rfl rfl) rfl rfl (fun h365 => ?_) (fun h365 => ?_))))
 refine D4 ?_
 refine zf17 (fun h374 => ?_) (fun h374 => ?_)
 refine A5 ?_
 (have hkk3 : k = 3 := zO0; refine K4 rfl (A0i _ br pb nb cb (p2) bs 2 hb hnb zO0) (Pk.perm zB0) rfl rfl (fun v Gp outs hle377 hh => ?_); obtain ⟨rfl, rfl, j377, rfl, hj377, hk377⟩ := hh; have hpk22 := hj377)
 replace hb := hb.mono hle377
 replace hrt := hrt.mono hle377
 refine zf0 (fun h378 => ?_) (fun h378 => ?_)
 refine D4 ?_
 refine F0 rfl ((A0X _)) rfl rfl ?_
 refine I0 ?_
 refine zf14 ?_
 (have hkk3q := hkk3; obtain ⟨m, rfl⟩ := hfu.pos (.inl zO0); have hmB : mB (m + 1) = 3 * mB m + 200 := rfl; have hgm := A13 m; have hcall := ih m zO0 (depth - 1) (.mk 2 []) (p2 + 1) _ pc nc cc _ (hfu.sub zO0 (A3T 4 zN0 zN0)) zO0 zO0 zO0 hx (N2 _ ⟨by omega, by omega⟩) hb zO0; refine K4 rfl hcall (Pk.perm zB0) rfl rfl (fun v Gn outs hlen hh => ?_); obtain ⟨pn, hpn1, hpn2, rfl, en, cn, rfl, hrn, hsmn, hcn⟩ := hh; obtain ⟨n1, n2, n3, n4, n5, n6, n7, n8, n9, rfl⟩ := hrn.nine; replace hx := hx.mono hlen; replace hb := hb.mono hlen; replace hrt := hrt.mono hlen;)
 refine A5 ?_
 refine F0 rfl ((A0X _)) rfl rfl ?_
 refine I0 ?_
 refine zf14 ?_
 (have hcall := ih m zO0 (depth - 1) (.mk 2 []) pn _ pc nc cc _ (hfu.sub zO0 (A3T 4 zN0 zN0)) zO0 zO0 zO0 hx (N2 _ ⟨by omega, by omega⟩) hb zO0; refine K4 rfl hcall (Pk.perm zB0) rfl rfl (fun v Gn outs hleo hh => ?_); obtain ⟨po, hpo1, hpo2, rfl, eo, co, rfl, hro, hsmo, hco⟩ := hh; obtain ⟨o1, o2, o3, o4, o5, o6, o7, o8, o9, rfl⟩ := hro.nine; replace hrn := hrn.mono hleo; replace hx := hx.mono hleo; replace hb := hb.mono hleo; replace hrt := hrt.mono hleo;)
 refine zf7 (fun b397 => ?_)
 refine F0 rfl ((A3h _ _ _ _ _)) rfl rfl ?_
 refine B5 ?_
 (refine H1 (cs := [n1, n2, n3, n4, n5, n6, n7, n8, n9] ++ [o1, o2, o3, o4, o5, o6, o7, o8, o9]) zB0 (fun G9 hle9 hsl9 hno9 => ?_); have hN := A5i (k := 8) (nm := ⟨⟨[]⟩⟩) ⟨by omega, by omega⟩ (hrn.mono hle9) (hro.mono hle9) hsl9)
 refine B5 ?_
 refine A0l ?_
 refine I6 (outs := [rd br pb nb cb po]) (rC rfl (A4 rfl rfl)) zN ?_
 (exact ⟨po, by omega, by omega, rfl, _, _, rfl, hN, by first | exact P2 (by first | assumption | decide) | exact A01 zN0 zL0 zL0 zL0 | exact U1 zN0 zL0 zL0 | exact L6 zN0 Q8 zL0 | exact L6 zN0 har.small zL0 | exact L6 zN0 Q8 (U1 zN0 zL0 (P2 zN0)) | exact L6 zN0 A02 (P2 zN0) | assumption, by simp only [H9, I3]; omega⟩)
 refine K5 ?_
 refine A0l ?_
 refine I6 (outs := [rd br pb nb cb (p2 + 1)]) (rC rfl (A4 rfl rfl)) zN ?_
 (exact ⟨(p2 + 1), by omega, by omega, rfl, _, _, rfl, A26 _ _ _ ⟨by omega, by omega⟩ (by first | exact ⟨by omega, by omega⟩ | exact hkn), by first | exact P2 (by first | assumption | decide) | exact A01 zN0 zL0 zL0 zL0 | exact U1 zN0 zL0 zL0 | exact L6 zN0 Q8 zL0 | exact L6 zN0 har.small zL0 | exact L6 zN0 Q8 (U1 zN0 zL0 (P2 zN0)) | exact L6 zN0 A02 (P2 zN0) | assumption, by simp only [H9, I3]; omega⟩)
 refine A0H ?_
 refine A0l ?_
 refine I6 (outs := [rd br pb nb cb p2]) (rC rfl (A4 rfl rfl)) zN ?_
 (exact ⟨p2, by omega, by omega, rfl, _, _, rfl, A26 _ _ _ ⟨by omega, by omega⟩ (by first | exact ⟨by omega, by omega⟩ | exact hkn), by first | exact P2 (by first | assumption | decide) | exact A01 zN0 zL0 zL0 zL0 | exact U1 zN0 zL0 zL0 | exact L6 zN0 Q8 zL0 | exact L6 zN0 har.small zL0 | exact L6 zN0 Q8 (U1 zN0 zL0 (P2 zN0)) | exact L6 zN0 A02 (P2 zN0) | assumption, by simp only [H9, I3]; omega⟩)
 refine A7 ?_
 refine zf0 (fun h453 => ?_) (fun h453 => ?_)
 refine B1 ?_
 (have hk45 : k = 4 ∨ k = 5 := zO0; have hl2 := hops hk45; obtain ⟨m, rfl⟩ := hfu.pos (.inr hk45); have hmB : mB (m + 1) = 3 * mB m + 200 := rfl; have hgm := A13 m; obtain ⟨es9, hsl, hkl⟩ := hrt.kidsM; obtain ⟨b0, o0, q0, d0, hp0, hat0, hre0, hg0⟩ := hsl.kidTy hkl (i := 0) zO0 zO0; obtain ⟨b1, o1, q1, d1, hp1, hat1, hre1, hg1⟩ := hsl.kidTy hkl (i := 1) zO0 zO0; cases hp0; cases hp1; have hmem0 := List.getElem_mem (l := ks) (n := 0) zO0; have hmem1 := List.getElem_mem (l := ks) (n := 1) zO0; refine zdd D9 rfl ?_)
 refine xx11 0 1 2 3 4 5 6 7 8 9 10 ?_
 refine aP 11 rfl (N7 rfl rfl zO0 zO0) rfl ?_
 refine A2 12 ?_
 (have hcall := B3O br pb nb cb bs hnb m (ih m zO0) (depth - 1) ks[0] ks[1] (p2) _ pc nc cc _ _ (hfu.kid hmem1) zO0 zO0 zO0 hx hre0 ⟨har.kid _ hmem0, by have := B6j (k := k) hmem0; omega⟩ hre1 hb zO0; refine Z9 (l' := [tt,tt,tt,tt,tt,tt,tt,tt,tt,tt,tt,tt,tt,ff]) rfl rfl hcall (Pk.perm zB0) rfl rfl rfl zE (fun v Gn outs hlek hh => ?_); obtain ⟨pk, hpk1, hpk2, rfl, ek, ck, rfl, hrk, hsmk, hck⟩ := hh; obtain ⟨k1, k2, k3, k4, k5, k6, k7, k8, k9, rfl⟩ := hrk.nine; replace hx := hx.mono hlek; replace hb := hb.mono hlek; replace hrt := hrt.mono hlek;)
 refine A2 13 ?_
 refine R8 rfl rfl rfl rfl rfl hrk.one rfl rfl zM0 zC0 (by rfl) ?_
 refine B6 ?_
 refine A0l ?_
 refine I6 (outs := [rd br pb nb cb pk]) (rC rfl (A4 rfl rfl)) zN ?_
 (exact ⟨pk, by omega, by omega, rfl, _, _, rfl, hrk, hsmk, by omega⟩)
 refine A7 ?_
 refine zf0 (fun h489 => ?_) (fun h489 => ?_)
 refine B1 ?_
 (have hk45 : k = 4 ∨ k = 5 := zO0; have hl2 := hops hk45; obtain ⟨m, rfl⟩ := hfu.pos (.inr hk45); have hmB : mB (m + 1) = 3 * mB m + 200 := rfl; have hgm := A13 m; obtain ⟨es9, hsl, hkl⟩ := hrt.kidsM; obtain ⟨b0, o0, q0, d0, hp0, hat0, hre0, hg0⟩ := hsl.kidTy hkl (i := 0) zO0 zO0; obtain ⟨b1, o1, q1, d1, hp1, hat1, hre1, hg1⟩ := hsl.kidTy hkl (i := 1) zO0 zO0; cases hp0; cases hp1; have hmem0 := List.getElem_mem (l := ks) (n := 0) zO0; have hmem1 := List.getElem_mem (l := ks) (n := 1) zO0; refine zdd D9 rfl ?_)
 refine xx7 0 1 2 3 4 5 6 ?_
 refine aP 7 rfl (N7 rfl rfl zO0 zO0) rfl ?_
 refine xx7 9 10 11 12 13 14 15 ?_
 refine aP 16 rfl (N7 rfl rfl zO0 zO0) rfl ?_
 refine A2 8 ?_
 (have hcall := ih m zO0 (depth - 1) ks[0] p2 _ pc nc cc _ (hfu.kid hmem0) zO0 zO0 zO0 hx hre0 hb zO0; refine Z9 (l' := [tt,tt,tt,tt,tt,tt,tt,tt,tt,tt,tt,tt,tt,tt,tt,tt,tt,ff,ff,ff,ff]) rfl rfl hcall (Pk.perm zB0) rfl rfl rfl zE (fun v Gn outs hles hh => ?_); obtain ⟨ps, hps1, hps2, rfl, es, cs, rfl, hrs, hsms, hcs⟩ := hh; obtain ⟨s1, s2, s3, s4, s5, s6, s7, s8, s9, rfl⟩ := hrs.nine; replace hre1 := hre1.mono hles; replace hx := hx.mono hles; replace hb := hb.mono hles; replace hrt := hrt.mono hles;)
 refine A2 17 ?_
 (have hcall := ih m zO0 (depth - 1) ks[1] ps _ pc nc cc _ (hfu.kid hmem1) zO0 zO0 zO0 hx hre1 hb zO0; refine Z9 (l' := [tt,tt,tt,tt,tt,tt,tt,tt,tt,tt,tt,tt,tt,tt,tt,tt,tt,tt,ff,ff,ff]) rfl rfl hcall (Pk.perm zB0) rfl rfl rfl zE (fun v Gn outs hlew hh => ?_); obtain ⟨pw, hpw1, hpw2, rfl, ew, cw, rfl, hrw, hsmw, hcw⟩ := hh; obtain ⟨w1, w2, w3, w4, w5, w6, w7, w8, w9, rfl⟩ := hrw.nine; replace hrs := hrs.mono hlew; replace hx := hx.mono hlew; replace hb := hb.mono hlew; replace hrt := hrt.mono hlew;)
 refine A2 18 ?_
 refine zf3 (fun b517 => ?_)
 refine A2 19 ?_
 refine M9 rfl rfl ((A3h _ _ _ _ _)) rfl rfl rfl ?_
 refine A2 20 ?_
 refine R8 rfl rfl rfl rfl rfl rfl rfl rfl zK0 zC0 (by rfl) ?_
 refine A5 ?_
 (refine H1 (cs := [s1, s2, s3, s4, s5, s6, s7, s8, s9] ++ [w1, w2, w3, w4, w5, w6, w7, w8, w9]) zB0 (fun G9 hle9 hsl9 hno9 => ?_); have hN := A5i (k := 10) (nm := ⟨⟨[]⟩⟩) ⟨by omega, by omega⟩ (hrs.mono hle9) (hrw.mono hle9) hsl9)
 refine A5 ?_
 refine A0l ?_
 refine I6 (outs := [rd br pb nb cb pw]) (rC rfl (A4 rfl rfl)) zN ?_
 (exact ⟨pw, by omega, by omega, rfl, _, _, rfl, hN, by first | exact P2 (by first | assumption | decide) | exact A01 zN0 zL0 zL0 zL0 | exact U1 zN0 zL0 zL0 | exact L6 zN0 Q8 zL0 | exact L6 zN0 har.small zL0 | exact L6 zN0 Q8 (U1 zN0 zL0 (P2 zN0)) | exact L6 zN0 A02 (P2 zN0) | assumption, by simp only [H9, I3]; omega⟩)
 refine A7 ?_
 refine zf0 (fun h536 => ?_) (fun h536 => ?_)
 refine D4 ?_
 refine zf17 (fun h545 => ?_) (fun h545 => ?_)
 refine A5 ?_
 (have hkk1 : k = 1 := zO0; refine K4 rfl (A0i _ br pb nb cb (p2) bs 3 hb hnb zO0) (Pk.perm zB0) rfl rfl (fun v Gp outs hle548 hh => ?_); obtain ⟨rfl, rfl, j548, rfl, hj548, hk548⟩ := hh; have hpk23 := hj548)
 replace hb := hb.mono hle548
 replace hrt := hrt.mono hle548
 refine zf0 (fun h549 => ?_) (fun h549 => ?_)
 refine E1 ?_
 (have hcall := A4M br pb nb cb bs hnb 1 (p2 + 1) _ zO0 hb (by have : dB (1 + 1) ≤ 6 := zN0; omega); refine K4 rfl hcall (Pk.perm zB0) rfl rfl (fun v Gn outs hleF hh => ?_); obtain ⟨pF, hpF1, hpF2, rfl, uF, cuF, rfl, hruF, husF, huhF⟩ := hh; have huaF := huhF.ar; obtain ⟨quF, duF, euF, rfl, _⟩ := hruF.open; have hdBF : dB (1 + 1) ≤ 6 := zN0; replace hx := hx.mono hleF; replace hb := hb.mono hleF; replace hrt := hrt.mono hleF;)
 refine I0 ?_
 refine zf14 ?_
 (obtain ⟨m, rfl⟩ := hfu.pos (.inl zO0); have hmB : mB (m + 1) = 3 * mB m + 200 := rfl; have hgm := A13 m; have hcall := ih m zO0 (depth - 1) uF pF _ pc nc cc _ (hfu.sub zO0 (huhF.le zO0)) zO0 zO0 zO0 hx hruF hb zO0; refine K4 rfl hcall (Pk.perm zB0) rfl rfl (fun v Gn outs hlex hh => ?_); obtain ⟨px, hpx1, hpx2, rfl, ex, cx, rfl, hrx, hsmx, hcx⟩ := hh; obtain ⟨x1, x2, x3, x4, x5, x6, x7, x8, x9, rfl⟩ := hrx.nine; replace hx := hx.mono hlex; replace hb := hb.mono hlex; replace hrt := hrt.mono hlex;)
 refine sS rfl rfl rfl rfl hrx.one rfl ?_
 refine B1 ?_
 refine A0l ?_
 refine I6 (outs := [rd br pb nb cb px]) (rC rfl (A4 rfl rfl)) zN ?_
 (exact ⟨px, by omega, by omega, rfl, _, _, rfl, hrx, hsmx, by omega⟩)
 refine E1 ?_
 (refine K4 rfl (A0i _ br pb nb cb (p2 + 1) bs 3 hb hnb zO0) (Pk.perm zB0) rfl rfl (fun v Gp outs hle581 hh => ?_); obtain ⟨rfl, rfl, j581, rfl, hj581, hk581⟩ := hh; have hpk21 := hj581)
 replace hb := hb.mono hle581
 replace hrt := hrt.mono hle581
 refine zf0 (fun h582 => ?_) (fun h582 => ?_)
 refine B1 ?_
 refine F0 rfl ((A2n _)) rfl rfl ?_
 refine I0 ?_
 refine zf7 (fun b590 => ?_)
 refine B6 ?_
 (refine H1 (cs := [.int .i64 4, .string ⟨⟨[]⟩⟩, .int .i64 0, .int .i64 0, .slice none 0 0, .int .i64 0, .slice none 0 0, .int .i64 0, .slice none 0 0]) zB0 (fun G9 hle9 hsl9 hno9 => ?_); have hN := A5h (k := 13) (nm := ⟨⟨[]⟩⟩) ⟨by omega, by omega⟩ (A06 _) (A26 G9 ⟨⟨[]⟩⟩ 0 (k := 4) ⟨by omega, by omega⟩ ⟨by omega, by omega⟩) hsl9)
 refine A5 ?_
 refine A0l ?_
 refine I6 (outs := [rd br pb nb cb (p2 + 1 + 1)]) (rC rfl (A4 rfl rfl)) zN ?_
 (exact ⟨(p2 + 1 + 1), by omega, by omega, rfl, _, _, rfl, hN, by first | exact P2 (by first | assumption | decide) | exact A01 zN0 zL0 zL0 zL0 | exact U1 zN0 zL0 zL0 | exact L6 zN0 Q8 zL0 | exact L6 zN0 har.small zL0 | exact L6 zN0 Q8 (U1 zN0 zL0 (P2 zN0)) | exact L6 zN0 A02 (P2 zN0) | assumption, by simp only [H9, I3]; omega⟩)
 refine B1 ?_
 refine A0L (p2 + 1 + 1, Gp) (D6 zA0 zQ) ⟨C3.refl _, by dsimp only; omega, by dsimp only; omega⟩
 refine K7 ?_
 (have hkk1 : k = 1 := zO0; refine K4 rfl (A0i _ br pb nb cb (p2) bs 3 hb hnb zO0) (Pk.perm zB0) rfl rfl (fun v Gp outs hle620 hh => ?_); obtain ⟨rfl, rfl, j620, rfl, hj620, hk620⟩ := hh; have hpk23 := hj620)
 replace hb := hb.mono hle620
 replace hrt := hrt.mono hle620
 refine zf0 (fun h621 => ?_) (fun h621 => ?_)
 refine B1 ?_
 refine F0 rfl ((A2n _)) rfl rfl ?_
 refine I0 ?_
 refine zf7 (fun b629 => ?_)
 refine B6 ?_
 (refine H1 (cs := [.int .i64 4, .string ⟨⟨[]⟩⟩, .int .i64 0, .int .i64 0, .slice none 0 0, .int .i64 0, .slice none 0 0, .int .i64 0, .slice none 0 0]) zB0 (fun G9 hle9 hsl9 hno9 => ?_); have hN := A5h (k := 13) (nm := ⟨⟨[]⟩⟩) ⟨by omega, by omega⟩ (A06 _) (A26 G9 ⟨⟨[]⟩⟩ 0 (k := 4) ⟨by omega, by omega⟩ ⟨by omega, by omega⟩) hsl9)
 refine A5 ?_
 refine A0l ?_
 refine I6 (outs := [rd br pb nb cb (p2 + 1)]) (rC rfl (A4 rfl rfl)) zN ?_
 (exact ⟨(p2 + 1), by omega, by omega, rfl, _, _, rfl, hN, by first | exact P2 (by first | assumption | decide) | exact A01 zN0 zL0 zL0 zL0 | exact U1 zN0 zL0 zL0 | exact L6 zN0 Q8 zL0 | exact L6 zN0 har.small zL0 | exact L6 zN0 Q8 (U1 zN0 zL0 (P2 zN0)) | exact L6 zN0 A02 (P2 zN0) | assumption, by simp only [H9, I3]; omega⟩)
 refine B1 ?_
 refine A0L (p2 + 1, Gp) (D6 zA0 zQ) ⟨C3.refl _, by dsimp only; omega, by dsimp only; omega⟩
 refine A7 ?_
 refine A0L (p2, G2) (D6 zA0 zQ) ⟨C3.refl _, by dsimp only; omega, by dsimp only; omega⟩
 (have hq := hcut1; rintro ⟨(p5 : Nat), G5⟩ ⟨hle5c, hp5a, hp5b⟩; simp only [] at hle5c hp5a hp5b ⊢; have hcut2 := hp5a; replace hx := hx.mono hle5c; replace hb := hb.mono hle5c; replace hrt := hrt.mono hle5c;)
 refine B6 ?_
 refine zf17 (fun h658 => ?_) (fun h658 => ?_)
 refine A5 ?_
 (refine K4 rfl (A0i _ br pb nb cb (p5) bs 2 hb hnb zO0) (Pk.perm zB0) rfl rfl (fun v Gp outs hle661 hh => ?_); obtain ⟨rfl, rfl, j661, rfl, hj661, hk661⟩ := hh; have hpk5 := hj661)
 replace hb := hb.mono hle661
 replace hrt := hrt.mono hle661
 refine zf0 (fun h662 => ?_) (fun h662 => ?_)
 refine E1 ?_
 refine F0 rfl ((A0X _)) rfl rfl ?_
 (have hz2 : L3 (.mk 2 []) = 0 := rfl; have hcall := A5Y br pb nb cb bs hnb (.mk 2 []) (p5 + 1) _ _ (S8 zN0 zN0) (N2 _ ⟨by omega, by omega⟩) hb zO0; refine K4 rfl hcall (Pk.perm zB0) rfl rfl (fun v Gn outs hleG hh => ?_); obtain ⟨pG, hpG1, hpG2, rfl, uG, cuG, rfl, hruG, huaG, husG, huhG⟩ := hh; obtain ⟨quG, duG, euG, rfl, _⟩ := hruG.open; replace hx := hx.mono hleG; replace hb := hb.mono hleG; replace hrt := hrt.mono hleG;)
 refine I0 ?_
 refine zf14 ?_
 (obtain ⟨m, rfl⟩ := hfu.pos (.inl zO0); have hmB : mB (m + 1) = 3 * mB m + 200 := rfl; have hgm := A13 m; have hcall := ih m zO0 (depth - 1) uG pG _ pc nc cc _ (hfu.sub zO0 (huhG 4 (A3T 4 zN0 zN0))) zO0 zO0 zO0 hx hruG hb zO0; refine K4 rfl hcall (Pk.perm zB0) rfl rfl (fun v Gn outs hley hh => ?_); obtain ⟨py, hpy1, hpy2, rfl, ey, cy, rfl, hry, hsmy, hcy⟩ := hh; obtain ⟨y1, y2, y3, y4, y5, y6, y7, y8, y9, rfl⟩ := hry.nine; replace hx := hx.mono hley; replace hb := hb.mono hley; replace hrt := hrt.mono hley;)
 refine A5 ?_
 refine F0 rfl ((A0X _)) rfl rfl ?_
 refine I0 ?_
 refine zf14 ?_
 (have hcall := ih m zO0 (depth - 1) (.mk 2 []) py _ pc nc cc _ (hfu.sub zO0 (A3T 4 zN0 zN0)) zO0 zO0 zO0 hx (N2 _ ⟨by omega, by omega⟩) hb zO0; refine K4 rfl hcall (Pk.perm zB0) rfl rfl (fun v Gn outs hlec hh => ?_); obtain ⟨pc, hpc1, hpc2, rfl, ec, cc, rfl, hrc, hsmc, hcc⟩ := hh; obtain ⟨c1, c2, c3, c4, c5, c6, c7, c8, c9, rfl⟩ := hrc.nine; replace hry := hry.mono hlec; replace hx := hx.mono hlec; replace hb := hb.mono hlec; replace hrt := hrt.mono hlec;)
 refine zf7 (fun b683 => ?_)
 refine F0 rfl ((A3h _ _ _ _ _)) rfl rfl ?_
 refine B5 ?_
 (refine H1 (cs := [y1, y2, y3, y4, y5, y6, y7, y8, y9] ++ [c1, c2, c3, c4, c5, c6, c7, c8, c9]) zB0 (fun G9 hle9 hsl9 hno9 => ?_); have hN := A5i (k := 7) (nm := ⟨⟨[]⟩⟩) ⟨by omega, by omega⟩ (hry.mono hle9) (hrc.mono hle9) hsl9)
 refine A5 ?_
 refine I6 (outs := [rd br pb nb cb pc]) (rC rfl (A4 rfl rfl)) zN ?_
 (exact ⟨pc, by omega, by omega, rfl, _, _, rfl, hN, by first | exact P2 (by first | assumption | decide) | exact A01 zN0 zL0 zL0 zL0 | exact U1 zN0 zL0 zL0 | exact L6 zN0 Q8 zL0 | exact L6 zN0 har.small zL0 | exact L6 zN0 Q8 (U1 zN0 zL0 (P2 zN0)) | exact L6 zN0 A02 (P2 zN0) | assumption, by simp only [H9, I3]; omega⟩)
 refine E1 ?_
 refine zf7 (fun b702 => ?_)
 (refine V7 zB0 (fun G4 hle4 hsl4 _ => ?_); refine K4 rfl (A0F G4 br pb nb cb (p5 + 1) bs _ _ _ _ (hb.mono hle4) hnb zO0 hsl4 zN0) (Pk.perm zB0) rfl rfl (fun v G7 outs hle7 hh => ?_); obtain ⟨rfl, rfl, hv⟩ := hh; obtain ⟨kn, rfl, hkn⟩ : ∃ k, v = .int .i64 k ∧ F8 k := (by simp only [List.mem_cons, List.not_mem_nil, or_false] at hv; rcases hv with rfl | rfl | rfl | rfl | rfl <;> exact ⟨_, rfl, by unfold F8; omega⟩))
 refine F0 rfl ((A3g _ _)) rfl rfl ?_
 refine B6 ?_
 refine I6 (outs := [rd br pb nb cb (p5 + 1 + 1)]) (rC rfl (A4 rfl rfl)) zN ?_
 (exact ⟨(p5 + 1 + 1), by omega, by omega, rfl, _, _, rfl, A26 _ _ _ ⟨by omega, by omega⟩ (by first | exact ⟨by omega, by omega⟩ | exact hkn), by first | exact P2 (by first | assumption | decide) | exact A01 zN0 zL0 zL0 zL0 | exact U1 zN0 zL0 zL0 | exact L6 zN0 Q8 zL0 | exact L6 zN0 har.small zL0 | exact L6 zN0 Q8 (U1 zN0 zL0 (P2 zN0)) | exact L6 zN0 A02 (P2 zN0) | assumption, by simp only [H9, I3]; omega⟩)
 refine K7 ?_
 refine zf7 (fun b724 => ?_)
 (refine V7 zB0 (fun G4 hle4 hsl4 _ => ?_); refine K4 rfl (A0F G4 br pb nb cb p5 bs _ _ _ _ (hb.mono hle4) hnb zO0 hsl4 zN0) (Pk.perm zB0) rfl rfl (fun v G7 outs hle7 hh => ?_); obtain ⟨rfl, rfl, hv⟩ := hh; obtain ⟨kn, rfl, hkn⟩ : ∃ k, v = .int .i64 k ∧ F8 k := (by simp only [List.mem_cons, List.not_mem_nil, or_false] at hv; rcases hv with rfl | rfl | rfl | rfl | rfl <;> exact ⟨_, rfl, by unfold F8; omega⟩))
 refine F0 rfl ((A3g _ _)) rfl rfl ?_
 refine B6 ?_
 refine I6 (outs := [rd br pb nb cb (p5 + 1)]) (rC rfl (A4 rfl rfl)) zN ?_
 (exact ⟨(p5 + 1), by omega, by omega, rfl, _, _, rfl, A26 _ _ _ ⟨by omega, by omega⟩ (by first | exact ⟨by omega, by omega⟩ | exact hkn), by first | exact P2 (by first | assumption | decide) | exact A01 zN0 zL0 zL0 zL0 | exact U1 zN0 zL0 zL0 | exact L6 zN0 Q8 zL0 | exact L6 zN0 har.small zL0 | exact L6 zN0 Q8 (U1 zN0 zL0 (P2 zN0)) | exact L6 zN0 A02 (P2 zN0) | assumption, by simp only [H9, I3]; omega⟩)
section bits
variable {P : Program} {Γ : M5} {env : M8} {hp : List A9} {G : IM} {ty : TypeId}
end bits
variable {o : Nat} {cs vs cs' : List Value}
theorem B98 {C : List Value} (h : T4 cs o vs = some cs') : cs' ++ C = (cs ++ C).take o ++ vs ++ (cs ++ C).drop (o + vs.length) := by
 obtain ⟨h1, h2⟩ := A3E h
 rw [h1, List.take_append_of_le_length zO0, List.drop_append_of_le_length zO0]
 simp
section wr
variable {P : Program} {Γ : M5} {env : M8} {hp : List A9} {G : IM} {ty : TypeId} {K : Po} {ops : Array Oper} {rest : List Oper}
variable {el : Nat} {x y : Operand}
theorem B99 {d : Option Nat} {t : TypeId} {i : L8} [hI : I4 P t i] {b sz : Nat} {v : Value} {hp' : List A9}
  (hx : evo env x = some (.pointer (some ⟨b, o, none⟩))) (hy : evo env y = some v) (hv : v.cells = ⟨vs⟩) (hsz : vs.length = i.size) (h1 : vs.all (·.oneCell') = true)
  (hu : T4 cs o vs = some cs') (hm : Sw hp (.slc (some ⟨b, 0, none⟩) c el sz n cs) (.slc (some ⟨b, 0, none⟩) c el sz n cs') hp') (hd : dok Γ.n d = true) :
  Y9 P Γ ⟨env, hp, G⟩ d (.store t x y) ty [b] (fun σ' => σ' = ⟨dpu d undef env, hp', G⟩) := by
 refine ⟨fun a w hs pos af gd Q next hn => ?_⟩
 obtain ⟨rest, p1, p2⟩ := hm.perm
 have hown : U5 [.slc (some ⟨b, 0, none⟩) c el sz n cs] G w := hs.res.own.of_mem p1
 obtain ⟨hl, h⟩ := hown.ok _ List.mem_cons_self
 rcases h with ⟨hv', _⟩ | ⟨g, cap, cur, hv', hbg, hg, hnc, hcm, hcs, ht⟩
 ·cases hv'
 cases hv'
 obtain ⟨u1, u2⟩ := A3E hu
 have hcur : cur.toList = cs ++ cur.toList.drop (n * sz) := by
  conv => lhs; rw [← List.take_append_drop (n * sz) cur.toList, ht]
 have hlen : cs.length ≤ cur.size := by
  rw [hl, hcs]; exact Nat.mul_le_mul_right _ hnc
 have hst := run_storeCells_at P b o el vs 0 cur w hg zO0 (by simpa using h1)
 obtain ⟨cur', hcur'⟩ : ∃ l : List Value, l = cs' ++ cur.toList.drop (n * sz) := ⟨_, rfl⟩
 have hcc : cur.toList.take (o + 0) ++ vs ++ cur.toList.drop (o + 0 + vs.length) = cur' := by
  rw [hcur', Nat.add_zero, B98 hu, ← hcur]
 rw [hcc] at hst
 have hl' : cs'.length = cs.length := by rw [u1]; simp; omega
 have hsz' : cur'.length = cur.size := by
  have := congrArg List.length hcur
  rw [hcur', List.length_append, hl']
  simpa using this.symm
 obtain ⟨inf, g1, g2, _⟩ := hI.info
 have hrun : (execOp a.eval ⟨d, .store t x y, ty, pos, af, gd⟩).run P w = .ok .skip (w.setRow b cur'.toArray) := by
  simp [execOp, Instr.storeAt, Instr.sureAddr, (hs.evo hx : a.eval x = _), (hs.evo hy : a.eval y = _), storeVar, sizeOf, typeInfo, g1, g2, hv, hsz, hst]
 simp only [Oper.wp, hrun, Oper.upon]
 have hr' : S0 [.slc (some ⟨b, 0, none⟩) c el sz n cs] G w [.slc (some ⟨b, 0, none⟩) c el sz n cs'] G (w.setRow b cur'.toArray) := by
  refine ⟨⟨?_, ?_, by simp [Fp, A9.fp, K0], ?_⟩, ⟨rfl, rfl, rfl, by simp [World.setRow], fun k _ hk => setRow_other w b k _ (by rintro rfl; simp [Fp, A9.fp, K0] at hk)⟩, C3.refl _, fun _ _ h => .inl h, ?_, fun b l h h0 => absurd h (by rw [h0]; simp)⟩
  ·intro k l hg'
   obtain ⟨e', f', h'⟩ := hown.inn k l hg'
   refine ⟨e', f', ?_⟩
   rw [setRow_other w b k _ ?_]
   ·exact h'
   ·rintro rfl
    have := hown.disj k (by simp [Fp, A9.fp, K0])
    rw [this] at hg'; cases hg'
  ·intro x hx
   simp at hx; subst hx
   refine ⟨by rw [hl', hl], .inr ⟨b, _, cur'.toArray, rfl, hbg, setRow_heap w b cur cur'.toArray el (0, 0) hg, hnc, hcm, by rw [List.size_toArray, hsz', hcs], ?_⟩⟩
   rw [hcur', List.take_left' (by rw [hl', hl])]
  ·intro k hk
   exact hown.disj k (by simpa [Fp, A9.fp, K0] using hk)
  ·intro k hk
   exact .inr (by simpa [Fp, A9.fp, K0] using hk)
 exact hn _ _ _ (hs.step p1 hr' p2 hd) (by simpa [Fp, A9.fp, K0] using hr'.ext) rfl
variable {pos : String} {af : Array Edge} {gd : Option (Nat × Bool)}
theorem C0a {sz : Nat} {t : TypeId} {i : L8} [hI : I4 P t i] {bb : Nat} {v : Value} {hp' : List A9}
  (hx : evo env x = some (.pointer (some ⟨bb, o, none⟩))) (hy : evo env y = some v) (hv : v.cells = ⟨vs⟩) (hsz : vs.length = i.size) (h1 : vs.all (·.oneCell') = true)
  (hw : M6 ops env gd = some true) (hsw : Sw hp (.slc (some ⟨bb, 0, none⟩) c el sz n cs) (.slc (some ⟨bb, 0, none⟩) c el sz n cs') hp') (hu : T4 cs o vs = some cs')
  (k : J2 P Γ ops rest K ⟨env, hp', G⟩) : J2 P Γ ops (⟨none, .store t x y, ty, pos, af, gd⟩ :: rest) K ⟨env, hp, G⟩ :=
 J0 (B99 hx hy hv hsz h1 hu hsw rfl) hw (by rintro _ rfl; exact k)
theorem St.slc_ptT {sz : Nat} {a : Act} {w : World} (hs : St Γ ⟨env, hp, G⟩ a w) (hm : A9.slc p c el sz n cs ∈ hp) :
  (p = none ∧ n = 0 ∧ c = 0) ∨ ∃ g, p = some ⟨g, 0, none⟩ ∧ n ≤ c := by
 obtain ⟨_, h⟩ := hs.res.own.ok _ hm
 rcases h with ⟨hv, hn⟩ | ⟨g, cap, cur, hv, _, _, hnc, _⟩
 ·cases hv; exact .inl ⟨rfl, hn, rfl⟩
 ·cases hv; exact .inr ⟨g, rfl, hnc⟩
end wr
theorem C0b {es : List (List Value)} {i sz : Nat} (hi : i < es.length) (ha : ∀ e ∈ es, e.length = sz) (hv : vs.length = sz) : T4 es.flatten (0 + i * sz) vs = some (es.set i vs).flatten := by
 have h1 : es.flatten = (es.take i).flatten ++ (es[i] ++ (es.drop (i + 1)).flatten) := by
  conv => lhs; rw [← List.take_append_drop i es, List.drop_eq_getElem_cons hi]
  rw [List.flatten_append, List.flatten_cons]
 have h2 : (es.set i vs).flatten = (es.take i).flatten ++ (vs ++ (es.drop (i + 1)).flatten) := by rw [List.set_eq_take_append_cons_drop, if_pos hi, List.flatten_append, List.flatten_cons]
 have hA : ((es.take i).flatten).length = 0 + i * sz := by rw [A0S (fun e he => ha e (List.mem_of_mem_take he)), List.length_take, Nat.min_eq_left zO0]; omega
 rw [h1, h2]
 exact A68 hA (by rw [ha _ (List.getElem_mem hi), hv])
theorem E7.set {G : IM} : ∀ {l : List Ty} {es : List (List Value)} (i : Nat) {u : Ty} {c : List Value}, E7 G l es → C6 G u c → E7 G (l.set i u) (es.set i c)
 | [], es, i, u, c, h, _ => by simp only [E7] at h; subst h; simp [E7]
 | t :: l, es, 0, u, c, h, h2 => by
  simp only [E7] at h
  obtain ⟨a, r, rfl, _, h3⟩ := h
  simp only [List.set_cons_zero, E7]
  exact ⟨c, r, rfl, h2, h3⟩
 | t :: l, es, i + 1, u, c, h, h2 => by
  simp only [E7] at h
  obtain ⟨a, r, rfl, h4, h3⟩ := h
  simp only [List.set_cons_succ, E7]
  exact ⟨a, _, rfl, h4, E7.set i h3 h2⟩
theorem A21.openA {a b : List Ty} {G' : IM} {v : Value} {outs : List A9} {m : Nat} (h : A21 (a ++ b) G' v outs) (hm : a.length = m) :
  ∃ p c es, v = .slice p (m + b.length) c ∧ outs = [.slc p c 25 2 (m + b.length) es.flatten] ∧ E7 G' (a ++ b) es := by
 subst hm
 rw [← List.length_append]
 exact h
theorem C0c : ∀ (t : Tm) (l : List Ty) (G : IM) (cells : List Value) (p : Option Addr) (c : Nat) (es : List (List Value)), t.small → l.length + H9 t ≤ 4000000 → B7 G t cells → E7 G l es →
  Fn prog 186 [.slice p l.length c, .agg ⟨cells⟩] [.slc p c 25 2 l.length es.flatten] G (A21 (l ++ R3 t)) := by
 refine Tm.ind fun k nm num ty fr lb ks ih l G cells p c es0 hts hcnt hr hl0 => ?_
 have hone := hr.one
 simp only [Tm.small] at hts
 obtain ⟨_, hty', _, hsm, hks⟩ := hts
 have hcy : k = 5 ∨ k = 13 → R3 (.mk k nm num ty fr lb ks) = [ty] ++ O3 ks := fun h => by rw [R3, if_pos h]
 have hcn : ¬ (k = 5 ∨ k = 13) → R3 (.mk k nm num ty fr lb ks) = O3 ks := fun h => by rw [R3, if_neg h, List.nil_append]
 rw [H9] at hcnt
 obtain ⟨tk, tks⟩ := ty
 obtain ⟨fk, fks⟩ := fr
 obtain ⟨pt, ct, pf, cf, q, cq, ek, rfl, hk, hnum, hlb, hty, hfr, hsl, hkl⟩ := hr.open9
 have hn := hsl.le
 obtain ⟨L0, hLy, hLn, hLe, hL0⟩ : ∃ L0, (k = 5 ∨ k = 13 → L0 = l ++ [Ty.mk tk tks]) ∧ (¬(k = 5 ∨ k = 13) → L0 = l) ∧ l ++ R3 (.mk k nm num (.mk tk tks) (.mk fk fks) lb ks) = L0 ++ O3 ks ∧ L0.length ≤ l.length + 1 := by
  by_cases h5 : k = 5 ∨ k = 13
  ·exact ⟨_, fun _ => rfl, fun h => absurd h5 h, by rw [hcy h5, List.append_assoc], by simp⟩
  ·exact ⟨_, fun h => absurd h h5, fun _ => rfl, by rw [hcn h5], by simp⟩
 refine C4 func186 rfl ntmps186 results186 rfl ?_
 intro w0
 have hm0 : True := trivial
 refine tS ?_
 (clear hm0; have hm1 : True := trivial; refine tR ?_)
 refine zf2 (fun b3 => ?_)
 refine B5 ?_
 (clear hm1; have hm2 : True := trivial; have hm4 : True := trivial; refine tS ?_; refine P4 (fun (x : Nat × Option Addr × Nat × List (List Value) × IM) => ⟨[(3, .pointer (some ⟨b3, 0, none⟩)), (0, .slice x.2.1 x.1 x.2.2.1)], [.slc x.2.1 x.2.2.1 25 2 x.1 x.2.2.2.1.flatten, .blk b3 [.int .i64 k, .string nm, .int .i64 num, .int .i64 tk, .slice pt tks.length ct, .int .i64 fk, .slice pf fks.length cf, .int .i64 lb, .slice q ks.length cq]], x.2.2.2.2⟩) (fun x => C3 G x.2.2.2.2 ∧ E7 x.2.2.2.2 L0 x.2.2.2.1 ∧ L0.length = x.1) ?_ ?_)
 refine tS ?_
 (clear hm2; have hm3 : True := trivial; refine P4 (fun (x : Bool) => ⟨[(13, .bool x), (3, .pointer (some ⟨b3, 0, none⟩)), (0, .slice p l.length c)], [.slc p c 25 2 l.length es0.flatten, .blk b3 [.int .i64 k, .string nm, .int .i64 num, .int .i64 tk, .slice pt tks.length ct, .int .i64 fk, .slice pf fks.length cf, .int .i64 lb, .slice q ks.length cq]], G⟩) (fun x => x = true ↔ (k = 5 ∨ k = 13)) ?_ ?_)
 refine B5 ?_
 refine zf0 (fun h13 => ?_) (fun h13 => ?_)
 refine A7 ?_
 refine E2 true (D6 zA0 zQ) ⟨fun _ => by omega, fun _ => rfl⟩
 refine B5 ?_
 refine zf0 (fun h24 => ?_) (fun h24 => ?_)
 refine A5 ?_
 refine E2 true (D6 zA0 zQ) ⟨fun _ => by omega, fun _ => rfl⟩
 refine A5 ?_
 refine E2 false (D6 zA0 zQ) ⟨fun h => absurd h zN0, fun h => by exfalso; omega⟩
 (clear hm3; rintro x hx; rcases A2O hx with ⟨rfl, hk5⟩ | ⟨rfl, hk5⟩)
 refine B1 ?_
 (refine H6 rfl (W3 (.mk tk tks) G _ hty' hty) rfl rfl (fun v G1 hle1 hh => ?_); obtain ⟨cs1, F1, rfl, hs1, hn1⟩ := hh; have hr1 := hs1.R.mono (E8.le _ _); obtain ⟨p1, c1, rfl, _⟩ := hs1.open)
 refine zf7 (fun b38 => ?_)
 (refine A2g rfl rfl rfl rfl rfl (fun _ _ => by repeat (first | exact Sw.here | apply Sw.there)) (O4 zG0) rfl zI0 zJ0 zO0 rfl (fun pn0 I5 => ?_))
 refine A5 ?_
 refine E2 (l.length + 1, pn0, I5, es0 ++ [[.int .i64 tk, .slice p1 tks.length c1]], G1) (by simp only [List.flatten_append, List.flatten_cons, List.flatten_nil, List.append_nil]; exact (D6 zA0 zQ)) ⟨hle1, by rw [hLy hk5]; exact E7.append (hl0.mono hle1) (E7.one1 hr1), by rw [hLy hk5, List.length_append]; rfl⟩
 refine A5 ?_
 refine E2 (l.length, p, c, es0, G) (D6 zA0 zQ) ⟨C3.refl _, by rw [hLn hk5]; exact hl0, by rw [hLn hk5]⟩
 (clear hm4 hm2; rintro ⟨m0, pn0, I5, ez, G1⟩ ⟨hle1, hr1, hmz⟩; simp only [] at hle1 hr1 hmz ⊢)
 refine A7 ?_
 refine C2 ?_
 (refine K2 (fun (x : Nat × Nat × Option Addr × Nat × List (List Value) × IM) => ⟨[(5, .int .i64 x.1), (3, .pointer (some ⟨b3, 0, none⟩)), (0, .slice x.2.2.1 x.2.1 x.2.2.2.1)], [.slc x.2.2.1 x.2.2.2.1 25 2 x.2.1 x.2.2.2.2.1.flatten, .blk b3 [.int .i64 k, .string nm, .int .i64 num, .int .i64 tk, .slice pt tks.length ct, .int .i64 fk, .slice pf fks.length cf, .int .i64 lb, .slice q ks.length cq]], x.2.2.2.2.2⟩) (fun x => x.1 ≤ ks.length ∧ C3 G x.2.2.2.2.2 ∧ E7 x.2.2.2.2.2 (L0 ++ O3 (ks.take x.1)) x.2.2.2.2.1 ∧ (L0 ++ O3 (ks.take x.1)).length = x.2.1) (fun x => ks.length - x.1) (0, m0, pn0, I5, ez, G1) ?_ ?_ ?_)
 (simp only [J5]; exact E3)
 (exact ⟨Nat.zero_le _, hle1, by simpa [O3] using hr1, by simpa [O3] using hmz⟩)
 (rintro ⟨(i : Nat), (m : Nat), pn, cn, es, Gi⟩ ⟨hi, hle, hst, hlen⟩; simp only [] at hi hle hst hlen ⊢; replace hsl := hsl.mono hle; replace hkl := hkl.mono hle; have hb1 := A6t (ks.take i); have hb2 := A6t ks; have hlen0 := hlen; simp only [List.length_append, List.length_singleton, List.length_nil] at hlen)
 refine B8 ?_
 refine zf8 (fun h65 => ?_) (fun h65 => ?_)
 refine A7 ?_
 refine C2 ?_
 refine B1 ?_
 (obtain ⟨b, o, e, rfl, hl, hat, hre, hgb⟩ := hsl.kidTm hkl (i := i) zO0 zO0; have hone9 := hre.one; have hsc := A3L (ks := ks) (i := i) zO0; have hsk := A3K (ks := ks) (i := i) zO0; refine sP (B2 rfl rfl rfl zO0) rfl rfl ?_)
 refine sL (A3 rfl rfl (hat _) hl) rfl rfl ?_
 (have hih := ih ks[i] (List.getElem_mem zO0) _ Gi e pn cn es (Tm.smallL_mem hks _ (List.getElem_mem zO0)) (by simp only [List.length_append, List.length_singleton]; omega) hre hst; rw [hlen0] at hih; refine K4 rfl hih (Pk.perm zB0) rfl rfl (fun v3 G3 outs hle3 hh => ?_); obtain ⟨p3, c3, e3, rfl, rfl, hr3⟩ := A21.openA hh hlen0)
 refine A7 ?_
 refine zf4 ?_
 refine A5 ?_
 (refine J7 (i + 1, m + (R3 ks[i]).length, p3, c3, e3, G3) ?_ ?_ ?_)
 (simp only [J5]; exact E3)
 (dsimp only; exact ⟨by omega, hle.trans hle3, by rw [A49 zO0, ← List.append_assoc]; exact hr3, by rw [A49 zO0, ← List.append_assoc, List.length_append, hlen0]⟩)
 (show ks.length - (i + 1) < ks.length - i; omega)
 refine K5 ?_
 (obtain rfl : i = ks.length := zO0)
 refine tT ?_
 refine I6 (outs := [.slc pn cn 25 2 m es.flatten]) (rT rfl) (A1.cons zB0 A1.nil) ?_
 (rw [hLe]; rw [List.take_length] at hst hlen; exact A21.mk (by simp only [List.length_append, List.length_singleton, List.length_nil]; omega) hst)
def A0Q (t : Tm) : List Ty := if S6 t = true then R3 t else []
theorem B3P (t : Tm) (G : IM) (cells : List Value) (hts : t.small) (hcnt : H9 t ≤ 4000000) (hr : B7 G t cells) : Fn prog 146 [.agg ⟨cells⟩] [] G (A21 (A0Q t)) := by
 have hl := hr.len
 have hone := hr.one
 have hv := A5U t G cells zO0 hr
 have hno : S6 t = false → A0Q t = [] := fun h => by unfold A0Q; rw [h]; rfl
 have hyes : S6 t = true → A0Q t = R3 t := fun h => by unfold A0Q; rw [h]; rfl
 refine C4 func146 rfl ntmps146 results146 rfl ?_
 intro w0
 refine A5 ?_
 refine zf2 (fun b3 => ?_)
 refine A7 ?_
 refine sL (A3 rfl rfl (B9 zG0) zL0) rfl rfl ?_
 refine L4 rfl (hv) rfl rfl (fun h11 => ?_) (fun h11 => ?_)
 refine D4 ?_
 refine zf7 (fun b20 => ?_)
 refine sL (A3 rfl rfl (B9 zG0) zL0) rfl rfl ?_
 (refine K4 rfl (C0c t [] G cells _ 0 [] hts (by simp; omega) hr (by simp [E7])) (Pk.perm zB0) rfl rfl (fun v3 G3 outs hle3 hh => ?_); obtain ⟨p3, c3, e3, rfl, rfl, hr3⟩ := hh)
 refine B6 ?_
 refine I6 (outs := [.slc p3 c3 25 2 ([] ++ R3 t).length e3.flatten]) (rT rfl) (A1.cons zB0 A1.nil) ?_
 (rw [hyes zL0]; exact ⟨p3, c3, e3, rfl, rfl, hr3⟩)
 refine A7 ?_
 refine zf7 (fun b35 => ?_)
 refine B1 ?_
 refine I6 (rT rfl) (A1.cons Pk.here A1.nil) ?_
 (rw [hno zL0]; exact ⟨_, _, [], rfl, rfl, by simp [E7]⟩)
def A5j (u : Tm) (n : Int) : IM → Value → List A9 → Prop := fun G' v outs => outs = [] ∧ ∃ cu, v = .tuple ⟨[.agg ⟨cu⟩, .int .i64 n]⟩ ∧ B7 G' u cu
theorem A5j.mk {G' : IM} {k : Int} {nm : ByteArray} {num : Int} {ty fr : Ty} {lb : Int} {ks : List Tm} {tk fk : Int} {pt pf : Option Addr} {nt ct nf cf : Nat} {p : Option Addr} {m c : Nat} {es : List (List Value)} {a n : Int}
  (hk : F8 k) (hnum : F8 num) (hlb : F8 lb) (hty : C6 G' ty [.int .i64 tk, .slice pt nt ct]) (hfr : C6 G' fr [.int .i64 fk, .slice pf nf cf]) (hm : m = ks.length) (hs : Sl G' p m c 9 es.flatten) (hr : H4 G' ks es) (ha : a = n) :
  A5j (.mk k nm num ty fr lb ks) n G' (.tuple ⟨[.agg ⟨[.int .i64 k, .string nm, .int .i64 num, .int .i64 tk, .slice pt nt ct, .int .i64 fk, .slice pf nf cf, .int .i64 lb, .slice p m c]⟩, .int .i64 a]⟩) [] := by
 subst hm ha
 refine ⟨rfl, _, rfl, ?_⟩
 simp only [B7]
 exact ⟨_, _, p, c, es, rfl, hk, hnum, hlb, hty, hfr, D7.of hs hr.len hr.all (fun e he => by obtain ⟨j, hj⟩ := List.getElem?_of_mem he; exact (hr.inv hj L7).2.one), hr⟩
theorem C0d (L : List Ty) (p : Option Addr) (c : Nat) (hsmL : ∀ u ∈ L, u.small) : ∀ (t : Tm) (a : Nat) (G : IM) (cells : List Value) (el : List (List Value)), a + (R3 t).length ≤ L.length → L.length ≤ 4000000 → t.small → H9 t ≤ 4000000 → B7 G t cells → D7 G p L.length c 2 el → E7 G L el →
  Fn prog 187 [.agg ⟨cells⟩, .slice p L.length c, .int .i64 (a : Int)] [] G (A5j (A1d t (L.drop a)) ((a + (R3 t).length : Nat) : Int)) := by
 refine Tm.ind fun k nm num ty fr lb ks ih a G cells el hlen hLb hts hcnt hr hse hel => ?_
 have hone := hr.one
 have hlen9 := hr.len
 simp only [Tm.small] at hts
 obtain ⟨_, hty', hfr', hsm, hks⟩ := hts
 have hcy : k = 5 ∨ k = 13 → R3 (.mk k nm num ty fr lb ks) = [ty] ++ O3 ks := fun h => by rw [R3, if_pos h]
 have hcn : ¬ (k = 5 ∨ k = 13) → R3 (.mk k nm num ty fr lb ks) = O3 ks := fun h => by rw [R3, if_neg h, List.nil_append]
 have hwy : k = 5 ∨ k = 13 → A1d (.mk k nm num ty fr lb ks) (L.drop a) = .mk k nm num ((L.drop a).getD 0 C5) fr lb (X4 ks (L.drop (a + 1))) := fun h => by rw [A1d, if_pos h, if_pos h, List.drop_drop]
 have hwn : ¬ (k = 5 ∨ k = 13) → A1d (.mk k nm num ty fr lb ks) (L.drop a) = .mk k nm num ty fr lb (X4 ks (L.drop a)) := fun h => by rw [A1d, if_neg h, if_neg h]
 rw [H9] at hcnt
 obtain ⟨tk, tks⟩ := ty
 obtain ⟨fk, fks⟩ := fr
 obtain ⟨pt, ct, pf, cf, q, cq, ek, rfl, hk, hnum, hlb, hty, hfr, hsl, hkl⟩ := hr.open9
 have hn := hsl.le
 have hkn := A7b ks
 have hT := W3 (.mk tk tks) G _ hty' hty
 refine C4 func187 rfl ntmps187 results187 rfl ?_
 intro w0
 have hm0 : True := trivial
 refine A5 ?_
 refine zf2 (fun b3 => ?_)
 refine zf1 (fun b4 => ?_)
 refine A7 ?_
 refine zf1 (fun b11 => ?_)
 refine B8 ?_
 (refine H6 rfl hT rfl rfl (fun v G1 hle1 hh => ?_); obtain ⟨cs1, F1, rfl, hs1, hn1⟩ := hh; have hr1 := hs1.R.mono (E8.le _ _); obtain ⟨p1, c1, rfl, _⟩ := hs1.open; have hF := W3 (.mk fk fks) G1 _ hfr' (hfr.mono hle1))
 refine D4 ?_
 (refine H6 rfl hF rfl rfl (fun v G2 hle2 hh => ?_); obtain ⟨cs2, F2, rfl, hs2, hn2⟩ := hh; have hr2 := hs2.R.mono (E8.le _ _); obtain ⟨p2, c2, rfl, _⟩ := hs2.open; have hle12 := hle1.trans hle2; replace hsl := hsl.mono hle12; replace hkl := hkl.mono hle12; replace hse := hse.mono hle12; replace hel := hel.mono hle12)
 refine B1 ?_
 (clear hm0; have hz := hle12; have hm1 : True := trivial; refine tR ?_)
 refine A7 ?_
 (clear hm1; have hm2 : True := trivial; refine P4 (fun (x : Bool) => ⟨[(28, .bool x), (8, .pointer (some ⟨b11, 0, none⟩)), (7, .int .i64 0), (6, .pointer (some ⟨b4, 0, none⟩)), (3, .pointer (some ⟨b3, 0, none⟩)), (2, .int .i64 (a : Int)), (1, .slice p L.length c)], [.blk b11 [.int .i64 k, .string nm, .int .i64 num, .int .i64 tk, .slice p1 tks.length c1, .int .i64 fk, .slice p2 fks.length c2, .int .i64 lb, .slice none 0 0], .blk b4 zq9, .blk b3 [.int .i64 k, .string nm, .int .i64 num, .int .i64 tk, .slice pt tks.length ct, .int .i64 fk, .slice pf fks.length cf, .int .i64 lb, .slice q ks.length cq]], G2⟩) (fun x => x = true ↔ (k = 5 ∨ k = 13)) ?_ ?_)
 refine B5 ?_
 refine zf0 (fun h45 => ?_) (fun h45 => ?_)
 refine A7 ?_
 refine E2 true (D6 zA0 zQ) ⟨fun _ => by omega, fun _ => rfl⟩
 refine B5 ?_
 refine zf0 (fun h56 => ?_) (fun h56 => ?_)
 refine A5 ?_
 refine E2 true (D6 zA0 zQ) ⟨fun _ => by omega, fun _ => rfl⟩
 refine A5 ?_
 refine E2 false (D6 zA0 zQ) ⟨fun h => absurd h zN0, fun h => by exfalso; omega⟩
 (clear hm2; rintro x hx; rcases A2O hx with ⟨rfl, hk5⟩ | ⟨rfl, hk5⟩)
 refine B1 ?_
 (have hL1 := hcy zO0; have h1 : a + (1 + (O3 ks).length) ≤ L.length := (by rw [hL1] at hlen; simp only [List.length_append, List.length_singleton] at hlen; omega); obtain ⟨b0, o0, p20, c20, rfl, hat0, hre0, hgb0⟩ := hse.kidTy hel (i := a) zO0 zO0; obtain ⟨T0, hT0⟩ : ∃ T, T = L[a]'zO0 := ⟨_, rfl⟩; have hs0 := hsmL _ (List.getElem_mem (show a < L.length by omega)); rw [← hT0] at hre0 hat0 hs0; have hO := W3 T0 G2 _ hs0 hre0; refine sP (B2 rfl rfl rfl zO0) rfl rfl ?_)
 refine sL (A3 rfl rfl (hat0 _) rfl) rfl rfl ?_
 (refine H6 rfl hO rfl rfl (fun v G3 hle3 hh => ?_); obtain ⟨cs3, F3, rfl, hs3, hn3⟩ := hh; have hr3 := hs3.R.mono (E8.le _ _); obtain ⟨p3, c3, rfl, _⟩ := hs3.open)
 refine A7 ?_
 refine zf4 ?_
 refine E1 ?_
 refine C2 ?_
 (have hL2 := hcy zO0; have hW2 := hwy zO0; refine V1 28 9 ?_; refine K2 (fun (x : Nat × Option Addr × Nat × List (List Value) × IM) => ⟨[(9, .int .i64 x.1), (2, .int .i64 ((a + 1 + (O3 (ks.take x.1)).length : Nat) : Int)), (1, .slice (some ⟨b0, o0, none⟩) L.length c), (3, .pointer (some ⟨b3, 0, none⟩)), (8, .pointer (some ⟨b11, 0, none⟩)), (6, .pointer (some ⟨b4, 0, none⟩))], [.blk b11 [.int .i64 k, .string nm, .int .i64 num, .int .i64 T0.k, .slice p3 T0.ks.length c3, .int .i64 fk, .slice p2 fks.length c2, .int .i64 lb, .slice x.2.1 x.1 x.2.2.1], .slc x.2.1 x.2.2.1 28 9 x.1 x.2.2.2.1.flatten, .blk b4 zq9, .blk b3 [.int .i64 k, .string nm, .int .i64 num, .int .i64 tk, .slice pt tks.length ct, .int .i64 fk, .slice pf fks.length cf, .int .i64 lb, .slice q ks.length cq]], x.2.2.2.2⟩) (fun x => x.1 ≤ ks.length ∧ C3 G3 x.2.2.2.2 ∧ H4 x.2.2.2.2 (X4 (ks.take x.1) (L.drop (a + 1))) x.2.2.2.1) (fun x => ks.length - x.1) (0, none, 0, [], G3) ?_ ?_ ?_)
 (simp only [J5]; exact E3)
 (exact ⟨Nat.zero_le _, C3.refl _, by simp [X4, H4]⟩)
 (rintro ⟨(i : Nat), pn, cn, es, Gi⟩ ⟨hi, hle, hst⟩; simp only [] at hi hle hst ⊢)
 refine B8 ?_
 refine zf8 (fun h100 => ?_) (fun h100 => ?_)
 refine A7 ?_
 refine C2 ?_
 refine B5 ?_
 refine zf1 (fun b111 => ?_)
 refine D4 ?_
 (obtain ⟨b, o, e, rfl, hl, hat, hre, hgb⟩ := (hsl.mono (by first | exact hle | exact hle3.trans hle)).kidTm (hkl.mono (by first | exact hle | exact hle3.trans hle)) (i := i) zO0 zO0; have hone9 := hre.one; have hsc := A3L (ks := ks) (i := i) zO0; have hsk := A3K (ks := ks) (i := i) zO0; have hts1 := B2S (ks := ks) (i := i) zO0; have e9 : (O3 (ks.take (i + 1))).length = (O3 (ks.take i)).length + (R3 ks[i]).length := (by rw [A49 zO0, List.length_append]); refine sP (B2 rfl rfl rfl zO0) rfl rfl ?_)
 refine sL (A3 rfl rfl (hat _) hl) rfl rfl ?_
 refine A5 ?_
 (have hih := ih ks[i] (List.getElem_mem zO0) _ Gi e el zJ hLb (Tm.smallL_mem hks _ (List.getElem_mem zO0)) zO0 hre (hse.mono (by first | exact hle | exact hle3.trans hle)) (hel.mono (by first | exact hle | exact hle3.trans hle)); refine A2e rfl hih rfl rfl (fun v G7 outs hle7 hh => ?_); obtain ⟨rfl, cu, rfl, hru⟩ := hh; rw [← List.drop_drop] at hru; have hsn := H4.snoc (hst.mono hle7) hru; obtain ⟨u1, u2, u3, u4, u5, u6, u7, u8, u9, rfl⟩ : ∃ u1 u2 u3 u4 u5 u6 u7 u8 u9, cu = [u1, u2, u3, u4, u5, u6, u7, u8, u9] := (by obtain ⟨_, _, _, _, _, _, _, _, _, rfl, _⟩ := hru.open; exact ⟨_, _, _, _, _, _, _, _, _, rfl⟩); have huo := hru.one)
 refine B5 ?_
 refine sS rfl rfl rfl rfl huo rfl ?_
 refine B8 ?_
 refine zf7 (fun b136 => ?_)
 (refine A2g rfl rfl rfl rfl rfl (fun _ _ => by repeat (first | exact Sw.here | apply Sw.there)) (O4 zG0) rfl (fun u hu => List.all_eq_true.1 huo u hu) zJ0 zO0 rfl (fun p4 c4 => ?_))
 refine B8 ?_
 refine zf4 ?_
 refine A5 ?_
 (rw [← B2Q zO0] at hsn; refine J7 (i + 1, p4, c4, es ++ [[u1, u2, u3, u4, u5, u6, u7, u8, u9]], G7) zF ?_ ?_)
 (dsimp only; exact ⟨by omega, hle.trans hle7, hsn⟩)
 (show ks.length - (i + 1) < ks.length - i; omega)
 refine L9 ?_
 (refine H1 (cs := es.flatten) zB0 (fun G9 hle9 hsl9 hno9 => ?_); obtain rfl : i = ks.length := zO0; rw [List.take_length] at hst)
 refine tT ?_
 refine zf5 ?_
 (rw [hW2, hL2]; exact A5j.mk hk hnum hlb (by first | (rw [List.getD_eq_getElem?_getD, List.getElem?_drop, Nat.add_zero, List.getElem?_eq_getElem zO0, Option.getD_some, ← hT0]; exact hr3.mono (hle.trans hle9)) | exact hr1.mono (hle2.trans (hle.trans hle9))) (by first | exact hr2.mono (hle3.trans (hle.trans hle9)) | exact hr2.mono (hle.trans hle9)) (by rw [A6u]) hsl9 (hst.mono hle9) (by (simp only [List.take_length, List.length_append, List.length_singleton]) <;> omega))
 refine E1 ?_
 refine C2 ?_
 (have hL2 := hcn zO0; have hW2 := hwn zO0; refine V1 28 9 ?_; refine K2 (fun (x : Nat × Option Addr × Nat × List (List Value) × IM) => ⟨[(9, .int .i64 x.1), (2, .int .i64 ((a + (O3 (ks.take x.1)).length : Nat) : Int)), (1, .slice p L.length c), (3, .pointer (some ⟨b3, 0, none⟩)), (8, .pointer (some ⟨b11, 0, none⟩)), (6, .pointer (some ⟨b4, 0, none⟩))], [.blk b11 [.int .i64 k, .string nm, .int .i64 num, .int .i64 tk, .slice p1 tks.length c1, .int .i64 fk, .slice p2 fks.length c2, .int .i64 lb, .slice x.2.1 x.1 x.2.2.1], .slc x.2.1 x.2.2.1 28 9 x.1 x.2.2.2.1.flatten, .blk b4 zq9, .blk b3 [.int .i64 k, .string nm, .int .i64 num, .int .i64 tk, .slice pt tks.length ct, .int .i64 fk, .slice pf fks.length cf, .int .i64 lb, .slice q ks.length cq]], x.2.2.2.2⟩) (fun x => x.1 ≤ ks.length ∧ C3 G2 x.2.2.2.2 ∧ H4 x.2.2.2.2 (X4 (ks.take x.1) (L.drop a)) x.2.2.2.1) (fun x => ks.length - x.1) (0, none, 0, [], G2) ?_ ?_ ?_)
 (simp only [J5]; exact E3)
 (exact ⟨Nat.zero_le _, C3.refl _, by simp [X4, H4]⟩)
 (rintro ⟨(i : Nat), pn, cn, es, Gi⟩ ⟨hi, hle, hst⟩; simp only [] at hi hle hst ⊢)
 refine B8 ?_
 refine zf8 (fun h192 => ?_) (fun h192 => ?_)
 refine A7 ?_
 refine C2 ?_
 refine B5 ?_
 refine zf1 (fun b203 => ?_)
 refine D4 ?_
 (obtain ⟨b, o, e, rfl, hl, hat, hre, hgb⟩ := (hsl.mono (by first | exact hle | exact hle3.trans hle)).kidTm (hkl.mono (by first | exact hle | exact hle3.trans hle)) (i := i) zO0 zO0; have hone9 := hre.one; have hsc := A3L (ks := ks) (i := i) zO0; have hsk := A3K (ks := ks) (i := i) zO0; have hts1 := B2S (ks := ks) (i := i) zO0; have e9 : (O3 (ks.take (i + 1))).length = (O3 (ks.take i)).length + (R3 ks[i]).length := (by rw [A49 zO0, List.length_append]); refine sP (B2 rfl rfl rfl zO0) rfl rfl ?_)
 refine sL (A3 rfl rfl (hat _) hl) rfl rfl ?_
 refine A5 ?_
 (have hih := ih ks[i] (List.getElem_mem zO0) _ Gi e el zJ hLb (Tm.smallL_mem hks _ (List.getElem_mem zO0)) zO0 hre (hse.mono (by first | exact hle | exact hle3.trans hle)) (hel.mono (by first | exact hle | exact hle3.trans hle)); refine A2e rfl hih rfl rfl (fun v G7 outs hle7 hh => ?_); obtain ⟨rfl, cu, rfl, hru⟩ := hh; rw [← List.drop_drop] at hru; have hsn := H4.snoc (hst.mono hle7) hru; obtain ⟨u1, u2, u3, u4, u5, u6, u7, u8, u9, rfl⟩ : ∃ u1 u2 u3 u4 u5 u6 u7 u8 u9, cu = [u1, u2, u3, u4, u5, u6, u7, u8, u9] := (by obtain ⟨_, _, _, _, _, _, _, _, _, rfl, _⟩ := hru.open; exact ⟨_, _, _, _, _, _, _, _, _, rfl⟩); have huo := hru.one)
 refine B5 ?_
 refine sS rfl rfl rfl rfl huo rfl ?_
 refine B8 ?_
 refine zf7 (fun b228 => ?_)
 (refine A2g rfl rfl rfl rfl rfl (fun _ _ => by repeat (first | exact Sw.here | apply Sw.there)) (O4 zG0) rfl (fun u hu => List.all_eq_true.1 huo u hu) zJ0 zO0 rfl (fun p4 c4 => ?_))
 refine B8 ?_
 refine zf4 ?_
 refine A5 ?_
 (rw [← B2Q zO0] at hsn; refine J7 (i + 1, p4, c4, es ++ [[u1, u2, u3, u4, u5, u6, u7, u8, u9]], G7) zF ?_ ?_)
 (dsimp only; exact ⟨by omega, hle.trans hle7, hsn⟩)
 (show ks.length - (i + 1) < ks.length - i; omega)
 refine L9 ?_
 (refine H1 (cs := es.flatten) zB0 (fun G9 hle9 hsl9 hno9 => ?_); obtain rfl : i = ks.length := zO0; rw [List.take_length] at hst)
 refine tT ?_
 refine zf5 ?_
 (rw [hW2, hL2]; exact A5j.mk hk hnum hlb (by first | (rw [List.getD_eq_getElem?_getD, List.getElem?_drop, Nat.add_zero, List.getElem?_eq_getElem zO0, Option.getD_some, ← hT0]; exact hr3.mono (hle.trans hle9)) | exact hr1.mono (hle2.trans (hle.trans hle9))) (by first | exact hr2.mono (hle3.trans (hle.trans hle9)) | exact hr2.mono (hle.trans hle9)) (by rw [A6u]) hsl9 (hst.mono hle9) (by (simp only [List.take_length, List.length_append, List.length_singleton]) <;> omega))
def A15 (t : Tm) (L : List Ty) : Option Tm := if S6 t = true ∧ (A0Q t).length = L.length ∧ ∀ u ∈ L, H7 u = true then some (A1d t L) else none
theorem C0e {t : Tm} {L : List Ty} (h : S6 t = true) (hl : (A0Q t).length = L.length) (ha : ∀ j, j < L.length → (h : j < L.length) → H7 L[j] = true) : A15 t L = some (A1d t L) := by
 unfold A15
 rw [if_pos ⟨h, hl, fun u hu => by obtain ⟨i, hi, rfl⟩ := List.mem_iff_getElem.1 hu; exact ha i hi hi⟩]
theorem C0f {t : Tm} {L : List Ty} (h : ¬(S6 t = true ∧ (A0Q t).length = L.length ∧ ∀ u ∈ L, H7 u = true)) : A15 t L = none := by
 unfold A15; rw [if_neg h]
def TmB (o : Option Tm) : IM → Value → List A9 → Prop := M3 fun G' v => ∃ cu, v = .tuple ⟨[.agg ⟨cu⟩, .bool o.isSome]⟩ ∧ B7 G' (o.getD L7) cu
theorem C0g {t : Tm} (h : S6 t = true) : A0Q t = R3 t := by unfold A0Q; rw [if_pos h]
theorem C0h (t : Tm) (L : List Ty) (G : IM) (cells : List Value) (p : Option Addr) (c : Nat) (es : List (List Value)) (hts : t.small) (hcnt : H9 t ≤ 4000000) (hLb : L.length ≤ 4000000) (hsm : ∀ u ∈ L, u.small) (hr : B7 G t cells) (hse : D7 G p L.length c 2 es) (hel : E7 G L es) :
  Fn prog 147 [.agg ⟨cells⟩, .slice p L.length c] [] G (TmB (A15 t L)) := by
 have hl := hr.len
 have hone := hr.one
 have hyes := @C0e t L
 have hno := @C0f t L
 have htv := @C0g t
 have hT := B3P t G cells hts hcnt hr
 generalize A15 t L = R at hyes hno ⊢
 obtain ⟨TT, hTT⟩ : ∃ TT, A0Q t = TT := ⟨_, rfl⟩
 rw [hTT] at hyes hno htv hT
 refine C4 func147 rfl ntmps147 results147 rfl ?_
 intro w0
 refine A5 ?_
 refine zf2 (fun b3 => ?_)
 refine zf1 (fun b4 => ?_)
 refine A7 ?_
 refine sL (A3 rfl rfl (B9 zG0) hl) rfl rfl ?_
 (refine A2e rfl hT rfl rfl (fun v G1 outs hle1 hh => ?_); obtain ⟨p1, c1, e1, rfl, rfl, hr1⟩ := hh; replace hr := hr.mono hle1; replace hse := hse.mono hle1; replace hel := hel.mono hle1; have hv := A5U t G1 cells zO0 hr)
 refine B5 ?_
 refine zf16 (fun h16 => ?_) (fun h16 => ?_)
 refine W8 ?_
 exact y53
 refine I0 ?_
 refine sL (A3 rfl rfl (B9 zG0) hl) rfl rfl ?_
 refine L4 rfl (hv) rfl rfl (fun h38 => ?_) (fun h38 => ?_)
 refine K7 ?_
 refine C2 ?_
 (refine K2 (fun (x : Nat) => ⟨[(6, .int .i64 x), (1, .slice p L.length c), (2, .pointer (some ⟨b3, 0, none⟩)), (4, .pointer (some ⟨b4, 0, none⟩))], [.blk b4 zq9, .blk b3 cells], G1⟩) (fun x => x ≤ L.length ∧ ∀ j, j < x → (h : j < L.length) → H7 L[j] = true) (fun x => L.length - x) 0 ?_ ?_ ?_)
 exact E3
 (exact ⟨Nat.zero_le _, fun j hj => absurd hj zO0⟩)
 (rintro (i : Nat) ⟨hi, hval⟩)
 refine A7 ?_
 refine zf8 (fun h63 => ?_) (fun h63 => ?_)
 refine A7 ?_
 refine C2 ?_
 refine B6 ?_
 (obtain ⟨b0, o0, p20, c20, rfl, hat0, hre0, hgb0⟩ := hse.kidTy hel (i := i) zO0 zO0; have hV := A2l _ G1 _ hre0; refine sP (B2 rfl rfl rfl zO0) rfl rfl ?_)
 refine sL (A3 rfl rfl (hat0 _) rfl) rfl rfl ?_
 refine L4 rfl (hV) rfl rfl (fun h77 => ?_) (fun h77 => ?_)
 refine E1 ?_
 refine zf4 ?_
 refine A5 ?_
 refine J7 (i + 1) ?_ ?_ ?_
 exact E3
 (exact ⟨by omega, fun j hj hl => by rcases Nat.lt_succ_iff_lt_or_eq.1 hj with h | h; exact hval j h hl; subst h; assumption⟩)
 (show L.length - (i + 1) < L.length - i; omega)
 refine W8 ?_
 exact y53
 refine I9 ?_
 refine sL (A3 rfl rfl (B9 zG0) hl) rfl rfl ?_
 refine I0 ?_
 (have hTv := htv zL0; refine A2e rfl (C0d L p c hsm t 0 G1 cells es (by rw [← hTv]; omega) hLb hts hcnt hr hse hel) rfl rfl (fun v G3 outs hle3 hh => ?_); obtain ⟨rfl, cu, rfl, hru⟩ := hh; rw [List.drop_zero] at hru; have hul := hru.len; have huo := hru.one)
 refine B5 ?_
 refine zf1 (fun b129 => ?_)
 refine sS rfl rfl rfl hul huo rfl ?_ (hu := by exact E0 hul.symm)
 refine B1 ?_
 refine sL (A3 rfl rfl (B9 zG0) hul) rfl rfl ?_
 refine sS rfl rfl rfl hul huo rfl ?_ (hu := by exact E0 hul.symm)
 refine B6 ?_
 refine F4 (rC rfl (A3 rfl rfl (B9 zG0) hul)) (rT rfl) ?_
 (rw [hyes zL0 zO0 (fun j hj => hval j zO0)]; exact ⟨rfl, _, rfl, hru⟩)
 refine K5 ?_
 exact y53
theorem C0i {e : Tm} (h : (A0e e).isSome = true) : S6 e = true := by
 unfold A0e S4 at h
 split at h
 ·rename_i u t hx
  split at hx
  ·assumption
  ·cases hx
 ·cases h
mutual
theorem B3Q : ∀ (t : Tm) (d : Int), O9 12 14 t d = true → t.small
 | .mk k nm num ty fr lb ks, d, h => by
  obtain ⟨_, h2, h3, h4⟩ := A07 h
  obtain ⟨n1, n2, n3, n4, n5, n6, n7, n8, n9⟩ := W0.1 h3
  rw [Tm.small]
  refine ⟨by have := B0H h3; omega, (A3Z h3).1.small, by rw [A2S (n9 h2).1]; exact B0N, ?_, B3R ks _ h4⟩
  have := A1G k; omega
theorem B3R : ∀ (ts : List Tm) (d : Int), P0 12 14 ts d = true → Tm.smallL ts
 | [], _, _ => by rw [Tm.smallL]; trivial
 | t :: ts, d, h => by
  rw [P0, Bool.and_eq_true] at h
  rw [Tm.smallL]
  exact ⟨B3Q t d h.1, B3R ts d h.2⟩
end
theorem C0j {e : Tm} (h : S6 e = true) : e.fit 30 := by
 obtain ⟨h1, h2⟩ := (A2R e).1 h
 exact ⟨B3Q e 1 h1, h2⟩
theorem Tm.fit.le {e : Tm} {m : Nat} (h : e.fit n) (hm : n ≤ m) : e.fit m := ⟨h.1, Nat.le_trans h.2 hm⟩
mutual
theorem B3S : ∀ (t : Tm) (d : Int), O9 12 14 t d = true → ∀ u ∈ R3 t, H7 u = true
 | .mk k nm num ty fr lb ks, d, h => by
  obtain ⟨_, h2, h3, h4⟩ := A07 h
  obtain ⟨n1, n2, n3, n4, n5, n6, n7, n8, n9⟩ := W0.1 h3
  intro u hu
  rw [R3, List.mem_append] at hu
  rcases hu with hu | hu
  ·split at hu
   ·rename_i hk
    obtain rfl := List.mem_singleton.1 hu
    exact n6 zO0
   ·simp at hu
  ·exact B3T ks _ h4 u hu
theorem B3T : ∀ (ts : List Tm) (d : Int), P0 12 14 ts d = true → ∀ u ∈ O3 ts, H7 u = true
 | [], _, _ => by simp [O3]
 | t :: ts, d, h => by
  rw [P0, Bool.and_eq_true] at h
  intro u hu
  rw [O3, List.mem_append] at hu
  rcases hu with hu | hu
  ·exact B3S t d h.1 u hu
  ·exact B3T ts d h.2 u hu
end
theorem C0k (e : Tm) : (A0Q e).length ≤ 30 ∧ ∀ u ∈ A0Q e, H7 u = true := by
 unfold A0Q
 split
 ·rename_i h
  obtain ⟨h1, h2⟩ := (A2R e).1 h
  exact ⟨by have := B2O e; omega, B3S e 1 h1⟩
 ·simp
mutual
theorem B3U : ∀ (t : Tm) (l : List Ty), t.small → (∀ u ∈ l, u.small) → (A1d t l).small ∧ H9 (A1d t l) = H9 t
 | .mk k nm num ty fr lb ks, l, h, hl => by
  obtain ⟨h1, h2, h3, h4, h5⟩ := A4P.1 h
  rw [A1d]
  have hd : ∀ u ∈ (if k = 5 ∨ k = 13 then l.drop 1 else l), u.small := by
   intro u hu
   split at hu
   ·exact hl u (List.mem_of_mem_drop hu)
   ·exact hl u hu
  obtain ⟨g1, g2⟩ := B3V ks _ h5 hd
  refine ⟨A4P.2 ⟨h1, ?_, h3, by rw [A6u]; exact h4, g1⟩, by rw [A2r, A2r, g2]⟩
  split
  ·rw [List.getD_eq_getElem?_getD]
   cases hx : l[0]? with
   | none => exact B0N
   | some t => exact hl t (List.mem_of_getElem? hx)
  ·exact h2
theorem B3V : ∀ (ts : List Tm) (l : List Ty), Tm.smallL ts → (∀ u ∈ l, u.small) → Tm.smallL (X4 ts l) ∧ I3 (X4 ts l) = I3 ts
 | [], l, _, _ => by simp [X4, Tm.smallL, I3]
 | t :: ts, l, h, hl => by
  simp only [Tm.smallL] at h
  obtain ⟨a1, a2⟩ := B3U t l h.1 hl
  obtain ⟨b1, b2⟩ := B3V ts (l.drop (R3 t).length) h.2 (fun u hu => hl u (List.mem_of_mem_drop hu))
  simp only [X4, Tm.smallL, I3, a2, b2]
  exact ⟨⟨a1, b1⟩, trivial⟩
end
theorem C0l {t : Tm} {l : List Ty} {N : Nat} (h : t.fit N) (hl : ∀ u ∈ l, u.small) : ((A15 t l).getD L7).fit N := by
 unfold A15
 split
 ·obtain ⟨h1, h2⟩ := B3U t l h.1 hl
  exact ⟨h1, by rw [Option.getD_some, h2]; exact h.2⟩
 ·refine ⟨B6t, ?_⟩
  have h2 := h.2
  have : 1 ≤ H9 t := by cases t; rw [A2r]; omega
  show H9 L7 ≤ N
  rw [B6v]; omega
theorem C0m {es : List (List Value)} {i sz : Nat} (hi : i < es.length) (ha : ∀ e ∈ es, e.length = sz) : ∀ j v, es[i][j]? = some v → es.flatten[0 + i * sz + j]? = some v := by
 intro j v hj
 have h1 : es.flatten = (es.take i).flatten ++ (es[i] ++ (es.drop (i + 1)).flatten) := by
  conv => lhs; rw [← List.take_append_drop i es, List.drop_eq_getElem_cons hi]
  rw [List.flatten_append, List.flatten_cons]
 have hA : ((es.take i).flatten).length = 0 + i * sz := by rw [A0S (fun e he => ha e (List.mem_of_mem_take he)), List.length_take, Nat.min_eq_left zO0]; omega
 have hjl : j < es[i].length := by
  apply Classical.byContradiction
  intro hn
  rw [List.getElem?_eq_none zO0] at hj
  cases hj
 rw [h1, List.getElem?_append_right zO0, hA, show 0 + i * sz + j - (0 + i * sz) = j by omega, List.getElem?_append_left hjl, hj]
theorem B3W (br : Nat) (pb : Option Addr) (nb cb : Nat) (bs : List UInt8) (hnb : nb ≤ 2000) (p : Nat) (G : IM) (hb : Sl G pb nb cb 1 (O7 bs)) (hp : p < 1099511627776) :
  Fn prog 94 [.pointer (some ⟨br, 0, none⟩)] [rd br pb nb cb p] G
   (A0J br pb nb cb p 1 (fun _ v => ∃ k, v = .int .i64 k ∧ F8 k)) := by
 refine C4 func94 rfl ntmps94 results94 rfl ?_
 intro w0
 refine D4 ?_
 refine zf7 (fun b9 => ?_)
 (refine V7 zB0 (fun Gf hlef hslf _ => ?_); refine K4 rfl (A0F Gf br pb nb cb p bs _ _ _ _ (hb.mono hlef) hnb zO0 hslf zN0) (Pk.perm zB0) rfl rfl (fun v Gm outs hlen hh => ?_); obtain ⟨rfl, rfl, hv⟩ := hh; obtain ⟨kn, rfl, hkn⟩ : ∃ k, v = .int .i64 k ∧ F8 k := (by simp only [List.mem_cons, List.not_mem_nil, or_false] at hv; rcases hv with rfl | rfl | rfl | rfl | rfl | rfl | rfl | rfl <;> exact ⟨_, rfl, by unfold F8; omega⟩))
 refine B6 ?_
 refine I6 (outs := [rd br pb nb cb (p + 1)]) (rT rfl) zN ?_
 (exact ⟨p + 1, by omega, by omega, rfl, kn, rfl, hkn⟩)
theorem C0n (br : Nat) (pb : Option Addr) (nb cb : Nat) (bs : List UInt8) (hnb : nb ≤ 2000) (p : Nat) (G : IM) (hb : Sl G pb nb cb 1 (O7 bs)) (hp : p + 9000000 < 1099511627776) :
  Fn prog 92 [.pointer (some ⟨br, 0, none⟩)] [rd br pb nb cb p] G
   (A0J br pb nb cb p 9000000 (fun G' v => ∃ e cells, v = .agg ⟨cells⟩ ∧ B7 G' e cells ∧ e.fit 1100)) := by
 have hm8 : mB 8 = 1968200 := by decide
 refine C4 func92 rfl ntmps92 results92 rfl ?_
 intro w0
 refine A5 ?_
 refine zf1 (fun b3 => ?_)
 refine D4 ?_
 refine C2 ?_
 (refine K2 (fun (x : Nat × Nat × IM) => ⟨[(3, .int .i64 x.1), (0, .pointer (some ⟨br, 0, none⟩)), (2, .pointer (some ⟨b3, 0, none⟩))], [rd br pb nb cb x.2.1, .blk b3 zq9], x.2.2⟩) (fun x => x.1 ≤ 4 ∧ C3 G x.2.2 ∧ p ≤ x.2.1 ∧ x.2.1 ≤ p + x.1 * 2000000) (fun x => 4 - x.1) (0, p, G) ?_ ?_ ?_)
 (simp only [J5]; exact E3)
 (exact ⟨by omega, C3.refl _, Nat.le_refl _, by dsimp only; omega⟩)
 (rintro ⟨(i : Nat), (p1 : Nat), G1⟩ ⟨hi, hleL, hpL, hpL2⟩; simp only [] at hi hleL hpL hpL2 ⊢; replace hb := hb.mono hleL)
 refine B6 ?_
 refine zf8 (fun h21 => ?_) (fun h21 => ?_)
 refine A7 ?_
 refine C2 ?_
 refine B1 ?_
 refine zf7 (fun b34 => ?_)
 (refine V7 zB0 (fun Gf hlef hslf _ => ?_); refine K4 rfl (A0F Gf br pb nb cb (p1) bs _ _ _ _ (hb.mono hlef) hnb zO0 hslf zN0) (Pk.perm zB0) rfl rfl (fun v Gm outs hlen hh => ?_); obtain ⟨rfl, rfl, hv⟩ := hh; replace hb := hb.mono hlef; obtain ⟨dd, rfl, hdd⟩ : ∃ d : Nat, v = .int .i64 ((d + 1 : Nat) : Int) ∧ d ≤ 2 := zL; have hdB := A7E hdd; replace hleL := hleL.trans hlef)
 (have hcall := A4M br pb nb cb bs hnb dd (p1 + 1) _ zO0 hb zO0; refine K4 rfl hcall (Pk.perm zB0) rfl rfl (fun v Gn outs hleD hh => ?_); obtain ⟨pD, hpD1, hpD2, rfl, uD, cD, rfl, hrD, hsD, haD⟩ := hh; obtain ⟨qD, dD, eD, rfl, _⟩ := hrD.open; replace hb := hb.mono hleD; replace hleL := hleL.trans hleD)
 refine I0 ?_
 refine zf7 (fun b38 => ?_)
 (refine V7 zB0 (fun Gf hlef hslf _ => ?_); refine K4 rfl (A0F Gf br pb nb cb (pD) bs _ _ _ _ (hb.mono hlef) hnb zO0 hslf zN0) (Pk.perm zB0) rfl rfl (fun v Gm outs hlen hh => ?_); obtain ⟨rfl, rfl, hv⟩ := hh; replace hb := hb.mono hlef; replace hleL := hleL.trans hlef; replace hrD := hrD.mono hlef; obtain ⟨dp, rfl, hdp1, hdp2⟩ : ∃ d : Int, v = .int .i64 d ∧ 3 ≤ d ∧ d ≤ 5 := (by simp only [List.mem_cons, List.not_mem_nil, or_false] at hv; rcases hv with rfl | rfl | rfl | rfl <;> exact ⟨_, rfl, by decide, by decide⟩))
 (have hcall := B97 br pb nb cb bs hnb 8 dp uD (pD + 1) _ none 0 0 _ ⟨haD.le zO0, by omega, by omega, .inr ⟨by omega, by omega⟩⟩ zO0 zO0 zO0 (Z3.nil _) hrD hb zO0; refine K4 rfl hcall (Pk.perm zB0) rfl rfl (fun v Gn outs hleM hh => ?_); obtain ⟨pM, hpM1, hpM2, rfl, eM, cM, rfl, hrM, hsmM, hcM⟩ := hh; have hlM := hrM.len; have hoM := hrM.one; replace hb := hb.mono hleM; replace hleL := hleL.trans hleM)
 refine zf1 (fun b41 => ?_)
 refine Y2 rfl rfl rfl hlM hoM rfl zC0 (by exact E0 (by first | exact hlM.symm | omega)) ?_
 refine B6 ?_
 refine sL (A3 rfl rfl (B9 zG0) hlM) rfl rfl ?_
 (refine H6 rfl (B2i eM _ _ zO0 hrM) rfl rfl (fun v G9 hle9 hh => ?_); have hmv := @C0i eM; obtain ⟨mc, mt, rfl, hmr, hmu⟩ := hh; obtain ⟨pt, ct, et, rfl, _⟩ := hmr.open; replace hb := hb.mono hle9; replace hleL := hleL.trans hle9; replace hrM := hrM.mono hle9; generalize (A0e eM).isSome = mx at *; cases mx)
 refine B5 ?_
 refine zf1 (fun b52 => ?_)
 refine K1 ?_
 refine zf4 ?_
 refine A5 ?_
 refine J7 (i + 1, pM, G9) ?_ ?_ ?_
 (simp only [J5]; exact E3)
 (dsimp only; exact ⟨by omega, hleL, by omega, by omega⟩)
 (show 4 - (i + 1) < 4 - i; omega)
 refine B5 ?_
 refine zf1 (fun b78 => ?_)
 refine P3 ?_
 refine sL (A3 rfl rfl (B9 zG0) hlM) rfl rfl ?_
 refine Y2 rfl rfl rfl hlM hoM rfl zC0 (by exact E0 (by first | exact hlM.symm | omega)) ?_
 refine D4 ?_
 refine I6 (outs := [rd br pb nb cb pM]) (rC rfl (A3 rfl rfl (B9 zG0) hlM)) zN ?_
 (exact ⟨pM, by omega, by omega, rfl, eM, _, rfl, hrM, (C0j (hmv rfl)).le zO0⟩)
 refine J3 ?_
 (have hcall := B6i br pb nb cb bs hnb p1 _ hb zO0; refine K4 rfl hcall (Pk.perm zB0) rfl rfl (fun v Gn outs hleC hh => ?_); obtain ⟨pC, hpC1, hpC2, rfl, eC, cC, rfl, hrC, hcC⟩ := hh; have hlC := hrC.len; have hoC := hrC.one; have hcnt := A7r eC)
 refine Y2 rfl rfl rfl hlC hoC rfl zC0 (by exact E0 (by first | exact hlC.symm | omega)) ?_
 refine B5 ?_
 refine I6 (outs := [rd br pb nb cb pC]) (rC rfl (A3 rfl rfl (B9 zG0) hlC)) zN ?_
 (exact ⟨pC, by omega, by omega, rfl, eC, _, rfl, hrC, B0b _ zO0, by omega⟩)
theorem C0o (br : Nat) (pb : Option Addr) (nb cb : Nat) (bs : List UInt8) (hnb : nb ≤ 2000) (p : Nat) (G : IM) (hb : Sl G pb nb cb 1 (O7 bs)) (hp : p + 1000 < 1099511627776) (e : Tm) (ce : List Value) (N : Nat) (hfit : e.fit N) (hN : N ≤ 4000000) (hr : B7 G e ce) :
  Fn prog 93 [.pointer (some ⟨br, 0, none⟩), .agg ⟨ce⟩] [rd br pb nb cb p] G
   (A0J br pb nb cb p 1000 (fun G' v => ∃ u cu, v = .agg ⟨cu⟩ ∧ B7 G' u cu ∧ u.fit N)) := by
 have hl := hr.len
 have hone := hr.one
 have hcnt := hfit.2
 obtain ⟨hTl, hTv⟩ := C0k e
 have hT := B3P e G ce hfit.1 zO0 hr
 generalize A0Q e = L0 at hTl hTv hT
 refine C4 func93 rfl ntmps93 results93 rfl ?_
 intro w0
 refine A5 ?_
 refine zf2 (fun b3 => ?_)
 refine zf1 (fun b4 => ?_)
 refine B6 ?_
 refine sL (A3 rfl rfl (B9 zG0) hl) rfl rfl ?_
 (refine A2e rfl hT rfl rfl (fun v G1 outs hle1 hh => ?_); obtain ⟨q, c, es0, rfl, rfl, hr1⟩ := hh; replace hb := hb.mono hle1; replace hr := hr.mono hle1)
 refine E1 ?_
 refine C2 ?_
 (refine B4B (fun a w hs => hs.slc_ptT (p := q) (c := c) (el := 25) (sz := 2) (n := L0.length) (cs := es0.flatten) zG0) (fun hq => ?_); refine K2 (fun (x : Nat × Nat × List (List Value) × IM) => ⟨[(6, .int .i64 x.1), (5, .slice q L0.length c), (0, .pointer (some ⟨br, 0, none⟩)), (3, .pointer (some ⟨b3, 0, none⟩)), (4, .pointer (some ⟨b4, 0, none⟩))], [.slc q c 25 2 L0.length x.2.2.1.flatten, rd br pb nb cb x.2.1, .blk b4 zq9, .blk b3 ce], x.2.2.2⟩) (fun x => x.1 ≤ L0.length ∧ C3 G1 x.2.2.2 ∧ p ≤ x.2.1 ∧ x.2.1 ≤ p + x.1 * 31 ∧ ∃ L, L.length = L0.length ∧ E7 x.2.2.2 L x.2.2.1 ∧ ∀ u ∈ L, H8 u ∧ L3 u ≤ 30) (fun x => L0.length - x.1) (0, p, es0, G1) ?_ ?_ ?_)
 (simp only [J5]; exact E3)
 (exact ⟨Nat.zero_le _, C3.refl _, Nat.le_refl _, by dsimp only; omega, L0, rfl, hr1, fun u hu => A4O (hTv u hu)⟩)
 (rintro ⟨(i : Nat), (p1 : Nat), es, Gi⟩ ⟨hi, hle, hp1, hp2, L, hL, hst, hal⟩; simp only [] at hi hle hp1 hp2 hst ⊢; replace hb := hb.mono hle; have hesl : es.length = L0.length := (by have h0 := hst.len; omega))
 refine A7 ?_
 refine zf8 (fun h31 => ?_) (fun h31 => ?_)
 refine A7 ?_
 refine C2 ?_
 refine A7 ?_
 (obtain ⟨g, rfl, hgc⟩ := hq.resolve_left zO0; obtain ⟨hai, hsi⟩ := hal L[i] (List.getElem_mem zO0); have hri : C6 Gi L[i] (es[i]'zO0) := (by have h0 := (hst.inv (i := i) (List.getElem?_eq_getElem zO0) C5).2; rw [List.getD_eq_getElem?_getD, List.getElem?_eq_getElem zO0, Option.getD_some] at h0; exact h0); have hei := hri.len; refine sP (B2 (j := i) rfl rfl rfl zO0) rfl rfl ?_)
 refine sL (A3 rfl rfl (A80 zG0 (C0m zO0 (fun e he => (hst.each e he).1))) hei) rfl rfl ?_
 (have hcall := A5Y br pb nb cb bs hnb _ p1 _ _ hai hri hb zO0; refine K4 rfl hcall (Pk.perm zB0) rfl rfl (fun v Gn outs hleu hh => ?_); obtain ⟨p2, hp21, hp22, rfl, u, cu, rfl, hru, hua, hus, huh⟩ := hh; have hul := hru.len; have huo := hru.one; replace hb := hb.mono hleu; replace hle := hle.trans hleu; replace hst := hst.mono hleu)
 refine sP (B2 (j := i) rfl rfl rfl zO0) rfl rfl ?_
 refine C0a rfl rfl rfl hul huo rfl zC0 (C0b zO0 (fun e he => (hst.each e he).1) hul) ?_
 refine B1 ?_
 refine zf4 ?_
 refine A5 ?_
 (refine J7 (i + 1, p2, es.set i cu, Gn) ?_ ?_ ?_)
 (simp only [J5]; exact E3)
 (dsimp only; exact ⟨by omega, hle, by omega, by omega, L.set i u, by rw [List.length_set]; exact hL, hst.set i hru, fun w hw => by rcases List.mem_or_eq_of_mem_set hw with h | h; exact hal w h; rw [h]; exact ⟨hua, by omega⟩⟩)
 (show L0.length - (i + 1) < L0.length - i; omega)
 refine I9 ?_
 refine sL (A3 rfl rfl (B9 zG0) hl) rfl rfl ?_
 refine I0 ?_
 (refine V7 (cs := es.flatten) zB0 (fun G2 hle2 hsl2 hno2 => ?_); have hw := C0h e L G2 ce q c es hfit.1 zO0 zO0 (fun u hu => (hal u hu).1.small) ((hr.mono hle).mono hle2) (D7.of (by rw [hL]; exact hsl2) zO0 hst.all (fun e he => (hst.each e he).2)) (hst.mono hle2); rw [hL] at hw; refine H6 rfl hw rfl rfl (fun v G3 hle3 hh => ?_); obtain ⟨cu, rfl, hru⟩ := hh; have hfu := C0l hfit (fun u hu => (hal u hu).1.small); generalize (A15 e L).isSome = bx; generalize (A15 e L).getD L7 = ux at *; have hul := hru.len; have huo := hru.one)
 refine B5 ?_
 refine zf1 (fun b78 => ?_)
 refine sS rfl rfl rfl hul huo rfl ?_ (hu := by exact E0 hul.symm)
 refine B1 ?_
 refine sL (A3 rfl rfl (B9 zG0) hul) rfl rfl ?_
 refine sS rfl rfl rfl hul huo rfl ?_ (hu := by exact E0 hul.symm)
 refine B5 ?_
 refine I6 (outs := [rd br pb nb cb p1]) (rC rfl (A3 rfl rfl (B9 zG0) hul)) zN ?_
 (exact ⟨p1, by omega, by omega, rfl, ux, cu, rfl, hru, hfu⟩)
def C0O (G : IM) : IM → Value → List A9 → Prop := M3 fun G' v => ∃ a ca b cb f, v = .tuple ⟨[.agg ⟨ca⟩, .agg ⟨cb⟩, .int .i64 f]⟩ ∧ B7 G' a ca ∧ a.fit 1100 ∧ B7 G' b cb ∧ b.fit 1100 ∧ F8 f
def C0P (G : IM) : IM → Value → List A9 → Prop := M3 fun G' v => ∃ a ca b cb d cd, v = .tuple ⟨[.agg ⟨ca⟩, .agg ⟨cb⟩, .agg ⟨cd⟩]⟩ ∧ B7 G' a ca ∧ a.fit 1100 ∧ B7 G' b cb ∧ b.fit 1100 ∧ B7 G' d cd ∧ d.fit 1100
def B3X (N : Nat) (G : IM) : IM → Value → List A9 → Prop := M3 fun G' v => ∃ a ca f, v = .tuple ⟨[.agg ⟨ca⟩, .int .i64 f]⟩ ∧ B7 G' a ca ∧ a.fit N ∧ F8 f
theorem C0p (G : IM) (q : Option Addr) (n c : Nat) (bs : List UInt8) (hb : Sl G q n c 1 (O7 bs)) : Fn prog 47 [.slice q n c] [] G (B3X 1100 G) := by
 refine C4 func47 rfl ntmps47 results47 rfl ?_
 intro w0
 refine A5 ?_
 refine zf1 (fun b3 => ?_)
 refine A7 ?_
 (refine K4 rfl (B6h G q n c bs hb) (List.Perm.refl _) rfl rfl (fun v G1 outs hle1 hh => ?_); obtain ⟨rfl, br, pb, nb, cb, bs', rfl, rfl, hnb, hb'⟩ := hh)
 refine B8 ?_
 (have hcall := C0n br pb nb cb bs' hnb 0 _ hb' zO0; refine K4 rfl hcall (Pk.perm zB0) rfl rfl (fun v Gn outs hle1 hh => ?_); obtain ⟨p1, hp11, hp12, rfl, e0, ce0, rfl, hr0, hf0⟩ := hh; replace hb' := hb'.mono hle1)
 (have hcall := B6r br pb nb cb bs' hnb p1 _ hb' zO0 e0 ce0 1100 hf0 hr0; refine K4 rfl hcall (Pk.perm zB0) rfl rfl (fun v Gn outs hle2 hh => ?_); obtain ⟨p2, hp21, hp22, rfl, e, ce, rfl, hre, hfe⟩ := hh; have hl1 := hre.len; have ho1 := hre.one; replace hb' := hb'.mono hle2)
 refine zf1 (fun b20 => ?_)
 refine Y2 rfl rfl rfl hl1 ho1 rfl zC0 (by exact E0 (by first | exact hl1.symm | omega)) ?_
 refine A7 ?_
 (refine K4 rfl (A0i _ br pb nb cb (p2) bs' 2 hb' hnb zO0) (Pk.perm zB0) rfl rfl (fun v Gp outs hle28 hh => ?_); obtain ⟨rfl, rfl, j28, rfl, hj28, hk28⟩ := hh; skip)
 replace hre := hre.mono hle28
 replace hb' := hb'.mono hle28
 refine zf0 (fun h29 => ?_) (fun h29 => ?_)
 refine B1 ?_
 refine sL (A3 rfl rfl (B9 zG0) hl1) rfl rfl ?_
 (have hcall := C0o br pb nb cb bs' hnb (p2 + 1) _ hb' zO0 e ce 1100 hfe zO0 hre; refine K4 rfl hcall (Pk.perm zB0) rfl rfl (fun v Gn outs hle3 hh => ?_); obtain ⟨p3, hp31, hp32, rfl, b, cb1, rfl, hrb, hfb⟩ := hh; have hl2 := hrb.len; have ho2 := hrb.one; replace hb' := hb'.mono hle3)
 refine Y2 rfl rfl rfl hl2 ho2 rfl zC0 (by exact E0 (by first | exact (hl2.trans hl1.symm).symm | omega)) ?_
 refine B5 ?_
 refine zf6 ?_
 refine aL 0 rfl (A3 rfl rfl (B9 zG0) hl2) rfl ?_
 refine xx1 1 ?_
 refine A2 2 ?_
 (have hcall := B3W br pb nb cb bs' hnb p3 _ hb' zO0; refine Z9 (l' := [tt,tt,tt,ff,ff]) rfl rfl hcall (Pk.perm zB0) rfl rfl rfl zK (fun v Gn outs hle5 hh => ?_); obtain ⟨p5, hp51, hp52, rfl, fl, rfl, hfl⟩ := hh; replace hrb := hrb.mono hle5)
 refine A2 3 ?_
 refine A4t rfl rfl rfl rfl hl2 ho2 rfl rfl zC0 (by exact E0 hl2.symm) zK ?_
 refine xx1 4 ?_
 refine B5 ?_
 refine F4 (rC rfl (A3 rfl rfl (B9 zG0) hl2)) (rT rfl) ?_
 (exact ⟨rfl, b, cb1, fl, rfl, hrb, hfb, hfl⟩)
 refine A7 ?_
 refine zf6 ?_
 refine aL 0 rfl (A3 rfl rfl (B9 zG0) hl1) rfl ?_
 refine xx1 1 ?_
 refine A2 2 ?_
 (have hcall := B3W br pb nb cb bs' hnb (p2 + 1) _ hb' zO0; refine Z9 (l' := [tt,tt,tt,ff,ff]) rfl rfl hcall (Pk.perm zB0) rfl rfl rfl zK (fun v Gn outs hle5 hh => ?_); obtain ⟨p5, hp51, hp52, rfl, fl, rfl, hfl⟩ := hh; replace hre := hre.mono hle5)
 refine A2 3 ?_
 refine A4t rfl rfl rfl rfl hl1 ho1 rfl rfl zC0 (by exact E0 hl1.symm) zK ?_
 refine xx1 4 ?_
 refine B5 ?_
 refine F4 (rC rfl (A3 rfl rfl (B9 zG0) hl1)) (rT rfl) ?_
 (exact ⟨rfl, e, ce, fl, rfl, hre, hfe, hfl⟩)
variable {x y : Operand}
theorem A6M {P : Program} {Γ : M5} {env : M8} {hp : List A9} {ty : TypeId} {t t' : TypeId} {r : ByteArray} (hx : evo env x = some (.string r)) (hy : evo env y = some (.string r)) :
  J6 P Γ ⟨env, hp, G⟩ (.binOp .eql t x y t') ty (.bool true) := by
 have h := A1h (P := P) (Γ := Γ) (hp := hp) (G := G) (t := t) (t' := t') (ty := ty) hx hy
 simpa using h
theorem C0q (G : IM) (q : Option Addr) (n c : Nat) (bs : List UInt8) (hb : Sl G q n c 1 (O7 bs)) : Fn prog 18 [.slice q n c] [] G (B3X 1100 G) := by
 refine C4 func18 rfl ntmps18 results18 rfl ?_
 intro w0
 refine A5 ?_
 refine zf1 (fun b3 => ?_)
 refine A7 ?_
 (refine H6 rfl (C0p G _ _ _ bs hb) rfl rfl (fun v G1 hle1 hh => ?_); obtain ⟨a, ca, fl, rfl, hra, hfa, hfl⟩ := hh; have hla := hra.len; have hoa := hra.one)
 refine A5 ?_
 refine sS rfl rfl rfl hla hoa rfl ?_ (hu := by exact E0 hla.symm)
 refine B6 ?_
 refine F4 (rC rfl (A3 rfl rfl (B9 zG0) hla)) (rT rfl) ?_
 (exact ⟨rfl, a, ca, fl, rfl, hra, hfa, hfl⟩)
theorem C0r (bs : List UInt8) (G : IM) (p : Option Addr) (n c : Nat) (hT : A05 G) (hb : Sl G p n c 1 (O7 bs)) : Fn prog 5 [.slice p n c] [] G (M3 fun _ v => v = .bool true) := by
 have hn := hb.le
 refine C4 func5 rfl ntmps5 results5 rfl ?_
 intro w0
 refine I9 ?_
 refine zf17 (fun h11 => ?_) (fun h11 => ?_)
 refine J3 ?_
 (exact ⟨rfl, rfl⟩)
 refine D4 ?_
 (refine H6 rfl (C0q G _ _ _ bs hb) rfl rfl (fun v G1 hle1 hh => ?_); obtain ⟨a, ca, fl, rfl, hra, hfa, hfl⟩ := hh; replace hT := hT.mono hle1; have hca := hfa.2; have hla := hra.len; have hoa := hra.one; have hA := B9o a fl G1 ca hT hra; have hS := B9L a fl; have hk := fun h => @B95 a fl 300 h zN0; have hB := B8A a 300; obtain ⟨⟨s1, c1, l1⟩, hr1⟩ : ∃ r, A12 a fl = r := ⟨_, rfl⟩; obtain ⟨⟨s2, c2, l2⟩, hr2⟩ : ∃ r, U4 a 300 = r := ⟨_, rfl⟩; rw [hr1] at hA hk hS; rw [hr2] at hk hB; simp only [] at hk)
 refine B5 ?_
 refine zf1 (fun b36 => ?_)
 refine sS rfl rfl rfl hla hoa rfl ?_ (hu := by exact E0 hla.symm)
 refine B1 ?_
 refine sL (A3 rfl rfl (B9 zG0) hla) rfl rfl ?_
 refine I0 ?_
 (refine H6 rfl hA rfl rfl (fun v2 G2 hle2 hh => ?_); replace hh : v2 = .tuple ⟨[.string s1, .int .i64 c1, .int .i64 l1]⟩ := hh; subst hh; replace hra := hra.mono hle2; replace hT := hT.mono hle2; have hS2 := hS G2 ca zO0 hra)
 refine J3 ?_
 refine sL (A3 rfl rfl (B9 zG0) hla) rfl rfl ?_
 refine I0 ?_
 (refine H6 rfl hS2 rfl rfl (fun v3 G3 hle3 hh => ?_); replace hh : v3 = .tuple ⟨[.string s1, .int .i64 c1, .int .i64 l1]⟩ := hh; subst hh; replace hra := hra.mono hle3; replace hT := hT.mono hle3; have hB3 := hB G3 ca hT hra)
 refine K5 ?_
 refine sB (A5o rfl rfl) rfl rfl (fun h74 => ?_) (fun h74 => ?_)
 refine B4G ?_
 exact y54
 refine B5 ?_
 refine sP (A2D rfl rfl zO0) rfl rfl ?_
 refine B6 ?_
 refine sP (A2D rfl rfl zO0) rfl rfl ?_
 refine B5 ?_
 refine zf8 (fun h130 => ?_) (fun h130 => ?_)
 refine P3 ?_
 exact y54
 refine B5 ?_
 refine zf17 (fun h164 => ?_) (fun h164 => ?_)
 refine D4 ?_
 exact y54
 refine D4 ?_
 refine sL (A3 rfl rfl (B9 zG0) hla) rfl rfl ?_
 (have hkk := hk (decide_eq_true ⟨by omega, by omega⟩); clear hk; refine H6 rfl hB3 rfl rfl (fun v4 G4 hle4 hh => ?_); replace hh : v4 = .tuple ⟨[.string s2, .int .i64 c2, .int .i64 l2]⟩ := hh; subst hh)
 refine K7 ?_
 refine zf0 (fun h214 => ?_) (fun h214 => ?_)
 refine A2I ?_
 (exact ⟨rfl, rfl⟩)
 refine A5 ?_
 refine zf0 (fun h241 => ?_) (fun h241 => ?_)
 refine A1A ?_
 (exact ⟨rfl, rfl⟩)
 refine B5 ?_
 refine zf0 (fun h266 => ?_) (fun h266 => ?_)
 refine L9 ?_
 (exact ⟨rfl, rfl⟩)
 refine B5 ?_
 refine zf0 (fun h287 => ?_) (fun h287 => ?_)
 refine P3 ?_
 (exact ⟨rfl, rfl⟩)
 refine B8 ?_
 (have hee := (((hkk.resolve_left zO0).resolve_left zO0).resolve_left zO0).resolve_left zO0; clear hkk; obtain ⟨rfl, rfl, rfl⟩ : s1 = s2 ∧ c1 = c2 ∧ l1 = l2 := ⟨congrArg (fun r => r.1) hee, congrArg (fun r => r.2.1) hee, congrArg (fun r => r.2.2) hee⟩)
 refine B5 ?_
 refine sQ (A6M rfl rfl) rfl ?_
 refine B5 ?_
 refine zf12 ?_
 refine B6 ?_
 refine zf12 ?_
 refine A7 ?_
 (exact ⟨rfl, rfl⟩)
end Gw
end Go.Proofs.YtmceanphadildaaGreatDoor
