/-
  Static terms: the program's StaticTerm.
-/
import Derived.Test.YtgodjiieijekiaaGreatDoorKb5
import Derived.Test.YtgodjiieijekiaaGreatDoorKb2
import Derived.Test.YtgodjiieijekiaaGreatDoorKb1
import Derived.Test.YtgodjiieijekiaaGreatDoorKb4
import Derived.Test.YtgodjiieijekiaaGreatDoorKb3
import Derived.Test.YtgodjiieijekiaaGreatDoorKS
import Derived.Shelf.Sort.Plain
import Derived.Lib.SlicesCompact
import Derived.Lib.Bytealg
import Derived.Lib.LastIndexByte
set_option linter.unusedVariables false
set_option linter.unusedSimpArgs false
set_option maxHeartbeats 0
set_option maxRecDepth 100000
set_option synthInstance.maxSize 4000
set_option synthInstance.maxHeartbeats 0
namespace Go.Proofs.YtgodjiieijekiaaGreatDoor
open Go Go.RowKit
namespace Gw
mutual
def A92 : Ty → Int
 | .mk k ks => if k = 1 then 1 else A93 ks
def A93 : List Ty → Int
 | [] => 0
 | t :: ts => A92 t + A93 ts
end
def tSt (t : Ty) : Bool := decide (A92 t = 0)
def B7w (e : Tm) : Bool := M5 e && (A2D e).all tSt
abbrev NoC (u : Tm) : Prop := A4M (fun _ => False) u
def Y5 (e : Tm) (fuel : Int) : ByteArray × Int × Int := if (M5 e || N0 e) = true then (if (U1 (D3 e) fuel).2.1 = 0 then (Y3 (U1 (D3 e) fuel).1, 0, (U1 (D3 e) fuel).2.2) else (⟨⟨[]⟩⟩, (U1 (D3 e) fuel).2.1, (U1 (D3 e) fuel).2.2)) else (⟨⟨[]⟩⟩, 3, 0)
theorem B43 {e : Tm} {fuel : Int} (h : (M5 e || N0 e) = false) : Y5 e fuel = (⟨⟨[]⟩⟩, 3, 0) := by unfold Y5; rw [if_neg (by rw [h]; decide)]
theorem A94 {e : Tm} {fuel : Int} (h : (M5 e || N0 e) = true) (h0 : (U1 (D3 e) fuel).2.1 = 0) : Y5 e fuel = (Y3 (U1 (D3 e) fuel).1, 0, (U1 (D3 e) fuel).2.2) := by unfold Y5; rw [if_pos h, if_pos h0]
theorem A4U {e : Tm} {fuel : Int} (h : (M5 e || N0 e) = true) (h0 : (U1 (D3 e) fuel).2.1 ≠ 0) : Y5 e fuel = (⟨⟨[]⟩⟩, (U1 (D3 e) fuel).2.1, (U1 (D3 e) fuel).2.2) := by unfold Y5; rw [if_pos h, if_neg h0]
inductive Tg where
 | i | b | f | p
def Tg.ty : Tg → GT
 | .i => .int
 | .b => .bool
 | .f => .fn .any .any
 | .p => .pr .any .any
inductive DM where
 | a
 | r (t : Tg)
 | c (t : Tg)
def GE.dy : GE → DM → Prop
 | .var _, m => m = .a
 | .num _, m => m = .r .i ∨ m = .c .i
 | .tru _, m => m = .r .b ∨ m = .c .b
 | .lam _ A e, m => (m = .r .f ∨ m = .c .f) ∧ A = .any ∧ e.dy .a
 | .app f x, m => m = .a ∧ f.dy (.c .f) ∧ x.dy .a
 | .ar s x y, m => m = .r (if s = true then .b else .i) ∧ x.dy (.c .i) ∧ y.dy (.c .i)
 | .ite c x y, m => m = .a ∧ c.dy (.c .b) ∧ x.dy .a ∧ y.dy .a
 | .pair x y, m => (m = .r .p ∨ m = .c .p) ∧ x.dy .a ∧ y.dy .a
 | .part _ e, m => m = .a ∧ e.dy (.c .p)
 | .cast A B _ e, m => (m = .a ∧ B = .any ∧ ∃ t : Tg, A = t.ty ∧ e.dy (.r t)) ∨ ∃ t : Tg, m = .c t ∧ A = .any ∧ B = t.ty ∧ e.dy .a
def GE.evc : GE → Prop
 | .var _ => False
 | .num _ => True
 | .tru _ => True
 | .lam _ _ _ => True
 | .app f a => f.evc ∧ a.evc
 | .ar _ a b => a.evc ∧ b.evc
 | .ite c _ _ => c.evc
 | .pair a b => a.evc ∧ b.evc
 | .part _ e => e.evc
 | .cast _ _ _ e => e.evc
def GE.tg : GE → Option Tg
 | .num _ => some .i
 | .tru _ => some .b
 | .lam _ _ _ => some .f
 | .pair _ _ => some .p
 | _ => none
def Vl (e : GE) : Prop := ∃ w, Ss e w ∧ GV w
def Rs (t : Tg) (e : GE) : Prop := ∃ w, Ss e w ∧ GV w ∧ w.tg = some t
def Nv : DM → GE → Prop
 | .a, e => ¬Vl e.er
 | .r _, e => ¬Vl e.er
 | .c t, e => ¬Rs t e.er
def A95 (e : Tm) : Tm := .mk 13 ⟨#[]⟩ 0 O4 B8 0 [e]
mutual
def A6S : Tm → Tm
 | .mk k nm num ty fr lb ks => if k = 13 then (A4V ks).headD H7 else if k = 1 ∨ k = 6 ∨ k = 9 ∨ k = 11 ∨ k = 12 then .mk k nm num B8 B8 0 (A4V ks)
  else A95 (.mk k nm num (if k = 5 then O4 else B8) B8 0 (A4V ks))
def A4V : List Tm → List Tm
 | [] => []
 | t :: ts => A6S t :: A4V ts
end
mutual
def R8 : List ByteArray → Tm → Prop
 | b, .mk k nm _ _ _ _ ks => (k = 1 → nm ∈ b) ∧ S8 (if k = 5 then nm :: b else b) ks
def S8 : List ByteArray → List Tm → Prop
 | _, [] => True
 | b, t :: ts => R8 b t ∧ S8 b ts
end
def B7x (e : Tm) : Tm × Bool := if M5 e = true ∧ M5 (A6S e) = true then (A6S e, true) else (H7, false)
def B7y (cx : Cx) (t : Tm) : Prop := ∀ l, ∃ (g : GE) (l' : Int), mEl cx t l = some (g.tm, O4, l') ∧ g.dy .a
def B7z (cx : Cx) (t : Tm) (s : Tg) : Prop := ∀ l, ∃ (g : GE) (l' : Int), mEl cx t l = some (g.tm, s.ty.ty, l') ∧ g.dy (.r s)
section
variable {cx : Cx} {k : Int} {nm : ByteArray} {num : Int} {ty fr : Ty} {lb : Int} {a b c u v w : Tm} {A B C : Ty} {l l1 l2 l3 : Int}
end
section
variable {cx : Cx} {a b c : Tm}
end
theorem A4W {b : List ByteArray} : ∀ {ks : List Tm}, S8 b ks → ∀ t ∈ ks, R8 b t
 | [], _, t, ht => by cases ht
 | u :: us, h, t, ht => by
  rw [S8] at h
  rcases List.mem_cons.1 ht with rfl | ht
  ·exact h.1
  ·exact A4W h.2 t ht
section
variable {k : Int} {nm : ByteArray} {num : Int} {ty fr : Ty} {lb : Int} {a b c : Tm}
end
def GE.fv (x : ByteArray) : GE → Prop
 | .var y => y = x
 | .num _ => False
 | .tru _ => False
 | .lam y _ e => y ≠ x ∧ e.fv x
 | .app f a => f.fv x ∨ a.fv x
 | .ar _ a b => a.fv x ∨ b.fv x
 | .ite c a b => c.fv x ∨ a.fv x ∨ b.fv x
 | .pair a b => a.fv x ∨ b.fv x
 | .part _ e => e.fv x
 | .cast _ _ _ e => e.fv x
def GE.cl (e : GE) : Prop := ∀ x, ¬e.fv x
theorem B44 {x : ByteArray} {v : GE} : ∀ e : GE, ¬e.fv x → e.sub x v = e := by
 intro e
 induction e with
 | var y => intro h; rw [GE.sub]; exact if_neg h
 | num n => intro _; rfl
 | tru b => intro _; rfl
 | lam y A e i =>
  intro h
  rw [GE.sub]
  split
  ·rfl
  ·rename_i hy; rw [i (fun hf => h ⟨hy, hf⟩)]
 | app f a i j => intro h; rw [GE.sub, i (fun g => h (.inl g)), j (fun g => h (.inr g))]
 | ar s f a i j => intro h; rw [GE.sub, i (fun g => h (.inl g)), j (fun g => h (.inr g))]
 | ite c f a i j k => intro h; rw [GE.sub, i (fun g => h (.inl g)), j (fun g => h (.inr (.inl g))), k (fun g => h (.inr (.inr g)))]
 | pair f a i j => intro h; rw [GE.sub, i (fun g => h (.inl g)), j (fun g => h (.inr g))]
 | part s e i => intro h; rw [GE.sub, i h]
 | cast A B l e i => intro h; rw [GE.sub, i h]
theorem A4X {x : ByteArray} {v e : GE} (h : e.cl) : e.sub x v = e := B44 e (h x)
theorem B45 {x : ByteArray} {v w : GE} (hv : v.cl) : ∀ e : GE, (e.sub x v).sub x w = e.sub x v := by
 intro e
 induction e with
 | var y =>
  simp only [GE.sub]
  split
  ·exact A4X hv
  ·rename_i h; rw [GE.sub, if_neg h]
 | num n => rfl
 | tru b => rfl
 | lam y A e i =>
  simp only [GE.sub]
  split
  ·rename_i h; rw [GE.sub, if_pos h]
  ·rename_i h; rw [GE.sub, if_neg h, i]
 | app f a i j => simp only [GE.sub, i, j]
 | ar s f a i j => simp only [GE.sub, i, j]
 | ite c f a i j k => simp only [GE.sub, i, j, k]
 | pair f a i j => simp only [GE.sub, i, j]
 | part s e i => simp only [GE.sub, i]
 | cast A B l e i => simp only [GE.sub, i]
theorem B46 {x y : ByteArray} {v w : GE} (hxy : x ≠ y) (hv : v.cl) (hw : w.cl) : ∀ e : GE, (e.sub x v).sub y w = (e.sub y w).sub x v := by
 intro e
 induction e with
 | var z =>
  simp only [GE.sub]
  by_cases h1 : z = x
  ·rw [if_pos h1, if_neg (fun h => hxy (h1.symm.trans h)), GE.sub, if_pos h1]
   exact A4X hv
  ·rw [if_neg h1]
   by_cases h2 : z = y
   ·rw [if_pos h2, GE.sub, if_pos h2]
    exact (A4X hw).symm
   ·rw [if_neg h2, GE.sub, if_neg h2, GE.sub, if_neg h1]
 | num n => rfl
 | tru b => rfl
 | lam z A e i =>
  simp only [GE.sub]
  by_cases h1 : z = x
  ·by_cases h2 : z = y
   ·exact absurd (h1.symm.trans h2) hxy
   ·rw [if_pos h1, if_neg h2, GE.sub, if_neg h2, GE.sub, if_pos h1]
  ·by_cases h2 : z = y
   ·rw [if_neg h1, if_pos h2, GE.sub, if_pos h2, GE.sub, if_neg h1]
   ·rw [if_neg h1, if_neg h2, GE.sub, if_neg h2, GE.sub, if_neg h1, i]
 | app f a i j => simp only [GE.sub, i, j]
 | ar s f a i j => simp only [GE.sub, i, j]
 | ite c f a i j k => simp only [GE.sub, i, j, k]
 | pair f a i j => simp only [GE.sub, i, j]
 | part s e i => simp only [GE.sub, i]
 | cast A B l e i => simp only [GE.sub, i]
def J8 : List (ByteArray × GE) → GE → GE
 | [], e => e
 | (x, v) :: σ, e => J8 σ (e.sub x v)
def clS (σ : List (ByteArray × GE)) : Prop := ∀ p ∈ σ, p.2.cl
def A1A (x : ByteArray) (σ : List (ByteArray × GE)) : List (ByteArray × GE) := σ.filter fun p => decide (p.1 ≠ x)
theorem A96 {e : GE} (h : e.cl) : ∀ σ, J8 σ e = e
 | [] => rfl
 | (x, v) :: σ => by rw [J8, A4X h, A96 h σ]
theorem A97 (n : Int) : ∀ σ, J8 σ (.num n) = .num n
 | [] => rfl
 | (x, v) :: σ => by rw [J8, GE.sub, A97 n σ]
theorem A98 (b : Bool) : ∀ σ, J8 σ (.tru b) = .tru b
 | [] => rfl
 | (x, v) :: σ => by rw [J8, GE.sub, A98 b σ]
theorem A99 (f a : GE) : ∀ σ, J8 σ (.app f a) = .app (J8 σ f) (J8 σ a)
 | [] => rfl
 | (x, v) :: σ => by rw [J8, GE.sub, A99 _ _ σ]; rfl
theorem B0a (s : Bool) (f a : GE) : ∀ σ, J8 σ (.ar s f a) = .ar s (J8 σ f) (J8 σ a)
 | [] => rfl
 | (x, v) :: σ => by rw [J8, GE.sub, B0a s _ _ σ]; rfl
theorem B0b (f a : GE) : ∀ σ, J8 σ (.pair f a) = .pair (J8 σ f) (J8 σ a)
 | [] => rfl
 | (x, v) :: σ => by rw [J8, GE.sub, B0b _ _ σ]; rfl
theorem B0c (s : Bool) (f : GE) : ∀ σ, J8 σ (.part s f) = .part s (J8 σ f)
 | [] => rfl
 | (x, v) :: σ => by rw [J8, GE.sub, B0c s _ σ]; rfl
theorem B0d (c f a : GE) : ∀ σ, J8 σ (.ite c f a) = .ite (J8 σ c) (J8 σ f) (J8 σ a)
 | [] => rfl
 | (x, v) :: σ => by rw [J8, GE.sub, B0d _ _ _ σ]; rfl
theorem A6T (x : ByteArray) (A : GT) : ∀ (σ : List (ByteArray × GE)) (e : GE), J8 σ (.lam x A e) = .lam x A (J8 (A1A x σ) e)
 | [], _ => rfl
 | (y, v) :: σ, e => by
  rw [J8, GE.sub, A1A, List.filter_cons]
  by_cases h : x = y
  ·rw [if_pos h, if_neg (by simp [h]), A6T x A σ e]; rfl
  ·rw [if_neg h, if_pos (by simp; exact fun h2 => h h2.symm), A6T x A σ (e.sub y v)]; rfl
theorem A6U (x : ByteArray) (w : GE) (hw : w.cl) : ∀ (σ : List (ByteArray × GE)) (e : GE), clS σ → (J8 (A1A x σ) e).sub x w = J8 σ (e.sub x w)
 | [], _, _ => rfl
 | (y, v) :: σ, e, h => by
  have hv : v.cl := h (y, v) List.mem_cons_self
  have hs : clS σ := fun p hp => h p (List.mem_cons_of_mem _ hp)
  rw [A1A, List.filter_cons, J8]
  by_cases hx : y = x
  ·subst hx
   rw [if_neg (by simp), B45 hw e]
   exact A6U y w hw σ e hs
  ·rw [if_pos (by simp [hx]), J8, ← B46 hx hv hw e]
   exact A6U x w hw σ (e.sub y v) hs
def T4 (x : ByteArray) : List ByteArray → Nat
 | [] => 0
 | y :: ys => if y = x then 0 else T4 x ys + 1
def D1 (n : List ByteArray) : GE → List (Int × Int)
 | .var x => [(3, (T4 x n : Int))]
 | .num k => [(1, k)]
 | .tru b => [(2, if b = true then 1 else 0)]
 | .lam x _ e => (4, ((D1 (x :: n) e).length : Int) + 1) :: (D1 (x :: n) e ++ [(5, 0)])
 | .app f a => D1 n f ++ (D1 n a ++ [(6, 0)])
 | .ar s a b => D1 n a ++ (D1 n b ++ [(if s = true then 8 else 7, 0)])
 | .ite c a b => D1 n c ++ ((9, ((D1 n a).length : Int) + 1) :: (D1 n a ++ ((10, ((D1 n b).length : Int)) :: D1 n b)))
 | .pair a b => D1 n a ++ (D1 n b ++ [(11, 0)])
 | .part s e => D1 n e ++ [(if s = true then 13 else 12, 0)]
 | .cast _ _ _ e => D1 n e
mutual
inductive Vr (ops : List (Int × Int)) : MV → GE → Prop
 | num {n : Int} : Vr ops (.mk 0 n [] []) (.num n)
 | tru {b : Bool} : Vr ops (.mk 1 (if b = true then 1 else 0) [] []) (.tru b)
 | clo {env : List MV} {σ : List (ByteArray × GE)} {x : ByteArray} {A : GT} {e : GE} {pre post : List (Int × Int)} : Es ops env σ → ops = pre ++ (D1 (x :: σ.map Prod.fst) e ++ ((5, 0) :: post)) → e.nt → (∀ y, e.fv y → y ∈ x :: σ.map Prod.fst) → Vr ops (.mk 2 (pre.length : Int) env []) (.lam x A (J8 (A1A x σ) e))
 | pair {v w : MV} {a b : GE} : Vr ops v a → Vr ops w b → Vr ops (.mk 3 0 [] [v, w]) (.pair a b)
inductive Es (ops : List (Int × Int)) : List MV → List (ByteArray × GE) → Prop
 | nil : Es ops [] []
 | cons {env : List MV} {σ : List (ByteArray × GE)} {v : MV} {w : GE} {x : ByteArray} : Es ops env σ → Vr ops v w → w.cl → GV w → w.nt → Es ops (env ++ [v]) ((x, w) :: σ)
end
theorem Es.clS {ops : List (Int × Int)} : ∀ {σ : List (ByteArray × GE)} {env : List MV}, Es ops env σ → clS σ
 | [], _, _ => fun p hp => by cases hp
 | (x, w) :: σ, _, .cons h _ hc _ _ => fun p hp => by
  rcases List.mem_cons.1 hp with rfl | hp
  ·exact hc
  ·exact h.clS p hp
theorem Es.get {ops : List (Int × Int)} {x : ByteArray} : ∀ {σ : List (ByteArray × GE)} {env : List MV}, Es ops env σ → x ∈ σ.map Prod.fst → ∃ v w, T4 x (σ.map Prod.fst) < env.length ∧ env.getD (env.length - 1 - T4 x (σ.map Prod.fst)) O6 = v ∧ J8 σ (.var x) = w ∧ Vr ops v w ∧ w.cl ∧ GV w ∧ w.nt
 | [], _, _, hx => by cases hx
 | (y, w) :: σ, _, .cons (env := env) (v := v) h hv hc hg hn, hx => by
  by_cases he : y = x
  ·subst he
   refine ⟨v, w, by simp [T4], ?_, ?_, hv, hc, hg, hn⟩
   ·simp [T4, List.getD_eq_getElem?_getD]
   ·rw [J8, GE.sub, if_pos rfl]; exact A96 hc σ
  ·have hx' : x ∈ σ.map Prod.fst := by
    rcases List.mem_cons.1 hx with h2 | h2
    ·exact absurd h2.symm he
    ·exact h2
   obtain ⟨v', w', h1, h2, h3, h4⟩ := h.get hx'
   have hi : T4 x (((y, w) :: σ).map Prod.fst) = T4 x (σ.map Prod.fst) + 1 := by
    rw [List.map_cons, T4]; exact if_neg he
   refine ⟨v', w', by rw [hi, List.length_append]; simp; exact h1, ?_, ?_, h4⟩
   ·rw [hi, List.length_append, List.length_singleton, List.getD_eq_getElem?_getD, List.getElem?_append_left (by omega), ← List.getD_eq_getElem?_getD, ← h2]
    congr 1; omega
   ·rw [J8, GE.sub, if_neg (fun h => he h.symm)]; exact h3
def Wr (b : GE) (c : Int) : Prop := b.nt ∧ I8 b.tm = false ∧ ∃ u, K1 b.tm = (u, 2, c)
section
variable {ops : List (Int × Int)} {t : Nat} {s s' : K7} {k a : Int}
theorem A2h (h : s.at' < (ops.length : Int)) : E8 ops 0 s = (⟨#[]⟩, 5, 0) := by rw [E8, if_neg (by omega)]
theorem A0J (h : s.at' < (ops.length : Int)) (ho : ops.getD s.at'.toNat (0, 0) = (k, a)) (hs : M2 k a s = .inl s') : E8 ops (t + 1) s = E8 ops t s' := by
 rw [E8, if_neg (by omega), ho, hs]
theorem A3d {c e : Int} (h : s.at' < (ops.length : Int)) (ho : ops.getD s.at'.toNat (0, 0) = (k, a)) (hs : M2 k a s = .inr (c, e)) : E8 ops (t + 1) s = (⟨#[]⟩, c, e) := by
 rw [E8, if_neg (by omega), ho, hs]
end
theorem A6V {pre post : List (Int × Int)} {x : Int × Int} : (pre ++ x :: post).getD pre.length (0, 0) = x := by
 rw [List.getD_eq_getElem?_getD, List.getElem?_append_right (Nat.le_refl _), Nat.sub_self]; rfl
inductive Sm : Nat → GE → GE → Prop
 | refl {e} : Sm 0 e e
 | step {n a b c} : GS a b → Sm n b c → Sm (n + 1) a c
inductive Bl : GE → Int → Prop
 | app1 {f a L} : Bl f L → Bl (.app f a) L
 | app2 {f a L} : GV f → Bl a L → Bl (.app f a) L
 | ar1 {s a b L} : Bl a L → Bl (.ar s a b) L
 | ar2 {s a b L} : GV a → Bl b L → Bl (.ar s a b) L
 | ite1 {c a b L} : Bl c L → Bl (.ite c a b) L
 | pair1 {a b L} : Bl a L → Bl (.pair a b) L
 | pair2 {a b L} : GV a → Bl b L → Bl (.pair a b) L
 | part1 {s e L} : Bl e L → Bl (.part s e) L
 | cast1 {A B l e L} : Bl e L → Bl (.cast A B l e) L
 | fail {G H l m w} : GV w → G.Gd → H.Gd → G ≠ H → Bl (.cast .any G l (.cast H .any m w)) l
section
variable {k : Int} {nm : ByteArray} {num : Int} {ty fr : Ty} {lb : Int} {a b : Tm} {l : Int}
end
def GT.cp : GT → Prop
 | .fn _ _ => True
 | .pr _ _ => True
 | _ => False
def B0e : List Int → GE → GE
 | [], y => y
 | k :: ks, y => .cast .any .any k (B0e ks y)
inductive HR : GC → GE → GE → GT → Prop
 | var {Γ x A} : Γ x = some (A, A) → HR Γ (.var x) (.var x) A
 | num {Γ n} : HR Γ (.num n) (.num n) .int
 | tru {Γ b} : HR Γ (.tru b) (.tru b) .bool
 | lam {Γ x A B e e'} : HR (gup Γ x A A) e e' B → HR Γ (.lam x A e) (.lam x A e') (.fn A B)
 | app {Γ f f' a a' A B} : HR Γ f f' (.fn A B) → HR Γ a a' A → HR Γ (.app f a) (.app f' a') B
 | ar {Γ s a a' b b'} : HR Γ a a' .int → HR Γ b b' .int → HR Γ (.ar s a b) (.ar s a' b') (if s = true then .bool else .int)
 | ite {Γ c c' a a' b b' A} : HR Γ c c' .bool → HR Γ a a' A → HR Γ b b' A → HR Γ (.ite c a b) (.ite c' a' b') A
 | pair {Γ a a' b b' A B} : HR Γ a a' A → HR Γ b b' B → HR Γ (.pair a b) (.pair a' b') (.pr A B)
 | part {Γ s e e' A B} : HR Γ e e' (.pr A B) → HR Γ (.part s e) (.part s e') (if s = true then B else A)
 | cast {Γ e x A B l} : HR Γ e x A → Co A B → HR Γ (.cast A B l e) (.cast A B l x) B
 | idR {Γ e x A l} : HR Γ e x A → HR Γ e (.cast A A l x) A
 | idL {Γ e x A l} : HR Γ e x A → HR Γ (.cast A A l e) x A
 | back {Γ e x B l m} (ks : List Int) : HR Γ e x B → HR Γ e (.cast .any B l (B0e ks (.cast B .any m x))) B
 | backG {Γ e x B l m} : HR Γ e x B → B.cp → HR Γ e (.cast B.gr B l (.cast B B.gr m x)) B
 | dyn {Γ e x A B l} : HR Γ e x A → Co A B → HR Γ (.cast A B l e) (.cast .any B l (.cast A .any l x)) B
 | dynG {Γ e x A B l} : HR Γ e x A → Co A B → A.cp → B.cp → HR Γ (.cast A B l e) (.cast B.gr B l (.cast A A.gr l x)) B
 | dynU {Γ e x A B l} : HR Γ e x A → Co A B → A.cp → HR Γ (.cast A B l e) (.cast .any B l (.cast A.gr .any l (.cast A A.gr l x))) B
theorem A6W {f a b : GE} (v : GV f) (h : Ss a b) : Ss (.app f a) (.app f b) := h.ctx (fun z => .app f z) fun _ _ => .app2 v
theorem A6X {s : Bool} {f a b : GE} (v : GV f) (h : Ss a b) : Ss (.ar s f a) (.ar s f b) := h.ctx (fun z => .ar s f z) fun _ _ => .ar2 v
theorem B0f {f a b : GE} (v : GV f) (h : Ss a b) : Ss (.pair f a) (.pair f b) := h.ctx (fun z => .pair f z) fun _ _ => .pair2 v
section
variable {st env : List MV} {fr : List (Int × List MV)} {p a : Int} {v0 v1 : MV}
theorem dr2 : (st ++ [v0] ++ [v1]).drop ((st ++ [v0] ++ [v1]).length - 2) = [v0, v1] := by
 have : (st ++ [v0] ++ [v1]).length - 2 = st.length := by simp
 rw [this, List.append_assoc, List.drop_left]; rfl
theorem tk2 : (st ++ [v0] ++ [v1]).take ((st ++ [v0] ++ [v1]).length - 2) = st := by
 have : (st ++ [v0] ++ [v1]).length - 2 = st.length := by simp
 rw [this, List.append_assoc, List.take_left]
theorem dr1 : (st ++ [v0]).drop ((st ++ [v0]).length - 1) = [v0] := by
 have : (st ++ [v0]).length - 1 = st.length := by simp
 rw [this, List.drop_left]
theorem tk1 : (st ++ [v0]).take ((st ++ [v0]).length - 1) = st := by
 have : (st ++ [v0]).length - 1 = st.length := by simp
 rw [this, List.take_left]
theorem A4Y {k : Int} (h : K5 k = 2) : ¬(st ++ [v0] ++ [v1]).length < K5 k := by rw [h]; simp
theorem B0g {k : Int} (h : K5 k = 1) : ¬(st ++ [v0]).length < K5 k := by rw [h]; simp
theorem A3e {k : Int} (h : K5 k = 0) : ¬st.length < K5 k := by rw [h]; omega
theorem s6 : M2 6 a ⟨p, st ++ [v0] ++ [v1], env, fr⟩ = if v0.k = 2 then .inl ⟨v0.num, st, v0.env ++ [v1], fr ++ [(p + 1, env)]⟩ else .inr (2, 1) := by
 rw [X3 (A4Y rfl), A4p dr2, tk2]
theorem s7 : M2 7 a ⟨p, st ++ [v0] ++ [v1], env, fr⟩ = if v0.k = 0 ∧ v1.k = 0 then .inl ⟨p + 1, st ++ [.mk 0 ((v0.num + v1.num) % 1000) [] []], env, fr⟩ else .inr (2, 2) := by
 rw [X3 (A4Y rfl), A5U dr2, tk2]
theorem s8 : M2 8 a ⟨p, st ++ [v0] ++ [v1], env, fr⟩ = if v0.k = 0 ∧ v1.k = 0 then .inl ⟨p + 1, st ++ [.mk 1 (if v0.num < v1.num then 1 else 0) [] []], env, fr⟩ else .inr (2, 2) := by
 rw [X3 (A4Y rfl), A4q dr2, tk2]
theorem s11 : M2 11 a ⟨p, st ++ [v0] ++ [v1], env, fr⟩ = .inl ⟨p + 1, st ++ [.mk 3 0 [] [v0, v1]], env, fr⟩ := by
 rw [X3 (A4Y rfl), A5V dr2, tk2]
theorem s9 : M2 9 a ⟨p, st ++ [v0], env, fr⟩ = if v0.k = 1 then .inl ⟨if v0.num = 0 then p + 1 + a else p + 1, st, env, fr⟩ else .inr (2, 3) := by
 rw [X3 (B0g rfl), A4r dr1, tk1]
theorem s12 {k : Int} (hk : k = 12 ∨ k = 13) : M2 k a ⟨p, st ++ [v0], env, fr⟩ = if v0.k = 3 then .inl ⟨p + 1, st ++ [v0.parts.getD (k - 12).toNat O6], env, fr⟩ else .inr (2, 4) := by
 rw [X3 (B0g (by rcases hk with rfl | rfl <;> rfl)), A5W hk dr1, tk1]
theorem s1 : M2 1 a ⟨p, st, env, fr⟩ = .inl ⟨p + 1, st ++ [.mk 0 a [] []], env, fr⟩ := by rw [X3 (A3e rfl), A5X]
theorem s2 : M2 2 a ⟨p, st, env, fr⟩ = .inl ⟨p + 1, st ++ [.mk 1 a [] []], env, fr⟩ := by rw [X3 (A3e rfl), A5Y]
theorem s3 : M2 3 a ⟨p, st, env, fr⟩ = if (env.length : Int) - 1 - a < 0 then .inr (3, 0) else .inl ⟨p + 1, st ++ [env.getD ((env.length : Int) - 1 - a).toNat O6], env, fr⟩ := by rw [X3 (A3e rfl), A4s]
theorem s4 : M2 4 a ⟨p, st, env, fr⟩ = .inl ⟨p + 1 + a, st ++ [.mk 2 (p + 1) env []], env, fr⟩ := by rw [X3 (A3e rfl), A5Z]
theorem s5 {q : Int} {en : List MV} : M2 5 a ⟨p, st, env, fr ++ [(q, en)]⟩ = .inl ⟨q, st, en, fr⟩ := by
 rw [X3 (A3e rfl), A2s]
 have h1 : (fr ++ [(q, en)]).length - 1 = fr.length := by simp
 show (if (fr ++ [(q, en)]).length = 0 then _ else (_ : K7 ⊕ (Int × Int))) = _
 rw [if_neg (by simp), h1, List.take_left, List.getD_eq_getElem?_getD, List.getElem?_append_right (Nat.le_refl _), Nat.sub_self]
 rfl
theorem s10 : M2 10 a ⟨p, st, env, fr⟩ = .inl ⟨p + 1 + a, st, env, fr⟩ := by rw [X3 (A3e rfl), A50]
end
def Bg (ops : List (Int × Int)) (t : Nat) (p q : Int) (st env : List MV) (fr : List (Int × List MV)) (b : GE) : Prop :=
 (E8 ops t ⟨p, st, env, fr⟩).2.1 = 5 ∨ (∃ c b', E8 ops t ⟨p, st, env, fr⟩ = (⟨#[]⟩, 2, c) ∧ Ss b b' ∧ Wr b' c) ∨
 ∃ t' v w, t' < t ∧ Ss b w ∧ GV w ∧ w.cl ∧ w.nt ∧ Vr ops v w ∧ E8 ops t ⟨p, st, env, fr⟩ = E8 ops t' ⟨q, st ++ [v], env, fr⟩
section
variable {ops : List (Int × Int)} {t : Nat} {p q : Int} {st env : List MV} {fr : List (Int × List MV)}
theorem A4Z {k a : Int} {v : MV} {b : GE} (h0 : 0 ≤ p) (h : p < (ops.length : Int)) (ho : ops.getD p.toNat (0, 0) = (k, a)) (hs : M2 k a ⟨p, st, env, fr⟩ = .inl ⟨q, st ++ [v], env, fr⟩) (hg : GV b) (hc : b.cl) (hn : b.nt) (hv : Vr ops v b) : Bg ops t p q st env fr b := by
 cases t with
 | zero => left; rw [A2h (by exact h)]
 | succ t => exact .inr (.inr ⟨t, v, b, Nat.lt_succ_self t, .refl, hg, hc, hn, hv, A0J (by exact h) ho hs⟩)
theorem A31 {r : Int} {b c : GE} (C : GE → GE) (h : Bg ops t p q st env fr b) (hC : ∀ x y, GS x y → GS (C x) (C y)) (hw : ∀ x n, Wr x n → Wr (C x) n) (hb : c = C b)
  (hk : ∀ t' v w, t' < t → GV w → w.cl → w.nt → Vr ops v w → Ss b w → (E8 ops t' ⟨q, st ++ [v], env, fr⟩).2.1 = 5 ∨ (∃ n b', E8 ops t' ⟨q, st ++ [v], env, fr⟩ = (⟨#[]⟩, 2, n) ∧ Ss (C w) b' ∧ Wr b' n) ∨
   ∃ t2 v2 w2, t2 < t ∧ Ss (C w) w2 ∧ GV w2 ∧ w2.cl ∧ w2.nt ∧ Vr ops v2 w2 ∧ E8 ops t' ⟨q, st ++ [v], env, fr⟩ = E8 ops t2 ⟨r, st ++ [v2], env, fr⟩) : Bg ops t p r st env fr c := by
 subst hb
 rcases h with h | ⟨n, b', h1, h2, h3⟩ | ⟨t', v, w, h1, h2, h3, h4, h5, h6, h7⟩
 ·exact .inl h
 ·exact .inr (.inl ⟨n, C b', h1, h2.ctx C hC, hw _ _ h3⟩)
 ·have s1 := h2.ctx C hC
  rcases hk t' v w h1 h3 h4 h5 h6 h2 with g | ⟨n, b', g1, g2, g3⟩ | ⟨t2, v2, w2, g1, g2, g3⟩
  ·left; rw [h7]; exact g
  ·exact .inr (.inl ⟨n, b', h7.trans g1, s1.trans g2, g3⟩)
  ·exact .inr (.inr ⟨t2, v2, w2, g1, s1.trans g2, g3.1, g3.2.1, g3.2.2.1, g3.2.2.2.1, h7.trans g3.2.2.2.2⟩)
end
theorem A32 {k : Int} {x : GE} {c : Int} (h : Wr x c) {nm : ByteArray} {num : Int} {ty fr : Ty} {lb : Int} {ks : List Tm} : ∃ u, K1 (.mk k nm num ty fr lb (x.tm :: ks)) = (u, 2, c) := by
 obtain ⟨hn, hv, u, hu⟩ := h
 have := A6G (k := k) (nm := nm) (num := num) (ty := ty) (fr := fr) (lb := lb) (ks := x.tm :: ks) (i := 0) (by simp) (by split <;> simp) (fun j hj => by omega) hv
 simp only [List.getElem_cons_zero, hu] at this
 exact ⟨(K1 (.mk k nm num ty fr lb (x.tm :: ks))).1, by rw [← this.1, ← this.2.1]⟩
theorem A6Y {k : Int} {f x : GE} {c : Int} (hf : GV f) (h : Wr x c) (hk : k ≠ 9) {nm : ByteArray} {num : Int} {ty fr : Ty} {lb : Int} : ∃ u, K1 (.mk k nm num ty fr lb [f.tm, x.tm]) = (u, 2, c) := by
 obtain ⟨hn, hv, u, hu⟩ := h
 have := A6G (k := k) (nm := nm) (num := num) (ty := ty) (fr := fr) (lb := lb) (ks := [f.tm, x.tm]) (i := 1) (by simp) (by rw [if_neg hk]; simp) (fun j hj _ => by
  obtain rfl : j = 0 := by omega
  exact (A0k f).2 hf) hv
 simp only [List.getElem_cons_succ, List.getElem_cons_zero, hu] at this
 exact ⟨(K1 (.mk k nm num ty fr lb [f.tm, x.tm])).1, by rw [← this.1, ← this.2.1]⟩
theorem B0h {x : GE} {c : Int} (h : Wr x c) : ¬GV x := fun hv => by have := (A0k x).2 hv; rw [h.2.1] at this; cases this
theorem B47 {f a : GE} {c : Int} (ha : a.nt) (h : Wr f c) : Wr (.app f a) c := ⟨⟨h.1, ha⟩, A0V (by intro h; cases h), A32 h⟩
theorem B48 {f a : GE} {c : Int} (hf : GV f) (hn : f.nt) (h : Wr a c) : Wr (.app f a) c := ⟨⟨hn, h.1⟩, A0V (by intro h; cases h), A6Y hf h (by decide)⟩
theorem B49 {s : Bool} {f a : GE} {c : Int} (ha : a.nt) (h : Wr f c) : Wr (.ar s f a) c := ⟨⟨h.1, ha⟩, A0V (by intro h; cases h), A32 h⟩
theorem B5a {s : Bool} {f a : GE} {c : Int} (hf : GV f) (hn : f.nt) (h : Wr a c) : Wr (.ar s f a) c := ⟨⟨hn, h.1⟩, A0V (by intro h; cases h), A6Y hf h (by cases s <;> decide)⟩
theorem B5b {f a : GE} {c : Int} (ha : a.nt) (h : Wr f c) : Wr (.pair f a) c := ⟨⟨h.1, ha⟩, A0V (by intro g; cases g with | pair g _ => exact B0h h g), A32 h⟩
theorem B5c {f a : GE} {c : Int} (hf : GV f) (hn : f.nt) (h : Wr a c) : Wr (.pair f a) c := ⟨⟨hn, h.1⟩, A0V (by intro g; cases g with | pair _ g => exact B0h h g), A6Y hf h (by decide)⟩
theorem B5d {x a b : GE} {c : Int} (ha : a.nt) (hb : b.nt) (h : Wr x c) : Wr (.ite x a b) c := ⟨⟨h.1, ha, hb⟩, A0V (by intro h; cases h), A32 h⟩
theorem B5e {s : Bool} {x : GE} {c : Int} (h : Wr x c) : Wr (.part s x) c := ⟨h.1, A0V (by intro h; cases h), A32 h⟩
theorem B0i {e : GE} {k c : Int} {f a : GE} {nm : ByteArray} {num : Int} {ty fr : Ty} {lb : Int} (he : e.tm = .mk k nm num ty fr lb [f.tm, a.tm]) (hk : k ≠ 9) (hn : e.nt) (hv : ¬GV e) (hf : GV f) (ha : GV a) (hr : X5 k [f.tm, a.tm] = (H7, 2, c)) : Wr e c :=
 ⟨hn, A0V hv, H7, by rw [he, A6K ((A0k f).2 hf) ((A0k a).2 ha) hk, hr]⟩
theorem B5f {e : GE} {k c : Int} {f : GE} {nm : ByteArray} {num : Int} {ty fr : Ty} {lb : Int} (he : e.tm = .mk k nm num ty fr lb [f.tm]) (hn : e.nt) (hv : ¬GV e) (hf : GV f) (hr : X5 k [f.tm] = (H7, 2, c)) : Wr e c :=
 ⟨hn, A0V hv, H7, by rw [he, A9G ((A0k f).2 hf), hr]⟩
theorem B5g {x y : ByteArray} {v : GE} (hv : v.cl) : ∀ e : GE, (e.sub x v).fv y → e.fv y ∧ y ≠ x := by
 intro e
 induction e with
 | var z =>
  rw [GE.sub]
  split
  ·intro h; exact (hv y h).elim
  ·rename_i hz; intro h; exact ⟨h, fun he => hz ((show z = y from h).trans he)⟩
 | num n => intro h; exact h.elim
 | tru b => intro h; exact h.elim
 | lam z A e i =>
  rw [GE.sub]
  split
  ·rename_i hz; intro h; exact ⟨h, fun he => h.1 (hz.trans he.symm)⟩
  ·intro h; have := i h.2; exact ⟨⟨h.1, this.1⟩, this.2⟩
 | app f a i j => rintro (h | h); exact ⟨.inl (i h).1, (i h).2⟩; exact ⟨.inr (j h).1, (j h).2⟩
 | ar s f a i j => rintro (h | h); exact ⟨.inl (i h).1, (i h).2⟩; exact ⟨.inr (j h).1, (j h).2⟩
 | ite c f a i j k => rintro (h | h | h); exact ⟨.inl (i h).1, (i h).2⟩; exact ⟨.inr (.inl (j h).1), (j h).2⟩; exact ⟨.inr (.inr (k h).1), (k h).2⟩
 | pair f a i j => rintro (h | h); exact ⟨.inl (i h).1, (i h).2⟩; exact ⟨.inr (j h).1, (j h).2⟩
 | part s e i => intro h; exact i h
 | cast A B l e i => intro h; exact i h
theorem B0j {y : ByteArray} : ∀ (σ : List (ByteArray × GE)) (e : GE), clS σ → (J8 σ e).fv y → e.fv y ∧ y ∉ σ.map Prod.fst
 | [], e, _, h => ⟨h, by simp⟩
 | (x, v) :: σ, e, hs, h => by
  obtain ⟨h1, h2⟩ := B0j σ (e.sub x v) (fun p hp => hs p (List.mem_cons_of_mem _ hp)) h
  obtain ⟨h3, h4⟩ := B5g (hs (x, v) List.mem_cons_self) e h1
  exact ⟨h3, by rw [List.map_cons, List.mem_cons]; rintro (h5 | h5); exact h4 h5; exact h2 h5⟩
theorem A2E : ∀ (σ : List (ByteArray × GE)) (e : GE), (∀ p ∈ σ, p.2.nt) → e.nt → (J8 σ e).nt
 | [], _, _, h => h
 | (x, v) :: σ, e, hs, h => A2E σ (e.sub x v) (fun p hp => hs p (List.mem_cons_of_mem _ hp)) (A9I (hs (x, v) List.mem_cons_self) e h)
theorem Es.nts {ops : List (Int × Int)} : ∀ {σ : List (ByteArray × GE)} {env : List MV}, Es ops env σ → ∀ p ∈ σ, p.2.nt
 | [], _, _ => fun p hp => by cases hp
 | (x, w) :: σ, _, .cons h _ _ _ hn => fun p hp => by
  rcases List.mem_cons.1 hp with rfl | hp
  ·exact hn
  ·exact h.nts p hp
theorem B0k {x : ByteArray} {σ : List (ByteArray × GE)} {p : ByteArray × GE} (h : p ∈ A1A x σ) : p ∈ σ := (List.mem_filter.1 h).1
theorem B5h {x y : ByteArray} {σ : List (ByteArray × GE)} (h : y ∈ σ.map Prod.fst) (hx : y ≠ x) : y ∈ (A1A x σ).map Prod.fst := by
 obtain ⟨p, hp, rfl⟩ := List.mem_map.1 h
 exact List.mem_map.2 ⟨p, List.mem_filter.2 ⟨hp, decide_eq_true hx⟩, rfl⟩
theorem A1k {ops pre post : List (Int × Int)} {x : Int × Int} (h : ops = pre ++ (x :: post)) : (pre.length : Int) < (ops.length : Int) ∧ ops.getD (pre.length : Int).toNat (0, 0) = x := by
 subst h
 exact ⟨by first | (simp; done) | (simp; omega), by rw [Int.toNat_natCast]; exact A6V⟩
theorem B5i {x : ByteArray} {w : GE} {σ : List (ByteArray × GE)} {e : GE} (hw : w.cl) (hs : clS σ) : (J8 (A1A x σ) e).sub x w = J8 ((x, w) :: σ) e := A6U x w hw σ e hs
theorem B0l {ops : List (Int × Int)} {v : MV} {w : GE} (h : Vr ops v w) : (v.k = 0 ∧ ∃ n, v = .mk 0 n [] [] ∧ w = .num n) ∨ (v.k ≠ 0 ∧ w.tm.k ≠ 2) := by
 cases h with
 | num => exact .inl ⟨rfl, _, rfl, rfl⟩
 | @tru b => exact .inr ⟨by simp [MV.k], by cases b <;> simp [GE.tm, Tm.k]⟩
 | pair _ _ => exact .inr ⟨by simp [MV.k], by simp [GE.tm, Tm.k]⟩
 | clo _ _ _ _ => exact .inr ⟨by simp [MV.k], by simp [GE.tm, Tm.k]⟩
theorem B5j {ops : List (Int × Int)} {v : MV} {w : GE} (h : Vr ops v w) : (v.k = 1 ∧ ∃ b : Bool, v = .mk 1 (if b = true then 1 else 0) [] [] ∧ w = .tru b) ∨ (v.k ≠ 1 ∧ w.tm.k ≠ 3 ∧ w.tm.k ≠ 4) := by
 cases h with
 | num => exact .inr ⟨by simp [MV.k], by simp [GE.tm, Tm.k], by simp [GE.tm, Tm.k]⟩
 | @tru b => exact .inl ⟨rfl, b, rfl, rfl⟩
 | pair _ _ => exact .inr ⟨by simp [MV.k], by simp [GE.tm, Tm.k], by simp [GE.tm, Tm.k]⟩
 | clo _ _ _ _ => exact .inr ⟨by simp [MV.k], by simp [GE.tm, Tm.k], by simp [GE.tm, Tm.k]⟩
theorem B5k {ops : List (Int × Int)} {v : MV} {w : GE} (h : Vr ops v w) : (v.k = 3 ∧ ∃ v0 v1 a b, v = .mk 3 0 [] [v0, v1] ∧ w = .pair a b ∧ Vr ops v0 a ∧ Vr ops v1 b) ∨ (v.k ≠ 3 ∧ w.tm.k ≠ 10) := by
 cases h with
 | num => exact .inr ⟨by simp [MV.k], by simp [GE.tm, Tm.k]⟩
 | @tru b => exact .inr ⟨by simp [MV.k], by cases b <;> simp [GE.tm, Tm.k]⟩
 | pair h1 h2 => exact .inl ⟨rfl, _, _, _, _, rfl, rfl, h1, h2⟩
 | clo _ _ _ _ => exact .inr ⟨by simp [MV.k], by simp [GE.tm, Tm.k]⟩
theorem B5l {s : Bool} {a b : Tm} (h : ¬(a.k = 2 ∧ b.k = 2)) : X5 (if s = true then 8 else 7) [a, b] = (H7, 2, 2) := by
 have hm : R7 (if s = true then 8 else 7) [a, b] = none := by
  unfold R7
  cases s
  ·rw [if_neg (by decide), if_pos (by decide)]; exact if_neg h
  ·rw [if_neg (by decide), if_pos (by decide)]; exact if_neg h
 rw [A2B hm]
 cases s <;> rfl
theorem B5m {s : Bool} {a : Tm} (h : a.k ≠ 10) : X5 (if s = true then 12 else 11) [a] = (H7, 2, 4) := by
 have hm : R7 (if s = true then 12 else 11) [a] = none := by
  unfold R7
  cases s
  ·rw [if_neg (by decide), if_neg (by decide), if_neg (by decide), if_pos (by decide)]; exact if_neg h
  ·rw [if_neg (by decide), if_neg (by decide), if_neg (by decide), if_pos (by decide)]; exact if_neg h
 rw [A2B hm]
 cases s <;> rfl
theorem B5n {a b c : Tm} (h : a.k ≠ 3) (h2 : a.k ≠ 4) : X5 9 [a, b, c] = (H7, 2, 3) := by
 have hm : R7 9 [a, b, c] = none := by
  unfold R7
  rw [if_neg (by decide), if_neg (by decide), if_pos rfl]
  show (if a.k = 3 then some b else if a.k = 4 then some c else none) = none
  rw [if_neg h, if_neg h2]
 rw [A2B hm]; rfl
theorem sAr {s : Bool} {a p : Int} {st env : List MV} {fr : List (Int × List MV)} {v0 v1 : MV} : M2 (if s = true then 8 else 7) a ⟨p, st ++ [v0] ++ [v1], env, fr⟩ = if v0.k = 0 ∧ v1.k = 0 then .inl ⟨p + 1, st ++ [if s = true then .mk 1 (if v0.num < v1.num then 1 else 0) [] [] else .mk 0 ((v0.num + v1.num) % 1000) [] []], env, fr⟩ else .inr (2, 2) := by
 cases s
 ·exact s7
 ·exact s8
theorem big {ops : List (Int × Int)} : ∀ (t : Nat) (e : GE) (σ : List (ByteArray × GE)) (env st : List MV) (fr : List (Int × List MV)) (pre post : List (Int × Int)), e.nt → ops = pre ++ (D1 (σ.map Prod.fst) e ++ post) → Es ops env σ → (∀ y, e.fv y → y ∈ σ.map Prod.fst) →
  Bg ops t (pre.length : Int) ((pre ++ D1 (σ.map Prod.fst) e).length : Int) st env fr (J8 σ e) := by
 intro t
 induction t using Nat.strongRecOn with
 | ind t iht =>
 intro e
 induction e with
 | cast A B l e i => intro _ _ _ _ _ _ h; exact h.elim
 | num n =>
  intro σ env st fr pre post hn ho hE hf
  rw [D1] at ho ⊢
  obtain ⟨h1, h2⟩ := A1k (show ops = pre ++ ((1, n) :: post) from ho)
  rw [A97]
  exact A4Z (by omega) h1 h2 (by rw [s1]; simp) .num (fun x h => h.elim) trivial .num
 | tru b =>
  intro σ env st fr pre post hn ho hE hf
  rw [D1] at ho ⊢
  obtain ⟨h1, h2⟩ := A1k (show ops = pre ++ ((2, if b = true then 1 else 0) :: post) from ho)
  rw [A98]
  exact A4Z (by omega) h1 h2 (by rw [s2]; simp) .tru (fun x h => h.elim) trivial .tru
 | var x =>
  intro σ env st fr pre post hn ho hE hf
  rw [D1] at ho ⊢
  obtain ⟨h1, h2⟩ := A1k (show ops = pre ++ ((3, (T4 x (σ.map Prod.fst) : Int)) :: post) from ho)
  obtain ⟨v, w, g1, g2, g3, g4, g5, g6, g7⟩ := hE.get (hf x rfl)
  rw [g3]
  refine A4Z (v := v) (by omega) h1 h2 ?_ g6 g5 g7 g4
  rw [s3, if_neg (by omega)]
  rw [show ((env.length : Int) - 1 - (T4 x (σ.map Prod.fst) : Int)).toNat = env.length - 1 - T4 x (σ.map Prod.fst) by omega, g2]
  simp
 | lam x A e i =>
  intro σ env st fr pre post hn ho hE hf
  rw [D1] at ho ⊢
  rw [List.cons_append, List.append_assoc] at ho
  obtain ⟨h1, h2⟩ := A1k ho
  rw [A6T]
  have hA : A = .any := hn.1
  refine A4Z (v := .mk 2 ((pre ++ [((4 : Int), ((D1 (x :: σ.map Prod.fst) e).length : Int) + 1)]).length : Int) env []) (by omega) h1 h2 ?_ .lam ?_ ?_ ?_
  ·rw [s4]; first | (simp; done) | (simp; omega)
  ·intro y hy
   obtain ⟨h3, h4⟩ := B0j (A1A x σ) e (fun p hp => hE.clS p (B0k hp)) hy.2
   exact h4 (B5h (hf y ⟨hy.1, h3⟩) (fun h => hy.1 h.symm))
  ·exact ⟨hA, A2E _ _ (fun p hp => hE.nts p (B0k hp)) hn.2⟩
  ·refine .clo (post := post) hE (by rw [ho]; simp) hn.2 (fun y hy => ?_)
   by_cases hxy : x = y
   ·rw [hxy]; exact List.mem_cons_self
   ·exact List.mem_cons_of_mem _ (hf y ⟨hxy, hy⟩)
 | app f a i j =>
  intro σ env st fr pre post hn ho hE hf
  rw [D1] at ho ⊢
  rw [List.append_assoc, List.append_assoc] at ho
  have hs := hE.clS
  have b1 := i σ env st fr pre _ hn.1 ho hE (fun y h => hf y (.inl h))
  have ho2 : ops = (pre ++ D1 (σ.map Prod.fst) f) ++ (D1 (σ.map Prod.fst) a ++ ((6, 0) :: post)) := by rw [ho]; simp
  have ho3 : ops = ((pre ++ D1 (σ.map Prod.fst) f) ++ D1 (σ.map Prod.fst) a) ++ ((6, 0) :: post) := by rw [ho]; simp
  obtain ⟨h1, h2⟩ := A1k ho3
  have hna := A2E σ a hE.nts hn.2
  rw [A99]
  refine A31 (fun z => .app z (J8 σ a)) b1 (fun _ _ => .app1) (fun _ _ => B47 hna) rfl ?_
  intro t1 v w ht1 hg hc hnw hv _
  rcases iht t1 ht1 a σ env (st ++ [v]) fr _ _ hn.2 ho2 hE (fun y h => hf y (.inr h)) with g | ⟨n, b', g1, g2, g3⟩ | ⟨t2, v2, w2, k1, k2, k3, k4, k5, k6, k7⟩
  ·exact .inl g
  ·exact .inr (.inl ⟨n, .app w b', g1, A6W hg g2, B48 hg hnw g3⟩)
  ·rw [k7]
   cases t2 with
   | zero => left; rw [A2h (by exact h1)]
   | succ t3 =>
    have bad : v.k ≠ 2 → X5 6 [w.tm, w2.tm] = (H7, 2, 1) → (∃ n b', E8 ops (t3 + 1) ⟨_, st ++ [v] ++ [v2], env, fr⟩ = (⟨#[]⟩, 2, n) ∧ Ss (.app w (J8 σ a)) b' ∧ Wr b' n) := fun hk hr =>
     ⟨1, .app w w2, A3d (by exact h1) h2 (by rw [s6]; exact if_neg hk), A6W hg k2, B0i (k := 6) rfl (by decide) ⟨hnw, k5⟩ (by intro h; cases h) hg k3 hr⟩
    cases hv with
    | num => exact .inr (.inl (bad (by simp [MV.k]) (A2B rfl)))
    | @tru b => exact .inr (.inl (bad (by simp [MV.k]) (by cases b <;> exact A2B rfl)))
    | pair _ _ => exact .inr (.inl (bad (by simp [MV.k]) (A2B rfl)))
    | @clo env' σ' x A e' pre' post' hE' ho' hn' hf' =>
     rw [A0J (by exact h1) h2 (by rw [s6]; exact if_pos rfl)]
     have hb := iht t3 (by omega) e' ((x, w2) :: σ') (env' ++ [v2]) st (fr ++ [((((pre ++ D1 (σ.map Prod.fst) f) ++ D1 (σ.map Prod.fst) a).length : Int) + 1, env)]) pre' ((5, 0) :: post') hn' ho' (.cons hE' k6 k4 k3 k5) hf'
     have hbeta : Ss (.app (.lam x A (J8 (A1A x σ') e')) (J8 σ a)) (J8 ((x, w2) :: σ') e') := (A6W hg k2).trans (.one (by rw [← B5i k4 hE'.clS]; exact .beta k3))
     rcases hb with g | ⟨n, b', g1, g2, g3⟩ | ⟨t4, v3, w3, m1, m2, m3, m4, m5, m6, m7⟩
     ·exact .inl g
     ·exact .inr (.inl ⟨n, b', g1, hbeta.trans g2, g3⟩)
     ·have ho5 : ops = (pre' ++ D1 (x :: σ'.map Prod.fst) e') ++ ((5, 0) :: post') := by rw [List.append_assoc]; exact ho'
      obtain ⟨h5, h6⟩ := A1k ho5
      rw [show E8 ops t3 ⟨(MV.mk 2 (pre'.length : Int) env' []).num, st, (MV.mk 2 (pre'.length : Int) env' []).env ++ [v2], fr ++ [((((pre ++ D1 (σ.map Prod.fst) f) ++ D1 (σ.map Prod.fst) a).length : Int) + 1, env)]⟩ = _ from m7]
      cases t4 with
      | zero => left; rw [A2h (by exact h5)]
      | succ t5 =>
       refine .inr (.inr ⟨t5, v3, w3, by omega, hbeta.trans m2, m3, m4, m5, m6, ?_⟩)
       refine (A0J (by exact h5) h6 s5).trans ?_
       congr 2
       first | (simp; done) | (simp; omega)
 | ar s f a i j =>
  intro σ env st fr pre post hn ho hE hf
  rw [D1] at ho ⊢
  rw [List.append_assoc, List.append_assoc] at ho
  have b1 := i σ env st fr pre _ hn.1 ho hE (fun y h => hf y (.inl h))
  have ho2 : ops = (pre ++ D1 (σ.map Prod.fst) f) ++ (D1 (σ.map Prod.fst) a ++ ((if s = true then 8 else 7, 0) :: post)) := by rw [ho]; simp
  have ho3 : ops = ((pre ++ D1 (σ.map Prod.fst) f) ++ D1 (σ.map Prod.fst) a) ++ ((if s = true then 8 else 7, 0) :: post) := by rw [ho]; simp
  obtain ⟨h1, h2⟩ := A1k ho3
  have hna := A2E σ a hE.nts hn.2
  rw [B0a]
  refine A31 (fun z => .ar s z (J8 σ a)) b1 (fun _ _ => .ar1) (fun _ _ => B49 hna) rfl ?_
  intro t1 v w ht1 hg hc hnw hv _
  rcases iht t1 ht1 a σ env (st ++ [v]) fr _ _ hn.2 ho2 hE (fun y h => hf y (.inr h)) with g | ⟨n, b', g1, g2, g3⟩ | ⟨t2, v2, w2, k1, k2, k3, k4, k5, k6, k7⟩
  ·exact .inl g
  ·exact .inr (.inl ⟨n, .ar s w b', g1, A6X hg g2, B5a hg hnw g3⟩)
  ·rw [k7]
   cases t2 with
   | zero => left; rw [A2h (by exact h1)]
   | succ t3 =>
    have bad : ¬(v.k = 0 ∧ v2.k = 0) → ¬(w.tm.k = 2 ∧ w2.tm.k = 2) → (∃ n b', E8 ops (t3 + 1) ⟨_, st ++ [v] ++ [v2], env, fr⟩ = (⟨#[]⟩, 2, n) ∧ Ss (.ar s w (J8 σ a)) b' ∧ Wr b' n) := fun hk hr =>
     ⟨2, .ar s w w2, A3d (by exact h1) h2 (by rw [sAr]; exact if_neg hk), A6X hg k2, B0i (k := if s = true then 8 else 7) rfl (by cases s <;> decide) ⟨hnw, k5⟩ (by intro h; cases h) hg k3 (B5l hr)⟩
    rcases B0l hv with ⟨_, m, rfl, rfl⟩ | ⟨q1, q2⟩
    ·rcases B0l k6 with ⟨_, m2, rfl, rfl⟩ | ⟨q1, q2⟩
     ·refine .inr (.inr ⟨t3, if s = true then .mk 1 (if m < m2 then 1 else 0) [] [] else .mk 0 ((m + m2) % 1000) [] [], A1V s m m2, by omega, (A6X hg k2).trans (.one .ar), ?_, ?_, ?_, ?_, (A0J (by exact h1) h2 (sAr.trans (if_pos ⟨rfl, rfl⟩))).trans ?_⟩)
      ·unfold A1V; cases s; exact .num; exact .tru
      ·unfold A1V; cases s; exact fun x h => h.elim; exact fun x h => h.elim
      ·unfold A1V; cases s; exact trivial; exact trivial
      ·unfold A1V
       cases s
       ·exact .num
       ·have := @Vr.tru ops (decide (m < m2))
        simp only [decide_eq_true_eq] at this
        exact this
      ·congr 2
       first | (simp; done) | (simp; omega)
     ·exact .inr (.inl (bad (fun h => q1 h.2) (fun h => q2 h.2)))
    ·exact .inr (.inl (bad (fun h => q1 h.1) (fun h => q2 h.1)))
 | pair f a i j =>
  intro σ env st fr pre post hn ho hE hf
  rw [D1] at ho ⊢
  rw [List.append_assoc, List.append_assoc] at ho
  have b1 := i σ env st fr pre _ hn.1 ho hE (fun y h => hf y (.inl h))
  have ho2 : ops = (pre ++ D1 (σ.map Prod.fst) f) ++ (D1 (σ.map Prod.fst) a ++ ((11, 0) :: post)) := by rw [ho]; simp
  have ho3 : ops = ((pre ++ D1 (σ.map Prod.fst) f) ++ D1 (σ.map Prod.fst) a) ++ ((11, 0) :: post) := by rw [ho]; simp
  obtain ⟨h1, h2⟩ := A1k ho3
  have hna := A2E σ a hE.nts hn.2
  rw [B0b]
  refine A31 (fun z => .pair z (J8 σ a)) b1 (fun _ _ => .pair1) (fun _ _ => B5b hna) rfl ?_
  intro t1 v w ht1 hg hc hnw hv _
  rcases iht t1 ht1 a σ env (st ++ [v]) fr _ _ hn.2 ho2 hE (fun y h => hf y (.inr h)) with g | ⟨n, b', g1, g2, g3⟩ | ⟨t2, v2, w2, k1, k2, k3, k4, k5, k6, k7⟩
  ·exact .inl g
  ·exact .inr (.inl ⟨n, .pair w b', g1, B0f hg g2, B5c hg hnw g3⟩)
  ·rw [k7]
   cases t2 with
   | zero => left; rw [A2h (by exact h1)]
   | succ t3 =>
    refine .inr (.inr ⟨t3, .mk 3 0 [] [v, v2], .pair w w2, by omega, B0f hg k2, .pair hg k3, (fun x h => h.elim (hc x) (k4 x)), ⟨hnw, k5⟩, .pair hv k6, (A0J (by exact h1) h2 s11).trans ?_⟩)
    congr 2
    first | (simp; done) | (simp; omega)
 | part s f i =>
  intro σ env st fr pre post hn ho hE hf
  rw [D1] at ho ⊢
  rw [List.append_assoc] at ho
  have b1 := i σ env st fr pre _ hn ho hE (fun y h => hf y h)
  have ho3 : ops = (pre ++ D1 (σ.map Prod.fst) f) ++ ((if s = true then 13 else 12, 0) :: post) := by rw [ho]; simp
  obtain ⟨h1, h2⟩ := A1k ho3
  rw [B0c]
  refine A31 (fun z => .part s z) b1 (fun _ _ => .part1) (fun _ _ => B5e) rfl ?_
  intro t1 v w ht1 hg hc hnw hv _
  cases t1 with
  | zero => left; rw [A2h (by exact h1)]
  | succ t3 =>
   have hk12 : (if s = true then (13 : Int) else 12) = 12 ∨ (if s = true then (13 : Int) else 12) = 13 := by cases s <;> simp
   rcases B5k hv with ⟨_, v0, v1, a, b, rfl, rfl, r0, r1⟩ | ⟨q1, q2⟩
   ·cases hg with
    | pair ga gb =>
     refine .inr (.inr ⟨t3, if s = true then v1 else v0, if s = true then b else a, by omega, .one (.part ga gb), ?_, ?_, ?_, ?_, (A0J (by exact h1) h2 ((s12 hk12).trans (if_pos rfl))).trans ?_⟩)
     ·cases s; exact ga; exact gb
     ·cases s; exact fun x h => hc x (.inl h); exact fun x h => hc x (.inr h)
     ·cases s; exact hnw.1; exact hnw.2
     ·cases s; exact r0; exact r1
     ·cases s
      ·congr 2
       first | (simp; done) | (simp; omega)
      ·congr 2
       first | (simp; done) | (simp; omega)
   ·exact .inr (.inl ⟨4, .part s w, A3d (by exact h1) h2 ((s12 hk12).trans (if_neg q1)), .refl, B5f (k := if s = true then 12 else 11) rfl hnw (by intro h; cases h) hg (B5m q2)⟩)
 | ite c f a i j l =>
  intro σ env st fr pre post hn ho hE hf
  rw [D1] at ho ⊢
  have b1 := i σ env st fr pre (((9, ((D1 (σ.map Prod.fst) f).length : Int) + 1) :: (D1 (σ.map Prod.fst) f ++ ((10, ((D1 (σ.map Prod.fst) a).length : Int)) :: D1 (σ.map Prod.fst) a))) ++ post) hn.1 (by rw [ho]; simp) hE (fun y h => hf y (.inl h))
  have ho3 : ops = (pre ++ D1 (σ.map Prod.fst) c) ++ ((9, ((D1 (σ.map Prod.fst) f).length : Int) + 1) :: (D1 (σ.map Prod.fst) f ++ ((10, ((D1 (σ.map Prod.fst) a).length : Int)) :: D1 (σ.map Prod.fst) a) ++ post)) := by rw [ho]; simp
  obtain ⟨h1, h2⟩ := A1k ho3
  have hna := A2E σ a hE.nts hn.2.2
  have hnf := A2E σ f hE.nts hn.2.1
  rw [B0d]
  refine A31 (fun z => .ite z (J8 σ f) (J8 σ a)) b1 (fun _ _ => .ite1) (fun _ _ => B5d hnf hna) rfl ?_
  intro t1 v w ht1 hg hc hnw hv _
  cases t1 with
  | zero => left; rw [A2h (by exact h1)]
  | succ t3 =>
   rcases B5j hv with ⟨_, b, rfl, rfl⟩ | ⟨q1, q2, q3⟩
   ·have hgo := A0J (t := t3) (by exact h1) h2 ((s9 (st := st) (env := env) (fr := fr) (v0 := .mk 1 (if b = true then 1 else 0) [] [])).trans (if_pos rfl))
    cases b with
    | true =>
     have ho4 : ops = ((pre ++ D1 (σ.map Prod.fst) c) ++ [(9, ((D1 (σ.map Prod.fst) f).length : Int) + 1)]) ++ (D1 (σ.map Prod.fst) f ++ ((10, ((D1 (σ.map Prod.fst) a).length : Int)) :: D1 (σ.map Prod.fst) a ++ post)) := by rw [ho]; simp
     have ho5 : ops = (((pre ++ D1 (σ.map Prod.fst) c) ++ [(9, ((D1 (σ.map Prod.fst) f).length : Int) + 1)]) ++ D1 (σ.map Prod.fst) f) ++ ((10, ((D1 (σ.map Prod.fst) a).length : Int)) :: (D1 (σ.map Prod.fst) a ++ post)) := by rw [ho]; simp
     obtain ⟨h5, h6⟩ := A1k ho5
     have hst : Ss (.ite (.tru true) (J8 σ f) (J8 σ a)) (J8 σ f) := .one .ite
     have hb := iht t3 (by omega) f σ env st fr _ _ hn.2.1 ho4 hE (fun y h => hf y (.inr (.inl h)))
     have e1 : ((((pre ++ D1 (σ.map Prod.fst) c) ++ [(9, ((D1 (σ.map Prod.fst) f).length : Int) + 1)]).length : Nat) : Int) = ((pre ++ D1 (σ.map Prod.fst) c).length : Int) + 1 := by first | (simp; done) | (simp; omega)
     unfold Bg at hb
     rw [e1] at hb
     have hgo' : E8 ops (t3 + 1) ⟨((pre ++ D1 (σ.map Prod.fst) c).length : Int), st ++ [MV.mk 1 (if true = true then 1 else 0) [] []], env, fr⟩ = E8 ops t3 ⟨((pre ++ D1 (σ.map Prod.fst) c).length : Int) + 1, st, env, fr⟩ := hgo
     rw [hgo']
     rcases hb with g | ⟨n, b', g1, g2, g3⟩ | ⟨t4, v3, w3, m1, m2, m3, m4, m5, m6, m7⟩
     ·exact .inl g
     ·exact .inr (.inl ⟨n, b', g1, hst.trans g2, g3⟩)
     ·rw [m7]
      cases t4 with
      | zero => left; rw [A2h (by exact h5)]
      | succ t5 =>
       refine .inr (.inr ⟨t5, v3, w3, by omega, hst.trans m2, m3, m4, m5, m6, (A0J (by exact h5) h6 s10).trans ?_⟩)
       congr 2
       first | (simp; done) | (simp; omega)
    | false =>
     have ho4 : ops = ((((pre ++ D1 (σ.map Prod.fst) c) ++ [(9, ((D1 (σ.map Prod.fst) f).length : Int) + 1)]) ++ D1 (σ.map Prod.fst) f) ++ [(10, ((D1 (σ.map Prod.fst) a).length : Int))]) ++ (D1 (σ.map Prod.fst) a ++ post) := by rw [ho]; simp
     have hst : Ss (.ite (.tru false) (J8 σ f) (J8 σ a)) (J8 σ a) := .one .ite
     have hb := iht t3 (by omega) a σ env st fr _ _ hn.2.2 ho4 hE (fun y h => hf y (.inr (.inr h)))
     have e1 : ((((((pre ++ D1 (σ.map Prod.fst) c) ++ [(9, ((D1 (σ.map Prod.fst) f).length : Int) + 1)]) ++ D1 (σ.map Prod.fst) f) ++ [((10 : Int), ((D1 (σ.map Prod.fst) a).length : Int))]).length : Nat) : Int) = ((pre ++ D1 (σ.map Prod.fst) c).length : Int) + 1 + (((D1 (σ.map Prod.fst) f).length : Int) + 1) := by first | (simp; done) | (simp; omega)
     unfold Bg at hb
     rw [e1] at hb
     have hgo' : E8 ops (t3 + 1) ⟨((pre ++ D1 (σ.map Prod.fst) c).length : Int), st ++ [MV.mk 1 (if false = true then 1 else 0) [] []], env, fr⟩ = E8 ops t3 ⟨((pre ++ D1 (σ.map Prod.fst) c).length : Int) + 1 + (((D1 (σ.map Prod.fst) f).length : Int) + 1), st, env, fr⟩ := hgo
     rw [hgo']
     rcases hb with g | ⟨n, b', g1, g2, g3⟩ | ⟨t4, v3, w3, m1, m2, m3, m4, m5, m6, m7⟩
     ·exact .inl g
     ·exact .inr (.inl ⟨n, b', g1, hst.trans g2, g3⟩)
     ·refine .inr (.inr ⟨t4, v3, w3, by omega, hst.trans m2, m3, m4, m5, m6, m7.trans ?_⟩)
      congr 2
      first | (simp; done) | (simp; omega)
   ·refine .inr (.inl ⟨3, .ite w (J8 σ f) (J8 σ a), A3d (by exact h1) h2 (s9.trans (if_neg q1)), .refl, ⟨hnw, hnf, hna⟩, A0V (by intro h; cases h), H7, ?_⟩)
    rw [GE.tm, A9H ((A0k w).2 hg)]
    exact B5n q2 q3
theorem B0m {g : GE} (hn : g.nt) (hc : g.cl) (t : Nat) :
  (E8 (D1 [] g) t ⟨0, [], [], []⟩).2.1 = 5 ∨ (∃ c b', E8 (D1 [] g) t ⟨0, [], [], []⟩ = (⟨#[]⟩, 2, c) ∧ Ss g b' ∧ Wr b' c) ∨
  ∃ v w, Ss g w ∧ GV w ∧ Vr (D1 [] g) v w ∧ E8 (D1 [] g) t ⟨0, [], [], []⟩ = (V0 v, 0, 0) := by
 have hb := big (ops := D1 [] g) t g [] [] [] [] [] [] hn (by simp) .nil (fun y h => (hc y h).elim)
 rcases hb with h | ⟨c, b', h1, h2, h3⟩ | ⟨t', v, w, h1, h2, h3, h4, h5, h6, h7⟩
 ·exact .inl h
 ·exact .inr (.inl ⟨c, b', h1, h2, h3⟩)
 ·refine .inr (.inr ⟨v, w, h2, h3, h6, h7.trans ?_⟩)
  have he : A1g ⟨((([] : List (Int × Int)) ++ D1 [] g).length : Int), [] ++ [v], [], []⟩ = (V0 v, 0, 0) := by
   unfold A1g; rw [if_neg (by simp)]; rfl
  cases t' with
  | zero => rw [E8, if_pos (by exact Int.le_refl _)]; exact he
  | succ t' => rw [E8, if_pos (by exact Int.le_refl _)]; exact he
theorem B5o : ∀ {e w : GE} {c : Int}, Ss e w → Wr w c → e.nt → ∀ (n : Nat), N0 e.tm = true → ((J4 n e.tm).2.1 = 2 ∧ (J4 n e.tm).2.2.1 = c) ∨ (J4 n e.tm).2.1 = 4 ∨ (J4 n e.tm).2.1 = 5 := by
 intro e w c h
 induction h with
 | @refl e =>
  intro hw hn n hc
  obtain ⟨_, hv, u, hu⟩ := hw
  have hb : Q1 e.tm = true := by unfold Q1; rw [hc, (A3b e).2 hn]; rfl
  have : H8 e.tm = (H7, 2, c) := by rw [A9F hb hv (by rw [hu]; show (2 : Int) ≠ 1; decide), hu]
  cases n with
  | zero => rw [J4, this]; exact .inl ⟨rfl, rfl⟩
  | succ n => rw [J4, this]; exact .inl ⟨rfl, rfl⟩
 | @step a b w s _ ih =>
  intro hw hn n hc
  obtain ⟨hs, hnb⟩ := A9J s hn
  have hb : Q1 a.tm = true := by unfold Q1; rw [hc, (A3b a).2 hn]; rfl
  have hbb : Q1 b.tm = N0 b.tm := by unfold Q1; rw [(A3b b).2 hnb, Bool.and_true]
  cases hcb : N0 b.tm with
  | false =>
   have : H8 a.tm = (H7, 4, 0) := A6H hb (nv s) (by rw [hs]) (by rw [hs]; show Q1 b.tm = false; rw [hbb, hcb])
   cases n with
   | zero => rw [J4, this]; exact .inr (.inl rfl)
   | succ n => rw [J4, this]; exact .inr (.inl rfl)
  | true =>
   have : H8 a.tm = (b.tm, 1, 0) := by
    have h5 := A6I hb (nv s) (by rw [hs]) (by rw [hs]; show Q1 b.tm = true; rw [hbb, hcb])
    rw [h5, hs]
   cases n with
   | zero => rw [J4, this]; exact .inr (.inr rfl)
   | succ n =>
    rw [A9K (by rw [this]), this]
    exact ih hw hnb n hcb
theorem B5p {a b : GE} (h : Ss a b) : ∃ m, Sn m a b := by
 induction h with
 | refl => exact ⟨0, .refl⟩
 | step s _ i => obtain ⟨m, h⟩ := i; exact ⟨m + 1, .step s h⟩
theorem B5q {ops : List (Int × Int)} {v : MV} {w : GE} (h : Vr ops v w) : V0 v = Y3 w.tm := by
 cases h with
 | num => rfl
 | @tru b => cases b <;> rfl
 | pair _ _ => rfl
 | clo _ _ _ _ => rfl
theorem B5r {g : GE} (hn : g.nt) (hc : g.cl) (hv : N0 g.tm = true) (t n : Nat) :
  (E8 (D1 [] g) t ⟨0, [], [], []⟩).2.1 = 5 ∨ (J4 n g.tm).2.1 = 4 ∨ (J4 n g.tm).2.1 = 5 ∨
  ((E8 (D1 [] g) t ⟨0, [], [], []⟩).2.1 = 0 ∧ (E8 (D1 [] g) t ⟨0, [], [], []⟩).2.2 = 0 ∧ (J4 n g.tm).2.1 = 0 ∧ (J4 n g.tm).2.2.1 = 0 ∧ (E8 (D1 [] g) t ⟨0, [], [], []⟩).1 = Y3 (J4 n g.tm).1) ∨
  ((E8 (D1 [] g) t ⟨0, [], [], []⟩).2.1 = 2 ∧ (J4 n g.tm).2.1 = 2 ∧ (E8 (D1 [] g) t ⟨0, [], [], []⟩).2.2 = (J4 n g.tm).2.2.1 ∧ (E8 (D1 [] g) t ⟨0, [], [], []⟩).1 = ⟨#[]⟩) := by
 rcases B0m hn hc t with h | ⟨c, b', h1, h2, h3⟩ | ⟨v, w, h2, h3, h6, h7⟩
 ·exact .inl h
 ·rcases B5o h2 h3 hn n hv with ⟨k1, k2⟩ | k | k
  ·exact .inr (.inr (.inr (.inr ⟨by rw [h1], k1, by rw [h1]; exact k2.symm, by rw [h1]⟩)))
  ·exact .inr (.inl k)
  ·exact .inr (.inr (.inl k))
 ·obtain ⟨m, hm⟩ := B5p h2
  rcases B4w hm h3 hn n hv with ⟨k1, k2, _, k4⟩ | k | ⟨k, _⟩
  ·exact .inr (.inr (.inr (.inl ⟨by rw [h7], by rw [h7], k1, k4, by rw [h7, k2]; exact B5q h6⟩)))
  ·exact .inr (.inl k)
  ·exact .inr (.inr (.inl k))
theorem B0n {g : GE} (hn : g.nt) (hc : g.cl) (t : Nat) : (E8 (D1 [] g) t ⟨0, [], [], []⟩).2.1 = 0 ∨ (E8 (D1 [] g) t ⟨0, [], [], []⟩).2.1 = 2 ∨ (E8 (D1 [] g) t ⟨0, [], [], []⟩).2.1 = 5 := by
 rcases B0m hn hc t with h | ⟨c, b', h1, h2, h3⟩ | ⟨v, w, h2, h3, h6, h7⟩
 ·exact .inr (.inr h)
 ·exact .inr (.inl (by rw [h1]))
 ·exact .inl (by rw [h7])
def V3 (k : Int) : Int := if k = 6 then 6 else if k = 7 then 7 else if k = 8 then 8 else if k = 10 then 11 else if k = 11 then 12 else 13
def N7 (n : List ByteArray) (k : Int) (nm : ByteArray) (num : Int) (cs : List J0) : J0 :=
 if k = 1 then [(3, (T4 nm n : Int))] else if k = 2 then [(1, num)] else if k = 3 then [(2, 1)] else if k = 4 then [(2, 0)]
 else if k = 5 then (4, ((cs.getD 0 []).length : Int) + 1) :: (cs.getD 0 [] ++ [(5, 0)])
 else if k = 9 then cs.getD 0 [] ++ ((9, ((cs.getD 1 []).length : Int) + 1) :: (cs.getD 1 [] ++ ((10, ((cs.getD 2 []).length : Int)) :: cs.getD 2 [])))
 else cs.flatten ++ [(V3 k, 0)]
mutual
def H2 (n : List ByteArray) : Tm → J0
 | .mk k nm num _ _ _ ks => N7 n k nm num (A0Y (if k = 5 then nm :: n else n) ks)
def A0Y (n : List ByteArray) : List Tm → List J0
 | [] => []
 | t :: ts => H2 n t :: A0Y n ts
end
theorem A1B (n : List ByteArray) : ∀ ks, A0Y n ks = ks.map (H2 n)
 | [] => rfl
 | t :: ts => by rw [A0Y, A1B n ts]; rfl
theorem B5s : ∀ (g : GE) (n : List ByteArray), g.nt → H2 n g.tm = D1 n g := by
 intro g
 induction g with
 | var x => intro n _; rfl
 | num k => intro n _; rfl
 | tru b => intro n _; cases b <;> rfl
 | lam x A e i =>
  intro n h
  rw [GE.tm, H2, A1B, D1, if_pos rfl]
  simp only [List.map_cons, List.map_nil, i (x :: n) h.2]
  simp [N7]
 | app f a i j =>
  intro n h
  rw [GE.tm, H2, A1B, D1, if_neg (by decide)]
  simp only [List.map_cons, List.map_nil, i n h.1, j n h.2]
  simp [N7, V3]
 | ar s f a i j =>
  intro n h
  cases s <;> (simp only [GE.tm, H2, A1B, D1]; simp [N7, V3, i n h.1, j n h.2])
 | ite c f a i j k =>
  intro n h
  rw [GE.tm, H2, A1B, D1, if_neg (by decide)]
  simp only [List.map_cons, List.map_nil, i n h.1, j n h.2.1, k n h.2.2]
  simp [N7]
 | pair f a i j =>
  intro n h
  rw [GE.tm, H2, A1B, D1, if_neg (by decide)]
  simp only [List.map_cons, List.map_nil, i n h.1, j n h.2]
  simp [N7, V3]
 | part s e i =>
  intro n h
  cases s <;> (simp only [GE.tm, H2, A1B, D1]; simp [N7, V3, i n h])
 | cast A B l e i => intro n h; exact h.elim
mutual
def A40 (g : Int → Tm → Tm × Int) : Tm → Int → Tm × Int
 | .mk k nm num ty fr lb ks, n => g (A3f g ks n).2 (.mk k nm num ty fr lb (A3f g ks n).1)
def A3f (g : Int → Tm → Tm × Int) : List Tm → Int → List Tm × Int
 | [], n => ([], n)
 | t :: ts, n => ((A40 g t n).1 :: (A3f g ts (A40 g t n).2).1, (A3f g ts (A40 g t n).2).2)
end
mutual
def B5t (Q : Int → Tm → Prop) (g : Int → Tm → Tm × Int) : Tm → Int → Prop
 | .mk k nm num ty fr lb ks, n => B0o Q g ks n ∧ Q (A3f g ks n).2 (.mk k nm num ty fr lb (A3f g ks n).1)
def B0o (Q : Int → Tm → Prop) (g : Int → Tm → Tm × Int) : List Tm → Int → Prop
 | [], _ => True
 | t :: ts, n => B5t Q g t n ∧ B0o Q g ts (A40 g t n).2
end
def B7A (g : Int → Tm → Tm × Int) (Q : Int → Tm → Prop) (E : Int → A4) (fid : FuncId) (us cs : List Value) : Prop := ∀ (n : Int) (t : Tm) (G : IM) (cells : List Value), Q n t → B1 G t cells →
 Fn Tryz.prog fid (us ++ [.agg ⟨cells⟩] ++ cs) [E n] G (fun G' v outs => outs = [E (g n t).2] ∧ ∃ cells', v = .agg ⟨cells'⟩ ∧ B1 G' (g n t).1 cells')
def B7B (g : Tm → Tm) (Q : Tm → Prop) (fid : FuncId) (us cs : List Value) : Prop := ∀ (t : Tm) (G : IM) (cells : List Value), Q t → B1 G t cells → Fn Tryz.prog fid (us ++ [.agg ⟨cells⟩] ++ cs) [] G (TmP (g t))
inductive WT : GC → GE → GT → Prop
 | var {Γ x A} : Γ x = some (A, A) → WT Γ (.var x) A
 | num {Γ n} : WT Γ (.num n) .int
 | tru {Γ b} : WT Γ (.tru b) .bool
 | lam {Γ x A B e} : WT (gup Γ x A A) e B → WT Γ (.lam x A e) (.fn A B)
 | app {Γ f a A B} : WT Γ f (.fn A B) → WT Γ a A → WT Γ (.app f a) B
 | ar {Γ s a b} : WT Γ a .int → WT Γ b .int → WT Γ (.ar s a b) (if s = true then .bool else .int)
 | ite {Γ c a b A} : WT Γ c .bool → WT Γ a A → WT Γ b A → WT Γ (.ite c a b) A
 | pair {Γ a b A B} : WT Γ a A → WT Γ b B → WT Γ (.pair a b) (.pr A B)
 | part {Γ s e A B} : WT Γ e (.pr A B) → WT Γ (.part s e) (if s = true then B else A)
 | cast {Γ e A B l} : WT Γ e A → Co A B → WT Γ (.cast A B l e) B
def gbk (A B : GT) (l : Int) (a : GE) : GE := if V1 A.ty B.ty = true then a else match a with
 | .cast C D m x => if A.ty.k = 1 ∧ D.ty.k = 1 ∧ V1 B.ty C.ty = true then x else .cast A B l (.cast C D m x)
 | a => .cast A B l a
def GE.simp : GE → GE
 | .var x => .var x
 | .num n => .num n
 | .tru b => .tru b
 | .lam x A e => .lam x A e.simp
 | .app f a => .app f.simp a.simp
 | .ar s a b => .ar s a.simp b.simp
 | .ite c a b => .ite c.simp a.simp b.simp
 | .pair a b => .pair a.simp b.simp
 | .part s e => .part s e.simp
 | .cast A B l e => gbk A B l e.simp
def GE.dynm : GE → GE
 | .var x => .var x
 | .num n => .num n
 | .tru b => .tru b
 | .lam x A e => .lam x A e.dynm
 | .app f a => .app f.dynm a.dynm
 | .ar s a b => .ar s a.dynm b.dynm
 | .ite c a b => .ite c.dynm a.dynm b.dynm
 | .pair a b => .pair a.dynm b.dynm
 | .part s e => .part s e.dynm
 | .cast A B l e => if A.ty.k = 1 ∨ B.ty.k = 1 then .cast A B l e.dynm else .cast .any B l (.cast A .any l e.dynm)
def B5u (t : Tm) : Tm := if t.k ≠ 14 then t else if V1 t.fr t.ty = true then kd t.ks 0 else if t.fr.k = 1 ∧ (kd t.ks 0).k = 14 ∧ (kd t.ks 0).ty.k = 1 ∧ V1 t.ty (kd t.ks 0).fr = true then kd (kd t.ks 0).ks 0 else t
def B5v (t : Tm) : Tm := if t.k ≠ 14 ∨ t.fr.k = 1 ∨ t.ty.k = 1 then t else V9 (V9 (kd t.ks 0) t.fr O4 t.lb) O4 t.ty t.lb
section
variable {cx : Cx} {k : Int} {nm : ByteArray} {num : Int} {ty fr : Ty} {lb : Int} {a b c a' b' c' : Tm} {T : Ty}
end
section
variable {D N : Int} {k : Int} {nm : ByteArray} {num : Int} {ty fr : Ty} {lb : Int} {a b c a' b' c' : Tm} {d d' : Int}
end
def Agr (a b : Tm) (n m : Int) : Prop := (A0d a n).2.1 = 4 ∨ (A0d a n).2.1 = 5 ∨ (A0d b m).2.1 = 4 ∨ (A0d b m).2.1 = 5 ∨
 ((A0d a n).2.1 = 0 ∧ (A0d b m).2.1 = 0 ∧ Y3 (A0d a n).1 = Y3 (A0d b m).1) ∨
 ((A0d a n).2.1 = 2 ∧ (A0d b m).2.1 = 2 ∧ (A0d a n).2.2 = (A0d b m).2.2)
def B7C (e : Tm) : Tm × Bool := if N0 e = true then (A1e B5u e, true) else (H7, false)
mutual
def lz : Tm → Tm
 | .mk k nm num ty fr lb ks => .mk k nm num ty fr (if k = 14 then 0 else lb) (lzL ks)
def lzL : List Tm → List Tm
 | [] => []
 | t :: ts => lz t :: lzL ts
end
def SL (r s : Z0) : Prop := r.2.1 = s.2.1 ∧ lz r.1 = lz s.1
abbrev LbV (t : Tm) : Prop := A4M (fun l => A1P l = true) t
mutual
def mRl : Tm → Int → Tm × Int
 | .mk k nm num ty fr lb ks, n => (.mk k nm num ty fr (if k = 14 then (A3g ks n).2 + 1 else lb) (A3g ks n).1, if k = 14 then (A3g ks n).2 + 1 else (A3g ks n).2)
def A3g : List Tm → Int → List Tm × Int
 | [], n => ([], n)
 | t :: ts, n => ((mRl t n).1 :: (A3g ts (mRl t n).2).1, (A3g ts (mRl t n).2).2)
end
def B7D (G : IM) : IM → Value → List A4 → Prop := I9 fun G' v => ∃ u cu t ct b, v = .tuple ⟨[.agg ⟨cu⟩, .agg ⟨ct⟩, .bool b]⟩ ∧ B1 G' u cu ∧ u.small ∧ E6 u ≤ 60 ∧ C3 G' t ct ∧ H4 t ∧ K0 t ≤ 960
def B7E (G : IM) : IM → Value → List A4 → Prop := I9 fun G' v => ∃ t cells l q c, v = .tuple ⟨[.agg ⟨cells⟩, .slice q l.length c]⟩ ∧ B1 G' t cells ∧ t.fit 100 ∧ Sl G' q l.length c 1 (A3A l) ∧ l.length ≤ 100
def B7F (ts : List Tm) (G : IM) : IM → Value → List A4 → Prop := I9 fun G' v => ∃ p c es, v = .slice p ts.length c ∧ C5 G' p ts.length c 9 es ∧ E3 G' ts es
def B7G (ts : List Ty) (G : IM) : IM → Value → List A4 → Prop := I9 fun G' v => ∃ p c es, v = .slice p ts.length c ∧ C5 G' p ts.length c 2 es ∧ F8 G' ts es
def srt (zs : List Int) : List Int := zs.mergeSort fun x y => decide (x ≤ y)
def B7H (t : Tm) : List Int := if N0 t = true then Lib.compact (srt ((A2C t).map Tm.lb)) else []
def B7I (t : Tm) : Tm × Bool := if N0 t = true ∧ (A2C t).length ≤ 99 then ((mRl t 0).1, true) else (H7, false)
mutual
def Z4 : Tm → Prop
 | .mk k _ _ _ _ _ ks => (k = 14 → ks.length = 1) ∧ B0p ks
def B0p : List Tm → Prop
 | [] => True
 | t :: ts => Z4 t ∧ B0p ts
end
def cq1 (t : Tm) : Prop := t.k = 14 → t.ks.length = 1
def TbR (r : Tm × Bool) : IM → Value → List A4 → Prop := I9 fun G' v => ∃ cells, v = .tuple ⟨[.agg ⟨cells⟩, .bool r.2]⟩ ∧ B1 G' r.1 cells
def B7J (e : Tm) : Tm × Bool := if N0 e = true then A6t (A1e B5v e) else (H7, false)
def B7K (e : Tm) (l : Int) : Tm × Bool := match B3D e with
 | some T => if A1P l = true then A6t (V9 (V9 e T O4 l) O4 T l) else (H7, false)
 | none => (H7, false)
section
variable {P : Program} {Γ : J1} {env : J5} {hp : List A4} {G : IM} {ty : TypeId}
theorem B5w {x y : Operand} {t e : TypeId} {i : I7} {m sz by' : Nat} {zs : List Value} [hI : D4 P t i] (hd : i.desc = .array m e) [hE : S1 P e sz by' zs] {b j : Nat} {k : IntKind} {z : Int}
  (hx : evo env x = some (.pointer (some ⟨b, 0, none⟩))) (hy : evo env y = some (.int k z)) (hz : z = (j : Int)) (h1 : j < m) :
  E1 P Γ ⟨env, hp, G⟩ (.indexAddr t x y) ty (.pointer (some ⟨b, j * sz, none⟩)) := by
 subst hz
 refine ⟨fun a _ hs _ _ _ _ w => ?_⟩
 have hu := hI.und
 rw [hd] at hu
 obtain ⟨d, hE⟩ := hE.ok
 obtain ⟨inf, g1, g2, _⟩ := hE.info
 simp [execOp, Instr.indexAt, (hs.evo hx : a.eval x = _), (hs.evo hy : a.eval y = _), asIntOf, run_underlying hu, h1, sizeOf, typeInfo, g1, g2, A13, Instr.sureAddr]
theorem B5x {x y : Operand} {t e : TypeId} {i : I7} {m by' : Nat} {zs : List Value} [hI : D4 P t i] (hd : i.desc = .array m e) [hE : D4 P e ⟨1, by', zs, .bool⟩] {vs : List Value} {k : IntKind} {j : Nat} {v : Value}
  (hx : evo env x = some (.agg ⟨vs⟩)) (hy : evo env y = some (.int k (j : Int))) (h1 : j < m) (hv : vs[j]? = some v) :
  E1 P Γ ⟨env, hp, G⟩ (.index t x y) ty v := by
 refine ⟨fun a _ hs _ _ _ _ w => ?_⟩
 have hu := hI.und
 rw [hd] at hu
 have he := hE.und
 obtain ⟨inf, g1, g2, _⟩ := hE.info
 have g2 : inf.size = 1 := g2
 simp [execOp, Instr.index, (hs.evo hx : a.eval x = _), (hs.evo hy : a.eval y = _), asIntOf, run_underlying hu, h1, sizeOf, typeInfo, g1, g2, part, A3o he, A0O, hv]
theorem B5y {x y : Operand} {t t' : TypeId} {m n : Int} (hx : evo env x = some (.int .u8 m)) (hy : evo env y = some (.int .u8 n)) (h0 : 0 ≤ m - n) (h1 : m - n ≤ 255) :
  E1 P Γ ⟨env, hp, G⟩ (.binOp .sub t x y t') ty (.int .u8 (m - n)) := by
 refine ⟨fun a _ hs _ _ _ _ w => ?_⟩
 have hw : IntKind.u8.wrap (m - n) = m - n := IntWalk.u8_in _ ⟨h0, h1⟩
 simp [execOp, eqGuard, binOp, Op.intArith, (hs.evo hx : a.eval x = _), (hs.evo hy : a.eval y = _), hw]
end
def L6 (nm : ByteArray) : UInt8 := nm.data.getD 0 0
mutual
def mFr : ByteArray → Tm → List Bool → List Bool
 | bnd, .mk k nm _ _ _ _ ks, f => V4 (if k = 5 then bnd ++ nm else bnd) ks (if k = 1 ∧ L6 nm ∉ bnd.data.toList then f.set ((L6 nm).toNat - 97) true else f)
def V4 : ByteArray → List Tm → List Bool → List Bool
 | _, [], f => f
 | bnd, t :: ts, f => V4 bnd ts (mFr bnd t f)
end
mutual
theorem A33 : ∀ (t : Tm) (bnd : ByteArray) (f : List Bool), (mFr bnd t f).length = f.length
 | .mk k nm _ _ _ _ ks, bnd, f => by
  rw [mFr, B0q ks]; split <;> simp
theorem B0q : ∀ (ts : List Tm) (bnd : ByteArray) (f : List Bool), (V4 bnd ts f).length = f.length
 | [], _, _ => by rw [V4]
 | t :: ts, bnd, f => by rw [V4, B0q ts, A33 t]
end
mutual
theorem B5z : ∀ (t : Tm) (bnd : ByteArray) (f : List Bool) (j : Nat), (mFr bnd t f)[j]? = some false → f[j]? = some false
 | .mk k nm _ _ _ _ ks, bnd, f, j, h => by
  rw [mFr] at h
  have h := A41 ks _ _ j h
  split at h
  ·rw [List.getElem?_set] at h
   split at h
   ·split at h <;> cases h
   ·exact h
  ·exact h
theorem A41 : ∀ (ts : List Tm) (bnd : ByteArray) (f : List Bool) (j : Nat), (V4 bnd ts f)[j]? = some false → f[j]? = some false
 | [], _, _, _, h => by rwa [V4] at h
 | t :: ts, bnd, f, j, h => by rw [V4] at h; exact B5z t _ _ j (A41 ts _ _ j h)
end
theorem A1C {nm : ByteArray} (h : X0 nm = true) : nm = ⟨#[L6 nm]⟩ ∧ 97 ≤ (L6 nm).toNat ∧ (L6 nm).toNat ≤ 122 := by
 unfold X0 at h
 rw [decide_eq_true_eq] at h
 obtain ⟨h1, h2, h3⟩ := h
 refine ⟨?_, h2, h3⟩
 obtain ⟨⟨l⟩⟩ := nm
 have hl : l.length = 1 := h1
 match l, hl with
 | [c], _ => rfl
mutual
theorem B0r : ∀ (t : Tm) (d : Int) (bnd : ByteArray) (f : List Bool) (ns : List ByteArray), M1 12 14 t d = true → f.length = 26 → (∀ c ∈ bnd.data.toList, (⟨#[c]⟩ : ByteArray) ∈ ns) → (∀ j, j < 26 → (mFr bnd t f)[j]? = some false) → R8 ns t
 | .mk k nm num ty fr lb ks, d, bnd, f, ns, hs, hf, hb, h => by
  obtain ⟨_, _, h3, h4⟩ := V7 hs
  have hnm := (U9.1 h3).2.1
  rw [mFr] at h
  rw [R8]
  refine ⟨fun hk => ?_, ?_⟩
  ·obtain ⟨e1, e2, e3⟩ := A1C (hnm (.inl hk))
   by_cases hm : L6 nm ∈ bnd.data.toList
   ·rw [e1]; exact hb _ hm
   ·have := A41 ks _ _ ((L6 nm).toNat - 97) (h _ (by omega))
    rw [if_pos ⟨hk, hm⟩, List.getElem?_set] at this
    rw [if_pos rfl, if_pos (by omega)] at this
    cases this
  ·refine B0s ks _ _ _ _ h4 (by split <;> simp [hf]) ?_ h
   intro c hc
   by_cases hk : k = 5
   ·rw [if_pos hk] at hc ⊢
    obtain ⟨e1, e2, e3⟩ := A1C (hnm (.inr hk))
    rw [e1] at hc ⊢
    have hc : c ∈ (bnd.data ++ #[L6 nm]).toList := by simpa using hc
    rw [Array.toList_append, List.mem_append] at hc
    rcases hc with hc | hc
    ·exact List.mem_cons_of_mem _ (hb c hc)
    ·have : c = L6 nm := by simpa using hc
     rw [this]; exact List.mem_cons_self
   ·rw [if_neg hk] at hc ⊢; exact hb c hc
theorem B0s : ∀ (ts : List Tm) (d : Int) (bnd : ByteArray) (f : List Bool) (ns : List ByteArray), N6 12 14 ts d = true → f.length = 26 → (∀ c ∈ bnd.data.toList, (⟨#[c]⟩ : ByteArray) ∈ ns) → (∀ j, j < 26 → (V4 bnd ts f)[j]? = some false) → S8 ns ts
 | [], _, _, _, _, _, _, _, _ => by rw [S8]; trivial
 | t :: ts, d, bnd, f, ns, hs, hf, hb, h => by
  rw [N6, Bool.and_eq_true] at hs
  rw [V4] at h
  rw [S8]
  exact ⟨B0r t d bnd f ns hs.1 hf hb (fun j hj => A41 ts _ _ j (h j hj)), B0s ts d bnd _ ns hs.2 ((A33 t bnd f).trans hf) hb h⟩
end
theorem B0t {ts : List Tm} {i : Nat} (h : i < ts.length) (bnd : ByteArray) (f : List Bool) : V4 bnd (ts.drop i) f = V4 bnd (ts.drop (i + 1)) (mFr bnd ts[i] f) := by
 rw [List.drop_eq_getElem_cons h, V4]
theorem B0u : ∀ (l : List UInt8) (c : UInt8), decide (0 ≤ Lib.indexByte l c) = decide (c ∈ l)
 | [], c => by simp [Lib.indexByte]
 | b :: l, c => by
  have ih := B0u l c
  have hge := Lib.indexByte_ge l c
  unfold Lib.indexByte
  by_cases hb : b = c
  ·subst hb; simp
  ·have hb' : (b == c) = false := by simpa using hb
   rw [hb']
   rw [decide_eq_decide] at ih ⊢
   have hb2 : ¬ c = b := fun h => hb h.symm
   simp only [List.mem_cons, hb2, false_or]
   rw [← ih]
   by_cases h1 : Lib.indexByte l c = -1
   ·simp [h1]
   ·have h2 : (Lib.indexByte l c == -1) = false := by simpa using h1
    rw [h2]; simp; omega
theorem B5A (s : ByteArray) (c : UInt8) (G : IM) : Fn Tryz.prog 177 [.string s, .string ⟨#[c]⟩] [] G (H3 (.bool (decide (c ∈ s.data.toList))) G) := by
 refine ⟨fun w hw => ?_⟩
 refine (Tryz.strings_Contains_one s c w).mono ?_
 rintro e w' ⟨rfl, rfl⟩
 exact ⟨_, G, [], rfl, O1.refl hw, rfl, by rw [B0u], rfl⟩
theorem B5B {f : List Bool} {j : Nat} (h : j < f.length) : Q3 (f.map Value.bool) (j * 1) [.bool true] = some ((f.set j true).map Value.bool) := by
 rw [Nat.mul_one]
 induction f generalizing j with
 | nil => simp at h
 | cons b f ih =>
  cases j with
  | zero => cases f <;> simp [Q3]
  | succ j => simp only [List.map_cons, Q3, List.set_cons_succ]; rw [ih (by simpa using h)]
theorem B5C (f : List Bool) : (f.map Value.bool).length = f.length := by simp
theorem B5D (f : List Bool) : (f.map Value.bool).all (·.oneCell') = true := by rw [List.all_map, List.all_eq_true]; intro b _; rfl
theorem B5E : ∀ (t : Tm) (d : Int) (bd : ByteArray) (b : Nat) (f : List Bool) (G : IM) (cells : List Value), M1 12 14 t d = true → f.length = 26 → bd.size + E6 t ≤ 1000 → B1 G t cells →
  Fn Tryz.prog 117 [.agg ⟨cells⟩, .string bd, .pointer (some ⟨b, 0, none⟩)] [.blk b (f.map Value.bool)] G (fun G' v outs => G' = G ∧ v = .tuple ⟨[]⟩ ∧ outs = [.blk b ((mFr bd t f).map Value.bool)]) := by
 refine Tm.ind fun k nm num ty fr lb ks ih d bd b f G cells hv hf hb hr => ?_
 obtain ⟨hv1, hv2, hv3, hv4⟩ := V7 hv
 have hvk := (A0B 12 14 ks _).1 hv4
 have hnm := A4C hv3
 have hnmo := (U9.1 hv3).2.1
 simp only [E6] at hb
 obtain ⟨tk, tks⟩ := ty
 obtain ⟨fk, fks⟩ := fr
 obtain ⟨pt, ct, pf, cf, p, c, es, rfl, hk, hnum, hlb, hty, hfr, hsl, hkl⟩ := hr.open9
 have hn := hsl.le
 rw [mFr]
 obtain ⟨b1, hb1⟩ : ∃ b1, (if k = 5 then bd ++ nm else bd) = b1 := ⟨_, rfl⟩
 obtain ⟨f1, hf1⟩ : ∃ f1, (if k = 1 ∧ L6 nm ∉ bd.data.toList then f.set ((L6 nm).toNat - 97) true else f) = f1 := ⟨_, rfl⟩
 have hb1s : b1.size ≤ bd.size + 1 := by
  subst hb1; split
  ·simp only [ByteArray.size_append]; omega
  ·omega
 have hf1l : f1.length = 26 := by subst hf1; split <;> simp [hf]
 have hC : k = 1 → Fn Tryz.prog 177 [.string bd, .string nm] [] G (H3 (.bool (decide (L6 nm ∈ bd.data.toList))) G) := fun h => by
  have h2 := B5A bd (L6 nm) G
  rwa [← (A1C (hnmo (.inl h))).1] at h2
 have hI : k = 1 → nm[0]? = some (L6 nm) := fun h => by
  obtain ⟨h2, _, _⟩ := A1C (hnmo (.inl h)); rw [h2]; rfl
 have hR : k = 1 → 97 ≤ (L6 nm).toNat ∧ (L6 nm).toNat ≤ 122 := fun h => (A1C (hnmo (.inl h))).2
 rw [hb1, hf1]
 have hcut1 : True := trivial
 refine B7 Tryz.func117 rfl Tryz.ntmps117 Tryz.results117 rfl ?_
 intro w0
 refine tS (tR ?_)
 refine sE (D5 rfl rfl) rfl (fun b3 => ?_)
 refine sD (nS (tS (tS ?_)))
 (clear hcut1; refine A0i (fun (x : Bool) => ⟨[(17, .bool x), (1, .string bd), (2, .pointer (some ⟨b, 0, none⟩)), (3, .pointer (some ⟨b3, 0, none⟩))], [.blk b (f.map Value.bool), .blk b3 [.int .i64 k, .string nm, .int .i64 num, .int .i64 tk, .slice pt tks.length ct, .int .i64 fk, .slice pf fks.length cf, .int .i64 lb, .slice p ks.length c]], G⟩) (fun x => x = true ↔ (k = 1 ∧ L6 nm ∉ bd.data.toList)) ?_ ?_)
 refine tR (sQ (A3 rfl) rfl (sL (A5 rfl rfl) rfl rfl ?_))
 refine sB (qE rfl rfl) rfl rfl (fun h12 => ?_) (fun h12 => ?_)
 refine sQ (qM rfl) rfl (sQ (qM rfl) rfl (sQ (A3 rfl) rfl (sL (A5 rfl rfl) rfl rfl ?_)))
 refine H1 rfl ((hC (by omega))) rfl rfl (fun h17 => ?_) (fun h17 => ?_)
 refine sQ (M4 rfl) rfl (sQ (C1 rfl rfl) rfl (sD ?_))
 refine P0 false (O2 (by repeat (first | exact E4.nil | refine E4.cons rfl ?_)) (by repeat (first | exact A0.refl | exact A0.nil | refine A0.cons (by repeat (first | exact Pk.here | apply Pk.there)) ?_ | apply A0.drop))) ?_
 (exact ⟨fun h => Bool.noConfusion h, fun h => absurd (show L6 nm ∈ bd.data.toList from of_decide_eq_true (by assumption)) h.2⟩)
 refine sQ (O5 rfl) rfl (sQ (C1 rfl rfl) rfl (sD ?_))
 refine P0 true (O2 (by repeat (first | exact E4.nil | refine E4.cons rfl ?_)) (by repeat (first | exact A0.refl | exact A0.nil | refine A0.cons (by repeat (first | exact Pk.here | apply Pk.there)) ?_ | apply A0.drop))) ?_
 (exact ⟨fun _ => ⟨by omega, of_decide_eq_false (by assumption)⟩, fun _ => rfl⟩)
 refine sQ (qM rfl) rfl (sK rfl rfl (sK rfl rfl (sK rfl rfl (sK rfl rfl (sK rfl rfl (sQ (D7 rfl rfl) rfl (sD ?_)))))))
 refine P0 false (O2 (by repeat (first | exact E4.nil | refine E4.cons rfl ?_)) (by repeat (first | exact A0.refl | exact A0.nil | refine A0.cons (by repeat (first | exact Pk.here | apply Pk.there)) ?_ | apply A0.drop))) ?_
 (exact ⟨fun h => Bool.noConfusion h, fun h => (by have := h.1; omega)⟩)
 (rintro x hx)
 (show I6 _ _ (.cond (.tmp 17) _ _) _ _; refine A0i (fun (_ : Unit) => ⟨[(1, .string bd), (2, .pointer (some ⟨b, 0, none⟩)), (3, .pointer (some ⟨b3, 0, none⟩))], [.blk b (f1.map Value.bool), .blk b3 [.int .i64 k, .string nm, .int .i64 num, .int .i64 tk, .slice pt tks.length ct, .int .i64 fk, .slice pf fks.length cf, .int .i64 lb, .slice p ks.length c]], G⟩) (fun _ => True) (A3l rfl (fun hxt => (have hk1 : k = 1 := (hx.1 hxt).1; ?_)) (fun hxf => ?_)) ?_)
 refine I0 I1 rfl ?_
 refine J2 (i := 0) (l' := [tt,ff,ff,ff,ff,ff,ff,ff]) rfl F4 (qM rfl) rfl (by kernel_rfl) rfl rfl ?_
 refine aP 1 rfl (A3 rfl) rfl ?_
 refine aL 2 rfl (A5 rfl rfl) rfl ?_
 refine aP 3 rfl (A3r rfl rfl rfl (by omega) (hI (by omega))) rfl ?_
 refine aP 4 rfl (B5y rfl rfl (by have := hR (by omega); omega) (by have := hR (by omega); omega)) rfl ?_
 refine aP 5 rfl (J6 rfl) rfl ?_
 refine aP 6 rfl (B5w (j := (L6 nm).toNat - 97) rfl rfl rfl (by have := hR (by omega); omega) (by have := hR (by omega); omega)) rfl ?_
 refine A8 7 ?_
 refine P3 rfl rfl rfl rfl rfl rfl rfl rfl (by kernel_rfl) (by repeat first | exact Sw.here | apply Sw.there) (by exact B5B (by have := hR (by omega); omega)) ?_
 refine D6 ?_
 (have hq2 : f.set ((L6 nm).toNat - 97) true = f1 := (by rw [← hf1, if_pos (hx.1 hxt)]); rw [hq2]; refine P0 () (O2 (by repeat (first | exact E4.nil | refine E4.cons rfl ?_)) (by repeat (first | exact A0.refl | exact A0.nil | refine A0.cons (by repeat (first | exact Pk.here | apply Pk.there)) ?_ | apply A0.drop))) trivial)
 refine tK ?_
 (have hq2 : f = f1 := (by rw [← hf1, if_neg (fun h => Bool.noConfusion (hxf.symm.trans (hx.2 h)))]); rw [hq2]; refine P0 () (O2 (by repeat (first | exact E4.nil | refine E4.cons rfl ?_)) (by repeat (first | exact A0.refl | exact A0.nil | refine A0.cons (by repeat (first | exact Pk.here | apply Pk.there)) ?_ | apply A0.drop))) trivial)
 (rintro x hx)
 refine tS (tS (tR (sQ (A3 rfl) rfl (sL (A5 rfl rfl) rfl rfl ?_))))
 refine sB (qE rfl rfl) rfl rfl (fun h60 => ?_) (fun h60 => ?_)
 refine sD (nS (qT rfl (tR (sQ (qM rfl) rfl (sQ (A3 rfl) rfl (sL (A5 rfl rfl) rfl rfl ?_))))))
 refine sP (A0P rfl rfl (by omega)) rfl rfl ?_
 refine A0n ?_
 refine B5 ?_
 (have hq : k = 5 := (by omega); rw [show bd ++ nm = b1 by rw [← hb1, if_pos hq]]; refine K4 (fun (x : Nat × List Bool) => ⟨[(35, .int .i64 (x.1 : Int)), (34, .int .i64 (ks.length : Int)), (33, .slice p ks.length c), (1, .string b1), (2, .pointer (some ⟨b, 0, none⟩))], [.blk b (x.2.map Value.bool)], G⟩) (fun x => x.1 ≤ ks.length ∧ x.2.length = 26 ∧ V4 b1 (ks.drop x.1) x.2 = V4 b1 ks f1) (fun x => ks.length - x.1) (0, f1) ?_ ?_ ?_)
 (simp only [E2]; exact C9)
 (exact ⟨Nat.zero_le _, hf1l, rfl⟩)
 (rintro ⟨i, fs⟩ ⟨hi, hfs, hse⟩; simp only [] at hi hfs hse ⊢)
 refine tS (tR ?_)
 refine sB (J3 rfl rfl) rfl rfl (fun h87 => ?_) (fun h87 => ?_)
 refine sD (nS (tS (qT rfl (tK (nS (tS ?_))))))
 refine B5 ?_
 refine tS (tR ?_)
 (obtain ⟨bx, ox, e, rfl, hl, hat, hre, hgb⟩ := hsl.kidTm hkl (i := i) (by omega) (by omega); refine sP (C2 (j := i) rfl rfl rfl (by omega)) rfl rfl ?_)
 refine sL (A9 rfl rfl (hat _) hl) rfl rfl ?_
 refine sE (B6 rfl) rfl (fun b100 => ?_)
 refine sS rfl rfl rfl hl hre.one rfl ?_ (hu := by exact I4 hl.symm)
 refine sD (nS (tR ?_))
 refine sL (A9 rfl rfl (C7 (by repeat first | exact mH | apply mT)) (by assumption)) rfl rfl ?_
 refine sQ (qM rfl) rfl (sQ (qM rfl) rfl ?_)
 (refine D2 rfl (ih ks[i] (List.getElem_mem (by omega)) _ b1 b fs G e (hvk i (by omega)) hfs (by have := A0v ks (i + 1); rw [A0u (by omega)] at this; omega) hre) (Pk.perm (by repeat (first | exact Pk.here | apply Pk.there))) rfl rfl (fun v G1 outs hle1 hh => ?_); obtain ⟨hG, rfl, rfl⟩ := hh; replace hG := hG.symm; subst hG)
 refine sD (C8 (nS (tR ?_)))
 refine sP (H6 rfl rfl (by omega) (by omega)) rfl rfl ?_
 refine sQ (qM rfl) rfl (sD ?_)
 refine K3 (i + 1, mFr b1 ks[i] fs) ?_ ?_ ?_
 (simp only [E2]; exact C9)
 (dsimp only; exact ⟨by omega, (A33 _ _ _).trans hfs, by rw [← hse, B0t (ts := ks) (i := i) (by omega) b1 fs]⟩)
 (show ks.length - (i + 1) < ks.length - i; omega)
 refine sD (nS (tS (cF rfl (M7 (M8 (N3 (M9 ?_)))))))
 refine A4D (outs := [.blk b (fs.map Value.bool)]) (by repeat (first | exact A0.nil | refine A0.cons (by repeat (first | exact Pk.here | apply Pk.there)) ?_)) ?_
 (exact ⟨rfl, rfl, by rw [← hse, List.drop_eq_nil_of_le (by omega), V4]⟩)
 refine W2 ?_
 refine B5 ?_
 (have hq4 : bd = b1 := (by rw [← hb1, if_neg (by omega)]); rw [hq4]; refine K4 (fun (x : Nat × List Bool) => ⟨[(35, .int .i64 (x.1 : Int)), (34, .int .i64 (ks.length : Int)), (33, .slice p ks.length c), (1, .string b1), (2, .pointer (some ⟨b, 0, none⟩))], [.blk b (x.2.map Value.bool)], G⟩) (fun x => x.1 ≤ ks.length ∧ x.2.length = 26 ∧ V4 b1 (ks.drop x.1) x.2 = V4 b1 ks f1) (fun x => ks.length - x.1) (0, f1) ?_ ?_ ?_)
 (simp only [E2]; exact C9)
 (exact ⟨Nat.zero_le _, hf1l, rfl⟩)
 (rintro ⟨i, fs⟩ ⟨hi, hfs, hse⟩; simp only [] at hi hfs hse ⊢)
 refine tS (tR ?_)
 refine sB (J3 rfl rfl) rfl rfl (fun h150 => ?_) (fun h150 => ?_)
 refine sD (nS (tS (qT rfl (tK (nS (tS ?_))))))
 refine B5 ?_
 refine tS (tR ?_)
 (obtain ⟨bx, ox, e, rfl, hl, hat, hre, hgb⟩ := hsl.kidTm hkl (i := i) (by omega) (by omega); refine sP (C2 (j := i) rfl rfl rfl (by omega)) rfl rfl ?_)
 refine sL (A9 rfl rfl (hat _) hl) rfl rfl ?_
 refine sE (B6 rfl) rfl (fun b163 => ?_)
 refine sS rfl rfl rfl hl hre.one rfl ?_ (hu := by exact I4 hl.symm)
 refine sD (nS (tR ?_))
 refine sL (A9 rfl rfl (C7 (by repeat first | exact mH | apply mT)) (by assumption)) rfl rfl ?_
 refine sQ (qM rfl) rfl (sQ (qM rfl) rfl ?_)
 (refine D2 rfl (ih ks[i] (List.getElem_mem (by omega)) _ b1 b fs G e (hvk i (by omega)) hfs (by have := A0v ks (i + 1); rw [A0u (by omega)] at this; omega) hre) (Pk.perm (by repeat (first | exact Pk.here | apply Pk.there))) rfl rfl (fun v G1 outs hle1 hh => ?_); obtain ⟨hG, rfl, rfl⟩ := hh; replace hG := hG.symm; subst hG)
 refine sD (C8 (nS (tR ?_)))
 refine sP (H6 rfl rfl (by omega) (by omega)) rfl rfl ?_
 refine sQ (qM rfl) rfl (sD ?_)
 refine K3 (i + 1, mFr b1 ks[i] fs) ?_ ?_ ?_
 (simp only [E2]; exact C9)
 (dsimp only; exact ⟨by omega, (A33 _ _ _).trans hfs, by rw [← hse, B0t (ts := ks) (i := i) (by omega) b1 fs]⟩)
 (show ks.length - (i + 1) < ks.length - i; omega)
 refine sD (nS (tS (cF rfl (M7 (M8 (N3 (M9 ?_)))))))
 refine A4D (outs := [.blk b (fs.map Value.bool)]) (by repeat (first | exact A0.nil | refine A0.cons (by repeat (first | exact Pk.here | apply Pk.there)) ?_)) ?_
 (exact ⟨rfl, rfl, by rw [← hse, List.drop_eq_nil_of_le (by omega), V4]⟩)
theorem B5F (n : Int) (h0 : 0 ≤ n) : (strOfNums [n]).size = 1 := rfl
def B7L : Tm → Tm
 | .mk k nm num ty fr lb ks => if k = 13 then ks.headD H7 else if k = 1 ∨ k = 6 ∨ k = 9 ∨ k = 11 ∨ k = 12 then .mk k nm num ty fr lb ks
  else A95 (.mk k nm num (if k = 5 then O4 else ty) fr lb ks)
def B7M : Tm → Prop
 | .mk k _ _ _ _ _ ks => k = 13 → ks ≠ []
theorem B5G {s : ByteArray} {i : Nat} (h : i < s.data.toList.length) : s.extract i (i + 1) = ⟨#[s.data.toList[i]]⟩ := by
 obtain ⟨⟨l⟩⟩ := s
 apply ByteArray.ext
 rw [ByteArray.data_extract]
 apply Array.ext'
 simp only [Array.toList_extract]
 have h : i < l.length := h
 rw [List.extract_eq_take_drop, List.drop_eq_getElem_cons h, Nat.add_sub_cancel_left]
 rfl
theorem B0v {A B C : Prop} : ((A ∨ B) ∨ C) ↔ (B ∨ (A ∨ C)) := ⟨fun h => h.elim (fun h => h.elim (fun a => .inr (.inl a)) .inl) (fun c => .inr (.inr c)), fun h => h.elim (fun b => .inl (.inr b)) (fun h => h.elim (fun a => .inl (.inl a)) .inr)⟩
theorem B0w {c d : UInt8} : d ∈ (⟨#[c]⟩ : ByteArray).data.toList ↔ d = c := by simp
theorem A3h {a b : ByteArray} {c : UInt8} : c ∈ (a ++ b).data.toList ↔ c ∈ a.data.toList ∨ c ∈ b.data.toList := by
 rw [ByteArray.data_append, Array.toList_append, List.mem_append]
theorem B0x {s : ByteArray} {k : Nat} {c : UInt8} (h : k ≤ s.size) : c ∈ s.data.toList ↔ c ∈ (s.extract 0 k).data.toList ∨ c ∈ (s.extract k s.size).data.toList := by
 rw [← A3h]
 have : s.extract 0 k ++ s.extract k s.size = s := by
  simp [ByteArray.extract_append_extract, h]
 rw [this]
theorem A6Z {a b : UInt8} : (⟨#[a]⟩ : ByteArray) = ⟨#[b]⟩ ↔ a = b := by
 constructor
 ·intro h; have := congrArg (fun x => x.data.toList) h; simpa using this
 ·intro h; rw [h]
theorem A42 {s : ByteArray} {i : Nat} {c : UInt8} (h : i < s.size) : s.extract i (i + 1) = ⟨#[c]⟩ ↔ s.data.toList[i]? = some c := by
 have h' : i < s.data.toList.length := h
 rw [B5G h', A6Z, List.getElem?_eq_getElem h', Option.some_inj]
theorem B5H (s nm : ByteArray) (c : UInt8) (G : IM) (hs : s.size ≤ 1000) (hnm : nm = ⟨#[c]⟩) :
  Fn Tryz.prog 124 [.string s, .string nm] [] G (H3 (.bool (decide (c ∈ s.data.toList))) G) := by
 have hsz : s.size = s.data.toList.length := rfl
 refine B7 Tryz.func124 rfl Tryz.ntmps124 Tryz.results124 rfl ?_
 intro w0
 refine tS (tR (sQ (qA rfl) rfl (sD (nS (tS (tS (tR (sQ (qA rfl) rfl (sD (nS ?_))))))))))
 refine B5 ?_
 (refine K4 (fun (i : Nat) => ⟨[(5, .int .i64 (i : Int)), (0, .string s), (1, .string nm)], [], G⟩) (fun i => i ≤ s.size ∧ ∀ j, j < i → s.data.toList[j]? ≠ some c) (fun i => s.size - i) 0 ?_ ?_ ?_)
 exact C9
 exact ⟨Nat.zero_le _, fun j hj => absurd hj (Nat.not_lt_zero j)⟩
 (rintro i ⟨hi, hj⟩)
 refine tS (tS (tR (sQ (qM rfl) rfl (sQ (qM rfl) rfl ?_))))
 refine sQ (A0m rfl rfl) rfl (sB (J3 rfl rfl) rfl rfl (fun h23 => ?_) (fun h23 => ?_))
 refine sD (nS (qT rfl (tK (nS (tS ?_)))))
 refine B5 ?_
 refine tS (tR (sQ (qM rfl) rfl (sQ (qM rfl) rfl (sQ (qM rfl) rfl ?_))))
 refine sP (Z8 (n := 1) rfl rfl (by omega)) rfl rfl ?_
 refine sP (A2a (h := i + 1) rfl rfl rfl rfl (by omega) (by omega)) rfl rfl ?_
 refine sQ (qM rfl) rfl ?_
 refine sB (A1J rfl rfl) rfl rfl (fun hse => ?_) (fun hse => ?_)
 refine sD (nS (qT rfl (tS (tR (sQ (qA rfl) rfl (sD (nS (tT (rB (rS (U2 (rB (rS (A6 (rT rfl) ?_))))))))))))))
 (exact ⟨rfl, by rw [decide_eq_true]; rw [hnm, A42 (by omega)] at hse; exact List.mem_of_getElem? hse, rfl⟩)
 refine sD (nS (cF rfl (tK (C8 (nS (tR (sQ (qM rfl) rfl ?_)))))))
 refine sP (Z8 (n := 1) rfl rfl (by omega)) rfl rfl ?_
 refine sQ (qA rfl) rfl (sD ?_)
 refine K3 (i + 1) ?_ ?_ ?_
 exact C9
 (exact ⟨by omega, fun j hji => (by by_cases he : j = i; (subst he; intro hc; exact hse (by rw [hnm, A42 (by omega)]; exact hc)); exact hj j (by omega))⟩)
 (show s.size - _ < s.size - _; omega)
 refine sD (nS (cF rfl (M7 (M8 (N3 (M9 (nS (tS (tR (sQ (qA rfl) rfl (sD (nS (tT (A6 (rT rfl) ?_))))))))))))))
 (exact ⟨rfl, by rw [decide_eq_false]; intro hm; obtain ⟨j, hj1, hj2⟩ := List.getElem_of_mem hm; exact hj j (by omega) (by rw [List.getElem?_eq_getElem hj1, hj2]), rfl⟩)
theorem B0y (s nm : ByteArray) (c : UInt8) (G : IM) (hs : s.size ≤ 1000) (hnm : nm = ⟨#[c]⟩) :
  Fn Tryz.prog 125 [.string s, .string nm] [] G (fun G' v outs => G' = G ∧ outs = [] ∧ ∃ r, v = .string r ∧ r.size ≤ s.size + 1 ∧ 0 < r.size ∧ ∀ d, d ∈ r.data.toList ↔ (d = c ∨ d ∈ s.data.toList)) := by
 have hn : nm.size = 1 := by rw [hnm]; rfl
 have hsz : s.size = s.data.toList.length := rfl
 refine B7 Tryz.func125 rfl Tryz.ntmps125 Tryz.results125 rfl ?_
 intro w0
 refine tS (tR (sQ (qA rfl) rfl (sD (nS (tS (tR (sQ (qA rfl) rfl (sD (nS (tS ?_))))))))))
 refine B5 ?_
 (refine K4 (fun (i : Nat) => ⟨[(5, .int .i64 (i : Int)), (0, .string s), (1, .string nm)], [], G⟩) (fun i => i ≤ s.size) (fun i => s.size - i) 0 ?_ ?_ ?_)
 exact C9
 exact Nat.zero_le _
 (intro i hi)
 refine tS (tS (tR (sQ (qM rfl) rfl (sQ (qM rfl) rfl ?_))))
 refine sQ (A0m rfl rfl) rfl (sB (J3 rfl rfl) rfl rfl (fun h23 => ?_) (fun h23 => ?_))
 refine sQ (qM rfl) rfl (sQ (qM rfl) rfl (sQ (qM rfl) rfl (sQ (qM rfl) rfl ?_)))
 refine sP (Z8 (n := 1) rfl rfl (by omega)) rfl rfl ?_
 refine sP (A2a (h := i + 1) rfl rfl rfl rfl (by omega) (by omega)) rfl rfl ?_
 refine sQ (qM rfl) rfl ?_
 refine sB (A8G rfl rfl) rfl rfl (fun h31 => ?_) (fun h31 => ?_)
 refine sQ (C1 rfl rfl) rfl (sD (nS (qT rfl (tK (nS ?_)))))
 refine B5 ?_
 refine tR (sQ (qM rfl) rfl ?_)
 refine sP (Z8 (n := 1) rfl rfl (by omega)) rfl rfl ?_
 refine sQ (qA rfl) rfl (sD (C8 ?_))
 refine K3 (i + 1) ?_ ?_ ?_
 exact C9
 (show _ ≤ s.size; omega)
 (show s.size - _ < s.size - _; omega)
 refine Y8 ?_
 refine sQ (A0m rfl rfl) rfl ?_
 refine sP (A7m rfl rfl (by omega)) rfl rfl ?_
 refine sQ (qM rfl) rfl (sQ (qM rfl) rfl (sQ (qM rfl) rfl (sQ (qM rfl) rfl ?_)))
 refine sP (Z8 (n := 1) rfl rfl (by omega)) rfl rfl ?_
 refine sP (A2a (h := i + 1) rfl rfl rfl rfl (by omega) (by omega)) rfl rfl ?_
 refine sQ (qM rfl) rfl ?_
 refine sB (A1J rfl rfl) rfl rfl (fun hse => ?_) (fun hse => ?_)
 refine sQ (C1 rfl rfl) rfl (sD (nS (qT rfl (tS (tR (sQ (qM rfl) rfl (sQ (qA rfl) rfl (sD (nS (tT (rS ?_)))))))))))
 refine E5 (outs := []) (rT rfl) A0.nil ?_
 (exact ⟨rfl, rfl, _, rfl, Nat.le_add_right _ _, by omega, fun d => ⟨fun hd => .inr hd, fun hd => hd.elim (fun he => (by rw [he]; rw [hnm, A42 (by omega)] at hse; exact List.mem_of_getElem? hse)) id⟩⟩)
 refine sQ (C1 rfl rfl) rfl (sD (nS (cF rfl (tK (nS (tS ?_))))))
 refine I0 I1 rfl ?_
 refine J2 (i := 0) (l' := [tt,ff,ff,ff,ff,ff,ff,ff,ff,ff]) rfl F4 (qM rfl) rfl (by kernel_rfl) rfl rfl ?_
 refine aP 1 rfl (qM rfl) rfl ?_
 refine aP 2 rfl (A4z rfl rfl rfl (by omega)) rfl ?_
 refine aP 3 rfl (qM rfl) rfl ?_
 refine aP 4 rfl (A0P rfl rfl (by simp only [ByteArray.size_extract, ByteArray.size_append]; omega)) rfl ?_
 refine aP 5 rfl (qM rfl) rfl ?_
 refine aP 6 rfl (qM rfl) rfl ?_
 refine aP 7 rfl (A4A rfl rfl rfl (by omega)) rfl ?_
 refine aP 8 rfl (A0P rfl rfl (by simp only [ByteArray.size_extract, ByteArray.size_append]; omega)) rfl ?_
 refine aP 9 rfl (qA rfl) rfl ?_
 refine D6 (nS (tT ?_))
 refine E5 (outs := []) (rT rfl) A0.nil ?_
 (exact ⟨rfl, rfl, _, rfl, by simp only [ByteArray.size_extract, ByteArray.size_append]; omega, by simp only [ByteArray.size_extract, ByteArray.size_append]; omega, fun d => by rw [A3h, A3h, B0x (s := s) (k := i) (by omega), hnm, B0w]; exact B0v⟩)
 refine A09 ?_
 refine sQ (A0m rfl rfl) rfl ?_
 refine sP (A2S rfl rfl (by omega)) rfl rfl ?_
 refine N5 ?_
 refine I0 I1 rfl ?_
 refine J2 (i := 0) (l' := [tt,ff,ff,ff,ff,ff,ff,ff,ff,ff]) rfl F4 (qM rfl) rfl (by kernel_rfl) rfl rfl ?_
 refine aP 1 rfl (qM rfl) rfl ?_
 refine aP 2 rfl (A4z rfl rfl rfl (by omega)) rfl ?_
 refine aP 3 rfl (qM rfl) rfl ?_
 refine aP 4 rfl (A0P rfl rfl (by simp only [ByteArray.size_extract, ByteArray.size_append]; omega)) rfl ?_
 refine aP 5 rfl (qM rfl) rfl ?_
 refine aP 6 rfl (qM rfl) rfl ?_
 refine aP 7 rfl (A4A rfl rfl rfl (by omega)) rfl ?_
 refine aP 8 rfl (A0P rfl rfl (by simp only [ByteArray.size_extract, ByteArray.size_append]; omega)) rfl ?_
 refine aP 9 rfl (qA rfl) rfl ?_
 refine D6 (nS (tT ?_))
 refine E5 (outs := []) (rT rfl) A0.nil ?_
 (exact ⟨rfl, rfl, _, rfl, by simp only [ByteArray.size_extract, ByteArray.size_append]; omega, by simp only [ByteArray.size_extract, ByteArray.size_append]; omega, fun d => by rw [A3h, A3h, B0x (s := s) (k := i) (by omega), hnm, B0w]; exact B0v⟩)
def BdS (bd : ByteArray) (ns : List ByteArray) : Prop := ∀ c : UInt8, c ∈ bd.data.toList ↔ (⟨#[c]⟩ : ByteArray) ∈ ns
theorem A60 {ns : List ByteArray} {ks : List Tm} {i : Nat} (h : i < ks.length) : S8 ns (ks.take (i + 1)) ↔ (S8 ns (ks.take i) ∧ R8 ns ks[i]) := by
 induction ks generalizing i with
 | nil => simp at h
 | cons t ts ih =>
  cases i with
  | zero => simp [S8]
  | succ i =>
   have := ih (i := i) (by simpa using h)
   simp only [List.take_succ_cons, S8, List.getElem_cons_succ, this]
   constructor
   ·rintro ⟨a, b, c⟩; exact ⟨⟨a, b⟩, c⟩
   ·rintro ⟨⟨a, b⟩, c⟩; exact ⟨a, b, c⟩
theorem B5I : ∀ (t : Tm) (d : Int) (out bd : ByteArray) (ns : List ByteArray) (G : IM) (cells : List Value), M1 12 14 t d = true → out.size + E6 t ≤ 1000 → bd.size + E6 t ≤ 1000 → BdS bd ns → B1 G t cells →
  Fn Tryz.prog 64 [.string out, .agg ⟨cells⟩, .string bd] [] G (fun G' v outs => G' = G ∧ outs = [] ∧ ∃ r, v = .string r ∧ r.size ≤ out.size + E6 t ∧ (r.size = 0 ↔ (out.size = 0 ∧ R8 ns t))) := by
 refine Tm.ind fun k nm num ty fr lb ks ih d out bd ns G cells hv ho hb hbd hr => ?_
 obtain ⟨hv1, hv2, hv3, hv4⟩ := V7 hv
 have hvk := (A0B 12 14 ks _).1 hv4
 have hnmo := (U9.1 hv3).2.1
 have hnmS := fun h => (A1C (hnmo h)).1
 simp only [E6] at ho hb ⊢
 obtain ⟨tk, tks⟩ := ty
 obtain ⟨fk, fks⟩ := fr
 obtain ⟨pt, ct, pf, cf, p, c, es, rfl, hk, hnum, hlb, hty, hfr, hsl, hkl⟩ := hr.open9
 have hn := hsl.le
 obtain ⟨n1, hn1⟩ : ∃ n1, (if k = 5 then nm :: ns else ns) = n1 := ⟨_, rfl⟩
 have hcl : R8 ns (.mk k nm num (.mk tk tks) (.mk fk fks) lb ks) ↔ ((k = 1 → nm ∈ ns) ∧ S8 n1 ks) := by rw [R8, hn1]
 refine B7 Tryz.func64 rfl Tryz.ntmps64 Tryz.results64 rfl ?_
 intro w0
 refine tS (tR ?_)
 refine sE (D5 rfl rfl) rfl (fun b3 => ?_)
 refine sQ (qA rfl) rfl (sD (nS (tS (tS (tR (sQ (A3 rfl) rfl (sL (A5 rfl rfl) rfl rfl ?_)))))))
 refine sB (qE rfl rfl) rfl rfl (fun h12 => ?_) (fun h12 => ?_)
 refine sQ (qM rfl) rfl (sQ (qM rfl) rfl (sQ (A3 rfl) rfl (sL (A5 rfl rfl) rfl rfl ?_)))
 focus (have hk1 : k = 1 := (by omega); refine F0 rfl (B5H bd nm (L6 nm) _ (by omega) (hnmS (.inl hk1))) rfl rfl ?_; have hin : (L6 nm ∈ bd.data.toList) ↔ nm ∈ ns := (by rw [hbd (L6 nm), ← hnmS (.inl hk1)]); by_cases hmem : L6 nm ∈ bd.data.toList; (rw [decide_eq_true hmem]); rotate_left; (rw [decide_eq_false hmem]); rotate_left)
 refine R5 ?_
 refine sP (E9 rfl rfl (by omega)) rfl rfl ?_
 refine sD (nS (cF rfl (tK (nS (tS (tS (tR (sQ (qA rfl) rfl (sD (nS ?_))))))))))
 refine B5 ?_
 (have hbd1 : BdS bd n1 := (by rw [← hn1, if_neg (by omega)]; exact hbd); refine K4 (fun (x : Nat × ByteArray) => ⟨[(7, .int .i64 (x.1 : Int)), (4, .pointer (some ⟨b3, 0, none⟩)), (0, .string x.2), (2, .string bd)], [.blk b3 [.int .i64 k, .string nm, .int .i64 num, .int .i64 tk, .slice pt tks.length ct, .int .i64 fk, .slice pf fks.length cf, .int .i64 lb, .slice p ks.length c]], G⟩) (fun x => x.1 ≤ ks.length ∧ x.2.size ≤ out.size + 1 + I2 (ks.take x.1) ∧ (x.2.size = 0 ↔ (out.size = 0 ∧ S8 n1 (ks.take x.1)))) (fun x => ks.length - x.1) (0, out) ?_ ?_ ?_)
 (simp only [E2]; exact C9)
 (exact ⟨Nat.zero_le _, by dsimp only; omega, by simp [S8]⟩)
 (rintro ⟨i, o⟩ ⟨hi, hos, hoz⟩; simp only [] at hi hos hoz ⊢; have hct := A0v ks (i + 1))
 refine tS (tS (tR (sQ (qM rfl) rfl (sQ (A3 rfl) rfl (sL (A5 rfl rfl) rfl rfl (sQ (D8 rfl rfl) rfl ?_))))))
 refine sB (J3 rfl rfl) rfl rfl (fun h54 => ?_) (fun h54 => ?_)
 refine sD (nS (qT rfl (tK (nS (tS ?_)))))
 refine B5 ?_
 (obtain ⟨bx, ox, e, rfl, hl, hat, hre, hgb⟩ := hsl.kidTm hkl (i := i) (by omega) (by omega); rw [A0u (by omega)] at hct)
 refine tR (sQ (qM rfl) rfl (sQ (A3 rfl) rfl (sL (A5 rfl rfl) rfl rfl (sQ (qM rfl) rfl ?_))))
 refine sP (C2 (j := i) rfl rfl rfl (by omega)) rfl rfl ?_
 refine sL (A9 rfl rfl (hat _) hl) rfl rfl ?_
 refine sQ (qM rfl) rfl ?_
 (refine D2 rfl (ih ks[i] (List.getElem_mem (by omega)) _ _ _ n1 _ _ (hvk i (by omega)) (by omega) (by omega) hbd1 hre) (List.Perm.refl _) rfl rfl (fun v G1 outs hle1 hh => ?_); obtain ⟨hG, rfl, r3, rfl, hr3, hr3z⟩ := hh; replace hG := hG.symm; subst hG)
 refine sQ (qA rfl) rfl (sD (C8 (nS (tR (sQ (qM rfl) rfl ?_)))))
 refine sP (H6 rfl rfl (by omega) (by omega)) rfl rfl ?_
 refine sQ (qA rfl) rfl (sD ?_)
 refine K3 (i + 1, r3) ?_ ?_ ?_
 (simp only [E2]; exact C9)
 (dsimp only; exact ⟨by omega, by rw [A0u (by omega)]; omega, by rw [hr3z, hoz, A60 (by omega), and_assoc]⟩)
 (show ks.length - (i + 1) < ks.length - i; omega)
 refine N5 ?_
 refine E5 (outs := []) (rT rfl) A0.nil ?_
 (exact ⟨rfl, rfl, _, rfl, by have := A0v ks i; omega, by rw [hoz, hcl, show ks.take i = ks by rw [List.take_of_length_le (by omega)]]; exact ⟨fun hz => ⟨hz.1, fun h1 => by first | exact hin.1 hmem | omega, hz.2⟩, fun hz => ⟨hz.1, hz.2.2⟩⟩⟩)
 refine sQ (O5 rfl) rfl (sQ (C1 rfl rfl) rfl (sD (nS (qT rfl (tR (sQ (qM rfl) rfl (sQ (A3 rfl) rfl (sL (A5 rfl rfl) rfl rfl ?_))))))))
 (have hk1 : k = 1 := (by omega); refine D2 rfl (B0y out nm (L6 nm) _ (by omega) (hnmS (.inl hk1))) (List.Perm.refl _) rfl rfl (fun v G1 outs hle1 hh => ?_); obtain ⟨hG, rfl, r1, rfl, hr1, hr1p, _⟩ := hh; replace hG := hG.symm; subst hG)
 refine sQ (qA rfl) rfl (sD (nS (tS (tS (tR (sQ (A3 rfl) rfl (sL (A5 rfl rfl) rfl rfl ?_)))))))
 refine sP (E9 rfl rfl (by omega)) rfl rfl ?_
 refine sD (nS (cF rfl (tK (nS (tS (tS (tR (sQ (qA rfl) rfl (sD (nS ?_))))))))))
 refine B5 ?_
 (have hq : k = 1 := (by omega); have hr2 := hr1; have hbd1 : BdS bd n1 := (by rw [← hn1, if_neg (by omega)]; exact hbd); refine K4 (fun (x : Nat × ByteArray) => ⟨[(7, .int .i64 (x.1 : Int)), (4, .pointer (some ⟨b3, 0, none⟩)), (0, .string x.2), (2, .string bd)], [.blk b3 [.int .i64 k, .string nm, .int .i64 num, .int .i64 tk, .slice pt tks.length ct, .int .i64 fk, .slice pf fks.length cf, .int .i64 lb, .slice p ks.length c]], G⟩) (fun x => x.1 ≤ ks.length ∧ x.2.size ≤ out.size + 1 + I2 (ks.take x.1) ∧ 0 < x.2.size) (fun x => ks.length - x.1) (0, r1) ?_ ?_ ?_)
 (simp only [E2]; exact C9)
 (exact ⟨Nat.zero_le _, by dsimp only; omega, hr1p⟩)
 (rintro ⟨i, o⟩ ⟨hi, hos, hoz⟩; simp only [] at hi hos hoz ⊢; have hct := A0v ks (i + 1))
 refine tS (tS (tR (sQ (qM rfl) rfl (sQ (A3 rfl) rfl (sL (A5 rfl rfl) rfl rfl (sQ (D8 rfl rfl) rfl ?_))))))
 refine sB (J3 rfl rfl) rfl rfl (fun h144 => ?_) (fun h144 => ?_)
 refine sD (nS (qT rfl (tK (nS (tS ?_)))))
 refine B5 ?_
 (obtain ⟨bx, ox, e, rfl, hl, hat, hre, hgb⟩ := hsl.kidTm hkl (i := i) (by omega) (by omega); rw [A0u (by omega)] at hct)
 refine tR (sQ (qM rfl) rfl (sQ (A3 rfl) rfl (sL (A5 rfl rfl) rfl rfl (sQ (qM rfl) rfl ?_))))
 refine sP (C2 (j := i) rfl rfl rfl (by omega)) rfl rfl ?_
 refine sL (A9 rfl rfl (hat _) hl) rfl rfl ?_
 refine sQ (qM rfl) rfl ?_
 (refine D2 rfl (ih ks[i] (List.getElem_mem (by omega)) _ _ _ n1 _ _ (hvk i (by omega)) (by omega) (by omega) hbd1 hre) (List.Perm.refl _) rfl rfl (fun v G1 outs hle1 hh => ?_); obtain ⟨hG, rfl, r3, rfl, hr3, hr3z⟩ := hh; replace hG := hG.symm; subst hG)
 refine sQ (qA rfl) rfl (sD (C8 (nS (tR (sQ (qM rfl) rfl ?_)))))
 refine sP (H6 rfl rfl (by omega) (by omega)) rfl rfl ?_
 refine sQ (qA rfl) rfl (sD ?_)
 refine K3 (i + 1, r3) ?_ ?_ ?_
 (simp only [E2]; exact C9)
 (dsimp only; exact ⟨by omega, by rw [A0u (by omega)]; omega, by have := hr3z; omega⟩)
 (show ks.length - (i + 1) < ks.length - i; omega)
 refine N5 ?_
 refine E5 (outs := []) (rT rfl) A0.nil ?_
 (exact ⟨rfl, rfl, _, rfl, by have := A0v ks i; omega, by rw [hcl]; exact ⟨fun hz => absurd hz (by omega), fun hz => absurd (hin.2 (hz.2.1 hq)) hmem⟩⟩)
 refine R6 ?_
 refine sB (qE rfl rfl) rfl rfl (fun h209 => ?_) (fun h209 => ?_)
 refine sD (nS (qT rfl (tR (sQ (qM rfl) rfl (sQ (A3 rfl) rfl (sL (A5 rfl rfl) rfl rfl ?_))))))
 (have hk5 : k = 5 := (by omega); refine D2 rfl (B0y bd nm (L6 nm) _ (by omega) (hnmS (.inr hk5))) (List.Perm.refl _) rfl rfl (fun v G1 outs hle1 hh => ?_); obtain ⟨hG, rfl, r1, rfl, hr1, _, hr1m⟩ := hh; replace hG := hG.symm; subst hG; have hbd1 : BdS r1 n1 := (by intro cc; rw [hr1m, hbd cc, ← hn1, if_pos hk5, List.mem_cons]; exact or_congr ⟨fun h => (by rw [h]; exact (hnmS (.inr hk5)).symm), fun h => A6Z.1 (h.trans (hnmS (.inr hk5)))⟩ Iff.rfl))
 refine sQ (qA rfl) rfl (sD (nS (tS (tS (tR (sQ (qA rfl) rfl (sD (nS ?_))))))))
 refine B5 ?_
 (have hq : k = 5 := (by omega); have hr2 : r1.size ≤ bd.size + 1 := (by omega); refine K4 (fun (x : Nat × ByteArray) => ⟨[(7, .int .i64 (x.1 : Int)), (4, .pointer (some ⟨b3, 0, none⟩)), (0, .string x.2), (2, .string r1)], [.blk b3 [.int .i64 k, .string nm, .int .i64 num, .int .i64 tk, .slice pt tks.length ct, .int .i64 fk, .slice pf fks.length cf, .int .i64 lb, .slice p ks.length c]], G⟩) (fun x => x.1 ≤ ks.length ∧ x.2.size ≤ out.size + 1 + I2 (ks.take x.1) ∧ (x.2.size = 0 ↔ (out.size = 0 ∧ S8 n1 (ks.take x.1)))) (fun x => ks.length - x.1) (0, out) ?_ ?_ ?_)
 (simp only [E2]; exact C9)
 (exact ⟨Nat.zero_le _, by dsimp only; omega, by simp [S8]⟩)
 (rintro ⟨i, o⟩ ⟨hi, hos, hoz⟩; simp only [] at hi hos hoz ⊢; have hct := A0v ks (i + 1))
 refine tS (tS (tR (sQ (qM rfl) rfl (sQ (A3 rfl) rfl (sL (A5 rfl rfl) rfl rfl (sQ (D8 rfl rfl) rfl ?_))))))
 refine sB (J3 rfl rfl) rfl rfl (fun h239 => ?_) (fun h239 => ?_)
 refine sD (nS (qT rfl (tK (nS (tS ?_)))))
 refine B5 ?_
 (obtain ⟨bx, ox, e, rfl, hl, hat, hre, hgb⟩ := hsl.kidTm hkl (i := i) (by omega) (by omega); rw [A0u (by omega)] at hct)
 refine tR (sQ (qM rfl) rfl (sQ (A3 rfl) rfl (sL (A5 rfl rfl) rfl rfl (sQ (qM rfl) rfl ?_))))
 refine sP (C2 (j := i) rfl rfl rfl (by omega)) rfl rfl ?_
 refine sL (A9 rfl rfl (hat _) hl) rfl rfl ?_
 refine sQ (qM rfl) rfl ?_
 (refine D2 rfl (ih ks[i] (List.getElem_mem (by omega)) _ _ _ n1 _ _ (hvk i (by omega)) (by omega) (by omega) hbd1 hre) (List.Perm.refl _) rfl rfl (fun v G1 outs hle1 hh => ?_); obtain ⟨hG, rfl, r3, rfl, hr3, hr3z⟩ := hh; replace hG := hG.symm; subst hG)
 refine sQ (qA rfl) rfl (sD (C8 (nS (tR (sQ (qM rfl) rfl ?_)))))
 refine sP (H6 rfl rfl (by omega) (by omega)) rfl rfl ?_
 refine sQ (qA rfl) rfl (sD ?_)
 refine K3 (i + 1, r3) ?_ ?_ ?_
 (simp only [E2]; exact C9)
 (dsimp only; exact ⟨by omega, by rw [A0u (by omega)]; omega, by rw [hr3z, hoz, A60 (by omega), and_assoc]⟩)
 (show ks.length - (i + 1) < ks.length - i; omega)
 refine N5 ?_
 refine E5 (outs := []) (rT rfl) A0.nil ?_
 (exact ⟨rfl, rfl, _, rfl, by have := A0v ks i; omega, by rw [hoz, hcl, show ks.take i = ks by rw [List.take_of_length_le (by omega)]]; exact ⟨fun hz => ⟨hz.1, fun h1 => by first | exact hin.1 hmem | omega, hz.2⟩, fun hz => ⟨hz.1, hz.2.2⟩⟩⟩)
 refine sD (nS (cF rfl (tK (nS (tS (tS (tR (sQ (qA rfl) rfl (sD (nS ?_))))))))))
 refine B5 ?_
 (have hbd1 : BdS bd n1 := (by rw [← hn1, if_neg (by omega)]; exact hbd); refine K4 (fun (x : Nat × ByteArray) => ⟨[(7, .int .i64 (x.1 : Int)), (4, .pointer (some ⟨b3, 0, none⟩)), (0, .string x.2), (2, .string bd)], [.blk b3 [.int .i64 k, .string nm, .int .i64 num, .int .i64 tk, .slice pt tks.length ct, .int .i64 fk, .slice pf fks.length cf, .int .i64 lb, .slice p ks.length c]], G⟩) (fun x => x.1 ≤ ks.length ∧ x.2.size ≤ out.size + 1 + I2 (ks.take x.1) ∧ (x.2.size = 0 ↔ (out.size = 0 ∧ S8 n1 (ks.take x.1)))) (fun x => ks.length - x.1) (0, out) ?_ ?_ ?_)
 (simp only [E2]; exact C9)
 (exact ⟨Nat.zero_le _, by dsimp only; omega, by simp [S8]⟩)
 (rintro ⟨i, o⟩ ⟨hi, hos, hoz⟩; simp only [] at hi hos hoz ⊢; have hct := A0v ks (i + 1))
 refine tS (tS (tR (sQ (qM rfl) rfl (sQ (A3 rfl) rfl (sL (A5 rfl rfl) rfl rfl (sQ (D8 rfl rfl) rfl ?_))))))
 refine sB (J3 rfl rfl) rfl rfl (fun h310 => ?_) (fun h310 => ?_)
 refine sD (nS (qT rfl (tK (nS (tS ?_)))))
 refine B5 ?_
 (obtain ⟨bx, ox, e, rfl, hl, hat, hre, hgb⟩ := hsl.kidTm hkl (i := i) (by omega) (by omega); rw [A0u (by omega)] at hct)
 refine tR (sQ (qM rfl) rfl (sQ (A3 rfl) rfl (sL (A5 rfl rfl) rfl rfl (sQ (qM rfl) rfl ?_))))
 refine sP (C2 (j := i) rfl rfl rfl (by omega)) rfl rfl ?_
 refine sL (A9 rfl rfl (hat _) hl) rfl rfl ?_
 refine sQ (qM rfl) rfl ?_
 (refine D2 rfl (ih ks[i] (List.getElem_mem (by omega)) _ _ _ n1 _ _ (hvk i (by omega)) (by omega) (by omega) hbd1 hre) (List.Perm.refl _) rfl rfl (fun v G1 outs hle1 hh => ?_); obtain ⟨hG, rfl, r3, rfl, hr3, hr3z⟩ := hh; replace hG := hG.symm; subst hG)
 refine sQ (qA rfl) rfl (sD (C8 (nS (tR (sQ (qM rfl) rfl ?_)))))
 refine sP (H6 rfl rfl (by omega) (by omega)) rfl rfl ?_
 refine sQ (qA rfl) rfl (sD ?_)
 refine K3 (i + 1, r3) ?_ ?_ ?_
 (simp only [E2]; exact C9)
 (dsimp only; exact ⟨by omega, by rw [A0u (by omega)]; omega, by rw [hr3z, hoz, A60 (by omega), and_assoc]⟩)
 (show ks.length - (i + 1) < ks.length - i; omega)
 refine N5 ?_
 refine E5 (outs := []) (rT rfl) A0.nil ?_
 (exact ⟨rfl, rfl, _, rfl, by have := A0v ks i; omega, by rw [hoz, hcl, show ks.take i = ks by rw [List.take_of_length_le (by omega)]]; exact ⟨fun hz => ⟨hz.1, fun h1 => by first | exact hin.1 hmem | omega, hz.2⟩, fun hz => ⟨hz.1, hz.2.2⟩⟩⟩)
mutual
theorem B0z : ∀ (t : Tm) (d : Int) (bnd : ByteArray) (f : List Bool) (ns : List ByteArray), M1 12 14 t d = true → BdS bnd ns → R8 ns t → mFr bnd t f = f
 | .mk k nm num ty fr lb ks, d, bnd, f, ns, hs, hb, h => by
  obtain ⟨_, _, h3, h4⟩ := V7 hs
  have hnm := (U9.1 h3).2.1
  rw [R8] at h
  have h2 : ¬(k = 1 ∧ L6 nm ∉ bnd.data.toList) := fun hc => hc.2 ((hb _).2 (by rw [← (A1C (hnm (.inl hc.1))).1]; exact h.1 hc.1))
  rw [mFr, if_neg h2]
  refine B0A ks _ _ _ _ h4 ?_ h.2
  by_cases hk : k = 5
  ·rw [if_pos hk, if_pos hk]
   intro c
   have e1 := (A1C (hnm (.inr hk))).1
   rw [A3h, hb c, List.mem_cons, or_comm]
   refine or_congr ?_ Iff.rfl
   rw [e1, A6Z]; simp
  ·rw [if_neg hk, if_neg hk]; exact hb
theorem B0A : ∀ (ts : List Tm) (d : Int) (bnd : ByteArray) (f : List Bool) (ns : List ByteArray), N6 12 14 ts d = true → BdS bnd ns → S8 ns ts → V4 bnd ts f = f
 | [], _, _, _, _, _, _, _ => by rw [V4]
 | t :: ts, d, bnd, f, ns, hs, hb, h => by
  rw [N6, Bool.and_eq_true] at hs
  rw [S8] at h
  rw [V4, B0z t d bnd f ns hs.1 hb h.1, B0A ts d bnd f ns hs.2 hb h.2]
end
theorem B5J : BdS ⟨⟨[]⟩⟩ [] := fun c => by simp
theorem B5K (t : Tm) (d : Int) (G : IM) (cells : List Value) (hv : M1 12 14 t d = true) (hb : E6 t ≤ 1000) (hr : B1 G t cells) :
  Fn Tryz.prog 61 [.agg ⟨cells⟩] [] G (fun G' v outs => G' = G ∧ outs = [] ∧ ∃ s, v = .string s ∧ (s = ⟨⟨[]⟩⟩ ↔ R8 [] t)) := by
 have hRl := hr.len
 have hRo := hr.one
 have hF := fun b => B5E t d ⟨⟨[]⟩⟩ b (List.replicate 26 false) G cells hv (by simp) (by show 0 + _ ≤ _; omega) hr
 have hlf := A33 t ⟨⟨[]⟩⟩ (List.replicate 26 false)
 have hcl := B0r t d ⟨⟨[]⟩⟩ (List.replicate 26 false) [] hv (by simp) (fun c hc => by cases hc)
 have hce := B0z t d ⟨⟨[]⟩⟩ (List.replicate 26 false) [] hv B5J
 rw [List.length_replicate] at hlf
 generalize mFr ⟨⟨[]⟩⟩ t (List.replicate 26 false) = fs at hF hlf hcl hce
 have hall : R8 [] t → ∀ j, j < 26 → fs[j]? = some false := fun h j hj => by rw [hce h, List.getElem?_replicate, if_pos hj]
 have hfl := (B5C fs).trans hlf
 have hfo := B5D fs
 simp only [List.replicate, List.map] at hF
 refine B7 Tryz.func61 rfl Tryz.ntmps61 Tryz.results61 rfl ?_
 intro w0
 refine tS (tR ?_)
 refine sE (D5 rfl rfl) rfl (fun b3 => ?_)
 refine sQ (qA rfl) rfl (sD (nS (tS (tR ?_))))
 refine sE (B6 rfl) rfl (fun b9 => ?_)
 refine sD (nS (tS (tR ?_)))
 refine sL (A9 rfl rfl (C7 (by repeat first | exact mH | apply mT)) hRl) rfl rfl ?_
 (refine D2 rfl (hF _) (Pk.perm (by repeat (first | exact Pk.here | apply Pk.there))) rfl rfl (fun v G1 outs hle1 hh => ?_); obtain ⟨hG, rfl, rfl⟩ := hh; replace hG := hG.symm; subst hG)
 refine sD (nS (tS (tR (sQ (qA rfl) rfl (sD (nS (tS (tS (tR ?_)))))))))
 refine sL (A9 rfl rfl (C7 (by repeat first | exact mH | apply mT)) hfl) rfl rfl ?_
 refine sQ (qM rfl) rfl (sD (nS ?_))
 refine B5 ?_
 (refine K4 (fun (x : Nat × ByteArray) => ⟨[(10, .int .i64 (x.1 : Int)), (9, .agg ⟨fs.map Value.bool⟩), (4, .string x.2)], [], G⟩) (fun x => x.1 ≤ 26 ∧ x.2.size ≤ x.1 ∧ (x.2 = ⟨⟨[]⟩⟩ ↔ ∀ j, j < x.1 → fs[j]? = some false)) (fun x => 26 - x.1) (0, ⟨⟨[]⟩⟩) ?_ ?_ ?_)
 (simp only [E2]; exact C9)
 (exact ⟨by omega, by show 0 ≤ 0; omega, ⟨fun _ j hj => absurd hj (Nat.not_lt_zero j), fun _ => rfl⟩⟩)
 (rintro ⟨i, o⟩ ⟨hi, hos, hof⟩; simp only [] at hi hos hof ⊢)
 refine tS (tR ?_)
 refine sB (J3 rfl rfl) rfl rfl (fun h37 => ?_) (fun h37 => ?_)
 refine sD (nS (tS (qT rfl (tK (nS (tS ?_))))))
 refine B5 ?_
 refine tS (tR (sQ (qM rfl) rfl ?_))
 (obtain ⟨bv, hbv⟩ : ∃ bv, fs[i]? = some bv := ⟨fs[i]'(by omega), List.getElem?_eq_getElem (by omega)⟩; refine sP (B5x rfl rfl rfl (by omega) (by rw [List.getElem?_map, hbv]; rfl)) rfl rfl ?_; cases bv)
 refine sQ (qA rfl) rfl (sQ (qA rfl) rfl (sD (nS (tS (tR (sQ (qM rfl) rfl (sD (nS (cF rfl (tK (C8 (nS (tR ?_)))))))))))))
 refine sP (H6 rfl rfl (by omega) (by omega)) rfl rfl ?_
 refine sQ (qM rfl) rfl (sD ?_)
 refine K3 (i + 1, o) ?_ ?_ ?_
 (simp only [E2]; exact C9)
 (dsimp only; exact ⟨by omega, by omega, by rw [hof]; exact ⟨fun ho j hj => (by by_cases he : j = i; (subst he; exact hbv); exact ho j (by omega)), fun ho j hj => ho j (by omega)⟩⟩)
 (show 26 - (i + 1) < 26 - i; omega)
 refine W2 ?_
 refine sP (H6 rfl rfl (by omega) (by omega)) rfl rfl ?_
 refine sP (B1V rfl rfl rfl (by omega) (by omega)) rfl rfl ?_
 (refine E0 (D0 rfl rfl rfl (by omega) (by unfold maxLen; omega) rfl) rfl ?_; rintro _ ⟨bq, rfl⟩)
 refine sL (B1W (xs := [97 + (i : Int)]) rfl rfl rfl rfl rfl (K9 (by repeat first | exact mH | apply mT))) rfl rfl ?_
 (have hs1 := B5F (97 + (i : Int)) (by omega); refine sP (A0P rfl rfl (by omega)) rfl rfl ?_)
 refine sQ (qA rfl) rfl (sD (C8 (nS (tR ?_))))
 refine sP (H6 rfl rfl (by omega) (by omega)) rfl rfl ?_
 refine sQ (qM rfl) rfl (sD ?_)
 (have hs2 := hs1; refine K3 (i + 1, o ++ strOfNums [97 + (i : Int)]) ?_ ?_ ?_)
 (simp only [E2]; exact C9)
 (dsimp only; exact ⟨by omega, by rw [ByteArray.size_append]; omega, ⟨fun ho => (by have := congrArg ByteArray.size ho; rw [ByteArray.size_append, hs1] at this; have h0 : (⟨⟨[]⟩⟩ : ByteArray).size = 0 := rfl; omega), fun ho => (by have := ho i (by omega); rw [hbv] at this; cases this)⟩⟩)
 (show 26 - (i + 1) < 26 - i; omega)
 refine Q9 ?_
 refine E5 (outs := []) (rT rfl) A0.nil ?_
 (exact ⟨rfl, rfl, _, rfl, by rw [hof]; exact ⟨fun ho => hcl (fun j hj => ho j (by omega)), fun h j hj => hall h j (by omega)⟩⟩)
def P8 (x : List Value) (n : Nat) (ops : J0) : Prop := n = ops.length ∧ x = (ops.map A24).flatten ∧ ∀ y ∈ ops, C6 y.1 ∧ C6 y.2
theorem P8.nil : P8 [] 0 [] := ⟨rfl, rfl, by simp⟩
theorem P8.o {x : List Value} {n : Nat} {a : J0} (h : P8 x n a) : A25 x n := ⟨a, h⟩
theorem P8.app {x y : List Value} {n m : Nat} {a b : J0} (h : P8 x n a) (h' : P8 y m b) : P8 (x ++ y) (n + m) (a ++ b) := by
 obtain ⟨rfl, rfl, ha⟩ := h
 obtain ⟨rfl, rfl, hb⟩ := h'
 refine ⟨by simp, by simp, fun z hz => ?_⟩
 rcases List.mem_append.1 hz with hz | hz
 ·exact ha z hz
 ·exact hb z hz
theorem P8.one {a b : Int} (ha : C6 a) (hb : C6 b) : P8 [.int .i64 a, .int .i64 b] 1 [(a, b)] := ⟨rfl, rfl, by simp; exact ⟨ha, hb⟩⟩
theorem P8.snoc {x : List Value} {n : Nat} {l : J0} {a b : Int} (h : P8 x n l) (ha : C6 a) (hb : C6 b) : P8 (x ++ [.int .i64 a, .int .i64 b]) (n + 1) (l ++ [(a, b)]) := h.app (.one ha hb)
theorem P8.len {x : List Value} {n : Nat} {a : J0} (h : P8 x n a) : x.length = n * 2 := h.o.len
theorem P8.ones {x : List Value} {n : Nat} {a : J0} (h : P8 x n a) : ∀ u ∈ x, u.oneCell' = true := h.o.ones
theorem P8.to {x : List Value} {n : Nat} {a b : J0} (h : P8 x n a) (hab : a = b) : P8 x n b := by subst hab; exact h
theorem P8.r {G : IM} {x : List Value} {p : Option Addr} {n c : Nat} {a : J0} (h : P8 x n a) (hs : Sl G p n c 2 x) : T0 G a p n c := by
 obtain ⟨rfl, rfl, ha⟩ := h
 refine ⟨C5.of hs (by simp) ?_ ?_, rfl, ha⟩
 ·intro e he; obtain ⟨y, _, rfl⟩ := List.mem_map.1 he; rfl
 ·intro e he; obtain ⟨y, _, rfl⟩ := List.mem_map.1 he; rfl
def X6 (ns : List ByteArray) : ByteArray := ⟨(ns.reverse.map L6).toArray⟩
theorem A61 {nm : ByteArray} {ns : List ByteArray} (h : nm = ⟨#[L6 nm]⟩) : X6 ns ++ nm = X6 (nm :: ns) := by
 rw [h]
 apply ByteArray.ext
 rw [ByteArray.data_append]
 simp [X6, L6]
theorem A34 (ns : List ByteArray) : (X6 ns).size = ns.length := by simp [X6, ByteArray.size]
def A2F (ns : List ByteArray) : Prop := ∀ x ∈ ns, x = ⟨#[L6 x]⟩
theorem A62 {x : ByteArray} : ∀ {ns : List ByteArray} {j : Nat}, ns[j]? = some x → (∀ i, i < j → ns[i]? ≠ some x) → T4 x ns = j
 | [], j, h, _ => by simp at h
 | y :: ys, 0, h, _ => by
  have : y = x := by simpa using h
  rw [T4, if_pos this]
 | y :: ys, j + 1, h, h2 => by
  have : ¬y = x := fun he => h2 0 (by omega) (by simp [he])
  rw [T4, if_neg this, A62 (j := j) (by simpa using h) (fun i hi => by simpa using h2 (i + 1) (by omega))]
theorem B5L (ns : List ByteArray) (nm : ByteArray) (G : IM) (hs : ns.length ≤ 1000) (ho : A2F ns) (hnm : nm = ⟨#[L6 nm]⟩) (hm : nm ∈ ns) :
  Fn Tryz.prog 126 [.string (X6 ns), .string nm] [] G (H3 (.int .i64 ((T4 nm ns : Nat) : Int)) G) := by
 obtain ⟨s, hsS⟩ : ∃ s, X6 ns = s := ⟨_, rfl⟩
 have hsz : s.size = ns.length := by rw [← hsS]; exact A34 ns
 have hat : ∀ i, i < ns.length → (s.extract i (i + 1) = nm ↔ ns[ns.length - 1 - i]? = some nm) := fun i hi => by
  have h1 : i < s.size := by omega
  have h2 : ns.length - 1 - i < ns.length := by omega
  conv => lhs; rw [hnm]
  rw [A42 h1, ← hsS]
  show (ns.reverse.map L6)[i]? = some (L6 nm) ↔ _
  rw [List.getElem?_map, List.getElem?_reverse hi, List.getElem?_eq_getElem h2, Option.map_some, Option.some_inj, Option.some_inj]
  constructor
  ·intro he; rw [ho _ (List.getElem_mem h2), he, ← hnm]
  ·intro he; rw [he]
 rw [hsS]
 refine B7 Tryz.func126 rfl Tryz.ntmps126 Tryz.results126 rfl ?_
 intro w0
 refine tS (tR (sQ (qA rfl) rfl (sD (nS (tS (tS (tR (sQ (qM rfl) rfl ?_))))))))
 refine sQ (A0m rfl rfl) rfl ?_
 refine sP (L7 rfl rfl (by omega) (by omega)) rfl rfl ?_
 refine sQ (qA rfl) rfl (sD (nS ?_))
 refine B5 ?_
 (refine K4 (fun (i : Nat) => ⟨[(5, .int .i64 ((i : Int) - 1)), (0, .string s), (1, .string nm)], [], G⟩) (fun i => i ≤ s.size ∧ ∀ j, j < ns.length - i → ns[j]? ≠ some nm) (fun i => i) s.size ?_ ?_ ?_)
 exact C9
 exact ⟨Nat.le_refl _, fun j hj => by omega⟩
 (rintro i ⟨hi, hj⟩)
 refine tS (tS (tR (sQ (qM rfl) rfl ?_)))
 refine sB (Y0 rfl rfl) rfl rfl (fun h24 => ?_) (fun h24 => ?_)
 refine sD (nS (qT rfl (tK (nS (tS ?_)))))
 refine B5 ?_
 refine tS ?_
 (have hi1 : 1 ≤ i := (by omega); have hia := hat (i - 1) (by omega); rw [show ((i : Int) - 1) = ((i - 1 : Nat) : Int) from (by omega)])
 refine tR (sQ (qM rfl) rfl (sQ (qM rfl) rfl (sQ (qM rfl) rfl ?_)))
 refine sP (Z8 (n := 1) rfl rfl (by omega)) rfl rfl ?_
 refine sP (A2a (h := i - 1 + 1) rfl rfl rfl rfl (by omega) (by omega)) rfl rfl ?_
 refine sQ (qM rfl) rfl ?_
 refine sB (A1J rfl rfl) rfl rfl (fun hse => ?_) (fun hse => ?_)
 refine sD (nS (qT rfl (tS (tR (sQ (qM rfl) rfl ?_)))))
 refine sQ (A0m rfl rfl) rfl ?_
 refine sP (L7 rfl rfl (by omega) (by omega)) rfl rfl ?_
 refine sQ (qM rfl) rfl ?_
 refine sP (L7 rfl rfl (by omega) (by omega)) rfl rfl ?_
 refine sQ (qA rfl) rfl (sD (nS (tT (rB (rS (U2 (rB (rS (A6 (rT rfl) ?_)))))))))
 (refine ⟨rfl, congrArg (Value.int .i64) ?_, rfl⟩; rw [A62 (hia.1 hse) (fun j hjj => hj j (by omega)), hsz]; omega)
 refine sD (nS (cF rfl (tK (C8 (nS (tR (sQ (qM rfl) rfl ?_)))))))
 refine sP (L7 rfl rfl (by omega) (by omega)) rfl rfl ?_
 refine sQ (qA rfl) rfl (sD ?_)
 refine K3 (i - 1) ?_ ?_ ?_
 exact C9
 (exact ⟨by omega, fun j hji => (by by_cases he : j = ns.length - i; (subst he; intro hc; exact hse (hia.2 (by rw [show ns.length - 1 - (i - 1) = ns.length - i by omega]; exact hc))); exact hj j (by omega))⟩)
 (show i - 1 < i; omega)
 refine sD (nS (cF rfl (M7 (M8 (N3 (M9 (nS (tS (tR (sQ (qA rfl) rfl (sD (nS (tT (A6 (rT rfl) ?_))))))))))))))
 (exfalso; obtain ⟨j, hj1, hj2⟩ := List.getElem_of_mem hm; exact hj j (by omega) (by rw [List.getElem?_eq_getElem hj1, hj2]))
def W8 (G : IM) (B : Nat) (ops : J0) : IM → Value → List A4 → Prop := fun G' v outs => G' = G ∧ ∃ p n c x, v = .slice p n c ∧ outs = [.slc p c 72 2 n x] ∧ P8 x n ops ∧ 1 ≤ n ∧ n ≤ B
theorem W8.mk {G : IM} {B n c : Nat} {p : Option Addr} {x : List Value} {ops ops' : J0} (h : P8 x n ops') (h0 : ops' = ops) (h1 : 1 ≤ n) (h2 : n ≤ B) : W8 G B ops G (.slice p n c) [.slc p c 72 2 n x] := by
 subst h0; exact ⟨rfl, p, n, c, x, rfl, rfl, h, h1, h2⟩
mutual
def A2G : Tm → Prop
 | .mk k nm _ _ _ _ ks => (k = 1 ∨ k = 5 → nm = ⟨#[L6 nm]⟩) ∧ A10 ks
def A10 : List Tm → Prop
 | [] => True
 | t :: ts => A2G t ∧ A10 ts
end
theorem B0B : ∀ {ts : List Tm}, A10 ts → ∀ t ∈ ts, A2G t
 | [], _, t, h => by cases h
 | t' :: ts, h, t, ht => by
  rw [A10] at h
  rcases List.mem_cons.1 ht with rfl | ht
  ·exact h.1
  ·exact B0B h.2 t ht
theorem A43 (x : ByteArray) : ∀ ns : List ByteArray, T4 x ns ≤ ns.length
 | [] => Nat.le_refl _
 | y :: ys => by
  rw [T4]; split
  ·exact Nat.zero_le _
  ·have := A43 x ys; simp only [List.length_cons]; omega
mutual
theorem B0C (D N : Int) : ∀ (t : Tm) (d : Int), M1 D N t d = true → A2G (D3 t)
 | .mk k nm num ty fr lb ks, d, h => by
  obtain ⟨_, _, h3, h4⟩ := V7 h
  have hL := B0D D N ks _ h4
  have hn := (U9.1 h3).2.1
  rw [D3]
  split
  ·cases ks with
   | nil => rw [I3]; simp [H7, A2G, A10]
   | cons t ts =>
    rw [I3, A10] at hL
    rw [I3]; exact hL.1
  ·rw [A2G]; exact ⟨fun hk => (A1C (hn hk)).1, hL⟩
theorem B0D (D N : Int) : ∀ (ts : List Tm) (d : Int), N6 D N ts d = true → A10 (I3 ts)
 | [], _, _ => by rw [I3, A10]; trivial
 | t :: ts, d, h => by
  rw [N6, Bool.and_eq_true] at h
  rw [I3, A10]
  exact ⟨B0C D N t d h.1, B0D D N ts d h.2⟩
end
mutual
theorem A63 : ∀ (t : Tm) (d : Int) (ns : List ByteArray), M1 12 14 t d = true → R8 ns t → R8 ns (D3 t)
 | .mk k nm num ty fr lb ks, d, ns, h, hc => by
  obtain ⟨_, h14, h3, h4⟩ := V7 h
  rw [R8] at hc
  have hL := B0E ks _ _ h4 hc.2
  rw [D3]
  split
  ·rename_i hk
   rw [if_neg (by omega)] at hL
   cases ks with
   | nil => rw [I3]; simp [H7, R8, S8]
   | cons t ts =>
    rw [I3, S8] at hL
    rw [I3]; exact hL.1
  ·rw [R8]; exact ⟨hc.1, hL⟩
theorem B0E : ∀ (ts : List Tm) (d : Int) (ns : List ByteArray), N6 12 14 ts d = true → S8 ns ts → S8 ns (I3 ts)
 | [], _, _, _, _ => by rw [I3, S8]; trivial
 | t :: ts, d, ns, h, hc => by
  rw [N6, Bool.and_eq_true] at h
  rw [S8] at hc
  rw [I3, S8]
  exact ⟨A63 t d ns h.1 hc.1, B0E ts d ns h.2 hc.2⟩
end
theorem B5M : ∀ (t : Tm) (ns : List ByteArray) (G : IM) (cells : List Value), cOk t → A2G t → A2F ns → R8 ns t → ns.length + E6 t ≤ 1000 → B1 G t cells →
  Fn Tryz.prog 65 [.agg ⟨cells⟩, .string (X6 ns)] [] G (W8 G (2 * E6 t) (H2 ns t)) := by
 refine Tm.ind fun k nm num ty fr lb ks ih ns G cells hc hnk ho hcl0 hb hr => ?_
 simp only [cOk] at hc
 obtain ⟨hnm, hk5, hk9, hcL⟩ := hc
 have hcl := A8U hcL
 rw [A2G] at hnk
 obtain ⟨hn1, hnL⟩ := hnk
 have hnm2 := B0B hnL
 rw [R8] at hcl0
 obtain ⟨hv1, hv2⟩ := hcl0
 have hv2' := fun t ht => A4W hv2 t ht
 obtain ⟨bd, hbd⟩ : ∃ bd, X6 ns = bd := ⟨_, rfl⟩
 have hbs : bd.size = ns.length := by rw [← hbd]; exact A34 ns
 rw [H2, A1B, hbd]
 simp only [E6] at hb ⊢
 obtain ⟨tk, tks⟩ := ty
 obtain ⟨fk, fks⟩ := fr
 obtain ⟨pt, ct, pf, cf, p, c, es, rfl, hk, hnum, hlb, hty, hfr, hsl, hkl⟩ := hr.open9
 have hn := hsl.le
 refine B7 Tryz.func65 rfl Tryz.ntmps65 Tryz.results65 rfl ?_
 intro w0
 refine tS (tR ?_)
 refine sE (D5 rfl rfl) rfl (fun b3 => ?_)
 refine sQ (qA rfl) rfl (sD (nS (tS (tS (tR (sQ (A3 rfl) rfl (sL (A5 rfl rfl) rfl rfl (sD (nS ?_)))))))))
 refine B5 (tS (tR (sB (qE rfl rfl) rfl rfl (fun h17 => ?_) (fun h17 => ?_))))
 refine sQ (qA rfl) rfl (sD (nS (qT rfl (tS (tR (sQ (qM rfl) rfl (sQ (A3 rfl) rfl (sL (A5 rfl rfl) rfl rfl ?_))))))))
 (have hk1 : k = 1 := (by omega); have hI := B5L ns nm G (by omega) ho (hn1 (.inl hk1)) (hv1 hk1); rw [hbd] at hI; have hix : C6 ((T4 nm ns : Nat) : Int) := (by have := A43 nm ns; unfold C6; omega); refine F0 rfl hI rfl rfl ?_)
 refine sQ (D9 rfl rfl) rfl ?_
 (refine E0 (D0 rfl rfl rfl (by omega) (by unfold maxLen; omega) rfl) rfl ?_; rintro _ ⟨b29, rfl⟩)
 refine sQ (qA rfl) rfl (sD (nS (tT (rB (rS ?_)))))
 refine S6 (rT rfl) (by repeat (first | exact Pk.here | apply Pk.there)) ?_
 (obtain rfl : k = 1 := (by omega); exact W8.mk (.one ⟨by decide, by decide⟩ hix) (by simp [N7]) (by omega) (by omega))
 refine sQ (qA rfl) rfl (sD (nS (cF rfl (tS (tR ?_)))))
 refine sB (qE rfl rfl) rfl rfl (fun h44 => ?_) (fun h44 => ?_)
 refine sQ (qA rfl) rfl (sD (nS (qT rfl (tS (tR (sQ (A3 rfl) rfl (sL (A5 rfl rfl) rfl rfl (sQ (D9 rfl rfl) rfl ?_))))))))
 (refine E0 (D0 rfl rfl rfl (by omega) (by unfold maxLen; omega) rfl) rfl ?_; rintro _ ⟨b54, rfl⟩)
 refine sQ (qA rfl) rfl (sD (nS (tT (rB (rS ?_)))))
 refine S6 (rT rfl) (by repeat (first | exact Pk.here | apply Pk.there)) ?_
 (obtain rfl : k = 2 := (by omega); exact W8.mk (.one ⟨by decide, by decide⟩ hnum) (by simp [N7]) (by omega) (by omega))
 refine sQ (qA rfl) rfl (sD (nS (cF rfl (tS (tR ?_)))))
 refine sB (qE rfl rfl) rfl rfl (fun h69 => ?_) (fun h69 => ?_)
 refine sQ (qA rfl) rfl (sD (nS (qT rfl (tS (tR (sQ (D9 rfl rfl) rfl ?_))))))
 (refine E0 (D0 rfl rfl rfl (by omega) (by unfold maxLen; omega) rfl) rfl ?_; rintro _ ⟨b77, rfl⟩)
 refine sQ (qA rfl) rfl (sD (nS (tT (rB (rS ?_)))))
 refine S6 (rT rfl) (by repeat (first | exact Pk.here | apply Pk.there)) ?_
 (obtain rfl : k = 3 := (by omega); exact W8.mk (.one ⟨by decide, by decide⟩ ⟨by decide, by decide⟩) (by simp [N7]) (by omega) (by omega))
 refine sQ (qA rfl) rfl (sD (nS (cF rfl (tS (tR ?_)))))
 refine sB (qE rfl rfl) rfl rfl (fun h92 => ?_) (fun h92 => ?_)
 refine sQ (qA rfl) rfl (sD (nS (qT rfl (tS (tR (sQ (D9 rfl rfl) rfl ?_))))))
 (refine E0 (D0 rfl rfl rfl (by omega) (by unfold maxLen; omega) rfl) rfl ?_; rintro _ ⟨b100, rfl⟩)
 refine sQ (qA rfl) rfl (sD (nS (tT (rB (rS ?_)))))
 refine S6 (rT rfl) (by repeat (first | exact Pk.here | apply Pk.there)) ?_
 (obtain rfl : k = 4 := (by omega); exact W8.mk (.one ⟨by decide, by decide⟩ ⟨by decide, by decide⟩) (by simp [N7]) (by omega) (by omega))
 refine sQ (qA rfl) rfl (sD (nS (cF rfl (tS (tR ?_)))))
 refine sB (qE rfl rfl) rfl rfl (fun h115 => ?_) (fun h115 => ?_)
 refine sQ (qA rfl) rfl (sD (nS (qT rfl (tS ?_))))
 (have hq : k = 5 := (by omega); have hq1 := hk5 hq; have hcn := B3A hq1; obtain ⟨bx, ox, e, rfl, hl, hat, hre, hgb⟩ := hsl.kidTm hkl (i := 0) (by omega) (by omega); refine I0 I1 rfl ?_)
 refine J2 (i := 0) (l' := [tt,ff,ff,ff,ff,ff,ff,ff,ff,ff,ff,ff,ff]) rfl F4 (A3 rfl) rfl (by kernel_rfl) rfl rfl ?_
 refine aL 1 rfl (A5 rfl rfl) rfl ?_
 refine aP 2 rfl (C2 (j := 0) rfl rfl rfl (by omega)) rfl ?_
 refine aL 3 rfl (A9 rfl rfl (hat _) hl) rfl ?_
 refine aP 4 rfl (qM rfl) rfl ?_
 refine aP 5 rfl (A3 rfl) rfl ?_
 refine aL 6 rfl (A5 rfl rfl) rfl ?_
 refine aP 7 rfl (A0P rfl rfl (by omega)) rfl ?_
 refine aP 9 rfl (D9 rfl rfl) rfl ?_
 refine A0N (j := 8) (j' := 10) (by kernel_rfl) ?_ ?_
 (have hK5 := ih ks[0] (List.getElem_mem (by omega)) (nm :: ns) G _ (hcl _ (List.getElem_mem (by omega))) (hnm2 _ (List.getElem_mem (by omega))) (by intro y hy; rcases List.mem_cons.1 hy with rfl | hy; exact hn1 (.inr hq); exact ho y hy) (by have := hv2' ks[0] (List.getElem_mem (by omega)); rwa [if_pos hq] at this) (by simp only [List.length_cons]; omega) hre; rw [← A61 (hn1 (.inr hq)), hbd] at hK5; refine A3P (l' := [tt,tt,tt,tt,tt,tt,tt,tt,tt,tt,ff,ff,ff]) rfl rfl hK5 (List.Perm.refl _) rfl rfl rfl (by kernel_rfl) (fun v G3 outs hle3 hh => ?_); obtain ⟨hG, p3, n3, c3, x3, rfl, rfl, ho3, h31, h32⟩ := hh; replace hG := hG.symm; subst hG; refine A3v (fun a w hs => (hs.slc_form (p := p3) (c := c3) (el := 72) (sz := 2) (n := n3) (cs := x3) (by repeat first | exact mH | apply mT)).2.2 (by omega)) (fun hq => ?_); obtain ⟨g3, rfl⟩ := hq)
 refine A8 10 ?_
 (refine J9 rfl (D0 rfl rfl rfl (by omega) (by unfold maxLen; omega) rfl) rfl rfl ?_; rintro _ ⟨b134, rfl⟩)
 refine A8 11 ?_
 (refine S9 rfl rfl rfl rfl rfl rfl (fun _ _ => by repeat (first | exact Sw.here | apply Sw.there)) (K9 (by repeat first | exact mH | apply mT)) rfl (by simp [Value.oneCell']) (by unfold maxLen; omega) (by omega) rfl rfl (by repeat (first | exact B0.nil | apply B0.dep (by decide +kernel) | apply B0.im (by decide +kernel) (by assumption) (by repeat first | exact mH | apply mT) | apply B0.blk (by decide +kernel) (by repeat (first | exact Pk.here | apply Pk.there)) (by repeat first | exact mH | apply mT))) (fun p7 c7 => ?_); refine A3v (fun a w hs => (hs.slc_form (p := p7) (c := c7) (el := 72) (sz := 2) (n := n3 + 1) (by repeat first | exact mH | apply mT)).2.2 (by omega)) (fun hq => ?_); obtain ⟨g7, rfl⟩ := hq; have ho7 := ho3.snoc (a := 5) (b := 0) ⟨by decide, by decide⟩ ⟨by decide, by decide⟩)
 refine aP 12 rfl (qA rfl) rfl ?_
 refine D6 (nS (tS (tR (sQ (qM rfl) rfl (sQ (D8 rfl rfl) rfl (sQ (D9 rfl rfl) rfl ?_))))))
 (refine E0 (D0 rfl rfl rfl (by omega) (by unfold maxLen; omega) rfl) rfl ?_; rintro _ ⟨b145, rfl⟩)
 refine sQ (qM rfl) rfl ?_
 (refine T1 rfl rfl rfl rfl rfl (fun _ _ => by repeat (first | exact Sw.here | apply Sw.there)) (K9 (by repeat first | exact mH | apply mT)) ho7.len ho7.ones (by unfold maxLen; omega) (by omega) rfl (fun pn cn => ?_))
 refine sQ (qA rfl) rfl (sD (nS (tT (rB (rS ?_)))))
 refine S6 (rT rfl) (by repeat (first | exact Pk.here | apply Pk.there)) ?_
 (exact W8.mk ((P8.one ⟨by decide, by decide⟩ (A4F (by omega))).app ho7) (by rw [N7, if_neg (by omega), if_neg (by omega), if_neg (by omega), if_neg (by omega), if_pos hq, if_pos hq, List.getD_eq_getElem?_getD, List.getElem?_map, List.getElem?_eq_getElem (by omega)]; simp [ho3.1]) (by omega) (by omega))
 (refine J9 rfl (D0 rfl rfl rfl (by omega) (by unfold maxLen; omega) rfl) rfl rfl ?_; rintro _ ⟨b156, rfl⟩)
 refine A8 8 ?_
 (have hK5 := ih ks[0] (List.getElem_mem (by omega)) (nm :: ns) G _ (hcl _ (List.getElem_mem (by omega))) (hnm2 _ (List.getElem_mem (by omega))) (by intro y hy; rcases List.mem_cons.1 hy with rfl | hy; exact hn1 (.inr hq); exact ho y hy) (by have := hv2' ks[0] (List.getElem_mem (by omega)); rwa [if_pos hq] at this) (by simp only [List.length_cons]; omega) hre; rw [← A61 (hn1 (.inr hq)), hbd] at hK5; refine A3P (l' := [tt,tt,tt,tt,tt,tt,tt,tt,tt,tt,tt,ff,ff]) rfl rfl hK5 (List.Perm.refl _) rfl rfl rfl (by kernel_rfl) (fun v G3 outs hle3 hh => ?_); obtain ⟨hG, p3, n3, c3, x3, rfl, rfl, ho3, h31, h32⟩ := hh; replace hG := hG.symm; subst hG; refine A3v (fun a w hs => (hs.slc_form (p := p3) (c := c3) (el := 72) (sz := 2) (n := n3) (cs := x3) (by repeat first | exact mH | apply mT)).2.2 (by omega)) (fun hq => ?_); obtain ⟨g3, rfl⟩ := hq)
 refine A8 11 ?_
 (refine S9 rfl rfl rfl rfl rfl rfl (fun _ _ => by repeat (first | exact Sw.here | apply Sw.there)) (K9 (by repeat first | exact mH | apply mT)) rfl (by simp [Value.oneCell']) (by unfold maxLen; omega) (by omega) rfl rfl (by repeat (first | exact B0.nil | apply B0.dep (by decide +kernel) | apply B0.im (by decide +kernel) (by assumption) (by repeat first | exact mH | apply mT) | apply B0.blk (by decide +kernel) (by repeat (first | exact Pk.here | apply Pk.there)) (by repeat first | exact mH | apply mT))) (fun p7 c7 => ?_); refine A3v (fun a w hs => (hs.slc_form (p := p7) (c := c7) (el := 72) (sz := 2) (n := n3 + 1) (by repeat first | exact mH | apply mT)).2.2 (by omega)) (fun hq => ?_); obtain ⟨g7, rfl⟩ := hq; have ho7 := ho3.snoc (a := 5) (b := 0) ⟨by decide, by decide⟩ ⟨by decide, by decide⟩)
 refine aP 12 rfl (qA rfl) rfl ?_
 refine D6 (nS (tS (tR (sQ (qM rfl) rfl (sQ (D8 rfl rfl) rfl (sQ (D9 rfl rfl) rfl ?_))))))
 (refine E0 (D0 rfl rfl rfl (by omega) (by unfold maxLen; omega) rfl) rfl ?_; rintro _ ⟨b169, rfl⟩)
 refine sQ (qM rfl) rfl ?_
 (refine T1 rfl rfl rfl rfl rfl (fun _ _ => by repeat (first | exact Sw.here | apply Sw.there)) (K9 (by repeat first | exact mH | apply mT)) ho7.len ho7.ones (by unfold maxLen; omega) (by omega) rfl (fun pn cn => ?_))
 refine sQ (qA rfl) rfl (sD (nS (tT (rB (rS ?_)))))
 refine S6 (rT rfl) (by repeat (first | exact Pk.here | apply Pk.there)) ?_
 (exact W8.mk ((P8.one ⟨by decide, by decide⟩ (A4F (by omega))).app ho7) (by rw [N7, if_neg (by omega), if_neg (by omega), if_neg (by omega), if_neg (by omega), if_pos hq, if_pos hq, List.getD_eq_getElem?_getD, List.getElem?_map, List.getElem?_eq_getElem (by omega)]; simp [ho3.1]) (by omega) (by omega))
 refine sQ (qA rfl) rfl (sD (nS (cF rfl (tS (tR ?_)))))
 refine sB (qE rfl rfl) rfl rfl (fun h186 => ?_) (fun h186 => ?_)
 refine sQ (qA rfl) rfl (sD (nS (qT rfl (tS ?_))))
 (have hq : k = 9 := (by omega); have hq1 := hk9 hq; have hcn := B3z hq1; obtain ⟨bx, ox, e0, rfl, hl0, hat0, hre0, hgb0⟩ := hsl.kidTm hkl (i := 0) (by omega) (by omega); obtain ⟨_, _, e1, hp1, hl1, hat1, hre1, hgb1⟩ := hsl.kidTm hkl (i := 1) (by omega) (by omega); cases hp1; obtain ⟨_, _, e2, hp2, hl2, hat2, hre2, hgb2⟩ := hsl.kidTm hkl (i := 2) (by omega) (by omega); cases hp2)
 refine tR (sQ (A3 rfl) rfl (sL (A5 rfl rfl) rfl rfl ?_))
 refine sP (C2 (j := 1) rfl rfl rfl (by omega)) rfl rfl ?_
 refine sL (A9 rfl rfl (hat1 _) hl1) rfl rfl ?_
 refine sQ (qM rfl) rfl ?_
 (have hKi := ih ks[1] (List.getElem_mem (by omega)) ns G _ (hcl _ (List.getElem_mem (by omega))) (hnm2 _ (List.getElem_mem (by omega))) ho (by have := hv2' ks[1] (List.getElem_mem (by omega)); rwa [if_neg (show ¬k = 5 by omega)] at this) (by omega) hre1; rw [hbd] at hKi; refine D2 rfl hKi (List.Perm.refl _) rfl rfl (fun v G3 outs hle3 hh => ?_); obtain ⟨hG, p4, n4, c4, x4, rfl, rfl, ho4, h41, h42⟩ := hh; replace hG := hG.symm; subst hG; refine A1o (fun a w hs => (hs.slc_form (p := p4) (c := c4) (el := 72) (sz := 2) (n := n4) (cs := x4) (by repeat first | exact mH | apply mT)).2.2 (by omega)) (fun hq => ?_); obtain ⟨g4, rfl⟩ := hq)
 refine sQ (qA rfl) rfl (sD (nS (tS (tR (sQ (A3 rfl) rfl (sL (A5 rfl rfl) rfl rfl ?_))))))
 refine sP (C2 (j := 2) rfl rfl rfl (by omega)) rfl rfl ?_
 refine sL (A9 rfl rfl (hat2 _) hl2) rfl rfl ?_
 refine sQ (qM rfl) rfl ?_
 (have hKi := ih ks[2] (List.getElem_mem (by omega)) ns G _ (hcl _ (List.getElem_mem (by omega))) (hnm2 _ (List.getElem_mem (by omega))) ho (by have := hv2' ks[2] (List.getElem_mem (by omega)); rwa [if_neg (show ¬k = 5 by omega)] at this) (by omega) hre2; rw [hbd] at hKi; refine D2 rfl hKi (List.Perm.refl _) rfl rfl (fun v G3 outs hle3 hh => ?_); obtain ⟨hG, p5, n5, c5, x5, rfl, rfl, ho5, h51, h52⟩ := hh; replace hG := hG.symm; subst hG; refine A1o (fun a w hs => (hs.slc_form (p := p5) (c := c5) (el := 72) (sz := 2) (n := n5) (cs := x5) (by repeat first | exact mH | apply mT)).2.2 (by omega)) (fun hq => ?_); obtain ⟨g5, rfl⟩ := hq)
 refine sQ (qA rfl) rfl (sD (nS (tS (tR (sQ (A3 rfl) rfl (sL (A5 rfl rfl) rfl rfl ?_))))))
 refine sP (C2 (j := 0) rfl rfl rfl (by omega)) rfl rfl ?_
 refine sL (A9 rfl rfl (hat0 _) hl0) rfl rfl ?_
 refine sQ (qM rfl) rfl ?_
 (have hKi := ih ks[0] (List.getElem_mem (by omega)) ns G _ (hcl _ (List.getElem_mem (by omega))) (hnm2 _ (List.getElem_mem (by omega))) ho (by have := hv2' ks[0] (List.getElem_mem (by omega)); rwa [if_neg (show ¬k = 5 by omega)] at this) (by omega) hre0; rw [hbd] at hKi; refine D2 rfl hKi (List.Perm.refl _) rfl rfl (fun v G3 outs hle3 hh => ?_); obtain ⟨hG, p3, n3, c3, x3, rfl, rfl, ho3, h31, h32⟩ := hh; replace hG := hG.symm; subst hG; refine A1o (fun a w hs => (hs.slc_form (p := p3) (c := c3) (el := 72) (sz := 2) (n := n3) (cs := x3) (by repeat first | exact mH | apply mT)).2.2 (by omega)) (fun hq => ?_); obtain ⟨g3, rfl⟩ := hq)
 refine sQ (qM rfl) rfl (sQ (D8 rfl rfl) rfl ?_)
 refine sP (H6 rfl rfl (by omega) (by omega)) rfl rfl ?_
 refine sQ (D9 rfl rfl) rfl ?_
 (refine E0 (D0 rfl rfl rfl (by omega) (by unfold maxLen; omega) rfl) rfl ?_; rintro _ ⟨b226, rfl⟩)
 (refine T1 rfl rfl rfl rfl rfl (fun _ _ => by repeat (first | exact Sw.here | apply Sw.there)) (K9 (by repeat first | exact mH | apply mT)) rfl (by simp [Value.oneCell']) (by unfold maxLen; omega) (by omega) rfl (fun pn cn => ?_))
 refine sQ (qA rfl) rfl (sD (nS (tS (tR (sQ (qM rfl) rfl (sQ (qM rfl) rfl ?_))))))
 (refine T1 rfl rfl rfl rfl rfl (fun _ _ => by repeat (first | exact Sw.here | apply Sw.there)) (K9 (by repeat first | exact mH | apply mT)) ho4.len ho4.ones (by unfold maxLen; omega) (by omega) rfl (fun pn cn => ?_))
 refine sQ (qM rfl) rfl (sQ (D8 rfl rfl) rfl (sQ (D9 rfl rfl) rfl ?_))
 (refine E0 (D0 rfl rfl rfl (by omega) (by unfold maxLen; omega) rfl) rfl ?_; rintro _ ⟨b239, rfl⟩)
 (refine T1 rfl rfl rfl rfl rfl (fun _ _ => by repeat (first | exact Sw.here | apply Sw.there)) (K9 (by repeat first | exact mH | apply mT)) rfl (by simp [Value.oneCell']) (by unfold maxLen; omega) (by omega) rfl (fun pn cn => ?_))
 refine sQ (qA rfl) rfl (sD (nS (tS (tR (sQ (qM rfl) rfl (sQ (qM rfl) rfl ?_))))))
 (refine T1 rfl rfl rfl rfl rfl (fun _ _ => by repeat (first | exact Sw.here | apply Sw.there)) (K9 (by repeat first | exact mH | apply mT)) ho5.len ho5.ones (by unfold maxLen; omega) (by omega) rfl (fun pn cn => ?_))
 refine sQ (qA rfl) rfl (sD (nS (tT (rB (rS ?_)))))
 refine S6 (rT rfl) (by repeat (first | exact Pk.here | apply Pk.there)) ?_
 (exact W8.mk ((((ho3.snoc ⟨by decide, by decide⟩ (A4F (n := n4 + 1) (by omega))).app ho4).snoc ⟨by decide, by decide⟩ (A4F (n := n5) (by omega))).app ho5) (by rw [N7, if_neg (by omega), if_neg (by omega), if_neg (by omega), if_neg (by omega), if_neg (by omega), if_pos hq, if_neg (by omega)]; simp only [List.getD_eq_getElem?_getD, List.getElem?_map]; rw [List.getElem?_eq_getElem (by omega), List.getElem?_eq_getElem (by omega), List.getElem?_eq_getElem (by omega)]; simp [ho4.1, ho5.1]) (by omega) (by omega))
 refine sQ (qA rfl) rfl (sD (nS (cF rfl (tK (C8 (nS (tS (tR ?_))))))))
 (refine E0 (D0 rfl rfl rfl (by omega) (by unfold maxLen; omega) rfl) rfl ?_; rintro _ ⟨b266, rfl⟩)
 refine sQ (qA rfl) rfl (sD (nS (tS (tS (tR (sQ (qA rfl) rfl (sD (nS ?_))))))))
 refine B5 ?_
 (refine K4 (fun (x : Nat × Option Addr × Nat × Nat × List Value) => ⟨[(10, .int .i64 (x.1 : Int)), (9, .slice x.2.1 x.2.2.1 x.2.2.2.1), (2, .pointer (some ⟨b3, 0, none⟩)), (1, .string bd)], [.slc x.2.1 x.2.2.2.1 72 2 x.2.2.1 x.2.2.2.2, .blk b3 [.int .i64 k, .string nm, .int .i64 num, .int .i64 tk, .slice pt tks.length ct, .int .i64 fk, .slice pf fks.length cf, .int .i64 lb, .slice p ks.length c]], G⟩) (fun x => x.1 ≤ ks.length ∧ P8 x.2.2.2.2 x.2.2.1 ((ks.take x.1).map (H2 ns)).flatten ∧ x.2.2.1 ≤ 2 * I2 (ks.take x.1)) (fun x => ks.length - x.1) (0, some ⟨b266, 0, none⟩, 0, 0, []) ?_ ?_ ?_)
 (simp only [E2]; exact C9)
 (exact ⟨Nat.zero_le _, (by simpa using P8.nil), Nat.zero_le _⟩)
 (rintro ⟨i, pO, nO, cO, xO⟩ ⟨hi, hoO, hnO⟩; simp only [] at hi hoO hnO ⊢; have hct := A0v ks (i + 1); have hct0 := A0v ks i)
 refine tS (tS (tR (sQ (qM rfl) rfl (sQ (A3 rfl) rfl (sL (A5 rfl rfl) rfl rfl (sQ (D8 rfl rfl) rfl ?_))))))
 refine sB (J3 rfl rfl) rfl rfl (fun h288 => ?_) (fun h288 => ?_)
 refine sD (nS (qT rfl (tK (nS (tS ?_)))))
 refine B5 ?_
 (have hil : i < ks.length := (by omega); obtain ⟨bx, ox, e, rfl, hl, hat, hre, hgb⟩ := hsl.kidTm hkl (i := i) (by omega) (by omega); rw [A0u (by omega)] at hct)
 refine tR (sQ (qM rfl) rfl (sQ (A3 rfl) rfl (sL (A5 rfl rfl) rfl rfl (sQ (qM rfl) rfl ?_))))
 refine sP (C2 (j := i) rfl rfl rfl (by omega)) rfl rfl ?_
 refine sL (A9 rfl rfl (hat _) hl) rfl rfl ?_
 refine sQ (qM rfl) rfl ?_
 (have hKi := ih ks[i] (List.getElem_mem (by omega)) ns G _ (hcl _ (List.getElem_mem (by omega))) (hnm2 _ (List.getElem_mem (by omega))) ho (by have := hv2' ks[i] (List.getElem_mem (by omega)); rwa [if_neg (show ¬k = 5 by omega)] at this) (by omega) hre; rw [hbd] at hKi; refine D2 rfl hKi (List.Perm.refl _) rfl rfl (fun v G3 outs hle3 hh => ?_); obtain ⟨hG, p6, n6, c6, x6, rfl, rfl, ho6, h61, h62⟩ := hh; replace hG := hG.symm; subst hG; refine A1o (fun a w hs => (hs.slc_form (p := p6) (c := c6) (el := 72) (sz := 2) (n := n6) (cs := x6) (by repeat first | exact mH | apply mT)).2.2 (by omega)) (fun hq => ?_); obtain ⟨g6, rfl⟩ := hq)
 (refine T1 rfl rfl rfl rfl rfl (fun _ _ => by repeat (first | exact Sw.here | apply Sw.there)) (K9 (by repeat first | exact mH | apply mT)) ho6.len ho6.ones (by unfold maxLen; omega) (by omega) rfl (fun pn cn => ?_))
 refine sQ (qA rfl) rfl (sD (C8 (nS (tR (sQ (qM rfl) rfl ?_)))))
 refine sP (H6 rfl rfl (by omega) (by omega)) rfl rfl ?_
 refine sQ (qA rfl) rfl (sD ?_)
 refine K3 (i + 1, pn, nO + n6, cn, xO ++ x6) ?_ ?_ ?_
 (simp only [E2]; exact C9)
 (dsimp only; exact ⟨by omega, (hoO.app ho6).to (by rw [List.take_succ_eq_append_getElem (by omega), List.map_append, List.flatten_append]; simp), by rw [A0u (by omega)]; omega⟩)
 (show ks.length - (i + 1) < ks.length - i; omega)
 refine N5 ?_
 refine B5 (tS (tR (sB (qE rfl rfl) rfl rfl (fun h338 => ?_) (fun h338 => ?_))))
 refine sQ (qA rfl) rfl (sD (nS (qT rfl (tS (tR (sQ (qM rfl) rfl (sQ (D9 rfl rfl) rfl ?_)))))))
 (refine E0 (D0 rfl rfl rfl (by omega) (by unfold maxLen; omega) rfl) rfl ?_; rintro _ ⟨b347, rfl⟩)
 (refine T1 rfl rfl rfl rfl rfl (fun _ _ => by repeat (first | exact Sw.here | apply Sw.there)) (K9 (by repeat first | exact mH | apply mT)) rfl (by simp [Value.oneCell']) (by unfold maxLen; omega) (by omega) rfl (fun pn cn => ?_))
 refine sQ (qA rfl) rfl (sD (nS (tT (rB (rS ?_)))))
 refine S6 (rT rfl) (by repeat (first | exact Pk.here | apply Pk.there)) ?_
 (exact W8.mk (hoO.snoc ⟨by decide, by decide⟩ ⟨by decide, by decide⟩) (by rw [List.take_of_length_le (by omega), N7, if_neg (by omega), if_neg (by omega), if_neg (by omega), if_neg (by omega), if_neg (by omega), if_neg (by omega), if_neg (by omega)]; unfold V3; (repeat' split) <;> first | rfl | (exfalso; omega)) (by omega) (by omega))
 refine sQ (qA rfl) rfl (sD (nS (cF rfl (tS (tR ?_)))))
 refine sB (qE rfl rfl) rfl rfl (fun h363 => ?_) (fun h363 => ?_)
 refine sQ (qA rfl) rfl (sD (nS (qT rfl (tS (tR (sQ (qM rfl) rfl (sQ (D9 rfl rfl) rfl ?_)))))))
 (refine E0 (D0 rfl rfl rfl (by omega) (by unfold maxLen; omega) rfl) rfl ?_; rintro _ ⟨b372, rfl⟩)
 (refine T1 rfl rfl rfl rfl rfl (fun _ _ => by repeat (first | exact Sw.here | apply Sw.there)) (K9 (by repeat first | exact mH | apply mT)) rfl (by simp [Value.oneCell']) (by unfold maxLen; omega) (by omega) rfl (fun pn cn => ?_))
 refine sQ (qA rfl) rfl (sD (nS (tT (rB (rS ?_)))))
 refine S6 (rT rfl) (by repeat (first | exact Pk.here | apply Pk.there)) ?_
 (exact W8.mk (hoO.snoc ⟨by decide, by decide⟩ ⟨by decide, by decide⟩) (by rw [List.take_of_length_le (by omega), N7, if_neg (by omega), if_neg (by omega), if_neg (by omega), if_neg (by omega), if_neg (by omega), if_neg (by omega), if_neg (by omega)]; unfold V3; (repeat' split) <;> first | rfl | (exfalso; omega)) (by omega) (by omega))
 refine sQ (qA rfl) rfl (sD (nS (cF rfl (tS (tR ?_)))))
 refine sB (qE rfl rfl) rfl rfl (fun h388 => ?_) (fun h388 => ?_)
 refine sQ (qA rfl) rfl (sD (nS (qT rfl (tS (tR (sQ (qM rfl) rfl (sQ (D9 rfl rfl) rfl ?_)))))))
 (refine E0 (D0 rfl rfl rfl (by omega) (by unfold maxLen; omega) rfl) rfl ?_; rintro _ ⟨b397, rfl⟩)
 (refine T1 rfl rfl rfl rfl rfl (fun _ _ => by repeat (first | exact Sw.here | apply Sw.there)) (K9 (by repeat first | exact mH | apply mT)) rfl (by simp [Value.oneCell']) (by unfold maxLen; omega) (by omega) rfl (fun pn cn => ?_))
 refine sQ (qA rfl) rfl (sD (nS (tT (rB (rS ?_)))))
 refine S6 (rT rfl) (by repeat (first | exact Pk.here | apply Pk.there)) ?_
 (exact W8.mk (hoO.snoc ⟨by decide, by decide⟩ ⟨by decide, by decide⟩) (by rw [List.take_of_length_le (by omega), N7, if_neg (by omega), if_neg (by omega), if_neg (by omega), if_neg (by omega), if_neg (by omega), if_neg (by omega), if_neg (by omega)]; unfold V3; (repeat' split) <;> first | rfl | (exfalso; omega)) (by omega) (by omega))
 refine sQ (qA rfl) rfl (sD (nS (cF rfl (tS (tR ?_)))))
 refine sB (qE rfl rfl) rfl rfl (fun h413 => ?_) (fun h413 => ?_)
 refine sQ (qA rfl) rfl (sD (nS (qT rfl (tS (tR (sQ (qM rfl) rfl (sQ (D9 rfl rfl) rfl ?_)))))))
 (refine E0 (D0 rfl rfl rfl (by omega) (by unfold maxLen; omega) rfl) rfl ?_; rintro _ ⟨b422, rfl⟩)
 (refine T1 rfl rfl rfl rfl rfl (fun _ _ => by repeat (first | exact Sw.here | apply Sw.there)) (K9 (by repeat first | exact mH | apply mT)) rfl (by simp [Value.oneCell']) (by unfold maxLen; omega) (by omega) rfl (fun pn cn => ?_))
 refine sQ (qA rfl) rfl (sD (nS (tT (rB (rS ?_)))))
 refine S6 (rT rfl) (by repeat (first | exact Pk.here | apply Pk.there)) ?_
 (exact W8.mk (hoO.snoc ⟨by decide, by decide⟩ ⟨by decide, by decide⟩) (by rw [List.take_of_length_le (by omega), N7, if_neg (by omega), if_neg (by omega), if_neg (by omega), if_neg (by omega), if_neg (by omega), if_neg (by omega), if_neg (by omega)]; unfold V3; (repeat' split) <;> first | rfl | (exfalso; omega)) (by omega) (by omega))
 refine sQ (qA rfl) rfl (sD (nS (cF rfl (tS (tR ?_)))))
 refine sB (qE rfl rfl) rfl rfl (fun h438 => ?_) (fun h438 => ?_)
 refine sQ (qA rfl) rfl (sD (nS (qT rfl (tS (tR (sQ (qM rfl) rfl (sQ (D9 rfl rfl) rfl ?_)))))))
 (refine E0 (D0 rfl rfl rfl (by omega) (by unfold maxLen; omega) rfl) rfl ?_; rintro _ ⟨b447, rfl⟩)
 (refine T1 rfl rfl rfl rfl rfl (fun _ _ => by repeat (first | exact Sw.here | apply Sw.there)) (K9 (by repeat first | exact mH | apply mT)) rfl (by simp [Value.oneCell']) (by unfold maxLen; omega) (by omega) rfl (fun pn cn => ?_))
 refine sQ (qA rfl) rfl (sD (nS (tT (rB (rS ?_)))))
 refine S6 (rT rfl) (by repeat (first | exact Pk.here | apply Pk.there)) ?_
 (exact W8.mk (hoO.snoc ⟨by decide, by decide⟩ ⟨by decide, by decide⟩) (by rw [List.take_of_length_le (by omega), N7, if_neg (by omega), if_neg (by omega), if_neg (by omega), if_neg (by omega), if_neg (by omega), if_neg (by omega), if_neg (by omega)]; unfold V3; (repeat' split) <;> first | rfl | (exfalso; omega)) (by omega) (by omega))
 refine sQ (qA rfl) rfl (sD (nS (cF rfl (tK (C8 (nS (tS (tR (sQ (qM rfl) rfl (sQ (D9 rfl rfl) rfl ?_))))))))))
 (refine E0 (D0 rfl rfl rfl (by omega) (by unfold maxLen; omega) rfl) rfl ?_; rintro _ ⟨b468, rfl⟩)
 (refine T1 rfl rfl rfl rfl rfl (fun _ _ => by repeat (first | exact Sw.here | apply Sw.there)) (K9 (by repeat first | exact mH | apply mT)) rfl (by simp [Value.oneCell']) (by unfold maxLen; omega) (by omega) rfl (fun pn cn => ?_))
 refine sQ (qA rfl) rfl (sD (nS (tT ?_)))
 refine S6 (rT rfl) (by repeat (first | exact Pk.here | apply Pk.there)) ?_
 (exact W8.mk (hoO.snoc ⟨by decide, by decide⟩ ⟨by decide, by decide⟩) (by rw [List.take_of_length_le (by omega), N7, if_neg (by omega), if_neg (by omega), if_neg (by omega), if_neg (by omega), if_neg (by omega), if_neg (by omega), if_neg (by omega)]; unfold V3; (repeat' split) <;> first | rfl | (exfalso; omega)) (by omega) (by omega))
def B7N (r : Option Ty) : IM → Value → List A4 → Prop := I9 fun G' v => ∃ cells, v = .tuple ⟨[.agg ⟨cells⟩, .bool r.isSome]⟩ ∧ C3 G' (r.getD B8) cells
theorem Fn.frz {P : Program} {f : FuncId} {args : List Value} {G : IM} {post : IM → Value → List A4 → Prop} (h : Fn P f args [] G post) (Φ : IM → Value → Prop)
  (hp : ∀ G' v outs, post G' v outs → (outs = [] ∧ Φ G' v) ∨ ∃ p c el sz n cs, outs = [.slc p c el sz n cs] ∧ ∀ G'', B4 G' G'' → Sl G'' p n c sz cs → Φ G'' v) : Fn P f args [] G (I9 Φ) := by
 refine ⟨fun w hw => (h.run w hw).mono ?_⟩
 rintro e w' ⟨v, G', outs, rfl, hr, hq⟩
 rcases hp G' v outs hq with ⟨rfl, h1⟩ | ⟨p, c, el, sz, n, cs, rfl, h1⟩
 ·exact ⟨v, G', [], rfl, hr, rfl, h1⟩
 ·obtain ⟨G'', h2, h3, _⟩ := A7t hr.own
  refine ⟨v, G'', [], rfl, ?_, rfl, h1 G'' h2.le h3⟩
  have := O1.frame (rest := []) (by simpa using hr) h2
  simpa using this
theorem B5N (n : Nat) (G : IM) (h0 : 0 < n) (hn : n ≤ 1000000) : Fn Tryz.prog 180 [.slice none 0 0, .int .i64 (n : Int)] [] G (fun G' v outs => G' = G ∧ ∃ p c, v = .slice p 0 c ∧ outs = [.slc p c 72 2 0 []]) := by
 refine B7 Tryz.func180 rfl Tryz.ntmps180 Tryz.results180 rfl ?_
 intro w0
 refine tS (tR (sQ (qA rfl) rfl (sD (nS (tS (tS (tR (sQ (qM rfl) rfl ?_))))))))
 refine sP (A2S rfl rfl (by omega)) rfl rfl ?_
 refine sD (nS (cF rfl (tK (nS (tS (tS (tR (sQ (qM rfl) rfl (sQ (qM rfl) rfl ?_)))))))))
 refine sQ (A8F rfl rfl) rfl ?_
 refine sQ (qM rfl) rfl (sQ (D8 rfl rfl) rfl ?_)
 refine sP (L7 rfl rfl (by omega) (by omega)) rfl rfl ?_
 refine sP (L7 rfl rfl (by omega) (by omega)) rfl rfl ?_
 refine sQ (qA rfl) rfl (sD (nS (tS (tR (sQ (qM rfl) rfl ?_)))))
 refine sP (A2T rfl rfl (by omega)) rfl rfl ?_
 refine sD (nS (qT rfl (tR (sQ (qM rfl) rfl (sQ (qM rfl) rfl ?_)))))
 refine sQ (A8F rfl rfl) rfl ?_
 refine sP (A1q (l := 0) rfl rfl rfl (by omega)) rfl rfl ?_
 refine sQ (qM rfl) rfl ?_
 (refine E0 (B25 (n := n) rfl rfl rfl rfl rfl h0 rfl hn (by omega)) rfl ?_; rintro _ ⟨b7, c7, cs7, rfl⟩; refine A59 (k := 0) (by repeat (first | exact Pk.here | apply Pk.there)) (Nat.zero_le _) ?_)
 refine sQ (qM rfl) rfl (sQ (D8 rfl rfl) rfl ?_)
 refine sP (A1q (l := 0) rfl rfl rfl (by omega)) rfl rfl ?_
 refine sQ (qA rfl) rfl (sD (nS (tS (tR (sQ (qM rfl) rfl (sQ (qA rfl) rfl (sD (nS (tT ?_)))))))))
 refine S6 (rT rfl) (by repeat (first | exact Pk.here | apply Pk.there)) ?_
 (exact ⟨rfl, _, _, rfl, rfl⟩)
theorem A35 (k a : Int) (G : IM) (hk : C6 k) (ha : C6 a) : Fn Tryz.prog 118 [.int .i64 k, .int .i64 a] [] G (W8 G 1 [(k, a)]) := by
 refine B7 Tryz.func118 rfl Tryz.ntmps118 Tryz.results118 rfl ?_
 intro w0
 refine tS (tR (sQ (qA rfl) rfl (sD (nS (tS (tR (sQ (qM rfl) rfl (sQ (qM rfl) rfl (sQ (D9 rfl rfl) rfl ?_)))))))))
 (refine E0 (D0 rfl rfl rfl (by omega) (by unfold maxLen; omega) rfl) rfl ?_; rintro _ ⟨bq, rfl⟩)
 refine sQ (qA rfl) rfl (sD (nS (tT ?_)))
 refine S6 (rT rfl) (by repeat (first | exact Pk.here | apply Pk.there)) ?_
 (exact W8.mk (.one hk ha) rfl (by omega) (by omega))
theorem A44 (k a : Int) (G : IM) (hk : C6 k) (ha : C6 a) : Fn Tryz.prog 118 [.int .i64 k, .int .i64 a] [] G (I9 fun G' v => ∃ p c, v = .slice p 1 c ∧ T0 G' [(k, a)] p 1 c) :=
 (A35 k a G hk ha).frz (fun G' v => ∃ p c, v = .slice p 1 c ∧ T0 G' [(k, a)] p 1 c) (fun G' v outs hh => by
  obtain ⟨_, p, n, c, x, rfl, rfl, he, h1, h2⟩ := hh
  obtain rfl : n = 1 := by omega
  exact .inr ⟨p, c, _, _, _, _, rfl, fun G'' hle hs => ⟨p, c, rfl, he.r hs⟩⟩)
def Z2 (G : IM) : List J0 → List Value → Prop
 | [], vs => vs = []
 | l :: ls, vs => ∃ p c r, vs = .slice p l.length c :: r ∧ T0 G l p l.length c ∧ Z2 G ls r
theorem Z2.mono {G G' : IM} (hg : B4 G G') : ∀ {ls : List J0} {vs : List Value}, Z2 G ls vs → Z2 G' ls vs
 | [], vs, h => h
 | l :: ls, vs, ⟨p, c, r, h1, h2, h3⟩ => ⟨p, c, r, h1, h2.mono hg, Z2.mono hg h3⟩
theorem Z2.len {G : IM} : ∀ {ls : List J0} {vs : List Value}, Z2 G ls vs → vs.length = ls.length
 | [], vs, h => by rw [show vs = [] from h]; rfl
 | l :: ls, vs, ⟨p, c, r, h1, h2, h3⟩ => by rw [h1]; simp [h3.len]
theorem Z2.get {G : IM} : ∀ {ls : List J0} {vs : List Value}, Z2 G ls vs → ∀ (i : Nat) (hi : i < ls.length), ∃ p c, vs[i]? = some (.slice p ls[i].length c) ∧ T0 G ls[i] p ls[i].length c
 | l :: ls, vs, ⟨p, c, r, h1, h2, h3⟩, 0, _ => ⟨p, c, by rw [h1]; rfl, h2⟩
 | l :: ls, vs, ⟨p, c, r, h1, h2, h3⟩, i + 1, hi => by
  obtain ⟨p', c', g1, g2⟩ := h3.get i (by simpa using hi)
  exact ⟨p', c', by rw [h1]; simpa using g1, by simpa using g2⟩
theorem B0F {ls : List J0} {i : Nat} (hi : i < ls.length) : (ls.take (i + 1)).flatten = (ls.take i).flatten ++ ls[i] := by
 rw [List.take_succ_eq_append_getElem hi, List.flatten_append]; simp
theorem A45 (ls : List J0) (i : Nat) : (ls.take i).flatten.length ≤ ls.flatten.length := by
 conv => rhs; rw [← List.take_append_drop i ls, List.flatten_append, List.length_append]
 omega
theorem T0.toE {G : IM} {l : J0} {p : Option Addr} {n c : Nat} (h : T0 G l p n c) : P8 (l.map A24).flatten n l := ⟨h.len, rfl, h.rng⟩
theorem A2i (ls : List J0) (vs : List Value) (p : Option Addr) (c : Nat) (G : IM) (hs : Sl G p ls.length c 1 vs) (hr : Z2 G ls vs) (h0 : 0 < ls.flatten.length) (hn : ls.flatten.length ≤ 1000000) :
  Fn Tryz.prog 120 [.slice p ls.length c] [] G (W8 G ls.flatten.length ls.flatten) := by
 have hlen := hs.le
 refine B7 Tryz.func120 rfl Tryz.ntmps120 Tryz.results120 rfl ?_
 intro w0
 refine V6 ?_
 refine B5 ?_
 (have hgr : True := trivial; clear hgr; have hz := hn; refine K4 (fun (i : Nat) => ⟨[(11, .int .i64 (i : Int)), (10, .int .i64 (ls.length : Int)), (9, .slice p ls.length c), (3, .int .i64 ((ls.take i).flatten.length : Int)), (0, .slice p ls.length c)], [], G⟩) (fun i => i ≤ ls.length) (fun i => ls.length - i) 0 ?_ ?_ ?_)
 exact C9
 (exact Nat.zero_le _)
 (rintro (i : Nat) hi; replace hi : i ≤ ls.length := hi; have hfl := A45 ls (i + 1); have hfl0 := A45 ls i)
 refine tS (tR ?_)
 refine sB (J3 rfl rfl) rfl rfl (fun h26 => ?_) (fun h26 => ?_)
 refine sD (nS (tS (qT rfl (tK (nS (tS ?_))))))
 refine B5 ?_
 refine tS ?_
 (have hi2 : i < ls.length := (by omega); obtain ⟨pi, ci, hvi, hri⟩ := hr.get i hi2; obtain ⟨bx, ox, v, rfl, hv, hatv, _⟩ := hs.kid (i := i) hi2; obtain rfl := Option.some.inj (hvi.symm.trans hv); have hft := B0F hi2; rw [hft, List.length_append] at hfl)
 refine tR ?_
 refine sP (C2 (j := i) rfl rfl rfl (by omega)) rfl rfl ?_
 refine sL (Q2 rfl rfl (hatv _)) rfl rfl ?_
 refine sQ (qA rfl) rfl (sD (nS (tS (tR (sQ (qM rfl) rfl (sQ (qM rfl) rfl (sQ (D8 rfl rfl) rfl ?_)))))))
 refine sP (Z8 rfl rfl (by omega)) rfl rfl ?_
 refine sQ (qA rfl) rfl (sD (nS (tS (tR (sQ (qM rfl) rfl ?_)))))
 refine sP (A2S rfl rfl (by omega)) rfl rfl ?_
 refine sD (nS (cF rfl (tK (C8 (nS (tR ?_))))))
 refine sP (H6 rfl rfl (by omega) (by omega)) rfl rfl ?_
 refine sQ (qM rfl) rfl (sD ?_)
 (rw [show (ls.take i).flatten.length + ls[i].length = (ls.take (i + 1)).flatten.length by rw [hft, List.length_append]]; refine K3 (i + 1) ?_ ?_ ?_)
 exact C9
 (show i + 1 ≤ ls.length; omega)
 (show ls.length - (i + 1) < ls.length - i; omega)
 refine sD (nS (tS (cF rfl (M7 (M8 (N3 (M9 (nS (tS (tR (sQ (qM rfl) rfl ?_)))))))))))
 (obtain rfl : i = ls.length := (by omega); rw [List.take_length]; refine D2 rfl (B5N _ G h0 hn) (List.Perm.refl _) rfl rfl (fun v G1 outs hle1 hh => ?_); obtain ⟨hG, pg, cg, rfl, rfl⟩ := hh; replace hG := hG.symm; subst hG; have hgrown : True := trivial)
 refine sQ (qA rfl) rfl (sD (nS (tS (tS (tR (sQ (qM rfl) rfl (sQ (D8 rfl rfl) rfl (sQ (qM rfl) rfl (sD (nS ?_))))))))))
 refine B5 ?_
 (have hG1 := hgrown; refine K4 (fun (x : Nat × Option Addr × Nat × Nat × List Value) => ⟨[(27, .int .i64 (x.1 : Int)), (26, .int .i64 (ls.length : Int)), (25, .slice p ls.length c), (6, .slice x.2.1 x.2.2.2.1 x.2.2.1)], [.slc x.2.1 x.2.2.1 72 2 x.2.2.2.1 x.2.2.2.2], G⟩) (fun x => x.1 ≤ ls.length ∧ P8 x.2.2.2.2 x.2.2.2.1 (ls.take x.1).flatten) (fun x => ls.length - x.1) (0, pg, cg, 0, []) ?_ ?_ ?_)
 (simp only [E2]; exact C9)
 (exact ⟨Nat.zero_le _, by simpa using P8.nil⟩)
 (rintro ⟨(i : Nat), pn, cn, nn, xn⟩ ⟨hi, hoE⟩; simp only [] at hi hoE ⊢; have hfl := A45 ls (i + 1); have hfl0 := A45 ls i; have hnn := hoE.1)
 refine tS (tR ?_)
 refine sB (J3 rfl rfl) rfl rfl (fun h101 => ?_) (fun h101 => ?_)
 refine sD (nS (tS (qT rfl (tK (nS (tS ?_))))))
 refine B5 ?_
 refine tS ?_
 (have hi2 : i < ls.length := (by omega); obtain ⟨pi, ci, hvi, hri⟩ := hr.get i hi2; obtain ⟨bx, ox, v, rfl, hv, hatv, _⟩ := hs.kid (i := i) hi2; obtain rfl := Option.some.inj (hvi.symm.trans hv); have hft := B0F hi2; rw [hft, List.length_append] at hfl)
 refine tR ?_
 refine sP (C2 (j := i) rfl rfl rfl (by omega)) rfl rfl ?_
 refine sL (Q2 rfl rfl (hatv _)) rfl rfl ?_
 refine sQ (qA rfl) rfl (sD (nS (tR (sQ (qM rfl) rfl (sQ (qM rfl) rfl ?_)))))
 (refine B4z (by repeat (first | exact Pk.here | apply Pk.there)) (fun hcap => ?_); refine A8s rfl rfl rfl rfl rfl (fun _ _ => by repeat (first | exact Sw.here | apply Sw.there)) hri.sl.sl hri.toE.ones hcap (by unfold maxLen; omega) (by omega) rfl (fun p4 c4 => ?_))
 refine sQ (qA rfl) rfl (sD (C8 (nS (tR ?_))))
 refine sP (H6 rfl rfl (by omega) (by omega)) rfl rfl ?_
 refine sQ (qM rfl) rfl (sD ?_)
 (have hp4 := p4; refine K3 (i + 1, p4, c4, nn + ls[i].length, xn ++ (ls[i].map A24).flatten) ?_ ?_ ?_)
 (simp only [E2]; exact C9)
 (dsimp only; exact ⟨by omega, (hoE.app hri.toE).to hft.symm⟩)
 (show ls.length - (i + 1) < ls.length - i; omega)
 refine Q9 ?_
 refine S6 (rT rfl) (by repeat (first | exact Pk.here | apply Pk.there)) ?_
 (obtain rfl : i = ls.length := (by omega); rw [List.take_length] at hoE hnn; exact W8.mk hoE rfl (by omega) (by omega))
theorem A64 (ns : List ByteArray) (j : Nat) (hj : j < ns.length) : (X6 ns).data[j]! = L6 (ns[ns.length - 1 - j]'(by omega)) := by
 have h : (X6 ns).data.toList[j]? = some (L6 (ns[ns.length - 1 - j]'(by omega))) := by
  show (ns.reverse.map L6)[j]? = _
  rw [List.getElem?_map, List.getElem?_reverse hj, List.getElem?_eq_getElem (by omega)]; rfl
 rw [getElem!_def]
 rw [Array.getElem?_toList] at h
 rw [h]
theorem B5O (ns : List ByteArray) (nm : ByteArray) (ho : A2F ns) (hnm : nm = ⟨#[L6 nm]⟩) (hm : nm ∈ ns) : Lib.lastIndexByte (X6 ns) ((L6 nm).toNat : Int) = (ns.length : Int) - 1 - (T4 nm ns : Nat) := by
 have hsz := A34 ns
 have hb : ∀ x ∈ ns, ((L6 x).toNat : Int) = ((L6 nm).toNat : Int) → x = nm := fun x hx h => by
  have h2 : L6 x = L6 nm := UInt8.toNat_inj.1 (by omega)
  rw [ho x hx, h2, ← hnm]
 rcases Lib.lastIndexByte_spec (X6 ns) ((L6 nm).toNat : Int) with ⟨_, hn⟩ | ⟨i, hi, he, hc, hn⟩
 ·exfalso
  obtain ⟨j, hj1, hj2⟩ := List.getElem_of_mem hm
  refine hn (ns.length - 1 - j) (by omega) ?_
  rw [A64 ns _ (by omega)]
  have : ns.length - 1 - (ns.length - 1 - j) = j := by omega
  simp only [this, hj2]
 ·rw [he]
  rw [A64 ns i (by omega)] at hc
  have h1 := hb _ (List.getElem_mem (by omega)) hc
  have h2 : T4 nm ns = ns.length - 1 - i := A62 (by rw [List.getElem?_eq_getElem (by omega), h1]) (fun j hj hjn => by
   obtain ⟨hjl, hje⟩ := List.getElem?_eq_some_iff.1 hjn
   refine hn (ns.length - 1 - j) (by omega) (by omega) ?_
   rw [A64 ns _ (by omega)]
   have : ns.length - 1 - (ns.length - 1 - j) = j := by omega
   simp only [this, hje])
  rw [h2]; omega
theorem B5P (ns : List ByteArray) (nm : ByteArray) (G : IM) (hs : ns.length ≤ 1000) (ho : A2F ns) (hnm : nm = ⟨#[L6 nm]⟩) (hm : nm ∈ ns) :
  Fn Tryz.prog 119 [.string (X6 ns), .string nm] [] G (H3 (.int .i64 ((ns.length : Int) - 1 - (T4 nm ns : Nat))) G) := by
 refine ⟨fun w hw => ?_⟩
 have hsz := A34 ns
 have h1 : nm.size = 1 := by rw [hnm]; rfl
 refine (Tryz.strings_LastIndex_one (X6 ns) nm h1 (by omega) w).mono ?_
 rintro e w' ⟨rfl, rfl⟩
 refine ⟨_, G, [], rfl, O1.refl hw, rfl, ?_, rfl⟩
 rw [← B5O ns nm ho hnm hm]
 have : nm[0]'(by omega) = L6 nm := by
  have h2 : nm.data.toList.length = 1 := h1
  obtain ⟨⟨l⟩⟩ := nm
  match l, h2 with
  | [c], _ => rfl
 rw [this]
mutual
def rl (d : Int) : MV → MV
 | .mk k n e p => .mk k (if k = 2 then n + d else n) (rlL d e) (rlL d p)
def rlL (d : Int) : List MV → List MV
 | [] => []
 | v :: vs => rl d v :: rlL d vs
end
theorem A36 (d : Int) : ∀ l, rlL d l = l.map (rl d)
 | [] => rfl
 | v :: vs => by rw [rlL, A36 d vs, List.map_cons]
theorem A0e (d : Int) (v : MV) : (rl d v).k = v.k := by obtain ⟨k, n, e, p⟩ := v; rfl
theorem A3i (d : Int) {v : MV} (h : v.k ≠ 2) : (rl d v).num = v.num := by obtain ⟨k, n, e, p⟩ := v; exact if_neg h
theorem B5Q (d : Int) {v : MV} (h : v.k = 2) : (rl d v).num = v.num + d := by obtain ⟨k, n, e, p⟩ := v; exact if_pos h
theorem B5R (d : Int) (v : MV) : (rl d v).env = v.env.map (rl d) := by obtain ⟨k, n, e, p⟩ := v; exact A36 d e
theorem B5S (d : Int) (v : MV) : (rl d v).parts = v.parts.map (rl d) := by obtain ⟨k, n, e, p⟩ := v; exact A36 d p
theorem A2H (d k n : Int) (e p : List MV) : rl d (.mk k n e p) = .mk k (if k = 2 then n + d else n) (e.map (rl d)) (p.map (rl d)) := by rw [rl, A36, A36]
theorem B5T (d : Int) : rl d O6 = O6 := by rw [O6, A2H]; rfl
theorem B5U (d : Int) (v : MV) : V0 (rl d v) = V0 v := by
 by_cases h : v.k = 2
 ·rw [A5R (by rw [A0e]; exact h), A5R h]
 ·unfold V0; rw [A0e, A3i d h]
theorem B0G (d : Int) (l : List MV) (i : Nat) : (l.map (rl d)).getD i O6 = rl d (l.getD i O6) := by
 rw [List.getD_eq_getElem?_getD, List.getD_eq_getElem?_getD, List.getElem?_map]
 cases l[i]? with
 | none => exact (B5T d).symm
 | some v => rfl
def rlS (d : Int) (S : List MV) (F : List (Int × List MV)) (s : K7) : K7 := ⟨s.at' + d, S ++ s.st.map (rl d), s.env.map (rl d), F ++ s.fr.map fun f => (f.1 + d, f.2.map (rl d))⟩
theorem A0l (d : Int) (S : List MV) (F : List (Int × List MV)) (p : Int) (st env : List MV) (fr : List (Int × List MV)) : rlS d S F ⟨p, st, env, fr⟩ = ⟨p + d, S ++ st.map (rl d), env.map (rl d), F ++ fr.map fun f => (f.1 + d, f.2.map (rl d))⟩ := rfl
theorem A2j {l : List MV} (h : ¬l.length < 1) : ∃ a v, l = a ++ [v] := by
 rcases List.eq_nil_or_concat l with h1 | ⟨a, v, h1⟩
 ·rw [h1] at h; simp at h
 ·exact ⟨a, v, by rw [h1, List.concat_eq_append]⟩
theorem A0Z {l : List MV} (h : ¬l.length < 2) : ∃ a v w, l = a ++ [v] ++ [w] := by
 obtain ⟨a, w, rfl⟩ := A2j (l := l) (by omega)
 rw [List.length_append, List.length_singleton] at h
 obtain ⟨b, v, rfl⟩ := A2j (l := a) (by omega)
 exact ⟨b, v, w, rfl⟩
theorem A00 (S st : List MV) (d : Int) (v : MV) : S ++ (st ++ [v]).map (rl d) = (S ++ st.map (rl d)) ++ [rl d v] := by simp
theorem A2I (S st : List MV) (d : Int) (v w : MV) : S ++ (st ++ [v] ++ [w]).map (rl d) = (S ++ st.map (rl d)) ++ [rl d v] ++ [rl d w] := by simp
theorem B5V {d : Int} {S : List MV} {F : List (Int × List MV)} {k a : Int} (hk : 1 ≤ k ∧ k ≤ 13) {s s' : K7} (h : M2 k a s = .inl s') : M2 k a (rlS d S F s) = .inl (rlS d S F s') := by
 obtain ⟨p, st, env, fr⟩ := s
 have hkk : k = 1 ∨ k = 2 ∨ k = 3 ∨ k = 4 ∨ k = 5 ∨ k = 6 ∨ k = 7 ∨ k = 8 ∨ k = 9 ∨ k = 10 ∨ k = 11 ∨ (k = 12 ∨ k = 13) := by omega
 by_cases hf : st.length < K5 k
 ·rw [A3J (by exact hf)] at h; cases h
 rw [A0l]
 rcases hkk with rfl | rfl | rfl | rfl | rfl | rfl | rfl | rfl | rfl | rfl | rfl | hk
 ·rw [s1] at h ⊢; cases h; rw [A0l, A00, A2H]; simp; omega
 ·rw [s2] at h ⊢; cases h; rw [A0l, A00, A2H]; simp; omega
 ·rw [s3] at h ⊢
  split at h
  ·cases h
  ·rename_i hn
   cases h; rw [List.length_map, if_neg hn, A0l, A00, B0G]; simp; omega
 ·rw [s4] at h ⊢; cases h; rw [A0l, A00, A2H]; simp; omega
 ·rcases List.eq_nil_or_concat fr with rfl | ⟨fr', ⟨q, en⟩, rfl⟩
  ·rw [X3 hf, A2s] at h; simp at h
  ·rw [List.concat_eq_append] at h ⊢
   rw [s5] at h; cases h
   rw [List.map_append, List.map_cons, List.map_nil, ← List.append_assoc, s5, A0l]
 ·obtain ⟨st', v, w, rfl⟩ := A0Z (l := st) hf
  rw [s6] at h; rw [A2I, s6, A0e]
  split at h
  ·rename_i h2
   cases h; rw [if_pos h2, A0l, B5Q d h2, B5R]; simp; omega
  ·cases h
 ·obtain ⟨st', v, w, rfl⟩ := A0Z (l := st) hf
  rw [s7] at h; rw [A2I, s7, A0e, A0e]
  split at h
  ·rename_i h2
   cases h; rw [if_pos h2, A0l, A00, A2H, A3i d (by omega), A3i d (by omega)]; simp; omega
  ·cases h
 ·obtain ⟨st', v, w, rfl⟩ := A0Z (l := st) hf
  rw [s8] at h; rw [A2I, s8, A0e, A0e]
  split at h
  ·rename_i h2
   cases h; rw [if_pos h2, A0l, A00, A2H, A3i d (by omega), A3i d (by omega)]; simp; omega
  ·cases h
 ·obtain ⟨st', v, rfl⟩ := A2j (l := st) hf
  rw [s9] at h; rw [A00, s9, A0e]
  split at h
  ·rename_i h2
   cases h; rw [if_pos h2, A0l, A3i d (by omega)]
   split <;> (simp; omega)
  ·cases h
 ·rw [s10] at h ⊢; cases h; rw [A0l]; simp; omega
 ·obtain ⟨st', v, w, rfl⟩ := A0Z (l := st) hf
  rw [s11] at h; rw [A2I, s11]; cases h; rw [A0l, A00, A2H]; simp; omega
 ·obtain ⟨st', v, rfl⟩ := A2j (l := st) (by rcases hk with rfl | rfl <;> exact hf)
  rw [s12 hk] at h; rw [A00, s12 hk, A0e]
  split at h
  ·rename_i h2
   cases h; rw [if_pos h2, A0l, A00, B5S, B0G]; simp; omega
  ·cases h
theorem B5W {d : Int} {S : List MV} {F : List (Int × List MV)} {k a : Int} (hk : 1 ≤ k ∧ k ≤ 13) {s : K7} {e : Int} (h : M2 k a s = .inr (2, e)) : M2 k a (rlS d S F s) = .inr (2, e) := by
 obtain ⟨p, st, env, fr⟩ := s
 have hkk : k = 1 ∨ k = 2 ∨ k = 3 ∨ k = 4 ∨ k = 5 ∨ k = 6 ∨ k = 7 ∨ k = 8 ∨ k = 9 ∨ k = 10 ∨ k = 11 ∨ (k = 12 ∨ k = 13) := by omega
 by_cases hf : st.length < K5 k
 ·rw [A3J (by exact hf)] at h; simp at h
 rw [A0l]
 rcases hkk with rfl | rfl | rfl | rfl | rfl | rfl | rfl | rfl | rfl | rfl | rfl | hk
 ·rw [s1] at h; cases h
 ·rw [s2] at h; cases h
 ·rw [s3] at h; split at h <;> simp at h
 ·rw [s4] at h; cases h
 ·rw [X3 hf, A2s] at h; split at h <;> simp at h
 ·obtain ⟨st', v, w, rfl⟩ := A0Z (l := st) hf
  rw [s6] at h; rw [A2I, s6, A0e]
  split at h
  ·cases h
  ·rename_i h2; rw [if_neg h2]; exact h
 ·obtain ⟨st', v, w, rfl⟩ := A0Z (l := st) hf
  rw [s7] at h; rw [A2I, s7, A0e, A0e]
  split at h
  ·cases h
  ·rename_i h2; rw [if_neg h2]; exact h
 ·obtain ⟨st', v, w, rfl⟩ := A0Z (l := st) hf
  rw [s8] at h; rw [A2I, s8, A0e, A0e]
  split at h
  ·cases h
  ·rename_i h2; rw [if_neg h2]; exact h
 ·obtain ⟨st', v, rfl⟩ := A2j (l := st) hf
  rw [s9] at h; rw [A00, s9, A0e]
  split at h
  ·cases h
  ·rename_i h2; rw [if_neg h2]; exact h
 ·rw [s10] at h; cases h
 ·obtain ⟨st', v, w, rfl⟩ := A0Z (l := st) hf
  rw [s11] at h; cases h
 ·obtain ⟨st', v, rfl⟩ := A2j (l := st) (by rcases hk with rfl | rfl <;> exact hf)
  rw [s12 hk] at h; rw [A00, s12 hk, A0e]
  split at h
  ·cases h
  ·rename_i h2; rw [if_neg h2]; exact h
def A46 (s : K7) : List MV := ((s.fr.map Prod.snd) ++ [s.env]).headD []
theorem B0H {fr : List (Int × List MV)} {q : Int} {env e : List MV} : ((fr ++ [(q, env)]).map Prod.snd ++ [e]).headD [] = ((fr.map Prod.snd) ++ [env]).headD [] := by
 cases fr <;> rfl
theorem B5X {k a : Int} (hk : 1 ≤ k ∧ k ≤ 13) {s s' : K7} (h : M2 k a s = .inl s') : A46 s' = A46 s := by
 obtain ⟨p, st, env, fr⟩ := s
 have hkk : k = 1 ∨ k = 2 ∨ k = 3 ∨ k = 4 ∨ k = 5 ∨ k = 6 ∨ k = 7 ∨ k = 8 ∨ k = 9 ∨ k = 10 ∨ k = 11 ∨ (k = 12 ∨ k = 13) := by omega
 by_cases hf : st.length < K5 k
 ·rw [A3J (by exact hf)] at h; cases h
 rcases hkk with rfl | rfl | rfl | rfl | rfl | rfl | rfl | rfl | rfl | rfl | rfl | hk
 ·rw [s1] at h; cases h; rfl
 ·rw [s2] at h; cases h; rfl
 ·rw [s3] at h; split at h <;> cases h; rfl
 ·rw [s4] at h; cases h; rfl
 ·rcases List.eq_nil_or_concat fr with rfl | ⟨fr', ⟨q, en⟩, rfl⟩
  ·rw [X3 hf, A2s] at h; simp at h
  ·rw [List.concat_eq_append] at h ⊢
   rw [s5] at h; cases h
   exact B0H.symm
 ·obtain ⟨st', v, w, rfl⟩ := A0Z (l := st) hf
  rw [s6] at h; split at h <;> cases h; exact B0H
 ·obtain ⟨st', v, w, rfl⟩ := A0Z (l := st) hf
  rw [s7] at h; split at h <;> cases h; rfl
 ·obtain ⟨st', v, w, rfl⟩ := A0Z (l := st) hf
  rw [s8] at h; split at h <;> cases h; rfl
 ·obtain ⟨st', v, rfl⟩ := A2j (l := st) hf
  rw [s9] at h; split at h <;> cases h; rfl
 ·rw [s10] at h; cases h; rfl
 ·obtain ⟨st', v, w, rfl⟩ := A0Z (l := st) hf
  rw [s11] at h; cases h; rfl
 ·obtain ⟨st', v, rfl⟩ := A2j (l := st) (by rcases hk with rfl | rfl <;> exact hf)
  rw [s12 hk] at h; split at h <;> cases h; rfl
theorem B5Y {k a : Int} {s : K7} {v : List MV} {c e : Int} (h : mGo k a s v = .inr (c, e)) : c = 3 := by
 unfold mGo at h
 by_cases h1 : k = 1
 ·rw [if_pos h1] at h; cases h
 rw [if_neg h1] at h
 by_cases h2 : k = 2
 ·rw [if_pos h2] at h; cases h
 rw [if_neg h2] at h
 by_cases h3 : k = 3
 ·rw [if_pos h3] at h; split at h <;> cases h; rfl
 rw [if_neg h3] at h
 by_cases h4 : k = 4
 ·rw [if_pos h4] at h; cases h
 rw [if_neg h4] at h
 by_cases h5 : k = 5
 ·rw [if_pos h5] at h; split at h <;> cases h; rfl
 rw [if_neg h5] at h
 by_cases h6 : k = 6
 ·rw [if_pos h6] at h; cases h
 rw [if_neg h6] at h
 by_cases h7 : k = 7
 ·rw [if_pos h7] at h; cases h
 rw [if_neg h7] at h
 by_cases h8 : k = 8
 ·rw [if_pos h8] at h; cases h
 rw [if_neg h8] at h
 by_cases h9 : k = 9
 ·rw [if_pos h9] at h; cases h
 rw [if_neg h9] at h
 by_cases h10 : k = 10
 ·rw [if_pos h10] at h; cases h
 rw [if_neg h10] at h
 by_cases h11 : k = 11
 ·rw [if_pos h11] at h; cases h
 rw [if_neg h11] at h
 cases h
theorem B5Z {k a : Int} {s : K7} {c e : Int} (h : M2 k a s = .inr (c, e)) : c ≠ 0 := by
 unfold M2 at h
 split at h
 ·cases h; decide
 ·split at h
  ·have := B5Y h; omega
  ·cases h; decide
theorem B0I {pre c post : List (Int × Int)} {S : List MV} {F : List (Int × List MV)} (hc : Q6 c = true) : ∀ (t N : Nat) (s : K7), s.ok c.length N → A46 s = [] →
  (∀ e x, E8 c t s = (x, 2, e) → ∀ m, t ≤ m → E8 (pre ++ (c ++ post)) m (rlS pre.length S F s) = (⟨#[]⟩, 2, e) ∧ x = ⟨#[]⟩) ∧
  (∀ e x, E8 c t s = (x, 0, e) → ∃ t' v, t' ≤ t ∧ x = V0 v ∧ e = 0 ∧ ∀ m, E8 (pre ++ (c ++ post)) (t' + m) (rlS pre.length S F s) = E8 (pre ++ (c ++ post)) m ⟨(pre.length : Int) + c.length, S ++ [v], [], F⟩) := by
 unfold Q6 at hc
 rw [Bool.and_eq_true, decide_eq_true_eq, List.all_eq_true] at hc
 obtain ⟨⟨hc1, hc2⟩, hc3⟩ := hc
 have hE : ∀ (t N : Nat) (s : K7), s.ok c.length N → A46 s = [] → (c.length : Int) ≤ s.at' →
   (∀ e x, E8 c t s = (x, 2, e) → ∀ m, t ≤ m → E8 (pre ++ (c ++ post)) m (rlS pre.length S F s) = (⟨#[]⟩, 2, e) ∧ x = ⟨#[]⟩) ∧
   (∀ e x, E8 c t s = (x, 0, e) → ∃ t' v, t' ≤ t ∧ x = V0 v ∧ e = 0 ∧ ∀ m, E8 (pre ++ (c ++ post)) (t' + m) (rlS pre.length S F s) = E8 (pre ++ (c ++ post)) m ⟨(pre.length : Int) + c.length, S ++ [v], [], F⟩) := by
  intro t N s hs hb he
  have hhi := hs.hi
  have hr : E8 c t s = A1g s := by unfold E8; cases t <;> simp [he]
  rw [hr]
  obtain ⟨p, st, env, fr⟩ := s
  unfold A1g
  refine ⟨fun e x h => ?_, fun e x h => ?_⟩
  ·split at h <;> simp at h
  ·split at h
   ·simp at h
   ·rename_i hn
    have h1 : st.length = 1 := by simp at hn; exact hn.1
    have h2 : fr = [] := by simp at hn; exact hn.2
    subst h2
    obtain ⟨v, rfl⟩ : ∃ v, st = [v] := by
     match st, h1 with
     | [v], _ => exact ⟨v, rfl⟩
    have hen : env = [] := hb
    subst hen
    have hp : p = c.length := by dsimp only at he hhi; omega
    cases h
    refine ⟨0, rl pre.length v, Nat.zero_le _, (B5U _ _).symm, rfl, fun m => ?_⟩
    rw [Nat.zero_add, A0l, hp, Int.add_comm]
    simp
 intro t
 induction t with
 | zero =>
  intro N s hs hb
  by_cases he : (c.length : Int) ≤ s.at'
  ·exact hE 0 N s hs hb he
  ·have hr : E8 c 0 s = (⟨#[]⟩, 5, 0) := by unfold E8; simp [he]
   rw [hr]
   exact ⟨fun e x h => by simp at h, fun e x h => by simp at h⟩
 | succ t ih =>
  intro N s hs hb
  by_cases he : (c.length : Int) ≤ s.at'
  ·exact hE (t + 1) N s hs hb he
  ·have hlo := hs.lo
   have hlt : s.at'.toNat < c.length := by omega
   obtain ⟨⟨k, a⟩, hka⟩ : ∃ x, c.getD s.at'.toNat (0, 0) = x := ⟨_, rfl⟩
   have hok : M3 c.length s.at'.toNat (k, a) = true := by rw [← hka]; exact hc3 _ (List.mem_range.2 hlt)
   have hk : 1 ≤ k ∧ k ≤ 13 := by have := A3L hok hlt; exact ⟨this.1, this.2.1⟩
   have hfe : (pre ++ (c ++ post)).getD (rlS pre.length S F s).at'.toNat (0, 0) = (k, a) := by
    have h1 : (rlS pre.length S F s).at'.toNat = pre.length + s.at'.toNat := by show (s.at' + (pre.length : Int)).toNat = _; omega
    rw [h1, List.getD_eq_getElem?_getD, List.getElem?_append_right (by omega), Nat.add_sub_cancel_left, List.getElem?_append_left hlt, ← List.getD_eq_getElem?_getD, hka]
   have hlt2 : (rlS pre.length S F s).at' < ((pre ++ (c ++ post)).length : Int) := by show s.at' + (pre.length : Int) < _; simp only [List.length_append]; omega
   have hge2 : ¬((pre ++ (c ++ post)).length : Int) ≤ (rlS pre.length S F s).at' := by omega
   cases hm : M2 k a s with
   | inl s' =>
    have hs' := A8x hc2 hs (by omega) hok hm
    obtain ⟨i1, i2⟩ := ih (N + 1) s' hs' ((B5X hk hm).trans hb)
    have hm2 := B5V (d := pre.length) (S := S) (F := F) hk hm
    rw [A0J (by omega) hka hm]
    refine ⟨fun e x h m hmt => ?_, fun e x h => ?_⟩
    ·obtain ⟨m', rfl⟩ : ∃ m', m = m' + 1 := ⟨m - 1, by omega⟩
     rw [A0J hlt2 hfe hm2]
     exact i1 e x h m' (by omega)
    ·obtain ⟨t', v, h1, h2, h3, h4⟩ := i2 e x h
     refine ⟨t' + 1, v, by omega, h2, h3, fun m => ?_⟩
     rw [show t' + 1 + m = (t' + m) + 1 by omega, A0J hlt2 hfe hm2]
     exact h4 m
   | inr ce =>
    obtain ⟨c0, e0⟩ := ce
    rw [A3d (by omega) hka hm]
    refine ⟨fun e x h m hmt => ?_, fun e x h => ?_⟩
    ·obtain ⟨m', rfl⟩ : ∃ m', m = m' + 1 := ⟨m - 1, by omega⟩
     simp only [Prod.mk.injEq] at h
     obtain ⟨rfl, rfl, rfl⟩ := h
     exact ⟨A3d hlt2 hfe (B5W hk hm), rfl⟩
    ·simp only [Prod.mk.injEq] at h
     obtain ⟨rfl, rfl, rfl⟩ := h
     exact absurd rfl (B5Z hm)
def Jm (c : J0) : Prop := ∀ (i : Nat) (x : Int × Int), c[i]? = some x → x.1 = 4 ∨ x.1 = 9 ∨ x.1 = 10 → (i : Int) + 1 + x.2 ≤ c.length
theorem Jm.nil : Jm [] := fun i x h => by simp at h
theorem Jm.cons {k a : Int} {c : J0} (h : k = 4 ∨ k = 9 ∨ k = 10 → a ≤ c.length) (hc : Jm c) : Jm ((k, a) :: c) := by
 intro i x hx hk
 cases i with
 | zero => simp at hx; subst hx; have := h hk; simp only [List.length_cons]; omega
 | succ i => have := hc i x (by simpa using hx) hk; simp only [List.length_cons]; omega
theorem Jm.app {c d : J0} (hc : Jm c) (hd : Jm d) : Jm (c ++ d) := by
 intro i x hx hk
 by_cases hi : i < c.length
 ·rw [List.getElem?_append_left hi] at hx
  have := hc i x hx hk; simp only [List.length_append]; omega
 ·rw [List.getElem?_append_right (by omega)] at hx
  have := hd _ x hx hk; simp only [List.length_append]; omega
theorem Jm.one {k a : Int} (h : ¬(k = 4 ∨ k = 9 ∨ k = 10)) : Jm [(k, a)] := .cons (fun hk => absurd hk h) .nil
theorem Jm.flat : ∀ {cs : List J0}, (∀ c ∈ cs, Jm c) → Jm cs.flatten
 | [], _ => .nil
 | c :: cs, h => by rw [List.flatten_cons]; exact (h c List.mem_cons_self).app (Jm.flat fun d hd => h d (List.mem_cons_of_mem _ hd))
theorem Jm.getD {cs : List J0} (h : ∀ c ∈ cs, Jm c) (i : Nat) : Jm (cs.getD i []) := by
 rw [List.getD_eq_getElem?_getD]
 cases hi : cs[i]? with
 | none => exact .nil
 | some c => exact h c (List.mem_of_getElem? hi)
theorem B50 (k : Int) : ¬(V3 k = 4 ∨ V3 k = 9 ∨ V3 k = 10) := by
 unfold V3
 split
 ·decide
 split
 ·decide
 split
 ·decide
 split
 ·decide
 split
 ·decide
 ·decide
theorem B51 {n : List ByteArray} {k : Int} {nm : ByteArray} {num : Int} {cs : List J0} (h : ∀ c ∈ cs, Jm c) : Jm (N7 n k nm num cs) := by
 unfold N7
 by_cases h1 : k = 1
 ·rw [if_pos h1]; exact .one (by decide)
 rw [if_neg h1]
 by_cases h2 : k = 2
 ·rw [if_pos h2]; exact .one (by decide)
 rw [if_neg h2]
 by_cases h3 : k = 3
 ·rw [if_pos h3]; exact .one (by decide)
 rw [if_neg h3]
 by_cases h4 : k = 4
 ·rw [if_pos h4]; exact .one (by decide)
 rw [if_neg h4]
 by_cases h5 : k = 5
 ·rw [if_pos h5]; exact .cons (fun _ => by simp) ((Jm.getD h 0).app (.one (by decide)))
 rw [if_neg h5]
 by_cases h9 : k = 9
 ·rw [if_pos h9]
  exact (Jm.getD h 0).app (.cons (fun _ => by simp; omega) ((Jm.getD h 1).app (.cons (fun _ => Int.le_refl _) (Jm.getD h 2))))
 rw [if_neg h9]
 exact (Jm.flat h).app (.one (B50 k))
mutual
theorem B0J (n : List ByteArray) : ∀ t : Tm, Jm (H2 n t)
 | .mk k nm num _ _ _ ks => by rw [H2]; exact B51 (B0K _ ks)
theorem B0K (n : List ByteArray) : ∀ (ts : List Tm), ∀ c ∈ A0Y n ts, Jm c
 | [], c, h => by rw [A0Y] at h; cases h
 | t :: ts, c, h => by
  rw [A0Y] at h
  rcases List.mem_cons.1 h with rfl | h
  ·exact B0J n t
  ·exact B0K n ts c h
end
theorem B52 {n : List ByteArray} {k : Int} {nm : ByteArray} {num : Int} {cs : List J0} : 1 ≤ (N7 n k nm num cs).length := by
 unfold N7
 split
 ·exact Nat.le_refl _
 split
 ·exact Nat.le_refl _
 split
 ·exact Nat.le_refl _
 split
 ·exact Nat.le_refl _
 split
 ·simp
 split
 ·simp; omega
 ·simp
theorem B0L (n : List ByteArray) (t : Tm) : 1 ≤ (H2 n t).length := by
 obtain ⟨k, nm, num, ty, fr, lb, ks⟩ := t
 rw [H2]; exact B52
theorem B53 {a c b : J0} (h : Q6 (a ++ (c ++ b)) = true) (hj : Jm c) (h1 : 1 ≤ c.length) : Q6 c = true := by
 unfold Q6 at h ⊢
 rw [Bool.and_eq_true, decide_eq_true_eq, List.all_eq_true] at h ⊢
 obtain ⟨⟨_, h2⟩, h3⟩ := h
 simp only [List.length_append] at h2
 refine ⟨⟨h1, by omega⟩, fun i hi => ?_⟩
 have hi := List.mem_range.1 hi
 have h4 := h3 (a.length + i) (List.mem_range.2 (by simp only [List.length_append]; omega))
 have he : (a ++ (c ++ b)).getD (a.length + i) (0, 0) = c.getD i (0, 0) := by
  rw [List.getD_eq_getElem?_getD, List.getElem?_append_right (by omega), Nat.add_sub_cancel_left, List.getElem?_append_left hi, ← List.getD_eq_getElem?_getD]
 rw [he] at h4
 obtain ⟨x, hx⟩ : ∃ x, c.getD i (0, 0) = x := ⟨_, rfl⟩
 have hjx := hj i x (by rw [← hx]; exact A18 hi)
 rw [hx] at h4 ⊢
 obtain ⟨k, z⟩ := x
 dsimp only at hjx
 unfold M3 O8 at h4 ⊢
 rw [decide_eq_true_eq] at h4 ⊢
 obtain ⟨g1, g2, g3, g4⟩ := h4
 refine ⟨g1, g2, g3, ?_⟩
 dsimp only at g4 ⊢
 by_cases hk1 : k = 1
 ·rw [if_pos hk1] at g4 ⊢; exact g4
 rw [if_neg hk1] at g4 ⊢
 by_cases hk2 : k = 2
 ·rw [if_pos hk2] at g4 ⊢; exact g4
 rw [if_neg hk2] at g4 ⊢
 by_cases hk3 : k = 3
 ·rw [if_pos hk3] at g4 ⊢; exact g4
 rw [if_neg hk3] at g4 ⊢
 by_cases hk4 : k = 4 ∨ k = 9 ∨ k = 10
 ·rw [if_pos hk4]; have := hjx hk4; omega
 ·rw [if_neg hk4] at g4 ⊢; exact g4
theorem B54 {ca cb : J0} (ha : Q6 ca = true) (hb : Q6 cb = true) (hca : (E8 ca 500 ⟨0, [], [], []⟩).2.1 = 0 ∨ (E8 ca 500 ⟨0, [], [], []⟩).2.1 = 2 ∨ (E8 ca 500 ⟨0, [], [], []⟩).2.1 = 5) (hm : (E8 cb 500 ⟨0, [], [], []⟩).2.1 = 0) :
  (E8 ca 500 ⟨0, [], [], []⟩).2.1 = 5 ∨ E8 (ca ++ (cb ++ [(11, 0), (12, 0)])) 2000 ⟨0, [], [], []⟩ = E8 ca 500 ⟨0, [], [], []⟩ := by
 have hs0 : ∀ n : Int, 0 ≤ n → K7.ok n 0 ⟨0, [], [], []⟩ := fun n hn => ⟨by simp, by simpa using hn, by simp, by simp, by simp, by simp, by simp, by simp⟩
 obtain ⟨x, k, e, hr⟩ : ∃ x k e, E8 ca 500 ⟨0, [], [], []⟩ = (x, k, e) := ⟨_, _, _, rfl⟩
 obtain ⟨A1, A2⟩ := B0I (pre := []) (post := cb ++ [(11, 0), (12, 0)]) (S := []) (F := []) ha 500 0 ⟨0, [], [], []⟩ (hs0 _ (by omega)) rfl
 have e0 : rlS (([] : J0).length) [] [] ⟨0, [], [], []⟩ = ⟨0, [], [], []⟩ := rfl
 rw [e0, List.nil_append] at A1 A2
 rw [hr] at hca A1 A2 ⊢
 dsimp only at hca ⊢
 rcases hca with rfl | rfl | rfl
 ·obtain ⟨t1, v, h1, h2, h3, h4⟩ := A2 e x rfl
  obtain ⟨y, k2, e2, hr2⟩ : ∃ x k e, E8 cb 500 ⟨0, [], [], []⟩ = (x, k, e) := ⟨_, _, _, rfl⟩
  obtain ⟨_, B2⟩ := B0I (pre := ca) (post := [(11, 0), (12, 0)]) (S := [v]) (F := []) hb 500 0 ⟨0, [], [], []⟩ (hs0 _ (by omega)) rfl
  rw [hr2] at hm B2
  dsimp only at hm
  subst hm
  obtain ⟨t2, w, g1, _, _, g4⟩ := B2 e2 y rfl
  have e1 : rlS (ca.length : Int) [v] [] ⟨0, [], [], []⟩ = ⟨((([] : J0).length : Nat) : Int) + ca.length, [] ++ [v], [], []⟩ := by simp [rlS]
  have hN : ((ca ++ (cb ++ [(11, 0), (12, 0)])).length : Int) = ca.length + cb.length + 2 := by simp; omega
  have f1 : (ca ++ (cb ++ [((11 : Int), (0 : Int)), (12, 0)])).getD ((ca.length : Int) + cb.length).toNat (0, 0) = (11, 0) := by
   have : ((ca.length : Int) + cb.length).toNat = (ca ++ cb).length := by simp; omega
   rw [this, ← List.append_assoc]; exact A6V
  have f2 : (ca ++ (cb ++ [((11 : Int), (0 : Int)), (12, 0)])).getD ((ca.length : Int) + cb.length + 1).toNat (0, 0) = (12, 0) := by
   have : ((ca.length : Int) + cb.length + 1).toNat = (ca ++ (cb ++ [((11 : Int), (0 : Int))])).length := by simp; omega
   rw [this, show ca ++ (cb ++ [((11 : Int), (0 : Int)), (12, 0)]) = (ca ++ (cb ++ [(11, 0)])) ++ (12, 0) :: [] by simp]; exact A6V
  right
  rw [show (2000 : Nat) = t1 + (t2 + ((2000 - t1 - t2 - 2) + 1 + 1)) by omega, h4, ← e1, g4]
  rw [A0J (by dsimp only; omega) f1 (by exact s11 (st := []))]
  rw [A0J (s := ⟨(ca.length : Int) + cb.length + 1, [] ++ [MV.mk 3 0 [] [v, w]], [], []⟩) (by dsimp only; omega) f2 (by rw [s12 (.inl rfl)]; rfl)]
  have hend : ∀ m, E8 (ca ++ (cb ++ [(11, 0), (12, 0)])) m ⟨(ca.length : Int) + cb.length + 1 + 1, [v], [], []⟩ = A1g ⟨(ca.length : Int) + cb.length + 1 + 1, [v], [], []⟩ := fun m => by
   have : ((ca ++ (cb ++ [(11, 0), (12, 0)])).length : Int) ≤ (ca.length : Int) + cb.length + 1 + 1 := by omega
   cases m <;> rw [E8, if_pos this]
  exact (hend _).trans (by rw [h2, h3]; rfl)
 ·right; obtain ⟨g1, g2⟩ := A1 e x rfl 2000 (by omega); rw [g1, g2]
 ·exact .inl rfl
end Gw
end Go.Proofs.YtgodjiieijekiaaGreatDoor
