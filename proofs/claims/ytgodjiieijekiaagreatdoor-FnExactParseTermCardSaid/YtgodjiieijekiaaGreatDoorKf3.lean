/-
  The program's evaluator: the rules of casts.
-/
import Derived.Test.YtgodjiieijekiaaGreatDoorKf2
import Derived.Lib.ItoaNum
import Derived.Test.YtgodjiieijekiaaGreatDoorKf1
import Derived.Test.YtgodjiieijekiaaGreatDoorKf0
import Derived.Test.YtgodjiieijekiaaGreatDoorShelf
import Derived.Shelf.Sort.Plain
import Derived.Lib.SlicesCompact
import Derived.Lib.Bytealg
import Derived.Lib.AtoiAllCases
import Derived.WideLaws
import Derived.Lib.AtoiErrMem
set_option linter.unusedVariables false
set_option linter.unusedSimpArgs false
set_option maxHeartbeats 0
set_option maxRecDepth 100000
set_option synthInstance.maxSize 4000
set_option synthInstance.maxHeartbeats 0
namespace Go.Proofs.YtgodjiieijekiaaGreatDoor
open Go Go.RowKit
namespace Gw
section
variable {P : Program} {Γ : E6} {K : Po} {ops : Array Oper} {env : F9} {hp : List A1} {G : IM}
end
def B2U (k : Int) (ty fr : Ty) (lb : Int) (ks : List Tm) : W4 :=
 if k = 6 then
  (if prx (kd ks 0) = true ∧ (kd ks 0).ty.k = 4 then (R9 (A1t 6 [kd (kd ks 0).ks 0, R9 (kd ks 1) (kt (kd ks 0).ty.ks 0) (kt (kd ks 0).fr.ks 0) (-(kd ks 0).lb)]) (kt (kd ks 0).fr.ks 1) (kt (kd ks 0).ty.ks 1) (kd ks 0).lb, 1, 0) else Y3)
 else if k = 11 ∨ k = 12 then
  (if prx (kd ks 0) = true ∧ (kd ks 0).ty.k = 5 then (R9 (A1t k [kd (kd ks 0).ks 0]) (kt (kd ks 0).fr.ks (k - 11).toNat) (kt (kd ks 0).ty.ks (k - 11).toNat) (kd ks 0).lb, 1, 0) else Y3)
 else if k = 14 then
  (if fr.k = ty.k then (kd ks 0, 1, 0)
   else if ty.k = 1 then (R9 (R9 (kd ks 0) fr (A0Q fr) lb) (A0Q fr) ty lb, 1, 0)
   else if A23 ty = false then (R9 (R9 (kd ks 0) fr (A0Q ty) lb) (A0Q ty) ty lb, 1, 0)
   else if inj (kd ks 0) = false then Y3
   else if (kd ks 0).fr.k = ty.k then (kd (kd ks 0).ks 0, 1, 0)
   else (L4, 2, lb))
 else Y3
def B2V (r : W4) : IM → Value → List A1 → Prop := J1 fun G' v => ∃ u cells, v = .tuple ⟨[.agg ⟨cells⟩, .int .i64 r.2.1, .int .i64 r.2.2]⟩ ∧ C7 G' u cells ∧ (r.2.1 = 1 → u = r.1)
def B2W (r : W4) : IM → Value → List A1 → Prop := J1 fun G' v => ∃ cells, v = .tuple ⟨[.agg ⟨cells⟩, .int .i64 r.2.1, .int .i64 r.2.2]⟩ ∧ C7 G' r.1 cells
def A25 : Nat → Tm → Tm × Int × Int × Nat
 | 0, e => ((Q6 e).1, (Q6 e).2.1, (Q6 e).2.2, 0)
 | n + 1, e => if (Q6 e).2.1 = 1 then ((A25 n (Q6 e).1).1, (A25 n (Q6 e).1).2.1, (A25 n (Q6 e).1).2.2.1, (A25 n (Q6 e).1).2.2.2 + 1)
  else ((Q6 e).1, (Q6 e).2.1, (Q6 e).2.2, 0)
def EvP (r : Tm × Int × Int × Nat) : IM → Value → List A1 → Prop := J1 fun G' v => ∃ cells, v = .tuple ⟨[.agg ⟨cells⟩, .int .i64 r.2.1, .int .i64 r.2.2.1, .int .i64 (r.2.2.2 : Int)]⟩ ∧ C7 G' r.1 cells
def B2X (i : Nat) (r : Tm × Int × Int × Nat) : Tm × Int × Int × Nat := (r.1, r.2.1, r.2.2.1, r.2.2.2 + i)
section fin
variable {P : Program} {Γ : E6} {env : F9} {hp : List A1} {G : IM}
end fin
mutual
def A26 (L : Int → Prop) : Tm → Prop
 | .mk k nm num ty fr lb ks => (k = 14 → L lb) ∧ A6E L ks
def A6E (L : Int → Prop) : List Tm → Prop
 | [] => True
 | t :: ts => A26 L t ∧ A6E L ts
end
def B2Y (L : Int → Prop) (T : Ty) (r : W4) : Prop := (r.2.1 = 1 ∧ A20 [] r.1 = some T ∧ A26 L r.1) ∨ (r.2.1 = 2 ∧ L r.2.2)
structure Wt (cx : Cx) (k : Int) (nm : ByteArray) (ty : Ty) (h w : List Ty) (t : Ty) : Prop where
 len : w = [] ∨ w.length = h.length
 ok : ∀ i, (hi : i < w.length) → (hh : i < h.length) → P7 h[i] w[i] = true ∧ O7 w[i] = true
 again : k ≠ 13 → A2r cx k nm ty (if w = [] then h else w) = some (w, t)
 asT : k = 13 → w = [t]
def B2Z (cx : Cx) (t : Tm) (D l : Int) (u : Tm) (a : Ty) (l' : Int) : Prop := M5 40 13 u D = true ∧ A20 cx u = some a ∧ O7 a = true ∧ l ≤ l' ∧ l' + 1 ≤ l + (D1 t : Int) ∧ (D1 u : Int) ≤ D1 t + (l' - l)
def B20 (k : Int) : Bool := decide (k = 5 ∨ k = 13)
def A6F : ByteArray := ⟨⟨[112, 97, 105, 114]⟩⟩
def A6G : ByteArray := ⟨⟨[102, 117, 110, 99, 116, 105, 111, 110]⟩⟩
def txT : ByteArray := ⟨⟨[84]⟩⟩
def txF : ByteArray := ⟨⟨[70]⟩⟩
def A6H (n : Int) : ByteArray := ⟨(Lib.decDigits n.toNat).toArray⟩
def B0e (k num : Int) : ByteArray := if k = 2 then A6H num else if k = 3 then txT else txF
mutual
def A2t : Tm → ByteArray
 | .mk k nm num ty fr lb ks => if k = 10 ∨ (prx (.mk k nm num ty fr lb []) = true ∧ ty.k = 5) then A6F else if k = 5 ∨ prx (.mk k nm num ty fr lb []) = true then A6G else if k = 14 then B0f ks else B0e k num
def B0f : List Tm → ByteArray
 | [] => ⟨⟨[]⟩⟩
 | t :: _ => A2t t
end
section
variable {k : Int} {nm : ByteArray} {num : Int} {ty fr : Ty} {lb : Int} {ks : List Tm}
end
section fin
variable {P : Program} {Γ : E6} {env : F9} {hp : List A1} {G : IM}
end fin
def CsP (bx : Nat) (e : Tm) (a b : Ty) (l : Int) : IM → Value → List A1 → Prop := fun G' v outs => ∃ cells, v = .agg ⟨cells⟩ ∧ outs = [.blk bx [.int .i64 (if W3 a b = true then l else l + 1)]] ∧ C7 G' (if W3 a b = true then e else R9 e a b (l + 1)) cells
def ElP (bx : Nat) (cx : Cx) (e : Tm) (l : Int) : IM → Value → List A1 → Prop := fun G' v outs => ∃ u cu t ct l', v = .tuple ⟨[.agg ⟨cu⟩, .agg ⟨ct⟩, .bool (mEl cx e l).isSome]⟩ ∧ outs = [.blk bx [.int .i64 l']] ∧ C7 G' u cu ∧ C5 G' t ct ∧ l ≤ l' ∧ l' + 1 ≤ l + (D1 e : Int) ∧ ∀ r, mEl cx e l = some r → r = (u, t, l')
section
variable {cx : Cx} {k : Int} {nm : ByteArray} {num : Int} {ty fr : Ty} {lb : Int} {ks us : List Tm} {h : List Ty} {l l' : Int}
end
def B21 (r : Option (Tm × Ty)) : IM → Value → List A1 → Prop := J1 fun G' v => ∃ cu ct, v = .tuple ⟨[.agg ⟨cu⟩, .agg ⟨ct⟩, .bool r.isSome]⟩ ∧ C7 G' (r.getD (L4, A3)).1 cu ∧ C5 G' (r.getD (L4, A3)).2 ct
def A6I (e : Tm) : Option Ty := match A6z e with | some (_, t) => some t | none => none
def A6J (e : Tm) (fuel : Int) : ByteArray × Int × Int := match A6z e with
 | none => (⟨⟨[]⟩⟩, 3, 0)
 | some (u, _) => if (U8 u fuel).2.1 = 0 then (A2t (U8 u fuel).1, 0, 0) else (⟨⟨[]⟩⟩, (U8 u fuel).2.1, (U8 u fuel).2.2)
def B22 (r : ByteArray × Int × Int) (G : IM) : IM → Value → List A1 → Prop := J1 fun _ v => v = .tuple ⟨[.string r.1, .int .i64 r.2.1, .int .i64 r.2.2]⟩
def B0g (r s : ByteArray × Int × Int) : Int := if r.2.1 = 2 then 2 else if r.2.1 ≠ 0 ∨ s.2.1 = 4 ∨ s.2.1 = 5 then 3 else if s.2.1 = 0 ∧ r.1 = s.1 then 1 else 4
def B23 (a b : Tm) (fuel : Int) : Int := if (A6I a).isSome = true ∧ B0c a b = true ∧ T4 fuel 0 300 = true then B0g (A6J a fuel) (A6J b fuel) else 0
def gxT : GX → ByteArray
 | .n n => A6H n
 | .b b => if b = true then txT else txF
 | .p => A6F
 | .f => A6G
def GE.er : GE → GE
 | .var x => .var x
 | .num n => .num n
 | .tru b => .tru b
 | .lam x _ e => .lam x .any e.er
 | .app f a => .app f.er a.er
 | .ar s a b => .ar s a.er b.er
 | .ite c a b => .ite c.er a.er b.er
 | .pair a b => .pair a.er b.er
 | .part s e => .part s e.er
 | .cast _ _ _ e => e.er
def GE.nt : GE → Prop
 | .var _ => True
 | .num _ => True
 | .tru _ => True
 | .lam _ A e => A = .any ∧ e.nt
 | .app f a => f.nt ∧ a.nt
 | .ar _ a b => a.nt ∧ b.nt
 | .ite c a b => c.nt ∧ a.nt ∧ b.nt
 | .pair a b => a.nt ∧ b.nt
 | .part _ e => e.nt
 | .cast _ _ _ _ => False
inductive Sn : Nat → GE → GE → Prop
 | refl {e} : Sn 0 e e
 | step {n a b c} : GS a b → Sn n b c → Sn (n + 1) a c
def B0h (k : Int) : Int := if k = 6 then 1 else if k = 7 ∨ k = 8 then 2 else if k = 9 then 3 else if k = 11 ∨ k = 12 then 4 else 5
def B0i (k : Int) (ks : List Tm) : W4 := match B0d k ks with
 | some u => (u, 1, 0)
 | none => (L4, 2, B0h k)
mutual
def A05 : Tm → W4
 | .mk k nm num ty fr lb ks => match A6K (if k = 9 then 1 else ks.length) ks with
  | some (ks', c, l) => if c = 1 then (.mk k nm num ty fr lb ks', 1, 0) else (L4, c, l)
  | none => B0i k ks
def A6K : Nat → List Tm → Option (List Tm × Int × Int)
 | _, [] => none
 | n, t :: ts => match n with
  | 0 => none
  | n + 1 => if A1O t = true then (match A6K n ts with
    | some (us, c, l) => some (t :: us, c, l)
    | none => none)
   else some ((A05 t).1 :: ts, (A05 t).2.1, (A05 t).2.2)
end
mutual
def A6L : Tm → Bool
 | .mk k _ _ ty _ _ ks => decide (k ≠ 14 ∧ (k ≠ 5 ∨ ty.k = 1)) && A6M ks
def A6M : List Tm → Bool
 | [] => true
 | t :: ts => A6L t && A6M ts
end
def A6N (e : Tm) : Bool := N7 e && A6L e
def Q7 (e : Tm) : W4 :=
 if A6N e = false then (L4, 3, 0) else if A1O e = true then (e, 0, 0)
 else if (A05 e).2.1 ≠ 1 then (L4, (A05 e).2.1, (A05 e).2.2)
 else if A6N (A05 e).1 = false then (L4, 4, 0) else ((A05 e).1, 1, 0)
def A27 : Nat → Tm → Tm × Int × Int × Nat
 | 0, e => ((Q7 e).1, (Q7 e).2.1, (Q7 e).2.2, 0)
 | n + 1, e => if (Q7 e).2.1 = 1 then ((A27 n (Q7 e).1).1, (A27 n (Q7 e).1).2.1, (A27 n (Q7 e).1).2.2.1, (A27 n (Q7 e).1).2.2.2 + 1)
  else ((Q7 e).1, (Q7 e).2.1, (Q7 e).2.2, 0)
def A06 : Nat → Tm → Tm × Int × Int × Nat
 | 0, e => if (Q7 e).2.1 = 1 then (L4, 5, 0, 0) else ((Q7 e).1, (Q7 e).2.1, (Q7 e).2.2, 0)
 | n + 1, e => if (Q7 e).2.1 = 1 then ((A06 n (Q7 e).1).1, (A06 n (Q7 e).1).2.1, (A06 n (Q7 e).1).2.2.1, (A06 n (Q7 e).1).2.2.2 + 1)
  else ((Q7 e).1, (Q7 e).2.1, (Q7 e).2.2, 0)
def A2u (e : Tm) (fuel : Int) : W4 := if 0 ≤ fuel ∧ fuel ≤ 300 then ((A06 fuel.toNat e).1, (A06 fuel.toNat e).2.1, (A06 fuel.toNat e).2.2.1) else (L4, 3, 0)
def B24 (e : Tm) (fuel : Int) : Int := if 0 ≤ fuel ∧ fuel ≤ 300 then ((A06 fuel.toNat e).2.2.2 : Int) else 0
section
variable {k : Int} {nm : ByteArray} {num : Int} {ty fr : Ty} {lb : Int} {a b c : Tm} {t : Tm} {l : Int}
end
def pAt (t : Tm) (label : Int) (l : List Int) : Bool := match tAt t l with
 | some x => decide (x.k = 14 ∧ x.lb = label)
 | none => false
def A4f (t : Tm) (label : Int) : List Int × Bool := match (A9a t).find? (pAt t label) with
 | some l => (l, true)
 | none => ([], false)
def SP1 (G : IM) (l : List Int) (p : Option Addr) (c : Nat) : Prop := Sl G p l.length c 1 (A2m l) ∧ ∀ b ∈ E5 p, G b ≠ none
def CpP (t : Tm) (label : Int) (G : IM) : IM → Value → List A1 → Prop := J1 fun G' v => ∃ p c, v = .tuple ⟨[.slice p (A4f t label).1.length c, .bool (A4f t label).2]⟩ ∧ SP1 (B2 G' G) (A4f t label).1 p c
mutual
def A1v : Tm → List Tm
 | .mk k nm num ty fr lb ks => (if k = 14 then [.mk k nm num ty fr lb ks] else []) ++ A4g ks
def A4g : List Tm → List Tm
 | [] => []
 | t :: ts => A1v t ++ A4g ts
end
def A6O (label : Int) (x : Tm) : Bool := decide (x.lb = label)
def B25 (t : Tm) (label : Int) : Prop := ((A1v t).find? (A6O label) = none → (A2T t []).find? (pAt t label) = none) ∧ (∀ x, (A1v t).find? (A6O label) = some x → ∃ l, (A2T t []).find? (pAt t label) = some l ∧ tAt t l = some x)
def A6P (label : Int) : List Tm → List Ty
 | [] => []
 | c :: cs => (if c.lb = label then [c.fr, c.ty] else []) ++ A6P label cs
def B26 (t : Tm) (label : Int) : List Ty := if N7 t = true then A6P label (A1v t) else []
mutual
def A1R : GT → GT → Bool
 | _, .any => true
 | .fn a b, .fn c d => A07 c a && A1R b d
 | .pr a b, .pr c d => A1R a c && A1R b d
 | .int, .int => true
 | .bool, .bool => true
 | _, _ => false
termination_by a b => SizeOf.sizeOf a + SizeOf.sizeOf b
def A07 : GT → GT → Bool
 | .any, _ => true
 | .fn a b, .any => A1R .any a && A07 b .any
 | .pr a b, .any => A07 a .any && A07 b .any
 | .int, .any => true
 | .bool, .any => true
 | .fn a b, .fn c d => A1R c a && A07 b d
 | .pr a b, .pr c d => A07 a c && A07 b d
 | .int, .int => true
 | .bool, .bool => true
 | _, _ => false
termination_by a b => SizeOf.sizeOf a + SizeOf.sizeOf b
end
def GQ (Q : GT → GT → Int → Prop) : GE → Prop
 | .var _ => True
 | .num _ => True
 | .tru _ => True
 | .lam _ _ e => GQ Q e
 | .app f a => GQ Q f ∧ GQ Q a
 | .ar _ a b => GQ Q a ∧ GQ Q b
 | .ite c a b => GQ Q c ∧ GQ Q a ∧ GQ Q b
 | .pair a b => GQ Q a ∧ GQ Q b
 | .part _ e => GQ Q e
 | .cast A B l e => Q A B l ∧ GQ Q e
structure Clo (Q : GT → GT → Int → Prop) : Prop where
 fn : ∀ {a b c d l}, Q (.fn a b) (.fn c d) l → Q c a (-l) ∧ Q b d l
 pr : ∀ {a b c d l}, Q (.pr a b) (.pr c d) l → Q a c l ∧ Q b d l
 up : ∀ {A l}, A ≠ .any → Q A .any l → Q A.gr .any l ∧ Q A A.gr l
 down : ∀ {B l}, B ≠ .any → Q .any B l → Q B.gr B l ∧ Q .any B.gr l
def QL (m : Int) : GT → GT → Int → Prop := fun A B l => (l = m → A1R A B = true) ∧ (l = -m → A07 A B = true)
mutual
def A1w : Tm → List Ty
 | .mk k _ _ ty _ _ ks => (if k = 5 ∨ k = 13 then [ty] else []) ++ A6Q ks
def A6Q : List Tm → List Ty
 | [] => []
 | t :: ts => A1w t ++ A6Q ts
end
mutual
def A4h : Tm → List Ty → Tm
 | .mk k nm num ty fr lb ks, l => .mk k nm num (if k = 5 ∨ k = 13 then l.getD 0 A3 else ty) fr lb (A6R ks (if k = 5 ∨ k = 13 then l.drop 1 else l))
def A6R : List Tm → List Ty → List Tm
 | [], _ => []
 | t :: ts, l => A4h t l :: A6R ts (l.drop (A1w t).length)
end
def A6S (mask : Nat) : Nat → List Ty → List Ty
 | _, [] => []
 | i, t :: ts => (if (mask / 2 ^ i) % 2 = 1 then .mk 1 [] else t) :: A6S mask (i + 1) ts
def B0j (e : Tm) (mask : Nat) : Tm := A4h e (A6S mask 0 (A1w e))
def B0k (e : Tm) : List Tm := (List.range (2 ^ (A1w e).length)).map (B0j e)
section cap
variable {P : Program} {Γ : E6} {env : F9} {hp : List A1} {G : IM} {K : Po} {ops : Array Oper} {rest : List Oper}
end cap
def B27 (ts : List Ty) : IM → Value → List A1 → Prop := fun G' v outs => ∃ p c es, v = .slice p ts.length c ∧ outs = [.slc p c 25 2 ts.length es.flatten] ∧ H5 G' ts es
def RtP (u : Tm) (l : List Ty) : IM → Value → List A1 → Prop := fun G' v outs => outs = [] ∧ ∃ cu p c el, v = .tuple ⟨[.agg ⟨cu⟩, .slice p l.length c]⟩ ∧ C7 G' u cu ∧ B7 G' p l.length c 2 el ∧ H5 G' l el
section bits
variable {P : Program} {Γ : E6} {env : F9} {hp : List A1} {G : IM} {ty : TypeId}
end bits
section wr
variable {P : Program} {Γ : E6} {env : F9} {hp : List A1} {G : IM} {ty : TypeId} {K : Po} {ops : Array Oper} {rest : List Oper}
variable {pos : String} {af : Array Edge} {gd : Option (Nat × Bool)}
end wr
def B28 (e : Tm) : Option (List Tm) := if (A6I e).isSome = true ∧ (A1w e).length ≤ 6 then some (B0k e) else none
def CfP (r : Option (List Tm)) : IM → Value → List A1 → Prop := fun G' v outs => outs = [] ∧ ∃ p c es, v = .tuple ⟨[.slice p (r.getD []).length c, .bool r.isSome]⟩ ∧ B7 G' p (r.getD []).length c 9 es ∧ E7 G' (r.getD []) es
def MsP (r : Option (List Int)) (e : A1) (G : IM) : IM → Value → List A1 → Prop := fun G' v outs => outs = [e] ∧ ∃ p c, v = .tuple ⟨[.slice p (r.getD []).length c, .bool r.isSome]⟩ ∧ SP1 (B2 G' G) (r.getD []) p c
def IsP (l : List Int) (b : Bool) (G : IM) : IM → Value → List A1 → Prop := J1 fun G' v => ∃ p c, v = .tuple ⟨[.slice p l.length c, .bool b]⟩ ∧ SP1 (B2 G' G) l p c
def mB : Nat → Nat
 | 0 => 200
 | n + 1 => 3 * mB n + 200
def B0l (n : Nat) (depth : Int) (t : Ty) : Prop := tAh 4 t ∧ (n : Int) - 1000 ≤ depth ∧ depth ≤ 1000 ∧ ((depth ≤ 1 ∧ tAh n t) ∨ (2 ≤ depth ∧ depth + 3 ≤ n))
def B29 (br : Nat) (pb : Option Addr) (nb cb : Nat) (bs : List UInt8) (n : Nat) : Prop := ∀ (depth : Int) (t : Ty) (p : Nat) (G : IM) (pc : Option Addr) (nc cc : Nat) (cells : List Value), B0l n depth t → (n : Int) - 1000 ≤ depth → depth ≤ 1000 → nc + n ≤ 40 → GCx G pc nc cc → C5 G t cells → Sl G pb nb cb 1 (A6k bs) → p + mB n < 1099511627776 →
 Fn Tryz.prog 110 [.pointer (some ⟨br, 0, none⟩), .slice pc nc cc, .agg ⟨cells⟩, .int .i64 depth] [rd br pb nb cb p] G
  (A91 br pb nb cb p (mB n) (fun G' v => ∃ e cells, v = .agg ⟨cells⟩ ∧ C7 G' e cells ∧ e.small ∧ D1 e ≤ mB n))
structure B3a {ι : Type} (S : ι → Sy) (φ : ι → Prop) (K : Po) (e : Exit) (σ : Sy) : Prop where
 run : match e with
  | .normal => ∃ i, φ i ∧ Sub σ (S i)
  | e => K e σ
section cut
variable {P : Program} {Γ : E6} {K : Po} {σ : Sy} {ι : Type}
end cut
def TyO (o : Option Ty) (G : IM) : IM → Value → List A1 → Prop := J1 fun G' v => ∃ t cells, v = .tuple ⟨[.agg ⟨cells⟩, .bool o.isSome]⟩ ∧ C5 G' t cells ∧ Q5 t ∧ ∀ u, o = some u → u = t
section
variable {cx : Cx} {k : Int} {nm : ByteArray} {ty : Ty} {ts : List Ty}
end
section
variable {ak bk : Int} {aks bks : List Ty}
end
section
variable {cx : Cx} {k : Int} {nm : ByteArray} {num : Int} {ty fr : Ty} {lb : Int} {ks : List Tm}
end
def B3b (t : Ty) (x : Bool) (G : IM) : IM → Value → List A1 → Prop := J1 fun G' v => ∃ cells, v = .tuple ⟨[.agg ⟨cells⟩, .bool x]⟩ ∧ C5 G' (if x = true then t else A3) cells
def B3c (e : Tm) (a b : Ty) (l : Int) : IM → Value → List A1 → Prop := J1 fun G' v => ∃ cells, v = .tuple ⟨[.agg ⟨cells⟩, .int .i64 (if W3 a b = true then l else l + 1)]⟩ ∧ C7 G' (if W3 a b = true then e else R9 e a b l) cells
def B3d (w ts : List Ty) : List Ty := if w = [] then ts else w
def B3e (ws : List Ty) (n : Nat) (G : IM) : IM → Value → List A1 → Prop := J1 fun G' v => ∃ p c es, v = .slice p n c ∧ ws.length = n ∧ B7 G' p n c 2 es ∧ H5 G' ws es
section
variable {cx : Cx} {k : Int} {nm : ByteArray} {ty : Ty} {ts w : List Ty} {t : Ty}
end
def B3f (u : Tm) (t : Ty) (l : Int) (G : IM) : IM → Value → List A1 → Prop := J1 fun G' v => ∃ cu ct, v = .tuple ⟨[.agg ⟨cu⟩, .agg ⟨ct⟩, .int .i64 (l + 1)]⟩ ∧ C7 G' u cu ∧ C5 G' t ct
def B0m (t : Tm) : List Ty := if P9 t = true then A1w t else []
def B3g (u : Tm) (n : Int) : IM → Value → List A1 → Prop := fun G' v outs => outs = [] ∧ ∃ cu, v = .tuple ⟨[.agg ⟨cu⟩, .int .i64 n]⟩ ∧ C7 G' u cu
def B3h (t : Tm) (L : List Ty) : Option Tm := if P9 t = true ∧ (B0m t).length = L.length ∧ ∀ u ∈ L, O7 u = true then some (A4h t L) else none
def TmB (o : Option Tm) : IM → Value → List A1 → Prop := J1 fun G' v => ∃ cu, v = .tuple ⟨[.agg ⟨cu⟩, .bool o.isSome]⟩ ∧ C7 G' (o.getD L4) cu
def PLe (l l' : List Ty) : Prop := ∀ i, A4e (l.getD i A3) (l'.getD i A3) = true
section masks
variable {P : Program} {Γ : E6} {env : F9} {hp : List A1} {G : IM} {ty : TypeId}
end masks
def mLb (t : Tm) : List Int := (A1v t).map Tm.lb
def B3i (ts : List Tm) : List Int := (A4g ts).map Tm.lb
structure Lbs (ls : List Int) (l l' : Int) : Prop where
 le : l ≤ l'
 nd : ls.Nodup
 len : (ls.length : Int) = l' - l
 mem : ∀ m ∈ ls, l < m ∧ m ≤ l'
def GE.lt : GE → Prop
 | .var _ => True
 | .num _ => True
 | .tru _ => True
 | .lam _ A e => O7 A.ty = true ∧ e.lt
 | .app f a => f.lt ∧ a.lt
 | .ar _ a b => a.lt ∧ b.lt
 | .ite c a b => c.lt ∧ a.lt ∧ b.lt
 | .pair a b => a.lt ∧ b.lt
 | .part _ e => e.lt
 | .cast _ _ _ _ => False
mutual
def A6T : Ty → Int
 | .mk k ks => if k = 1 then 1 else A6U ks
def A6U : List Ty → Int
 | [] => 0
 | t :: ts => A6T t + A6U ts
end
def tSt (t : Ty) : Bool := decide (A6T t = 0)
def B3j (e : Tm) : Bool := P9 e && (A1w e).all tSt
abbrev NoC (u : Tm) : Prop := A26 (fun _ => False) u
def B3k (e : Tm) (fuel : Int) : ByteArray × Int × Int := if (P9 e || N7 e) = true then (if (A2u (A1s e) fuel).2.1 = 0 then (A2t (A2u (A1s e) fuel).1, 0, (A2u (A1s e) fuel).2.2) else (⟨⟨[]⟩⟩, (A2u (A1s e) fuel).2.1, (A2u (A1s e) fuel).2.2)) else (⟨⟨[]⟩⟩, 3, 0)
inductive Tg where
 | i | b | f | p
def Tg.ty : Tg → GT
 | .i => .int
 | .b => .bool
 | .f => .fn .any .any
 | .p => .pr .any .any
inductive DM where
 | a
 | r (t : Tg)
 | c (t : Tg)
def GE.dy : GE → DM → Prop
 | .var _, m => m = .a
 | .num _, m => m = .r .i ∨ m = .c .i
 | .tru _, m => m = .r .b ∨ m = .c .b
 | .lam _ A e, m => (m = .r .f ∨ m = .c .f) ∧ A = .any ∧ e.dy .a
 | .app f x, m => m = .a ∧ f.dy (.c .f) ∧ x.dy .a
 | .ar s x y, m => m = .r (if s = true then .b else .i) ∧ x.dy (.c .i) ∧ y.dy (.c .i)
 | .ite c x y, m => m = .a ∧ c.dy (.c .b) ∧ x.dy .a ∧ y.dy .a
 | .pair x y, m => (m = .r .p ∨ m = .c .p) ∧ x.dy .a ∧ y.dy .a
 | .part _ e, m => m = .a ∧ e.dy (.c .p)
 | .cast A B _ e, m => (m = .a ∧ B = .any ∧ ∃ t : Tg, A = t.ty ∧ e.dy (.r t)) ∨ ∃ t : Tg, m = .c t ∧ A = .any ∧ B = t.ty ∧ e.dy .a
def GE.evc : GE → Prop
 | .var _ => False
 | .num _ => True
 | .tru _ => True
 | .lam _ _ _ => True
 | .app f a => f.evc ∧ a.evc
 | .ar _ a b => a.evc ∧ b.evc
 | .ite c _ _ => c.evc
 | .pair a b => a.evc ∧ b.evc
 | .part _ e => e.evc
 | .cast _ _ _ e => e.evc
def GE.tg : GE → Option Tg
 | .num _ => some .i
 | .tru _ => some .b
 | .lam _ _ _ => some .f
 | .pair _ _ => some .p
 | _ => none
def Vl (e : GE) : Prop := ∃ w, Ss e w ∧ GV w
def Rs (t : Tg) (e : GE) : Prop := ∃ w, Ss e w ∧ GV w ∧ w.tg = some t
def Nv : DM → GE → Prop
 | .a, e => ¬Vl e.er
 | .r _, e => ¬Vl e.er
 | .c t, e => ¬Rs t e.er
def A6V (e : Tm) : Tm := .mk 13 ⟨#[]⟩ 0 T6 A3 0 [e]
mutual
def A4i : Tm → Tm
 | .mk k nm num ty fr lb ks => if k = 13 then (A28 ks).headD L4 else if k = 1 ∨ k = 6 ∨ k = 9 ∨ k = 11 ∨ k = 12 then .mk k nm num A3 A3 0 (A28 ks)
  else A6V (.mk k nm num (if k = 5 then T6 else A3) A3 0 (A28 ks))
def A28 : List Tm → List Tm
 | [] => []
 | t :: ts => A4i t :: A28 ts
end
mutual
def mCl : List ByteArray → Tm → Prop
 | b, .mk k nm _ _ _ _ ks => (k = 1 → nm ∈ b) ∧ A6W (if k = 5 then nm :: b else b) ks
def A6W : List ByteArray → List Tm → Prop
 | _, [] => True
 | b, t :: ts => mCl b t ∧ A6W b ts
end
def B3l (e : Tm) : Tm × Bool := if P9 e = true ∧ P9 (A4i e) = true then (A4i e, true) else (L4, false)
def B3m (cx : Cx) (t : Tm) : Prop := ∀ l, ∃ (g : GE) (l' : Int), mEl cx t l = some (g.tm, T6, l') ∧ g.dy .a
def B3n (cx : Cx) (t : Tm) (s : Tg) : Prop := ∀ l, ∃ (g : GE) (l' : Int), mEl cx t l = some (g.tm, s.ty.ty, l') ∧ g.dy (.r s)
section
variable {cx : Cx} {k : Int} {nm : ByteArray} {num : Int} {ty fr : Ty} {lb : Int} {a b c u v w : Tm} {A B C : Ty} {l l1 l2 l3 : Int}
end
section
variable {cx : Cx} {a b c : Tm}
end
mutual
def A29 (g : Int → Tm → Tm × Int) : Tm → Int → Tm × Int
 | .mk k nm num ty fr lb ks, n => g (A1S g ks n).2 (.mk k nm num ty fr lb (A1S g ks n).1)
def A1S (g : Int → Tm → Tm × Int) : List Tm → Int → List Tm × Int
 | [], n => ([], n)
 | t :: ts, n => ((A29 g t n).1 :: (A1S g ts (A29 g t n).2).1, (A1S g ts (A29 g t n).2).2)
end
mutual
def B0n (Q : Int → Tm → Prop) (g : Int → Tm → Tm × Int) : Tm → Int → Prop
 | .mk k nm num ty fr lb ks, n => A6X Q g ks n ∧ Q (A1S g ks n).2 (.mk k nm num ty fr lb (A1S g ks n).1)
def A6X (Q : Int → Tm → Prop) (g : Int → Tm → Tm × Int) : List Tm → Int → Prop
 | [], _ => True
 | t :: ts, n => B0n Q g t n ∧ A6X Q g ts (A29 g t n).2
end
def B3o (g : Int → Tm → Tm × Int) (Q : Int → Tm → Prop) (E : Int → A1) (fid : FuncId) (us cs : List Value) : Prop := ∀ (n : Int) (t : Tm) (G : IM) (cells : List Value), Q n t → C7 G t cells →
 Fn Tryz.prog fid (us ++ [.agg ⟨cells⟩] ++ cs) [E n] G (fun G' v outs => outs = [E (g n t).2] ∧ ∃ cells', v = .agg ⟨cells'⟩ ∧ C7 G' (g n t).1 cells')
def B3p (g : Tm → Tm) (Q : Tm → Prop) (fid : FuncId) (us cs : List Value) : Prop := ∀ (t : Tm) (G : IM) (cells : List Value), Q t → C7 G t cells → Fn Tryz.prog fid (us ++ [.agg ⟨cells⟩] ++ cs) [] G (TmP (g t))
inductive Sm : Nat → GE → GE → Prop
 | refl {e} : Sm 0 e e
 | step {n a b c} : GS a b → Sm n b c → Sm (n + 1) a c
inductive Bl : GE → Int → Prop
 | app1 {f a L} : Bl f L → Bl (.app f a) L
 | app2 {f a L} : GV f → Bl a L → Bl (.app f a) L
 | ar1 {s a b L} : Bl a L → Bl (.ar s a b) L
 | ar2 {s a b L} : GV a → Bl b L → Bl (.ar s a b) L
 | ite1 {c a b L} : Bl c L → Bl (.ite c a b) L
 | pair1 {a b L} : Bl a L → Bl (.pair a b) L
 | pair2 {a b L} : GV a → Bl b L → Bl (.pair a b) L
 | part1 {s e L} : Bl e L → Bl (.part s e) L
 | cast1 {A B l e L} : Bl e L → Bl (.cast A B l e) L
 | fail {G H l m w} : GV w → G.Gd → H.Gd → G ≠ H → Bl (.cast .any G l (.cast H .any m w)) l
section
variable {k : Int} {nm : ByteArray} {num : Int} {ty fr : Ty} {lb : Int} {a b : Tm} {l : Int}
end
def GT.cp : GT → Prop
 | .fn _ _ => True
 | .pr _ _ => True
 | _ => False
def A6Y : List Int → GE → GE
 | [], y => y
 | k :: ks, y => .cast .any .any k (A6Y ks y)
inductive HR : GC → GE → GE → GT → Prop
 | var {Γ x A} : Γ x = some (A, A) → HR Γ (.var x) (.var x) A
 | num {Γ n} : HR Γ (.num n) (.num n) .int
 | tru {Γ b} : HR Γ (.tru b) (.tru b) .bool
 | lam {Γ x A B e e'} : HR (gup Γ x A A) e e' B → HR Γ (.lam x A e) (.lam x A e') (.fn A B)
 | app {Γ f f' a a' A B} : HR Γ f f' (.fn A B) → HR Γ a a' A → HR Γ (.app f a) (.app f' a') B
 | ar {Γ s a a' b b'} : HR Γ a a' .int → HR Γ b b' .int → HR Γ (.ar s a b) (.ar s a' b') (if s = true then .bool else .int)
 | ite {Γ c c' a a' b b' A} : HR Γ c c' .bool → HR Γ a a' A → HR Γ b b' A → HR Γ (.ite c a b) (.ite c' a' b') A
 | pair {Γ a a' b b' A B} : HR Γ a a' A → HR Γ b b' B → HR Γ (.pair a b) (.pair a' b') (.pr A B)
 | part {Γ s e e' A B} : HR Γ e e' (.pr A B) → HR Γ (.part s e) (.part s e') (if s = true then B else A)
 | cast {Γ e x A B l} : HR Γ e x A → Co A B → HR Γ (.cast A B l e) (.cast A B l x) B
 | idR {Γ e x A l} : HR Γ e x A → HR Γ e (.cast A A l x) A
 | idL {Γ e x A l} : HR Γ e x A → HR Γ (.cast A A l e) x A
 | back {Γ e x B l m} (ks : List Int) : HR Γ e x B → HR Γ e (.cast .any B l (A6Y ks (.cast B .any m x))) B
 | backG {Γ e x B l m} : HR Γ e x B → B.cp → HR Γ e (.cast B.gr B l (.cast B B.gr m x)) B
 | dyn {Γ e x A B l} : HR Γ e x A → Co A B → HR Γ (.cast A B l e) (.cast .any B l (.cast A .any l x)) B
 | dynG {Γ e x A B l} : HR Γ e x A → Co A B → A.cp → B.cp → HR Γ (.cast A B l e) (.cast B.gr B l (.cast A A.gr l x)) B
 | dynU {Γ e x A B l} : HR Γ e x A → Co A B → A.cp → HR Γ (.cast A B l e) (.cast .any B l (.cast A.gr .any l (.cast A A.gr l x))) B
inductive WT : GC → GE → GT → Prop
 | var {Γ x A} : Γ x = some (A, A) → WT Γ (.var x) A
 | num {Γ n} : WT Γ (.num n) .int
 | tru {Γ b} : WT Γ (.tru b) .bool
 | lam {Γ x A B e} : WT (gup Γ x A A) e B → WT Γ (.lam x A e) (.fn A B)
 | app {Γ f a A B} : WT Γ f (.fn A B) → WT Γ a A → WT Γ (.app f a) B
 | ar {Γ s a b} : WT Γ a .int → WT Γ b .int → WT Γ (.ar s a b) (if s = true then .bool else .int)
 | ite {Γ c a b A} : WT Γ c .bool → WT Γ a A → WT Γ b A → WT Γ (.ite c a b) A
 | pair {Γ a b A B} : WT Γ a A → WT Γ b B → WT Γ (.pair a b) (.pr A B)
 | part {Γ s e A B} : WT Γ e (.pr A B) → WT Γ (.part s e) (if s = true then B else A)
 | cast {Γ e A B l} : WT Γ e A → Co A B → WT Γ (.cast A B l e) B
def gbk (A B : GT) (l : Int) (a : GE) : GE := if W3 A.ty B.ty = true then a else match a with
 | .cast C D m x => if A.ty.k = 1 ∧ D.ty.k = 1 ∧ W3 B.ty C.ty = true then x else .cast A B l (.cast C D m x)
 | a => .cast A B l a
def GE.simp : GE → GE
 | .var x => .var x
 | .num n => .num n
 | .tru b => .tru b
 | .lam x A e => .lam x A e.simp
 | .app f a => .app f.simp a.simp
 | .ar s a b => .ar s a.simp b.simp
 | .ite c a b => .ite c.simp a.simp b.simp
 | .pair a b => .pair a.simp b.simp
 | .part s e => .part s e.simp
 | .cast A B l e => gbk A B l e.simp
def GE.dynm : GE → GE
 | .var x => .var x
 | .num n => .num n
 | .tru b => .tru b
 | .lam x A e => .lam x A e.dynm
 | .app f a => .app f.dynm a.dynm
 | .ar s a b => .ar s a.dynm b.dynm
 | .ite c a b => .ite c.dynm a.dynm b.dynm
 | .pair a b => .pair a.dynm b.dynm
 | .part s e => .part s e.dynm
 | .cast A B l e => if A.ty.k = 1 ∨ B.ty.k = 1 then .cast A B l e.dynm else .cast .any B l (.cast A .any l e.dynm)
def B0o (t : Tm) : Tm := if t.k ≠ 14 then t else if W3 t.fr t.ty = true then kd t.ks 0 else if t.fr.k = 1 ∧ (kd t.ks 0).k = 14 ∧ (kd t.ks 0).ty.k = 1 ∧ W3 t.ty (kd t.ks 0).fr = true then kd (kd t.ks 0).ks 0 else t
def B0p (t : Tm) : Tm := if t.k ≠ 14 ∨ t.fr.k = 1 ∨ t.ty.k = 1 then t else R9 (R9 (kd t.ks 0) t.fr T6 t.lb) T6 t.ty t.lb
section
variable {cx : Cx} {k : Int} {nm : ByteArray} {num : Int} {ty fr : Ty} {lb : Int} {a b c a' b' c' : Tm} {T : Ty}
end
section
variable {D N : Int} {k : Int} {nm : ByteArray} {num : Int} {ty fr : Ty} {lb : Int} {a b c a' b' c' : Tm} {d d' : Int}
end
def Agr (a b : Tm) (n m : Int) : Prop := (U8 a n).2.1 = 4 ∨ (U8 a n).2.1 = 5 ∨ (U8 b m).2.1 = 4 ∨ (U8 b m).2.1 = 5 ∨
 ((U8 a n).2.1 = 0 ∧ (U8 b m).2.1 = 0 ∧ A2t (U8 a n).1 = A2t (U8 b m).1) ∨
 ((U8 a n).2.1 = 2 ∧ (U8 b m).2.1 = 2 ∧ (U8 a n).2.2 = (U8 b m).2.2)
def B3q (e : Tm) : Tm × Bool := if N7 e = true then (A37 B0o e, true) else (L4, false)
mutual
def lz : Tm → Tm
 | .mk k nm num ty fr lb ks => .mk k nm num ty fr (if k = 14 then 0 else lb) (lzL ks)
def lzL : List Tm → List Tm
 | [] => []
 | t :: ts => lz t :: lzL ts
end
def SL (r s : W4) : Prop := r.2.1 = s.2.1 ∧ lz r.1 = lz s.1
abbrev LbV (t : Tm) : Prop := A26 (fun l => X0 l = true) t
mutual
def mRl : Tm → Int → Tm × Int
 | .mk k nm num ty fr lb ks, n => (.mk k nm num ty fr (if k = 14 then (A1T ks n).2 + 1 else lb) (A1T ks n).1, if k = 14 then (A1T ks n).2 + 1 else (A1T ks n).2)
def A1T : List Tm → Int → List Tm × Int
 | [], n => ([], n)
 | t :: ts, n => ((mRl t n).1 :: (A1T ts (mRl t n).2).1, (A1T ts (mRl t n).2).2)
end
def B3r (G : IM) : IM → Value → List A1 → Prop := J1 fun G' v => ∃ u cu t ct b, v = .tuple ⟨[.agg ⟨cu⟩, .agg ⟨ct⟩, .bool b]⟩ ∧ C7 G' u cu ∧ u.small ∧ D1 u ≤ 60 ∧ C5 G' t ct ∧ Q5 t ∧ Q1 t ≤ 960
def B3s (G : IM) : IM → Value → List A1 → Prop := J1 fun G' v => ∃ t cells l q c, v = .tuple ⟨[.agg ⟨cells⟩, .slice q l.length c]⟩ ∧ C7 G' t cells ∧ t.fit 100 ∧ Sl G' q l.length c 1 (A2m l) ∧ l.length ≤ 100
def B3t (ts : List Tm) (G : IM) : IM → Value → List A1 → Prop := J1 fun G' v => ∃ p c es, v = .slice p ts.length c ∧ B7 G' p ts.length c 9 es ∧ E7 G' ts es
def B3u (ts : List Ty) (G : IM) : IM → Value → List A1 → Prop := J1 fun G' v => ∃ p c es, v = .slice p ts.length c ∧ B7 G' p ts.length c 2 es ∧ H5 G' ts es
def srt (zs : List Int) : List Int := zs.mergeSort fun x y => decide (x ≤ y)
def B3v (t : Tm) : List Int := if N7 t = true then Lib.compact (srt ((A1v t).map Tm.lb)) else []
def B3w (t : Tm) : Tm × Bool := if N7 t = true ∧ (A1v t).length ≤ 99 then ((mRl t 0).1, true) else (L4, false)
mutual
def W8 : Tm → Prop
 | .mk k _ _ _ _ _ ks => (k = 14 → ks.length = 1) ∧ A6Z ks
def A6Z : List Tm → Prop
 | [] => True
 | t :: ts => W8 t ∧ A6Z ts
end
def cq1 (t : Tm) : Prop := t.k = 14 → t.ks.length = 1
def TbR (r : Tm × Bool) : IM → Value → List A1 → Prop := J1 fun G' v => ∃ cells, v = .tuple ⟨[.agg ⟨cells⟩, .bool r.2]⟩ ∧ C7 G' r.1 cells
def B3x (e : Tm) : Tm × Bool := if N7 e = true then A4d (A37 B0p e) else (L4, false)
def B3y (e : Tm) (l : Int) : Tm × Bool := match A9X e with
 | some T => if X0 l = true then A4d (R9 (R9 e T T6 l) T6 T l) else (L4, false)
 | none => (L4, false)
inductive MV where
 | mk (k num : Int) (env parts : List MV)
def MV.k : MV → Int | .mk k _ _ _ => k
def MV.num : MV → Int | .mk _ n _ _ => n
def MV.env : MV → List MV | .mk _ _ e _ => e
def MV.parts : MV → List MV | .mk _ _ _ p => p
def Y4 : MV := .mk 0 0 [] []
mutual
def RMv (kc : Int → Int) (G : IM) : MV → List Value → Prop
 | .mk k num env parts, cells => ∃ p c es q d fs, cells = [.int .i64 (kc k), .int .i64 num, .slice p env.length c, .slice q parts.length d] ∧ F1 num ∧ F1 (kc k) ∧ B7 G p env.length c 4 es ∧ A1U kc G env es ∧ B7 G q parts.length d 4 fs ∧ A1U kc G parts fs
def A1U (kc : Int → Int) (G : IM) : List MV → List (List Value) → Prop
 | [], es => es = []
 | t :: ts, es => ∃ a r, es = a :: r ∧ RMv kc G t a ∧ A1U kc G ts r
end
section
variable {kc : Int → Int} {G : IM}
end

def RFr (kc : Int → Int) (G : IM) (f : Int × List MV) (cells : List Value) : Prop := ∃ p c es, cells = [.int .i64 f.1, .slice p f.2.length c] ∧ F1 f.1 ∧ B7 G p f.2.length c 4 es ∧ A1U kc G f.2 es
def A60 (kc : Int → Int) (G : IM) : List (Int × List MV) → List (List Value) → Prop
 | [], es => es = []
 | t :: ts, es => ∃ a r, es = a :: r ∧ RFr kc G t a ∧ A60 kc G ts r
section
variable {kc : Int → Int} {G : IM}
end

structure V3 where
 at' : Int
 st : List MV
 env : List MV
 fr : List (Int × List MV)
def RSs (kc : Int → Int) (G : IM) (s : V3) (cells : List Value) : Prop := ∃ pe ce ps cs pf cf ee es ef, cells = [.int .i64 s.at', .slice pe s.env.length ce, .slice ps s.st.length cs, .slice pf s.fr.length cf] ∧ F1 s.at' ∧
 B7 G pe s.env.length ce 4 ee ∧ A1U kc G s.env ee ∧ B7 G ps s.st.length cs 4 es ∧ A1U kc G s.st es ∧ B7 G pf s.fr.length cf 2 ef ∧ A60 kc G s.fr ef
def A1x (k : Int) : Nat := if k = 6 ∨ k = 7 ∨ k = 8 ∨ k = 11 then 2 else if k = 9 ∨ k = 12 ∨ k = 13 then 1 else 0
def A3a (k : Int) : Int × Nat × Int := if k = 6 then (2, 1, 1) else if k = 7 ∨ k = 8 then (0, 2, 2) else if k = 9 then (1, 1, 3) else if k = 12 ∨ k = 13 then (3, 1, 4) else (0, 0, 0)
def A08 (s : V3) (v : MV) : V3 := { s with st := s.st ++ [v] }
def mGo (k a : Int) (s : V3) (v : List MV) : V3 ⊕ (Int × Int) :=
 if k = 1 then .inl (A08 s (.mk 0 a [] []))
 else if k = 2 then .inl (A08 s (.mk 1 a [] []))
 else if k = 3 then (if (s.env.length : Int) - 1 - a < 0 then .inr (3, 0) else .inl (A08 s (s.env.getD ((s.env.length : Int) - 1 - a).toNat Y4)))
 else if k = 4 then .inl { A08 s (.mk 2 s.at' s.env []) with at' := s.at' + a }
 else if k = 5 then (if s.fr.length = 0 then .inr (3, 0) else .inl { s with at' := (s.fr.getD (s.fr.length - 1) (0, [])).1, env := (s.fr.getD (s.fr.length - 1) (0, [])).2, fr := s.fr.take (s.fr.length - 1) })
 else if k = 6 then .inl { s with at' := (v.getD 0 Y4).num, env := (v.getD 0 Y4).env ++ [v.getD 1 Y4], fr := s.fr ++ [(s.at', s.env)] }
 else if k = 7 then .inl (A08 s (.mk 0 (((v.getD 0 Y4).num + (v.getD 1 Y4).num) % 1000) [] []))
 else if k = 8 then .inl (A08 s (.mk 1 (if (v.getD 0 Y4).num < (v.getD 1 Y4).num then 1 else 0) [] []))
 else if k = 9 then .inl (if (v.getD 0 Y4).num = 0 then { s with at' := s.at' + a } else s)
 else if k = 10 then .inl { s with at' := s.at' + a }
 else if k = 11 then .inl (A08 s (.mk 3 0 [] v))
 else .inl (A08 s ((v.getD 0 Y4).parts.getD (k - 12).toNat Y4))
def A61 (k : Int) (v : List MV) : Bool := (v.take (A3a k).2.1).all fun u => decide (u.k = (A3a k).1)
def B0q (k a : Int) (s : V3) : V3 ⊕ (Int × Int) :=
 if s.st.length < A1x k then .inr (3, 0)
 else if A61 k (s.st.drop (s.st.length - A1x k)) = true then mGo k a { s with at' := s.at' + 1, st := s.st.take (s.st.length - A1x k) } (s.st.drop (s.st.length - A1x k))
 else .inr (2, (A3a k).2.2)
def B0r (v : MV) : ByteArray := if v.k = 0 then ⟨(Lib.decDigits v.num.toNat).toArray⟩ else if v.k = 1 then (if v.num = 0 then ⟨#[70]⟩ else ⟨#[84]⟩) else if v.k = 2 then ⟨⟨[102, 117, 110, 99, 116, 105, 111, 110]⟩⟩ else ⟨⟨[112, 97, 105, 114]⟩⟩
def B0s (s : V3) : ByteArray × Int × Int := if s.st.length ≠ 1 ∨ 0 < s.fr.length then (⟨#[]⟩, 3, 0) else (B0r (s.st.getD 0 Y4), 0, 0)
def A62 (ops : List (Int × Int)) : Nat → V3 → ByteArray × Int × Int
 | t, s => if (ops.length : Int) ≤ s.at' then B0s s else match t with
  | 0 => (⟨#[]⟩, 5, 0)
  | t + 1 => match B0q (ops.getD s.at'.toNat (0, 0)).1 (ops.getD s.at'.toNat (0, 0)).2 s with
   | .inl s' => A62 ops t s'
   | .inr (c, e) => (⟨#[]⟩, c, e)
def B0t (k behind : Int) : Int := if k = 1 then 999 else if k = 2 then 1 else if k = 3 then 11 else if k = 4 ∨ k = 9 ∨ k = 10 then behind else 0
def B0u (n : Nat) (i : Nat) (x : Int × Int) : Bool := decide (1 ≤ x.1 ∧ x.1 ≤ 13 ∧ 0 ≤ x.2 ∧ x.2 ≤ B0t x.1 ((n : Int) - 1 - i))
def B0v (ops : List (Int × Int)) : Bool := decide (1 ≤ ops.length ∧ ops.length ≤ 120) && (List.range ops.length).all fun i => B0u ops.length i (ops.getD i (0, 0))
def B3z (ops : List (Int × Int)) (ticks : Int) : ByteArray × Int × Int :=
 if B0v ops = true ∧ 0 ≤ ticks ∧ ticks ≤ 2000 then A62 ops ticks.toNat ⟨0, [], [], []⟩ else (⟨#[]⟩, 3, 0)
def B3A (k a : Int) (s : V3) : V3 ⊕ (Int × Int) :=
 if A61 k (s.st.drop (s.st.length - A1x k)) = true then mGo k a { s with at' := s.at' + 1, st := s.st.take (s.st.length - A1x k) } (s.st.drop (s.st.length - A1x k))
 else .inr (2, (A3a k).2.2)
section
variable {a : Int} {s : V3} {v0 v1 : MV}
end
mutual
def MV.ok (n : Int) (N : Nat) : MV → Prop
 | .mk k num env parts => 0 ≤ k ∧ k ≤ 3 ∧ 0 ≤ num ∧ num ≤ 999 ∧ (k = 1 → num ≤ 1) ∧ (k = 2 → num ≤ n) ∧ (k = 3 → parts.length = 2) ∧ env.length ≤ N ∧ MV.okL n N env ∧ MV.okL n N parts
def MV.okL (n : Int) (N : Nat) : List MV → Prop
 | [] => True
 | v :: vs => v.ok n N ∧ MV.okL n N vs
end
structure V3.ok (n : Int) (N : Nat) (s : V3) : Prop where
 lo : 0 ≤ s.at'
 hi : s.at' ≤ n
 st : s.st.length ≤ N
 env : s.env.length ≤ N
 fr : s.fr.length ≤ N
 sto : ∀ v ∈ s.st, v.ok n N
 envo : ∀ v ∈ s.env, v.ok n N
 fro : ∀ f ∈ s.fr, 0 ≤ f.1 ∧ f.1 ≤ n ∧ f.2.length ≤ N ∧ ∀ v ∈ f.2, v.ok n N
section
variable {ops : List (Int × Int)} {t : Nat} {s s' : V3}
end
section own
variable {P : Program} {Γ : E6} {env : F9} {hp : List A1} {G : IM} {ty : TypeId} {K : Po} {ops : Array Oper} {rest : List Oper}
variable {pos : String} {af : Array Edge} {gd : Option (Nat × Bool)}
end own
abbrev kI (k : Int) : Int := k
section
variable {P : Program} {Γ : E6} {env : F9} {hp : List A1} {G : IM} {ty : TypeId}
end
theorem A63 {P : Program} {Γ : E6} {env : F9} {hp : List A1} {G : IM} {post : IM → Value → List A1 → Prop} {outs : List A1} (ho : H0 hp outs) (hk : post G (.tuple ⟨[]⟩) outs) : A0l P Γ [] post .normal ⟨env, hp, G⟩ :=
 ⟨⟨[], .nil, outs, ho.spec.choose, ho.spec.choose_spec, hk⟩⟩
def B3B (b : Nat) (A E F : Value) (p : Option Addr) (n c m : Nat) (cs : List Value) (es : List (List Value)) : IM → Value → List A1 → Prop := fun G' v outs =>
 if n < m then v = .tuple ⟨[.slice none 0 0, .bool false]⟩
 else ∃ q d, v = .tuple ⟨[.slice q m d, .bool true]⟩ ∧ outs = [.blk b [A, .slice p (n - m) c, E, F], .slc p c 82 4 (n - m) ((es.take (n - m)).flatten)] ∧ B7 G' q m d 4 (es.drop (n - m))
section
variable {P : Program} {Γ : E6} {env : F9} {hp : List A1} {G : IM} {ty : TypeId}
theorem A64 {x y : Operand} {t t' : TypeId} {m n : Int} (hx : evo env x = some (.int .u8 m)) (hy : evo env y = some (.int .u8 n)) (h0 : 0 ≤ m - n) (h1 : m - n ≤ 255) :
  C9 P Γ ⟨env, hp, G⟩ (.binOp .sub t x y t') ty (.int .u8 (m - n)) := by
 refine ⟨fun a _ hs _ _ _ _ w => ?_⟩
 have hw : IntKind.u8.wrap (m - n) = m - n := IntWalk.u8_in _ ⟨h0, h1⟩
 simp [execOp, eqGuard, binOp, Op.intArith, (hs.evo hx : a.eval x = _), (hs.evo hy : a.eval y = _), hw]
end
def nmB (nm : ByteArray) : UInt8 := nm.data.getD 0 0
mutual
def mFr : ByteArray → Tm → List Bool → List Bool
 | bnd, .mk k nm _ _ _ _ ks, f => A65 (if k = 5 then bnd ++ nm else bnd) ks (if k = 1 ∧ nmB nm ∉ bnd.data.toList then f.set ((nmB nm).toNat - 97) true else f)
def A65 : ByteArray → List Tm → List Bool → List Bool
 | _, [], f => f
 | bnd, t :: ts, f => A65 bnd ts (mFr bnd t f)
end
theorem A3b {nm : ByteArray} (h : S4 nm = true) : nm = ⟨#[nmB nm]⟩ ∧ 97 ≤ (nmB nm).toNat ∧ (nmB nm).toNat ≤ 122 := by
 unfold S4 at h
 rw [decide_eq_true_eq] at h
 obtain ⟨h1, h2, h3⟩ := h
 refine ⟨?_, h2, h3⟩
 obtain ⟨⟨l⟩⟩ := nm
 have hl : l.length = 1 := h1
 match l, hl with
 | [c], _ => rfl
def B3C : Tm → Tm
 | .mk k nm num ty fr lb ks => if k = 13 then ks.headD L4 else if k = 1 ∨ k = 6 ∨ k = 9 ∨ k = 11 ∨ k = 12 then .mk k nm num ty fr lb ks
  else A6V (.mk k nm num (if k = 5 then T6 else ty) fr lb ks)
def B3D : Tm → Prop
 | .mk k _ _ _ _ _ ks => k = 13 → ks ≠ []
abbrev A0 := List UInt8
def V4 (k : Int) : UInt8 := if k = 1 then 63 else if k = 2 then 73 else if k = 3 then 66 else if k = 4 then 62 else 42
def O2 (b : UInt8) : Int := if b = 63 then 1 else if b = 73 then 2 else if b = 66 then 3 else if b = 62 then 4 else if b = 42 then 5 else 0
def tyN (k : Int) : List A0 → A0
 | [] => [V4 k]
 | [_] => []
 | a :: b :: _ => 40 :: (a ++ V4 k :: (b ++ [41]))
mutual
def K3 : Ty → A0
 | .mk k ks => tyN k (A09 ks)
def A09 : List Ty → List A0
 | [] => []
 | t :: ts => K3 t :: A09 ts
end
def H8 (k : Int) (nm : ByteArray) (num : Int) (ty fr : A0) (lb : Int) (ks : List A0) : A0 :=
 if k = 1 then nm.data.toList else if k = 2 then Lib.itoa num else if k = 3 then [84] else if k = 4 then [70]
 else if k = 5 then 33 :: (nm.data.toList ++ 58 :: (ty ++ 46 :: ks.getD 0 []))
 else if k = 6 then 40 :: (ks.getD 0 [] ++ 32 :: (ks.getD 1 [] ++ [41]))
 else if k = 7 then 40 :: (ks.getD 0 [] ++ 43 :: (ks.getD 1 [] ++ [41]))
 else if k = 8 then 40 :: (ks.getD 0 [] ++ 60 :: (ks.getD 1 [] ++ [41]))
 else if k = 9 then 123 :: (ks.getD 0 [] ++ 63 :: (ks.getD 1 [] ++ 58 :: (ks.getD 2 [] ++ [125])))
 else if k = 10 then 91 :: (ks.getD 0 [] ++ 44 :: (ks.getD 1 [] ++ [93]))
 else if k = 11 then 36 :: ks.getD 0 [] else if k = 12 then 37 :: ks.getD 0 []
 else if k = 13 then 40 :: (ks.getD 0 [] ++ 58 :: (ty ++ [41]))
 else 40 :: (ks.getD 0 [] ++ 58 :: (fr ++ 126 :: (ty ++ 35 :: (Lib.itoa lb ++ [41]))))
mutual
def A2 : Tm → A0
 | .mk k nm num ty fr lb ks => H8 k nm num (K3 ty) (K3 fr) lb (N0 ks)
def N0 : List Tm → List A0
 | [] => []
 | t :: ts => A2 t :: N0 ts
end
def nd (k : Int) (ks : List Tm) : Tm := .mk k ⟨#[]⟩ 0 A3 A3 0 ks
def P3 : A0 → Option (UInt8 × A0)
 | [] => none
 | b :: r => some (b, r)
def B9 (c : UInt8) : A0 → Option A0
 | [] => none
 | b :: r => if b = c then some r else none
def R2 (lo hi : Int) : A0 → Option (Int × A0)
 | [] => none
 | b :: r => if lo ≤ O2 b ∧ O2 b ≤ hi then some (O2 b, r) else none
def K0 : Nat → A0 → Option (Ty × A0)
 | 0, _ => none
 | n + 1, l => if l.headD 0 = 40 then (K0 n l.tail).bind fun x => (R2 4 5 x.2).bind fun y => (K0 n y.2).bind fun z => (B9 41 z.2).map fun w => (.mk y.1 [x.1, z.1], w)
  else (R2 1 3 l).map fun y => (.mk y.1 [], y.2)
def D3 (b : UInt8) : Prop := 48 ≤ b.toNat ∧ b.toNat ≤ 57
instance (b : UInt8) : Decidable (D3 b) := by unfold D3; infer_instance
def M1 : A0 → Nat
 | [] => 0
 | c :: r => if D3 c then M1 r + 1 else 0
def L5 : A0 → Nat
 | [] => 0
 | c :: r => if D3 c ∨ c = 45 then M1 r + 1 else 0
def U0 (l : A0) : Option (Int × A0) :=
 match Lib.atoiAll (l.take (L5 l)) with
 | .ok v => some (v, l.drop (L5 l))
 | _ => none
def A1V (f : A0 → Option (Tm × A0)) (l : A0) : Option (Tm × A0) :=
 (P3 l).bind fun x => (B9 58 x.2).bind fun r2 => (K0 4 r2).bind fun y => (B9 46 y.2).bind fun r4 => (f r4).map fun z => (.mk 5 ⟨#[x.1]⟩ 0 y.1 A3 0 [z.1], z.2)
def pIf (f : A0 → Option (Tm × A0)) (l : A0) : Option (Tm × A0) :=
 (f l).bind fun a => (B9 63 a.2).bind fun r1 => (f r1).bind fun b => (B9 58 b.2).bind fun r2 => (f r2).bind fun c => (B9 125 c.2).map fun r3 => (nd 9 [a.1, b.1, c.1], r3)
def A1W (f : A0 → Option (Tm × A0)) (l : A0) : Option (Tm × A0) :=
 (f l).bind fun a => (B9 44 a.2).bind fun r1 => (f r1).bind fun b => (B9 93 b.2).map fun r3 => (nd 10 [a.1, b.1], r3)
def A0S (f : A0 → Option (Tm × A0)) (k : Int) (a : Tm) (l : A0) : Option (Tm × A0) :=
 (f l).bind fun b => (B9 41 b.2).map fun r3 => (nd k [a, b.1], r3)
def pAs (a : Tm) (l : A0) : Option (Tm × A0) :=
 (K0 4 l).bind fun t => if t.2.headD 0 = 126 then (K0 4 t.2.tail).bind fun u => (B9 35 u.2).bind fun r2 => (U0 r2).bind fun m => (B9 41 m.2).map fun r3 => (.mk 14 ⟨#[]⟩ 0 u.1 t.1 m.1 [a], r3)
  else (B9 41 t.2).map fun r2 => (.mk 13 ⟨#[]⟩ 0 t.1 A3 0 [a], r2)
def R3 (f : A0 → Option (Tm × A0)) (l : A0) : Option (Tm × A0) :=
 (f l).bind fun a => (P3 a.2).bind fun o => if o.1 = 32 then A0S f 6 a.1 o.2 else if o.1 = 43 then A0S f 7 a.1 o.2 else if o.1 = 60 then A0S f 8 a.1 o.2 else if o.1 = 58 then pAs a.1 o.2 else none
def Q8 (f : A0 → Option (Tm × A0)) (k : Int) (l : A0) : Option (Tm × A0) := (f l).map fun x => (nd k [x.1], x.2)
def D2 : Nat → A0 → Option (Tm × A0)
 | 0, _ => none
 | _ + 1, [] => none
 | n + 1, b :: r =>
  if 97 ≤ b.toNat ∧ b.toNat ≤ 122 then some (.mk 1 ⟨#[b]⟩ 0 A3 A3 0 [], r)
  else if D3 b then (U0 (b :: r)).map fun x => (.mk 2 ⟨#[]⟩ x.1 A3 A3 0 [], x.2)
  else if b = 84 then some (nd 3 [], r)
  else if b = 70 then some (nd 4 [], r)
  else if b = 33 then A1V (D2 n) r
  else if b = 123 then pIf (D2 n) r
  else if b = 91 then A1W (D2 n) r
  else if b = 36 then Q8 (D2 n) 11 r
  else if b = 37 then Q8 (D2 n) 12 r
  else if b = 40 then R3 (D2 n) r
  else none
def J7 : Nat → A0 → Option (Ty × A0)
 | 0, _ => none
 | _ + 1, [] => none
 | n + 1, b :: r =>
  if b = 63 then some (.mk 1 [], r) else if b = 73 then some (.mk 2 [], r) else if b = 66 then some (.mk 3 [], r)
  else if b = 40 then (J7 n r).bind fun x => (P3 x.2).bind fun o => (J7 n o.2).bind fun z => if o.1 = 62 ∨ o.1 = 42 then (B9 41 z.2).map fun w => (.mk (if o.1 = 62 then 4 else 5) [x.1, z.1], w) else none
  else none
def S0 (acc : Nat) (l : A0) : Nat := l.foldl (fun a c => a * 10 + (c.toNat - 48)) acc
theorem A1a (acc : Nat) (c : UInt8) (r : A0) : S0 acc (c :: r) = S0 (acc * 10 + (c.toNat - 48)) r := by unfold S0; rw [List.foldl_cons]
theorem A3c (acc : Nat) : S0 acc [] = acc := rfl
def X1 (l : A0) : Option (Int × A0) :=
 let m := M1 (l.take 4)
 if m = 0 ∨ (l.headD 0 = 48 ∧ 1 < m) then none else some ((S0 0 (l.take m) : Nat), l.drop m)
def P4 (f : A0 → Option (Tm × A0)) : List UInt8 → A0 → Option (List Tm × A0)
 | [], l => some ([], l)
 | c :: cs, l => (f l).bind fun x => (B9 c x.2).bind fun r => (P4 f cs r).map fun y => (x.1 :: y.1, y.2)
def U9 (f : A0 → Option (Tm × A0)) (l : A0) : Option (Tm × A0) :=
 (P3 l).bind fun x => (B9 58 x.2).bind fun r2 => (J7 4 r2).bind fun y => (B9 46 y.2).bind fun r4 => (f r4).map fun z => (.mk 5 ⟨#[x.1]⟩ 0 y.1 A3 0 [z.1], z.2)
def U1 (a : Tm) (t : Ty) (l : A0) : Option (Tm × A0) :=
 (J7 4 l).bind fun u => (B9 35 u.2).bind fun r2 => if r2 = [] then none else
  if r2.headD 0 = 45 then (X1 r2.tail).bind fun m => (B9 41 m.2).map fun r3 => (.mk 14 ⟨#[]⟩ 0 u.1 t (-m.1) [a], r3)
  else (X1 r2).bind fun m => (B9 41 m.2).map fun r3 => (.mk 14 ⟨#[]⟩ 0 u.1 t m.1 [a], r3)
def X2 (a : Tm) (l : A0) : Option (Tm × A0) :=
 (J7 4 l).bind fun t => if t.2.headD 0 = 41 then some (.mk 13 ⟨#[]⟩ 0 t.1 A3 0 [a], t.2.tail) else if t.2.headD 0 = 126 then U1 a t.1 t.2.tail else none
def A0T (f : A0 → Option (Tm × A0)) (k : Int) (a : Tm) (l : A0) : Option (Tm × A0) :=
 (P4 f [41] l).map fun x => (nd k (a :: x.1), x.2)
def S5 (f : A0 → Option (Tm × A0)) (l : A0) : Option (Tm × A0) :=
 (f l).bind fun a => (P3 a.2).bind fun o => if o.1 = 32 then A0T f 6 a.1 o.2 else if o.1 = 43 then A0T f 7 a.1 o.2 else if o.1 = 60 then A0T f 8 a.1 o.2 else if o.1 = 58 then X2 a.1 o.2 else none
def D4 : Nat → A0 → Option (Tm × A0)
 | 0, _ => none
 | _ + 1, [] => none
 | n + 1, b :: r =>
  if b = 84 then some (nd 3 [], r)
  else if b = 70 then some (nd 4 [], r)
  else if b = 33 then U9 (D4 n) r
  else if b = 40 then S5 (D4 n) r
  else if b = 123 then (P4 (D4 n) [63, 58, 125] r).map fun x => (nd 9 x.1, x.2)
  else if b = 91 then (P4 (D4 n) [44, 93] r).map fun x => (nd 10 x.1, x.2)
  else if b = 36 then Q8 (D4 n) 11 r
  else if b = 37 then Q8 (D4 n) 12 r
  else if 97 ≤ b.toNat ∧ b.toNat ≤ 122 then some (.mk 1 ⟨#[b]⟩ 0 A3 A3 0 [], r)
  else (X1 (b :: r)).map fun x => (.mk 2 ⟨#[]⟩ x.1 A3 A3 0 [], x.2)
theorem A66 {k : Int} (h : k = 1 ∨ k = 2 ∨ k = 3 ∨ k = 4 ∨ k = 5) : O2 (V4 k) = k := by rcases h with rfl | rfl | rfl | rfl | rfl <;> rfl
theorem B0w {k : Int} : V4 k ≠ 40 := by
 unfold V4
 repeat' split
 all_goals decide
theorem A1b {t : Ty} {d : Int} (h : E1 t d = true) : d ≤ 4 ∧ ((∃ k, (k = 1 ∨ k = 2 ∨ k = 3) ∧ t = .mk k []) ∨ (∃ k a b, (k = 4 ∨ k = 5) ∧ t = .mk k [a, b] ∧ E1 a (d + 1) = true ∧ E1 b (d + 1) = true)) := by
 obtain ⟨k, ks⟩ := t
 rw [E1] at h
 simp only [Bool.and_eq_true, decide_eq_true_eq] at h
 obtain ⟨⟨h1, h2⟩, h3⟩ := h
 refine ⟨h1, ?_⟩
 unfold Z9 at h2
 split at h2
 ·rename_i hk
  left
  obtain rfl : ks = [] := List.length_eq_zero_iff.1 (by omega)
  exact ⟨k, hk, rfl⟩
 ·split at h2
  ·rename_i hk
   right
   match ks, (show ks.length = 2 by omega), h3 with
   | [a, b], _, h3 =>
    simp only [A0a, Bool.and_eq_true, and_true] at h3
    exact ⟨k, a, b, hk, rfl, h3.1, h3.2⟩
  ·omega
theorem A3d : ∀ (n : Nat) (t : Ty) (d : Int) (rest : A0), E1 t d = true → 5 - d ≤ n → K0 n (K3 t ++ rest) = some (t, rest) := by
 intro n
 induction n with
 | zero => intro t d rest h hn; have := (A1b h).1; omega
 | succ m ih =>
  intro t d rest h hn
  obtain ⟨hd, hc⟩ := A1b h
  rcases hc with ⟨k, hk, rfl⟩ | ⟨k, a, b, hk, rfl, ha, hb⟩
  ·rw [K0, K3, A09, tyN]
   rw [List.cons_append, List.headD_cons, if_neg B0w, R2, A66 (by omega), if_pos (by omega)]
   rfl
  ·have e : K3 (.mk k [a, b]) ++ rest = 40 :: (K3 a ++ (V4 k :: (K3 b ++ (41 :: rest)))) := by simp [K3, A09, tyN]
   rw [K0, e, List.headD_cons, if_pos rfl, List.tail_cons, ih a (d + 1) _ ha (by omega)]
   simp only [Option.bind_some]
   rw [R2, A66 (by omega), if_pos (by omega)]
   simp only [Option.bind_some]
   rw [ih b (d + 1) _ hb (by omega)]
   simp [B9]
theorem A3e : ∀ (n : Nat) (t : Ty) (d : Int) (rest : A0), E1 t d = true → 5 - d ≤ n → J7 n (K3 t ++ rest) = some (t, rest) := by
 intro n
 induction n with
 | zero => intro t d rest h hn; have := (A1b h).1; omega
 | succ m ih =>
  intro t d rest h hn
  obtain ⟨hd, hc⟩ := A1b h
  rcases hc with ⟨k, hk, rfl⟩ | ⟨k, a, b, hk, rfl, ha, hb⟩
  ·rw [K3, A09, tyN, List.cons_append, J7]
   rcases hk with rfl | rfl | rfl <;> rfl
  ·have e : K3 (.mk k [a, b]) ++ rest = 40 :: (K3 a ++ (V4 k :: (K3 b ++ (41 :: rest)))) := by simp [K3, A09, tyN]
   rw [e, J7, if_neg (by decide), if_neg (by decide), if_neg (by decide), if_pos rfl, ih a (d + 1) _ ha (by omega)]
   simp only [Option.bind_some, P3]
   rw [ih b (d + 1) _ hb (by omega)]
   rcases hk with rfl | rfl <;> simp [B9, V4]
def U2 (l : A0) : Prop := M1 l = 0
theorem P5 {c : UInt8} {l : A0} (h : ¬D3 c) : U2 (c :: l) := by unfold U2; rw [M1, if_neg h]
theorem A3f : ∀ (ds rest : A0), (∀ c ∈ ds, D3 c) → U2 rest → M1 (ds ++ rest) = ds.length
 | [], rest, _, hr => hr
 | c :: ds, rest, hd, hr => by
  rw [List.cons_append, M1, if_pos (hd c List.mem_cons_self), A3f ds rest (fun x hx => hd x (List.mem_cons_of_mem _ hx)) hr, List.length_cons]
def R4 (u : Nat) : A0 := if u < 10 then [UInt8.ofNat (48 + u)] else if u < 100 then [UInt8.ofNat (48 + u / 10), UInt8.ofNat (48 + u % 10)] else [UInt8.ofNat (48 + u / 10 / 10), UInt8.ofNat (48 + u / 10 % 10), UInt8.ofNat (48 + u % 10)]
theorem A67 {u : Nat} (h : u < 1000) : Lib.decDigits u = R4 u := by
 unfold R4
 by_cases h1 : u < 10
 ·rw [if_pos h1, Lib.decDigits, dif_pos h1]
 ·rw [if_neg h1, Lib.decDigits, dif_neg h1]
  by_cases h2 : u < 100
  ·rw [if_pos h2, Lib.decDigits, dif_pos (by omega)]; rfl
  ·rw [if_neg h2, Lib.decDigits, dif_neg (by omega), Lib.decDigits, dif_pos (by omega)]; rfl
theorem dgn {u : Nat} (h : u < 10) : (UInt8.ofNat (48 + u)).toNat = 48 + u := by
 rw [UInt8.toNat_ofNat']; omega
theorem A1c {u : Nat} (h : u < 1000) : (∀ c ∈ R4 u, D3 c) ∧ R4 u ≠ [] ∧ (R4 u).length ≤ 3 ∧ ((R4 u).headD 0 = 48 → (R4 u).length ≤ 1) ∧ S0 0 (R4 u) = u := by
 unfold R4
 by_cases h1 : u < 10
 ·rw [if_pos h1]
  have := dgn h1
  refine ⟨?_, by simp, by simp, by simp, ?_⟩
  ·intro c hc; simp only [List.mem_singleton] at hc; subst hc; unfold D3; rw [this]; omega
  ·rw [A1a, A3c, this]; omega
 ·rw [if_neg h1]
  by_cases h2 : u < 100
  ·rw [if_pos h2]
   have g1 := dgn (u := u / 10) (by omega)
   have g2 := dgn (u := u % 10) (by omega)
   refine ⟨?_, by simp, by simp, ?_, ?_⟩
   ·intro c hc; simp only [List.mem_cons, List.not_mem_nil, or_false] at hc; unfold D3; rcases hc with rfl | rfl <;> first | (rw [g1]; omega) | (rw [g2]; omega)
   ·intro hh
    rw [List.headD_cons] at hh
    rw [hh] at g1
    have : (48 : UInt8).toNat = 48 := rfl
    rw [this] at g1
    omega
   ·rw [A1a, A1a, A3c, g1, g2]; omega
  ·rw [if_neg h2]
   have g0 := dgn (u := u / 10 / 10) (by omega)
   have g1 := dgn (u := u / 10 % 10) (by omega)
   have g2 := dgn (u := u % 10) (by omega)
   refine ⟨?_, by simp, by simp, ?_, ?_⟩
   ·intro c hc; simp only [List.mem_cons, List.not_mem_nil, or_false] at hc; unfold D3; rcases hc with rfl | rfl | rfl <;> first | (rw [g0]; omega) | (rw [g1]; omega) | (rw [g2]; omega)
   ·intro hh
    rw [List.headD_cons] at hh
    rw [hh] at g0
    have : (48 : UInt8).toNat = 48 := rfl
    rw [this] at g0
    omega
   ·rw [A1a, A1a, A1a, A3c, g0, g1, g2]; omega
theorem A68 : ∀ (ds : A0) (acc : Nat), (∀ c ∈ ds, D3 c) → (acc + 1) * 10 ^ ds.length ≤ 1000000 → Lib.parseUint10 acc ds = .ok (S0 acc ds)
 | [], acc, _, _ => rfl
 | c :: r, acc, hd, hb => by
  have h1 := hd c List.mem_cons_self
  unfold D3 at h1
  rw [List.length_cons, Nat.pow_succ, Nat.mul_comm (10 ^ r.length) 10, ← Nat.mul_assoc] at hb
  have hp : 1 ≤ 10 ^ r.length := Nat.one_le_pow _ _ (by decide)
  have hacc : (acc + 1) * 10 ≤ 1000000 := Nat.le_trans (Nat.le_mul_of_pos_right _ hp) hb
  have hb2 : (acc * 10 + (c.toNat - 48) + 1) * 10 ^ r.length ≤ 1000000 := Nat.le_trans (Nat.mul_le_mul_right _ (by omega)) hb
  rw [Lib.parseUint10, if_pos h1, if_neg (by omega), if_neg (by omega), A1a]
  exact A68 r _ (fun x hx => hd x (List.mem_cons_of_mem _ hx)) hb2
theorem A69 {u : Nat} (h : u < 1000) : Lib.parseMag (R4 u) = .ok u := by
 obtain ⟨h1, h2, h3, _, h5⟩ := A1c h
 unfold Lib.parseMag
 rw [if_neg h2, A68 _ 0 h1, h5]
 have : 10 ^ (R4 u).length ≤ 10 ^ 3 := Nat.pow_le_pow_right (by decide) h3
 omega
theorem B0x {u : Nat} (h : u < 1000) : Lib.atoiAll (R4 u) = .ok (u : Int) := by
 obtain ⟨h1, h2, _⟩ := A1c h
 have hm := A69 h
 match hd : R4 u, h2 with
 | c :: r, _ =>
  rw [hd] at h1 hm
  have hc := h1 c List.mem_cons_self
  unfold D3 at hc
  rw [Lib.atoiAll_plain c r (by omega) (by omega), hm, Lib.signless, if_neg (by omega)]
theorem B0y {u : Nat} (h : u < 1000) : Lib.atoiAll (45 :: R4 u) = .ok (-(u : Int)) := by
 rw [Lib.atoiAll_minus, A69 h, Lib.signed, if_neg (by omega)]
theorem A2v {n : Int} (h0 : 0 ≤ n) (h : n ≤ 999) : Lib.itoa n = R4 n.toNat := by
 unfold Lib.itoa; rw [if_neg (by omega), A67 (by omega)]
theorem A4j {n : Int} (h0 : n < 0) (h : -999 ≤ n) : Lib.itoa n = 45 :: R4 n.natAbs := by
 unfold Lib.itoa; rw [if_pos h0, A67 (by omega)]
theorem B0z {ds rest : A0} (h1 : ∀ c ∈ ds, D3 c) (h2 : ds ≠ []) (hr : U2 rest) : L5 (ds ++ rest) = ds.length := by
 match ds, h2 with
 | c :: r, _ =>
  rw [List.cons_append, L5, if_pos (.inl (h1 c List.mem_cons_self)), A3f r rest (fun x hx => h1 x (List.mem_cons_of_mem _ hx)) hr, List.length_cons]
theorem B0A {ds rest : A0} (h1 : ∀ c ∈ ds, D3 c) (hr : U2 rest) : L5 (45 :: ds ++ rest) = (45 :: ds).length := by
 rw [List.cons_append, L5, if_pos (.inr rfl), A3f ds rest h1 hr, List.length_cons]
theorem B0B {n : Int} (h0 : 0 ≤ n) (h : n ≤ 999) {rest : A0} (hr : U2 rest) : U0 (Lib.itoa n ++ rest) = some (n, rest) := by
 have hu : n.toNat < 1000 := by omega
 obtain ⟨h1, h2, _⟩ := A1c hu
 rw [A2v h0 h]
 unfold U0
 rw [B0z h1 h2 hr, List.take_left, List.drop_left, B0x hu, Int.toNat_of_nonneg h0]
theorem B0C {n : Int} (h0 : n < 0) (h : -999 ≤ n) {rest : A0} (hr : U2 rest) : U0 (Lib.itoa n ++ rest) = some (n, rest) := by
 have hu : n.natAbs < 1000 := by omega
 obtain ⟨h1, h2, _⟩ := A1c hu
 rw [A4j h0 h]
 unfold U0
 rw [B0A h1 hr, List.take_left, List.drop_left, B0y hu, show -(n.natAbs : Int) = n by omega]
theorem A7a {n : Int} (h0 : -999 ≤ n) (h : n ≤ 999) {rest : A0} (hr : U2 rest) : U0 (Lib.itoa n ++ rest) = some (n, rest) := by
 by_cases hn : n < 0
 ·exact B0C hn h0 hr
 ·exact B0B (by omega) h hr
theorem B0D {ds rest : A0} (h1 : ∀ c ∈ ds, D3 c) (hl : ds.length ≤ 3) (hr : U2 rest) : M1 ((ds ++ rest).take 4) = ds.length := by
 rw [List.take_append, List.take_of_length_le (by omega)]
 refine A3f ds _ h1 ?_
 unfold U2 at hr ⊢
 cases rest with
 | nil => simp [M1]
 | cons c r =>
  rw [show 4 - ds.length = (3 - ds.length) + 1 by omega, List.take_succ_cons, M1]
  rw [M1] at hr
  split at hr
  ·omega
  ·rename_i hc; rw [if_neg hc]
theorem A4k {u : Nat} (hu : u < 1000) {rest : A0} (hr : U2 rest) : X1 (R4 u ++ rest) = some ((u : Int), rest) := by
 obtain ⟨h1, h2, h3, h4, h5⟩ := A1c hu
 unfold X1
 simp only [B0D h1 h3 hr]
 have hh : (R4 u ++ rest).headD 0 = (R4 u).headD 0 := by
  match R4 u, h2 with
  | c :: r, _ => rfl
 have hl : (R4 u).length ≠ 0 := fun he => h2 (List.length_eq_zero_iff.1 he)
 rw [hh, if_neg (fun hc => hc.elim hl (fun hc => by have := h4 hc.1; omega)), List.take_left, List.drop_left, h5]
theorem A4l {t : Ty} (h : S9 t = true) : t = A3 := by
 obtain ⟨k, ks⟩ := t
 unfold S9 at h
 rw [decide_eq_true_eq] at h
 obtain ⟨h1, h2⟩ := h
 simp only [Ty.k, Ty.ks] at h1 h2
 rw [h1, List.length_eq_zero_iff.1 h2]; rfl
inductive Y5 : Tm → Prop where
 | var (b : UInt8) : 97 ≤ b.toNat → b.toNat ≤ 122 → Y5 (.mk 1 ⟨#[b]⟩ 0 A3 A3 0 [])
 | num (n : Int) : 0 ≤ n → n ≤ 999 → Y5 (.mk 2 ⟨#[]⟩ n A3 A3 0 [])
 | tru : Y5 (nd 3 [])
 | fls : Y5 (nd 4 [])
 | lam (b : UInt8) (ty : Ty) (a : Tm) : 97 ≤ b.toNat → b.toNat ≤ 122 → O7 ty = true → Y5 (.mk 5 ⟨#[b]⟩ 0 ty A3 0 [a])
 | bin (k : Int) (a b : Tm) : k = 6 ∨ k = 7 ∨ k = 8 → Y5 (nd k [a, b])
 | ite (a b c : Tm) : Y5 (nd 9 [a, b, c])
 | pair (a b : Tm) : Y5 (nd 10 [a, b])
 | un (k : Int) (a : Tm) : k = 11 ∨ k = 12 → Y5 (nd k [a])
 | asc (ty : Ty) (a : Tm) : O7 ty = true → Y5 (.mk 13 ⟨#[]⟩ 0 ty A3 0 [a])
 | cast (ty fr : Ty) (lb : Int) (a : Tm) : O7 ty = true → O7 fr = true → -999 ≤ lb → lb ≤ 999 → Y5 (.mk 14 ⟨#[]⟩ 0 ty fr lb [a])
theorem A4m {k : Int} {nm : ByteArray} {num : Int} {ty fr : Ty} {lb : Int} {ks : List Tm} (h : P8 k nm num ty fr lb ks.length = true) : Y5 (.mk k nm num ty fr lb ks) := by
 obtain ⟨n1, n2, n3, n4, n5, n6, n7, n8, n9⟩ := A0q.1 h
 have hkk : k = 1 ∨ k = 2 ∨ k = 3 ∨ k = 4 ∨ k = 5 ∨ k = 6 ∨ k = 7 ∨ k = 8 ∨ k = 9 ∨ k = 10 ∨ k = 11 ∨ k = 12 ∨ k = 13 ∨ k = 14 := by
  unfold L8 at n1
  repeat' split at n1
  all_goals omega
 have L0 : L8 k = 0 → ks = [] := fun h => List.length_eq_zero_iff.1 (by omega)
 have L1 : L8 k = 1 → ∃ a, ks = [a] := fun h => by
  match ks, (show ks.length = 1 by omega) with
  | [a], _ => exact ⟨a, rfl⟩
 have L2 : L8 k = 2 → ∃ a b, ks = [a, b] := fun h => by
  match ks, (show ks.length = 2 by omega) with
  | [a, b], _ => exact ⟨a, b, rfl⟩
 have L3 : L8 k = 3 → ∃ a b c, ks = [a, b, c] := fun h => by
  match ks, (show ks.length = 3 by omega) with
  | [a, b, c], _ => exact ⟨a, b, c, rfl⟩
 have E := fun (hk : ¬(k = 5 ∨ k = 13 ∨ k = 14)) => A4l (n7 hk)
 have E2 := fun (hk : k ≠ 14) => And.intro (A4l (n9 hk).1) (n9 hk).2
 have E3 := fun (hk : k ≠ 2) => show num = 0 by have := A0p (n5 hk); omega
 clear n1 n5 n7 n9 h
 rcases hkk with rfl | rfl | rfl | rfl | rfl | rfl | rfl | rfl | rfl | rfl | rfl | rfl | rfl | rfl
 ·obtain ⟨h1, h2, h3⟩ := A3b (n2 (.inl rfl))
  rw [L0 rfl, E (by decide), (E2 (by decide)).1, (E2 (by decide)).2, E3 (by decide), h1]
  exact .var _ h2 h3
 ·have h2 := A0p (n4 rfl)
  rw [L0 rfl, E (by decide), (E2 (by decide)).1, (E2 (by decide)).2, n3 (by decide)]
  exact .num _ h2.1 h2.2
 ·rw [L0 rfl, E (by decide), (E2 (by decide)).1, (E2 (by decide)).2, n3 (by decide), E3 (by decide)]; exact .tru
 ·rw [L0 rfl, E (by decide), (E2 (by decide)).1, (E2 (by decide)).2, n3 (by decide), E3 (by decide)]; exact .fls
 ·obtain ⟨a, rfl⟩ := L1 rfl
  obtain ⟨h1, h2, h3⟩ := A3b (n2 (.inr rfl))
  rw [(E2 (by decide)).1, (E2 (by decide)).2, E3 (by decide), h1]
  exact .lam _ _ _ h2 h3 (n6 (.inl rfl))
 ·obtain ⟨a, b, rfl⟩ := L2 rfl
  rw [E (by decide), (E2 (by decide)).1, (E2 (by decide)).2, n3 (by decide), E3 (by decide)]; exact .bin _ _ _ (by decide)
 ·obtain ⟨a, b, rfl⟩ := L2 rfl
  rw [E (by decide), (E2 (by decide)).1, (E2 (by decide)).2, n3 (by decide), E3 (by decide)]; exact .bin _ _ _ (by decide)
 ·obtain ⟨a, b, rfl⟩ := L2 rfl
  rw [E (by decide), (E2 (by decide)).1, (E2 (by decide)).2, n3 (by decide), E3 (by decide)]; exact .bin _ _ _ (by decide)
 ·obtain ⟨a, b, c, rfl⟩ := L3 rfl
  rw [E (by decide), (E2 (by decide)).1, (E2 (by decide)).2, n3 (by decide), E3 (by decide)]; exact .ite _ _ _
 ·obtain ⟨a, b, rfl⟩ := L2 rfl
  rw [E (by decide), (E2 (by decide)).1, (E2 (by decide)).2, n3 (by decide), E3 (by decide)]; exact .pair _ _
 ·obtain ⟨a, rfl⟩ := L1 rfl
  rw [E (by decide), (E2 (by decide)).1, (E2 (by decide)).2, n3 (by decide), E3 (by decide)]; exact .un _ _ (by decide)
 ·obtain ⟨a, rfl⟩ := L1 rfl
  rw [E (by decide), (E2 (by decide)).1, (E2 (by decide)).2, n3 (by decide), E3 (by decide)]; exact .un _ _ (by decide)
 ·obtain ⟨a, rfl⟩ := L1 rfl
  rw [(E2 (by decide)).1, (E2 (by decide)).2, n3 (by decide), E3 (by decide)]; exact .asc _ _ (n6 (by decide))
 ·obtain ⟨a, rfl⟩ := L1 rfl
  obtain ⟨h1, h2⟩ := n8 rfl
  unfold Y0 at h1
  simp only [Bool.and_eq_true] at h1
  unfold X0 at h2
  rw [Bool.or_eq_true] at h2
  rw [n3 (by decide), E3 (by decide)]
  exact .cast _ _ _ _ (n6 (by decide)) h1.1.1 (by rcases h2 with h | h <;> have := A0p h <;> omega) (by rcases h2 with h | h <;> have := A0p h <;> omega)
theorem A4n {n : Int} (h0 : 0 ≤ n) (h : n ≤ 999) (rest : A0) : ∃ c r, Lib.itoa n ++ rest = c :: r ∧ D3 c := by
 rw [A2v h0 h]
 obtain ⟨h1, h2, _⟩ := A1c (u := n.toNat) (by omega)
 match hd : R4 n.toNat, h2 with
 | c :: r, _ => exact ⟨c, r ++ rest, rfl, h1 c (by rw [hd]; exact List.mem_cons_self)⟩
set_option maxRecDepth 4000 in
theorem B0E (D N : Int) : ∀ (n : Nat) (e : Tm) (d : Int) (rest : A0), M5 D N e d = true → D + 1 - d ≤ n → U2 rest → D2 n (A2 e ++ rest) = some (e, rest) := by
 intro n
 induction n with
 | zero =>
  intro e d rest h hn
  obtain ⟨k, nm, num, ty, fr, lb, ks⟩ := e
  have := (A04 h).1
  omega
 | succ m ih =>
  intro e d rest h hn hr
  obtain ⟨k, nm, num, ty, fr, lb, ks⟩ := e
  obtain ⟨hd, _, h3, h4⟩ := A04 h
  have I : ∀ x ∈ ks, ∀ rs, U2 rs → D2 m (A2 x ++ rs) = some (x, rs) := fun x hx rs hrs => by
   obtain ⟨i, hi, rfl⟩ := List.getElem_of_mem hx
   exact ih _ (d + 1) rs ((A0e D N ks _).1 h4 i hi) (by omega) hrs
  have hf := A4m h3
  have e0 : ∀ x : Tm, x = .mk k nm num ty fr lb ks → x.ks = ks := fun x hx => by rw [hx]; rfl
  generalize hX : Tm.mk k nm num ty fr lb ks = X at hf e0 ⊢
  have I : ∀ x ∈ X.ks, ∀ rs, U2 rs → D2 m (A2 x ++ rs) = some (x, rs) := by rw [e0 X rfl]; exact I
  clear h h3 h4 hd ih e0 hX
  cases hf with
  | var b h1 h2 =>
   have e : A2 (.mk 1 ⟨#[b]⟩ 0 A3 A3 0 []) ++ rest = b :: rest := by simp [A2, H8]
   rw [e, D2, if_pos ⟨h1, h2⟩]
  | num n h1 h2 =>
   have e : A2 (.mk 2 ⟨#[]⟩ n A3 A3 0 []) ++ rest = Lib.itoa n ++ rest := by simp [A2, H8]
   obtain ⟨c, r, e2, hc⟩ := A4n h1 h2 rest
   have hp := A7a (n := n) (by omega) h2 hr
   rw [e, e2]
   rw [e2] at hp
   have hc2 := hc
   unfold D3 at hc2
   rw [D2, if_neg (by omega), if_pos hc, hp]; rfl
  | tru => simp [A2, H8, nd, D2, D3]
  | fls => simp [A2, H8, nd, D2, D3]
  | lam b ty a h1 h2 ht =>
   have e : A2 (.mk 5 ⟨#[b]⟩ 0 ty A3 0 [a]) ++ rest = 33 :: b :: 58 :: (K3 ty ++ (46 :: (A2 a ++ rest))) := by simp [A2, N0, H8]
   rw [e, D2, if_neg (by decide), if_neg (by decide), if_neg (by decide), if_neg (by decide), if_pos rfl]
   have hT := A3d 4 ty 1 (46 :: (A2 a ++ rest)) ht (by decide)
   simp [A1V, P3, B9, hT, I a (by simp [Tm.ks]) rest hr]
  | bin k a b hk =>
   have ha := I a (by simp [Tm.ks, nd])
   have hb := I b (by simp [Tm.ks, nd]) (41 :: rest) (P5 (by decide))
   rcases hk with rfl | rfl | rfl
   ·have e : A2 (nd 6 [a, b]) ++ rest = 40 :: (A2 a ++ (32 :: (A2 b ++ (41 :: rest)))) := by simp [A2, N0, H8, nd]
    rw [e, D2]
    simp [D3, R3, ha (32 :: _) (P5 (by decide)), P3, A0S, hb, B9]
   ·have e : A2 (nd 7 [a, b]) ++ rest = 40 :: (A2 a ++ (43 :: (A2 b ++ (41 :: rest)))) := by simp [A2, N0, H8, nd]
    rw [e, D2]
    simp [D3, R3, ha (43 :: _) (P5 (by decide)), P3, A0S, hb, B9]
   ·have e : A2 (nd 8 [a, b]) ++ rest = 40 :: (A2 a ++ (60 :: (A2 b ++ (41 :: rest)))) := by simp [A2, N0, H8, nd]
    rw [e, D2]
    simp [D3, R3, ha (60 :: _) (P5 (by decide)), P3, A0S, hb, B9]
  | ite a b c =>
   have e : A2 (nd 9 [a, b, c]) ++ rest = 123 :: (A2 a ++ (63 :: (A2 b ++ (58 :: (A2 c ++ (125 :: rest)))))) := by simp [A2, N0, H8, nd]
   rw [e, D2]
   simp [D3, pIf, I a (by simp [Tm.ks, nd]) (63 :: _) (P5 (by decide)), I b (by simp [Tm.ks, nd]) (58 :: _) (P5 (by decide)), I c (by simp [Tm.ks, nd]) (125 :: _) (P5 (by decide)), B9]
  | pair a b =>
   have e : A2 (nd 10 [a, b]) ++ rest = 91 :: (A2 a ++ (44 :: (A2 b ++ (93 :: rest)))) := by simp [A2, N0, H8, nd]
   rw [e, D2]
   simp [D3, A1W, I a (by simp [Tm.ks, nd]) (44 :: _) (P5 (by decide)), I b (by simp [Tm.ks, nd]) (93 :: _) (P5 (by decide)), B9]
  | un k a hk =>
   have ha := I a (by simp [Tm.ks, nd]) rest hr
   rcases hk with rfl | rfl
   ·have e : A2 (nd 11 [a]) ++ rest = 36 :: (A2 a ++ rest) := by simp [A2, N0, H8, nd]
    rw [e, D2]
    simp [D3, Q8, ha]
   ·have e : A2 (nd 12 [a]) ++ rest = 37 :: (A2 a ++ rest) := by simp [A2, N0, H8, nd]
    rw [e, D2]
    simp [D3, Q8, ha]
  | asc ty a ht =>
   have e : A2 (.mk 13 ⟨#[]⟩ 0 ty A3 0 [a]) ++ rest = 40 :: (A2 a ++ (58 :: (K3 ty ++ (41 :: rest)))) := by simp [A2, N0, H8]
   rw [e, D2]
   have hT := A3d 4 ty 1 (41 :: rest) ht (by decide)
   simp [D3, R3, I a (by simp [Tm.ks]) (58 :: _) (P5 (by decide)), P3, pAs, hT, B9]
  | cast ty fr lb a ht hf hl1 hl2 =>
   have e : A2 (.mk 14 ⟨#[]⟩ 0 ty fr lb [a]) ++ rest = 40 :: (A2 a ++ (58 :: (K3 fr ++ (126 :: (K3 ty ++ (35 :: (Lib.itoa lb ++ (41 :: rest)))))))) := by simp [A2, N0, H8]
   rw [e, D2]
   have hF := fun rs => A3d 4 fr 1 rs hf (by decide)
   have hT := fun rs => A3d 4 ty 1 rs ht (by decide)
   simp [D3, R3, I a (by simp [Tm.ks]) (58 :: _) (P5 (by decide)), P3, pAs, hF, hT, B9, A7a hl1 hl2 (P5 (c := 41) (l := rest) (by decide))]
set_option maxRecDepth 4000 in
theorem B0F (D N : Int) : ∀ (n : Nat) (e : Tm) (d : Int) (rest : A0), M5 D N e d = true → D + 1 - d ≤ n → U2 rest → D4 n (A2 e ++ rest) = some (e, rest) := by
 intro n
 induction n with
 | zero =>
  intro e d rest h hn
  obtain ⟨k, nm, num, ty, fr, lb, ks⟩ := e
  have := (A04 h).1
  omega
 | succ m ih =>
  intro e d rest h hn hr
  obtain ⟨k, nm, num, ty, fr, lb, ks⟩ := e
  obtain ⟨hd, _, h3, h4⟩ := A04 h
  have I : ∀ x ∈ ks, ∀ rs, U2 rs → D4 m (A2 x ++ rs) = some (x, rs) := fun x hx rs hrs => by
   obtain ⟨i, hi, rfl⟩ := List.getElem_of_mem hx
   exact ih _ (d + 1) rs ((A0e D N ks _).1 h4 i hi) (by omega) hrs
  have hf := A4m h3
  have e0 : ∀ x : Tm, x = .mk k nm num ty fr lb ks → x.ks = ks := fun x hx => by rw [hx]; rfl
  generalize hX : Tm.mk k nm num ty fr lb ks = X at hf e0 ⊢
  have I : ∀ x ∈ X.ks, ∀ rs, U2 rs → D4 m (A2 x ++ rs) = some (x, rs) := by rw [e0 X rfl]; exact I
  clear h h3 h4 hd ih e0 hX
  cases hf with
  | var b h1 h2 =>
   have e : A2 (.mk 1 ⟨#[b]⟩ 0 A3 A3 0 []) ++ rest = b :: rest := by simp [A2, H8]
   have hne : ∀ c : UInt8, c.toNat < 97 ∨ 122 < c.toNat → b ≠ c := fun c hc he => by rw [he] at h1 h2; omega
   rw [e, D4, if_neg (hne _ (by decide)), if_neg (hne _ (by decide)), if_neg (hne _ (by decide)), if_neg (hne _ (by decide)), if_neg (hne _ (by decide)), if_neg (hne _ (by decide)), if_neg (hne _ (by decide)), if_neg (hne _ (by decide)), if_pos ⟨h1, h2⟩]
  | num n h1 h2 =>
   have e : A2 (.mk 2 ⟨#[]⟩ n A3 A3 0 []) ++ rest = Lib.itoa n ++ rest := by simp [A2, H8]
   obtain ⟨c, r, e2, hc⟩ := A4n h1 h2 rest
   have hp := A4k (u := n.toNat) (by omega) hr
   rw [← A2v h1 h2] at hp
   rw [e, e2]
   rw [e2] at hp
   unfold D3 at hc
   have hne : ∀ x : UInt8, x.toNat < 48 ∨ 57 < x.toNat → c ≠ x := fun x hx he => by rw [he] at hc; omega
   rw [D4, if_neg (hne _ (by decide)), if_neg (hne _ (by decide)), if_neg (hne _ (by decide)), if_neg (hne _ (by decide)), if_neg (hne _ (by decide)), if_neg (hne _ (by decide)), if_neg (hne _ (by decide)), if_neg (hne _ (by decide)), if_neg (by omega), hp, Option.map_some, Int.toNat_of_nonneg h1]
  | tru => simp [A2, H8, nd, D4]
  | fls => simp [A2, H8, nd, D4]
  | lam b ty a h1 h2 ht =>
   have e : A2 (.mk 5 ⟨#[b]⟩ 0 ty A3 0 [a]) ++ rest = 33 :: b :: 58 :: (K3 ty ++ (46 :: (A2 a ++ rest))) := by simp [A2, N0, H8]
   rw [e, D4, if_neg (by decide), if_neg (by decide), if_pos rfl]
   have hT := A3e 4 ty 1 (46 :: (A2 a ++ rest)) ht (by decide)
   simp [U9, P3, B9, hT, I a (by simp [Tm.ks]) rest hr]
  | bin k a b hk =>
   have ha := I a (by simp [Tm.ks, nd])
   have hb := I b (by simp [Tm.ks, nd]) (41 :: rest) (P5 (by decide))
   rcases hk with rfl | rfl | rfl
   ·have e : A2 (nd 6 [a, b]) ++ rest = 40 :: (A2 a ++ (32 :: (A2 b ++ (41 :: rest)))) := by simp [A2, N0, H8, nd]
    rw [e, D4]
    simp [S5, ha (32 :: _) (P5 (by decide)), P3, A0T, P4, hb, B9]
   ·have e : A2 (nd 7 [a, b]) ++ rest = 40 :: (A2 a ++ (43 :: (A2 b ++ (41 :: rest)))) := by simp [A2, N0, H8, nd]
    rw [e, D4]
    simp [S5, ha (43 :: _) (P5 (by decide)), P3, A0T, P4, hb, B9]
   ·have e : A2 (nd 8 [a, b]) ++ rest = 40 :: (A2 a ++ (60 :: (A2 b ++ (41 :: rest)))) := by simp [A2, N0, H8, nd]
    rw [e, D4]
    simp [S5, ha (60 :: _) (P5 (by decide)), P3, A0T, P4, hb, B9]
  | ite a b c =>
   have e : A2 (nd 9 [a, b, c]) ++ rest = 123 :: (A2 a ++ (63 :: (A2 b ++ (58 :: (A2 c ++ (125 :: rest)))))) := by simp [A2, N0, H8, nd]
   rw [e, D4]
   simp [P4, I a (by simp [Tm.ks, nd]) (63 :: _) (P5 (by decide)), I b (by simp [Tm.ks, nd]) (58 :: _) (P5 (by decide)), I c (by simp [Tm.ks, nd]) (125 :: _) (P5 (by decide)), B9]
  | pair a b =>
   have e : A2 (nd 10 [a, b]) ++ rest = 91 :: (A2 a ++ (44 :: (A2 b ++ (93 :: rest)))) := by simp [A2, N0, H8, nd]
   rw [e, D4]
   simp [P4, I a (by simp [Tm.ks, nd]) (44 :: _) (P5 (by decide)), I b (by simp [Tm.ks, nd]) (93 :: _) (P5 (by decide)), B9]
  | un k a hk =>
   have ha := I a (by simp [Tm.ks, nd]) rest hr
   rcases hk with rfl | rfl
   ·have e : A2 (nd 11 [a]) ++ rest = 36 :: (A2 a ++ rest) := by simp [A2, N0, H8, nd]
    rw [e, D4]
    simp [Q8, ha]
   ·have e : A2 (nd 12 [a]) ++ rest = 37 :: (A2 a ++ rest) := by simp [A2, N0, H8, nd]
    rw [e, D4]
    simp [Q8, ha]
  | asc ty a ht =>
   have e : A2 (.mk 13 ⟨#[]⟩ 0 ty A3 0 [a]) ++ rest = 40 :: (A2 a ++ (58 :: (K3 ty ++ (41 :: rest)))) := by simp [A2, N0, H8]
   rw [e, D4]
   have hT := A3e 4 ty 1 (41 :: rest) ht (by decide)
   simp [S5, I a (by simp [Tm.ks]) (58 :: _) (P5 (by decide)), P3, X2, hT]
  | cast ty fr lb a ht hf hl1 hl2 =>
   have e : A2 (.mk 14 ⟨#[]⟩ 0 ty fr lb [a]) ++ rest = 40 :: (A2 a ++ (58 :: (K3 fr ++ (126 :: (K3 ty ++ (35 :: (Lib.itoa lb ++ (41 :: rest)))))))) := by simp [A2, N0, H8]
   rw [e, D4]
   have hF := fun rs => A3e 4 fr 1 rs hf (by decide)
   have hT := fun rs => A3e 4 ty 1 rs ht (by decide)
   have hL : U1 a fr (K3 ty ++ (35 :: (Lib.itoa lb ++ (41 :: rest)))) = some (.mk 14 ⟨#[]⟩ 0 ty fr lb [a], rest) := by
    unfold U1
    rw [hT]
    simp only [Option.bind_some, B9, if_true]
    by_cases hl : lb < 0
    ·rw [A4j hl hl1]
     simp [A4k (u := lb.natAbs) (by omega) (P5 (c := 41) (l := rest) (by decide)), B9]
     omega
    ·have h0 : 0 ≤ lb := by omega
     obtain ⟨c, r, e2, hc⟩ := A4n h0 hl2 (41 :: rest)
     have hp := A4k (u := lb.toNat) (by omega) (P5 (c := 41) (l := rest) (by decide))
     rw [← A2v h0 hl2, e2] at hp
     rw [e2]
     have hc45 : c ≠ 45 := fun he => by rw [he] at hc; exact absurd hc (by decide)
     simp [hc45, hp, B9]
     omega
   simp [S5, I a (by simp [Tm.ks]) (58 :: _) (P5 (by decide)), P3, X2, hF, hL]
def B3E (V : Tm → Bool) (l : A0) (e : Tm) : Prop := V e = true ∧ A2 e = l
theorem A4o {D N : Int} {e : Tm} {n : Nat} (h : M5 D N e 1 = true) (hn : D ≤ n) : D2 n (A2 e) = some (e, []) := by
 have := B0E D N n e 1 [] h (by omega) rfl
 rwa [List.append_nil] at this
theorem B0G {D N : Int} {e : Tm} {n : Nat} (h : M5 D N e 1 = true) (hn : D ≤ n) : D4 n (A2 e) = some (e, []) := by
 have := B0F D N n e 1 [] h (by omega) rfl
 rwa [List.append_nil] at this
theorem B0H {e f : Tm} {D N : Int} (he : M5 D N e 1 = true) (hf : M5 D N f 1 = true) (hD : 0 ≤ D) (h : A2 e = A2 f) : e = f := by
 have h1 := A4o (n := D.toNat) he (by omega)
 have h2 := A4o (n := D.toNat) hf (by omega)
 rw [h, h2] at h1
 exact ((Prod.mk.inj (Option.some.inj h1)).1).symm
section slaws2
variable {P : Program} {Γ : E6} {env : F9} {hp : List A1} {G : IM} {ty : TypeId}
theorem A4p {x y : Operand} {t t' : TypeId} {r s : ByteArray} (h : r = s) (hx : evo env x = some (.string r)) (hy : evo env y = some (.string s)) :
  C9 P Γ ⟨env, hp, G⟩ (.binOp .eql t x y t') ty (.bool true) := by
 have h2 := A1h (P := P) (Γ := Γ) (hp := hp) (G := G) (t := t) (t' := t') (ty := ty) hx hy
 rwa [decide_eq_true h] at h2
theorem A4q {x y : Operand} {t t' : TypeId} {r s : ByteArray} (h : r ≠ s) (hx : evo env x = some (.string r)) (hy : evo env y = some (.string s)) :
  C9 P Γ ⟨env, hp, G⟩ (.binOp .eql t x y t') ty (.bool false) := by
 have h2 := A1h (P := P) (Γ := Γ) (hp := hp) (G := G) (t := t) (t' := t') (ty := ty) hx hy
 rwa [decide_eq_false h] at h2
end slaws2
def A9 (l : A0) : ByteArray := ⟨l.toArray⟩
theorem I9 (l : A0) : (A9 l).size = l.length := rfl
theorem A4r : A9 [] = ⟨⟨[]⟩⟩ := rfl
theorem A4s (b : UInt8) (l : A0) : A9 (b :: l) ≠ ⟨⟨[]⟩⟩ := fun h => by
 have := congrArg (fun x : ByteArray => x.size) h
 simp [A9, ByteArray.size] at this
theorem A1y {a b : A0} (h : A9 a = A9 b) : a = b := by
 have := congrArg (fun x : ByteArray => x.data.toList) h
 simpa [A9] using this
theorem A2w (s : ByteArray) : A9 s.data.toList = s := by obtain ⟨⟨l⟩⟩ := s; rfl
theorem A0w (l : A0) (i j : Nat) : (A9 l).extract i j = A9 ((l.drop i).take (j - i)) := by
 apply ByteArray.ext
 rw [ByteArray.data_extract]
 apply Array.ext'
 simp only [Array.toList_extract, A9]
theorem B0I (b : UInt8) (l : A0) : (A9 (b :: l)).extract 1 (A9 (b :: l)).size = A9 l := by
 rw [A0w, I9]
 simp
theorem A7b (b : UInt8) (l : A0) : (A9 (b :: l))[(0 : Int).toNat]? = some b := by
 show (A9 (b :: l))[0]? = some b
 rw [getElem?_pos (A9 (b :: l)) 0 (by rw [I9]; simp)]
 rfl
def O4 (S : Option A0) (cs : List Value) : Prop := (S = none ∧ ∃ s : ByteArray, s.size ≤ 4294967296 ∧ cs = [.string s, .bool true]) ∨ (∃ l : A0, S = some l ∧ l.length ≤ 4294967296 ∧ cs = [.string (A9 l), .bool false])
theorem O4.no {s : ByteArray} (h : s.size ≤ 4294967296) : O4 none [.string s, .bool true] := .inl ⟨rfl, s, h, rfl⟩
theorem O4.yes {l : A0} (h : l.length ≤ 4294967296) : O4 (some l) [.string (A9 l), .bool false] := .inr ⟨l, rfl, h, rfl⟩
theorem O4.open {S : Option A0} {cs : List Value} (h : O4 S cs) : ∃ s bad, cs = [.string s, .bool bad] ∧ s.size ≤ 4294967296 := by
 rcases h with ⟨_, s, h, rfl⟩ | ⟨l, _, h, rfl⟩
 ·exact ⟨s, _, rfl, h⟩
 ·exact ⟨_, _, rfl, h⟩
theorem O4.bad {S : Option A0} {s : ByteArray} {bad : Bool} (h : O4 S [.string s, .bool bad]) : O4 none [.string s, .bool true] := by
 obtain ⟨s', bad', h1, h2⟩ := h.open
 cases h1
 exact .no h2
def C0 : Option A0 → UInt8
 | some (b :: _) => b
 | _ => 0
def K5 : Option A0 → Option A0
 | some (_ :: l) => some l
 | _ => none
def RdP (b : Nat) (S' : Option A0) (Φ : IM → Value → Prop) : IM → Value → List A1 → Prop := fun G' v outs => ∃ cs', outs = [.blk b cs'] ∧ O4 S' cs' ∧ Φ G' v
theorem A0x (b : Nat) (S : Option A0) (cs : List Value) (G : IM) (h : O4 S cs) : Fn Tryz.prog 150 [.pointer (some ⟨b, 0, none⟩)] [.blk b cs] G (RdP b (K5 S) fun G' v => G' = G ∧ v = .int .u8 ((C0 S).toNat : Int)) := by
 rcases h with ⟨rfl, s, hs, rfl⟩ | ⟨l, rfl, hl, rfl⟩
 ·refine B3 Tryz.func150 rfl Tryz.ntmps150 Tryz.results150 rfl ?_
  intro w0
  refine C1 ?_
  refine sQ (A6 rfl) rfl ?_
  refine I7 ?_
  refine sQ (A6 rfl) rfl ?_
  refine D7 ?_
  refine C8 (rT rfl) (.cons (by repeat (first | exact Pk.here | apply Pk.there)) .nil) ?_
  (exact ⟨_, rfl, .no hs, rfl, rfl⟩)
 ·cases l with
  | nil =>
   refine B3 Tryz.func150 rfl Tryz.ntmps150 Tryz.results150 rfl ?_
   intro w0
   refine C1 ?_
   refine sQ (A6 rfl) rfl ?_
   refine H9 ?_
   refine sQ (A6 rfl) rfl ?_
   refine sQ (A4 rfl) rfl (sL (C2 rfl rfl) rfl rfl ?_)
   refine sP (A4p A4r rfl rfl) rfl rfl ?_
   refine B1 ?_
   refine sQ (A6 rfl) rfl ?_
   refine D7 ?_
   refine C8 (rT rfl) (.cons (by repeat (first | exact Pk.here | apply Pk.there)) .nil) ?_
   (exact ⟨_, rfl, .no (by simp [I9]), rfl, rfl⟩)
  | cons c r =>
   have hr : r.length ≤ 4294967296 := by rw [List.length_cons] at hl; omega
   refine B3 Tryz.func150 rfl Tryz.ntmps150 Tryz.results150 rfl ?_
   intro w0
   refine C1 ?_
   refine sQ (A6 rfl) rfl ?_
   refine H9 ?_
   refine sQ (A6 rfl) rfl ?_
   refine sQ (A4 rfl) rfl (sL (C2 rfl rfl) rfl rfl ?_)
   refine sP (A4q (A4s _ _) rfl rfl) rfl rfl ?_
   refine C1 ?_
   refine sQ (A6 rfl) rfl ?_
   refine sQ (A4 rfl) rfl (sL (C2 rfl rfl) rfl rfl ?_)
   refine sP (N3 rfl rfl rfl (by decide) (A7b _ _)) rfl rfl ?_
   refine B1 ?_
   refine sQ (A6 rfl) rfl ?_
   refine sQ (A4 rfl) rfl (sL (C2 rfl rfl) rfl rfl ?_)
   (refine sP (R8 (l := 1) rfl rfl rfl (by rw [I9]; simp)) rfl rfl ?_; rw [B0I])
   refine sQ (A6 rfl) rfl ?_
   refine D7 ?_
   refine C8 (rT rfl) (.cons (by repeat (first | exact Pk.here | apply Pk.there)) .nil) ?_
   (exact ⟨_, rfl, .yes hr, rfl, rfl⟩)
theorem A2x (b : Nat) (S : Option A0) (cs : List Value) (G : IM) (h : O4 S cs) : Fn Tryz.prog 149 [.pointer (some ⟨b, 0, none⟩)] [.blk b cs] G (fun G' v outs => G' = G ∧ v = .int .u8 ((C0 S).toNat : Int) ∧ outs = [.blk b cs]) := by
 rcases h with ⟨rfl, s, hs, rfl⟩ | ⟨l, rfl, hl, rfl⟩
 ·refine B3 Tryz.func149 rfl Tryz.ntmps149 Tryz.results149 rfl ?_
  intro w0
  refine C1 ?_
  refine sQ (A6 rfl) rfl ?_
  refine U7 ?_
  refine C8 (rT rfl) (.cons (by repeat (first | exact Pk.here | apply Pk.there)) .nil) ?_
  (exact ⟨rfl, rfl, rfl⟩)
 ·cases l with
  | nil =>
   refine B3 Tryz.func149 rfl Tryz.ntmps149 Tryz.results149 rfl ?_
   intro w0
   refine C1 ?_
   refine sQ (A6 rfl) rfl ?_
   refine H9 ?_
   refine sQ (A6 rfl) rfl ?_
   refine sQ (A4 rfl) rfl (sL (C2 rfl rfl) rfl rfl ?_)
   refine sP (A4p A4r rfl rfl) rfl rfl ?_
   refine D7 ?_
   refine C8 (rT rfl) (.cons (by repeat (first | exact Pk.here | apply Pk.there)) .nil) ?_
   (exact ⟨rfl, rfl, rfl⟩)
  | cons c r =>
   refine B3 Tryz.func149 rfl Tryz.ntmps149 Tryz.results149 rfl ?_
   intro w0
   refine C1 ?_
   refine sQ (A6 rfl) rfl ?_
   refine H9 ?_
   refine sQ (A6 rfl) rfl ?_
   refine sQ (A4 rfl) rfl (sL (C2 rfl rfl) rfl rfl ?_)
   refine sP (A4q (A4s _ _) rfl rfl) rfl rfl ?_
   refine C1 ?_
   refine sQ (A6 rfl) rfl ?_
   refine sQ (A4 rfl) rfl (sL (C2 rfl rfl) rfl rfl ?_)
   refine sP (N3 rfl rfl rfl (by decide) (A7b _ _)) rfl rfl ?_
   refine sQ (qA rfl) rfl (sD (nS (tT ?_)))
   refine C8 (rT rfl) (.cons (by repeat (first | exact Pk.here | apply Pk.there)) .nil) ?_
   (exact ⟨rfl, rfl, rfl⟩)
theorem B0J {S : Option A0} {c : UInt8} (h : C0 S = c) : S.bind (B9 c) = K5 S := by
 rcases S with _ | _ | ⟨b, l⟩
 ·rfl
 ·rfl
 ·have h : b = c := h
  show B9 c (b :: l) = _
  rw [B9, if_pos h]; rfl
theorem B0K {S : Option A0} {c : UInt8} (h : C0 S ≠ c) : S.bind (B9 c) = none := by
 rcases S with _ | _ | ⟨b, l⟩
 ·rfl
 ·rfl
 ·have h : b ≠ c := h
  show B9 c (b :: l) = _
  rw [B9, if_neg h]
theorem B0L {S : Option A0} {lo hi : Int} (h : lo ≤ O2 (C0 S) ∧ O2 (C0 S) ≤ hi) : (S.bind (R2 lo hi)).map Prod.snd = K5 S := by
 rcases S with _ | _ | ⟨b, l⟩
 ·rfl
 ·rfl
 ·have h : lo ≤ O2 b ∧ O2 b ≤ hi := h
  show (R2 lo hi (b :: l)).map _ = _
  rw [R2, if_pos h]; rfl
theorem B0M {S : Option A0} {lo hi : Int} (h : ¬(lo ≤ O2 (C0 S) ∧ O2 (C0 S) ≤ hi)) : (S.bind (R2 lo hi)).map Prod.snd = none := by
 rcases S with _ | _ | ⟨b, l⟩
 ·rfl
 ·rfl
 ·have h : ¬(lo ≤ O2 b ∧ O2 b ≤ hi) := h
  show (R2 lo hi (b :: l)).map _ = _
  rw [R2, if_neg h]; rfl
theorem B0N {S : Option A0} {lo hi : Int} (h : K5 S = none) : (S.bind (R2 lo hi)).map Prod.snd = none := by
 rcases S with _ | _ | ⟨b, l⟩
 ·rfl
 ·rfl
 ·cases h
theorem A7c {S : Option A0} {lo hi : Int} : ∀ x, S.bind (R2 lo hi) = some x → O2 (C0 S) = x.1 := by
 rcases S with _ | _ | ⟨b, l⟩
 ·intro x h; cases h
 ·intro x h; cases h
 ·intro x h
  have h : R2 lo hi (b :: l) = some x := h
  rw [R2] at h
  split at h
  ·cases h; rfl
  ·cases h
theorem A4t (b : UInt8) : 0 ≤ O2 b ∧ O2 b ≤ 5 := by
 unfold O2; repeat' split
 all_goals omega
theorem B0O (b : UInt8) : Lib.indexByte [63, 73, 66, 62, 42] b = O2 b - 1 := by
 by_cases h1 : b = 63
 ·subst h1; rfl
 by_cases h2 : b = 73
 ·subst h2; rfl
 by_cases h3 : b = 66
 ·subst h3; rfl
 by_cases h4 : b = 62
 ·subst h4; rfl
 by_cases h5 : b = 42
 ·subst h5; rfl
 have e : ∀ x : UInt8, b ≠ x → (x == b) = false := fun x h => by rw [beq_eq_false_iff_ne]; exact fun he => h he.symm
 unfold O2
 rw [if_neg h1, if_neg h2, if_neg h3, if_neg h4, if_neg h5]
 simp [Lib.indexByte, e _ h1, e _ h2, e _ h3, e _ h4, e _ h5]
theorem B0P (b : UInt8) (G : IM) : Fn Tryz.prog 216 [.string ⟨⟨[63, 73, 66, 62, 42]⟩⟩, .int .u8 (b.toNat : Int)] [] G (H4 (.int .i64 (O2 b - 1)) G) := by
 refine ⟨fun w hw => ?_⟩
 refine (Tryz.strings_IndexByte ⟨⟨[63, 73, 66, 62, 42]⟩⟩ (b.toNat : Int) w).mono ?_
 rintro e w' ⟨rfl, rfl⟩
 refine ⟨_, G, [], rfl, M2.refl hw, rfl, ?_, rfl⟩
 have hb : (b.toNat : Int).toNat.toUInt8 = b := by simp
 rw [hb]
 exact congrArg (fun z => Value.int .i64 z) (B0O b)
theorem D8 {a b : UInt8} (h : (a.toNat : Int) ≠ (b.toNat : Int)) : a ≠ b := fun he => h (by rw [he])
theorem E0 {a b : UInt8} (h : (a.toNat : Int) = (b.toNat : Int)) : a = b := UInt8.toNat_inj.1 (by omega)
theorem V5 (b : Nat) (c : UInt8) (S : Option A0) (cs : List Value) (G : IM) (h : O4 S cs) : Fn Tryz.prog 154 [.pointer (some ⟨b, 0, none⟩), .int .u8 (c.toNat : Int)] [.blk b cs] G (RdP b (S.bind (B9 c)) fun G' v => G' = G ∧ v = .tuple ⟨[]⟩) := by
 have hO := A0x b S cs G h
 refine B3 Tryz.func154 rfl Tryz.ntmps154 Tryz.results154 rfl ?_
 intro w0
 refine tR (sQ (qM rfl) rfl (sQ (qM rfl) rfl ?_))
 (refine H7 rfl hO (Pk.perm (by repeat (first | exact Pk.here | apply Pk.there))) rfl rfl (fun v G1 outs hle1 hh => ?_); obtain ⟨W8, rfl, hR1, hG, rfl⟩ := hh; replace hG := hG.symm; subst hG; obtain ⟨s1, bad1, rfl, hs1⟩ := hR1.open)
 refine sQ (qM rfl) rfl ?_
 refine sB (N1 rfl rfl) rfl rfl (fun h6 => ?_) (fun h6 => ?_)
 refine I2 ?_
 refine sQ (A6 rfl) rfl ?_
 refine sQ (A4 rfl) rfl (O6 ?_)
 refine sD ?_
 refine A63 (.cons (by repeat (first | exact Pk.here | apply Pk.there)) .nil) ?_
 (rw [B0K (D8 (by assumption))]; exact ⟨_, rfl, hR1.bad, rfl, rfl⟩)
 refine sQ (qM rfl) rfl (sQ (qM rfl) rfl ?_)
 refine sQ (A6 rfl) rfl ?_
 refine F5 ?_
 refine sQ (A6 rfl) rfl ?_
 refine sQ (A4 rfl) rfl (O6 ?_)
 refine sD ?_
 refine A63 (.cons (by repeat (first | exact Pk.here | apply Pk.there)) .nil) ?_
 (rw [B0J (E0 (by omega))]; exact ⟨_, rfl, hR1, rfl, rfl⟩)
theorem A4u (b : Nat) (lo hi : Int) (S : Option A0) (cs : List Value) (G : IM) (h : O4 S cs) : Fn Tryz.prog 190 [.pointer (some ⟨b, 0, none⟩), .int .i64 lo, .int .i64 hi] [.blk b cs] G (RdP b ((S.bind (R2 lo hi)).map Prod.snd) fun G' v => G' = G ∧ v = .int .i64 (O2 (C0 S))) := by
 have hO := A0x b S cs G h
 have hk := A4t (C0 S)
 have hki := @B0L S lo hi
 have hko := @B0M S lo hi
 have hkn := @B0N S lo hi
 refine B3 Tryz.func190 rfl Tryz.ntmps190 Tryz.results190 rfl ?_
 intro w0
 refine C6 ?_
 (refine H7 rfl hO (Pk.perm (by repeat (first | exact Pk.here | apply Pk.there))) rfl rfl (fun v G1 outs hle1 hh => ?_); obtain ⟨W8, rfl, hR1, hG, rfl⟩ := hh; replace hG := hG.symm; subst hG)
 refine I5 rfl ((B0P (C0 S) _)) rfl rfl ?_
 (refine sP (K2 rfl rfl (by omega) (by omega)) rfl rfl ?_; rw [show (1 : Int) + (O2 (C0 S) - 1) = O2 (C0 S) by omega]; rcases hR1 with ⟨hS, s1, hs1, rfl⟩ | ⟨l1, hS, hl1, rfl⟩)
 refine B1 ?_
 refine sQ (A6 rfl) rfl ?_
 refine C1 ?_
 refine sQ (A6 rfl) rfl ?_
 refine D7 ?_
 refine C8 (rT rfl) (.cons (by repeat (first | exact Pk.here | apply Pk.there)) .nil) ?_
 (rw [hkn hS]; exact ⟨_, rfl, .no hs1, rfl, rfl⟩)
 refine B1 ?_
 refine sQ (A6 rfl) rfl ?_
 refine I2 ?_
 refine H6 rfl ((A0u (O2 (C0 S)) lo hi _)) rfl rfl (fun h57 => ?_) (fun h57 => ?_)
 refine sQ (X5 rfl) rfl (sQ (L7 rfl rfl) rfl ?_)
 refine sQ (A6 rfl) rfl ?_
 refine D7 ?_
 refine C8 (rT rfl) (.cons (by repeat (first | exact Pk.here | apply Pk.there)) .nil) ?_
 (rw [hki (A0p (by assumption)), hS]; exact ⟨_, rfl, .yes hl1, rfl, rfl⟩)
 refine sQ (pNf rfl) rfl (sQ (L7 rfl rfl) rfl ?_)
 refine sQ (A6 rfl) rfl ?_
 refine D7 ?_
 refine C8 (rT rfl) (.cons (by repeat (first | exact Pk.here | apply Pk.there)) .nil) ?_
 (rw [hko (A5m (by assumption))]; exact ⟨_, rfl, .no (by rw [I9]; exact hl1), rfl, rfl⟩)
theorem A7d (G : IM) (k : Int) (hk : F1 k) : K6 G (.mk k []) [.int .i64 k, .slice none 0 0] [] := by
 simp only [K6]
 exact ⟨none, 0, [], [], rfl, hk, B7.nil G 2, ⟨rfl, rfl⟩, rfl, fun b hb => by simp [E5] at hb⟩
theorem B0Q {G Ga Gb : IM} {a b : Ty} {ca cb : List Value} {Fa Fb : List Nat} (h1 : B4 G Ga) (h2 : B4 Ga Gb) (ha : K6 (B2 Ga G) a ca Fa) (na : Fa.Nodup) (hb : K6 (B2 Gb Ga) b cb Fb) (nb : Fb.Nodup) :
  I8 (B2 Gb G) [a, b] [ca, cb] (Fa ++ Fb) ∧ (Fa ++ Fb).Nodup := by
 have h0 : I8 (B2 G G) (([a, b] : List Ty).take 0) [] [] := by simp [I8]
 obtain ⟨s1, n1⟩ := I8.step (ks := [a, b]) (i := 0) h0 (by simp) (B4.refl _) h1 (by simp) ha na
 obtain ⟨s2, n2⟩ := I8.step (ks := [a, b]) (i := 1) s1 n1 h1 h2 (by simp) hb nb
 simpa using And.intro s2 n2
theorem B0R (k : Int) (a b : Ty) (G Ga Gb : IM) (ca cb : List Value) (Fa Fb : List Nat) (hk : F1 k) (h1 : B4 G Ga) (h2 : B4 Ga Gb) (ha : K6 (B2 Ga G) a ca Fa) (na : Fa.Nodup) (hb : K6 (B2 Gb Ga) b cb Fb) (nb : Fb.Nodup) :
  Fn Tryz.prog 191 [.int .i64 k, .agg ⟨ca⟩, .agg ⟨cb⟩] [] Gb (A9Y (.mk k [a, b]) G) := by
 obtain ⟨sab, nab⟩ := B0Q h1 h2 ha na hb nb
 obtain ⟨pa, cca, ea, rfl, _⟩ := ha.R.open
 obtain ⟨pb, ccb, eb, rfl, _⟩ := hb.R.open
 refine B3 Tryz.func191 rfl Tryz.ntmps191 Tryz.results191 rfl ?_
 intro w0
 refine tS (tR ?_)
 refine sE (J6 rfl rfl) rfl (fun b3 => ?_)
 refine sE (J6 rfl rfl) rfl (fun b4 => ?_)
 refine sE (D6 rfl) rfl (fun b5 => ?_)
 refine B1 ?_
 (refine F3 (P1 rfl rfl rfl (by omega) (by unfold maxLen; omega) rfl) rfl ?_; rintro _ ⟨b13, rfl⟩)
 refine sQ (Z5 rfl rfl) rfl (O6 ?_)
 refine sD (nS ?_)
 (refine A1m (by repeat (first | exact Pk.here | apply Pk.there)) (fun G5 hle5 hsl5 hno5 => ?_))
 refine tT ?_
 refine F0 (rC rfl (A7 rfl rfl)) ?_
 (obtain ⟨F', f1, f2⟩ := K6.fin (k := k) sab nab (h1.trans h2) hle5 hsl5 hno5 hk; exact ⟨rfl, _, F', rfl, f1, f2⟩)
def B0S (b : Nat) (m : Option (Ty × A0)) (G : IM) : IM → Value → List A1 → Prop := fun G' v outs => ∃ cs' t cells F, outs = [.blk b cs'] ∧ O4 (m.map Prod.snd) cs' ∧ v = .agg ⟨cells⟩ ∧ K6 (B2 G' G) t cells F ∧ F.Nodup ∧ ∀ x, m = some x → t = x.1
theorem B0T {S : Option A0} {n : Nat} (h : C0 S ≠ 40) : S.bind (K0 (n + 1)) = (S.bind (R2 1 3)).map fun y => (.mk y.1 [], y.2) := by
 rcases S with _ | _ | ⟨b, l⟩
 ·rfl
 ·rfl
 ·have h : ¬b = 40 := h
  show K0 (n + 1) (b :: l) = _
  rw [K0, List.headD_cons, if_neg h]; rfl
theorem B0U {S : Option A0} {n : Nat} (h : C0 S = 40) : S.bind (K0 (n + 1)) = (S.bind (B9 40)).bind fun r => (K0 n r).bind fun x => (R2 4 5 x.2).bind fun y => (K0 n y.2).bind fun z => (B9 41 z.2).map fun w => (.mk y.1 [x.1, z.1], w) := by
 rcases S with _ | _ | ⟨b, l⟩
 ·rfl
 ·cases h
 ·have h : b = 40 := h
  subst h
  show K0 (n + 1) (40 :: l) = _
  rw [K0, List.headD_cons, if_pos rfl]
  rfl
theorem B0V {S : Option A0} {n : Nat} (h : C0 S ≠ 40) : (S.bind (K0 (n + 1))).map Prod.snd = (S.bind (R2 1 3)).map Prod.snd ∧ ∀ x, S.bind (K0 (n + 1)) = some x → Ty.mk (O2 (C0 S)) [] = x.1 := by
 rw [B0T h]
 have hv := @A7c S 1 3
 cases hK : S.bind (R2 1 3) with
 | none => exact ⟨rfl, fun x hx => by cases hx⟩
 | some y => exact ⟨rfl, fun x hx => by cases hx; rw [hv y hK]⟩
theorem B0W {S : Option A0} {n : Nat} {a b : Ty} (h : C0 S = 40) (ha : ∀ x, (S.bind (B9 40)).bind (K0 n) = some x → a = x.1)
  (hb : ∀ x, ((((((S.bind (B9 40)).bind (K0 n)).map Prod.snd).bind (R2 4 5)).map Prod.snd).bind (K0 n)) = some x → b = x.1) :
  (S.bind (K0 (n + 1))).map Prod.snd = (((((((S.bind (B9 40)).bind (K0 n)).map Prod.snd).bind (R2 4 5)).map Prod.snd).bind (K0 n)).map Prod.snd).bind (B9 41) ∧
  ∀ x, S.bind (K0 (n + 1)) = some x → Ty.mk (O2 (C0 (((S.bind (B9 40)).bind (K0 n)).map Prod.snd))) [a, b] = x.1 := by
 rw [B0U h]
 cases h1 : S.bind (B9 40) with
 | none => exact ⟨rfl, fun x hx => by cases hx⟩
 | some r =>
  rw [h1] at ha hb
  simp only [Option.bind_some] at ha hb ⊢
  cases h2 : K0 n r with
  | none => exact ⟨rfl, fun x hx => by cases hx⟩
  | some x =>
   rw [h2] at ha hb
   simp only [Option.bind_some, Option.map_some] at ha hb ⊢
   have hv := @A7c (some x.2) 4 5
   cases h3 : R2 4 5 x.2 with
   | none => exact ⟨rfl, fun x hx => by cases hx⟩
   | some y =>
    rw [h3] at hb
    have hv := hv y h3
    simp only [Option.bind_some, Option.map_some] at hb ⊢
    cases h4 : K0 n y.2 with
    | none => exact ⟨rfl, fun x hx => by cases hx⟩
    | some z =>
     simp only [Option.bind_some, Option.map_some]
     cases h5 : B9 41 z.2 with
     | none => exact ⟨rfl, fun x hx => by cases hx⟩
     | some w => exact ⟨rfl, fun q hq => by cases hq; rw [hv, ha x rfl, hb z h4]⟩
theorem A4v (b : Nat) : ∀ (n : Nat) (d : Int) (S : Option A0) (cs : List Value) (G : IM), d + n = 5 → 1 ≤ d → O4 S cs → Fn Tryz.prog 155 [.pointer (some ⟨b, 0, none⟩), .int .i64 d] [.blk b cs] G (B0S b (S.bind (K0 n)) G) := by
 intro n
 induction n with
 | zero =>
  intro d S cs G hd hd1 h
  obtain ⟨s, bad, rfl, hs⟩ := h.open
  have hB : O4 none [.string s, .bool true] := h.bad
  have hz : S.bind (K0 0) = none := by cases S <;> rfl
  rw [hz]
  refine B3 Tryz.func155 rfl Tryz.ntmps155 Tryz.results155 rfl ?_
  intro w0
  refine tS (tR ?_)
  refine sE (D6 rfl) rfl (fun b3 => ?_)
  refine sD (nS (tS (tS (tR (sQ (qM rfl) rfl ?_)))))
  refine sP (A3D rfl rfl (by omega)) rfl rfl ?_
  refine sD (nS (qT rfl (tR (sQ (qM rfl) rfl ?_))))
  refine sQ (A6 rfl) rfl ?_
  refine C6 ?_
  (refine H7 rfl (A2x b none _ G hB) (Pk.perm (by repeat (first | exact Pk.here | apply Pk.there))) rfl rfl (fun v G1 outs hle1 hh => ?_); obtain ⟨hG, rfl, rfl⟩ := hh; replace hG := hG.symm; subst hG; have hz0 : ((C0 none).toNat : Int) = 0 := rfl)
  refine sP (T8 rfl rfl (by omega)) rfl rfl ?_
  refine sD (nS (qT rfl (tS (tR (sQ (qM rfl) rfl ?_)))))
  (refine H7 rfl (A4u b 1 3 none _ G hB) (Pk.perm (by repeat (first | exact Pk.here | apply Pk.there))) rfl rfl (fun v G1 outs hle1 hh => ?_); obtain ⟨cs2, rfl, hR2, hG, rfl⟩ := hh; replace hG := hG.symm; subst hG)
  refine I5 rfl (A5Q _ _) rfl rfl ?_
  refine O6 ?_
  refine sD (nS (tT (rS ?_)))
  refine C8 (rC rfl (A7 rfl rfl)) (.cons (by repeat (first | exact Pk.here | apply Pk.there)) .nil) ?_
  (exact ⟨cs2, .mk (O2 (C0 none)) [], _, [], rfl, hR2, rfl, A7d _ _ ⟨by decide, by decide⟩, by simp, fun x hx => by cases hx⟩)
 | succ n ih =>
  intro d S cs G hd hd1 h
  have hk := A4t (C0 S)
  have hI1 : F1 (O2 (C0 S)) := ⟨by omega, by omega⟩
  refine B3 Tryz.func155 rfl Tryz.ntmps155 Tryz.results155 rfl ?_
  intro w0
  refine tS (tR ?_)
  refine sE (D6 rfl) rfl (fun b3 => ?_)
  refine sD (nS (tS (tS (tR (sQ (qM rfl) rfl ?_)))))
  refine sP (A2f rfl rfl (by omega)) rfl rfl ?_
  refine C1 ?_
  (refine H7 rfl (A2x b S cs G h) (Pk.perm (by repeat (first | exact Pk.here | apply Pk.there))) rfl rfl (fun v G1 outs hle1 hh => ?_); obtain ⟨hG, rfl, rfl⟩ := hh; replace hG := hG.symm; subst hG)
  refine sB (N1 rfl rfl) rfl rfl (fun h21 => ?_) (fun h21 => ?_)
  refine sD (nS (qT rfl (tS (tR (sQ (qM rfl) rfl ?_)))))
  (have hne : C0 S ≠ 40 := (fun he => by have hx : ((C0 S).toNat : Int) = 40 := (by rw [he]; rfl); omega); obtain ⟨hd1, hd2⟩ := B0V (n := n) hne; refine H7 rfl (A4u b 1 3 S cs G h) (Pk.perm (by repeat (first | exact Pk.here | apply Pk.there))) rfl rfl (fun v G1 outs hle1 hh => ?_); obtain ⟨cs2, rfl, hR2, hG, rfl⟩ := hh; replace hG := hG.symm; subst hG; rw [← hd1] at hR2)
  refine I5 rfl (A5Q _ _) rfl rfl ?_
  refine O6 ?_
  refine sD (nS (tT (rS ?_)))
  refine C8 (rC rfl (A7 rfl rfl)) (.cons (by repeat (first | exact Pk.here | apply Pk.there)) .nil) ?_
  (exact ⟨cs2, .mk (O2 (C0 S)) [], _, [], rfl, hR2, rfl, A7d _ _ hI1, by simp, hd2⟩)
  refine sD (nS (cF rfl (tK (nS (tS (tR (sQ (qM rfl) rfl ?_)))))))
  (have heq : C0 S = 40 := E0 (b := 40) (by show _ = (40 : Int); omega); refine H7 rfl (V5 b 40 S cs G h) (Pk.perm (by repeat (first | exact Pk.here | apply Pk.there))) rfl rfl (fun v G1 outs hle1 hh => ?_); obtain ⟨W8, rfl, hR1, hG, rfl⟩ := hh; replace hG := hG.symm; subst hG)
  refine sD (nS (tS (tR (sQ (qM rfl) rfl (sQ (qM rfl) rfl ?_)))))
  refine sP (K2 rfl rfl (by omega) (by omega)) rfl rfl ?_
  (refine H7 rfl (ih (d + 1) _ W8 G (by omega) (by omega) hR1) (Pk.perm (by repeat (first | exact Pk.here | apply Pk.there))) rfl rfl (fun v G2 outs hle2 hh => ?_); obtain ⟨cs2, ta, ca, Fa, rfl, hR2, rfl, hsa, hna, hva⟩ := hh; have hla := hsa.R.len; have hoa := hsa.R.one)
  refine sE (D6 rfl) rfl (fun b54 => ?_)
  refine sS rfl rfl rfl hla hoa rfl ?_ (hu := by exact P0 hla.symm)
  refine sD (nS (tS (tR (sQ (qM rfl) rfl ?_))))
  (refine H7 rfl (A4u b 4 5 _ cs2 G2 hR2) (Pk.perm (by repeat (first | exact Pk.here | apply Pk.there))) rfl rfl (fun v G3 outs hle3 hh => ?_); obtain ⟨cs3, rfl, hR3, hG, rfl⟩ := hh; replace hG := hG.symm; subst hG)
  refine B1 ?_
  refine sP (K2 rfl rfl (by omega) (by omega)) rfl rfl ?_
  (refine H7 rfl (ih (d + 1) _ cs3 G2 (by omega) (by omega) hR3) (Pk.perm (by repeat (first | exact Pk.here | apply Pk.there))) rfl rfl (fun v G4 outs hle4 hh => ?_); obtain ⟨cs4, tb, cb, Fb, rfl, hR4, rfl, hsb, hnb, hvb⟩ := hh; have hlb := hsb.R.len; have hob := hsb.R.one; obtain ⟨hd1, hd2⟩ := B0W heq hva hvb; obtain ⟨hk3, hk4⟩ := A4t (C0 (((S.bind (B9 40)).bind (K0 n)).map Prod.snd)))
  refine sE (D6 rfl) rfl (fun b71 => ?_)
  refine sS rfl rfl rfl hlb hob rfl ?_ (hu := by exact P0 hlb.symm)
  refine sD (nS (tS (tR (sQ (qM rfl) rfl ?_))))
  (refine H7 rfl (V5 b 41 _ cs4 G4 hR4) (Pk.perm (by repeat (first | exact Pk.here | apply Pk.there))) rfl rfl (fun v G5 outs hle5 hh => ?_); obtain ⟨cs5, rfl, hR5, hG, rfl⟩ := hh; replace hG := hG.symm; subst hG; rw [← hd1] at hR5)
  refine sD (nS (tS (tR (sQ (qM rfl) rfl ?_))))
  refine sL (D5 rfl rfl (K8 (by repeat first | exact mH | apply mT)) hla) rfl rfl ?_
  refine sL (D5 rfl rfl (K8 (by repeat first | exact mH | apply mT)) hlb) rfl rfl ?_
  (refine M9 rfl (B0R _ ta tb G G2 G4 ca cb Fa Fb ⟨by omega, by omega⟩ hle2 hle4 hsa hna hsb hnb) rfl rfl (fun v G6 hle6 hh => ?_); obtain ⟨c6, F6, rfl, hs6, hn6⟩ := hh; have hl6 := hs6.R.len; have ho6 := hs6.R.one)
  refine sS rfl rfl rfl hl6 ho6 rfl ?_ (hu := by exact P0 hl6.symm)
  refine sD (nS (tT ?_))
  refine C8 (rC rfl (D5 rfl rfl (K8 (by repeat first | exact mH | apply mT)) hl6)) (.cons (by repeat (first | exact Pk.here | apply Pk.there)) .nil) ?_
  (exact ⟨cs5, _, c6, F6, rfl, hR5, rfl, hs6, hn6, hd2⟩)
section ilaws
variable {P : Program} {Γ : E6} {env : F9} {hp : List A1} {G : IM} {ty : TypeId}
theorem A2y {x y : Operand} {t t' u : TypeId} {v : Value} (h : P.underlying t = some (.interface (P.methodsAt t))) (hx : evo env x = some (.iface u v)) (hy : evo env y = some .nilIface) :
  C9 P Γ ⟨env, hp, G⟩ (.binOp .neq t x y t') ty (.bool true) := by
 refine ⟨fun a _ hs _ _ _ _ w => ?_⟩
 have hr := run_neq_held_nil w t u v h
 simp only [execOp, eqGuard, (hs.evo hx : a.eval x = _), (hs.evo hy : a.eval y = _), Sem.run_bind, Sem.run_pure, Result.andThen_ok, hr]
 simp [hr]
theorem A2z {x : Operand} {t t' : TypeId} (h : P.underlying t = some (.interface (P.methodsAt t))) (hx : evo env x = some .nilIface) :
  C9 P Γ ⟨env, hp, G⟩ (.binOp .neq t x (.const .nilIface) t') ty (.bool false) := by
 refine ⟨fun a _ hs _ _ _ _ w => ?_⟩
 have hr := run_neq_nil_nil w t h
 have hy : a.eval (.const .nilIface) = .nilIface := rfl
 simp only [execOp, eqGuard, (hs.evo hx : a.eval x = _), hy, Sem.run_bind, Sem.run_pure, Result.andThen_ok, hr]
 simp [hr]
end ilaws
theorem A0y : Tryz.prog.underlying 177 = some (.interface (Tryz.prog.methodsAt 177)) := by kernel_rfl
def V0 (G : IM) : Prop := (∃ g t q, Tryz.prog.globalNamed "strconv.ErrSyntax" = some g ∧ G g = some [.iface t q]) ∧ (∃ g t q, Tryz.prog.globalNamed "strconv.ErrRange" = some g ∧ G g = some [.iface t q])
theorem V0.mono {G G' : IM} (h : V0 G) (hg : B4 G G') : V0 G' := by
 obtain ⟨⟨g, t, q, h1, h2⟩, g', t', q', h3, h4⟩ := h
 exact ⟨⟨g, t, q, h1, hg g _ h2⟩, g', t', q', h3, hg g' _ h4⟩
theorem A4w {G : IM} {w w' : World} (hw : O5 [] G w) (hB : Below w.heap.size w w') : M2 [] G w [] G w' := by
 refine ⟨⟨?_, by simp, by simp [Fp], by simp [Fp]⟩, ⟨hB.os, hB.tape, hB.output, hB.size, fun b h _ => hB.block b h⟩, B4.refl _, fun _ _ h => .inl h, by simp [Fp], fun b l h h0 => absurd h (by rw [h0]; simp)⟩
 intro b l h
 obtain ⟨e, f, hh⟩ := hw.inn b l h
 exact ⟨e, f, by rw [hB.block b (W6 hh)]; exact hh⟩
theorem A7e {G : IM} {w : World} (hw : O5 [] G w) {g : Nat} {t : TypeId} {q : Value} {nm : String} (h1 : Tryz.prog.globalNamed nm = some g) (h2 : G g = some [.iface t q]) : w.var? Tryz.prog nm = some #[.iface t q] := by
 obtain ⟨e, f, hh⟩ := hw.inn g _ h2
 unfold World.var?
 rw [h1]
 simp only [Option.bind_some, hh]
theorem A2A (s : ByteArray) (G : IM) (hE : V0 G) (hs : s.size ≤ 281474976710656) : Fn Tryz.prog 189 [.string s] [] G (fun G' v outs => G' = G ∧ outs = [] ∧
  ((∃ n, Lib.atoiAll s.data.toList = .ok n ∧ F1 n ∧ v = .tuple ⟨[.int .i64 n, .nilIface]⟩) ∨ (∃ n t q, (∀ m, Lib.atoiAll s.data.toList ≠ .ok m) ∧ F1 n ∧ v = .tuple ⟨[.int .i64 n, .iface t q]⟩))) := by
 refine ⟨fun w hw => ?_⟩
 obtain ⟨⟨g, t, q, h1, h2⟩, g', t', q', h3, h4⟩ := hE
 cases hA : Lib.atoiAll s.data.toList
 ·rename_i n
  refine (Tryz.strconv_Atoi_ok s (by omega) n hA w).mono ?_
  rintro e w' ⟨rfl, hw'⟩
  have hB : Below w.heap.size w w' := by
   rcases hw' with rfl | ⟨t, rfl⟩
   ·exact Below.refl _ _
   ·exact Lib.bytesWorld_below _ _ _
  exact ⟨_, G, [], rfl, A4w hw hB, rfl, rfl, .inl ⟨n, rfl, Lib.atoiAll_bounds hA, rfl⟩⟩
 ·refine (Any.strconv_Atoi_syntax_var Tryz.laysC172 s hs hA t q w (A7e hw h1 h2)).mono ?_
  rintro e w' ⟨N, rfl, _, _, hB⟩
  exact ⟨_, G, [], rfl, A4w hw hB, rfl, rfl, .inr ⟨0, _, _, (fun m h => by cases h), ⟨by decide, by decide⟩, rfl⟩⟩
 ·refine (Any.strconv_Atoi_range_var Tryz.laysC172 s hs hA t' q' w (A7e hw h3 h4)).mono ?_
  rintro e w' ⟨N, rfl, _, _, hB⟩
  exact ⟨_, G, [], rfl, A4w hw hB, rfl, rfl, .inr ⟨_, _, _, (fun m h => by cases h), Lib.atoiSat_bounds _, rfl⟩⟩
end Gw
end Go.Proofs.YtgodjiieijekiaaGreatDoor
namespace Go.Proofs.YtgodjiieijekiaaGreatDoor
open Go Go.RowKit Go.ChangeShapes Go.WideShapes Go.ChangeAt
namespace Gw
theorem A4x : Tryz.prog.globalNamed "strconv.ErrSyntax" = some 2 := by kernel_rfl
theorem A4y : Tryz.prog.globalNamed "strconv.ErrRange" = some 3 := by kernel_rfl
theorem B0X : (Tryz.prog.globals[2]?).map (·.type) = some 177 := by kernel_rfl
theorem B0Y : (Tryz.prog.globals[3]?).map (·.type) = some 177 := by kernel_rfl
theorem A7f : Tryz.prog.cellsOf 237 = 1 := by kernel_rfl
theorem A7g : Tryz.prog.cellsOf 9 = 1 := by kernel_rfl
theorem A7h : "*" ++ "errors.errorString" = "*errors.errorString" := by decide
theorem A7i (u : TypeId) (h : Tryz.prog.typeName? 3 u = some "*errors.errorString") : u = 235 :=
 typeName_ptr_named (nm := "errors.errorString") (by rw [A7h]; kernel_rfl) (by kernel_rfl) (by decide) u (by rw [A7h]; exact h)
def A7j : List (String × DataW Unit) := [("math/bits.deBruijn32tab", Rows.laid_math_bits_deBruijn32tab), ("math/bits.deBruijn64tab", Rows.laid_math_bits_deBruijn64tab), ("internal/strconv.uint64pow10", Rows.laid_internal_strconv_uint64pow10), ("strconv.ErrRange", Rows.laid_strconv_ErrRange), ("strconv.ErrSyntax", Rows.laid_strconv_ErrSyntax)]
theorem A4z {W : World} {n : String} {g : Nat} {cs : Array Value} (hg : Tryz.prog.globalNamed n = some g) (h : W.var? Tryz.prog n = some cs) : GW W g = some cs.toList := by
 unfold World.var? at h
 rw [hg] at h
 simp only [Option.bind_some] at h
 unfold GW
 split at h
 ·rename_i c e f hb
  rw [hb]
  have := Option.some.inj h
  simp [this]
 ·cases h
theorem A7k {W : World} (h : laidMetH Tryz.prog A7j W) : A0d (GW W) ∧ V0 (GW W) := by
 have h1 : laidMet Tryz.prog A7j W := h
 have h3 := h1.tail.tail
 have ht : Lib.TabIs Tryz.prog W "internal/strconv.uint64pow10" .u64 Lib.pow10Tab :=
  Lib.tabIs_of_head A3X A9p Tryz.underlying212 Tryz.underlying194 A9r A9q h3
 obtain ⟨a0, s0, hv0, _, _, _⟩ := laid_sentinel h3.tail A4y B0Y Tryz.underlying177 A7i Tryz.underlying235 Tryz.underlying237 rfl rfl Tryz.underlying9 A7f A7g
 obtain ⟨a1, s1, hv1, _, _, _⟩ := laid_sentinel h3.tail.tail A4x B0X Tryz.underlying177 A7i Tryz.underlying235 Tryz.underlying237 rfl rfl Tryz.underlying9 A7f A7g
 refine ⟨⟨1, A3X, ?_⟩, ⟨2, _, _, A4x, A4z A4x hv1⟩, ⟨3, _, _, A4y, A4z A4y hv0⟩⟩
 have := A4z A3X ht
 simpa using this
noncomputable def A7l : Nat := (World.holding Tryz.prog default ⟨#[], #[], []⟩).heap.size
abbrev A7m : ByteArray := ⟨#[105, 110, 118, 97, 108, 105, 100, 32, 115, 121, 110, 116, 97, 120]⟩
abbrev A7n : ByteArray := ⟨#[118, 97, 108, 117, 101, 32, 111, 117, 116, 32, 111, 102, 32, 114, 97, 110, 103, 101]⟩
noncomputable def A1X (os : Os) : World :=
 { World.holding Tryz.prog os ⟨#[.cells #[.string A7m] 237, .cells #[.string A7n] 237], #[], []⟩ with
  heap := (((((World.holding Tryz.prog os ⟨#[.cells #[.string A7m] 237, .cells #[.string A7n] 237], #[], []⟩).heap.modify 1 (A03 (A1L Rows.laid_internal_strconv_uint64pow10))).modify 4 (A03 (A1L Rows.laid_math_bits_deBruijn32tab))).modify 5 (A03 (A1L Rows.laid_math_bits_deBruijn64tab))).modify 2 (A03 #[.iface 235 (.pointer (some ⟨A7l, 0, none⟩))])).modify 3 (A03 #[.iface 235 (.pointer (some ⟨A7l + 1, 0, none⟩))]) }
def A0U (V : Tm → Bool) (l : A0) (e : Tm) (ok : Bool) : Prop := (ok = true ∧ V e = true ∧ A2 e = l) ∨ (ok = false ∧ e = L4 ∧ ∀ x, V x = true → A2 x ≠ l)
theorem A0U.uniq {V : Tm → Bool} {l : A0} {e e' : Tm} {ok ok' : Bool} (hi : ∀ x y, V x = true → V y = true → A2 x = A2 y → x = y) (h : A0U V l e ok) (h' : A0U V l e' ok') : e = e' ∧ ok = ok' := by
 rcases h with ⟨a1, a2, a3⟩ | ⟨a1, a2, a3⟩ <;> rcases h' with ⟨b1, b2, b3⟩ | ⟨b1, b2, b3⟩
 ·exact ⟨hi _ _ a2 b2 (a3.trans b3.symm), a1.trans b1.symm⟩
 ·exact absurd a3 (b3 _ a2)
 ·exact absurd b3 (a3 _ b2)
 ·exact ⟨a2.trans b2.symm, a1.trans b1.symm⟩
def V6 (V : Tm → Bool) (D N : Int) : Prop := 0 ≤ D ∧ D ≤ 40 ∧ ∀ e, V e = true → M5 D N e 1 = true ∧ D1 e ≤ 200
theorem A1Y : V6 P9 12 14 := ⟨by decide, by decide, fun e h => by have := (A56 e).1 h; exact ⟨this.1, by omega⟩⟩
theorem A1Z : V6 N7 40 13 := ⟨by decide, by decide, fun e h => (A54 e).1 h⟩
theorem V6.p {V : Tm → Bool} {D N : Int} (h : V6 V D N) {e : Tm} (he : V e = true) : D2 40 (A2 e) = some (e, []) := A4o (h.2.2 e he).1 h.2.1
theorem V6.r {V : Tm → Bool} {D N : Int} (h : V6 V D N) {e : Tm} (he : V e = true) {n : Nat} (hn : D ≤ n) : D4 n (A2 e) = some (e, []) := B0G (h.2.2 e he).1 hn
theorem V6.inj {V : Tm → Bool} {D N : Int} (h : V6 V D N) : ∀ x y, V x = true → V y = true → A2 x = A2 y → x = y := fun x y hx hy he => B0H (h.2.2 x hx).1 (h.2.2 y hy).1 h.1 he
theorem V6.ne {V : Tm → Bool} {D N : Int} (h : V6 V D N) {e : Tm} (he : V e = true) : A2 e ≠ [] := fun h0 => by
 have := h.p he
 rw [h0] at this
 cases this
theorem A1z {c : UInt8} {l r : A0} (h : B9 c l = some r) : r.length + 1 = l.length := by
 cases l with
 | nil => cases h
 | cons b l =>
  rw [B9] at h
  split at h
  ·cases h; rfl
  ·cases h
theorem A4A {l : A0} {x : UInt8 × A0} (h : P3 l = some x) : x.2.length + 1 = l.length := by
 cases l with
 | nil => cases h
 | cons b l => cases h; rfl
theorem A4B : ∀ (n : Nat) (l : A0) (x : Ty × A0), J7 n l = some x → x.2.length + 1 ≤ l.length := by
 intro n
 induction n with
 | zero => intro l x h; cases h
 | succ n ih =>
  intro l x h
  cases l with
  | nil => cases h
  | cons b r =>
   rw [J7] at h
   split at h
   ·cases h; simp
   split at h
   ·cases h; simp
   split at h
   ·cases h; simp
   split at h
   ·simp only [Option.bind_eq_some_iff, Option.ite_none_right_eq_some, Option.map_eq_some_iff] at h
    obtain ⟨y, h1, o, h2, z, h3, _, w, h5, rfl⟩ := h
    have := ih _ _ h1
    have := A4A h2
    have := ih _ _ h3
    have := A1z h5
    simp only [List.length_cons]; omega
   ·cases h
theorem A7o : ∀ l : A0, M1 l ≤ l.length
 | [] => Nat.le_refl _
 | c :: r => by rw [M1]; split; have := A7o r; simp only [List.length_cons]; omega; exact Nat.zero_le _
theorem A4C {l : A0} {x : Int × A0} (h : X1 l = some x) : x.2.length + 1 ≤ l.length := by
 unfold X1 at h
 simp only at h
 split at h
 ·cases h
 ·rename_i hm
  cases h
  have h1 := A7o (l.take 4)
  rw [List.length_take] at h1
  rw [List.length_drop]
  have : ¬M1 (l.take 4) = 0 := fun h => hm (.inl h)
  omega
def A2B (f : A0 → Option (Tm × A0)) : Prop := ∀ l x, f l = some x → D1 x.1 + x.2.length ≤ l.length
theorem A3g {f : A0 → Option (Tm × A0)} (hf : A2B f) : ∀ (cs l : A0) (x : List Tm × A0), P4 f cs l = some x → F8 x.1 + x.2.length ≤ l.length
 | [], l, x, h => by rw [P4] at h; cases h; simp [F8]
 | c :: cs, l, x, h => by
  rw [P4] at h
  simp only [Option.bind_eq_some_iff, Option.map_eq_some_iff] at h
  obtain ⟨y, h1, r, h2, z, h3, rfl⟩ := h
  have := hf _ _ h1
  have := A1z h2
  have := A3g hf cs r z h3
  simp only [F8]; omega
theorem B0Z {f : A0 → Option (Tm × A0)} (hf : A2B f) {l : A0} {x : Tm × A0} (h : U9 f l = some x) : D1 x.1 + x.2.length ≤ l.length := by
 unfold U9 at h
 simp only [Option.bind_eq_some_iff, Option.map_eq_some_iff] at h
 obtain ⟨y, h1, r, h2, t, h3, r2, h4, z, h5, rfl⟩ := h
 have := A4A h1
 have := A1z h2
 have := A4B _ _ _ h3
 have := A1z h4
 have := hf _ _ h5
 simp only [D1, F8]; omega
theorem B00 {a : Tm} {t : Ty} {l : A0} {x : Tm × A0} (h : U1 a t l = some x) : D1 x.1 + x.2.length ≤ l.length + D1 a := by
 unfold U1 at h
 simp only [Option.bind_eq_some_iff] at h
 obtain ⟨u, h1, r, h2, h3⟩ := h
 have := A4B _ _ _ h1
 have := A1z h2
 split at h3
 ·cases h3
 split at h3
 ·simp only [Option.bind_eq_some_iff, Option.map_eq_some_iff] at h3
  obtain ⟨m, h4, r3, h5, rfl⟩ := h3
  have := A4C h4
  have := A1z h5
  have : r.tail.length ≤ r.length := by rw [List.length_tail]; omega
  simp only [D1, F8]; omega
 ·simp only [Option.bind_eq_some_iff, Option.map_eq_some_iff] at h3
  obtain ⟨m, h4, r3, h5, rfl⟩ := h3
  have := A4C h4
  have := A1z h5
  simp only [D1, F8]; omega
theorem B01 {f : A0 → Option (Tm × A0)} (hf : A2B f) {l : A0} {x : Tm × A0} (h : S5 f l = some x) : D1 x.1 + x.2.length ≤ l.length := by
 unfold S5 at h
 simp only [Option.bind_eq_some_iff] at h
 obtain ⟨a, h1, o, h2, h3⟩ := h
 have ha := hf _ _ h1
 have ho := A4A h2
 have hb : ∀ k, A0T f k a.1 o.2 = some x → D1 x.1 + x.2.length ≤ l.length := fun k hk => by
  unfold A0T at hk
  simp only [Option.map_eq_some_iff] at hk
  obtain ⟨y, h4, rfl⟩ := hk
  have := A3g hf _ _ _ h4
  simp only [nd, D1, F8]; omega
 split at h3
 ·exact hb _ h3
 split at h3
 ·exact hb _ h3
 split at h3
 ·exact hb _ h3
 split at h3
 ·unfold X2 at h3
  simp only [Option.bind_eq_some_iff] at h3
  obtain ⟨t, h4, h5⟩ := h3
  have := A4B _ _ _ h4
  have htl : t.2.tail.length ≤ t.2.length := by rw [List.length_tail]; omega
  split at h5
  ·cases h5; simp only [D1, F8]; omega
  split at h5
  ·have := B00 h5; omega
  ·cases h5
 ·cases h3
theorem A7p {f : A0 → Option (Tm × A0)} (hf : A2B f) {k : Int} {l : A0} {x : Tm × A0} (h : Q8 f k l = some x) : D1 x.1 + x.2.length ≤ l.length + 1 := by
 unfold Q8 at h
 simp only [Option.map_eq_some_iff] at h
 obtain ⟨y, h1, rfl⟩ := h
 have := hf _ _ h1
 simp only [nd, D1, F8]; omega
theorem A7q : ∀ n, A2B (D4 n) := by
 intro n
 induction n with
 | zero => intro l x h; cases h
 | succ n ih =>
  intro l x h
  cases l with
  | nil => cases h
  | cons b r =>
   rw [D4] at h
   simp only [List.length_cons]
   split at h
   ·cases h; simp only [nd, D1, F8]; omega
   split at h
   ·cases h; simp only [nd, D1, F8]; omega
   split at h
   ·have := B0Z ih h; omega
   split at h
   ·have := B01 ih h; omega
   split at h
   ·simp only [Option.map_eq_some_iff] at h
    obtain ⟨y, h1, rfl⟩ := h
    have := A3g ih _ _ _ h1
    simp only [nd, D1]; omega
   split at h
   ·simp only [Option.map_eq_some_iff] at h
    obtain ⟨y, h1, rfl⟩ := h
    have := A3g ih _ _ _ h1
    simp only [nd, D1]; omega
   split at h
   ·have := A7p ih h; omega
   split at h
   ·have := A7p ih h; omega
   split at h
   ·cases h; simp only [D1, F8]; omega
   ·simp only [Option.map_eq_some_iff] at h
    obtain ⟨y, h1, rfl⟩ := h
    have := A4C h1
    simp only [List.length_cons] at this
    simp only [D1, F8]; omega
theorem A4D : ∀ {r : A0} {i : Nat}, i ≤ M1 r → (hi : i < r.length) → D3 r[i] → i + 1 ≤ M1 r
 | [], i, _, hi, _ => by simp at hi
 | c :: r, 0, _, _, h => by
  have h : D3 c := h
  rw [M1, if_pos h]; omega
 | c :: r, i + 1, h, hi, hd => by
  rw [M1] at h ⊢
  split at h
  ·rename_i hc
   rw [if_pos hc]
   have := A4D (r := r) (i := i) (by omega) (by simpa using hi) (by simpa using hd)
   omega
  ·omega
theorem A4E : ∀ {r : A0} {i : Nat}, i ≤ M1 r → (∀ hi : i < r.length, ¬D3 r[i]) → i = M1 r
 | [], i, h, _ => by rw [M1] at h ⊢; omega
 | c :: r, 0, _, h => by
  have h : ¬D3 c := h (by simp)
  rw [M1, if_neg h]
 | c :: r, i + 1, h, hd => by
  rw [M1] at h ⊢
  split at h
  ·rename_i hc
   rw [if_pos hc]
   have := A4E (r := r) (i := i) (by omega) (fun hi => hd (by rw [List.length_cons]; omega))
   omega
  ·omega
theorem A7r {l : A0} {i : Nat} (h : i ≤ L5 l) (hi : i < l.length) (hc : D3 l[i] ∨ (i = 0 ∧ l[i] = 45)) : i + 1 ≤ L5 l := by
 cases l with
 | nil => simp at hi
 | cons c r =>
  cases i with
  | zero =>
   have hc : D3 c ∨ c = 45 := hc.imp id (fun h => h.2)
   rw [L5, if_pos hc]; omega
  | succ i =>
   rw [L5] at h ⊢
   split at h
   ·rename_i h1
    rw [if_pos h1]
    have := A4D (r := r) (i := i) (by omega) (by simpa using hi) (by rcases hc with hc | ⟨hc, _⟩; exact (by simpa using hc); omega)
    omega
   ·omega
theorem A2C {l : A0} {i : Nat} (h : i ≤ L5 l) (hc : ∀ hi : i < l.length, ¬(D3 l[i] ∨ (i = 0 ∧ l[i] = 45))) : i = L5 l := by
 cases l with
 | nil => rw [L5] at h ⊢; omega
 | cons c r =>
  cases i with
  | zero =>
   have hc : ¬(D3 c ∨ c = 45) := fun h => hc (by simp) (h.imp id (fun h => ⟨rfl, h⟩))
   rw [L5, if_neg hc]
  | succ i =>
   rw [L5] at h ⊢
   split at h
   ·rename_i h1
    rw [if_pos h1]
    have := A4E (r := r) (i := i) (by omega) (fun hi hd => hc (by simpa using hi) (.inl (by simpa using hd)))
    omega
   ·omega
theorem A4F : ∀ l : A0, M1 l ≤ l.length
 | [] => Nat.le_refl _
 | c :: r => by rw [M1]; split; have := A4F r; simp only [List.length_cons]; omega; exact Nat.zero_le _
theorem B02 (l : A0) : L5 l ≤ l.length := by
 cases l with
 | nil => exact Nat.le_refl _
 | cons c r => rw [L5]; split; have := A4F r; simp only [List.length_cons]; omega; exact Nat.zero_le _
theorem A2D {l : A0} {i : Nat} (h : i < l.length) : (A9 l)[((i : Nat) : Int).toNat]? = some l[i] := by
 show (A9 l)[i]? = some l[i]
 rw [getElem?_pos (A9 l) i (by rw [I9]; exact h)]
 rfl
theorem A2E (l : A0) (i : Nat) : (A9 l).extract 0 i = A9 (l.take i) := by rw [A0w]; simp
theorem S6 (l : A0) (i : Nat) : (A9 l).extract i (A9 l).size = A9 (l.drop i) := by
 rw [A0w, I9, List.take_of_length_le]
 rw [List.length_drop]; omega
theorem A0z {l : A0} {n : Int} (h : Lib.atoiAll (l.take (L5 l)) = .ok n) : U0 l = some (n, l.drop (L5 l)) := by unfold U0; rw [h]
theorem A0A {l : A0} (h : ∀ m, Lib.atoiAll (l.take (L5 l)) ≠ .ok m) : U0 l = none := by
 unfold U0
 split
 ·rename_i v hv; exact absurd hv (h v)
 ·rfl
def A7s (b : Nat) (m : Option (Int × A0)) (G : IM) : IM → Value → List A1 → Prop := fun G' v outs => G' = G ∧ ∃ cs' n, outs = [.blk b cs'] ∧ O4 (m.map Prod.snd) cs' ∧ v = .int .i64 n ∧ F1 n ∧ ∀ x, m = some x → n = x.1
theorem A7t (b : Nat) (l : A0) (bad : Bool) (G : IM) (hE : V0 G) (hl : l.length ≤ 4294967296) : Fn Tryz.prog 151 [.pointer (some ⟨b, 0, none⟩)] [.blk b [.string (A9 l), .bool bad]] G (A7s b (if bad = true then none else U0 l) G) := by
 have hnl := B02 l
 refine B3 Tryz.func151 rfl Tryz.ntmps151 Tryz.results151 rfl ?_
 intro w0
 refine D7 ?_
 refine D0 ?_
 (refine O9 (fun (i : Nat) => ⟨[(3, .int .i64 (i : Int)), (0, .pointer (some ⟨b, 0, none⟩))], [.blk b [.string (A9 l), .bool bad]], G⟩) (fun i => i ≤ L5 l) (fun i => L5 l - i) 0 ?_ ?_ ?_)
 exact I6
 (exact Nat.zero_le _)
 (rintro (i : Nat) hi; replace hi : i ≤ L5 l := hi; have hbs := I9 l)
 refine tS (tS (tR (sQ (qM rfl) rfl (sQ (qM rfl) rfl ?_))))
 refine sQ (A6 rfl) rfl ?_
 refine sQ (A4 rfl) rfl (sL (C2 rfl rfl) rfl rfl ?_)
 refine sQ (M6 rfl rfl) rfl (sB (N2 rfl rfl) rfl rfl (fun h26 => ?_) (fun h26 => ?_))
 refine sQ (qM rfl) rfl (sQ (qM rfl) rfl ?_)
 refine sQ (A6 rfl) rfl ?_
 refine F5 ?_
 (have hil : i < l.length := (by omega); refine sP (N3 rfl rfl rfl (by omega) (A2D hil)) rfl rfl ?_)
 refine sB (Q2 rfl rfl) rfl rfl (fun h34 => ?_) (fun h34 => ?_)
 refine sQ (qM rfl) rfl (sQ (qM rfl) rfl ?_)
 refine sQ (A6 rfl) rfl ?_
 refine F5 ?_
 (have hil : i < l.length := (by omega); refine sP (N3 rfl rfl rfl (by omega) (A2D hil)) rfl rfl ?_)
 refine sB (S8 rfl rfl) rfl rfl (fun h42 => ?_) (fun h42 => ?_)
 refine X8 ?_
 refine D0 ?_
 refine tR (sQ (qM rfl) rfl ?_)
 refine sP (J5 (n := 1) rfl rfl (by omega)) rfl rfl ?_
 refine sQ (qA rfl) rfl (sD (A1k ?_))
 (have hgo := A7r hi hil (by unfold D3; first | (left; omega) | (right; exact ⟨by omega, E0 (b := 45) (by show _ = (45 : Int); omega)⟩)); refine P6 (i + 1) ?_ ?_ ?_)
 exact I6
 (show i + 1 ≤ L5 l; omega)
 (show L5 l - (i + 1) < L5 l - i; omega)
 refine sQ (I4 rfl rfl) rfl (sQ (qM rfl) rfl (sQ (qM rfl) rfl ?_))
 refine sB (qE rfl rfl) rfl rfl (fun h77 => ?_) (fun h77 => ?_)
 refine sQ (qM rfl) rfl (sQ (qM rfl) rfl ?_)
 refine sQ (A6 rfl) rfl ?_
 refine F5 ?_
 (have hil : i < l.length := (by omega); refine sP (N3 rfl rfl rfl (by omega) (A2D hil)) rfl rfl ?_)
 refine sP (I1 rfl rfl (by omega)) rfl rfl ?_
 refine S2 ?_
 refine sQ (A6 rfl) rfl ?_
 refine F5 ?_
 (obtain rfl : i = L5 l := A2C hi (by unfold D3; intro hil2 hc; rcases hc with hc | ⟨hc, hc2⟩; omega; (have hx : (l[i].toNat : Int) = 45 := (by rw [hc2]; rfl); omega)); refine sP (A2s rfl rfl rfl (by omega)) rfl rfl ?_; rw [A2E])
 (refine H7 rfl (A2A (A9 (l.take (L5 l))) G hE (by rw [I9, List.length_take]; omega)) (List.Perm.refl _) rfl rfl (fun v G1 outs hle1 hh => ?_); obtain ⟨hG, rfl, hv⟩ := hh; replace hG := hG.symm; subst hG; rcases hv with ⟨nv, hok, hI, rfl⟩ | ⟨nv, tv, qv, hno, hI, rfl⟩)
 refine C6 ?_
 (cases bad <;> refine K7 K9 rfl ?_)
 refine I0 (i := 0) (l' := [tt,ff,ff,ff,ff,ff,ff,ff,ff,ff,ff,ff,ff,ff,ff,ff,ff,ff,ff,ff,ff,ff]) rfl E9 (qM rfl) rfl (by kernel_rfl) rfl rfl ?_
 refine aP 1 rfl (qM rfl) rfl ?_
 refine aP 2 rfl (qM rfl) rfl ?_
 refine aP 3 rfl (A6 rfl) rfl ?_
 refine aP 4 rfl (A4 rfl) rfl ?_
 refine aL 5 rfl (C2 rfl rfl) rfl ?_
 refine aP 6 rfl (qM rfl) rfl ?_
 refine aP 7 rfl (R8 rfl rfl rfl (by omega)) rfl ?_
 refine aP 8 rfl (qM rfl) rfl ?_
 refine aP 9 rfl (A6 rfl) rfl ?_
 refine aP 10 rfl (A4 rfl) rfl ?_
 refine aL 11 rfl (C2 rfl rfl) rfl ?_
 refine aP 12 rfl (qM rfl) rfl ?_
 refine aP 13 rfl (qM rfl) rfl ?_
 refine aP 14 rfl (A2z A0y rfl) rfl ?_
 refine aP 15 rfl (L7 rfl rfl) rfl ?_
 refine aP 16 rfl (A6 rfl) rfl ?_
 refine aP 17 rfl (A4 rfl) rfl ?_
 refine B6 18 ?_
 refine R1 rfl ?_
 refine aP 19 rfl (A6 rfl) rfl ?_
 refine aP 20 rfl (A4 rfl) rfl ?_
 refine B6 21 ?_
 refine Q3 rfl rfl rfl rfl rfl rfl rfl rfl (by decide +kernel) (by repeat first | exact Sw.here | apply Sw.there) (by rfl) ?_
 refine C1 ?_
 refine C8 (rT rfl) (.cons (by repeat (first | exact Pk.here | apply Pk.there)) .nil) ?_
 (rw [S6]; exact ⟨rfl, _, nv, rfl, by rw [if_neg (by simp), A0z hok]; exact .yes (by rw [List.length_drop]; omega), rfl, hI, fun x hx => by rw [if_neg (by simp), A0z hok] at hx; cases hx; rfl⟩)
 refine I0 (i := 0) (l' := [tt,ff,ff,ff,ff,ff,ff,ff,ff,ff,ff,ff,ff,ff,ff,ff,ff,ff,ff,ff,ff,ff]) rfl E9 (qM rfl) rfl (by kernel_rfl) rfl rfl ?_
 refine aP 1 rfl (qM rfl) rfl ?_
 refine aP 2 rfl (qM rfl) rfl ?_
 refine aP 3 rfl (A6 rfl) rfl ?_
 refine aP 4 rfl (A4 rfl) rfl ?_
 refine aL 5 rfl (C2 rfl rfl) rfl ?_
 refine aP 6 rfl (qM rfl) rfl ?_
 refine aP 7 rfl (R8 rfl rfl rfl (by omega)) rfl ?_
 refine aP 8 rfl (qM rfl) rfl ?_
 refine aP 9 rfl (A6 rfl) rfl ?_
 refine aP 10 rfl (A4 rfl) rfl ?_
 refine aL 11 rfl (C2 rfl rfl) rfl ?_
 refine aP 12 rfl (qM rfl) rfl ?_
 refine A5 13 rfl rfl rfl ?_
 refine A5 14 rfl rfl rfl ?_
 refine aP 15 rfl (I4 rfl rfl) rfl ?_
 refine aP 16 rfl (A6 rfl) rfl ?_
 refine aP 17 rfl (A4 rfl) rfl ?_
 refine B6 18 ?_
 refine R1 rfl ?_
 refine aP 19 rfl (A6 rfl) rfl ?_
 refine aP 20 rfl (A4 rfl) rfl ?_
 refine B6 21 ?_
 refine Q3 rfl rfl rfl rfl rfl rfl rfl rfl (by decide +kernel) (by repeat first | exact Sw.here | apply Sw.there) (by rfl) ?_
 refine C1 ?_
 refine C8 (rT rfl) (.cons (by repeat (first | exact Pk.here | apply Pk.there)) .nil) ?_
 (rw [S6]; exact ⟨rfl, _, nv, rfl, .no (by rw [I9, List.length_drop]; omega), rfl, hI, fun x hx => by cases hx⟩)
 refine C6 ?_
 (cases bad <;> refine K7 K9 rfl ?_)
 refine I0 (i := 0) (l' := [tt,ff,ff,ff,ff,ff,ff,ff,ff,ff,ff,ff,ff,ff,ff,ff,ff,ff,ff,ff,ff,ff]) rfl E9 (qM rfl) rfl (by kernel_rfl) rfl rfl ?_
 refine aP 1 rfl (qM rfl) rfl ?_
 refine aP 2 rfl (qM rfl) rfl ?_
 refine aP 3 rfl (A6 rfl) rfl ?_
 refine aP 4 rfl (A4 rfl) rfl ?_
 refine aL 5 rfl (C2 rfl rfl) rfl ?_
 refine aP 6 rfl (qM rfl) rfl ?_
 refine aP 7 rfl (R8 rfl rfl rfl (by omega)) rfl ?_
 refine aP 8 rfl (qM rfl) rfl ?_
 refine aP 9 rfl (A6 rfl) rfl ?_
 refine aP 10 rfl (A4 rfl) rfl ?_
 refine aL 11 rfl (C2 rfl rfl) rfl ?_
 refine aP 12 rfl (qM rfl) rfl ?_
 refine aP 13 rfl (qM rfl) rfl ?_
 refine aP 14 rfl (A2y A0y rfl rfl) rfl ?_
 refine aP 15 rfl (L7 rfl rfl) rfl ?_
 refine aP 16 rfl (A6 rfl) rfl ?_
 refine aP 17 rfl (A4 rfl) rfl ?_
 refine B6 18 ?_
 refine R1 rfl ?_
 refine aP 19 rfl (A6 rfl) rfl ?_
 refine aP 20 rfl (A4 rfl) rfl ?_
 refine B6 21 ?_
 refine Q3 rfl rfl rfl rfl rfl rfl rfl rfl (by decide +kernel) (by repeat first | exact Sw.here | apply Sw.there) (by rfl) ?_
 refine C1 ?_
 refine C8 (rT rfl) (.cons (by repeat (first | exact Pk.here | apply Pk.there)) .nil) ?_
 (rw [S6]; exact ⟨rfl, _, nv, rfl, by rw [if_neg (by simp), A0A hno]; exact .no (by rw [I9, List.length_drop]; omega), rfl, hI, fun x hx => by rw [if_neg (by simp), A0A hno] at hx; cases hx⟩)
 refine I0 (i := 0) (l' := [tt,ff,ff,ff,ff,ff,ff,ff,ff,ff,ff,ff,ff,ff,ff,ff,ff,ff,ff,ff,ff,ff]) rfl E9 (qM rfl) rfl (by kernel_rfl) rfl rfl ?_
 refine aP 1 rfl (qM rfl) rfl ?_
 refine aP 2 rfl (qM rfl) rfl ?_
 refine aP 3 rfl (A6 rfl) rfl ?_
 refine aP 4 rfl (A4 rfl) rfl ?_
 refine aL 5 rfl (C2 rfl rfl) rfl ?_
 refine aP 6 rfl (qM rfl) rfl ?_
 refine aP 7 rfl (R8 rfl rfl rfl (by omega)) rfl ?_
 refine aP 8 rfl (qM rfl) rfl ?_
 refine aP 9 rfl (A6 rfl) rfl ?_
 refine aP 10 rfl (A4 rfl) rfl ?_
 refine aL 11 rfl (C2 rfl rfl) rfl ?_
 refine aP 12 rfl (qM rfl) rfl ?_
 refine A5 13 rfl rfl rfl ?_
 refine A5 14 rfl rfl rfl ?_
 refine aP 15 rfl (I4 rfl rfl) rfl ?_
 refine aP 16 rfl (A6 rfl) rfl ?_
 refine aP 17 rfl (A4 rfl) rfl ?_
 refine B6 18 ?_
 refine R1 rfl ?_
 refine aP 19 rfl (A6 rfl) rfl ?_
 refine aP 20 rfl (A4 rfl) rfl ?_
 refine B6 21 ?_
 refine Q3 rfl rfl rfl rfl rfl rfl rfl rfl (by decide +kernel) (by repeat first | exact Sw.here | apply Sw.there) (by rfl) ?_
 refine C1 ?_
 refine C8 (rT rfl) (.cons (by repeat (first | exact Pk.here | apply Pk.there)) .nil) ?_
 (rw [S6]; exact ⟨rfl, _, nv, rfl, .no (by rw [I9, List.length_drop]; omega), rfl, hI, fun x hx => by cases hx⟩)
 refine A2i ?_
 refine sQ (A6 rfl) rfl ?_
 refine F5 ?_
 (obtain rfl : i = L5 l := A2C hi (by unfold D3; intro hil2 hc; rcases hc with hc | ⟨hc, hc2⟩; omega; (have hx : (l[i].toNat : Int) = 45 := (by rw [hc2]; rfl); omega)); refine sP (A2s rfl rfl rfl (by omega)) rfl rfl ?_; rw [A2E])
 (refine H7 rfl (A2A (A9 (l.take (L5 l))) G hE (by rw [I9, List.length_take]; omega)) (List.Perm.refl _) rfl rfl (fun v G1 outs hle1 hh => ?_); obtain ⟨hG, rfl, hv⟩ := hh; replace hG := hG.symm; subst hG; rcases hv with ⟨nv, hok, hI, rfl⟩ | ⟨nv, tv, qv, hno, hI, rfl⟩)
 refine C6 ?_
 (cases bad <;> refine K7 K9 rfl ?_)
 refine I0 (i := 0) (l' := [tt,ff,ff,ff,ff,ff,ff,ff,ff,ff,ff,ff,ff,ff,ff,ff,ff,ff,ff,ff,ff,ff]) rfl E9 (qM rfl) rfl (by kernel_rfl) rfl rfl ?_
 refine aP 1 rfl (qM rfl) rfl ?_
 refine aP 2 rfl (qM rfl) rfl ?_
 refine aP 3 rfl (A6 rfl) rfl ?_
 refine aP 4 rfl (A4 rfl) rfl ?_
 refine aL 5 rfl (C2 rfl rfl) rfl ?_
 refine aP 6 rfl (qM rfl) rfl ?_
 refine aP 7 rfl (R8 rfl rfl rfl (by omega)) rfl ?_
 refine aP 8 rfl (qM rfl) rfl ?_
 refine aP 9 rfl (A6 rfl) rfl ?_
 refine aP 10 rfl (A4 rfl) rfl ?_
 refine aL 11 rfl (C2 rfl rfl) rfl ?_
 refine aP 12 rfl (qM rfl) rfl ?_
 refine aP 13 rfl (qM rfl) rfl ?_
 refine aP 14 rfl (A2z A0y rfl) rfl ?_
 refine aP 15 rfl (L7 rfl rfl) rfl ?_
 refine aP 16 rfl (A6 rfl) rfl ?_
 refine aP 17 rfl (A4 rfl) rfl ?_
 refine B6 18 ?_
 refine R1 rfl ?_
 refine aP 19 rfl (A6 rfl) rfl ?_
 refine aP 20 rfl (A4 rfl) rfl ?_
 refine B6 21 ?_
 refine Q3 rfl rfl rfl rfl rfl rfl rfl rfl (by decide +kernel) (by repeat first | exact Sw.here | apply Sw.there) (by rfl) ?_
 refine C1 ?_
 refine C8 (rT rfl) (.cons (by repeat (first | exact Pk.here | apply Pk.there)) .nil) ?_
 (rw [S6]; exact ⟨rfl, _, nv, rfl, by rw [if_neg (by simp), A0z hok]; exact .yes (by rw [List.length_drop]; omega), rfl, hI, fun x hx => by rw [if_neg (by simp), A0z hok] at hx; cases hx; rfl⟩)
 refine I0 (i := 0) (l' := [tt,ff,ff,ff,ff,ff,ff,ff,ff,ff,ff,ff,ff,ff,ff,ff,ff,ff,ff,ff,ff,ff]) rfl E9 (qM rfl) rfl (by kernel_rfl) rfl rfl ?_
 refine aP 1 rfl (qM rfl) rfl ?_
 refine aP 2 rfl (qM rfl) rfl ?_
 refine aP 3 rfl (A6 rfl) rfl ?_
 refine aP 4 rfl (A4 rfl) rfl ?_
 refine aL 5 rfl (C2 rfl rfl) rfl ?_
 refine aP 6 rfl (qM rfl) rfl ?_
 refine aP 7 rfl (R8 rfl rfl rfl (by omega)) rfl ?_
 refine aP 8 rfl (qM rfl) rfl ?_
 refine aP 9 rfl (A6 rfl) rfl ?_
 refine aP 10 rfl (A4 rfl) rfl ?_
 refine aL 11 rfl (C2 rfl rfl) rfl ?_
 refine aP 12 rfl (qM rfl) rfl ?_
 refine A5 13 rfl rfl rfl ?_
 refine A5 14 rfl rfl rfl ?_
 refine aP 15 rfl (I4 rfl rfl) rfl ?_
 refine aP 16 rfl (A6 rfl) rfl ?_
 refine aP 17 rfl (A4 rfl) rfl ?_
 refine B6 18 ?_
 refine R1 rfl ?_
 refine aP 19 rfl (A6 rfl) rfl ?_
 refine aP 20 rfl (A4 rfl) rfl ?_
 refine B6 21 ?_
 refine Q3 rfl rfl rfl rfl rfl rfl rfl rfl (by decide +kernel) (by repeat first | exact Sw.here | apply Sw.there) (by rfl) ?_
 refine C1 ?_
 refine C8 (rT rfl) (.cons (by repeat (first | exact Pk.here | apply Pk.there)) .nil) ?_
 (rw [S6]; exact ⟨rfl, _, nv, rfl, .no (by rw [I9, List.length_drop]; omega), rfl, hI, fun x hx => by cases hx⟩)
 refine C6 ?_
 (cases bad <;> refine K7 K9 rfl ?_)
 refine I0 (i := 0) (l' := [tt,ff,ff,ff,ff,ff,ff,ff,ff,ff,ff,ff,ff,ff,ff,ff,ff,ff,ff,ff,ff,ff]) rfl E9 (qM rfl) rfl (by kernel_rfl) rfl rfl ?_
 refine aP 1 rfl (qM rfl) rfl ?_
 refine aP 2 rfl (qM rfl) rfl ?_
 refine aP 3 rfl (A6 rfl) rfl ?_
 refine aP 4 rfl (A4 rfl) rfl ?_
 refine aL 5 rfl (C2 rfl rfl) rfl ?_
 refine aP 6 rfl (qM rfl) rfl ?_
 refine aP 7 rfl (R8 rfl rfl rfl (by omega)) rfl ?_
 refine aP 8 rfl (qM rfl) rfl ?_
 refine aP 9 rfl (A6 rfl) rfl ?_
 refine aP 10 rfl (A4 rfl) rfl ?_
 refine aL 11 rfl (C2 rfl rfl) rfl ?_
 refine aP 12 rfl (qM rfl) rfl ?_
 refine aP 13 rfl (qM rfl) rfl ?_
 refine aP 14 rfl (A2y A0y rfl rfl) rfl ?_
 refine aP 15 rfl (L7 rfl rfl) rfl ?_
 refine aP 16 rfl (A6 rfl) rfl ?_
 refine aP 17 rfl (A4 rfl) rfl ?_
 refine B6 18 ?_
 refine R1 rfl ?_
 refine aP 19 rfl (A6 rfl) rfl ?_
 refine aP 20 rfl (A4 rfl) rfl ?_
 refine B6 21 ?_
 refine Q3 rfl rfl rfl rfl rfl rfl rfl rfl (by decide +kernel) (by repeat first | exact Sw.here | apply Sw.there) (by rfl) ?_
 refine C1 ?_
 refine C8 (rT rfl) (.cons (by repeat (first | exact Pk.here | apply Pk.there)) .nil) ?_
 (rw [S6]; exact ⟨rfl, _, nv, rfl, by rw [if_neg (by simp), A0A hno]; exact .no (by rw [I9, List.length_drop]; omega), rfl, hI, fun x hx => by rw [if_neg (by simp), A0A hno] at hx; cases hx⟩)
 refine I0 (i := 0) (l' := [tt,ff,ff,ff,ff,ff,ff,ff,ff,ff,ff,ff,ff,ff,ff,ff,ff,ff,ff,ff,ff,ff]) rfl E9 (qM rfl) rfl (by kernel_rfl) rfl rfl ?_
 refine aP 1 rfl (qM rfl) rfl ?_
 refine aP 2 rfl (qM rfl) rfl ?_
 refine aP 3 rfl (A6 rfl) rfl ?_
 refine aP 4 rfl (A4 rfl) rfl ?_
 refine aL 5 rfl (C2 rfl rfl) rfl ?_
 refine aP 6 rfl (qM rfl) rfl ?_
 refine aP 7 rfl (R8 rfl rfl rfl (by omega)) rfl ?_
 refine aP 8 rfl (qM rfl) rfl ?_
 refine aP 9 rfl (A6 rfl) rfl ?_
 refine aP 10 rfl (A4 rfl) rfl ?_
 refine aL 11 rfl (C2 rfl rfl) rfl ?_
 refine aP 12 rfl (qM rfl) rfl ?_
 refine A5 13 rfl rfl rfl ?_
 refine A5 14 rfl rfl rfl ?_
 refine aP 15 rfl (I4 rfl rfl) rfl ?_
 refine aP 16 rfl (A6 rfl) rfl ?_
 refine aP 17 rfl (A4 rfl) rfl ?_
 refine B6 18 ?_
 refine R1 rfl ?_
 refine aP 19 rfl (A6 rfl) rfl ?_
 refine aP 20 rfl (A4 rfl) rfl ?_
 refine B6 21 ?_
 refine Q3 rfl rfl rfl rfl rfl rfl rfl rfl (by decide +kernel) (by repeat first | exact Sw.here | apply Sw.there) (by rfl) ?_
 refine C1 ?_
 refine C8 (rT rfl) (.cons (by repeat (first | exact Pk.here | apply Pk.there)) .nil) ?_
 (rw [S6]; exact ⟨rfl, _, nv, rfl, .no (by rw [I9, List.length_drop]; omega), rfl, hI, fun x hx => by cases hx⟩)
 refine D7 ?_
 refine sB (qE rfl rfl) rfl rfl (fun h461 => ?_) (fun h461 => ?_)
 refine sQ (qM rfl) rfl (sQ (qM rfl) rfl ?_)
 refine sQ (A6 rfl) rfl ?_
 refine F5 ?_
 (have hil : i < l.length := (by omega); refine sP (N3 rfl rfl rfl (by omega) (A2D hil)) rfl rfl ?_)
 refine sB (qE rfl rfl) rfl rfl (fun h469 => ?_) (fun h469 => ?_)
 refine C6 ?_
 refine D0 ?_
 refine tR (sQ (qM rfl) rfl ?_)
 refine sP (J5 (n := 1) rfl rfl (by omega)) rfl rfl ?_
 refine sQ (qA rfl) rfl (sD (A1k ?_))
 (have hgo := A7r hi hil (by unfold D3; first | (left; omega) | (right; exact ⟨by omega, E0 (b := 45) (by show _ = (45 : Int); omega)⟩)); refine P6 (i + 1) ?_ ?_ ?_)
 exact I6
 (show i + 1 ≤ L5 l; omega)
 (show L5 l - (i + 1) < L5 l - i; omega)
 refine S2 ?_
 refine sQ (A6 rfl) rfl ?_
 refine F5 ?_
 (obtain rfl : i = L5 l := A2C hi (by unfold D3; intro hil2 hc; rcases hc with hc | ⟨hc, hc2⟩; omega; (have hx : (l[i].toNat : Int) = 45 := (by rw [hc2]; rfl); omega)); refine sP (A2s rfl rfl rfl (by omega)) rfl rfl ?_; rw [A2E])
 (refine H7 rfl (A2A (A9 (l.take (L5 l))) G hE (by rw [I9, List.length_take]; omega)) (List.Perm.refl _) rfl rfl (fun v G1 outs hle1 hh => ?_); obtain ⟨hG, rfl, hv⟩ := hh; replace hG := hG.symm; subst hG; rcases hv with ⟨nv, hok, hI, rfl⟩ | ⟨nv, tv, qv, hno, hI, rfl⟩)
 refine C6 ?_
 (cases bad <;> refine K7 K9 rfl ?_)
 refine I0 (i := 0) (l' := [tt,ff,ff,ff,ff,ff,ff,ff,ff,ff,ff,ff,ff,ff,ff,ff,ff,ff,ff,ff,ff,ff]) rfl E9 (qM rfl) rfl (by kernel_rfl) rfl rfl ?_
 refine aP 1 rfl (qM rfl) rfl ?_
 refine aP 2 rfl (qM rfl) rfl ?_
 refine aP 3 rfl (A6 rfl) rfl ?_
 refine aP 4 rfl (A4 rfl) rfl ?_
 refine aL 5 rfl (C2 rfl rfl) rfl ?_
 refine aP 6 rfl (qM rfl) rfl ?_
 refine aP 7 rfl (R8 rfl rfl rfl (by omega)) rfl ?_
 refine aP 8 rfl (qM rfl) rfl ?_
 refine aP 9 rfl (A6 rfl) rfl ?_
 refine aP 10 rfl (A4 rfl) rfl ?_
 refine aL 11 rfl (C2 rfl rfl) rfl ?_
 refine aP 12 rfl (qM rfl) rfl ?_
 refine aP 13 rfl (qM rfl) rfl ?_
 refine aP 14 rfl (A2z A0y rfl) rfl ?_
 refine aP 15 rfl (L7 rfl rfl) rfl ?_
 refine aP 16 rfl (A6 rfl) rfl ?_
 refine aP 17 rfl (A4 rfl) rfl ?_
 refine B6 18 ?_
 refine R1 rfl ?_
 refine aP 19 rfl (A6 rfl) rfl ?_
 refine aP 20 rfl (A4 rfl) rfl ?_
 refine B6 21 ?_
 refine Q3 rfl rfl rfl rfl rfl rfl rfl rfl (by decide +kernel) (by repeat first | exact Sw.here | apply Sw.there) (by rfl) ?_
 refine C1 ?_
 refine C8 (rT rfl) (.cons (by repeat (first | exact Pk.here | apply Pk.there)) .nil) ?_
 (rw [S6]; exact ⟨rfl, _, nv, rfl, by rw [if_neg (by simp), A0z hok]; exact .yes (by rw [List.length_drop]; omega), rfl, hI, fun x hx => by rw [if_neg (by simp), A0z hok] at hx; cases hx; rfl⟩)
 refine I0 (i := 0) (l' := [tt,ff,ff,ff,ff,ff,ff,ff,ff,ff,ff,ff,ff,ff,ff,ff,ff,ff,ff,ff,ff,ff]) rfl E9 (qM rfl) rfl (by kernel_rfl) rfl rfl ?_
 refine aP 1 rfl (qM rfl) rfl ?_
 refine aP 2 rfl (qM rfl) rfl ?_
 refine aP 3 rfl (A6 rfl) rfl ?_
 refine aP 4 rfl (A4 rfl) rfl ?_
 refine aL 5 rfl (C2 rfl rfl) rfl ?_
 refine aP 6 rfl (qM rfl) rfl ?_
 refine aP 7 rfl (R8 rfl rfl rfl (by omega)) rfl ?_
 refine aP 8 rfl (qM rfl) rfl ?_
 refine aP 9 rfl (A6 rfl) rfl ?_
 refine aP 10 rfl (A4 rfl) rfl ?_
 refine aL 11 rfl (C2 rfl rfl) rfl ?_
 refine aP 12 rfl (qM rfl) rfl ?_
 refine A5 13 rfl rfl rfl ?_
 refine A5 14 rfl rfl rfl ?_
 refine aP 15 rfl (I4 rfl rfl) rfl ?_
 refine aP 16 rfl (A6 rfl) rfl ?_
 refine aP 17 rfl (A4 rfl) rfl ?_
 refine B6 18 ?_
 refine R1 rfl ?_
 refine aP 19 rfl (A6 rfl) rfl ?_
 refine aP 20 rfl (A4 rfl) rfl ?_
 refine B6 21 ?_
 refine Q3 rfl rfl rfl rfl rfl rfl rfl rfl (by decide +kernel) (by repeat first | exact Sw.here | apply Sw.there) (by rfl) ?_
 refine C1 ?_
 refine C8 (rT rfl) (.cons (by repeat (first | exact Pk.here | apply Pk.there)) .nil) ?_
 (rw [S6]; exact ⟨rfl, _, nv, rfl, .no (by rw [I9, List.length_drop]; omega), rfl, hI, fun x hx => by cases hx⟩)
 refine C6 ?_
 (cases bad <;> refine K7 K9 rfl ?_)
 refine I0 (i := 0) (l' := [tt,ff,ff,ff,ff,ff,ff,ff,ff,ff,ff,ff,ff,ff,ff,ff,ff,ff,ff,ff,ff,ff]) rfl E9 (qM rfl) rfl (by kernel_rfl) rfl rfl ?_
 refine aP 1 rfl (qM rfl) rfl ?_
 refine aP 2 rfl (qM rfl) rfl ?_
 refine aP 3 rfl (A6 rfl) rfl ?_
 refine aP 4 rfl (A4 rfl) rfl ?_
 refine aL 5 rfl (C2 rfl rfl) rfl ?_
 refine aP 6 rfl (qM rfl) rfl ?_
 refine aP 7 rfl (R8 rfl rfl rfl (by omega)) rfl ?_
 refine aP 8 rfl (qM rfl) rfl ?_
 refine aP 9 rfl (A6 rfl) rfl ?_
 refine aP 10 rfl (A4 rfl) rfl ?_
 refine aL 11 rfl (C2 rfl rfl) rfl ?_
 refine aP 12 rfl (qM rfl) rfl ?_
 refine aP 13 rfl (qM rfl) rfl ?_
 refine aP 14 rfl (A2y A0y rfl rfl) rfl ?_
 refine aP 15 rfl (L7 rfl rfl) rfl ?_
 refine aP 16 rfl (A6 rfl) rfl ?_
 refine aP 17 rfl (A4 rfl) rfl ?_
 refine B6 18 ?_
 refine R1 rfl ?_
 refine aP 19 rfl (A6 rfl) rfl ?_
 refine aP 20 rfl (A4 rfl) rfl ?_
 refine B6 21 ?_
 refine Q3 rfl rfl rfl rfl rfl rfl rfl rfl (by decide +kernel) (by repeat first | exact Sw.here | apply Sw.there) (by rfl) ?_
 refine C1 ?_
 refine C8 (rT rfl) (.cons (by repeat (first | exact Pk.here | apply Pk.there)) .nil) ?_
 (rw [S6]; exact ⟨rfl, _, nv, rfl, by rw [if_neg (by simp), A0A hno]; exact .no (by rw [I9, List.length_drop]; omega), rfl, hI, fun x hx => by rw [if_neg (by simp), A0A hno] at hx; cases hx⟩)
 refine I0 (i := 0) (l' := [tt,ff,ff,ff,ff,ff,ff,ff,ff,ff,ff,ff,ff,ff,ff,ff,ff,ff,ff,ff,ff,ff]) rfl E9 (qM rfl) rfl (by kernel_rfl) rfl rfl ?_
 refine aP 1 rfl (qM rfl) rfl ?_
 refine aP 2 rfl (qM rfl) rfl ?_
 refine aP 3 rfl (A6 rfl) rfl ?_
 refine aP 4 rfl (A4 rfl) rfl ?_
 refine aL 5 rfl (C2 rfl rfl) rfl ?_
 refine aP 6 rfl (qM rfl) rfl ?_
 refine aP 7 rfl (R8 rfl rfl rfl (by omega)) rfl ?_
 refine aP 8 rfl (qM rfl) rfl ?_
 refine aP 9 rfl (A6 rfl) rfl ?_
 refine aP 10 rfl (A4 rfl) rfl ?_
 refine aL 11 rfl (C2 rfl rfl) rfl ?_
 refine aP 12 rfl (qM rfl) rfl ?_
 refine A5 13 rfl rfl rfl ?_
 refine A5 14 rfl rfl rfl ?_
 refine aP 15 rfl (I4 rfl rfl) rfl ?_
 refine aP 16 rfl (A6 rfl) rfl ?_
 refine aP 17 rfl (A4 rfl) rfl ?_
 refine B6 18 ?_
 refine R1 rfl ?_
 refine aP 19 rfl (A6 rfl) rfl ?_
 refine aP 20 rfl (A4 rfl) rfl ?_
 refine B6 21 ?_
 refine Q3 rfl rfl rfl rfl rfl rfl rfl rfl (by decide +kernel) (by repeat first | exact Sw.here | apply Sw.there) (by rfl) ?_
 refine C1 ?_
 refine C8 (rT rfl) (.cons (by repeat (first | exact Pk.here | apply Pk.there)) .nil) ?_
 (rw [S6]; exact ⟨rfl, _, nv, rfl, .no (by rw [I9, List.length_drop]; omega), rfl, hI, fun x hx => by cases hx⟩)
 refine A2i ?_
 refine sQ (A6 rfl) rfl ?_
 refine F5 ?_
 (obtain rfl : i = L5 l := A2C hi (by unfold D3; intro hil2 hc; rcases hc with hc | ⟨hc, hc2⟩; omega; (have hx : (l[i].toNat : Int) = 45 := (by rw [hc2]; rfl); omega)); refine sP (A2s rfl rfl rfl (by omega)) rfl rfl ?_; rw [A2E])
 (refine H7 rfl (A2A (A9 (l.take (L5 l))) G hE (by rw [I9, List.length_take]; omega)) (List.Perm.refl _) rfl rfl (fun v G1 outs hle1 hh => ?_); obtain ⟨hG, rfl, hv⟩ := hh; replace hG := hG.symm; subst hG; rcases hv with ⟨nv, hok, hI, rfl⟩ | ⟨nv, tv, qv, hno, hI, rfl⟩)
 refine C6 ?_
 (cases bad <;> refine K7 K9 rfl ?_)
 refine I0 (i := 0) (l' := [tt,ff,ff,ff,ff,ff,ff,ff,ff,ff,ff,ff,ff,ff,ff,ff,ff,ff,ff,ff,ff,ff]) rfl E9 (qM rfl) rfl (by kernel_rfl) rfl rfl ?_
 refine aP 1 rfl (qM rfl) rfl ?_
 refine aP 2 rfl (qM rfl) rfl ?_
 refine aP 3 rfl (A6 rfl) rfl ?_
 refine aP 4 rfl (A4 rfl) rfl ?_
 refine aL 5 rfl (C2 rfl rfl) rfl ?_
 refine aP 6 rfl (qM rfl) rfl ?_
 refine aP 7 rfl (R8 rfl rfl rfl (by omega)) rfl ?_
 refine aP 8 rfl (qM rfl) rfl ?_
 refine aP 9 rfl (A6 rfl) rfl ?_
 refine aP 10 rfl (A4 rfl) rfl ?_
 refine aL 11 rfl (C2 rfl rfl) rfl ?_
 refine aP 12 rfl (qM rfl) rfl ?_
 refine aP 13 rfl (qM rfl) rfl ?_
 refine aP 14 rfl (A2z A0y rfl) rfl ?_
 refine aP 15 rfl (L7 rfl rfl) rfl ?_
 refine aP 16 rfl (A6 rfl) rfl ?_
 refine aP 17 rfl (A4 rfl) rfl ?_
 refine B6 18 ?_
 refine R1 rfl ?_
 refine aP 19 rfl (A6 rfl) rfl ?_
 refine aP 20 rfl (A4 rfl) rfl ?_
 refine B6 21 ?_
 refine Q3 rfl rfl rfl rfl rfl rfl rfl rfl (by decide +kernel) (by repeat first | exact Sw.here | apply Sw.there) (by rfl) ?_
 refine C1 ?_
 refine C8 (rT rfl) (.cons (by repeat (first | exact Pk.here | apply Pk.there)) .nil) ?_
 (rw [S6]; exact ⟨rfl, _, nv, rfl, by rw [if_neg (by simp), A0z hok]; exact .yes (by rw [List.length_drop]; omega), rfl, hI, fun x hx => by rw [if_neg (by simp), A0z hok] at hx; cases hx; rfl⟩)
 refine I0 (i := 0) (l' := [tt,ff,ff,ff,ff,ff,ff,ff,ff,ff,ff,ff,ff,ff,ff,ff,ff,ff,ff,ff,ff,ff]) rfl E9 (qM rfl) rfl (by kernel_rfl) rfl rfl ?_
 refine aP 1 rfl (qM rfl) rfl ?_
 refine aP 2 rfl (qM rfl) rfl ?_
 refine aP 3 rfl (A6 rfl) rfl ?_
 refine aP 4 rfl (A4 rfl) rfl ?_
 refine aL 5 rfl (C2 rfl rfl) rfl ?_
 refine aP 6 rfl (qM rfl) rfl ?_
 refine aP 7 rfl (R8 rfl rfl rfl (by omega)) rfl ?_
 refine aP 8 rfl (qM rfl) rfl ?_
 refine aP 9 rfl (A6 rfl) rfl ?_
 refine aP 10 rfl (A4 rfl) rfl ?_
 refine aL 11 rfl (C2 rfl rfl) rfl ?_
 refine aP 12 rfl (qM rfl) rfl ?_
 refine A5 13 rfl rfl rfl ?_
 refine A5 14 rfl rfl rfl ?_
 refine aP 15 rfl (I4 rfl rfl) rfl ?_
 refine aP 16 rfl (A6 rfl) rfl ?_
 refine aP 17 rfl (A4 rfl) rfl ?_
 refine B6 18 ?_
 refine R1 rfl ?_
 refine aP 19 rfl (A6 rfl) rfl ?_
 refine aP 20 rfl (A4 rfl) rfl ?_
 refine B6 21 ?_
 refine Q3 rfl rfl rfl rfl rfl rfl rfl rfl (by decide +kernel) (by repeat first | exact Sw.here | apply Sw.there) (by rfl) ?_
 refine C1 ?_
 refine C8 (rT rfl) (.cons (by repeat (first | exact Pk.here | apply Pk.there)) .nil) ?_
 (rw [S6]; exact ⟨rfl, _, nv, rfl, .no (by rw [I9, List.length_drop]; omega), rfl, hI, fun x hx => by cases hx⟩)
 refine C6 ?_
 (cases bad <;> refine K7 K9 rfl ?_)
 refine I0 (i := 0) (l' := [tt,ff,ff,ff,ff,ff,ff,ff,ff,ff,ff,ff,ff,ff,ff,ff,ff,ff,ff,ff,ff,ff]) rfl E9 (qM rfl) rfl (by kernel_rfl) rfl rfl ?_
 refine aP 1 rfl (qM rfl) rfl ?_
 refine aP 2 rfl (qM rfl) rfl ?_
 refine aP 3 rfl (A6 rfl) rfl ?_
 refine aP 4 rfl (A4 rfl) rfl ?_
 refine aL 5 rfl (C2 rfl rfl) rfl ?_
 refine aP 6 rfl (qM rfl) rfl ?_
 refine aP 7 rfl (R8 rfl rfl rfl (by omega)) rfl ?_
 refine aP 8 rfl (qM rfl) rfl ?_
 refine aP 9 rfl (A6 rfl) rfl ?_
 refine aP 10 rfl (A4 rfl) rfl ?_
 refine aL 11 rfl (C2 rfl rfl) rfl ?_
 refine aP 12 rfl (qM rfl) rfl ?_
 refine aP 13 rfl (qM rfl) rfl ?_
 refine aP 14 rfl (A2y A0y rfl rfl) rfl ?_
 refine aP 15 rfl (L7 rfl rfl) rfl ?_
 refine aP 16 rfl (A6 rfl) rfl ?_
 refine aP 17 rfl (A4 rfl) rfl ?_
 refine B6 18 ?_
 refine R1 rfl ?_
 refine aP 19 rfl (A6 rfl) rfl ?_
 refine aP 20 rfl (A4 rfl) rfl ?_
 refine B6 21 ?_
 refine Q3 rfl rfl rfl rfl rfl rfl rfl rfl (by decide +kernel) (by repeat first | exact Sw.here | apply Sw.there) (by rfl) ?_
 refine C1 ?_
 refine C8 (rT rfl) (.cons (by repeat (first | exact Pk.here | apply Pk.there)) .nil) ?_
 (rw [S6]; exact ⟨rfl, _, nv, rfl, by rw [if_neg (by simp), A0A hno]; exact .no (by rw [I9, List.length_drop]; omega), rfl, hI, fun x hx => by rw [if_neg (by simp), A0A hno] at hx; cases hx⟩)
 refine I0 (i := 0) (l' := [tt,ff,ff,ff,ff,ff,ff,ff,ff,ff,ff,ff,ff,ff,ff,ff,ff,ff,ff,ff,ff,ff]) rfl E9 (qM rfl) rfl (by kernel_rfl) rfl rfl ?_
 refine aP 1 rfl (qM rfl) rfl ?_
 refine aP 2 rfl (qM rfl) rfl ?_
 refine aP 3 rfl (A6 rfl) rfl ?_
 refine aP 4 rfl (A4 rfl) rfl ?_
 refine aL 5 rfl (C2 rfl rfl) rfl ?_
 refine aP 6 rfl (qM rfl) rfl ?_
 refine aP 7 rfl (R8 rfl rfl rfl (by omega)) rfl ?_
 refine aP 8 rfl (qM rfl) rfl ?_
 refine aP 9 rfl (A6 rfl) rfl ?_
 refine aP 10 rfl (A4 rfl) rfl ?_
 refine aL 11 rfl (C2 rfl rfl) rfl ?_
 refine aP 12 rfl (qM rfl) rfl ?_
 refine A5 13 rfl rfl rfl ?_
 refine A5 14 rfl rfl rfl ?_
 refine aP 15 rfl (I4 rfl rfl) rfl ?_
 refine aP 16 rfl (A6 rfl) rfl ?_
 refine aP 17 rfl (A4 rfl) rfl ?_
 refine B6 18 ?_
 refine R1 rfl ?_
 refine aP 19 rfl (A6 rfl) rfl ?_
 refine aP 20 rfl (A4 rfl) rfl ?_
 refine B6 21 ?_
 refine Q3 rfl rfl rfl rfl rfl rfl rfl rfl (by decide +kernel) (by repeat first | exact Sw.here | apply Sw.there) (by rfl) ?_
 refine C1 ?_
 refine C8 (rT rfl) (.cons (by repeat (first | exact Pk.here | apply Pk.there)) .nil) ?_
 (rw [S6]; exact ⟨rfl, _, nv, rfl, .no (by rw [I9, List.length_drop]; omega), rfl, hI, fun x hx => by cases hx⟩)
 refine S3 ?_
 refine O0 ?_
 refine sQ (A6 rfl) rfl ?_
 refine F5 ?_
 (obtain rfl : i = L5 l := A2C hi (by unfold D3; intro hil2 hc; rcases hc with hc | ⟨hc, hc2⟩; omega; (have hx : (l[i].toNat : Int) = 45 := (by rw [hc2]; rfl); omega)); refine sP (A2s rfl rfl rfl (by omega)) rfl rfl ?_; rw [A2E])
 (refine H7 rfl (A2A (A9 (l.take (L5 l))) G hE (by rw [I9, List.length_take]; omega)) (List.Perm.refl _) rfl rfl (fun v G1 outs hle1 hh => ?_); obtain ⟨hG, rfl, hv⟩ := hh; replace hG := hG.symm; subst hG; rcases hv with ⟨nv, hok, hI, rfl⟩ | ⟨nv, tv, qv, hno, hI, rfl⟩)
 refine C6 ?_
 (cases bad <;> refine K7 K9 rfl ?_)
 refine I0 (i := 0) (l' := [tt,ff,ff,ff,ff,ff,ff,ff,ff,ff,ff,ff,ff,ff,ff,ff,ff,ff,ff,ff,ff,ff]) rfl E9 (qM rfl) rfl (by kernel_rfl) rfl rfl ?_
 refine aP 1 rfl (qM rfl) rfl ?_
 refine aP 2 rfl (qM rfl) rfl ?_
 refine aP 3 rfl (A6 rfl) rfl ?_
 refine aP 4 rfl (A4 rfl) rfl ?_
 refine aL 5 rfl (C2 rfl rfl) rfl ?_
 refine aP 6 rfl (qM rfl) rfl ?_
 refine aP 7 rfl (R8 rfl rfl rfl (by omega)) rfl ?_
 refine aP 8 rfl (qM rfl) rfl ?_
 refine aP 9 rfl (A6 rfl) rfl ?_
 refine aP 10 rfl (A4 rfl) rfl ?_
 refine aL 11 rfl (C2 rfl rfl) rfl ?_
 refine aP 12 rfl (qM rfl) rfl ?_
 refine aP 13 rfl (qM rfl) rfl ?_
 refine aP 14 rfl (A2z A0y rfl) rfl ?_
 refine aP 15 rfl (L7 rfl rfl) rfl ?_
 refine aP 16 rfl (A6 rfl) rfl ?_
 refine aP 17 rfl (A4 rfl) rfl ?_
 refine B6 18 ?_
 refine R1 rfl ?_
 refine aP 19 rfl (A6 rfl) rfl ?_
 refine aP 20 rfl (A4 rfl) rfl ?_
 refine B6 21 ?_
 refine Q3 rfl rfl rfl rfl rfl rfl rfl rfl (by decide +kernel) (by repeat first | exact Sw.here | apply Sw.there) (by rfl) ?_
 refine C1 ?_
 refine C8 (rT rfl) (.cons (by repeat (first | exact Pk.here | apply Pk.there)) .nil) ?_
 (rw [S6]; exact ⟨rfl, _, nv, rfl, by rw [if_neg (by simp), A0z hok]; exact .yes (by rw [List.length_drop]; omega), rfl, hI, fun x hx => by rw [if_neg (by simp), A0z hok] at hx; cases hx; rfl⟩)
 refine I0 (i := 0) (l' := [tt,ff,ff,ff,ff,ff,ff,ff,ff,ff,ff,ff,ff,ff,ff,ff,ff,ff,ff,ff,ff,ff]) rfl E9 (qM rfl) rfl (by kernel_rfl) rfl rfl ?_
 refine aP 1 rfl (qM rfl) rfl ?_
 refine aP 2 rfl (qM rfl) rfl ?_
 refine aP 3 rfl (A6 rfl) rfl ?_
 refine aP 4 rfl (A4 rfl) rfl ?_
 refine aL 5 rfl (C2 rfl rfl) rfl ?_
 refine aP 6 rfl (qM rfl) rfl ?_
 refine aP 7 rfl (R8 rfl rfl rfl (by omega)) rfl ?_
 refine aP 8 rfl (qM rfl) rfl ?_
 refine aP 9 rfl (A6 rfl) rfl ?_
 refine aP 10 rfl (A4 rfl) rfl ?_
 refine aL 11 rfl (C2 rfl rfl) rfl ?_
 refine aP 12 rfl (qM rfl) rfl ?_
 refine A5 13 rfl rfl rfl ?_
 refine A5 14 rfl rfl rfl ?_
 refine aP 15 rfl (I4 rfl rfl) rfl ?_
 refine aP 16 rfl (A6 rfl) rfl ?_
 refine aP 17 rfl (A4 rfl) rfl ?_
 refine B6 18 ?_
 refine R1 rfl ?_
 refine aP 19 rfl (A6 rfl) rfl ?_
 refine aP 20 rfl (A4 rfl) rfl ?_
 refine B6 21 ?_
 refine Q3 rfl rfl rfl rfl rfl rfl rfl rfl (by decide +kernel) (by repeat first | exact Sw.here | apply Sw.there) (by rfl) ?_
 refine C1 ?_
 refine C8 (rT rfl) (.cons (by repeat (first | exact Pk.here | apply Pk.there)) .nil) ?_
 (rw [S6]; exact ⟨rfl, _, nv, rfl, .no (by rw [I9, List.length_drop]; omega), rfl, hI, fun x hx => by cases hx⟩)
 refine C6 ?_
 (cases bad <;> refine K7 K9 rfl ?_)
 refine I0 (i := 0) (l' := [tt,ff,ff,ff,ff,ff,ff,ff,ff,ff,ff,ff,ff,ff,ff,ff,ff,ff,ff,ff,ff,ff]) rfl E9 (qM rfl) rfl (by kernel_rfl) rfl rfl ?_
 refine aP 1 rfl (qM rfl) rfl ?_
 refine aP 2 rfl (qM rfl) rfl ?_
 refine aP 3 rfl (A6 rfl) rfl ?_
 refine aP 4 rfl (A4 rfl) rfl ?_
 refine aL 5 rfl (C2 rfl rfl) rfl ?_
 refine aP 6 rfl (qM rfl) rfl ?_
 refine aP 7 rfl (R8 rfl rfl rfl (by omega)) rfl ?_
 refine aP 8 rfl (qM rfl) rfl ?_
 refine aP 9 rfl (A6 rfl) rfl ?_
 refine aP 10 rfl (A4 rfl) rfl ?_
 refine aL 11 rfl (C2 rfl rfl) rfl ?_
 refine aP 12 rfl (qM rfl) rfl ?_
 refine aP 13 rfl (qM rfl) rfl ?_
 refine aP 14 rfl (A2y A0y rfl rfl) rfl ?_
 refine aP 15 rfl (L7 rfl rfl) rfl ?_
 refine aP 16 rfl (A6 rfl) rfl ?_
 refine aP 17 rfl (A4 rfl) rfl ?_
 refine B6 18 ?_
 refine R1 rfl ?_
 refine aP 19 rfl (A6 rfl) rfl ?_
 refine aP 20 rfl (A4 rfl) rfl ?_
 refine B6 21 ?_
 refine Q3 rfl rfl rfl rfl rfl rfl rfl rfl (by decide +kernel) (by repeat first | exact Sw.here | apply Sw.there) (by rfl) ?_
 refine C1 ?_
 refine C8 (rT rfl) (.cons (by repeat (first | exact Pk.here | apply Pk.there)) .nil) ?_
 (rw [S6]; exact ⟨rfl, _, nv, rfl, by rw [if_neg (by simp), A0A hno]; exact .no (by rw [I9, List.length_drop]; omega), rfl, hI, fun x hx => by rw [if_neg (by simp), A0A hno] at hx; cases hx⟩)
 refine I0 (i := 0) (l' := [tt,ff,ff,ff,ff,ff,ff,ff,ff,ff,ff,ff,ff,ff,ff,ff,ff,ff,ff,ff,ff,ff]) rfl E9 (qM rfl) rfl (by kernel_rfl) rfl rfl ?_
 refine aP 1 rfl (qM rfl) rfl ?_
 refine aP 2 rfl (qM rfl) rfl ?_
 refine aP 3 rfl (A6 rfl) rfl ?_
 refine aP 4 rfl (A4 rfl) rfl ?_
 refine aL 5 rfl (C2 rfl rfl) rfl ?_
 refine aP 6 rfl (qM rfl) rfl ?_
 refine aP 7 rfl (R8 rfl rfl rfl (by omega)) rfl ?_
 refine aP 8 rfl (qM rfl) rfl ?_
 refine aP 9 rfl (A6 rfl) rfl ?_
 refine aP 10 rfl (A4 rfl) rfl ?_
 refine aL 11 rfl (C2 rfl rfl) rfl ?_
 refine aP 12 rfl (qM rfl) rfl ?_
 refine A5 13 rfl rfl rfl ?_
 refine A5 14 rfl rfl rfl ?_
 refine aP 15 rfl (I4 rfl rfl) rfl ?_
 refine aP 16 rfl (A6 rfl) rfl ?_
 refine aP 17 rfl (A4 rfl) rfl ?_
 refine B6 18 ?_
 refine R1 rfl ?_
 refine aP 19 rfl (A6 rfl) rfl ?_
 refine aP 20 rfl (A4 rfl) rfl ?_
 refine B6 21 ?_
 refine Q3 rfl rfl rfl rfl rfl rfl rfl rfl (by decide +kernel) (by repeat first | exact Sw.here | apply Sw.there) (by rfl) ?_
 refine C1 ?_
 refine C8 (rT rfl) (.cons (by repeat (first | exact Pk.here | apply Pk.there)) .nil) ?_
 (rw [S6]; exact ⟨rfl, _, nv, rfl, .no (by rw [I9, List.length_drop]; omega), rfl, hI, fun x hx => by cases hx⟩)
theorem A7u (b : Nat) (S : Option A0) (cs : List Value) (G : IM) (hE : V0 G) (h : O4 S cs) : Fn Tryz.prog 151 [.pointer (some ⟨b, 0, none⟩)] [.blk b cs] G (A7s b (S.bind U0) G) := by
 rcases h with ⟨rfl, s, hs, rfl⟩ | ⟨l, rfl, hl, rfl⟩
 ·have := A7t b s.data.toList true G hE hs
  rw [A2w] at this
  exact this
 ·exact A7t b l false G hE hl
theorem S7 (G : IM) : K6 G A3 [.int .i64 0, .slice none 0 0] [] := by
 simp only [A3, K6, I8]
 exact ⟨none, 0, [], [], rfl, ⟨by omega, by omega⟩, B7.nil _ _, ⟨rfl, rfl⟩, rfl, by simp [E5]⟩
def B3F (t : Tm) : Tm × Bool := if P9 t = true ∨ N7 t = true then (A1s t, true) else (L4, false)
end Gw
end Go.Proofs.YtgodjiieijekiaaGreatDoor
