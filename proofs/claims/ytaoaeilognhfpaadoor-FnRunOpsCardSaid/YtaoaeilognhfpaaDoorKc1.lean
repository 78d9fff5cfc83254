/-
  The laws' mark texts: the letter m and a number's digits. Lists of paths: what they are in plain words, and how fresh ones lie in memory. The laws' comparisons, at data that are the same. Data that the call owns, block by block: what the laws' marking writes. The laws' marking of types. The laws' marking of terms. The laws' marking of terms and paths, and the reading of the marks. The laws' measure of arguments. Arguments that can be read as data lie in memory as trees do; a law that answers true in memory that was there before meets its row. The laws' copies of types and terms. Fresh data taken back into the call's own hands, and given up again; sizes. Copies of types and terms: the reference model's, the program's, the laws' of paths. Terms each node of which is changed, operands first; own copies. The functions on types and the small tests of terms: each computes what the plain words say. The scans of types: typeScan, TypeValid, consistent, Consistent. The tests of terms. The scan of a term, CastValid, TermValid. slices.Clone of numbers, paths, AllPaths. AllPaths. The reference model's tests of types and nodes: they compute the same plain functions. The reference model's scans of types. The reference model's consistency of types. The reference model's tests of nodes. The reference model's scan of terms with casts. The reference model's count of nodes, its CastValid. append of a slice in memory that no longer changes, empty or not. The reference model's paths. The reference model's AllPaths. The law that AllPaths gives what the reference model gives: its walk. Nodes at paths, casts by their labels. Slices of slices; slices of the call's own opened as blocks; one element of a slice of terms replaced. Values of the stack machine: as trees, and as they lie in memory; what an instruction does, in plain words. What an instruction does, case by case; what stays true of a state: no list is long, each number is small.
-/
import Derived.Test.YtaoaeilognhfpaaDoorKc0
import Derived.Laws.BytesArg
import Derived.WalkKit
import Derived.ProofKit
import Derived.OpenShut
import Derived.Carry
import Derived.Laws.Slices
import Derived.Lib.ItoaNum
namespace Go.Proofs.YtaoaeilognhfpaaDoor
open Go Go.RowKit
namespace Gw
section clawss
variable {P : Program} {Γ : Ctx} {env : Env} {hp : List Ent} {G : IM} {ty : TypeId}
theorem pure_conv_u8 {s d : TypeId} {is id : TyR} [hS : TyI P s is] [hD : TyI P d id] (hd : id.desc = .int .u8) {k : IntKind} (hs : is.desc = .int k) {x : Operand} {n : Int} (hx : evo env x = some (.int k n)) (h0 : 0 ≤ n) (h1 : n ≤ 255) :
  PureOp P Γ ⟨env, hp, G⟩ (.convert s d x) ty (.int .u8 n) := by
 refine ⟨fun a _ hst _ _ _ _ w => ?_⟩
 have hu := hD.und
 rw [hd] at hu
 have hus := hS.und
 rw [hs] at hus
 have hw : IntKind.u8.wrap n = n := IntWalk.u8_in n ⟨h0, h1⟩
 simp [execOp, convert, run_underlying hus, run_underlying hu, (hst.evo hx : a.eval x = _), Conv.intToInt, hw]
theorem load_conv_str {s d e : TypeId} {is id ie : TyR} [hS : TyI P s is] [hD : TyI P d id] [hE : TyI P e ie] (hs : is.desc = .slice e) (he : ie.desc = .int .u8) (hd : id.desc = .string) {x : Operand} {b o n c : Nat} {xs : List Int}
  (hx : evo env x = some (.slice (some ⟨b, o, none⟩) n c)) (hl : xs.length = n) (hv : At hp G b o (xs.map (Value.int .u8))) : LoadOp P Γ ⟨env, hp, G⟩ (.convert s d x) ty b (.string (strOfNums xs)) := by
 refine ⟨fun a w hst => ?_⟩
 obtain ⟨full, e', f, hb, hf⟩ := hv.read hst
 refine ⟨lt_of_some hb, fun w' hw' d' pos af gd => ?_⟩
 have hus := hS.und
 rw [hs] at hus
 have hue := hE.und
 rw [he] at hue
 have hud := hD.und
 rw [hd] at hud
 have hc := run_convert_bytes_arg (P := P) w' s e hus hue b o n c xs hl (fun i hi => by
  have := hf i (.int .u8 (xs.getD i 0)) (by simp [List.getD, List.getElem?_eq_getElem (show i < xs.length by omega)])
  simp [World.cell?, hw', hb, this]) d hud
 have hx' : a.eval x = _ := hst.evo hx
 simp only [execOp, hx', Sem.run_bind]
 rw [hc]
 rfl
theorem pure_rem_nat {x y : Operand} {t t' : TypeId} {m n : Nat} (hx : evo env x = some (.int .i64 (m : Int))) (hy : evo env y = some (.int .i64 (n : Int))) (hn : 0 < n) :
  PureOp P Γ ⟨env, hp, G⟩ (.binOp .rem t x y t') ty (.int .i64 ((m % n : Nat) : Int)) := by
 have h := pure_rem (P := P) (Γ := Γ) (hp := hp) (G := G) (ty := ty) (t := t) (t' := t') hx hy (by omega)
 rwa [show ((m : Int).tmod n) = ((m % n : Nat) : Int) from rfl] at h
theorem pure_quo_nat {x y : Operand} {t t' : TypeId} {m n : Nat} (hx : evo env x = some (.int .i64 (m : Int))) (hy : evo env y = some (.int .i64 (n : Int))) (hn : 0 < n) (hm : m ≤ 9223372036854775807) :
  PureOp P Γ ⟨env, hp, G⟩ (.binOp .quo t x y t') ty (.int .i64 ((m / n : Nat) : Int)) := by
 have hd : m / n ≤ m := Nat.div_le_self _ _
 have e : ((m : Int).tdiv n) = ((m / n : Nat) : Int) := rfl
 have h := pure_quo (P := P) (Γ := Γ) (hp := hp) (G := G) (ty := ty) (t := t) (t' := t') hx hy (by omega) (by rw [e]; generalize m / n = q at *; omega) (by rw [e]; generalize m / n = q at *; omega)
 rwa [e] at h
end clawss
/-- The last digit's letter. -/
def dgi (k : Nat) : Int := 48 + ((k % 10 : Nat) : Int)
/-- The digits of a number ahead of a text. -/
def mDigs : Nat → Nat → ByteArray → ByteArray
 | 0, _, out => out
 | f + 1, k, out => if 0 < k then mDigs f (k / 10) (strOfNums [dgi k] ++ out) else out
def mText (k : Nat) : ByteArray := ⟨#[109]⟩ ++ mDigs 20 k ⟨⟨[]⟩⟩
end Gw
end Go.Proofs.YtaoaeilognhfpaaDoor
namespace Go.Proofs.YtaoaeilognhfpaaDoor
open Go Go.RowKit
namespace Gw
def ints (l : List Int) : List Value := l.map (Value.int .i64 ·)
mutual
def tmCount : Tm → Nat
 | .mk _ _ _ _ _ _ ks => tmCountL ks + 1
def tmCountL : List Tm → Nat
 | [] => 0
 | t :: ts => tmCount t + tmCountL ts
end
mutual
/-- The paths of all nodes, from a node's own path on. -/
def mPaths : Tm → List Int → List (List Int)
 | .mk _ _ _ _ _ _ ks, path => path :: mPathsL ks 0 path
def mPathsL : List Tm → Nat → List Int → List (List Int)
 | [], _, _ => []
 | t :: ts, i, path => mPaths t (path ++ [(i : Int)]) ++ mPathsL ts (i + 1) path
end
theorem tmCountL_append : ∀ (a b : List Tm), tmCountL (a ++ b) = tmCountL a + tmCountL b
 | [], b => by simp [tmCountL]
 | t :: a, b => by rw [List.cons_append, tmCountL, tmCountL, tmCountL_append a b]; omega
theorem tmCountL_take {ks : List Tm} {i : Nat} (hi : i < ks.length) : tmCountL (ks.take i) + tmCount ks[i] ≤ tmCountL ks := by
 have h := tmCountL_append (ks.take (i + 1)) (ks.drop (i + 1))
 rw [List.take_append_drop, List.take_succ_eq_append_getElem hi, tmCountL_append] at h
 simp only [tmCountL] at h
 omega
theorem tmCountL_succ {ks : List Tm} {i : Nat} (hi : i < ks.length) : tmCountL (ks.take (i + 1)) = tmCountL (ks.take i) + tmCount ks[i] := by
 rw [List.take_succ_eq_append_getElem hi, tmCountL_append]
 simp only [tmCountL]; omega
theorem Sl.nn {G : IM} {p : Option Addr} {n c sz : Nat} {cs : List Value} (h : Sl G p n c sz cs) : p = none → n = 0 := by
 rintro rfl
 rcases h.2.2.2 with h | ⟨b, o, full, h, _⟩
 ·exact h
 ·cases h
/-- Fresh paths: each in memory of its own. -/
def SPs (G : IM) : List (List Int) → List Value → List Nat → Prop
 | [], es, F => es = [] ∧ F = []
 | l :: ls, es, F => ∃ p c r Fr, es = .slice p l.length c :: r ∧ F = vfp p ++ Fr ∧ Sl G p l.length c 1 (ints l) ∧ (∀ b ∈ vfp p, G b ≠ none) ∧ (p = none → l.length = 0) ∧ SPs G ls r Fr
/-- What AllPaths hands back: the outer list and each path in memory of its own. -/
def RPs (G : IM) (ls : List (List Int)) (p : Option Addr) (c : Nat) : Prop := ∃ es F, Sl G p ls.length c 1 es ∧ (∀ b ∈ vfp p, G b ≠ none) ∧ SPs G ls es F ∧ (vfp p ++ F).Nodup
mutual
theorem mScan_count (M D N : Int) : ∀ (t : Tm) (deep c : Int), (mScan M D N t deep c).1 = true → (mScan M D N t deep c).2 = c + tmCount t
 | .mk k nm num ty fr lb ks, deep, c, h => by
  rw [mScan] at h ⊢
  split at h
  ·cases h
  ·rename_i hc
   rw [if_neg hc, mScanL_count M D N ks (deep + 1) (c + 1) h, tmCount]
   omega
theorem mScanL_count (M D N : Int) : ∀ (ts : List Tm) (deep c : Int), (mScanL M D N ts deep c).1 = true → (mScanL M D N ts deep c).2 = c + tmCountL ts
 | [], deep, c, h => by rw [mScanL, tmCountL]; simp
 | t :: ts, deep, c, h => by
  rw [mScanL] at h ⊢
  split at h
  ·rename_i h1
   rw [if_pos h1, mScanL_count M D N ts deep _ h, mScan_count M D N t deep c h1, tmCountL]
   omega
  ·cases h
end
/-- AllPaths in plain words. -/
def mAll (t : Tm) : List (List Int) := if castValid t = true then mPaths t [] else []
end Gw
end Go.Proofs.YtaoaeilognhfpaaDoor
namespace Go.Proofs.YtaoaeilognhfpaaDoor
open Go Go.RowKit
namespace Gw
section slaws
variable {P : Program} {Γ : Ctx} {env : Env} {hp : List Ent} {G : IM} {ty : TypeId}
end slaws
/-- One cell of a slice of cells. -/
theorem Sl.kid {G : IM} {p : Option Addr} {n c : Nat} {cs : List Value} (h : Sl G p n c 1 cs) {i : Nat} (hi : i < n) :
  ∃ b o v, p = some ⟨b, o, none⟩ ∧ cs[i]? = some v ∧ (∀ hp, At hp G b (o + i * 1) [v]) ∧ G b ≠ none := by
 obtain ⟨h1, h2, h3, h4⟩ := h
 obtain ⟨b, o, full, rfl, hg, hv⟩ := h4.resolve_left (by omega)
 have hlt : i < cs.length := by omega
 refine ⟨b, o, cs[i], rfl, List.getElem?_eq_getElem hlt, fun hp => at_im hg ?_, by rw [hg]; simp⟩
 intro j v hj
 cases j with
 | zero => simp at hj; subst hj; simpa using hv i _ (List.getElem?_eq_getElem hlt)
 | succ j => simp at hj
theorem Sl.le {G : IM} {p : Option Addr} {n c sz : Nat} {cs : List Value} (h : Sl G p n c sz cs) : n ≤ 9223372036854775807 := by
 have h1 := h.2.1; have h2 := h.2.2.1; unfold maxLen at h2; omega

end Gw
end Go.Proofs.YtaoaeilognhfpaaDoor
namespace Go.Proofs.YtaoaeilognhfpaaDoor
open Go Go.RowKit
namespace Gw

abbrev Blks := List (Nat × List Value)

/- Types: each slice in a block of the call's own. -/
mutual
def OTy : Ty → List Value → Blks → Prop
 | .mk k ks, cells, bs => ∃ p c, cells = [.int .i64 k, .slice p ks.length c] ∧ I64 k ∧ ks.length ≤ c ∧ c ≤ maxLen ∧ ((ks = [] ∧ bs = []) ∨ ∃ b A C es r, p = some ⟨b, A.length, none⟩ ∧ bs = (b, A ++ (es.flatten ++ C)) :: r ∧ OTyL ks es r)
def OTyL : List Ty → List (List Value) → Blks → Prop
 | [], es, bs => es = [] ∧ bs = []
 | t :: ts, es, bs => ∃ e e' r1 r2, es = e :: e' ∧ bs = r1 ++ r2 ∧ OTy t e r1 ∧ OTyL ts e' r2
end
def OTyS (ks : List Ty) (p : Option Addr) (c : Nat) (bs : Blks) : Prop :=
 ks.length ≤ c ∧ c ≤ maxLen ∧ ((ks = [] ∧ bs = []) ∨ ∃ b A C es r, p = some ⟨b, A.length, none⟩ ∧ bs = (b, A ++ (es.flatten ++ C)) :: r ∧ OTyL ks es r)
/- Terms. -/
mutual
def OTm : Tm → List Value → Blks → Prop
 | .mk k nm num ty fr lb ks, cells, bs => ∃ tc fc p c bt bf bk, cells = [.int .i64 k, .string nm, .int .i64 num] ++ tc ++ fc ++ [.int .i64 lb, .slice p ks.length c] ∧ I64 k ∧ I64 num ∧ I64 lb ∧ OTy ty tc bt ∧ OTy fr fc bf ∧
   ks.length ≤ c ∧ c ≤ maxLen ∧ ((ks = [] ∧ bk = []) ∨ ∃ b A C es r, p = some ⟨b, A.length, none⟩ ∧ bk = (b, A ++ (es.flatten ++ C)) :: r ∧ OTmL ks es r) ∧ bs = bt ++ (bf ++ bk)
def OTmL : List Tm → List (List Value) → Blks → Prop
 | [], es, bs => es = [] ∧ bs = []
 | t :: ts, es, bs => ∃ e e' r1 r2, es = e :: e' ∧ bs = r1 ++ r2 ∧ OTm t e r1 ∧ OTmL ts e' r2
end
def OTmS (ks : List Tm) (p : Option Addr) (c : Nat) (bs : Blks) : Prop :=
 ks.length ≤ c ∧ c ≤ maxLen ∧ ((ks = [] ∧ bs = []) ∨ ∃ b A C es r, p = some ⟨b, A.length, none⟩ ∧ bs = (b, A ++ (es.flatten ++ C)) :: r ∧ OTmL ks es r)
/- How many marks are written, and what the data are then. -/
mutual
def cntTy : Ty → Int
 | .mk _ ks => 1 + cntTyL ks
def cntTyL : List Ty → Int
 | [] => 0
 | t :: ts => cntTy t + cntTyL ts
end
mutual
def mkTy : Ty → Int → Ty
 | .mk _ ks, k => .mk k (mkTyL ks (k + 1))
def mkTyL : List Ty → Int → List Ty
 | [], _ => []
 | t :: ts, k => mkTy t k :: mkTyL ts (k + cntTy t)
end
mutual
def cntTm : Tm → Int
 | .mk _ _ _ ty fr _ ks => 6 + cntTyL ty.ks + cntTyL fr.ks + cntTmL ks
def cntTmL : List Tm → Int
 | [] => 0
 | t :: ts => cntTm t + cntTmL ts
end
mutual
def mkTm : Tm → Int → Tm
 | .mk _ _ _ ty fr _ ks, k => .mk k (mText (k + 1).toNat) (k + 1 + 1) (.mk (k + 1 + 1 + 1) (mkTyL ty.ks (k + 1 + 1 + 1 + 1))) (.mk (k + 1 + 1 + 1 + 1 + cntTyL ty.ks) (mkTyL fr.ks (k + 1 + 1 + 1 + 1 + cntTyL ty.ks + 1))) (k + 1 + 1 + 1 + 1 + cntTyL ty.ks + 1 + cntTyL fr.ks) (mkTmL ks (k + 1 + 1 + 1 + 1 + cntTyL ty.ks + 1 + cntTyL fr.ks + 1))
def mkTmL : List Tm → Int → List Tm
 | [], _ => []
 | t :: ts, k => mkTm t k :: mkTmL ts (k + cntTm t)
end
/- One element of a block. -/
section lend
variable {P : Program} {Γ : Ctx} {env : Env} {hp : List Ent} {G : IM} {K : Po} {ops : Array Oper} {rest : List Oper} {ty : TypeId} {pos : String} {af : Array Edge} {gd : Option (Nat × Bool)}
/-- A call that is lent blocks, gives a value and hands blocks back. -/
def Lent (v0 : Value) (G : IM) (Φ : Blks → Prop) : IM → Value → List Ent → Prop := fun G' v outs => G' = G ∧ v = v0 ∧ ∃ bs', outs = blks bs' ∧ Φ bs'
end lend
end Gw
end Go.Proofs.YtaoaeilognhfpaaDoor
namespace Go.Proofs.YtaoaeilognhfpaaDoor
open Go Go.RowKit
namespace Gw
end Gw
end Go.Proofs.YtaoaeilognhfpaaDoor
namespace Go.Proofs.YtaoaeilognhfpaaDoor
open Go Go.RowKit
namespace Gw
end Gw
end Go.Proofs.YtaoaeilognhfpaaDoor
namespace Go.Proofs.YtaoaeilognhfpaaDoor
open Go Go.RowKit
namespace Gw
/-- What a marked term's memory is. -/
def MTm (t : Tm) (k : Int) (cells : List Value) (bs : Blks) : Prop := ∃ pt ct pf cf p c bt bf bk,
 cells = [.int .i64 t.k, .string t.nm, .int .i64 t.num, .int .i64 t.ty.k, .slice pt t.ty.ks.length ct, .int .i64 t.fr.k, .slice pf t.fr.ks.length cf, .int .i64 t.lb, .slice p t.ks.length c] ∧
 OTyS (mkTyL t.ty.ks k) pt ct bt ∧ OTyS (mkTyL t.fr.ks (k + cntTyL t.ty.ks)) pf cf bf ∧ OTmS (mkTmL t.ks (k + cntTyL t.ty.ks + cntTyL t.fr.ks)) p c bk ∧ bs = bt ++ (bf ++ bk)
/- Paths. -/
def mkInts : Nat → Int → List Int
 | 0, _ => []
 | n + 1, k => k :: mkInts n (k + 1)
def OIs (l : List Int) (p : Option Addr) (c : Nat) (bs : Blks) : Prop :=
 l.length ≤ c ∧ c ≤ maxLen ∧ ((l = [] ∧ bs = []) ∨ ∃ b A C, p = some ⟨b, A.length, none⟩ ∧ bs = [(b, A ++ (ints l ++ C))])
/- Lists of paths. -/
def OPs : List (List Int) → List Value → Blks → Prop
 | [], es, bs => es = [] ∧ bs = []
 | l :: ls, es, bs => ∃ p c e' r1 r2, es = .slice p l.length c :: e' ∧ bs = r1 ++ r2 ∧ OIs l p c r1 ∧ OPs ls e' r2
def cntIs : List (List Int) → Int
 | [] => 0
 | l :: ls => l.length + cntIs ls
def mkIs : List (List Int) → Int → List (List Int)
 | [], _ => []
 | l :: ls, k => mkInts l.length k :: mkIs ls (k + l.length)
section lend0
variable {P : Program} {Γ : Ctx} {env : Env} {G : IM} {K : Po} {ops : Array Oper} {rest : List Oper} {ty : TypeId} {pos : String} {af : Array Edge} {gd : Option (Nat × Bool)}
end lend0
/-- Paths in memory that no longer changes. -/
def QPs (G : IM) : List (List Int) → List Value → Prop
 | [], es => es = []
 | l :: ls, es => ∃ p c r, es = .slice p l.length c :: r ∧ Sl G p l.length c 1 (ints l) ∧ QPs G ls r
end Gw
end Go.Proofs.YtaoaeilognhfpaaDoor
namespace Go.Proofs.YtaoaeilognhfpaaDoor
open Go Go.RowKit
namespace Gw
mutual
def szTy : Ty → Int
 | .mk _ ks => ks.length + sumTy ks
def sumTy : List Ty → Int
 | [] => 0
 | t :: ts => szTy t + sumTy ts
end
mutual
def szTm : Tm → Int
 | .mk _ nm _ ty fr _ ks => nm.size + szTy ty + szTy fr + (ks.length + sumTm ks)
def sumTm : List Tm → Int
 | [] => 0
 | t :: ts => szTm t + sumTm ts
end
mutual
theorem szTy_nn : ∀ t : Ty, 0 ≤ szTy t
 | .mk _ ks => by have := sumTy_nn ks; rw [szTy]; omega
theorem sumTy_nn : ∀ ts : List Ty, 0 ≤ sumTy ts
 | [] => by rw [sumTy]; omega
 | t :: ts => by have := szTy_nn t; have := sumTy_nn ts; rw [sumTy]; omega
end
theorem sumTy_append : ∀ a b : List Ty, sumTy (a ++ b) = sumTy a + sumTy b
 | [], b => by simp [sumTy]
 | t :: a, b => by rw [List.cons_append, sumTy, sumTy, sumTy_append a b]; omega
theorem sumTy_succ {ks : List Ty} {i : Nat} (hi : i < ks.length) : sumTy (ks.take (i + 1)) = sumTy (ks.take i) + szTy ks[i] := by
 rw [List.take_succ_eq_append_getElem hi, sumTy_append, sumTy, sumTy]; omega
theorem sumTy_take (ks : List Ty) (i : Nat) : sumTy (ks.take i) ≤ sumTy ks := by
 have h := sumTy_append (ks.take i) (ks.drop i)
 rw [List.take_append_drop] at h
 have := sumTy_nn (ks.drop i); omega
/- No name is longer than Go's strings are. -/
mutual
def Tm.nok : Tm → Prop
 | .mk _ nm _ _ _ _ ks => nm.size ≤ 9223372036854775807 ∧ Tm.nokL ks
def Tm.nokL : List Tm → Prop
 | [] => True
 | t :: ts => t.nok ∧ Tm.nokL ts
end
/-- What is left behind a measure. -/
def resI (left s : Int) : Int := if s ≤ left then left - s else -1
end Gw
end Go.Proofs.YtaoaeilognhfpaaDoor
namespace Go.Proofs.YtaoaeilognhfpaaDoor
open Go Go.RowKit Go.ChangeShapes Go.WideShapes Go.ChangeAt
namespace Gw
/-- All that is there. -/
def GW (w : World) : IM := fun b => match w.heap[b]? with
 | some (.cells c _ _) => some c.toList
 | _ => none
theorem own_GW (w : World) : Own [] (GW w) w := by
 refine ⟨?_, by simp, by simp [Fp], by simp [Fp]⟩
 intro b l h
 unfold GW at h
 split at h
 ·rename_i c e f hb; cases h; exact ⟨e, f, by simpa using hb⟩
 ·cases h
theorem cell_GW {w : World} {b o : Nat} {v : Value} (h : w.cell? ⟨b, o, none⟩ = some v) : ∃ full, GW w b = some full ∧ full[o]? = some v := by
 unfold World.cell? at h
 simp only at h
 split at h
 ·rename_i c e f hb
  exact ⟨c.toList, by simp [GW, hb], by simpa using h⟩
 ·cases h
theorem flat_inv {sz : Nat} : ∀ {es : List (List Value)}, (∀ e ∈ es, e.length = sz) → ∀ {j : Nat} {v : Value}, es.flatten[j]? = some v → ∃ i e r, es[i]? = some e ∧ e[r]? = some v ∧ j = i * sz + r
 | [], _, j, v, h => by simp at h
 | a :: es, hall, j, v, h => by
  have ha := hall a List.mem_cons_self
  rw [List.flatten_cons, List.getElem?_append] at h
  split at h
  ·exact ⟨0, a, j, rfl, h, by simp⟩
  ·rename_i hj
   obtain ⟨i, e, r, h1, h2, h3⟩ := flat_inv (fun x hx => hall x (List.mem_cons_of_mem _ hx)) h
   exact ⟨i + 1, e, r, by simpa using h1, h2, by rw [Nat.succ_mul]; omega⟩
theorem sl_read {w : World} {a : Addr} {n c sz : Nat} {es : List (List Value)} (hl : es.length = n) (hsz : 0 < sz) (hc : n ≤ c) (hm : c ≤ maxLen) (h : ∀ i e, es[i]? = some e → w.cells? 0 (a.add (i * sz)) sz = some e) : Sl (GW w) (some a) n c sz es.flatten := by
 have hall : ∀ e ∈ es, e.length = sz := by
  intro e he
  obtain ⟨i, hi⟩ := List.getElem?_of_mem he
  exact (World.cells?_some (h i e hi)).2.1
 refine ⟨by rw [flat_len hall, hl], hc, hm, ?_⟩
 rcases Nat.eq_zero_or_pos n with h0 | h0
 ·exact .inl h0
 ·right
  obtain ⟨b, o, s⟩ := a
  have hs : s = none := by
   have h1 := (World.cells?_some (h 0 es[0] (List.getElem?_eq_getElem (by omega)))).2
   have h2 := h1.2 0 hsz
   rw [List.getElem?_eq_getElem (by omega)] at h2
   simp only [Nat.zero_mul, Addr.add, if_true] at h2
   unfold World.cell? at h2
   split at h2
   ·split at h2
    ·cases h2
    ·rename_i hn; cases s with
     | none => rfl
     | some x => simp at hn
   ·cases h2
  subst hs
  have key : ∀ j v, es.flatten[j]? = some v → w.cell? ⟨b, o + j, none⟩ = some v := by
   intro j v hj
   obtain ⟨i, e, r, h1, h2, rfl⟩ := flat_inv hall hj
   have h3 := (World.cells?_some (h i e h1)).2
   have hr : r < e.length := (List.getElem?_eq_some_iff.1 h2).1
   have h4 := h3.2 r (by omega)
   rw [h2, add_none, add_none] at h4
   rw [← Nat.add_assoc]; exact h4
  have hpos : 0 < es.flatten.length := by rw [flat_len hall, hl]; exact Nat.mul_pos h0 hsz
  obtain ⟨full, hg, _⟩ := cell_GW (key 0 es.flatten[0] (List.getElem?_eq_getElem hpos))
  refine ⟨b, o, full, rfl, hg, fun j v hj => ?_⟩
  obtain ⟨full', hg', hv⟩ := cell_GW (key j v hj)
  rw [hg] at hg'; cases hg'; exact hv
theorem RTyL.snoc {G : IM} : ∀ {ts : List Ty} {es : List (List Value)} {t : Ty} {e : List Value}, RTyL G ts es → RTy G t e → RTyL G (ts ++ [t]) (es ++ [e])
 | [], es, t, e, h, h2 => by
  simp only [RTyL] at h; subst h
  simp only [List.nil_append, RTyL]
  exact ⟨e, [], rfl, h2, rfl⟩
 | t' :: ts, es, t, e, h, h2 => by
  simp only [RTyL] at h
  obtain ⟨a, r, rfl, h3, h4⟩ := h
  simp only [List.cons_append, RTyL]
  exact ⟨a, r ++ [e], rfl, h3, RTyL.snoc h4 h2⟩
theorem RTmL.snoc {G : IM} : ∀ {ts : List Tm} {es : List (List Value)} {t : Tm} {e : List Value}, RTmL G ts es → RTm G t e → RTmL G (ts ++ [t]) (es ++ [e])
 | [], es, t, e, h, h2 => by
  simp only [RTmL] at h; subst h
  simp only [List.nil_append, RTmL]
  exact ⟨e, [], rfl, h2, rfl⟩
 | t' :: ts, es, t, e, h, h2 => by
  simp only [RTmL] at h
  obtain ⟨a, r, rfl, h3, h4⟩ := h
  simp only [List.cons_append, RTmL]
  exact ⟨a, r ++ [e], rfl, h3, RTmL.snoc h4 h2⟩
theorem RTyL.each {G : IM} {ts : List Ty} {es : List (List Value)} (h : RTyL G ts es) : ∀ e ∈ es, e.length = 2 ∧ e.all (·.oneCell') = true := by
 intro e he
 obtain ⟨i, hi⟩ := List.getElem?_of_mem he
 have := (h.inv hi ty0).2
 exact ⟨this.len, this.one⟩
theorem RTmL.each {G : IM} {ts : List Tm} {es : List (List Value)} (h : RTmL G ts es) : ∀ e ∈ es, e.length = 9 ∧ e.all (·.oneCell') = true := by
 intro e he
 obtain ⟨i, hi⟩ := List.getElem?_of_mem he
 have := (h.inv hi (.mk 0 ⟨#[]⟩ 0 ty0 ty0 0 [])).2
 exact ⟨this.len, this.one⟩
section read
variable {H : Type} {enc : TypeId × Value → H} {w : World} {sp : Nat → Bool} {held : Bool}
end read
theorem Ext.below {w w' : World} (h : Ext (Fp []) w w') : Below w.heap.size w w' := ⟨h.os, h.tape, h.output, h.size, fun k hk => h.block k hk (by simp [Fp])⟩
section post
variable {H : Type} {enc : TypeId × Value → H} {P : Program}
/-- Nothing that was there has turned: the arguments read as they did. -/
theorem post_below {f : Func} {s : ChangeSpec} {apart fresh handsOn again : Bool} {W W' : World} {args : Array Value} {v : Value} {ds gs : List (DataW H)} {before : List MemPlace}
  (hW : DataW.Whole enc P f.params.toList s.vars apart W args.toList ds gs before) (hb : Below W.heap.size W W') (hgs : s.vars = [])
  (hres : ∀ (b : Nat) (sp : Nat → Bool) (hd : Bool), DataW.TrodAll enc P W' b sp hd f.resultTypes.toList (v.resultList f.resultTypes.size) (s.fn H (ds ++ gs)).results [])
  (hargs : ∀ sp : Nat → Bool, (∀ p ∈ before, sp p.block = true) → DataW.TrodAll enc P W' 0 sp true f.params.toList args.toList (s.fn H (ds ++ gs)).args before)
  (hv : (s.fn H (ds ++ gs)).vars = [])
  (hok : ∀ (j : Nat) (t : TypeId) (r : Value), f.resultTypes[j]? = some t → (v.resultList f.resultTypes.size)[j]? = some r → Value.okWide P W' .any 0 t r) :
  s.post enc P f apart fresh handsOn again W args v W' := by
 have hold : ∀ p ∈ before, (fun b => decide (b < W.heap.size)) p.block = true := fun p hp => by simpa using hW.lt p hp
 have hvars : ∀ sp : Nat → Bool, DataW.TrodVars enc P W' sp s.vars (s.fn H (ds ++ gs)).vars [] := fun sp => by rw [hgs, hv]; rfl
 have hkept : W.keptBut W' (fun _ => False) := by
  refine ⟨hb.os, hb.output, fun i hi => ?_⟩
  rw [hb.block i hi]
  split
  ·rename_i h1 h2; cases h1.symm.trans h2; exact ⟨rfl, rfl, rfl, fun _ _ => rfl⟩
  ·rename_i h1 h2; cases h1.symm.trans h2; exact .inr ⟨rfl, rfl⟩
  ·rfl
 refine ⟨ds, gs, before, [], before, [], hW, hres _ _ _, hargs _ hold, hvars _, World.keptBut_mono (fun p hp => hp.elim) hkept, fun _ => ?_⟩
 obtain ⟨_, _, _, _, _, hz, hn⟩ := hW
 refine ⟨hok, _, _, ([] ++ before) ++ [], ⟨[] ++ before, [], trodAll_append (hargs _ (fun _ _ => rfl)) (hres _ _ _), hvars _, rfl, ?_, ?_⟩, ?_⟩
 ·intro b off hp
  have hp' : MemPlace.cell b off ∈ before := by simpa using hp
  have hlt : b < W.heap.size := of_decide_eq_true (hold _ hp')
  have := hz b off hp'
  unfold World.frozen? at this ⊢
  simp only [hb.block b hlt]
  exact this
 ·intro ha; simpa using hn ha
 ·intro p hp _; simpa using hp
end post
end Gw
end Go.Proofs.YtaoaeilognhfpaaDoor
namespace Go.Proofs.YtaoaeilognhfpaaDoor
open Go Go.RowKit
namespace Gw
end Gw
end Go.Proofs.YtaoaeilognhfpaaDoor
namespace Go.Proofs.YtaoaeilognhfpaaDoor
open Go Go.RowKit
namespace Gw
/-- What a copy of a type comes to. -/
def ToTy (t : Ty) (G : IM) : IM → Value → List Ent → Prop := Imm fun G' v => ∃ cells' F, v = .agg ⟨cells'⟩ ∧ STy (Dif G' G) t cells' F ∧ F.Nodup
def ToTyS (ks : List Ty) (G : IM) : IM → Value → List Ent → Prop := Imm fun G' v => ∃ p c F, v = .slice p ks.length c ∧ STyS (Dif G' G) ks p c F ∧ F.Nodup
def ToTm (t : Tm) (G : IM) : IM → Value → List Ent → Prop := Imm fun G' v => ∃ cells' F, v = .agg ⟨cells'⟩ ∧ STm (Dif G' G) t cells' F ∧ F.Nodup
def ToTmS (ks : List Tm) (G : IM) : IM → Value → List Ent → Prop := Imm fun G' v => ∃ p c F, v = .slice p ks.length c ∧ STmS (Dif G' G) ks p c F ∧ F.Nodup
end Gw
end Go.Proofs.YtaoaeilognhfpaaDoor
namespace Go.Proofs.YtaoaeilognhfpaaDoor
open Go Go.RowKit
namespace Gw
/-- These blocks lie in G, and among F. -/
def InG (G : IM) (bs : Blks) (F : List Nat) : Prop := (bs.map Prod.fst).Sublist F ∧ ∀ q ∈ bs, G q.1 = some q.2
/- Sizes. -/
mutual
theorem count_sz : ∀ t : Tm, (tmCount t : Int) ≤ szTm t + 1
 | .mk _ nm _ ty fr _ ks => by
  have := count_szL ks
  have := szTy_nn ty
  have := szTy_nn fr
  rw [szTm, tmCount]; omega
theorem count_szL : ∀ ts : List Tm, (tmCountL ts : Int) ≤ ts.length + sumTm ts
 | [] => by rw [sumTm, tmCountL]; simp
 | t :: ts => by
  have := count_sz t
  have := count_szL ts
  rw [sumTm, tmCountL, List.length_cons]; omega
end
end Gw
end Go.Proofs.YtaoaeilognhfpaaDoor
namespace Go.Proofs.YtaoaeilognhfpaaDoor
open Go Go.RowKit
namespace Gw
set_option maxHeartbeats 0 in
set_option maxRecDepth 100000 in
theorem l1Copy_fn : ∀ (t : Ty) (G : IM) (cells : List Value), t.small → RTy G t cells → Fn Tryd.prog 56 [.agg ⟨cells⟩] [] G (ToTy t G) := by
 refine Ty.ind fun k ks ih G cells hts hr => ?_
 simp only [Ty.small] at hts
 obtain ⟨hsm, hks⟩ := hts
 obtain ⟨p, c, es, rfl, hk, hsl, hkl⟩ := hr.open
 simp only [Ty.k, Ty.ks] at hk hsl hkl ⊢
 have hn := hsl.le
 refine fn_enter Tryd.func56 rfl Tryd.ntmps56 Tryd.results56 rfl ?_
 intro w0
 refine tri_seq (tri_region ?_)
 (refine seq_step (step_box_a rfl rfl) rfl ?_; rintro _ ⟨b3, rfl⟩)
 (refine seq_step (step_alloc rfl) rfl ?_; rintro _ ⟨b4, rfl⟩)
 refine seq_done (nrm_seq (tri_seq (tri_region (seq_pure (pure_fieldAddr0 rfl) rfl rfl ?_))))
 refine seq_load (load_bs rfl rfl (by repeat first | exact mH | apply mT) (by rfl)) rfl rfl ?_
 refine seq_pure (pure_build rfl rfl) rfl rfl ?_
 (refine seq_step (step_alloc rfl) rfl ?_; rintro _ ⟨b12, rfl⟩)
 refine seq_store rfl rfl rfl rfl rfl rfl (by repeat first | exact Sw.here | apply Sw.there) (by rfl) ?_
 refine seq_done (nrm_seq (tri_seq (tri_seq (tri_region (seq_pure (pure_assign rfl) rfl rfl ?_)))))
 refine seq_done (nrm_seq (tri_block ?_))
 (refine tri_nil 85 2 ?_; refine tri_loopN (fun (x : Nat × Option Addr × Nat × List (List Value) × List Nat × IM) => ⟨[(4, .int .i64 x.1), (3, .pointer (some ⟨b12, 0, none⟩)), (1, .pointer (some ⟨b3, 0, none⟩)), (2, .pointer (some ⟨b4, 0, none⟩))], [.blk b12 [.int .i64 k, .slice x.2.1 x.1 x.2.2.1], .slc x.2.1 x.2.2.1 85 2 x.1 x.2.2.2.1.flatten, .blk b4 [.int .i64 0, .slice none 0 0], .blk b3 [.int .i64 k, .slice p ks.length c]], x.2.2.2.2.2⟩) (fun x => x.1 ≤ ks.length ∧ IMle G x.2.2.2.2.2 ∧ STyL (Dif x.2.2.2.2.2 G) (ks.take x.1) x.2.2.2.1 x.2.2.2.2.1 ∧ x.2.2.2.2.1.Nodup) (fun x => ks.length - x.1) (0, none, 0, [], [], G) ?_ ?_ ?_)
 (simp only [flat_snoc]; exact sub_mk (by repeat (first | exact SubE.nil | refine SubE.cons rfl ?_)) (by repeat (first | exact SubH.refl | exact SubH.nil | refine SubH.cons (by repeat (first | exact Pk.here | apply Pk.there)) ?_ | apply SubH.drop)))
 exact ⟨by simp, IMle.refl _, by simp [STyL], by simp⟩
 (rintro ⟨i, pn, cn, es', F, Gi⟩ ⟨hi, hle, hst, hnd⟩; simp only [] at hi hle hst hnd ⊢; replace hsl := hsl.mono hle; replace hkl := hkl.mono hle)
 refine tri_seq (tri_seq (tri_region (seq_pure (pure_move rfl) rfl rfl ?_)))
 refine seq_pure (pure_fieldAddr0 rfl) rfl rfl ?_
 refine seq_load (load_bs rfl rfl (by repeat first | exact mH | apply mT) (by rfl)) rfl rfl ?_
 refine seq_pure (pure_len rfl rfl) rfl rfl ?_
 refine seq_bool (pure_lss rfl rfl) rfl rfl (fun h34 => ?_) (fun h34 => ?_)
 refine seq_done (nrm_seq (tri_cond_t rfl ?_))
 refine tri_skip (nrm_seq (tri_seq (tri_block ?_)))
 (obtain ⟨b, o, p2, c2, rfl, hat, hre, hgb⟩ := hsl.kidTy hkl (i := i) (by omega) (by omega); refine tri_draw mixed rfl ?_)
 refine any_pure (i := 0) (listed' := [tt,ff,ff,ff,ff,ff,ff,ff,ff,ff,ff,ff]) rfl npI (pure_fieldAddr0 rfl) rfl (by kernel_rfl) rfl rfl ?_
 refine any_load (i := 1) (listed' := [tt,tt,ff,ff,ff,ff,ff,ff,ff,ff,ff,ff]) rfl npI (load_bs rfl rfl (by repeat first | exact mH | apply mT) (by rfl)) rfl (by kernel_rfl) rfl rfl ?_
 refine any_pure (i := 2) (listed' := [tt,tt,tt,ff,ff,ff,ff,ff,ff,ff,ff,ff]) rfl npI (pure_fieldAddr0 rfl) rfl (by kernel_rfl) rfl rfl ?_
 refine any_load (i := 3) (listed' := [tt,tt,tt,tt,ff,ff,ff,ff,ff,ff,ff,ff]) rfl npI (load_bs rfl rfl (by repeat first | exact mH | apply mT) (by rfl)) rfl (by kernel_rfl) rfl rfl ?_
 refine any_pure (i := 4) (listed' := [tt,tt,tt,tt,tt,ff,ff,ff,ff,ff,ff,ff]) rfl npI (pure_move rfl) rfl (by kernel_rfl) rfl rfl ?_
 refine any_pure (i := 5) (listed' := [tt,tt,tt,tt,tt,tt,ff,ff,ff,ff,ff,ff]) rfl npI (pure_indexAddrN rfl rfl rfl (by omega)) rfl (by kernel_rfl) rfl rfl ?_
 refine any_load (i := 6) (listed' := [tt,tt,tt,tt,tt,tt,tt,ff,ff,ff,ff,ff]) rfl npI (load_a rfl rfl (hat _) rfl) rfl (by kernel_rfl) rfl rfl ?_
 refine any_one (j := 7) (by kernel_rfl) ?_
 (refine one_imm (listed' := [tt,tt,tt,tt,tt,tt,tt,tt,ff,ff,ff,ff]) rfl rfl (ih ks[i] (List.getElem_mem (by omega)) _ _ (Ty.smallL_mem hks _ (List.getElem_mem (by omega))) hre) rfl rfl rfl (fun v G1 hle1 hh => ?_); obtain ⟨cells', F', rfl, hs', hnd'⟩ := hh; obtain ⟨p3, c3, es3, rfl, _⟩ := hs'.R.open)
 refine any_one (j := 8) (by kernel_rfl) ?_
 (refine one_step0 (listed' := [tt,tt,tt,tt,tt,tt,tt,tt,tt,ff,ff,ff]) rfl (step_buildSlice rfl rfl rfl (by omega) (by unfold maxLen; omega) rfl) rfl rfl ?_; rintro _ ⟨b53, rfl⟩)
 refine any_one (j := 9) (by kernel_rfl) ?_
 refine one_append (listed' := [tt,tt,tt,tt,tt,tt,tt,tt,tt,tt,ff,ff]) rfl rfl rfl rfl rfl rfl (fun _ _ => by repeat (first | exact Sw.here | apply Sw.there)) (at_slc_all (by repeat first | exact mH | apply mT)) rfl (by simp [Value.oneCell']) (by unfold maxLen; omega) (by omega) rfl rfl (by repeat (first | exact HmOk.nil | apply HmOk.dep (by decide +kernel) | apply HmOk.blk (by decide +kernel) (by repeat (first | exact Pk.here | apply Pk.there)) (by repeat first | exact mH | apply mT))) (fun pn' cn' => ?_)
 refine any_pure (i := 10) (listed' := [tt,tt,tt,tt,tt,tt,tt,tt,tt,tt,tt,ff]) rfl npI (pure_fieldAddr0 rfl) rfl (by kernel_rfl) rfl rfl ?_
 refine any_one (j := 11) (by kernel_rfl) ?_
 refine one_store (listed' := [tt,tt,tt,tt,tt,tt,tt,tt,tt,tt,tt,tt]) rfl rfl rfl rfl rfl rfl rfl rfl (by kernel_rfl) (by repeat first | exact Sw.here | apply Sw.there) (by rfl) ?_
 refine any_done (by kernel_rfl) ?_
 refine nrm_block (nrm_seq (tri_region (seq_pure (pure_move rfl) rfl rfl ?_)))
 refine seq_pure (pure_add rfl rfl (by omega) (by omega)) rfl rfl ?_
 refine seq_pure (pure_assign rfl) rfl rfl ?_
 refine seq_done (nrm_loopN (i + 1, pn', cn', es' ++ [[.int .i64 ks[i].k, .slice p3 ks[i].ks.length c3]], F ++ F', G1) ?_ ?_ ?_)
 (simp only [flat_snoc]; exact sub_mk (by repeat (first | exact SubE.nil | refine SubE.cons rfl ?_)) (by repeat (first | exact SubH.refl | exact SubH.nil | refine SubH.cons (by repeat (first | exact Pk.here | apply Pk.there)) ?_ | apply SubH.drop)))
 exact ⟨by omega, hle.trans hle1, STyL.step hst hnd hle hle1 (by omega) hs' hnd'⟩
 (show ks.length - (i + 1) < ks.length - i; omega)
 refine seq_done (nrm_seq (tri_cond_f rfl ?_))
 refine tri_exit ?_
 refine ext_seq ?_
 refine ext_loopN ?_
 refine ext_block_eq ?_
 refine nrm_seq (tri_seq (tri_region (seq_load (load_ba rfl rfl (by repeat first | exact mH | apply mT) (by rfl)) rfl rfl ?_)))
 refine seq_store rfl rfl rfl rfl rfl rfl (by repeat first | exact Sw.here | apply Sw.there) (by rfl) ?_
 refine seq_done (nrm_seq ?_)
 (refine ret_freeze (by repeat (first | exact Pk.here | apply Pk.there)) (fun G2 hle2 hsl2 hno2 => ?_); obtain rfl : i = ks.length := (by omega))
 refine tri_ret (ret_fin1 (res_cell rfl (load_ba rfl rfl (by repeat first | exact mH | apply mT) (by rfl))) ?_)
 (rw [List.take_length] at hst; obtain ⟨F2, hf1, hf2⟩ := STy.fin hst hnd hle hle2 hsl2 hno2 hk; exact ⟨rfl, _, F2, rfl, hf1, hf2⟩)
end Gw
end Go.Proofs.YtaoaeilognhfpaaDoor
namespace Go.Proofs.YtaoaeilognhfpaaDoor
open Go Go.RowKit
namespace Gw
mutual
def mMap (g : Tm → Tm) : Tm → Tm
 | .mk k nm num ty fr lb ks => g (.mk k nm num ty fr lb (mMapL g ks))
def mMapL (g : Tm → Tm) : List Tm → List Tm
 | [] => []
 | t :: ts => mMap g t :: mMapL g ts
end
/- What is asked of every node that comes to the change. -/
mutual
def mOk (Q : Tm → Prop) (g : Tm → Tm) : Tm → Prop
 | .mk k nm num ty fr lb ks => mOkL Q g ks ∧ Q (.mk k nm num ty fr lb (mMapL g ks))
def mOkL (Q : Tm → Prop) (g : Tm → Tm) : List Tm → Prop
 | [] => True
 | t :: ts => mOk Q g t ∧ mOkL Q g ts
end
/-- What is asked of a change of nodes. -/
def MapOk (g : Tm → Tm) (Q : Tm → Prop) (fid : FuncId) (us cs : List Value) : Prop := ∀ (t : Tm) (G0 G1 : IM) (cells : List Value) (F : List Nat), Q t → IMle G0 G1 → STm (Dif G1 G0) t cells F → F.Nodup →
 Fn Tryd.prog fid (us ++ [.agg ⟨cells⟩] ++ cs) [] G1 (Imm fun G2 v => ∃ cells' F', v = .agg ⟨cells'⟩ ∧ STm (Dif G2 G0) (g t) cells' F' ∧ F'.Nodup)
end Gw
end Go.Proofs.YtaoaeilognhfpaaDoor
namespace Go.Proofs.YtaoaeilognhfpaaDoor
open Go Go.RowKit
namespace Gw
set_option maxRecDepth 100000 in
theorem within_fn (n lo hi : Int) (G : IM) : Fn Tryd.prog 17 [.int .i64 n, .int .i64 lo, .int .i64 hi] [] G (Val (.bool (withinB n lo hi)) G) := by
 refine fn_enter Tryd.func17 rfl Tryd.ntmps17 Tryd.results17 rfl ?_
 intro w0
 refine tri_seq (tri_region (seq_pure (pure_assign rfl) rfl rfl ?_))
 refine seq_done (nrm_seq (tri_seq (tri_region (seq_pure (pure_move rfl) rfl rfl ?_))))
 refine seq_pure (pure_move rfl) rfl rfl ?_
 refine seq_bool (pure_leq rfl rfl) rfl rfl (fun h10 => ?_) (fun h10 => ?_)
 refine seq_pure (pure_move rfl) rfl rfl ?_
 refine seq_pure (pure_move rfl) rfl rfl ?_
 refine seq_pure (pure_move rfl) rfl rfl ?_
 refine seq_bool (pure_leq rfl rfl) rfl rfl (fun h14 => ?_) (fun h14 => ?_)
 refine seq_pure (pure_pick_t rfl rfl) rfl rfl ?_
 refine seq_pure (pure_assign rfl) rfl rfl ?_
 refine seq_done (nrm_seq (tri_ret (ret_fin1 (res_tmp rfl) ?_)))
 exact ⟨rfl, by simp [withinB]; omega, rfl⟩
 refine seq_pure (pure_pick_t rfl rfl) rfl rfl ?_
 refine seq_pure (pure_assign rfl) rfl rfl ?_
 refine seq_done (nrm_seq (tri_ret (ret_fin1 (res_tmp rfl) ?_)))
 exact ⟨rfl, by simp [withinB]; omega, rfl⟩
 refine seq_pure (pure_move rfl) rfl rfl ?_
 refine seq_skip rfl rfl ?_
 refine seq_skip rfl rfl ?_
 refine seq_skip rfl rfl ?_
 refine seq_pure (pure_pick_f rfl rfl) rfl rfl ?_
 refine seq_pure (pure_assign rfl) rfl rfl ?_
 refine seq_done (nrm_seq (tri_ret (ret_fin1 (res_tmp rfl) ?_)))
 exact ⟨rfl, by simp [withinB]; omega, rfl⟩
end Gw
end Go.Proofs.YtaoaeilognhfpaaDoor
namespace Go.Proofs.YtaoaeilognhfpaaDoor
open Go Go.RowKit
namespace Gw
end Gw
end Go.Proofs.YtaoaeilognhfpaaDoor
namespace Go.Proofs.YtaoaeilognhfpaaDoor
open Go Go.RowKit
namespace Gw
end Gw
end Go.Proofs.YtaoaeilognhfpaaDoor
namespace Go.Proofs.YtaoaeilognhfpaaDoor
open Go Go.RowKit
namespace Gw
end Gw
end Go.Proofs.YtaoaeilognhfpaaDoor
namespace Go.Proofs.YtaoaeilognhfpaaDoor
open Go Go.RowKit
namespace Gw
end Gw
end Go.Proofs.YtaoaeilognhfpaaDoor
namespace Go.Proofs.YtaoaeilognhfpaaDoor
open Go Go.RowKit
namespace Gw
end Gw
end Go.Proofs.YtaoaeilognhfpaaDoor
namespace Go.Proofs.YtaoaeilognhfpaaDoor
open Go Go.RowKit
namespace Gw
set_option maxRecDepth 100000 in
theorem l1Kids_fn (k : Int) (G : IM) : Fn Tryd.prog 63 [.int .i64 k] [] G (Val (.int .i64 (tyOps k)) G) := by
 refine fn_enter Tryd.func63 rfl Tryd.ntmps63 Tryd.results63 rfl ?_
 intro w0
 refine tri_seq (tri_region (seq_pure (pure_assign rfl) rfl rfl ?_))
 refine seq_done (nrm_seq (tri_seq (tri_seq (tri_region (seq_pure (pure_move rfl) rfl rfl ?_)))))
 refine seq_done (nrm_seq (tri_block (tri_seq (tri_seq (tri_region (seq_bool (pure_eql rfl rfl) rfl rfl (fun h16 => ?_) (fun h16 => ?_)))))))
 refine seq_pure (pure_assign rfl) rfl rfl ?_
 refine seq_done (nrm_seq (tri_cond_t rfl ?_))
 refine tri_skip (nrm_seq (tri_cond_t rfl ?_))
 refine tri_seq (tri_region (seq_pure (pure_assign rfl) rfl rfl ?_))
 refine seq_done (nrm_seq (tri_ret (ret_block (ret_seq (ret_fin1 (res_tmp rfl) ?_)))))
 exact ⟨rfl, by (first | rw [(tyOps_spec k).1 (by omega)] | rw [(tyOps_spec k).2.1 (by omega)] | rw [(tyOps_spec k).2.2 (by omega) (by omega) (by omega) (by omega) (by omega)]), rfl⟩
 refine seq_pure (pure_assign rfl) rfl rfl ?_
 refine seq_done (nrm_seq (tri_cond_f rfl ?_))
 refine tri_seq (tri_region (seq_bool (pure_eql rfl rfl) rfl rfl (fun h40 => ?_) (fun h40 => ?_)))
 refine seq_pure (pure_assign rfl) rfl rfl ?_
 refine seq_done (nrm_seq (tri_cond_t rfl ?_))
 refine tri_skip (nrm_seq (tri_cond_t rfl ?_))
 refine tri_seq (tri_region (seq_pure (pure_assign rfl) rfl rfl ?_))
 refine seq_done (nrm_seq (tri_ret (ret_block (ret_seq (ret_fin1 (res_tmp rfl) ?_)))))
 exact ⟨rfl, by (first | rw [(tyOps_spec k).1 (by omega)] | rw [(tyOps_spec k).2.1 (by omega)] | rw [(tyOps_spec k).2.2 (by omega) (by omega) (by omega) (by omega) (by omega)]), rfl⟩
 refine seq_pure (pure_assign rfl) rfl rfl ?_
 refine seq_done (nrm_seq (tri_cond_f rfl ?_))
 refine tri_region (seq_bool (pure_eql rfl rfl) rfl rfl (fun h63 => ?_) (fun h63 => ?_))
 refine seq_pure (pure_assign rfl) rfl rfl ?_
 refine seq_done (nrm_seq (tri_cond_t rfl ?_))
 refine tri_seq (tri_region (seq_pure (pure_assign rfl) rfl rfl ?_))
 refine seq_done (nrm_seq (tri_ret (ret_block (ret_seq (ret_fin1 (res_tmp rfl) ?_)))))
 exact ⟨rfl, by (first | rw [(tyOps_spec k).1 (by omega)] | rw [(tyOps_spec k).2.1 (by omega)] | rw [(tyOps_spec k).2.2 (by omega) (by omega) (by omega) (by omega) (by omega)]), rfl⟩
 refine seq_pure (pure_assign rfl) rfl rfl ?_
 refine seq_done (nrm_seq (tri_cond_f rfl ?_))
 refine tri_seq (tri_seq (tri_region (seq_bool (pure_eql rfl rfl) rfl rfl (fun h85 => ?_) (fun h85 => ?_))))
 refine seq_pure (pure_assign rfl) rfl rfl ?_
 refine seq_done (nrm_seq (tri_cond_t rfl ?_))
 refine tri_skip (nrm_seq (tri_cond_t rfl ?_))
 refine tri_seq (tri_region (seq_pure (pure_assign rfl) rfl rfl ?_))
 refine seq_done (nrm_seq (tri_ret (ret_block (ret_seq (ret_fin1 (res_tmp rfl) ?_)))))
 exact ⟨rfl, by (first | rw [(tyOps_spec k).1 (by omega)] | rw [(tyOps_spec k).2.1 (by omega)] | rw [(tyOps_spec k).2.2 (by omega) (by omega) (by omega) (by omega) (by omega)]), rfl⟩
 refine seq_pure (pure_assign rfl) rfl rfl ?_
 refine seq_done (nrm_seq (tri_cond_f rfl ?_))
 refine tri_region (seq_bool (pure_eql rfl rfl) rfl rfl (fun h108 => ?_) (fun h108 => ?_))
 refine seq_pure (pure_assign rfl) rfl rfl ?_
 refine seq_done (nrm_seq (tri_cond_t rfl ?_))
 refine tri_seq (tri_region (seq_pure (pure_assign rfl) rfl rfl ?_))
 refine seq_done (nrm_seq (tri_ret (ret_block (ret_seq (ret_fin1 (res_tmp rfl) ?_)))))
 exact ⟨rfl, by (first | rw [(tyOps_spec k).1 (by omega)] | rw [(tyOps_spec k).2.1 (by omega)] | rw [(tyOps_spec k).2.2 (by omega) (by omega) (by omega) (by omega) (by omega)]), rfl⟩
 refine seq_pure (pure_assign rfl) rfl rfl ?_
 refine seq_done (nrm_seq (tri_cond_f rfl ?_))
 refine tri_skip (nrm_block (nrm_seq (tri_seq (tri_region (seq_pure (pure_assign rfl) rfl rfl ?_)))))
 refine seq_done (nrm_seq (tri_ret (ret_fin1 (res_tmp rfl) ?_)))
 exact ⟨rfl, by (first | rw [(tyOps_spec k).1 (by omega)] | rw [(tyOps_spec k).2.1 (by omega)] | rw [(tyOps_spec k).2.2 (by omega) (by omega) (by omega) (by omega) (by omega)]), rfl⟩
set_option maxRecDepth 100000 in
theorem l2Kids_fn (k : Int) (G : IM) : Fn Tryd.prog 68 [.int .i64 k] [] G (Val (.int .i64 (tmOps k)) G) := by
 refine fn_enter Tryd.func68 rfl Tryd.ntmps68 Tryd.results68 rfl ?_
 intro w0
 refine tri_seq (tri_region (seq_pure (pure_assign rfl) rfl rfl ?_))
 refine seq_done (nrm_seq (tri_seq (tri_seq (tri_region (seq_pure (pure_move rfl) rfl rfl ?_)))))
 refine seq_done (nrm_seq (tri_block (tri_seq (tri_seq (tri_region (seq_bool (pure_eql rfl rfl) rfl rfl (fun h16 => ?_) (fun h16 => ?_)))))))
 refine seq_pure (pure_assign rfl) rfl rfl ?_
 refine seq_done (nrm_seq (tri_cond_t rfl ?_))
 refine tri_skip (nrm_seq (tri_cond_t rfl ?_))
 refine tri_seq (tri_region (seq_pure (pure_assign rfl) rfl rfl ?_))
 refine seq_done (nrm_seq (tri_ret (ret_block (ret_seq (ret_fin1 (res_tmp rfl) ?_)))))
 exact ⟨rfl, by (unfold tmOps; first | rw [if_pos (by omega)] | rw [if_neg (by omega), if_pos (by omega)] | rw [if_neg (by omega), if_neg (by omega), if_pos (by omega)] | rw [if_neg (by omega), if_neg (by omega), if_neg (by omega), if_pos (by omega)] | rw [if_neg (by omega), if_neg (by omega), if_neg (by omega), if_neg (by omega)]), rfl⟩
 refine seq_pure (pure_assign rfl) rfl rfl ?_
 refine seq_done (nrm_seq (tri_cond_f rfl ?_))
 refine tri_seq (tri_region (seq_bool (pure_eql rfl rfl) rfl rfl (fun h40 => ?_) (fun h40 => ?_)))
 refine seq_pure (pure_assign rfl) rfl rfl ?_
 refine seq_done (nrm_seq (tri_cond_t rfl ?_))
 refine tri_skip (nrm_seq (tri_cond_t rfl ?_))
 refine tri_seq (tri_region (seq_pure (pure_assign rfl) rfl rfl ?_))
 refine seq_done (nrm_seq (tri_ret (ret_block (ret_seq (ret_fin1 (res_tmp rfl) ?_)))))
 exact ⟨rfl, by (unfold tmOps; first | rw [if_pos (by omega)] | rw [if_neg (by omega), if_pos (by omega)] | rw [if_neg (by omega), if_neg (by omega), if_pos (by omega)] | rw [if_neg (by omega), if_neg (by omega), if_neg (by omega), if_pos (by omega)] | rw [if_neg (by omega), if_neg (by omega), if_neg (by omega), if_neg (by omega)]), rfl⟩
 refine seq_pure (pure_assign rfl) rfl rfl ?_
 refine seq_done (nrm_seq (tri_cond_f rfl ?_))
 refine tri_seq (tri_region (seq_bool (pure_eql rfl rfl) rfl rfl (fun h64 => ?_) (fun h64 => ?_)))
 refine seq_pure (pure_assign rfl) rfl rfl ?_
 refine seq_done (nrm_seq (tri_cond_t rfl ?_))
 refine tri_skip (nrm_seq (tri_cond_t rfl ?_))
 refine tri_seq (tri_region (seq_pure (pure_assign rfl) rfl rfl ?_))
 refine seq_done (nrm_seq (tri_ret (ret_block (ret_seq (ret_fin1 (res_tmp rfl) ?_)))))
 exact ⟨rfl, by (unfold tmOps; first | rw [if_pos (by omega)] | rw [if_neg (by omega), if_pos (by omega)] | rw [if_neg (by omega), if_neg (by omega), if_pos (by omega)] | rw [if_neg (by omega), if_neg (by omega), if_neg (by omega), if_pos (by omega)] | rw [if_neg (by omega), if_neg (by omega), if_neg (by omega), if_neg (by omega)]), rfl⟩
 refine seq_pure (pure_assign rfl) rfl rfl ?_
 refine seq_done (nrm_seq (tri_cond_f rfl ?_))
 refine tri_region (seq_bool (pure_eql rfl rfl) rfl rfl (fun h87 => ?_) (fun h87 => ?_))
 refine seq_pure (pure_assign rfl) rfl rfl ?_
 refine seq_done (nrm_seq (tri_cond_t rfl ?_))
 refine tri_seq (tri_region (seq_pure (pure_assign rfl) rfl rfl ?_))
 refine seq_done (nrm_seq (tri_ret (ret_block (ret_seq (ret_fin1 (res_tmp rfl) ?_)))))
 exact ⟨rfl, by (unfold tmOps; first | rw [if_pos (by omega)] | rw [if_neg (by omega), if_pos (by omega)] | rw [if_neg (by omega), if_neg (by omega), if_pos (by omega)] | rw [if_neg (by omega), if_neg (by omega), if_neg (by omega), if_pos (by omega)] | rw [if_neg (by omega), if_neg (by omega), if_neg (by omega), if_neg (by omega)]), rfl⟩
 refine seq_pure (pure_assign rfl) rfl rfl ?_
 refine seq_done (nrm_seq (tri_cond_f rfl ?_))
 refine tri_seq (tri_seq (tri_region (seq_bool (pure_eql rfl rfl) rfl rfl (fun h109 => ?_) (fun h109 => ?_))))
 refine seq_pure (pure_assign rfl) rfl rfl ?_
 refine seq_done (nrm_seq (tri_cond_t rfl ?_))
 refine tri_skip (nrm_seq (tri_cond_t rfl ?_))
 refine tri_seq (tri_region (seq_pure (pure_assign rfl) rfl rfl ?_))
 refine seq_done (nrm_seq (tri_ret (ret_block (ret_seq (ret_fin1 (res_tmp rfl) ?_)))))
 exact ⟨rfl, by (unfold tmOps; first | rw [if_pos (by omega)] | rw [if_neg (by omega), if_pos (by omega)] | rw [if_neg (by omega), if_neg (by omega), if_pos (by omega)] | rw [if_neg (by omega), if_neg (by omega), if_neg (by omega), if_pos (by omega)] | rw [if_neg (by omega), if_neg (by omega), if_neg (by omega), if_neg (by omega)]), rfl⟩
 refine seq_pure (pure_assign rfl) rfl rfl ?_
 refine seq_done (nrm_seq (tri_cond_f rfl ?_))
 refine tri_seq (tri_region (seq_bool (pure_eql rfl rfl) rfl rfl (fun h133 => ?_) (fun h133 => ?_)))
 refine seq_pure (pure_assign rfl) rfl rfl ?_
 refine seq_done (nrm_seq (tri_cond_t rfl ?_))
 refine tri_skip (nrm_seq (tri_cond_t rfl ?_))
 refine tri_seq (tri_region (seq_pure (pure_assign rfl) rfl rfl ?_))
 refine seq_done (nrm_seq (tri_ret (ret_block (ret_seq (ret_fin1 (res_tmp rfl) ?_)))))
 exact ⟨rfl, by (unfold tmOps; first | rw [if_pos (by omega)] | rw [if_neg (by omega), if_pos (by omega)] | rw [if_neg (by omega), if_neg (by omega), if_pos (by omega)] | rw [if_neg (by omega), if_neg (by omega), if_neg (by omega), if_pos (by omega)] | rw [if_neg (by omega), if_neg (by omega), if_neg (by omega), if_neg (by omega)]), rfl⟩
 refine seq_pure (pure_assign rfl) rfl rfl ?_
 refine seq_done (nrm_seq (tri_cond_f rfl ?_))
 refine tri_seq (tri_region (seq_bool (pure_eql rfl rfl) rfl rfl (fun h157 => ?_) (fun h157 => ?_)))
 refine seq_pure (pure_assign rfl) rfl rfl ?_
 refine seq_done (nrm_seq (tri_cond_t rfl ?_))
 refine tri_skip (nrm_seq (tri_cond_t rfl ?_))
 refine tri_seq (tri_region (seq_pure (pure_assign rfl) rfl rfl ?_))
 refine seq_done (nrm_seq (tri_ret (ret_block (ret_seq (ret_fin1 (res_tmp rfl) ?_)))))
 exact ⟨rfl, by (unfold tmOps; first | rw [if_pos (by omega)] | rw [if_neg (by omega), if_pos (by omega)] | rw [if_neg (by omega), if_neg (by omega), if_pos (by omega)] | rw [if_neg (by omega), if_neg (by omega), if_neg (by omega), if_pos (by omega)] | rw [if_neg (by omega), if_neg (by omega), if_neg (by omega), if_neg (by omega)]), rfl⟩
 refine seq_pure (pure_assign rfl) rfl rfl ?_
 refine seq_done (nrm_seq (tri_cond_f rfl ?_))
 refine tri_seq (tri_region (seq_bool (pure_eql rfl rfl) rfl rfl (fun h181 => ?_) (fun h181 => ?_)))
 refine seq_pure (pure_assign rfl) rfl rfl ?_
 refine seq_done (nrm_seq (tri_cond_t rfl ?_))
 refine tri_skip (nrm_seq (tri_cond_t rfl ?_))
 refine tri_seq (tri_region (seq_pure (pure_assign rfl) rfl rfl ?_))
 refine seq_done (nrm_seq (tri_ret (ret_block (ret_seq (ret_fin1 (res_tmp rfl) ?_)))))
 exact ⟨rfl, by (unfold tmOps; first | rw [if_pos (by omega)] | rw [if_neg (by omega), if_pos (by omega)] | rw [if_neg (by omega), if_neg (by omega), if_pos (by omega)] | rw [if_neg (by omega), if_neg (by omega), if_neg (by omega), if_pos (by omega)] | rw [if_neg (by omega), if_neg (by omega), if_neg (by omega), if_neg (by omega)]), rfl⟩
 refine seq_pure (pure_assign rfl) rfl rfl ?_
 refine seq_done (nrm_seq (tri_cond_f rfl ?_))
 refine tri_region (seq_bool (pure_eql rfl rfl) rfl rfl (fun h204 => ?_) (fun h204 => ?_))
 refine seq_pure (pure_assign rfl) rfl rfl ?_
 refine seq_done (nrm_seq (tri_cond_t rfl ?_))
 refine tri_seq (tri_region (seq_pure (pure_assign rfl) rfl rfl ?_))
 refine seq_done (nrm_seq (tri_ret (ret_block (ret_seq (ret_fin1 (res_tmp rfl) ?_)))))
 exact ⟨rfl, by (unfold tmOps; first | rw [if_pos (by omega)] | rw [if_neg (by omega), if_pos (by omega)] | rw [if_neg (by omega), if_neg (by omega), if_pos (by omega)] | rw [if_neg (by omega), if_neg (by omega), if_neg (by omega), if_pos (by omega)] | rw [if_neg (by omega), if_neg (by omega), if_neg (by omega), if_neg (by omega)]), rfl⟩
 refine seq_pure (pure_assign rfl) rfl rfl ?_
 refine seq_done (nrm_seq (tri_cond_f rfl ?_))
 refine tri_seq (tri_seq (tri_region (seq_bool (pure_eql rfl rfl) rfl rfl (fun h226 => ?_) (fun h226 => ?_))))
 refine seq_pure (pure_assign rfl) rfl rfl ?_
 refine seq_done (nrm_seq (tri_cond_t rfl ?_))
 refine tri_skip (nrm_seq (tri_cond_t rfl ?_))
 refine tri_seq (tri_region (seq_pure (pure_assign rfl) rfl rfl ?_))
 refine seq_done (nrm_seq (tri_ret (ret_block (ret_seq (ret_fin1 (res_tmp rfl) ?_)))))
 exact ⟨rfl, by (unfold tmOps; first | rw [if_pos (by omega)] | rw [if_neg (by omega), if_pos (by omega)] | rw [if_neg (by omega), if_neg (by omega), if_pos (by omega)] | rw [if_neg (by omega), if_neg (by omega), if_neg (by omega), if_pos (by omega)] | rw [if_neg (by omega), if_neg (by omega), if_neg (by omega), if_neg (by omega)]), rfl⟩
 refine seq_pure (pure_assign rfl) rfl rfl ?_
 refine seq_done (nrm_seq (tri_cond_f rfl ?_))
 refine tri_seq (tri_region (seq_bool (pure_eql rfl rfl) rfl rfl (fun h250 => ?_) (fun h250 => ?_)))
 refine seq_pure (pure_assign rfl) rfl rfl ?_
 refine seq_done (nrm_seq (tri_cond_t rfl ?_))
 refine tri_skip (nrm_seq (tri_cond_t rfl ?_))
 refine tri_seq (tri_region (seq_pure (pure_assign rfl) rfl rfl ?_))
 refine seq_done (nrm_seq (tri_ret (ret_block (ret_seq (ret_fin1 (res_tmp rfl) ?_)))))
 exact ⟨rfl, by (unfold tmOps; first | rw [if_pos (by omega)] | rw [if_neg (by omega), if_pos (by omega)] | rw [if_neg (by omega), if_neg (by omega), if_pos (by omega)] | rw [if_neg (by omega), if_neg (by omega), if_neg (by omega), if_pos (by omega)] | rw [if_neg (by omega), if_neg (by omega), if_neg (by omega), if_neg (by omega)]), rfl⟩
 refine seq_pure (pure_assign rfl) rfl rfl ?_
 refine seq_done (nrm_seq (tri_cond_f rfl ?_))
 refine tri_seq (tri_region (seq_bool (pure_eql rfl rfl) rfl rfl (fun h274 => ?_) (fun h274 => ?_)))
 refine seq_pure (pure_assign rfl) rfl rfl ?_
 refine seq_done (nrm_seq (tri_cond_t rfl ?_))
 refine tri_skip (nrm_seq (tri_cond_t rfl ?_))
 refine tri_seq (tri_region (seq_pure (pure_assign rfl) rfl rfl ?_))
 refine seq_done (nrm_seq (tri_ret (ret_block (ret_seq (ret_fin1 (res_tmp rfl) ?_)))))
 exact ⟨rfl, by (unfold tmOps; first | rw [if_pos (by omega)] | rw [if_neg (by omega), if_pos (by omega)] | rw [if_neg (by omega), if_neg (by omega), if_pos (by omega)] | rw [if_neg (by omega), if_neg (by omega), if_neg (by omega), if_pos (by omega)] | rw [if_neg (by omega), if_neg (by omega), if_neg (by omega), if_neg (by omega)]), rfl⟩
 refine seq_pure (pure_assign rfl) rfl rfl ?_
 refine seq_done (nrm_seq (tri_cond_f rfl ?_))
 refine tri_region (seq_bool (pure_eql rfl rfl) rfl rfl (fun h297 => ?_) (fun h297 => ?_))
 refine seq_pure (pure_assign rfl) rfl rfl ?_
 refine seq_done (nrm_seq (tri_cond_t rfl ?_))
 refine tri_seq (tri_region (seq_pure (pure_assign rfl) rfl rfl ?_))
 refine seq_done (nrm_seq (tri_ret (ret_block (ret_seq (ret_fin1 (res_tmp rfl) ?_)))))
 exact ⟨rfl, by (unfold tmOps; first | rw [if_pos (by omega)] | rw [if_neg (by omega), if_pos (by omega)] | rw [if_neg (by omega), if_neg (by omega), if_pos (by omega)] | rw [if_neg (by omega), if_neg (by omega), if_neg (by omega), if_pos (by omega)] | rw [if_neg (by omega), if_neg (by omega), if_neg (by omega), if_neg (by omega)]), rfl⟩
 refine seq_pure (pure_assign rfl) rfl rfl ?_
 refine seq_done (nrm_seq (tri_cond_f rfl ?_))
 refine tri_seq (tri_region (seq_bool (pure_eql rfl rfl) rfl rfl (fun h318 => ?_) (fun h318 => ?_)))
 refine seq_pure (pure_assign rfl) rfl rfl ?_
 refine seq_done (nrm_seq (tri_cond_t rfl ?_))
 refine tri_seq (tri_region (seq_pure (pure_assign rfl) rfl rfl ?_))
 refine seq_done (nrm_seq (tri_ret (ret_block (ret_seq (ret_fin1 (res_tmp rfl) ?_)))))
 exact ⟨rfl, by (unfold tmOps; first | rw [if_pos (by omega)] | rw [if_neg (by omega), if_pos (by omega)] | rw [if_neg (by omega), if_neg (by omega), if_pos (by omega)] | rw [if_neg (by omega), if_neg (by omega), if_neg (by omega), if_pos (by omega)] | rw [if_neg (by omega), if_neg (by omega), if_neg (by omega), if_neg (by omega)]), rfl⟩
 refine seq_pure (pure_assign rfl) rfl rfl ?_
 refine seq_done (nrm_seq (tri_cond_f rfl ?_))
 refine tri_skip (nrm_block (nrm_seq (tri_seq (tri_region (seq_pure (pure_assign rfl) rfl rfl ?_)))))
 refine seq_done (nrm_seq (tri_ret (ret_fin1 (res_tmp rfl) ?_)))
 exact ⟨rfl, by (unfold tmOps; first | rw [if_pos (by omega)] | rw [if_neg (by omega), if_pos (by omega)] | rw [if_neg (by omega), if_neg (by omega), if_pos (by omega)] | rw [if_neg (by omega), if_neg (by omega), if_neg (by omega), if_pos (by omega)] | rw [if_neg (by omega), if_neg (by omega), if_neg (by omega), if_neg (by omega)]), rfl⟩
set_option maxRecDepth 100000 in
theorem l2Name_fn (s : ByteArray) (G : IM) : Fn Tryd.prog 88 [.string s] [] G (Val (.bool (nameOk s)) G) := by
 refine fn_enter Tryd.func88 rfl Tryd.ntmps88 Tryd.results88 rfl ?_
 intro w0
 refine tri_seq (tri_region (seq_pure (pure_assign rfl) rfl rfl ?_))
 refine seq_done (nrm_seq (tri_seq (tri_region (seq_pure (pure_move rfl) rfl rfl ?_))))
 refine seq_pure (pure_len_str rfl rfl) rfl rfl ?_
 refine seq_bool (pure_eql rfl rfl) rfl rfl (fun h10 => ?_) (fun h10 => ?_)
 refine seq_pure (pure_move rfl) rfl rfl ?_
 refine seq_pure (pure_move rfl) rfl rfl ?_
 refine seq_pure (pure_sindex rfl rfl rfl (by omega) (ba_get (by omega))) rfl rfl ?_
 refine seq_bool (pure_geq rfl rfl) rfl rfl (fun h14 => ?_) (fun h14 => ?_)
 refine seq_pure (pure_pick_t rfl rfl) rfl rfl ?_
 refine seq_pure (pure_move rfl) rfl rfl ?_
 refine seq_pure (pure_move rfl) rfl rfl ?_
 refine seq_pure (pure_sindex rfl rfl rfl (by omega) (ba_get (by omega))) rfl rfl ?_
 refine seq_bool (pure_leq rfl rfl) rfl rfl (fun h19 => ?_) (fun h19 => ?_)
 refine seq_pure (pure_pick_t rfl rfl) rfl rfl ?_
 refine seq_pure (pure_assign rfl) rfl rfl ?_
 refine seq_done (nrm_seq (tri_ret (ret_fin1 (res_tmp rfl) ?_)))
 exact ⟨rfl, by simp only [nameOk]; (try simp only [Int.toNat_zero] at *); (first | rw [decide_eq_true (by omega)] | rw [decide_eq_false (by omega)]), rfl⟩
 refine seq_pure (pure_pick_t rfl rfl) rfl rfl ?_
 refine seq_pure (pure_assign rfl) rfl rfl ?_
 refine seq_done (nrm_seq (tri_ret (ret_fin1 (res_tmp rfl) ?_)))
 exact ⟨rfl, by simp only [nameOk]; (try simp only [Int.toNat_zero] at *); (first | rw [decide_eq_true (by omega)] | rw [decide_eq_false (by omega)]), rfl⟩
 refine seq_pure (pure_pick_t rfl rfl) rfl rfl ?_
 refine seq_pure (pure_move rfl) rfl rfl ?_
 refine seq_skip rfl rfl ?_
 refine seq_skip rfl rfl ?_
 refine seq_skip rfl rfl ?_
 refine seq_pure (pure_pick_f rfl rfl) rfl rfl ?_
 refine seq_pure (pure_assign rfl) rfl rfl ?_
 refine seq_done (nrm_seq (tri_ret (ret_fin1 (res_tmp rfl) ?_)))
 exact ⟨rfl, by simp only [nameOk]; (try simp only [Int.toNat_zero] at *); (first | rw [decide_eq_true (by omega)] | rw [decide_eq_false (by omega)]), rfl⟩
 refine seq_pure (pure_move rfl) rfl rfl ?_
 refine seq_skip rfl rfl ?_
 refine seq_skip rfl rfl ?_
 refine seq_skip rfl rfl ?_
 refine seq_pure (pure_pick_f rfl rfl) rfl rfl ?_
 refine seq_pure (pure_move rfl) rfl rfl ?_
 refine seq_skip rfl rfl ?_
 refine seq_skip rfl rfl ?_
 refine seq_skip rfl rfl ?_
 refine seq_pure (pure_pick_f rfl rfl) rfl rfl ?_
 refine seq_pure (pure_assign rfl) rfl rfl ?_
 refine seq_done (nrm_seq (tri_ret (ret_fin1 (res_tmp rfl) ?_)))
 exact ⟨rfl, by simp only [nameOk]; (try simp only [Int.toNat_zero] at *); (first | rw [decide_eq_true (by omega)] | rw [decide_eq_false (by omega)]), rfl⟩
set_option maxRecDepth 100000 in
theorem l2None_fn (t : Ty) (G : IM) (cells : List Value) (hr : RTy G t cells) : Fn Tryd.prog 91 [.agg ⟨cells⟩] [] G (Val (.bool (tNone t)) G) := by
 obtain ⟨p, c, es, rfl, hk, hsl, hkl⟩ := hr.open
 refine fn_enter Tryd.func91 rfl Tryd.ntmps91 Tryd.results91 rfl ?_
 intro w0
 refine tri_seq (tri_region ?_)
 (refine seq_step (step_box_a rfl rfl) rfl ?_; rintro _ ⟨b3, rfl⟩)
 refine seq_pure (pure_assign rfl) rfl rfl ?_
 refine seq_done (nrm_seq (tri_seq (tri_region (seq_pure (pure_fieldAddr0 rfl) rfl rfl ?_))))
 refine seq_load (load_bs rfl rfl (by repeat first | exact mH | apply mT) (by rfl)) rfl rfl ?_
 refine seq_bool (pure_eql rfl rfl) rfl rfl (fun h11 => ?_) (fun h11 => ?_)
 refine seq_pure (pure_move rfl) rfl rfl ?_
 refine seq_pure (pure_fieldAddr0 rfl) rfl rfl ?_
 refine seq_load (load_bs rfl rfl (by repeat first | exact mH | apply mT) (by rfl)) rfl rfl ?_
 refine seq_pure (pure_len rfl rfl) rfl rfl ?_
 refine seq_bool (pure_eql rfl rfl) rfl rfl (fun h16 => ?_) (fun h16 => ?_)
 refine seq_pure (pure_pick_t rfl rfl) rfl rfl ?_
 refine seq_pure (pure_assign rfl) rfl rfl ?_
 refine seq_done (nrm_seq (tri_ret (ret_fin1 (res_tmp rfl) ?_)))
 exact ⟨rfl, by simp only [tNone]; (first | rw [decide_eq_true (by omega)] | rw [decide_eq_false (by omega)]), rfl⟩
 refine seq_pure (pure_pick_t rfl rfl) rfl rfl ?_
 refine seq_pure (pure_assign rfl) rfl rfl ?_
 refine seq_done (nrm_seq (tri_ret (ret_fin1 (res_tmp rfl) ?_)))
 exact ⟨rfl, by simp only [tNone]; (first | rw [decide_eq_true (by omega)] | rw [decide_eq_false (by omega)]), rfl⟩
 refine seq_pure (pure_move rfl) rfl rfl ?_
 refine seq_skip rfl rfl ?_
 refine seq_skip rfl rfl ?_
 refine seq_skip rfl rfl ?_
 refine seq_skip rfl rfl ?_
 refine seq_pure (pure_pick_f rfl rfl) rfl rfl ?_
 refine seq_pure (pure_assign rfl) rfl rfl ?_
 refine seq_done (nrm_seq (tri_ret (ret_fin1 (res_tmp rfl) ?_)))
 exact ⟨rfl, by simp only [tNone]; (first | rw [decide_eq_true (by omega)] | rw [decide_eq_false (by omega)]), rfl⟩
/-- The absolute value of a label, 0 for what is no label's size. -/
def absLb (n : Int) : Int := if n < -99 ∨ n > 99 then 0 else if n < 0 then -n else n
end Gw
end Go.Proofs.YtaoaeilognhfpaaDoor
namespace Go.Proofs.YtaoaeilognhfpaaDoor
open Go Go.RowKit
namespace Gw
theorem tScan_no {k : Int} {ks : List Ty} {d : Int} (h : 4 < d ∨ tyOps k ≠ ks.length) : tScan (.mk k ks) d = false := by
 rw [tScan]
 rcases h with h | h
 ·rw [decide_eq_false (by omega)]; rfl
 ·rw [decide_eq_false (p := tyOps k = ks.length) h, Bool.and_false]; rfl
theorem tScan_go {k : Int} {ks : List Ty} {d : Int} (h : d ≤ 4) (h2 : tyOps k = ks.length) : tScan (.mk k ks) d = tScanL ks (d + 1) := by
 rw [tScan, decide_eq_true h, decide_eq_true h2]; rfl
theorem tScanL_f {ks : List Ty} {d : Int} {i : Nat} (hi : i < ks.length) (h : tScan ks[i] d = false) : tScanL ks d = false := by
 cases hx : tScanL ks d with
 | false => rfl
 | true => rw [(tScanL_iff ks d).1 hx i hi] at h; cases h
set_option maxRecDepth 100000 in
theorem l1Shape_fn : ∀ (t : Ty) (d : Int) (G : IM) (cells : List Value), 0 ≤ d ∧ d ≤ 4 → RTy G t cells →
  Fn Tryd.prog 77 [.agg ⟨cells⟩, .int .i64 d] [] G (Val (.bool (tScan t (5 - d))) G) := by
 refine Ty.ind fun k ks ih d G cells hd hr => ?_
 obtain ⟨p, c, es, rfl, hk, hsl, hkl⟩ := hr.open
 simp only [Ty.k, Ty.ks] at hk hsl hkl ⊢
 have hn := hsl.le
 have hk1 := l1Kids_fn k G
 refine fn_enter Tryd.func77 rfl Tryd.ntmps77 Tryd.results77 rfl ?_
 intro w0
 refine tri_seq (tri_region ?_)
 (refine seq_step (step_box_a rfl rfl) rfl ?_; rintro _ ⟨b3, rfl⟩)
 refine seq_pure (pure_assign rfl) rfl rfl ?_
 refine seq_done (nrm_seq (tri_seq (tri_seq (tri_draw mixed rfl ?_))))
 refine any_pure (i := 0) (listed' := [tt,ff,ff,ff,ff,ff,ff,ff,ff,ff,ff]) rfl npI (pure_move rfl) rfl (by kernel_rfl) rfl rfl ?_
 refine any_bool (i := 1) (listed' := [tt,tt,ff,ff,ff,ff,ff,ff,ff,ff,ff]) rfl npI (pure_lss rfl rfl) rfl (by kernel_rfl) rfl rfl (fun h11 => ?_) (fun h11 => ?_)
 refine any_pure (i := 2) (listed' := [tt,tt,tt,ff,ff,ff,ff,ff,ff,ff,ff]) rfl npI (pure_move rfl) rfl (by kernel_rfl) rfl rfl ?_
 refine any_skip (i := 3) (listed' := [tt,tt,tt,tt,ff,ff,ff,ff,ff,ff,ff]) rfl npI rfl (by kernel_rfl) rfl rfl ?_
 refine any_skip (i := 4) (listed' := [tt,tt,tt,tt,tt,ff,ff,ff,ff,ff,ff]) rfl npI rfl (by kernel_rfl) rfl rfl ?_
 refine any_skip (i := 6) (listed' := [tt,tt,tt,tt,tt,ff,tt,ff,ff,ff,ff]) rfl npI rfl (by kernel_rfl) rfl rfl ?_
 refine any_skip (i := 7) (listed' := [tt,tt,tt,tt,tt,ff,tt,tt,ff,ff,ff]) rfl npI rfl (by kernel_rfl) rfl rfl ?_
 refine any_skip (i := 8) (listed' := [tt,tt,tt,tt,tt,ff,tt,tt,tt,ff,ff]) rfl npI rfl (by kernel_rfl) rfl rfl ?_
 refine any_skip (i := 5) (listed' := [tt,tt,tt,tt,tt,tt,tt,tt,tt,ff,ff]) rfl npI rfl (by kernel_rfl) rfl rfl ?_
 refine any_skip (i := 9) (listed' := [tt,tt,tt,tt,tt,tt,tt,tt,tt,tt,ff]) rfl npI rfl (by kernel_rfl) rfl rfl ?_
 refine any_pure (i := 10) (listed' := [tt,tt,tt,tt,tt,tt,tt,tt,tt,tt,tt]) rfl npI (pure_pick_t rfl rfl) rfl (by kernel_rfl) rfl rfl ?_
 refine any_done (by kernel_rfl) ?_
 refine nrm_seq (tri_cond_t rfl ?_)
 refine tri_seq (tri_region (seq_pure (pure_assign rfl) rfl rfl ?_))
 refine seq_done (nrm_seq (tri_ret (ret_seq (ret_fin1 (res_tmp rfl) ?_))))
 (rw [tScan_no (by omega)]; exact ⟨rfl, rfl, rfl⟩)
 refine any_pure (i := 2) (listed' := [tt,tt,tt,ff,ff,ff,ff,ff,ff,ff,ff]) rfl npI (pure_move rfl) rfl (by kernel_rfl) rfl rfl ?_
 refine any_pure (i := 3) (listed' := [tt,tt,tt,tt,ff,ff,ff,ff,ff,ff,ff]) rfl npI (pure_fieldAddr0 rfl) rfl (by kernel_rfl) rfl rfl ?_
 refine any_load (i := 4) (listed' := [tt,tt,tt,tt,tt,ff,ff,ff,ff,ff,ff]) rfl npI (load_bs rfl rfl (by repeat first | exact mH | apply mT) (by rfl)) rfl (by kernel_rfl) rfl rfl ?_
 refine any_pure (i := 6) (listed' := [tt,tt,tt,tt,tt,ff,tt,ff,ff,ff,ff]) rfl npI (pure_fieldAddr0 rfl) rfl (by kernel_rfl) rfl rfl ?_
 refine any_load (i := 7) (listed' := [tt,tt,tt,tt,tt,ff,tt,tt,ff,ff,ff]) rfl npI (load_bs rfl rfl (by repeat first | exact mH | apply mT) (by rfl)) rfl (by kernel_rfl) rfl rfl ?_
 refine any_pure (i := 8) (listed' := [tt,tt,tt,tt,tt,ff,tt,tt,tt,ff,ff]) rfl npI (pure_len rfl rfl) rfl (by kernel_rfl) rfl rfl ?_
 refine any_one (j := 5) (by kernel_rfl) ?_
 refine one_val (listed' := [tt,tt,tt,tt,tt,tt,tt,tt,tt,ff,ff]) rfl rfl (hk1) rfl rfl rfl ?_
 refine any_bool (i := 9) (listed' := [tt,tt,tt,tt,tt,tt,tt,tt,tt,tt,ff]) rfl npI (pure_neq rfl rfl) rfl (by kernel_rfl) rfl rfl (fun h41 => ?_) (fun h41 => ?_)
 refine any_pure (i := 10) (listed' := [tt,tt,tt,tt,tt,tt,tt,tt,tt,tt,tt]) rfl npI (pure_pick_f rfl rfl) rfl (by kernel_rfl) rfl rfl ?_
 refine any_done (by kernel_rfl) ?_
 refine nrm_seq (tri_cond_t rfl ?_)
 refine tri_seq (tri_region (seq_pure (pure_assign rfl) rfl rfl ?_))
 refine seq_done (nrm_seq (tri_ret (ret_seq (ret_fin1 (res_tmp rfl) ?_))))
 (rw [tScan_no (by omega)]; exact ⟨rfl, rfl, rfl⟩)
 refine any_pure (i := 10) (listed' := [tt,tt,tt,tt,tt,tt,tt,tt,tt,tt,tt]) rfl npI (pure_pick_f rfl rfl) rfl (by kernel_rfl) rfl rfl ?_
 refine any_done (by kernel_rfl) ?_
 refine nrm_seq (tri_cond_f rfl ?_)
 refine tri_skip (nrm_seq (tri_seq (tri_seq (tri_region (seq_pure (pure_assign rfl) rfl rfl ?_)))))
 refine seq_done (nrm_seq (tri_block ?_))
 (refine tri_loopN (fun (i : Nat) => ⟨[(5, .int .i64 i), (2, .pointer (some ⟨b3, 0, none⟩)), (1, .int .i64 d)], [.blk b3 [.int .i64 k, .slice p ks.length c]], G⟩) (fun i => i ≤ ks.length ∧ ∀ j (h : j < ks.length), j < i → tScan ks[j] (5 - d + 1) = true) (fun i => ks.length - i) 0 ?_ ?_ ?_)
 exact sub_mk (by repeat (first | exact SubE.nil | refine SubE.cons rfl ?_)) (by repeat (first | exact SubH.refl | exact SubH.nil | refine SubH.cons (by repeat (first | exact Pk.here | apply Pk.there)) ?_ | apply SubH.drop))
 exact ⟨by omega, by omega⟩
 (rintro i ⟨hi, hf⟩)
 refine tri_seq (tri_seq (tri_region (seq_pure (pure_move rfl) rfl rfl ?_)))
 refine seq_pure (pure_fieldAddr0 rfl) rfl rfl ?_
 refine seq_load (load_bs rfl rfl (by repeat first | exact mH | apply mT) (by rfl)) rfl rfl ?_
 refine seq_pure (pure_len rfl rfl) rfl rfl ?_
 refine seq_bool (pure_lss rfl rfl) rfl rfl (fun h79 => ?_) (fun h79 => ?_)
 refine seq_done (nrm_seq (tri_cond_t rfl ?_))
 refine tri_skip (nrm_seq (tri_seq (tri_block (tri_seq (tri_region (seq_pure (pure_fieldAddr0 rfl) rfl rfl ?_))))))
 refine seq_load (load_bs rfl rfl (by repeat first | exact mH | apply mT) (by rfl)) rfl rfl ?_
 refine seq_pure (pure_move rfl) rfl rfl ?_
 (obtain ⟨b, o, p2, c2, rfl, hat, hre, hgb⟩ := hsl.kidTy hkl (i := i) (by omega) (by omega); refine seq_pure (pure_indexAddrN rfl rfl rfl (by omega)) rfl rfl ?_)
 refine seq_load (load_a rfl rfl (hat _) rfl) rfl rfl ?_
 refine seq_pure (pure_move rfl) rfl rfl ?_
 refine seq_pure (pure_sub rfl rfl (by omega) (by omega)) rfl rfl ?_
 (have hih := ih ks[i] (List.getElem_mem (by omega)) (d - 1) G _ (by omega) hre; rw [show 5 - (d - 1) = 5 - d + 1 by omega] at hih; refine seq_valb rfl hih rfl rfl (fun h96 => ?_) (fun h96 => ?_))
 refine seq_pure (pure_not_t rfl) rfl rfl ?_
 refine seq_done (nrm_seq (tri_cond_f rfl ?_))
 refine tri_skip (nrm_block (nrm_seq (tri_region (seq_pure (pure_move rfl) rfl rfl ?_))))
 refine seq_pure (pure_add rfl rfl (by omega) (by omega)) rfl rfl ?_
 refine seq_pure (pure_assign rfl) rfl rfl ?_
 refine seq_done (nrm_loopN (i + 1) ?_ ?_ ?_)
 exact sub_mk (by repeat (first | exact SubE.nil | refine SubE.cons rfl ?_)) (by repeat (first | exact SubH.refl | exact SubH.nil | refine SubH.cons (by repeat (first | exact Pk.here | apply Pk.there)) ?_ | apply SubH.drop))
 exact ⟨by omega, fun j hj hji => by (by_cases he : j = i; (subst he; assumption); exact hf j hj (by omega))⟩
 omega
 refine seq_pure (pure_not_f rfl) rfl rfl ?_
 refine seq_done (nrm_seq (tri_cond_t rfl ?_))
 refine tri_seq (tri_region (seq_pure (pure_assign rfl) rfl rfl ?_))
 refine seq_done (nrm_seq (tri_ret (ret_block (ret_seq (ret_loopN (ret_block ?_))))))
 refine ret_seq (ret_fin1 (res_tmp rfl) ?_)
 (rw [tScan_go (by omega) (by omega), tScanL_f (i := i) (by omega) (by assumption)]; exact ⟨rfl, rfl, rfl⟩)
 refine seq_done (nrm_seq (tri_cond_f rfl ?_))
 refine tri_exit ?_
 refine ext_seq ?_
 refine ext_loopN ?_
 refine ext_block_eq ?_
 refine nrm_seq (tri_seq (tri_region (seq_pure (pure_assign rfl) rfl rfl ?_)))
 refine seq_done (nrm_seq (tri_ret (ret_fin1 (res_tmp rfl) ?_)))
 (rw [tScan_go (by omega) (by omega), (tScanL_iff ks _).2 (fun j hj => hf j hj (by omega))]; exact ⟨rfl, rfl, rfl⟩)
set_option maxRecDepth 100000 in
theorem sTypeValid_fn (t : Ty) (G : IM) (cells : List Value) (hr : RTy G t cells) : Fn Tryd.prog 54 [.agg ⟨cells⟩] [] G (Val (.bool (tValid t)) G) := by
 have hl := hr.len
 have hv := l1Shape_fn t 4 G cells (by omega) hr
 refine fn_enter Tryd.func54 rfl Tryd.ntmps54 Tryd.results54 rfl ?_
 intro w0
 refine tri_seq (tri_region ?_)
 (refine seq_step (step_box_a rfl rfl) rfl ?_; rintro _ ⟨b3, rfl⟩)
 refine seq_pure (pure_assign rfl) rfl rfl ?_
 refine seq_done (nrm_seq (tri_seq (tri_region (seq_load (load_a rfl rfl (at_blk_all (by repeat first | exact mH | apply mT)) (by assumption)) rfl rfl ?_))))
 refine seq_val rfl (hv) rfl rfl ?_
 refine seq_pure (pure_assign rfl) rfl rfl ?_
 refine seq_done (nrm_seq (tri_ret (ret_fin1 (res_tmp rfl) ?_)))
 exact ⟨rfl, rfl, rfl⟩
end Gw
end Go.Proofs.YtaoaeilognhfpaaDoor
namespace Go.Proofs.YtaoaeilognhfpaaDoor
open Go Go.RowKit
namespace Gw
theorem tScan_inv {k : Int} {ks : List Ty} {d : Int} (h : tScan (.mk k ks) d = true) : tyOps k = ks.length ∧ ∀ i, (hi : i < ks.length) → tScan ks[i] (d + 1) = true := by
 rw [tScan] at h
 simp only [Bool.and_eq_true, decide_eq_true_eq] at h
 exact ⟨h.1.2, (tScanL_iff ks _).1 h.2⟩
theorem tCons_any {k k' : Int} {ks ks' : List Ty} (h : k = 1 ∨ k' = 1) : tCons (.mk k ks) (.mk k' ks') = true := by
 rw [tCons_mk]
 rcases h with h | h
 ·rw [decide_eq_true (p := k = 1) h]; rfl
 ·rw [decide_eq_true (p := k' = 1) h]; simp
theorem tCons_ne {k k' : Int} {ks ks' : List Ty} (h : k ≠ 1) (h' : k' ≠ 1) (hk : k ≠ k') : tCons (.mk k ks) (.mk k' ks') = false := by
 rw [tCons_mk, decide_eq_false h, decide_eq_false h', decide_eq_false hk]; rfl
theorem tCons_eq {k k' : Int} {ks ks' : List Ty} (h : k ≠ 1) (h' : k' ≠ 1) (hk : k = k') : tCons (.mk k ks) (.mk k' ks') = tConsL ks ks' := by
 rw [tCons_mk, decide_eq_false h, decide_eq_false h', decide_eq_true hk]; rfl
theorem tConsL_f {ks ks' : List Ty} {i : Nat} (hi : i < ks.length) (hi' : i < ks'.length) (h : tCons ks[i] ks'[i] = false) : tConsL ks ks' = false := by
 cases hx : tConsL ks ks' with
 | false => rfl
 | true => rw [((tConsL_iff ks ks').1 hx).2 i hi hi'] at h; cases h
end Gw
end Go.Proofs.YtaoaeilognhfpaaDoor
namespace Go.Proofs.YtaoaeilognhfpaaDoor
open Go Go.RowKit
namespace Gw
section blaws
variable {P : Program} {Γ : Ctx} {env : Env} {hp : List Ent} {G : IM} {ty : TypeId}
theorem pure_bneq_s {x y : Operand} {t t' : TypeId} {i : TyR} [hI : TyI P t i] (hd : i.desc = .bool) {r : Bool} (hx : evo env x = some (.bool r)) (hy : evo env y = some (.bool r)) :
  PureOp P Γ ⟨env, hp, G⟩ (.binOp .neq t x y t') ty (.bool false) := by
 have h := pure_bneq (P := P) (Γ := Γ) (hp := hp) (G := G) (t := t) (t' := t') (ty := ty) hd hx hy
 rwa [decide_eq_false (by simp)] at h
theorem pure_bneq_tf {x y : Operand} {t t' : TypeId} {i : TyR} [hI : TyI P t i] (hd : i.desc = .bool) (hx : evo env x = some (.bool true)) (hy : evo env y = some (.bool false)) :
  PureOp P Γ ⟨env, hp, G⟩ (.binOp .neq t x y t') ty (.bool true) := pure_bneq hd hx hy
theorem pure_bneq_ft {x y : Operand} {t t' : TypeId} {i : TyR} [hI : TyI P t i] (hd : i.desc = .bool) (hx : evo env x = some (.bool false)) (hy : evo env y = some (.bool true)) :
  PureOp P Γ ⟨env, hp, G⟩ (.binOp .neq t x y t') ty (.bool true) := pure_bneq hd hx hy
end blaws
set_option maxHeartbeats 0 in
set_option maxRecDepth 100000 in
theorem l2Own_fn (k : Int) (nm : ByteArray) (num : Int) (ty fr : Ty) (lb : Int) (ks : List Tm) (G : IM) (cells : List Value) (hr : RTm G (.mk k nm num ty fr lb ks) cells) (R : Bool)
  (hi : R = true ↔ (k = 1 ∨ k = 5 → nameOk nm = true) ∧ (¬(k = 1 ∨ k = 5) → nm = ⟨#[]⟩) ∧ (k = 5 ∨ k = 13 ∨ k = 14 → tValid ty = true) ∧ (¬(k = 5 ∨ k = 13 ∨ k = 14) → tNone ty = true) ∧ (k ≠ 14 → tNone fr = true ∧ lb = 0) ∧ (k = 2 → 0 ≤ num ∧ num ≤ 999) ∧ (k ≠ 2 → num = 0)) :
  Fn Tryd.prog 82 [.agg ⟨cells⟩] [] G (Val (.bool R) G) := by
 have he : nm = ⟨#[]⟩ → nameOk nm = false := by rintro rfl; rfl
 obtain ⟨tk, tks⟩ := ty
 obtain ⟨fk, fks⟩ := fr
 obtain ⟨pt, ct, pf, cf, p, c, es, rfl, hk, hnum, hlb, hty, hfr, hsl, hkl⟩ := hr.open9
 clear hr
 have o2 := l2Name_fn nm G
 have o3 := sTypeValid_fn _ G _ hty
 have o4 := l2None_fn _ G _ hty
 have o7 := l2None_fn _ G _ hfr
 refine fn_enter Tryd.func82 rfl Tryd.ntmps82 Tryd.results82 rfl ?_
 intro w0
 refine tri_seq (tri_region ?_)
 (refine seq_step (step_box_a rfl rfl) rfl ?_; rintro _ ⟨b3, rfl⟩)
 refine seq_pure (pure_assign rfl) rfl rfl ?_
 refine seq_done (nrm_seq (tri_seq (tri_region (seq_pure (pure_fieldAddr0 rfl) rfl rfl ?_))))
 refine seq_load (load_bs rfl rfl (by repeat first | exact mH | apply mT) (by rfl)) rfl rfl ?_
 refine seq_bool (pure_eql rfl rfl) rfl rfl (fun h11 => ?_) (fun h11 => ?_)
 refine seq_pure (pure_move rfl) rfl rfl ?_
 refine seq_skip rfl rfl ?_
 refine seq_skip rfl rfl ?_
 refine seq_skip rfl rfl ?_
 refine seq_pure (pure_pick_t rfl rfl) rfl rfl ?_
 refine seq_pure (pure_assign rfl) rfl rfl ?_
 refine seq_done (nrm_seq (tri_seq (tri_region (seq_pure (pure_fieldAddr0 rfl) rfl rfl ?_))))
 refine seq_load (load_bs rfl rfl (by repeat first | exact mH | apply mT) (by rfl)) rfl rfl ?_
 refine seq_pure (pure_eql_f rfl rfl (by omega)) rfl rfl ?_
 refine seq_pure (pure_move rfl) rfl rfl ?_
 refine seq_pure (pure_fieldAddr0 rfl) rfl rfl ?_
 refine seq_load (load_bs rfl rfl (by repeat first | exact mH | apply mT) (by rfl)) rfl rfl ?_
 refine seq_pure (pure_eql_f rfl rfl (by omega)) rfl rfl ?_
 refine seq_pure (pure_pick_f rfl rfl) rfl rfl ?_
 refine seq_pure (pure_move rfl) rfl rfl ?_
 refine seq_pure (pure_fieldAddr0 rfl) rfl rfl ?_
 refine seq_load (load_bs rfl rfl (by repeat first | exact mH | apply mT) (by rfl)) rfl rfl ?_
 refine seq_pure (pure_eql_f rfl rfl (by omega)) rfl rfl ?_
 refine seq_pure (pure_pick_f rfl rfl) rfl rfl ?_
 refine seq_pure (pure_assign rfl) rfl rfl ?_
 refine seq_done (nrm_seq (tri_seq (tri_seq (tri_region (seq_pure (pure_move rfl) rfl rfl ?_)))))
 refine seq_pure (pure_fieldAddr0 rfl) rfl rfl ?_
 refine seq_load (load_bs rfl rfl (by repeat first | exact mH | apply mT) (by rfl)) rfl rfl ?_
 refine seq_valb rfl (o2) rfl rfl (fun h44 => ?_) (fun h44 => ?_)
 refine seq_pure (pure_bneq_s rfl rfl rfl) rfl rfl ?_
 refine seq_pure (pure_move rfl) rfl rfl ?_
 refine seq_pure (pure_move rfl) rfl rfl ?_
 refine seq_pure (pure_not_t rfl) rfl rfl ?_
 refine seq_pure (pure_move rfl) rfl rfl ?_
 refine seq_skip rfl rfl ?_
 refine seq_skip rfl rfl ?_
 refine seq_skip rfl rfl ?_
 refine seq_pure (pure_pick_f rfl rfl) rfl rfl ?_
 refine seq_pure (pure_pick_f rfl rfl) rfl rfl ?_
 refine seq_pure (pure_move rfl) rfl rfl ?_
 refine seq_pure (pure_move rfl) rfl rfl ?_
 refine seq_pure (pure_move rfl) rfl rfl ?_
 refine seq_skip rfl rfl ?_
 refine seq_skip rfl rfl ?_
 refine seq_skip rfl rfl ?_
 refine seq_skip rfl rfl ?_
 refine seq_pure (pure_pick_f rfl rfl) rfl rfl ?_
 refine seq_pure (pure_pick_f rfl rfl) rfl rfl ?_
 refine seq_pure (pure_move rfl) rfl rfl ?_
 refine seq_pure (pure_move rfl) rfl rfl ?_
 refine seq_pure (pure_not_f rfl) rfl rfl ?_
 refine seq_pure (pure_move rfl) rfl rfl ?_
 refine seq_pure (pure_fieldAddr0 rfl) rfl rfl ?_
 refine seq_load (load_ba rfl rfl (by repeat first | exact mH | apply mT) (by rfl)) rfl rfl ?_
 refine seq_valb rfl (o4) rfl rfl (fun h70 => ?_) (fun h70 => ?_)
 refine seq_pure (pure_not_t rfl) rfl rfl ?_
 refine seq_pure (pure_pick_t rfl rfl) rfl rfl ?_
 refine seq_pure (pure_pick_f rfl rfl) rfl rfl ?_
 refine seq_done (nrm_seq (tri_cond_f rfl ?_))
 refine tri_skip (nrm_seq (tri_seq (tri_seq (tri_region (seq_pure (pure_fieldAddr0 rfl) rfl rfl ?_)))))
 refine seq_load (load_bs rfl rfl (by repeat first | exact mH | apply mT) (by rfl)) rfl rfl ?_
 refine seq_pure (pure_neq_t rfl rfl (by omega)) rfl rfl ?_
 refine seq_pure (pure_move rfl) rfl rfl ?_
 refine seq_pure (pure_fieldAddr0 rfl) rfl rfl ?_
 refine seq_load (load_ba rfl rfl (by repeat first | exact mH | apply mT) (by rfl)) rfl rfl ?_
 refine seq_valb rfl (o7) rfl rfl (fun h88 => ?_) (fun h88 => ?_)
 refine seq_pure (pure_not_t rfl) rfl rfl ?_
 refine seq_pure (pure_move rfl) rfl rfl ?_
 refine seq_pure (pure_fieldAddr0 rfl) rfl rfl ?_
 refine seq_load (load_bs rfl rfl (by repeat first | exact mH | apply mT) (by rfl)) rfl rfl ?_
 refine seq_bool (pure_neq rfl rfl) rfl rfl (fun h93 => ?_) (fun h93 => ?_)
 refine seq_pure (pure_pick_f rfl rfl) rfl rfl ?_
 refine seq_pure (pure_pick_t rfl rfl) rfl rfl ?_
 refine seq_done (nrm_seq (tri_cond_t rfl ?_))
 refine tri_seq (tri_region (seq_pure (pure_assign rfl) rfl rfl ?_))
 refine seq_done (nrm_seq (tri_ret (ret_seq (ret_fin1 (res_tmp rfl) ?_))))
 exact ⟨rfl, by (cases R with | false => rfl | true => (exfalso; obtain ⟨i1, i2, i3, i4, i5, i6, i7⟩ := hi.1 rfl; first | omega | (have j := i1 (by omega); simp_all; done) | (have j := he (i2 (by omega)); simp_all; done) | (have j := i2 (by omega); simp_all; done) | (have j := i3 (by omega); simp_all; done) | (have j := i4 (by omega); simp_all; done) | (have j := i5 (by omega); simp_all; done))), rfl⟩
 refine seq_pure (pure_pick_f rfl rfl) rfl rfl ?_
 refine seq_pure (pure_pick_t rfl rfl) rfl rfl ?_
 refine seq_done (nrm_seq (tri_cond_f rfl ?_))
 refine tri_skip (nrm_seq (tri_seq (tri_seq (tri_region (seq_pure (pure_fieldAddr0 rfl) rfl rfl ?_)))))
 refine seq_load (load_bs rfl rfl (by repeat first | exact mH | apply mT) (by rfl)) rfl rfl ?_
 refine seq_pure (pure_eql_f rfl rfl (by omega)) rfl rfl ?_
 refine seq_done (nrm_seq (tri_cond_f rfl ?_))
 refine tri_skip (nrm_seq (tri_seq (tri_region (seq_pure (pure_fieldAddr0 rfl) rfl rfl ?_))))
 refine seq_load (load_bs rfl rfl (by repeat first | exact mH | apply mT) (by rfl)) rfl rfl ?_
 refine seq_bool (pure_eql rfl rfl) rfl rfl (fun h130 => ?_) (fun h130 => ?_)
 refine seq_pure (pure_assign rfl) rfl rfl ?_
 refine seq_done (nrm_seq (tri_ret (ret_fin1 (res_tmp rfl) ?_)))
 exact ⟨rfl, by rw [hi.2 ⟨fun _ => by (first | assumption | (exfalso; omega)), fun _ => by (first | assumption | (exfalso; omega) | exact Classical.not_not.1 (by assumption)), fun _ => by (first | assumption | (exfalso; omega)), fun _ => by (first | assumption | (exfalso; omega)), fun _ => ⟨by (first | assumption | (exfalso; omega)), by (first | assumption | omega)⟩, by omega, by omega⟩], rfl⟩
 refine seq_pure (pure_assign rfl) rfl rfl ?_
 refine seq_done (nrm_seq (tri_ret (ret_fin1 (res_tmp rfl) ?_)))
 exact ⟨rfl, by (cases R with | false => rfl | true => (exfalso; obtain ⟨i1, i2, i3, i4, i5, i6, i7⟩ := hi.1 rfl; first | omega | (have j := i1 (by omega); simp_all; done) | (have j := he (i2 (by omega)); simp_all; done) | (have j := i2 (by omega); simp_all; done) | (have j := i3 (by omega); simp_all; done) | (have j := i4 (by omega); simp_all; done) | (have j := i5 (by omega); simp_all; done))), rfl⟩
 refine seq_pure (pure_not_f rfl) rfl rfl ?_
 refine seq_pure (pure_move rfl) rfl rfl ?_
 refine seq_skip rfl rfl ?_
 refine seq_skip rfl rfl ?_
 refine seq_skip rfl rfl ?_
 refine seq_pure (pure_pick_t rfl rfl) rfl rfl ?_
 refine seq_pure (pure_pick_t rfl rfl) rfl rfl ?_
 refine seq_done (nrm_seq (tri_cond_t rfl ?_))
 refine tri_seq (tri_region (seq_pure (pure_assign rfl) rfl rfl ?_))
 refine seq_done (nrm_seq (tri_ret (ret_seq (ret_fin1 (res_tmp rfl) ?_))))
 exact ⟨rfl, by (cases R with | false => rfl | true => (exfalso; obtain ⟨i1, i2, i3, i4, i5, i6, i7⟩ := hi.1 rfl; first | omega | (have j := i1 (by omega); simp_all; done) | (have j := he (i2 (by omega)); simp_all; done) | (have j := i2 (by omega); simp_all; done) | (have j := i3 (by omega); simp_all; done) | (have j := i4 (by omega); simp_all; done) | (have j := i5 (by omega); simp_all; done))), rfl⟩
 refine seq_pure (pure_not_f rfl) rfl rfl ?_
 refine seq_pure (pure_pick_t rfl rfl) rfl rfl ?_
 refine seq_pure (pure_pick_f rfl rfl) rfl rfl ?_
 refine seq_done (nrm_seq (tri_cond_t rfl ?_))
 refine tri_seq (tri_region (seq_pure (pure_assign rfl) rfl rfl ?_))
 refine seq_done (nrm_seq (tri_ret (ret_seq (ret_fin1 (res_tmp rfl) ?_))))
 exact ⟨rfl, by (cases R with | false => rfl | true => (exfalso; obtain ⟨i1, i2, i3, i4, i5, i6, i7⟩ := hi.1 rfl; first | omega | (have j := i1 (by omega); simp_all; done) | (have j := he (i2 (by omega)); simp_all; done) | (have j := i2 (by omega); simp_all; done) | (have j := i3 (by omega); simp_all; done) | (have j := i4 (by omega); simp_all; done) | (have j := i5 (by omega); simp_all; done))), rfl⟩
 refine seq_pure (pure_bneq_tf rfl rfl rfl) rfl rfl ?_
 refine seq_pure (pure_move rfl) rfl rfl ?_
 refine seq_skip rfl rfl ?_
 refine seq_skip rfl rfl ?_
 refine seq_skip rfl rfl ?_
 refine seq_skip rfl rfl ?_
 refine seq_skip rfl rfl ?_
 refine seq_skip rfl rfl ?_
 refine seq_skip rfl rfl ?_
 refine seq_pure (pure_pick_t rfl rfl) rfl rfl ?_
 refine seq_pure (pure_move rfl) rfl rfl ?_
 refine seq_skip rfl rfl ?_
 refine seq_skip rfl rfl ?_
 refine seq_skip rfl rfl ?_
 refine seq_skip rfl rfl ?_
 refine seq_skip rfl rfl ?_
 refine seq_skip rfl rfl ?_
 refine seq_skip rfl rfl ?_
 refine seq_pure (pure_pick_t rfl rfl) rfl rfl ?_
 refine seq_pure (pure_move rfl) rfl rfl ?_
 refine seq_skip rfl rfl ?_
 refine seq_skip rfl rfl ?_
 refine seq_skip rfl rfl ?_
 refine seq_skip rfl rfl ?_
 refine seq_skip rfl rfl ?_
 refine seq_skip rfl rfl ?_
 refine seq_skip rfl rfl ?_
 refine seq_skip rfl rfl ?_
 refine seq_pure (pure_pick_t rfl rfl) rfl rfl ?_
 refine seq_done (nrm_seq (tri_cond_t rfl ?_))
 refine tri_seq (tri_region (seq_pure (pure_assign rfl) rfl rfl ?_))
 refine seq_done (nrm_seq (tri_ret (ret_seq (ret_fin1 (res_tmp rfl) ?_))))
 exact ⟨rfl, by (cases R with | false => rfl | true => (exfalso; obtain ⟨i1, i2, i3, i4, i5, i6, i7⟩ := hi.1 rfl; first | omega | (have j := i1 (by omega); simp_all; done) | (have j := he (i2 (by omega)); simp_all; done) | (have j := i2 (by omega); simp_all; done) | (have j := i3 (by omega); simp_all; done) | (have j := i4 (by omega); simp_all; done) | (have j := i5 (by omega); simp_all; done))), rfl⟩
 refine seq_pure (pure_move rfl) rfl rfl ?_
 refine seq_pure (pure_fieldAddr0 rfl) rfl rfl ?_
 refine seq_load (load_bs rfl rfl (by repeat first | exact mH | apply mT) (by rfl)) rfl rfl ?_
 refine seq_bool (pure_eql rfl rfl) rfl rfl (fun h221 => ?_) (fun h221 => ?_)
 refine seq_pure (pure_pick_f rfl rfl) rfl rfl ?_
 refine seq_pure (pure_assign rfl) rfl rfl ?_
 refine seq_done (nrm_seq (tri_seq (tri_region (seq_pure (pure_fieldAddr0 rfl) rfl rfl ?_))))
 refine seq_load (load_bs rfl rfl (by repeat first | exact mH | apply mT) (by rfl)) rfl rfl ?_
 refine seq_pure (pure_eql_t rfl rfl (by omega)) rfl rfl ?_
 refine seq_pure (pure_move rfl) rfl rfl ?_
 refine seq_skip rfl rfl ?_
 refine seq_skip rfl rfl ?_
 refine seq_skip rfl rfl ?_
 refine seq_pure (pure_pick_t rfl rfl) rfl rfl ?_
 refine seq_pure (pure_move rfl) rfl rfl ?_
 refine seq_skip rfl rfl ?_
 refine seq_skip rfl rfl ?_
 refine seq_skip rfl rfl ?_
 refine seq_pure (pure_pick_t rfl rfl) rfl rfl ?_
 refine seq_pure (pure_assign rfl) rfl rfl ?_
 refine seq_done (nrm_seq (tri_seq (tri_seq (tri_region (seq_pure (pure_move rfl) rfl rfl ?_)))))
 refine seq_pure (pure_fieldAddr0 rfl) rfl rfl ?_
 refine seq_load (load_bs rfl rfl (by repeat first | exact mH | apply mT) (by rfl)) rfl rfl ?_
 refine seq_valb rfl (o2) rfl rfl (fun h250 => ?_) (fun h250 => ?_)
 refine seq_pure (pure_bneq_s rfl rfl rfl) rfl rfl ?_
 refine seq_pure (pure_move rfl) rfl rfl ?_
 refine seq_pure (pure_move rfl) rfl rfl ?_
 refine seq_pure (pure_not_t rfl) rfl rfl ?_
 refine seq_pure (pure_move rfl) rfl rfl ?_
 refine seq_skip rfl rfl ?_
 refine seq_skip rfl rfl ?_
 refine seq_skip rfl rfl ?_
 refine seq_pure (pure_pick_f rfl rfl) rfl rfl ?_
 refine seq_pure (pure_pick_f rfl rfl) rfl rfl ?_
 refine seq_pure (pure_move rfl) rfl rfl ?_
 refine seq_pure (pure_move rfl) rfl rfl ?_
 refine seq_pure (pure_move rfl) rfl rfl ?_
 refine seq_pure (pure_fieldAddr0 rfl) rfl rfl ?_
 refine seq_load (load_ba rfl rfl (by repeat first | exact mH | apply mT) (by rfl)) rfl rfl ?_
 refine seq_valb rfl (o3) rfl rfl (fun h266 => ?_) (fun h266 => ?_)
 refine seq_pure (pure_not_t rfl) rfl rfl ?_
 refine seq_pure (pure_pick_t rfl rfl) rfl rfl ?_
 refine seq_pure (pure_pick_f rfl rfl) rfl rfl ?_
 refine seq_pure (pure_move rfl) rfl rfl ?_
 refine seq_pure (pure_move rfl) rfl rfl ?_
 refine seq_pure (pure_not_t rfl) rfl rfl ?_
 refine seq_pure (pure_move rfl) rfl rfl ?_
 refine seq_skip rfl rfl ?_
 refine seq_skip rfl rfl ?_
 refine seq_skip rfl rfl ?_
 refine seq_skip rfl rfl ?_
 refine seq_pure (pure_pick_f rfl rfl) rfl rfl ?_
 refine seq_pure (pure_pick_f rfl rfl) rfl rfl ?_
 refine seq_done (nrm_seq (tri_cond_f rfl ?_))
 refine tri_skip (nrm_seq (tri_seq (tri_seq (tri_region (seq_pure (pure_fieldAddr0 rfl) rfl rfl ?_)))))
 refine seq_load (load_bs rfl rfl (by repeat first | exact mH | apply mT) (by rfl)) rfl rfl ?_
 refine seq_pure (pure_neq_t rfl rfl (by omega)) rfl rfl ?_
 refine seq_pure (pure_move rfl) rfl rfl ?_
 refine seq_pure (pure_fieldAddr0 rfl) rfl rfl ?_
 refine seq_load (load_ba rfl rfl (by repeat first | exact mH | apply mT) (by rfl)) rfl rfl ?_
 refine seq_valb rfl (o7) rfl rfl (fun h294 => ?_) (fun h294 => ?_)
 refine seq_pure (pure_not_t rfl) rfl rfl ?_
 refine seq_pure (pure_move rfl) rfl rfl ?_
 refine seq_pure (pure_fieldAddr0 rfl) rfl rfl ?_
 refine seq_load (load_bs rfl rfl (by repeat first | exact mH | apply mT) (by rfl)) rfl rfl ?_
 refine seq_bool (pure_neq rfl rfl) rfl rfl (fun h299 => ?_) (fun h299 => ?_)
 refine seq_pure (pure_pick_f rfl rfl) rfl rfl ?_
 refine seq_pure (pure_pick_t rfl rfl) rfl rfl ?_
 refine seq_done (nrm_seq (tri_cond_t rfl ?_))
 refine tri_seq (tri_region (seq_pure (pure_assign rfl) rfl rfl ?_))
 refine seq_done (nrm_seq (tri_ret (ret_seq (ret_fin1 (res_tmp rfl) ?_))))
 exact ⟨rfl, by (cases R with | false => rfl | true => (exfalso; obtain ⟨i1, i2, i3, i4, i5, i6, i7⟩ := hi.1 rfl; first | omega | (have j := i1 (by omega); simp_all; done) | (have j := he (i2 (by omega)); simp_all; done) | (have j := i2 (by omega); simp_all; done) | (have j := i3 (by omega); simp_all; done) | (have j := i4 (by omega); simp_all; done) | (have j := i5 (by omega); simp_all; done))), rfl⟩
 refine seq_pure (pure_pick_f rfl rfl) rfl rfl ?_
 refine seq_pure (pure_pick_t rfl rfl) rfl rfl ?_
 refine seq_done (nrm_seq (tri_cond_f rfl ?_))
 refine tri_skip (nrm_seq (tri_seq (tri_seq (tri_region (seq_pure (pure_fieldAddr0 rfl) rfl rfl ?_)))))
 refine seq_load (load_bs rfl rfl (by repeat first | exact mH | apply mT) (by rfl)) rfl rfl ?_
 refine seq_pure (pure_eql_f rfl rfl (by omega)) rfl rfl ?_
 refine seq_done (nrm_seq (tri_cond_f rfl ?_))
 refine tri_skip (nrm_seq (tri_seq (tri_region (seq_pure (pure_fieldAddr0 rfl) rfl rfl ?_))))
 refine seq_load (load_bs rfl rfl (by repeat first | exact mH | apply mT) (by rfl)) rfl rfl ?_
 refine seq_bool (pure_eql rfl rfl) rfl rfl (fun h336 => ?_) (fun h336 => ?_)
 refine seq_pure (pure_assign rfl) rfl rfl ?_
 refine seq_done (nrm_seq (tri_ret (ret_fin1 (res_tmp rfl) ?_)))
 exact ⟨rfl, by rw [hi.2 ⟨fun _ => by (first | assumption | (exfalso; omega)), fun _ => by (first | assumption | (exfalso; omega) | exact Classical.not_not.1 (by assumption)), fun _ => by (first | assumption | (exfalso; omega)), fun _ => by (first | assumption | (exfalso; omega)), fun _ => ⟨by (first | assumption | (exfalso; omega)), by (first | assumption | omega)⟩, by omega, by omega⟩], rfl⟩
 refine seq_pure (pure_assign rfl) rfl rfl ?_
 refine seq_done (nrm_seq (tri_ret (ret_fin1 (res_tmp rfl) ?_)))
 exact ⟨rfl, by (cases R with | false => rfl | true => (exfalso; obtain ⟨i1, i2, i3, i4, i5, i6, i7⟩ := hi.1 rfl; first | omega | (have j := i1 (by omega); simp_all; done) | (have j := he (i2 (by omega)); simp_all; done) | (have j := i2 (by omega); simp_all; done) | (have j := i3 (by omega); simp_all; done) | (have j := i4 (by omega); simp_all; done) | (have j := i5 (by omega); simp_all; done))), rfl⟩
 refine seq_pure (pure_not_f rfl) rfl rfl ?_
 refine seq_pure (pure_move rfl) rfl rfl ?_
 refine seq_skip rfl rfl ?_
 refine seq_skip rfl rfl ?_
 refine seq_skip rfl rfl ?_
 refine seq_pure (pure_pick_t rfl rfl) rfl rfl ?_
 refine seq_pure (pure_pick_t rfl rfl) rfl rfl ?_
 refine seq_done (nrm_seq (tri_cond_t rfl ?_))
 refine tri_seq (tri_region (seq_pure (pure_assign rfl) rfl rfl ?_))
 refine seq_done (nrm_seq (tri_ret (ret_seq (ret_fin1 (res_tmp rfl) ?_))))
 exact ⟨rfl, by (cases R with | false => rfl | true => (exfalso; obtain ⟨i1, i2, i3, i4, i5, i6, i7⟩ := hi.1 rfl; first | omega | (have j := i1 (by omega); simp_all; done) | (have j := he (i2 (by omega)); simp_all; done) | (have j := i2 (by omega); simp_all; done) | (have j := i3 (by omega); simp_all; done) | (have j := i4 (by omega); simp_all; done) | (have j := i5 (by omega); simp_all; done))), rfl⟩
 refine seq_pure (pure_not_f rfl) rfl rfl ?_
 refine seq_pure (pure_pick_t rfl rfl) rfl rfl ?_
 refine seq_pure (pure_pick_f rfl rfl) rfl rfl ?_
 refine seq_pure (pure_move rfl) rfl rfl ?_
 refine seq_skip rfl rfl ?_
 refine seq_skip rfl rfl ?_
 refine seq_skip rfl rfl ?_
 refine seq_skip rfl rfl ?_
 refine seq_skip rfl rfl ?_
 refine seq_skip rfl rfl ?_
 refine seq_skip rfl rfl ?_
 refine seq_skip rfl rfl ?_
 refine seq_pure (pure_pick_t rfl rfl) rfl rfl ?_
 refine seq_done (nrm_seq (tri_cond_t rfl ?_))
 refine tri_seq (tri_region (seq_pure (pure_assign rfl) rfl rfl ?_))
 refine seq_done (nrm_seq (tri_ret (ret_seq (ret_fin1 (res_tmp rfl) ?_))))
 exact ⟨rfl, by (cases R with | false => rfl | true => (exfalso; obtain ⟨i1, i2, i3, i4, i5, i6, i7⟩ := hi.1 rfl; first | omega | (have j := i1 (by omega); simp_all; done) | (have j := he (i2 (by omega)); simp_all; done) | (have j := i2 (by omega); simp_all; done) | (have j := i3 (by omega); simp_all; done) | (have j := i4 (by omega); simp_all; done) | (have j := i5 (by omega); simp_all; done))), rfl⟩
 refine seq_pure (pure_bneq_tf rfl rfl rfl) rfl rfl ?_
 refine seq_pure (pure_move rfl) rfl rfl ?_
 refine seq_skip rfl rfl ?_
 refine seq_skip rfl rfl ?_
 refine seq_skip rfl rfl ?_
 refine seq_skip rfl rfl ?_
 refine seq_skip rfl rfl ?_
 refine seq_skip rfl rfl ?_
 refine seq_skip rfl rfl ?_
 refine seq_pure (pure_pick_t rfl rfl) rfl rfl ?_
 refine seq_pure (pure_move rfl) rfl rfl ?_
 refine seq_skip rfl rfl ?_
 refine seq_skip rfl rfl ?_
 refine seq_skip rfl rfl ?_
 refine seq_skip rfl rfl ?_
 refine seq_skip rfl rfl ?_
 refine seq_skip rfl rfl ?_
 refine seq_skip rfl rfl ?_
 refine seq_pure (pure_pick_t rfl rfl) rfl rfl ?_
 refine seq_pure (pure_move rfl) rfl rfl ?_
 refine seq_skip rfl rfl ?_
 refine seq_skip rfl rfl ?_
 refine seq_skip rfl rfl ?_
 refine seq_skip rfl rfl ?_
 refine seq_skip rfl rfl ?_
 refine seq_skip rfl rfl ?_
 refine seq_skip rfl rfl ?_
 refine seq_skip rfl rfl ?_
 refine seq_pure (pure_pick_t rfl rfl) rfl rfl ?_
 refine seq_done (nrm_seq (tri_cond_t rfl ?_))
 refine tri_seq (tri_region (seq_pure (pure_assign rfl) rfl rfl ?_))
 refine seq_done (nrm_seq (tri_ret (ret_seq (ret_fin1 (res_tmp rfl) ?_))))
 exact ⟨rfl, by (cases R with | false => rfl | true => (exfalso; obtain ⟨i1, i2, i3, i4, i5, i6, i7⟩ := hi.1 rfl; first | omega | (have j := i1 (by omega); simp_all; done) | (have j := he (i2 (by omega)); simp_all; done) | (have j := i2 (by omega); simp_all; done) | (have j := i3 (by omega); simp_all; done) | (have j := i4 (by omega); simp_all; done) | (have j := i5 (by omega); simp_all; done))), rfl⟩
 refine seq_pure (pure_pick_f rfl rfl) rfl rfl ?_
 refine seq_pure (pure_assign rfl) rfl rfl ?_
 refine seq_done (nrm_seq (tri_seq (tri_region (seq_pure (pure_fieldAddr0 rfl) rfl rfl ?_))))
 refine seq_load (load_bs rfl rfl (by repeat first | exact mH | apply mT) (by rfl)) rfl rfl ?_
 refine seq_pure (pure_eql_f rfl rfl (by omega)) rfl rfl ?_
 refine seq_pure (pure_move rfl) rfl rfl ?_
 refine seq_pure (pure_fieldAddr0 rfl) rfl rfl ?_
 refine seq_load (load_bs rfl rfl (by repeat first | exact mH | apply mT) (by rfl)) rfl rfl ?_
 refine seq_bool (pure_eql rfl rfl) rfl rfl (fun h446 => ?_) (fun h446 => ?_)
 refine seq_pure (pure_pick_f rfl rfl) rfl rfl ?_
 refine seq_pure (pure_move rfl) rfl rfl ?_
 refine seq_skip rfl rfl ?_
 refine seq_skip rfl rfl ?_
 refine seq_skip rfl rfl ?_
 refine seq_pure (pure_pick_t rfl rfl) rfl rfl ?_
 refine seq_pure (pure_assign rfl) rfl rfl ?_
 refine seq_done (nrm_seq (tri_seq (tri_seq (tri_region (seq_pure (pure_move rfl) rfl rfl ?_)))))
 refine seq_pure (pure_fieldAddr0 rfl) rfl rfl ?_
 refine seq_load (load_bs rfl rfl (by repeat first | exact mH | apply mT) (by rfl)) rfl rfl ?_
 refine seq_valb rfl (o2) rfl rfl (fun h462 => ?_) (fun h462 => ?_)
 refine seq_pure (pure_bneq_ft rfl rfl rfl) rfl rfl ?_
 refine seq_pure (pure_move rfl) rfl rfl ?_
 refine seq_skip rfl rfl ?_
 refine seq_skip rfl rfl ?_
 refine seq_skip rfl rfl ?_
 refine seq_skip rfl rfl ?_
 refine seq_skip rfl rfl ?_
 refine seq_skip rfl rfl ?_
 refine seq_skip rfl rfl ?_
 refine seq_pure (pure_pick_t rfl rfl) rfl rfl ?_
 refine seq_pure (pure_move rfl) rfl rfl ?_
 refine seq_skip rfl rfl ?_
 refine seq_skip rfl rfl ?_
 refine seq_skip rfl rfl ?_
 refine seq_skip rfl rfl ?_
 refine seq_skip rfl rfl ?_
 refine seq_skip rfl rfl ?_
 refine seq_skip rfl rfl ?_
 refine seq_pure (pure_pick_t rfl rfl) rfl rfl ?_
 refine seq_pure (pure_move rfl) rfl rfl ?_
 refine seq_skip rfl rfl ?_
 refine seq_skip rfl rfl ?_
 refine seq_skip rfl rfl ?_
 refine seq_skip rfl rfl ?_
 refine seq_skip rfl rfl ?_
 refine seq_skip rfl rfl ?_
 refine seq_skip rfl rfl ?_
 refine seq_skip rfl rfl ?_
 refine seq_pure (pure_pick_t rfl rfl) rfl rfl ?_
 refine seq_done (nrm_seq (tri_cond_t rfl ?_))
 refine tri_seq (tri_region (seq_pure (pure_assign rfl) rfl rfl ?_))
 refine seq_done (nrm_seq (tri_ret (ret_seq (ret_fin1 (res_tmp rfl) ?_))))
 exact ⟨rfl, by (cases R with | false => rfl | true => (exfalso; obtain ⟨i1, i2, i3, i4, i5, i6, i7⟩ := hi.1 rfl; first | omega | (have j := i1 (by omega); simp_all; done) | (have j := he (i2 (by omega)); simp_all; done) | (have j := i2 (by omega); simp_all; done) | (have j := i3 (by omega); simp_all; done) | (have j := i4 (by omega); simp_all; done) | (have j := i5 (by omega); simp_all; done))), rfl⟩
 refine seq_pure (pure_bneq_s rfl rfl rfl) rfl rfl ?_
 refine seq_pure (pure_move rfl) rfl rfl ?_
 refine seq_pure (pure_move rfl) rfl rfl ?_
 refine seq_pure (pure_not_f rfl) rfl rfl ?_
 refine seq_pure (pure_move rfl) rfl rfl ?_
 refine seq_pure (pure_fieldAddr0 rfl) rfl rfl ?_
 refine seq_load (load_bs rfl rfl (by repeat first | exact mH | apply mT) (by rfl)) rfl rfl ?_
 refine seq_bool (pure_sneq rfl rfl) rfl rfl (fun h511 => ?_) (fun h511 => ?_)
 refine seq_pure (pure_pick_t rfl rfl) rfl rfl ?_
 refine seq_pure (pure_pick_f rfl rfl) rfl rfl ?_
 refine seq_pure (pure_move rfl) rfl rfl ?_
 refine seq_skip rfl rfl ?_
 refine seq_skip rfl rfl ?_
 refine seq_skip rfl rfl ?_
 refine seq_skip rfl rfl ?_
 refine seq_skip rfl rfl ?_
 refine seq_skip rfl rfl ?_
 refine seq_skip rfl rfl ?_
 refine seq_pure (pure_pick_t rfl rfl) rfl rfl ?_
 refine seq_pure (pure_move rfl) rfl rfl ?_
 refine seq_skip rfl rfl ?_
 refine seq_skip rfl rfl ?_
 refine seq_skip rfl rfl ?_
 refine seq_skip rfl rfl ?_
 refine seq_skip rfl rfl ?_
 refine seq_skip rfl rfl ?_
 refine seq_skip rfl rfl ?_
 refine seq_skip rfl rfl ?_
 refine seq_pure (pure_pick_t rfl rfl) rfl rfl ?_
 refine seq_done (nrm_seq (tri_cond_t rfl ?_))
 refine tri_seq (tri_region (seq_pure (pure_assign rfl) rfl rfl ?_))
 refine seq_done (nrm_seq (tri_ret (ret_seq (ret_fin1 (res_tmp rfl) ?_))))
 exact ⟨rfl, by (cases R with | false => rfl | true => (exfalso; obtain ⟨i1, i2, i3, i4, i5, i6, i7⟩ := hi.1 rfl; first | omega | (have j := i1 (by omega); simp_all; done) | (have j := he (i2 (by omega)); simp_all; done) | (have j := i2 (by omega); simp_all; done) | (have j := i3 (by omega); simp_all; done) | (have j := i4 (by omega); simp_all; done) | (have j := i5 (by omega); simp_all; done))), rfl⟩
 refine seq_pure (pure_pick_t rfl rfl) rfl rfl ?_
 refine seq_pure (pure_pick_f rfl rfl) rfl rfl ?_
 refine seq_pure (pure_move rfl) rfl rfl ?_
 refine seq_pure (pure_move rfl) rfl rfl ?_
 refine seq_pure (pure_move rfl) rfl rfl ?_
 refine seq_pure (pure_fieldAddr0 rfl) rfl rfl ?_
 refine seq_load (load_ba rfl rfl (by repeat first | exact mH | apply mT) (by rfl)) rfl rfl ?_
 refine seq_valb rfl (o3) rfl rfl (fun h552 => ?_) (fun h552 => ?_)
 refine seq_pure (pure_not_t rfl) rfl rfl ?_
 refine seq_pure (pure_pick_t rfl rfl) rfl rfl ?_
 refine seq_pure (pure_pick_f rfl rfl) rfl rfl ?_
 refine seq_pure (pure_move rfl) rfl rfl ?_
 refine seq_pure (pure_move rfl) rfl rfl ?_
 refine seq_pure (pure_not_t rfl) rfl rfl ?_
 refine seq_pure (pure_move rfl) rfl rfl ?_
 refine seq_skip rfl rfl ?_
 refine seq_skip rfl rfl ?_
 refine seq_skip rfl rfl ?_
 refine seq_skip rfl rfl ?_
 refine seq_pure (pure_pick_f rfl rfl) rfl rfl ?_
 refine seq_pure (pure_pick_f rfl rfl) rfl rfl ?_
 refine seq_done (nrm_seq (tri_cond_f rfl ?_))
 refine tri_skip (nrm_seq (tri_seq (tri_seq (tri_region (seq_pure (pure_fieldAddr0 rfl) rfl rfl ?_)))))
 refine seq_load (load_bs rfl rfl (by repeat first | exact mH | apply mT) (by rfl)) rfl rfl ?_
 refine seq_pure (pure_neq_t rfl rfl (by omega)) rfl rfl ?_
 refine seq_pure (pure_move rfl) rfl rfl ?_
 refine seq_pure (pure_fieldAddr0 rfl) rfl rfl ?_
 refine seq_load (load_ba rfl rfl (by repeat first | exact mH | apply mT) (by rfl)) rfl rfl ?_
 refine seq_valb rfl (o7) rfl rfl (fun h580 => ?_) (fun h580 => ?_)
 refine seq_pure (pure_not_t rfl) rfl rfl ?_
 refine seq_pure (pure_move rfl) rfl rfl ?_
 refine seq_pure (pure_fieldAddr0 rfl) rfl rfl ?_
 refine seq_load (load_bs rfl rfl (by repeat first | exact mH | apply mT) (by rfl)) rfl rfl ?_
 refine seq_bool (pure_neq rfl rfl) rfl rfl (fun h585 => ?_) (fun h585 => ?_)
 refine seq_pure (pure_pick_f rfl rfl) rfl rfl ?_
 refine seq_pure (pure_pick_t rfl rfl) rfl rfl ?_
 refine seq_done (nrm_seq (tri_cond_t rfl ?_))
 refine tri_seq (tri_region (seq_pure (pure_assign rfl) rfl rfl ?_))
 refine seq_done (nrm_seq (tri_ret (ret_seq (ret_fin1 (res_tmp rfl) ?_))))
 exact ⟨rfl, by (cases R with | false => rfl | true => (exfalso; obtain ⟨i1, i2, i3, i4, i5, i6, i7⟩ := hi.1 rfl; first | omega | (have j := i1 (by omega); simp_all; done) | (have j := he (i2 (by omega)); simp_all; done) | (have j := i2 (by omega); simp_all; done) | (have j := i3 (by omega); simp_all; done) | (have j := i4 (by omega); simp_all; done) | (have j := i5 (by omega); simp_all; done))), rfl⟩
 refine seq_pure (pure_pick_f rfl rfl) rfl rfl ?_
 refine seq_pure (pure_pick_t rfl rfl) rfl rfl ?_
 refine seq_done (nrm_seq (tri_cond_f rfl ?_))
 refine tri_skip (nrm_seq (tri_seq (tri_seq (tri_region (seq_pure (pure_fieldAddr0 rfl) rfl rfl ?_)))))
 refine seq_load (load_bs rfl rfl (by repeat first | exact mH | apply mT) (by rfl)) rfl rfl ?_
 refine seq_pure (pure_eql_f rfl rfl (by omega)) rfl rfl ?_
 refine seq_done (nrm_seq (tri_cond_f rfl ?_))
 refine tri_skip (nrm_seq (tri_seq (tri_region (seq_pure (pure_fieldAddr0 rfl) rfl rfl ?_))))
 refine seq_load (load_bs rfl rfl (by repeat first | exact mH | apply mT) (by rfl)) rfl rfl ?_
 refine seq_bool (pure_eql rfl rfl) rfl rfl (fun h622 => ?_) (fun h622 => ?_)
 refine seq_pure (pure_assign rfl) rfl rfl ?_
 refine seq_done (nrm_seq (tri_ret (ret_fin1 (res_tmp rfl) ?_)))
 exact ⟨rfl, by rw [hi.2 ⟨fun _ => by (first | assumption | (exfalso; omega)), fun _ => by (first | assumption | (exfalso; omega) | exact Classical.not_not.1 (by assumption)), fun _ => by (first | assumption | (exfalso; omega)), fun _ => by (first | assumption | (exfalso; omega)), fun _ => ⟨by (first | assumption | (exfalso; omega)), by (first | assumption | omega)⟩, by omega, by omega⟩], rfl⟩
 refine seq_pure (pure_assign rfl) rfl rfl ?_
 refine seq_done (nrm_seq (tri_ret (ret_fin1 (res_tmp rfl) ?_)))
 exact ⟨rfl, by (cases R with | false => rfl | true => (exfalso; obtain ⟨i1, i2, i3, i4, i5, i6, i7⟩ := hi.1 rfl; first | omega | (have j := i1 (by omega); simp_all; done) | (have j := he (i2 (by omega)); simp_all; done) | (have j := i2 (by omega); simp_all; done) | (have j := i3 (by omega); simp_all; done) | (have j := i4 (by omega); simp_all; done) | (have j := i5 (by omega); simp_all; done))), rfl⟩
 refine seq_pure (pure_not_f rfl) rfl rfl ?_
 refine seq_pure (pure_move rfl) rfl rfl ?_
 refine seq_skip rfl rfl ?_
 refine seq_skip rfl rfl ?_
 refine seq_skip rfl rfl ?_
 refine seq_pure (pure_pick_t rfl rfl) rfl rfl ?_
 refine seq_pure (pure_pick_t rfl rfl) rfl rfl ?_
 refine seq_done (nrm_seq (tri_cond_t rfl ?_))
 refine tri_seq (tri_region (seq_pure (pure_assign rfl) rfl rfl ?_))
 refine seq_done (nrm_seq (tri_ret (ret_seq (ret_fin1 (res_tmp rfl) ?_))))
 exact ⟨rfl, by (cases R with | false => rfl | true => (exfalso; obtain ⟨i1, i2, i3, i4, i5, i6, i7⟩ := hi.1 rfl; first | omega | (have j := i1 (by omega); simp_all; done) | (have j := he (i2 (by omega)); simp_all; done) | (have j := i2 (by omega); simp_all; done) | (have j := i3 (by omega); simp_all; done) | (have j := i4 (by omega); simp_all; done) | (have j := i5 (by omega); simp_all; done))), rfl⟩
 refine seq_pure (pure_not_f rfl) rfl rfl ?_
 refine seq_pure (pure_pick_t rfl rfl) rfl rfl ?_
 refine seq_pure (pure_pick_f rfl rfl) rfl rfl ?_
 refine seq_pure (pure_move rfl) rfl rfl ?_
 refine seq_skip rfl rfl ?_
 refine seq_skip rfl rfl ?_
 refine seq_skip rfl rfl ?_
 refine seq_skip rfl rfl ?_
 refine seq_skip rfl rfl ?_
 refine seq_skip rfl rfl ?_
 refine seq_skip rfl rfl ?_
 refine seq_skip rfl rfl ?_
 refine seq_pure (pure_pick_t rfl rfl) rfl rfl ?_
 refine seq_done (nrm_seq (tri_cond_t rfl ?_))
 refine tri_seq (tri_region (seq_pure (pure_assign rfl) rfl rfl ?_))
 refine seq_done (nrm_seq (tri_ret (ret_seq (ret_fin1 (res_tmp rfl) ?_))))
 exact ⟨rfl, by (cases R with | false => rfl | true => (exfalso; obtain ⟨i1, i2, i3, i4, i5, i6, i7⟩ := hi.1 rfl; first | omega | (have j := i1 (by omega); simp_all; done) | (have j := he (i2 (by omega)); simp_all; done) | (have j := i2 (by omega); simp_all; done) | (have j := i3 (by omega); simp_all; done) | (have j := i4 (by omega); simp_all; done) | (have j := i5 (by omega); simp_all; done))), rfl⟩
 refine seq_pure (pure_pick_f rfl rfl) rfl rfl ?_
 refine seq_pure (pure_move rfl) rfl rfl ?_
 refine seq_pure (pure_fieldAddr0 rfl) rfl rfl ?_
 refine seq_load (load_bs rfl rfl (by repeat first | exact mH | apply mT) (by rfl)) rfl rfl ?_
 refine seq_bool (pure_eql rfl rfl) rfl rfl (fun h683 => ?_) (fun h683 => ?_)
 refine seq_pure (pure_pick_f rfl rfl) rfl rfl ?_
 refine seq_pure (pure_assign rfl) rfl rfl ?_
 refine seq_done (nrm_seq (tri_seq (tri_seq (tri_region (seq_pure (pure_move rfl) rfl rfl ?_)))))
 refine seq_pure (pure_fieldAddr0 rfl) rfl rfl ?_
 refine seq_load (load_bs rfl rfl (by repeat first | exact mH | apply mT) (by rfl)) rfl rfl ?_
 refine seq_valb rfl (o2) rfl rfl (fun h694 => ?_) (fun h694 => ?_)
 refine seq_pure (pure_bneq_ft rfl rfl rfl) rfl rfl ?_
 refine seq_pure (pure_move rfl) rfl rfl ?_
 refine seq_skip rfl rfl ?_
 refine seq_skip rfl rfl ?_
 refine seq_skip rfl rfl ?_
 refine seq_skip rfl rfl ?_
 refine seq_skip rfl rfl ?_
 refine seq_skip rfl rfl ?_
 refine seq_skip rfl rfl ?_
 refine seq_pure (pure_pick_t rfl rfl) rfl rfl ?_
 refine seq_pure (pure_move rfl) rfl rfl ?_
 refine seq_skip rfl rfl ?_
 refine seq_skip rfl rfl ?_
 refine seq_skip rfl rfl ?_
 refine seq_skip rfl rfl ?_
 refine seq_skip rfl rfl ?_
 refine seq_skip rfl rfl ?_
 refine seq_skip rfl rfl ?_
 refine seq_pure (pure_pick_t rfl rfl) rfl rfl ?_
 refine seq_pure (pure_move rfl) rfl rfl ?_
 refine seq_skip rfl rfl ?_
 refine seq_skip rfl rfl ?_
 refine seq_skip rfl rfl ?_
 refine seq_skip rfl rfl ?_
 refine seq_skip rfl rfl ?_
 refine seq_skip rfl rfl ?_
 refine seq_skip rfl rfl ?_
 refine seq_skip rfl rfl ?_
 refine seq_pure (pure_pick_t rfl rfl) rfl rfl ?_
 refine seq_done (nrm_seq (tri_cond_t rfl ?_))
 refine tri_seq (tri_region (seq_pure (pure_assign rfl) rfl rfl ?_))
 refine seq_done (nrm_seq (tri_ret (ret_seq (ret_fin1 (res_tmp rfl) ?_))))
 exact ⟨rfl, by (cases R with | false => rfl | true => (exfalso; obtain ⟨i1, i2, i3, i4, i5, i6, i7⟩ := hi.1 rfl; first | omega | (have j := i1 (by omega); simp_all; done) | (have j := he (i2 (by omega)); simp_all; done) | (have j := i2 (by omega); simp_all; done) | (have j := i3 (by omega); simp_all; done) | (have j := i4 (by omega); simp_all; done) | (have j := i5 (by omega); simp_all; done))), rfl⟩
 refine seq_pure (pure_bneq_s rfl rfl rfl) rfl rfl ?_
 refine seq_pure (pure_move rfl) rfl rfl ?_
 refine seq_pure (pure_move rfl) rfl rfl ?_
 refine seq_pure (pure_not_f rfl) rfl rfl ?_
 refine seq_pure (pure_move rfl) rfl rfl ?_
 refine seq_pure (pure_fieldAddr0 rfl) rfl rfl ?_
 refine seq_load (load_bs rfl rfl (by repeat first | exact mH | apply mT) (by rfl)) rfl rfl ?_
 refine seq_bool (pure_sneq rfl rfl) rfl rfl (fun h743 => ?_) (fun h743 => ?_)
 refine seq_pure (pure_pick_t rfl rfl) rfl rfl ?_
 refine seq_pure (pure_pick_f rfl rfl) rfl rfl ?_
 refine seq_pure (pure_move rfl) rfl rfl ?_
 refine seq_skip rfl rfl ?_
 refine seq_skip rfl rfl ?_
 refine seq_skip rfl rfl ?_
 refine seq_skip rfl rfl ?_
 refine seq_skip rfl rfl ?_
 refine seq_skip rfl rfl ?_
 refine seq_skip rfl rfl ?_
 refine seq_pure (pure_pick_t rfl rfl) rfl rfl ?_
 refine seq_pure (pure_move rfl) rfl rfl ?_
 refine seq_skip rfl rfl ?_
 refine seq_skip rfl rfl ?_
 refine seq_skip rfl rfl ?_
 refine seq_skip rfl rfl ?_
 refine seq_skip rfl rfl ?_
 refine seq_skip rfl rfl ?_
 refine seq_skip rfl rfl ?_
 refine seq_skip rfl rfl ?_
 refine seq_pure (pure_pick_t rfl rfl) rfl rfl ?_
 refine seq_done (nrm_seq (tri_cond_t rfl ?_))
 refine tri_seq (tri_region (seq_pure (pure_assign rfl) rfl rfl ?_))
 refine seq_done (nrm_seq (tri_ret (ret_seq (ret_fin1 (res_tmp rfl) ?_))))
 exact ⟨rfl, by (cases R with | false => rfl | true => (exfalso; obtain ⟨i1, i2, i3, i4, i5, i6, i7⟩ := hi.1 rfl; first | omega | (have j := i1 (by omega); simp_all; done) | (have j := he (i2 (by omega)); simp_all; done) | (have j := i2 (by omega); simp_all; done) | (have j := i3 (by omega); simp_all; done) | (have j := i4 (by omega); simp_all; done) | (have j := i5 (by omega); simp_all; done))), rfl⟩
 refine seq_pure (pure_pick_t rfl rfl) rfl rfl ?_
 refine seq_pure (pure_pick_f rfl rfl) rfl rfl ?_
 refine seq_pure (pure_move rfl) rfl rfl ?_
 refine seq_pure (pure_move rfl) rfl rfl ?_
 refine seq_pure (pure_move rfl) rfl rfl ?_
 refine seq_pure (pure_fieldAddr0 rfl) rfl rfl ?_
 refine seq_load (load_ba rfl rfl (by repeat first | exact mH | apply mT) (by rfl)) rfl rfl ?_
 refine seq_valb rfl (o3) rfl rfl (fun h784 => ?_) (fun h784 => ?_)
 refine seq_pure (pure_not_t rfl) rfl rfl ?_
 refine seq_pure (pure_pick_t rfl rfl) rfl rfl ?_
 refine seq_pure (pure_pick_f rfl rfl) rfl rfl ?_
 refine seq_pure (pure_move rfl) rfl rfl ?_
 refine seq_pure (pure_move rfl) rfl rfl ?_
 refine seq_pure (pure_not_t rfl) rfl rfl ?_
 refine seq_pure (pure_move rfl) rfl rfl ?_
 refine seq_skip rfl rfl ?_
 refine seq_skip rfl rfl ?_
 refine seq_skip rfl rfl ?_
 refine seq_skip rfl rfl ?_
 refine seq_pure (pure_pick_f rfl rfl) rfl rfl ?_
 refine seq_pure (pure_pick_f rfl rfl) rfl rfl ?_
 refine seq_done (nrm_seq (tri_cond_f rfl ?_))
 refine tri_skip (nrm_seq (tri_seq (tri_seq (tri_region (seq_pure (pure_fieldAddr0 rfl) rfl rfl ?_)))))
 refine seq_load (load_bs rfl rfl (by repeat first | exact mH | apply mT) (by rfl)) rfl rfl ?_
 refine seq_pure (pure_neq_f rfl rfl (by omega)) rfl rfl ?_
 refine seq_pure (pure_move rfl) rfl rfl ?_
 refine seq_skip rfl rfl ?_
 refine seq_skip rfl rfl ?_
 refine seq_skip rfl rfl ?_
 refine seq_skip rfl rfl ?_
 refine seq_skip rfl rfl ?_
 refine seq_skip rfl rfl ?_
 refine seq_skip rfl rfl ?_
 refine seq_skip rfl rfl ?_
 refine seq_skip rfl rfl ?_
 refine seq_pure (pure_pick_f rfl rfl) rfl rfl ?_
 refine seq_done (nrm_seq (tri_cond_f rfl ?_))
 refine tri_skip (nrm_seq (tri_seq (tri_seq (tri_region (seq_pure (pure_fieldAddr0 rfl) rfl rfl ?_)))))
 refine seq_load (load_bs rfl rfl (by repeat first | exact mH | apply mT) (by rfl)) rfl rfl ?_
 refine seq_pure (pure_eql_f rfl rfl (by omega)) rfl rfl ?_
 refine seq_done (nrm_seq (tri_cond_f rfl ?_))
 refine tri_skip (nrm_seq (tri_seq (tri_region (seq_pure (pure_fieldAddr0 rfl) rfl rfl ?_))))
 refine seq_load (load_bs rfl rfl (by repeat first | exact mH | apply mT) (by rfl)) rfl rfl ?_
 refine seq_bool (pure_eql rfl rfl) rfl rfl (fun h840 => ?_) (fun h840 => ?_)
 refine seq_pure (pure_assign rfl) rfl rfl ?_
 refine seq_done (nrm_seq (tri_ret (ret_fin1 (res_tmp rfl) ?_)))
 exact ⟨rfl, by rw [hi.2 ⟨fun _ => by (first | assumption | (exfalso; omega)), fun _ => by (first | assumption | (exfalso; omega) | exact Classical.not_not.1 (by assumption)), fun _ => by (first | assumption | (exfalso; omega)), fun _ => by (first | assumption | (exfalso; omega)), fun _ => ⟨by (first | assumption | (exfalso; omega)), by (first | assumption | omega)⟩, by omega, by omega⟩], rfl⟩
 refine seq_pure (pure_assign rfl) rfl rfl ?_
 refine seq_done (nrm_seq (tri_ret (ret_fin1 (res_tmp rfl) ?_)))
 exact ⟨rfl, by (cases R with | false => rfl | true => (exfalso; obtain ⟨i1, i2, i3, i4, i5, i6, i7⟩ := hi.1 rfl; first | omega | (have j := i1 (by omega); simp_all; done) | (have j := he (i2 (by omega)); simp_all; done) | (have j := i2 (by omega); simp_all; done) | (have j := i3 (by omega); simp_all; done) | (have j := i4 (by omega); simp_all; done) | (have j := i5 (by omega); simp_all; done))), rfl⟩
 refine seq_pure (pure_not_f rfl) rfl rfl ?_
 refine seq_pure (pure_pick_t rfl rfl) rfl rfl ?_
 refine seq_pure (pure_pick_f rfl rfl) rfl rfl ?_
 refine seq_pure (pure_move rfl) rfl rfl ?_
 refine seq_skip rfl rfl ?_
 refine seq_skip rfl rfl ?_
 refine seq_skip rfl rfl ?_
 refine seq_skip rfl rfl ?_
 refine seq_skip rfl rfl ?_
 refine seq_skip rfl rfl ?_
 refine seq_skip rfl rfl ?_
 refine seq_skip rfl rfl ?_
 refine seq_pure (pure_pick_t rfl rfl) rfl rfl ?_
 refine seq_done (nrm_seq (tri_cond_t rfl ?_))
 refine tri_seq (tri_region (seq_pure (pure_assign rfl) rfl rfl ?_))
 refine seq_done (nrm_seq (tri_ret (ret_seq (ret_fin1 (res_tmp rfl) ?_))))
 exact ⟨rfl, by (cases R with | false => rfl | true => (exfalso; obtain ⟨i1, i2, i3, i4, i5, i6, i7⟩ := hi.1 rfl; first | omega | (have j := i1 (by omega); simp_all; done) | (have j := he (i2 (by omega)); simp_all; done) | (have j := i2 (by omega); simp_all; done) | (have j := i3 (by omega); simp_all; done) | (have j := i4 (by omega); simp_all; done) | (have j := i5 (by omega); simp_all; done))), rfl⟩
 refine seq_pure (pure_pick_f rfl rfl) rfl rfl ?_
 refine seq_pure (pure_assign rfl) rfl rfl ?_
 refine seq_done (nrm_seq (tri_seq (tri_seq (tri_region (seq_pure (pure_move rfl) rfl rfl ?_)))))
 refine seq_pure (pure_fieldAddr0 rfl) rfl rfl ?_
 refine seq_load (load_bs rfl rfl (by repeat first | exact mH | apply mT) (by rfl)) rfl rfl ?_
 refine seq_valb rfl (o2) rfl rfl (fun h888 => ?_) (fun h888 => ?_)
 refine seq_pure (pure_bneq_ft rfl rfl rfl) rfl rfl ?_
 refine seq_pure (pure_move rfl) rfl rfl ?_
 refine seq_skip rfl rfl ?_
 refine seq_skip rfl rfl ?_
 refine seq_skip rfl rfl ?_
 refine seq_skip rfl rfl ?_
 refine seq_skip rfl rfl ?_
 refine seq_skip rfl rfl ?_
 refine seq_skip rfl rfl ?_
 refine seq_pure (pure_pick_t rfl rfl) rfl rfl ?_
 refine seq_pure (pure_move rfl) rfl rfl ?_
 refine seq_skip rfl rfl ?_
 refine seq_skip rfl rfl ?_
 refine seq_skip rfl rfl ?_
 refine seq_skip rfl rfl ?_
 refine seq_skip rfl rfl ?_
 refine seq_skip rfl rfl ?_
 refine seq_skip rfl rfl ?_
 refine seq_pure (pure_pick_t rfl rfl) rfl rfl ?_
 refine seq_pure (pure_move rfl) rfl rfl ?_
 refine seq_skip rfl rfl ?_
 refine seq_skip rfl rfl ?_
 refine seq_skip rfl rfl ?_
 refine seq_skip rfl rfl ?_
 refine seq_skip rfl rfl ?_
 refine seq_skip rfl rfl ?_
 refine seq_skip rfl rfl ?_
 refine seq_skip rfl rfl ?_
 refine seq_pure (pure_pick_t rfl rfl) rfl rfl ?_
 refine seq_done (nrm_seq (tri_cond_t rfl ?_))
 refine tri_seq (tri_region (seq_pure (pure_assign rfl) rfl rfl ?_))
 refine seq_done (nrm_seq (tri_ret (ret_seq (ret_fin1 (res_tmp rfl) ?_))))
 exact ⟨rfl, by (cases R with | false => rfl | true => (exfalso; obtain ⟨i1, i2, i3, i4, i5, i6, i7⟩ := hi.1 rfl; first | omega | (have j := i1 (by omega); simp_all; done) | (have j := he (i2 (by omega)); simp_all; done) | (have j := i2 (by omega); simp_all; done) | (have j := i3 (by omega); simp_all; done) | (have j := i4 (by omega); simp_all; done) | (have j := i5 (by omega); simp_all; done))), rfl⟩
 refine seq_pure (pure_bneq_s rfl rfl rfl) rfl rfl ?_
 refine seq_pure (pure_move rfl) rfl rfl ?_
 refine seq_pure (pure_move rfl) rfl rfl ?_
 refine seq_pure (pure_not_f rfl) rfl rfl ?_
 refine seq_pure (pure_move rfl) rfl rfl ?_
 refine seq_pure (pure_fieldAddr0 rfl) rfl rfl ?_
 refine seq_load (load_bs rfl rfl (by repeat first | exact mH | apply mT) (by rfl)) rfl rfl ?_
 refine seq_bool (pure_sneq rfl rfl) rfl rfl (fun h937 => ?_) (fun h937 => ?_)
 refine seq_pure (pure_pick_t rfl rfl) rfl rfl ?_
 refine seq_pure (pure_pick_f rfl rfl) rfl rfl ?_
 refine seq_pure (pure_move rfl) rfl rfl ?_
 refine seq_skip rfl rfl ?_
 refine seq_skip rfl rfl ?_
 refine seq_skip rfl rfl ?_
 refine seq_skip rfl rfl ?_
 refine seq_skip rfl rfl ?_
 refine seq_skip rfl rfl ?_
 refine seq_skip rfl rfl ?_
 refine seq_pure (pure_pick_t rfl rfl) rfl rfl ?_
 refine seq_pure (pure_move rfl) rfl rfl ?_
 refine seq_skip rfl rfl ?_
 refine seq_skip rfl rfl ?_
 refine seq_skip rfl rfl ?_
 refine seq_skip rfl rfl ?_
 refine seq_skip rfl rfl ?_
 refine seq_skip rfl rfl ?_
 refine seq_skip rfl rfl ?_
 refine seq_skip rfl rfl ?_
 refine seq_pure (pure_pick_t rfl rfl) rfl rfl ?_
 refine seq_done (nrm_seq (tri_cond_t rfl ?_))
 refine tri_seq (tri_region (seq_pure (pure_assign rfl) rfl rfl ?_))
 refine seq_done (nrm_seq (tri_ret (ret_seq (ret_fin1 (res_tmp rfl) ?_))))
 exact ⟨rfl, by (cases R with | false => rfl | true => (exfalso; obtain ⟨i1, i2, i3, i4, i5, i6, i7⟩ := hi.1 rfl; first | omega | (have j := i1 (by omega); simp_all; done) | (have j := he (i2 (by omega)); simp_all; done) | (have j := i2 (by omega); simp_all; done) | (have j := i3 (by omega); simp_all; done) | (have j := i4 (by omega); simp_all; done) | (have j := i5 (by omega); simp_all; done))), rfl⟩
 refine seq_pure (pure_pick_t rfl rfl) rfl rfl ?_
 refine seq_pure (pure_pick_f rfl rfl) rfl rfl ?_
 refine seq_pure (pure_move rfl) rfl rfl ?_
 refine seq_pure (pure_move rfl) rfl rfl ?_
 refine seq_pure (pure_move rfl) rfl rfl ?_
 refine seq_skip rfl rfl ?_
 refine seq_skip rfl rfl ?_
 refine seq_skip rfl rfl ?_
 refine seq_skip rfl rfl ?_
 refine seq_pure (pure_pick_f rfl rfl) rfl rfl ?_
 refine seq_pure (pure_pick_f rfl rfl) rfl rfl ?_
 refine seq_pure (pure_move rfl) rfl rfl ?_
 refine seq_pure (pure_move rfl) rfl rfl ?_
 refine seq_pure (pure_not_f rfl) rfl rfl ?_
 refine seq_pure (pure_move rfl) rfl rfl ?_
 refine seq_pure (pure_fieldAddr0 rfl) rfl rfl ?_
 refine seq_load (load_ba rfl rfl (by repeat first | exact mH | apply mT) (by rfl)) rfl rfl ?_
 refine seq_valb rfl (o4) rfl rfl (fun h988 => ?_) (fun h988 => ?_)
 refine seq_pure (pure_not_t rfl) rfl rfl ?_
 refine seq_pure (pure_pick_t rfl rfl) rfl rfl ?_
 refine seq_pure (pure_pick_f rfl rfl) rfl rfl ?_
 refine seq_done (nrm_seq (tri_cond_f rfl ?_))
 refine tri_skip (nrm_seq (tri_seq (tri_seq (tri_region (seq_pure (pure_fieldAddr0 rfl) rfl rfl ?_)))))
 refine seq_load (load_bs rfl rfl (by repeat first | exact mH | apply mT) (by rfl)) rfl rfl ?_
 refine seq_pure (pure_neq_t rfl rfl (by omega)) rfl rfl ?_
 refine seq_pure (pure_move rfl) rfl rfl ?_
 refine seq_pure (pure_fieldAddr0 rfl) rfl rfl ?_
 refine seq_load (load_ba rfl rfl (by repeat first | exact mH | apply mT) (by rfl)) rfl rfl ?_
 refine seq_valb rfl (o7) rfl rfl (fun h1006 => ?_) (fun h1006 => ?_)
 refine seq_pure (pure_not_t rfl) rfl rfl ?_
 refine seq_pure (pure_move rfl) rfl rfl ?_
 refine seq_pure (pure_fieldAddr0 rfl) rfl rfl ?_
 refine seq_load (load_bs rfl rfl (by repeat first | exact mH | apply mT) (by rfl)) rfl rfl ?_
 refine seq_bool (pure_neq rfl rfl) rfl rfl (fun h1011 => ?_) (fun h1011 => ?_)
 refine seq_pure (pure_pick_f rfl rfl) rfl rfl ?_
 refine seq_pure (pure_pick_t rfl rfl) rfl rfl ?_
 refine seq_done (nrm_seq (tri_cond_t rfl ?_))
 refine tri_seq (tri_region (seq_pure (pure_assign rfl) rfl rfl ?_))
 refine seq_done (nrm_seq (tri_ret (ret_seq (ret_fin1 (res_tmp rfl) ?_))))
 exact ⟨rfl, by (cases R with | false => rfl | true => (exfalso; obtain ⟨i1, i2, i3, i4, i5, i6, i7⟩ := hi.1 rfl; first | omega | (have j := i1 (by omega); simp_all; done) | (have j := he (i2 (by omega)); simp_all; done) | (have j := i2 (by omega); simp_all; done) | (have j := i3 (by omega); simp_all; done) | (have j := i4 (by omega); simp_all; done) | (have j := i5 (by omega); simp_all; done))), rfl⟩
 refine seq_pure (pure_pick_f rfl rfl) rfl rfl ?_
 refine seq_pure (pure_pick_t rfl rfl) rfl rfl ?_
 refine seq_done (nrm_seq (tri_cond_f rfl ?_))
 refine tri_skip (nrm_seq (tri_seq (tri_seq (tri_region (seq_pure (pure_fieldAddr0 rfl) rfl rfl ?_)))))
 refine seq_load (load_bs rfl rfl (by repeat first | exact mH | apply mT) (by rfl)) rfl rfl ?_
 refine seq_bool (pure_eql rfl rfl) rfl rfl (fun h1038 => ?_) (fun h1038 => ?_)
 refine seq_done (nrm_seq (tri_cond_t rfl ?_))
 refine tri_seq (tri_region (seq_pure (pure_fieldAddr0 rfl) rfl rfl ?_))
 refine seq_load (load_bs rfl rfl (by repeat first | exact mH | apply mT) (by rfl)) rfl rfl ?_
 refine seq_bool (pure_geq rfl rfl) rfl rfl (fun h1046 => ?_) (fun h1046 => ?_)
 refine seq_pure (pure_move rfl) rfl rfl ?_
 refine seq_pure (pure_fieldAddr0 rfl) rfl rfl ?_
 refine seq_load (load_bs rfl rfl (by repeat first | exact mH | apply mT) (by rfl)) rfl rfl ?_
 refine seq_bool (pure_leq rfl rfl) rfl rfl (fun h1050 => ?_) (fun h1050 => ?_)
 refine seq_pure (pure_pick_t rfl rfl) rfl rfl ?_
 refine seq_pure (pure_assign rfl) rfl rfl ?_
 refine seq_done (nrm_seq (tri_ret (ret_seq (ret_fin1 (res_tmp rfl) ?_))))
 exact ⟨rfl, by rw [hi.2 ⟨fun _ => by (first | assumption | (exfalso; omega)), fun _ => by (first | assumption | (exfalso; omega) | exact Classical.not_not.1 (by assumption)), fun _ => by (first | assumption | (exfalso; omega)), fun _ => by (first | assumption | (exfalso; omega)), fun _ => ⟨by (first | assumption | (exfalso; omega)), by (first | assumption | omega)⟩, by omega, by omega⟩], rfl⟩
 refine seq_pure (pure_pick_t rfl rfl) rfl rfl ?_
 refine seq_pure (pure_assign rfl) rfl rfl ?_
 refine seq_done (nrm_seq (tri_ret (ret_seq (ret_fin1 (res_tmp rfl) ?_))))
 exact ⟨rfl, by (cases R with | false => rfl | true => (exfalso; obtain ⟨i1, i2, i3, i4, i5, i6, i7⟩ := hi.1 rfl; first | omega | (have j := i1 (by omega); simp_all; done) | (have j := he (i2 (by omega)); simp_all; done) | (have j := i2 (by omega); simp_all; done) | (have j := i3 (by omega); simp_all; done) | (have j := i4 (by omega); simp_all; done) | (have j := i5 (by omega); simp_all; done))), rfl⟩
 refine seq_pure (pure_move rfl) rfl rfl ?_
 refine seq_skip rfl rfl ?_
 refine seq_skip rfl rfl ?_
 refine seq_skip rfl rfl ?_
 refine seq_pure (pure_pick_f rfl rfl) rfl rfl ?_
 refine seq_pure (pure_assign rfl) rfl rfl ?_
 refine seq_done (nrm_seq (tri_ret (ret_seq (ret_fin1 (res_tmp rfl) ?_))))
 exact ⟨rfl, by (cases R with | false => rfl | true => (exfalso; obtain ⟨i1, i2, i3, i4, i5, i6, i7⟩ := hi.1 rfl; first | omega | (have j := i1 (by omega); simp_all; done) | (have j := he (i2 (by omega)); simp_all; done) | (have j := i2 (by omega); simp_all; done) | (have j := i3 (by omega); simp_all; done) | (have j := i4 (by omega); simp_all; done) | (have j := i5 (by omega); simp_all; done))), rfl⟩
 refine seq_done (nrm_seq (tri_cond_f rfl ?_))
 refine tri_skip (nrm_seq (tri_seq (tri_region (seq_pure (pure_fieldAddr0 rfl) rfl rfl ?_))))
 refine seq_load (load_bs rfl rfl (by repeat first | exact mH | apply mT) (by rfl)) rfl rfl ?_
 refine seq_bool (pure_eql rfl rfl) rfl rfl (fun h1088 => ?_) (fun h1088 => ?_)
 refine seq_pure (pure_assign rfl) rfl rfl ?_
 refine seq_done (nrm_seq (tri_ret (ret_fin1 (res_tmp rfl) ?_)))
 exact ⟨rfl, by rw [hi.2 ⟨fun _ => by (first | assumption | (exfalso; omega)), fun _ => by (first | assumption | (exfalso; omega) | exact Classical.not_not.1 (by assumption)), fun _ => by (first | assumption | (exfalso; omega)), fun _ => by (first | assumption | (exfalso; omega)), fun _ => ⟨by (first | assumption | (exfalso; omega)), by (first | assumption | omega)⟩, by omega, by omega⟩], rfl⟩
 refine seq_pure (pure_assign rfl) rfl rfl ?_
 refine seq_done (nrm_seq (tri_ret (ret_fin1 (res_tmp rfl) ?_)))
 exact ⟨rfl, by (cases R with | false => rfl | true => (exfalso; obtain ⟨i1, i2, i3, i4, i5, i6, i7⟩ := hi.1 rfl; first | omega | (have j := i1 (by omega); simp_all; done) | (have j := he (i2 (by omega)); simp_all; done) | (have j := i2 (by omega); simp_all; done) | (have j := i3 (by omega); simp_all; done) | (have j := i4 (by omega); simp_all; done) | (have j := i5 (by omega); simp_all; done))), rfl⟩
 refine seq_pure (pure_not_f rfl) rfl rfl ?_
 refine seq_pure (pure_move rfl) rfl rfl ?_
 refine seq_skip rfl rfl ?_
 refine seq_skip rfl rfl ?_
 refine seq_skip rfl rfl ?_
 refine seq_pure (pure_pick_t rfl rfl) rfl rfl ?_
 refine seq_pure (pure_pick_t rfl rfl) rfl rfl ?_
 refine seq_done (nrm_seq (tri_cond_t rfl ?_))
 refine tri_seq (tri_region (seq_pure (pure_assign rfl) rfl rfl ?_))
 refine seq_done (nrm_seq (tri_ret (ret_seq (ret_fin1 (res_tmp rfl) ?_))))
 exact ⟨rfl, by (cases R with | false => rfl | true => (exfalso; obtain ⟨i1, i2, i3, i4, i5, i6, i7⟩ := hi.1 rfl; first | omega | (have j := i1 (by omega); simp_all; done) | (have j := he (i2 (by omega)); simp_all; done) | (have j := i2 (by omega); simp_all; done) | (have j := i3 (by omega); simp_all; done) | (have j := i4 (by omega); simp_all; done) | (have j := i5 (by omega); simp_all; done))), rfl⟩
 refine seq_pure (pure_not_f rfl) rfl rfl ?_
 refine seq_pure (pure_pick_t rfl rfl) rfl rfl ?_
 refine seq_pure (pure_pick_f rfl rfl) rfl rfl ?_
 refine seq_done (nrm_seq (tri_cond_t rfl ?_))
 refine tri_seq (tri_region (seq_pure (pure_assign rfl) rfl rfl ?_))
 refine seq_done (nrm_seq (tri_ret (ret_seq (ret_fin1 (res_tmp rfl) ?_))))
 exact ⟨rfl, by (cases R with | false => rfl | true => (exfalso; obtain ⟨i1, i2, i3, i4, i5, i6, i7⟩ := hi.1 rfl; first | omega | (have j := i1 (by omega); simp_all; done) | (have j := he (i2 (by omega)); simp_all; done) | (have j := i2 (by omega); simp_all; done) | (have j := i3 (by omega); simp_all; done) | (have j := i4 (by omega); simp_all; done) | (have j := i5 (by omega); simp_all; done))), rfl⟩
end Gw
end Go.Proofs.YtaoaeilognhfpaaDoor
namespace Go.Proofs.YtaoaeilognhfpaaDoor
open Go Go.RowKit
namespace Gw
mutual
def sShape (D N : Int) : Tm → Int → Bool
 | .mk k nm num ty fr lb ks, deep => decide (deep ≤ D) && decide (k ≠ N) && tmNode k nm num ty fr lb ks.length && sShapeL D N ks (deep + 1)
def sShapeL (D N : Int) : List Tm → Int → Bool
 | [], _ => true
 | t :: ts, deep => sShape D N t deep && sShapeL D N ts deep
end
theorem sShapeL_iff (D N : Int) : ∀ (ts : List Tm) (d : Int), sShapeL D N ts d = true ↔ ∀ i, (h : i < ts.length) → sShape D N ts[i] d = true
 | [], d => by simp [sShapeL]
 | t :: ts, d => by
  simp only [sShapeL, Bool.and_eq_true, sShapeL_iff D N ts d]
  constructor
  ·rintro ⟨h1, h2⟩ i hi
   cases i with
   | zero => exact h1
   | succ i => exact h2 i (by simpa using hi)
  ·intro h
   exact ⟨h 0 (by simp), fun i hi => h (i + 1) (by simpa using hi)⟩
theorem sShape_no {D N : Int} {k : Int} {nm : ByteArray} {num : Int} {ty fr : Ty} {lb : Int} {ks : List Tm} {d : Int} (h : D < d ∨ k = N ∨ tmNode k nm num ty fr lb ks.length = false) : sShape D N (.mk k nm num ty fr lb ks) d = false := by
 rw [sShape]
 rcases h with h | h | h
 ·rw [decide_eq_false (by omega)]; rfl
 ·rw [decide_eq_false (p := k ≠ N) (by omega), Bool.and_false]; rfl
 ·rw [h, Bool.and_false]; rfl
theorem sShape_go {D N : Int} {k : Int} {nm : ByteArray} {num : Int} {ty fr : Ty} {lb : Int} {ks : List Tm} {d : Int} (h1 : d ≤ D) (h2 : k ≠ N) (h3 : tmNode k nm num ty fr lb ks.length = true) : sShape D N (.mk k nm num ty fr lb ks) d = sShapeL D N ks (d + 1) := by
 rw [sShape, decide_eq_true h1, decide_eq_true h2, h3]; rfl
theorem sShapeL_f {D N : Int} {ks : List Tm} {d : Int} {i : Nat} (hi : i < ks.length) (h : sShape D N ks[i] d = false) : sShapeL D N ks d = false := by
 cases hx : sShapeL D N ks d with
 | false => rfl
 | true => rw [(sShapeL_iff D N ks d).1 hx i hi] at h; cases h
theorem tmNode_ne {k : Int} {nm : ByteArray} {num : Int} {ty fr : Ty} {lb : Int} {n : Nat} (hk : k ≠ 14) (ha : tmOps k = n) : tmNode k nm num ty fr lb n = true ↔
  (k = 1 ∨ k = 5 → nameOk nm = true) ∧ (¬(k = 1 ∨ k = 5) → nm = ⟨#[]⟩) ∧ (k = 5 ∨ k = 13 ∨ k = 14 → tValid ty = true) ∧ (¬(k = 5 ∨ k = 13 ∨ k = 14) → tNone ty = true) ∧ (k ≠ 14 → tNone fr = true ∧ lb = 0) ∧ (k = 2 → 0 ≤ num ∧ num ≤ 999) ∧ (k ≠ 2 → num = 0) := by
 rw [tmNode_iff]
 simp only [withinB, decide_eq_true_eq]
 constructor
 ·rintro ⟨_, h2, h3, h4, h5, h6, h7, _, h9⟩
  exact ⟨h2, h3, h6, h7, h9, h4, fun h => by have := h5 h; omega⟩
 ·rintro ⟨h2, h3, h6, h7, h9, h4, h5⟩
  exact ⟨ha, h2, h3, h4, fun h => by have := h5 h; omega, h6, h7, fun h => absurd h hk, h9⟩
end Gw
end Go.Proofs.YtaoaeilognhfpaaDoor
namespace Go.Proofs.YtaoaeilognhfpaaDoor
open Go Go.RowKit
namespace Gw
theorem sShape_inv {D N : Int} {k : Int} {nm : ByteArray} {num : Int} {ty fr : Ty} {lb : Int} {ks : List Tm} {d : Int} (h : sShape D N (.mk k nm num ty fr lb ks) d = true) : d ≤ D ∧ ∀ i, (hi : i < ks.length) → sShape D N ks[i] (d + 1) = true := by
 rw [sShape] at h
 simp only [Bool.and_eq_true, decide_eq_true_eq] at h
 exact ⟨h.1.1.1, (sShapeL_iff D N ks _).1 h.2⟩
mutual
theorem mScan_shape (M D N : Int) : ∀ (t : Tm) (deep c : Int), c ≤ M → ((mScan M D N t deep c).1 = true ↔ sShape D N t deep = true ∧ c + tmCount t ≤ M)
 | .mk k nm num ty fr lb ks, deep, c, hc => by
  rw [mScan, tmCount]
  by_cases h : c + 1 > M ∨ deep > D ∨ k = N ∨ tmNode k nm num ty fr lb ks.length = false
  ·rw [if_pos h]
   constructor
   ·intro h; cases h
   ·rintro ⟨h1, h2⟩
    rcases h with h | h
    ·omega
    ·rw [sShape_no h] at h1; cases h1
  ·rw [if_neg h]
   have hn : tmNode k nm num ty fr lb ks.length = true := by
    cases hx : tmNode k nm num ty fr lb ks.length with
    | true => rfl
    | false => exact absurd (Or.inr (Or.inr (Or.inr hx))) h
   rw [sShape_go (by omega) (by omega) hn, mScanL_shape M D N ks (deep + 1) (c + 1) (by omega)]
   constructor
   ·rintro ⟨a, b⟩; exact ⟨a, by omega⟩
   ·rintro ⟨a, b⟩; exact ⟨a, by omega⟩
theorem mScanL_shape (M D N : Int) : ∀ (ts : List Tm) (deep c : Int), c ≤ M → ((mScanL M D N ts deep c).1 = true ↔ sShapeL D N ts deep = true ∧ c + tmCountL ts ≤ M)
 | [], deep, c, hc => by simp [mScanL, sShapeL, tmCountL]; omega
 | t :: ts, deep, c, hc => by
  have h0 := mScan_shape M D N t deep c hc
  rw [mScanL, sShapeL, tmCountL, Bool.and_eq_true]
  by_cases h : (mScan M D N t deep c).1 = true
  ·rw [if_pos h, mScan_count M D N t deep c h, mScanL_shape M D N ts deep _ (h0.1 h).2]
   have := h0.1 h
   constructor
   ·rintro ⟨a, b⟩; exact ⟨⟨this.1, a⟩, by omega⟩
   ·rintro ⟨⟨_, a⟩, b⟩; exact ⟨a, by omega⟩
  ·rw [if_neg h]
   constructor
   ·intro h'; cases h'
   ·rintro ⟨⟨a, _⟩, b⟩
    exact absurd (h0.2 ⟨a, by omega⟩) h
end
set_option maxRecDepth 100000 in
theorem l2Count_fn (D N : Int) : ∀ (t : Tm) (d : Int) (G : IM) (cells : List Value), d ≤ 40 → sShape D N t (D + 1 - d) = true → tmCount t ≤ 4294967296 → RTm G t cells →
  Fn Tryd.prog 70 [.agg ⟨cells⟩, .int .i64 d] [] G (Val (.int .i64 (tmCount t : Int)) G) := by
 refine Tm.ind fun k nm num ty fr lb ks ih d G cells hd hv hcnt hr => ?_
 have hone := hr.one
 obtain ⟨hv1, hv2⟩ := sShape_inv hv
 obtain ⟨tk, tks⟩ := ty
 obtain ⟨fk, fks⟩ := fr
 obtain ⟨pt, ct, pf, cf, p, c, es, rfl, hk, hnum, hlb, hty, hfr, hsl, hkl⟩ := hr.open9
 have hn := hsl.le
 clear hr
 rw [tmCount] at hcnt ⊢
 refine fn_enter Tryd.func70 rfl Tryd.ntmps70 Tryd.results70 rfl ?_
 intro w0
 refine tri_seq (tri_region ?_)
 (refine seq_step (step_box_a rfl rfl) rfl ?_; rintro _ ⟨b3, rfl⟩)
 refine seq_pure (pure_assign rfl) rfl rfl ?_
 refine seq_done (nrm_seq (tri_seq (tri_region (seq_pure (pure_assign rfl) rfl rfl ?_))))
 refine seq_done (nrm_seq (tri_seq (tri_seq (tri_region (seq_pure (pure_assign rfl) rfl rfl ?_)))))
 refine seq_done (nrm_seq (tri_block ?_))
 (refine tri_loopN (fun (i : Nat) => ⟨[(6, .int .i64 i), (5, .int .i64 ((tmCountL (ks.take i) + 1 : Nat) : Int)), (2, .pointer (some ⟨b3, 0, none⟩)), (1, .int .i64 d)], [.blk b3 [.int .i64 k, .string nm, .int .i64 num, .int .i64 tk, .slice pt tks.length ct, .int .i64 fk, .slice pf fks.length cf, .int .i64 lb, .slice p ks.length c]], G⟩) (fun i => i ≤ ks.length) (fun i => ks.length - i) 0 ?_ ?_ ?_)
 exact sub_mk (by repeat (first | exact SubE.nil | refine SubE.cons rfl ?_)) (by repeat (first | exact SubH.refl | exact SubH.nil | refine SubH.cons (by repeat (first | exact Pk.here | apply Pk.there)) ?_ | apply SubH.drop))
 exact Nat.zero_le _
 (rintro i hi)
 refine tri_seq (tri_seq (tri_region (seq_pure (pure_move rfl) rfl rfl ?_)))
 refine seq_pure (pure_fieldAddr0 rfl) rfl rfl ?_
 refine seq_load (load_bs rfl rfl (by repeat first | exact mH | apply mT) (by rfl)) rfl rfl ?_
 refine seq_pure (pure_len rfl rfl) rfl rfl ?_
 refine seq_bool (pure_lss rfl rfl) rfl rfl (fun h30 => ?_) (fun h30 => ?_)
 refine seq_pure (pure_move rfl) rfl rfl ?_
 refine seq_pure (pure_move rfl) rfl rfl ?_
 refine seq_pure (pure_gtr_t rfl rfl (by omega)) rfl rfl ?_
 refine seq_pure (pure_pick_t rfl rfl) rfl rfl ?_
 refine seq_done (nrm_seq (tri_cond_t rfl ?_))
 refine tri_skip (nrm_seq (tri_seq (tri_block (tri_region (seq_pure (pure_move rfl) rfl rfl ?_)))))
 refine seq_pure (pure_fieldAddr0 rfl) rfl rfl ?_
 refine seq_load (load_bs rfl rfl (by repeat first | exact mH | apply mT) (by rfl)) rfl rfl ?_
 refine seq_pure (pure_move rfl) rfl rfl ?_
 (obtain ⟨b, o, e, rfl, hl, hat, hre, hgb⟩ := hsl.kidTm hkl (i := i) (by omega) (by omega); have htk := tmCountL_take (ks := ks) (i := i) (by omega); refine seq_pure (pure_indexAddrN rfl rfl rfl (by omega)) rfl rfl ?_)
 refine seq_load (load_a rfl rfl (hat _) hl) rfl rfl ?_
 refine seq_pure (pure_move rfl) rfl rfl ?_
 refine seq_pure (pure_sub rfl rfl (by omega) (by omega)) rfl rfl ?_
 (have hvk := hv2 i (by omega); rw [show D + 1 - d + 1 = D + 1 - (d - 1) by omega] at hvk; refine seq_val rfl (ih ks[i] (List.getElem_mem (by omega)) (d - 1) G _ (by omega) hvk (by omega) hre) rfl rfl ?_)
 refine seq_pure (pure_add rfl rfl (by omega) (by omega)) rfl rfl ?_
 refine seq_pure (pure_assign rfl) rfl rfl ?_
 refine seq_done (nrm_block (nrm_seq (tri_region (seq_pure (pure_move rfl) rfl rfl ?_))))
 refine seq_pure (pure_add rfl rfl (by omega) (by omega)) rfl rfl ?_
 refine seq_pure (pure_assign rfl) rfl rfl ?_
 refine seq_done ?_
 (refine nrm_loopN (i + 1) ?_ ?_ ?_; rw [show ((tmCountL (ks.take (i + 1)) + 1 : Nat) : Int) = ((tmCountL (ks.take i) + 1 : Nat) : Int) + (tmCount ks[i] : Int) from by rw [tmCountL_succ (by omega)]; omega])
 exact sub_mk (by repeat (first | exact SubE.nil | refine SubE.cons rfl ?_)) (by repeat (first | exact SubH.refl | exact SubH.nil | refine SubH.cons (by repeat (first | exact Pk.here | apply Pk.there)) ?_ | apply SubH.drop))
 omega
 omega
 refine seq_pure (pure_move rfl) rfl rfl ?_
 refine seq_skip rfl rfl ?_
 refine seq_skip rfl rfl ?_
 refine seq_pure (pure_pick_f rfl rfl) rfl rfl ?_
 refine seq_done (nrm_seq (tri_cond_f rfl ?_))
 refine tri_exit ?_
 refine ext_seq ?_
 refine ext_loopN ?_
 refine ext_block_eq ?_
 refine nrm_seq (tri_seq (tri_region (seq_pure (pure_move rfl) rfl rfl ?_)))
 refine seq_pure (pure_assign rfl) rfl rfl ?_
 refine seq_done (nrm_seq (tri_ret (ret_fin1 (res_tmp rfl) ?_)))
 (obtain rfl : i = ks.length := (by omega); rw [List.take_length]; exact ⟨rfl, rfl, rfl⟩)
end Gw
end Go.Proofs.YtaoaeilognhfpaaDoor
namespace Go.Proofs.YtaoaeilognhfpaaDoor
open Go Go.RowKit
namespace Gw
theorem Sw.same {hp hp' : List Ent} {e : Ent} (h : Sw hp e e hp') : hp' = hp := by
 generalize he : e = e' at h
 have : ∀ {hp e e' hp'}, Sw hp e e' hp' → e = e' → hp' = hp := by
  intro hp e e' hp' h
  induction h with
  | here => rintro rfl; rfl
  | there _ ih => intro he; rw [ih he]
 subst he
 exact this h rfl
section
variable {P : Program} {Γ : Ctx} {env : Env} {hp : List Ent} {G : IM} {ty : TypeId}
theorem step_appendSl {d : Nat} {x y : Operand} {t el : TypeId} {i : TyR} {sz by' : Nat} {zs : List Value} [hI : TyI P t i] {ie : TyR} [hEl : TyI P el ie] (hd' : i.desc = .slice el) [hE : TySz P el sz by' zs] {p q : Option Addr} {c n m c2 : Nat} {cs news : List Value} {hp' : Option Addr → Nat → List Ent}
  (hd : Nat.blt d Γ.n = true) (hx : evo env x = some (.slice p n c)) (hy : evo env y = some (.slice q m c2)) (hsz : Nat.blt 0 sz = true)
  (hm : ∀ p' c', Sw hp (.slc p c el sz n cs) (.slc p' c' el sz (n + m) (cs ++ news)) (hp' p' c'))
  (hS : Sl G q m c2 sz news) (h1 : ∀ u ∈ news, u.oneCell' = true) (hc : n ≤ c)
  (h63 : n + m ≤ maxLen) (hb : (n + m) * by' ≤ 140737488355328) :
  StepOp P Γ ⟨env, hp, G⟩ (some d) (.call ⟨.builtin .append, ⟨[x, y]⟩, ⟨[t, t]⟩⟩) ty (vfp p) (fun σ' => ∃ p' c', σ' = ⟨(d, .slice p' (n + m) c') :: env, hp' p' c', G⟩) := by
 obtain ⟨hl, _, _, hat⟩ := hS
 rcases Nat.eq_zero_or_pos m with rfl | hm0
 ·obtain rfl : news = [] := List.length_eq_zero_iff.1 (by omega)
  have hpu := pure_append0 (P := P) (Γ := Γ) (hp := hp) (G := G) (ty := ty) (t := t) (el := el) hd' hx hy hc
  refine ⟨fun a w hs pos af gd Q next hn => ?_⟩
  simp only [Oper.wp, hpu.run a w hs, Oper.upon]
  refine hn _ _ _ (hs.put d _ (by simpa using hd) hs.res) (Ext.refl _ _) ⟨p, c, ?_⟩
  have h0 := hm p c
  simp only [Nat.add_zero, List.append_nil] at h0 ⊢
  rw [h0.same]
 ·obtain ⟨b, o, full, rfl, hg, hv⟩ := hat.resolve_left (by omega)
  exact step_append hd' hd hx hy hsz hm (at_im hg hv) hl h1 h63 hb
variable {K : Po} {ops : Array Oper} {rest : List Oper} {pos : String} {af : Array Edge} {gd : Option (Nat × Bool)}
theorem seq_appendSl {d : Nat} {x y : Operand} {t el : TypeId} {i : TyR} {sz by' : Nat} {zs : List Value} [hI : TyI P t i] {ie : TyR} [hEl : TyI P el ie] [hE : TySz P el sz by' zs] {p q : Option Addr} {c n m c2 : Nat} {cs news : List Value} {hp' : Option Addr → Nat → List Ent}
  (hd' : i.desc = .slice el) (hd : Nat.blt d Γ.n = true) (hx : evo env x = some (.slice p n c)) (hy : evo env y = some (.slice q m c2)) (hsz : Nat.blt 0 sz = true)
  (hm : ∀ p' c', Sw hp (.slc p c el sz n cs) (.slc p' c' el sz (n + m) (cs ++ news)) (hp' p' c'))
  (hS : Sl G q m c2 sz news) (h1 : ∀ u ∈ news, u.oneCell' = true) (hc : n ≤ c)
  (h63 : n + m ≤ maxLen) (hb : (n + m) * by' ≤ 140737488355328) (hw : wantG ops env gd = some true)
  (k : ∀ p' c', TriL P Γ ops rest K ⟨(d, .slice p' (n + m) c') :: env, hp' p' c', G⟩) : TriL P Γ ops (⟨some d, .call ⟨.builtin .append, ⟨[x, y]⟩, ⟨[t, t]⟩⟩, ty, pos, af, gd⟩ :: rest) K ⟨env, hp, G⟩ :=
 seq_step (step_appendSl hd' hd hx hy hsz hm hS h1 hc h63 hb) hw (by rintro _ ⟨p', c', rfl⟩; exact k p' c')
theorem one_appendSl {H : List (Nat × Nat)} {fuel : Nat} {listed listed' : List Bool} {j d : Nat} {cs : List Value} {x y : Operand} {t el : TypeId} {i : TyR} {sz by' : Nat} {zs : List Value} [hI : TyI P t i] {ie : TyR} [hEl : TyI P el ie] [hE : TySz P el sz by' zs] {p q : Option Addr} {c n m c2 : Nat} {news : List Value} {hp' : Option Addr → Nat → List Ent} {H' : List (Nat × Nat)}
  (hi : ops[j]? = some ⟨some d, .call ⟨.builtin .append, ⟨[x, y]⟩, ⟨[t, t]⟩⟩, ty, pos, af, gd⟩) (hd' : i.desc = .slice el)
  (hd : Nat.blt d Γ.n = true) (hx : evo env x = some (.slice p n c)) (hy : evo env y = some (.slice q m c2)) (hsz : Nat.blt 0 sz = true)
  (hm : ∀ p' c', Sw hp (.slc p c el sz n cs) (.slc p' c' el sz (n + m) (cs ++ news)) (hp' p' c'))
  (hS : Sl G q m c2 sz news) (h1 : ∀ u ∈ news, u.oneCell' = true) (hc : n ≤ c)
  (h63 : n + m ≤ maxLen) (hb : (n + m) * by' ≤ 140737488355328) (hw : wantG ops env gd = some true) (hl : listed.set j true = listed')
  (hok : HmOk ops j hp G (.slc p c el sz n cs) H H')
  (k : ∀ p' c', AnyL P Γ ops K H' fuel listed' ⟨(d, .slice p' (n + m) c') :: env, hp' p' c', G⟩) : One P Γ ops K H fuel listed j ⟨env, hp, G⟩ :=
 one_stepM hi (step_appendSl hd' hd hx hy hsz hm hS h1 hc h63 hb) hw hl (fun _ _ hs => hok.spec hs) hok.filter (by rintro _ ⟨p', c', rfl⟩; exact k p' c')
/-- The callee is handed an own entry; what it hands back comes in its place. -/
theorem one_take {H H' : List (Nat × Nat)} {fuel : Nat} {listed listed' : List Bool} {j d : Nat} {f : FuncId} [hF : FunI P f] {xs : List Operand} {ats : Array TypeId} {vs : List Value} {e : Ent} {rst : List Ent} {post : IM → Value → List Ent → Prop}
  (hi : ops[j]? = some ⟨some d, .call ⟨.value (.func f), ⟨xs⟩, ats⟩, ty, pos, af, gd⟩) (hx : evl env xs = some vs) (h : Fn P f vs [e] G post) (hp' : hp.Perm ([e] ++ rst)) (hw : wantG ops env gd = some true) (hd : Nat.blt d Γ.n = true) (hl : listed.set j true = listed')
  (hok : HmOk ops j hp G e H H')
  (k : ∀ v G' outs, IMle G G' → post G' v outs → AnyL P Γ ops K H' fuel listed' ⟨(d, v) :: env, outs ++ rst, G'⟩) : One P Γ ops K H fuel listed j ⟨env, hp, G⟩ :=
 one_stepM hi (step_call_own hx h hp' hd) hw hl (fun _ _ hs => by simpa [Fp] using hok.spec hs) hok.filter (by rintro _ ⟨v, G', outs, rfl, hle, hq⟩; exact k v G' outs hle hq)
end
end Gw
end Go.Proofs.YtaoaeilognhfpaaDoor
namespace Go.Proofs.YtaoaeilognhfpaaDoor
open Go Go.RowKit
namespace Gw
end Gw
end Go.Proofs.YtaoaeilognhfpaaDoor
namespace Go.Proofs.YtaoaeilognhfpaaDoor
open Go Go.RowKit
namespace Gw
end Gw
end Go.Proofs.YtaoaeilognhfpaaDoor
namespace Go.Proofs.YtaoaeilognhfpaaDoor
open Go Go.RowKit
namespace Gw
section forget
variable {P : Program} {Γ : Ctx} {env : Env} {hp : List Ent} {G : IM} {K : Po} {ops : Array Oper} {rest : List Oper} {ty : TypeId} {pos : String} {af : Array Edge} {gd : Option (Nat × Bool)}
end forget
end Gw
end Go.Proofs.YtaoaeilognhfpaaDoor
namespace Go.Proofs.YtaoaeilognhfpaaDoor
open Go Go.RowKit
namespace Gw
/-- The node at a path. -/
def tAt : Tm → List Int → Option Tm
 | t, [] => some t
 | .mk _ _ _ _ _ _ ks, i :: is => if h : 0 ≤ i ∧ i < ks.length then tAt (ks[i.toNat]'(by omega)) is else none
def z9 : List Value := [.int .i64 0, .string ⟨⟨[]⟩⟩, .int .i64 0, .int .i64 0, .slice none 0 0, .int .i64 0, .slice none 0 0, .int .i64 0, .slice none 0 0]
def AtP (t : Tm) (path : List Int) (G : IM) : IM → Value → List Ent → Prop := fun G' v outs => G' = G ∧ outs = [] ∧
 ((∃ x cells, tAt t path = some x ∧ RTm G x cells ∧ v = .tuple ⟨[.agg ⟨cells⟩, .bool true]⟩) ∨ (tAt t path = none ∧ v = .tuple ⟨[.agg ⟨z9⟩, .bool false]⟩))
end Gw
end Go.Proofs.YtaoaeilognhfpaaDoor
namespace Go.Proofs.YtaoaeilognhfpaaDoor
open Go Go.RowKit
namespace Gw
section slaw
variable {P : Program} {Γ : Ctx} {env : Env} {hp : List Ent} {G : IM} {ty : TypeId} {K : Po} {ops : Array Oper} {rest : List Oper}
theorem pure_slice_from {x y : Operand} {t el : TypeId} {i : TyR} {sz by' : Nat} {zs : List Value} [hI : TyI P t i] (hd' : i.desc = .slice el) [hE : TySz P el sz by' zs] {b o n c l : Nat}
  (hx : evo env x = some (.slice (some ⟨b, o, none⟩) n c)) (hy : evo env y = some (.int .i64 (l : Int))) (hl : l ≤ n) :
  PureOp P Γ ⟨env, hp, G⟩ (.slice t x (some y) none none) ty (.slice (some ⟨b, if c = l then o else o + l * sz, none⟩) (n - l) (c - l)) := by
 refine ⟨fun a _ hs _ _ _ _ w => ?_⟩
 have hu := hI.und
 rw [hd'] at hu
 obtain ⟨d, hE⟩ := hE.ok
 obtain ⟨inf, z, t1, t2, t3, _⟩ := run_tyI (P := P) (t := el)
 have e1 : a.eval x = _ := hs.evo hx
 have e2 : a.eval y = _ := hs.evo hy
 have hb : ∀ code, (Instr.sliceBound (.int .i64 (l : Int)) n code).run P w = .ok l w := fun code => by
  have := run_sliceBound (P := P) w .i64 (l : Int) n code (by omega) (by omega)
  simpa using this
 simp only [execOp, Option.map, e1, e2, Instr.sliceAt, Sem.run_bind, run_underlying hu, Result.andThen_ok, Instr.slice, Instr.sliceBounds, Sem.run_pure, hb, t3]
 by_cases h : c = l
 ·simp [h]
 ·simp [h, add_none]
theorem Sl.from {G : IM} {b o n c l sz : Nat} {cs : List Value} (h : Sl G (some ⟨b, o, none⟩) n c sz cs) (hl : l ≤ n) : Sl G (some ⟨b, if c = l then o else o + l * sz, none⟩) (n - l) (c - l) sz (cs.drop (l * sz)) := by
 obtain ⟨h1, h2, h3, h4⟩ := h
 refine ⟨by rw [List.length_drop, h1, Nat.sub_mul], by omega, by omega, ?_⟩
 by_cases h : c = l
 ·left; omega
 ·rcases h4 with h0 | ⟨b', o', full, he, hg, hv⟩
  ·left; omega
  ·right
   cases he
   rw [if_neg h]
   refine ⟨b, _, full, rfl, hg, fun j v hj => ?_⟩
   rw [List.getElem?_drop] at hj
   have := hv _ v hj
   rw [Nat.add_assoc]; exact this
end slaw
/- Data outside taken-back blocks. -/
/-- A node replaced. -/
def mPut : Tm → List Int → Tm → Tm
 | _, [], x => x
 | .mk k nm num ty fr lb ks, i :: is, x => if h : 0 ≤ i ∧ i < ks.length then .mk k nm num ty fr lb (ks.set i.toNat (mPut (ks[i.toNat]'(by omega)) is x)) else .mk k nm num ty fr lb ks
end Gw
end Go.Proofs.YtaoaeilognhfpaaDoor
namespace Go.Proofs.YtaoaeilognhfpaaDoor
open Go Go.RowKit
namespace Gw
theorem pure_sub_nat {P : Program} {Γ : Ctx} {env : Env} {hp : List Ent} {G : IM} {ty : TypeId} {x y : Operand} {t t' : TypeId} {m n : Int} {z : Nat} (hx : evo env x = some (.int .i64 m)) (hy : evo env y = some (.int .i64 n)) (h : m - n = z) (hb : z ≤ 9223372036854775807) :
  PureOp P Γ ⟨env, hp, G⟩ (.binOp .sub t x y t') ty (.int .i64 (z : Int)) := by
 have := pure_sub (P := P) (Γ := Γ) (hp := hp) (G := G) (ty := ty) (t := t) (t' := t') hx hy (by omega) (by omega)
 rwa [h] at this
inductive MV where
 | mk (k num : Int) (env parts : List MV)
def MV.k : MV → Int | .mk k _ _ _ => k
def MV.num : MV → Int | .mk _ n _ _ => n
def MV.env : MV → List MV | .mk _ _ e _ => e
def MV.parts : MV → List MV | .mk _ _ _ p => p
theorem all_snoc {α : Type} {P : α → Prop} {us : List α} {u : α} (h : ∀ x ∈ us, P x) (hu : P u) : ∀ x ∈ us ++ [u], P x := by
 intro x hx
 rcases List.mem_append.1 hx with hx | hx
 ·exact h x hx
 ·obtain rfl := List.mem_singleton.1 hx; exact hu
def mv0 : MV := .mk 0 0 [] []
/- How it lies in memory; kc says how a kind is written. -/
mutual
def RMv (kc : Int → Int) (G : IM) : MV → List Value → Prop
 | .mk k num env parts, cells => ∃ p c es q d fs, cells = [.int .i64 (kc k), .int .i64 num, .slice p env.length c, .slice q parts.length d] ∧ I64 num ∧ I64 (kc k) ∧ SlE G p env.length c 4 es ∧ RMvL kc G env es ∧ SlE G q parts.length d 4 fs ∧ RMvL kc G parts fs
def RMvL (kc : Int → Int) (G : IM) : List MV → List (List Value) → Prop
 | [], es => es = []
 | t :: ts, es => ∃ a r, es = a :: r ∧ RMv kc G t a ∧ RMvL kc G ts r
end
mutual
theorem RMv.mono {kc : Int → Int} {G G' : IM} (hg : IMle G G') : ∀ {t : MV} {cells : List Value}, RMv kc G t cells → RMv kc G' t cells
 | .mk k num env parts, cells, h => by
  simp only [RMv] at h ⊢
  obtain ⟨p, c, es, q, d, fs, h1, h2, h3, h4, h5, h6, h7⟩ := h
  exact ⟨p, c, es, q, d, fs, h1, h2, h3, h4.mono hg, RMvL.mono hg h5, h6.mono hg, RMvL.mono hg h7⟩
theorem RMvL.mono {kc : Int → Int} {G G' : IM} (hg : IMle G G') : ∀ {ts : List MV} {es : List (List Value)}, RMvL kc G ts es → RMvL kc G' ts es
 | [], es, h => by simpa only [RMvL] using h
 | t :: ts, es, h => by
  simp only [RMvL] at h ⊢
  obtain ⟨a, r, h1, h2, h3⟩ := h
  exact ⟨a, r, h1, RMv.mono hg h2, RMvL.mono hg h3⟩
end
section
variable {kc : Int → Int} {G : IM}
theorem RMv.open {t : MV} {cells : List Value} (h : RMv kc G t cells) : ∃ p c es q d fs, cells = [.int .i64 (kc t.k), .int .i64 t.num, .slice p t.env.length c, .slice q t.parts.length d] ∧ I64 t.num ∧ I64 (kc t.k) ∧ SlE G p t.env.length c 4 es ∧ RMvL kc G t.env es ∧ SlE G q t.parts.length d 4 fs ∧ RMvL kc G t.parts fs := by
 obtain ⟨k, num, env, parts⟩ := t
 simp only [RMv] at h
 exact h
theorem RMv.mk {k num : Int} {env parts : List MV} {p q : Option Addr} {c d n m : Nat} {es fs : List (List Value)} (h1 : I64 num) (h2 : I64 (kc k)) (hn : n = env.length) (hm : m = parts.length) (h3 : SlE G p n c 4 es) (h4 : RMvL kc G env es) (h5 : SlE G q m d 4 fs) (h6 : RMvL kc G parts fs) :
  RMv kc G (.mk k num env parts) [.int .i64 (kc k), .int .i64 num, .slice p n c, .slice q m d] := by
 subst hn hm
 simp only [RMv]
 exact ⟨p, c, es, q, d, fs, rfl, h1, h2, h3, h4, h5, h6⟩
theorem RMv.leaf {k num : Int} (h1 : I64 num) (h2 : I64 (kc k)) : RMv kc G (.mk k num [] []) [.int .i64 (kc k), .int .i64 num, .slice none 0 0, .slice none 0 0] :=
 RMv.mk h1 h2 rfl rfl (SlE.nil G 4) rfl (SlE.nil G 4) rfl
theorem RMv.kids {t : MV} {a b : Value} {p q : Option Addr} {n m c d : Nat} (h : RMv kc G t [a, b, .slice p n c, .slice q m d]) : ∃ es fs, SlE G p t.env.length c 4 es ∧ RMvL kc G t.env es ∧ SlE G q t.parts.length d 4 fs ∧ RMvL kc G t.parts fs := by
 obtain ⟨p', c', es, q', d', fs, he, _, _, h3, h4, h5, h6⟩ := h.open
 simp only [List.cons.injEq, Value.slice.injEq, and_true] at he
 obtain ⟨_, _, ⟨rfl, _, rfl⟩, rfl, _, rfl⟩ := he
 exact ⟨es, fs, h3, h4, h5, h6⟩
theorem RMv.len {t : MV} {cells : List Value} (h : RMv kc G t cells) : cells.length = 4 := by
 obtain ⟨p, c, es, q, d, fs, rfl, _⟩ := h.open; rfl
theorem RMv.one {t : MV} {cells : List Value} (h : RMv kc G t cells) : cells.all (·.oneCell') = true := by
 obtain ⟨p, c, es, q, d, fs, rfl, _⟩ := h.open; rfl
theorem RMvL.len : ∀ {ts : List MV} {es : List (List Value)}, RMvL kc G ts es → es.length = ts.length
 | [], es, h => by simp only [RMvL] at h; subst h; rfl
 | t :: ts, es, h => by
  simp only [RMvL] at h
  obtain ⟨a, r, rfl, _, h3⟩ := h
  simp [RMvL.len h3]
theorem RMvL.get : ∀ {ts : List MV} {es : List (List Value)}, RMvL kc G ts es → ∀ {i : Nat} {t : MV}, ts[i]? = some t → ∃ e, es[i]? = some e ∧ RMv kc G t e
 | [], es, h, i, t, ht => by simp at ht
 | t' :: ts, es, h, i, t, ht => by
  simp only [RMvL] at h
  obtain ⟨a, r, rfl, h2, h3⟩ := h
  cases i with
  | zero => simp at ht; subst ht; exact ⟨a, by simp, h2⟩
  | succ i =>
   obtain ⟨e, he, hr⟩ := RMvL.get h3 (by simpa using ht)
   exact ⟨e, by simpa using he, hr⟩
theorem RMvL.each : ∀ {ts : List MV} {es : List (List Value)}, RMvL kc G ts es → ∀ e ∈ es, e.length = 4 ∧ e.all (·.oneCell') = true
 | [], es, h, e, he => by simp only [RMvL] at h; subst h; simp at he
 | t :: ts, es, h, e, he => by
  simp only [RMvL] at h
  obtain ⟨a, r, rfl, h2, h3⟩ := h
  rcases List.mem_cons.1 he with rfl | he
  ·exact ⟨h2.len, h2.one⟩
  ·exact RMvL.each h3 e he
theorem RMvL.all {ts : List MV} {es : List (List Value)} (h : RMvL kc G ts es) : ∀ e ∈ es, e.length = 4 := fun e he => (h.each e he).1
theorem RMvL.ones {ts : List MV} {es : List (List Value)} (h : RMvL kc G ts es) : ∀ e ∈ es, e.all (·.oneCell') = true := fun e he => (h.each e he).2
theorem RMvL.flat1 {ts : List MV} {es : List (List Value)} (h : RMvL kc G ts es) : ∀ u ∈ es.flatten, u.oneCell' = true := by
 intro u hu
 obtain ⟨e, he, hue⟩ := List.mem_flatten.1 hu
 exact List.all_eq_true.1 (h.ones e he) u hue
theorem RMvL.append : ∀ {ts us : List MV} {es fs : List (List Value)}, RMvL kc G ts es → RMvL kc G us fs → RMvL kc G (ts ++ us) (es ++ fs)
 | [], us, es, fs, h, h2 => by simp only [RMvL] at h; subst h; simpa using h2
 | t :: ts, us, es, fs, h, h2 => by
  simp only [RMvL] at h
  obtain ⟨a, r, rfl, h3, h4⟩ := h
  simp only [List.cons_append, RMvL]
  exact ⟨a, r ++ fs, rfl, h3, RMvL.append h4 h2⟩
theorem RMvL.one' {t : MV} {e : List Value} (h : RMv kc G t e) : RMvL kc G [t] [e] := by
 simp only [RMvL]; exact ⟨e, [], rfl, h, rfl⟩
theorem RMvL.snoc {ts : List MV} {es : List (List Value)} {t : MV} {e : List Value} (h : RMvL kc G ts es) (h2 : RMv kc G t e) : RMvL kc G (ts ++ [t]) (es ++ [e]) := h.append (.one' h2)
theorem RMvL.take : ∀ {ts : List MV} {es : List (List Value)} (n : Nat), RMvL kc G ts es → RMvL kc G (ts.take n) (es.take n)
 | ts, es, 0, _ => by simp [RMvL]
 | [], es, n + 1, h => by simp only [RMvL] at h; subst h; simp [RMvL]
 | t :: ts, es, n + 1, h => by
  simp only [RMvL] at h
  obtain ⟨a, r, rfl, h3, h4⟩ := h
  simp only [List.take_succ_cons, RMvL]
  exact ⟨a, r.take n, rfl, h3, RMvL.take n h4⟩
theorem RMvL.drop : ∀ {ts : List MV} {es : List (List Value)} (n : Nat), RMvL kc G ts es → RMvL kc G (ts.drop n) (es.drop n)
 | ts, es, 0, h => by simpa using h
 | [], es, n + 1, h => by simp only [RMvL] at h; subst h; simp [RMvL]
 | t :: ts, es, n + 1, h => by
  simp only [RMvL] at h
  obtain ⟨a, r, rfl, h3, h4⟩ := h
  simp only [List.drop_succ_cons]
  exact RMvL.drop n h4
/-- The cells of an element of a slice of values. -/
theorem SlE.mvAt {p : Option Addr} {n c : Nat} {es : List (List Value)} {ts : List MV} (h : SlE G p n c 4 es) (hk : RMvL kc G ts es) {i : Nat} {t : MV} (ht : ts[i]? = some t) :
  ∃ b o q d q' d', p = some ⟨b, o, none⟩ ∧ (∀ hp, At hp G b (o + i * 4) [.int .i64 (kc t.k), .int .i64 t.num, .slice q t.env.length d, .slice q' t.parts.length d']) ∧ RMv kc G t [.int .i64 (kc t.k), .int .i64 t.num, .slice q t.env.length d, .slice q' t.parts.length d'] ∧ G b ≠ none := by
 obtain ⟨e, he, hr⟩ := hk.get ht
 have hi : i < n := by rw [← h.len]; exact (List.getElem?_eq_some_iff.1 he).1
 obtain ⟨e', b, o, he', hp, _, _, hat, hg⟩ := h.get hi
 rw [he] at he'; cases he'
 obtain ⟨q, d, _, q', d', _, rfl, _⟩ := hr.open
 exact ⟨b, o, q, d, q', d', hp, hat, hr, hg⟩
end

/- Where to go back to, and with what environment. -/
def RFr (kc : Int → Int) (G : IM) (f : Int × List MV) (cells : List Value) : Prop := ∃ p c es, cells = [.int .i64 f.1, .slice p f.2.length c] ∧ I64 f.1 ∧ SlE G p f.2.length c 4 es ∧ RMvL kc G f.2 es
def RFrL (kc : Int → Int) (G : IM) : List (Int × List MV) → List (List Value) → Prop
 | [], es => es = []
 | t :: ts, es => ∃ a r, es = a :: r ∧ RFr kc G t a ∧ RFrL kc G ts r
section
variable {kc : Int → Int} {G : IM}
theorem RFr.mono {G' : IM} (hg : IMle G G') {f : Int × List MV} {cells : List Value} (h : RFr kc G f cells) : RFr kc G' f cells := by
 obtain ⟨p, c, es, h1, h2, h3, h4⟩ := h
 exact ⟨p, c, es, h1, h2, h3.mono hg, h4.mono hg⟩
theorem RFrL.mono {G' : IM} (hg : IMle G G') : ∀ {ts : List (Int × List MV)} {es : List (List Value)}, RFrL kc G ts es → RFrL kc G' ts es
 | [], es, h => by simpa only [RFrL] using h
 | t :: ts, es, h => by
  simp only [RFrL] at h ⊢
  obtain ⟨a, r, h1, h2, h3⟩ := h
  exact ⟨a, r, h1, h2.mono hg, RFrL.mono hg h3⟩
theorem RFr.mk {a : Int} {env : List MV} {p : Option Addr} {c n : Nat} {es : List (List Value)} (h1 : I64 a) (hn : n = env.length) (h3 : SlE G p n c 4 es) (h4 : RMvL kc G env es) : RFr kc G (a, env) [.int .i64 a, .slice p n c] := by
 subst hn; exact ⟨p, c, es, rfl, h1, h3, h4⟩
theorem RFrL.get : ∀ {ts : List (Int × List MV)} {es : List (List Value)}, RFrL kc G ts es → ∀ {i : Nat} {t : Int × List MV}, ts[i]? = some t → ∃ e, es[i]? = some e ∧ RFr kc G t e
 | [], es, h, i, t, ht => by simp at ht
 | t' :: ts, es, h, i, t, ht => by
  simp only [RFrL] at h
  obtain ⟨a, r, rfl, h2, h3⟩ := h
  cases i with
  | zero => simp at ht; subst ht; exact ⟨a, by simp, h2⟩
  | succ i =>
   obtain ⟨e, he, hr⟩ := RFrL.get h3 (by simpa using ht)
   exact ⟨e, by simpa using he, hr⟩
theorem RFrL.each : ∀ {ts : List (Int × List MV)} {es : List (List Value)}, RFrL kc G ts es → ∀ e ∈ es, e.length = 2 ∧ e.all (·.oneCell') = true
 | [], es, h, e, he => by simp only [RFrL] at h; subst h; simp at he
 | t :: ts, es, h, e, he => by
  simp only [RFrL] at h
  obtain ⟨a, r, rfl, h2, h3⟩ := h
  rcases List.mem_cons.1 he with rfl | he
  ·obtain ⟨p, c, es, rfl, _⟩ := h2; exact ⟨rfl, rfl⟩
  ·exact RFrL.each h3 e he
theorem RFrL.all {ts : List (Int × List MV)} {es : List (List Value)} (h : RFrL kc G ts es) : ∀ e ∈ es, e.length = 2 := fun e he => (h.each e he).1
theorem RFrL.ones {ts : List (Int × List MV)} {es : List (List Value)} (h : RFrL kc G ts es) : ∀ e ∈ es, e.all (·.oneCell') = true := fun e he => (h.each e he).2
theorem RFrL.flat1 {ts : List (Int × List MV)} {es : List (List Value)} (h : RFrL kc G ts es) : ∀ u ∈ es.flatten, u.oneCell' = true := by
 intro u hu
 obtain ⟨e, he, hue⟩ := List.mem_flatten.1 hu
 exact List.all_eq_true.1 (h.ones e he) u hue
theorem RFrL.snoc : ∀ {ts : List (Int × List MV)} {es : List (List Value)} {t : Int × List MV} {e : List Value}, RFrL kc G ts es → RFr kc G t e → RFrL kc G (ts ++ [t]) (es ++ [e])
 | [], es, t, e, h, h2 => by simp only [RFrL] at h; subst h; simp only [List.nil_append, RFrL]; exact ⟨e, [], rfl, h2, rfl⟩
 | t' :: ts, es, t, e, h, h2 => by
  simp only [RFrL] at h
  obtain ⟨a, r, rfl, h3, h4⟩ := h
  simp only [List.cons_append, RFrL]
  exact ⟨a, r ++ [e], rfl, h3, RFrL.snoc h4 h2⟩
theorem RFrL.take : ∀ {ts : List (Int × List MV)} {es : List (List Value)} (n : Nat), RFrL kc G ts es → RFrL kc G (ts.take n) (es.take n)
 | ts, es, 0, _ => by simp [RFrL]
 | [], es, n + 1, h => by simp only [RFrL] at h; subst h; simp [RFrL]
 | t :: ts, es, n + 1, h => by
  simp only [RFrL] at h
  obtain ⟨a, r, rfl, h3, h4⟩ := h
  simp only [List.take_succ_cons, RFrL]
  exact ⟨a, r.take n, rfl, h3, RFrL.take n h4⟩
theorem SlE.frAt {p : Option Addr} {n c : Nat} {es : List (List Value)} {ts : List (Int × List MV)} (h : SlE G p n c 2 es) (hk : RFrL kc G ts es) {i : Nat} {t : Int × List MV} (ht : ts[i]? = some t) :
  ∃ b o q d, p = some ⟨b, o, none⟩ ∧ (∀ hp, At hp G b (o + i * 2) [.int .i64 t.1, .slice q t.2.length d]) ∧ I64 t.1 ∧ (∃ fs, SlE G q t.2.length d 4 fs ∧ RMvL kc G t.2 fs) ∧ G b ≠ none := by
 obtain ⟨e, he, hr⟩ := hk.get ht
 have hi : i < n := by rw [← h.len]; exact (List.getElem?_eq_some_iff.1 he).1
 obtain ⟨e', b, o, he', hp, _, _, hat, hg⟩ := h.get hi
 rw [he] at he'; cases he'
 obtain ⟨q, d, fs, rfl, h1, h2, h3⟩ := hr
 exact ⟨b, o, q, d, hp, hat, h1, ⟨fs, h2, h3⟩, hg⟩
end

theorem flat_drop {sz : Nat} : ∀ {es : List (List Value)} (l : Nat), (∀ e ∈ es, e.length = sz) → es.flatten.drop (l * sz) = (es.drop l).flatten
 | [], l, _ => by simp
 | e :: es, 0, _ => by simp
 | e :: es, l + 1, h => by
  have he : e.length = sz := h e List.mem_cons_self
  rw [List.flatten_cons, List.drop_succ_cons, List.drop_append, show (l + 1) * sz - e.length = l * sz by rw [he, Nat.succ_mul]; omega, List.drop_eq_nil_of_le (by rw [he, Nat.succ_mul]; omega), List.nil_append]
  exact flat_drop l fun x hx => h x (List.mem_cons_of_mem _ hx)
theorem flat_take {sz : Nat} : ∀ {es : List (List Value)} (l : Nat), (∀ e ∈ es, e.length = sz) → es.flatten.take (l * sz) = (es.take l).flatten
 | [], l, _ => by simp
 | e :: es, 0, _ => by simp
 | e :: es, l + 1, h => by
  have he : e.length = sz := h e List.mem_cons_self
  rw [List.flatten_cons, List.take_succ_cons, List.flatten_cons, List.take_append, show (l + 1) * sz - e.length = l * sz by rw [he, Nat.succ_mul]; omega, List.take_of_length_le (by rw [he, Nat.succ_mul]; omega)]
  rw [flat_take l fun x hx => h x (List.mem_cons_of_mem _ hx)]
theorem SlE.from {G : IM} {b o n c l sz : Nat} {es : List (List Value)} (h : SlE G (some ⟨b, o, none⟩) n c sz es) (hl : l ≤ n) : SlE G (some ⟨b, if c = l then o else o + l * sz, none⟩) (n - l) (c - l) sz (es.drop l) :=
 SlE.of (by rw [← flat_drop l h.all]; exact h.sl.from hl) (by rw [List.length_drop, h.len]) (fun e he => h.all e (List.mem_of_mem_drop he)) (fun e he => h.one e (List.mem_of_mem_drop he))
theorem SlE.to {G : IM} {p : Option Addr} {n c l sz : Nat} {es : List (List Value)} (h : SlE G p n c sz es) (hl : l ≤ n) : SlE G p l c sz (es.take l) := by
 refine SlE.of ?_ (by rw [List.length_take, h.len]; omega) (fun e he => h.all e (List.mem_of_mem_take he)) (fun e he => h.one e (List.mem_of_mem_take he))
 obtain ⟨h1, h2, h3, h4⟩ := h.sl
 rw [← flat_take l h.all]
 refine ⟨by rw [List.length_take, h1]; exact Nat.min_eq_left (Nat.mul_le_mul_right _ hl), by omega, h3, ?_⟩
 rcases h4 with h0 | ⟨b, o, full, hp, hg, hv⟩
 ·left; omega
 ·right
  refine ⟨b, o, full, hp, hg, fun j v hj => hv j v ?_⟩
  rw [List.getElem?_take] at hj
  split at hj
  ·exact hj
  ·cases hj
theorem SlE.some {G : IM} {p : Option Addr} {n c sz : Nat} {es : List (List Value)} (h : SlE G p n c sz es) (hn : 0 < n) : ∃ b o, p = some ⟨b, o, none⟩ ∧ G b ≠ none := by
 obtain ⟨e, b, o, _, hp, _, _, _, hg⟩ := h.get hn
 exact ⟨b, o, hp, hg⟩
theorem ne_mono {G G' : IM} {b : Nat} (hg : IMle G G') (h : G b ≠ none) : G' b ≠ none := by
 cases hb : G b with
 | none => exact absurd hb h
 | some l => rw [hg b l hb]; simp
/-- A state: what runs next, the stack, the environment, where to go back to. -/
structure MSt where
 at' : Int
 st : List MV
 env : List MV
 fr : List (Int × List MV)
/-- A state in memory that no longer changes. -/
def RSs (kc : Int → Int) (G : IM) (s : MSt) (cells : List Value) : Prop := ∃ pe ce ps cs pf cf ee es ef, cells = [.int .i64 s.at', .slice pe s.env.length ce, .slice ps s.st.length cs, .slice pf s.fr.length cf] ∧ I64 s.at' ∧
 SlE G pe s.env.length ce 4 ee ∧ RMvL kc G s.env ee ∧ SlE G ps s.st.length cs 4 es ∧ RMvL kc G s.st es ∧ SlE G pf s.fr.length cf 2 ef ∧ RFrL kc G s.fr ef
theorem RSs.mk {kc : Int → Int} {G : IM} {a : Int} {st env : List MV} {fr : List (Int × List MV)} {pe ps pf : Option Addr} {ne ce ns cs nf cf : Nat} {ee es ef : List (List Value)} (h1 : I64 a) (hn1 : ne = env.length) (hn2 : ns = st.length) (hn3 : nf = fr.length)
  (h2 : SlE G pe ne ce 4 ee) (h3 : RMvL kc G env ee) (h4 : SlE G ps ns cs 4 es) (h5 : RMvL kc G st es) (h6 : SlE G pf nf cf 2 ef) (h7 : RFrL kc G fr ef) :
  RSs kc G ⟨a, st, env, fr⟩ [.int .i64 a, .slice pe ne ce, .slice ps ns cs, .slice pf nf cf] := by
 subst hn1 hn2 hn3
 exact ⟨pe, ce, ps, cs, pf, cf, ee, es, ef, rfl, h1, h2, h3, h4, h5, h6, h7⟩
theorem RSs.opn {kc : Int → Int} {G : IM} {a : Int} {st env : List MV} {fr : List (Int × List MV)} {cells : List Value} (h : RSs kc G ⟨a, st, env, fr⟩ cells) : ∃ pe ce ps cs pf cf ee es ef, cells = [.int .i64 a, .slice pe env.length ce, .slice ps st.length cs, .slice pf fr.length cf] ∧ I64 a ∧
 SlE G pe env.length ce 4 ee ∧ RMvL kc G env ee ∧ SlE G ps st.length cs 4 es ∧ RMvL kc G st es ∧ SlE G pf fr.length cf 2 ef ∧ RFrL kc G fr ef := h
theorem RSs.len {kc : Int → Int} {G : IM} {s : MSt} {cells : List Value} (h : RSs kc G s cells) : cells.length = 4 := by
 obtain ⟨pe, ce, ps, cs, pf, cf, ee, es, ef, rfl, _⟩ := h; rfl
theorem RSs.one {kc : Int → Int} {G : IM} {s : MSt} {cells : List Value} (h : RSs kc G s cells) : cells.all (·.oneCell') = true := by
 obtain ⟨pe, ce, ps, cs, pf, cf, ee, es, ef, rfl, _⟩ := h; rfl
def mPops (k : Int) : Nat := if k = 6 ∨ k = 7 ∨ k = 8 ∨ k = 11 then 2 else if k = 9 ∨ k = 12 ∨ k = 13 then 1 else 0
/-- The kind that is wanted, of how many, and the error of another one. -/
def mWant (k : Int) : Int × Nat × Int := if k = 6 then (2, 1, 1) else if k = 7 ∨ k = 8 then (0, 2, 2) else if k = 9 then (1, 1, 3) else if k = 12 ∨ k = 13 then (3, 1, 4) else (0, 0, 0)
def mPush (s : MSt) (v : MV) : MSt := { s with st := s.st ++ [v] }
/-- What an instruction does, once its operands v are popped and at' is past it. -/
def mGo (k a : Int) (s : MSt) (v : List MV) : MSt ⊕ (Int × Int) :=
 if k = 1 then .inl (mPush s (.mk 0 a [] []))
 else if k = 2 then .inl (mPush s (.mk 1 a [] []))
 else if k = 3 then (if (s.env.length : Int) - 1 - a < 0 then .inr (3, 0) else .inl (mPush s (s.env.getD ((s.env.length : Int) - 1 - a).toNat mv0)))
 else if k = 4 then .inl { mPush s (.mk 2 s.at' s.env []) with at' := s.at' + a }
 else if k = 5 then (if s.fr.length = 0 then .inr (3, 0) else .inl { s with at' := (s.fr.getD (s.fr.length - 1) (0, [])).1, env := (s.fr.getD (s.fr.length - 1) (0, [])).2, fr := s.fr.take (s.fr.length - 1) })
 else if k = 6 then .inl { s with at' := (v.getD 0 mv0).num, env := (v.getD 0 mv0).env ++ [v.getD 1 mv0], fr := s.fr ++ [(s.at', s.env)] }
 else if k = 7 then .inl (mPush s (.mk 0 (((v.getD 0 mv0).num + (v.getD 1 mv0).num) % 1000) [] []))
 else if k = 8 then .inl (mPush s (.mk 1 (if (v.getD 0 mv0).num < (v.getD 1 mv0).num then 1 else 0) [] []))
 else if k = 9 then .inl (if (v.getD 0 mv0).num = 0 then { s with at' := s.at' + a } else s)
 else if k = 10 then .inl { s with at' := s.at' + a }
 else if k = 11 then .inl (mPush s (.mk 3 0 [] v))
 else .inl (mPush s ((v.getD 0 mv0).parts.getD (k - 12).toNat mv0))
def mKinds (k : Int) (v : List MV) : Bool := (v.take (mWant k).2.1).all fun u => decide (u.k = (mWant k).1)
/-- An instruction of kind k with the number a: the next state, or a code and an error. -/
def mStep (k a : Int) (s : MSt) : MSt ⊕ (Int × Int) :=
 if s.st.length < mPops k then .inr (3, 0)
 else if mKinds k (s.st.drop (s.st.length - mPops k)) = true then mGo k a { s with at' := s.at' + 1, st := s.st.take (s.st.length - mPops k) } (s.st.drop (s.st.length - mPops k))
 else .inr (2, (mWant k).2.2)
/-- A number as it is written. -/
def mvText (v : MV) : ByteArray := if v.k = 0 then ⟨(Lib.decDigits v.num.toNat).toArray⟩ else if v.k = 1 then (if v.num = 0 then ⟨#[70]⟩ else ⟨#[84]⟩) else if v.k = 2 then ⟨⟨[102, 117, 110, 99, 116, 105, 111, 110]⟩⟩ else ⟨⟨[112, 97, 105, 114]⟩⟩
theorem mvText0 {v : MV} {j : Nat} (h : v.k = 0) (hj : v.num = j) : mvText v = ⟨(Lib.decDigits j).toArray⟩ := by unfold mvText; rw [if_pos h, hj, Int.toNat_natCast]
theorem mvText1f {v : MV} (h : v.k = 1) (hj : v.num = 0) : mvText v = ⟨#[70]⟩ := by unfold mvText; rw [if_neg (by omega), if_pos h, if_pos hj]
theorem mvText1t {v : MV} (h : v.k = 1) (hj : v.num = 1) : mvText v = ⟨#[84]⟩ := by unfold mvText; rw [if_neg (by omega), if_pos h, if_neg (by omega)]
theorem mvText2 {v : MV} (h : v.k = 2) : mvText v = ⟨⟨[102, 117, 110, 99, 116, 105, 111, 110]⟩⟩ := by unfold mvText; rw [if_neg (by omega), if_neg (by omega), if_pos h]
theorem mvText3 {v : MV} (h : v.k = 3) : mvText v = ⟨⟨[112, 97, 105, 114]⟩⟩ := by unfold mvText; rw [if_neg (by omega), if_neg (by omega), if_neg (by omega)]
theorem ft_cut {v : MV} {j : Nat} (h : v.k = 1) (hj : v.num = j) (h1 : j ≤ 1) : (⟨⟨[70, 84]⟩⟩ : ByteArray).extract j (j + 1) = mvText v := by
 have : j = 0 ∨ j = 1 := by omega
 rcases this with rfl | rfl
 ·rw [mvText1f h hj]; rfl
 ·rw [mvText1t h hj]; rfl
def mEnd (s : MSt) : ByteArray × Int × Int := if s.st.length ≠ 1 ∨ 0 < s.fr.length then (⟨#[]⟩, 3, 0) else (mvText (s.st.getD 0 mv0), 0, 0)
/-- The run of a code from a state, so many instructions long at most. -/
def mRun (ops : List (Int × Int)) : Nat → MSt → ByteArray × Int × Int
 | t, s => if (ops.length : Int) ≤ s.at' then mEnd s else match t with
  | 0 => (⟨#[]⟩, 5, 0)
  | t + 1 => match mStep (ops.getD s.at'.toNat (0, 0)).1 (ops.getD s.at'.toNat (0, 0)).2 s with
   | .inl s' => mRun ops t s'
   | .inr (c, e) => (⟨#[]⟩, c, e)
def mMost (k behind : Int) : Int := if k = 1 then 999 else if k = 2 then 1 else if k = 3 then 11 else if k = 4 ∨ k = 9 ∨ k = 10 then behind else 0
def mOpOk (n : Nat) (i : Nat) (x : Int × Int) : Bool := decide (1 ≤ x.1 ∧ x.1 ≤ 13 ∧ 0 ≤ x.2 ∧ x.2 ≤ mMost x.1 ((n : Int) - 1 - i))
def mOpsOk (ops : List (Int × Int)) : Bool := decide (1 ≤ ops.length ∧ ops.length ≤ 120) && (List.range ops.length).all fun i => mOpOk ops.length i (ops.getD i (0, 0))
def mRunOps (ops : List (Int × Int)) (ticks : Int) : ByteArray × Int × Int :=
 if mOpsOk ops = true ∧ 0 ≤ ticks ∧ ticks ≤ 2000 then mRun ops ticks.toNat ⟨0, [], [], []⟩ else (⟨#[]⟩, 3, 0)
end Gw
end Go.Proofs.YtaoaeilognhfpaaDoor
namespace Go.Proofs.YtaoaeilognhfpaaDoor
open Go Go.RowKit
namespace Gw
/-- The step, once there are enough operands. -/
def mTake (k a : Int) (s : MSt) : MSt ⊕ (Int × Int) :=
 if mKinds k (s.st.drop (s.st.length - mPops k)) = true then mGo k a { s with at' := s.at' + 1, st := s.st.take (s.st.length - mPops k) } (s.st.drop (s.st.length - mPops k))
 else .inr (2, (mWant k).2.2)
theorem mStep_few {k a : Int} {s : MSt} (h : s.st.length < mPops k) : mStep k a s = .inr (3, 0) := by unfold mStep; rw [if_pos h]
theorem mStep_take {k a : Int} {s : MSt} (h : ¬s.st.length < mPops k) : mStep k a s = mTake k a s := by unfold mStep mTake; rw [if_neg h]
theorem mPops2 {k : Int} (h : k = 6 ∨ k = 7 ∨ k = 8 ∨ k = 11) : mPops k = 2 := by unfold mPops; rw [if_pos h]
theorem mPops1 {k : Int} (h : k = 9 ∨ k = 12 ∨ k = 13) : mPops k = 1 := by unfold mPops; rw [if_neg (by omega), if_pos h]
theorem mPops0 {k : Int} (h : ¬(k = 6 ∨ k = 7 ∨ k = 8 ∨ k = 11)) (h2 : ¬(k = 9 ∨ k = 12 ∨ k = 13)) : mPops k = 0 := by unfold mPops; rw [if_neg h, if_neg h2]
section
variable {a : Int} {s : MSt} {v0 v1 : MV}
theorem mTake6 (h : s.st.drop (s.st.length - 2) = [v0, v1]) : mTake 6 a s = if v0.k = 2 then .inl ⟨v0.num, s.st.take (s.st.length - 2), v0.env ++ [v1], s.fr ++ [(s.at' + 1, s.env)]⟩ else .inr (2, 1) := by
 have hp : mPops 6 = 2 := rfl
 have hw : mWant 6 = (2, 1, 1) := rfl
 unfold mTake mKinds
 rw [hp, h, hw]
 by_cases hk : v0.k = 2 <;> simp [hk, mGo]
theorem mTake7 (h : s.st.drop (s.st.length - 2) = [v0, v1]) : mTake 7 a s = if v0.k = 0 ∧ v1.k = 0 then .inl ⟨s.at' + 1, s.st.take (s.st.length - 2) ++ [.mk 0 ((v0.num + v1.num) % 1000) [] []], s.env, s.fr⟩ else .inr (2, 2) := by
 have hp : mPops 7 = 2 := rfl
 have hw : mWant 7 = (0, 2, 2) := rfl
 unfold mTake mKinds
 rw [hp, h, hw]
 by_cases hk : v0.k = 0 <;> by_cases hk1 : v1.k = 0 <;> simp [hk, hk1, mGo, mPush]
theorem mTake8 (h : s.st.drop (s.st.length - 2) = [v0, v1]) : mTake 8 a s = if v0.k = 0 ∧ v1.k = 0 then .inl ⟨s.at' + 1, s.st.take (s.st.length - 2) ++ [.mk 1 (if v0.num < v1.num then 1 else 0) [] []], s.env, s.fr⟩ else .inr (2, 2) := by
 have hp : mPops 8 = 2 := rfl
 have hw : mWant 8 = (0, 2, 2) := rfl
 unfold mTake mKinds
 rw [hp, h, hw]
 by_cases hk : v0.k = 0 <;> by_cases hk1 : v1.k = 0 <;> simp [hk, hk1, mGo, mPush]
theorem mTake11 (h : s.st.drop (s.st.length - 2) = [v0, v1]) : mTake 11 a s = .inl ⟨s.at' + 1, s.st.take (s.st.length - 2) ++ [.mk 3 0 [] [v0, v1]], s.env, s.fr⟩ := by
 have hp : mPops 11 = 2 := rfl
 have hw : mWant 11 = (0, 0, 0) := rfl
 unfold mTake mKinds
 rw [hp, h, hw]
 simp [mGo, mPush]
theorem mTake9 (h : s.st.drop (s.st.length - 1) = [v0]) : mTake 9 a s = if v0.k = 1 then .inl ⟨if v0.num = 0 then s.at' + 1 + a else s.at' + 1, s.st.take (s.st.length - 1), s.env, s.fr⟩ else .inr (2, 3) := by
 have hp : mPops 9 = 1 := rfl
 have hw : mWant 9 = (1, 1, 3) := rfl
 unfold mTake mKinds
 rw [hp, h, hw]
 by_cases hk : v0.k = 1 <;> by_cases hn : v0.num = 0 <;> simp [hk, hn, mGo]
theorem mTake12 {k : Int} (hk : k = 12 ∨ k = 13) (h : s.st.drop (s.st.length - 1) = [v0]) : mTake k a s = if v0.k = 3 then .inl ⟨s.at' + 1, s.st.take (s.st.length - 1) ++ [v0.parts.getD (k - 12).toNat mv0], s.env, s.fr⟩ else .inr (2, 4) := by
 rcases hk with rfl | rfl
 ·have hp : mPops 12 = 1 := rfl
  have hw : mWant 12 = (3, 1, 4) := rfl
  unfold mTake mKinds
  rw [hp, h, hw]
  by_cases hk : v0.k = 3 <;> simp [hk, mGo, mPush]
 ·have hp : mPops 13 = 1 := rfl
  have hw : mWant 13 = (3, 1, 4) := rfl
  unfold mTake mKinds
  rw [hp, h, hw]
  by_cases hk : v0.k = 3 <;> simp [hk, mGo, mPush]
theorem mTake0 {k : Int} (h : ¬(k = 6 ∨ k = 7 ∨ k = 8 ∨ k = 11)) (h2 : ¬(k = 9 ∨ k = 12 ∨ k = 13)) : mTake k a s = mGo k a { s with at' := s.at' + 1 } [] := by
 have hw : mWant k = (0, 0, 0) := by unfold mWant; rw [if_neg (by omega), if_neg (by omega), if_neg (by omega), if_neg (by omega)]
 unfold mTake mKinds
 rw [mPops0 h h2, hw]
 simp
theorem mTake1 : mTake 1 a s = .inl ⟨s.at' + 1, s.st ++ [.mk 0 a [] []], s.env, s.fr⟩ := by rw [mTake0 (by omega) (by omega)]; rfl
theorem mTake2 : mTake 2 a s = .inl ⟨s.at' + 1, s.st ++ [.mk 1 a [] []], s.env, s.fr⟩ := by rw [mTake0 (by omega) (by omega)]; rfl
theorem mTake3 : mTake 3 a s = if (s.env.length : Int) - 1 - a < 0 then .inr (3, 0) else .inl ⟨s.at' + 1, s.st ++ [s.env.getD ((s.env.length : Int) - 1 - a).toNat mv0], s.env, s.fr⟩ := by rw [mTake0 (by omega) (by omega)]; rfl
theorem mTake4 : mTake 4 a s = .inl ⟨s.at' + 1 + a, s.st ++ [.mk 2 (s.at' + 1) s.env []], s.env, s.fr⟩ := by rw [mTake0 (by omega) (by omega)]; rfl
theorem mTake5 : mTake 5 a s = if s.fr.length = 0 then .inr (3, 0) else .inl ⟨(s.fr.getD (s.fr.length - 1) (0, [])).1, s.st, (s.fr.getD (s.fr.length - 1) (0, [])).2, s.fr.take (s.fr.length - 1)⟩ := by rw [mTake0 (by omega) (by omega)]; rfl
theorem mTake10 : mTake 10 a s = .inl ⟨s.at' + 1 + a, s.st, s.env, s.fr⟩ := by rw [mTake0 (by omega) (by omega)]; rfl
end
/- What stays true: n is the length of the code, N the number of steps. -/
mutual
def MV.ok (n : Int) (N : Nat) : MV → Prop
 | .mk k num env parts => 0 ≤ k ∧ k ≤ 3 ∧ 0 ≤ num ∧ num ≤ 999 ∧ (k = 1 → num ≤ 1) ∧ (k = 2 → num ≤ n) ∧ (k = 3 → parts.length = 2) ∧ env.length ≤ N ∧ MV.okL n N env ∧ MV.okL n N parts
def MV.okL (n : Int) (N : Nat) : List MV → Prop
 | [] => True
 | v :: vs => v.ok n N ∧ MV.okL n N vs
end
mutual
theorem MV.ok.mono {n : Int} {N M : Nat} (hN : N ≤ M) : ∀ {v : MV}, v.ok n N → v.ok n M
 | .mk k num env parts, h => by
  simp only [MV.ok] at h ⊢
  obtain ⟨h1, h2, h3, h4, h5, h6, h7, h8, h9, h10⟩ := h
  exact ⟨h1, h2, h3, h4, h5, h6, h7, by omega, MV.okL.mono hN h9, MV.okL.mono hN h10⟩
theorem MV.okL.mono {n : Int} {N M : Nat} (hN : N ≤ M) : ∀ {vs : List MV}, MV.okL n N vs → MV.okL n M vs
 | [], h => by simp only [MV.okL]
 | v :: vs, h => by
  simp only [MV.okL] at h ⊢
  exact ⟨MV.ok.mono hN h.1, MV.okL.mono hN h.2⟩
end
theorem okL_iff {n : Int} {N : Nat} : ∀ {vs : List MV}, MV.okL n N vs ↔ ∀ v ∈ vs, v.ok n N
 | [] => by simp [MV.okL]
 | v :: vs => by simp only [MV.okL, okL_iff (vs := vs), List.forall_mem_cons]
theorem MV.ok.spec {n : Int} {N : Nat} {v : MV} (h : v.ok n N) : 0 ≤ v.k ∧ v.k ≤ 3 ∧ 0 ≤ v.num ∧ v.num ≤ 999 ∧ (v.k = 1 → v.num ≤ 1) ∧ (v.k = 2 → v.num ≤ n) ∧ (v.k = 3 → v.parts.length = 2) ∧ v.env.length ≤ N ∧ (∀ u ∈ v.env, u.ok n N) ∧ (∀ u ∈ v.parts, u.ok n N) := by
 obtain ⟨k, num, env, parts⟩ := v
 simp only [MV.ok, okL_iff] at h
 exact h
theorem MV.ok.mk {n : Int} {N : Nat} {k num : Int} {env parts : List MV} (h1 : 0 ≤ k ∧ k ≤ 3) (h2 : 0 ≤ num ∧ num ≤ 999) (h3 : k = 1 → num ≤ 1) (h4 : k = 2 → num ≤ n) (h5 : k = 3 → parts.length = 2) (h6 : env.length ≤ N) (h7 : ∀ u ∈ env, u.ok n N) (h8 : ∀ u ∈ parts, u.ok n N) : (MV.mk k num env parts).ok n N := by
 simp only [MV.ok, okL_iff]
 exact ⟨h1.1, h1.2, h2.1, h2.2, h3, h4, h5, h6, h7, h8⟩
structure MSt.ok (n : Int) (N : Nat) (s : MSt) : Prop where
 lo : 0 ≤ s.at'
 hi : s.at' ≤ n
 st : s.st.length ≤ N
 env : s.env.length ≤ N
 fr : s.fr.length ≤ N
 sto : ∀ v ∈ s.st, v.ok n N
 envo : ∀ v ∈ s.env, v.ok n N
 fro : ∀ f ∈ s.fr, 0 ≤ f.1 ∧ f.1 ≤ n ∧ f.2.length ≤ N ∧ ∀ v ∈ f.2, v.ok n N
theorem two_of {l : List MV} (h : 2 ≤ l.length) : ∃ v0 v1, l.drop (l.length - 2) = [v0, v1] ∧ v0 ∈ l ∧ v1 ∈ l := by
 have hl : (l.drop (l.length - 2)).length = 2 := by rw [List.length_drop]; omega
 match hd : l.drop (l.length - 2), hl with
 | [v0, v1], _ => exact ⟨v0, v1, rfl, List.mem_of_mem_drop (i := l.length - 2) (by rw [hd]; simp), List.mem_of_mem_drop (i := l.length - 2) (by rw [hd]; simp)⟩
theorem one_of {l : List MV} (h : 1 ≤ l.length) : ∃ v0, l.drop (l.length - 1) = [v0] ∧ v0 ∈ l := by
 have hl : (l.drop (l.length - 1)).length = 1 := by rw [List.length_drop]; omega
 match hd : l.drop (l.length - 1), hl with
 | [v0], _ => exact ⟨v0, rfl, List.mem_of_mem_drop (i := l.length - 1) (by rw [hd]; simp)⟩
theorem getD_mem' {α : Type} {l : List α} {d : α} {i : Nat} (h : i < l.length) : l.getD i d ∈ l := by
 rw [List.getD_eq_getElem?_getD, List.getElem?_eq_getElem h, Option.getD_some]; exact List.getElem_mem h
theorem getD_some' {α : Type} {l : List α} {d : α} {i : Nat} (h : i < l.length) : l[i]? = some (l.getD i d) := by
 rw [List.getD_eq_getElem?_getD, List.getElem?_eq_getElem h, Option.getD_some]
theorem mOpOk_at {n : Nat} {i : Nat} {k a : Int} (h : mOpOk n i (k, a) = true) (hi : i < n) : 1 ≤ k ∧ k ≤ 13 ∧ 0 ≤ a ∧ a ≤ 4294967296 + (n : Int) ∧ (k = 1 → a ≤ 999) ∧ (k = 2 → a ≤ 1) ∧ (k = 3 → a ≤ 11) ∧ (k = 4 ∨ k = 9 ∨ k = 10 → (i : Int) + 1 + a ≤ n) := by
 unfold mOpOk mMost at h
 rw [decide_eq_true_eq] at h
 dsimp only at h
 obtain ⟨h1, h2, h3, h4⟩ := h
 refine ⟨h1, h2, h3, ?_, ?_, ?_, ?_, ?_⟩ <;> (repeat' split at h4) <;> omega
/-- A step keeps what is true of a state. -/
theorem step_ok {n : Nat} {N : Nat} {k a : Int} {s s' : MSt} (hn : n ≤ 120) (hs : s.ok n N) (hlt : s.at' < n) (ho : mOpOk n s.at'.toNat (k, a) = true) (h : mStep k a s = .inl s') : s'.ok n (N + 1) := by
 obtain ⟨k1, k2, a1, a2, b1, b2, b3, b4⟩ := mOpOk_at ho (by have := hs.lo; omega)
 have hlo := hs.lo; have hst := hs.st; have henv := hs.env; have hfr := hs.fr
 have at0 : (s.at'.toNat : Int) = s.at' := by omega
 rw [at0] at b4
 have stm : ∀ v ∈ s.st, v.ok n (N + 1) := fun v hv => (hs.sto v hv).mono (by omega)
 have envm : ∀ v ∈ s.env, v.ok n (N + 1) := fun v hv => (hs.envo v hv).mono (by omega)
 have frm : ∀ f ∈ s.fr, 0 ≤ f.1 ∧ f.1 ≤ n ∧ f.2.length ≤ N + 1 ∧ ∀ v ∈ f.2, v.ok n (N + 1) := fun f hf => by
  obtain ⟨c1, c2, c3, c4⟩ := hs.fro f hf
  exact ⟨c1, c2, by omega, fun v hv => (c4 v hv).mono (by omega)⟩
 have stt : ∀ m, ∀ v ∈ s.st.take m, v.ok n (N + 1) := fun m v hv => stm v (List.mem_of_mem_take hv)
 have tl : ∀ m, (s.st.take m).length ≤ N := fun m => by rw [List.length_take]; omega
 have push : ∀ {m v}, v.ok n (N + 1) → ∀ u ∈ s.st.take m ++ [v], u.ok n (N + 1) := fun hv => all_snoc (stt _) hv
 by_cases hf : s.st.length < mPops k
 ·rw [mStep_few hf] at h; cases h
 rw [mStep_take hf] at h
 have hkk : k = 1 ∨ k = 2 ∨ k = 3 ∨ k = 4 ∨ k = 5 ∨ k = 6 ∨ k = 7 ∨ k = 8 ∨ k = 9 ∨ k = 10 ∨ k = 11 ∨ (k = 12 ∨ k = 13) := by omega
 rcases hkk with rfl | rfl | rfl | rfl | rfl | rfl | rfl | rfl | rfl | rfl | rfl | hk
 ·rw [mTake1] at h; cases h
  exact ⟨by dsimp only; omega, by dsimp only; omega, by simp; omega, by dsimp only; omega, by dsimp only; omega, all_snoc stm (MV.ok.mk (by omega) (by omega) (by omega) (by omega) (by omega) (by simp) (by simp) (by simp)), envm, frm⟩
 ·rw [mTake2] at h; cases h
  exact ⟨by dsimp only; omega, by dsimp only; omega, by simp; omega, by dsimp only; omega, by dsimp only; omega, all_snoc stm (MV.ok.mk (by omega) (by omega) (by omega) (by omega) (by omega) (by simp) (by simp) (by simp)), envm, frm⟩
 ·rw [mTake3] at h
  split at h
  ·cases h
  ·cases h
   exact ⟨by dsimp only; omega, by dsimp only; omega, by simp; omega, by dsimp only; omega, by dsimp only; omega, all_snoc stm (envm _ (getD_mem' (by omega))), envm, frm⟩
 ·rw [mTake4] at h; cases h
  exact ⟨by dsimp only; omega, by dsimp only; omega, by simp; omega, by dsimp only; omega, by dsimp only; omega, all_snoc stm (MV.ok.mk (by omega) (by omega) (by omega) (by omega) (by omega) (by omega) envm (by simp)), envm, frm⟩
 ·rw [mTake5] at h
  split at h
  ·cases h
  ·cases h
   obtain ⟨c1, c2, c3, c4⟩ := frm _ (getD_mem' (d := (0, [])) (i := s.fr.length - 1) (by omega))
   exact ⟨c1, c2, by dsimp only; omega, c3, by simp; omega, stm, c4, fun f hf => frm f (List.mem_of_mem_take hf)⟩
 ·obtain ⟨v0, v1, hd, m0, m1⟩ := two_of (l := s.st) (by have : mPops 6 = 2 := rfl; omega)
  rw [mTake6 hd] at h
  split at h
  ·cases h
   obtain ⟨c1, c2, c3, c4, c5, c6, c7, c8, c9, c10⟩ := (hs.sto _ m0).spec
   refine ⟨c3, c6 (by assumption), by have := tl (s.st.length - 2); dsimp only; omega, by simp; omega, by simp; omega, stt _, ?_, ?_⟩
   ·exact all_snoc (fun u hu => (c9 u hu).mono (by omega)) (stm _ m1)
   ·exact all_snoc frm ⟨by dsimp only; omega, by dsimp only; omega, by dsimp only; omega, envm⟩
  ·cases h
 ·obtain ⟨v0, v1, hd, m0, m1⟩ := two_of (l := s.st) (by have : mPops 7 = 2 := rfl; omega)
  rw [mTake7 hd] at h
  split at h
  ·cases h
   obtain ⟨c1, c2, c3, c4, _⟩ := (hs.sto _ m0).spec
   obtain ⟨e1, e2, e3, e4, _⟩ := (hs.sto _ m1).spec
   exact ⟨by dsimp only; omega, by dsimp only; omega, by simp; omega, by dsimp only; omega, by dsimp only; omega, push (MV.ok.mk (by omega) (by omega) (by omega) (by omega) (by omega) (by simp) (by simp) (by simp)), envm, frm⟩
  ·cases h
 ·obtain ⟨v0, v1, hd, m0, m1⟩ := two_of (l := s.st) (by have : mPops 8 = 2 := rfl; omega)
  rw [mTake8 hd] at h
  split at h
  ·cases h
   have hb : 0 ≤ (if v0.num < v1.num then (1 : Int) else 0) ∧ (if v0.num < v1.num then (1 : Int) else 0) ≤ 1 := by split <;> omega
   exact ⟨by dsimp only; omega, by dsimp only; omega, by simp; omega, by dsimp only; omega, by dsimp only; omega, push (MV.ok.mk (by omega) (by omega) (by omega) (by omega) (by omega) (by simp) (by simp) (by simp)), envm, frm⟩
  ·cases h
 ·obtain ⟨v0, hd, m0⟩ := one_of (l := s.st) (by have : mPops 9 = 1 := rfl; omega)
  rw [mTake9 hd] at h
  split at h
  ·cases h
   exact ⟨by dsimp only; split <;> omega, by dsimp only; split <;> omega, by have := tl (s.st.length - 1); dsimp only; omega, by dsimp only; omega, by dsimp only; omega, stt _, envm, frm⟩
  ·cases h
 ·rw [mTake10] at h; cases h
  exact ⟨by dsimp only; omega, by dsimp only; omega, by dsimp only; omega, by dsimp only; omega, by dsimp only; omega, stm, envm, frm⟩
 ·obtain ⟨v0, v1, hd, m0, m1⟩ := two_of (l := s.st) (by have : mPops 11 = 2 := rfl; omega)
  rw [mTake11 hd] at h; cases h
  exact ⟨by dsimp only; omega, by dsimp only; omega, by simp; omega, by dsimp only; omega, by dsimp only; omega, push (MV.ok.mk (by omega) (by omega) (by omega) (by omega) (by simp) (by simp) (by simp) (by simp [stm _ m0, stm _ m1])), envm, frm⟩
 ·obtain ⟨v0, hd, m0⟩ := one_of (l := s.st) (by have : mPops k = 1 := mPops1 (by omega); omega)
  rw [mTake12 hk hd] at h
  split at h
  ·cases h
   obtain ⟨c1, c2, c3, c4, c5, c6, c7, c8, c9, c10⟩ := (hs.sto _ m0).spec
   have c7' := c7 (by assumption)
   exact ⟨by dsimp only; omega, by dsimp only; omega, by simp; omega, by dsimp only; omega, by dsimp only; omega, push ((c10 _ (getD_mem' (by omega))).mono (by omega)), envm, frm⟩
  ·cases h
section
variable {ops : List (Int × Int)} {t : Nat} {s s' : MSt}
theorem mRun_end (h : (ops.length : Int) ≤ s.at') : mRun ops t s = mEnd s := by cases t <;> rw [mRun, if_pos h]
theorem mRun_much (h : ¬(ops.length : Int) ≤ s.at') : mRun ops 0 s = (⟨#[]⟩, 5, 0) := by rw [mRun, if_neg h]
theorem mRun_go (h : ¬(ops.length : Int) ≤ s.at') (hs : mStep (ops.getD s.at'.toNat (0, 0)).1 (ops.getD s.at'.toNat (0, 0)).2 s = .inl s') : mRun ops (t + 1) s = mRun ops t s' := by rw [mRun, if_neg h]; simp only [hs]
theorem mRun_stop {c e : Int} (h : ¬(ops.length : Int) ≤ s.at') (hs : mStep (ops.getD s.at'.toNat (0, 0)).1 (ops.getD s.at'.toNat (0, 0)).2 s = .inr (c, e)) : mRun ops (t + 1) s = (⟨#[]⟩, c, e) := by rw [mRun, if_neg h]; simp only [hs]
end
theorem mGo_err {k a : Int} {s : MSt} {v : List MV} {x : Int × Int} (h : mGo k a s v = .inr x) : x = (3, 0) := by
 unfold mGo at h
 by_cases h1 : k = 1
 ·rw [if_pos h1] at h
  cases h
 rw [if_neg h1] at h
 by_cases h2 : k = 2
 ·rw [if_pos h2] at h
  cases h
 rw [if_neg h2] at h
 by_cases h3 : k = 3
 ·rw [if_pos h3] at h
  split at h <;> cases h
  rfl
 rw [if_neg h3] at h
 by_cases h4 : k = 4
 ·rw [if_pos h4] at h
  cases h
 rw [if_neg h4] at h
 by_cases h5 : k = 5
 ·rw [if_pos h5] at h
  split at h <;> cases h
  rfl
 rw [if_neg h5] at h
 by_cases h6 : k = 6
 ·rw [if_pos h6] at h
  cases h
 rw [if_neg h6] at h
 by_cases h7 : k = 7
 ·rw [if_pos h7] at h
  cases h
 rw [if_neg h7] at h
 by_cases h8 : k = 8
 ·rw [if_pos h8] at h
  cases h
 rw [if_neg h8] at h
 by_cases h9 : k = 9
 ·rw [if_pos h9] at h
  cases h
 rw [if_neg h9] at h
 by_cases h10 : k = 10
 ·rw [if_pos h10] at h
  cases h
 rw [if_neg h10] at h
 by_cases h11 : k = 11
 ·rw [if_pos h11] at h
  cases h
 rw [if_neg h11] at h
 cases h
theorem mStep_err {k a : Int} {s : MSt} {c e : Int} (h : mStep k a s = .inr (c, e)) : c = 2 ∨ c = 3 := by
 unfold mStep at h
 split at h
 ·cases h; omega
 ·split at h
  ·have := mGo_err h; cases this; omega
  ·cases h; omega
theorem st0_ok (n : Nat) : MSt.ok (n : Int) 0 ⟨0, [], [], []⟩ := ⟨by simp, by simp, by simp, by simp, by simp, by simp, by simp, by simp⟩
end Gw
end Go.Proofs.YtaoaeilognhfpaaDoor
