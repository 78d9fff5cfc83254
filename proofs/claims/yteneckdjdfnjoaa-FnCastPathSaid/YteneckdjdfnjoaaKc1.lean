/-
  Terms in memory of their own; slices that were made, filled and given up. The laws' mark texts: the letter m and a number's digits. Lists of paths: what they are in plain words, and how fresh ones lie in memory. The laws' comparisons, at data that are the same. Data that the call owns, block by block: what the laws' marking writes. The laws' marking of types. The laws' marking of terms. The laws' marking of terms and paths, and the reading of the marks. The laws' measure of arguments. Fresh data taken back into the call's own hands, and given up again; sizes. The laws' copies of types and terms. The functions on types and the small tests of terms: each computes what the plain words say. The scans of types: typeScan, TypeValid, consistent, Consistent. The tests of terms. The scan of a term, CastValid, TermValid.
-/
import Derived.Test.YteneckdjdfnjoaaKc0
import Derived.Laws.BytesArg
namespace Go.Proofs.Yteneckdjdfnjoaa
open Go Go.RowKit
namespace Gw
section blk
variable {P : Program} {Γ : Ctx} {env : Env} {hp : List Ent} {G : IM} {K : Po} {ops : Array Oper} {rest : List Oper}
end blk

theorem upd_at : ∀ {A B C V : List Value} {o : Nat}, A.length = o → B.length = V.length → upd (A ++ (B ++ C)) o V = some (A ++ (V ++ C))
 | [], B, C, V, o, h, hv => by
  simp at h; subst h
  simp only [List.nil_append]
  induction B generalizing V with
  | nil => cases V with
   | nil => cases C <;> rfl
   | cons v V => simp at hv
  | cons b B ih => cases V with
   | nil => simp at hv
   | cons v V =>
    simp only [List.cons_append, upd, ih (V := V) (by simpa using hv)]
 | a :: A, B, C, V, o, h, hv => by
  simp at h; subst h
  simp only [List.cons_append, upd, upd_at (A := A) (B := B) (C := C) rfl hv]
theorem flat_len {sz : Nat} : ∀ {es : List (List Value)}, (∀ e ∈ es, e.length = sz) → es.flatten.length = es.length * sz
 | [], _ => by simp
 | e :: es, h => by
  rw [List.flatten_cons, List.length_append, h e List.mem_cons_self, flat_len (es := es) fun x hx => h x (List.mem_cons_of_mem _ hx), List.length_cons, Nat.succ_mul]; omega
/-- A slice of types in memory of its own. -/
def STyS (G : IM) (ks : List Ty) (p : Option Addr) (c : Nat) (F : List Nat) : Prop := ∃ es Fs, SlE G p ks.length c 2 es ∧ STyL G ks es Fs ∧ F = vfp p ++ Fs ∧ (∀ b ∈ vfp p, G b ≠ none)
theorem STy.open {G : IM} {t : Ty} {cells : List Value} {F : List Nat} (h : STy G t cells F) : ∃ p c, cells = [.int .i64 t.k, .slice p t.ks.length c] ∧ I64 t.k ∧ STyS G t.ks p c F := by
 cases t
 simp only [STy] at h
 obtain ⟨p, c, es, Fs, h0, hk, h1, h2, h3, h4⟩ := h
 exact ⟨p, c, h0, hk, es, Fs, h1, h2, h3, h4⟩
mutual
def STm (G : IM) : Tm → List Value → List Nat → Prop
 | .mk k nm num ty fr lb ks, cells, F => ∃ tc fc p c es Ft Ff Fs, cells = [.int .i64 k, .string nm, .int .i64 num] ++ tc ++ fc ++ [.int .i64 lb, .slice p ks.length c] ∧ I64 k ∧ I64 num ∧ I64 lb ∧ STy G ty tc Ft ∧ STy G fr fc Ff ∧
   SlE G p ks.length c 9 es ∧ STmL G ks es Fs ∧ F = Ft ++ (Ff ++ (vfp p ++ Fs)) ∧ (∀ b ∈ vfp p, G b ≠ none)
def STmL (G : IM) : List Tm → List (List Value) → List Nat → Prop
 | [], es, F => es = [] ∧ F = []
 | t :: ts, es, F => ∃ a r Fa Fr, es = a :: r ∧ STm G t a Fa ∧ STmL G ts r Fr ∧ F = Fa ++ Fr
end
/-- A slice of terms in memory of its own. -/
def STmS (G : IM) (ks : List Tm) (p : Option Addr) (c : Nat) (F : List Nat) : Prop := ∃ es Fs, SlE G p ks.length c 9 es ∧ STmL G ks es Fs ∧ F = vfp p ++ Fs ∧ (∀ b ∈ vfp p, G b ≠ none)
mutual
theorem STm.R {G : IM} : ∀ {t : Tm} {cells : List Value} {F : List Nat}, STm G t cells F → RTm G t cells
 | .mk k nm num ty fr lb ks, cells, F, h => by
  simp only [STm] at h
  obtain ⟨tc, fc, p, c, es, Ft, Ff, Fs, h1, h2, h3, h4, h5, h6, h7, h8, _⟩ := h
  simp only [RTm]
  exact ⟨tc, fc, p, c, es, h1, h2, h3, h4, h5.R, h6.R, h7, STmL.R h8⟩
theorem STmL.R {G : IM} : ∀ {ts : List Tm} {es : List (List Value)} {F : List Nat}, STmL G ts es F → RTmL G ts es
 | [], es, F, h => by simp only [STmL] at h; simp only [RTmL]; exact h.1
 | t :: ts, es, F, h => by
  simp only [STmL] at h
  obtain ⟨a, r, Fa, Fr, h1, h2, h3, _⟩ := h
  simp only [RTmL]
  exact ⟨a, r, h1, STm.R h2, STmL.R h3⟩
end
theorem dmono {G G' : IM} (hg : IMle G G') {F : List Nat} (h : ∀ b ∈ F, G b ≠ none) : ∀ b ∈ F, G' b ≠ none := fun b hb => by
 cases hgb : G b with
 | none => exact absurd hgb (h b hb)
 | some l => rw [hg b l hgb]; simp
mutual
theorem STm.mono {G G' : IM} (hg : IMle G G') : ∀ {t : Tm} {cells : List Value} {F : List Nat}, STm G t cells F → STm G' t cells F
 | .mk k nm num ty fr lb ks, cells, F, h => by
  simp only [STm] at h ⊢
  obtain ⟨tc, fc, p, c, es, Ft, Ff, Fs, h1, h2, h3, h4, h5, h6, h7, h8, h9, h10⟩ := h
  exact ⟨tc, fc, p, c, es, Ft, Ff, Fs, h1, h2, h3, h4, h5.mono hg, h6.mono hg, h7.mono hg, STmL.mono hg h8, h9, dmono hg h10⟩
theorem STmL.mono {G G' : IM} (hg : IMle G G') : ∀ {ts : List Tm} {es : List (List Value)} {F : List Nat}, STmL G ts es F → STmL G' ts es F
 | [], es, F, h => by simpa only [STmL] using h
 | t :: ts, es, F, h => by
  simp only [STmL] at h ⊢
  obtain ⟨a, r, Fa, Fr, h1, h2, h3, h4⟩ := h
  exact ⟨a, r, Fa, Fr, h1, STm.mono hg h2, STmL.mono hg h3, h4⟩
end
mutual
theorem STm.inG {G : IM} : ∀ {t : Tm} {cells : List Value} {F : List Nat}, STm G t cells F → ∀ b ∈ F, G b ≠ none
 | .mk k nm num ty fr lb ks, cells, F, h => by
  simp only [STm] at h
  obtain ⟨tc, fc, p, c, es, Ft, Ff, Fs, h1, h2, h3, h4, h5, h6, h7, h8, rfl, h10⟩ := h
  intro b hb
  simp only [List.mem_append] at hb
  rcases hb with hb | hb | hb | hb
  ·exact h5.inG b hb
  ·exact h6.inG b hb
  ·exact h10 b hb
  ·exact STmL.inG h8 b hb
theorem STmL.inG {G : IM} : ∀ {ts : List Tm} {es : List (List Value)} {F : List Nat}, STmL G ts es F → ∀ b ∈ F, G b ≠ none
 | [], es, F, h => by simp only [STmL] at h; rw [h.2]; simp
 | t :: ts, es, F, h => by
  simp only [STmL] at h
  obtain ⟨a, r, Fa, Fr, h1, h2, h3, rfl⟩ := h
  intro b hb
  rcases List.mem_append.1 hb with hb | hb
  ·exact STm.inG h2 b hb
  ·exact STmL.inG h3 b hb
end
theorem STmL.snoc {G : IM} : ∀ {ts : List Tm} {es : List (List Value)} {F : List Nat} {t : Tm} {a : List Value} {Fa : List Nat}, STmL G ts es F → STm G t a Fa → STmL G (ts ++ [t]) (es ++ [a]) (F ++ Fa)
 | [], es, F, t, a, Fa, h, h2 => by
  simp only [STmL] at h
  obtain ⟨rfl, rfl⟩ := h
  simp only [List.nil_append, STmL]
  exact ⟨a, [], Fa, [], rfl, h2, ⟨rfl, rfl⟩, by simp⟩
 | t' :: ts, es, F, t, a, Fa, h, h2 => by
  simp only [STmL] at h
  obtain ⟨a', r, Fa', Fr, rfl, h3, h4, rfl⟩ := h
  simp only [List.cons_append, STmL]
  exact ⟨a', r ++ [a], Fa', Fr ++ Fa, rfl, h3, STmL.snoc h4 h2, by simp⟩
theorem dif_no {G Gi : IM} {F F' : List Nat} {G1 : IM} (h : ∀ b ∈ F, Dif Gi G b ≠ none) (h' : ∀ b ∈ F', Dif G1 Gi b ≠ none) : ∀ x ∈ F, ∀ y ∈ F', x ≠ y := by
 rintro x hx y hy rfl
 have h1 := h x hx
 have h2 := Dif.out (h' x hy)
 apply h1
 cases hd : Dif Gi G x with
 | none => rfl
 | some l => rw [Dif.le _ _ x l hd] at h2; cases h2
theorem STmL.step {G Gi G1 : IM} {ks : List Tm} {i : Nat} {es : List (List Value)} {F F' : List Nat} {a : List Value} (h : STmL (Dif Gi G) (ks.take i) es F) (hn : F.Nodup) (hle : IMle G Gi) (hle1 : IMle Gi G1) (hi : i < ks.length)
  (ha : STm (Dif G1 Gi) ks[i] a F') (hn' : F'.Nodup) : STmL (Dif G1 G) (ks.take (i + 1)) (es ++ [a]) (F ++ F') ∧ (F ++ F').Nodup := by
 constructor
 ·rw [List.take_succ_eq_append_getElem hi]
  exact STmL.snoc (h.mono (Dif.mono hle1)) (ha.mono (Dif.anti hle))
 ·rw [List.nodup_append]
  exact ⟨hn, hn', dif_no h.inG ha.inG⟩
theorem vfp_nodup (p : Option Addr) : (vfp p).Nodup := by cases p <;> simp [vfp]
theorem STmS.fin {G Gi G2 : IM} {ks : List Tm} {es : List (List Value)} {F : List Nat} {p : Option Addr} {c : Nat} (h : STmL (Dif Gi G) ks es F) (hn : F.Nodup) (hle : IMle G Gi) (hle2 : IMle Gi G2)
  (hsl : Sl G2 p ks.length c 9 es.flatten) (hnn : ∀ b ∈ vfp p, Gi b = none ∧ G2 b ≠ none) :
  ∃ F', STmS (Dif G2 G) ks p c F' ∧ F'.Nodup := by
 have hR := h.R
 have hin : ∀ b ∈ vfp p, Dif G2 G b ≠ none := by
  intro b hb
  have h0 := (hnn b hb).1
  cases hg : G b with
  | none => simpa [Dif, hg] using (hnn b hb).2
  | some l => rw [hle b l hg] at h0; cases h0
 refine ⟨vfp p ++ F, ⟨es, F, SlE.of (hsl.dif (fun b hb => (hnn b hb).1) hle) hR.len hR.all ?_, h.mono (Dif.mono hle2), rfl, hin⟩, ?_⟩
 ·intro e he
  obtain ⟨i, hi⟩ := List.getElem?_of_mem he
  have hlt : i < ks.length := by have := (List.getElem?_eq_some_iff.1 hi).1; rw [hR.len] at this; exact this
  obtain ⟨e', he', hr⟩ := hR.get (i := i) (t := ks[i]) (by simp [hlt])
  rw [hi] at he'; cases he'; exact hr.one
 ·rw [List.nodup_append]
  refine ⟨vfp_nodup p, hn, ?_⟩
  rintro x hx y hy rfl
  have h1 := h.inG x hy
  have h2 := (hnn x hx).1
  apply h1
  cases hd : Dif Gi G x with
  | none => rfl
  | some l => rw [Dif.le _ _ x l hd] at h2; cases h2
/-- A term put together out of parts that came one after the other. -/
theorem STm.mk3 {G G1 G2 G3 : IM} {k : Int} {nm : ByteArray} {num : Int} {ty fr : Ty} {lb : Int} {ks : List Tm} {tc fc : List Value} {p : Option Addr} {c : Nat} {F1 F2 F3 : List Nat} (hk : I64 k) (hnum : I64 num) (hlb : I64 lb)
  (hl1 : IMle G G1) (hl2 : IMle G1 G2) (hl3 : IMle G2 G3) (h1 : STy (Dif G1 G) ty tc F1) (n1 : F1.Nodup) (h2 : STy (Dif G2 G1) fr fc F2) (n2 : F2.Nodup) (h3 : STmS (Dif G3 G2) ks p c F3) (n3 : F3.Nodup) :
  ∃ F, STm (Dif G3 G) (.mk k nm num ty fr lb ks) ([.int .i64 k, .string nm, .int .i64 num] ++ tc ++ fc ++ [.int .i64 lb, .slice p ks.length c]) F ∧ F.Nodup := by
 obtain ⟨es, Fs, e1, e2, rfl, e4⟩ := h3
 have i3 : ∀ b ∈ vfp p ++ Fs, Dif G3 G2 b ≠ none := by
  intro b hb
  rcases List.mem_append.1 hb with hb | hb
  ·exact e4 b hb
  ·exact e2.inG b hb
 have a2 : IMle (Dif G2 G1) (Dif G3 G) := fun b l h => Dif.mono hl3 b l (Dif.anti hl1 b l h)
 have a3 : IMle (Dif G3 G2) (Dif G3 G) := Dif.anti (hl1.trans hl2)
 refine ⟨F1 ++ (F2 ++ (vfp p ++ Fs)), ?_, ?_⟩
 ·simp only [STm]
  exact ⟨tc, fc, p, c, es, F1, F2, Fs, rfl, hk, hnum, hlb, h1.mono (Dif.mono (hl2.trans hl3)), h2.mono a2, e1.mono a3, e2.mono a3, rfl, dmono a3 e4⟩
 ·rw [List.nodup_append, List.nodup_append]
  refine ⟨n1, ⟨n2, n3, dif_no h2.inG i3⟩, ?_⟩
  rintro x hx y hy rfl
  rcases List.mem_append.1 hy with hy | hy
  ·exact dif_no h1.inG h2.inG x hx x hy rfl
  ·have h1' : ∀ b ∈ F1, Dif G2 G b ≠ none := dmono (Dif.mono hl2) h1.inG
   exact dif_no h1' i3 x hx x hy rfl
end Gw
end Go.Proofs.Yteneckdjdfnjoaa
namespace Go.Proofs.Yteneckdjdfnjoaa
open Go Go.RowKit
namespace Gw
section clawss
variable {P : Program} {Γ : Ctx} {env : Env} {hp : List Ent} {G : IM} {ty : TypeId}
theorem pure_rem_nat {x y : Operand} {t t' : TypeId} {m n : Nat} (hx : evo env x = some (.int .i64 (m : Int))) (hy : evo env y = some (.int .i64 (n : Int))) (hn : 0 < n) :
  PureOp P Γ ⟨env, hp, G⟩ (.binOp .rem t x y t') ty (.int .i64 ((m % n : Nat) : Int)) := by
 have h := pure_rem (P := P) (Γ := Γ) (hp := hp) (G := G) (ty := ty) (t := t) (t' := t') hx hy (by omega)
 rwa [show ((m : Int).tmod n) = ((m % n : Nat) : Int) from rfl] at h
theorem pure_quo_nat {x y : Operand} {t t' : TypeId} {m n : Nat} (hx : evo env x = some (.int .i64 (m : Int))) (hy : evo env y = some (.int .i64 (n : Int))) (hn : 0 < n) (hm : m ≤ 9223372036854775807) :
  PureOp P Γ ⟨env, hp, G⟩ (.binOp .quo t x y t') ty (.int .i64 ((m / n : Nat) : Int)) := by
 have hd : m / n ≤ m := Nat.div_le_self _ _
 have e : ((m : Int).tdiv n) = ((m / n : Nat) : Int) := rfl
 have h := pure_quo (P := P) (Γ := Γ) (hp := hp) (G := G) (ty := ty) (t := t) (t' := t') hx hy (by omega) (by rw [e]; generalize m / n = q at *; omega) (by rw [e]; generalize m / n = q at *; omega)
 rwa [e] at h
end clawss
/-- The last digit's letter. -/
def dgi (k : Nat) : Int := 48 + ((k % 10 : Nat) : Int)
/-- The digits of a number ahead of a text. -/
def mDigs : Nat → Nat → ByteArray → ByteArray
 | 0, _, out => out
 | f + 1, k, out => if 0 < k then mDigs f (k / 10) (strOfNums [dgi k] ++ out) else out
def mText (k : Nat) : ByteArray := ⟨#[109]⟩ ++ mDigs 20 k ⟨⟨[]⟩⟩
end Gw
end Go.Proofs.Yteneckdjdfnjoaa
namespace Go.Proofs.Yteneckdjdfnjoaa
open Go Go.RowKit
namespace Gw
def ints (l : List Int) : List Value := l.map (Value.int .i64 ·)
theorem ints_len (l : List Int) : (ints l).length = l.length := by simp [ints]
theorem ints_snoc (l : List Int) (i : Int) : ints (l ++ [i]) = ints l ++ [.int .i64 i] := by simp [ints]
theorem ints_one (l : List Int) : ∀ u ∈ ints l, u.oneCell' = true := by
 intro u hu
 obtain ⟨x, _, rfl⟩ := List.mem_map.1 hu
 rfl
mutual
def tmCount : Tm → Nat
 | .mk _ _ _ _ _ _ ks => tmCountL ks + 1
def tmCountL : List Tm → Nat
 | [] => 0
 | t :: ts => tmCount t + tmCountL ts
end
mutual
/-- The paths of all nodes, from a node's own path on. -/
def mPaths : Tm → List Int → List (List Int)
 | .mk _ _ _ _ _ _ ks, path => path :: mPathsL ks 0 path
def mPathsL : List Tm → Nat → List Int → List (List Int)
 | [], _, _ => []
 | t :: ts, i, path => mPaths t (path ++ [(i : Int)]) ++ mPathsL ts (i + 1) path
end
mutual
theorem mPaths_len : ∀ (t : Tm) (path : List Int), (mPaths t path).length = tmCount t
 | .mk _ _ _ _ _ _ ks, path => by rw [mPaths, tmCount, List.length_cons, mPathsL_len ks 0 path]
theorem mPathsL_len : ∀ (ts : List Tm) (i : Nat) (path : List Int), (mPathsL ts i path).length = tmCountL ts
 | [], i, path => by rw [mPathsL, tmCountL]; rfl
 | t :: ts, i, path => by rw [mPathsL, tmCountL, List.length_append, mPaths_len t, mPathsL_len ts]
end
theorem mPathsL_snoc : ∀ (ts : List Tm) (t : Tm) (i : Nat) (path : List Int), mPathsL (ts ++ [t]) i path = mPathsL ts i path ++ mPaths t (path ++ [((i + ts.length : Nat) : Int)])
 | [], t, i, path => by simp [mPathsL]
 | t' :: ts, t, i, path => by
  rw [List.cons_append, mPathsL, mPathsL, mPathsL_snoc ts t (i + 1) path, List.append_assoc, List.length_cons, Nat.add_right_comm i 1, Nat.add_assoc i]
theorem mPathsL_take {ks : List Tm} {i : Nat} (hi : i < ks.length) (path : List Int) : mPathsL (ks.take (i + 1)) 0 path = mPathsL (ks.take i) 0 path ++ mPaths ks[i] (path ++ [(i : Int)]) := by
 rw [List.take_succ_eq_append_getElem hi, mPathsL_snoc, List.length_take, Nat.zero_add, Nat.min_eq_left (by omega)]
theorem tmCountL_append : ∀ (a b : List Tm), tmCountL (a ++ b) = tmCountL a + tmCountL b
 | [], b => by simp [tmCountL]
 | t :: a, b => by rw [List.cons_append, tmCountL, tmCountL, tmCountL_append a b]; omega
theorem tmCountL_take {ks : List Tm} {i : Nat} (hi : i < ks.length) : tmCountL (ks.take i) + tmCount ks[i] ≤ tmCountL ks := by
 have h := tmCountL_append (ks.take (i + 1)) (ks.drop (i + 1))
 rw [List.take_append_drop, List.take_succ_eq_append_getElem hi, tmCountL_append] at h
 simp only [tmCountL] at h
 omega
theorem tmCountL_succ {ks : List Tm} {i : Nat} (hi : i < ks.length) : tmCountL (ks.take (i + 1)) = tmCountL (ks.take i) + tmCount ks[i] := by
 rw [List.take_succ_eq_append_getElem hi, tmCountL_append]
 simp only [tmCountL]; omega
theorem tmCount_pos (t : Tm) : 0 < tmCount t := by cases t; rw [tmCount]; omega
theorem len_le_count : ∀ (ks : List Tm), ks.length ≤ tmCountL ks
 | [] => by simp
 | .mk _ _ _ _ _ _ _ :: ts => by have := len_le_count ts; simp only [List.length_cons, tmCountL, tmCount]; omega

theorem Sl.nn {G : IM} {p : Option Addr} {n c sz : Nat} {cs : List Value} (h : Sl G p n c sz cs) : p = none → n = 0 := by
 rintro rfl
 rcases h.2.2.2 with h | ⟨b, o, full, h, _⟩
 ·exact h
 ·cases h
/-- Fresh paths: each in memory of its own. -/
def SPs (G : IM) : List (List Int) → List Value → List Nat → Prop
 | [], es, F => es = [] ∧ F = []
 | l :: ls, es, F => ∃ p c r Fr, es = .slice p l.length c :: r ∧ F = vfp p ++ Fr ∧ Sl G p l.length c 1 (ints l) ∧ (∀ b ∈ vfp p, G b ≠ none) ∧ (p = none → l.length = 0) ∧ SPs G ls r Fr
theorem SPs.mono {G G' : IM} (hg : IMle G G') : ∀ {ls : List (List Int)} {es : List Value} {F : List Nat}, SPs G ls es F → SPs G' ls es F
 | [], es, F, h => h
 | l :: ls, es, F, ⟨p, c, r, Fr, h1, h2, h3, h4, h5, h6⟩ => ⟨p, c, r, Fr, h1, h2, h3.mono hg, fun b hb => by
   cases hx : G b with
   | none => exact absurd hx (h4 b hb)
   | some l => rw [hg b l hx]; simp, h5, h6.mono hg⟩
theorem SPs.inG {G : IM} : ∀ {ls : List (List Int)} {es : List Value} {F : List Nat}, SPs G ls es F → ∀ b ∈ F, G b ≠ none
 | [], es, F, ⟨_, h⟩, b, hb => by rw [h] at hb; cases hb
 | l :: ls, es, F, ⟨p, c, r, Fr, h1, h2, h3, h4, h5, h6⟩, b, hb => by
  rw [h2] at hb
  rcases List.mem_append.1 hb with hb | hb
  ·exact h4 b hb
  ·exact h6.inG b hb
theorem SPs.one {G : IM} : ∀ {ls : List (List Int)} {es : List Value} {F : List Nat}, SPs G ls es F → ∀ u ∈ es, u.oneCell' = true
 | [], es, F, ⟨h, _⟩, u, hu => by rw [h] at hu; cases hu
 | l :: ls, es, F, ⟨p, c, r, Fr, h1, h2, h3, h4, h5, h6⟩, u, hu => by
  rw [h1] at hu
  rcases List.mem_cons.1 hu with rfl | hu
  ·rfl
  ·exact h6.one u hu
theorem SPs.append {G : IM} : ∀ {ls ls' : List (List Int)} {es es' : List Value} {F F' : List Nat}, SPs G ls es F → SPs G ls' es' F' → SPs G (ls ++ ls') (es ++ es') (F ++ F')
 | [], ls', es, es', F, F', ⟨h, h2⟩, h' => by rw [h, h2]; exact h'
 | l :: ls, ls', es, es', F, F', ⟨p, c, r, Fr, h1, h2, h3, h4, h5, h6⟩, h' => ⟨p, c, r ++ es', Fr ++ F', by rw [h1]; rfl, by rw [h2, List.append_assoc], h3, h4, h5, h6.append h'⟩
theorem dif_disj {G Gi G1 : IM} {F F' : List Nat} (h : ∀ b ∈ F, Dif Gi G b ≠ none) (h' : ∀ b ∈ F', Dif G1 Gi b ≠ none) (hn : F.Nodup) (hn' : F'.Nodup) : (F ++ F').Nodup := by
 rw [List.nodup_append]
 refine ⟨hn, hn', ?_⟩
 rintro x hx y hy rfl
 have h1 := h x hx
 have h2 := Dif.out (h' x hy)
 apply h1
 cases hd : Dif Gi G x with
 | none => rfl
 | some l => rw [Dif.le _ _ x l hd] at h2; cases h2
theorem dif_in {G Gi G2 : IM} {b : Nat} (hle : IMle G Gi) (h : Gi b = none ∧ G2 b ≠ none) : Dif G2 G b ≠ none := by
 cases hg : G b with
 | none => simpa [Dif, hg] using h.2
 | some l => rw [hle b l hg] at h; exact absurd h.1 (by simp)
/-- A call's paths come to the ones so far. -/
theorem SPs.step {G Gi Gf G1 : IM} {ls ls' : List (List Int)} {es es' : List Value} {F F' : List Nat} (h : SPs (Dif Gi G) ls es F) (hn : F.Nodup) (hle : IMle G Gi) (hlef : IMle Gi Gf) (hle1 : IMle Gf G1)
  (h' : SPs (Dif G1 Gf) ls' es' F') (hn' : F'.Nodup) : SPs (Dif G1 G) (ls ++ ls') (es ++ es') (F ++ F') ∧ (F ++ F').Nodup :=
 ⟨(h.mono (Dif.mono (hlef.trans hle1))).append (h'.mono (Dif.anti (hle.trans hlef))), dif_disj h.inG (h'.mono (Dif.anti hlef)).inG hn hn'⟩
theorem SPs.first {G G2 : IM} {l : List Int} {p : Option Addr} {c : Nat} (hsl : Sl G2 p l.length c 1 (ints l)) (hno : ∀ b ∈ vfp p, G b = none ∧ G2 b ≠ none) (hp : p = none → l.length = 0) (hle : IMle G G2) :
  SPs (Dif G2 G) [l] [.slice p l.length c] (vfp p) ∧ (vfp p).Nodup := by
 refine ⟨⟨p, c, [], [], rfl, by simp, hsl.dif (fun b hb => (hno b hb).1) (IMle.refl _), fun b hb => dif_in (IMle.refl _) (hno b hb), hp, rfl, rfl⟩, by cases p <;> simp [vfp]⟩
/-- What AllPaths hands back: the outer list and each path in memory of its own. -/
def RPs (G : IM) (ls : List (List Int)) (p : Option Addr) (c : Nat) : Prop := ∃ es F, Sl G p ls.length c 1 es ∧ (∀ b ∈ vfp p, G b ≠ none) ∧ SPs G ls es F ∧ (vfp p ++ F).Nodup
theorem RPs.fin {G Gi G2 : IM} {ls : List (List Int)} {es : List Value} {F : List Nat} {p : Option Addr} {c m : Nat} (h : SPs (Dif Gi G) ls es F) (hn : F.Nodup) (hle : IMle G Gi) (hle2 : IMle Gi G2)
  (hsl : Sl G2 p m c 1 es) (hm : m = ls.length) (hno : ∀ b ∈ vfp p, Gi b = none ∧ G2 b ≠ none) : RPs (Dif G2 G) ls p c := by
 subst hm
 refine ⟨es, F, hsl.dif (fun b hb => (hno b hb).1) hle, fun b hb => dif_in hle (hno b hb), h.mono (Dif.mono hle2), ?_⟩
 rw [List.nodup_append]
 refine ⟨by cases p <;> simp [vfp], hn, ?_⟩
 rintro x hx y hy rfl
 have h1 := h.inG x hy
 have h2 := (hno x hx).1
 apply h1
 cases hd : Dif Gi G x with
 | none => rfl
 | some l => rw [Dif.le _ _ x l hd] at h2; cases h2
mutual
theorem mScan_count (M D N : Int) : ∀ (t : Tm) (deep c : Int), (mScan M D N t deep c).1 = true → (mScan M D N t deep c).2 = c + tmCount t
 | .mk k nm num ty fr lb ks, deep, c, h => by
  rw [mScan] at h ⊢
  split at h
  ·cases h
  ·rename_i hc
   rw [if_neg hc, mScanL_count M D N ks (deep + 1) (c + 1) h, tmCount]
   omega
theorem mScanL_count (M D N : Int) : ∀ (ts : List Tm) (deep c : Int), (mScanL M D N ts deep c).1 = true → (mScanL M D N ts deep c).2 = c + tmCountL ts
 | [], deep, c, h => by rw [mScanL, tmCountL]; simp
 | t :: ts, deep, c, h => by
  rw [mScanL] at h ⊢
  split at h
  ·rename_i h1
   rw [if_pos h1, mScanL_count M D N ts deep _ h, mScan_count M D N t deep c h1, tmCountL]
   omega
  ·cases h
end
theorem castValid_count {t : Tm} (h : castValid t = true) : tmCount t ≤ 200 := by
 have h1 := mScan_count 200 40 13 t 1 0 h
 have h2 := (mScan_le 200 40 13 t 1 0 (by omega) (by omega)).2.2 h
 omega
/-- AllPaths in plain words. -/
def mAll (t : Tm) : List (List Int) := if castValid t = true then mPaths t [] else []
theorem RPs.nil (G : IM) : RPs G [] none 0 := ⟨[], [], Sl.nil G 1, by simp [vfp], ⟨rfl, rfl⟩, by simp [vfp]⟩
end Gw
end Go.Proofs.Yteneckdjdfnjoaa
namespace Go.Proofs.Yteneckdjdfnjoaa
open Go Go.RowKit
namespace Gw
section slaws
variable {P : Program} {Γ : Ctx} {env : Env} {hp : List Ent} {G : IM} {ty : TypeId}
end slaws
/-- One cell of a slice of cells. -/
theorem Sl.kid {G : IM} {p : Option Addr} {n c : Nat} {cs : List Value} (h : Sl G p n c 1 cs) {i : Nat} (hi : i < n) :
  ∃ b o v, p = some ⟨b, o, none⟩ ∧ cs[i]? = some v ∧ (∀ hp, At hp G b (o + i * 1) [v]) ∧ G b ≠ none := by
 obtain ⟨h1, h2, h3, h4⟩ := h
 obtain ⟨b, o, full, rfl, hg, hv⟩ := h4.resolve_left (by omega)
 have hlt : i < cs.length := by omega
 refine ⟨b, o, cs[i], rfl, List.getElem?_eq_getElem hlt, fun hp => at_im hg ?_, by rw [hg]; simp⟩
 intro j v hj
 cases j with
 | zero => simp at hj; subst hj; simpa using hv i _ (List.getElem?_eq_getElem hlt)
 | succ j => simp at hj
theorem ints_get {l : List Int} {i : Nat} {v : Value} (h : (ints l)[i]? = some v) : ∃ hi : i < l.length, v = .int .i64 l[i] := by
 have hi : i < l.length := by have := (List.getElem?_eq_some_iff.1 h).1; rwa [ints_len] at this
 refine ⟨hi, ?_⟩
 simp [ints, hi] at h
 exact h.symm
theorem Sl.le {G : IM} {p : Option Addr} {n c sz : Nat} {cs : List Value} (h : Sl G p n c sz cs) : n ≤ 9223372036854775807 := by
 have h1 := h.2.1; have h2 := h.2.2.1; unfold maxLen at h2; omega

end Gw
end Go.Proofs.Yteneckdjdfnjoaa
namespace Go.Proofs.Yteneckdjdfnjoaa
open Go Go.RowKit
namespace Gw

abbrev Blks := List (Nat × List Value)

/- Types: each slice in a block of the call's own. -/
mutual
def OTy : Ty → List Value → Blks → Prop
 | .mk k ks, cells, bs => ∃ p c, cells = [.int .i64 k, .slice p ks.length c] ∧ I64 k ∧ ks.length ≤ c ∧ c ≤ maxLen ∧ ((ks = [] ∧ bs = []) ∨ ∃ b A C es r, p = some ⟨b, A.length, none⟩ ∧ bs = (b, A ++ (es.flatten ++ C)) :: r ∧ OTyL ks es r)
def OTyL : List Ty → List (List Value) → Blks → Prop
 | [], es, bs => es = [] ∧ bs = []
 | t :: ts, es, bs => ∃ e e' r1 r2, es = e :: e' ∧ bs = r1 ++ r2 ∧ OTy t e r1 ∧ OTyL ts e' r2
end
def OTyS (ks : List Ty) (p : Option Addr) (c : Nat) (bs : Blks) : Prop :=
 ks.length ≤ c ∧ c ≤ maxLen ∧ ((ks = [] ∧ bs = []) ∨ ∃ b A C es r, p = some ⟨b, A.length, none⟩ ∧ bs = (b, A ++ (es.flatten ++ C)) :: r ∧ OTyL ks es r)
/- Terms. -/
mutual
def OTm : Tm → List Value → Blks → Prop
 | .mk k nm num ty fr lb ks, cells, bs => ∃ tc fc p c bt bf bk, cells = [.int .i64 k, .string nm, .int .i64 num] ++ tc ++ fc ++ [.int .i64 lb, .slice p ks.length c] ∧ I64 k ∧ I64 num ∧ I64 lb ∧ OTy ty tc bt ∧ OTy fr fc bf ∧
   ks.length ≤ c ∧ c ≤ maxLen ∧ ((ks = [] ∧ bk = []) ∨ ∃ b A C es r, p = some ⟨b, A.length, none⟩ ∧ bk = (b, A ++ (es.flatten ++ C)) :: r ∧ OTmL ks es r) ∧ bs = bt ++ (bf ++ bk)
def OTmL : List Tm → List (List Value) → Blks → Prop
 | [], es, bs => es = [] ∧ bs = []
 | t :: ts, es, bs => ∃ e e' r1 r2, es = e :: e' ∧ bs = r1 ++ r2 ∧ OTm t e r1 ∧ OTmL ts e' r2
end
def OTmS (ks : List Tm) (p : Option Addr) (c : Nat) (bs : Blks) : Prop :=
 ks.length ≤ c ∧ c ≤ maxLen ∧ ((ks = [] ∧ bs = []) ∨ ∃ b A C es r, p = some ⟨b, A.length, none⟩ ∧ bs = (b, A ++ (es.flatten ++ C)) :: r ∧ OTmL ks es r)
/- How many marks are written, and what the data are then. -/
mutual
def cntTy : Ty → Int
 | .mk _ ks => 1 + cntTyL ks
def cntTyL : List Ty → Int
 | [] => 0
 | t :: ts => cntTy t + cntTyL ts
end
mutual
def mkTy : Ty → Int → Ty
 | .mk _ ks, k => .mk k (mkTyL ks (k + 1))
def mkTyL : List Ty → Int → List Ty
 | [], _ => []
 | t :: ts, k => mkTy t k :: mkTyL ts (k + cntTy t)
end
mutual
def cntTm : Tm → Int
 | .mk _ _ _ ty fr _ ks => 6 + cntTyL ty.ks + cntTyL fr.ks + cntTmL ks
def cntTmL : List Tm → Int
 | [] => 0
 | t :: ts => cntTm t + cntTmL ts
end
mutual
def mkTm : Tm → Int → Tm
 | .mk _ _ _ ty fr _ ks, k => .mk k (mText (k + 1).toNat) (k + 1 + 1) (.mk (k + 1 + 1 + 1) (mkTyL ty.ks (k + 1 + 1 + 1 + 1))) (.mk (k + 1 + 1 + 1 + 1 + cntTyL ty.ks) (mkTyL fr.ks (k + 1 + 1 + 1 + 1 + cntTyL ty.ks + 1))) (k + 1 + 1 + 1 + 1 + cntTyL ty.ks + 1 + cntTyL fr.ks) (mkTmL ks (k + 1 + 1 + 1 + 1 + cntTyL ty.ks + 1 + cntTyL fr.ks + 1))
def mkTmL : List Tm → Int → List Tm
 | [], _ => []
 | t :: ts, k => mkTm t k :: mkTmL ts (k + cntTm t)
end
/- One element of a block. -/
section lend
variable {P : Program} {Γ : Ctx} {env : Env} {hp : List Ent} {G : IM} {K : Po} {ops : Array Oper} {rest : List Oper} {ty : TypeId} {pos : String} {af : Array Edge} {gd : Option (Nat × Bool)}
/-- A call that is lent blocks, gives a value and hands blocks back. -/
def Lent (v0 : Value) (G : IM) (Φ : Blks → Prop) : IM → Value → List Ent → Prop := fun G' v outs => G' = G ∧ v = v0 ∧ ∃ bs', outs = blks bs' ∧ Φ bs'
end lend
end Gw
end Go.Proofs.Yteneckdjdfnjoaa
namespace Go.Proofs.Yteneckdjdfnjoaa
open Go Go.RowKit
namespace Gw
end Gw
end Go.Proofs.Yteneckdjdfnjoaa
namespace Go.Proofs.Yteneckdjdfnjoaa
open Go Go.RowKit
namespace Gw
end Gw
end Go.Proofs.Yteneckdjdfnjoaa
namespace Go.Proofs.Yteneckdjdfnjoaa
open Go Go.RowKit
namespace Gw
/-- What a marked term's memory is. -/
def MTm (t : Tm) (k : Int) (cells : List Value) (bs : Blks) : Prop := ∃ pt ct pf cf p c bt bf bk,
 cells = [.int .i64 t.k, .string t.nm, .int .i64 t.num, .int .i64 t.ty.k, .slice pt t.ty.ks.length ct, .int .i64 t.fr.k, .slice pf t.fr.ks.length cf, .int .i64 t.lb, .slice p t.ks.length c] ∧
 OTyS (mkTyL t.ty.ks k) pt ct bt ∧ OTyS (mkTyL t.fr.ks (k + cntTyL t.ty.ks)) pf cf bf ∧ OTmS (mkTmL t.ks (k + cntTyL t.ty.ks + cntTyL t.fr.ks)) p c bk ∧ bs = bt ++ (bf ++ bk)
/- Paths. -/
def mkInts : Nat → Int → List Int
 | 0, _ => []
 | n + 1, k => k :: mkInts n (k + 1)
def OIs (l : List Int) (p : Option Addr) (c : Nat) (bs : Blks) : Prop :=
 l.length ≤ c ∧ c ≤ maxLen ∧ ((l = [] ∧ bs = []) ∨ ∃ b A C, p = some ⟨b, A.length, none⟩ ∧ bs = [(b, A ++ (ints l ++ C))])
/- Lists of paths. -/
def OPs : List (List Int) → List Value → Blks → Prop
 | [], es, bs => es = [] ∧ bs = []
 | l :: ls, es, bs => ∃ p c e' r1 r2, es = .slice p l.length c :: e' ∧ bs = r1 ++ r2 ∧ OIs l p c r1 ∧ OPs ls e' r2
def cntIs : List (List Int) → Int
 | [] => 0
 | l :: ls => l.length + cntIs ls
def mkIs : List (List Int) → Int → List (List Int)
 | [], _ => []
 | l :: ls, k => mkInts l.length k :: mkIs ls (k + l.length)
section lend0
variable {P : Program} {Γ : Ctx} {env : Env} {G : IM} {K : Po} {ops : Array Oper} {rest : List Oper} {ty : TypeId} {pos : String} {af : Array Edge} {gd : Option (Nat × Bool)}
end lend0
/-- Paths in memory that no longer changes. -/
def QPs (G : IM) : List (List Int) → List Value → Prop
 | [], es => es = []
 | l :: ls, es => ∃ p c r, es = .slice p l.length c :: r ∧ Sl G p l.length c 1 (ints l) ∧ QPs G ls r
end Gw
end Go.Proofs.Yteneckdjdfnjoaa
namespace Go.Proofs.Yteneckdjdfnjoaa
open Go Go.RowKit
namespace Gw
mutual
def szTy : Ty → Int
 | .mk _ ks => ks.length + sumTy ks
def sumTy : List Ty → Int
 | [] => 0
 | t :: ts => szTy t + sumTy ts
end
mutual
def szTm : Tm → Int
 | .mk _ nm _ ty fr _ ks => nm.size + szTy ty + szTy fr + (ks.length + sumTm ks)
def sumTm : List Tm → Int
 | [] => 0
 | t :: ts => szTm t + sumTm ts
end
mutual
theorem szTy_nn : ∀ t : Ty, 0 ≤ szTy t
 | .mk _ ks => by have := sumTy_nn ks; rw [szTy]; omega
theorem sumTy_nn : ∀ ts : List Ty, 0 ≤ sumTy ts
 | [] => by rw [sumTy]; omega
 | t :: ts => by have := szTy_nn t; have := sumTy_nn ts; rw [sumTy]; omega
end
mutual
theorem szTm_nn : ∀ t : Tm, 0 ≤ szTm t
 | .mk _ _ _ ty fr _ ks => by have := sumTm_nn ks; have := szTy_nn ty; have := szTy_nn fr; rw [szTm]; omega
theorem sumTm_nn : ∀ ts : List Tm, 0 ≤ sumTm ts
 | [] => by rw [sumTm]; omega
 | t :: ts => by have := szTm_nn t; have := sumTm_nn ts; rw [sumTm]; omega
end
theorem sumTy_append : ∀ a b : List Ty, sumTy (a ++ b) = sumTy a + sumTy b
 | [], b => by simp [sumTy]
 | t :: a, b => by rw [List.cons_append, sumTy, sumTy, sumTy_append a b]; omega
theorem sumTy_succ {ks : List Ty} {i : Nat} (hi : i < ks.length) : sumTy (ks.take (i + 1)) = sumTy (ks.take i) + szTy ks[i] := by
 rw [List.take_succ_eq_append_getElem hi, sumTy_append, sumTy, sumTy]; omega
theorem sumTy_take (ks : List Ty) (i : Nat) : sumTy (ks.take i) ≤ sumTy ks := by
 have h := sumTy_append (ks.take i) (ks.drop i)
 rw [List.take_append_drop] at h
 have := sumTy_nn (ks.drop i); omega
/- No name is longer than Go's strings are. -/
mutual
def Tm.nok : Tm → Prop
 | .mk _ nm _ _ _ _ ks => nm.size ≤ 9223372036854775807 ∧ Tm.nokL ks
def Tm.nokL : List Tm → Prop
 | [] => True
 | t :: ts => t.nok ∧ Tm.nokL ts
end
/-- What is left behind a measure. -/
def resI (left s : Int) : Int := if s ≤ left then left - s else -1
end Gw
end Go.Proofs.Yteneckdjdfnjoaa
namespace Go.Proofs.Yteneckdjdfnjoaa
open Go Go.RowKit
namespace Gw
theorem Sl.of_blk {G : IM} {b n c sz : Nat} {A C cs : List Value} (hl : cs.length = n * sz) (hc : n ≤ c) (hm : c ≤ maxLen) (hg : G b = some (A ++ (cs ++ C))) : Sl G (some ⟨b, A.length, none⟩) n c sz cs := by
 refine ⟨hl, hc, hm, .inr ⟨b, A.length, _, rfl, hg, fun j v hj => ?_⟩⟩
 have hlt : j < cs.length := (List.getElem?_eq_some_iff.1 hj).1
 rw [List.getElem?_append, if_neg (by omega), List.getElem?_append, if_pos (by omega), show A.length + j - A.length = j by omega]
 exact hj
/-- These blocks lie in G, and among F. -/
def InG (G : IM) (bs : Blks) (F : List Nat) : Prop := (bs.map Prod.fst).Sublist F ∧ ∀ q ∈ bs, G q.1 = some q.2
/- Sizes. -/
mutual
theorem small_ty : ∀ t : Ty, szTy t ≤ 4294967296 → t.small
 | .mk _ ks, h => by
  rw [szTy] at h
  have := sumTy_nn ks
  simp only [Ty.small]
  exact ⟨by omega, small_tyL ks (by omega)⟩
theorem small_tyL : ∀ ts : List Ty, sumTy ts ≤ 4294967296 → Ty.smallL ts
 | [], _ => by simp [Ty.smallL]
 | t :: ts, h => by
  rw [sumTy] at h
  have := szTy_nn t
  have := sumTy_nn ts
  simp only [Ty.smallL]
  exact ⟨small_ty t (by omega), small_tyL ts (by omega)⟩
end
mutual
theorem small_tm : ∀ t : Tm, szTm t ≤ 4294967296 → t.small
 | .mk _ nm _ ty fr _ ks, h => by
  rw [szTm] at h
  have := sumTm_nn ks
  have := szTy_nn ty
  have := szTy_nn fr
  simp only [Tm.small]
  exact ⟨by omega, small_ty ty (by omega), small_ty fr (by omega), by omega, small_tmL ks (by omega)⟩
theorem small_tmL : ∀ ts : List Tm, sumTm ts ≤ 4294967296 → Tm.smallL ts
 | [], _ => by simp [Tm.smallL]
 | t :: ts, h => by
  rw [sumTm] at h
  have := szTm_nn t
  have := sumTm_nn ts
  simp only [Tm.smallL]
  exact ⟨small_tm t (by omega), small_tmL ts (by omega)⟩
end
mutual
theorem count_sz : ∀ t : Tm, (tmCount t : Int) ≤ szTm t + 1
 | .mk _ nm _ ty fr _ ks => by
  have := count_szL ks
  have := szTy_nn ty
  have := szTy_nn fr
  rw [szTm, tmCount]; omega
theorem count_szL : ∀ ts : List Tm, (tmCountL ts : Int) ≤ ts.length + sumTm ts
 | [] => by rw [sumTm, tmCountL]; simp
 | t :: ts => by
  have := count_sz t
  have := count_szL ts
  rw [sumTm, tmCountL, List.length_cons]; omega
end
end Gw
end Go.Proofs.Yteneckdjdfnjoaa
namespace Go.Proofs.Yteneckdjdfnjoaa
open Go Go.RowKit
namespace Gw
/-- What a copy of a type comes to. -/
def ToTy (t : Ty) (G : IM) : IM → Value → List Ent → Prop := Imm fun G' v => ∃ cells' F, v = .agg ⟨cells'⟩ ∧ STy (Dif G' G) t cells' F ∧ F.Nodup
def ToTyS (ks : List Ty) (G : IM) : IM → Value → List Ent → Prop := Imm fun G' v => ∃ p c F, v = .slice p ks.length c ∧ STyS (Dif G' G) ks p c F ∧ F.Nodup
def ToTm (t : Tm) (G : IM) : IM → Value → List Ent → Prop := Imm fun G' v => ∃ cells' F, v = .agg ⟨cells'⟩ ∧ STm (Dif G' G) t cells' F ∧ F.Nodup
def ToTmS (ks : List Tm) (G : IM) : IM → Value → List Ent → Prop := Imm fun G' v => ∃ p c F, v = .slice p ks.length c ∧ STmS (Dif G' G) ks p c F ∧ F.Nodup
end Gw
end Go.Proofs.Yteneckdjdfnjoaa
namespace Go.Proofs.Yteneckdjdfnjoaa
open Go Go.RowKit
namespace Gw
set_option maxRecDepth 100000 in
theorem indexFunc_Type (G : IM) (p : Option Addr) (n c : Nat) (es : List (List Value)) (hsl : SlE G p n c 2 es) (fid : FuncId) [FunI Try.prog fid] (us cs : List Value) (ins : List Ent) (q : Nat → Bool)
  (hq : ∀ i e, es[i]? = some e → Fn Try.prog fid (us ++ [.agg ⟨e⟩] ++ cs) ins G (ValO (.bool (q i)) ins G)) :
  Fn Try.prog 109 [.slice p n c, .func (.func fid) ⟨us⟩ ⟨cs⟩] ins G (ValO (.int .i64 (firstIx q n)) ins G) := by
 have hn := hsl.le
 refine fn_enter Try.func109 rfl Try.ntmps109 Try.results109 rfl ?_
 intro w0
 refine tri_seq ?_
 refine tri_region ?_
 refine seq_pure (pure_assign rfl) rfl rfl ?_
 refine seq_done ?_
 refine nrm_seq ?_
 refine tri_seq ?_
 refine tri_seq ?_
 refine tri_region ?_
 refine seq_pure (pure_move rfl) rfl rfl ?_
 refine seq_pure (pure_len rfl rfl) rfl rfl ?_
 refine seq_pure (pure_move rfl) rfl rfl ?_
 refine seq_done ?_
 refine nrm_seq ?_
 refine tri_block ?_
 refine tri_loopN (fun i : Nat => ⟨[(8, .int .i64 i), (7, .int .i64 n), (1, .func (.func fid) ⟨us⟩ ⟨cs⟩), (0, .slice p n c)], ins, G⟩) (fun i => i ≤ n ∧ ∀ j, j < i → q j = false) (fun i => n - i) 0 ?_ ?_ ?_
 ·exact sub_mk (by repeat (first | exact SubE.nil | refine SubE.cons rfl ?_)) (by repeat (first | exact SubH.refl | exact SubH.nil | refine SubH.cons (by repeat (first | exact Pk.here | apply Pk.there)) ?_ | apply SubH.drop))
 ·exact ⟨by omega, by omega⟩
 ·rintro i ⟨hi, hf⟩
  refine tri_seq ?_
  refine tri_region ?_
  refine seq_bool (pure_lss rfl rfl) rfl rfl (fun h21 => ?_) (fun h21 => ?_)
  ·refine seq_done ?_
   refine nrm_seq ?_
   refine tri_seq ?_
   refine tri_cond_t rfl ?_
   refine tri_skip ?_
   refine nrm_seq ?_
   refine tri_seq ?_
   refine tri_block ?_
   refine tri_seq ?_
   refine tri_region ?_
   refine seq_pure (pure_move rfl) rfl rfl ?_
   refine seq_pure (pure_assign rfl) rfl rfl ?_
   refine seq_done ?_
   refine nrm_seq ?_
   refine tri_seq ?_
   refine tri_region ?_
   refine seq_pure (pure_move rfl) rfl rfl ?_
   refine seq_pure (pure_move rfl) rfl rfl ?_
   refine seq_pure (pure_move rfl) rfl rfl ?_
   (obtain ⟨e, b, o, he, rfl, hl, _, hat, _⟩ := hsl.get (i := i) (by omega); refine seq_pure (pure_indexAddrN rfl rfl rfl (by omega)) rfl rfl ?_)
   refine seq_load (load_a rfl rfl (hat _) hl) rfl rfl ?_
   refine seq_vvalbo rfl rfl (hq i e he) perm_all rfl rfl (fun h43 => ?_) (fun h43 => ?_)
   ·refine seq_done ?_
    refine nrm_seq ?_
    refine tri_cond_t rfl ?_
    refine tri_seq ?_
    refine tri_region ?_
    refine seq_pure (pure_move rfl) rfl rfl ?_
    refine seq_pure (pure_assign rfl) rfl rfl ?_
    refine seq_done ?_
    refine nrm_seq ?_
    refine tri_ret ?_
    refine ret_block ?_
    refine ret_seq ?_
    refine ret_loopN ?_
    refine ret_block ?_
    refine ret_seq ?_
    refine ret_own1 (res_tmp rfl) SubH.refl ?_
    exact ⟨rfl, by rw [firstIx_some (by omega) hf (by assumption)], rfl⟩
   ·refine seq_done ?_
    refine nrm_seq ?_
    refine tri_cond_f rfl ?_
    refine tri_skip ?_
    refine nrm_block ?_
    refine nrm_seq ?_
    refine tri_region ?_
    refine seq_pure (pure_add rfl rfl (by omega) (by omega)) rfl rfl ?_
    refine seq_pure (pure_move rfl) rfl rfl ?_
    refine seq_done ?_
    refine nrm_loopN (i + 1) ?_ ?_ ?_
    ·exact sub_mk (by repeat (first | exact SubE.nil | refine SubE.cons rfl ?_)) (by repeat (first | exact SubH.refl | exact SubH.nil | refine SubH.cons (by repeat (first | exact Pk.here | apply Pk.there)) ?_ | apply SubH.drop))
    ·exact ⟨by omega, fun j hj => by by_cases hji : j = i; (subst hji; assumption); exact hf j (by omega)⟩
    ·omega
  ·refine seq_done ?_
   refine nrm_seq ?_
   refine tri_seq ?_
   refine tri_cond_f rfl ?_
   refine tri_exit ?_
   refine ext_seq ?_
   refine ext_loopN ?_
   refine ext_block_eq ?_
   refine nrm_seq ?_
   refine tri_seq ?_
   refine tri_region ?_
   refine seq_pure (pure_assign rfl) rfl rfl ?_
   refine seq_done ?_
   refine nrm_seq ?_
   refine tri_ret ?_
   refine ret_own1 (res_tmp rfl) SubH.refl ?_
   exact ⟨rfl, by rw [firstIx_none (fun j hj => hf j (by omega))], rfl⟩
set_option maxRecDepth 100000 in
theorem containsFunc_Type (G : IM) (p : Option Addr) (n c : Nat) (es : List (List Value)) (hsl : SlE G p n c 2 es) (fid : FuncId) [FunI Try.prog fid] (us cs : List Value) (ins : List Ent) (q : Nat → Bool)
  (hq : ∀ i e, es[i]? = some e → Fn Try.prog fid (us ++ [.agg ⟨e⟩] ++ cs) ins G (ValO (.bool (q i)) ins G)) :
  Fn Try.prog 99 [.slice p n c, .func (.func fid) ⟨us⟩ ⟨cs⟩] ins G (ValO (.bool (decide (0 ≤ firstIx q n))) ins G) := by
 refine fn_enter Try.func99 rfl Try.ntmps99 Try.results99 rfl ?_
 intro w0
 refine tri_seq ?_
 refine tri_region ?_
 refine seq_pure (pure_assign rfl) rfl rfl ?_
 refine seq_done ?_
 refine nrm_seq ?_
 refine tri_seq ?_
 refine tri_region ?_
 refine seq_pure (pure_move rfl) rfl rfl ?_
 refine seq_pure (pure_move rfl) rfl rfl ?_
 refine seq_valo rfl (indexFunc_Type G p n c es hsl fid us cs ins q hq) perm_all rfl rfl ?_
 refine seq_pure (pure_geq rfl rfl) rfl rfl ?_
 refine seq_pure (pure_assign rfl) rfl rfl ?_
 refine seq_done ?_
 refine nrm_seq ?_
 refine tri_ret ?_
 refine ret_own1 (res_tmp rfl) SubH.refl ?_
 exact ⟨rfl, rfl, rfl⟩
theorem containsNot_Type (G : IM) (p : Option Addr) (n c : Nat) (es : List (List Value)) (hsl : SlE G p n c 2 es) (fid : FuncId) [FunI Try.prog fid] (us cs : List Value) (ins : List Ent) (f : Ty → Bool) (ks : List Ty)
  (hn : ks.length = n) {A : Bool} (hA : ks.all f = A) (hq : ∀ i e, es[i]? = some e → Fn Try.prog fid (us ++ [.agg ⟨e⟩] ++ cs) ins G (ValO (.bool (!f (ks.getD i ty0))) ins G)) :
  Fn Try.prog 99 [.slice p n c, .func (.func fid) ⟨us⟩ ⟨cs⟩] ins G (ValO (.bool (!A)) ins G) := by
 subst hn hA
 rw [← contains_not f ks ty0]
 exact containsFunc_Type G p _ c es hsl fid us cs ins _ hq
set_option maxRecDepth 100000 in
theorem equalFunc_Type (G : IM) (p p' : Option Addr) (n c n' c' : Nat) (es es' : List (List Value)) (hsl : SlE G p n c 2 es) (hsl' : SlE G p' n' c' 2 es') (fid : FuncId) [FunI Try.prog fid] (us cs : List Value) (ins : List Ent) (q : Nat → Bool)
  (A : Bool) (hA : A = true ↔ n = n' ∧ ∀ i, i < n → q i = true)
  (hq : ∀ i e e', es[i]? = some e → es'[i]? = some e' → Fn Try.prog fid (us ++ [.agg ⟨e⟩, .agg ⟨e'⟩] ++ cs) ins G (ValO (.bool (q i)) ins G)) :
  Fn Try.prog 41 [.slice p n c, .slice p' n' c', .func (.func fid) ⟨us⟩ ⟨cs⟩] ins G (ValO (.bool A) ins G) := by
 have hn := hsl.le
 have hn' := hsl'.le
 refine fn_enter Try.func41 rfl Try.ntmps41 Try.results41 rfl ?_
 intro w0
 refine tri_seq ?_
 refine tri_region ?_
 refine seq_pure (pure_assign rfl) rfl rfl ?_
 refine seq_done ?_
 refine nrm_seq ?_
 refine tri_seq ?_
 refine tri_seq ?_
 refine tri_region ?_
 refine seq_pure (pure_move rfl) rfl rfl ?_
 refine seq_pure (pure_len rfl rfl) rfl rfl ?_
 refine seq_pure (pure_move rfl) rfl rfl ?_
 refine seq_pure (pure_len rfl rfl) rfl rfl ?_
 refine seq_bool (pure_neq rfl rfl) rfl rfl (fun h13 => ?_) (fun h13 => ?_)
 ·refine seq_done ?_
  refine nrm_seq ?_
  refine tri_cond_t rfl ?_
  refine tri_seq ?_
  refine tri_region ?_
  refine seq_pure (pure_assign rfl) rfl rfl ?_
  refine seq_done ?_
  refine nrm_seq ?_
  refine tri_ret ?_
  refine ret_seq ?_
  refine ret_own1 (outs := ins) (res_tmp rfl) (by first | exact SubH.refl | exact SubH.drop (SubH.drop SubH.refl)) ?_
  exact ⟨rfl, by (cases A with | false => rfl | true => exact absurd (hA.1 rfl).1 (by omega)), rfl⟩
 ·refine seq_done ?_
  refine nrm_seq ?_
  refine tri_cond_f rfl ?_
  refine tri_skip ?_
  refine nrm_seq ?_
  refine tri_seq ?_
  refine tri_seq ?_
  refine tri_region ?_
  refine seq_pure (pure_move rfl) rfl rfl ?_
  refine seq_pure (pure_len rfl rfl) rfl rfl ?_
  refine seq_pure (pure_move rfl) rfl rfl ?_
  refine seq_done ?_
  refine nrm_seq ?_
  refine tri_block ?_
  refine tri_loopN (fun i : Nat => ⟨[(17, .int .i64 i), (16, .int .i64 n), (15, .slice p n c), (2, .func (.func fid) ⟨us⟩ ⟨cs⟩), (1, .slice p' n' c'), (0, .slice p n c)], ins, G⟩) (fun i => i ≤ n ∧ ∀ j, j < i → q j = true) (fun i => n - i) 0 ?_ ?_ ?_
  ·exact sub_mk (by repeat (first | exact SubE.nil | refine SubE.cons rfl ?_)) (by repeat (first | exact SubH.refl | exact SubH.nil | refine SubH.cons (by repeat (first | exact Pk.here | apply Pk.there)) ?_ | apply SubH.drop))
  ·exact ⟨by omega, by omega⟩
  ·rintro i ⟨hi, hf⟩
   refine tri_seq ?_
   refine tri_region ?_
   refine seq_bool (pure_lss rfl rfl) rfl rfl (fun h46 => ?_) (fun h46 => ?_)
   ·refine seq_done ?_
    refine nrm_seq ?_
    refine tri_seq ?_
    refine tri_cond_t rfl ?_
    refine tri_skip ?_
    refine nrm_seq ?_
    refine tri_seq ?_
    refine tri_block ?_
    refine tri_seq ?_
    refine tri_region ?_
    refine seq_pure (pure_move rfl) rfl rfl ?_
    (obtain ⟨e, b, o, he, rfl, hl, _, hat, _⟩ := hsl.get (i := i) (by omega); refine seq_pure (pure_indexAddrN rfl rfl rfl (by omega)) rfl rfl ?_)
    refine seq_load (load_a rfl rfl (hat _) hl) rfl rfl ?_
    (refine seq_step (step_alloc rfl) rfl ?_; rintro _ ⟨b60, rfl⟩)
    refine seq_pure (pure_assign rfl) rfl rfl ?_
    refine seq_store rfl rfl rfl (by assumption) (by assumption) rfl (by repeat (first | exact Sw.here | apply Sw.there)) (by exact upd_all (by symm; assumption)) ?_
    refine seq_done ?_
    refine nrm_seq ?_
    refine tri_seq ?_
    refine tri_region ?_
    refine seq_pure (pure_move rfl) rfl rfl ?_
    refine seq_pure (pure_move rfl) rfl rfl ?_
    (obtain ⟨e', b', o', he', rfl, hl', _, hat', _⟩ := hsl'.get (i := i) (by omega); refine seq_pure (pure_indexAddrN rfl rfl rfl (by omega)) rfl rfl ?_)
    refine seq_load (load_a rfl rfl (hat' _) hl') rfl rfl ?_
    (refine seq_step (step_alloc rfl) rfl ?_; rintro _ ⟨b71, rfl⟩)
    refine seq_store rfl rfl rfl (by assumption) (by assumption) rfl (by repeat (first | exact Sw.here | apply Sw.there)) (by exact upd_all (by symm; assumption)) ?_
    refine seq_done ?_
    refine nrm_seq ?_
    refine tri_seq ?_
    refine tri_region ?_
    refine seq_pure (pure_move rfl) rfl rfl ?_
    refine seq_load (load_a rfl rfl (at_blk_all (by repeat (first | exact List.Mem.head _ | apply List.Mem.tail))) (by assumption)) rfl rfl ?_
    refine seq_load (load_a rfl rfl (at_blk_all (by repeat (first | exact List.Mem.head _ | apply List.Mem.tail))) (by assumption)) rfl rfl ?_
    refine seq_vvalbo rfl rfl (hq i e e' he he') perm_two rfl rfl (fun h80 => ?_) (fun h80 => ?_)
    ·refine seq_pure (pure_not_t rfl) rfl rfl ?_
     refine seq_done ?_
     refine nrm_seq ?_
     refine tri_cond_f rfl ?_
     refine tri_skip ?_
     refine nrm_block ?_
     refine nrm_seq ?_
     refine tri_region ?_
     refine seq_pure (pure_add rfl rfl (by omega) (by omega)) rfl rfl ?_
     refine seq_pure (pure_move rfl) rfl rfl ?_
     refine seq_done ?_
     refine nrm_loopN (i + 1) ?_ ?_ ?_
     ·exact sub_mk (by repeat (first | exact SubE.nil | refine SubE.cons rfl ?_)) (by repeat (first | exact SubH.refl | exact SubH.nil | refine SubH.cons (by repeat (first | exact Pk.here | apply Pk.there)) ?_ | apply SubH.drop))
     ·exact ⟨by omega, fun j hj => by by_cases hji : j = i; (subst hji; assumption); exact hf j (by omega)⟩
     ·omega
    ·refine seq_pure (pure_not_f rfl) rfl rfl ?_
     refine seq_done ?_
     refine nrm_seq ?_
     refine tri_cond_t rfl ?_
     refine tri_seq ?_
     refine tri_region ?_
     refine seq_pure (pure_assign rfl) rfl rfl ?_
     refine seq_done ?_
     refine nrm_seq ?_
     refine tri_ret ?_
     refine ret_block ?_
     refine ret_seq ?_
     refine ret_loopN ?_
     refine ret_block ?_
     refine ret_seq ?_
     refine ret_own1 (outs := ins) (res_tmp rfl) (by first | exact SubH.refl | exact SubH.drop (SubH.drop SubH.refl)) ?_
     exact ⟨rfl, by (cases A with | false => rfl | true => have h0 := (hA.1 rfl).2 i (by omega); simp_all), rfl⟩
   ·refine seq_done ?_
    refine nrm_seq ?_
    refine tri_seq ?_
    refine tri_cond_f rfl ?_
    refine tri_exit ?_
    refine ext_seq ?_
    refine ext_loopN ?_
    refine ext_block_eq ?_
    refine nrm_seq ?_
    refine tri_seq ?_
    refine tri_region ?_
    refine seq_pure (pure_assign rfl) rfl rfl ?_
    refine seq_done ?_
    refine nrm_seq ?_
    refine tri_ret ?_
    refine ret_own1 (outs := ins) (res_tmp rfl) (by first | exact SubH.refl | exact SubH.drop (SubH.drop SubH.refl)) ?_
    exact ⟨rfl, by rw [hA.2 ⟨by omega, fun j hj => hf j (by omega)⟩], rfl⟩
set_option maxRecDepth 100000 in
theorem within_fn (n lo hi : Int) (G : IM) : Fn Try.prog 45 [.int .i64 n, .int .i64 lo, .int .i64 hi] [] G (Val (.bool (withinB n lo hi)) G) := by
 refine fn_enter Try.func45 rfl Try.ntmps45 Try.results45 rfl ?_
 intro w0
 refine tri_seq ?_
 refine tri_region ?_
 refine seq_pure (pure_assign rfl) rfl rfl ?_
 refine seq_done ?_
 refine nrm_seq ?_
 refine tri_seq ?_
 refine tri_region ?_
 refine seq_pure (pure_move rfl) rfl rfl ?_
 refine seq_pure (pure_move rfl) rfl rfl ?_
 refine seq_bool (pure_leq rfl rfl) rfl rfl (fun h10 => ?_) (fun h10 => ?_)
 ·refine seq_pure (pure_move rfl) rfl rfl ?_
  refine seq_pure (pure_move rfl) rfl rfl ?_
  refine seq_pure (pure_move rfl) rfl rfl ?_
  refine seq_bool (pure_leq rfl rfl) rfl rfl (fun h14 => ?_) (fun h14 => ?_)
  ·refine seq_pure (pure_pick_t rfl rfl) rfl rfl ?_
   refine seq_pure (pure_assign rfl) rfl rfl ?_
   refine seq_done ?_
   refine nrm_seq ?_
   refine tri_ret ?_
   refine ret_fin1 (res_tmp rfl) ?_
   exact ⟨rfl, by simp [withinB]; omega, rfl⟩
  ·refine seq_pure (pure_pick_t rfl rfl) rfl rfl ?_
   refine seq_pure (pure_assign rfl) rfl rfl ?_
   refine seq_done ?_
   refine nrm_seq ?_
   refine tri_ret ?_
   refine ret_fin1 (res_tmp rfl) ?_
   exact ⟨rfl, by simp [withinB]; omega, rfl⟩
 ·refine seq_pure (pure_move rfl) rfl rfl ?_
  refine seq_skip rfl rfl ?_
  refine seq_skip rfl rfl ?_
  refine seq_skip rfl rfl ?_
  refine seq_pure (pure_pick_f rfl rfl) rfl rfl ?_
  refine seq_pure (pure_assign rfl) rfl rfl ?_
  refine seq_done ?_
  refine nrm_seq ?_
  refine tri_ret ?_
  refine ret_fin1 (res_tmp rfl) ?_
  exact ⟨rfl, by simp [withinB]; omega, rfl⟩
set_option maxRecDepth 100000 in
theorem isLabel_fn (n : Int) (G : IM) : Fn Try.prog 70 [.int .i64 n] [] G (Val (.bool (labelOk n)) G) := by
 refine fn_enter Try.func70 rfl Try.ntmps70 Try.results70 rfl ?_
 intro w0
 refine tri_seq ?_
 refine tri_region ?_
 refine seq_pure (pure_assign rfl) rfl rfl ?_
 refine seq_done ?_
 refine nrm_seq ?_
 refine tri_seq ?_
 refine tri_region ?_
 refine seq_pure (pure_move rfl) rfl rfl ?_
 refine seq_valb rfl (within_fn _ _ _ _) rfl rfl (fun h9 => ?_) (fun h9 => ?_)
 ·refine seq_pure (pure_move rfl) rfl rfl ?_
  refine seq_skip rfl rfl ?_
  refine seq_skip rfl rfl ?_
  refine seq_pure (pure_pick_t rfl rfl) rfl rfl ?_
  refine seq_pure (pure_assign rfl) rfl rfl ?_
  refine seq_done ?_
  refine nrm_seq ?_
  refine tri_ret ?_
  refine ret_fin1 (res_tmp rfl) ?_
  exact ⟨rfl, by simp [labelOk, *], rfl⟩
 ·refine seq_pure (pure_move rfl) rfl rfl ?_
  refine seq_pure (pure_move rfl) rfl rfl ?_
  refine seq_valb rfl (within_fn _ _ _ _) rfl rfl (fun h22 => ?_) (fun h22 => ?_)
  ·refine seq_pure (pure_pick_f rfl rfl) rfl rfl ?_
   refine seq_pure (pure_assign rfl) rfl rfl ?_
   refine seq_done ?_
   refine nrm_seq ?_
   refine tri_ret ?_
   refine ret_fin1 (res_tmp rfl) ?_
   exact ⟨rfl, by simp [labelOk, *], rfl⟩
  ·refine seq_pure (pure_pick_f rfl rfl) rfl rfl ?_
   refine seq_pure (pure_assign rfl) rfl rfl ?_
   refine seq_done ?_
   refine nrm_seq ?_
   refine tri_ret ?_
   refine ret_fin1 (res_tmp rfl) ?_
   exact ⟨rfl, by simp [labelOk, *], rfl⟩
set_option maxRecDepth 100000 in
theorem isNoType_fn (t : Ty) (G : IM) (cells : List Value) (hr : RTy G t cells) : Fn Try.prog 68 [.agg ⟨cells⟩] [] G (Val (.bool (tNone t)) G) := by
 obtain ⟨p, c, es, rfl, hk, hsl, hkl⟩ := hr.open
 refine fn_enter Try.func68 rfl Try.ntmps68 Try.results68 rfl ?_
 intro w0
 refine tri_seq ?_
 refine tri_region ?_
 (refine seq_step (step_box_a rfl rfl) rfl ?_; rintro _ ⟨b3, rfl⟩)
 refine seq_pure (pure_assign rfl) rfl rfl ?_
 refine seq_done ?_
 refine nrm_seq ?_
 refine tri_seq ?_
 refine tri_region ?_
 refine seq_pure (pure_fieldAddr0 rfl) rfl rfl ?_
 refine seq_load (load_bs rfl rfl (by repeat (first | exact List.Mem.head _ | apply List.Mem.tail)) (by rfl)) rfl rfl ?_
 refine seq_bool (pure_eql rfl rfl) rfl rfl (fun h11 => ?_) (fun h11 => ?_)
 ·refine seq_pure (pure_move rfl) rfl rfl ?_
  refine seq_pure (pure_fieldAddr0 rfl) rfl rfl ?_
  refine seq_load (load_bs rfl rfl (by repeat (first | exact List.Mem.head _ | apply List.Mem.tail)) (by rfl)) rfl rfl ?_
  refine seq_pure (pure_len rfl rfl) rfl rfl ?_
  refine seq_bool (pure_eql rfl rfl) rfl rfl (fun h16 => ?_) (fun h16 => ?_)
  ·refine seq_pure (pure_pick_t rfl rfl) rfl rfl ?_
   refine seq_pure (pure_assign rfl) rfl rfl ?_
   refine seq_done ?_
   refine nrm_seq ?_
   refine tri_ret ?_
   refine ret_fin1 (res_tmp rfl) ?_
   exact ⟨rfl, by simp only [tNone]; (first | rw [decide_eq_true (by omega)] | rw [decide_eq_false (by omega)]), rfl⟩
  ·refine seq_pure (pure_pick_t rfl rfl) rfl rfl ?_
   refine seq_pure (pure_assign rfl) rfl rfl ?_
   refine seq_done ?_
   refine nrm_seq ?_
   refine tri_ret ?_
   refine ret_fin1 (res_tmp rfl) ?_
   exact ⟨rfl, by simp only [tNone]; (first | rw [decide_eq_true (by omega)] | rw [decide_eq_false (by omega)]), rfl⟩
 ·refine seq_pure (pure_move rfl) rfl rfl ?_
  refine seq_skip rfl rfl ?_
  refine seq_skip rfl rfl ?_
  refine seq_skip rfl rfl ?_
  refine seq_skip rfl rfl ?_
  refine seq_pure (pure_pick_f rfl rfl) rfl rfl ?_
  refine seq_pure (pure_assign rfl) rfl rfl ?_
  refine seq_done ?_
  refine nrm_seq ?_
  refine tri_ret ?_
  refine ret_fin1 (res_tmp rfl) ?_
  exact ⟨rfl, by simp only [tNone]; (first | rw [decide_eq_true (by omega)] | rw [decide_eq_false (by omega)]), rfl⟩
set_option maxRecDepth 100000 in
theorem isName_fn (s : ByteArray) (G : IM) : Fn Try.prog 66 [.string s] [] G (Val (.bool (nameOk s)) G) := by
 refine fn_enter Try.func66 rfl Try.ntmps66 Try.results66 rfl ?_
 intro w0
 refine tri_seq ?_
 refine tri_region ?_
 refine seq_pure (pure_assign rfl) rfl rfl ?_
 refine seq_done ?_
 refine nrm_seq ?_
 refine tri_seq ?_
 refine tri_region ?_
 refine seq_pure (pure_move rfl) rfl rfl ?_
 refine seq_pure (pure_len_str rfl rfl) rfl rfl ?_
 refine seq_bool (pure_eql rfl rfl) rfl rfl (fun h10 => ?_) (fun h10 => ?_)
 ·refine seq_pure (pure_move rfl) rfl rfl ?_
  refine seq_pure (pure_move rfl) rfl rfl ?_
  refine seq_pure (pure_sindex rfl rfl rfl (by omega) (ba_get (by omega))) rfl rfl ?_
  refine seq_bool (pure_geq rfl rfl) rfl rfl (fun h14 => ?_) (fun h14 => ?_)
  ·refine seq_pure (pure_pick_t rfl rfl) rfl rfl ?_
   refine seq_pure (pure_move rfl) rfl rfl ?_
   refine seq_pure (pure_move rfl) rfl rfl ?_
   refine seq_pure (pure_sindex rfl rfl rfl (by omega) (ba_get (by omega))) rfl rfl ?_
   refine seq_bool (pure_leq rfl rfl) rfl rfl (fun h19 => ?_) (fun h19 => ?_)
   ·refine seq_pure (pure_pick_t rfl rfl) rfl rfl ?_
    refine seq_pure (pure_assign rfl) rfl rfl ?_
    refine seq_done ?_
    refine nrm_seq ?_
    refine tri_ret ?_
    refine ret_fin1 (res_tmp rfl) ?_
    exact ⟨rfl, by simp only [nameOk]; (try simp only [Int.toNat_zero] at *); (first | rw [decide_eq_true (by omega)] | rw [decide_eq_false (by omega)]), rfl⟩
   ·refine seq_pure (pure_pick_t rfl rfl) rfl rfl ?_
    refine seq_pure (pure_assign rfl) rfl rfl ?_
    refine seq_done ?_
    refine nrm_seq ?_
    refine tri_ret ?_
    refine ret_fin1 (res_tmp rfl) ?_
    exact ⟨rfl, by simp only [nameOk]; (try simp only [Int.toNat_zero] at *); (first | rw [decide_eq_true (by omega)] | rw [decide_eq_false (by omega)]), rfl⟩
  ·refine seq_pure (pure_pick_t rfl rfl) rfl rfl ?_
   refine seq_pure (pure_move rfl) rfl rfl ?_
   refine seq_skip rfl rfl ?_
   refine seq_skip rfl rfl ?_
   refine seq_skip rfl rfl ?_
   refine seq_pure (pure_pick_f rfl rfl) rfl rfl ?_
   refine seq_pure (pure_assign rfl) rfl rfl ?_
   refine seq_done ?_
   refine nrm_seq ?_
   refine tri_ret ?_
   refine ret_fin1 (res_tmp rfl) ?_
   exact ⟨rfl, by simp only [nameOk]; (try simp only [Int.toNat_zero] at *); (first | rw [decide_eq_true (by omega)] | rw [decide_eq_false (by omega)]), rfl⟩
 ·refine seq_pure (pure_move rfl) rfl rfl ?_
  refine seq_skip rfl rfl ?_
  refine seq_skip rfl rfl ?_
  refine seq_skip rfl rfl ?_
  refine seq_pure (pure_pick_f rfl rfl) rfl rfl ?_
  refine seq_pure (pure_move rfl) rfl rfl ?_
  refine seq_skip rfl rfl ?_
  refine seq_skip rfl rfl ?_
  refine seq_skip rfl rfl ?_
  refine seq_pure (pure_pick_f rfl rfl) rfl rfl ?_
  refine seq_pure (pure_assign rfl) rfl rfl ?_
  refine seq_done ?_
  refine nrm_seq ?_
  refine tri_ret ?_
  refine ret_fin1 (res_tmp rfl) ?_
  exact ⟨rfl, by simp only [nameOk]; (try simp only [Int.toNat_zero] at *); (first | rw [decide_eq_true (by omega)] | rw [decide_eq_false (by omega)]), rfl⟩
end Gw
end Go.Proofs.Yteneckdjdfnjoaa
namespace Go.Proofs.Yteneckdjdfnjoaa
open Go Go.RowKit
namespace Gw
set_option maxRecDepth 100000 in
theorem typeScan_1 (G : IM) (e : List Value) (d : Int) (b : Bool) (bd : Nat) (hl : e.length = 2) (hd : 0 ≤ d ∧ d ≤ 5) (h : Fn Try.prog 84 [.agg ⟨e⟩, .int .i64 (d + 1)] [] G (Val (.bool b) G)) :
  Fn Try.prog 100 [.agg ⟨e⟩, .pointer (some ⟨bd, 0, none⟩)] [.blk bd [.int .i64 d]] G (ValO (.bool (!b)) [.blk bd [.int .i64 d]] G) := by
 refine fn_enter Try.func100 rfl Try.ntmps100 Try.results100 rfl ?_
 intro w0
 refine tri_seq ?_
 refine tri_region ?_
 (refine seq_step (step_box_a rfl rfl) rfl ?_; rintro _ ⟨b3, rfl⟩)
 refine seq_pure (pure_assign rfl) rfl rfl ?_
 refine seq_done ?_
 refine nrm_seq ?_
 refine tri_seq ?_
 refine tri_region ?_
 refine seq_load (load_a rfl rfl (at_blk_all (by repeat (first | exact List.Mem.head _ | apply List.Mem.tail))) (by assumption)) rfl rfl ?_
 refine seq_load (load_bs rfl rfl (by repeat (first | exact List.Mem.head _ | apply List.Mem.tail)) (by rfl)) rfl rfl ?_
 refine seq_pure (pure_add rfl rfl (by omega) (by omega)) rfl rfl ?_
 refine seq_valb rfl (h) rfl rfl (fun h12 => ?_) (fun h12 => ?_)
 ·refine seq_pure (pure_not_t rfl) rfl rfl ?_
  refine seq_pure (pure_assign rfl) rfl rfl ?_
  refine seq_done ?_
  refine nrm_seq ?_
  refine tri_ret ?_
  refine ret_own1 (res_tmp rfl) (SubH.cons (Pk.there Pk.here) SubH.nil) ?_
  exact ⟨rfl, by simp [*], rfl⟩
 ·refine seq_pure (pure_not_f rfl) rfl rfl ?_
  refine seq_pure (pure_assign rfl) rfl rfl ?_
  refine seq_done ?_
  refine nrm_seq ?_
  refine tri_ret ?_
  refine ret_own1 (res_tmp rfl) (SubH.cons (Pk.there Pk.here) SubH.nil) ?_
  exact ⟨rfl, by simp [*], rfl⟩
set_option maxRecDepth 100000 in
theorem typeScan_fn : ∀ (t : Ty) (d : Int) (G : IM) (cells : List Value), 0 ≤ d ∧ d ≤ 5 → RTy G t cells →
  Fn Try.prog 84 [.agg ⟨cells⟩, .int .i64 d] [] G (Val (.bool (tScan t d)) G) := by
 refine Ty.ind fun k ks ih d G cells hd hr => ?_
 obtain ⟨p, c, es, rfl, hk, hsl, hkl⟩ := hr.open
 simp only [Ty.k, Ty.ks] at hk hsl hkl ⊢
 have hn := hsl.le
 obtain ⟨A, hA⟩ : ∃ A, ks.all (tScan · (d + 1)) = A := ⟨_, rfl⟩
 refine fn_enter Try.func84 rfl Try.ntmps84 Try.results84 rfl ?_
 intro w0
 refine tri_seq ?_
 refine tri_region ?_
 (refine seq_step (step_box_a rfl rfl) rfl ?_; rintro _ ⟨b3, rfl⟩)
 (refine seq_step (step_box_s rfl rfl rfl) rfl ?_; rintro _ ⟨b4, rfl⟩)
 refine seq_pure (pure_assign rfl) rfl rfl ?_
 refine seq_done ?_
 refine nrm_seq ?_
 refine tri_seq ?_
 refine tri_region ?_
 refine seq_pure (pure_assign rfl) rfl rfl ?_
 refine seq_done ?_
 refine nrm_seq ?_
 refine tri_seq ?_
 refine tri_seq ?_
 refine tri_region ?_
 refine seq_pure (pure_fieldAddr0 rfl) rfl rfl ?_
 refine seq_load (load_bs rfl rfl (by repeat (first | exact List.Mem.head _ | apply List.Mem.tail)) (by rfl)) rfl rfl ?_
 refine seq_done ?_
 refine nrm_seq ?_
 refine tri_block ?_
 refine tri_seq ?_
 refine tri_seq ?_
 refine tri_region ?_
 refine seq_bool (pure_eql rfl rfl) rfl rfl (fun h24 => ?_) (fun h24 => ?_)
 ·refine seq_pure (pure_assign rfl) rfl rfl ?_
  refine seq_done ?_
  refine nrm_seq ?_
  refine tri_cond_t rfl ?_
  refine tri_skip ?_
  refine nrm_seq ?_
  refine tri_cond_t rfl ?_
  refine tri_region ?_
  refine seq_pure (pure_assign rfl) rfl rfl ?_
  refine seq_done ?_
  refine nrm_block ?_
  refine nrm_seq ?_
  refine tri_seq ?_
  refine tri_region ?_
  refine seq_load (load_bs rfl rfl (by repeat (first | exact List.Mem.head _ | apply List.Mem.tail)) (by rfl)) rfl rfl ?_
  refine seq_bool (pure_leq rfl rfl) rfl rfl (fun h40 => ?_) (fun h40 => ?_)
  ·refine seq_pure (pure_move rfl) rfl rfl ?_
   refine seq_pure (pure_move rfl) rfl rfl ?_
   refine seq_pure (pure_fieldAddr0 rfl) rfl rfl ?_
   refine seq_load (load_bs rfl rfl (by repeat (first | exact List.Mem.head _ | apply List.Mem.tail)) (by rfl)) rfl rfl ?_
   refine seq_pure (pure_len rfl rfl) rfl rfl ?_
   refine seq_bool (pure_eql rfl rfl) rfl rfl (fun h46 => ?_) (fun h46 => ?_)
   ·refine seq_pure (pure_pick_t rfl rfl) rfl rfl ?_
    refine seq_pure (pure_move rfl) rfl rfl ?_
    refine seq_pure (pure_fieldAddr0 rfl) rfl rfl ?_
    refine seq_load (load_bs rfl rfl (by repeat (first | exact List.Mem.head _ | apply List.Mem.tail)) (by rfl)) rfl rfl ?_
    refine seq_pure (pure_makeFunc rfl rfl) rfl rfl ?_
    refine seq_valbo rfl (containsNot_Type _ _ _ _ _ hsl _ [] _ [.blk b4 [.int .i64 d]] (tScan · (d + 1)) ks rfl hA (fun i e he => typeScan_1 _ _ _ _ _ (hsl.all e (List.mem_of_getElem? he)) hd (ih _ (hkl.inv he ty0).1 _ _ _ (by omega) (hkl.inv he ty0).2))) perm_all rfl rfl (fun h52 => ?_) (fun h52 => ?_)
    ·simp only [Bool.not_eq_true', Bool.not_eq_false'] at h52
     refine seq_pure (pure_not_t rfl) rfl rfl ?_
     refine seq_pure (pure_pick_t rfl rfl) rfl rfl ?_
     refine seq_pure (pure_assign rfl) rfl rfl ?_
     refine seq_done ?_
     refine nrm_seq ?_
     refine tri_ret ?_
     refine ret_fin1 (res_tmp rfl) ?_
     exact ⟨rfl, by (rw [tScan, tScanL_all, hA]; have := tyOps_spec k; first | (rw [decide_eq_true (by omega), decide_eq_true (by omega)]; simp only [*]; done) | (rw [decide_eq_true (by omega), decide_eq_true (by omega)]; simp only [*]; rfl) | (rw [decide_eq_false (by omega)]; rfl) | (rw [decide_eq_true (by omega), decide_eq_false (by omega)]; rfl)), rfl⟩
    ·simp only [Bool.not_eq_true', Bool.not_eq_false'] at h52
     refine seq_pure (pure_not_f rfl) rfl rfl ?_
     refine seq_pure (pure_pick_t rfl rfl) rfl rfl ?_
     refine seq_pure (pure_assign rfl) rfl rfl ?_
     refine seq_done ?_
     refine nrm_seq ?_
     refine tri_ret ?_
     refine ret_fin1 (res_tmp rfl) ?_
     exact ⟨rfl, by (rw [tScan, tScanL_all, hA]; have := tyOps_spec k; first | (rw [decide_eq_true (by omega), decide_eq_true (by omega)]; simp only [*]; done) | (rw [decide_eq_true (by omega), decide_eq_true (by omega)]; simp only [*]; rfl) | (rw [decide_eq_false (by omega)]; rfl) | (rw [decide_eq_true (by omega), decide_eq_false (by omega)]; rfl)), rfl⟩
   ·refine seq_pure (pure_pick_t rfl rfl) rfl rfl ?_
    refine seq_pure (pure_move rfl) rfl rfl ?_
    refine seq_skip rfl rfl ?_
    refine seq_skip rfl rfl ?_
    refine seq_skip rfl rfl ?_
    refine seq_skip rfl rfl ?_
    refine seq_skip rfl rfl ?_
    refine seq_pure (pure_pick_f rfl rfl) rfl rfl ?_
    refine seq_pure (pure_assign rfl) rfl rfl ?_
    refine seq_done ?_
    refine nrm_seq ?_
    refine tri_ret ?_
    refine ret_fin1 (res_tmp rfl) ?_
    exact ⟨rfl, by (rw [tScan, tScanL_all, hA]; have := tyOps_spec k; first | (rw [decide_eq_true (by omega), decide_eq_true (by omega)]; simp only [*]; done) | (rw [decide_eq_true (by omega), decide_eq_true (by omega)]; simp only [*]; rfl) | (rw [decide_eq_false (by omega)]; rfl) | (rw [decide_eq_true (by omega), decide_eq_false (by omega)]; rfl)), rfl⟩
  ·refine seq_pure (pure_move rfl) rfl rfl ?_
   refine seq_skip rfl rfl ?_
   refine seq_skip rfl rfl ?_
   refine seq_skip rfl rfl ?_
   refine seq_skip rfl rfl ?_
   refine seq_skip rfl rfl ?_
   refine seq_pure (pure_pick_f rfl rfl) rfl rfl ?_
   refine seq_pure (pure_move rfl) rfl rfl ?_
   refine seq_skip rfl rfl ?_
   refine seq_skip rfl rfl ?_
   refine seq_skip rfl rfl ?_
   refine seq_skip rfl rfl ?_
   refine seq_skip rfl rfl ?_
   refine seq_pure (pure_pick_f rfl rfl) rfl rfl ?_
   refine seq_pure (pure_assign rfl) rfl rfl ?_
   refine seq_done ?_
   refine nrm_seq ?_
   refine tri_ret ?_
   refine ret_fin1 (res_tmp rfl) ?_
   exact ⟨rfl, by (rw [tScan, tScanL_all, hA]; have := tyOps_spec k; first | (rw [decide_eq_true (by omega), decide_eq_true (by omega)]; simp only [*]; done) | (rw [decide_eq_true (by omega), decide_eq_true (by omega)]; simp only [*]; rfl) | (rw [decide_eq_false (by omega)]; rfl) | (rw [decide_eq_true (by omega), decide_eq_false (by omega)]; rfl)), rfl⟩
 ·refine seq_pure (pure_assign rfl) rfl rfl ?_
  refine seq_done ?_
  refine nrm_seq ?_
  refine tri_cond_f rfl ?_
  refine tri_seq ?_
  refine tri_region ?_
  refine seq_bool (pure_eql rfl rfl) rfl rfl (fun h109 => ?_) (fun h109 => ?_)
  ·refine seq_pure (pure_assign rfl) rfl rfl ?_
   refine seq_done ?_
   refine nrm_seq ?_
   refine tri_cond_t rfl ?_
   refine tri_skip ?_
   refine nrm_seq ?_
   refine tri_cond_t rfl ?_
   refine tri_region ?_
   refine seq_pure (pure_assign rfl) rfl rfl ?_
   refine seq_done ?_
   refine nrm_block ?_
   refine nrm_seq ?_
   refine tri_seq ?_
   refine tri_region ?_
   refine seq_load (load_bs rfl rfl (by repeat (first | exact List.Mem.head _ | apply List.Mem.tail)) (by rfl)) rfl rfl ?_
   refine seq_bool (pure_leq rfl rfl) rfl rfl (fun h125 => ?_) (fun h125 => ?_)
   ·refine seq_pure (pure_move rfl) rfl rfl ?_
    refine seq_pure (pure_move rfl) rfl rfl ?_
    refine seq_pure (pure_fieldAddr0 rfl) rfl rfl ?_
    refine seq_load (load_bs rfl rfl (by repeat (first | exact List.Mem.head _ | apply List.Mem.tail)) (by rfl)) rfl rfl ?_
    refine seq_pure (pure_len rfl rfl) rfl rfl ?_
    refine seq_bool (pure_eql rfl rfl) rfl rfl (fun h131 => ?_) (fun h131 => ?_)
    ·refine seq_pure (pure_pick_t rfl rfl) rfl rfl ?_
     refine seq_pure (pure_move rfl) rfl rfl ?_
     refine seq_pure (pure_fieldAddr0 rfl) rfl rfl ?_
     refine seq_load (load_bs rfl rfl (by repeat (first | exact List.Mem.head _ | apply List.Mem.tail)) (by rfl)) rfl rfl ?_
     refine seq_pure (pure_makeFunc rfl rfl) rfl rfl ?_
     refine seq_valbo rfl (containsNot_Type _ _ _ _ _ hsl _ [] _ [.blk b4 [.int .i64 d]] (tScan · (d + 1)) ks rfl hA (fun i e he => typeScan_1 _ _ _ _ _ (hsl.all e (List.mem_of_getElem? he)) hd (ih _ (hkl.inv he ty0).1 _ _ _ (by omega) (hkl.inv he ty0).2))) perm_all rfl rfl (fun h137 => ?_) (fun h137 => ?_)
     ·simp only [Bool.not_eq_true', Bool.not_eq_false'] at h137
      refine seq_pure (pure_not_t rfl) rfl rfl ?_
      refine seq_pure (pure_pick_t rfl rfl) rfl rfl ?_
      refine seq_pure (pure_assign rfl) rfl rfl ?_
      refine seq_done ?_
      refine nrm_seq ?_
      refine tri_ret ?_
      refine ret_fin1 (res_tmp rfl) ?_
      exact ⟨rfl, by (rw [tScan, tScanL_all, hA]; have := tyOps_spec k; first | (rw [decide_eq_true (by omega), decide_eq_true (by omega)]; simp only [*]; done) | (rw [decide_eq_true (by omega), decide_eq_true (by omega)]; simp only [*]; rfl) | (rw [decide_eq_false (by omega)]; rfl) | (rw [decide_eq_true (by omega), decide_eq_false (by omega)]; rfl)), rfl⟩
     ·simp only [Bool.not_eq_true', Bool.not_eq_false'] at h137
      refine seq_pure (pure_not_f rfl) rfl rfl ?_
      refine seq_pure (pure_pick_t rfl rfl) rfl rfl ?_
      refine seq_pure (pure_assign rfl) rfl rfl ?_
      refine seq_done ?_
      refine nrm_seq ?_
      refine tri_ret ?_
      refine ret_fin1 (res_tmp rfl) ?_
      exact ⟨rfl, by (rw [tScan, tScanL_all, hA]; have := tyOps_spec k; first | (rw [decide_eq_true (by omega), decide_eq_true (by omega)]; simp only [*]; done) | (rw [decide_eq_true (by omega), decide_eq_true (by omega)]; simp only [*]; rfl) | (rw [decide_eq_false (by omega)]; rfl) | (rw [decide_eq_true (by omega), decide_eq_false (by omega)]; rfl)), rfl⟩
    ·refine seq_pure (pure_pick_t rfl rfl) rfl rfl ?_
     refine seq_pure (pure_move rfl) rfl rfl ?_
     refine seq_skip rfl rfl ?_
     refine seq_skip rfl rfl ?_
     refine seq_skip rfl rfl ?_
     refine seq_skip rfl rfl ?_
     refine seq_skip rfl rfl ?_
     refine seq_pure (pure_pick_f rfl rfl) rfl rfl ?_
     refine seq_pure (pure_assign rfl) rfl rfl ?_
     refine seq_done ?_
     refine nrm_seq ?_
     refine tri_ret ?_
     refine ret_fin1 (res_tmp rfl) ?_
     exact ⟨rfl, by (rw [tScan, tScanL_all, hA]; have := tyOps_spec k; first | (rw [decide_eq_true (by omega), decide_eq_true (by omega)]; simp only [*]; done) | (rw [decide_eq_true (by omega), decide_eq_true (by omega)]; simp only [*]; rfl) | (rw [decide_eq_false (by omega)]; rfl) | (rw [decide_eq_true (by omega), decide_eq_false (by omega)]; rfl)), rfl⟩
   ·refine seq_pure (pure_move rfl) rfl rfl ?_
    refine seq_skip rfl rfl ?_
    refine seq_skip rfl rfl ?_
    refine seq_skip rfl rfl ?_
    refine seq_skip rfl rfl ?_
    refine seq_skip rfl rfl ?_
    refine seq_pure (pure_pick_f rfl rfl) rfl rfl ?_
    refine seq_pure (pure_move rfl) rfl rfl ?_
    refine seq_skip rfl rfl ?_
    refine seq_skip rfl rfl ?_
    refine seq_skip rfl rfl ?_
    refine seq_skip rfl rfl ?_
    refine seq_skip rfl rfl ?_
    refine seq_pure (pure_pick_f rfl rfl) rfl rfl ?_
    refine seq_pure (pure_assign rfl) rfl rfl ?_
    refine seq_done ?_
    refine nrm_seq ?_
    refine tri_ret ?_
    refine ret_fin1 (res_tmp rfl) ?_
    exact ⟨rfl, by (rw [tScan, tScanL_all, hA]; have := tyOps_spec k; first | (rw [decide_eq_true (by omega), decide_eq_true (by omega)]; simp only [*]; done) | (rw [decide_eq_true (by omega), decide_eq_true (by omega)]; simp only [*]; rfl) | (rw [decide_eq_false (by omega)]; rfl) | (rw [decide_eq_true (by omega), decide_eq_false (by omega)]; rfl)), rfl⟩
  ·refine seq_pure (pure_assign rfl) rfl rfl ?_
   refine seq_done ?_
   refine nrm_seq ?_
   refine tri_cond_f rfl ?_
   refine tri_region ?_
   refine seq_bool (pure_eql rfl rfl) rfl rfl (fun h193 => ?_) (fun h193 => ?_)
   ·refine seq_pure (pure_assign rfl) rfl rfl ?_
    refine seq_done ?_
    refine nrm_seq ?_
    refine tri_cond_t rfl ?_
    refine tri_region ?_
    refine seq_pure (pure_assign rfl) rfl rfl ?_
    refine seq_done ?_
    refine nrm_block ?_
    refine nrm_seq ?_
    refine tri_seq ?_
    refine tri_region ?_
    refine seq_load (load_bs rfl rfl (by repeat (first | exact List.Mem.head _ | apply List.Mem.tail)) (by rfl)) rfl rfl ?_
    refine seq_bool (pure_leq rfl rfl) rfl rfl (fun h206 => ?_) (fun h206 => ?_)
    ·refine seq_pure (pure_move rfl) rfl rfl ?_
     refine seq_pure (pure_move rfl) rfl rfl ?_
     refine seq_pure (pure_fieldAddr0 rfl) rfl rfl ?_
     refine seq_load (load_bs rfl rfl (by repeat (first | exact List.Mem.head _ | apply List.Mem.tail)) (by rfl)) rfl rfl ?_
     refine seq_pure (pure_len rfl rfl) rfl rfl ?_
     refine seq_bool (pure_eql rfl rfl) rfl rfl (fun h212 => ?_) (fun h212 => ?_)
     ·refine seq_pure (pure_pick_t rfl rfl) rfl rfl ?_
      refine seq_pure (pure_move rfl) rfl rfl ?_
      refine seq_pure (pure_fieldAddr0 rfl) rfl rfl ?_
      refine seq_load (load_bs rfl rfl (by repeat (first | exact List.Mem.head _ | apply List.Mem.tail)) (by rfl)) rfl rfl ?_
      refine seq_pure (pure_makeFunc rfl rfl) rfl rfl ?_
      refine seq_valbo rfl (containsNot_Type _ _ _ _ _ hsl _ [] _ [.blk b4 [.int .i64 d]] (tScan · (d + 1)) ks rfl hA (fun i e he => typeScan_1 _ _ _ _ _ (hsl.all e (List.mem_of_getElem? he)) hd (ih _ (hkl.inv he ty0).1 _ _ _ (by omega) (hkl.inv he ty0).2))) perm_all rfl rfl (fun h218 => ?_) (fun h218 => ?_)
      ·simp only [Bool.not_eq_true', Bool.not_eq_false'] at h218
       refine seq_pure (pure_not_t rfl) rfl rfl ?_
       refine seq_pure (pure_pick_t rfl rfl) rfl rfl ?_
       refine seq_pure (pure_assign rfl) rfl rfl ?_
       refine seq_done ?_
       refine nrm_seq ?_
       refine tri_ret ?_
       refine ret_fin1 (res_tmp rfl) ?_
       exact ⟨rfl, by (rw [tScan, tScanL_all, hA]; have := tyOps_spec k; first | (rw [decide_eq_true (by omega), decide_eq_true (by omega)]; simp only [*]; done) | (rw [decide_eq_true (by omega), decide_eq_true (by omega)]; simp only [*]; rfl) | (rw [decide_eq_false (by omega)]; rfl) | (rw [decide_eq_true (by omega), decide_eq_false (by omega)]; rfl)), rfl⟩
      ·simp only [Bool.not_eq_true', Bool.not_eq_false'] at h218
       refine seq_pure (pure_not_f rfl) rfl rfl ?_
       refine seq_pure (pure_pick_t rfl rfl) rfl rfl ?_
       refine seq_pure (pure_assign rfl) rfl rfl ?_
       refine seq_done ?_
       refine nrm_seq ?_
       refine tri_ret ?_
       refine ret_fin1 (res_tmp rfl) ?_
       exact ⟨rfl, by (rw [tScan, tScanL_all, hA]; have := tyOps_spec k; first | (rw [decide_eq_true (by omega), decide_eq_true (by omega)]; simp only [*]; done) | (rw [decide_eq_true (by omega), decide_eq_true (by omega)]; simp only [*]; rfl) | (rw [decide_eq_false (by omega)]; rfl) | (rw [decide_eq_true (by omega), decide_eq_false (by omega)]; rfl)), rfl⟩
     ·refine seq_pure (pure_pick_t rfl rfl) rfl rfl ?_
      refine seq_pure (pure_move rfl) rfl rfl ?_
      refine seq_skip rfl rfl ?_
      refine seq_skip rfl rfl ?_
      refine seq_skip rfl rfl ?_
      refine seq_skip rfl rfl ?_
      refine seq_skip rfl rfl ?_
      refine seq_pure (pure_pick_f rfl rfl) rfl rfl ?_
      refine seq_pure (pure_assign rfl) rfl rfl ?_
      refine seq_done ?_
      refine nrm_seq ?_
      refine tri_ret ?_
      refine ret_fin1 (res_tmp rfl) ?_
      exact ⟨rfl, by (rw [tScan, tScanL_all, hA]; have := tyOps_spec k; first | (rw [decide_eq_true (by omega), decide_eq_true (by omega)]; simp only [*]; done) | (rw [decide_eq_true (by omega), decide_eq_true (by omega)]; simp only [*]; rfl) | (rw [decide_eq_false (by omega)]; rfl) | (rw [decide_eq_true (by omega), decide_eq_false (by omega)]; rfl)), rfl⟩
    ·refine seq_pure (pure_move rfl) rfl rfl ?_
     refine seq_skip rfl rfl ?_
     refine seq_skip rfl rfl ?_
     refine seq_skip rfl rfl ?_
     refine seq_skip rfl rfl ?_
     refine seq_skip rfl rfl ?_
     refine seq_pure (pure_pick_f rfl rfl) rfl rfl ?_
     refine seq_pure (pure_move rfl) rfl rfl ?_
     refine seq_skip rfl rfl ?_
     refine seq_skip rfl rfl ?_
     refine seq_skip rfl rfl ?_
     refine seq_skip rfl rfl ?_
     refine seq_skip rfl rfl ?_
     refine seq_pure (pure_pick_f rfl rfl) rfl rfl ?_
     refine seq_pure (pure_assign rfl) rfl rfl ?_
     refine seq_done ?_
     refine nrm_seq ?_
     refine tri_ret ?_
     refine ret_fin1 (res_tmp rfl) ?_
     exact ⟨rfl, by (rw [tScan, tScanL_all, hA]; have := tyOps_spec k; first | (rw [decide_eq_true (by omega), decide_eq_true (by omega)]; simp only [*]; done) | (rw [decide_eq_true (by omega), decide_eq_true (by omega)]; simp only [*]; rfl) | (rw [decide_eq_false (by omega)]; rfl) | (rw [decide_eq_true (by omega), decide_eq_false (by omega)]; rfl)), rfl⟩
   ·refine seq_pure (pure_assign rfl) rfl rfl ?_
    refine seq_done ?_
    refine nrm_seq ?_
    refine tri_cond_f rfl ?_
    refine tri_seq ?_
    refine tri_seq ?_
    refine tri_region ?_
    refine seq_bool (pure_eql rfl rfl) rfl rfl (fun h276 => ?_) (fun h276 => ?_)
    ·refine seq_pure (pure_assign rfl) rfl rfl ?_
     refine seq_done ?_
     refine nrm_seq ?_
     refine tri_cond_t rfl ?_
     refine tri_skip ?_
     refine nrm_seq ?_
     refine tri_cond_t rfl ?_
     refine tri_region ?_
     refine seq_pure (pure_assign rfl) rfl rfl ?_
     refine seq_done ?_
     refine nrm_block ?_
     refine nrm_seq ?_
     refine tri_seq ?_
     refine tri_region ?_
     refine seq_load (load_bs rfl rfl (by repeat (first | exact List.Mem.head _ | apply List.Mem.tail)) (by rfl)) rfl rfl ?_
     refine seq_bool (pure_leq rfl rfl) rfl rfl (fun h292 => ?_) (fun h292 => ?_)
     ·refine seq_pure (pure_move rfl) rfl rfl ?_
      refine seq_pure (pure_move rfl) rfl rfl ?_
      refine seq_pure (pure_fieldAddr0 rfl) rfl rfl ?_
      refine seq_load (load_bs rfl rfl (by repeat (first | exact List.Mem.head _ | apply List.Mem.tail)) (by rfl)) rfl rfl ?_
      refine seq_pure (pure_len rfl rfl) rfl rfl ?_
      refine seq_bool (pure_eql rfl rfl) rfl rfl (fun h298 => ?_) (fun h298 => ?_)
      ·refine seq_pure (pure_pick_t rfl rfl) rfl rfl ?_
       refine seq_pure (pure_move rfl) rfl rfl ?_
       refine seq_pure (pure_fieldAddr0 rfl) rfl rfl ?_
       refine seq_load (load_bs rfl rfl (by repeat (first | exact List.Mem.head _ | apply List.Mem.tail)) (by rfl)) rfl rfl ?_
       refine seq_pure (pure_makeFunc rfl rfl) rfl rfl ?_
       refine seq_valbo rfl (containsNot_Type _ _ _ _ _ hsl _ [] _ [.blk b4 [.int .i64 d]] (tScan · (d + 1)) ks rfl hA (fun i e he => typeScan_1 _ _ _ _ _ (hsl.all e (List.mem_of_getElem? he)) hd (ih _ (hkl.inv he ty0).1 _ _ _ (by omega) (hkl.inv he ty0).2))) perm_all rfl rfl (fun h304 => ?_) (fun h304 => ?_)
       ·simp only [Bool.not_eq_true', Bool.not_eq_false'] at h304
        refine seq_pure (pure_not_t rfl) rfl rfl ?_
        refine seq_pure (pure_pick_t rfl rfl) rfl rfl ?_
        refine seq_pure (pure_assign rfl) rfl rfl ?_
        refine seq_done ?_
        refine nrm_seq ?_
        refine tri_ret ?_
        refine ret_fin1 (res_tmp rfl) ?_
        exact ⟨rfl, by (rw [tScan, tScanL_all, hA]; have := tyOps_spec k; first | (rw [decide_eq_true (by omega), decide_eq_true (by omega)]; simp only [*]; done) | (rw [decide_eq_true (by omega), decide_eq_true (by omega)]; simp only [*]; rfl) | (rw [decide_eq_false (by omega)]; rfl) | (rw [decide_eq_true (by omega), decide_eq_false (by omega)]; rfl)), rfl⟩
       ·simp only [Bool.not_eq_true', Bool.not_eq_false'] at h304
        refine seq_pure (pure_not_f rfl) rfl rfl ?_
        refine seq_pure (pure_pick_t rfl rfl) rfl rfl ?_
        refine seq_pure (pure_assign rfl) rfl rfl ?_
        refine seq_done ?_
        refine nrm_seq ?_
        refine tri_ret ?_
        refine ret_fin1 (res_tmp rfl) ?_
        exact ⟨rfl, by (rw [tScan, tScanL_all, hA]; have := tyOps_spec k; first | (rw [decide_eq_true (by omega), decide_eq_true (by omega)]; simp only [*]; done) | (rw [decide_eq_true (by omega), decide_eq_true (by omega)]; simp only [*]; rfl) | (rw [decide_eq_false (by omega)]; rfl) | (rw [decide_eq_true (by omega), decide_eq_false (by omega)]; rfl)), rfl⟩
      ·refine seq_pure (pure_pick_t rfl rfl) rfl rfl ?_
       refine seq_pure (pure_move rfl) rfl rfl ?_
       refine seq_skip rfl rfl ?_
       refine seq_skip rfl rfl ?_
       refine seq_skip rfl rfl ?_
       refine seq_skip rfl rfl ?_
       refine seq_skip rfl rfl ?_
       refine seq_pure (pure_pick_f rfl rfl) rfl rfl ?_
       refine seq_pure (pure_assign rfl) rfl rfl ?_
       refine seq_done ?_
       refine nrm_seq ?_
       refine tri_ret ?_
       refine ret_fin1 (res_tmp rfl) ?_
       exact ⟨rfl, by (rw [tScan, tScanL_all, hA]; have := tyOps_spec k; first | (rw [decide_eq_true (by omega), decide_eq_true (by omega)]; simp only [*]; done) | (rw [decide_eq_true (by omega), decide_eq_true (by omega)]; simp only [*]; rfl) | (rw [decide_eq_false (by omega)]; rfl) | (rw [decide_eq_true (by omega), decide_eq_false (by omega)]; rfl)), rfl⟩
     ·refine seq_pure (pure_move rfl) rfl rfl ?_
      refine seq_skip rfl rfl ?_
      refine seq_skip rfl rfl ?_
      refine seq_skip rfl rfl ?_
      refine seq_skip rfl rfl ?_
      refine seq_skip rfl rfl ?_
      refine seq_pure (pure_pick_f rfl rfl) rfl rfl ?_
      refine seq_pure (pure_move rfl) rfl rfl ?_
      refine seq_skip rfl rfl ?_
      refine seq_skip rfl rfl ?_
      refine seq_skip rfl rfl ?_
      refine seq_skip rfl rfl ?_
      refine seq_skip rfl rfl ?_
      refine seq_pure (pure_pick_f rfl rfl) rfl rfl ?_
      refine seq_pure (pure_assign rfl) rfl rfl ?_
      refine seq_done ?_
      refine nrm_seq ?_
      refine tri_ret ?_
      refine ret_fin1 (res_tmp rfl) ?_
      exact ⟨rfl, by (rw [tScan, tScanL_all, hA]; have := tyOps_spec k; first | (rw [decide_eq_true (by omega), decide_eq_true (by omega)]; simp only [*]; done) | (rw [decide_eq_true (by omega), decide_eq_true (by omega)]; simp only [*]; rfl) | (rw [decide_eq_false (by omega)]; rfl) | (rw [decide_eq_true (by omega), decide_eq_false (by omega)]; rfl)), rfl⟩
    ·refine seq_pure (pure_assign rfl) rfl rfl ?_
     refine seq_done ?_
     refine nrm_seq ?_
     refine tri_cond_f rfl ?_
     refine tri_region ?_
     refine seq_bool (pure_eql rfl rfl) rfl rfl (fun h360 => ?_) (fun h360 => ?_)
     ·refine seq_pure (pure_assign rfl) rfl rfl ?_
      refine seq_done ?_
      refine nrm_seq ?_
      refine tri_cond_t rfl ?_
      refine tri_region ?_
      refine seq_pure (pure_assign rfl) rfl rfl ?_
      refine seq_done ?_
      refine nrm_block ?_
      refine nrm_seq ?_
      refine tri_seq ?_
      refine tri_region ?_
      refine seq_load (load_bs rfl rfl (by repeat (first | exact List.Mem.head _ | apply List.Mem.tail)) (by rfl)) rfl rfl ?_
      refine seq_bool (pure_leq rfl rfl) rfl rfl (fun h373 => ?_) (fun h373 => ?_)
      ·refine seq_pure (pure_move rfl) rfl rfl ?_
       refine seq_pure (pure_move rfl) rfl rfl ?_
       refine seq_pure (pure_fieldAddr0 rfl) rfl rfl ?_
       refine seq_load (load_bs rfl rfl (by repeat (first | exact List.Mem.head _ | apply List.Mem.tail)) (by rfl)) rfl rfl ?_
       refine seq_pure (pure_len rfl rfl) rfl rfl ?_
       refine seq_bool (pure_eql rfl rfl) rfl rfl (fun h379 => ?_) (fun h379 => ?_)
       ·refine seq_pure (pure_pick_t rfl rfl) rfl rfl ?_
        refine seq_pure (pure_move rfl) rfl rfl ?_
        refine seq_pure (pure_fieldAddr0 rfl) rfl rfl ?_
        refine seq_load (load_bs rfl rfl (by repeat (first | exact List.Mem.head _ | apply List.Mem.tail)) (by rfl)) rfl rfl ?_
        refine seq_pure (pure_makeFunc rfl rfl) rfl rfl ?_
        refine seq_valbo rfl (containsNot_Type _ _ _ _ _ hsl _ [] _ [.blk b4 [.int .i64 d]] (tScan · (d + 1)) ks rfl hA (fun i e he => typeScan_1 _ _ _ _ _ (hsl.all e (List.mem_of_getElem? he)) hd (ih _ (hkl.inv he ty0).1 _ _ _ (by omega) (hkl.inv he ty0).2))) perm_all rfl rfl (fun h385 => ?_) (fun h385 => ?_)
        ·simp only [Bool.not_eq_true', Bool.not_eq_false'] at h385
         refine seq_pure (pure_not_t rfl) rfl rfl ?_
         refine seq_pure (pure_pick_t rfl rfl) rfl rfl ?_
         refine seq_pure (pure_assign rfl) rfl rfl ?_
         refine seq_done ?_
         refine nrm_seq ?_
         refine tri_ret ?_
         refine ret_fin1 (res_tmp rfl) ?_
         exact ⟨rfl, by (rw [tScan, tScanL_all, hA]; have := tyOps_spec k; first | (rw [decide_eq_true (by omega), decide_eq_true (by omega)]; simp only [*]; done) | (rw [decide_eq_true (by omega), decide_eq_true (by omega)]; simp only [*]; rfl) | (rw [decide_eq_false (by omega)]; rfl) | (rw [decide_eq_true (by omega), decide_eq_false (by omega)]; rfl)), rfl⟩
        ·simp only [Bool.not_eq_true', Bool.not_eq_false'] at h385
         refine seq_pure (pure_not_f rfl) rfl rfl ?_
         refine seq_pure (pure_pick_t rfl rfl) rfl rfl ?_
         refine seq_pure (pure_assign rfl) rfl rfl ?_
         refine seq_done ?_
         refine nrm_seq ?_
         refine tri_ret ?_
         refine ret_fin1 (res_tmp rfl) ?_
         exact ⟨rfl, by (rw [tScan, tScanL_all, hA]; have := tyOps_spec k; first | (rw [decide_eq_true (by omega), decide_eq_true (by omega)]; simp only [*]; done) | (rw [decide_eq_true (by omega), decide_eq_true (by omega)]; simp only [*]; rfl) | (rw [decide_eq_false (by omega)]; rfl) | (rw [decide_eq_true (by omega), decide_eq_false (by omega)]; rfl)), rfl⟩
       ·refine seq_pure (pure_pick_t rfl rfl) rfl rfl ?_
        refine seq_pure (pure_move rfl) rfl rfl ?_
        refine seq_skip rfl rfl ?_
        refine seq_skip rfl rfl ?_
        refine seq_skip rfl rfl ?_
        refine seq_skip rfl rfl ?_
        refine seq_skip rfl rfl ?_
        refine seq_pure (pure_pick_f rfl rfl) rfl rfl ?_
        refine seq_pure (pure_assign rfl) rfl rfl ?_
        refine seq_done ?_
        refine nrm_seq ?_
        refine tri_ret ?_
        refine ret_fin1 (res_tmp rfl) ?_
        exact ⟨rfl, by (rw [tScan, tScanL_all, hA]; have := tyOps_spec k; first | (rw [decide_eq_true (by omega), decide_eq_true (by omega)]; simp only [*]; done) | (rw [decide_eq_true (by omega), decide_eq_true (by omega)]; simp only [*]; rfl) | (rw [decide_eq_false (by omega)]; rfl) | (rw [decide_eq_true (by omega), decide_eq_false (by omega)]; rfl)), rfl⟩
      ·refine seq_pure (pure_move rfl) rfl rfl ?_
       refine seq_skip rfl rfl ?_
       refine seq_skip rfl rfl ?_
       refine seq_skip rfl rfl ?_
       refine seq_skip rfl rfl ?_
       refine seq_skip rfl rfl ?_
       refine seq_pure (pure_pick_f rfl rfl) rfl rfl ?_
       refine seq_pure (pure_move rfl) rfl rfl ?_
       refine seq_skip rfl rfl ?_
       refine seq_skip rfl rfl ?_
       refine seq_skip rfl rfl ?_
       refine seq_skip rfl rfl ?_
       refine seq_skip rfl rfl ?_
       refine seq_pure (pure_pick_f rfl rfl) rfl rfl ?_
       refine seq_pure (pure_assign rfl) rfl rfl ?_
       refine seq_done ?_
       refine nrm_seq ?_
       refine tri_ret ?_
       refine ret_fin1 (res_tmp rfl) ?_
       exact ⟨rfl, by (rw [tScan, tScanL_all, hA]; have := tyOps_spec k; first | (rw [decide_eq_true (by omega), decide_eq_true (by omega)]; simp only [*]; done) | (rw [decide_eq_true (by omega), decide_eq_true (by omega)]; simp only [*]; rfl) | (rw [decide_eq_false (by omega)]; rfl) | (rw [decide_eq_true (by omega), decide_eq_false (by omega)]; rfl)), rfl⟩
     ·refine seq_pure (pure_assign rfl) rfl rfl ?_
      refine seq_done ?_
      refine nrm_seq ?_
      refine tri_cond_f rfl ?_
      refine tri_skip ?_
      refine nrm_block ?_
      refine nrm_seq ?_
      refine tri_seq ?_
      refine tri_region ?_
      refine seq_load (load_bs rfl rfl (by repeat (first | exact List.Mem.head _ | apply List.Mem.tail)) (by rfl)) rfl rfl ?_
      refine seq_bool (pure_leq rfl rfl) rfl rfl (fun h446 => ?_) (fun h446 => ?_)
      ·refine seq_pure (pure_move rfl) rfl rfl ?_
       refine seq_pure (pure_move rfl) rfl rfl ?_
       refine seq_pure (pure_fieldAddr0 rfl) rfl rfl ?_
       refine seq_load (load_bs rfl rfl (by repeat (first | exact List.Mem.head _ | apply List.Mem.tail)) (by rfl)) rfl rfl ?_
       refine seq_pure (pure_len rfl rfl) rfl rfl ?_
       refine seq_pure (pure_eql_f rfl rfl (by omega)) rfl rfl ?_
       refine seq_pure (pure_pick_t rfl rfl) rfl rfl ?_
       refine seq_pure (pure_move rfl) rfl rfl ?_
       refine seq_skip rfl rfl ?_
       refine seq_skip rfl rfl ?_
       refine seq_skip rfl rfl ?_
       refine seq_skip rfl rfl ?_
       refine seq_skip rfl rfl ?_
       refine seq_pure (pure_pick_f rfl rfl) rfl rfl ?_
       refine seq_pure (pure_assign rfl) rfl rfl ?_
       refine seq_done ?_
       refine nrm_seq ?_
       refine tri_ret ?_
       refine ret_fin1 (res_tmp rfl) ?_
       exact ⟨rfl, by (rw [tScan, tScanL_all, hA]; have := tyOps_spec k; first | (rw [decide_eq_true (by omega), decide_eq_true (by omega)]; simp only [*]; done) | (rw [decide_eq_true (by omega), decide_eq_true (by omega)]; simp only [*]; rfl) | (rw [decide_eq_false (by omega)]; rfl) | (rw [decide_eq_true (by omega), decide_eq_false (by omega)]; rfl)), rfl⟩
      ·refine seq_pure (pure_move rfl) rfl rfl ?_
       refine seq_skip rfl rfl ?_
       refine seq_skip rfl rfl ?_
       refine seq_skip rfl rfl ?_
       refine seq_skip rfl rfl ?_
       refine seq_skip rfl rfl ?_
       refine seq_pure (pure_pick_f rfl rfl) rfl rfl ?_
       refine seq_pure (pure_move rfl) rfl rfl ?_
       refine seq_skip rfl rfl ?_
       refine seq_skip rfl rfl ?_
       refine seq_skip rfl rfl ?_
       refine seq_skip rfl rfl ?_
       refine seq_skip rfl rfl ?_
       refine seq_pure (pure_pick_f rfl rfl) rfl rfl ?_
       refine seq_pure (pure_assign rfl) rfl rfl ?_
       refine seq_done ?_
       refine nrm_seq ?_
       refine tri_ret ?_
       refine ret_fin1 (res_tmp rfl) ?_
       exact ⟨rfl, by (rw [tScan, tScanL_all, hA]; have := tyOps_spec k; first | (rw [decide_eq_true (by omega), decide_eq_true (by omega)]; simp only [*]; done) | (rw [decide_eq_true (by omega), decide_eq_true (by omega)]; simp only [*]; rfl) | (rw [decide_eq_false (by omega)]; rfl) | (rw [decide_eq_true (by omega), decide_eq_false (by omega)]; rfl)), rfl⟩
set_option maxRecDepth 100000 in
theorem typeValid_fn (t : Ty) (G : IM) (cells : List Value) (hr : RTy G t cells) : Fn Try.prog 67 [.agg ⟨cells⟩] [] G (Val (.bool (tValid t)) G) := by
 have hl := hr.len
 have hv := typeScan_fn t 1 G cells (by omega) hr
 refine fn_enter Try.func67 rfl Try.ntmps67 Try.results67 rfl ?_
 intro w0
 refine tri_seq ?_
 refine tri_region ?_
 (refine seq_step (step_box_a rfl rfl) rfl ?_; rintro _ ⟨b3, rfl⟩)
 refine seq_pure (pure_assign rfl) rfl rfl ?_
 refine seq_done ?_
 refine nrm_seq ?_
 refine tri_seq ?_
 refine tri_region ?_
 refine seq_load (load_a rfl rfl (at_blk_all (by repeat (first | exact List.Mem.head _ | apply List.Mem.tail))) (by assumption)) rfl rfl ?_
 refine seq_val rfl (hv) rfl rfl ?_
 refine seq_pure (pure_assign rfl) rfl rfl ?_
 refine seq_done ?_
 refine nrm_seq ?_
 refine tri_ret ?_
 refine ret_fin1 (res_tmp rfl) ?_
 exact ⟨rfl, rfl, rfl⟩
set_option maxRecDepth 100000 in
theorem consistent_fn : ∀ (t t' : Ty) (G : IM) (cells cells' : List Value), RTy G t cells → RTy G t' cells' →
  Fn Try.prog 85 [.agg ⟨cells⟩, .agg ⟨cells'⟩] [] G (Val (.bool (tCons t t')) G) := by
 refine Ty.ind fun k ks ih t' G cells cells' hr hr' => ?_
 obtain ⟨k', ks'⟩ := t'
 obtain ⟨p, c, es, rfl, hk, hsl, hkl⟩ := hr.open
 obtain ⟨p', c', es', rfl, hk', hsl', hkl'⟩ := hr'.open
 simp only [Ty.k, Ty.ks] at hk hsl hkl hk' hsl' hkl' ⊢
 have hn := hsl.le
 have hn' := hsl'.le
 obtain ⟨A, hA⟩ : ∃ A, tConsL ks ks' = A := ⟨_, rfl⟩
 have hA' : A = true ↔ ks.length = ks'.length ∧ ∀ i, i < ks.length → tCons (ks.getD i ty0) (ks'.getD i ty0) = true := by
  rw [← hA, tConsL_iff]
  constructor
  ·rintro ⟨h1, h2⟩
   refine ⟨h1, fun i hi => ?_⟩
   have := h2 i hi (by omega)
   simpa [List.getD_eq_getElem?_getD, List.getElem?_eq_getElem hi, List.getElem?_eq_getElem (show i < ks'.length by omega)] using this
  ·rintro ⟨h1, h2⟩
   refine ⟨h1, fun i hi hi' => ?_⟩
   have := h2 i hi
   simpa [List.getD_eq_getElem?_getD, List.getElem?_eq_getElem hi, List.getElem?_eq_getElem hi'] using this
 refine fn_enter Try.func85 rfl Try.ntmps85 Try.results85 rfl ?_
 intro w0
 refine tri_seq ?_
 refine tri_region ?_
 (refine seq_step (step_box_a rfl rfl) rfl ?_; rintro _ ⟨b3, rfl⟩)
 (refine seq_step (step_box_a rfl rfl) rfl ?_; rintro _ ⟨b4, rfl⟩)
 refine seq_pure (pure_assign rfl) rfl rfl ?_
 refine seq_done ?_
 refine nrm_seq ?_
 refine tri_seq ?_
 refine tri_region ?_
 refine seq_pure (pure_fieldAddr0 rfl) rfl rfl ?_
 refine seq_load (load_bs rfl rfl (by repeat (first | exact List.Mem.head _ | apply List.Mem.tail)) (by rfl)) rfl rfl ?_
 refine seq_bool (pure_eql rfl rfl) rfl rfl (fun h12 => ?_) (fun h12 => ?_)
 ·refine seq_pure (pure_move rfl) rfl rfl ?_
  refine seq_skip rfl rfl ?_
  refine seq_skip rfl rfl ?_
  refine seq_skip rfl rfl ?_
  refine seq_pure (pure_pick_t rfl rfl) rfl rfl ?_
  refine seq_pure (pure_move rfl) rfl rfl ?_
  refine seq_skip rfl rfl ?_
  refine seq_skip rfl rfl ?_
  refine seq_skip rfl rfl ?_
  refine seq_skip rfl rfl ?_
  refine seq_skip rfl rfl ?_
  refine seq_skip rfl rfl ?_
  refine seq_skip rfl rfl ?_
  refine seq_skip rfl rfl ?_
  refine seq_skip rfl rfl ?_
  refine seq_skip rfl rfl ?_
  refine seq_skip rfl rfl ?_
  refine seq_skip rfl rfl ?_
  refine seq_pure (pure_pick_t rfl rfl) rfl rfl ?_
  refine seq_pure (pure_assign rfl) rfl rfl ?_
  refine seq_done ?_
  refine nrm_seq ?_
  refine tri_ret ?_
  refine ret_fin1 (res_tmp rfl) ?_
  exact ⟨rfl, by (rw [tCons_mk, hA]; first | (rw [decide_eq_true (p := k = 1) (by omega)]; rfl) | (rw [decide_eq_false (p := k = 1) (by omega), decide_eq_true (p := k' = 1) (by omega)]; rfl) | (rw [decide_eq_false (p := k = 1) (by omega), decide_eq_false (p := k' = 1) (by omega), decide_eq_false (p := k = k') (by omega)]; rfl) | (rw [decide_eq_false (p := k = 1) (by omega), decide_eq_false (p := k' = 1) (by omega), decide_eq_true (p := k = k') (by omega)]; simp only [*]; rfl)), rfl⟩
 ·refine seq_pure (pure_move rfl) rfl rfl ?_
  refine seq_pure (pure_fieldAddr0 rfl) rfl rfl ?_
  refine seq_load (load_bs rfl rfl (by repeat (first | exact List.Mem.head _ | apply List.Mem.tail)) (by rfl)) rfl rfl ?_
  refine seq_bool (pure_eql rfl rfl) rfl rfl (fun h41 => ?_) (fun h41 => ?_)
  ·refine seq_pure (pure_pick_f rfl rfl) rfl rfl ?_
   refine seq_pure (pure_move rfl) rfl rfl ?_
   refine seq_skip rfl rfl ?_
   refine seq_skip rfl rfl ?_
   refine seq_skip rfl rfl ?_
   refine seq_skip rfl rfl ?_
   refine seq_skip rfl rfl ?_
   refine seq_skip rfl rfl ?_
   refine seq_skip rfl rfl ?_
   refine seq_skip rfl rfl ?_
   refine seq_skip rfl rfl ?_
   refine seq_skip rfl rfl ?_
   refine seq_skip rfl rfl ?_
   refine seq_skip rfl rfl ?_
   refine seq_pure (pure_pick_t rfl rfl) rfl rfl ?_
   refine seq_pure (pure_assign rfl) rfl rfl ?_
   refine seq_done ?_
   refine nrm_seq ?_
   refine tri_ret ?_
   refine ret_fin1 (res_tmp rfl) ?_
   exact ⟨rfl, by (rw [tCons_mk, hA]; first | (rw [decide_eq_true (p := k = 1) (by omega)]; rfl) | (rw [decide_eq_false (p := k = 1) (by omega), decide_eq_true (p := k' = 1) (by omega)]; rfl) | (rw [decide_eq_false (p := k = 1) (by omega), decide_eq_false (p := k' = 1) (by omega), decide_eq_false (p := k = k') (by omega)]; rfl) | (rw [decide_eq_false (p := k = 1) (by omega), decide_eq_false (p := k' = 1) (by omega), decide_eq_true (p := k = k') (by omega)]; simp only [*]; rfl)), rfl⟩
  ·refine seq_pure (pure_pick_f rfl rfl) rfl rfl ?_
   refine seq_pure (pure_move rfl) rfl rfl ?_
   refine seq_pure (pure_fieldAddr0 rfl) rfl rfl ?_
   refine seq_load (load_bs rfl rfl (by repeat (first | exact List.Mem.head _ | apply List.Mem.tail)) (by rfl)) rfl rfl ?_
   refine seq_pure (pure_fieldAddr0 rfl) rfl rfl ?_
   refine seq_load (load_bs rfl rfl (by repeat (first | exact List.Mem.head _ | apply List.Mem.tail)) (by rfl)) rfl rfl ?_
   refine seq_bool (pure_eql rfl rfl) rfl rfl (fun h69 => ?_) (fun h69 => ?_)
   ·refine seq_pure (pure_move rfl) rfl rfl ?_
    refine seq_pure (pure_fieldAddr0 rfl) rfl rfl ?_
    refine seq_load (load_bs rfl rfl (by repeat (first | exact List.Mem.head _ | apply List.Mem.tail)) (by rfl)) rfl rfl ?_
    refine seq_pure (pure_fieldAddr0 rfl) rfl rfl ?_
    refine seq_load (load_bs rfl rfl (by repeat (first | exact List.Mem.head _ | apply List.Mem.tail)) (by rfl)) rfl rfl ?_
    refine seq_valb rfl (equalFunc_Type _ _ _ _ _ _ _ _ _ hsl hsl' _ [] [] [] (fun i => tCons (ks.getD i ty0) (ks'.getD i ty0)) A hA' (fun i e e' he he' => ih _ (hkl.inv he ty0).1 _ _ _ _ (hkl.inv he ty0).2 (hkl'.inv he' ty0).2)) rfl rfl (fun h75 => ?_) (fun h75 => ?_)
    ·refine seq_pure (pure_pick_t rfl rfl) rfl rfl ?_
     refine seq_pure (pure_pick_f rfl rfl) rfl rfl ?_
     refine seq_pure (pure_assign rfl) rfl rfl ?_
     refine seq_done ?_
     refine nrm_seq ?_
     refine tri_ret ?_
     refine ret_fin1 (res_tmp rfl) ?_
     exact ⟨rfl, by (rw [tCons_mk, hA]; first | (rw [decide_eq_true (p := k = 1) (by omega)]; rfl) | (rw [decide_eq_false (p := k = 1) (by omega), decide_eq_true (p := k' = 1) (by omega)]; rfl) | (rw [decide_eq_false (p := k = 1) (by omega), decide_eq_false (p := k' = 1) (by omega), decide_eq_false (p := k = k') (by omega)]; rfl) | (rw [decide_eq_false (p := k = 1) (by omega), decide_eq_false (p := k' = 1) (by omega), decide_eq_true (p := k = k') (by omega)]; simp only [*]; rfl)), rfl⟩
    ·refine seq_pure (pure_pick_t rfl rfl) rfl rfl ?_
     refine seq_pure (pure_pick_f rfl rfl) rfl rfl ?_
     refine seq_pure (pure_assign rfl) rfl rfl ?_
     refine seq_done ?_
     refine nrm_seq ?_
     refine tri_ret ?_
     refine ret_fin1 (res_tmp rfl) ?_
     exact ⟨rfl, by (rw [tCons_mk, hA]; first | (rw [decide_eq_true (p := k = 1) (by omega)]; rfl) | (rw [decide_eq_false (p := k = 1) (by omega), decide_eq_true (p := k' = 1) (by omega)]; rfl) | (rw [decide_eq_false (p := k = 1) (by omega), decide_eq_false (p := k' = 1) (by omega), decide_eq_false (p := k = k') (by omega)]; rfl) | (rw [decide_eq_false (p := k = 1) (by omega), decide_eq_false (p := k' = 1) (by omega), decide_eq_true (p := k = k') (by omega)]; simp only [*]; rfl)), rfl⟩
   ·refine seq_pure (pure_move rfl) rfl rfl ?_
    refine seq_skip rfl rfl ?_
    refine seq_skip rfl rfl ?_
    refine seq_skip rfl rfl ?_
    refine seq_skip rfl rfl ?_
    refine seq_skip rfl rfl ?_
    refine seq_pure (pure_pick_f rfl rfl) rfl rfl ?_
    refine seq_pure (pure_pick_f rfl rfl) rfl rfl ?_
    refine seq_pure (pure_assign rfl) rfl rfl ?_
    refine seq_done ?_
    refine nrm_seq ?_
    refine tri_ret ?_
    refine ret_fin1 (res_tmp rfl) ?_
    exact ⟨rfl, by (rw [tCons_mk, hA]; first | (rw [decide_eq_true (p := k = 1) (by omega)]; rfl) | (rw [decide_eq_false (p := k = 1) (by omega), decide_eq_true (p := k' = 1) (by omega)]; rfl) | (rw [decide_eq_false (p := k = 1) (by omega), decide_eq_false (p := k' = 1) (by omega), decide_eq_false (p := k = k') (by omega)]; rfl) | (rw [decide_eq_false (p := k = 1) (by omega), decide_eq_false (p := k' = 1) (by omega), decide_eq_true (p := k = k') (by omega)]; simp only [*]; rfl)), rfl⟩
set_option maxRecDepth 100000 in
theorem consistentT_fn (t t' : Ty) (G : IM) (cells cells' : List Value) (hr : RTy G t cells) (hr' : RTy G t' cells') :
  Fn Try.prog 69 [.agg ⟨cells⟩, .agg ⟨cells'⟩] [] G (Val (.bool (tConsistent t t')) G) := by
 have hl := hr.len
 have hl' := hr'.len
 have hv := typeValid_fn t G cells hr
 have hv' := typeValid_fn t' G cells' hr'
 have hc := consistent_fn t t' G cells cells' hr hr'
 refine fn_enter Try.func69 rfl Try.ntmps69 Try.results69 rfl ?_
 intro w0
 refine tri_seq ?_
 refine tri_region ?_
 (refine seq_step (step_box_a rfl rfl) rfl ?_; rintro _ ⟨b3, rfl⟩)
 (refine seq_step (step_box_a rfl rfl) rfl ?_; rintro _ ⟨b4, rfl⟩)
 refine seq_pure (pure_assign rfl) rfl rfl ?_
 refine seq_done ?_
 refine nrm_seq ?_
 refine tri_seq ?_
 refine tri_region ?_
 refine seq_load (load_a rfl rfl (at_blk_all (by repeat (first | exact List.Mem.head _ | apply List.Mem.tail))) (by assumption)) rfl rfl ?_
 refine seq_valb rfl (hv) rfl rfl (fun h11 => ?_) (fun h11 => ?_)
 ·refine seq_pure (pure_move rfl) rfl rfl ?_
  refine seq_load (load_a rfl rfl (at_blk_all (by repeat (first | exact List.Mem.head _ | apply List.Mem.tail))) (by assumption)) rfl rfl ?_
  refine seq_valb rfl (hv') rfl rfl (fun h14 => ?_) (fun h14 => ?_)
  ·refine seq_pure (pure_pick_t rfl rfl) rfl rfl ?_
   refine seq_pure (pure_move rfl) rfl rfl ?_
   refine seq_load (load_a rfl rfl (at_blk_all (by repeat (first | exact List.Mem.head _ | apply List.Mem.tail))) (by assumption)) rfl rfl ?_
   refine seq_load (load_a rfl rfl (at_blk_all (by repeat (first | exact List.Mem.head _ | apply List.Mem.tail))) (by assumption)) rfl rfl ?_
   refine seq_valb rfl (hc) rfl rfl (fun h19 => ?_) (fun h19 => ?_)
   ·refine seq_pure (pure_pick_t rfl rfl) rfl rfl ?_
    refine seq_pure (pure_assign rfl) rfl rfl ?_
    refine seq_done ?_
    refine nrm_seq ?_
    refine tri_ret ?_
    refine ret_fin1 (res_tmp rfl) ?_
    exact ⟨rfl, by simp only [tConsistent]; simp only [*, Bool.true_and, Bool.false_and, Bool.and_true], rfl⟩
   ·refine seq_pure (pure_pick_t rfl rfl) rfl rfl ?_
    refine seq_pure (pure_assign rfl) rfl rfl ?_
    refine seq_done ?_
    refine nrm_seq ?_
    refine tri_ret ?_
    refine ret_fin1 (res_tmp rfl) ?_
    exact ⟨rfl, by simp only [tConsistent]; simp only [*, Bool.true_and, Bool.false_and, Bool.and_true], rfl⟩
  ·refine seq_pure (pure_pick_t rfl rfl) rfl rfl ?_
   refine seq_pure (pure_move rfl) rfl rfl ?_
   refine seq_skip rfl rfl ?_
   refine seq_skip rfl rfl ?_
   refine seq_skip rfl rfl ?_
   refine seq_pure (pure_pick_f rfl rfl) rfl rfl ?_
   refine seq_pure (pure_assign rfl) rfl rfl ?_
   refine seq_done ?_
   refine nrm_seq ?_
   refine tri_ret ?_
   refine ret_fin1 (res_tmp rfl) ?_
   exact ⟨rfl, by simp only [tConsistent]; simp only [*, Bool.true_and, Bool.false_and, Bool.and_true], rfl⟩
 ·refine seq_pure (pure_move rfl) rfl rfl ?_
  refine seq_skip rfl rfl ?_
  refine seq_skip rfl rfl ?_
  refine seq_pure (pure_pick_f rfl rfl) rfl rfl ?_
  refine seq_pure (pure_move rfl) rfl rfl ?_
  refine seq_skip rfl rfl ?_
  refine seq_skip rfl rfl ?_
  refine seq_skip rfl rfl ?_
  refine seq_pure (pure_pick_f rfl rfl) rfl rfl ?_
  refine seq_pure (pure_assign rfl) rfl rfl ?_
  refine seq_done ?_
  refine nrm_seq ?_
  refine tri_ret ?_
  refine ret_fin1 (res_tmp rfl) ?_
  exact ⟨rfl, by simp only [tConsistent]; simp only [*, Bool.true_and, Bool.false_and, Bool.and_true], rfl⟩
end Gw
end Go.Proofs.Yteneckdjdfnjoaa
namespace Go.Proofs.Yteneckdjdfnjoaa
open Go Go.RowKit
namespace Gw
set_option maxRecDepth 100000 in
theorem operands_fn (k : Int) (G : IM) (hk : I64 k) : Fn Try.prog 65 [.int .i64 k] [] G (Val (.int .i64 (tmOps k)) G) := by
 unfold I64 at hk
 refine fn_enter Try.func65 rfl Try.ntmps65 Try.results65 rfl ?_
 intro w0
 refine tri_seq ?_
 refine tri_region ?_
 refine seq_pure (pure_assign rfl) rfl rfl ?_
 refine seq_done ?_
 refine nrm_seq ?_
 refine tri_seq ?_
 refine tri_seq ?_
 refine tri_region ?_
 refine seq_pure (pure_move rfl) rfl rfl ?_
 refine seq_valb rfl (within_fn _ _ _ _) rfl rfl (fun h10 => ?_) (fun h10 => ?_)
 ·refine seq_pure (pure_not_t rfl) rfl rfl ?_
  refine seq_done ?_
  refine nrm_seq ?_
  refine tri_cond_f rfl ?_
  refine tri_skip ?_
  refine nrm_seq ?_
  refine tri_seq ?_
  refine tri_region ?_
  (refine seq_step (step_buildSlice rfl rfl rfl (by omega) (by unfold maxLen; omega) rfl) rfl ?_; rintro _ ⟨b19, rfl⟩)
  refine seq_pure (pure_move rfl) rfl rfl ?_
  (have hkk : 1 ≤ k ∧ k ≤ 14 := withinB_t (by assumption); refine seq_pure (pure_sub rfl rfl (by omega) (by omega)) rfl rfl ?_)
  refine seq_pure (pure_indexAddr rfl rfl rfl (by omega) (by omega)) rfl rfl ?_
  refine seq_load (load_s rfl rfl (at_slc (by repeat (first | exact List.Mem.head _ | apply List.Mem.tail)) (one_at (by rw [Nat.zero_add, Nat.mul_one]; exact tmOps_tab hkk)))) rfl rfl ?_
  refine seq_pure (pure_assign rfl) rfl rfl ?_
  refine seq_done ?_
  refine nrm_seq ?_
  refine tri_ret ?_
  refine ret_fin1 (res_tmp rfl) ?_
  exact ⟨rfl, rfl, rfl⟩
 ·refine seq_pure (pure_not_f rfl) rfl rfl ?_
  refine seq_done ?_
  refine nrm_seq ?_
  refine tri_cond_t rfl ?_
  refine tri_seq ?_
  refine tri_region ?_
  refine seq_pure (pure_assign rfl) rfl rfl ?_
  refine seq_done ?_
  refine nrm_seq ?_
  refine tri_ret ?_
  refine ret_seq ?_
  refine ret_fin1 (res_tmp rfl) ?_
  exact ⟨rfl, by rw [tmOps_no (withinB_f (by assumption))], rfl⟩
set_option maxHeartbeats 0 in
set_option maxRecDepth 100000 in
theorem nodeOk_fn (k : Int) (nm : ByteArray) (num : Int) (ty fr : Ty) (lb : Int) (ks : List Tm) (G : IM) (cells : List Value) (hr : RTm G (.mk k nm num ty fr lb ks) cells) :
  Fn Try.prog 48 [.agg ⟨cells⟩] [] G (Val (.bool (tmNode k nm num ty fr lb ks.length)) G) := by
 obtain ⟨tk, tks⟩ := ty
 obtain ⟨fk, fks⟩ := fr
 obtain ⟨pt, ct, pf, cf, p, c, es, rfl, hk, hnum, hlb, hty, hfr, hsl, hkl⟩ := hr.open9
 have hi := @tmNode_iff k nm num (.mk tk tks) (.mk fk fks) lb ks.length
 obtain ⟨R, hR⟩ : ∃ R, tmNode k nm num (.mk tk tks) (.mk fk fks) lb ks.length = R := ⟨_, rfl⟩
 rw [hR] at hi ⊢
 clear hR hr
 have o1 := operands_fn k G hk
 have o2 := isName_fn nm G
 have o3 := typeValid_fn _ G _ hty
 have o4 := isNoType_fn _ G _ hty
 have o5 := consistentT_fn _ _ G _ _ hfr hty
 have o6 := isLabel_fn lb G
 have o7 := isNoType_fn _ G _ hfr
 refine fn_enter Try.func48 rfl Try.ntmps48 Try.results48 rfl ?_
 intro w0
 refine tri_seq ?_
 refine tri_region ?_
 (refine seq_step (step_box_a rfl rfl) rfl ?_; rintro _ ⟨b3, rfl⟩)
 refine seq_pure (pure_assign rfl) rfl rfl ?_
 refine seq_done ?_
 refine nrm_seq ?_
 refine tri_seq ?_
 refine tri_seq ?_
 refine tri_draw mixed rfl ?_
 refine any_pure (i := 0) (listed' := [tt,ff,ff,ff,ff,ff,ff]) rfl (by repeat (first | exact np_ret | apply np_seq | apply np_block | apply np_loopN')) (pure_fieldAddr0 rfl) rfl (by kernel_rfl) rfl rfl ?_
 refine any_load (i := 1) (listed' := [tt,tt,ff,ff,ff,ff,ff]) rfl (by repeat (first | exact np_ret | apply np_seq | apply np_block | apply np_loopN')) (load_bs rfl rfl (by repeat (first | exact List.Mem.head _ | apply List.Mem.tail)) (by rfl)) rfl (by kernel_rfl) rfl rfl ?_
 refine any_pure (i := 3) (listed' := [tt,tt,ff,tt,ff,ff,ff]) rfl (by repeat (first | exact np_ret | apply np_seq | apply np_block | apply np_loopN')) (pure_fieldAddr0 rfl) rfl (by kernel_rfl) rfl rfl ?_
 refine any_load (i := 4) (listed' := [tt,tt,ff,tt,tt,ff,ff]) rfl (by repeat (first | exact np_ret | apply np_seq | apply np_block | apply np_loopN')) (load_bs rfl rfl (by repeat (first | exact List.Mem.head _ | apply List.Mem.tail)) (by rfl)) rfl (by kernel_rfl) rfl rfl ?_
 refine any_pure (i := 5) (listed' := [tt,tt,ff,tt,tt,tt,ff]) rfl (by repeat (first | exact np_ret | apply np_seq | apply np_block | apply np_loopN')) (pure_len rfl rfl) rfl (by kernel_rfl) rfl rfl ?_
 refine any_one (j := 2) (by kernel_rfl) ?_
 refine one_val (listed' := [tt,tt,tt,tt,tt,tt,ff]) rfl rfl (o1) rfl rfl rfl ?_
 refine any_bool (i := 6) (listed' := [tt,tt,tt,tt,tt,tt,tt]) rfl (by repeat (first | exact np_ret | apply np_seq | apply np_block | apply np_loopN')) (pure_neq rfl rfl) rfl (by kernel_rfl) rfl rfl (fun h17 => ?_) (fun h17 => ?_)
 ·refine any_done (by kernel_rfl) ?_
  refine nrm_seq ?_
  refine tri_cond_t rfl ?_
  refine tri_seq ?_
  refine tri_region ?_
  refine seq_pure (pure_assign rfl) rfl rfl ?_
  refine seq_done ?_
  refine nrm_seq ?_
  refine tri_ret ?_
  refine ret_seq ?_
  refine ret_fin1 (res_tmp rfl) ?_
  exact ⟨rfl, by (cases R with | false => rfl | true => (exfalso; obtain ⟨i1, i2, i3, i4, i5, i6, i7, i8, i9⟩ := hi.1 rfl; first | omega | (have j := i2 (by omega); simp_all; done) | (have j := i3 (by omega); simp_all; done) | (have j := i4 (by omega); simp_all; done) | (have j := i5 (by omega); simp_all; done) | (have j := i6 (by omega); simp_all; done) | (have j := i7 (by omega); simp_all; done) | (have j := i8 (by omega); simp_all; done) | (have j := i9 (by omega); simp_all; done))), rfl⟩
 ·refine any_done (by kernel_rfl) ?_
  refine nrm_seq ?_
  refine tri_cond_f rfl ?_
  refine tri_skip ?_
  refine nrm_seq ?_
  refine tri_seq ?_
  refine tri_region ?_
  refine seq_pure (pure_fieldAddr0 rfl) rfl rfl ?_
  refine seq_load (load_bs rfl rfl (by repeat (first | exact List.Mem.head _ | apply List.Mem.tail)) (by rfl)) rfl rfl ?_
  refine seq_bool (pure_eql rfl rfl) rfl rfl (fun h39 => ?_) (fun h39 => ?_)
  ·refine seq_pure (pure_move rfl) rfl rfl ?_
   refine seq_skip rfl rfl ?_
   refine seq_skip rfl rfl ?_
   refine seq_skip rfl rfl ?_
   refine seq_pure (pure_pick_t rfl rfl) rfl rfl ?_
   refine seq_pure (pure_assign rfl) rfl rfl ?_
   refine seq_done ?_
   refine nrm_seq ?_
   refine tri_seq ?_
   refine tri_region ?_
   refine seq_pure (pure_fieldAddr0 rfl) rfl rfl ?_
   refine seq_load (load_bs rfl rfl (by repeat (first | exact List.Mem.head _ | apply List.Mem.tail)) (by rfl)) rfl rfl ?_
   refine seq_pure (pure_eql_f rfl rfl (by omega)) rfl rfl ?_
   refine seq_pure (pure_move rfl) rfl rfl ?_
   refine seq_pure (pure_fieldAddr0 rfl) rfl rfl ?_
   refine seq_load (load_bs rfl rfl (by repeat (first | exact List.Mem.head _ | apply List.Mem.tail)) (by rfl)) rfl rfl ?_
   refine seq_pure (pure_eql_f rfl rfl (by omega)) rfl rfl ?_
   refine seq_pure (pure_pick_f rfl rfl) rfl rfl ?_
   refine seq_pure (pure_move rfl) rfl rfl ?_
   refine seq_pure (pure_fieldAddr0 rfl) rfl rfl ?_
   refine seq_load (load_bs rfl rfl (by repeat (first | exact List.Mem.head _ | apply List.Mem.tail)) (by rfl)) rfl rfl ?_
   refine seq_pure (pure_eql_f rfl rfl (by omega)) rfl rfl ?_
   refine seq_pure (pure_pick_f rfl rfl) rfl rfl ?_
   refine seq_pure (pure_assign rfl) rfl rfl ?_
   refine seq_done ?_
   refine nrm_seq ?_
   refine tri_seq ?_
   refine tri_region ?_
   refine seq_pure (pure_fieldAddr0 rfl) rfl rfl ?_
   refine seq_load (load_bs rfl rfl (by repeat (first | exact List.Mem.head _ | apply List.Mem.tail)) (by rfl)) rfl rfl ?_
   refine seq_pure (pure_eql_f rfl rfl (by omega)) rfl rfl ?_
   refine seq_pure (pure_assign rfl) rfl rfl ?_
   refine seq_done ?_
   refine nrm_seq ?_
   refine tri_seq ?_
   refine tri_region ?_
   refine seq_pure (pure_assign rfl) rfl rfl ?_
   refine seq_done ?_
   refine nrm_seq ?_
   refine tri_seq ?_
   refine tri_seq ?_
   refine tri_region ?_
   refine seq_pure (pure_fieldAddr0 rfl) rfl rfl ?_
   refine seq_load (load_bs rfl rfl (by repeat (first | exact List.Mem.head _ | apply List.Mem.tail)) (by rfl)) rfl rfl ?_
   refine seq_pure (pure_eql_f rfl rfl (by omega)) rfl rfl ?_
   refine seq_done ?_
   refine nrm_seq ?_
   refine tri_cond_f rfl ?_
   refine tri_skip ?_
   refine nrm_seq ?_
   refine tri_seq ?_
   refine tri_block ?_
   refine tri_seq ?_
   refine tri_seq ?_
   refine tri_region ?_
   refine seq_pure (pure_move rfl) rfl rfl ?_
   refine seq_pure (pure_move rfl) rfl rfl ?_
   refine seq_pure (pure_fieldAddr0 rfl) rfl rfl ?_
   refine seq_load (load_bs rfl rfl (by repeat (first | exact List.Mem.head _ | apply List.Mem.tail)) (by rfl)) rfl rfl ?_
   refine seq_valb rfl (o2) rfl rfl (fun h99 => ?_) (fun h99 => ?_)
   ·refine seq_pure (pure_not_t rfl) rfl rfl ?_
    refine seq_pure (pure_pick_t rfl rfl) rfl rfl ?_
    refine seq_pure (pure_assign rfl) rfl rfl ?_
    refine seq_done ?_
    refine nrm_seq ?_
    refine tri_cond_f rfl ?_
    refine tri_seq ?_
    refine tri_region ?_
    refine seq_pure (pure_move rfl) rfl rfl ?_
    refine seq_pure (pure_not_t rfl) rfl rfl ?_
    refine seq_pure (pure_move rfl) rfl rfl ?_
    refine seq_skip rfl rfl ?_
    refine seq_skip rfl rfl ?_
    refine seq_skip rfl rfl ?_
    refine seq_pure (pure_pick_f rfl rfl) rfl rfl ?_
    refine seq_pure (pure_assign rfl) rfl rfl ?_
    refine seq_done ?_
    refine nrm_seq ?_
    refine tri_cond_f rfl ?_
    refine tri_region ?_
    refine seq_pure (pure_fieldAddr0 rfl) rfl rfl ?_
    refine seq_load (load_bs rfl rfl (by repeat (first | exact List.Mem.head _ | apply List.Mem.tail)) (by rfl)) rfl rfl ?_
    refine seq_pure (pure_move rfl) rfl rfl ?_
    refine seq_valb rfl (within_fn _ _ _ _) rfl rfl (fun h123 => ?_) (fun h123 => ?_)
    ·refine seq_pure (pure_not_t rfl) rfl rfl ?_
     refine seq_pure (pure_assign rfl) rfl rfl ?_
     refine seq_done ?_
     refine nrm_seq ?_
     refine tri_cond_f rfl ?_
     refine tri_seq ?_
     refine tri_seq ?_
     refine tri_region ?_
     refine seq_pure (pure_move rfl) rfl rfl ?_
     refine seq_pure (pure_move rfl) rfl rfl ?_
     refine seq_skip rfl rfl ?_
     refine seq_skip rfl rfl ?_
     refine seq_skip rfl rfl ?_
     refine seq_skip rfl rfl ?_
     refine seq_pure (pure_pick_f rfl rfl) rfl rfl ?_
     refine seq_pure (pure_assign rfl) rfl rfl ?_
     refine seq_done ?_
     refine nrm_seq ?_
     refine tri_cond_f rfl ?_
     refine tri_region ?_
     refine seq_pure (pure_move rfl) rfl rfl ?_
     refine seq_pure (pure_not_f rfl) rfl rfl ?_
     refine seq_pure (pure_move rfl) rfl rfl ?_
     refine seq_pure (pure_fieldAddr0 rfl) rfl rfl ?_
     refine seq_load (load_ba rfl rfl (by repeat (first | exact List.Mem.head _ | apply List.Mem.tail)) (by rfl)) rfl rfl ?_
     refine seq_valb rfl (o4) rfl rfl (fun h149 => ?_) (fun h149 => ?_)
     ·refine seq_pure (pure_not_t rfl) rfl rfl ?_
      refine seq_pure (pure_pick_t rfl rfl) rfl rfl ?_
      refine seq_pure (pure_assign rfl) rfl rfl ?_
      refine seq_done ?_
      refine nrm_seq ?_
      refine tri_cond_f rfl ?_
      refine tri_seq ?_
      refine tri_seq ?_
      refine tri_region ?_
      refine seq_pure (pure_move rfl) rfl rfl ?_
      refine seq_pure (pure_move rfl) rfl rfl ?_
      refine seq_skip rfl rfl ?_
      refine seq_skip rfl rfl ?_
      refine seq_skip rfl rfl ?_
      refine seq_skip rfl rfl ?_
      refine seq_skip rfl rfl ?_
      refine seq_skip rfl rfl ?_
      refine seq_skip rfl rfl ?_
      refine seq_skip rfl rfl ?_
      refine seq_skip rfl rfl ?_
      refine seq_skip rfl rfl ?_
      refine seq_skip rfl rfl ?_
      refine seq_skip rfl rfl ?_
      refine seq_pure (pure_pick_f rfl rfl) rfl rfl ?_
      refine seq_pure (pure_assign rfl) rfl rfl ?_
      refine seq_done ?_
      refine nrm_seq ?_
      refine tri_cond_f rfl ?_
      refine tri_region ?_
      refine seq_pure (pure_move rfl) rfl rfl ?_
      refine seq_pure (pure_not_f rfl) rfl rfl ?_
      refine seq_pure (pure_move rfl) rfl rfl ?_
      refine seq_pure (pure_fieldAddr0 rfl) rfl rfl ?_
      refine seq_load (load_ba rfl rfl (by repeat (first | exact List.Mem.head _ | apply List.Mem.tail)) (by rfl)) rfl rfl ?_
      refine seq_valb rfl (o7) rfl rfl (fun h184 => ?_) (fun h184 => ?_)
      ·refine seq_pure (pure_not_t rfl) rfl rfl ?_
       refine seq_pure (pure_move rfl) rfl rfl ?_
       refine seq_pure (pure_fieldAddr0 rfl) rfl rfl ?_
       refine seq_load (load_bs rfl rfl (by repeat (first | exact List.Mem.head _ | apply List.Mem.tail)) (by rfl)) rfl rfl ?_
       refine seq_bool (pure_neq rfl rfl) rfl rfl (fun h189 => ?_) (fun h189 => ?_)
       ·refine seq_pure (pure_pick_f rfl rfl) rfl rfl ?_
        refine seq_pure (pure_pick_t rfl rfl) rfl rfl ?_
        refine seq_pure (pure_assign rfl) rfl rfl ?_
        refine seq_done ?_
        refine nrm_seq ?_
        refine tri_cond_t rfl ?_
        refine tri_seq ?_
        refine tri_region ?_
        refine seq_pure (pure_assign rfl) rfl rfl ?_
        refine seq_done ?_
        refine nrm_seq ?_
        refine tri_ret ?_
        refine ret_block ?_
        refine ret_seq ?_
        refine ret_fin1 (res_tmp rfl) ?_
        exact ⟨rfl, by (cases R with | false => rfl | true => (exfalso; obtain ⟨i1, i2, i3, i4, i5, i6, i7, i8, i9⟩ := hi.1 rfl; first | omega | (have j := i2 (by omega); simp_all; done) | (have j := i3 (by omega); simp_all; done) | (have j := i4 (by omega); simp_all; done) | (have j := i5 (by omega); simp_all; done) | (have j := i6 (by omega); simp_all; done) | (have j := i7 (by omega); simp_all; done) | (have j := i8 (by omega); simp_all; done) | (have j := i9 (by omega); simp_all; done))), rfl⟩
       ·refine seq_pure (pure_pick_f rfl rfl) rfl rfl ?_
        refine seq_pure (pure_pick_t rfl rfl) rfl rfl ?_
        refine seq_pure (pure_assign rfl) rfl rfl ?_
        refine seq_done ?_
        refine nrm_seq ?_
        refine tri_cond_f rfl ?_
        refine tri_skip ?_
        refine nrm_block ?_
        refine nrm_seq ?_
        refine tri_seq ?_
        refine tri_region ?_
        refine seq_pure (pure_assign rfl) rfl rfl ?_
        refine seq_done ?_
        refine nrm_seq ?_
        refine tri_ret ?_
        refine ret_fin1 (res_tmp rfl) ?_
        exact ⟨rfl, by rw [hi.2 ⟨by omega, fun _ => by (first | assumption | (exfalso; omega) | exact Classical.not_not.1 (by assumption)), fun _ => by (first | assumption | (exfalso; omega) | exact Classical.not_not.1 (by assumption)), fun _ => by (first | assumption | (exfalso; omega) | exact Classical.not_not.1 (by assumption)), fun _ => by (first | assumption | (exfalso; omega) | exact Classical.not_not.1 (by assumption)), fun _ => by (first | assumption | (exfalso; omega) | exact Classical.not_not.1 (by assumption)), fun _ => by (first | assumption | (exfalso; omega) | exact Classical.not_not.1 (by assumption)), fun _ => ⟨by (first | assumption | (exfalso; omega)), by (first | assumption | (exfalso; omega))⟩, fun _ => ⟨by (first | assumption | (exfalso; omega)), by (first | assumption | omega)⟩⟩], rfl⟩
      ·refine seq_pure (pure_not_f rfl) rfl rfl ?_
       refine seq_pure (pure_move rfl) rfl rfl ?_
       refine seq_skip rfl rfl ?_
       refine seq_skip rfl rfl ?_
       refine seq_skip rfl rfl ?_
       refine seq_pure (pure_pick_t rfl rfl) rfl rfl ?_
       refine seq_pure (pure_pick_t rfl rfl) rfl rfl ?_
       refine seq_pure (pure_assign rfl) rfl rfl ?_
       refine seq_done ?_
       refine nrm_seq ?_
       refine tri_cond_t rfl ?_
       refine tri_seq ?_
       refine tri_region ?_
       refine seq_pure (pure_assign rfl) rfl rfl ?_
       refine seq_done ?_
       refine nrm_seq ?_
       refine tri_ret ?_
       refine ret_block ?_
       refine ret_seq ?_
       refine ret_fin1 (res_tmp rfl) ?_
       exact ⟨rfl, by (cases R with | false => rfl | true => (exfalso; obtain ⟨i1, i2, i3, i4, i5, i6, i7, i8, i9⟩ := hi.1 rfl; first | omega | (have j := i2 (by omega); simp_all; done) | (have j := i3 (by omega); simp_all; done) | (have j := i4 (by omega); simp_all; done) | (have j := i5 (by omega); simp_all; done) | (have j := i6 (by omega); simp_all; done) | (have j := i7 (by omega); simp_all; done) | (have j := i8 (by omega); simp_all; done) | (have j := i9 (by omega); simp_all; done))), rfl⟩
     ·refine seq_pure (pure_not_f rfl) rfl rfl ?_
      refine seq_pure (pure_pick_t rfl rfl) rfl rfl ?_
      refine seq_pure (pure_assign rfl) rfl rfl ?_
      refine seq_done ?_
      refine nrm_seq ?_
      refine tri_cond_t rfl ?_
      refine tri_seq ?_
      refine tri_region ?_
      refine seq_pure (pure_assign rfl) rfl rfl ?_
      refine seq_done ?_
      refine nrm_seq ?_
      refine tri_ret ?_
      refine ret_block ?_
      refine ret_seq ?_
      refine ret_fin1 (res_tmp rfl) ?_
      exact ⟨rfl, by (cases R with | false => rfl | true => (exfalso; obtain ⟨i1, i2, i3, i4, i5, i6, i7, i8, i9⟩ := hi.1 rfl; first | omega | (have j := i2 (by omega); simp_all; done) | (have j := i3 (by omega); simp_all; done) | (have j := i4 (by omega); simp_all; done) | (have j := i5 (by omega); simp_all; done) | (have j := i6 (by omega); simp_all; done) | (have j := i7 (by omega); simp_all; done) | (have j := i8 (by omega); simp_all; done) | (have j := i9 (by omega); simp_all; done))), rfl⟩
    ·refine seq_pure (pure_not_f rfl) rfl rfl ?_
     refine seq_pure (pure_assign rfl) rfl rfl ?_
     refine seq_done ?_
     refine nrm_seq ?_
     refine tri_cond_t rfl ?_
     refine tri_seq ?_
     refine tri_region ?_
     refine seq_pure (pure_assign rfl) rfl rfl ?_
     refine seq_done ?_
     refine nrm_seq ?_
     refine tri_ret ?_
     refine ret_block ?_
     refine ret_seq ?_
     refine ret_fin1 (res_tmp rfl) ?_
     exact ⟨rfl, by (cases R with | false => rfl | true => (exfalso; obtain ⟨i1, i2, i3, i4, i5, i6, i7, i8, i9⟩ := hi.1 rfl; first | omega | (have j := i2 (by omega); simp_all; done) | (have j := i3 (by omega); simp_all; done) | (have j := i4 (by omega); simp_all; done) | (have j := i5 (by omega); simp_all; done) | (have j := i6 (by omega); simp_all; done) | (have j := i7 (by omega); simp_all; done) | (have j := i8 (by omega); simp_all; done) | (have j := i9 (by omega); simp_all; done))), rfl⟩
   ·refine seq_pure (pure_not_f rfl) rfl rfl ?_
    refine seq_pure (pure_pick_t rfl rfl) rfl rfl ?_
    refine seq_pure (pure_assign rfl) rfl rfl ?_
    refine seq_done ?_
    refine nrm_seq ?_
    refine tri_cond_t rfl ?_
    refine tri_skip ?_
    refine nrm_seq ?_
    refine tri_cond_t rfl ?_
    refine tri_seq ?_
    refine tri_region ?_
    refine seq_pure (pure_assign rfl) rfl rfl ?_
    refine seq_done ?_
    refine nrm_seq ?_
    refine tri_ret ?_
    refine ret_block ?_
    refine ret_seq ?_
    refine ret_fin1 (res_tmp rfl) ?_
    exact ⟨rfl, by (cases R with | false => rfl | true => (exfalso; obtain ⟨i1, i2, i3, i4, i5, i6, i7, i8, i9⟩ := hi.1 rfl; first | omega | (have j := i2 (by omega); simp_all; done) | (have j := i3 (by omega); simp_all; done) | (have j := i4 (by omega); simp_all; done) | (have j := i5 (by omega); simp_all; done) | (have j := i6 (by omega); simp_all; done) | (have j := i7 (by omega); simp_all; done) | (have j := i8 (by omega); simp_all; done) | (have j := i9 (by omega); simp_all; done))), rfl⟩
  ·refine seq_pure (pure_move rfl) rfl rfl ?_
   refine seq_pure (pure_fieldAddr0 rfl) rfl rfl ?_
   refine seq_load (load_bs rfl rfl (by repeat (first | exact List.Mem.head _ | apply List.Mem.tail)) (by rfl)) rfl rfl ?_
   refine seq_bool (pure_eql rfl rfl) rfl rfl (fun h297 => ?_) (fun h297 => ?_)
   ·refine seq_pure (pure_pick_f rfl rfl) rfl rfl ?_
    refine seq_pure (pure_assign rfl) rfl rfl ?_
    refine seq_done ?_
    refine nrm_seq ?_
    refine tri_seq ?_
    refine tri_region ?_
    refine seq_pure (pure_fieldAddr0 rfl) rfl rfl ?_
    refine seq_load (load_bs rfl rfl (by repeat (first | exact List.Mem.head _ | apply List.Mem.tail)) (by rfl)) rfl rfl ?_
    refine seq_pure (pure_eql_t rfl rfl (by omega)) rfl rfl ?_
    refine seq_pure (pure_move rfl) rfl rfl ?_
    refine seq_skip rfl rfl ?_
    refine seq_skip rfl rfl ?_
    refine seq_skip rfl rfl ?_
    refine seq_pure (pure_pick_t rfl rfl) rfl rfl ?_
    refine seq_pure (pure_move rfl) rfl rfl ?_
    refine seq_skip rfl rfl ?_
    refine seq_skip rfl rfl ?_
    refine seq_skip rfl rfl ?_
    refine seq_pure (pure_pick_t rfl rfl) rfl rfl ?_
    refine seq_pure (pure_assign rfl) rfl rfl ?_
    refine seq_done ?_
    refine nrm_seq ?_
    refine tri_seq ?_
    refine tri_region ?_
    refine seq_pure (pure_fieldAddr0 rfl) rfl rfl ?_
    refine seq_load (load_bs rfl rfl (by repeat (first | exact List.Mem.head _ | apply List.Mem.tail)) (by rfl)) rfl rfl ?_
    refine seq_pure (pure_eql_f rfl rfl (by omega)) rfl rfl ?_
    refine seq_pure (pure_assign rfl) rfl rfl ?_
    refine seq_done ?_
    refine nrm_seq ?_
    refine tri_seq ?_
    refine tri_region ?_
    refine seq_pure (pure_assign rfl) rfl rfl ?_
    refine seq_done ?_
    refine nrm_seq ?_
    refine tri_seq ?_
    refine tri_seq ?_
    refine tri_region ?_
    refine seq_pure (pure_fieldAddr0 rfl) rfl rfl ?_
    refine seq_load (load_bs rfl rfl (by repeat (first | exact List.Mem.head _ | apply List.Mem.tail)) (by rfl)) rfl rfl ?_
    refine seq_pure (pure_eql_f rfl rfl (by omega)) rfl rfl ?_
    refine seq_done ?_
    refine nrm_seq ?_
    refine tri_cond_f rfl ?_
    refine tri_skip ?_
    refine nrm_seq ?_
    refine tri_seq ?_
    refine tri_block ?_
    refine tri_seq ?_
    refine tri_seq ?_
    refine tri_region ?_
    refine seq_pure (pure_move rfl) rfl rfl ?_
    refine seq_pure (pure_move rfl) rfl rfl ?_
    refine seq_pure (pure_fieldAddr0 rfl) rfl rfl ?_
    refine seq_load (load_bs rfl rfl (by repeat (first | exact List.Mem.head _ | apply List.Mem.tail)) (by rfl)) rfl rfl ?_
    refine seq_valb rfl (o2) rfl rfl (fun h353 => ?_) (fun h353 => ?_)
    ·refine seq_pure (pure_not_t rfl) rfl rfl ?_
     refine seq_pure (pure_pick_t rfl rfl) rfl rfl ?_
     refine seq_pure (pure_assign rfl) rfl rfl ?_
     refine seq_done ?_
     refine nrm_seq ?_
     refine tri_cond_f rfl ?_
     refine tri_seq ?_
     refine tri_region ?_
     refine seq_pure (pure_move rfl) rfl rfl ?_
     refine seq_pure (pure_not_t rfl) rfl rfl ?_
     refine seq_pure (pure_move rfl) rfl rfl ?_
     refine seq_skip rfl rfl ?_
     refine seq_skip rfl rfl ?_
     refine seq_skip rfl rfl ?_
     refine seq_pure (pure_pick_f rfl rfl) rfl rfl ?_
     refine seq_pure (pure_assign rfl) rfl rfl ?_
     refine seq_done ?_
     refine nrm_seq ?_
     refine tri_cond_f rfl ?_
     refine tri_region ?_
     refine seq_pure (pure_fieldAddr0 rfl) rfl rfl ?_
     refine seq_load (load_bs rfl rfl (by repeat (first | exact List.Mem.head _ | apply List.Mem.tail)) (by rfl)) rfl rfl ?_
     refine seq_pure (pure_move rfl) rfl rfl ?_
     refine seq_valb rfl (within_fn _ _ _ _) rfl rfl (fun h377 => ?_) (fun h377 => ?_)
     ·refine seq_pure (pure_not_t rfl) rfl rfl ?_
      refine seq_pure (pure_assign rfl) rfl rfl ?_
      refine seq_done ?_
      refine nrm_seq ?_
      refine tri_cond_f rfl ?_
      refine tri_seq ?_
      refine tri_seq ?_
      refine tri_region ?_
      refine seq_pure (pure_move rfl) rfl rfl ?_
      refine seq_pure (pure_move rfl) rfl rfl ?_
      refine seq_pure (pure_fieldAddr0 rfl) rfl rfl ?_
      refine seq_load (load_ba rfl rfl (by repeat (first | exact List.Mem.head _ | apply List.Mem.tail)) (by rfl)) rfl rfl ?_
      refine seq_valb rfl (o3) rfl rfl (fun h390 => ?_) (fun h390 => ?_)
      ·refine seq_pure (pure_not_t rfl) rfl rfl ?_
       refine seq_pure (pure_pick_t rfl rfl) rfl rfl ?_
       refine seq_pure (pure_assign rfl) rfl rfl ?_
       refine seq_done ?_
       refine nrm_seq ?_
       refine tri_cond_f rfl ?_
       refine tri_region ?_
       refine seq_pure (pure_move rfl) rfl rfl ?_
       refine seq_pure (pure_not_t rfl) rfl rfl ?_
       refine seq_pure (pure_move rfl) rfl rfl ?_
       refine seq_skip rfl rfl ?_
       refine seq_skip rfl rfl ?_
       refine seq_skip rfl rfl ?_
       refine seq_skip rfl rfl ?_
       refine seq_pure (pure_pick_f rfl rfl) rfl rfl ?_
       refine seq_pure (pure_assign rfl) rfl rfl ?_
       refine seq_done ?_
       refine nrm_seq ?_
       refine tri_cond_f rfl ?_
       refine tri_seq ?_
       refine tri_seq ?_
       refine tri_region ?_
       refine seq_pure (pure_move rfl) rfl rfl ?_
       refine seq_pure (pure_move rfl) rfl rfl ?_
       refine seq_skip rfl rfl ?_
       refine seq_skip rfl rfl ?_
       refine seq_skip rfl rfl ?_
       refine seq_skip rfl rfl ?_
       refine seq_skip rfl rfl ?_
       refine seq_skip rfl rfl ?_
       refine seq_skip rfl rfl ?_
       refine seq_skip rfl rfl ?_
       refine seq_skip rfl rfl ?_
       refine seq_skip rfl rfl ?_
       refine seq_skip rfl rfl ?_
       refine seq_skip rfl rfl ?_
       refine seq_pure (pure_pick_f rfl rfl) rfl rfl ?_
       refine seq_pure (pure_assign rfl) rfl rfl ?_
       refine seq_done ?_
       refine nrm_seq ?_
       refine tri_cond_f rfl ?_
       refine tri_region ?_
       refine seq_pure (pure_move rfl) rfl rfl ?_
       refine seq_pure (pure_not_f rfl) rfl rfl ?_
       refine seq_pure (pure_move rfl) rfl rfl ?_
       refine seq_pure (pure_fieldAddr0 rfl) rfl rfl ?_
       refine seq_load (load_ba rfl rfl (by repeat (first | exact List.Mem.head _ | apply List.Mem.tail)) (by rfl)) rfl rfl ?_
       refine seq_valb rfl (o7) rfl rfl (fun h438 => ?_) (fun h438 => ?_)
       ·refine seq_pure (pure_not_t rfl) rfl rfl ?_
        refine seq_pure (pure_move rfl) rfl rfl ?_
        refine seq_pure (pure_fieldAddr0 rfl) rfl rfl ?_
        refine seq_load (load_bs rfl rfl (by repeat (first | exact List.Mem.head _ | apply List.Mem.tail)) (by rfl)) rfl rfl ?_
        refine seq_bool (pure_neq rfl rfl) rfl rfl (fun h443 => ?_) (fun h443 => ?_)
        ·refine seq_pure (pure_pick_f rfl rfl) rfl rfl ?_
         refine seq_pure (pure_pick_t rfl rfl) rfl rfl ?_
         refine seq_pure (pure_assign rfl) rfl rfl ?_
         refine seq_done ?_
         refine nrm_seq ?_
         refine tri_cond_t rfl ?_
         refine tri_seq ?_
         refine tri_region ?_
         refine seq_pure (pure_assign rfl) rfl rfl ?_
         refine seq_done ?_
         refine nrm_seq ?_
         refine tri_ret ?_
         refine ret_block ?_
         refine ret_seq ?_
         refine ret_fin1 (res_tmp rfl) ?_
         exact ⟨rfl, by (cases R with | false => rfl | true => (exfalso; obtain ⟨i1, i2, i3, i4, i5, i6, i7, i8, i9⟩ := hi.1 rfl; first | omega | (have j := i2 (by omega); simp_all; done) | (have j := i3 (by omega); simp_all; done) | (have j := i4 (by omega); simp_all; done) | (have j := i5 (by omega); simp_all; done) | (have j := i6 (by omega); simp_all; done) | (have j := i7 (by omega); simp_all; done) | (have j := i8 (by omega); simp_all; done) | (have j := i9 (by omega); simp_all; done))), rfl⟩
        ·refine seq_pure (pure_pick_f rfl rfl) rfl rfl ?_
         refine seq_pure (pure_pick_t rfl rfl) rfl rfl ?_
         refine seq_pure (pure_assign rfl) rfl rfl ?_
         refine seq_done ?_
         refine nrm_seq ?_
         refine tri_cond_f rfl ?_
         refine tri_skip ?_
         refine nrm_block ?_
         refine nrm_seq ?_
         refine tri_seq ?_
         refine tri_region ?_
         refine seq_pure (pure_assign rfl) rfl rfl ?_
         refine seq_done ?_
         refine nrm_seq ?_
         refine tri_ret ?_
         refine ret_fin1 (res_tmp rfl) ?_
         exact ⟨rfl, by rw [hi.2 ⟨by omega, fun _ => by (first | assumption | (exfalso; omega) | exact Classical.not_not.1 (by assumption)), fun _ => by (first | assumption | (exfalso; omega) | exact Classical.not_not.1 (by assumption)), fun _ => by (first | assumption | (exfalso; omega) | exact Classical.not_not.1 (by assumption)), fun _ => by (first | assumption | (exfalso; omega) | exact Classical.not_not.1 (by assumption)), fun _ => by (first | assumption | (exfalso; omega) | exact Classical.not_not.1 (by assumption)), fun _ => by (first | assumption | (exfalso; omega) | exact Classical.not_not.1 (by assumption)), fun _ => ⟨by (first | assumption | (exfalso; omega)), by (first | assumption | (exfalso; omega))⟩, fun _ => ⟨by (first | assumption | (exfalso; omega)), by (first | assumption | omega)⟩⟩], rfl⟩
       ·refine seq_pure (pure_not_f rfl) rfl rfl ?_
        refine seq_pure (pure_move rfl) rfl rfl ?_
        refine seq_skip rfl rfl ?_
        refine seq_skip rfl rfl ?_
        refine seq_skip rfl rfl ?_
        refine seq_pure (pure_pick_t rfl rfl) rfl rfl ?_
        refine seq_pure (pure_pick_t rfl rfl) rfl rfl ?_
        refine seq_pure (pure_assign rfl) rfl rfl ?_
        refine seq_done ?_
        refine nrm_seq ?_
        refine tri_cond_t rfl ?_
        refine tri_seq ?_
        refine tri_region ?_
        refine seq_pure (pure_assign rfl) rfl rfl ?_
        refine seq_done ?_
        refine nrm_seq ?_
        refine tri_ret ?_
        refine ret_block ?_
        refine ret_seq ?_
        refine ret_fin1 (res_tmp rfl) ?_
        exact ⟨rfl, by (cases R with | false => rfl | true => (exfalso; obtain ⟨i1, i2, i3, i4, i5, i6, i7, i8, i9⟩ := hi.1 rfl; first | omega | (have j := i2 (by omega); simp_all; done) | (have j := i3 (by omega); simp_all; done) | (have j := i4 (by omega); simp_all; done) | (have j := i5 (by omega); simp_all; done) | (have j := i6 (by omega); simp_all; done) | (have j := i7 (by omega); simp_all; done) | (have j := i8 (by omega); simp_all; done) | (have j := i9 (by omega); simp_all; done))), rfl⟩
      ·refine seq_pure (pure_not_f rfl) rfl rfl ?_
       refine seq_pure (pure_pick_t rfl rfl) rfl rfl ?_
       refine seq_pure (pure_assign rfl) rfl rfl ?_
       refine seq_done ?_
       refine nrm_seq ?_
       refine tri_cond_t rfl ?_
       refine tri_skip ?_
       refine nrm_seq ?_
       refine tri_cond_t rfl ?_
       refine tri_seq ?_
       refine tri_region ?_
       refine seq_pure (pure_assign rfl) rfl rfl ?_
       refine seq_done ?_
       refine nrm_seq ?_
       refine tri_ret ?_
       refine ret_block ?_
       refine ret_seq ?_
       refine ret_fin1 (res_tmp rfl) ?_
       exact ⟨rfl, by (cases R with | false => rfl | true => (exfalso; obtain ⟨i1, i2, i3, i4, i5, i6, i7, i8, i9⟩ := hi.1 rfl; first | omega | (have j := i2 (by omega); simp_all; done) | (have j := i3 (by omega); simp_all; done) | (have j := i4 (by omega); simp_all; done) | (have j := i5 (by omega); simp_all; done) | (have j := i6 (by omega); simp_all; done) | (have j := i7 (by omega); simp_all; done) | (have j := i8 (by omega); simp_all; done) | (have j := i9 (by omega); simp_all; done))), rfl⟩
     ·refine seq_pure (pure_not_f rfl) rfl rfl ?_
      refine seq_pure (pure_assign rfl) rfl rfl ?_
      refine seq_done ?_
      refine nrm_seq ?_
      refine tri_cond_t rfl ?_
      refine tri_seq ?_
      refine tri_region ?_
      refine seq_pure (pure_assign rfl) rfl rfl ?_
      refine seq_done ?_
      refine nrm_seq ?_
      refine tri_ret ?_
      refine ret_block ?_
      refine ret_seq ?_
      refine ret_fin1 (res_tmp rfl) ?_
      exact ⟨rfl, by (cases R with | false => rfl | true => (exfalso; obtain ⟨i1, i2, i3, i4, i5, i6, i7, i8, i9⟩ := hi.1 rfl; first | omega | (have j := i2 (by omega); simp_all; done) | (have j := i3 (by omega); simp_all; done) | (have j := i4 (by omega); simp_all; done) | (have j := i5 (by omega); simp_all; done) | (have j := i6 (by omega); simp_all; done) | (have j := i7 (by omega); simp_all; done) | (have j := i8 (by omega); simp_all; done) | (have j := i9 (by omega); simp_all; done))), rfl⟩
    ·refine seq_pure (pure_not_f rfl) rfl rfl ?_
     refine seq_pure (pure_pick_t rfl rfl) rfl rfl ?_
     refine seq_pure (pure_assign rfl) rfl rfl ?_
     refine seq_done ?_
     refine nrm_seq ?_
     refine tri_cond_t rfl ?_
     refine tri_skip ?_
     refine nrm_seq ?_
     refine tri_cond_t rfl ?_
     refine tri_seq ?_
     refine tri_region ?_
     refine seq_pure (pure_assign rfl) rfl rfl ?_
     refine seq_done ?_
     refine nrm_seq ?_
     refine tri_ret ?_
     refine ret_block ?_
     refine ret_seq ?_
     refine ret_fin1 (res_tmp rfl) ?_
     exact ⟨rfl, by (cases R with | false => rfl | true => (exfalso; obtain ⟨i1, i2, i3, i4, i5, i6, i7, i8, i9⟩ := hi.1 rfl; first | omega | (have j := i2 (by omega); simp_all; done) | (have j := i3 (by omega); simp_all; done) | (have j := i4 (by omega); simp_all; done) | (have j := i5 (by omega); simp_all; done) | (have j := i6 (by omega); simp_all; done) | (have j := i7 (by omega); simp_all; done) | (have j := i8 (by omega); simp_all; done) | (have j := i9 (by omega); simp_all; done))), rfl⟩
   ·refine seq_pure (pure_pick_f rfl rfl) rfl rfl ?_
    refine seq_pure (pure_assign rfl) rfl rfl ?_
    refine seq_done ?_
    refine nrm_seq ?_
    refine tri_seq ?_
    refine tri_region ?_
    refine seq_pure (pure_fieldAddr0 rfl) rfl rfl ?_
    refine seq_load (load_bs rfl rfl (by repeat (first | exact List.Mem.head _ | apply List.Mem.tail)) (by rfl)) rfl rfl ?_
    refine seq_pure (pure_eql_f rfl rfl (by omega)) rfl rfl ?_
    refine seq_pure (pure_move rfl) rfl rfl ?_
    refine seq_pure (pure_fieldAddr0 rfl) rfl rfl ?_
    refine seq_load (load_bs rfl rfl (by repeat (first | exact List.Mem.head _ | apply List.Mem.tail)) (by rfl)) rfl rfl ?_
    refine seq_bool (pure_eql rfl rfl) rfl rfl (fun h563 => ?_) (fun h563 => ?_)
    ·refine seq_pure (pure_pick_f rfl rfl) rfl rfl ?_
     refine seq_pure (pure_move rfl) rfl rfl ?_
     refine seq_skip rfl rfl ?_
     refine seq_skip rfl rfl ?_
     refine seq_skip rfl rfl ?_
     refine seq_pure (pure_pick_t rfl rfl) rfl rfl ?_
     refine seq_pure (pure_assign rfl) rfl rfl ?_
     refine seq_done ?_
     refine nrm_seq ?_
     refine tri_seq ?_
     refine tri_region ?_
     refine seq_pure (pure_fieldAddr0 rfl) rfl rfl ?_
     refine seq_load (load_bs rfl rfl (by repeat (first | exact List.Mem.head _ | apply List.Mem.tail)) (by rfl)) rfl rfl ?_
     refine seq_pure (pure_eql_f rfl rfl (by omega)) rfl rfl ?_
     refine seq_pure (pure_assign rfl) rfl rfl ?_
     refine seq_done ?_
     refine nrm_seq ?_
     refine tri_seq ?_
     refine tri_region ?_
     refine seq_pure (pure_assign rfl) rfl rfl ?_
     refine seq_done ?_
     refine nrm_seq ?_
     refine tri_seq ?_
     refine tri_seq ?_
     refine tri_region ?_
     refine seq_pure (pure_fieldAddr0 rfl) rfl rfl ?_
     refine seq_load (load_bs rfl rfl (by repeat (first | exact List.Mem.head _ | apply List.Mem.tail)) (by rfl)) rfl rfl ?_
     refine seq_pure (pure_eql_f rfl rfl (by omega)) rfl rfl ?_
     refine seq_done ?_
     refine nrm_seq ?_
     refine tri_cond_f rfl ?_
     refine tri_skip ?_
     refine nrm_seq ?_
     refine tri_seq ?_
     refine tri_block ?_
     refine tri_seq ?_
     refine tri_seq ?_
     refine tri_region ?_
     refine seq_pure (pure_move rfl) rfl rfl ?_
     refine seq_pure (pure_move rfl) rfl rfl ?_
     refine seq_skip rfl rfl ?_
     refine seq_skip rfl rfl ?_
     refine seq_skip rfl rfl ?_
     refine seq_skip rfl rfl ?_
     refine seq_pure (pure_pick_f rfl rfl) rfl rfl ?_
     refine seq_pure (pure_assign rfl) rfl rfl ?_
     refine seq_done ?_
     refine nrm_seq ?_
     refine tri_cond_f rfl ?_
     refine tri_seq ?_
     refine tri_region ?_
     refine seq_pure (pure_move rfl) rfl rfl ?_
     refine seq_pure (pure_not_f rfl) rfl rfl ?_
     refine seq_pure (pure_move rfl) rfl rfl ?_
     refine seq_pure (pure_fieldAddr0 rfl) rfl rfl ?_
     refine seq_load (load_bs rfl rfl (by repeat (first | exact List.Mem.head _ | apply List.Mem.tail)) (by rfl)) rfl rfl ?_
     refine seq_bool (pure_sneq rfl rfl) rfl rfl (fun h620 => ?_) (fun h620 => ?_)
     ·refine seq_pure (pure_pick_t rfl rfl) rfl rfl ?_
      refine seq_pure (pure_assign rfl) rfl rfl ?_
      refine seq_done ?_
      refine nrm_seq ?_
      refine tri_cond_t rfl ?_
      refine tri_skip ?_
      refine nrm_seq ?_
      refine tri_cond_t rfl ?_
      refine tri_seq ?_
      refine tri_region ?_
      refine seq_pure (pure_assign rfl) rfl rfl ?_
      refine seq_done ?_
      refine nrm_seq ?_
      refine tri_ret ?_
      refine ret_block ?_
      refine ret_seq ?_
      refine ret_fin1 (res_tmp rfl) ?_
      exact ⟨rfl, by (cases R with | false => rfl | true => (exfalso; obtain ⟨i1, i2, i3, i4, i5, i6, i7, i8, i9⟩ := hi.1 rfl; first | omega | (have j := i2 (by omega); simp_all; done) | (have j := i3 (by omega); simp_all; done) | (have j := i4 (by omega); simp_all; done) | (have j := i5 (by omega); simp_all; done) | (have j := i6 (by omega); simp_all; done) | (have j := i7 (by omega); simp_all; done) | (have j := i8 (by omega); simp_all; done) | (have j := i9 (by omega); simp_all; done))), rfl⟩
     ·refine seq_pure (pure_pick_t rfl rfl) rfl rfl ?_
      refine seq_pure (pure_assign rfl) rfl rfl ?_
      refine seq_done ?_
      refine nrm_seq ?_
      refine tri_cond_f rfl ?_
      refine tri_region ?_
      refine seq_pure (pure_fieldAddr0 rfl) rfl rfl ?_
      refine seq_load (load_bs rfl rfl (by repeat (first | exact List.Mem.head _ | apply List.Mem.tail)) (by rfl)) rfl rfl ?_
      refine seq_pure (pure_move rfl) rfl rfl ?_
      refine seq_valb rfl (within_fn _ _ _ _) rfl rfl (fun h648 => ?_) (fun h648 => ?_)
      ·refine seq_pure (pure_not_t rfl) rfl rfl ?_
       refine seq_pure (pure_assign rfl) rfl rfl ?_
       refine seq_done ?_
       refine nrm_seq ?_
       refine tri_cond_f rfl ?_
       refine tri_seq ?_
       refine tri_seq ?_
       refine tri_region ?_
       refine seq_pure (pure_move rfl) rfl rfl ?_
       refine seq_pure (pure_move rfl) rfl rfl ?_
       refine seq_pure (pure_fieldAddr0 rfl) rfl rfl ?_
       refine seq_load (load_ba rfl rfl (by repeat (first | exact List.Mem.head _ | apply List.Mem.tail)) (by rfl)) rfl rfl ?_
       refine seq_valb rfl (o3) rfl rfl (fun h661 => ?_) (fun h661 => ?_)
       ·refine seq_pure (pure_not_t rfl) rfl rfl ?_
        refine seq_pure (pure_pick_t rfl rfl) rfl rfl ?_
        refine seq_pure (pure_assign rfl) rfl rfl ?_
        refine seq_done ?_
        refine nrm_seq ?_
        refine tri_cond_f rfl ?_
        refine tri_region ?_
        refine seq_pure (pure_move rfl) rfl rfl ?_
        refine seq_pure (pure_not_t rfl) rfl rfl ?_
        refine seq_pure (pure_move rfl) rfl rfl ?_
        refine seq_skip rfl rfl ?_
        refine seq_skip rfl rfl ?_
        refine seq_skip rfl rfl ?_
        refine seq_skip rfl rfl ?_
        refine seq_pure (pure_pick_f rfl rfl) rfl rfl ?_
        refine seq_pure (pure_assign rfl) rfl rfl ?_
        refine seq_done ?_
        refine nrm_seq ?_
        refine tri_cond_f rfl ?_
        refine tri_seq ?_
        refine tri_seq ?_
        refine tri_region ?_
        refine seq_pure (pure_move rfl) rfl rfl ?_
        refine seq_pure (pure_move rfl) rfl rfl ?_
        refine seq_skip rfl rfl ?_
        refine seq_skip rfl rfl ?_
        refine seq_skip rfl rfl ?_
        refine seq_skip rfl rfl ?_
        refine seq_skip rfl rfl ?_
        refine seq_skip rfl rfl ?_
        refine seq_skip rfl rfl ?_
        refine seq_skip rfl rfl ?_
        refine seq_skip rfl rfl ?_
        refine seq_skip rfl rfl ?_
        refine seq_skip rfl rfl ?_
        refine seq_skip rfl rfl ?_
        refine seq_pure (pure_pick_f rfl rfl) rfl rfl ?_
        refine seq_pure (pure_assign rfl) rfl rfl ?_
        refine seq_done ?_
        refine nrm_seq ?_
        refine tri_cond_f rfl ?_
        refine tri_region ?_
        refine seq_pure (pure_move rfl) rfl rfl ?_
        refine seq_pure (pure_not_f rfl) rfl rfl ?_
        refine seq_pure (pure_move rfl) rfl rfl ?_
        refine seq_pure (pure_fieldAddr0 rfl) rfl rfl ?_
        refine seq_load (load_ba rfl rfl (by repeat (first | exact List.Mem.head _ | apply List.Mem.tail)) (by rfl)) rfl rfl ?_
        refine seq_valb rfl (o7) rfl rfl (fun h709 => ?_) (fun h709 => ?_)
        ·refine seq_pure (pure_not_t rfl) rfl rfl ?_
         refine seq_pure (pure_move rfl) rfl rfl ?_
         refine seq_pure (pure_fieldAddr0 rfl) rfl rfl ?_
         refine seq_load (load_bs rfl rfl (by repeat (first | exact List.Mem.head _ | apply List.Mem.tail)) (by rfl)) rfl rfl ?_
         refine seq_bool (pure_neq rfl rfl) rfl rfl (fun h714 => ?_) (fun h714 => ?_)
         ·refine seq_pure (pure_pick_f rfl rfl) rfl rfl ?_
          refine seq_pure (pure_pick_t rfl rfl) rfl rfl ?_
          refine seq_pure (pure_assign rfl) rfl rfl ?_
          refine seq_done ?_
          refine nrm_seq ?_
          refine tri_cond_t rfl ?_
          refine tri_seq ?_
          refine tri_region ?_
          refine seq_pure (pure_assign rfl) rfl rfl ?_
          refine seq_done ?_
          refine nrm_seq ?_
          refine tri_ret ?_
          refine ret_block ?_
          refine ret_seq ?_
          refine ret_fin1 (res_tmp rfl) ?_
          exact ⟨rfl, by (cases R with | false => rfl | true => (exfalso; obtain ⟨i1, i2, i3, i4, i5, i6, i7, i8, i9⟩ := hi.1 rfl; first | omega | (have j := i2 (by omega); simp_all; done) | (have j := i3 (by omega); simp_all; done) | (have j := i4 (by omega); simp_all; done) | (have j := i5 (by omega); simp_all; done) | (have j := i6 (by omega); simp_all; done) | (have j := i7 (by omega); simp_all; done) | (have j := i8 (by omega); simp_all; done) | (have j := i9 (by omega); simp_all; done))), rfl⟩
         ·refine seq_pure (pure_pick_f rfl rfl) rfl rfl ?_
          refine seq_pure (pure_pick_t rfl rfl) rfl rfl ?_
          refine seq_pure (pure_assign rfl) rfl rfl ?_
          refine seq_done ?_
          refine nrm_seq ?_
          refine tri_cond_f rfl ?_
          refine tri_skip ?_
          refine nrm_block ?_
          refine nrm_seq ?_
          refine tri_seq ?_
          refine tri_region ?_
          refine seq_pure (pure_assign rfl) rfl rfl ?_
          refine seq_done ?_
          refine nrm_seq ?_
          refine tri_ret ?_
          refine ret_fin1 (res_tmp rfl) ?_
          exact ⟨rfl, by rw [hi.2 ⟨by omega, fun _ => by (first | assumption | (exfalso; omega) | exact Classical.not_not.1 (by assumption)), fun _ => by (first | assumption | (exfalso; omega) | exact Classical.not_not.1 (by assumption)), fun _ => by (first | assumption | (exfalso; omega) | exact Classical.not_not.1 (by assumption)), fun _ => by (first | assumption | (exfalso; omega) | exact Classical.not_not.1 (by assumption)), fun _ => by (first | assumption | (exfalso; omega) | exact Classical.not_not.1 (by assumption)), fun _ => by (first | assumption | (exfalso; omega) | exact Classical.not_not.1 (by assumption)), fun _ => ⟨by (first | assumption | (exfalso; omega)), by (first | assumption | (exfalso; omega))⟩, fun _ => ⟨by (first | assumption | (exfalso; omega)), by (first | assumption | omega)⟩⟩], rfl⟩
        ·refine seq_pure (pure_not_f rfl) rfl rfl ?_
         refine seq_pure (pure_move rfl) rfl rfl ?_
         refine seq_skip rfl rfl ?_
         refine seq_skip rfl rfl ?_
         refine seq_skip rfl rfl ?_
         refine seq_pure (pure_pick_t rfl rfl) rfl rfl ?_
         refine seq_pure (pure_pick_t rfl rfl) rfl rfl ?_
         refine seq_pure (pure_assign rfl) rfl rfl ?_
         refine seq_done ?_
         refine nrm_seq ?_
         refine tri_cond_t rfl ?_
         refine tri_seq ?_
         refine tri_region ?_
         refine seq_pure (pure_assign rfl) rfl rfl ?_
         refine seq_done ?_
         refine nrm_seq ?_
         refine tri_ret ?_
         refine ret_block ?_
         refine ret_seq ?_
         refine ret_fin1 (res_tmp rfl) ?_
         exact ⟨rfl, by (cases R with | false => rfl | true => (exfalso; obtain ⟨i1, i2, i3, i4, i5, i6, i7, i8, i9⟩ := hi.1 rfl; first | omega | (have j := i2 (by omega); simp_all; done) | (have j := i3 (by omega); simp_all; done) | (have j := i4 (by omega); simp_all; done) | (have j := i5 (by omega); simp_all; done) | (have j := i6 (by omega); simp_all; done) | (have j := i7 (by omega); simp_all; done) | (have j := i8 (by omega); simp_all; done) | (have j := i9 (by omega); simp_all; done))), rfl⟩
       ·refine seq_pure (pure_not_f rfl) rfl rfl ?_
        refine seq_pure (pure_pick_t rfl rfl) rfl rfl ?_
        refine seq_pure (pure_assign rfl) rfl rfl ?_
        refine seq_done ?_
        refine nrm_seq ?_
        refine tri_cond_t rfl ?_
        refine tri_skip ?_
        refine nrm_seq ?_
        refine tri_cond_t rfl ?_
        refine tri_seq ?_
        refine tri_region ?_
        refine seq_pure (pure_assign rfl) rfl rfl ?_
        refine seq_done ?_
        refine nrm_seq ?_
        refine tri_ret ?_
        refine ret_block ?_
        refine ret_seq ?_
        refine ret_fin1 (res_tmp rfl) ?_
        exact ⟨rfl, by (cases R with | false => rfl | true => (exfalso; obtain ⟨i1, i2, i3, i4, i5, i6, i7, i8, i9⟩ := hi.1 rfl; first | omega | (have j := i2 (by omega); simp_all; done) | (have j := i3 (by omega); simp_all; done) | (have j := i4 (by omega); simp_all; done) | (have j := i5 (by omega); simp_all; done) | (have j := i6 (by omega); simp_all; done) | (have j := i7 (by omega); simp_all; done) | (have j := i8 (by omega); simp_all; done) | (have j := i9 (by omega); simp_all; done))), rfl⟩
      ·refine seq_pure (pure_not_f rfl) rfl rfl ?_
       refine seq_pure (pure_assign rfl) rfl rfl ?_
       refine seq_done ?_
       refine nrm_seq ?_
       refine tri_cond_t rfl ?_
       refine tri_seq ?_
       refine tri_region ?_
       refine seq_pure (pure_assign rfl) rfl rfl ?_
       refine seq_done ?_
       refine nrm_seq ?_
       refine tri_ret ?_
       refine ret_block ?_
       refine ret_seq ?_
       refine ret_fin1 (res_tmp rfl) ?_
       exact ⟨rfl, by (cases R with | false => rfl | true => (exfalso; obtain ⟨i1, i2, i3, i4, i5, i6, i7, i8, i9⟩ := hi.1 rfl; first | omega | (have j := i2 (by omega); simp_all; done) | (have j := i3 (by omega); simp_all; done) | (have j := i4 (by omega); simp_all; done) | (have j := i5 (by omega); simp_all; done) | (have j := i6 (by omega); simp_all; done) | (have j := i7 (by omega); simp_all; done) | (have j := i8 (by omega); simp_all; done) | (have j := i9 (by omega); simp_all; done))), rfl⟩
    ·refine seq_pure (pure_pick_f rfl rfl) rfl rfl ?_
     refine seq_pure (pure_move rfl) rfl rfl ?_
     refine seq_pure (pure_fieldAddr0 rfl) rfl rfl ?_
     refine seq_load (load_bs rfl rfl (by repeat (first | exact List.Mem.head _ | apply List.Mem.tail)) (by rfl)) rfl rfl ?_
     refine seq_bool (pure_eql rfl rfl) rfl rfl (fun h807 => ?_) (fun h807 => ?_)
     ·refine seq_pure (pure_pick_f rfl rfl) rfl rfl ?_
      refine seq_pure (pure_assign rfl) rfl rfl ?_
      refine seq_done ?_
      refine nrm_seq ?_
      refine tri_seq ?_
      refine tri_region ?_
      refine seq_pure (pure_fieldAddr0 rfl) rfl rfl ?_
      refine seq_load (load_bs rfl rfl (by repeat (first | exact List.Mem.head _ | apply List.Mem.tail)) (by rfl)) rfl rfl ?_
      refine seq_pure (pure_eql_t rfl rfl (by omega)) rfl rfl ?_
      refine seq_pure (pure_assign rfl) rfl rfl ?_
      refine seq_done ?_
      refine nrm_seq ?_
      refine tri_seq ?_
      refine tri_region ?_
      refine seq_pure (pure_assign rfl) rfl rfl ?_
      refine seq_done ?_
      refine nrm_seq ?_
      refine tri_seq ?_
      refine tri_seq ?_
      refine tri_region ?_
      refine seq_pure (pure_fieldAddr0 rfl) rfl rfl ?_
      refine seq_load (load_bs rfl rfl (by repeat (first | exact List.Mem.head _ | apply List.Mem.tail)) (by rfl)) rfl rfl ?_
      refine seq_pure (pure_eql_f rfl rfl (by omega)) rfl rfl ?_
      refine seq_done ?_
      refine nrm_seq ?_
      refine tri_cond_f rfl ?_
      refine tri_skip ?_
      refine nrm_seq ?_
      refine tri_seq ?_
      refine tri_block ?_
      refine tri_seq ?_
      refine tri_seq ?_
      refine tri_region ?_
      refine seq_pure (pure_move rfl) rfl rfl ?_
      refine seq_pure (pure_move rfl) rfl rfl ?_
      refine seq_skip rfl rfl ?_
      refine seq_skip rfl rfl ?_
      refine seq_skip rfl rfl ?_
      refine seq_skip rfl rfl ?_
      refine seq_pure (pure_pick_f rfl rfl) rfl rfl ?_
      refine seq_pure (pure_assign rfl) rfl rfl ?_
      refine seq_done ?_
      refine nrm_seq ?_
      refine tri_cond_f rfl ?_
      refine tri_seq ?_
      refine tri_region ?_
      refine seq_pure (pure_move rfl) rfl rfl ?_
      refine seq_pure (pure_not_f rfl) rfl rfl ?_
      refine seq_pure (pure_move rfl) rfl rfl ?_
      refine seq_pure (pure_fieldAddr0 rfl) rfl rfl ?_
      refine seq_load (load_bs rfl rfl (by repeat (first | exact List.Mem.head _ | apply List.Mem.tail)) (by rfl)) rfl rfl ?_
      refine seq_bool (pure_sneq rfl rfl) rfl rfl (fun h859 => ?_) (fun h859 => ?_)
      ·refine seq_pure (pure_pick_t rfl rfl) rfl rfl ?_
       refine seq_pure (pure_assign rfl) rfl rfl ?_
       refine seq_done ?_
       refine nrm_seq ?_
       refine tri_cond_t rfl ?_
       refine tri_skip ?_
       refine nrm_seq ?_
       refine tri_cond_t rfl ?_
       refine tri_seq ?_
       refine tri_region ?_
       refine seq_pure (pure_assign rfl) rfl rfl ?_
       refine seq_done ?_
       refine nrm_seq ?_
       refine tri_ret ?_
       refine ret_block ?_
       refine ret_seq ?_
       refine ret_fin1 (res_tmp rfl) ?_
       exact ⟨rfl, by (cases R with | false => rfl | true => (exfalso; obtain ⟨i1, i2, i3, i4, i5, i6, i7, i8, i9⟩ := hi.1 rfl; first | omega | (have j := i2 (by omega); simp_all; done) | (have j := i3 (by omega); simp_all; done) | (have j := i4 (by omega); simp_all; done) | (have j := i5 (by omega); simp_all; done) | (have j := i6 (by omega); simp_all; done) | (have j := i7 (by omega); simp_all; done) | (have j := i8 (by omega); simp_all; done) | (have j := i9 (by omega); simp_all; done))), rfl⟩
      ·refine seq_pure (pure_pick_t rfl rfl) rfl rfl ?_
       refine seq_pure (pure_assign rfl) rfl rfl ?_
       refine seq_done ?_
       refine nrm_seq ?_
       refine tri_cond_f rfl ?_
       refine tri_region ?_
       refine seq_pure (pure_fieldAddr0 rfl) rfl rfl ?_
       refine seq_load (load_bs rfl rfl (by repeat (first | exact List.Mem.head _ | apply List.Mem.tail)) (by rfl)) rfl rfl ?_
       refine seq_pure (pure_move rfl) rfl rfl ?_
       refine seq_valb rfl (within_fn _ _ _ _) rfl rfl (fun h887 => ?_) (fun h887 => ?_)
       ·refine seq_pure (pure_not_t rfl) rfl rfl ?_
        refine seq_pure (pure_assign rfl) rfl rfl ?_
        refine seq_done ?_
        refine nrm_seq ?_
        refine tri_cond_f rfl ?_
        refine tri_seq ?_
        refine tri_seq ?_
        refine tri_region ?_
        refine seq_pure (pure_move rfl) rfl rfl ?_
        refine seq_pure (pure_move rfl) rfl rfl ?_
        refine seq_pure (pure_fieldAddr0 rfl) rfl rfl ?_
        refine seq_load (load_ba rfl rfl (by repeat (first | exact List.Mem.head _ | apply List.Mem.tail)) (by rfl)) rfl rfl ?_
        refine seq_valb rfl (o3) rfl rfl (fun h900 => ?_) (fun h900 => ?_)
        ·refine seq_pure (pure_not_t rfl) rfl rfl ?_
         refine seq_pure (pure_pick_t rfl rfl) rfl rfl ?_
         refine seq_pure (pure_assign rfl) rfl rfl ?_
         refine seq_done ?_
         refine nrm_seq ?_
         refine tri_cond_f rfl ?_
         refine tri_region ?_
         refine seq_pure (pure_move rfl) rfl rfl ?_
         refine seq_pure (pure_not_t rfl) rfl rfl ?_
         refine seq_pure (pure_move rfl) rfl rfl ?_
         refine seq_skip rfl rfl ?_
         refine seq_skip rfl rfl ?_
         refine seq_skip rfl rfl ?_
         refine seq_skip rfl rfl ?_
         refine seq_pure (pure_pick_f rfl rfl) rfl rfl ?_
         refine seq_pure (pure_assign rfl) rfl rfl ?_
         refine seq_done ?_
         refine nrm_seq ?_
         refine tri_cond_f rfl ?_
         refine tri_seq ?_
         refine tri_seq ?_
         refine tri_region ?_
         refine seq_pure (pure_move rfl) rfl rfl ?_
         refine seq_pure (pure_move rfl) rfl rfl ?_
         refine seq_pure (pure_fieldAddr0 rfl) rfl rfl ?_
         refine seq_load (load_ba rfl rfl (by repeat (first | exact List.Mem.head _ | apply List.Mem.tail)) (by rfl)) rfl rfl ?_
         refine seq_pure (pure_fieldAddr0 rfl) rfl rfl ?_
         refine seq_load (load_ba rfl rfl (by repeat (first | exact List.Mem.head _ | apply List.Mem.tail)) (by rfl)) rfl rfl ?_
         refine seq_valb rfl (o5) rfl rfl (fun h929 => ?_) (fun h929 => ?_)
         ·refine seq_pure (pure_not_t rfl) rfl rfl ?_
          refine seq_pure (pure_move rfl) rfl rfl ?_
          refine seq_pure (pure_fieldAddr0 rfl) rfl rfl ?_
          refine seq_load (load_bs rfl rfl (by repeat (first | exact List.Mem.head _ | apply List.Mem.tail)) (by rfl)) rfl rfl ?_
          refine seq_valb rfl (o6) rfl rfl (fun h934 => ?_) (fun h934 => ?_)
          ·refine seq_pure (pure_not_t rfl) rfl rfl ?_
           refine seq_pure (pure_pick_f rfl rfl) rfl rfl ?_
           refine seq_pure (pure_pick_t rfl rfl) rfl rfl ?_
           refine seq_pure (pure_assign rfl) rfl rfl ?_
           refine seq_done ?_
           refine nrm_seq ?_
           refine tri_cond_f rfl ?_
           refine tri_region ?_
           refine seq_pure (pure_move rfl) rfl rfl ?_
           refine seq_pure (pure_not_t rfl) rfl rfl ?_
           refine seq_pure (pure_move rfl) rfl rfl ?_
           refine seq_skip rfl rfl ?_
           refine seq_skip rfl rfl ?_
           refine seq_skip rfl rfl ?_
           refine seq_skip rfl rfl ?_
           refine seq_skip rfl rfl ?_
           refine seq_skip rfl rfl ?_
           refine seq_skip rfl rfl ?_
           refine seq_skip rfl rfl ?_
           refine seq_skip rfl rfl ?_
           refine seq_pure (pure_pick_f rfl rfl) rfl rfl ?_
           refine seq_pure (pure_assign rfl) rfl rfl ?_
           refine seq_done ?_
           refine nrm_seq ?_
           refine tri_cond_f rfl ?_
           refine tri_skip ?_
           refine nrm_block ?_
           refine nrm_seq ?_
           refine tri_seq ?_
           refine tri_region ?_
           refine seq_pure (pure_assign rfl) rfl rfl ?_
           refine seq_done ?_
           refine nrm_seq ?_
           refine tri_ret ?_
           refine ret_fin1 (res_tmp rfl) ?_
           exact ⟨rfl, by rw [hi.2 ⟨by omega, fun _ => by (first | assumption | (exfalso; omega) | exact Classical.not_not.1 (by assumption)), fun _ => by (first | assumption | (exfalso; omega) | exact Classical.not_not.1 (by assumption)), fun _ => by (first | assumption | (exfalso; omega) | exact Classical.not_not.1 (by assumption)), fun _ => by (first | assumption | (exfalso; omega) | exact Classical.not_not.1 (by assumption)), fun _ => by (first | assumption | (exfalso; omega) | exact Classical.not_not.1 (by assumption)), fun _ => by (first | assumption | (exfalso; omega) | exact Classical.not_not.1 (by assumption)), fun _ => ⟨by (first | assumption | (exfalso; omega)), by (first | assumption | (exfalso; omega))⟩, fun _ => ⟨by (first | assumption | (exfalso; omega)), by (first | assumption | omega)⟩⟩], rfl⟩
          ·refine seq_pure (pure_not_f rfl) rfl rfl ?_
           refine seq_pure (pure_pick_f rfl rfl) rfl rfl ?_
           refine seq_pure (pure_pick_t rfl rfl) rfl rfl ?_
           refine seq_pure (pure_assign rfl) rfl rfl ?_
           refine seq_done ?_
           refine nrm_seq ?_
           refine tri_cond_t rfl ?_
           refine tri_skip ?_
           refine nrm_seq ?_
           refine tri_cond_t rfl ?_
           refine tri_seq ?_
           refine tri_region ?_
           refine seq_pure (pure_assign rfl) rfl rfl ?_
           refine seq_done ?_
           refine nrm_seq ?_
           refine tri_ret ?_
           refine ret_block ?_
           refine ret_seq ?_
           refine ret_fin1 (res_tmp rfl) ?_
           exact ⟨rfl, by (cases R with | false => rfl | true => (exfalso; obtain ⟨i1, i2, i3, i4, i5, i6, i7, i8, i9⟩ := hi.1 rfl; first | omega | (have j := i2 (by omega); simp_all; done) | (have j := i3 (by omega); simp_all; done) | (have j := i4 (by omega); simp_all; done) | (have j := i5 (by omega); simp_all; done) | (have j := i6 (by omega); simp_all; done) | (have j := i7 (by omega); simp_all; done) | (have j := i8 (by omega); simp_all; done) | (have j := i9 (by omega); simp_all; done))), rfl⟩
         ·refine seq_pure (pure_not_f rfl) rfl rfl ?_
          refine seq_pure (pure_move rfl) rfl rfl ?_
          refine seq_skip rfl rfl ?_
          refine seq_skip rfl rfl ?_
          refine seq_skip rfl rfl ?_
          refine seq_skip rfl rfl ?_
          refine seq_pure (pure_pick_t rfl rfl) rfl rfl ?_
          refine seq_pure (pure_pick_t rfl rfl) rfl rfl ?_
          refine seq_pure (pure_assign rfl) rfl rfl ?_
          refine seq_done ?_
          refine nrm_seq ?_
          refine tri_cond_t rfl ?_
          refine tri_skip ?_
          refine nrm_seq ?_
          refine tri_cond_t rfl ?_
          refine tri_seq ?_
          refine tri_region ?_
          refine seq_pure (pure_assign rfl) rfl rfl ?_
          refine seq_done ?_
          refine nrm_seq ?_
          refine tri_ret ?_
          refine ret_block ?_
          refine ret_seq ?_
          refine ret_fin1 (res_tmp rfl) ?_
          exact ⟨rfl, by (cases R with | false => rfl | true => (exfalso; obtain ⟨i1, i2, i3, i4, i5, i6, i7, i8, i9⟩ := hi.1 rfl; first | omega | (have j := i2 (by omega); simp_all; done) | (have j := i3 (by omega); simp_all; done) | (have j := i4 (by omega); simp_all; done) | (have j := i5 (by omega); simp_all; done) | (have j := i6 (by omega); simp_all; done) | (have j := i7 (by omega); simp_all; done) | (have j := i8 (by omega); simp_all; done) | (have j := i9 (by omega); simp_all; done))), rfl⟩
        ·refine seq_pure (pure_not_f rfl) rfl rfl ?_
         refine seq_pure (pure_pick_t rfl rfl) rfl rfl ?_
         refine seq_pure (pure_assign rfl) rfl rfl ?_
         refine seq_done ?_
         refine nrm_seq ?_
         refine tri_cond_t rfl ?_
         refine tri_skip ?_
         refine nrm_seq ?_
         refine tri_cond_t rfl ?_
         refine tri_seq ?_
         refine tri_region ?_
         refine seq_pure (pure_assign rfl) rfl rfl ?_
         refine seq_done ?_
         refine nrm_seq ?_
         refine tri_ret ?_
         refine ret_block ?_
         refine ret_seq ?_
         refine ret_fin1 (res_tmp rfl) ?_
         exact ⟨rfl, by (cases R with | false => rfl | true => (exfalso; obtain ⟨i1, i2, i3, i4, i5, i6, i7, i8, i9⟩ := hi.1 rfl; first | omega | (have j := i2 (by omega); simp_all; done) | (have j := i3 (by omega); simp_all; done) | (have j := i4 (by omega); simp_all; done) | (have j := i5 (by omega); simp_all; done) | (have j := i6 (by omega); simp_all; done) | (have j := i7 (by omega); simp_all; done) | (have j := i8 (by omega); simp_all; done) | (have j := i9 (by omega); simp_all; done))), rfl⟩
       ·refine seq_pure (pure_not_f rfl) rfl rfl ?_
        refine seq_pure (pure_assign rfl) rfl rfl ?_
        refine seq_done ?_
        refine nrm_seq ?_
        refine tri_cond_t rfl ?_
        refine tri_seq ?_
        refine tri_region ?_
        refine seq_pure (pure_assign rfl) rfl rfl ?_
        refine seq_done ?_
        refine nrm_seq ?_
        refine tri_ret ?_
        refine ret_block ?_
        refine ret_seq ?_
        refine ret_fin1 (res_tmp rfl) ?_
        exact ⟨rfl, by (cases R with | false => rfl | true => (exfalso; obtain ⟨i1, i2, i3, i4, i5, i6, i7, i8, i9⟩ := hi.1 rfl; first | omega | (have j := i2 (by omega); simp_all; done) | (have j := i3 (by omega); simp_all; done) | (have j := i4 (by omega); simp_all; done) | (have j := i5 (by omega); simp_all; done) | (have j := i6 (by omega); simp_all; done) | (have j := i7 (by omega); simp_all; done) | (have j := i8 (by omega); simp_all; done) | (have j := i9 (by omega); simp_all; done))), rfl⟩
     ·refine seq_pure (pure_pick_f rfl rfl) rfl rfl ?_
      refine seq_pure (pure_assign rfl) rfl rfl ?_
      refine seq_done ?_
      refine nrm_seq ?_
      refine tri_seq ?_
      refine tri_region ?_
      refine seq_pure (pure_fieldAddr0 rfl) rfl rfl ?_
      refine seq_load (load_bs rfl rfl (by repeat (first | exact List.Mem.head _ | apply List.Mem.tail)) (by rfl)) rfl rfl ?_
      refine seq_pure (pure_eql_f rfl rfl (by omega)) rfl rfl ?_
      refine seq_pure (pure_assign rfl) rfl rfl ?_
      refine seq_done ?_
      refine nrm_seq ?_
      refine tri_seq ?_
      refine tri_region ?_
      refine seq_pure (pure_assign rfl) rfl rfl ?_
      refine seq_done ?_
      refine nrm_seq ?_
      refine tri_seq ?_
      refine tri_seq ?_
      refine tri_region ?_
      refine seq_pure (pure_fieldAddr0 rfl) rfl rfl ?_
      refine seq_load (load_bs rfl rfl (by repeat (first | exact List.Mem.head _ | apply List.Mem.tail)) (by rfl)) rfl rfl ?_
      refine seq_bool (pure_eql rfl rfl) rfl rfl (fun h1072 => ?_) (fun h1072 => ?_)
      ·refine seq_done ?_
       refine nrm_seq ?_
       refine tri_cond_t rfl ?_
       refine tri_region ?_
       refine seq_pure (pure_assign rfl) rfl rfl ?_
       refine seq_done ?_
       refine nrm_seq ?_
       refine tri_seq ?_
       refine tri_block ?_
       refine tri_seq ?_
       refine tri_seq ?_
       refine tri_region ?_
       refine seq_pure (pure_move rfl) rfl rfl ?_
       refine seq_pure (pure_move rfl) rfl rfl ?_
       refine seq_skip rfl rfl ?_
       refine seq_skip rfl rfl ?_
       refine seq_skip rfl rfl ?_
       refine seq_skip rfl rfl ?_
       refine seq_pure (pure_pick_f rfl rfl) rfl rfl ?_
       refine seq_pure (pure_assign rfl) rfl rfl ?_
       refine seq_done ?_
       refine nrm_seq ?_
       refine tri_cond_f rfl ?_
       refine tri_seq ?_
       refine tri_region ?_
       refine seq_pure (pure_move rfl) rfl rfl ?_
       refine seq_pure (pure_not_f rfl) rfl rfl ?_
       refine seq_pure (pure_move rfl) rfl rfl ?_
       refine seq_pure (pure_fieldAddr0 rfl) rfl rfl ?_
       refine seq_load (load_bs rfl rfl (by repeat (first | exact List.Mem.head _ | apply List.Mem.tail)) (by rfl)) rfl rfl ?_
       refine seq_bool (pure_sneq rfl rfl) rfl rfl (fun h1103 => ?_) (fun h1103 => ?_)
       ·refine seq_pure (pure_pick_t rfl rfl) rfl rfl ?_
        refine seq_pure (pure_assign rfl) rfl rfl ?_
        refine seq_done ?_
        refine nrm_seq ?_
        refine tri_cond_t rfl ?_
        refine tri_skip ?_
        refine nrm_seq ?_
        refine tri_cond_t rfl ?_
        refine tri_seq ?_
        refine tri_region ?_
        refine seq_pure (pure_assign rfl) rfl rfl ?_
        refine seq_done ?_
        refine nrm_seq ?_
        refine tri_ret ?_
        refine ret_block ?_
        refine ret_seq ?_
        refine ret_fin1 (res_tmp rfl) ?_
        exact ⟨rfl, by (cases R with | false => rfl | true => (exfalso; obtain ⟨i1, i2, i3, i4, i5, i6, i7, i8, i9⟩ := hi.1 rfl; first | omega | (have j := i2 (by omega); simp_all; done) | (have j := i3 (by omega); simp_all; done) | (have j := i4 (by omega); simp_all; done) | (have j := i5 (by omega); simp_all; done) | (have j := i6 (by omega); simp_all; done) | (have j := i7 (by omega); simp_all; done) | (have j := i8 (by omega); simp_all; done) | (have j := i9 (by omega); simp_all; done))), rfl⟩
       ·refine seq_pure (pure_pick_t rfl rfl) rfl rfl ?_
        refine seq_pure (pure_assign rfl) rfl rfl ?_
        refine seq_done ?_
        refine nrm_seq ?_
        refine tri_cond_f rfl ?_
        refine tri_region ?_
        refine seq_pure (pure_fieldAddr0 rfl) rfl rfl ?_
        refine seq_load (load_bs rfl rfl (by repeat (first | exact List.Mem.head _ | apply List.Mem.tail)) (by rfl)) rfl rfl ?_
        refine seq_pure (pure_move rfl) rfl rfl ?_
        refine seq_valb rfl (within_fn _ _ _ _) rfl rfl (fun h1131 => ?_) (fun h1131 => ?_)
        ·refine seq_pure (pure_not_t rfl) rfl rfl ?_
         refine seq_pure (pure_assign rfl) rfl rfl ?_
         refine seq_done ?_
         refine nrm_seq ?_
         refine tri_cond_f rfl ?_
         refine tri_seq ?_
         refine tri_seq ?_
         refine tri_region ?_
         refine seq_pure (pure_move rfl) rfl rfl ?_
         refine seq_pure (pure_move rfl) rfl rfl ?_
         refine seq_skip rfl rfl ?_
         refine seq_skip rfl rfl ?_
         refine seq_skip rfl rfl ?_
         refine seq_skip rfl rfl ?_
         refine seq_pure (pure_pick_f rfl rfl) rfl rfl ?_
         refine seq_pure (pure_assign rfl) rfl rfl ?_
         refine seq_done ?_
         refine nrm_seq ?_
         refine tri_cond_f rfl ?_
         refine tri_region ?_
         refine seq_pure (pure_move rfl) rfl rfl ?_
         refine seq_pure (pure_not_f rfl) rfl rfl ?_
         refine seq_pure (pure_move rfl) rfl rfl ?_
         refine seq_pure (pure_fieldAddr0 rfl) rfl rfl ?_
         refine seq_load (load_ba rfl rfl (by repeat (first | exact List.Mem.head _ | apply List.Mem.tail)) (by rfl)) rfl rfl ?_
         refine seq_valb rfl (o4) rfl rfl (fun h1157 => ?_) (fun h1157 => ?_)
         ·refine seq_pure (pure_not_t rfl) rfl rfl ?_
          refine seq_pure (pure_pick_t rfl rfl) rfl rfl ?_
          refine seq_pure (pure_assign rfl) rfl rfl ?_
          refine seq_done ?_
          refine nrm_seq ?_
          refine tri_cond_f rfl ?_
          refine tri_seq ?_
          refine tri_seq ?_
          refine tri_region ?_
          refine seq_pure (pure_move rfl) rfl rfl ?_
          refine seq_pure (pure_move rfl) rfl rfl ?_
          refine seq_skip rfl rfl ?_
          refine seq_skip rfl rfl ?_
          refine seq_skip rfl rfl ?_
          refine seq_skip rfl rfl ?_
          refine seq_skip rfl rfl ?_
          refine seq_skip rfl rfl ?_
          refine seq_skip rfl rfl ?_
          refine seq_skip rfl rfl ?_
          refine seq_skip rfl rfl ?_
          refine seq_skip rfl rfl ?_
          refine seq_skip rfl rfl ?_
          refine seq_skip rfl rfl ?_
          refine seq_pure (pure_pick_f rfl rfl) rfl rfl ?_
          refine seq_pure (pure_assign rfl) rfl rfl ?_
          refine seq_done ?_
          refine nrm_seq ?_
          refine tri_cond_f rfl ?_
          refine tri_region ?_
          refine seq_pure (pure_move rfl) rfl rfl ?_
          refine seq_pure (pure_not_f rfl) rfl rfl ?_
          refine seq_pure (pure_move rfl) rfl rfl ?_
          refine seq_pure (pure_fieldAddr0 rfl) rfl rfl ?_
          refine seq_load (load_ba rfl rfl (by repeat (first | exact List.Mem.head _ | apply List.Mem.tail)) (by rfl)) rfl rfl ?_
          refine seq_valb rfl (o7) rfl rfl (fun h1192 => ?_) (fun h1192 => ?_)
          ·refine seq_pure (pure_not_t rfl) rfl rfl ?_
           refine seq_pure (pure_move rfl) rfl rfl ?_
           refine seq_pure (pure_fieldAddr0 rfl) rfl rfl ?_
           refine seq_load (load_bs rfl rfl (by repeat (first | exact List.Mem.head _ | apply List.Mem.tail)) (by rfl)) rfl rfl ?_
           refine seq_bool (pure_neq rfl rfl) rfl rfl (fun h1197 => ?_) (fun h1197 => ?_)
           ·refine seq_pure (pure_pick_f rfl rfl) rfl rfl ?_
            refine seq_pure (pure_pick_t rfl rfl) rfl rfl ?_
            refine seq_pure (pure_assign rfl) rfl rfl ?_
            refine seq_done ?_
            refine nrm_seq ?_
            refine tri_cond_t rfl ?_
            refine tri_seq ?_
            refine tri_region ?_
            refine seq_pure (pure_assign rfl) rfl rfl ?_
            refine seq_done ?_
            refine nrm_seq ?_
            refine tri_ret ?_
            refine ret_block ?_
            refine ret_seq ?_
            refine ret_fin1 (res_tmp rfl) ?_
            exact ⟨rfl, by (cases R with | false => rfl | true => (exfalso; obtain ⟨i1, i2, i3, i4, i5, i6, i7, i8, i9⟩ := hi.1 rfl; first | omega | (have j := i2 (by omega); simp_all; done) | (have j := i3 (by omega); simp_all; done) | (have j := i4 (by omega); simp_all; done) | (have j := i5 (by omega); simp_all; done) | (have j := i6 (by omega); simp_all; done) | (have j := i7 (by omega); simp_all; done) | (have j := i8 (by omega); simp_all; done) | (have j := i9 (by omega); simp_all; done))), rfl⟩
           ·refine seq_pure (pure_pick_f rfl rfl) rfl rfl ?_
            refine seq_pure (pure_pick_t rfl rfl) rfl rfl ?_
            refine seq_pure (pure_assign rfl) rfl rfl ?_
            refine seq_done ?_
            refine nrm_seq ?_
            refine tri_cond_f rfl ?_
            refine tri_skip ?_
            refine nrm_block ?_
            refine nrm_seq ?_
            refine tri_seq ?_
            refine tri_region ?_
            refine seq_pure (pure_assign rfl) rfl rfl ?_
            refine seq_done ?_
            refine nrm_seq ?_
            refine tri_ret ?_
            refine ret_fin1 (res_tmp rfl) ?_
            exact ⟨rfl, by rw [hi.2 ⟨by omega, fun _ => by (first | assumption | (exfalso; omega) | exact Classical.not_not.1 (by assumption)), fun _ => by (first | assumption | (exfalso; omega) | exact Classical.not_not.1 (by assumption)), fun _ => by (first | assumption | (exfalso; omega) | exact Classical.not_not.1 (by assumption)), fun _ => by (first | assumption | (exfalso; omega) | exact Classical.not_not.1 (by assumption)), fun _ => by (first | assumption | (exfalso; omega) | exact Classical.not_not.1 (by assumption)), fun _ => by (first | assumption | (exfalso; omega) | exact Classical.not_not.1 (by assumption)), fun _ => ⟨by (first | assumption | (exfalso; omega)), by (first | assumption | (exfalso; omega))⟩, fun _ => ⟨by (first | assumption | (exfalso; omega)), by (first | assumption | omega)⟩⟩], rfl⟩
          ·refine seq_pure (pure_not_f rfl) rfl rfl ?_
           refine seq_pure (pure_move rfl) rfl rfl ?_
           refine seq_skip rfl rfl ?_
           refine seq_skip rfl rfl ?_
           refine seq_skip rfl rfl ?_
           refine seq_pure (pure_pick_t rfl rfl) rfl rfl ?_
           refine seq_pure (pure_pick_t rfl rfl) rfl rfl ?_
           refine seq_pure (pure_assign rfl) rfl rfl ?_
           refine seq_done ?_
           refine nrm_seq ?_
           refine tri_cond_t rfl ?_
           refine tri_seq ?_
           refine tri_region ?_
           refine seq_pure (pure_assign rfl) rfl rfl ?_
           refine seq_done ?_
           refine nrm_seq ?_
           refine tri_ret ?_
           refine ret_block ?_
           refine ret_seq ?_
           refine ret_fin1 (res_tmp rfl) ?_
           exact ⟨rfl, by (cases R with | false => rfl | true => (exfalso; obtain ⟨i1, i2, i3, i4, i5, i6, i7, i8, i9⟩ := hi.1 rfl; first | omega | (have j := i2 (by omega); simp_all; done) | (have j := i3 (by omega); simp_all; done) | (have j := i4 (by omega); simp_all; done) | (have j := i5 (by omega); simp_all; done) | (have j := i6 (by omega); simp_all; done) | (have j := i7 (by omega); simp_all; done) | (have j := i8 (by omega); simp_all; done) | (have j := i9 (by omega); simp_all; done))), rfl⟩
         ·refine seq_pure (pure_not_f rfl) rfl rfl ?_
          refine seq_pure (pure_pick_t rfl rfl) rfl rfl ?_
          refine seq_pure (pure_assign rfl) rfl rfl ?_
          refine seq_done ?_
          refine nrm_seq ?_
          refine tri_cond_t rfl ?_
          refine tri_seq ?_
          refine tri_region ?_
          refine seq_pure (pure_assign rfl) rfl rfl ?_
          refine seq_done ?_
          refine nrm_seq ?_
          refine tri_ret ?_
          refine ret_block ?_
          refine ret_seq ?_
          refine ret_fin1 (res_tmp rfl) ?_
          exact ⟨rfl, by (cases R with | false => rfl | true => (exfalso; obtain ⟨i1, i2, i3, i4, i5, i6, i7, i8, i9⟩ := hi.1 rfl; first | omega | (have j := i2 (by omega); simp_all; done) | (have j := i3 (by omega); simp_all; done) | (have j := i4 (by omega); simp_all; done) | (have j := i5 (by omega); simp_all; done) | (have j := i6 (by omega); simp_all; done) | (have j := i7 (by omega); simp_all; done) | (have j := i8 (by omega); simp_all; done) | (have j := i9 (by omega); simp_all; done))), rfl⟩
        ·refine seq_pure (pure_not_f rfl) rfl rfl ?_
         refine seq_pure (pure_assign rfl) rfl rfl ?_
         refine seq_done ?_
         refine nrm_seq ?_
         refine tri_cond_t rfl ?_
         refine tri_seq ?_
         refine tri_region ?_
         refine seq_pure (pure_assign rfl) rfl rfl ?_
         refine seq_done ?_
         refine nrm_seq ?_
         refine tri_ret ?_
         refine ret_block ?_
         refine ret_seq ?_
         refine ret_fin1 (res_tmp rfl) ?_
         exact ⟨rfl, by (cases R with | false => rfl | true => (exfalso; obtain ⟨i1, i2, i3, i4, i5, i6, i7, i8, i9⟩ := hi.1 rfl; first | omega | (have j := i2 (by omega); simp_all; done) | (have j := i3 (by omega); simp_all; done) | (have j := i4 (by omega); simp_all; done) | (have j := i5 (by omega); simp_all; done) | (have j := i6 (by omega); simp_all; done) | (have j := i7 (by omega); simp_all; done) | (have j := i8 (by omega); simp_all; done) | (have j := i9 (by omega); simp_all; done))), rfl⟩
      ·refine seq_done ?_
       refine nrm_seq ?_
       refine tri_cond_f rfl ?_
       refine tri_skip ?_
       refine nrm_seq ?_
       refine tri_seq ?_
       refine tri_block ?_
       refine tri_seq ?_
       refine tri_seq ?_
       refine tri_region ?_
       refine seq_pure (pure_move rfl) rfl rfl ?_
       refine seq_pure (pure_move rfl) rfl rfl ?_
       refine seq_skip rfl rfl ?_
       refine seq_skip rfl rfl ?_
       refine seq_skip rfl rfl ?_
       refine seq_skip rfl rfl ?_
       refine seq_pure (pure_pick_f rfl rfl) rfl rfl ?_
       refine seq_pure (pure_assign rfl) rfl rfl ?_
       refine seq_done ?_
       refine nrm_seq ?_
       refine tri_cond_f rfl ?_
       refine tri_seq ?_
       refine tri_region ?_
       refine seq_pure (pure_move rfl) rfl rfl ?_
       refine seq_pure (pure_not_f rfl) rfl rfl ?_
       refine seq_pure (pure_move rfl) rfl rfl ?_
       refine seq_pure (pure_fieldAddr0 rfl) rfl rfl ?_
       refine seq_load (load_bs rfl rfl (by repeat (first | exact List.Mem.head _ | apply List.Mem.tail)) (by rfl)) rfl rfl ?_
       refine seq_bool (pure_sneq rfl rfl) rfl rfl (fun h1311 => ?_) (fun h1311 => ?_)
       ·refine seq_pure (pure_pick_t rfl rfl) rfl rfl ?_
        refine seq_pure (pure_assign rfl) rfl rfl ?_
        refine seq_done ?_
        refine nrm_seq ?_
        refine tri_cond_t rfl ?_
        refine tri_skip ?_
        refine nrm_seq ?_
        refine tri_cond_t rfl ?_
        refine tri_seq ?_
        refine tri_region ?_
        refine seq_pure (pure_assign rfl) rfl rfl ?_
        refine seq_done ?_
        refine nrm_seq ?_
        refine tri_ret ?_
        refine ret_block ?_
        refine ret_seq ?_
        refine ret_fin1 (res_tmp rfl) ?_
        exact ⟨rfl, by (cases R with | false => rfl | true => (exfalso; obtain ⟨i1, i2, i3, i4, i5, i6, i7, i8, i9⟩ := hi.1 rfl; first | omega | (have j := i2 (by omega); simp_all; done) | (have j := i3 (by omega); simp_all; done) | (have j := i4 (by omega); simp_all; done) | (have j := i5 (by omega); simp_all; done) | (have j := i6 (by omega); simp_all; done) | (have j := i7 (by omega); simp_all; done) | (have j := i8 (by omega); simp_all; done) | (have j := i9 (by omega); simp_all; done))), rfl⟩
       ·refine seq_pure (pure_pick_t rfl rfl) rfl rfl ?_
        refine seq_pure (pure_assign rfl) rfl rfl ?_
        refine seq_done ?_
        refine nrm_seq ?_
        refine tri_cond_f rfl ?_
        refine tri_region ?_
        refine seq_pure (pure_fieldAddr0 rfl) rfl rfl ?_
        refine seq_load (load_bs rfl rfl (by repeat (first | exact List.Mem.head _ | apply List.Mem.tail)) (by rfl)) rfl rfl ?_
        refine seq_pure (pure_move rfl) rfl rfl ?_
        refine seq_valb rfl (within_fn _ _ _ _) rfl rfl (fun h1339 => ?_) (fun h1339 => ?_)
        ·refine seq_pure (pure_not_t rfl) rfl rfl ?_
         refine seq_pure (pure_assign rfl) rfl rfl ?_
         refine seq_done ?_
         refine nrm_seq ?_
         refine tri_cond_f rfl ?_
         refine tri_seq ?_
         refine tri_seq ?_
         refine tri_region ?_
         refine seq_pure (pure_move rfl) rfl rfl ?_
         refine seq_pure (pure_move rfl) rfl rfl ?_
         refine seq_skip rfl rfl ?_
         refine seq_skip rfl rfl ?_
         refine seq_skip rfl rfl ?_
         refine seq_skip rfl rfl ?_
         refine seq_pure (pure_pick_f rfl rfl) rfl rfl ?_
         refine seq_pure (pure_assign rfl) rfl rfl ?_
         refine seq_done ?_
         refine nrm_seq ?_
         refine tri_cond_f rfl ?_
         refine tri_region ?_
         refine seq_pure (pure_move rfl) rfl rfl ?_
         refine seq_pure (pure_not_f rfl) rfl rfl ?_
         refine seq_pure (pure_move rfl) rfl rfl ?_
         refine seq_pure (pure_fieldAddr0 rfl) rfl rfl ?_
         refine seq_load (load_ba rfl rfl (by repeat (first | exact List.Mem.head _ | apply List.Mem.tail)) (by rfl)) rfl rfl ?_
         refine seq_valb rfl (o4) rfl rfl (fun h1365 => ?_) (fun h1365 => ?_)
         ·refine seq_pure (pure_not_t rfl) rfl rfl ?_
          refine seq_pure (pure_pick_t rfl rfl) rfl rfl ?_
          refine seq_pure (pure_assign rfl) rfl rfl ?_
          refine seq_done ?_
          refine nrm_seq ?_
          refine tri_cond_f rfl ?_
          refine tri_seq ?_
          refine tri_seq ?_
          refine tri_region ?_
          refine seq_pure (pure_move rfl) rfl rfl ?_
          refine seq_pure (pure_move rfl) rfl rfl ?_
          refine seq_skip rfl rfl ?_
          refine seq_skip rfl rfl ?_
          refine seq_skip rfl rfl ?_
          refine seq_skip rfl rfl ?_
          refine seq_skip rfl rfl ?_
          refine seq_skip rfl rfl ?_
          refine seq_skip rfl rfl ?_
          refine seq_skip rfl rfl ?_
          refine seq_skip rfl rfl ?_
          refine seq_skip rfl rfl ?_
          refine seq_skip rfl rfl ?_
          refine seq_skip rfl rfl ?_
          refine seq_pure (pure_pick_f rfl rfl) rfl rfl ?_
          refine seq_pure (pure_assign rfl) rfl rfl ?_
          refine seq_done ?_
          refine nrm_seq ?_
          refine tri_cond_f rfl ?_
          refine tri_region ?_
          refine seq_pure (pure_move rfl) rfl rfl ?_
          refine seq_pure (pure_not_f rfl) rfl rfl ?_
          refine seq_pure (pure_move rfl) rfl rfl ?_
          refine seq_pure (pure_fieldAddr0 rfl) rfl rfl ?_
          refine seq_load (load_ba rfl rfl (by repeat (first | exact List.Mem.head _ | apply List.Mem.tail)) (by rfl)) rfl rfl ?_
          refine seq_valb rfl (o7) rfl rfl (fun h1400 => ?_) (fun h1400 => ?_)
          ·refine seq_pure (pure_not_t rfl) rfl rfl ?_
           refine seq_pure (pure_move rfl) rfl rfl ?_
           refine seq_pure (pure_fieldAddr0 rfl) rfl rfl ?_
           refine seq_load (load_bs rfl rfl (by repeat (first | exact List.Mem.head _ | apply List.Mem.tail)) (by rfl)) rfl rfl ?_
           refine seq_bool (pure_neq rfl rfl) rfl rfl (fun h1405 => ?_) (fun h1405 => ?_)
           ·refine seq_pure (pure_pick_f rfl rfl) rfl rfl ?_
            refine seq_pure (pure_pick_t rfl rfl) rfl rfl ?_
            refine seq_pure (pure_assign rfl) rfl rfl ?_
            refine seq_done ?_
            refine nrm_seq ?_
            refine tri_cond_t rfl ?_
            refine tri_seq ?_
            refine tri_region ?_
            refine seq_pure (pure_assign rfl) rfl rfl ?_
            refine seq_done ?_
            refine nrm_seq ?_
            refine tri_ret ?_
            refine ret_block ?_
            refine ret_seq ?_
            refine ret_fin1 (res_tmp rfl) ?_
            exact ⟨rfl, by (cases R with | false => rfl | true => (exfalso; obtain ⟨i1, i2, i3, i4, i5, i6, i7, i8, i9⟩ := hi.1 rfl; first | omega | (have j := i2 (by omega); simp_all; done) | (have j := i3 (by omega); simp_all; done) | (have j := i4 (by omega); simp_all; done) | (have j := i5 (by omega); simp_all; done) | (have j := i6 (by omega); simp_all; done) | (have j := i7 (by omega); simp_all; done) | (have j := i8 (by omega); simp_all; done) | (have j := i9 (by omega); simp_all; done))), rfl⟩
           ·refine seq_pure (pure_pick_f rfl rfl) rfl rfl ?_
            refine seq_pure (pure_pick_t rfl rfl) rfl rfl ?_
            refine seq_pure (pure_assign rfl) rfl rfl ?_
            refine seq_done ?_
            refine nrm_seq ?_
            refine tri_cond_f rfl ?_
            refine tri_skip ?_
            refine nrm_block ?_
            refine nrm_seq ?_
            refine tri_seq ?_
            refine tri_region ?_
            refine seq_pure (pure_assign rfl) rfl rfl ?_
            refine seq_done ?_
            refine nrm_seq ?_
            refine tri_ret ?_
            refine ret_fin1 (res_tmp rfl) ?_
            exact ⟨rfl, by rw [hi.2 ⟨by omega, fun _ => by (first | assumption | (exfalso; omega) | exact Classical.not_not.1 (by assumption)), fun _ => by (first | assumption | (exfalso; omega) | exact Classical.not_not.1 (by assumption)), fun _ => by (first | assumption | (exfalso; omega) | exact Classical.not_not.1 (by assumption)), fun _ => by (first | assumption | (exfalso; omega) | exact Classical.not_not.1 (by assumption)), fun _ => by (first | assumption | (exfalso; omega) | exact Classical.not_not.1 (by assumption)), fun _ => by (first | assumption | (exfalso; omega) | exact Classical.not_not.1 (by assumption)), fun _ => ⟨by (first | assumption | (exfalso; omega)), by (first | assumption | (exfalso; omega))⟩, fun _ => ⟨by (first | assumption | (exfalso; omega)), by (first | assumption | omega)⟩⟩], rfl⟩
          ·refine seq_pure (pure_not_f rfl) rfl rfl ?_
           refine seq_pure (pure_move rfl) rfl rfl ?_
           refine seq_skip rfl rfl ?_
           refine seq_skip rfl rfl ?_
           refine seq_skip rfl rfl ?_
           refine seq_pure (pure_pick_t rfl rfl) rfl rfl ?_
           refine seq_pure (pure_pick_t rfl rfl) rfl rfl ?_
           refine seq_pure (pure_assign rfl) rfl rfl ?_
           refine seq_done ?_
           refine nrm_seq ?_
           refine tri_cond_t rfl ?_
           refine tri_seq ?_
           refine tri_region ?_
           refine seq_pure (pure_assign rfl) rfl rfl ?_
           refine seq_done ?_
           refine nrm_seq ?_
           refine tri_ret ?_
           refine ret_block ?_
           refine ret_seq ?_
           refine ret_fin1 (res_tmp rfl) ?_
           exact ⟨rfl, by (cases R with | false => rfl | true => (exfalso; obtain ⟨i1, i2, i3, i4, i5, i6, i7, i8, i9⟩ := hi.1 rfl; first | omega | (have j := i2 (by omega); simp_all; done) | (have j := i3 (by omega); simp_all; done) | (have j := i4 (by omega); simp_all; done) | (have j := i5 (by omega); simp_all; done) | (have j := i6 (by omega); simp_all; done) | (have j := i7 (by omega); simp_all; done) | (have j := i8 (by omega); simp_all; done) | (have j := i9 (by omega); simp_all; done))), rfl⟩
         ·refine seq_pure (pure_not_f rfl) rfl rfl ?_
          refine seq_pure (pure_pick_t rfl rfl) rfl rfl ?_
          refine seq_pure (pure_assign rfl) rfl rfl ?_
          refine seq_done ?_
          refine nrm_seq ?_
          refine tri_cond_t rfl ?_
          refine tri_seq ?_
          refine tri_region ?_
          refine seq_pure (pure_assign rfl) rfl rfl ?_
          refine seq_done ?_
          refine nrm_seq ?_
          refine tri_ret ?_
          refine ret_block ?_
          refine ret_seq ?_
          refine ret_fin1 (res_tmp rfl) ?_
          exact ⟨rfl, by (cases R with | false => rfl | true => (exfalso; obtain ⟨i1, i2, i3, i4, i5, i6, i7, i8, i9⟩ := hi.1 rfl; first | omega | (have j := i2 (by omega); simp_all; done) | (have j := i3 (by omega); simp_all; done) | (have j := i4 (by omega); simp_all; done) | (have j := i5 (by omega); simp_all; done) | (have j := i6 (by omega); simp_all; done) | (have j := i7 (by omega); simp_all; done) | (have j := i8 (by omega); simp_all; done) | (have j := i9 (by omega); simp_all; done))), rfl⟩
        ·refine seq_pure (pure_not_f rfl) rfl rfl ?_
         refine seq_pure (pure_assign rfl) rfl rfl ?_
         refine seq_done ?_
         refine nrm_seq ?_
         refine tri_cond_t rfl ?_
         refine tri_seq ?_
         refine tri_region ?_
         refine seq_pure (pure_assign rfl) rfl rfl ?_
         refine seq_done ?_
         refine nrm_seq ?_
         refine tri_ret ?_
         refine ret_block ?_
         refine ret_seq ?_
         refine ret_fin1 (res_tmp rfl) ?_
         exact ⟨rfl, by (cases R with | false => rfl | true => (exfalso; obtain ⟨i1, i2, i3, i4, i5, i6, i7, i8, i9⟩ := hi.1 rfl; first | omega | (have j := i2 (by omega); simp_all; done) | (have j := i3 (by omega); simp_all; done) | (have j := i4 (by omega); simp_all; done) | (have j := i5 (by omega); simp_all; done) | (have j := i6 (by omega); simp_all; done) | (have j := i7 (by omega); simp_all; done) | (have j := i8 (by omega); simp_all; done) | (have j := i9 (by omega); simp_all; done))), rfl⟩
end Gw
end Go.Proofs.Yteneckdjdfnjoaa
namespace Go.Proofs.Yteneckdjdfnjoaa
open Go Go.RowKit
namespace Gw
set_option maxRecDepth 100000 in
theorem scan_fn (M D N : Int) (hM : 0 ≤ M ∧ M ≤ 1000) (hD : 0 ≤ D ∧ D ≤ 1000) (bc : Nat) : ∀ (t : Tm) (deep c : Int) (G : IM) (cells : List Value), 0 ≤ deep ∧ deep ≤ D + 1 → 0 ≤ c ∧ c ≤ M → RTm G t cells →
  Fn Try.prog 28 [.agg ⟨cells⟩, .int .i64 deep, .int .i64 M, .int .i64 D, .int .i64 N, .pointer (some ⟨bc, 0, none⟩)] [.blk bc [.int .i64 c]] G
   (ValO (.bool (mScan M D N t deep c).1) [.blk bc [.int .i64 (mScan M D N t deep c).2]] G) := by
 refine Tm.ind fun k nm num ty fr lb ks ih deep c G cells hd hc hr => ?_
 have hno := nodeOk_fn k nm num ty fr lb ks G cells hr
 obtain ⟨tk, tks⟩ := ty
 obtain ⟨fk, fks⟩ := fr
 obtain ⟨pt, ct, pf, cf, p, cp, es, rfl, hk, hnum, hlb, hty, hfr, hsl, hkl⟩ := hr.open9
 have hn := hsl.le
 obtain ⟨R, hR⟩ : ∃ R, tmNode k nm num (.mk tk tks) (.mk fk fks) lb ks.length = R := ⟨_, rfl⟩
 rw [hR] at hno
 refine fn_enter Try.func28 rfl Try.ntmps28 Try.results28 rfl ?_
 intro w0
 refine tri_seq ?_
 refine tri_region ?_
 (refine seq_step (step_box_a rfl rfl) rfl ?_; rintro _ ⟨b3, rfl⟩)
 refine seq_pure (pure_assign rfl) rfl rfl ?_
 refine seq_done ?_
 refine nrm_seq ?_
 refine tri_seq ?_
 refine tri_region ?_
 refine seq_pure (pure_move rfl) rfl rfl ?_
 refine seq_pure (pure_nilCheck rfl) rfl rfl ?_
 refine seq_load (load_bs rfl rfl (by repeat (first | exact List.Mem.head _ | apply List.Mem.tail)) (by rfl)) rfl rfl ?_
 refine seq_pure (pure_add rfl rfl (by omega) (by omega)) rfl rfl ?_
 refine seq_pure (pure_nilCheck rfl) rfl rfl ?_
 refine seq_store rfl rfl rfl rfl rfl rfl (by repeat (first | exact Sw.here | apply Sw.there)) (by rfl) ?_
 refine seq_done ?_
 refine nrm_seq ?_
 refine tri_seq ?_
 refine tri_seq ?_
 refine tri_region ?_
 refine seq_pure (pure_move rfl) rfl rfl ?_
 refine seq_pure (pure_nilCheck rfl) rfl rfl ?_
 refine seq_load (load_bs rfl rfl (by repeat (first | exact List.Mem.head _ | apply List.Mem.tail)) (by rfl)) rfl rfl ?_
 refine seq_pure (pure_move rfl) rfl rfl ?_
 refine seq_bool (pure_gtr rfl rfl) rfl rfl (fun h24 => ?_) (fun h24 => ?_)
 ·refine seq_pure (pure_move rfl) rfl rfl ?_
  refine seq_skip rfl rfl ?_
  refine seq_skip rfl rfl ?_
  refine seq_skip rfl rfl ?_
  refine seq_pure (pure_pick_t rfl rfl) rfl rfl ?_
  refine seq_pure (pure_move rfl) rfl rfl ?_
  refine seq_skip rfl rfl ?_
  refine seq_skip rfl rfl ?_
  refine seq_skip rfl rfl ?_
  refine seq_skip rfl rfl ?_
  refine seq_pure (pure_pick_t rfl rfl) rfl rfl ?_
  refine seq_pure (pure_move rfl) rfl rfl ?_
  refine seq_skip rfl rfl ?_
  refine seq_skip rfl rfl ?_
  refine seq_skip rfl rfl ?_
  refine seq_pure (pure_pick_t rfl rfl) rfl rfl ?_
  refine seq_done ?_
  refine nrm_seq ?_
  refine tri_cond_t rfl ?_
  refine tri_seq ?_
  refine tri_region ?_
  refine seq_pure (pure_assign rfl) rfl rfl ?_
  refine seq_done ?_
  refine nrm_seq ?_
  refine tri_ret ?_
  refine ret_seq ?_
  refine ret_own1 (outs := [.blk bc [.int .i64 _]]) (res_tmp rfl) (SubH.cons (by repeat (first | exact Pk.here | apply Pk.there)) SubH.nil) ?_
  (rw [mScan_no (by rw [hR]; first | omega | exact Or.inr (Or.inr (Or.inr (by assumption)))) ]; exact ⟨rfl, rfl, rfl⟩)
 ·refine seq_pure (pure_move rfl) rfl rfl ?_
  refine seq_pure (pure_move rfl) rfl rfl ?_
  refine seq_pure (pure_move rfl) rfl rfl ?_
  refine seq_bool (pure_gtr rfl rfl) rfl rfl (fun h56 => ?_) (fun h56 => ?_)
  ·refine seq_pure (pure_pick_f rfl rfl) rfl rfl ?_
   refine seq_pure (pure_move rfl) rfl rfl ?_
   refine seq_skip rfl rfl ?_
   refine seq_skip rfl rfl ?_
   refine seq_skip rfl rfl ?_
   refine seq_skip rfl rfl ?_
   refine seq_pure (pure_pick_t rfl rfl) rfl rfl ?_
   refine seq_pure (pure_move rfl) rfl rfl ?_
   refine seq_skip rfl rfl ?_
   refine seq_skip rfl rfl ?_
   refine seq_skip rfl rfl ?_
   refine seq_pure (pure_pick_t rfl rfl) rfl rfl ?_
   refine seq_done ?_
   refine nrm_seq ?_
   refine tri_cond_t rfl ?_
   refine tri_seq ?_
   refine tri_region ?_
   refine seq_pure (pure_assign rfl) rfl rfl ?_
   refine seq_done ?_
   refine nrm_seq ?_
   refine tri_ret ?_
   refine ret_seq ?_
   refine ret_own1 (outs := [.blk bc [.int .i64 _]]) (res_tmp rfl) (SubH.cons (by repeat (first | exact Pk.here | apply Pk.there)) SubH.nil) ?_
   (rw [mScan_no (by rw [hR]; first | omega | exact Or.inr (Or.inr (Or.inr (by assumption)))) ]; exact ⟨rfl, rfl, rfl⟩)
  ·refine seq_pure (pure_pick_f rfl rfl) rfl rfl ?_
   refine seq_pure (pure_move rfl) rfl rfl ?_
   refine seq_pure (pure_fieldAddr0 rfl) rfl rfl ?_
   refine seq_load (load_bs rfl rfl (by repeat (first | exact List.Mem.head _ | apply List.Mem.tail)) (by rfl)) rfl rfl ?_
   refine seq_pure (pure_move rfl) rfl rfl ?_
   refine seq_bool (pure_eql rfl rfl) rfl rfl (fun h86 => ?_) (fun h86 => ?_)
   ·refine seq_pure (pure_pick_f rfl rfl) rfl rfl ?_
    refine seq_pure (pure_move rfl) rfl rfl ?_
    refine seq_skip rfl rfl ?_
    refine seq_skip rfl rfl ?_
    refine seq_skip rfl rfl ?_
    refine seq_pure (pure_pick_t rfl rfl) rfl rfl ?_
    refine seq_done ?_
    refine nrm_seq ?_
    refine tri_cond_t rfl ?_
    refine tri_seq ?_
    refine tri_region ?_
    refine seq_pure (pure_assign rfl) rfl rfl ?_
    refine seq_done ?_
    refine nrm_seq ?_
    refine tri_ret ?_
    refine ret_seq ?_
    refine ret_own1 (outs := [.blk bc [.int .i64 _]]) (res_tmp rfl) (SubH.cons (by repeat (first | exact Pk.here | apply Pk.there)) SubH.nil) ?_
    (rw [mScan_no (by rw [hR]; first | omega | exact Or.inr (Or.inr (Or.inr (by assumption)))) ]; exact ⟨rfl, rfl, rfl⟩)
   ·refine seq_pure (pure_pick_f rfl rfl) rfl rfl ?_
    refine seq_pure (pure_move rfl) rfl rfl ?_
    refine seq_load (load_ba rfl rfl (by repeat (first | exact List.Mem.head _ | apply List.Mem.tail)) (by rfl)) rfl rfl ?_
    refine seq_valb rfl (hno) rfl rfl (fun h108 => ?_) (fun h108 => ?_)
    ·refine seq_pure (pure_not_t rfl) rfl rfl ?_
     refine seq_pure (pure_pick_f rfl rfl) rfl rfl ?_
     refine seq_done ?_
     refine nrm_seq ?_
     refine tri_cond_f rfl ?_
     refine tri_skip ?_
     refine nrm_seq ?_
     refine tri_seq ?_
     refine tri_seq ?_
     refine tri_region ?_
     refine seq_pure (pure_fieldAddr0 rfl) rfl rfl ?_
     refine seq_load (load_bs rfl rfl (by repeat (first | exact List.Mem.head _ | apply List.Mem.tail)) (by rfl)) rfl rfl ?_
     refine seq_pure (pure_len rfl rfl) rfl rfl ?_
     refine seq_pure (pure_move rfl) rfl rfl ?_
     refine seq_done ?_
     refine nrm_seq ?_
     refine tri_block ?_
     (have hmk := mScan_go (M := M) (D := D) (N := N) (deep := deep) (c := c) (by omega) (hR.trans (by assumption)); refine tri_loopN (fun (x : Nat × Int) => ⟨[(44, .int .i64 x.1), (43, .int .i64 ks.length), (42, .slice p ks.length cp), (5, .pointer (some ⟨bc, 0, none⟩)), (4, .int .i64 N), (3, .int .i64 D), (2, .int .i64 M), (1, .int .i64 deep)], [.blk bc [.int .i64 x.2]], G⟩) (fun x => x.1 ≤ ks.length ∧ 0 ≤ x.2 ∧ x.2 ≤ M ∧ mScanL M D N ks (deep + 1) (c + 1) = mScanL M D N (ks.drop x.1) (deep + 1) x.2) (fun x => ks.length - x.1) (0, c + 1) ?_ ?_ ?_)
     ·(simp only [flat_snoc]; exact sub_mk (by repeat (first | exact SubE.nil | refine SubE.cons rfl ?_)) (by repeat (first | exact SubH.refl | exact SubH.nil | refine SubH.cons (by repeat (first | exact Pk.here | apply Pk.there)) ?_ | apply SubH.drop)))
     ·exact ⟨by simp, by simp; omega, by simp; omega, by simp⟩
     ·(rintro ⟨i, ci⟩ ⟨hi, hc0, hc1, hst⟩; simp only [] at hi hc0 hc1 hst ⊢)
      refine tri_seq ?_
      refine tri_region ?_
      refine seq_bool (pure_lss rfl rfl) rfl rfl (fun h132 => ?_) (fun h132 => ?_)
      ·refine seq_done ?_
       refine nrm_seq ?_
       refine tri_seq ?_
       refine tri_cond_t rfl ?_
       refine tri_skip ?_
       refine nrm_seq ?_
       refine tri_seq ?_
       refine tri_block ?_
       refine tri_seq ?_
       refine tri_region ?_
       (obtain ⟨b, o, e, rfl, hl, hat, hre, hgb⟩ := hsl.kidTm hkl (i := i) (by omega) (by omega); have hone := hre.one; have hle := mScan_le M D N ks[i] (deep + 1) ci hc0 hc1; refine seq_pure (pure_indexAddrN rfl rfl rfl (by omega)) rfl rfl ?_)
       refine seq_load (load_a rfl rfl (hat _) hl) rfl rfl ?_
       (refine seq_step (step_alloc rfl) rfl ?_; rintro _ ⟨b145, rfl⟩)
       refine seq_store rfl rfl rfl (by assumption) (by assumption) rfl (by repeat (first | exact Sw.here | apply Sw.there)) (by exact upd_all (by symm; assumption)) ?_
       refine seq_done ?_
       refine nrm_seq ?_
       refine tri_seq ?_
       refine tri_region ?_
       refine seq_load (load_a rfl rfl (at_blk_all (by repeat (first | exact List.Mem.head _ | apply List.Mem.tail))) (by assumption)) rfl rfl ?_
       refine seq_pure (pure_move rfl) rfl rfl ?_
       refine seq_pure (pure_add rfl rfl (by omega) (by omega)) rfl rfl ?_
       refine seq_pure (pure_move rfl) rfl rfl ?_
       refine seq_pure (pure_move rfl) rfl rfl ?_
       refine seq_pure (pure_move rfl) rfl rfl ?_
       refine seq_pure (pure_move rfl) rfl rfl ?_
       refine seq_valbx rfl (ih ks[i] (List.getElem_mem _) (deep + 1) ci G e (by omega) (by omega) hre) (Pk.perm (by repeat (first | exact Pk.here | apply Pk.there))) rfl rfl (fun h158 => ?_) (fun h158 => ?_)
       ·refine seq_pure (pure_not_t rfl) rfl rfl ?_
        refine seq_done ?_
        refine nrm_seq ?_
        refine tri_cond_f rfl ?_
        refine tri_skip ?_
        refine nrm_block ?_
        refine nrm_seq ?_
        refine tri_region ?_
        refine seq_pure (pure_add rfl rfl (by omega) (by omega)) rfl rfl ?_
        refine seq_pure (pure_move rfl) rfl rfl ?_
        refine seq_done ?_
        refine nrm_loopN (i + 1, (mScan M D N ks[i] (deep + 1) ci).2) ?_ ?_ ?_
        ·(simp only [flat_snoc]; exact sub_mk (by repeat (first | exact SubE.nil | refine SubE.cons rfl ?_)) (by repeat (first | exact SubH.refl | exact SubH.nil | refine SubH.cons (by repeat (first | exact Pk.here | apply Pk.there)) ?_ | apply SubH.drop)))
        ·exact ⟨by omega, by omega, hle.2.2 (by assumption), by rw [hst, mScanL_t (by omega) (by assumption)]⟩
        ·(show ks.length - (i + 1) < ks.length - i; omega)
       ·refine seq_pure (pure_not_f rfl) rfl rfl ?_
        refine seq_done ?_
        refine nrm_seq ?_
        refine tri_cond_t rfl ?_
        refine tri_seq ?_
        refine tri_region ?_
        refine seq_pure (pure_assign rfl) rfl rfl ?_
        refine seq_done ?_
        refine nrm_seq ?_
        refine tri_ret ?_
        refine ret_block ?_
        refine ret_seq ?_
        refine ret_loopN ?_
        refine ret_block ?_
        refine ret_seq ?_
        refine ret_own1 (outs := [.blk bc [.int .i64 _]]) (res_tmp rfl) (SubH.cons (by repeat (first | exact Pk.here | apply Pk.there)) SubH.nil) ?_
        (rw [hmk, hst, mScanL_f (by omega) (by assumption)]; exact ⟨rfl, rfl, rfl⟩)
      ·refine seq_done ?_
       refine nrm_seq ?_
       refine tri_seq ?_
       refine tri_cond_f rfl ?_
       refine tri_exit ?_
       refine ext_seq ?_
       refine ext_loopN ?_
       refine ext_block_eq ?_
       refine nrm_seq ?_
       refine tri_seq ?_
       refine tri_region ?_
       refine seq_pure (pure_assign rfl) rfl rfl ?_
       refine seq_done ?_
       refine nrm_seq ?_
       refine tri_ret ?_
       refine ret_own1 (outs := [.blk bc [.int .i64 _]]) (res_tmp rfl) (SubH.cons (by repeat (first | exact Pk.here | apply Pk.there)) SubH.nil) ?_
       (rw [hmk, hst, mScanL_end (by omega)]; exact ⟨rfl, rfl, rfl⟩)
    ·refine seq_pure (pure_not_f rfl) rfl rfl ?_
     refine seq_pure (pure_pick_f rfl rfl) rfl rfl ?_
     refine seq_done ?_
     refine nrm_seq ?_
     refine tri_cond_t rfl ?_
     refine tri_seq ?_
     refine tri_region ?_
     refine seq_pure (pure_assign rfl) rfl rfl ?_
     refine seq_done ?_
     refine nrm_seq ?_
     refine tri_ret ?_
     refine ret_seq ?_
     refine ret_own1 (outs := [.blk bc [.int .i64 _]]) (res_tmp rfl) (SubH.cons (by repeat (first | exact Pk.here | apply Pk.there)) SubH.nil) ?_
     (rw [mScan_no (by rw [hR]; first | omega | exact Or.inr (Or.inr (Or.inr (by assumption)))) ]; exact ⟨rfl, rfl, rfl⟩)
set_option maxRecDepth 100000 in
theorem castValid_fn (t : Tm) (G : IM) (cells : List Value) (hr : RTm G t cells) : Fn Try.prog 12 [.agg ⟨cells⟩] [] G (Val (.bool (castValid t)) G) := by
 have hl := hr.len
 refine fn_enter Try.func12 rfl Try.ntmps12 Try.results12 rfl ?_
 intro w0
 refine tri_seq ?_
 refine tri_region ?_
 (refine seq_step (step_box_a rfl rfl) rfl ?_; rintro _ ⟨b3, rfl⟩)
 refine seq_pure (pure_assign rfl) rfl rfl ?_
 refine seq_done ?_
 refine nrm_seq ?_
 refine tri_seq ?_
 refine tri_region ?_
 (refine seq_step (step_alloc rfl) rfl ?_; rintro _ ⟨b9, rfl⟩)
 refine seq_store rfl rfl rfl rfl rfl rfl (by repeat (first | exact Sw.here | apply Sw.there)) (by rfl) ?_
 refine seq_done ?_
 refine nrm_seq ?_
 refine tri_seq ?_
 refine tri_region ?_
 refine seq_load (load_a rfl rfl (at_blk_all (by repeat (first | exact List.Mem.head _ | apply List.Mem.tail))) (by assumption)) rfl rfl ?_
 refine seq_valx rfl (scan_fn 200 40 13 (by omega) (by omega) _ t 1 0 G cells (by omega) (by omega) hr) perm_all rfl rfl ?_
 refine seq_pure (pure_assign rfl) rfl rfl ?_
 refine seq_done ?_
 refine nrm_seq ?_
 refine tri_ret ?_
 refine ret_fin1 (res_tmp rfl) ?_
 exact ⟨rfl, rfl, rfl⟩
end Gw
end Go.Proofs.Yteneckdjdfnjoaa
