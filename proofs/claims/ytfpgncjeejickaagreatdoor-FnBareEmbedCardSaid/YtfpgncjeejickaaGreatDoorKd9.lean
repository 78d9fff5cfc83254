/-
  The program's stack machine: clone, pop, push.
-/
import Derived.Test.YtfpgncjeejickaaGreatDoorKd8
import Derived.Test.YtfpgncjeejickaaGreatDoorKd3
import Derived.Test.YtfpgncjeejickaaGreatDoorKd1
import Derived.Test.YtfpgncjeejickaaGreatDoorKd7
import Derived.Test.YtfpgncjeejickaaGreatDoorKd5
import Derived.Test.YtfpgncjeejickaaGreatDoorKd6
set_option linter.unusedVariables false
set_option linter.unusedSimpArgs false
set_option maxHeartbeats 0
set_option maxRecDepth 100000
set_option synthInstance.maxSize 4000
set_option synthInstance.maxHeartbeats 0
namespace Go.Proofs.YtfpgncjeejickaaGreatDoor
open Go Go.RowKit
namespace Gw
section
variable {P : Program} {Γ : L8} {env : M7} {hp : List A5} {G : IM} {ty : TypeId}
end
theorem B2f {P : Program} {Γ : L8} {env : M7} {hp : List A5} {G : IM} {post : IM → Value → List A5 → Prop} {outs : List A5} (ho : A0 hp outs) (hk : post G (.tuple ⟨[]⟩) outs) : A0v P Γ [] post .normal ⟨env, hp, G⟩ :=
 ⟨⟨[], .nil, outs, ho.spec.choose, ho.spec.choose_spec, hk⟩⟩
section
variable {P : Program} {Γ : L8} {env : M7} {hp : List A5} {G : IM} {ty : TypeId}
theorem B9f {x y : Operand} {t e : TypeId} {i : M3} {m sz by' : Nat} {zs : List Value} [hI : H6 P t i] (hd : i.desc = .array m e) [hE : W6 P e sz by' zs] {b j : Nat} {k : IntKind} {z : Int}
  (hx : evo env x = some (.pointer (some ⟨b, 0, none⟩))) (hy : evo env y = some (.int k z)) (hz : z = (j : Int)) (h1 : j < m) :
  I2 P Γ ⟨env, hp, G⟩ (.indexAddr t x y) ty (.pointer (some ⟨b, j * sz, none⟩)) := by
 subst hz
 refine ⟨fun a _ hs _ _ _ _ w => ?_⟩
 have hu := hI.und
 rw [hd] at hu
 obtain ⟨d, hE⟩ := hE.ok
 obtain ⟨inf, g1, g2, _⟩ := hE.info
 simp [execOp, Instr.indexAt, (hs.evo hx : a.eval x = _), (hs.evo hy : a.eval y = _), asIntOf, run_underlying hu, h1, sizeOf, typeInfo, g1, g2, A2w, Instr.sureAddr]
theorem B9g {x y : Operand} {t e : TypeId} {i : M3} {m by' : Nat} {zs : List Value} [hI : H6 P t i] (hd : i.desc = .array m e) [hE : H6 P e ⟨1, by', zs, .bool⟩] {vs : List Value} {k : IntKind} {j : Nat} {v : Value}
  (hx : evo env x = some (.agg ⟨vs⟩)) (hy : evo env y = some (.int k (j : Int))) (h1 : j < m) (hv : vs[j]? = some v) :
  I2 P Γ ⟨env, hp, G⟩ (.index t x y) ty v := by
 refine ⟨fun a _ hs _ _ _ _ w => ?_⟩
 have hu := hI.und
 rw [hd] at hu
 have he := hE.und
 obtain ⟨inf, g1, g2, _⟩ := hE.info
 have g2 : inf.size = 1 := g2
 simp [execOp, Instr.index, (hs.evo hx : a.eval x = _), (hs.evo hy : a.eval y = _), asIntOf, run_underlying hu, h1, sizeOf, typeInfo, g1, g2, part, A5Z he, A1o, hv]
theorem B9h {x y : Operand} {t t' : TypeId} {m n : Int} (hx : evo env x = some (.int .u8 m)) (hy : evo env y = some (.int .u8 n)) (h0 : 0 ≤ m - n) (h1 : m - n ≤ 255) :
  I2 P Γ ⟨env, hp, G⟩ (.binOp .sub t x y t') ty (.int .u8 (m - n)) := by
 refine ⟨fun a _ hs _ _ _ _ w => ?_⟩
 have hw : IntKind.u8.wrap (m - n) = m - n := IntWalk.u8_in _ ⟨h0, h1⟩
 simp [execOp, eqGuard, binOp, Op.intArith, (hs.evo hx : a.eval x = _), (hs.evo hy : a.eval y = _), hw]
end
def Y2 (nm : ByteArray) : UInt8 := nm.data.getD 0 0
mutual
def mFr : ByteArray → Tm → List Bool → List Bool
 | bnd, .mk k nm _ _ _ _ ks, f => Y9 (if k = 5 then bnd ++ nm else bnd) ks (if k = 1 ∧ Y2 nm ∉ bnd.data.toList then f.set ((Y2 nm).toNat - 97) true else f)
def Y9 : ByteArray → List Tm → List Bool → List Bool
 | _, [], f => f
 | bnd, t :: ts, f => Y9 bnd ts (mFr bnd t f)
end
mutual
theorem A4A : ∀ (t : Tm) (bnd : ByteArray) (f : List Bool), (mFr bnd t f).length = f.length
 | .mk k nm _ _ _ _ ks, bnd, f => by
  rw [mFr, B2g ks]; split <;> simp
theorem B2g : ∀ (ts : List Tm) (bnd : ByteArray) (f : List Bool), (Y9 bnd ts f).length = f.length
 | [], _, _ => by rw [Y9]
 | t :: ts, bnd, f => by rw [Y9, B2g ts, A4A t]
end
mutual
theorem B9i : ∀ (t : Tm) (bnd : ByteArray) (f : List Bool) (j : Nat), (mFr bnd t f)[j]? = some false → f[j]? = some false
 | .mk k nm _ _ _ _ ks, bnd, f, j, h => by
  rw [mFr] at h
  have h := A5T ks _ _ j h
  split at h
  ·rw [List.getElem?_set] at h
   split at h
   ·split at h <;> cases h
   ·exact h
  ·exact h
theorem A5T : ∀ (ts : List Tm) (bnd : ByteArray) (f : List Bool) (j : Nat), (Y9 bnd ts f)[j]? = some false → f[j]? = some false
 | [], _, _, _, h => by rwa [Y9] at h
 | t :: ts, bnd, f, j, h => by rw [Y9] at h; exact B9i t _ _ j (A5T ts _ _ j h)
end
theorem A4B {nm : ByteArray} (h : X5 nm = true) : nm = ⟨#[Y2 nm]⟩ ∧ 97 ≤ (Y2 nm).toNat ∧ (Y2 nm).toNat ≤ 122 := by
 unfold X5 at h
 rw [decide_eq_true_eq] at h
 obtain ⟨h1, h2, h3⟩ := h
 refine ⟨?_, h2, h3⟩
 obtain ⟨⟨l⟩⟩ := nm
 have hl : l.length = 1 := h1
 match l, hl with
 | [c], _ => rfl
mutual
theorem B2h : ∀ (t : Tm) (d : Int) (bnd : ByteArray) (f : List Bool) (ns : List ByteArray), L7 12 14 t d = true → f.length = 26 → (∀ c ∈ bnd.data.toList, (⟨#[c]⟩ : ByteArray) ∈ ns) → (∀ j, j < 26 → (mFr bnd t f)[j]? = some false) → mCl ns t
 | .mk k nm num ty fr lb ks, d, bnd, f, ns, hs, hf, hb, h => by
  obtain ⟨_, _, h3, h4⟩ := X8 hs
  have hnm := (T0.1 h3).2.1
  rw [mFr] at h
  rw [mCl]
  refine ⟨fun hk => ?_, ?_⟩
  ·obtain ⟨e1, e2, e3⟩ := A4B (hnm (.inl hk))
   by_cases hm : Y2 nm ∈ bnd.data.toList
   ·rw [e1]; exact hb _ hm
   ·have := A5T ks _ _ ((Y2 nm).toNat - 97) (h _ (by omega))
    rw [if_pos ⟨hk, hm⟩, List.getElem?_set] at this
    rw [if_pos rfl, if_pos (by omega)] at this
    cases this
  ·refine B2i ks _ _ _ _ h4 (by split <;> simp [hf]) ?_ h
   intro c hc
   by_cases hk : k = 5
   ·rw [if_pos hk] at hc ⊢
    obtain ⟨e1, e2, e3⟩ := A4B (hnm (.inr hk))
    rw [e1] at hc ⊢
    have hc : c ∈ (bnd.data ++ #[Y2 nm]).toList := by simpa using hc
    rw [Array.toList_append, List.mem_append] at hc
    rcases hc with hc | hc
    ·exact List.mem_cons_of_mem _ (hb c hc)
    ·have : c = Y2 nm := by simpa using hc
     rw [this]; exact List.mem_cons_self
   ·rw [if_neg hk] at hc ⊢; exact hb c hc
theorem B2i : ∀ (ts : List Tm) (d : Int) (bnd : ByteArray) (f : List Bool) (ns : List ByteArray), L5 12 14 ts d = true → f.length = 26 → (∀ c ∈ bnd.data.toList, (⟨#[c]⟩ : ByteArray) ∈ ns) → (∀ j, j < 26 → (Y9 bnd ts f)[j]? = some false) → A16 ns ts
 | [], _, _, _, _, _, _, _, _ => by rw [A16]; trivial
 | t :: ts, d, bnd, f, ns, hs, hf, hb, h => by
  rw [L5, Bool.and_eq_true] at hs
  rw [Y9] at h
  rw [A16]
  exact ⟨B2h t d bnd f ns hs.1 hf hb (fun j hj => A5T ts _ _ j (h j hj)), B2i ts d bnd _ ns hs.2 ((A4A t bnd f).trans hf) hb h⟩
end
theorem B2j {ts : List Tm} {i : Nat} (h : i < ts.length) (bnd : ByteArray) (f : List Bool) : Y9 bnd (ts.drop i) f = Y9 bnd (ts.drop (i + 1)) (mFr bnd ts[i] f) := by
 rw [List.drop_eq_getElem_cons h, Y9]
theorem B2k : ∀ (l : List UInt8) (c : UInt8), decide (0 ≤ Lib.indexByte l c) = decide (c ∈ l)
 | [], c => by simp [Lib.indexByte]
 | b :: l, c => by
  have ih := B2k l c
  have hge := Lib.indexByte_ge l c
  unfold Lib.indexByte
  by_cases hb : b = c
  ·subst hb; simp
  ·have hb' : (b == c) = false := by simpa using hb
   rw [hb']
   rw [decide_eq_decide] at ih ⊢
   have hb2 : ¬ c = b := fun h => hb h.symm
   simp only [List.mem_cons, hb2, false_or]
   rw [← ih]
   by_cases h1 : Lib.indexByte l c = -1
   ·simp [h1]
   ·have h2 : (Lib.indexByte l c == -1) = false := by simpa using h1
    rw [h2]; simp; omega
theorem B9j (s : ByteArray) (c : UInt8) (G : IM) : Fn Tryz.prog 195 [.string s, .string ⟨#[c]⟩] [] G (H8 (.bool (decide (c ∈ s.data.toList))) G) := by
 refine ⟨fun w hw => ?_⟩
 refine (Tryz.strings_Contains_one s c w).mono ?_
 rintro e w' ⟨rfl, rfl⟩
 exact ⟨_, G, [], rfl, S0.refl hw, rfl, by rw [B2k], rfl⟩
theorem B9k {f : List Bool} {j : Nat} (h : j < f.length) : T5 (f.map Value.bool) (j * 1) [.bool true] = some ((f.set j true).map Value.bool) := by
 rw [Nat.mul_one]
 induction f generalizing j with
 | nil => simp at h
 | cons b f ih =>
  cases j with
  | zero => cases f <;> simp [T5]
  | succ j => simp only [List.map_cons, T5, List.set_cons_succ]; rw [ih (by simpa using h)]
theorem B9l (f : List Bool) : (f.map Value.bool).length = f.length := by simp
theorem B9m (f : List Bool) : (f.map Value.bool).all (·.oneCell') = true := by rw [List.all_map, List.all_eq_true]; intro b _; rfl
theorem B9n : ∀ (t : Tm) (d : Int) (bd : ByteArray) (b : Nat) (f : List Bool) (G : IM) (cells : List Value), L7 12 14 t d = true → f.length = 26 → bd.size + D2 t ≤ 1000 → A8 G t cells →
  Fn Tryz.prog 145 [.agg ⟨cells⟩, .string bd, .pointer (some ⟨b, 0, none⟩)] [.blk b (f.map Value.bool)] G (fun G' v outs => G' = G ∧ v = .tuple ⟨[]⟩ ∧ outs = [.blk b ((mFr bd t f).map Value.bool)]) := by
 refine Tm.ind fun k nm num ty fr lb ks ih d bd b f G cells hv hf hb hr => ?_
 obtain ⟨hv1, hv2, hv3, hv4⟩ := X8 hv
 have hvk := (A0U 12 14 ks _).1 hv4
 have hnm := A6N hv3
 have hnmo := (T0.1 hv3).2.1
 simp only [D2] at hb
 obtain ⟨tk, tks⟩ := ty
 obtain ⟨fk, fks⟩ := fr
 obtain ⟨pt, ct, pf, cf, p, c, es, rfl, hk, hnum, hlb, hty, hfr, hsl, hkl⟩ := hr.open9
 have hn := hsl.le
 rw [mFr]
 obtain ⟨b1, hb1⟩ : ∃ b1, (if k = 5 then bd ++ nm else bd) = b1 := ⟨_, rfl⟩
 obtain ⟨f1, hf1⟩ : ∃ f1, (if k = 1 ∧ Y2 nm ∉ bd.data.toList then f.set ((Y2 nm).toNat - 97) true else f) = f1 := ⟨_, rfl⟩
 have hb1s : b1.size ≤ bd.size + 1 := by
  subst hb1; split
  ·simp only [ByteArray.size_append]; omega
  ·omega
 have hf1l : f1.length = 26 := by subst hf1; split <;> simp [hf]
 have hC : k = 1 → Fn Tryz.prog 195 [.string bd, .string nm] [] G (H8 (.bool (decide (Y2 nm ∈ bd.data.toList))) G) := fun h => by
  have h2 := B9j bd (Y2 nm) G
  rwa [← (A4B (hnmo (.inl h))).1] at h2
 have hI : k = 1 → nm[0]? = some (Y2 nm) := fun h => by
  obtain ⟨h2, _, _⟩ := A4B (hnmo (.inl h)); rw [h2]; rfl
 have hR : k = 1 → 97 ≤ (Y2 nm).toNat ∧ (Y2 nm).toNat ≤ 122 := fun h => (A4B (hnmo (.inl h))).2
 rw [hb1, hf1]
 have hcut1 : True := trivial
 refine B7 Tryz.func145 rfl Tryz.ntmps145 Tryz.results145 rfl ?_
 intro w0
 refine A1 ?_
 refine sE (C7 rfl rfl) rfl (fun b3 => ?_)
 refine B3 ?_
 (clear hcut1; refine Z4 (fun (x : Bool) => ⟨[(17, .bool x), (1, .string bd), (2, .pointer (some ⟨b, 0, none⟩)), (3, .pointer (some ⟨b3, 0, none⟩))], [.blk b (f.map Value.bool), .blk b3 [.int .i64 k, .string nm, .int .i64 num, .int .i64 tk, .slice pt tks.length ct, .int .i64 fk, .slice pf fks.length cf, .int .i64 lb, .slice p ks.length c]], G⟩) (fun x => x = true ↔ (k = 1 ∧ Y2 nm ∉ bd.data.toList)) ?_ ?_)
 refine B6 ?_
 refine sB (qE rfl rfl) rfl rfl (fun h12 => ?_) (fun h12 => ?_)
 refine B3 ?_
 refine E1 rfl ((hC (by omega))) rfl rfl (fun h17 => ?_) (fun h17 => ?_)
 refine B6 ?_
 refine P8 false (N8 (by repeat (first | exact E5.nil | refine E5.cons rfl ?_)) (by repeat (first | exact A0.refl | exact A0.nil | refine A0.cons (by repeat (first | exact Pk.here | apply Pk.there)) ?_ | apply A0.drop))) ?_
 (exact ⟨fun h => Bool.noConfusion h, fun h => absurd (show Y2 nm ∈ bd.data.toList from of_decide_eq_true (by assumption)) h.2⟩)
 refine B6 ?_
 refine P8 true (N8 (by repeat (first | exact E5.nil | refine E5.cons rfl ?_)) (by repeat (first | exact A0.refl | exact A0.nil | refine A0.cons (by repeat (first | exact Pk.here | apply Pk.there)) ?_ | apply A0.drop))) ?_
 (exact ⟨fun _ => ⟨by omega, of_decide_eq_false (by assumption)⟩, fun _ => rfl⟩)
 refine D0 ?_
 refine P8 false (N8 (by repeat (first | exact E5.nil | refine E5.cons rfl ?_)) (by repeat (first | exact A0.refl | exact A0.nil | refine A0.cons (by repeat (first | exact Pk.here | apply Pk.there)) ?_ | apply A0.drop))) ?_
 (exact ⟨fun h => Bool.noConfusion h, fun h => (by have := h.1; omega)⟩)
 (rintro x hx)
 (show J3 _ _ (.cond (.tmp 17) _ _) _ _; refine Z4 (fun (_ : Unit) => ⟨[(1, .string bd), (2, .pointer (some ⟨b, 0, none⟩)), (3, .pointer (some ⟨b3, 0, none⟩))], [.blk b (f1.map Value.bool), .blk b3 [.int .i64 k, .string nm, .int .i64 num, .int .i64 tk, .slice pt tks.length ct, .int .i64 fk, .slice pf fks.length cf, .int .i64 lb, .slice p ks.length c]], G⟩) (fun _ => True) (A3B rfl (fun hxt => (have hk1 : k = 1 := (hx.1 hxt).1; ?_)) (fun hxf => ?_)) ?_)
 refine E3 E4 rfl ?_
 refine J5 (i := 0) (l' := [tt,ff,ff,ff,ff,ff,ff,ff]) rfl D7 (qM rfl) rfl (by kernel_rfl) rfl rfl ?_
 refine aP 1 rfl (B9 rfl) rfl ?_
 refine aL 2 rfl (D3 rfl rfl) rfl ?_
 refine aP 3 rfl (A3F rfl rfl rfl (by omega) (hI (by omega))) rfl ?_
 refine aP 4 rfl (B9h rfl rfl (by have := hR (by omega); omega) (by have := hR (by omega); omega)) rfl ?_
 refine aP 5 rfl (Z1 rfl) rfl ?_
 refine aP 6 rfl (B9f (j := (Y2 nm).toNat - 97) rfl rfl rfl (by have := hR (by omega); omega) (by have := hR (by omega); omega)) rfl ?_
 refine A3 7 ?_
 refine R2 rfl rfl rfl rfl rfl rfl rfl rfl (by kernel_rfl) (by repeat first | exact Sw.here | apply Sw.there) (by exact B9k (by have := hR (by omega); omega)) ?_
 refine aD' ?_
 (have hq2 : f.set ((Y2 nm).toNat - 97) true = f1 := (by rw [← hf1, if_pos (hx.1 hxt)]); rw [hq2]; refine P8 () (N8 (by repeat (first | exact E5.nil | refine E5.cons rfl ?_)) (by repeat (first | exact A0.refl | exact A0.nil | refine A0.cons (by repeat (first | exact Pk.here | apply Pk.there)) ?_ | apply A0.drop))) trivial)
 refine tK ?_
 (have hq2 : f = f1 := (by rw [← hf1, if_neg (fun h => Bool.noConfusion (hxf.symm.trans (hx.2 h)))]); rw [hq2]; refine P8 () (N8 (by repeat (first | exact E5.nil | refine E5.cons rfl ?_)) (by repeat (first | exact A0.refl | exact A0.nil | refine A0.cons (by repeat (first | exact Pk.here | apply Pk.there)) ?_ | apply A0.drop))) trivial)
 (rintro x hx)
 refine B1 ?_
 refine sB (qE rfl rfl) rfl rfl (fun h60 => ?_) (fun h60 => ?_)
 refine B4 ?_
 refine sP (A18 rfl rfl (by omega)) rfl rfl ?_
 refine J4 ?_
 refine C0 ?_
 (have hq : k = 5 := (by omega); rw [show bd ++ nm = b1 by rw [← hb1, if_pos hq]]; refine L9 (fun (x : Nat × List Bool) => ⟨[(35, .int .i64 (x.1 : Int)), (34, .int .i64 (ks.length : Int)), (33, .slice p ks.length c), (1, .string b1), (2, .pointer (some ⟨b, 0, none⟩))], [.blk b (x.2.map Value.bool)], G⟩) (fun x => x.1 ≤ ks.length ∧ x.2.length = 26 ∧ Y9 b1 (ks.drop x.1) x.2 = Y9 b1 ks f1) (fun x => ks.length - x.1) (0, f1) ?_ ?_ ?_)
 (simp only [I7]; exact D5)
 (exact ⟨Nat.zero_le _, hf1l, rfl⟩)
 (rintro ⟨i, fs⟩ ⟨hi, hfs, hse⟩; simp only [] at hi hfs hse ⊢)
 refine A1 ?_
 refine sB (K6 rfl rfl) rfl rfl (fun h87 => ?_) (fun h87 => ?_)
 refine B4 ?_
 refine C0 ?_
 refine A1 ?_
 (obtain ⟨bx, ox, e, rfl, hl, hat, hre, hgb⟩ := hsl.kidTm hkl (i := i) (by omega) (by omega); refine sP (B8 (j := i) rfl rfl rfl (by omega)) rfl rfl ?_)
 refine sL (A2 rfl rfl (hat _) hl) rfl rfl ?_
 refine sE (B0 rfl) rfl (fun b100 => ?_)
 refine sS rfl rfl rfl hl hre.one rfl ?_ (hu := by exact C9 hl.symm)
 refine B6 ?_
 refine sL (A2 rfl rfl (B2 (by repeat first | exact mH | apply mT)) (by assumption)) rfl rfl ?_
 refine A1 ?_
 (refine I0 rfl (ih ks[i] (List.getElem_mem (by omega)) _ b1 b fs G e (hvk i (by omega)) hfs (by have := A6R ks (i + 1); rw [A6Q (by omega)] at this; omega) hre) (Pk.perm (by repeat (first | exact Pk.here | apply Pk.there))) rfl rfl (fun v G1 outs hle1 hh => ?_); obtain ⟨hG, rfl, rfl⟩ := hh; replace hG := hG.symm; subst hG)
 refine B3 ?_
 refine sP (K5 rfl rfl (by omega) (by omega)) rfl rfl ?_
 refine A1 ?_
 refine L0 (i + 1, mFr b1 ks[i] fs) ?_ ?_ ?_
 (simp only [I7]; exact D5)
 (dsimp only; exact ⟨by omega, (A4A _ _ _).trans hfs, by rw [← hse, B2j (ts := ks) (i := i) (by omega) b1 fs]⟩)
 (show ks.length - (i + 1) < ks.length - i; omega)
 refine D0 ?_
 refine B2f (outs := [.blk b (fs.map Value.bool)]) (by repeat (first | exact A0.nil | refine A0.cons (by repeat (first | exact Pk.here | apply Pk.there)) ?_)) ?_
 (exact ⟨rfl, rfl, by rw [← hse, List.drop_eq_nil_of_le (by omega), Y9]⟩)
 refine J6 ?_
 refine C0 ?_
 (have hq4 : bd = b1 := (by rw [← hb1, if_neg (by omega)]); rw [hq4]; refine L9 (fun (x : Nat × List Bool) => ⟨[(35, .int .i64 (x.1 : Int)), (34, .int .i64 (ks.length : Int)), (33, .slice p ks.length c), (1, .string b1), (2, .pointer (some ⟨b, 0, none⟩))], [.blk b (x.2.map Value.bool)], G⟩) (fun x => x.1 ≤ ks.length ∧ x.2.length = 26 ∧ Y9 b1 (ks.drop x.1) x.2 = Y9 b1 ks f1) (fun x => ks.length - x.1) (0, f1) ?_ ?_ ?_)
 (simp only [I7]; exact D5)
 (exact ⟨Nat.zero_le _, hf1l, rfl⟩)
 (rintro ⟨i, fs⟩ ⟨hi, hfs, hse⟩; simp only [] at hi hfs hse ⊢)
 refine A1 ?_
 refine sB (K6 rfl rfl) rfl rfl (fun h150 => ?_) (fun h150 => ?_)
 refine B4 ?_
 refine C0 ?_
 refine A1 ?_
 (obtain ⟨bx, ox, e, rfl, hl, hat, hre, hgb⟩ := hsl.kidTm hkl (i := i) (by omega) (by omega); refine sP (B8 (j := i) rfl rfl rfl (by omega)) rfl rfl ?_)
 refine sL (A2 rfl rfl (hat _) hl) rfl rfl ?_
 refine sE (B0 rfl) rfl (fun b163 => ?_)
 refine sS rfl rfl rfl hl hre.one rfl ?_ (hu := by exact C9 hl.symm)
 refine B6 ?_
 refine sL (A2 rfl rfl (B2 (by repeat first | exact mH | apply mT)) (by assumption)) rfl rfl ?_
 refine A1 ?_
 (refine I0 rfl (ih ks[i] (List.getElem_mem (by omega)) _ b1 b fs G e (hvk i (by omega)) hfs (by have := A6R ks (i + 1); rw [A6Q (by omega)] at this; omega) hre) (Pk.perm (by repeat (first | exact Pk.here | apply Pk.there))) rfl rfl (fun v G1 outs hle1 hh => ?_); obtain ⟨hG, rfl, rfl⟩ := hh; replace hG := hG.symm; subst hG)
 refine B3 ?_
 refine sP (K5 rfl rfl (by omega) (by omega)) rfl rfl ?_
 refine A1 ?_
 refine L0 (i + 1, mFr b1 ks[i] fs) ?_ ?_ ?_
 (simp only [I7]; exact D5)
 (dsimp only; exact ⟨by omega, (A4A _ _ _).trans hfs, by rw [← hse, B2j (ts := ks) (i := i) (by omega) b1 fs]⟩)
 (show ks.length - (i + 1) < ks.length - i; omega)
 refine D0 ?_
 refine B2f (outs := [.blk b (fs.map Value.bool)]) (by repeat (first | exact A0.nil | refine A0.cons (by repeat (first | exact Pk.here | apply Pk.there)) ?_)) ?_
 (exact ⟨rfl, rfl, by rw [← hse, List.drop_eq_nil_of_le (by omega), Y9]⟩)
theorem B9o (n : Int) (h0 : 0 ≤ n) : (strOfNums [n]).size = 1 := rfl
theorem B9p (t : Tm) (d : Int) (G : IM) (cells : List Value) (hv : L7 12 14 t d = true) (hb : D2 t ≤ 1000) (hr : A8 G t cells) :
  Fn Tryz.prog 80 [.agg ⟨cells⟩] [] G (fun G' v outs => G' = G ∧ outs = [] ∧ ∃ s, v = .string s ∧ (s = ⟨⟨[]⟩⟩ → mCl [] t)) := by
 have hRl := hr.len
 have hRo := hr.one
 have hF := fun b => B9n t d ⟨⟨[]⟩⟩ b (List.replicate 26 false) G cells hv (by simp) (by show 0 + _ ≤ _; omega) hr
 have hlf := A4A t ⟨⟨[]⟩⟩ (List.replicate 26 false)
 have hcl := B2h t d ⟨⟨[]⟩⟩ (List.replicate 26 false) [] hv (by simp) (fun c hc => by cases hc)
 rw [List.length_replicate] at hlf
 generalize mFr ⟨⟨[]⟩⟩ t (List.replicate 26 false) = fs at hF hlf hcl
 have hfl := (B9l fs).trans hlf
 have hfo := B9m fs
 simp only [List.replicate, List.map] at hF
 refine B7 Tryz.func80 rfl Tryz.ntmps80 Tryz.results80 rfl ?_
 intro w0
 refine A1 ?_
 refine sE (C7 rfl rfl) rfl (fun b3 => ?_)
 refine B1 ?_
 refine sE (B0 rfl) rfl (fun b9 => ?_)
 refine B3 ?_
 refine sL (A2 rfl rfl (B2 (by repeat first | exact mH | apply mT)) hRl) rfl rfl ?_
 (refine I0 rfl (hF _) (Pk.perm (by repeat (first | exact Pk.here | apply Pk.there))) rfl rfl (fun v G1 outs hle1 hh => ?_); obtain ⟨hG, rfl, rfl⟩ := hh; replace hG := hG.symm; subst hG)
 refine J2 ?_
 refine sL (A2 rfl rfl (B2 (by repeat first | exact mH | apply mT)) hfl) rfl rfl ?_
 refine B6 ?_
 refine C0 ?_
 (refine L9 (fun (x : Nat × ByteArray) => ⟨[(10, .int .i64 (x.1 : Int)), (9, .agg ⟨fs.map Value.bool⟩), (4, .string x.2)], [], G⟩) (fun x => x.1 ≤ 26 ∧ x.2.size ≤ x.1 ∧ (x.2 = ⟨⟨[]⟩⟩ → ∀ j, j < x.1 → fs[j]? = some false)) (fun x => 26 - x.1) (0, ⟨⟨[]⟩⟩) ?_ ?_ ?_)
 (simp only [I7]; exact D5)
 (exact ⟨by omega, by show 0 ≤ 0; omega, fun _ j hj => absurd hj (Nat.not_lt_zero j)⟩)
 (rintro ⟨i, o⟩ ⟨hi, hos, hof⟩; simp only [] at hi hos hof ⊢)
 refine A1 ?_
 refine sB (K6 rfl rfl) rfl rfl (fun h37 => ?_) (fun h37 => ?_)
 refine B4 ?_
 refine C0 ?_
 refine B6 ?_
 (obtain ⟨bv, hbv⟩ : ∃ bv, fs[i]? = some bv := ⟨fs[i]'(by omega), List.getElem?_eq_getElem (by omega)⟩; refine sP (B9g rfl rfl rfl (by omega) (by rw [List.getElem?_map, hbv]; rfl)) rfl rfl ?_; cases bv)
 refine K2 ?_
 refine sP (K5 rfl rfl (by omega) (by omega)) rfl rfl ?_
 refine A1 ?_
 refine L0 (i + 1, o) ?_ ?_ ?_
 (simp only [I7]; exact D5)
 (dsimp only; exact ⟨by omega, by omega, fun ho j hj => (by by_cases he : j = i; (subst he; exact hbv); exact hof ho j (by omega))⟩)
 (show 26 - (i + 1) < 26 - i; omega)
 refine J6 ?_
 refine sP (K5 rfl rfl (by omega) (by omega)) rfl rfl ?_
 refine sP (A6g rfl rfl rfl (by omega) (by omega)) rfl rfl ?_
 (refine M5 (D4 rfl rfl rfl (by omega) (by unfold maxLen; omega) rfl) rfl ?_; rintro _ ⟨bq, rfl⟩)
 refine sL (A6h (xs := [97 + (i : Int)]) rfl rfl rfl rfl rfl (P3 (by repeat first | exact mH | apply mT))) rfl rfl ?_
 (have hs1 := B9o (97 + (i : Int)) (by omega); refine sP (A18 rfl rfl (by omega)) rfl rfl ?_)
 refine B1 ?_
 refine sP (K5 rfl rfl (by omega) (by omega)) rfl rfl ?_
 refine A1 ?_
 (have hs2 := hs1; refine L0 (i + 1, o ++ strOfNums [97 + (i : Int)]) ?_ ?_ ?_)
 (simp only [I7]; exact D5)
 (dsimp only; exact ⟨by omega, by rw [ByteArray.size_append]; omega, fun ho => (by have := congrArg ByteArray.size ho; rw [ByteArray.size_append, hs1] at this; have h0 : (⟨⟨[]⟩⟩ : ByteArray).size = 0 := rfl; omega)⟩)
 (show 26 - (i + 1) < 26 - i; omega)
 refine J7 ?_
 refine H5 (outs := []) (rT rfl) A0.nil ?_
 (exact ⟨rfl, rfl, _, rfl, fun ho => hcl (fun j hj => hof ho j (by omega))⟩)
theorem B9q (t : Tm) (G : IM) (cells : List Value) (hr : A8 G t cells) :
  Fn Tryz.prog 26 [.agg ⟨cells⟩] [] G (fun G' v outs => G' = G ∧ outs = [] ∧ ∃ s, v = .string s ∧ (s = ⟨⟨[]⟩⟩ → M8 t = true → mCl [] t)) := by
 have hRl := hr.len
 have hRo := hr.one
 have hw := A3U t G cells hr
 have hcv := X7 t
 refine B7 Tryz.func26 rfl Tryz.ntmps26 Tryz.results26 rfl ?_
 intro w0
 refine A1 ?_
 refine sE (C7 rfl rfl) rfl (fun b3 => ?_)
 refine A7 ?_
 refine sL (A2 rfl rfl (B2 (by repeat first | exact mH | apply mT)) hRl) rfl rfl ?_
 refine E1 rfl (hw) rfl rfl (fun h11 => ?_) (fun h11 => ?_)
 refine D0 ?_
 refine sL (A2 rfl rfl (B2 (by repeat first | exact mH | apply mT)) hRl) rfl rfl ?_
 (have hq := hcv.1 (by assumption); refine I0 rfl (B9p t 1 G cells hq.1 (by have := hq.2; omega) hr) (List.Perm.refl _) rfl rfl (fun v G1 outs hle1 hh => ?_); obtain ⟨hG, rfl, s1, rfl, hs1⟩ := hh; replace hG := hG.symm; subst hG)
 refine B3 ?_
 refine H5 (outs := []) (rT rfl) A0.nil ?_
 (exact ⟨rfl, rfl, _, rfl, fun ho _ => hs1 ho⟩)
 refine J4 ?_
 refine H5 (outs := []) (rT rfl) A0.nil ?_
 (exact ⟨rfl, rfl, _, rfl, fun _ ht => Bool.noConfusion (ht.symm.trans (show M8 t = false by assumption))⟩)
def A0g : Tm → Tm
 | .mk k nm num ty fr lb ks => if k = 13 then ks.headD E2 else if k = 1 ∨ k = 6 ∨ k = 9 ∨ k = 11 ∨ k = 12 then .mk k nm num ty fr lb ks
  else A15 (.mk k nm num (if k = 5 then K1 else ty) fr lb ks)
def A3y : Tm → Prop
 | .mk k _ _ _ _ _ ks => k = 13 → ks ≠ []
theorem B2l : ∀ ks, (R9 ks).length = ks.length
 | [] => rfl
 | t :: ts => by rw [R9, List.length_cons, List.length_cons, B2l ts]
mutual
theorem A7Z (D N : Int) : ∀ (t : Tm) (d : Int), L7 D N t d = true → (N = 14 → A0o A0g t = V1 t ∧ mOk A3y A0g t)
 | .mk k nm num ty fr lb ks, d, h, hN => by
  obtain ⟨h1, h2, h3, h4⟩ := X8 h
  obtain ⟨e1, e2⟩ := B2m D N ks _ h4 hN
  have hn := T0.1 h3
  rw [A0o, V1, mOk, e1]
  refine ⟨?_, e2, ?_⟩
  ·rw [A0g]
   by_cases hk : k = 13
   ·rw [if_pos hk, if_pos hk]
   ·rw [if_neg hk, if_neg hk]
    obtain ⟨hf, hl⟩ := hn.2.2.2.2.2.2.2.2 (by omega)
    rw [A0X hf, hl]
    by_cases hk5 : k = 5
    ·rw [if_pos hk5, if_pos hk5, if_neg (by omega), if_neg (by omega)]
    ·rw [if_neg hk5, if_neg hk5, A0X (hn.2.2.2.2.2.2.1 (by omega))]
  ·rw [A3y]
   intro hk he
   have ha := hn.1
   have : ks.length = 0 := by
    have := congrArg List.length he
    rw [B2l] at this
    simpa using this
   subst hk; rw [this] at ha; revert ha; decide
theorem B2m (D N : Int) : ∀ (ts : List Tm) (d : Int), L5 D N ts d = true → (N = 14 → Y7 A0g ts = R9 ts ∧ A0A A3y A0g ts)
 | [], d, h, _ => by rw [Y7, R9, A0A]; exact ⟨rfl, trivial⟩
 | t :: ts, d, h, hN => by
  rw [L5, Bool.and_eq_true] at h
  obtain ⟨a1, a2⟩ := A7Z D N t d h.1 hN
  obtain ⟨b1, b2⟩ := B2m D N ts d h.2 hN
  rw [Y7, R9, A0A, a1, b1]
  exact ⟨rfl, a2, b2⟩
end
theorem B2n (e : Tm) (G : IM) (ce : List Value) (he : A8 G e ce) : Fn Tryz.prog 79 [.agg ⟨ce⟩] [] G (P9 (A15 e)) := by
 have hel := he.len
 have heo := he.one
 obtain ⟨v1, v2, v3, v4, v5, v6, v7, v8, v9, rfl⟩ := nine hel
 refine B7 Tryz.func79 rfl Tryz.ntmps79 Tryz.results79 rfl ?_
 intro w0
 refine A1 ?_
 refine sE (C7 rfl rfl) rfl (fun b3 => ?_)
 refine sE (B0 rfl) rfl (fun b4 => ?_)
 refine B6 ?_
 refine E3 E4 rfl ?_
 refine Q9 (i := 1) (l' := [ff,tt,ff,ff,ff]) rfl D7 (A2 rfl rfl (B2 (by repeat first | exact mH | apply mT)) rfl) rfl (by kernel_rfl) rfl rfl ?_
 refine U6 (j := 0) (j' := 2) (by kernel_rfl) ?_ ?_
 refine P4 rfl rfl (A0M 1 _) rfl rfl rfl ?_
 refine A3 2 ?_
 (refine E6 rfl (D4 rfl rfl rfl (by omega) (by unfold maxLen; omega) rfl) rfl rfl ?_; rintro _ ⟨b13, rfl⟩)
 refine aP 3 rfl (pBd rfl rfl) rfl ?_
 refine A3 4 ?_
 refine I9 rfl ?_
 refine A1 ?_
 (refine I5 (cs := [v1, v2, v3, v4, v5, v6, v7, v8, v9]) (by repeat (first | exact Pk.here | apply Pk.there)) (fun G2 hle2 hsl2 hno2 => ?_))
 refine tT ?_
 refine L3 (rC rfl (A4 rfl rfl)) ?_
 (exact P9.mk (A8.put (us := [e]) (es := [[v1, v2, v3, v4, v5, v6, v7, v8, v9]]) ⟨by decide, by decide⟩ ⟨by decide, by decide⟩ ⟨by decide, by decide⟩ (A7H _) (A0Y _) rfl (D6.of hsl2 rfl (by intro x hx; obtain rfl := List.mem_singleton.1 hx; rfl) (by intro x hx; obtain rfl := List.mem_singleton.1 hx; exact heo)) (by simp only [D9]; exact ⟨_, _, rfl, he.mono hle2, rfl⟩)))
 (refine E6 rfl (D4 rfl rfl rfl (by omega) (by unfold maxLen; omega) rfl) rfl rfl ?_; rintro _ ⟨b23, rfl⟩)
 refine A3 0 ?_
 refine P4 rfl rfl (A0M 1 _) rfl rfl rfl ?_
 refine aP 3 rfl (pBd rfl rfl) rfl ?_
 refine A3 4 ?_
 refine I9 rfl ?_
 refine A1 ?_
 (refine I5 (cs := [v1, v2, v3, v4, v5, v6, v7, v8, v9]) (by repeat (first | exact Pk.here | apply Pk.there)) (fun G2 hle2 hsl2 hno2 => ?_))
 refine tT ?_
 refine L3 (rC rfl (A4 rfl rfl)) ?_
 (exact P9.mk (A8.put (us := [e]) (es := [[v1, v2, v3, v4, v5, v6, v7, v8, v9]]) ⟨by decide, by decide⟩ ⟨by decide, by decide⟩ ⟨by decide, by decide⟩ (A7H _) (A0Y _) rfl (D6.of hsl2 rfl (by intro x hx; obtain rfl := List.mem_singleton.1 hx; rfl) (by intro x hx; obtain rfl := List.mem_singleton.1 hx; exact heo)) (by simp only [D9]; exact ⟨_, _, rfl, he.mono hle2, rfl⟩)))
theorem B9r {nm : ByteArray} {num : Int} {ty fr : Ty} {lb : Int} {x : Tm} {xs : List Tm} : A0g (.mk 13 nm num ty fr lb (x :: xs)) = x := by rw [A0g, if_pos rfl]; rfl
theorem B9s {k : Int} {nm : ByteArray} {num : Int} {ty fr : Ty} {lb : Int} {ks : List Tm} (h : k = 1 ∨ k = 6 ∨ k = 9 ∨ k = 11 ∨ k = 12) : A0g (.mk k nm num ty fr lb ks) = .mk k nm num ty fr lb ks := by rw [A0g, if_neg (by omega), if_pos h]
theorem B9t {k : Int} {nm : ByteArray} {num : Int} {ty fr : Ty} {lb : Int} {ks : List Tm} (h : k = 5) : A0g (.mk k nm num ty fr lb ks) = A15 (.mk k nm num K1 fr lb ks) := by rw [A0g, if_neg (by omega), if_neg (by omega), if_pos h]
theorem B9u {k : Int} {nm : ByteArray} {num : Int} {ty fr : Ty} {lb : Int} {ks : List Tm} (h : ¬(k = 13 ∨ k = 1 ∨ k = 6 ∨ k = 9 ∨ k = 11 ∨ k = 12 ∨ k = 5)) : A0g (.mk k nm num ty fr lb ks) = A15 (.mk k nm num ty fr lb ks) := by rw [A0g, if_neg (by omega), if_neg (by omega), if_neg (by omega)]
theorem B9v (t : Tm) (G : IM) (cells : List Value) (hq : A3y t) (hr : A8 G t cells) : Fn Tryz.prog 77 [.agg ⟨cells⟩] [] G (P9 (A0g t)) := by
 have hr0 := hr
 obtain ⟨k, nm, num, ⟨tk, tks⟩, ⟨fk, fks⟩, lb, ks⟩ := t
 by_cases hk13 : k = 13
 ·subst hk13
  obtain ⟨a, us, rfl⟩ : ∃ x xs, ks = x :: xs := List.exists_cons_of_ne_nil (hq rfl)
  obtain ⟨pt, ct, pf, cf, p, c, es, rfl, hk, hnum, hlb, hty, hfr, hsl, hkl⟩ := hr.open9
  obtain ⟨bx, ox, e, rfl, hl, hat, hre, hgb⟩ := hsl.kidTm hkl (i := 0) (by simp) (by simp)
  have heo := hre.one
  simp only [List.getElem_cons_zero] at hre
  rw [B9r]
  refine B7 Tryz.func77 rfl Tryz.ntmps77 Tryz.results77 rfl ?_
  intro w0
  refine A1 ?_
  refine sE (C7 rfl rfl) rfl (fun b3 => ?_)
  refine sE (B0 rfl) rfl (fun b4 => ?_)
  refine D8 ?_
  refine C0 ?_
  refine A1 ?_
  refine sP (S8 rfl rfl (by omega)) rfl rfl ?_
  refine D0 ?_
  refine sP (B8 (j := 0) rfl rfl rfl (by simp)) rfl rfl ?_
  refine sL (A2 rfl rfl (hat _) hl) rfl rfl ?_
  refine sS rfl rfl rfl hl heo rfl ?_ (hu := by exact C9 hl.symm)
  refine B1 ?_
  refine L3 (rC rfl (A2 rfl rfl (B2 (by repeat first | exact mH | apply mT)) hl)) ?_
  (exact P9.mk hre)
 ·obtain ⟨pt, ct, pf, cf, p, c, es, rfl, hk, hnum, hlb, hty, hfr, hsl, hkl⟩ := hr.open9
  have hy := @B9s k nm num (.mk tk tks) (.mk fk fks) lb ks
  have h5 := @B9t k nm num (.mk tk tks) (.mk fk fks) lb ks
  have ho := @B9u k nm num (.mk tk tks) (.mk fk fks) lb ks
  generalize A0g (.mk k nm num (.mk tk tks) (.mk fk fks) lb ks) = R at hy h5 ho ⊢
  have hr5 : A8 G (.mk k nm num K1 (.mk fk fks) lb ks) [.int .i64 k, .string nm, .int .i64 num, .int .i64 1, .slice none 0 0, .int .i64 fk, .slice pf fks.length cf, .int .i64 lb, .slice p ks.length c] := A8.put hk hnum hlb (A7H G) hfr rfl hsl hkl
  have hA5 := B2n _ G _ hr5
  have hA := B2n _ G _ hr0
  refine B7 Tryz.func77 rfl Tryz.ntmps77 Tryz.results77 rfl ?_
  intro w0
  refine A1 ?_
  refine sE (C7 rfl rfl) rfl (fun b3 => ?_)
  refine sE (B0 rfl) rfl (fun b4 => ?_)
  refine D8 ?_
  refine C0 ?_
  refine A1 ?_
  refine sP (H7 rfl rfl (by omega)) rfl rfl ?_
  refine B4 ?_
  refine sB (qE rfl rfl) rfl rfl (fun h25 => ?_) (fun h25 => ?_)
  refine J7 ?_
  refine L3 (rC rfl (A4 rfl rfl)) ?_
  (rw [hy (by omega)]; exact P9.mk hr0)
  refine A7 ?_
  refine sB (qE rfl rfl) rfl rfl (fun h50 => ?_) (fun h50 => ?_)
  refine J7 ?_
  refine L3 (rC rfl (A4 rfl rfl)) ?_
  (rw [hy (by omega)]; exact P9.mk hr0)
  refine A7 ?_
  refine sB (qE rfl rfl) rfl rfl (fun h75 => ?_) (fun h75 => ?_)
  refine J7 ?_
  refine L3 (rC rfl (A4 rfl rfl)) ?_
  (rw [hy (by omega)]; exact P9.mk hr0)
  refine A7 ?_
  refine sB (qE rfl rfl) rfl rfl (fun h100 => ?_) (fun h100 => ?_)
  refine J7 ?_
  refine L3 (rC rfl (A4 rfl rfl)) ?_
  (rw [hy (by omega)]; exact P9.mk hr0)
  refine B1 ?_
  refine sB (qE rfl rfl) rfl rfl (fun h124 => ?_) (fun h124 => ?_)
  refine J6 ?_
  refine L3 (rC rfl (A4 rfl rfl)) ?_
  (rw [hy (by omega)]; exact P9.mk hr0)
  refine A7 ?_
  refine sB (qE rfl rfl) rfl rfl (fun h146 => ?_) (fun h146 => ?_)
  refine B1 ?_
  refine I3 rfl (A0M 1 _) rfl rfl ?_
  refine D0 ?_
  (have hq5 : k = 5 := (by omega); refine E7 rfl hA5 rfl rfl (fun v G2 hle2 hh => ?_); obtain ⟨cw, rfl, hrw⟩ := hh; have hlw := hrw.len; have how := hrw.one)
  refine sS rfl rfl rfl hlw how rfl ?_ (hu := by exact C9 hlw.symm)
  refine B6 ?_
  refine L3 (rC rfl (A2 rfl rfl (B2 (by repeat first | exact mH | apply mT)) hlw)) ?_
  (rw [h5 (by omega)]; exact P9.mk hrw)
  refine J2 ?_
  (refine E7 rfl hA rfl rfl (fun v G2 hle2 hh => ?_); obtain ⟨cw, rfl, hrw⟩ := hh; have hlw := hrw.len; have how := hrw.one)
  refine sS rfl rfl rfl hlw how rfl ?_ (hu := by exact C9 hlw.symm)
  refine B6 ?_
  refine L3 (rC rfl (A2 rfl rfl (B2 (by repeat first | exact mH | apply mT)) hlw)) ?_
  (rw [ho (by omega)]; exact P9.mk hrw)
theorem B9w : A7Y A0g A3y 77 [] [] := fun t G cells hq hr => B9v t G cells hq hr
theorem B9x (t : Tm) (G : IM) (cells : List Value) (hr : A8 G t cells) : Fn Tryz.prog 75 [.agg ⟨cells⟩] [] G (TbR (if M8 t = true then (t, true) else (E2, false))) := by
 have hl := hr.len
 have hone := hr.one
 have hw := A3U t G cells hr
 have hcv := X7 t
 refine B7 Tryz.func75 rfl Tryz.ntmps75 Tryz.results75 rfl ?_
 intro w0
 refine A1 ?_
 refine sE (C7 rfl rfl) rfl (fun b3 => ?_)
 refine sE (B0 rfl) rfl (fun b4 => ?_)
 refine A7 ?_
 refine sL (A2 rfl rfl (B2 (by repeat first | exact mH | apply mT)) hl) rfl rfl ?_
 refine E1 rfl (hw) rfl rfl (fun h12 => ?_) (fun h12 => ?_)
 refine D0 ?_
 refine sL (A2 rfl rfl (B2 (by repeat first | exact mH | apply mT)) hl) rfl rfl ?_
 (have hq := hcv.1 (by assumption); refine E7 rfl (A27 t G cells (A6P t 1 hq.1) hr) rfl rfl (fun v G1 hle1 hh => ?_); obtain ⟨T8, F1, rfl, hs1, hn1⟩ := hh; have hul := hs1.R.len; have huo := hs1.R.one)
 refine sS rfl rfl rfl hul huo rfl ?_ (hu := by exact C9 hul.symm)
 refine B3 ?_
 refine I8 (rC rfl (A2 rfl rfl (B2 (by repeat first | exact mH | apply mT)) hul)) (rT rfl) ?_
 (rw [if_pos (by assumption)]; exact TbR.mk rfl (hs1.R.mono (C8.le _ _)))
 refine J6 ?_
 refine I8 (rC rfl (A4 rfl rfl)) (rT rfl) ?_
 (rw [if_neg (by simp [*])]; exact TbR.mk rfl (M1 _))
theorem B9y {e : Tm} (h : M8 e = false) : A17 e = (E2, false) := by unfold A17; rw [if_neg (by rw [h]; exact fun hh => Bool.noConfusion hh.1)]
theorem B9z {e : Tm} (h : M8 e = true) : A17 e = if M8 (V1 e) = true then (V1 e, true) else (E2, false) := by
 unfold A17
 by_cases h2 : M8 (V1 e) = true
 ·rw [if_pos ⟨h, h2⟩, if_pos h2]
 ·rw [if_neg (fun hh => h2 hh.2), if_neg h2]
theorem B9A (t : Tm) (G : IM) (cells : List Value) (hr : A8 G t cells) : Fn Tryz.prog 25 [.agg ⟨cells⟩] [] G (TbR (A17 t)) := by
 have hl := hr.len
 have hone := hr.one
 have hV := A3U t G cells hr
 have hM := fun (h : M8 t = true) => B9c A0g A3y 77 [] [] B9w (.slc none 0 3 1 0 []) t G cells (A7Z 12 14 t 1 ((X7 t).1 h).1 rfl).2 (A6P t 1 ((X7 t).1 h).1) hr
 have hE := fun (h : M8 t = true) => (A7Z 12 14 t 1 ((X7 t).1 h).1 rfl).1
 have hy := @B9z t
 have hn := @B9y t
 generalize A17 t = R at hy hn ⊢
 refine B7 Tryz.func25 rfl Tryz.ntmps25 Tryz.results25 rfl ?_
 intro w0
 refine A1 ?_
 refine sE (C7 rfl rfl) rfl (fun b3 => ?_)
 refine sE (B0 rfl) rfl (fun b4 => ?_)
 refine A7 ?_
 refine sL (A2 rfl rfl (B2 (by repeat first | exact mH | apply mT)) hl) rfl rfl ?_
 refine E1 rfl (hV) rfl rfl (fun h12 => ?_) (fun h12 => ?_)
 refine D0 ?_
 refine sL (A2 rfl rfl (B2 (by repeat first | exact mH | apply mT)) hl) rfl rfl ?_
 (refine B23 3 1 ?_; refine I0 rfl (hM (by assumption)) (Pk.perm (by repeat (first | exact Pk.here | apply Pk.there))) rfl rfl (fun v3 G3 outs hle3 hh => ?_); obtain ⟨rfl, cu, rfl, hru⟩ := hh; rw [hE (by assumption)] at hru; have hul := hru.len; have huo := hru.one)
 (refine E7 rfl (B9x _ _ _ hru) rfl rfl (fun v G4 hle4 hh => ?_); rw [← hy (by assumption)] at hh; obtain ⟨cw, rfl, hrw⟩ := hh; have hwl := hrw.len; have hwo := hrw.one)
 refine A1 ?_
 refine sS rfl rfl rfl hwl hwo rfl ?_ (hu := by exact C9 hwl.symm)
 refine B3 ?_
 refine I8 (rC rfl (A2 rfl rfl (B2 (by repeat first | exact mH | apply mT)) hwl)) (rT rfl) ?_
 (exact ⟨rfl, _, rfl, hrw⟩)
 refine J6 ?_
 refine I8 (rC rfl (A4 rfl rfl)) (rT rfl) ?_
 (exact TbR.mk (hn (by assumption)) (M1 _))
def C0t (G : IM) : IM → Value → List A5 → Prop := M9 fun G' v => ∃ a ca b cb f, v = .tuple ⟨[.agg ⟨ca⟩, .agg ⟨cb⟩, .int .i64 f]⟩ ∧ A8 G' a ca ∧ a.fit 1100 ∧ A8 G' b cb ∧ b.fit 1100 ∧ F8 f
def C0u (G : IM) : IM → Value → List A5 → Prop := M9 fun G' v => ∃ a ca b cb d cd, v = .tuple ⟨[.agg ⟨ca⟩, .agg ⟨cb⟩, .agg ⟨cd⟩]⟩ ∧ A8 G' a ca ∧ a.fit 1100 ∧ A8 G' b cb ∧ b.fit 1100 ∧ A8 G' d cd ∧ d.fit 1100
def B9B (N : Nat) (G : IM) : IM → Value → List A5 → Prop := M9 fun G' v => ∃ a ca f, v = .tuple ⟨[.agg ⟨ca⟩, .int .i64 f]⟩ ∧ A8 G' a ca ∧ a.fit N ∧ F8 f
theorem B9C (G : IM) (q : Option Addr) (n c : Nat) (bs : List UInt8) (hb : Sl G q n c 1 (O9 bs)) : Fn Tryz.prog 19 [.slice q n c] [] G (B9B 1100 G) := by
 refine B7 Tryz.func19 rfl Tryz.ntmps19 Tryz.results19 rfl ?_
 intro w0
 refine A1 ?_
 refine sE (B0 rfl) rfl (fun b3 => ?_)
 refine A7 ?_
 (refine I0 rfl (B4l G q n c bs hb) (List.Perm.refl _) rfl rfl (fun v G1 outs hle1 hh => ?_); obtain ⟨rfl, br, pb, nb, cb, bs', rfl, rfl, hnb, hb'⟩ := hh)
 refine A7 ?_
 (have hcall := B7o br pb nb cb bs' hnb 0 _ hb' (by omega); refine I0 rfl hcall (Pk.perm (by repeat (first | exact Pk.here | apply Pk.there))) rfl rfl (fun v Gn outs hle1 hh => ?_); obtain ⟨p1, hp11, hp12, rfl, e0, ce0, rfl, hr0, hf0⟩ := hh; replace hb' := hb'.mono hle1; have hl0 := hr0.len; have ho0 := hr0.one)
 refine sE (B0 rfl) rfl (fun b18 => ?_)
 refine Y4 rfl rfl rfl hl0 ho0 rfl (by repeat first | exact Sw.here | apply Sw.there) (by exact C9 (by first | exact hl0.symm | omega)) ?_
 refine A7 ?_
 (refine I0 rfl (Y6 _ br pb nb cb (p1) bs' 3 hb' hnb (by omega)) (Pk.perm (by repeat (first | exact Pk.here | apply Pk.there))) rfl rfl (fun v Gp outs hle26 hh => ?_); obtain ⟨rfl, rfl, j26, rfl, hj26, hk26⟩ := hh; skip)
 replace hr0 := hr0.mono hle26
 replace hb' := hb'.mono hle26
 refine sB (qE rfl rfl) rfl rfl (fun h27 => ?_) (fun h27 => ?_)
 refine B1 ?_
 (refine I0 rfl (B4m br pb nb cb bs' hnb (p1 + 1) _ hb' (by omega)) (Pk.perm (by repeat (first | exact Pk.here | apply Pk.there))) rfl rfl (fun v G3 outs hle3 hh => ?_); obtain ⟨p3, hp31, hp32, rfl, t3, cells3, rfl, hr3, hs3⟩ := hh; replace hb' := hb'.mono hle3; have hf3 : t3.fit 1100 := ⟨A6w t3 (by omega), by have := A3W t3; omega⟩; have hl3 := hr3.len; have ho3 := hr3.one)
 refine Y4 rfl rfl rfl hl3 ho3 rfl (by repeat first | exact Sw.here | apply Sw.there) (by exact C9 (by first | exact (hl3.trans hl0.symm).symm | exact hl3.symm | omega)) ?_
 refine B1 ?_
 refine sL (A2 rfl rfl (B2 (by repeat first | exact mH | apply mT)) hl3) rfl rfl ?_
 (have hcall := A9y br pb nb cb bs' hnb p3 _ hb' (by omega) t3 cells3 1100 hf3 hr3; refine I0 rfl hcall (Pk.perm (by repeat (first | exact Pk.here | apply Pk.there))) rfl rfl (fun v Gn outs hle2 hh => ?_); obtain ⟨p2, hp21, hp22, rfl, e, ce, rfl, hre, hfe⟩ := hh; have hl1 := hre.len; have ho1 := hre.one; replace hb' := hb'.mono hle2)
 refine E8 ?_
 (have hcall := B1t br pb nb cb bs' hnb p2 _ hb' (by omega); refine I0 rfl hcall (Pk.perm (by repeat (first | exact Pk.here | apply Pk.there))) rfl rfl (fun v Gn outs hle5 hh => ?_); obtain ⟨p5, hp51, hp52, rfl, fl, rfl, hfl⟩ := hh; replace hre := hre.mono hle5)
 refine Y4 rfl rfl rfl hl1 ho1 rfl (by repeat first | exact Sw.here | apply Sw.there) (by exact C9 (by first | exact hl1.symm | omega)) ?_
 refine B3 ?_
 refine I8 (rC rfl (A2 rfl rfl (B2 (by repeat first | exact mH | apply mT)) hl1)) (rT rfl) ?_
 (exact ⟨rfl, e, ce, fl, rfl, hre, hfe, hfl⟩)
 refine D0 ?_
 refine sL (A2 rfl rfl (B2 (by repeat first | exact mH | apply mT)) hl0) rfl rfl ?_
 (have hcall := A9y br pb nb cb bs' hnb (p1 + 1) _ hb' (by omega) e0 ce0 1100 hf0 hr0; refine I0 rfl hcall (Pk.perm (by repeat (first | exact Pk.here | apply Pk.there))) rfl rfl (fun v Gn outs hle2 hh => ?_); obtain ⟨p2, hp21, hp22, rfl, e, ce, rfl, hre, hfe⟩ := hh; have hl1 := hre.len; have ho1 := hre.one; replace hb' := hb'.mono hle2)
 refine E8 ?_
 (have hcall := B1t br pb nb cb bs' hnb p2 _ hb' (by omega); refine I0 rfl hcall (Pk.perm (by repeat (first | exact Pk.here | apply Pk.there))) rfl rfl (fun v Gn outs hle5 hh => ?_); obtain ⟨p5, hp51, hp52, rfl, fl, rfl, hfl⟩ := hh; replace hre := hre.mono hle5)
 refine Y4 rfl rfl rfl hl1 ho1 rfl (by repeat first | exact Sw.here | apply Sw.there) (by exact C9 (by first | exact hl1.symm | omega)) ?_
 refine B3 ?_
 refine I8 (rC rfl (A2 rfl rfl (B2 (by repeat first | exact mH | apply mT)) hl1)) (rT rfl) ?_
 (exact ⟨rfl, e, ce, fl, rfl, hre, hfe, hfl⟩)
theorem GE.inj : ∀ {e e' : GE}, e.tm = e'.tm → e = e' := by
 intro e
 induction e with
 | var x => intro e' h; cases e' with
  | var y => simp [GE.tm] at h; rw [h]
  | tru b => cases b <;> simp [GE.tm] at h
  | ar s _ _ => cases s <;> simp [GE.tm] at h
  | part s _ => cases s <;> simp [GE.tm] at h
  | _ => simp [GE.tm] at h
 | num n => intro e' h; cases e' with
  | num y => simp [GE.tm] at h; rw [h]
  | tru b => cases b <;> simp [GE.tm] at h
  | ar s _ _ => cases s <;> simp [GE.tm] at h
  | part s _ => cases s <;> simp [GE.tm] at h
  | _ => simp [GE.tm] at h
 | tru b => intro e' h; cases e' with
  | tru c => cases b <;> cases c <;> first | rfl | simp [GE.tm] at h
  | ar s _ _ => cases b <;> cases s <;> simp [GE.tm] at h
  | part s _ => cases b <;> cases s <;> simp [GE.tm] at h
  | _ => cases b <;> simp [GE.tm] at h
 | lam x A e i => intro e' h; cases e' with
  | lam y B e' => simp [GE.tm] at h; rw [h.1, GT.inj h.2.1, i h.2.2]
  | tru b => cases b <;> simp [GE.tm] at h
  | ar s _ _ => cases s <;> simp [GE.tm] at h
  | part s _ => cases s <;> simp [GE.tm] at h
  | _ => simp [GE.tm] at h
 | app f a i j => intro e' h; cases e' with
  | app f' a' => simp [GE.tm] at h; rw [i h.1, j h.2]
  | tru b => cases b <;> simp [GE.tm] at h
  | ar s _ _ => cases s <;> simp [GE.tm] at h
  | part s _ => cases s <;> simp [GE.tm] at h
  | _ => simp [GE.tm] at h
 | ar t f a i j => intro e' h; cases e' with
  | ar s f' a' => cases s <;> cases t <;> simp [GE.tm] at h <;> rw [i h.1, j h.2]
  | tru b => cases t <;> cases b <;> simp [GE.tm] at h
  | part s _ => cases t <;> cases s <;> simp [GE.tm] at h
  | _ => cases t <;> simp [GE.tm] at h
 | ite c a b i j k => intro e' h; cases e' with
  | ite c' a' b' => simp [GE.tm] at h; rw [i h.1, j h.2.1, k h.2.2]
  | tru b => cases b <;> simp [GE.tm] at h
  | ar s _ _ => cases s <;> simp [GE.tm] at h
  | part s _ => cases s <;> simp [GE.tm] at h
  | _ => simp [GE.tm] at h
 | pair f a i j => intro e' h; cases e' with
  | pair f' a' => simp [GE.tm] at h; rw [i h.1, j h.2]
  | tru b => cases b <;> simp [GE.tm] at h
  | ar s _ _ => cases s <;> simp [GE.tm] at h
  | part s _ => cases s <;> simp [GE.tm] at h
  | _ => simp [GE.tm] at h
 | part t a i => intro e' h; cases e' with
  | part s a' => cases s <;> cases t <;> simp [GE.tm] at h <;> rw [i h]
  | tru b => cases t <;> cases b <;> simp [GE.tm] at h
  | ar s _ _ => cases t <;> cases s <;> simp [GE.tm] at h
  | _ => cases t <;> simp [GE.tm] at h
 | cast A B l e i => intro e' h; cases e' with
  | cast A' B' l' e' => simp [GE.tm] at h; rw [GT.inj h.1, GT.inj h.2.1, h.2.2.1, i h.2.2.2]
  | tru b => cases b <;> simp [GE.tm] at h
  | ar s _ _ => cases s <;> simp [GE.tm] at h
  | part s _ => cases s <;> simp [GE.tm] at h
  | _ => simp [GE.tm] at h
section
variable {k : Int} {nm : ByteArray} {num : Int} {ty fr : Ty} {lb : Int} {a b c : Tm}
theorem A4C (h : C5 a = false) (ks : List Tm) : (H3 (.mk k nm num ty fr lb (a :: ks))).2.1 = (H3 a).2.1 :=
 (A7B (k := k) (nm := nm) (num := num) (ty := ty) (fr := fr) (lb := lb) (ks := a :: ks) (i := 0) (by simp) (by split <;> simp) (fun j hj => by omega) h).1
theorem A70 (h0 : C5 a = true) (h : C5 b = false) (hk : k ≠ 9) : (H3 (.mk k nm num ty fr lb [a, b])).2.1 = (H3 b).2.1 := by
 refine (A7B (k := k) (nm := nm) (num := num) (ty := ty) (fr := fr) (lb := lb) (ks := [a, b]) (i := 1) (by simp) (by rw [if_neg hk]; simp) (fun j hj _ => ?_) h).1
 obtain rfl : j = 0 := by omega
 exact h0
end
theorem A0r {k : Int} {ks : List Tm} (h : P2 k ks = none) : (T7 k ks).2.1 = 2 := by rw [A14 h]
theorem B9D : ∀ e : GE, e.nt → GV e ∨ (∃ r, GS e r) ∨ (C5 e.tm = false ∧ (H3 e.tm).2.1 = 2) := by
 have nval : ∀ {e : GE}, ¬GV e → C5 e.tm = false := fun h => A4d h
 intro e
 induction e with
 | var x => exact fun _ => .inr (.inr ⟨nval (by intro h; cases h), by rw [GE.tm, A7C (by intro i _ hl; simp at hl)]; exact A0r rfl⟩)
 | num n => exact fun _ => .inl .num
 | tru b => exact fun _ => .inl .tru
 | lam x A e i => exact fun _ => .inl .lam
 | app f a i j =>
  intro hn
  have hv : ¬GV (.app f a) := by intro h; cases h
  refine .inr ?_
  rcases i hn.1 with vf | ⟨r, s⟩ | ⟨b, b2⟩
  ·have mf := (O6 f).2 vf
   rcases j hn.2 with va | ⟨r, s⟩ | ⟨b, b2⟩
   ·have ma := (O6 a).2 va
    cases vf with
    | lam => exact .inl ⟨_, .beta va⟩
    | num => exact .inr ⟨nval hv, by rw [GE.tm, A1l mf ma (by decide)]; exact A0r rfl⟩
    | @tru b => exact .inr ⟨nval hv, by rw [GE.tm, A1l mf ma (by decide)]; cases b <;> exact A0r rfl⟩
    | pair _ _ => exact .inr ⟨nval hv, by rw [GE.tm, A1l mf ma (by decide)]; exact A0r rfl⟩
    | pf _ => exact hn.1.elim
    | pp _ => exact hn.1.elim
    | inj _ _ => exact hn.1.elim
   ·exact .inl ⟨_, .app2 vf s⟩
   ·exact .inr ⟨nval hv, by rw [GE.tm, A70 mf b (by decide)]; exact b2⟩
  ·exact .inl ⟨_, .app1 s⟩
  ·exact .inr ⟨nval hv, by rw [GE.tm, A4C b]; exact b2⟩
 | ar t f a i j =>
  intro hn
  have hv : ¬GV (.ar t f a) := by intro h; cases h
  have hk : (if t = true then (8 : Int) else 7) ≠ 9 := by cases t <;> decide
  refine .inr ?_
  rcases i hn.1 with vf | ⟨r, s⟩ | ⟨b, b2⟩
  ·have mf := (O6 f).2 vf
   rcases j hn.2 with va | ⟨r, s⟩ | ⟨b, b2⟩
   ·have ma := (O6 a).2 va
    cases vf with
    | num =>
     cases va with
     | num => exact .inl ⟨_, .ar⟩
     | lam => exact .inr ⟨nval hv, by rw [GE.tm, A1l mf ma hk]; cases t <;> exact A0r rfl⟩
     | @tru b => exact .inr ⟨nval hv, by rw [GE.tm, A1l mf ma hk]; cases t <;> cases b <;> exact A0r rfl⟩
     | pair _ _ => exact .inr ⟨nval hv, by rw [GE.tm, A1l mf ma hk]; cases t <;> exact A0r rfl⟩
     | pf _ => exact hn.2.elim
     | pp _ => exact hn.2.elim
     | inj _ _ => exact hn.2.elim
    | lam => exact .inr ⟨nval hv, by rw [GE.tm, A1l mf ma hk]; cases t <;> exact A0r rfl⟩
    | @tru b => exact .inr ⟨nval hv, by rw [GE.tm, A1l mf ma hk]; cases t <;> cases b <;> exact A0r rfl⟩
    | pair _ _ => exact .inr ⟨nval hv, by rw [GE.tm, A1l mf ma hk]; cases t <;> exact A0r rfl⟩
    | pf _ => exact hn.1.elim
    | pp _ => exact hn.1.elim
    | inj _ _ => exact hn.1.elim
   ·exact .inl ⟨_, .ar2 vf s⟩
   ·exact .inr ⟨nval hv, by rw [GE.tm, A70 mf b hk]; exact b2⟩
  ·exact .inl ⟨_, .ar1 s⟩
  ·exact .inr ⟨nval hv, by rw [GE.tm, A4C b]; exact b2⟩
 | ite c x y i _ _ =>
  intro hn
  have hv : ¬GV (.ite c x y) := by intro h; cases h
  refine .inr ?_
  rcases i hn.1 with vf | ⟨r, s⟩ | ⟨b, b2⟩
  ·have mf := (O6 c).2 vf
   cases vf with
   | tru => exact .inl ⟨_, .ite⟩
   | num => exact .inr ⟨nval hv, by rw [GE.tm, A5K mf]; exact A0r rfl⟩
   | lam => exact .inr ⟨nval hv, by rw [GE.tm, A5K mf]; exact A0r rfl⟩
   | pair _ _ => exact .inr ⟨nval hv, by rw [GE.tm, A5K mf]; exact A0r rfl⟩
   | pf _ => exact hn.1.elim
   | pp _ => exact hn.1.elim
   | inj _ _ => exact hn.1.elim
  ·exact .inl ⟨_, .ite1 s⟩
  ·exact .inr ⟨nval hv, by rw [GE.tm, A4C b]; exact b2⟩
 | pair x y i j =>
  intro hn
  rcases i hn.1 with vf | ⟨r, s⟩ | ⟨b, b2⟩
  ·have mf := (O6 x).2 vf
   rcases j hn.2 with va | ⟨r, s⟩ | ⟨b, b2⟩
   ·exact .inl (.pair vf va)
   ·exact .inr (.inl ⟨_, .pair2 vf s⟩)
   ·exact .inr (.inr ⟨nval (by intro h; cases h with | pair _ h => rw [(O6 y).2 h] at b; cases b), by rw [GE.tm, A70 mf b (by decide)]; exact b2⟩)
  ·exact .inr (.inl ⟨_, .pair1 s⟩)
  ·exact .inr (.inr ⟨nval (by intro h; cases h with | pair h _ => rw [(O6 x).2 h] at b; cases b), by rw [GE.tm, A4C b]; exact b2⟩)
 | part t x i =>
  intro hn
  have hv : ¬GV (.part t x) := by intro h; cases h
  refine .inr ?_
  rcases i hn with vf | ⟨r, s⟩ | ⟨b, b2⟩
  ·have mf := (O6 x).2 vf
   cases vf with
   | pair v v2 => exact .inl ⟨_, .part v v2⟩
   | num => exact .inr ⟨nval hv, by rw [GE.tm, A5J mf]; cases t <;> exact A0r rfl⟩
   | @tru b => exact .inr ⟨nval hv, by rw [GE.tm, A5J mf]; cases t <;> cases b <;> exact A0r rfl⟩
   | lam => exact .inr ⟨nval hv, by rw [GE.tm, A5J mf]; cases t <;> exact A0r rfl⟩
   | pf _ => exact hn.elim
   | pp _ => exact hn.elim
   | inj _ _ => exact hn.elim
  ·exact .inl ⟨_, .part1 s⟩
  ·exact .inr ⟨nval hv, by rw [GE.tm, A4C b]; exact b2⟩
 | cast A B l e i => exact fun hn => hn.elim
theorem A2Y {e : GE} (hn : e.nt) : ((F0 e.tm).2.1 = 3 ∧ J1 e.tm = false) ∨ (GV e ∧ (F0 e.tm).2.1 = 0) ∨ (∃ r, GS e r ∧ r.nt ∧ ((F0 e.tm).2.1 = 4 ∨ ((F0 e.tm).2.1 = 1 ∧ (F0 e.tm).1 = r.tm ∧ J1 r.tm = true))) ∨ (F0 e.tm).2.1 = 2 := by
 have hi : N4 e.tm = true := (A4r e).2 hn
 cases hc : J1 e.tm with
 | false => exact .inl ⟨by rw [A5G (by unfold P0; rw [hc]; rfl)], rfl⟩
 | true =>
  have hb : P0 e.tm = true := by unfold P0; rw [hc, hi]; rfl
  refine .inr ?_
  rcases B9D e hn with v | ⟨r, s⟩ | ⟨h1, h2⟩
  ·exact .inl ⟨v, by rw [A4n hb ((O6 _).2 v)]⟩
  ·obtain ⟨hs, hr⟩ := A3q s hn
   refine .inr (.inl ⟨r, s, hr, ?_⟩)
   have hbr : P0 r.tm = J1 r.tm := by unfold P0; rw [(A4r r).2 hr, Bool.and_true]
   cases hcr : J1 r.tm with
   | false => exact .inl (by rw [A4o hb (nv s) (by rw [hs]) (by rw [hs]; show P0 r.tm = false; rw [hbr, hcr])])
   | true =>
    have h5 := A4p hb (nv s) (by rw [hs]) (by rw [hs]; show P0 r.tm = true; rw [hbr, hcr])
    exact .inr ⟨by rw [h5], by rw [h5, hs], rfl⟩
  ·exact .inr (.inr (by rw [A5H hb h1 (by rw [h2]; decide)]; exact h2))
theorem B9E : ∀ (n : Nat) (e : GE), e.nt → (I1 n e.tm).2.1 = 0 → Vl e := by
 intro n
 induction n with
 | zero =>
  intro e hn h
  rw [I1] at h
  rcases A2Y hn with ⟨c, _⟩ | ⟨v, _⟩ | ⟨r, s, hr, c⟩ | c
  ·rw [if_neg (by omega)] at h; have h : (F0 e.tm).2.1 = 0 := h; omega
  ·exact ⟨e, .refl, v⟩
  ·rcases c with c | ⟨c, _⟩
   ·rw [if_neg (by omega)] at h; have h : (F0 e.tm).2.1 = 0 := h; omega
   ·rw [if_pos c] at h; cases h
  ·rw [if_neg (by omega)] at h; have h : (F0 e.tm).2.1 = 0 := h; omega
 | succ n ih =>
  intro e hn h
  rw [I1] at h
  rcases A2Y hn with ⟨c, _⟩ | ⟨v, _⟩ | ⟨r, s, hr, c⟩ | c
  ·rw [if_neg (by omega)] at h; have h : (F0 e.tm).2.1 = 0 := h; omega
  ·exact ⟨e, .refl, v⟩
  ·rcases c with c | ⟨c, c2, _⟩
   ·rw [if_neg (by omega)] at h; have h : (F0 e.tm).2.1 = 0 := h; omega
   ·rw [if_pos c, c2] at h
    obtain ⟨w, h1, h2⟩ := ih r hr h
    exact ⟨w, .step s h1, h2⟩
  ·rw [if_neg (by omega)] at h; have h : (F0 e.tm).2.1 = 0 := h; omega
theorem B9F {a b : GE} (h : Ss a b) : a.nt → ∀ n, (I1 n a.tm).2.1 = 0 → b.nt ∧ ∃ n', (I1 n' b.tm).2.1 = 0 := by
 induction h with
 | refl => exact fun hn n h => ⟨hn, n, h⟩
 | @step a b c s _ i =>
  intro hn n h
  obtain ⟨hs, hr⟩ := A3q s hn
  have he : (F0 a.tm).2.1 = 1 → (F0 a.tm).1 = b.tm := by
   intro h1
   rcases A2Y hn with ⟨c, _⟩ | ⟨v, c⟩ | ⟨r, s', hr', c⟩ | c
   ·omega
   ·omega
   ·rcases c with c | ⟨_, c, _⟩
    ·omega
    ·have := (A3q s' hn).1
     rw [hs] at this
     rw [c]; exact (congrArg Prod.fst this).symm
   ·omega
  have hnz : (F0 a.tm).2.1 ≠ 0 := by
   rcases A2Y hn with ⟨c, _⟩ | ⟨v, c⟩ | ⟨r, s', hr', c⟩ | c
   ·omega
   ·exact (v.noS _ s).elim
   ·rcases c with c | ⟨c, _, _⟩ <;> omega
   ·omega
  cases n with
  | zero =>
   rw [I1] at h
   split at h
   ·cases h
   ·exact (hnz h).elim
  | succ n =>
   rw [I1] at h
   split at h
   ·rename_i h1
    rw [he h1] at h
    exact i hr n h
   ·exact (hnz h).elim
theorem B9G : ∀ (n : Nat) (e : GE), e.nt → J1 e.tm = true → (I1 n e.tm).2.1 = 0 ∨ (I1 n e.tm).2.1 = 2 ∨ (I1 n e.tm).2.1 = 4 ∨ (I1 n e.tm).2.1 = 5 := by
 intro n
 induction n with
 | zero =>
  intro e hn hc
  rw [I1]
  split
  ·exact .inr (.inr (.inr rfl))
  ·rename_i h1
   rcases A2Y hn with ⟨_, c⟩ | ⟨v, c⟩ | ⟨r, s, hr, c⟩ | c
   ·rw [hc] at c; cases c
   ·exact .inl c
   ·rcases c with c | ⟨c, _⟩
    ·exact .inr (.inr (.inl c))
    ·exact absurd c h1
   ·exact .inr (.inl c)
 | succ n ih =>
  intro e hn hc
  rw [I1]
  split
  ·rename_i h1
   rcases A2Y hn with ⟨_, c⟩ | ⟨v, c⟩ | ⟨r, s, hr, c⟩ | c
   ·rw [hc] at c; cases c
   ·omega
   ·rcases c with c | ⟨c, c2, c3⟩
    ·omega
    ·rw [c2]; exact ih r hr c3
   ·omega
  ·rename_i h1
   rcases A2Y hn with ⟨_, c⟩ | ⟨v, c⟩ | ⟨r, s, hr, c⟩ | c
   ·rw [hc] at c; cases c
   ·exact .inl c
   ·rcases c with c | ⟨c, _⟩
    ·exact .inr (.inr (.inl c))
    ·exact absurd c h1
   ·exact .inr (.inl c)
theorem B9H {a b : GE} (h : Ss a b) : Ss a.er b.er := by
 induction h with
 | refl => exact .refl
 | step s _ i =>
  rcases B04 s with h | h
  ·rw [h]; exact i
  ·exact .step h i
theorem B9I {e : Tm} (h : (H2 e).2.1 = 2) : C5 e = false ∧ (J0 e).2.1 = 2 := by
 unfold H2 at h
 split at h
 ·cases h
 ·split at h
  ·cases h
  ·rename_i h1 h2
   refine ⟨by cases hv : C5 e with | false => rfl | true => exact absurd hv h2, ?_⟩
   split at h
   ·exact h
   ·split at h <;> cases h
theorem B9J : ∀ (n : Nat) {g g' : GE} {A A' : GT}, GP N3 g g' A A' → g.dy .a → (K7 n g.tm).2.1 = 2 → ∃ w, Ss g w ∧ ¬Vl w.er := by
 intro n
 have fin : ∀ {g g' : GE} {A A' : GT}, GP N3 g g' A A' → g.dy .a → (H2 g.tm).2.1 = 2 → ∃ w, Ss g w ∧ ¬Vl w.er := by
  intro g g' A A' hp hd h
  obtain ⟨h1, h2⟩ := B9I h
  rcases B8T g .a hd (B8K hp rfl) with v | ⟨r, s⟩ | b
  ·rw [(O6 g).2 v] at h1; cases h1
  ·rw [A5g s] at h2; cases h2
  ·exact ⟨g, .refl, b⟩
 induction n with
 | zero =>
  intro g g' A A' hp hd h
  rw [K7] at h
  by_cases h1 : (H2 g.tm).2.1 = 1
  ·rw [if_pos h1] at h; cases h
  ·rw [if_neg h1] at h; exact fin hp hd h
 | succ n ih =>
  intro g g' A A' hp hd h
  by_cases h1 : (H2 g.tm).2.1 = 1
  ·obtain ⟨_, hv, hs, he⟩ := A9K h1
   rcases A6V hp rfl with hv' | ⟨r, s⟩ | b
   ·rw [(O6 _).2 hv'] at hv; cases hv
   ·rw [A9M h1] at h
    have hr : (H2 g.tm).1 = r.tm := by rw [he, A5g s]
    rw [hr] at h
    obtain ⟨r', _, hp'⟩ := sim hp rfl s
    obtain ⟨w, h2, h3⟩ := ih hp' (B8J s hd) h
    exact ⟨w, .step s h2, h3⟩
   ·rw [b.2] at hs; cases hs
  ·rw [K7, if_neg h1] at h; exact fin hp hd h
theorem B9K {n : Nat} {e e' : GE} {A A' : GT} (N : Nat) (hp : GP N3 e e' A A') (h : (K7 n e.tm).2.1 = 0) (hc : J1 e.er.tm = true) :
  ((I1 N e.er.tm).2.1 = 0 ∧ X3 (I1 N e.er.tm).1 = X3 (K7 n e.tm).1 ∧ (I1 N e.er.tm).2.2.2 ≤ (K7 n e.tm).2.2.2) ∨ (I1 N e.er.tm).2.1 = 4 ∨ (I1 N e.er.tm).2.1 = 5 := by
 obtain ⟨w, h1, h2, h3, h4, w', B, B', h5⟩ := B6P n hp h
 obtain ⟨m, hm, h6⟩ := B6u h3
 rcases B6O h6 (A13 h2) (A3p e) N hc with ⟨g1, g2, g3, g4⟩ | g | ⟨g1, g2⟩
 ·refine .inl ⟨g1, ?_, by omega⟩
  rw [g2, h1, B02 (A13 h2), B02 h2, B6x h5 rfl h2]
 ·exact .inr (.inl g)
 ·exact .inr (.inr g1)
theorem B9L {e : Tm} (hv : M8 e = true) (hcl : mCl [] e) (hm : M8 (V1 e) = true) : ∃ (g g' : GE) (A A' : GT), T6 (V1 e) = some (g.tm, K1) ∧ g.dy .a ∧ GP N3 g g' A A' ∧ H4 e = g.er.tm := by
 obtain ⟨g, l', hE, hd⟩ := B89 e 1 [] [] ((X7 e).1 hv).1 (fun x hx => by cases hx) hcl 0
 have hu : T6 (V1 e) = some (g.tm, K1) := by unfold T6; rw [if_pos hm, hE]
 obtain ⟨g0, A, g', A', h1, h2, h3⟩ := B7p hu
 obtain rfl := GE.inj h1
 exact ⟨g, g', A, A', hu, hd, h3, by rw [← B7q, B7v hu, B8X]⟩
theorem B9M {e : Tm} {fuel : Int} (hv : M8 e = true) (hcl : mCl [] e) (hm : M8 (V1 e) = true) (hf : 0 ≤ fuel ∧ fuel ≤ 300) :
  (A0O e fuel).2.1 = 4 ∨ (A0O e fuel).2.1 = 5 ∨ (Z8 (V1 e) 300).2.1 = 4 ∨ (Z8 (V1 e) 300).2.1 = 5 ∨
   ((A0O e fuel).2.1 = (Z8 (V1 e) 300).2.1 ∧ (A0O e fuel).1 = (Z8 (V1 e) 300).1) := by
 obtain ⟨g, g', A, A', hu, hd, hp, hb⟩ := B9L hv hcl hm
 have hok : (M8 e || J1 e) = true := by rw [hv]; rfl
 have hc : J1 g.er.tm = true := by rw [← hb]; exact B7w hv
 have hE : Q3 g.tm 300 = ((K7 300 g.tm).1, (K7 300 g.tm).2.1, (K7 300 g.tm).2.2.1) := by unfold Q3; rw [if_pos (by decide)]; rfl
 have hB : U5 (H4 e) fuel = ((I1 fuel.toNat g.er.tm).1, (I1 fuel.toNat g.er.tm).2.1, (I1 fuel.toNat g.er.tm).2.2.1) := by unfold U5; rw [if_pos hf, hb]
 by_cases h0 : (K7 300 g.tm).2.1 = 0
 ·rw [A7x hu (by rw [hE]; exact h0), hE]
  rcases B9K fuel.toNat hp h0 hc with ⟨h1, h2, _⟩ | h1 | h1
  ·rw [A7N hok (by rw [hB]; exact h1), hB]
   exact .inr (.inr (.inr (.inr ⟨rfl, h2⟩)))
  ·rw [A4w hok (by rw [hB]; show (I1 fuel.toNat g.er.tm).2.1 ≠ 0; omega), hB]; exact .inl h1
  ·rw [A4w hok (by rw [hB]; show (I1 fuel.toNat g.er.tm).2.1 ≠ 0; omega), hB]; exact .inr (.inl h1)
 ·have hr := B6s (a := V1 e) (fuel := 300) (by rw [B03 hu]; rfl) (by decide)
  rw [A7y hu (by rw [hE]; exact h0), hE] at hr ⊢
  rcases hr with h1 | h1 | h1 | h1
  ·exact absurd h1 h0
  ·have h1 : (K7 300 g.tm).2.1 = 2 := h1
   obtain ⟨w, hw, hnv⟩ := B9J 300 hp hd h1
   have hk : (I1 fuel.toNat g.er.tm).2.1 ≠ 0 := by
    intro h0
    obtain ⟨hn, n', h2⟩ := B9F (B9H hw) (A3p g) _ h0
    exact hnv (B9E n' _ hn h2)
   rw [A4w hok (by rw [hB]; exact hk), hB]
   rcases B9G fuel.toNat g.er (A3p g) hc with h2 | h2 | h2 | h2
   ·exact absurd h2 hk
   ·exact .inr (.inr (.inr (.inr ⟨h2.trans h1.symm, rfl⟩)))
   ·exact .inl h2
   ·exact .inr (.inl h2)
  ·exact .inr (.inr (.inl h1))
  ·exact .inr (.inr (.inr (.inl h1)))
def C0v (e : Tm) : Bool := J1 e && C5 e
section slaws
variable {P : Program} {Γ : L8} {env : M7} {hp : List A5} {G : IM} {ty : TypeId}
theorem A4D {x y : Operand} {t t' : TypeId} {r : ByteArray} (hx : evo env x = some (.string r)) (hy : evo env y = some (.string r)) :
  I2 P Γ ⟨env, hp, G⟩ (.binOp .eql t x y t') ty (.bool true) := by
 have h := A1p (P := P) (Γ := Γ) (hp := hp) (G := G) (t := t) (t' := t') (ty := ty) hx hy
 rwa [decide_eq_true rfl] at h
theorem B9N {x y : Operand} {t t' : TypeId} {r s : ByteArray} (hx : evo env x = some (.string r)) (hy : evo env y = some (.string s)) (hn : r ≠ s) :
  I2 P Γ ⟨env, hp, G⟩ (.binOp .neq t x y t') ty (.bool true) := by
 have h := A1M (P := P) (Γ := Γ) (hp := hp) (G := G) (t := t) (t' := t') (ty := ty) hx hy
 rwa [decide_eq_true hn] at h
end slaws
theorem B9O {e x : Tm} (h : A17 e = (x, true)) : x = V1 e ∧ M8 e = true ∧ M8 (V1 e) = true := by
 unfold A17 at h
 split at h
 ·rename_i h1; cases h; exact ⟨rfl, h1⟩
 ·cases h
theorem B9P (bs : List UInt8) (G : IM) (p : Option Addr) (n c : Nat) (hT : A1d G) (hb : Sl G p n c 1 (O9 bs)) : Fn Tryz.prog 6 [.slice p n c] [] G (M9 fun _ v => v = .bool true) := by
 have hn := hb.le
 refine B7 Tryz.func6 rfl Tryz.ntmps6 Tryz.results6 rfl ?_
 intro w0
 refine J2 ?_
 refine sB (Z2 rfl rfl) rfl rfl (fun h11 => ?_) (fun h11 => ?_)
 refine J4 ?_
 (exact ⟨rfl, rfl⟩)
 refine D0 ?_
 (refine E7 rfl (B9C G _ _ _ bs hb) rfl rfl (fun v G1 hle1 hh => ?_); obtain ⟨a, ca, fl, rfl, hra, hfa, hfl⟩ := hh; replace hT := hT.mono hle1; have hca := hfa.2; have hsa := hfa.1; have hla := hra.len; have hoa := hra.one; have hA := B8G a fl G1 ca hT hsa hra; have hS := B8H a fl; have hk := @B9M a fl; obtain ⟨⟨s1, c1, l1⟩, hr1⟩ : ∃ r, A0O a fl = r := ⟨_, rfl⟩; rw [hr1] at hA hk hS; have hEm := B9A a; have hFr := B9q a; obtain ⟨⟨x, bx⟩, hX⟩ : ∃ r, A17 a = r := ⟨_, rfl⟩; rw [hX] at hEm)
 refine B6 ?_
 refine sE (B0 rfl) rfl (fun b36 => ?_)
 refine sS rfl rfl rfl hla hoa rfl ?_ (hu := by exact C9 hla.symm)
 refine B1 ?_
 refine sL (A2 rfl rfl (B2 (by repeat first | exact mH | apply mT)) hla) rfl rfl ?_
 refine E8 ?_
 (refine E7 rfl hA rfl rfl (fun v2 G2 hle2 hh => ?_); replace hh : v2 = .tuple ⟨[.string s1, .int .i64 c1, .int .i64 l1]⟩ := hh; subst hh; replace hra := hra.mono hle2; replace hT := hT.mono hle2; have hS2 := hS G2 ca hsa (by omega) hra)
 refine J4 ?_
 refine sL (A2 rfl rfl (B2 (by repeat first | exact mH | apply mT)) hla) rfl rfl ?_
 refine E8 ?_
 (refine E7 rfl hS2 rfl rfl (fun v3 G3 hle3 hh => ?_); replace hh : v3 = .tuple ⟨[.string s1, .int .i64 c1, .int .i64 l1]⟩ := hh; subst hh; replace hra := hra.mono hle3; replace hT := hT.mono hle3)
 refine J4 ?_
 refine sL (A2 rfl rfl (B2 (by repeat first | exact mH | apply mT)) hla) rfl rfl ?_
 (refine E7 rfl (hEm G3 ca hra) rfl rfl (fun v4 G4 hle4 hh => ?_); obtain ⟨cx, hve, hrx⟩ := hh; replace hve : v4 = .tuple ⟨[.agg ⟨cx⟩, .bool bx]⟩ := hve; subst hve; replace hrx : A8 G4 x cx := hrx; have hlx := hrx.len; have hox := hrx.one; replace hra := hra.mono hle4; replace hT := hT.mono hle4; cases bx)
 refine B6 ?_
 refine sE (B0 rfl) rfl (fun b76 => ?_)
 refine sS rfl rfl rfl hlx hox rfl ?_ (hu := by exact C9 hlx.symm)
 refine D0 ?_
 refine sQ (A6l rfl rfl) rfl ?_
 refine B6 ?_
 refine sP (A1O rfl rfl (by omega)) rfl rfl ?_
 refine B3 ?_
 refine sP (A1O rfl rfl (by omega)) rfl rfl ?_
 refine A4P ?_
 refine sQ (A4D rfl rfl) rfl ?_
 refine B6 ?_
 refine sP (S8 rfl rfl (by omega)) rfl rfl ?_
 refine B3 ?_
 refine sP (S8 rfl rfl (by omega)) rfl rfl ?_
 refine B4 ?_
 (exact ⟨rfl, rfl⟩)
 refine B6 ?_
 refine sE (B0 rfl) rfl (fun b142 => ?_)
 refine sS rfl rfl rfl hlx hox rfl ?_ (hu := by exact C9 hlx.symm)
 refine D0 ?_
 refine sQ (A6l rfl rfl) rfl ?_
 refine B6 ?_
 refine sP (A1O rfl rfl (by omega)) rfl rfl ?_
 refine B3 ?_
 refine sP (A1O rfl rfl (by omega)) rfl rfl ?_
 refine A7 ?_
 refine sL (A2 rfl rfl (B2 (by repeat first | exact mH | apply mT)) hla) rfl rfl ?_
 (obtain ⟨hx1, hx2, hx3⟩ := B9O hX; refine I0 rfl (hFr _ ca hra) (List.Perm.refl _) rfl rfl (fun v5 G5 outs hle5 hh => ?_); obtain ⟨hG, rfl, fs, rfl, hfs⟩ := hh; replace hG := hG.symm; subst hG; by_cases hf0 : fs = ⟨⟨[]⟩⟩)
 (subst hf0; refine sQ (A6l rfl rfl) rfl ?_; have hcl := hfs rfl hx2)
 refine B6 ?_
 refine sB (K6 rfl rfl) rfl rfl (fun h174 => ?_) (fun h174 => ?_)
 refine O0 ?_
 refine sQ (A4D rfl rfl) rfl ?_
 refine B6 ?_
 refine sP (S8 rfl rfl (by omega)) rfl rfl ?_
 refine B3 ?_
 refine sP (S8 rfl rfl (by omega)) rfl rfl ?_
 refine B4 ?_
 (exact ⟨rfl, rfl⟩)
 refine B6 ?_
 refine sB (Z2 rfl rfl) rfl rfl (fun h208 => ?_) (fun h208 => ?_)
 refine D0 ?_
 refine sQ (A4D rfl rfl) rfl ?_
 refine B6 ?_
 refine sP (S8 rfl rfl (by omega)) rfl rfl ?_
 refine B3 ?_
 refine sP (S8 rfl rfl (by omega)) rfl rfl ?_
 refine B4 ?_
 (exact ⟨rfl, rfl⟩)
 refine D0 ?_
 refine sL (A2 rfl rfl (B2 (by repeat first | exact mH | apply mT)) hlx) rfl rfl ?_
 (have hkk := hk hx2 hcl hx3 ⟨by omega, by omega⟩; rw [← hx1] at hkk; have hR := B8z x 300 _ cx hT hrx; obtain ⟨⟨s2, c2, l2⟩, hr2⟩ : ∃ r, Z8 x 300 = r := ⟨_, rfl⟩; rw [hr2] at hR hkk; replace hkk : c1 = 4 ∨ c1 = 5 ∨ c2 = 4 ∨ c2 = 5 ∨ (c1 = c2 ∧ s1 = s2) := hkk; refine E7 rfl hR rfl rfl (fun v6 G6 hle6 hh => ?_); replace hh : v6 = .tuple ⟨[.string s2, .int .i64 c2, .int .i64 l2]⟩ := hh; subst hh)
 refine J6 ?_
 refine sB (qE rfl rfl) rfl rfl (fun h258 => ?_) (fun h258 => ?_)
 refine A08 ?_
 (exact ⟨rfl, rfl⟩)
 refine A1 ?_
 refine sB (qE rfl rfl) rfl rfl (fun h285 => ?_) (fun h285 => ?_)
 refine A0x ?_
 (exact ⟨rfl, rfl⟩)
 refine B6 ?_
 refine sB (qE rfl rfl) rfl rfl (fun h310 => ?_) (fun h310 => ?_)
 refine J7 ?_
 (exact ⟨rfl, rfl⟩)
 refine B6 ?_
 refine sB (qE rfl rfl) rfl rfl (fun h331 => ?_) (fun h331 => ?_)
 refine O0 ?_
 (exact ⟨rfl, rfl⟩)
 refine J2 ?_
 refine sP (S8 rfl rfl (by omega)) rfl rfl ?_
 refine B6 ?_
 (have hs12 : s1 = s2 := ((((hkk.resolve_left (by omega)).resolve_left (by omega)).resolve_left (by omega)).resolve_left (by omega)).2; subst hs12; refine sQ (A4D rfl rfl) rfl ?_)
 refine A7 ?_
 (exact ⟨rfl, rfl⟩)
 refine sP (B9N rfl rfl hf0) rfl rfl ?_
 refine J7 ?_
 refine sQ (A4D rfl rfl) rfl ?_
 refine B6 ?_
 refine sP (S8 rfl rfl (by omega)) rfl rfl ?_
 refine B3 ?_
 refine sP (S8 rfl rfl (by omega)) rfl rfl ?_
 refine B4 ?_
 (exact ⟨rfl, rfl⟩)
end Gw
end Go.Proofs.YtfpgncjeejickaaGreatDoor
