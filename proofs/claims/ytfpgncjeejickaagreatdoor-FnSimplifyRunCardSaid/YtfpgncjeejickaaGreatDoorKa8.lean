/-
  The type of a term with casts: the reference's. The reference's evaluator: ground types, values, casts, replacing a name. The reference's copies whose operands are replaced; l12Simple, SimplifyCasts of the reference. The number of casts: the reference's. SimplifyCasts, DynamicCasts, ForgetCast, RelabelCasts of the reference. ForgetCast, RelabelCasts of the reference; the draws. The draws of terms some of whose casts change nothing. TypeSame, TermSame: the same data is the same. Values of the stack machine: as trees, and as they lie in memory; what an instruction does, in plain words. The reference's decimal digits of a number. The text of a value: the program's. The reference's evaluator: steps of nodes whose operands are values. The reference's evaluator: a step, runs of steps, RunTerm. The reference's StepCast, EvalCast. RunTerm of the program. The reference's value text, RunTerm. Drawn arguments of runs. The law FnEvalCast. The law FnSimplifyRun. The law FnDynamicCasts.
-/
import Derived.Test.YtfpgncjeejickaaGreatDoorKa7
import Derived.Test.YtfpgncjeejickaaGreatDoorKa6
import Derived.Test.YtfpgncjeejickaaGreatDoorKa5
import Derived.Test.YtfpgncjeejickaaGreatDoorKa1
import Derived.Test.YtfpgncjeejickaaGreatDoorKa2
import Derived.Test.YtfpgncjeejickaaGreatDoorKa3
import Derived.Lib.ItoaNum
set_option linter.unusedVariables false
set_option linter.unusedSimpArgs false
set_option maxHeartbeats 0
set_option maxRecDepth 100000
set_option synthInstance.maxSize 4000
set_option synthInstance.maxHeartbeats 0
namespace Go.Proofs.YtfpgncjeejickaaGreatDoor
open Go Go.RowKit
namespace Gw
theorem B2.kid2 {G : IM} {k : Int} {a b : Ty} {p : Option Addr} {c : Nat} (h : B2 G (.mk k [a, b]) [.int .i64 k, .slice p 2 c]) : ∃ bl o pa ca pb cb, p = some ⟨bl, o, none⟩ ∧
  (∀ hp, At hp G bl (o + 0 * 2) [.int .i64 a.k, .slice pa a.ks.length ca]) ∧ B2 G a [.int .i64 a.k, .slice pa a.ks.length ca] ∧
  (∀ hp, At hp G bl (o + 1 * 2) [.int .i64 b.k, .slice pb b.ks.length cb]) ∧ B2 G b [.int .i64 b.k, .slice pb b.ks.length cb] := by
 obtain ⟨p', c', es, he, hk, hsl, hkl⟩ := h.open
 simp only [Ty.k, Ty.ks, List.cons.injEq, Value.slice.injEq, true_and, and_true] at he hsl hkl
 obtain ⟨rfl, _, rfl⟩ := he
 obtain ⟨b0, o0, q0, d0, rfl, hat0, hre0, _⟩ := hsl.kidTy hkl (i := 0) (by simp) (by simp)
 obtain ⟨b1, o1, q1, d1, hp1, hat1, hre1, _⟩ := hsl.kidTy hkl (i := 1) (by simp) (by simp)
 cases hp1
 exact ⟨b0, o0, q0, d0, q1, d1, rfl, hat0, hre0, hat1, hre1⟩
theorem D4.kids2 {k : Int} {ks : List Ty} (h : D4 (.mk k ks)) (hk : k = 4 ∨ k = 5) : ∃ a b, ks = [a, b] ∧ D4 a ∧ D4 b := by
 have h2 := h.kid
 rw [D4] at h
 match ks, h.1 hk with
 | [a, b], _ => exact ⟨a, b, rfl, h2 a (by simp), h2 b (by simp)⟩
section
variable (nm : ByteArray) (num : Int) (ty fr : Ty) (lb : Int) (ks : List Tm) (G : IM) (cells : List Value) (p : Option Addr) (c : Nat) (es : List (List Value))
theorem B5Z (x : Ty) (hty : D4 ty) (hr : A8 G (.mk 14 nm num ty fr lb ks) cells) (hsl : C9 G p 1 c 2 es) (hkl : E0 G [x] es) :
  Fn Tryz.prog 199 [.agg ⟨cells⟩, .slice p 1 c] [] G (N6 (U7 14 ty fr [x]) G) := by
 have hone := hr.one
 obtain ⟨tk, tks⟩ := ty
 obtain ⟨fk, fks⟩ := fr
 obtain ⟨pt, ct, pf, cf, pk, ck, ek, rfl, hk, hnum, hlb, hrty, hrfr, _, _⟩ := hr.open9
 obtain ⟨b0, o0, q0, d0, rfl, hat0, hre0, hg0⟩ := hsl.kidTy hkl (i := 0) (by simp) (by simp)
 simp only [List.getElem_cons_zero] at hat0 hre0
 have hT := Q3 (.mk tk tks) G _ hty.small hrty
 have hS := fun G1 (hle : B8 G G1) => A17 x (.mk fk fks) G1 _ _ (hre0.mono hle) (hrfr.mono hle)
 refine B6 Tryz.func199 rfl Tryz.ntmps199 Tryz.results199 rfl ?_
 intro w0
 refine tS (tR ?_)
 refine sE (C4 rfl rfl) rfl (fun b3 => ?_)
 refine sE (A6 rfl) rfl (fun b4 => ?_)
 refine I8 ?_
 refine C3 ?_
 refine tS (tR ?_)
 refine sP (Q8 rfl rfl (by omega)) rfl rfl ?_
 refine sQ (qA rfl) rfl (sD (nS (qT rfl (tS ?_))))
 refine D1 D2 rfl ?_
 refine I4 (i := 0) (l' := [tt,ff,ff,ff,ff,ff,ff,ff,ff,ff,ff]) rfl C8 (B5 rfl) rfl (by kernel_rfl) rfl rfl ?_
 refine aL 1 rfl (A4 rfl rfl) rfl ?_
 refine aP 3 rfl (qM rfl) rfl ?_
 refine aP 4 rfl (B4 (j := 0) rfl rfl rfl (by simp)) rfl ?_
 refine aL 5 rfl (A3 rfl rfl (hat0 _) rfl) rfl ?_
 refine aP 6 rfl (B5 rfl) rfl ?_
 refine aL 7 rfl (A4 rfl rfl) rfl ?_
 refine A2 2 ?_
 (refine E3 rfl rfl hT rfl rfl rfl (fun v G1 hle1 hh => ?_); obtain ⟨K9, F1, rfl, hs1, hn1⟩ := hh; obtain ⟨p1, c1, rfl, _⟩ := hs1.open; have hmr := hs1.R.mono (C2.le G1 G); have hS1 := hS G1 hle1)
 refine A2 8 ?_
 refine J0 rfl rfl (hS1) rfl rfl rfl ?_
 refine A2 9 ?_
 refine H0 rfl ?_
 refine aP 10 rfl (qA rfl) rfl ?_
 refine C0 (nS (tT (rB (rS ?_))))
 refine C5 (rC rfl (A4 rfl rfl)) (rT rfl) ?_
 (exact N6.mk rfl hmr hty)
theorem B05 (k : Int) (hk78 : k = 7 ∨ k = 8) (x y : Ty) (hr : A8 G (.mk k nm num ty fr lb ks) cells) (hsl : C9 G p 2 c 2 es) (hkl : E0 G [x, y] es) :
  Fn Tryz.prog 199 [.agg ⟨cells⟩, .slice p 2 c] [] G (N6 (if H7 x O1 = true ∧ H7 y O1 = true then some (if k = 7 then O1 else S5) else none) G) := by
 have hone := hr.one
 obtain ⟨tk, tks⟩ := ty
 obtain ⟨fk, fks⟩ := fr
 obtain ⟨pt, ct, pf, cf, pk, ck, ek, rfl, hk, hnum, hlb, hrty, hrfr, _, _⟩ := hr.open9
 obtain ⟨b0, o0, q0, d0, rfl, hat0, hre0, hg0⟩ := hsl.kidTy hkl (i := 0) (by simp) (by simp)
 obtain ⟨b1, o1, q1, d1, hp1, hat1, hre1, hg1⟩ := hsl.kidTy hkl (i := 1) (by simp) (by simp)
 cases hp1
 simp only [List.getElem_cons_zero, List.getElem_cons_succ] at hat0 hre0 hat1 hre1
 have hS0 := A17 x O1 G _ _ hre0 (K8 G)
 have hS1 := A17 y O1 G _ _ hre1 (K8 G)
 generalize H7 x O1 = s0 at hS0 ⊢
 generalize H7 y O1 = s1 at hS1 ⊢
 refine B6 Tryz.func199 rfl Tryz.ntmps199 Tryz.results199 rfl ?_
 intro w0
 refine tS (tR ?_)
 refine sE (C4 rfl rfl) rfl (fun b3 => ?_)
 refine sE (A6 rfl) rfl (fun b4 => ?_)
 refine I8 ?_
 refine C3 ?_
 refine tS (tR ?_)
 refine sP (E6 rfl rfl (by omega)) rfl rfl ?_
 refine sQ (qA rfl) rfl (sD (nS (cF rfl (tS (tR ?_)))))
 refine sP (E6 rfl rfl (by omega)) rfl rfl ?_
 refine sQ (qA rfl) rfl (sD (nS (cF rfl (tS (tR ?_)))))
 refine sB (qE rfl rfl) rfl rfl (fun h32 => ?_) (fun h32 => ?_)
 refine sQ (qA rfl) rfl (sD (nS (qT rfl (tS ?_))))
 refine D1 D2 rfl ?_
 refine I4 (i := 1) (l' := [ff,tt,ff,ff,ff,ff,ff,ff,ff,ff,ff,ff,ff,ff,ff]) rfl C8 (qM rfl) rfl (by kernel_rfl) rfl rfl ?_
 refine aP 2 rfl (B4 (j := 0) rfl rfl rfl (by simp)) rfl ?_
 refine aL 3 rfl (A3 rfl rfl (hat0 _) rfl) rfl ?_
 refine A2 0 ?_
 refine J0 rfl rfl ((W3 _)) rfl rfl rfl ?_
 refine A2 4 ?_
 refine J0 rfl rfl ((W3 _)) rfl rfl rfl ?_
 refine A2 5 ?_
 refine R1 rfl rfl (hS0) rfl rfl rfl (fun h47 => ?_) (fun h47 => ?_)
 refine aP 6 rfl (qM rfl) rfl ?_
 refine aP 7 rfl (qM rfl) rfl ?_
 refine aP 8 rfl (B4 (j := 1) rfl rfl rfl (by simp)) rfl ?_
 refine aL 9 rfl (A3 rfl rfl (hat1 _) rfl) rfl ?_
 refine A2 10 ?_
 refine J0 rfl rfl ((W3 _)) rfl rfl rfl ?_
 refine A2 11 ?_
 refine J0 rfl rfl (hS1) rfl rfl rfl ?_
 refine aP 12 rfl (K1 rfl rfl) rfl ?_
 refine A2 13 ?_
 refine H0 rfl ?_
 refine aP 14 rfl (qA rfl) rfl ?_
 refine C0 (nS (tT (rB (rS ?_))))
 refine C5 (rC rfl (A4 rfl rfl)) (rT rfl) ?_
 (exact N6.mk (by rw [if_pos (show k = 7 by omega)]; simp_all) (K8 G) (N1 (by decide) (by decide)))
 refine aP 6 rfl (qM rfl) rfl ?_
 refine B3 7 rfl rfl rfl ?_
 refine B3 8 rfl rfl rfl ?_
 refine B3 9 rfl rfl rfl ?_
 refine B3 10 rfl rfl rfl ?_
 refine B3 11 rfl rfl rfl ?_
 refine aP 12 rfl (L6 rfl rfl) rfl ?_
 refine A2 13 ?_
 refine H0 rfl ?_
 refine aP 14 rfl (qA rfl) rfl ?_
 refine C0 (nS (tT (rB (rS ?_))))
 refine C5 (rC rfl (A4 rfl rfl)) (rT rfl) ?_
 (exact N6.mk (by rw [if_pos (show k = 7 by omega)]; simp_all) (K8 G) (N1 (by decide) (by decide)))
 refine sQ (qA rfl) rfl (sD (nS (cF rfl (tS (tR ?_)))))
 refine sP (Q8 rfl rfl (by omega)) rfl rfl ?_
 refine sQ (qA rfl) rfl (sD (nS (qT rfl (tS ?_))))
 refine D1 D2 rfl ?_
 refine I4 (i := 1) (l' := [ff,tt,ff,ff,ff,ff,ff,ff,ff,ff,ff,ff,ff,ff,ff]) rfl C8 (qM rfl) rfl (by kernel_rfl) rfl rfl ?_
 refine aP 2 rfl (B4 (j := 0) rfl rfl rfl (by simp)) rfl ?_
 refine aL 3 rfl (A3 rfl rfl (hat0 _) rfl) rfl ?_
 refine A2 0 ?_
 refine J0 rfl rfl ((A1i _)) rfl rfl rfl ?_
 refine A2 4 ?_
 refine J0 rfl rfl ((W3 _)) rfl rfl rfl ?_
 refine A2 5 ?_
 refine R1 rfl rfl (hS0) rfl rfl rfl (fun h105 => ?_) (fun h105 => ?_)
 refine aP 6 rfl (qM rfl) rfl ?_
 refine aP 7 rfl (qM rfl) rfl ?_
 refine aP 8 rfl (B4 (j := 1) rfl rfl rfl (by simp)) rfl ?_
 refine aL 9 rfl (A3 rfl rfl (hat1 _) rfl) rfl ?_
 refine A2 10 ?_
 refine J0 rfl rfl ((W3 _)) rfl rfl rfl ?_
 refine A2 11 ?_
 refine J0 rfl rfl (hS1) rfl rfl rfl ?_
 refine aP 12 rfl (K1 rfl rfl) rfl ?_
 refine A2 13 ?_
 refine H0 rfl ?_
 refine aP 14 rfl (qA rfl) rfl ?_
 refine C0 (nS (tT (rB (rS ?_))))
 refine C5 (rC rfl (A4 rfl rfl)) (rT rfl) ?_
 (exact N6.mk (by rw [if_neg (show ¬ k = 7 by omega)]; simp_all) (X0 G) (N1 (by decide) (by decide)))
 refine aP 6 rfl (qM rfl) rfl ?_
 refine B3 7 rfl rfl rfl ?_
 refine B3 8 rfl rfl rfl ?_
 refine B3 9 rfl rfl rfl ?_
 refine B3 10 rfl rfl rfl ?_
 refine B3 11 rfl rfl rfl ?_
 refine aP 12 rfl (L6 rfl rfl) rfl ?_
 refine A2 13 ?_
 refine H0 rfl ?_
 refine aP 14 rfl (qA rfl) rfl ?_
 refine C0 (nS (tT (rB (rS ?_))))
 refine C5 (rC rfl (A4 rfl rfl)) (rT rfl) ?_
 (exact N6.mk (by rw [if_neg (show ¬ k = 7 by omega)]; simp_all) (X0 G) (N1 (by decide) (by decide)))
theorem B50 (x y z : Ty) (hay : D4 y) (hr : A8 G (.mk 9 nm num ty fr lb ks) cells) (hsl : C9 G p 3 c 2 es) (hkl : E0 G [x, y, z] es) :
  Fn Tryz.prog 199 [.agg ⟨cells⟩, .slice p 3 c] [] G (N6 (U7 9 ty fr [x, y, z]) G) := by
 have hone := hr.one
 obtain ⟨tk, tks⟩ := ty
 obtain ⟨fk, fks⟩ := fr
 obtain ⟨pt, ct, pf, cf, pk, ck, ek, rfl, hk, hnum, hlb, hrty, hrfr, _, _⟩ := hr.open9
 obtain ⟨b0, o0, q0, d0, rfl, hat0, hre0, hg0⟩ := hsl.kidTy hkl (i := 0) (by simp) (by simp)
 obtain ⟨b1, o1, q1, d1, hp1, hat1, hre1, hg1⟩ := hsl.kidTy hkl (i := 1) (by simp) (by simp)
 obtain ⟨b2, o2, q2, d2, hp2, hat2, hre2, hg2⟩ := hsl.kidTy hkl (i := 2) (by simp) (by simp)
 cases hp1
 cases hp2
 simp only [List.getElem_cons_zero, List.getElem_cons_succ] at hat0 hre0 hat1 hre1 hat2 hre2
 have hT := Q3 y G _ hay.small hre1
 have hS0 := fun G1 (hle : B8 G G1) => A17 x S5 G1 _ _ (hre0.mono hle) (X0 G1)
 have hS1 := fun G1 (hle : B8 G G1) => A17 y z G1 _ _ (hre1.mono hle) (hre2.mono hle)
 have hE : U7 9 (.mk tk tks) (.mk fk fks) [x, y, z] = if H7 x S5 = true ∧ H7 y z = true then some y else none := rfl
 rw [hE]
 generalize H7 x S5 = s0 at hS0 ⊢
 generalize H7 y z = s1 at hS1 ⊢
 refine B6 Tryz.func199 rfl Tryz.ntmps199 Tryz.results199 rfl ?_
 intro w0
 refine tS (tR ?_)
 refine sE (C4 rfl rfl) rfl (fun b3 => ?_)
 refine sE (A6 rfl) rfl (fun b4 => ?_)
 refine I8 ?_
 refine C3 ?_
 refine tS (tR ?_)
 refine sP (E6 rfl rfl (by omega)) rfl rfl ?_
 refine sQ (qA rfl) rfl (sD (nS (cF rfl (tS (tR ?_)))))
 refine sP (E6 rfl rfl (by omega)) rfl rfl ?_
 refine sQ (qA rfl) rfl (sD (nS (cF rfl (tS (tR ?_)))))
 refine sP (E6 rfl rfl (by omega)) rfl rfl ?_
 refine sQ (qA rfl) rfl (sD (nS (cF rfl (tS (tR ?_)))))
 refine sP (E6 rfl rfl (by omega)) rfl rfl ?_
 refine sQ (qA rfl) rfl (sD (nS (cF rfl (tS (tR ?_)))))
 refine sP (Q8 rfl rfl (by omega)) rfl rfl ?_
 refine sQ (qA rfl) rfl (sD (nS (qT rfl (tS ?_))))
 refine D1 D2 rfl ?_
 refine I4 (i := 0) (l' := [tt,ff,ff,ff,ff,ff,ff,ff,ff,ff,ff,ff,ff,ff,ff,ff,ff,ff,ff,ff]) rfl C8 (qM rfl) rfl (by kernel_rfl) rfl rfl ?_
 refine aP 1 rfl (B4 (j := 1) rfl rfl rfl (by simp)) rfl ?_
 refine aL 2 rfl (A3 rfl rfl (hat1 _) rfl) rfl ?_
 refine aP 4 rfl (qM rfl) rfl ?_
 refine aP 5 rfl (B4 (j := 0) rfl rfl rfl (by simp)) rfl ?_
 refine aL 6 rfl (A3 rfl rfl (hat0 _) rfl) rfl ?_
 refine A2 3 ?_
 (refine E3 rfl rfl hT rfl rfl rfl (fun v G1 hle1 hh => ?_); obtain ⟨K9, F1, rfl, hs1, hn1⟩ := hh; obtain ⟨p1, c1, rfl, _⟩ := hs1.open; have hmr := hs1.R.mono (C2.le G1 G); have hS01 := hS0 G1 hle1; have hS11 := hS1 G1 hle1)
 refine A2 7 ?_
 refine J0 rfl rfl ((A1i _)) rfl rfl rfl ?_
 refine A2 8 ?_
 refine R1 rfl rfl (hS01) rfl rfl rfl (fun h64 => ?_) (fun h64 => ?_)
 refine aP 9 rfl (qM rfl) rfl ?_
 refine aP 10 rfl (qM rfl) rfl ?_
 refine aP 11 rfl (B4 (j := 1) rfl rfl rfl (by simp)) rfl ?_
 refine aL 12 rfl (A3 rfl rfl (At.mono' hle1 (hat1 [])) rfl) rfl ?_
 refine aP 13 rfl (qM rfl) rfl ?_
 refine aP 14 rfl (B4 (j := 2) rfl rfl rfl (by simp)) rfl ?_
 refine aL 15 rfl (A3 rfl rfl (At.mono' hle1 (hat2 [])) rfl) rfl ?_
 refine A2 16 ?_
 refine J0 rfl rfl (hS11) rfl rfl rfl ?_
 refine aP 17 rfl (K1 rfl rfl) rfl ?_
 refine A2 18 ?_
 refine H0 rfl ?_
 refine aP 19 rfl (qA rfl) rfl ?_
 refine C0 (nS (tT (rB (rS ?_))))
 refine C5 (rC rfl (A4 rfl rfl)) (rT rfl) ?_
 (exact N6.mk (by simp_all) hmr hay)
 refine aP 9 rfl (qM rfl) rfl ?_
 refine B3 10 rfl rfl rfl ?_
 refine B3 11 rfl rfl rfl ?_
 refine B3 12 rfl rfl rfl ?_
 refine B3 13 rfl rfl rfl ?_
 refine B3 14 rfl rfl rfl ?_
 refine B3 15 rfl rfl rfl ?_
 refine B3 16 rfl rfl rfl ?_
 refine aP 17 rfl (L6 rfl rfl) rfl ?_
 refine A2 18 ?_
 refine H0 rfl ?_
 refine aP 19 rfl (qA rfl) rfl ?_
 refine C0 (nS (tT (rB (rS ?_))))
 refine C5 (rC rfl (A4 rfl rfl)) (rT rfl) ?_
 (exact N6.mk (by simp_all) hmr hay)
theorem B51 (x y : Ty) (hax : D4 x) (hay : D4 y) (hr : A8 G (.mk 10 nm num ty fr lb ks) cells) (hsl : C9 G p 2 c 2 es) (hkl : E0 G [x, y] es) :
  Fn Tryz.prog 199 [.agg ⟨cells⟩, .slice p 2 c] [] G (N6 (U7 10 ty fr [x, y]) G) := by
 have hone := hr.one
 obtain ⟨tk, tks⟩ := ty
 obtain ⟨fk, fks⟩ := fr
 obtain ⟨pt, ct, pf, cf, pk, ck, ek, rfl, hk, hnum, hlb, hrty, hrfr, _, _⟩ := hr.open9
 obtain ⟨b0, o0, q0, d0, rfl, hat0, hre0, hg0⟩ := hsl.kidTy hkl (i := 0) (by simp) (by simp)
 obtain ⟨b1, o1, q1, d1, hp1, hat1, hre1, hg1⟩ := hsl.kidTy hkl (i := 1) (by simp) (by simp)
 cases hp1
 simp only [List.getElem_cons_zero, List.getElem_cons_succ] at hat0 hre0 hat1 hre1
 have hE : U7 10 (.mk tk tks) (.mk fk fks) [x, y] = if M5 (.mk 5 [x, y]) = true then some (.mk 5 [x, y]) else none := rfl
 rw [hE]
 refine B6 Tryz.func199 rfl Tryz.ntmps199 Tryz.results199 rfl ?_
 intro w0
 refine tS (tR ?_)
 refine sE (C4 rfl rfl) rfl (fun b3 => ?_)
 refine sE (A6 rfl) rfl (fun b4 => ?_)
 refine I8 ?_
 refine C3 ?_
 refine tS (tR ?_)
 refine sP (E6 rfl rfl (by omega)) rfl rfl ?_
 refine sQ (qA rfl) rfl (sD (nS (cF rfl (tS (tR ?_)))))
 refine sP (E6 rfl rfl (by omega)) rfl rfl ?_
 refine sQ (qA rfl) rfl (sD (nS (cF rfl (tS (tR ?_)))))
 refine sP (E6 rfl rfl (by omega)) rfl rfl ?_
 refine sQ (qA rfl) rfl (sD (nS (cF rfl (tS (tR ?_)))))
 refine sP (E6 rfl rfl (by omega)) rfl rfl ?_
 refine sQ (qA rfl) rfl (sD (nS (cF rfl (tS (tR ?_)))))
 refine sP (E6 rfl rfl (by omega)) rfl rfl ?_
 refine sQ (qA rfl) rfl (sD (nS (cF rfl (tS (tR ?_)))))
 refine sP (Q8 rfl rfl (by omega)) rfl rfl ?_
 refine sQ (qA rfl) rfl (sD (nS (qT rfl (tS ?_))))
 refine D1 D2 rfl ?_
 refine I4 (i := 0) (l' := [tt,ff,ff,ff,ff,ff,ff,ff,ff,ff,ff]) rfl C8 (qM rfl) rfl (by kernel_rfl) rfl rfl ?_
 refine aP 1 rfl (B4 (j := 0) rfl rfl rfl (by simp)) rfl ?_
 refine aL 2 rfl (A3 rfl rfl (hat0 _) rfl) rfl ?_
 refine aP 3 rfl (qM rfl) rfl ?_
 refine aP 4 rfl (B4 (j := 1) rfl rfl rfl (by simp)) rfl ?_
 refine aL 5 rfl (A3 rfl rfl (hat1 _) rfl) rfl ?_
 refine A2 6 ?_
 (refine E3 rfl rfl (A46 5 x y G _ _ (.inr rfl) hax hay hre0 hre1) rfl rfl rfl (fun v G1 hle1 hh => ?_); obtain ⟨mc, rfl, hmr⟩ := hh; have hma := A1Y (.inr rfl) hax hay; obtain ⟨p1, c1, e1, rfl, _⟩ := hmr.open)
 refine aP 7 rfl (pX rfl rfl) rfl ?_
 refine aP 8 rfl (pX rfl rfl) rfl ?_
 refine A2 9 ?_
 refine H0 rfl ?_
 refine aP 10 rfl (qA rfl) rfl ?_
 refine C0 (nS (tT (rB (rS ?_))))
 refine C5 (rC rfl (A4 rfl rfl)) (rT rfl) ?_
 (exact N6.mk rfl hmr hma)
theorem B52 (x y : Ty) (hax : D4 x) (hr : A8 G (.mk 6 nm num ty fr lb ks) cells) (hsl : C9 G p 2 c 2 es) (hkl : E0 G [x, y] es) :
  Fn Tryz.prog 199 [.agg ⟨cells⟩, .slice p 2 c] [] G (N6 (U7 6 ty fr [x, y]) G) := by
 have hone := hr.one
 obtain ⟨tk, tks⟩ := ty
 obtain ⟨fk, fks⟩ := fr
 obtain ⟨pt, ct, pf, cf, pk, ck, ek, rfl, hk, hnum, hlb, hrty, hrfr, _, _⟩ := hr.open9
 obtain ⟨b0, o0, q0, d0, rfl, hat0, hre0, hg0⟩ := hsl.kidTy hkl (i := 0) (by simp) (by simp)
 obtain ⟨b1, o1, q1, d1, hp1, hat1, hre1, hg1⟩ := hsl.kidTy hkl (i := 1) (by simp) (by simp)
 cases hp1
 simp only [List.getElem_cons_zero, List.getElem_cons_succ] at hat0 hre0 hat1 hre1
 have hE : U7 6 (.mk tk tks) (.mk fk fks) [x, y] = if x.k = 4 ∧ H7 (x.ks.getD 0 B1) y = true then some (x.ks.getD 1 B1) else none := rfl
 rw [hE]
 obtain ⟨xk, xks⟩ := x
 simp only [Ty.k, Ty.ks] at hat0 hre0
 show Fn _ _ _ _ _ (N6 (if xk = 4 ∧ H7 (xks.getD 0 B1) y = true then some (xks.getD 1 B1) else none) G)
 by_cases hx4 : xk = 4
 ·subst hx4
  obtain ⟨A, B, rfl, hA, hB⟩ := hax.kids2 (.inl rfl)
  obtain ⟨b3, o3, pA, cA, pB, cB, rfl, hatA, hreA, hatB, hreB⟩ := B2.kid2 hre0
  simp only [List.getD_cons_zero, List.getD_cons_succ, true_and]
  have hS0 := A17 A y G _ _ hreA hre1
  have hT := Q3 B G _ hB.small hreB
  generalize H7 A y = s0 at hS0 ⊢
  refine B6 Tryz.func199 rfl Tryz.ntmps199 Tryz.results199 rfl ?_
  intro w0
  refine tS (tR ?_)
  refine sE (C4 rfl rfl) rfl (fun b3 => ?_)
  refine sE (A6 rfl) rfl (fun b4 => ?_)
  refine I8 ?_
  refine C3 ?_
  refine tS (tR ?_)
  refine sP (E6 rfl rfl (by omega)) rfl rfl ?_
  refine sQ (qA rfl) rfl (sD (nS (cF rfl (tS (tR ?_)))))
  refine sP (Q8 rfl rfl (by omega)) rfl rfl ?_
  refine sQ (qA rfl) rfl (sD (nS (qT rfl (tS (tS ?_)))))
  refine D1 D2 rfl ?_
  refine I4 (i := 0) (l' := [tt,ff,ff,ff,ff,ff,ff,ff,ff,ff,ff,ff,ff,ff,ff,ff,ff,ff]) rfl C8 (qM rfl) rfl (by kernel_rfl) rfl rfl ?_
  refine aP 1 rfl (B4 (j := 0) rfl rfl rfl (by simp)) rfl ?_
  refine aP 2 rfl (qF rfl) rfl ?_
  refine aL 3 rfl (V4 rfl rfl (At.sub (j := 0) (hat0 _) rfl)) rfl ?_
  refine aP 4 rfl (A1y rfl rfl (by omega)) rfl ?_
  refine aP 5 rfl (qM rfl) rfl ?_
  refine aP 6 rfl (qM rfl) rfl ?_
  refine aP 7 rfl (B4 (j := 0) rfl rfl rfl (by simp)) rfl ?_
  refine aP 8 rfl (qF rfl) rfl ?_
  refine aL 9 rfl (V4 rfl rfl (At.sub (j := 1) (hat0 _) rfl)) rfl ?_
  refine aP 10 rfl (B4 (j := 0) rfl rfl rfl (by simp)) rfl ?_
  refine aL 11 rfl (A3 rfl rfl (hatA _) rfl) rfl ?_
  refine aP 12 rfl (qM rfl) rfl ?_
  refine aP 13 rfl (B4 (j := 1) rfl rfl rfl (by simp)) rfl ?_
  refine aL 14 rfl (A3 rfl rfl (hat1 _) rfl) rfl ?_
  refine A2 15 ?_
  refine R1 rfl rfl (hS0) rfl rfl rfl (fun h49 => ?_) (fun h49 => ?_)
  refine aP 16 rfl (Q5 rfl) rfl ?_
  refine aP 17 rfl (L6 rfl rfl) rfl ?_
  refine C0 (nS (cF rfl (tK (nS (tS (tR (sQ (qM rfl) rfl ?_)))))))
  refine sP (B4 (j := 0) rfl rfl rfl (by simp)) rfl rfl ?_
  refine sQ (qF rfl) rfl ?_
  refine sL (V4 rfl rfl (At.sub (j := 1) (hat0 _) rfl)) rfl rfl ?_
  refine sP (B4 (j := 1) rfl rfl rfl (by simp)) rfl rfl ?_
  refine sL (A3 rfl rfl (hatB _) rfl) rfl rfl ?_
  (refine D7 rfl hT rfl rfl (fun v G1 hle1 hh => ?_); obtain ⟨K9, F1, rfl, hs1, hn1⟩ := hh; obtain ⟨p1, c1, rfl, _⟩ := hs1.open; have hmr := hs1.R.mono (C2.le G1 G))
  refine H6 ?_
  refine sQ (qA rfl) rfl (sD (nS (tT (rB (rS ?_)))))
  refine C5 (rC rfl (A4 rfl rfl)) (rT rfl) ?_
  (exact N6.yes (by rw [if_pos (by assumption)]) hmr hB)
  refine aP 16 rfl (pNf rfl) rfl ?_
  refine aP 17 rfl (L6 rfl rfl) rfl ?_
  refine O0 ?_
  refine C5 (rC rfl (A4 rfl rfl)) (rT rfl) ?_
  (exact N6.no (by rw [if_neg (by simp_all)]) (K5 _ ⟨by omega, by omega⟩) (N1 (by omega) (by omega)))
 ·rw [if_neg (fun h => hx4 h.1)]
  refine B6 Tryz.func199 rfl Tryz.ntmps199 Tryz.results199 rfl ?_
  intro w0
  refine tS (tR ?_)
  refine sE (C4 rfl rfl) rfl (fun b3 => ?_)
  refine sE (A6 rfl) rfl (fun b4 => ?_)
  refine I8 ?_
  refine C3 ?_
  refine tS (tR ?_)
  refine sP (E6 rfl rfl (by omega)) rfl rfl ?_
  refine sQ (qA rfl) rfl (sD (nS (cF rfl (tS (tR ?_)))))
  refine sP (Q8 rfl rfl (by omega)) rfl rfl ?_
  refine sQ (qA rfl) rfl (sD (nS (qT rfl (tS (tS ?_)))))
  refine D1 D2 rfl ?_
  refine I4 (i := 0) (l' := [tt,ff,ff,ff,ff,ff,ff,ff,ff,ff,ff,ff,ff,ff,ff,ff,ff,ff]) rfl C8 (qM rfl) rfl (by kernel_rfl) rfl rfl ?_
  refine aP 1 rfl (B4 (j := 0) rfl rfl rfl (by simp)) rfl ?_
  refine aP 2 rfl (qF rfl) rfl ?_
  refine aL 3 rfl (V4 rfl rfl (At.sub (j := 0) (hat0 _) rfl)) rfl ?_
  refine aP 4 rfl (W7 rfl rfl (by omega)) rfl ?_
  refine aP 5 rfl (qM rfl) rfl ?_
  refine B3 6 rfl rfl rfl ?_
  refine B3 7 rfl rfl rfl ?_
  refine B3 8 rfl rfl rfl ?_
  refine B3 9 rfl rfl rfl ?_
  refine B3 10 rfl rfl rfl ?_
  refine B3 11 rfl rfl rfl ?_
  refine B3 12 rfl rfl rfl ?_
  refine B3 13 rfl rfl rfl ?_
  refine B3 14 rfl rfl rfl ?_
  refine B3 15 rfl rfl rfl ?_
  refine B3 16 rfl rfl rfl ?_
  refine aP 17 rfl (K1 rfl rfl) rfl ?_
  refine O0 ?_
  refine C5 (rC rfl (A4 rfl rfl)) (rT rfl) ?_
  (exact N6.no rfl (K5 _ ⟨by omega, by omega⟩) (N1 (by omega) (by omega)))
theorem B06 (k : Int) (hkk : k = 11 ∨ k = 12) (x : Ty) (hax : D4 x) (hr : A8 G (.mk k nm num ty fr lb ks) cells) (hsl : C9 G p 1 c 2 es) (hkl : E0 G [x] es) :
  Fn Tryz.prog 199 [.agg ⟨cells⟩, .slice p 1 c] [] G (N6 (U7 k ty fr [x]) G) := by
 have hone := hr.one
 obtain ⟨tk, tks⟩ := ty
 obtain ⟨fk, fks⟩ := fr
 obtain ⟨pt, ct, pf, cf, pk, ck, ek, rfl, hk, hnum, hlb, hrty, hrfr, _, _⟩ := hr.open9
 obtain ⟨b0, o0, q0, d0, rfl, hat0, hre0, hg0⟩ := hsl.kidTy hkl (i := 0) (by simp) (by simp)
 simp only [List.getElem_cons_zero] at hat0 hre0
 have hE : U7 k (.mk tk tks) (.mk fk fks) [x] = if x.k = 5 then some (x.ks.getD (k - 11).toNat B1) else none := by
  unfold U7
  rw [if_neg (by omega), if_neg (by omega), if_neg (by omega), if_neg (by omega), if_neg (by omega), if_neg (by omega)]
  rfl
 rw [hE]
 obtain ⟨xk, xks⟩ := x
 simp only [Ty.k, Ty.ks] at hat0 hre0
 show Fn _ _ _ _ _ (N6 (if xk = 5 then some (xks.getD (k - 11).toNat B1) else none) G)
 by_cases hx4 : xk = 5
 ·subst hx4
  obtain ⟨A, B, rfl, hA, hB⟩ := hax.kids2 (.inr rfl)
  obtain ⟨b3, o3, pA, cA, pB, cB, rfl, hatA, hreA, hatB, hreB⟩ := B2.kid2 hre0
  rw [if_pos rfl]
  have hTA := Q3 A G _ hA.small hreA
  have hTB := Q3 B G _ hB.small hreB
  obtain ⟨i, hi⟩ : ∃ i : Nat, k - 11 = (i : Int) ∧ (i = 0 ∧ k = 11 ∨ i = 1 ∧ k = 12) := by
   rcases hkk with rfl | rfl
   ·exact ⟨0, by decide, .inl ⟨rfl, rfl⟩⟩
   ·exact ⟨1, by decide, .inr ⟨rfl, rfl⟩⟩
  obtain ⟨hi0, hi⟩ := hi
  rcases hi with ⟨rfl, rfl⟩ | ⟨rfl, rfl⟩
  ·refine B6 Tryz.func199 rfl Tryz.ntmps199 Tryz.results199 rfl ?_
   intro w0
   refine tS (tR ?_)
   refine sE (C4 rfl rfl) rfl (fun b3 => ?_)
   refine sE (A6 rfl) rfl (fun b4 => ?_)
   refine I8 ?_
   refine C3 ?_
   refine tS (tR ?_)
   refine sP (E6 rfl rfl (by omega)) rfl rfl ?_
   refine sQ (qA rfl) rfl (sD (nS (cF rfl (tS (tR ?_)))))
   refine sP (E6 rfl rfl (by omega)) rfl rfl ?_
   refine sQ (qA rfl) rfl (sD (nS (cF rfl (tS (tR ?_)))))
   refine sP (E6 rfl rfl (by omega)) rfl rfl ?_
   refine sQ (qA rfl) rfl (sD (nS (cF rfl (tS (tR ?_)))))
   refine sP (E6 rfl rfl (by omega)) rfl rfl ?_
   refine sQ (qA rfl) rfl (sD (nS (cF rfl (tS (tR ?_)))))
   refine sP (E6 rfl rfl (by omega)) rfl rfl ?_
   refine sQ (qA rfl) rfl (sD (nS (cF rfl (tS (tR ?_)))))
   refine sP (E6 rfl rfl (by omega)) rfl rfl ?_
   refine J6 ?_
   refine sP (B4 (j := 0) rfl rfl rfl (by simp)) rfl rfl ?_
   refine sQ (qF rfl) rfl ?_
   refine sL (V4 rfl rfl (At.sub (j := 0) (hat0 _) rfl)) rfl rfl ?_
   refine sP (A1y rfl rfl (by omega)) rfl rfl ?_
   refine sD (nS (cF rfl (tK (nS (tS ?_)))))
   refine D1 D2 rfl ?_
   refine I4 (i := 0) (l' := [tt,ff,ff,ff,ff,ff,ff,ff,ff,ff,ff,ff]) rfl C8 (qM rfl) rfl (by kernel_rfl) rfl rfl ?_
   refine aP 1 rfl (B4 (j := 0) rfl rfl rfl (by simp)) rfl ?_
   refine aP 2 rfl (qF rfl) rfl ?_
   refine aL 3 rfl (V4 rfl rfl (At.sub (j := 1) (hat0 _) rfl)) rfl ?_
   refine aP 4 rfl (B5 rfl) rfl ?_
   refine aL 5 rfl (C7 rfl rfl) rfl ?_
   refine aP 6 rfl (O8 rfl rfl (by omega) (by omega)) rfl ?_
   refine aP 7 rfl (B4 (j := 0) rfl rfl rfl (by simp)) rfl ?_
   refine aL 8 rfl (A3 rfl rfl (hatA _) rfl) rfl ?_
   refine A2 9 ?_
   (refine E3 rfl rfl hTA rfl rfl rfl (fun v G1 hle1 hh => ?_); obtain ⟨K9, F1, rfl, hs1, hn1⟩ := hh; obtain ⟨p1, c1, rfl, _⟩ := hs1.open; have hmr := hs1.R.mono (C2.le G1 G))
   refine A2 10 ?_
   refine H0 rfl ?_
   refine aP 11 rfl (qA rfl) rfl ?_
   refine C0 (nS (tT ?_))
   refine C5 (rC rfl (A4 rfl rfl)) (rT rfl) ?_
   (exact N6.yes rfl hmr hA)
  ·refine B6 Tryz.func199 rfl Tryz.ntmps199 Tryz.results199 rfl ?_
   intro w0
   refine tS (tR ?_)
   refine sE (C4 rfl rfl) rfl (fun b3 => ?_)
   refine sE (A6 rfl) rfl (fun b4 => ?_)
   refine I8 ?_
   refine C3 ?_
   refine tS (tR ?_)
   refine sP (E6 rfl rfl (by omega)) rfl rfl ?_
   refine sQ (qA rfl) rfl (sD (nS (cF rfl (tS (tR ?_)))))
   refine sP (E6 rfl rfl (by omega)) rfl rfl ?_
   refine sQ (qA rfl) rfl (sD (nS (cF rfl (tS (tR ?_)))))
   refine sP (E6 rfl rfl (by omega)) rfl rfl ?_
   refine sQ (qA rfl) rfl (sD (nS (cF rfl (tS (tR ?_)))))
   refine sP (E6 rfl rfl (by omega)) rfl rfl ?_
   refine sQ (qA rfl) rfl (sD (nS (cF rfl (tS (tR ?_)))))
   refine sP (E6 rfl rfl (by omega)) rfl rfl ?_
   refine sQ (qA rfl) rfl (sD (nS (cF rfl (tS (tR ?_)))))
   refine sP (E6 rfl rfl (by omega)) rfl rfl ?_
   refine J6 ?_
   refine sP (B4 (j := 0) rfl rfl rfl (by simp)) rfl rfl ?_
   refine sQ (qF rfl) rfl ?_
   refine sL (V4 rfl rfl (At.sub (j := 0) (hat0 _) rfl)) rfl rfl ?_
   refine sP (A1y rfl rfl (by omega)) rfl rfl ?_
   refine sD (nS (cF rfl (tK (nS (tS ?_)))))
   refine D1 D2 rfl ?_
   refine I4 (i := 0) (l' := [tt,ff,ff,ff,ff,ff,ff,ff,ff,ff,ff,ff]) rfl C8 (qM rfl) rfl (by kernel_rfl) rfl rfl ?_
   refine aP 1 rfl (B4 (j := 0) rfl rfl rfl (by simp)) rfl ?_
   refine aP 2 rfl (qF rfl) rfl ?_
   refine aL 3 rfl (V4 rfl rfl (At.sub (j := 1) (hat0 _) rfl)) rfl ?_
   refine aP 4 rfl (B5 rfl) rfl ?_
   refine aL 5 rfl (C7 rfl rfl) rfl ?_
   refine aP 6 rfl (O8 rfl rfl (by omega) (by omega)) rfl ?_
   refine aP 7 rfl (B4 (j := 1) rfl rfl rfl (by simp)) rfl ?_
   refine aL 8 rfl (A3 rfl rfl (hatB _) rfl) rfl ?_
   refine A2 9 ?_
   (refine E3 rfl rfl hTB rfl rfl rfl (fun v G1 hle1 hh => ?_); obtain ⟨K9, F1, rfl, hs1, hn1⟩ := hh; obtain ⟨p1, c1, rfl, _⟩ := hs1.open; have hmr := hs1.R.mono (C2.le G1 G))
   refine A2 10 ?_
   refine H0 rfl ?_
   refine aP 11 rfl (qA rfl) rfl ?_
   refine C0 (nS (tT ?_))
   refine C5 (rC rfl (A4 rfl rfl)) (rT rfl) ?_
   (exact N6.yes rfl hmr hB)
 ·rw [if_neg hx4]
  refine B6 Tryz.func199 rfl Tryz.ntmps199 Tryz.results199 rfl ?_
  intro w0
  refine tS (tR ?_)
  refine sE (C4 rfl rfl) rfl (fun b3 => ?_)
  refine sE (A6 rfl) rfl (fun b4 => ?_)
  refine I8 ?_
  refine C3 ?_
  refine tS (tR ?_)
  refine sP (E6 rfl rfl (by omega)) rfl rfl ?_
  refine sQ (qA rfl) rfl (sD (nS (cF rfl (tS (tR ?_)))))
  refine sP (E6 rfl rfl (by omega)) rfl rfl ?_
  refine sQ (qA rfl) rfl (sD (nS (cF rfl (tS (tR ?_)))))
  refine sP (E6 rfl rfl (by omega)) rfl rfl ?_
  refine sQ (qA rfl) rfl (sD (nS (cF rfl (tS (tR ?_)))))
  refine sP (E6 rfl rfl (by omega)) rfl rfl ?_
  refine sQ (qA rfl) rfl (sD (nS (cF rfl (tS (tR ?_)))))
  refine sP (E6 rfl rfl (by omega)) rfl rfl ?_
  refine sQ (qA rfl) rfl (sD (nS (cF rfl (tS (tR ?_)))))
  refine sP (E6 rfl rfl (by omega)) rfl rfl ?_
  refine J6 ?_
  refine sP (B4 (j := 0) rfl rfl rfl (by simp)) rfl rfl ?_
  refine sQ (qF rfl) rfl ?_
  refine sL (V4 rfl rfl (At.sub (j := 0) (hat0 _) rfl)) rfl rfl ?_
  refine sP (W7 rfl rfl (by omega)) rfl rfl ?_
  refine N2 ?_
  refine C5 (rC rfl (A4 rfl rfl)) (rT rfl) ?_
  (exact N6.no rfl (K5 _ ⟨by omega, by omega⟩) (N1 (by omega) (by omega)))
theorem B53 (k : Int) (h : List Ty) (hk8 : k = 6 ∨ k = 7 ∨ k = 8 ∨ k = 9 ∨ k = 10 ∨ k = 11 ∨ k = 12 ∨ k = 14) (hop : D3 k = (h.length : Int)) (har : ∀ t ∈ h, D4 t) (hty : D4 ty) (hr : A8 G (.mk k nm num ty fr lb ks) cells) (hsl : C9 G p h.length c 2 es) (hkl : E0 G h es) :
  Fn Tryz.prog 199 [.agg ⟨cells⟩, .slice p h.length c] [] G (N6 (U7 k ty fr h) G) := by
 rcases hk8 with rfl | rfl | rfl | rfl | rfl | rfl | rfl | rfl
 ·match h, hop with
  | [x, y], _ => exact B52 nm num ty fr lb ks G cells p c es x y (har x (by simp)) hr hsl hkl
 ·match h, hop with
  | [x, y], _ => exact B05 nm num ty fr lb ks G cells p c es 7 (.inl rfl) x y hr hsl hkl
 ·match h, hop with
  | [x, y], _ => exact B05 nm num ty fr lb ks G cells p c es 8 (.inr rfl) x y hr hsl hkl
 ·match h, hop with
  | [x, y, z], _ => exact B50 nm num ty fr lb ks G cells p c es x y z (har y (by simp)) hr hsl hkl
 ·match h, hop with
  | [x, y], _ => exact B51 nm num ty fr lb ks G cells p c es x y (har x (by simp)) (har y (by simp)) hr hsl hkl
 ·match h, hop with
  | [x], _ => exact B06 nm num ty fr lb ks G cells p c es 11 (.inl rfl) x (har x (by simp)) hr hsl hkl
 ·match h, hop with
  | [x], _ => exact B06 nm num ty fr lb ks G cells p c es 12 (.inr rfl) x (har x (by simp)) hr hsl hkl
 ·match h, hop with
  | [x], _ => exact B5Z nm num ty fr lb ks G cells p c es x hty hr hsl hkl
end
theorem B54 (cx : Cx) (k : Int) (nm : ByteArray) (num : Int) (ty fr : Ty) (lb : Int) (hk4 : k = 1 ∨ k = 2 ∨ k = 3 ∨ k = 4) (G : IM) (p : Option Addr) (n c : Nat) (cells : List Value) (hcv : cxV cx) (hx : S7 G cx p n c) (hr : A8 G (.mk k nm num ty fr lb []) cells) :
  Fn Tryz.prog 196 [.slice p n c, .agg ⟨cells⟩] [] G (N6 (B9 cx (.mk k nm num ty fr lb [])) G) := by
 have hone := hr.one
 have f1 : k = 1 → B9 cx (.mk k nm num ty fr lb []) = P2 cx nm := by rintro rfl; exact B5V hcv
 have f2 : k = 2 → B9 cx (.mk k nm num ty fr lb []) = some O1 := by rintro rfl; exact B5W
 have f3 : k = 3 ∨ k = 4 → B9 cx (.mk k nm num ty fr lb []) = some S5 := by rintro (rfl | rfl); exact B5X; exact B5Y
 generalize B9 cx (.mk k nm num ty fr lb []) = R at f1 f2 f3 ⊢
 obtain ⟨tk, tks⟩ := ty
 obtain ⟨fk, fks⟩ := fr
 obtain ⟨pt, ct, pf, cf, q, cq, es, rfl, hk, hnum, hlb, hty, hfr, hsl, hkl⟩ := hr.open9
 refine B6 Tryz.func196 rfl Tryz.ntmps196 Tryz.results196 rfl ?_
 intro w0
 refine tS (tR ?_)
 refine sE (C4 rfl rfl) rfl (fun b3 => ?_)
 refine sE (A6 rfl) rfl (fun b4 => ?_)
 refine I8 ?_
 refine C3 (tS (tR (sB (qE rfl rfl) rfl rfl (fun h18 => ?_) (fun h18 => ?_))))
 refine D8 ?_
 (refine D7 rfl (B5q G cx hcv p n c nm hx) rfl rfl (fun v G1 hle1 hh => ?_); obtain ⟨mt, mc, rfl, hmr, hma, hmu⟩ := hh; obtain ⟨p1, c1, e1, rfl, _⟩ := hmr.open)
 refine D8 ?_
 refine C5 (rC rfl (A4 rfl rfl)) (rT rfl) ?_
 (rw [f1 (by omega)]; exact ⟨rfl, _, _, rfl, hmr, hma, hmu⟩)
 refine sQ (qA rfl) rfl (sD (nS (cF rfl (tS (tR ?_)))))
 refine sB (qE rfl rfl) rfl rfl (fun h46 => ?_) (fun h46 => ?_)
 refine sQ (qA rfl) rfl (sD (nS (qT rfl (tS (tR ?_)))))
 refine E8 rfl ((W3 _)) rfl rfl ?_
 refine H6 ?_
 refine sQ (qA rfl) rfl (sD (nS (tT (rB (rS ?_)))))
 refine C5 (rC rfl (A4 rfl rfl)) (rT rfl) ?_
 (rw [f2 (by omega)]; exact N6.yes rfl (K8 _) (N1 (by omega) (by omega)))
 refine sQ (qA rfl) rfl (sD (nS (cF rfl (tS (tS (tR ?_))))))
 refine sB (qE rfl rfl) rfl rfl (fun h70 => ?_) (fun h70 => ?_)
 refine D8 ?_
 refine E8 rfl ((A1i _)) rfl rfl ?_
 refine H6 ?_
 refine sQ (qA rfl) rfl (sD (nS (tT (rB (rS ?_)))))
 refine C5 (rC rfl (A4 rfl rfl)) (rT rfl) ?_
 (rw [f3 (by omega)]; exact N6.yes rfl (X0 _) (N1 (by omega) (by omega)))
 refine sQ (qA rfl) rfl (sD (nS (cF rfl (tR ?_))))
 refine sP (Q8 rfl rfl (by omega)) rfl rfl ?_
 refine sQ (qA rfl) rfl (sD (nS (qT rfl (tS (tR ?_)))))
 refine E8 rfl ((A1i _)) rfl rfl ?_
 refine H6 ?_
 refine sQ (qA rfl) rfl (sD (nS (tT (rB (rS ?_)))))
 refine C5 (rC rfl (A4 rfl rfl)) (rT rfl) ?_
 (rw [f3 (by omega)]; exact N6.yes rfl (X0 _) (N1 (by omega) (by omega)))
theorem B55 : ∀ (e : Tm) (d : Int) (cx : Cx) (G : IM) (p : Option Addr) (n c : Nat) (cells : List Value), L4 40 13 e d = true → (n : Int) ≤ d → cxV cx → S7 G cx p n c → A8 G e cells →
  Fn Tryz.prog 150 [.slice p n c, .agg ⟨cells⟩] [] G (N6 (B9 cx e) G) := by
 refine Tm.ind fun k nm num ty fr lb ks ih d cx G p n c cells hv hnd hcv hx hr => ?_
 have hr0 := hr
 have hone := hr.one
 obtain ⟨hv1, hv2, hv3, hv4⟩ := Z9 hv
 have hvk := (A06 40 13 ks _).1 hv4
 have har := (X8.1 hv3).1
 have hop := A2t har
 obtain ⟨hta, hts⟩ := A2V hv3
 have hkr : 1 ≤ k ∧ k ≤ 14 := A96 (by rw [har]; omega)
 have hcv5 : k = 5 → cxV (cx ++ [(nm, ty)]) := fun hk => by have := B33 (k := k) (nm := nm) (ty := ty) hcv fun hk => (X8.1 hv3).2.2.2.2.2.1 (.inl hk); rwa [N3, if_pos hk] at this
 have h0 : k ≤ 4 → ks = [] := fun h => List.length_eq_zero_iff.1 (by
  have hk : k = 1 ∨ k = 2 ∨ k = 3 ∨ k = 4 := by omega
  rcases hk with rfl | rfl | rfl | rfl
  ·have : D3 1 = 0 := rfl; omega
  ·have : D3 2 = 0 := rfl; omega
  ·have : D3 3 = 0 := rfl; omega
  ·have : D3 4 = 0 := rfl; omega)
 have f0 := fun (h : k ≤ 4) => B54 cx k nm num ty fr lb (by omega) G p n c cells hcv hx (by have := hr; rw [h0 h] at this; exact this)
 have f0' : k ≤ 4 → B9 cx (.mk k nm num ty fr lb ks) = B9 cx (.mk k nm num ty fr lb []) := fun h => by rw [h0 h]
 have f4 : ∀ (hk : k = 5) (hl : 0 < ks.length), B9 (cx ++ [(nm, ty)]) ks[0] = none → B9 cx (.mk k nm num ty fr lb ks) = none := fun hk hl h => by
  subst hk; obtain ⟨b, rfl⟩ := ks1 (hop.2.2 (.inl rfl)); exact B5T h
 have f5 : ∀ (t : Ty) (hk : k = 5) (hl : 0 < ks.length), B9 (cx ++ [(nm, ty)]) ks[0] = some t → B9 cx (.mk k nm num ty fr lb ks) = if M5 (.mk 4 [ty, t]) = true then some (.mk 4 [ty, t]) else none := fun t hk hl h => by
  subst hk; obtain ⟨b, rfl⟩ := ks1 (hop.2.2 (.inl rfl)); exact B5U h
 have f6 : k ≠ 5 → K3 cx ks = none → B9 cx (.mk k nm num ty fr lb ks) = none := fun hk h => A9t (by rw [N3, if_neg hk]; exact h)
 have f7 := fun (h : List Ty) (hk : k = 6 ∨ k = 7 ∨ k = 8 ∨ k = 9 ∨ k = 10 ∨ k = 11 ∨ k = 12 ∨ k = 14) (hu : K3 cx ks = some h) (hvh : ∀ u ∈ h, M5 u = true) => @B5S cx k nm num ty fr lb ks h hk har hu hvh
 have hkv : ∀ i (hi : i < ks.length) u, B9 cx ks[i] = some u → M5 u = true := fun i hi u hu => by
  have h1 := hvk i hi
  generalize ks[i] = a at h1 hu
  obtain ⟨ak, anm, anum, aty, afr, alb, aks⟩ := a
  exact A4P (fun h14 => (X8.1 (Z9 h1).2.2.1).2.2.2.2.2.1 (by omega)) hu
 generalize B9 cx (.mk k nm num ty fr lb ks) = R at f0' f4 f5 f6 f7 ⊢
 obtain ⟨tk, tks⟩ := ty
 obtain ⟨fk, fks⟩ := fr
 obtain ⟨pt, ct, pf, cf, q, cq, es, rfl, hk, hnum, hlb, hty, hfr, hsl, hkl⟩ := hr.open9
 have hlen : ks.length ≤ 3 := by have := A1F k; omega
 refine B6 Tryz.func150 rfl Tryz.ntmps150 Tryz.results150 rfl ?_
 intro w0
 refine tS (tR ?_)
 refine sE (C4 rfl rfl) rfl (fun b3 => ?_)
 refine sE (A6 rfl) rfl (fun b4 => ?_)
 refine I8 ?_
 refine C3 (tS (tS (tR (sB (qE rfl rfl) rfl rfl (fun h19 => ?_) (fun h19 => ?_)))))
 refine J6 ?_
 (refine D7 rfl (f0 (by omega)) rfl rfl (fun v G1 hle1 hh => ?_); obtain ⟨mt, mc, rfl, hmr, hma, hmu⟩ := hh; obtain ⟨p1, c1, e1, rfl, _⟩ := hmr.open)
 refine D8 ?_
 refine C5 (rC rfl (A4 rfl rfl)) (rT rfl) ?_
 (rw [f0' (by omega)]; exact ⟨rfl, _, _, rfl, hmr, hma, hmu⟩)
 refine sQ (qA rfl) rfl (sD (nS (cF rfl (tS (tR ?_)))))
 refine sB (qE rfl rfl) rfl rfl (fun h49 => ?_) (fun h49 => ?_)
 refine J6 ?_
 (refine D7 rfl (f0 (by omega)) rfl rfl (fun v G1 hle1 hh => ?_); obtain ⟨mt, mc, rfl, hmr, hma, hmu⟩ := hh; obtain ⟨p1, c1, e1, rfl, _⟩ := hmr.open)
 refine D8 ?_
 refine C5 (rC rfl (A4 rfl rfl)) (rT rfl) ?_
 (rw [f0' (by omega)]; exact ⟨rfl, _, _, rfl, hmr, hma, hmu⟩)
 refine sQ (qA rfl) rfl (sD (nS (cF rfl (tS (tR ?_)))))
 refine sB (qE rfl rfl) rfl rfl (fun h79 => ?_) (fun h79 => ?_)
 refine J6 ?_
 (refine D7 rfl (f0 (by omega)) rfl rfl (fun v G1 hle1 hh => ?_); obtain ⟨mt, mc, rfl, hmr, hma, hmu⟩ := hh; obtain ⟨p1, c1, e1, rfl, _⟩ := hmr.open)
 refine D8 ?_
 refine C5 (rC rfl (A4 rfl rfl)) (rT rfl) ?_
 (rw [f0' (by omega)]; exact ⟨rfl, _, _, rfl, hmr, hma, hmu⟩)
 refine sQ (qA rfl) rfl (sD (nS (cF rfl (tR ?_))))
 refine sB (qE rfl rfl) rfl rfl (fun h108 => ?_) (fun h108 => ?_)
 refine F8 ?_
 (refine D7 rfl (f0 (by omega)) rfl rfl (fun v G1 hle1 hh => ?_); obtain ⟨mt, mc, rfl, hmr, hma, hmu⟩ := hh; obtain ⟨p1, c1, e1, rfl, _⟩ := hmr.open)
 refine D8 ?_
 refine C5 (rC rfl (A4 rfl rfl)) (rT rfl) ?_
 (rw [f0' (by omega)]; exact ⟨rfl, _, _, rfl, hmr, hma, hmu⟩)
 refine sQ (qA rfl) rfl (sD (nS (cF rfl (tS (tR ?_)))))
 refine sB (qE rfl rfl) rfl rfl (fun h135 => ?_) (fun h135 => ?_)
 refine sQ (qA rfl) rfl (sD (nS (qT rfl (tS ?_))))
 (have hl1 : ks.length = 1 := hop.2.2 (by omega); have hk5 : k = 5 := (by omega); obtain ⟨b, o, e, rfl, hl, hat, hre, hgb⟩ := hsl.kidTm hkl (i := 0) (by omega) (by omega); have hMore := B5v G cx p n c nm (.mk tk tks) _ hx (by omega) hty; refine D1 D2 rfl ?_)
 refine I4 (i := 0) (l' := [tt,ff,ff,ff,ff,ff,ff,ff,ff,ff,ff,ff,ff,ff,ff,ff,ff]) rfl C8 (qM rfl) rfl (by kernel_rfl) rfl rfl ?_
 refine aP 1 rfl (B5 rfl) rfl ?_
 refine aL 2 rfl (C7 rfl rfl) rfl ?_
 refine aP 3 rfl (B5 rfl) rfl ?_
 refine aL 4 rfl (A4 rfl rfl) rfl ?_
 refine aP 6 rfl (B5 rfl) rfl ?_
 refine aL 7 rfl (C7 rfl rfl) rfl ?_
 refine aP 8 rfl (B4 (j := 0) rfl rfl rfl (by omega)) rfl ?_
 refine aL 9 rfl (A3 rfl rfl (hat _) hl) rfl ?_
 refine Q0 (j := 5) (j' := 14) (by kernel_rfl) ?_ ?_
 (refine E3 rfl rfl hMore rfl rfl rfl (fun v G1 hle1 hh => ?_); obtain ⟨pm, cm, rfl, hxm⟩ := hh; have hreM := hre.mono hle1; have hLam := ih ks[0] (List.getElem_mem (by omega)) (d + 1) _ G1 pm (n + 1) cm _ (hvk 0 (by omega)) (by omega) (hcv5 (by omega)) hxm hreM; have htyM := hty.mono hle1)
 refine Q0 (j := 10) (j' := 14) (by kernel_rfl) ?_ ?_
 focus (refine E3 rfl rfl hLam rfl rfl rfl (fun v G2 hle2 hh => ?_); obtain ⟨mt, mc, rfl, hmr, hma, hmu⟩ := hh; obtain ⟨p1, c1, e1, rfl, _⟩ := hmr.open; have htyN := htyM.mono hle2; rcases hE : B9 (cx ++ [(nm, Ty.mk tk tks)]) ks[0] with _ | mt2; rotate_left; obtain rfl := hmu _ hE; rotate_left; all_goals simp only [Option.isSome])
 refine aP 11 rfl (qM rfl) rfl ?_
 refine aP 12 rfl (pX rfl rfl) rfl ?_
 refine aP 13 rfl (pX rfl rfl) rfl ?_
 refine A2 14 ?_
 (refine D9 rfl (A6 rfl) rfl rfl ?_; rintro _ ⟨b159, rfl⟩)
 refine A2 15 ?_
 refine H0 rfl ?_
 refine aP 16 rfl (qA rfl) rfl ?_
 refine Z3 ?_
 refine C5 (rC rfl (A4 rfl rfl)) (rT rfl) ?_
 (rw [f4 (by omega) (by omega) (by first | exact hE | assumption)]; exact N6.no rfl (K5 _ ⟨by omega, by omega⟩) (N1 (by omega) (by omega)))
 refine aP 11 rfl (qM rfl) rfl ?_
 refine aP 12 rfl (pX rfl rfl) rfl ?_
 refine aP 13 rfl (pX rfl rfl) rfl ?_
 refine A2 14 ?_
 (refine D9 rfl (A6 rfl) rfl rfl ?_; rintro _ ⟨b190, rfl⟩)
 refine A2 15 ?_
 refine H0 rfl ?_
 refine aP 16 rfl (qA rfl) rfl ?_
 refine P7 ?_
 (refine D7 rfl (A46 4 (.mk tk tks) _ _ _ _ (.inl rfl) hta hma htyN hmr) rfl rfl (fun v G3 hle3 hh => ?_); obtain ⟨mc2, rfl, hmr2⟩ := hh; obtain ⟨p2, c2, e2, rfl, _⟩ := hmr2.open)
 refine D8 ?_
 refine C5 (rC rfl (A4 rfl rfl)) (rT rfl) ?_
 (rw [f5 _ (by omega) (by omega) (by first | exact hE | assumption)]; exact N6.mk rfl hmr2 (A1Y (.inl rfl) hta hma))
 (refine D9 rfl (A6 rfl) rfl rfl ?_; rintro _ ⟨b223, rfl⟩)
 refine A2 10 ?_
 focus (refine E3 rfl rfl hLam rfl rfl rfl (fun v G2 hle2 hh => ?_); obtain ⟨mt, mc, rfl, hmr, hma, hmu⟩ := hh; obtain ⟨p1, c1, e1, rfl, _⟩ := hmr.open; have htyN := htyM.mono hle2; rcases hE : B9 (cx ++ [(nm, Ty.mk tk tks)]) ks[0] with _ | mt2; rotate_left; obtain rfl := hmu _ hE; rotate_left; all_goals simp only [Option.isSome])
 refine aP 11 rfl (qM rfl) rfl ?_
 refine aP 12 rfl (pX rfl rfl) rfl ?_
 refine aP 13 rfl (pX rfl rfl) rfl ?_
 refine A2 15 ?_
 refine H0 rfl ?_
 refine aP 16 rfl (qA rfl) rfl ?_
 refine Z3 ?_
 refine C5 (rC rfl (A4 rfl rfl)) (rT rfl) ?_
 (rw [f4 (by omega) (by omega) (by first | exact hE | assumption)]; exact N6.no rfl (K5 _ ⟨by omega, by omega⟩) (N1 (by omega) (by omega)))
 refine aP 11 rfl (qM rfl) rfl ?_
 refine aP 12 rfl (pX rfl rfl) rfl ?_
 refine aP 13 rfl (pX rfl rfl) rfl ?_
 refine A2 15 ?_
 refine H0 rfl ?_
 refine aP 16 rfl (qA rfl) rfl ?_
 refine P7 ?_
 (refine D7 rfl (A46 4 (.mk tk tks) _ _ _ _ (.inl rfl) hta hma htyN hmr) rfl rfl (fun v G3 hle3 hh => ?_); obtain ⟨mc2, rfl, hmr2⟩ := hh; obtain ⟨p2, c2, e2, rfl, _⟩ := hmr2.open)
 refine D8 ?_
 refine C5 (rC rfl (A4 rfl rfl)) (rT rfl) ?_
 (rw [f5 _ (by omega) (by omega) (by first | exact hE | assumption)]; exact N6.mk rfl hmr2 (A1Y (.inl rfl) hta hma))
 (refine D9 rfl (A6 rfl) rfl rfl ?_; rintro _ ⟨b290, rfl⟩)
 refine A2 5 ?_
 (refine E3 rfl rfl hMore rfl rfl rfl (fun v G1 hle1 hh => ?_); obtain ⟨pm, cm, rfl, hxm⟩ := hh; have hreM := hre.mono hle1; have hLam := ih ks[0] (List.getElem_mem (by omega)) (d + 1) _ G1 pm (n + 1) cm _ (hvk 0 (by omega)) (by omega) (hcv5 (by omega)) hxm hreM; have htyM := hty.mono hle1)
 refine A2 10 ?_
 focus (refine E3 rfl rfl hLam rfl rfl rfl (fun v G2 hle2 hh => ?_); obtain ⟨mt, mc, rfl, hmr, hma, hmu⟩ := hh; obtain ⟨p1, c1, e1, rfl, _⟩ := hmr.open; have htyN := htyM.mono hle2; rcases hE : B9 (cx ++ [(nm, Ty.mk tk tks)]) ks[0] with _ | mt2; rotate_left; obtain rfl := hmu _ hE; rotate_left; all_goals simp only [Option.isSome])
 refine aP 11 rfl (qM rfl) rfl ?_
 refine aP 12 rfl (pX rfl rfl) rfl ?_
 refine aP 13 rfl (pX rfl rfl) rfl ?_
 refine A2 15 ?_
 refine H0 rfl ?_
 refine aP 16 rfl (qA rfl) rfl ?_
 refine Z3 ?_
 refine C5 (rC rfl (A4 rfl rfl)) (rT rfl) ?_
 (rw [f4 (by omega) (by omega) (by first | exact hE | assumption)]; exact N6.no rfl (K5 _ ⟨by omega, by omega⟩) (N1 (by omega) (by omega)))
 refine aP 11 rfl (qM rfl) rfl ?_
 refine aP 12 rfl (pX rfl rfl) rfl ?_
 refine aP 13 rfl (pX rfl rfl) rfl ?_
 refine A2 15 ?_
 refine H0 rfl ?_
 refine aP 16 rfl (qA rfl) rfl ?_
 refine P7 ?_
 (refine D7 rfl (A46 4 (.mk tk tks) _ _ _ _ (.inl rfl) hta hma htyN hmr) rfl rfl (fun v G3 hle3 hh => ?_); obtain ⟨mc2, rfl, hmr2⟩ := hh; obtain ⟨p2, c2, e2, rfl, _⟩ := hmr2.open)
 refine D8 ?_
 refine C5 (rC rfl (A4 rfl rfl)) (rT rfl) ?_
 (rw [f5 _ (by omega) (by omega) (by first | exact hE | assumption)]; exact N6.mk rfl hmr2 (A1Y (.inl rfl) hta hma))
 refine D8 ?_
 (refine K7 (D0 rfl rfl rfl (by omega) (by unfold maxLen; omega) rfl) rfl ?_; rintro _ ⟨b368, rfl⟩)
 refine D8 ?_
 refine C3 ?_
 (refine M6 (fun (x : Nat × Option Addr × Nat × List Ty × List (List Value) × IM) => ⟨[(9, .int .i64 x.1), (8, .slice x.2.1 x.1 x.2.2.1), (3, .pointer (some ⟨b3, 0, none⟩)), (4, .pointer (some ⟨b4, 0, none⟩)), (0, .slice p n c)], [.slc x.2.1 x.2.2.1 25 2 x.1 x.2.2.2.2.1.flatten, .blk b4 [.int .i64 0, .slice none 0 0], .blk b3 [.int .i64 k, .string nm, .int .i64 num, .int .i64 tk, .slice pt tks.length ct, .int .i64 fk, .slice pf fks.length cf, .int .i64 lb, .slice q ks.length cq]], x.2.2.2.2.2⟩) (fun x => x.1 ≤ ks.length ∧ B8 G x.2.2.2.2.2 ∧ x.2.2.2.1.length = x.1 ∧ E0 x.2.2.2.2.2 x.2.2.2.1 x.2.2.2.2.1 ∧ (∀ u ∈ x.2.2.2.1, D4 u) ∧ (∀ u ∈ x.2.2.2.1, M5 u = true) ∧ K3 cx (ks.take x.1) = some x.2.2.2.1) (fun x => ks.length - x.1) (0, some ⟨b368, 0, none⟩, 0, [], [], G) ?_ ?_ ?_)
 (simp only [K4]; exact E1)
 (exact ⟨by simp, B8.refl _, rfl, by simp [E0], by simp, by simp, by simp [K3]⟩)
 (rintro ⟨i, pn, cn, us, es', Gi⟩ ⟨hi, hle, hlu, hst, hau, hvu, hsu⟩; simp only [] at hi hle hlu hst hau hvu hsu ⊢; replace hsl := hsl.mono hle; replace hkl := hkl.mono hle; replace hx := hx.mono hle; replace hr0 := hr0.mono hle)
 refine D5 ?_
 refine sB (M2 rfl rfl) rfl rfl (fun h390 => ?_) (fun h390 => ?_)
 refine sD (nS (qT rfl (tK (nS (tS ?_)))))
 refine C3 ?_
 refine J9 ?_
 (obtain ⟨b, o, e, rfl, hl, hat, hre, hgb⟩ := hsl.kidTm hkl (i := i) (by omega) (by omega); refine sP (B4 rfl rfl rfl (by omega)) rfl rfl ?_)
 refine sL (A3 rfl rfl (hat _) hl) rfl rfl ?_
 focus (refine D7 rfl (ih ks[i] (List.getElem_mem (by omega)) (d + 1) cx Gi p n c _ (hvk i (by omega)) (by omega) hcv hx hre) rfl rfl (fun v G2 hle2 hh => ?_); obtain ⟨u, uc, rfl, hru, hua, huu⟩ := hh; obtain ⟨p3, c3, e3, rfl, _⟩ := hru.open; rcases hE : B9 cx ks[i] with _ | u2; rotate_left; obtain rfl := huu _ hE; rotate_left; all_goals simp only [Option.isSome])
 refine H9 ?_
 refine sE (A6 rfl) rfl (fun b410 => ?_)
 refine A2h ?_
 refine C5 (rC rfl (A4 rfl rfl)) (rT rfl) ?_
 (rw [f6 (by omega) (A6n (by omega) hE)]; exact N6.no rfl (K5 _ ⟨by omega, by omega⟩) (N1 (by omega) (by omega)))
 refine H9 ?_
 refine sE (A6 rfl) rfl (fun b442 => ?_)
 refine P7 ?_
 (refine K7 (D0 rfl rfl rfl (by omega) (by unfold maxLen; omega) rfl) rfl ?_; rintro _ ⟨b460, rfl⟩)
 refine A1S rfl rfl rfl rfl rfl (fun _ _ => by repeat (first | exact Sw.here | apply Sw.there)) (R9 (by repeat first | exact mH | apply mT)) rfl (by simp [Value.oneCell']) (by unfold maxLen; omega) (by omega) rfl (fun pn' cn' => ?_)
 refine J9 ?_
 refine sP (M8 rfl rfl (by omega) (by omega)) rfl rfl ?_
 refine sQ (qA rfl) rfl (sD ?_)
 refine L8 (i + 1, pn', cn', us ++ [u2], es' ++ [[.int .i64 u2.k, .slice p3 u2.ks.length c3]], G2) ?_ ?_ ?_
 (simp only [K4]; exact E1)
 (dsimp only; exact ⟨by omega, hle.trans hle2, by simp [hlu], E0.snoc (hst.mono hle2) hru, A1Z hau hua, A1Z hvu (hkv i (by omega) _ hE), A6m (by omega) hsu hE⟩)
 (show ks.length - (i + 1) < ks.length - i; omega)
 refine N2 ?_
 (obtain rfl : i = ks.length := (by omega); rw [List.take_length] at hsu; refine U1 (cs := es'.flatten) (by repeat (first | exact Pk.here | apply Pk.there)) (fun G3 hle3 hsl3 hno3 => ?_); have hst3 := hst.mono hle3; have hk8 : k = 6 ∨ k = 7 ∨ k = 8 ∨ k = 9 ∨ k = 10 ∨ k = 11 ∨ k = 12 ∨ k = 14 := (by omega); have hRes := B53 nm num (.mk tk tks) (.mk fk fks) lb ks G3 _ pn cn es' k us hk8 (by rw [hlu]; exact har) hau hta (hr0.mono hle3) (by rw [hlu]; exact C9.of hsl3 (by rw [hst3.len, hlu]) hst3.all (fun e he => (hst3.each e he).2)) hst3; rw [hlu] at hRes; refine D7 rfl hRes rfl rfl (fun v G4 hle4 hh => ?_); obtain ⟨mt, mc, rfl, hmr, hma, hmu⟩ := hh; obtain ⟨p1, c1, e1, rfl, _⟩ := hmr.open)
 refine D5 ?_
 refine C5 (rC rfl (A4 rfl rfl)) (rT rfl) ?_
 (rw [f7 us hk8 hsu hvu]; exact ⟨rfl, _, _, rfl, hmr, hma, hmu⟩)
theorem B07 (e : Tm) (G : IM) (cells : List Value) (hcnt : E7 e ≤ 4294967296) (hr : A8 G e cells) :
  Fn Tryz.prog 91 [.agg ⟨cells⟩] [] G (V6 (R3 e) G) := by
 have hl := hr.len
 have hone := hr.one
 have hw := A1g e G cells hcnt hr
 have hT := fun h : I3 e = true => B55 e 1 [] G none 0 0 cells ((A1D e).1 h).1 (by omega) B32 (S7.nil G) hr
 have hy : I3 e = true → R3 e = B9 [] e := fun h => by unfold R3; rw [if_pos h]
 have hn : I3 e = false → R3 e = none := fun h => by unfold R3; rw [if_neg (by rw [h]; decide)]
 generalize R3 e = R at hy hn ⊢
 refine B6 Tryz.func91 rfl Tryz.ntmps91 Tryz.results91 rfl ?_
 intro w0
 refine tS (tR ?_)
 refine sE (C4 rfl rfl) rfl (fun b3 => ?_)
 refine sE (A6 rfl) rfl (fun b4 => ?_)
 refine sQ (qA rfl) rfl (sD (nS (tS (tS (tR ?_)))))
 refine sL (A3 rfl rfl (A7 (by repeat first | exact mH | apply mT)) hl) rfl rfl ?_
 refine F4 rfl (hw) rfl rfl (fun h12 => ?_) (fun h12 => ?_)
 refine sQ (Q5 rfl) rfl (sD (nS (cF rfl (tK (nS (tS (tR ?_)))))))
 refine sL (A3 rfl rfl (A7 (by repeat first | exact mH | apply mT)) hl) rfl rfl ?_
 (refine D7 rfl (hT (by assumption)) rfl rfl (fun v G1 hle1 hh => ?_); obtain ⟨mt, mc, rfl, hmr, hma, hmu⟩ := hh; obtain ⟨p1, c1, e1, rfl, _⟩ := hmr.open; have hmo := hy (by assumption))
 refine sQ (pX rfl rfl) rfl (sQ (pX rfl rfl) rfl ?_)
 (refine D7 rfl (B5y mt _ _ _ hmr) rfl rfl (fun v G2 hle2 hh => ?_); obtain ⟨mc2, rfl, hmr2⟩ := hh; obtain ⟨p2, c2, e2, rfl, _⟩ := hmr2.open)
 refine D5 ?_
 refine C5 (rC rfl (A4 rfl rfl)) (rT rfl) ?_
 (rw [hmo]; exact V6.sure hmu hmr2)
 refine J4 ?_
 refine C5 (rC rfl (A4 rfl rfl)) (rT rfl) ?_
 (exact V6.no (u := B1) (K5 _ ⟨by omega, by omega⟩) rfl (hn (by assumption)))
section
variable {k : Int} {nm : ByteArray} {num : Int} {ty fr : Ty} {lb : Int} {ks : List Tm}
end
theorem A0F (e : Tm) (a b : Ty) (l : Int) (G : IM) (ce ca cb : List Value) (hl : E9 l) (he : A8 G e ce) (ha : B2 G a ca) (hb : B2 G b cb) (hsa : a.small) (hsb : b.small) : Fn Tryz.prog 93 [.agg ⟨ce⟩, .agg ⟨ca⟩, .agg ⟨cb⟩, .int .i64 l] [] G (S8 (L1 e a b l)) := by
 have hel := he.len
 have heo := he.one
 obtain ⟨v1, v2, v3, v4, v5, v6, v7, v8, v9, rfl⟩ := nine hel
 obtain ⟨ak, aks⟩ := a
 obtain ⟨bk, bks⟩ := b
 obtain ⟨pa, cca, ea, rfl, _⟩ := ha.open
 obtain ⟨pb, ccb, eb, rfl, _⟩ := hb.open
 refine B6 Tryz.func93 rfl Tryz.ntmps93 Tryz.results93 rfl ?_
 intro w0
 refine tS (tR ?_)
 refine sE (C4 rfl rfl) rfl (fun b3 => ?_)
 refine sE (C4 rfl rfl) rfl (fun b4 => ?_)
 refine sE (C4 rfl rfl) rfl (fun b5 => ?_)
 refine sE (A6 rfl) rfl (fun b6 => ?_)
 refine sD (nS (tS ?_))
 refine D1 D2 rfl ?_
 refine N8 (i := 0) (l' := [tt,ff,ff,ff,ff,ff,ff,ff,ff]) rfl C8 (A4 rfl rfl) rfl (by kernel_rfl) rfl rfl ?_
 refine aL 2 rfl (A4 rfl rfl) rfl ?_
 refine aP 4 rfl (qM rfl) rfl ?_
 refine aL 5 rfl (A4 rfl rfl) rfl ?_
 refine Q0 (j := 1) (j' := 6) (by kernel_rfl) ?_ ?_
 (refine E3 rfl rfl (Q3 (.mk ak aks) _ _ hsa ha) rfl rfl rfl (fun v G1 hle1 hh => ?_); obtain ⟨K9, F1, rfl, hs1, hn1⟩ := hh; obtain ⟨p1, c1, rfl, _⟩ := hs1.open; have hC2 := Q3 _ G1 _ hsb (hb.mono hle1))
 refine Q0 (j := 3) (j' := 6) (by kernel_rfl) ?_ ?_
 (refine E3 rfl rfl hC2 rfl rfl rfl (fun v G2 hle2 hh => ?_); obtain ⟨cs2, F2, rfl, hs2, hn2⟩ := hh; obtain ⟨p2, c2, rfl, _⟩ := hs2.open; have hr1 := hs1.R.mono ((C2.le G1 _).trans hle2); have hr2 := hs2.R.mono (C2.le G2 G1); have hre := he.mono (hle1.trans hle2))
 refine A2 6 ?_
 (refine D9 rfl (D0 rfl rfl rfl (by omega) (by unfold maxLen; omega) rfl) rfl rfl ?_; rintro _ ⟨b20, rfl⟩)
 refine aP 7 rfl (Q9 rfl rfl) rfl ?_
 refine A2 8 ?_
 refine H0 rfl ?_
 refine C0 (nS ?_)
 (refine I6 (cs := [v1, v2, v3, v4, v5, v6, v7, v8, v9]) (by repeat (first | exact Pk.here | apply Pk.there)) (fun G5 hle5 hsl5 hno5 => ?_); obtain ⟨hone1, hone2⟩ := A2u (hre.mono hle5) hsl5)
 refine tT ?_
 refine D6 (rC rfl (A4 rfl rfl)) ?_
 (exact S8.mk (A8.of9 (ks := [e]) ⟨by omega, by omega⟩ ⟨by omega, by omega⟩ hl (hr2.mono hle5) (hr1.mono hle5) hone1 hone2))
 (refine D9 rfl (D0 rfl rfl rfl (by omega) (by unfold maxLen; omega) rfl) rfl rfl ?_; rintro _ ⟨b30, rfl⟩)
 refine A2 3 ?_
 (refine E3 rfl rfl hC2 rfl rfl rfl (fun v G2 hle2 hh => ?_); obtain ⟨cs2, F2, rfl, hs2, hn2⟩ := hh; obtain ⟨p2, c2, rfl, _⟩ := hs2.open; have hr1 := hs1.R.mono ((C2.le G1 _).trans hle2); have hr2 := hs2.R.mono (C2.le G2 G1); have hre := he.mono (hle1.trans hle2))
 refine aP 7 rfl (Q9 rfl rfl) rfl ?_
 refine A2 8 ?_
 refine H0 rfl ?_
 refine C0 (nS ?_)
 (refine I6 (cs := [v1, v2, v3, v4, v5, v6, v7, v8, v9]) (by repeat (first | exact Pk.here | apply Pk.there)) (fun G5 hle5 hsl5 hno5 => ?_); obtain ⟨hone1, hone2⟩ := A2u (hre.mono hle5) hsl5)
 refine tT ?_
 refine D6 (rC rfl (A4 rfl rfl)) ?_
 (exact S8.mk (A8.of9 (ks := [e]) ⟨by omega, by omega⟩ ⟨by omega, by omega⟩ hl (hr2.mono hle5) (hr1.mono hle5) hone1 hone2))
 (refine D9 rfl (D0 rfl rfl rfl (by omega) (by unfold maxLen; omega) rfl) rfl rfl ?_; rintro _ ⟨b42, rfl⟩)
 refine A2 1 ?_
 (refine E3 rfl rfl (Q3 (.mk ak aks) _ _ hsa ha) rfl rfl rfl (fun v G1 hle1 hh => ?_); obtain ⟨K9, F1, rfl, hs1, hn1⟩ := hh; obtain ⟨p1, c1, rfl, _⟩ := hs1.open; have hC2 := Q3 _ G1 _ hsb (hb.mono hle1))
 refine A2 3 ?_
 (refine E3 rfl rfl hC2 rfl rfl rfl (fun v G2 hle2 hh => ?_); obtain ⟨cs2, F2, rfl, hs2, hn2⟩ := hh; obtain ⟨p2, c2, rfl, _⟩ := hs2.open; have hr1 := hs1.R.mono ((C2.le G1 _).trans hle2); have hr2 := hs2.R.mono (C2.le G2 G1); have hre := he.mono (hle1.trans hle2))
 refine aP 7 rfl (Q9 rfl rfl) rfl ?_
 refine A2 8 ?_
 refine H0 rfl ?_
 refine C0 (nS ?_)
 (refine I6 (cs := [v1, v2, v3, v4, v5, v6, v7, v8, v9]) (by repeat (first | exact Pk.here | apply Pk.there)) (fun G5 hle5 hsl5 hno5 => ?_); obtain ⟨hone1, hone2⟩ := A2u (hre.mono hle5) hsl5)
 refine tT ?_
 refine D6 (rC rfl (A4 rfl rfl)) ?_
 (exact S8.mk (A8.of9 (ks := [e]) ⟨by omega, by omega⟩ ⟨by omega, by omega⟩ hl (hr2.mono hle5) (hr1.mono hle5) hone1 hone2))
theorem B08 {G G1 : IM} {k : Int} {nm : ByteArray} {num : Int} {ty fr : Ty} {lb : Int} {ks : List Tm} {cells : List Value} {F : List Nat} (hs : P6 (C2 G1 G) (.mk k nm num ty fr lb ks) cells F) (hn : F.Nodup) (hle : B8 G G1) (h0 : 0 < ks.length) :
  ∃ (p7 : Option Addr) (c7 : Nat) (p8 : Option Addr) (c8 bc c1 : Nat) (A C : List Value) (es1 : List (List Value)), cells = [.int .i64 k, .string nm, .int .i64 num, .int .i64 ty.k, .slice p7 ty.ks.length c7, .int .i64 fr.k, .slice p8 fr.ks.length c8, .int .i64 lb, .slice (some ⟨bc, A.length, none⟩) ks.length c1] ∧
   G1 bc = some (A ++ (es1.flatten ++ C)) ∧ G bc = none ∧ es1.length = ks.length ∧ (∀ e ∈ es1, e.length = 9) ∧ ks.length ≤ c1 ∧ c1 ≤ maxLen ∧ B8 G (Wo G1 [bc]) ∧
   B2 (Wo G1 [bc]) ty [.int .i64 ty.k, .slice p7 ty.ks.length c7] ∧ B2 (Wo G1 [bc]) fr [.int .i64 fr.k, .slice p8 fr.ks.length c8] := by
 simp only [P6] at hs
 obtain ⟨tc, fc, p1, c1, es1, Ft, Ff, Fs, rfl, _, _, _, ht1, hf1, hsl1, hkl1, rfl, hg1⟩ := hs
 obtain ⟨p7, c7, rfl, _⟩ := ht1.open
 obtain ⟨p8, c8, rfl, _⟩ := hf1.open
 obtain ⟨bc, A, C, rfl, hgb⟩ := hsl1.sl.blk (fun h1 => by have hq := hsl1.sl.1; rw [h1] at hq; simp at hq; omega)
 have hGb : G bc = none := C2.out (by rw [hgb]; simp)
 rw [List.nodup_append, List.nodup_append] at hn
 obtain ⟨n1, ⟨n2, _, d2⟩, d3⟩ := hn
 have hbt : ∀ x ∈ Ft, x ∉ [bc] := fun x hx hb => d3 x hx x (by simp at hb; subst hb; simp [K2]) rfl
 have hbf : ∀ x ∈ Ff, x ∉ [bc] := fun x hx hb => d2 x hx x (by simp at hb; subst hb; simp [K2]) rfl
 have hm : B8 (Wo (C2 G1 G) [bc]) (Wo G1 [bc]) := by
  intro x l hx
  obtain ⟨h1, h2⟩ := Wo.get hx
  rw [Wo.at h2]
  exact C2.le _ _ _ _ h1
 exact ⟨p7, c7, p8, c8, bc, c1, A, C, es1, rfl, C2.le _ _ _ _ hgb, hGb, hkl1.R.len, hkl1.R.all, hsl1.sl.2.1, hsl1.sl.2.2.1, Wo.keep hle (fun b hb => by simp at hb; subst hb; exact hGb), ((ht1.wo hbt).R).mono hm, ((hf1.wo hbf).R).mono hm⟩
theorem B09 {H G9 : IM} {k : Int} {nm : ByteArray} {num : Int} {ty fr : Ty} {lb : Int} {us : List Tm} {es : List (List Value)} {A C : List Value} {bc c1 n c7 c8 : Nat} {p7 p8 : Option Addr} (hk : E9 k) (hnum : E9 num) (hlb : E9 lb)
  (hty : B2 H ty [.int .i64 ty.k, .slice p7 ty.ks.length c7]) (hfr : B2 H fr [.int .i64 fr.k, .slice p8 fr.ks.length c8]) (hle : B8 H G9) (hb : G9 bc = some (A ++ (es.flatten ++ C))) (hr : E5 G9 us es) (hl : us.length = n) (hc : n ≤ c1) (hm : c1 ≤ maxLen) :
  A8 G9 (.mk k nm num ty fr lb us) [.int .i64 k, .string nm, .int .i64 num, .int .i64 ty.k, .slice p7 ty.ks.length c7, .int .i64 fr.k, .slice p8 fr.ks.length c8, .int .i64 lb, .slice (some ⟨bc, A.length, none⟩) n c1] := by
 subst hl
 obtain ⟨tk, tks⟩ := ty
 obtain ⟨fk, fks⟩ := fr
 exact A8.put hk hnum hlb (hty.mono hle) (hfr.mono hle) rfl (C9.of (Sl.of_blk (by rw [A1A hr.all, hr.len]) hc hm hb) hr.len hr.all (fun e he => by obtain ⟨q, hq⟩ := List.getElem?_of_mem he; exact (hr.inv hq I9).2.one)) hr
theorem B56 {es D : List (List Value)} {i : Nat} {y : List Value} (hl : es.length = i) (hi : i < D.length) : (es ++ D.drop i).set i y = (es ++ [y]) ++ D.drop (i + 1) := by
 rw [List.set_append_right _ _ (by omega), hl, Nat.sub_self, List.drop_eq_getElem_cons hi, List.set_cons_zero, List.append_assoc]
 rfl
theorem B57 {es D : List (List Value)} {i sz : Nat} (h1 : ∀ e ∈ es, e.length = sz) (h2 : ∀ e ∈ D, e.length = sz) : ∀ e ∈ es ++ D.drop i, e.length = sz := by
 intro e he
 rcases List.mem_append.1 he with he | he
 ·exact h1 e he
 ·exact h2 e (List.mem_of_mem_drop he)
theorem B1a {A C : List Value} {es D : List (List Value)} {vs : List Value} {i sz : Nat} (hl : es.length = i) (hi : i < D.length) (h1 : ∀ e ∈ es, e.length = sz) (h2 : ∀ e ∈ D, e.length = sz) (hv : vs.length = sz) :
  Q7 (A ++ ((es ++ D.drop i).flatten ++ C)) (A.length + i * sz) vs = some (A ++ (((es ++ [vs]) ++ D.drop (i + 1)).flatten ++ C)) := by
 rw [B3M (by rw [List.length_append, List.length_drop]; omega) (B57 h1 h2) hv, B56 hl hi]
theorem B1b {g : Tm → Tm} {ks : List Tm} {i : Nat} (h : i < ks.length) : (H1 g ks).take (i + 1) = (H1 g ks).take i ++ [J7 g ks[i]] := by
 rw [A1d, List.take_succ_eq_append_getElem (by rw [List.length_map]; exact h), List.getElem_map]
theorem B58 (nm : ByteArray) (num : Int) (ty fr : Ty) (lb : Int) (a : Tm) (G : IM) (cells : List Value) (hr : A8 G (.mk 14 nm num ty fr lb [a]) cells) :
  Fn Tryz.prog 147 [.agg ⟨cells⟩] [] G (J3 (.bool (decide (a.k = 14 ∧ a.ty.k = 1 ∧ fr.k = 1) && H7 a.fr ty)) G) := by
 obtain ⟨tk, tks⟩ := ty
 obtain ⟨fk, fks⟩ := fr
 obtain ⟨ak, anm, anum, ⟨atk, atks⟩, ⟨afk, afks⟩, alb, aks⟩ := a
 obtain ⟨pt, ct, pf, cf, p, c, es, rfl, hk, hnum, hlb, hty, hfr, hsl, hkl⟩ := hr.open9
 obtain ⟨bx, ox, e, rfl, hl, hat, hre, hgb⟩ := hsl.kidTm hkl (i := 0) (by simp) (by simp)
 have heo := hre.one
 simp only [List.getElem_cons_zero] at hre
 obtain ⟨apt, act, apf, acf, ap, ac, aes, rfl, hak, hanum, halb, haty, hafr, hasl, hakl⟩ := hre.open9
 have hS := A17 (.mk afk afks) (.mk tk tks) G _ _ hafr hty
 simp only [show ∀ a b, (Ty.mk a b).k = a from fun _ _ => rfl, show ∀ a b c d e f g, (Tm.mk a b c d e f g).k = a from fun _ _ _ _ _ _ _ => rfl, show ∀ a b c d e f g, (Tm.mk a b c d e f g).ty = d from fun _ _ _ _ _ _ _ => rfl, show ∀ a b c d e f g, (Tm.mk a b c d e f g).fr = e from fun _ _ _ _ _ _ _ => rfl]
 generalize H7 (.mk afk afks) (.mk tk tks) = s at hS ⊢
 refine B6 Tryz.func147 rfl Tryz.ntmps147 Tryz.results147 rfl ?_
 intro w0
 refine tS (tR ?_)
 refine sE (C4 rfl rfl) rfl (fun b3 => ?_)
 refine D5 ?_
 refine sP (B4 (j := 0) rfl rfl rfl (by simp)) rfl rfl ?_
 refine sL (A3 rfl rfl (hat _) rfl) rfl rfl ?_
 refine sE (A6 rfl) rfl (fun b13 => ?_)
 refine sS rfl rfl rfl rfl heo rfl ?_ (hu := by exact C1 rfl)
 refine J9 ?_
 refine sB (qE rfl rfl) rfl rfl (fun h21 => ?_) (fun h21 => ?_)
 refine J8 ?_
 refine sB (qE rfl rfl) rfl rfl (fun h26 => ?_) (fun h26 => ?_)
 refine R0 ?_
 refine sB (qE rfl rfl) rfl rfl (fun h32 => ?_) (fun h32 => ?_)
 refine J9 ?_
 refine E8 rfl (hS) rfl rfl ?_
 refine J9 ?_
 (exact ⟨rfl, by rw [decide_eq_true ⟨by omega, by omega, by omega⟩]; rfl, rfl⟩)
 refine J4 ?_
 (exact ⟨rfl, by rw [decide_eq_false (by omega)]; rfl, rfl⟩)
 refine A0m ?_
 (exact ⟨rfl, by rw [decide_eq_false (by omega)]; rfl, rfl⟩)
 refine A1R ?_
 (exact ⟨rfl, by rw [decide_eq_false (by omega)]; rfl, rfl⟩)
theorem B59 {p : Prop} [Decidable p] {b s : Bool} (h : (decide p && b) = s) (hs : s = true) : p := by
 subst hs
 rw [Bool.and_eq_true, decide_eq_true_eq] at h
 exact h.1
theorem B6a {nm : ByteArray} {num : Int} {ty fr : Ty} {lb : Int} {a : Tm} {b : Bool} (h : H7 fr ty = false) (hb : (decide (a.k = 14 ∧ a.ty.k = 1 ∧ fr.k = 1) && H7 a.fr ty) = b) : N9 (.mk 14 nm num ty fr lb [a]) = if b = true then kd a.ks 0 else .mk 14 nm num ty fr lb [a] := by
 have hs : H7 a.fr ty = true ↔ H7 ty a.fr = true := by rw [R2, R2]; exact ⟨fun h => h.symm, fun h => h.symm⟩
 cases b with
 | true =>
  rw [Bool.and_eq_true, decide_eq_true_eq] at hb
  rw [if_pos rfl, B0Y h ⟨hb.1.2.2, hb.1.1, hb.1.2.1, hs.1 hb.2⟩]
 | false =>
  rw [if_neg (by decide), B0Z h]
  rintro ⟨h1, h2, h3, h4⟩
  rw [decide_eq_true ⟨h2, h3, h1⟩, hs.2 h4] at hb
  cases hb
theorem B6b (k : Int) (nm : ByteArray) (num : Int) (ty fr : Ty) (lb : Int) (hk14 : k ≠ 14) (G : IM) (cells : List Value) (hts : (Tm.mk k nm num ty fr lb []).small) (hr : A8 G (.mk k nm num ty fr lb []) cells) :
  Fn Tryz.prog 83 [.agg ⟨cells⟩] [] G (S8 (.mk k nm num ty fr lb [])) := by
 have hone := hr.one
 have hl9 := hr.len
 have hC := A2l _ G cells hts hr
 obtain ⟨tk, tks⟩ := ty
 obtain ⟨fk, fks⟩ := fr
 obtain ⟨pt, ct, pf, cf, p, c, es, rfl, hk, hnum, hlb, hty, hfr, hsl, hkl⟩ := hr.open9
 refine B6 Tryz.func83 rfl Tryz.ntmps83 Tryz.results83 rfl ?_
 intro w0
 refine tS (tR ?_)
 refine sE (C4 rfl rfl) rfl (fun b3 => ?_)
 refine sE (A6 rfl) rfl (fun b4 => ?_)
 refine sD (nS (tS (tR (sL (A4 rfl rfl) rfl rfl ?_))))
 (refine D7 rfl hC rfl rfl (fun v G1 hle1 hh => ?_); obtain ⟨cells1, F1, rfl, hs1, hn1⟩ := hh; have hru := hs1.R.mono (C2.le _ _); have hul := hru.len; have huo := hru.one)
 refine sE (A6 rfl) rfl (fun b11 => ?_)
 refine sS rfl rfl rfl hul huo rfl ?_ (hu := by exact C1 hul.symm)
 refine sD (nS (tS (tS (tR (sQ (qA rfl) rfl (sD (nS ?_)))))))
 refine C3 ?_
 (refine M6 (fun (_ : Nat) => ⟨[(4, .int .i64 0), (1, .pointer (some ⟨b3, 0, none⟩)), (2, .pointer (some ⟨b4, 0, none⟩)), (3, .pointer (some ⟨b11, 0, none⟩))], [.blk b11 cells1, .blk b4 [.int .i64 0, .string ⟨⟨[]⟩⟩, .int .i64 0, .int .i64 0, .slice none 0 0, .int .i64 0, .slice none 0 0, .int .i64 0, .slice none 0 0], .blk b3 [.int .i64 k, .string nm, .int .i64 num, .int .i64 tk, .slice pt tks.length ct, .int .i64 fk, .slice pf fks.length cf, .int .i64 lb, .slice p 0 c]], G1⟩) (fun _ => True) (fun _ => 0) 0 ?_ ?_ ?_)
 ·exact E1
 ·trivial
 ·(rintro (_ : Nat) _)
  refine D5 ?_
  refine sP (A3p rfl rfl (by omega)) rfl rfl ?_
  refine D8 ?_
  refine C3 ?_
  refine tS (tR (sQ (B5 rfl) rfl (sL (C7 rfl rfl) rfl rfl ?_)))
  refine sP (W7 rfl rfl (by omega)) rfl rfl ?_
  refine sQ (qA rfl) rfl (sD (nS (qT rfl (tS (tR ?_)))))
  refine sL (A3 rfl rfl (A7 (by repeat first | exact mH | apply mT)) hul) rfl rfl ?_
  refine sS rfl rfl rfl hul huo rfl ?_ (hu := by exact C1 hul.symm)
  refine sD (nS (tT (rB (rS ?_))))
  refine D6 (rC rfl (A3 rfl rfl (A7 (by repeat first | exact mH | apply mT)) hul)) ?_
  (exact ⟨rfl, cells1, rfl, hru⟩)
theorem B6c : ∀ (t : Tm) (G : IM) (cells : List Value), K9 t → t.small → A8 G t cells → Fn Tryz.prog 83 [.agg ⟨cells⟩] [] G (S8 (J7 N9 t)) := by
 refine Tm.ind fun k nm num ty fr lb ks ih G cells hq hts hr => ?_
 by_cases hk0 : ks = []
 ·subst hk0
  have hk14 : k ≠ 14 := fun h => by obtain ⟨a, h1, _⟩ := A18 hq h; cases h1
  rw [show J7 N9 (.mk k nm num ty fr lb []) = N9 (.mk k nm num ty fr lb []) by rw [J7, H1], A64 hk14]
  exact B6b k nm num ty fr lb hk14 G cells hts hr
 have h0 : 0 < ks.length := List.length_pos_iff.2 hk0
 have hone := hr.one
 have hC := A2l _ G cells hts hr
 have hqL : X2 ks := by rw [K9] at hq; exact hq.2
 have hqS : X2 (H1 N9 ks) := A48 ks hqL
 have hks : Tm.smallL ks := by rw [Tm.small] at hts; exact hts.2.2.2.2
 have hM : J7 N9 (.mk k nm num ty fr lb ks) = N9 (.mk k nm num ty fr lb (H1 N9 ks)) := by rw [J7]
 have hml : (H1 N9 ks).length = ks.length := by rw [A1d, List.length_map]
 have hno := @A64 k nm num ty fr lb (H1 N9 ks)
 rw [hM]
 clear hM
 obtain ⟨tk, tks⟩ := ty
 obtain ⟨fk, fks⟩ := fr
 obtain ⟨pt, ct, pf, cf, p, c, es, rfl, hk, hnum, hlb, hty, hfr, hsl, hkl⟩ := hr.open9
 have hn := hsl.le
 refine B6 Tryz.func83 rfl Tryz.ntmps83 Tryz.results83 rfl ?_
 intro w0
 refine tS (tR ?_)
 refine sE (C4 rfl rfl) rfl (fun b3 => ?_)
 refine sE (A6 rfl) rfl (fun b4 => ?_)
 refine sD (nS (tS (tR (sL (A4 rfl rfl) rfl rfl ?_))))
 (refine D7 rfl hC rfl rfl (fun v G1 hle1 hh => ?_); obtain ⟨cells1, F1, rfl, hs1, hn1⟩ := hh; obtain ⟨p7, c7, p8, c8, bc, c1, A, C, es1, rfl, hgb, hGb, hel, hea, hc1, hm1, hGle, hrt, hrf⟩ := B08 hs1 hn1 hle1 h0; simp only [Ty.k, Ty.ks] at hrt hrf ⊢)
 refine sE (A6 rfl) rfl (fun b11 => ?_)
 refine H6 ?_
 refine sD (nS (tS (tS (tR (sQ (qA rfl) rfl (sD (nS ?_)))))))
 refine C3 ?_
 (refine A7E [(bc, A ++ (es1.flatten ++ C))] (by simp) (by simp only [List.mem_singleton, forall_eq]; exact ⟨hgb, hGb⟩) ?_; refine M6 (fun (x : Nat × List (List Value) × IM) => ⟨[(4, .int .i64 x.1), (1, .pointer (some ⟨b3, 0, none⟩)), (2, .pointer (some ⟨b4, 0, none⟩)), (3, .pointer (some ⟨b11, 0, none⟩))], [.blk bc (A ++ ((x.2.1 ++ es1.drop x.1).flatten ++ C)), .blk b11 [.int .i64 k, .string nm, .int .i64 num, .int .i64 tk, .slice p7 tks.length c7, .int .i64 fk, .slice p8 fks.length c8, .int .i64 lb, .slice (some ⟨bc, A.length, none⟩) ks.length c1], .blk b4 [.int .i64 0, .string ⟨⟨[]⟩⟩, .int .i64 0, .int .i64 0, .slice none 0 0, .int .i64 0, .slice none 0 0, .int .i64 0, .slice none 0 0], .blk b3 [.int .i64 k, .string nm, .int .i64 num, .int .i64 tk, .slice pt tks.length ct, .int .i64 fk, .slice pf fks.length cf, .int .i64 lb, .slice p ks.length c]], x.2.2⟩) (fun x => x.1 ≤ ks.length ∧ B8 (Wo G1 [bc]) x.2.2 ∧ E5 x.2.2 ((H1 N9 ks).take x.1) x.2.1) (fun x => ks.length - x.1) (0, [], Wo G1 [bc]) ?_ ?_ ?_)
 (simp only [K4]; exact E1)
 (exact ⟨Nat.zero_le _, B8.refl _, by simp only [List.take_zero, E5]⟩)
 (rintro ⟨(i : Nat), es', Gi⟩ ⟨hi, hle, hst⟩; simp only [] at hi hle hst ⊢; have hsL : es'.length = i := (by rw [hst.len, List.length_take, hml]; omega))
 refine D5 ?_
 refine sB (M2 rfl rfl) rfl rfl (fun h33 => ?_) (fun h33 => ?_)
 refine sD (nS (qT rfl (tK (nS (tS ?_)))))
 refine C3 ?_
 (have hiK : i < ks.length := (by omega); obtain ⟨b0, o0, e0, hp0, hl0, hat0, hre0, hgb0⟩ := (hsl.mono (hGle.trans hle)).kidTm (hkl.mono (hGle.trans hle)) (i := i) hiK hiK; subst hp0; have hih := ih ks[i] (List.getElem_mem hiK) Gi e0 (A63 hqL _ (List.getElem_mem hiK)) (Tm.smallL_mem hks _ (List.getElem_mem hiK)) hre0; refine D1 D2 rfl ?_)
 refine I4 (i := 0) (l' := [tt,ff,ff,ff,ff,ff,ff,ff,ff,ff,ff]) rfl C8 (B5 rfl) rfl (by kernel_rfl) rfl rfl ?_
 refine aL 1 rfl (C7 rfl rfl) rfl ?_
 refine aP 2 rfl (qM rfl) rfl ?_
 refine aP 3 rfl (B5 rfl) rfl ?_
 refine aL 4 rfl (C7 rfl rfl) rfl ?_
 refine aP 5 rfl (qM rfl) rfl ?_
 refine aP 6 rfl (B4 (j := i) rfl rfl rfl (by omega)) rfl ?_
 refine aL 7 rfl (A3 rfl rfl (hat0 _) hl0) rfl ?_
 refine A2 8 ?_
 (refine E3 rfl rfl hih rfl rfl rfl (fun v G2 hle2 hh => ?_); obtain ⟨yc, rfl, hry⟩ := hh; have hly := hry.len; have hoy := hry.one; have hsn := E5.snoc (hst.mono hle2) hry; rw [← B1b (by omega)] at hsn)
 refine aP 9 rfl (B4 (j := i) rfl rfl rfl (by omega)) rfl ?_
 refine A2 10 ?_
 refine M3 rfl rfl rfl rfl hly hoy rfl rfl (by kernel_rfl) (by repeat first | exact Sw.here | apply Sw.there) (B1a hsL (by rw [hel]; omega) hst.all hea hly) ?_
 refine C0 (O2 (nS (tR (sQ (qM rfl) rfl ?_))))
 refine sP (M8 rfl rfl (by omega) (by omega)) rfl rfl ?_
 refine sQ (qA rfl) rfl (sD ?_)
 refine L8 (i + 1, es' ++ [yc], G2) ?_ ?_ ?_
 (simp only [K4]; exact E1)
 (dsimp only; exact ⟨by omega, hle.trans hle2, hsn⟩)
 (show ks.length - (i + 1) < ks.length - i; omega)
 refine D8 ?_
 refine C3 ?_
 refine tS ?_
 (have hik : i = ks.length := (by omega); subst hik; rw [List.drop_of_length_le (Nat.le_of_eq hel), List.append_nil]; rw [List.take_of_length_le (Nat.le_of_eq hml)] at hst; refine A3v (bs := [(bc, A ++ (es'.flatten ++ C))]) (Pk.perm (by repeat (first | exact Pk.here | apply Pk.there))) (fun hn9 hd9 hle9 => ?_); have hro := B09 (nm := nm) hk hnum hlb hrt hrf (hle.trans hle9) (Wi.in hn9 List.mem_cons_self) (hst.mono hle9) hml hc1 hm1; have hS := A17 (.mk fk fks) (.mk tk tks) _ _ _ (hfr.mono (hGle.trans (hle.trans hle9))) (hty.mono (hGle.trans (hle.trans hle9))))
 refine tR (sQ (B5 rfl) rfl (sL (C7 rfl rfl) rfl rfl ?_))
 refine sB (Q6 rfl rfl) rfl rfl (fun h82 => ?_) (fun h82 => ?_)
 refine J4 ?_
 refine D6 (rC rfl (A4 rfl rfl)) ?_
 (rw [hno (by omega)]; exact ⟨rfl, _, rfl, hro⟩)
 refine I8 ?_
 (have hk14 : k = 14 := (by omega); subst hk14; obtain ⟨a, ha, hqa⟩ := A18 (k := 14) (nm := nm) (num := num) (ty := .mk tk tks) (fr := .mk fk fks) (lb := lb) (ks := H1 N9 ks) (by rw [K9]; exact ⟨fun h => by rw [hml]; (rw [K9] at hq; exact hq.1 h), hqS⟩) rfl; rw [ha] at hro hno hml ⊢; have hml1 : 1 = ks.length := hml; have hid := @B0X nm num (.mk tk tks) (.mk fk fks) lb a; have hof := @B6a nm num (.mk tk tks) (.mk fk fks) lb a; have hBk := B58 nm num (.mk tk tks) (.mk fk fks) lb a _ _ hro; obtain ⟨pt9, ct9, pf9, cf9, p9, c9, es9, hcc, _, _, _, _, _, hsl9, hkl9⟩ := hro.open9; simp only [Ty.k, Ty.ks, List.cons.injEq, Value.slice.injEq, true_and, and_true] at hcc; obtain ⟨_, _, rfl, hn9, rfl⟩ := hcc; obtain ⟨bx, ox, e, hpx, hlx, hatx, hrx, hgx⟩ := hsl9.kidTm hkl9 (i := 0) (by simp) (by simp); cases hpx; have hox := hrx.one; simp only [List.getElem_cons_zero] at hrx; obtain ⟨ak, anm, anum, ⟨atk, atks⟩, ⟨afk, afks⟩, alb, aks⟩ := a; obtain ⟨apt, act, apf, acf, ap, ac, aes, rfl, hak, hanum, halb, haty, hafr, hasl, hakl⟩ := hrx.open9; obtain ⟨s1, hs1⟩ : ∃ s, H7 (.mk fk fks) (.mk tk tks) = s := ⟨_, rfl⟩; obtain ⟨s2, hs2⟩ : ∃ s, (decide (ak = 14 ∧ atk = 1 ∧ fk = 1) && H7 (.mk afk afks) (.mk tk tks)) = s := ⟨_, rfl⟩; replace hof := hof (b := s2); simp only [show ∀ a b, (Ty.mk a b).k = a from fun _ _ => rfl, show ∀ a b c d e f g, (Tm.mk a b c d e f g).k = a from fun _ _ _ _ _ _ _ => rfl, show ∀ a b c d e f g, (Tm.mk a b c d e f g).ty = d from fun _ _ _ _ _ _ _ => rfl, show ∀ a b c d e f g, (Tm.mk a b c d e f g).fr = e from fun _ _ _ _ _ _ _ => rfl, show ∀ a b c d e f g, (Tm.mk a b c d e f g).ks = g from fun _ _ _ _ _ _ _ => rfl] at hof hBk; rw [hs1] at hS hid hof; rw [hs2] at hBk; refine F4 rfl hS rfl rfl (fun h108 => ?_) (fun h108 => ?_))
 refine F8 ?_
 refine sP (B4 (j := 0) rfl rfl rfl (by first | omega | simp)) rfl rfl ?_
 refine sL (A3 rfl rfl (hatx _) rfl) rfl rfl ?_
 refine sS rfl rfl rfl rfl hox rfl ?_ (hu := by exact C1 rfl)
 refine sD (nS (tT (rB (rS ?_))))
 refine D6 (rC rfl (A4 rfl rfl)) ?_
 (rw [hid (by assumption)]; exact ⟨rfl, _, rfl, hrx⟩)
 refine D5 ?_
 refine F4 rfl (hBk) rfl rfl (fun h134 => ?_) (fun h134 => ?_)
 refine F8 ?_
 refine sP (B4 (j := 0) rfl rfl rfl (by first | omega | simp)) rfl rfl ?_
 refine sQ (qF rfl) rfl ?_
 (have h14 : ak = 14 := (B59 hs2 (by assumption)).1; refine sL (V4 rfl rfl (At.sub (j := 8) (hatx _) rfl)) rfl rfl ?_; obtain ⟨b, rfl, _⟩ := A18 hqa h14; obtain ⟨by1, oy, f, rfl, hfl, hfat, hrf9, hfgb⟩ := hasl.kidTm hakl (i := 0) (by simp) (by simp); have hfo := hrf9.one)
 refine sP (B4 (j := 0) rfl rfl rfl (by first | omega | simp)) rfl rfl ?_
 refine sL (A3 rfl rfl (hfat _) hfl) rfl rfl ?_
 refine sS rfl rfl rfl hfl hfo rfl ?_ (hu := by exact C1 hfl.symm)
 refine sD (nS (tT (rB (rS ?_))))
 refine D6 (rC rfl (A3 rfl rfl (A7 (by repeat first | exact mH | apply mT)) hfl)) ?_
 (rw [hof (by assumption) hs2, if_pos (by assumption)]; exact ⟨rfl, _, rfl, hrf9⟩)
 refine I8 ?_
 refine sS rfl rfl rfl rfl hox rfl ?_ (hu := by exact C1 rfl)
 refine sD (nS (tT ?_))
 refine D6 (rC rfl (A4 rfl rfl)) ?_
 (rw [hof (by assumption) hs2, if_neg (B2O (by assumption))]; exact ⟨rfl, _, rfl, hro⟩)
theorem B6d (t : Tm) (G : IM) (cells : List Value) (hcnt : E7 t ≤ 4294967296) (hr : A8 G t cells) : Fn Tryz.prog 29 [.agg ⟨cells⟩] [] G (P8 (A0E t)) := by
 have hl := hr.len
 have hone := hr.one
 have hV := A1g t G cells hcnt hr
 have hM := fun (h : I3 t = true) => B6c t G cells (A47 t (A1H h).1) (A1M h) hr
 have hy := @A33 t
 have hn := @B00 t
 generalize A0E t = R at hy hn ⊢
 refine B6 Tryz.func29 rfl Tryz.ntmps29 Tryz.results29 rfl ?_
 intro w0
 refine tS (tR ?_)
 refine sE (C4 rfl rfl) rfl (fun b3 => ?_)
 refine sE (A6 rfl) rfl (fun b4 => ?_)
 refine sQ (qA rfl) rfl (sD (nS (tS (tS (tR ?_)))))
 refine sL (A3 rfl rfl (A7 (by repeat first | exact mH | apply mT)) hl) rfl rfl ?_
 refine F4 rfl (hV) rfl rfl (fun h12 => ?_) (fun h12 => ?_)
 refine sQ (Q5 rfl) rfl (sD (nS (cF rfl (tK (nS (tS (tR ?_)))))))
 refine sL (A3 rfl rfl (A7 (by repeat first | exact mH | apply mT)) hl) rfl rfl ?_
 (refine D7 rfl (hM (by assumption)) rfl rfl (fun v3 G3 hle3 hh => ?_); obtain ⟨cu, rfl, hru⟩ := hh; have hul := hru.len; have huo := hru.one)
 refine sS rfl rfl rfl hul huo rfl ?_ (hu := by exact C1 hul.symm)
 refine sQ (qA rfl) rfl (sD (nS (tT ?_)))
 refine C5 (rC rfl (A3 rfl rfl (A7 (by repeat first | exact mH | apply mT)) hul)) (rT rfl) ?_
 (exact P8.mk (hy (by assumption)) hru)
 refine J4 ?_
 refine C5 (rC rfl (A4 rfl rfl)) (rT rfl) ?_
 (exact P8.mk (hn (by assumption)) (O4 _))
theorem B6e (k : Int) (nm : ByteArray) (num : Int) (ty fr : Ty) (lb : Int) (hk14 : k ≠ 14) (G : IM) (cells : List Value) (hts : (Tm.mk k nm num ty fr lb []).small) (hr : A8 G (.mk k nm num ty fr lb []) cells) :
  Fn Tryz.prog 88 [.agg ⟨cells⟩] [] G (S8 (.mk k nm num ty fr lb [])) := by
 have hone := hr.one
 have hl9 := hr.len
 have hC := A2l _ G cells hts hr
 obtain ⟨tk, tks⟩ := ty
 obtain ⟨fk, fks⟩ := fr
 obtain ⟨pt, ct, pf, cf, p, c, es, rfl, hk, hnum, hlb, hty, hfr, hsl, hkl⟩ := hr.open9
 refine B6 Tryz.func88 rfl Tryz.ntmps88 Tryz.results88 rfl ?_
 intro w0
 refine tS (tR ?_)
 refine sE (C4 rfl rfl) rfl (fun b3 => ?_)
 refine sE (A6 rfl) rfl (fun b4 => ?_)
 refine sD (nS (tS (tR (sL (A4 rfl rfl) rfl rfl ?_))))
 (refine D7 rfl hC rfl rfl (fun v G1 hle1 hh => ?_); obtain ⟨cells1, F1, rfl, hs1, hn1⟩ := hh; have hru := hs1.R.mono (C2.le _ _); have hul := hru.len; have huo := hru.one)
 refine sE (A6 rfl) rfl (fun b11 => ?_)
 refine sS rfl rfl rfl hul huo rfl ?_ (hu := by exact C1 hul.symm)
 refine sD (nS (tS (tS (tR (sQ (qA rfl) rfl (sD (nS ?_)))))))
 refine C3 ?_
 (refine M6 (fun (_ : Nat) => ⟨[(4, .int .i64 0), (1, .pointer (some ⟨b3, 0, none⟩)), (2, .pointer (some ⟨b4, 0, none⟩)), (3, .pointer (some ⟨b11, 0, none⟩))], [.blk b11 cells1, .blk b4 [.int .i64 0, .string ⟨⟨[]⟩⟩, .int .i64 0, .int .i64 0, .slice none 0 0, .int .i64 0, .slice none 0 0, .int .i64 0, .slice none 0 0], .blk b3 [.int .i64 k, .string nm, .int .i64 num, .int .i64 tk, .slice pt tks.length ct, .int .i64 fk, .slice pf fks.length cf, .int .i64 lb, .slice p 0 c]], G1⟩) (fun _ => True) (fun _ => 0) 0 ?_ ?_ ?_)
 ·exact E1
 ·trivial
 ·(rintro (_ : Nat) _)
  refine D5 ?_
  refine sP (A3p rfl rfl (by omega)) rfl rfl ?_
  refine J4 ?_
  refine sP (W7 rfl rfl (by omega)) rfl rfl ?_
  refine P7 ?_
  refine sL (A3 rfl rfl (A7 (by repeat first | exact mH | apply mT)) hul) rfl rfl ?_
  refine sS rfl rfl rfl hul huo rfl ?_ (hu := by exact C1 hul.symm)
  refine sD (nS (tT (rS ?_)))
  refine D6 (rC rfl (A3 rfl rfl (A7 (by repeat first | exact mH | apply mT)) hul)) ?_
  (exact ⟨rfl, cells1, rfl, hru⟩)
theorem B6f : ∀ (t : Tm) (G : IM) (cells : List Value), K9 t → t.small → A8 G t cells → Fn Tryz.prog 88 [.agg ⟨cells⟩] [] G (S8 (J7 P4 t)) := by
 refine Tm.ind fun k nm num ty fr lb ks ih G cells hq hts hr => ?_
 by_cases hk0 : ks = []
 ·subst hk0
  have hk14 : k ≠ 14 := fun h => by obtain ⟨a, h1, _⟩ := A18 hq h; cases h1
  rw [show J7 P4 (.mk k nm num ty fr lb []) = P4 (.mk k nm num ty fr lb []) by rw [J7, H1], A34 (.inl hk14)]
  exact B6e k nm num ty fr lb hk14 G cells hts hr
 have h0 : 0 < ks.length := List.length_pos_iff.2 hk0
 have hone := hr.one
 have hC := A2l _ G cells hts hr
 have hqL : X2 ks := by rw [K9] at hq; exact hq.2
 have hq1 : k = 14 → ks.length = 1 := by rw [K9] at hq; exact hq.1
 have hks : Tm.smallL ks := by rw [Tm.small] at hts; exact hts.2.2.2.2
 have hsT : ty.small := by rw [Tm.small] at hts; exact hts.2.1
 have hsF : fr.small := by rw [Tm.small] at hts; exact hts.2.2.1
 have hM : J7 P4 (.mk k nm num ty fr lb ks) = P4 (.mk k nm num ty fr lb (H1 P4 ks)) := by rw [J7]
 have hml : (H1 P4 ks).length = ks.length := by rw [A1d, List.length_map]
 have hno := @A34 k nm num ty fr lb (H1 P4 ks)
 have hye := @A66 k nm num ty fr lb (H1 P4 ks)
 rw [hM]
 clear hM
 obtain ⟨tk, tks⟩ := ty
 obtain ⟨fk, fks⟩ := fr
 simp only [show ∀ a b, (Ty.mk a b).k = a from fun _ _ => rfl] at hno hye
 obtain ⟨pt, ct, pf, cf, p, c, es, rfl, hk, hnum, hlb, hty, hfr, hsl, hkl⟩ := hr.open9
 have hn := hsl.le
 refine B6 Tryz.func88 rfl Tryz.ntmps88 Tryz.results88 rfl ?_
 intro w0
 refine tS (tR ?_)
 refine sE (C4 rfl rfl) rfl (fun b3 => ?_)
 refine sE (A6 rfl) rfl (fun b4 => ?_)
 refine sD (nS (tS (tR (sL (A4 rfl rfl) rfl rfl ?_))))
 (refine D7 rfl hC rfl rfl (fun v G1 hle1 hh => ?_); obtain ⟨cells1, F1, rfl, hs1, hn1⟩ := hh; obtain ⟨p7, c7, p8, c8, bc, c1, A, C, es1, rfl, hgb, hGb, hel, hea, hc1, hm1, hGle, hrt, hrf⟩ := B08 hs1 hn1 hle1 h0; simp only [Ty.k, Ty.ks] at hrt hrf ⊢)
 refine sE (A6 rfl) rfl (fun b11 => ?_)
 refine H6 ?_
 refine sD (nS (tS (tS (tR (sQ (qA rfl) rfl (sD (nS ?_)))))))
 refine C3 ?_
 (refine A7E [(bc, A ++ (es1.flatten ++ C))] (by simp) (by simp only [List.mem_singleton, forall_eq]; exact ⟨hgb, hGb⟩) ?_; refine M6 (fun (x : Nat × List (List Value) × IM) => ⟨[(4, .int .i64 x.1), (1, .pointer (some ⟨b3, 0, none⟩)), (2, .pointer (some ⟨b4, 0, none⟩)), (3, .pointer (some ⟨b11, 0, none⟩))], [.blk bc (A ++ ((x.2.1 ++ es1.drop x.1).flatten ++ C)), .blk b11 [.int .i64 k, .string nm, .int .i64 num, .int .i64 tk, .slice p7 tks.length c7, .int .i64 fk, .slice p8 fks.length c8, .int .i64 lb, .slice (some ⟨bc, A.length, none⟩) ks.length c1], .blk b4 [.int .i64 0, .string ⟨⟨[]⟩⟩, .int .i64 0, .int .i64 0, .slice none 0 0, .int .i64 0, .slice none 0 0, .int .i64 0, .slice none 0 0], .blk b3 [.int .i64 k, .string nm, .int .i64 num, .int .i64 tk, .slice pt tks.length ct, .int .i64 fk, .slice pf fks.length cf, .int .i64 lb, .slice p ks.length c]], x.2.2⟩) (fun x => x.1 ≤ ks.length ∧ B8 (Wo G1 [bc]) x.2.2 ∧ E5 x.2.2 ((H1 P4 ks).take x.1) x.2.1) (fun x => ks.length - x.1) (0, [], Wo G1 [bc]) ?_ ?_ ?_)
 (simp only [K4]; exact E1)
 (exact ⟨Nat.zero_le _, B8.refl _, by simp only [List.take_zero, E5]⟩)
 (rintro ⟨(i : Nat), es', Gi⟩ ⟨hi, hle, hst⟩; simp only [] at hi hle hst ⊢; have hsL : es'.length = i := (by rw [hst.len, List.length_take, hml]; omega))
 refine D5 ?_
 refine sB (M2 rfl rfl) rfl rfl (fun h33 => ?_) (fun h33 => ?_)
 refine sD (nS (qT rfl (tK (nS (tS ?_)))))
 refine C3 ?_
 (have hiK : i < ks.length := (by omega); obtain ⟨b0, o0, e0, hp0, hl0, hat0, hre0, hgb0⟩ := (hsl.mono (hGle.trans hle)).kidTm (hkl.mono (hGle.trans hle)) (i := i) hiK hiK; subst hp0; have hih := ih ks[i] (List.getElem_mem hiK) Gi e0 (A63 hqL _ (List.getElem_mem hiK)) (Tm.smallL_mem hks _ (List.getElem_mem hiK)) hre0; refine D1 D2 rfl ?_)
 refine I4 (i := 0) (l' := [tt,ff,ff,ff,ff,ff,ff,ff,ff,ff,ff]) rfl C8 (B5 rfl) rfl (by kernel_rfl) rfl rfl ?_
 refine aL 1 rfl (C7 rfl rfl) rfl ?_
 refine aP 2 rfl (qM rfl) rfl ?_
 refine aP 3 rfl (B5 rfl) rfl ?_
 refine aL 4 rfl (C7 rfl rfl) rfl ?_
 refine aP 5 rfl (qM rfl) rfl ?_
 refine aP 6 rfl (B4 (j := i) rfl rfl rfl (by omega)) rfl ?_
 refine aL 7 rfl (A3 rfl rfl (hat0 _) hl0) rfl ?_
 refine A2 8 ?_
 (refine E3 rfl rfl hih rfl rfl rfl (fun v G2 hle2 hh => ?_); obtain ⟨yc, rfl, hry⟩ := hh; have hly := hry.len; have hoy := hry.one; have hsn := E5.snoc (hst.mono hle2) hry; rw [← B1b (by omega)] at hsn)
 refine aP 9 rfl (B4 (j := i) rfl rfl rfl (by omega)) rfl ?_
 refine A2 10 ?_
 refine M3 rfl rfl rfl rfl hly hoy rfl rfl (by kernel_rfl) (by repeat first | exact Sw.here | apply Sw.there) (B1a hsL (by rw [hel]; omega) hst.all hea hly) ?_
 refine C0 (O2 (nS (tR (sQ (qM rfl) rfl ?_))))
 refine sP (M8 rfl rfl (by omega) (by omega)) rfl rfl ?_
 refine sQ (qA rfl) rfl (sD ?_)
 refine L8 (i + 1, es' ++ [yc], G2) ?_ ?_ ?_
 (simp only [K4]; exact E1)
 (dsimp only; exact ⟨by omega, hle.trans hle2, hsn⟩)
 (show ks.length - (i + 1) < ks.length - i; omega)
 refine I8 ?_
 (have hik : i = ks.length := (by omega); subst hik; rw [List.drop_of_length_le (Nat.le_of_eq hel), List.append_nil]; rw [List.take_of_length_le (Nat.le_of_eq hml)] at hst; refine A3v (bs := [(bc, A ++ (es'.flatten ++ C))]) (Pk.perm (by repeat (first | exact Pk.here | apply Pk.there))) (fun hn9 hd9 hle9 => ?_); have hro := B09 (nm := nm) hk hnum hlb hrt hrf (hle.trans hle9) (Wi.in hn9 List.mem_cons_self) (hst.mono hle9) hml hc1 hm1; have hty9 := hty.mono (hGle.trans (hle.trans hle9)); have hfr9 := hfr.mono (hGle.trans (hle.trans hle9)))
 refine tR (sQ (B5 rfl) rfl (sL (C7 rfl rfl) rfl rfl ?_))
 refine sB (Q6 rfl rfl) rfl rfl (fun h81 => ?_) (fun h81 => ?_)
 refine A0A ?_
 refine D6 (rC rfl (A4 rfl rfl)) ?_
 (rw [hno (by omega)]; exact ⟨rfl, _, rfl, hro⟩)
 refine J8 ?_
 refine sB (qE rfl rfl) rfl rfl (fun h111 => ?_) (fun h111 => ?_)
 refine U9 ?_
 refine D6 (rC rfl (A4 rfl rfl)) ?_
 (rw [hno (by omega)]; exact ⟨rfl, _, rfl, hro⟩)
 refine R0 ?_
 refine sB (qE rfl rfl) rfl rfl (fun h137 => ?_) (fun h137 => ?_)
 refine N2 ?_
 refine D6 (rC rfl (A4 rfl rfl)) ?_
 (rw [hno (by omega)]; exact ⟨rfl, _, rfl, hro⟩)
 refine sQ (L6 rfl rfl) rfl (sD (nS (cF rfl (tK (nS (tS ?_))))))
 (have hk14 : k = 14 := (by omega); subst hk14; obtain ⟨a, ha⟩ : ∃ a, H1 P4 ks = [a] := (by rcases hm9 : H1 P4 ks with _ | ⟨a, _ | _⟩; (rw [hm9] at hml; have := hq1 rfl; simp at hml; omega); exact ⟨a, rfl⟩; (rw [hm9] at hml; have := hq1 rfl; simp at hml; omega)); rw [ha] at hro hye hml; have hml1 : 1 = ks.length := hml; obtain ⟨pt9, ct9, pf9, cf9, p9, c9, es9, hcc, _, _, _, _, _, hsl9, hkl9⟩ := hro.open9; simp only [Ty.k, Ty.ks, List.cons.injEq, Value.slice.injEq, true_and, and_true] at hcc; obtain ⟨_, _, rfl, hn9, rfl⟩ := hcc; obtain ⟨bx, ox, e, hpx, hlx, hatx, hrx, hgx⟩ := hsl9.kidTm hkl9 (i := 0) (by simp) (by simp); cases hpx; have hox := hrx.one; simp only [List.getElem_cons_zero] at hrx; have hA := W1; have hc8 := A0F a (.mk fk fks) L0 lb _ e _ _ hlb hrx hfr9 (A0w _) hsF W5; refine D1 D2 rfl ?_)
 refine I4 (i := 0) (l' := [tt,ff,ff,ff,ff,ff,ff,ff,ff,ff,ff,ff,ff,ff,ff,ff,ff]) rfl C8 (B5 rfl) rfl (by kernel_rfl) rfl rfl ?_
 refine aL 1 rfl (C7 rfl rfl) rfl ?_
 refine aP 2 rfl (B4 (j := 0) rfl rfl rfl (by omega)) rfl ?_
 refine aL 3 rfl (A3 rfl rfl (hatx _) hlx) rfl ?_
 refine aP 4 rfl (B5 rfl) rfl ?_
 refine aL 5 rfl (A4 rfl rfl) rfl ?_
 refine aP 7 rfl (B5 rfl) rfl ?_
 refine aL 8 rfl (C7 rfl rfl) rfl ?_
 refine aP 11 rfl (B5 rfl) rfl ?_
 refine aL 12 rfl (A4 rfl rfl) rfl ?_
 refine aP 13 rfl (B5 rfl) rfl ?_
 refine aL 14 rfl (C7 rfl rfl) rfl ?_
 refine A2 6 ?_
 refine J0 rfl rfl ((hA _)) rfl rfl rfl ?_
 refine A2 9 ?_
 (refine E3 rfl rfl hc8 rfl rfl rfl (fun v G8 hle8 hh => ?_); obtain ⟨cu, rfl, hru⟩ := hh; have hul := hru.len; have huo := hru.one; have hc7 := A0F _ L0 (.mk tk tks) lb _ cu _ _ hlb hru (A0w _) (hty9.mono hle8) W5 hsT)
 refine A2 10 ?_
 refine J0 rfl rfl ((hA _)) rfl rfl rfl ?_
 refine A2 15 ?_
 (refine E3 rfl rfl hc7 rfl rfl rfl (fun v G7 hle7 hh => ?_); obtain ⟨cw, rfl, hrw⟩ := hh; have hwl := hrw.len; have hwo := hrw.one)
 refine A2 16 ?_
 refine M3 rfl rfl rfl rfl hwl hwo rfl rfl (by kernel_rfl) (by repeat first | exact Sw.here | apply Sw.there) (by exact C1 hwl.symm) ?_
 refine C0 (nS (tT ?_))
 refine D6 (rC rfl (A3 rfl rfl (A7 (by repeat first | exact mH | apply mT)) hwl)) ?_
 (rw [ha, hye (by omega)]; exact ⟨rfl, _, rfl, hrw⟩)
theorem B6g (t : Tm) (G : IM) (cells : List Value) (hcnt : E7 t ≤ 1000000) (hr : A8 G t cells) : Fn Tryz.prog 33 [.agg ⟨cells⟩] [] G (P8 (A1s t)) := by
 have hl := hr.len
 have hone := hr.one
 have hV := A1g t G cells (by omega) hr
 have hM := fun (h : I3 t = true) => B6f t G cells (A47 t (A1H h).1) (A1M h) hr
 have hy := @A67 t
 have hn := @B04 t
 have hcn := B02 t
 generalize A1s t = R at hy hn ⊢
 have hcy := @A1j (J7 P4 t)
 have hcf := @A1k (J7 P4 t)
 refine B6 Tryz.func33 rfl Tryz.ntmps33 Tryz.results33 rfl ?_
 intro w0
 refine tS (tR ?_)
 refine sE (C4 rfl rfl) rfl (fun b3 => ?_)
 refine sE (A6 rfl) rfl (fun b4 => ?_)
 refine sQ (qA rfl) rfl (sD (nS (tS (tS (tR ?_)))))
 refine sL (A3 rfl rfl (A7 (by repeat first | exact mH | apply mT)) hl) rfl rfl ?_
 refine F4 rfl (hV) rfl rfl (fun h12 => ?_) (fun h12 => ?_)
 refine sQ (Q5 rfl) rfl (sD (nS (cF rfl (tK (nS (tS (tR ?_)))))))
 refine sL (A3 rfl rfl (A7 (by repeat first | exact mH | apply mT)) hl) rfl rfl ?_
 (refine D7 rfl (hM (by assumption)) rfl rfl (fun v3 G3 hle3 hh => ?_); obtain ⟨cu, rfl, hru⟩ := hh; have hul := hru.len; have huo := hru.one; have hV2 := A1g _ G3 cu (by omega) hru)
 refine sE (A6 rfl) rfl (fun b23 => ?_)
 refine sS rfl rfl rfl hul huo rfl ?_ (hu := by exact C1 hul.symm)
 refine sD (nS (tS (tS (tR ?_))))
 refine sL (A3 rfl rfl (A7 (by repeat first | exact mH | apply mT)) hul) rfl rfl ?_
 refine F4 rfl (hV2) rfl rfl (fun h31 => ?_) (fun h31 => ?_)
 refine sQ (Q5 rfl) rfl (sD (nS (cF rfl (tK (nS (tS (tR ?_)))))))
 refine sL (A3 rfl rfl (A7 (by repeat first | exact mH | apply mT)) hul) rfl rfl ?_
 refine sS rfl rfl rfl hul huo rfl ?_ (hu := by exact C1 hul.symm)
 refine sQ (qA rfl) rfl (sD (nS (tT ?_)))
 refine C5 (rC rfl (A3 rfl rfl (A7 (by repeat first | exact mH | apply mT)) hul)) (rT rfl) ?_
 (exact P8.mk (by rw [hy (by assumption), hcy (by assumption)]) hru)
 refine J4 ?_
 refine C5 (rC rfl (A4 rfl rfl)) (rT rfl) ?_
 (exact P8.mk (by rw [hy (by assumption), hcf (by assumption)]) (O4 _))
 refine J4 ?_
 refine C5 (rC rfl (A4 rfl rfl)) (rT rfl) ?_
 (exact P8.mk (hn (by assumption)) (O4 _))
theorem B6h {n : Int} : decide (1 ≤ A0p n) = W2 n := by
 unfold A0p W2
 have h1 : S4 n 1 99 = decide (1 ≤ n ∧ n ≤ 99) := rfl
 have h2 : S4 n (-99) (-1) = decide (-99 ≤ n ∧ n ≤ -1) := rfl
 rw [h1, h2, Bool.eq_iff_iff, Bool.or_eq_true, decide_eq_true_eq, decide_eq_true_eq, decide_eq_true_eq]
 repeat' split
 all_goals omega
theorem B6i (n : Int) (G : IM) : Fn Tryz.prog 92 [.int .i64 n] [] G (J3 (.bool (W2 n)) G) := by
 rw [← B6h]
 refine B6 Tryz.func92 rfl Tryz.ntmps92 Tryz.results92 rfl ?_
 intro w0
 refine F8 ?_
 refine E8 rfl (A8k n _) rfl rfl ?_
 refine sB (A0G rfl rfl) rfl rfl (fun h10 => ?_) (fun h10 => ?_)
 refine sQ (qA rfl) rfl (sD (nS (tT (D6 (rT rfl) ?_))))
 (exact ⟨rfl, by rw [decide_eq_true (by omega)], rfl⟩)
 refine sQ (qA rfl) rfl (sD (nS (tT (D6 (rT rfl) ?_))))
 (exact ⟨rfl, by rw [decide_eq_false (by omega)], rfl⟩)
theorem B6j (t : Tm) (l : Int) (G : IM) (cells : List Value) (hl64 : E9 l) (hcnt : E7 t ≤ 1000000) (hr : A8 G t cells) : Fn Tryz.prog 36 [.agg ⟨cells⟩, .int .i64 l] [] G (P8 (A0X t l)) := by
 have hl := hr.len
 have hone := hr.one
 have hC := B07 t G cells (by omega) hr
 have hsv := fun (h : I3 t = true) => A1M h
 have hy := @A68 t l
 have hlb := @A69 t l
 have hn := @A7a t l
 have hsT := @A7b t
 have hvT := @A3f t
 generalize A0X t l = R at hy hn hlb ⊢
 generalize R3 t = T at hC hy hn hlb hsT hvT
 refine B6 Tryz.func36 rfl Tryz.ntmps36 Tryz.results36 rfl ?_
 intro w0
 refine tS (tR ?_)
 refine sE (C4 rfl rfl) rfl (fun b3 => ?_)
 refine sE (A6 rfl) rfl (fun b4 => ?_)
 refine sQ (qA rfl) rfl (sD (nS (tS (tR ?_))))
 refine sL (A3 rfl rfl (A7 (by repeat first | exact mH | apply mT)) hl) rfl rfl ?_
 focus (refine D7 rfl hC rfl rfl (fun v G1 hle1 hh => ?_); obtain ⟨cT, T', rfl, hrT, hTT⟩ := hh; obtain ⟨pT, dT, eT, rfl, _⟩ := hrT.open; have hr1 := hr.mono hle1; have hLb := B6i l G1; rcases T with _ | T; rotate_left; obtain rfl := hTT _ rfl; have hC2 := A2l t G1 cells (hsv (hvT rfl).1) hr1; have hsT1 := hsT rfl; rotate_left)
 refine H9 ?_
 refine sE (A6 rfl) rfl (fun b15 => ?_)
 refine A2h ?_
 refine C5 (rC rfl (A4 rfl rfl)) (rT rfl) ?_
 (exact P8.mk (hn rfl) (O4 _))
 refine H9 ?_
 refine sE (A6 rfl) rfl (fun b47 => ?_)
 refine J6 ?_
 refine F4 rfl (hLb) rfl rfl (fun h59 => ?_) (fun h59 => ?_)
 refine F8 ?_
 refine D1 D2 rfl ?_
 refine N8 (i := 0) (l' := [tt,ff,ff,ff,ff,ff,ff,ff,ff,ff,ff,ff]) rfl C8 (A3 rfl rfl (A7 (by repeat first | exact mH | apply mT)) hl) rfl (by kernel_rfl) rfl rfl ?_
 refine aL 2 rfl (A4 rfl rfl) rfl ?_
 refine aP 4 rfl (qM rfl) rfl ?_
 refine aL 7 rfl (A4 rfl rfl) rfl ?_
 refine aP 8 rfl (qM rfl) rfl ?_
 refine Q0 (j := 1) (j' := 10) (by kernel_rfl) ?_ ?_
 (refine E3 rfl rfl hC2 rfl rfl rfl (fun v G2 hle2 hh => ?_); obtain ⟨cu0, F0, rfl, hs0, _⟩ := hh; have hr2 := hs0.R.mono (C2.le _ _); have hl2 := hr2.len; have ho2 := hr2.one; have hrT2 := hrT.mono hle2; have hc3 := A0F t T' L0 l G2 cu0 _ _ hl64 hr2 hrT2 (A0w _) hsT1 W5)
 refine Q0 (j := 3) (j' := 10) (by kernel_rfl) ?_ ?_
 refine J0 rfl rfl ((W1 _)) rfl rfl rfl ?_
 refine Q0 (j := 5) (j' := 10) (by kernel_rfl) ?_ ?_
 (refine E3 rfl rfl hc3 rfl rfl rfl (fun v G3 hle3 hh => ?_); obtain ⟨cu, rfl, hru⟩ := hh; have hul := hru.len; have huo := hru.one; have hc4 := A0F _ L0 T' l G3 cu _ _ hl64 hru (A0w _) (hrT2.mono hle3) W5 hsT1)
 refine Q0 (j := 6) (j' := 10) (by kernel_rfl) ?_ ?_
 refine J0 rfl rfl ((W1 _)) rfl rfl rfl ?_
 refine Q0 (j := 9) (j' := 10) (by kernel_rfl) ?_ ?_
 (refine E3 rfl rfl hc4 rfl rfl rfl (fun v G4 hle4 hh => ?_); obtain ⟨cw, rfl, hrw⟩ := hh; have hwl := hrw.len; have hwo := hrw.one; have hV := A1g _ G4 cw (by rw [A0i, A0i]; omega) hrw)
 refine A2 10 ?_
 (refine D9 rfl (A6 rfl) rfl rfl ?_; rintro _ ⟨b85, rfl⟩)
 refine A2 11 ?_
 refine M3 rfl rfl rfl rfl hwl hwo rfl rfl (by kernel_rfl) (by repeat first | exact Sw.here | apply Sw.there) (by exact C1 hwl.symm) ?_
 refine C0 (nS (tS (tS (tR ?_))))
 refine sL (A3 rfl rfl (A7 (by repeat first | exact mH | apply mT)) hwl) rfl rfl ?_
 refine F4 rfl (hV) rfl rfl (fun h94 => ?_) (fun h94 => ?_)
 refine sQ (Q5 rfl) rfl (sD (nS (cF rfl (tK (nS (tS (tR ?_)))))))
 refine sL (A3 rfl rfl (A7 (by repeat first | exact mH | apply mT)) hwl) rfl rfl ?_
 refine sS rfl rfl rfl hwl hwo rfl ?_ (hu := by exact C1 hwl.symm)
 refine sQ (qA rfl) rfl (sD (nS (tT ?_)))
 refine C5 (rC rfl (A3 rfl rfl (A7 (by repeat first | exact mH | apply mT)) hwl)) (rT rfl) ?_
 (exact P8.mk (by rw [hy rfl (by assumption), A1j (by assumption)]) hrw)
 refine J4 ?_
 refine C5 (rC rfl (A4 rfl rfl)) (rT rfl) ?_
 (exact P8.mk (by rw [hy rfl (by assumption), A1k (by assumption)]) (O4 _))
 (refine D9 rfl (A6 rfl) rfl rfl ?_; rintro _ ⟨b126, rfl⟩)
 refine A2 9 ?_
 (refine E3 rfl rfl hc4 rfl rfl rfl (fun v G4 hle4 hh => ?_); obtain ⟨cw, rfl, hrw⟩ := hh; have hwl := hrw.len; have hwo := hrw.one; have hV := A1g _ G4 cw (by rw [A0i, A0i]; omega) hrw)
 refine A2 11 ?_
 refine M3 rfl rfl rfl rfl hwl hwo rfl rfl (by kernel_rfl) (by repeat first | exact Sw.here | apply Sw.there) (by exact C1 hwl.symm) ?_
 refine C0 (nS (tS (tS (tR ?_))))
 refine sL (A3 rfl rfl (A7 (by repeat first | exact mH | apply mT)) hwl) rfl rfl ?_
 refine F4 rfl (hV) rfl rfl (fun h137 => ?_) (fun h137 => ?_)
 refine sQ (Q5 rfl) rfl (sD (nS (cF rfl (tK (nS (tS (tR ?_)))))))
 refine sL (A3 rfl rfl (A7 (by repeat first | exact mH | apply mT)) hwl) rfl rfl ?_
 refine sS rfl rfl rfl hwl hwo rfl ?_ (hu := by exact C1 hwl.symm)
 refine sQ (qA rfl) rfl (sD (nS (tT ?_)))
 refine C5 (rC rfl (A3 rfl rfl (A7 (by repeat first | exact mH | apply mT)) hwl)) (rT rfl) ?_
 (exact P8.mk (by rw [hy rfl (by assumption), A1j (by assumption)]) hrw)
 refine J4 ?_
 refine C5 (rC rfl (A4 rfl rfl)) (rT rfl) ?_
 (exact P8.mk (by rw [hy rfl (by assumption), A1k (by assumption)]) (O4 _))
 (refine D9 rfl (A6 rfl) rfl rfl ?_; rintro _ ⟨b169, rfl⟩)
 refine A2 6 ?_
 refine J0 rfl rfl ((W1 _)) rfl rfl rfl ?_
 refine A2 9 ?_
 (refine E3 rfl rfl hc4 rfl rfl rfl (fun v G4 hle4 hh => ?_); obtain ⟨cw, rfl, hrw⟩ := hh; have hwl := hrw.len; have hwo := hrw.one; have hV := A1g _ G4 cw (by rw [A0i, A0i]; omega) hrw)
 refine A2 11 ?_
 refine M3 rfl rfl rfl rfl hwl hwo rfl rfl (by kernel_rfl) (by repeat first | exact Sw.here | apply Sw.there) (by exact C1 hwl.symm) ?_
 refine C0 (nS (tS (tS (tR ?_))))
 refine sL (A3 rfl rfl (A7 (by repeat first | exact mH | apply mT)) hwl) rfl rfl ?_
 refine F4 rfl (hV) rfl rfl (fun h182 => ?_) (fun h182 => ?_)
 refine sQ (Q5 rfl) rfl (sD (nS (cF rfl (tK (nS (tS (tR ?_)))))))
 refine sL (A3 rfl rfl (A7 (by repeat first | exact mH | apply mT)) hwl) rfl rfl ?_
 refine sS rfl rfl rfl hwl hwo rfl ?_ (hu := by exact C1 hwl.symm)
 refine sQ (qA rfl) rfl (sD (nS (tT ?_)))
 refine C5 (rC rfl (A3 rfl rfl (A7 (by repeat first | exact mH | apply mT)) hwl)) (rT rfl) ?_
 (exact P8.mk (by rw [hy rfl (by assumption), A1j (by assumption)]) hrw)
 refine J4 ?_
 refine C5 (rC rfl (A4 rfl rfl)) (rT rfl) ?_
 (exact P8.mk (by rw [hy rfl (by assumption), A1k (by assumption)]) (O4 _))
 (refine D9 rfl (A6 rfl) rfl rfl ?_; rintro _ ⟨b214, rfl⟩)
 refine A2 5 ?_
 (refine E3 rfl rfl hc3 rfl rfl rfl (fun v G3 hle3 hh => ?_); obtain ⟨cu, rfl, hru⟩ := hh; have hul := hru.len; have huo := hru.one; have hc4 := A0F _ L0 T' l G3 cu _ _ hl64 hru (A0w _) (hrT2.mono hle3) W5 hsT1)
 refine A2 6 ?_
 refine J0 rfl rfl ((W1 _)) rfl rfl rfl ?_
 refine A2 9 ?_
 (refine E3 rfl rfl hc4 rfl rfl rfl (fun v G4 hle4 hh => ?_); obtain ⟨cw, rfl, hrw⟩ := hh; have hwl := hrw.len; have hwo := hrw.one; have hV := A1g _ G4 cw (by rw [A0i, A0i]; omega) hrw)
 refine A2 11 ?_
 refine M3 rfl rfl rfl rfl hwl hwo rfl rfl (by kernel_rfl) (by repeat first | exact Sw.here | apply Sw.there) (by exact C1 hwl.symm) ?_
 refine C0 (nS (tS (tS (tR ?_))))
 refine sL (A3 rfl rfl (A7 (by repeat first | exact mH | apply mT)) hwl) rfl rfl ?_
 refine F4 rfl (hV) rfl rfl (fun h229 => ?_) (fun h229 => ?_)
 refine sQ (Q5 rfl) rfl (sD (nS (cF rfl (tK (nS (tS (tR ?_)))))))
 refine sL (A3 rfl rfl (A7 (by repeat first | exact mH | apply mT)) hwl) rfl rfl ?_
 refine sS rfl rfl rfl hwl hwo rfl ?_ (hu := by exact C1 hwl.symm)
 refine sQ (qA rfl) rfl (sD (nS (tT ?_)))
 refine C5 (rC rfl (A3 rfl rfl (A7 (by repeat first | exact mH | apply mT)) hwl)) (rT rfl) ?_
 (exact P8.mk (by rw [hy rfl (by assumption), A1j (by assumption)]) hrw)
 refine J4 ?_
 refine C5 (rC rfl (A4 rfl rfl)) (rT rfl) ?_
 (exact P8.mk (by rw [hy rfl (by assumption), A1k (by assumption)]) (O4 _))
 (refine D9 rfl (A6 rfl) rfl rfl ?_; rintro _ ⟨b261, rfl⟩)
 refine A2 3 ?_
 refine J0 rfl rfl ((W1 _)) rfl rfl rfl ?_
 refine A2 5 ?_
 (refine E3 rfl rfl hc3 rfl rfl rfl (fun v G3 hle3 hh => ?_); obtain ⟨cu, rfl, hru⟩ := hh; have hul := hru.len; have huo := hru.one; have hc4 := A0F _ L0 T' l G3 cu _ _ hl64 hru (A0w _) (hrT2.mono hle3) W5 hsT1)
 refine A2 6 ?_
 refine J0 rfl rfl ((W1 _)) rfl rfl rfl ?_
 refine A2 9 ?_
 (refine E3 rfl rfl hc4 rfl rfl rfl (fun v G4 hle4 hh => ?_); obtain ⟨cw, rfl, hrw⟩ := hh; have hwl := hrw.len; have hwo := hrw.one; have hV := A1g _ G4 cw (by rw [A0i, A0i]; omega) hrw)
 refine A2 11 ?_
 refine M3 rfl rfl rfl rfl hwl hwo rfl rfl (by kernel_rfl) (by repeat first | exact Sw.here | apply Sw.there) (by exact C1 hwl.symm) ?_
 refine C0 (nS (tS (tS (tR ?_))))
 refine sL (A3 rfl rfl (A7 (by repeat first | exact mH | apply mT)) hwl) rfl rfl ?_
 refine F4 rfl (hV) rfl rfl (fun h278 => ?_) (fun h278 => ?_)
 refine sQ (Q5 rfl) rfl (sD (nS (cF rfl (tK (nS (tS (tR ?_)))))))
 refine sL (A3 rfl rfl (A7 (by repeat first | exact mH | apply mT)) hwl) rfl rfl ?_
 refine sS rfl rfl rfl hwl hwo rfl ?_ (hu := by exact C1 hwl.symm)
 refine sQ (qA rfl) rfl (sD (nS (tT ?_)))
 refine C5 (rC rfl (A3 rfl rfl (A7 (by repeat first | exact mH | apply mT)) hwl)) (rT rfl) ?_
 (exact P8.mk (by rw [hy rfl (by assumption), A1j (by assumption)]) hrw)
 refine J4 ?_
 refine C5 (rC rfl (A4 rfl rfl)) (rT rfl) ?_
 (exact P8.mk (by rw [hy rfl (by assumption), A1k (by assumption)]) (O4 _))
 (refine D9 rfl (A6 rfl) rfl rfl ?_; rintro _ ⟨b310, rfl⟩)
 refine A2 1 ?_
 (refine E3 rfl rfl hC2 rfl rfl rfl (fun v G2 hle2 hh => ?_); obtain ⟨cu0, F0, rfl, hs0, _⟩ := hh; have hr2 := hs0.R.mono (C2.le _ _); have hl2 := hr2.len; have ho2 := hr2.one; have hrT2 := hrT.mono hle2; have hc3 := A0F t T' L0 l G2 cu0 _ _ hl64 hr2 hrT2 (A0w _) hsT1 W5)
 refine A2 3 ?_
 refine J0 rfl rfl ((W1 _)) rfl rfl rfl ?_
 refine A2 5 ?_
 (refine E3 rfl rfl hc3 rfl rfl rfl (fun v G3 hle3 hh => ?_); obtain ⟨cu, rfl, hru⟩ := hh; have hul := hru.len; have huo := hru.one; have hc4 := A0F _ L0 T' l G3 cu _ _ hl64 hru (A0w _) (hrT2.mono hle3) W5 hsT1)
 refine A2 6 ?_
 refine J0 rfl rfl ((W1 _)) rfl rfl rfl ?_
 refine A2 9 ?_
 (refine E3 rfl rfl hc4 rfl rfl rfl (fun v G4 hle4 hh => ?_); obtain ⟨cw, rfl, hrw⟩ := hh; have hwl := hrw.len; have hwo := hrw.one; have hV := A1g _ G4 cw (by rw [A0i, A0i]; omega) hrw)
 refine A2 11 ?_
 refine M3 rfl rfl rfl rfl hwl hwo rfl rfl (by kernel_rfl) (by repeat first | exact Sw.here | apply Sw.there) (by exact C1 hwl.symm) ?_
 refine C0 (nS (tS (tS (tR ?_))))
 refine sL (A3 rfl rfl (A7 (by repeat first | exact mH | apply mT)) hwl) rfl rfl ?_
 refine F4 rfl (hV) rfl rfl (fun h329 => ?_) (fun h329 => ?_)
 refine sQ (Q5 rfl) rfl (sD (nS (cF rfl (tK (nS (tS (tR ?_)))))))
 refine sL (A3 rfl rfl (A7 (by repeat first | exact mH | apply mT)) hwl) rfl rfl ?_
 refine sS rfl rfl rfl hwl hwo rfl ?_ (hu := by exact C1 hwl.symm)
 refine sQ (qA rfl) rfl (sD (nS (tT ?_)))
 refine C5 (rC rfl (A3 rfl rfl (A7 (by repeat first | exact mH | apply mT)) hwl)) (rT rfl) ?_
 (exact P8.mk (by rw [hy rfl (by assumption), A1j (by assumption)]) hrw)
 refine J4 ?_
 refine C5 (rC rfl (A4 rfl rfl)) (rT rfl) ?_
 (exact P8.mk (by rw [hy rfl (by assumption), A1k (by assumption)]) (O4 _))
 refine O0 ?_
 refine C5 (rC rfl (A4 rfl rfl)) (rT rfl) ?_
 (exact P8.mk (hlb rfl (by assumption)) (O4 _))
def RlP (r : Tm × Int) : IM → Value → List A5 → Prop := L2 fun G' v => ∃ cells, v = .tuple ⟨[.agg ⟨cells⟩, .int .i64 r.2]⟩ ∧ A8 G' r.1 cells
theorem A35 {e : Tm} {a b : Ty} {l : Int} {N : Nat} (h : e.fit N) (ha : a.small) (hb : b.small) : (L1 e a b l).fit (N + 1) := ⟨A3M h.1 ha hb, by rw [A0i]; exact Nat.succ_le_succ h.2⟩
theorem A2F {e : Tm} {N M : Nat} (h : e.fit N) (hm : N ≤ M) : e.fit M := ⟨h.1, Nat.le_trans h.2 hm⟩
theorem A7c (br : Nat) (pb : Option Addr) (nb cb : Nat) (bs : List UInt8) (hnb : nb ≤ 2000) (p : Nat) (G : IM) (hb : Sl G pb nb cb 1 (N5 bs)) (hp : p + 9200000 < 1099511627776) :
  Fn Tryz.prog 81 [.pointer (some ⟨br, 0, none⟩)] [rd br pb nb cb p] G
   (Z6 br pb nb cb p 9200000 (fun G' v => ∃ e cells, v = .agg ⟨cells⟩ ∧ A8 G' e cells ∧ e.fit 103)) := by
 refine B6 Tryz.func81 rfl Tryz.ntmps81 Tryz.results81 rfl ?_
 intro w0
 refine tS (tR ?_)
 refine sE (A6 rfl) rfl (fun b3 => ?_)
 refine sD (nS (tS (tR (sQ (qM rfl) rfl ?_))))
 (have hcall := B5G br pb nb cb bs hnb p _ hb (by omega); refine H5 rfl hcall (Pk.perm (by repeat (first | exact Pk.here | apply Pk.there))) rfl rfl (fun v G1 outs hle1 hh => ?_); obtain ⟨p1, hp11, hp12, rfl, e0, ce0, rfl, hr0, hf0⟩ := hh; replace hb := hb.mono hle1; have hl0 := hr0.len; have ho0 := hr0.one; have hT0 := B07 e0 _ ce0 (by have := hf0.2; omega) hr0)
 refine sE (A6 rfl) rfl (fun b10 => ?_)
 refine sS rfl rfl rfl hl0 ho0 rfl ?_ (hu := by exact C1 hl0.symm)
 refine sD (nS (tS (tR ?_)))
 refine sL (A3 rfl rfl (A7 (by repeat first | exact mH | apply mT)) hl0) rfl rfl ?_
 focus (refine D7 rfl hT0 rfl rfl (fun v G2 hle2 hh => ?_); obtain ⟨cT, T, rfl, hrT, hTT⟩ := hh; obtain ⟨pT, dT, eT, rfl, _⟩ := hrT.open; replace hb := hb.mono hle2; replace hr0 := hr0.mono hle2; have hsT := @A7b e0; rcases hTY : R3 e0 with _ | T2; rotate_left; obtain rfl := hTT _ hTY; replace hsT := hsT hTY; rotate_left)
 refine H9 ?_
 refine sE (A6 rfl) rfl (fun b21 => ?_)
 refine Y4 ?_
 refine tK (nS (tS (tR (sQ (qM rfl) rfl ?_))))
 refine sL (A3 rfl rfl (A7 (by repeat first | exact mH | apply mT)) hl0) rfl rfl ?_
 (have hcall := A32 br pb nb cb bs hnb p1 _ hb (by omega) _ ce0 103 (A2F hf0 (by omega)) hr0; refine H5 rfl hcall (Pk.perm (by repeat (first | exact Pk.here | apply Pk.there))) rfl rfl (fun v Gn outs hle9 hh => ?_); obtain ⟨p9, hp91, hp92, rfl, e, ce, rfl, hre, hfe⟩ := hh; have hl9 := hre.len; have ho9 := hre.one)
 refine P5 rfl rfl rfl (by assumption) (by assumption) rfl (by repeat first | exact Sw.here | apply Sw.there) (by exact C1 (by symm; assumption)) ?_
 refine sD (nS (tT ?_))
 refine I1 (outs := [rd br pb nb cb p9]) (rC rfl (A3 rfl rfl (A7 (by repeat first | exact mH | apply mT)) hl9)) (by repeat (first | exact A1.nil | refine A1.cons Pk.here ?_ | refine A1.cons (Pk.there Pk.here) ?_ | refine A1.cons (Pk.there (Pk.there Pk.here)) ?_ | apply A1.drop)) ?_
 (exact ⟨p9, by omega, by omega, rfl, e, ce, rfl, hre, hfe⟩)
 refine H9 ?_
 refine sE (A6 rfl) rfl (fun b68 => ?_)
 refine I8 ?_
 (refine H5 rfl (T4 _ br pb nb cb p1 bs 2 hb hnb (by omega)) (Pk.perm (by repeat (first | exact Pk.here | apply Pk.there))) rfl rfl (fun v G3 outs hle3 hh => ?_); obtain ⟨rfl, rfl, j1, rfl, hj1, hk1⟩ := hh)
 refine sB (qE rfl rfl) rfl rfl (fun h80 => ?_) (fun h80 => ?_)
 refine sQ (K1 rfl rfl) rfl (sD (nS (qT rfl (tR ?_))))
 refine sL (A3 rfl rfl (A7 (by repeat first | exact mH | apply mT)) hl0) rfl rfl ?_
 refine sL (A4 rfl rfl) rfl rfl (sL (A4 rfl rfl) rfl rfl ?_)
 (refine D7 rfl (A0F e0 T T 61 _ ce0 _ _ ⟨by decide, by decide⟩ hr0 hrT hrT hsT hsT) rfl rfl (fun v G4 hle4 hh => ?_); obtain ⟨ce1, rfl, hr1⟩ := hh; have hl1 := hr1.len; have ho1 := hr1.one; replace hb := hb.mono hle4; replace hrT := hrT.mono hle4; have hf1 := A35 (l := 61) hf0 hsT hsT)
 refine P5 rfl rfl rfl hl1 ho1 rfl (by repeat first | exact Sw.here | apply Sw.there) (by exact C1 (by omega)) ?_
 refine F8 ?_
 (refine H5 rfl (T4 _ br pb nb cb (p1 + 1) bs 2 hb hnb (by omega)) (Pk.perm (by repeat (first | exact Pk.here | apply Pk.there))) rfl rfl (fun v G5 outs hle5 hh => ?_); obtain ⟨rfl, rfl, j2, rfl, hj2, hk2⟩ := hh)
 refine sB (qE rfl rfl) rfl rfl (fun h100 => ?_) (fun h100 => ?_)
 refine sQ (K1 rfl rfl) rfl (sD (nS (qT rfl ?_)))
 refine D1 D2 rfl ?_
 refine N8 (i := 0) (l' := [tt,ff,ff,ff,ff,ff,ff,ff]) rfl C8 (A3 rfl rfl (A7 (by repeat first | exact mH | apply mT)) hl1) rfl (by kernel_rfl) rfl rfl ?_
 refine aL 1 rfl (A4 rfl rfl) rfl ?_
 refine aL 5 rfl (A4 rfl rfl) rfl ?_
 refine A2 2 ?_
 refine J0 rfl rfl ((W1 _)) rfl rfl rfl ?_
 refine A2 3 ?_
 (refine E3 rfl rfl (A0F _ T L0 62 _ ce1 _ _ ⟨by decide, by decide⟩ hr1 hrT (A0w _) hsT W5) rfl rfl rfl (fun v G6 hle6 hh => ?_); obtain ⟨ce2, rfl, hr2⟩ := hh; have hl2 := hr2.len; have ho2 := hr2.one; replace hb := hb.mono hle6; replace hrT := hrT.mono hle6; have hf2 := A2F (M := 102) (A35 (l := 62) hf1 hsT W5) (by omega))
 refine A2 4 ?_
 refine J0 rfl rfl ((W1 _)) rfl rfl rfl ?_
 refine A2 6 ?_
 (refine E3 rfl rfl (A0F _ L0 T 63 _ ce2 _ _ ⟨by decide, by decide⟩ hr2 (A0w _) hrT W5 hsT) rfl rfl rfl (fun v G7 hle7 hh => ?_); obtain ⟨ce3, rfl, hr3⟩ := hh; have hl3 := hr3.len; have ho3 := hr3.one; replace hb := hb.mono hle7; have hf3 := A35 (l := 63) hf2 W5 hsT)
 refine A2 7 ?_
 refine M3 rfl rfl rfl rfl hl3 ho3 rfl rfl (by kernel_rfl) (by repeat first | exact Sw.here | apply Sw.there) (by exact C1 (by omega)) ?_
 refine C0 (nS (tS (tR (sQ (qM rfl) rfl ?_))))
 refine sL (A3 rfl rfl (A7 (by repeat first | exact mH | apply mT)) hl3) rfl rfl ?_
 (have hcall := A32 br pb nb cb bs hnb (p1 + 1 + 1) _ hb (by omega) _ ce3 103 (A2F hf3 (by omega)) hr3; refine H5 rfl hcall (Pk.perm (by repeat (first | exact Pk.here | apply Pk.there))) rfl rfl (fun v Gn outs hle9 hh => ?_); obtain ⟨p9, hp91, hp92, rfl, e, ce, rfl, hre, hfe⟩ := hh; have hl9 := hre.len; have ho9 := hre.one)
 refine P5 rfl rfl rfl (by assumption) (by assumption) rfl (by repeat first | exact Sw.here | apply Sw.there) (by exact C1 (by symm; assumption)) ?_
 refine sD (nS (tT ?_))
 refine I1 (outs := [rd br pb nb cb p9]) (rC rfl (A3 rfl rfl (A7 (by repeat first | exact mH | apply mT)) hl9)) (by repeat (first | exact A1.nil | refine A1.cons Pk.here ?_ | refine A1.cons (Pk.there Pk.here) ?_ | refine A1.cons (Pk.there (Pk.there Pk.here)) ?_ | apply A1.drop)) ?_
 (exact ⟨p9, by omega, by omega, rfl, e, ce, rfl, hre, hfe⟩)
 refine D8 ?_
 refine sL (A3 rfl rfl (A7 (by repeat first | exact mH | apply mT)) hl1) rfl rfl ?_
 (have hcall := A32 br pb nb cb bs hnb (p1 + 1 + 1) _ hb (by omega) _ ce1 103 (A2F hf1 (by omega)) hr1; refine H5 rfl hcall (Pk.perm (by repeat (first | exact Pk.here | apply Pk.there))) rfl rfl (fun v Gn outs hle9 hh => ?_); obtain ⟨p9, hp91, hp92, rfl, e, ce, rfl, hre, hfe⟩ := hh; have hl9 := hre.len; have ho9 := hre.one)
 refine P5 rfl rfl rfl (by assumption) (by assumption) rfl (by repeat first | exact Sw.here | apply Sw.there) (by exact C1 (by symm; assumption)) ?_
 refine sD (nS (tT ?_))
 refine I1 (outs := [rd br pb nb cb p9]) (rC rfl (A3 rfl rfl (A7 (by repeat first | exact mH | apply mT)) hl9)) (by repeat (first | exact A1.nil | refine A1.cons Pk.here ?_ | refine A1.cons (Pk.there Pk.here) ?_ | refine A1.cons (Pk.there (Pk.there Pk.here)) ?_ | apply A1.drop)) ?_
 (exact ⟨p9, by omega, by omega, rfl, e, ce, rfl, hre, hfe⟩)
 refine N2 ?_
 (refine H5 rfl (T4 _ br pb nb cb (p1 + 1) bs 2 hb hnb (by omega)) (Pk.perm (by repeat (first | exact Pk.here | apply Pk.there))) rfl rfl (fun v G5 outs hle5 hh => ?_); obtain ⟨rfl, rfl, j2, rfl, hj2, hk2⟩ := hh)
 refine sB (qE rfl rfl) rfl rfl (fun h162 => ?_) (fun h162 => ?_)
 refine sQ (K1 rfl rfl) rfl (sD (nS (qT rfl ?_)))
 refine D1 D2 rfl ?_
 refine N8 (i := 0) (l' := [tt,ff,ff,ff,ff,ff,ff,ff]) rfl C8 (A3 rfl rfl (A7 (by repeat first | exact mH | apply mT)) hl0) rfl (by kernel_rfl) rfl rfl ?_
 refine aL 1 rfl (A4 rfl rfl) rfl ?_
 refine aL 5 rfl (A4 rfl rfl) rfl ?_
 refine A2 2 ?_
 refine J0 rfl rfl ((W1 _)) rfl rfl rfl ?_
 refine A2 3 ?_
 (refine E3 rfl rfl (A0F e0 T L0 62 _ ce0 _ _ ⟨by decide, by decide⟩ hr0 hrT (A0w _) hsT W5) rfl rfl rfl (fun v G6 hle6 hh => ?_); obtain ⟨ce2, rfl, hr2⟩ := hh; have hl2 := hr2.len; have ho2 := hr2.one; replace hb := hb.mono hle6; replace hrT := hrT.mono hle6; have hf2 := A2F (M := 102) (A35 (l := 62) hf0 hsT W5) (by omega))
 refine A2 4 ?_
 refine J0 rfl rfl ((W1 _)) rfl rfl rfl ?_
 refine A2 6 ?_
 (refine E3 rfl rfl (A0F _ L0 T 63 _ ce2 _ _ ⟨by decide, by decide⟩ hr2 (A0w _) hrT W5 hsT) rfl rfl rfl (fun v G7 hle7 hh => ?_); obtain ⟨ce3, rfl, hr3⟩ := hh; have hl3 := hr3.len; have ho3 := hr3.one; replace hb := hb.mono hle7; have hf3 := A35 (l := 63) hf2 W5 hsT)
 refine A2 7 ?_
 refine M3 rfl rfl rfl rfl hl3 ho3 rfl rfl (by kernel_rfl) (by repeat first | exact Sw.here | apply Sw.there) (by exact C1 (by omega)) ?_
 refine C0 (nS (tS (tR (sQ (qM rfl) rfl ?_))))
 refine sL (A3 rfl rfl (A7 (by repeat first | exact mH | apply mT)) hl3) rfl rfl ?_
 (have hcall := A32 br pb nb cb bs hnb (p1 + 1 + 1) _ hb (by omega) _ ce3 103 (A2F hf3 (by omega)) hr3; refine H5 rfl hcall (Pk.perm (by repeat (first | exact Pk.here | apply Pk.there))) rfl rfl (fun v Gn outs hle9 hh => ?_); obtain ⟨p9, hp91, hp92, rfl, e, ce, rfl, hre, hfe⟩ := hh; have hl9 := hre.len; have ho9 := hre.one)
 refine P5 rfl rfl rfl (by assumption) (by assumption) rfl (by repeat first | exact Sw.here | apply Sw.there) (by exact C1 (by symm; assumption)) ?_
 refine sD (nS (tT ?_))
 refine I1 (outs := [rd br pb nb cb p9]) (rC rfl (A3 rfl rfl (A7 (by repeat first | exact mH | apply mT)) hl9)) (by repeat (first | exact A1.nil | refine A1.cons Pk.here ?_ | refine A1.cons (Pk.there Pk.here) ?_ | refine A1.cons (Pk.there (Pk.there Pk.here)) ?_ | apply A1.drop)) ?_
 (exact ⟨p9, by omega, by omega, rfl, e, ce, rfl, hre, hfe⟩)
 refine D8 ?_
 refine sL (A3 rfl rfl (A7 (by repeat first | exact mH | apply mT)) hl0) rfl rfl ?_
 (have hcall := A32 br pb nb cb bs hnb (p1 + 1 + 1) _ hb (by omega) _ ce0 103 (A2F hf0 (by omega)) hr0; refine H5 rfl hcall (Pk.perm (by repeat (first | exact Pk.here | apply Pk.there))) rfl rfl (fun v Gn outs hle9 hh => ?_); obtain ⟨p9, hp91, hp92, rfl, e, ce, rfl, hre, hfe⟩ := hh; have hl9 := hre.len; have ho9 := hre.one)
 refine P5 rfl rfl rfl (by assumption) (by assumption) rfl (by repeat first | exact Sw.here | apply Sw.there) (by exact C1 (by symm; assumption)) ?_
 refine sD (nS (tT ?_))
 refine I1 (outs := [rd br pb nb cb p9]) (rC rfl (A3 rfl rfl (A7 (by repeat first | exact mH | apply mT)) hl9)) (by repeat (first | exact A1.nil | refine A1.cons Pk.here ?_ | refine A1.cons (Pk.there Pk.here) ?_ | refine A1.cons (Pk.there (Pk.there Pk.here)) ?_ | apply A1.drop)) ?_
 (exact ⟨p9, by omega, by omega, rfl, e, ce, rfl, hre, hfe⟩)
def B1c (N : Nat) : IM → Value → List A5 → Prop := L2 fun G' v => ∃ e cells, v = .agg ⟨cells⟩ ∧ A8 G' e cells ∧ e.fit N
theorem B6k (G : IM) (q : Option Addr) (n c : Nat) (bs : List UInt8) (hb : Sl G q n c 1 (N5 bs)) : Fn Tryz.prog 27 [.slice q n c] [] G (B1c 103) := by
 refine B6 Tryz.func27 rfl Tryz.ntmps27 Tryz.results27 rfl ?_
 intro w0
 refine tS (tR ?_)
 refine sE (A6 rfl) rfl (fun b3 => ?_)
 refine sD (nS (tS (tR (sQ (qM rfl) rfl ?_))))
 (refine H5 rfl (A50 G q n c bs hb) (List.Perm.refl _) rfl rfl (fun v G1 outs hle1 hh => ?_); obtain ⟨rfl, br, pb, nb, cb, bs', rfl, rfl, hnb, hb'⟩ := hh)
 (have hcall := A7c br pb nb cb bs' hnb 0 _ hb' (by omega); refine H5 rfl hcall (Pk.perm (by repeat (first | exact Pk.here | apply Pk.there))) rfl rfl (fun v Gn outs hle1 hh => ?_); obtain ⟨p1, hp11, hp12, rfl, e, ce, rfl, hre, hfe⟩ := hh; have hl1 := hre.len; have ho1 := hre.one)
 refine P5 rfl rfl rfl (by assumption) (by assumption) rfl (by repeat first | exact Sw.here | apply Sw.there) (by exact C1 (by symm; assumption)) ?_
 refine sD (nS (tT ?_))
 refine D6 (rC rfl (A3 rfl rfl (A7 (by repeat first | exact mH | apply mT)) hl1)) ?_
 (exact ⟨rfl, e, ce, rfl, hre, hfe⟩)
theorem B6l (G : IM) (q : Option Addr) (n c : Nat) (bs : List UInt8) (hb : Sl G q n c 1 (N5 bs)) : Fn Tryz.prog 31 [.slice q n c] [] G (B1c 103) := by
 refine B6 Tryz.func31 rfl Tryz.ntmps31 Tryz.results31 rfl ?_
 intro w0
 refine tS (tR ?_)
 refine sE (A6 rfl) rfl (fun b3 => ?_)
 refine sD (nS (tS (tR (sQ (qM rfl) rfl ?_))))
 (refine H5 rfl (A50 G q n c bs hb) (List.Perm.refl _) rfl rfl (fun v G1 outs hle1 hh => ?_); obtain ⟨rfl, br, pb, nb, cb, bs', rfl, rfl, hnb, hb'⟩ := hh)
 (have hcall := A7c br pb nb cb bs' hnb 0 _ hb' (by omega); refine H5 rfl hcall (Pk.perm (by repeat (first | exact Pk.here | apply Pk.there))) rfl rfl (fun v Gn outs hle1 hh => ?_); obtain ⟨p1, hp11, hp12, rfl, e, ce, rfl, hre, hfe⟩ := hh; have hl1 := hre.len; have ho1 := hre.one)
 refine P5 rfl rfl rfl (by assumption) (by assumption) rfl (by repeat first | exact Sw.here | apply Sw.there) (by exact C1 (by symm; assumption)) ?_
 refine sD (nS (tT ?_))
 refine D6 (rC rfl (A3 rfl rfl (A7 (by repeat first | exact mH | apply mT)) hl1)) ?_
 (exact ⟨rfl, e, ce, rfl, hre, hfe⟩)
def B6m (N : Nat) : IM → Value → List A5 → Prop := L2 fun G' v => ∃ e cells l, v = .tuple ⟨[.agg ⟨cells⟩, .int .i64 l]⟩ ∧ A8 G' e cells ∧ e.fit N ∧ E9 l
theorem B6n {v : Value} (h : v ∈ [Value.int .i64 70, .int .i64 (-70), .int .i64 1, .int .i64 0, .int .i64 100]) : ∃ l, v = .int .i64 l ∧ E9 l := by
 simp only [List.mem_cons, List.not_mem_nil, or_false] at h
 rcases h with rfl | rfl | rfl | rfl | rfl <;> exact ⟨_, rfl, by decide, by decide⟩
theorem B6o (G : IM) (q : Option Addr) (n c : Nat) (bs : List UInt8) (hb : Sl G q n c 1 (N5 bs)) : Fn Tryz.prog 34 [.slice q n c] [] G (B6m 103) := by
 refine B6 Tryz.func34 rfl Tryz.ntmps34 Tryz.results34 rfl ?_
 intro w0
 refine tS (tR ?_)
 refine sE (A6 rfl) rfl (fun b3 => ?_)
 refine sQ (qA rfl) rfl (sD (nS (tS (tR (sQ (qM rfl) rfl ?_)))))
 (refine H5 rfl (A50 G q n c bs hb) (List.Perm.refl _) rfl rfl (fun v G1 outs hle1 hh => ?_); obtain ⟨rfl, br, pb, nb, cb, bs', rfl, rfl, hnb, hb'⟩ := hh)
 refine sQ (qA rfl) rfl (sD (nS (tS (tR (sQ (qM rfl) rfl ?_)))))
 (have hcall := A7c br pb nb cb bs' hnb 0 _ hb' (by omega); refine H5 rfl hcall (Pk.perm (by repeat (first | exact Pk.here | apply Pk.there))) rfl rfl (fun v Gn outs hle1 hh => ?_); obtain ⟨p1, hp11, hp12, rfl, e, ce, rfl, hre, hfe⟩ := hh; have hl1 := hre.len; have ho1 := hre.one; replace hb' := hb'.mono hle1)
 refine sE (A6 rfl) rfl (fun b18 => ?_)
 refine P5 rfl rfl rfl (by assumption) (by assumption) rfl (by repeat first | exact Sw.here | apply Sw.there) (by exact C1 (by symm; assumption)) ?_
 refine sD (nS (tS ?_))
 refine D1 D2 rfl ?_
 refine N8 (i := 0) (l' := [tt,ff,ff,ff,ff,ff]) rfl C8 (A3 rfl rfl (A7 (by repeat first | exact mH | apply mT)) hl1) rfl (by kernel_rfl) rfl rfl ?_
 refine aP 1 rfl (qM rfl) rfl ?_
 refine A2 2 ?_
 (refine D9 rfl (D0 rfl rfl rfl (by omega) (by unfold maxLen; omega) rfl) rfl rfl ?_; rintro _ ⟨b27, rfl⟩)
 (refine A3s (cs := [.int .i64 70, .int .i64 (-70), .int .i64 1, .int .i64 0, .int .i64 100]) (by repeat (first | exact Pk.here | apply Pk.there)) (fun Gf hlef hslf hnof => ?_); have hnum := Y7 Gf br pb nb cb p1 bs' _ _ _ _ (hb'.mono hlef) hnb (by omega) hslf (by decide); replace hre := hre.mono hlef)
 refine A2 3 ?_
 (refine Y6 (l' := [tt,tt,tt,tt,ff,ff]) rfl rfl hnum (Pk.perm (by repeat (first | exact Pk.here | apply Pk.there))) rfl rfl rfl (by repeat (first | exact A9.nil | apply A9.dep (by decide +kernel) | apply A9.blk (by decide +kernel) (by repeat (first | exact Pk.here | apply Pk.there)) (by repeat first | exact mH | apply mT))) (fun v Gm outs hlen hh => ?_); obtain ⟨rfl, rfl, hv⟩ := hh; obtain ⟨kn, rfl, hkn⟩ := B6n hv)
 refine A2 4 ?_
 refine A0I rfl rfl rfl rfl hl1 ho1 rfl rfl (by repeat first | exact Sw.here | apply Sw.there) (by exact C1 hl1.symm) (by repeat (first | exact A9.nil | apply A9.dep (by decide +kernel) | apply A9.blk (by decide +kernel) (by repeat (first | exact Pk.here | apply Pk.there)) (by repeat first | exact mH | apply mT))) ?_
 refine aP 5 rfl (qA rfl) rfl ?_
 refine C0 (nS (tT ?_))
 refine C5 (rC rfl (A3 rfl rfl (A7 (by repeat first | exact mH | apply mT)) hl1)) (rT rfl) ?_
 (exact ⟨rfl, e, ce, kn, rfl, hre, hfe, hkn⟩)
theorem A49 {P : Program} {Γ : M1} {env : M7} {hp : List A5} {G : IM} {ty : TypeId} {x y : Operand} {t t' : TypeId} {r : ByteArray} (hx : evo env x = some (.string r)) (hy : evo env y = some (.string r)) :
  J1 P Γ ⟨env, hp, G⟩ (.binOp .eql t x y t') ty (.bool true) := by
 have h := A1Q (P := P) (Γ := Γ) (hp := hp) (G := G) (t := t) (t' := t') (ty := ty) hx hy
 simpa using h
theorem A2G {P : Program} {Γ : M1} {env : M7} {hp : List A5} {G : IM} {ty : TypeId} {x y : Operand} {t t' : TypeId} {i : L9} [hI : J2 P t i] (hd : i.desc = .bool) {r : Bool} (hx : evo env x = some (.bool r)) (hy : evo env y = some (.bool r)) :
  J1 P Γ ⟨env, hp, G⟩ (.binOp .eql t x y t') ty (.bool true) := by
 have h := B1w (P := P) (Γ := Γ) (hp := hp) (G := G) (t := t) (t' := t') (ty := ty) (i := i) hd hx hy
 simpa using h
theorem A5a : ∀ (t : Ty) (G : IM) (cells cells' : List Value), B2 G t cells → B2 G t cells' → Fn Tryz.prog 30 [.agg ⟨cells⟩, .agg ⟨cells'⟩] [] G (J3 (.bool true) G) := by
 refine Ty.ind fun k ks ih G cells cells' hr hr' => ?_
 obtain ⟨p, c, es, rfl, hk, hsl, hkl⟩ := hr.open
 obtain ⟨p', c', es', rfl, hk', hsl', hkl'⟩ := hr'.open
 simp only [Ty.k, Ty.ks] at hk hsl hkl hk' hsl' hkl' ⊢
 refine B6 Tryz.func30 rfl Tryz.ntmps30 Tryz.results30 rfl ?_
 intro w0
 refine tS (tR ?_)
 refine sE (C4 rfl rfl) rfl (fun b3 => ?_)
 refine sE (C4 rfl rfl) rfl (fun b4 => ?_)
 refine D8 ?_
 refine sP (Q8 rfl rfl (by omega)) rfl rfl ?_
 refine R0 ?_
 refine E8 rfl (A5O _ _ _ _ _ _ _ _ _ hsl hsl' _ [] [] [] (fun _ => true) true (by simp) (fun i e e' he he' => ih (ks.getD i B1) (hkl.inv he B1).1 _ _ _ (hkl.inv he B1).2 (hkl'.inv he' B1).2)) rfl rfl ?_
 refine J9 ?_
 exact ⟨rfl, rfl, rfl⟩
theorem B6p (G : IM) (p p' : Option Addr) (n c c' : Nat) (es es' : List (List Value)) (hsl : C9 G p n c 9 es) (hsl' : C9 G p' n c' 9 es') (fid : FuncId) [B7 Tryz.prog fid]
  (hq : ∀ (i : Nat) (e e' : List Value), es[i]? = some e → es'[i]? = some e' → Fn Tryz.prog fid [.agg ⟨e⟩, .agg ⟨e'⟩] [] G (U2 (.bool true) [] G)) :
  Fn Tryz.prog 56 [.slice p n c, .slice p' n c', .func (.func fid) ⟨[]⟩ ⟨[]⟩] [] G (J3 (.bool true) G) := by
 have hn := hsl.le
 refine B6 Tryz.func56 rfl Tryz.ntmps56 Tryz.results56 rfl ?_
 intro w0
 refine N2 ?_
 refine sP (A1y rfl rfl (by omega)) rfl rfl ?_
 refine J4 ?_
 refine C3 (M6 (fun i : Nat => ⟨[(17, .int .i64 i), (16, .int .i64 n), (15, .slice p n c), (2, .func (.func fid) ⟨[]⟩ ⟨[]⟩), (1, .slice p' n c'), (0, .slice p n c)], [], G⟩) (fun i => i ≤ n) (fun i => n - i) 0 ?_ ?_ ?_)
 exact E1
 exact Nat.zero_le _
 rintro i hi
 refine tS (tR ?_)
 refine sB (M2 rfl rfl) rfl rfl (fun h34 => ?_) (fun h34 => ?_)
 refine sD (nS (tS (qT rfl (tK (nS (tS ?_))))))
 refine C3 ?_
 refine tS (tR (sQ (qM rfl) rfl ?_))
 (obtain ⟨e, b, o, he, rfl, hl, _, hat, _⟩ := hsl.get (i := i) (by omega); refine sP (B4 rfl rfl rfl (by omega)) rfl rfl ?_)
 refine sL (A3 rfl rfl (hat _) hl) rfl rfl ?_
 refine sE (A6 rfl) rfl (fun b48 => ?_)
 refine sQ (qA rfl) rfl ?_
 refine P5 rfl rfl rfl (by assumption) (by assumption) rfl (by repeat first | exact Sw.here | apply Sw.there) (by exact C1 (by symm; assumption)) ?_
 refine sD (nS (tS (tR (sQ (qM rfl) rfl (sQ (qM rfl) rfl ?_)))))
 (obtain ⟨e', b', o', he', rfl, hl', _, hat', _⟩ := hsl'.get (i := i) (by omega); refine sP (B4 rfl rfl rfl (by omega)) rfl rfl ?_)
 refine sL (A3 rfl rfl (hat' _) hl') rfl rfl ?_
 refine sE (A6 rfl) rfl (fun b59 => ?_)
 refine P5 rfl rfl rfl (by assumption) (by assumption) rfl (by repeat first | exact Sw.here | apply Sw.there) (by exact C1 (by symm; assumption)) ?_
 refine sD (nS (tS (tR (sQ (qM rfl) rfl ?_))))
 refine sL (A3 rfl rfl (A7 (by repeat first | exact mH | apply mT)) (by assumption)) rfl rfl ?_
 refine sL (A3 rfl rfl (A7 (by repeat first | exact mH | apply mT)) (by assumption)) rfl rfl ?_
 refine A4j rfl rfl (hq i e e' he he') A7z rfl rfl (fun h68 => ?_) (fun h68 => ?_)
 simp only [Bool.not_eq_true', Bool.not_eq_false'] at h68
 refine F8 ?_
 refine sP (M8 rfl rfl (by omega) (by omega)) rfl rfl ?_
 refine sQ (qM rfl) rfl (sD ?_)
 refine L8 (i + 1) ?_ ?_ ?_
 exact E1
 omega
 omega
 refine M9 ?_
 (exact absurd (by assumption) (by decide))
 refine M9 ?_
 exact ⟨rfl, rfl, rfl⟩
theorem A5b : ∀ (t : Tm) (G : IM) (cells cells' : List Value), A8 G t cells → A8 G t cells' → Fn Tryz.prog 16 [.agg ⟨cells⟩, .agg ⟨cells'⟩] [] G (J3 (.bool true) G) := by
 refine Tm.ind fun k nm num ty fr lb ks ih G cells cells' hr hr' => ?_
 obtain ⟨tk, tks⟩ := ty
 obtain ⟨fk, fks⟩ := fr
 obtain ⟨pt, ct, pf, cf, p, c, es, rfl, hk, hnum, hlb, hty, hfr, hsl, hkl⟩ := hr.open9
 obtain ⟨pt', ct', pf', cf', p', c', es', rfl, _, _, _, hty', hfr', hsl', hkl'⟩ := hr'.open9
 have h1 := A5a (.mk tk tks) G _ _ hty hty'
 have h2 := A5a (.mk fk fks) G _ _ hfr hfr'
 refine B6 Tryz.func16 rfl Tryz.ntmps16 Tryz.results16 rfl ?_
 intro w0
 refine tS (tR ?_)
 refine sE (C4 rfl rfl) rfl (fun b3 => ?_)
 refine sE (C4 rfl rfl) rfl (fun b4 => ?_)
 refine D8 ?_
 refine sP (Q8 rfl rfl (by omega)) rfl rfl ?_
 refine R0 ?_
 refine sQ (A49 rfl rfl) rfl ?_
 refine J9 ?_
 refine sP (Q8 rfl rfl (by omega)) rfl rfl ?_
 refine J9 ?_
 refine E8 rfl (h1) rfl rfl ?_
 refine J9 ?_
 refine E8 rfl (h2) rfl rfl ?_
 refine J9 ?_
 refine sP (Q8 rfl rfl (by omega)) rfl rfl ?_
 refine J9 ?_
 refine E8 rfl (B6p _ _ _ _ _ _ _ _ hsl hsl' _ (fun i e e' he he' => ih (ks.getD i I9) (hkl.inv he I9).1 _ _ _ (hkl.inv he I9).2 (hkl'.inv he' I9).2)) rfl rfl ?_
 refine J9 ?_
 exact ⟨rfl, rfl, rfl⟩
inductive MV where
 | mk (k num : Int) (env parts : List MV)
def MV.k : MV → Int | .mk k _ _ _ => k
def MV.num : MV → Int | .mk _ n _ _ => n
def MV.env : MV → List MV | .mk _ _ e _ => e
def MV.parts : MV → List MV | .mk _ _ _ p => p
def mv0 : MV := .mk 0 0 [] []
mutual
def RMv (kc : Int → Int) (G : IM) : MV → List Value → Prop
 | .mk k num env parts, cells => ∃ p c es q d fs, cells = [.int .i64 (kc k), .int .i64 num, .slice p env.length c, .slice q parts.length d] ∧ E9 num ∧ E9 (kc k) ∧ C9 G p env.length c 4 es ∧ A3g kc G env es ∧ C9 G q parts.length d 4 fs ∧ A3g kc G parts fs
def A3g (kc : Int → Int) (G : IM) : List MV → List (List Value) → Prop
 | [], es => es = []
 | t :: ts, es => ∃ a r, es = a :: r ∧ RMv kc G t a ∧ A3g kc G ts r
end
section
variable {kc : Int → Int} {G : IM}
end

def RFr (kc : Int → Int) (G : IM) (f : Int × List MV) (cells : List Value) : Prop := ∃ p c es, cells = [.int .i64 f.1, .slice p f.2.length c] ∧ E9 f.1 ∧ C9 G p f.2.length c 4 es ∧ A3g kc G f.2 es
def B1d (kc : Int → Int) (G : IM) : List (Int × List MV) → List (List Value) → Prop
 | [], es => es = []
 | t :: ts, es => ∃ a r, es = a :: r ∧ RFr kc G t a ∧ B1d kc G ts r
section
variable {kc : Int → Int} {G : IM}
end

structure MSt where
 at' : Int
 st : List MV
 env : List MV
 fr : List (Int × List MV)
def RSs (kc : Int → Int) (G : IM) (s : MSt) (cells : List Value) : Prop := ∃ pe ce ps cs pf cf ee es ef, cells = [.int .i64 s.at', .slice pe s.env.length ce, .slice ps s.st.length cs, .slice pf s.fr.length cf] ∧ E9 s.at' ∧
 C9 G pe s.env.length ce 4 ee ∧ A3g kc G s.env ee ∧ C9 G ps s.st.length cs 4 es ∧ A3g kc G s.st es ∧ C9 G pf s.fr.length cf 2 ef ∧ B1d kc G s.fr ef
def A5c (k : Int) : Nat := if k = 6 ∨ k = 7 ∨ k = 8 ∨ k = 11 then 2 else if k = 9 ∨ k = 12 ∨ k = 13 then 1 else 0
def A7d (k : Int) : Int × Nat × Int := if k = 6 then (2, 1, 1) else if k = 7 ∨ k = 8 then (0, 2, 2) else if k = 9 then (1, 1, 3) else if k = 12 ∨ k = 13 then (3, 1, 4) else (0, 0, 0)
def A19 (s : MSt) (v : MV) : MSt := { s with st := s.st ++ [v] }
def mGo (k a : Int) (s : MSt) (v : List MV) : MSt ⊕ (Int × Int) :=
 if k = 1 then .inl (A19 s (.mk 0 a [] []))
 else if k = 2 then .inl (A19 s (.mk 1 a [] []))
 else if k = 3 then (if (s.env.length : Int) - 1 - a < 0 then .inr (3, 0) else .inl (A19 s (s.env.getD ((s.env.length : Int) - 1 - a).toNat mv0)))
 else if k = 4 then .inl { A19 s (.mk 2 s.at' s.env []) with at' := s.at' + a }
 else if k = 5 then (if s.fr.length = 0 then .inr (3, 0) else .inl { s with at' := (s.fr.getD (s.fr.length - 1) (0, [])).1, env := (s.fr.getD (s.fr.length - 1) (0, [])).2, fr := s.fr.take (s.fr.length - 1) })
 else if k = 6 then .inl { s with at' := (v.getD 0 mv0).num, env := (v.getD 0 mv0).env ++ [v.getD 1 mv0], fr := s.fr ++ [(s.at', s.env)] }
 else if k = 7 then .inl (A19 s (.mk 0 (((v.getD 0 mv0).num + (v.getD 1 mv0).num) % 1000) [] []))
 else if k = 8 then .inl (A19 s (.mk 1 (if (v.getD 0 mv0).num < (v.getD 1 mv0).num then 1 else 0) [] []))
 else if k = 9 then .inl (if (v.getD 0 mv0).num = 0 then { s with at' := s.at' + a } else s)
 else if k = 10 then .inl { s with at' := s.at' + a }
 else if k = 11 then .inl (A19 s (.mk 3 0 [] v))
 else .inl (A19 s ((v.getD 0 mv0).parts.getD (k - 12).toNat mv0))
def B6q (k : Int) (v : List MV) : Bool := (v.take (A7d k).2.1).all fun u => decide (u.k = (A7d k).1)
def B6r (k a : Int) (s : MSt) : MSt ⊕ (Int × Int) :=
 if s.st.length < A5c k then .inr (3, 0)
 else if B6q k (s.st.drop (s.st.length - A5c k)) = true then mGo k a { s with at' := s.at' + 1, st := s.st.take (s.st.length - A5c k) } (s.st.drop (s.st.length - A5c k))
 else .inr (2, (A7d k).2.2)
def B6s (v : MV) : ByteArray := if v.k = 0 then ⟨(Lib.decDigits v.num.toNat).toArray⟩ else if v.k = 1 then (if v.num = 0 then ⟨#[70]⟩ else ⟨#[84]⟩) else if v.k = 2 then ⟨⟨[102, 117, 110, 99, 116, 105, 111, 110]⟩⟩ else ⟨⟨[112, 97, 105, 114]⟩⟩
def B6t (s : MSt) : ByteArray × Int × Int := if s.st.length ≠ 1 ∨ 0 < s.fr.length then (⟨#[]⟩, 3, 0) else (B6s (s.st.getD 0 mv0), 0, 0)
def B1e (ops : List (Int × Int)) : Nat → MSt → ByteArray × Int × Int
 | t, s => if (ops.length : Int) ≤ s.at' then B6t s else match t with
  | 0 => (⟨#[]⟩, 5, 0)
  | t + 1 => match B6r (ops.getD s.at'.toNat (0, 0)).1 (ops.getD s.at'.toNat (0, 0)).2 s with
   | .inl s' => B1e ops t s'
   | .inr (c, e) => (⟨#[]⟩, c, e)
def B6u (k behind : Int) : Int := if k = 1 then 999 else if k = 2 then 1 else if k = 3 then 11 else if k = 4 ∨ k = 9 ∨ k = 10 then behind else 0
def B6v (n : Nat) (i : Nat) (x : Int × Int) : Bool := decide (1 ≤ x.1 ∧ x.1 ≤ 13 ∧ 0 ≤ x.2 ∧ x.2 ≤ B6u x.1 ((n : Int) - 1 - i))
def B6w (ops : List (Int × Int)) : Bool := decide (1 ≤ ops.length ∧ ops.length ≤ 120) && (List.range ops.length).all fun i => B6v ops.length i (ops.getD i (0, 0))
def B7d (ops : List (Int × Int)) (ticks : Int) : ByteArray × Int × Int :=
 if B6w ops = true ∧ 0 ≤ ticks ∧ ticks ≤ 2000 then B1e ops ticks.toNat ⟨0, [], [], []⟩ else (⟨#[]⟩, 3, 0)
theorem B6x (k : Int) (nm : ByteArray) (num : Int) (ty fr : Ty) (lb : Int) (ks : List Tm) (G : IM) (cells : List Value) (hT : A0o G) (hk3 : k = 2 ∨ k = 3 ∨ k = 4) (hn : 0 ≤ num ∧ num ≤ 999) (hr : A8 G (.mk k nm num ty fr lb ks) cells) : Fn Tryz.prog 126 [.agg ⟨cells⟩] [] G (J3 (.string (A28 k num)) G) := by
 obtain ⟨tk, tks⟩ := ty
 obtain ⟨fk, fks⟩ := fr
 obtain ⟨pt, ct, pf, cf, p, c, es, rfl, hk, hnum, hlb, hty, hfr, hsl, hkl⟩ := hr.open9
 have hI := B2h num G hT hn.1 hn.2
 refine B6 Tryz.func126 rfl Tryz.ntmps126 Tryz.results126 rfl ?_
 intro w0
 refine tS (tR ?_)
 refine sE (C4 rfl rfl) rfl (fun b3 => ?_)
 refine sQ (qA rfl) rfl (sD (nS (tS (tR ?_))))
 refine sQ (A2J rfl rfl) rfl ?_
 refine I8 ?_
 refine C3 ?_
 refine tS (tR ?_)
 refine sP (E6 rfl rfl (by omega)) rfl rfl ?_
 refine sQ (qA rfl) rfl (sD (nS (cF rfl (tS (tR ?_)))))
 refine sB (qE rfl rfl) rfl rfl (fun h30 => ?_) (fun h30 => ?_)
 refine F8 ?_
 refine E8 rfl (hI) rfl rfl ?_
 refine sQ (qA rfl) rfl (sD (nS (tT (rB (rS (D6 (rT rfl) ?_))))))
 (exact ⟨rfl, by unfold A28; rw [if_pos (by omega)]; rfl, rfl⟩)
 refine sQ (qA rfl) rfl (sD (nS (cF rfl (tS (tR ?_)))))
 refine sB (qE rfl rfl) rfl rfl (fun h54 => ?_) (fun h54 => ?_)
 refine J4 ?_
 (exact ⟨rfl, by unfold A28; rw [if_neg (by omega), if_pos (by omega)]; rfl, rfl⟩)
 refine sQ (qA rfl) rfl (sD (nS (cF rfl (tS (tR ?_)))))
 refine sP (Q8 rfl rfl (by omega)) rfl rfl ?_
 refine J4 ?_
 (exact ⟨rfl, by unfold A28; rw [if_neg (by omega), if_neg (by omega)]; rfl, rfl⟩)
theorem B6y : ∀ (t : Tm) (G : IM) (cells : List Value), A0o G → cv t → E2 t = true → A8 G t cells → Fn Tryz.prog 58 [.agg ⟨cells⟩] [] G (J3 (.string (V7 t)) G) := by
 refine Tm.ind fun k nm num ty fr lb ks ih G cells hT hc hv hr => ?_
 have hr0 := hr
 have hP := A2v _ G _ hr
 obtain ⟨hN, hkk⟩ := hc.node
 have hop := hN.ops
 have h14 : k = 14 → ks.length = 1 := fun h => by rw [h] at hop; have : D3 14 = 1 := rfl; omega
 have hL := fun h => B6x k nm num ty fr lb ks G cells hT h hN.num0 hr
 have hvp := @B4O k nm num ty fr lb ks
 have hvf := @B4P k nm num ty fr lb ks
 have hvc := @B0k k nm num ty fr lb ks
 have hvl := @B4Q k nm num ty fr lb ks
 have hvn := @A85 k nm num ty fr lb ks
 have hvy := @A4I k nm num ty fr lb ks
 have hprx := A1I k nm num ty fr lb ks
 have hinj := A4H k nm num ty fr lb ks
 have hleaf : S6 (.mk k nm num ty fr lb ks) = false → k ≠ 14 → k ≠ 10 → k ≠ 5 → k = 2 ∨ k = 3 ∨ k = 4 := by
  intro h1 h2 h3 h4
  have := hvn h3 h1 (by rw [hinj, decide_eq_false (by omega)]; rfl)
  rw [this] at hv
  have := of_decide_eq_true hv
  omega
 have hkv : S6 (.mk k nm num ty fr lb ks) = false → k = 14 → ∀ t ∈ ks, E2 t = true := by
  intro h1 h2 t ht
  cases hi : inj (.mk k nm num ty fr lb ks) with
  | true => have := hvy (.inr (.inr hi)); rw [hv] at this; exact List.all_eq_true.1 this.symm t ht
  | false =>
   have := hvn (by omega) h1 hi
   rw [hv] at this
   have := of_decide_eq_true this.symm
   omega
 generalize hpx : S6 (.mk k nm num ty fr lb ks) = bp at *
 obtain ⟨tk, tks⟩ := ty
 obtain ⟨fk, fks⟩ := fr
 obtain ⟨pt, ct, pf, cf, p, c, es, rfl, hk, hnum, hlb, hty, hfr, hsl, hkl⟩ := hr.open9
 refine B6 Tryz.func58 rfl Tryz.ntmps58 Tryz.results58 rfl ?_
 intro w0
 refine tS (tR ?_)
 refine sE (C4 rfl rfl) rfl (fun b3 => ?_)
 refine sQ (qA rfl) rfl (sD (nS (tS ?_)))
 refine C3 ?_
 refine tS (tR (sQ (B5 rfl) rfl (sL (C7 rfl rfl) rfl rfl ?_)))
 refine sB (qE rfl rfl) rfl rfl (fun h13 => ?_) (fun h13 => ?_)
 refine A0A ?_
 (exact ⟨rfl, congrArg Value.string (hvp (by first | exact .inl (by omega) | exact .inr ⟨by assumption, by assumption⟩)).symm, rfl⟩)
 refine sQ (qM rfl) rfl (sL (A4 rfl rfl) rfl rfl ?_)
 refine F4 rfl (hP) rfl rfl (fun h40 => ?_) (fun h40 => ?_)
 refine J8 ?_
 refine sB (qE rfl rfl) rfl rfl (fun h45 => ?_) (fun h45 => ?_)
 refine K0 ?_
 (exact ⟨rfl, congrArg Value.string (hvp (by first | exact .inl (by omega) | exact .inr ⟨by assumption, by assumption⟩)).symm, rfl⟩)
 refine I8 ?_
 refine sB (qE rfl rfl) rfl rfl (fun h72 => ?_) (fun h72 => ?_)
 refine P7 ?_
 (exact ⟨rfl, congrArg Value.string (hvf (by rintro (h | ⟨h1, h2⟩) <;> first | omega | exact Bool.noConfusion (h1.symm.trans (show bp = false by assumption)) | (simp only [Ty.k] at h2; omega)) (by first | exact .inl (by omega) | exact .inr (by assumption))).symm, rfl⟩)
 refine sQ (qM rfl) rfl (sL (A4 rfl rfl) rfl rfl ?_)
 refine F4 rfl (hP) rfl rfl (fun h93 => ?_) (fun h93 => ?_)
 refine O0 ?_
 (exact ⟨rfl, congrArg Value.string (hvf (by rintro (h | ⟨h1, h2⟩) <;> first | omega | exact Bool.noConfusion (h1.symm.trans (show bp = false by assumption)) | (simp only [Ty.k] at h2; omega)) (by first | exact .inl (by omega) | exact .inr (by assumption))).symm, rfl⟩)
 refine D8 ?_
 refine sB (qE rfl rfl) rfl rfl (fun h118 => ?_) (fun h118 => ?_)
 refine F8 ?_
 (have hl1 := h14 (by omega); obtain ⟨bx, ox, e, rfl, hl, hat, hre, hgb⟩ := hsl.kidTm hkl (i := 0) (by omega) (by omega); have hih := ih ks[0] (List.getElem_mem (by omega)) G e hT (hkk _ (List.getElem_mem (by omega))) (hkv (by assumption) (by omega) _ (List.getElem_mem (by omega))) hre; refine sP (B4 (j := 0) rfl rfl rfl (by omega)) rfl rfl ?_)
 refine sL (A3 rfl rfl (hat _) hl) rfl rfl ?_
 refine E8 rfl (hih) rfl rfl ?_
 refine sQ (qA rfl) rfl (sD (nS (tT (rB (rS (D6 (rT rfl) ?_))))))
 (exfalso; have h1 : bp = true := (by assumption); have h2 : bp = false := (by assumption); rw [h1] at h2; cases h2)
 refine I8 ?_
 refine E8 rfl ((hL (hleaf (by assumption) (by omega) (by omega) (by omega)))) rfl rfl ?_
 refine sQ (qA rfl) rfl (sD (nS (tT (D6 (rT rfl) ?_))))
 (exfalso; have h1 : bp = true := (by assumption); have h2 : bp = false := (by assumption); rw [h1] at h2; cases h2)
 refine K0 ?_
 refine sB (qE rfl rfl) rfl rfl (fun h170 => ?_) (fun h170 => ?_)
 refine P7 ?_
 (exact ⟨rfl, congrArg Value.string (hvf (by rintro (h | ⟨h1, h2⟩) <;> first | omega | exact Bool.noConfusion (h1.symm.trans (show bp = false by assumption)) | (simp only [Ty.k] at h2; omega)) (by first | exact .inl (by omega) | exact .inr (by assumption))).symm, rfl⟩)
 refine sQ (qM rfl) rfl (sL (A4 rfl rfl) rfl rfl ?_)
 refine F4 rfl (hP) rfl rfl (fun h191 => ?_) (fun h191 => ?_)
 refine O0 ?_
 (exfalso; have h1 : bp = true := (by assumption); have h2 : bp = false := (by assumption); rw [h1] at h2; cases h2)
 refine D8 ?_
 refine sB (qE rfl rfl) rfl rfl (fun h216 => ?_) (fun h216 => ?_)
 refine F8 ?_
 (have hl1 := h14 (by omega); obtain ⟨bx, ox, e, rfl, hl, hat, hre, hgb⟩ := hsl.kidTm hkl (i := 0) (by omega) (by omega); have hih := ih ks[0] (List.getElem_mem (by omega)) G e hT (hkk _ (List.getElem_mem (by omega))) (hkv (by assumption) (by omega) _ (List.getElem_mem (by omega))) hre; refine sP (B4 (j := 0) rfl rfl rfl (by omega)) rfl rfl ?_)
 refine sL (A3 rfl rfl (hat _) hl) rfl rfl ?_
 refine E8 rfl (hih) rfl rfl ?_
 refine sQ (qA rfl) rfl (sD (nS (tT (rB (rS (D6 (rT rfl) ?_))))))
 (exact ⟨rfl, congrArg Value.string (hvc (by assumption) (by omega) (by omega)).symm, rfl⟩)
 refine I8 ?_
 refine E8 rfl ((hL (hleaf (by assumption) (by omega) (by omega) (by omega)))) rfl rfl ?_
 refine sQ (qA rfl) rfl (sD (nS (tT (D6 (rT rfl) ?_))))
 (exact ⟨rfl, congrArg Value.string (hvl (by assumption) (by omega) (by omega) (by omega)).symm, rfl⟩)
def B7e (G : IM) : IM → Value → List A5 → Prop := L2 fun G' v => ∃ a ca b cb f, v = .tuple ⟨[.agg ⟨ca⟩, .agg ⟨cb⟩, .int .i64 f]⟩ ∧ A8 G' a ca ∧ a.fit 1100 ∧ A8 G' b cb ∧ b.fit 1100 ∧ E9 f
def B7f (G : IM) : IM → Value → List A5 → Prop := L2 fun G' v => ∃ a ca b cb d cd, v = .tuple ⟨[.agg ⟨ca⟩, .agg ⟨cb⟩, .agg ⟨cd⟩]⟩ ∧ A8 G' a ca ∧ a.fit 1100 ∧ A8 G' b cb ∧ b.fit 1100 ∧ A8 G' d cd ∧ d.fit 1100
def B7g (N : Nat) (G : IM) : IM → Value → List A5 → Prop := L2 fun G' v => ∃ a ca f, v = .tuple ⟨[.agg ⟨ca⟩, .int .i64 f]⟩ ∧ A8 G' a ca ∧ a.fit N ∧ E9 f
def A1O (e : Tm) : Bool := I3 e && E2 e
theorem B6z (e : Tm) (G : IM) (cells : List Value) (hr : A8 G e cells) : Fn Tryz.prog 12 [.agg ⟨cells⟩] [] G (J3 (.bool (A1O e)) G) := by
 have hl := hr.len
 have hone := hr.one
 have hv := A2m e G cells hr
 have hi := A6a e G cells hr
 unfold A1O
 refine B6 Tryz.func12 rfl Tryz.ntmps12 Tryz.results12 rfl ?_
 intro w0
 refine tS (tR ?_)
 refine sE (C4 rfl rfl) rfl (fun b3 => ?_)
 refine sQ (qA rfl) rfl (sD (nS (tS (tR ?_))))
 refine sL (A3 rfl rfl (A7 (by repeat first | exact mH | apply mT)) hl) rfl rfl ?_
 refine F4 rfl (hv) rfl rfl (fun h10 => ?_) (fun h10 => ?_)
 refine sQ (qM rfl) rfl ?_
 refine sL (A3 rfl rfl (A7 (by repeat first | exact mH | apply mT)) hl) rfl rfl ?_
 refine F4 rfl (hi) rfl rfl (fun h13 => ?_) (fun h13 => ?_)
 refine J9 ?_
 (exact ⟨rfl, by simp [*], rfl⟩)
 refine J9 ?_
 (exact ⟨rfl, by simp [*], rfl⟩)
 refine D8 ?_
 (exact ⟨rfl, by simp [*], rfl⟩)
theorem A3h (e : Tm) (G : IM) (cells : List Value) (hT : A0o G) (hr : A8 G e cells) : Fn Tryz.prog 18 [.agg ⟨cells⟩] [] G (J3 (.string (if A1O e = true then V7 e else ⟨⟨[]⟩⟩)) G) := by
 have hl := hr.len
 have hone := hr.one
 have hv := B6z e G cells hr
 refine B6 Tryz.func18 rfl Tryz.ntmps18 Tryz.results18 rfl ?_
 intro w0
 refine tS (tR ?_)
 refine sE (C4 rfl rfl) rfl (fun b3 => ?_)
 refine sQ (qA rfl) rfl (sD (nS (tS (tS (tR ?_)))))
 refine sL (A3 rfl rfl (A7 (by repeat first | exact mH | apply mT)) hl) rfl rfl ?_
 refine F4 rfl (hv) rfl rfl (fun h11 => ?_) (fun h11 => ?_)
 refine sQ (Q5 rfl) rfl (sD (nS (cF rfl (tK (nS (tS (tR ?_)))))))
 refine sL (A3 rfl rfl (A7 (by repeat first | exact mH | apply mT)) hl) rfl rfl ?_
 refine E8 rfl ((B6y e G cells hT (A1H (by have h0 : A1O e = true := (by assumption); unfold A1O at h0; rw [Bool.and_eq_true] at h0; exact h0.1)).1 (by have h0 : A1O e = true := (by assumption); unfold A1O at h0; rw [Bool.and_eq_true] at h0; exact h0.2) hr)) rfl rfl ?_
 refine sQ (qA rfl) rfl (sD (nS (tT (D6 (rT rfl) ?_))))
 (exact ⟨rfl, by rw [if_pos (by assumption)], rfl⟩)
 refine N2 ?_
 (exact ⟨rfl, by rw [if_neg (by simp [*])], rfl⟩)
def A2a (a b : Tm) (n m : Int) : Prop := (K6 a n).2.1 = 4 ∨ (K6 a n).2.1 = 5 ∨ (K6 b m).2.1 = 4 ∨ (K6 b m).2.1 = 5 ∨
  ((K6 a n).2.1 = (K6 b m).2.1 ∧ (K6 a n).2.2 = (K6 b m).2.2 ∧ A1O (K6 a n).1 = A1O (K6 b m).1 ∧ V7 (K6 a n).1 = V7 (K6 b m).1)
theorem A7e {a b : Tm} {n m : Int} (h : Agr a b n m) : A2a a b n m := B5g h
theorem B6A {a x : Tm} {b : Bool} (hS : A0E a = (x, b)) (hb : b = true) {T : Ty} (hT : R3 a = some T) : R3 x = some T ∧ A2a x a 200 200 := by
 obtain ⟨h1, h2⟩ := A3f hT
 rw [A33 h1] at hS
 obtain ⟨rfl, _⟩ := Prod.mk.inj hS
 obtain ⟨g1, g2, g3⟩ := B5h h1 h2
 exact ⟨by unfold R3; rw [if_pos g1]; exact g2, A7e g3⟩
theorem B6B {a x : Tm} {b : Bool} (hS : A0E a = (x, b)) (hb : b = true) {TY : Option Ty} (hTY : R3 a = TY) (hs : TY.isSome = true) : R3 x = TY ∧ A2a x a 200 200 := by
 obtain ⟨T, rfl⟩ := Option.isSome_iff_exists.1 hs
 exact B6A hS hb hTY
theorem B6C (bs : List UInt8) (G : IM) (p : Option Addr) (n c : Nat) (hT : A0o G) (hb : Sl G p n c 1 (N5 bs)) : Fn Tryz.prog 7 [.slice p n c] [] G (L2 fun _ v => v = .bool true) := by
 have hn := hb.le
 refine B6 Tryz.func7 rfl Tryz.ntmps7 Tryz.results7 rfl ?_
 intro w0
 refine I8 ?_
 refine sB (Y2 rfl rfl) rfl rfl (fun h11 => ?_) (fun h11 => ?_)
 refine J6 ?_
 (exact ⟨rfl, rfl⟩)
 refine sD (nS (cF rfl (tK (nS (tS (tR (sQ (qM rfl) rfl ?_)))))))
 (refine D7 rfl (B6k G _ _ _ bs hb) rfl rfl (fun v G1 hle1 hh => ?_); obtain ⟨a, ca, rfl, hra, hfa⟩ := hh; replace hT := hT.mono hle1; have hca := hfa.2; have hla := hra.len; have hoa := hra.one; have hA := A65 a G1 ca hra; obtain ⟨⟨x, bx⟩, hS⟩ : ∃ r, A0E a = r := ⟨_, rfl⟩; rw [hS] at hA; obtain ⟨TY, hTY⟩ : ∃ T, R3 a = T := ⟨_, rfl⟩; have hk := fun h h2 => @B6B a x bx hS h TY hTY h2)
 refine sE (A6 rfl) rfl (fun b33 => ?_)
 refine sS rfl rfl rfl hla hoa rfl ?_ (hu := by exact C1 hla.symm)
 refine sD (nS (tS (tR ?_)))
 refine sL (A3 rfl rfl (A7 (by repeat first | exact mH | apply mT)) hla) rfl rfl ?_
 (refine D7 rfl hA rfl rfl (fun v2 G2 hle2 hh => ?_); obtain ⟨cx, hve, hrx⟩ := hh; replace hve : v2 = .tuple ⟨[.agg ⟨cx⟩, .bool bx]⟩ := hve; subst hve; replace hrx : A8 G2 x cx := hrx; have hlx := hrx.len; have hox := hrx.one; replace hT := hT.mono hle2; replace hra := hra.mono hle2; have hB := B6d a G2 ca (by omega) hra; rw [hS] at hB)
 refine H9 ?_
 refine sE (A6 rfl) rfl (fun b44 => ?_)
 refine sS rfl rfl rfl hlx hox rfl ?_ (hu := by exact C1 hlx.symm)
 refine sQ (qA rfl) rfl (sD (nS (tS (tR ?_))))
 refine sL (A3 rfl rfl (A7 (by repeat first | exact mH | apply mT)) hla) rfl rfl ?_
 (refine D7 rfl hB rfl rfl (fun v3 G3 hle3 hh => ?_); obtain ⟨cy, hve, hry⟩ := hh; replace hve : v3 = .tuple ⟨[.agg ⟨cy⟩, .bool bx]⟩ := hve; subst hve; replace hry : A8 G3 x cy := hry; have hly := hry.len; have hoy := hry.one; replace hT := hT.mono hle3; replace hra := hra.mono hle3; replace hrx := hrx.mono hle3; have hC := A3U a G3 ca hra; rw [hTY] at hC)
 refine H9 ?_
 refine sE (A6 rfl) rfl (fun b56 => ?_)
 refine sS rfl rfl rfl hly hoy rfl ?_ (hu := by exact C1 hly.symm)
 refine sQ (qA rfl) rfl (sD (nS (tS (tR ?_))))
 refine sL (A3 rfl rfl (A7 (by repeat first | exact mH | apply mT)) hla) rfl rfl ?_
 (refine D7 rfl hC rfl rfl (fun v4 G4 hle4 hh => ?_); obtain ⟨ct, T1, rfl, hrt, hT1⟩ := hh; have hlt := hrt.len; have hot := hrt.one; replace hT := hT.mono hle4; replace hra := hra.mono hle4; replace hrx := hrx.mono hle4; replace hry := hry.mono hle4; have hSm := A5b x G4 cx cy hrx hry; obtain ⟨bt, hbt⟩ : ∃ b, TY.isSome = b := ⟨_, rfl⟩; rw [hbt] at hk ⊢; cases bt <;> cases bx)
 refine H9 ?_
 refine sE (A6 rfl) rfl (fun b68 => ?_)
 refine sS rfl rfl rfl hlt hot rfl ?_ (hu := by exact C1 hlt.symm)
 refine F8 ?_
 refine sQ (A0h rfl rfl rfl) rfl ?_
 refine sQ (qM rfl) rfl ?_
 refine sL (A3 rfl rfl (A7 (by repeat first | exact mH | apply mT)) hlx) rfl rfl ?_
 refine sL (A3 rfl rfl (A7 (by repeat first | exact mH | apply mT)) hly) rfl rfl ?_
 refine E8 rfl (hSm) rfl rfl ?_
 refine P7 ?_
 refine sQ (A2G rfl rfl rfl) rfl ?_
 refine sQ (qM rfl) rfl ?_
 refine sL (A3 rfl rfl (A7 (by repeat first | exact mH | apply mT)) hlx) rfl rfl ?_
 refine sL (A3 rfl rfl (A7 (by repeat first | exact mH | apply mT)) hly) rfl rfl ?_
 refine E8 rfl (hSm) rfl rfl ?_
 refine D5 ?_
 (exact ⟨rfl, rfl⟩)
 refine H9 ?_
 refine sE (A6 rfl) rfl (fun b116 => ?_)
 refine sS rfl rfl rfl hlt hot rfl ?_ (hu := by exact C1 hlt.symm)
 refine F8 ?_
 refine sQ (A0h rfl rfl rfl) rfl ?_
 refine sQ (qM rfl) rfl ?_
 refine sL (A3 rfl rfl (A7 (by repeat first | exact mH | apply mT)) hlx) rfl rfl ?_
 refine sL (A3 rfl rfl (A7 (by repeat first | exact mH | apply mT)) hly) rfl rfl ?_
 refine E8 rfl (hSm) rfl rfl ?_
 refine P7 ?_
 refine sQ (A2G rfl rfl rfl) rfl ?_
 refine sQ (qM rfl) rfl ?_
 refine sL (A3 rfl rfl (A7 (by repeat first | exact mH | apply mT)) hlx) rfl rfl ?_
 refine sL (A3 rfl rfl (A7 (by repeat first | exact mH | apply mT)) hly) rfl rfl ?_
 refine E8 rfl (hSm) rfl rfl ?_
 refine D5 ?_
 (exact ⟨rfl, rfl⟩)
 refine H9 ?_
 refine sE (A6 rfl) rfl (fun b164 => ?_)
 refine sS rfl rfl rfl hlt hot rfl ?_ (hu := by exact C1 hlt.symm)
 refine F8 ?_
 refine sQ (A0h rfl rfl rfl) rfl ?_
 refine sQ (qM rfl) rfl ?_
 refine sL (A3 rfl rfl (A7 (by repeat first | exact mH | apply mT)) hlx) rfl rfl ?_
 refine sL (A3 rfl rfl (A7 (by repeat first | exact mH | apply mT)) hly) rfl rfl ?_
 refine E8 rfl (hSm) rfl rfl ?_
 refine P7 ?_
 refine sQ (A2G rfl rfl rfl) rfl ?_
 refine sQ (qM rfl) rfl ?_
 refine sL (A3 rfl rfl (A7 (by repeat first | exact mH | apply mT)) hlx) rfl rfl ?_
 refine sL (A3 rfl rfl (A7 (by repeat first | exact mH | apply mT)) hly) rfl rfl ?_
 refine E8 rfl (hSm) rfl rfl ?_
 refine D5 ?_
 (exact ⟨rfl, rfl⟩)
 refine H9 ?_
 refine sE (A6 rfl) rfl (fun b212 => ?_)
 refine sS rfl rfl rfl hlt hot rfl ?_ (hu := by exact C1 hlt.symm)
 refine F8 ?_
 refine sQ (A0h rfl rfl rfl) rfl ?_
 refine sQ (qM rfl) rfl ?_
 refine sL (A3 rfl rfl (A7 (by repeat first | exact mH | apply mT)) hlx) rfl rfl ?_
 refine sL (A3 rfl rfl (A7 (by repeat first | exact mH | apply mT)) hly) rfl rfl ?_
 refine E8 rfl (hSm) rfl rfl ?_
 refine P7 ?_
 refine sL (A3 rfl rfl (A7 (by repeat first | exact mH | apply mT)) hlx) rfl rfl ?_
 (obtain ⟨hk1, hk2⟩ := hk rfl rfl; have hC2 := A3U x G4 cx hrx; rw [hk1] at hC2; refine D7 rfl hC2 rfl rfl (fun v5 G5 hle5 hh => ?_); obtain ⟨cz, T2, rfl, hrz, hT2⟩ := hh; have hlz := hrz.len; have hoz := hrz.one; replace hT := hT.mono hle5; replace hra := hra.mono hle5; replace hrx := hrx.mono hle5; replace hrt := hrt.mono hle5; obtain ⟨T0, hT0⟩ := Option.isSome_iff_exists.1 hbt; have hTeq : T2 = T1 := (by rw [hT1 T0 hT0, ← hT2 T0 hT0]); rw [hTeq] at hrz; have hE1 := A26 a 200 G5 ca hra; unfold A2a at hk2; obtain ⟨⟨u, c1, l1⟩, hr1⟩ : ∃ r, K6 a 200 = r := ⟨_, rfl⟩; obtain ⟨⟨w, c2, l2⟩, hr2⟩ : ∃ r, K6 x 200 = r := ⟨_, rfl⟩; rw [hr1] at hE1 hk2; rw [hr2] at hk2; simp only [] at hk2; rw [hbt])
 refine H9 ?_
 refine sE (A6 rfl) rfl (fun b249 => ?_)
 refine sS rfl rfl rfl hlz hoz rfl ?_ (hu := by exact C1 hlz.symm)
 refine sQ (qA rfl) rfl (sD (nS (tS (tR ?_))))
 refine sL (A3 rfl rfl (A7 (by repeat first | exact mH | apply mT)) hla) rfl rfl ?_
 (refine D7 rfl hE1 rfl rfl (fun v6 G6 hle6 hh => ?_); obtain ⟨cu, hve, hru⟩ := hh; replace hve : v6 = .tuple ⟨[.agg ⟨cu⟩, .int .i64 c1, .int .i64 l1]⟩ := hve; subst hve; replace hru : A8 G6 u cu := hru; have hlu := hru.len; have hou := hru.one; replace hT := hT.mono hle6; replace hrx := hrx.mono hle6; replace hrt := hrt.mono hle6; replace hrz := hrz.mono hle6; have hE2 := A26 x 200 G6 cx hrx; rw [hr2] at hE2)
 refine J8 ?_
 refine sE (A6 rfl) rfl (fun b262 => ?_)
 refine sS rfl rfl rfl hlu hou rfl ?_ (hu := by exact C1 hlu.symm)
 refine sQ (qA rfl) rfl (sQ (qA rfl) rfl (sD (nS (tS (tR ?_)))))
 refine sL (A3 rfl rfl (A7 (by repeat first | exact mH | apply mT)) hlx) rfl rfl ?_
 (refine D7 rfl hE2 rfl rfl (fun v7 G7 hle7 hh => ?_); obtain ⟨cw, hve, hrw⟩ := hh; replace hve : v7 = .tuple ⟨[.agg ⟨cw⟩, .int .i64 c2, .int .i64 l2]⟩ := hve; subst hve; replace hrw : A8 G7 w cw := hrw; have hlw := hrw.len; have how := hrw.one; replace hT := hT.mono hle7; replace hru := hru.mono hle7; replace hrt := hrt.mono hle7; replace hrz := hrz.mono hle7; have hTs := A5a T1 G7 ct cz hrt hrz; have hV1 := A3h u G7 cu hT hru; have hV2 := A3h w G7 cw hT hrw)
 refine J8 ?_
 refine sE (A6 rfl) rfl (fun b276 => ?_)
 refine sS rfl rfl rfl hlw how rfl ?_ (hu := by exact C1 hlw.symm)
 refine I8 ?_
 refine sL (A3 rfl rfl (A7 (by repeat first | exact mH | apply mT)) hlt) rfl rfl ?_
 refine sL (A3 rfl rfl (A7 (by repeat first | exact mH | apply mT)) hlz) rfl rfl ?_
 refine E8 rfl (hTs) rfl rfl ?_
 refine J6 ?_
 refine sB (qE rfl rfl) rfl rfl (fun h302 => ?_) (fun h302 => ?_)
 refine A0A ?_
 (exact ⟨rfl, rfl⟩)
 refine sQ (qM rfl) rfl (sQ (qM rfl) rfl ?_)
 refine sB (qE rfl rfl) rfl rfl (fun h329 => ?_) (fun h329 => ?_)
 refine A0d ?_
 (exact ⟨rfl, rfl⟩)
 refine sQ (L6 rfl rfl) rfl (sQ (qM rfl) rfl (sQ (qM rfl) rfl ?_))
 refine sB (qE rfl rfl) rfl rfl (fun h354 => ?_) (fun h354 => ?_)
 refine M9 ?_
 (exact ⟨rfl, rfl⟩)
 refine sQ (L6 rfl rfl) rfl (sQ (qM rfl) rfl (sQ (qM rfl) rfl ?_))
 refine sB (qE rfl rfl) rfl rfl (fun h375 => ?_) (fun h375 => ?_)
 refine N2 ?_
 (exact ⟨rfl, rfl⟩)
 refine sQ (L6 rfl rfl) rfl (sD (nS (cF rfl (tK (nS (tS ?_))))))
 (obtain ⟨hg1, hg2, hg3, hg4⟩ := (((hk2.resolve_left (by omega)).resolve_left (by omega)).resolve_left (by omega)).resolve_left (by omega); rw [hg3, hg4] at hV2; clear hk2; refine D1 D2 rfl ?_)
 refine I4 (i := 0) (l' := [tt,ff,ff,ff,ff,ff,ff,ff,ff,ff,ff,ff,ff,ff,ff,ff]) rfl C8 (qM rfl) rfl (by kernel_rfl) rfl rfl ?_
 refine aP 1 rfl (qM rfl) rfl ?_
 refine aP 2 rfl (Q8 rfl rfl (by omega)) rfl ?_
 refine aP 3 rfl (qM rfl) rfl ?_
 refine aP 4 rfl (qM rfl) rfl ?_
 refine aP 5 rfl (qM rfl) rfl ?_
 refine aP 6 rfl (Q8 rfl rfl (by omega)) rfl ?_
 refine aP 7 rfl (K1 rfl rfl) rfl ?_
 refine aP 8 rfl (qM rfl) rfl ?_
 refine aL 9 rfl (A3 rfl rfl (A7 (by repeat first | exact mH | apply mT)) hlu) rfl ?_
 refine aL 11 rfl (A3 rfl rfl (A7 (by repeat first | exact mH | apply mT)) hlw) rfl ?_
 refine A2 10 ?_
 refine J0 rfl rfl (hV1) rfl rfl rfl ?_
 refine A2 12 ?_
 refine J0 rfl rfl (hV2) rfl rfl rfl ?_
 refine aP 13 rfl (A49 rfl rfl) rfl ?_
 refine aP 14 rfl (K1 rfl rfl) rfl ?_
 refine aP 15 rfl (qA rfl) rfl ?_
 refine C0 (nS (tT (D6 (rT rfl) ?_)))
 (exact ⟨rfl, rfl⟩)
theorem B6D {a x : Tm} {b : Bool} (hS : A1s a = (x, b)) (hb : b = true) {TY : Option Ty} (hTY : R3 a = TY) (hs : TY.isSome = true) : R3 x = TY ∧ A2a a x 150 300 := by
 obtain ⟨T, rfl⟩ := Option.isSome_iff_exists.1 hs
 obtain ⟨h1, h2⟩ := A3f hTY
 rw [A67 h1] at hS
 cases hv : I3 (J7 P4 a) with
 | false => rw [A1k hv] at hS; subst hb; cases hS
 | true =>
  rw [A1j hv] at hS
  obtain ⟨rfl, _⟩ := Prod.mk.inj hS
  obtain ⟨g2, g3⟩ := B5i h1 h2 hv
  exact ⟨by unfold R3; rw [if_pos hv]; exact g2, A7e g3⟩
theorem B6E (bs : List UInt8) (G : IM) (p : Option Addr) (n c : Nat) (hT : A0o G) (hb : Sl G p n c 1 (N5 bs)) : Fn Tryz.prog 8 [.slice p n c] [] G (L2 fun _ v => v = .bool true) := by
 have hn := hb.le
 refine B6 Tryz.func8 rfl Tryz.ntmps8 Tryz.results8 rfl ?_
 intro w0
 refine I8 ?_
 refine sB (Y2 rfl rfl) rfl rfl (fun h11 => ?_) (fun h11 => ?_)
 refine J6 ?_
 (exact ⟨rfl, rfl⟩)
 refine sD (nS (cF rfl (tK (nS (tS (tR (sQ (qM rfl) rfl ?_)))))))
 (refine D7 rfl (B6l G _ _ _ bs hb) rfl rfl (fun v G1 hle1 hh => ?_); obtain ⟨a, ca, rfl, hra, hfa⟩ := hh; replace hT := hT.mono hle1; have hca := hfa.2; have hla := hra.len; have hoa := hra.one; have hA := B5O a G1 ca hra; obtain ⟨⟨x, bx⟩, hS⟩ : ∃ r, A1s a = r := ⟨_, rfl⟩; rw [hS] at hA; obtain ⟨TY, hTY⟩ : ∃ T, R3 a = T := ⟨_, rfl⟩; have hk := fun h h2 => @B6D a x bx hS h TY hTY h2)
 refine sE (A6 rfl) rfl (fun b33 => ?_)
 refine sS rfl rfl rfl hla hoa rfl ?_ (hu := by exact C1 hla.symm)
 refine sD (nS (tS (tR ?_)))
 refine sL (A3 rfl rfl (A7 (by repeat first | exact mH | apply mT)) hla) rfl rfl ?_
 (refine D7 rfl hA rfl rfl (fun v2 G2 hle2 hh => ?_); obtain ⟨cx, hve, hrx⟩ := hh; replace hve : v2 = .tuple ⟨[.agg ⟨cx⟩, .bool bx]⟩ := hve; subst hve; replace hrx : A8 G2 x cx := hrx; have hlx := hrx.len; have hox := hrx.one; replace hT := hT.mono hle2; replace hra := hra.mono hle2; have hB := B6g a G2 ca (by omega) hra; rw [hS] at hB)
 refine H9 ?_
 refine sE (A6 rfl) rfl (fun b44 => ?_)
 refine sS rfl rfl rfl hlx hox rfl ?_ (hu := by exact C1 hlx.symm)
 refine sQ (qA rfl) rfl (sD (nS (tS (tR ?_))))
 refine sL (A3 rfl rfl (A7 (by repeat first | exact mH | apply mT)) hla) rfl rfl ?_
 (refine D7 rfl hB rfl rfl (fun v3 G3 hle3 hh => ?_); obtain ⟨cy, hve, hry⟩ := hh; replace hve : v3 = .tuple ⟨[.agg ⟨cy⟩, .bool bx]⟩ := hve; subst hve; replace hry : A8 G3 x cy := hry; have hly := hry.len; have hoy := hry.one; replace hT := hT.mono hle3; replace hra := hra.mono hle3; replace hrx := hrx.mono hle3; have hC := A3U a G3 ca hra; rw [hTY] at hC)
 refine H9 ?_
 refine sE (A6 rfl) rfl (fun b56 => ?_)
 refine sS rfl rfl rfl hly hoy rfl ?_ (hu := by exact C1 hly.symm)
 refine sQ (qA rfl) rfl (sD (nS (tS (tR ?_))))
 refine sL (A3 rfl rfl (A7 (by repeat first | exact mH | apply mT)) hla) rfl rfl ?_
 (refine D7 rfl hC rfl rfl (fun v4 G4 hle4 hh => ?_); obtain ⟨ct, T1, rfl, hrt, hT1⟩ := hh; have hlt := hrt.len; have hot := hrt.one; replace hT := hT.mono hle4; replace hra := hra.mono hle4; replace hrx := hrx.mono hle4; replace hry := hry.mono hle4; have hSm := A5b x G4 cx cy hrx hry; obtain ⟨bt, hbt⟩ : ∃ b, TY.isSome = b := ⟨_, rfl⟩; rw [hbt] at hk ⊢; cases bt <;> cases bx)
 refine H9 ?_
 refine sE (A6 rfl) rfl (fun b68 => ?_)
 refine sS rfl rfl rfl hlt hot rfl ?_ (hu := by exact C1 hlt.symm)
 refine F8 ?_
 refine sQ (A0h rfl rfl rfl) rfl ?_
 refine sQ (qM rfl) rfl ?_
 refine sL (A3 rfl rfl (A7 (by repeat first | exact mH | apply mT)) hlx) rfl rfl ?_
 refine sL (A3 rfl rfl (A7 (by repeat first | exact mH | apply mT)) hly) rfl rfl ?_
 refine E8 rfl (hSm) rfl rfl ?_
 refine P7 ?_
 refine sQ (A2G rfl rfl rfl) rfl ?_
 refine sQ (qM rfl) rfl ?_
 refine sL (A3 rfl rfl (A7 (by repeat first | exact mH | apply mT)) hlx) rfl rfl ?_
 refine sL (A3 rfl rfl (A7 (by repeat first | exact mH | apply mT)) hly) rfl rfl ?_
 refine E8 rfl (hSm) rfl rfl ?_
 refine D5 ?_
 (exact ⟨rfl, rfl⟩)
 refine H9 ?_
 refine sE (A6 rfl) rfl (fun b116 => ?_)
 refine sS rfl rfl rfl hlt hot rfl ?_ (hu := by exact C1 hlt.symm)
 refine F8 ?_
 refine sQ (A0h rfl rfl rfl) rfl ?_
 refine sQ (qM rfl) rfl ?_
 refine sL (A3 rfl rfl (A7 (by repeat first | exact mH | apply mT)) hlx) rfl rfl ?_
 refine sL (A3 rfl rfl (A7 (by repeat first | exact mH | apply mT)) hly) rfl rfl ?_
 refine E8 rfl (hSm) rfl rfl ?_
 refine P7 ?_
 refine sQ (A2G rfl rfl rfl) rfl ?_
 refine sQ (qM rfl) rfl ?_
 refine sL (A3 rfl rfl (A7 (by repeat first | exact mH | apply mT)) hlx) rfl rfl ?_
 refine sL (A3 rfl rfl (A7 (by repeat first | exact mH | apply mT)) hly) rfl rfl ?_
 refine E8 rfl (hSm) rfl rfl ?_
 refine D5 ?_
 (exact ⟨rfl, rfl⟩)
 refine H9 ?_
 refine sE (A6 rfl) rfl (fun b164 => ?_)
 refine sS rfl rfl rfl hlt hot rfl ?_ (hu := by exact C1 hlt.symm)
 refine F8 ?_
 refine sQ (A0h rfl rfl rfl) rfl ?_
 refine sQ (qM rfl) rfl ?_
 refine sL (A3 rfl rfl (A7 (by repeat first | exact mH | apply mT)) hlx) rfl rfl ?_
 refine sL (A3 rfl rfl (A7 (by repeat first | exact mH | apply mT)) hly) rfl rfl ?_
 refine E8 rfl (hSm) rfl rfl ?_
 refine P7 ?_
 refine sQ (A2G rfl rfl rfl) rfl ?_
 refine sQ (qM rfl) rfl ?_
 refine sL (A3 rfl rfl (A7 (by repeat first | exact mH | apply mT)) hlx) rfl rfl ?_
 refine sL (A3 rfl rfl (A7 (by repeat first | exact mH | apply mT)) hly) rfl rfl ?_
 refine E8 rfl (hSm) rfl rfl ?_
 refine D5 ?_
 (exact ⟨rfl, rfl⟩)
 refine H9 ?_
 refine sE (A6 rfl) rfl (fun b212 => ?_)
 refine sS rfl rfl rfl hlt hot rfl ?_ (hu := by exact C1 hlt.symm)
 refine F8 ?_
 refine sQ (A0h rfl rfl rfl) rfl ?_
 refine sQ (qM rfl) rfl ?_
 refine sL (A3 rfl rfl (A7 (by repeat first | exact mH | apply mT)) hlx) rfl rfl ?_
 refine sL (A3 rfl rfl (A7 (by repeat first | exact mH | apply mT)) hly) rfl rfl ?_
 refine E8 rfl (hSm) rfl rfl ?_
 refine P7 ?_
 refine sL (A3 rfl rfl (A7 (by repeat first | exact mH | apply mT)) hlx) rfl rfl ?_
 (obtain ⟨hk1, hk2⟩ := hk rfl rfl; have hC2 := A3U x G4 cx hrx; rw [hk1] at hC2; refine D7 rfl hC2 rfl rfl (fun v5 G5 hle5 hh => ?_); obtain ⟨cz, T2, rfl, hrz, hT2⟩ := hh; have hlz := hrz.len; have hoz := hrz.one; replace hT := hT.mono hle5; replace hra := hra.mono hle5; replace hrx := hrx.mono hle5; replace hrt := hrt.mono hle5; obtain ⟨T0, hT0⟩ := Option.isSome_iff_exists.1 hbt; have hTeq : T2 = T1 := (by rw [hT1 T0 hT0, ← hT2 T0 hT0]); rw [hTeq] at hrz; have hE1 := A26 a 150 G5 ca hra; unfold A2a at hk2; obtain ⟨⟨u, c1, l1⟩, hr1⟩ : ∃ r, K6 a 150 = r := ⟨_, rfl⟩; obtain ⟨⟨w, c2, l2⟩, hr2⟩ : ∃ r, K6 x 300 = r := ⟨_, rfl⟩; rw [hr1] at hE1 hk2; rw [hr2] at hk2; simp only [] at hk2; rw [hbt])
 refine H9 ?_
 refine sE (A6 rfl) rfl (fun b249 => ?_)
 refine sS rfl rfl rfl hlz hoz rfl ?_ (hu := by exact C1 hlz.symm)
 refine sQ (qA rfl) rfl (sD (nS (tS (tR ?_))))
 refine sL (A3 rfl rfl (A7 (by repeat first | exact mH | apply mT)) hla) rfl rfl ?_
 (refine D7 rfl hE1 rfl rfl (fun v6 G6 hle6 hh => ?_); obtain ⟨cu, hve, hru⟩ := hh; replace hve : v6 = .tuple ⟨[.agg ⟨cu⟩, .int .i64 c1, .int .i64 l1]⟩ := hve; subst hve; replace hru : A8 G6 u cu := hru; have hlu := hru.len; have hou := hru.one; replace hT := hT.mono hle6; replace hrx := hrx.mono hle6; replace hrt := hrt.mono hle6; replace hrz := hrz.mono hle6; have hE2 := A26 x 300 G6 cx hrx; rw [hr2] at hE2)
 refine J8 ?_
 refine sE (A6 rfl) rfl (fun b262 => ?_)
 refine sS rfl rfl rfl hlu hou rfl ?_ (hu := by exact C1 hlu.symm)
 refine sQ (qA rfl) rfl (sQ (qA rfl) rfl (sD (nS (tS (tR ?_)))))
 refine sL (A3 rfl rfl (A7 (by repeat first | exact mH | apply mT)) hlx) rfl rfl ?_
 (refine D7 rfl hE2 rfl rfl (fun v7 G7 hle7 hh => ?_); obtain ⟨cw, hve, hrw⟩ := hh; replace hve : v7 = .tuple ⟨[.agg ⟨cw⟩, .int .i64 c2, .int .i64 l2]⟩ := hve; subst hve; replace hrw : A8 G7 w cw := hrw; have hlw := hrw.len; have how := hrw.one; replace hT := hT.mono hle7; replace hru := hru.mono hle7; replace hrt := hrt.mono hle7; replace hrz := hrz.mono hle7; have hTs := A5a T1 G7 ct cz hrt hrz; have hV1 := A3h u G7 cu hT hru; have hV2 := A3h w G7 cw hT hrw)
 refine J8 ?_
 refine sE (A6 rfl) rfl (fun b276 => ?_)
 refine sS rfl rfl rfl hlw how rfl ?_ (hu := by exact C1 hlw.symm)
 refine I8 ?_
 refine sL (A3 rfl rfl (A7 (by repeat first | exact mH | apply mT)) hlt) rfl rfl ?_
 refine sL (A3 rfl rfl (A7 (by repeat first | exact mH | apply mT)) hlz) rfl rfl ?_
 refine E8 rfl (hTs) rfl rfl ?_
 refine J6 ?_
 refine sB (qE rfl rfl) rfl rfl (fun h302 => ?_) (fun h302 => ?_)
 refine A0A ?_
 (exact ⟨rfl, rfl⟩)
 refine sQ (qM rfl) rfl (sQ (qM rfl) rfl ?_)
 refine sB (qE rfl rfl) rfl rfl (fun h329 => ?_) (fun h329 => ?_)
 refine A0d ?_
 (exact ⟨rfl, rfl⟩)
 refine sQ (L6 rfl rfl) rfl (sQ (qM rfl) rfl (sQ (qM rfl) rfl ?_))
 refine sB (qE rfl rfl) rfl rfl (fun h354 => ?_) (fun h354 => ?_)
 refine M9 ?_
 (exact ⟨rfl, rfl⟩)
 refine sQ (L6 rfl rfl) rfl (sQ (qM rfl) rfl (sQ (qM rfl) rfl ?_))
 refine sB (qE rfl rfl) rfl rfl (fun h375 => ?_) (fun h375 => ?_)
 refine N2 ?_
 (exact ⟨rfl, rfl⟩)
 refine sQ (L6 rfl rfl) rfl (sD (nS (cF rfl (tK (nS (tS ?_))))))
 (obtain ⟨hg1, hg2, hg3, hg4⟩ := (((hk2.resolve_left (by omega)).resolve_left (by omega)).resolve_left (by omega)).resolve_left (by omega); rw [hg3, hg4] at hV1; clear hk2; refine D1 D2 rfl ?_)
 refine I4 (i := 0) (l' := [tt,ff,ff,ff,ff,ff,ff,ff,ff,ff,ff,ff,ff,ff,ff,ff]) rfl C8 (qM rfl) rfl (by kernel_rfl) rfl rfl ?_
 refine aP 1 rfl (qM rfl) rfl ?_
 refine aP 2 rfl (Q8 rfl rfl (by omega)) rfl ?_
 refine aP 3 rfl (qM rfl) rfl ?_
 refine aP 4 rfl (qM rfl) rfl ?_
 refine aP 5 rfl (qM rfl) rfl ?_
 refine aP 6 rfl (Q8 rfl rfl (by omega)) rfl ?_
 refine aP 7 rfl (K1 rfl rfl) rfl ?_
 refine aP 8 rfl (qM rfl) rfl ?_
 refine aL 9 rfl (A3 rfl rfl (A7 (by repeat first | exact mH | apply mT)) hlu) rfl ?_
 refine aL 11 rfl (A3 rfl rfl (A7 (by repeat first | exact mH | apply mT)) hlw) rfl ?_
 refine A2 10 ?_
 refine J0 rfl rfl (hV1) rfl rfl rfl ?_
 refine A2 12 ?_
 refine J0 rfl rfl (hV2) rfl rfl rfl ?_
 refine aP 13 rfl (A49 rfl rfl) rfl ?_
 refine aP 14 rfl (K1 rfl rfl) rfl ?_
 refine aP 15 rfl (qA rfl) rfl ?_
 refine C0 (nS (tT (D6 (rT rfl) ?_)))
 (exact ⟨rfl, rfl⟩)
end Gw
end Go.Proofs.YtfpgncjeejickaaGreatDoor
