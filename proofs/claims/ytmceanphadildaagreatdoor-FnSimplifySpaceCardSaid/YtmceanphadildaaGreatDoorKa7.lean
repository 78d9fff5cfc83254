/-
  The type of a term with casts: the reference's.
-/
import Derived.Test.YtmceanphadildaaGreatDoorKa6
import Derived.Test.YtmceanphadildaaGreatDoorKa5
import Derived.Test.YtmceanphadildaaGreatDoorKa4
import Derived.Test.YtmceanphadildaaGreatDoorKa1
import Derived.Test.YtmceanphadildaaGreatDoorKa2
import Derived.Test.YtmceanphadildaaGreatDoorKa3
import Derived.Lib.ItoaNum
set_option linter.unusedVariables false
set_option linter.unusedSimpArgs false
set_option maxHeartbeats 0
set_option maxRecDepth 100000
set_option synthInstance.maxSize 4000
set_option synthInstance.maxHeartbeats 0
namespace Go.Proofs.YtmceanphadildaaGreatDoor
open Go Go.RowKit
namespace Gw
theorem y23 {p : Prop} (h : p := by
  refine A1 4 ?_
  refine L1 rfl rfl ((A0J _)) rfl rfl rfl ?_
  refine A1 6 ?_
  (refine E1 rfl rfl (A4h _ Q5 T 63 _ ce2 _ _ ⟨by decide, by decide⟩ hr2 (A5o _) hrT A2b hsT) rfl rfl rfl (fun v G7 hle7 hh => ?_); obtain ⟨ce3, rfl, hr3⟩ := hh; have hl3 := hr3.len; have ho3 := hr3.one; replace hb := hb.mono hle7; have hf3 := A4i (l := 63) hf2 A2b hsT)
  refine A1 7 ?_
  refine N9 rfl rfl rfl rfl hl3 ho3 rfl rfl zU zO (by exact C6 zW) ?_
  refine A9 ?_
  refine sL (A5 rfl rfl (B7 zP) hl3) rfl rfl ?_
  (have hcall := A4g br pb nb cb bs hnb (p1 + 1 + 1) _ hb zW _ ce3 103 (A2N hf3 zW) hr3; refine I0 rfl hcall (Pk.perm zN) rfl rfl (fun v Gn outs hle9 hh => ?_); obtain ⟨p9, hp91, hp92, rfl, e, ce, rfl, hre, hfe⟩ := hh; have hl9 := hre.len; have ho9 := hre.one)
  refine P3 rfl rfl rfl zT zT rfl zO (by exact C6 (by symm; assumption)) ?_
  refine B3 ?_
  refine H7 (outs := [rd br pb nb cb p9]) (rC rfl (A5 rfl rfl (B7 zP) hl9)) zH ?_
  (exact ⟨p9, by omega, by omega, rfl, e, ce, rfl, hre, hfe⟩)
) : p := h
theorem y24 {p : Prop} (h : p := by
  refine A1 15 ?_
  refine E4 rfl ?_
  refine aP 16 rfl (qA rfl) rfl ?_
  refine P6 ?_
  (refine F9 rfl (A5p 4 (.mk tk tks) _ _ _ _ (.inl rfl) hta hma htyN hmr) rfl rfl (fun v G3 hle3 hh => ?_); obtain ⟨mc2, rfl, hmr2⟩ := hh; obtain ⟨p2, c2, e2, rfl, _⟩ := hmr2.open)
  refine D9 ?_
  refine E0 (rC rfl (A3 rfl rfl)) (rT rfl) ?_
  (rw [f5 _ zW zW (by first | exact hE | assumption)]; exact M9.mk rfl hmr2 (A10 (.inl rfl) hta hma))
) : p := h
theorem y25 {p : Prop} (h : p := by
  refine aP 7 rfl (N7 rfl rfl) rfl ?_
  refine A1 8 ?_
  refine E4 rfl ?_
  refine A4 ?_
  (refine F6 (cs := [v1, v2, v3, v4, v5, v6, v7, v8, v9]) zN (fun G5 hle5 hsl5 hno5 => ?_); obtain ⟨hone1, hone2⟩ := A2D (hre.mono hle5) hsl5)
  refine tT ?_
  refine L0 (rC rfl (A3 rfl rfl)) ?_
  (exact TmP.mk (B6.of9 (ks := [e]) ⟨by omega, by omega⟩ ⟨by omega, by omega⟩ hl (hr2.mono hle5) (hr1.mono hle5) hone1 hone2))
) : p := h
theorem y26 {p : Prop} (h : p := by
  (refine F9 rfl (f0 zW) rfl rfl (fun v G1 hle1 hh => ?_); obtain ⟨mt, mc, rfl, hmr, hma, hmu⟩ := hh; obtain ⟨p1, c1, e1, rfl, _⟩ := hmr.open)
  refine D9 ?_
  refine E0 (rC rfl (A3 rfl rfl)) (rT rfl) ?_
  (rw [f0' zW]; exact ⟨rfl, _, _, rfl, hmr, hma, hmu⟩)
) : p := h
theorem y27 {p : Prop} (h : p := by
  refine A1 15 ?_
  refine E4 rfl ?_
  refine aP 16 rfl (qA rfl) rfl ?_
  refine A0c ?_
  refine E0 (rC rfl (A3 rfl rfl)) (rT rfl) ?_
  (rw [f4 zW zW (by first | exact hE | assumption)]; exact M9.no rfl (J8 _ ⟨by omega, by omega⟩) (M6 zW zW))
) : p := h
theorem y28 {p : Prop} (h : p := by
  refine P3 rfl rfl rfl zT zT rfl zO (by exact C6 (by symm; assumption)) ?_
  refine B3 ?_
  refine H7 (outs := [rd br pb nb cb p9]) (rC rfl (A5 rfl rfl (B7 zP) hl9)) zH ?_
  (exact ⟨p9, by omega, by omega, rfl, e, ce, rfl, hre, hfe⟩)
) : p := h
theorem y29 {p : Prop} (h : p := by
  refine A1 3 ?_
  (refine E1 rfl rfl hC2 rfl rfl rfl (fun v G2 hle2 hh => ?_); obtain ⟨cs2, F2, rfl, hs2, hn2⟩ := hh; obtain ⟨p2, c2, rfl, _⟩ := hs2.open; have hr1 := hs1.R.mono ((D7.le G1 _).trans hle2); have hr2 := hs2.R.mono (D7.le G2 G1); have hre := he.mono (hle1.trans hle2))
  exact y25
) : p := h
theorem B8.kid2 {G : IM} {k : Int} {a b : Ty} {p : Option Addr} {c : Nat} (h : B8 G (.mk k [a, b]) [.int .i64 k, .slice p 2 c]) : ∃ bl o pa ca pb cb, p = some ⟨bl, o, none⟩ ∧
  (∀ hp, At hp G bl (o + 0 * 2) [.int .i64 a.k, .slice pa a.ks.length ca]) ∧ B8 G a [.int .i64 a.k, .slice pa a.ks.length ca] ∧
  (∀ hp, At hp G bl (o + 1 * 2) [.int .i64 b.k, .slice pb b.ks.length cb]) ∧ B8 G b [.int .i64 b.k, .slice pb b.ks.length cb] := by
 obtain ⟨p', c', es, he, hk, hsl, hkl⟩ := h.open
 simp only [Ty.k, Ty.ks, List.cons.injEq, Value.slice.injEq, true_and, and_true] at he hsl hkl
 obtain ⟨rfl, _, rfl⟩ := he
 obtain ⟨b0, o0, q0, d0, rfl, hat0, hre0, _⟩ := hsl.kidTy hkl (i := 0) zX zX
 obtain ⟨b1, o1, q1, d1, hp1, hat1, hre1, _⟩ := hsl.kidTy hkl (i := 1) zX zX
 cases hp1
 exact ⟨b0, o0, q0, d0, q1, d1, rfl, hat0, hre0, hat1, hre1⟩
theorem E5.kids2 {k : Int} {ks : List Ty} (h : E5 (.mk k ks)) (hk : k = 4 ∨ k = 5) : ∃ a b, ks = [a, b] ∧ E5 a ∧ E5 b := by
 have h2 := h.kid
 rw [E5] at h
 match ks, h.1 hk with
 | [a, b], _ => exact ⟨a, b, rfl, h2 a zX, h2 b zX⟩
section
variable (nm : ByteArray) (num : Int) (ty fr : Ty) (lb : Int) (ks : List Tm) (G : IM) (cells : List Value) (p : Option Addr) (c : Nat) (es : List (List Value))
theorem B6z (x : Ty) (hty : E5 ty) (hr : B6 G (.mk 14 nm num ty fr lb ks) cells) (hsl : D0 G p 1 c 2 es) (hkl : E9 G [x] es) :
  Fn Tryz.prog 150 [.agg ⟨cells⟩, .slice p 1 c] [] G (M9 (T5 14 ty fr [x]) G) := by
 have hone := hr.one
 obtain ⟨tk, tks⟩ := ty
 obtain ⟨fk, fks⟩ := fr
 obtain ⟨pt, ct, pf, cf, pk, ck, ek, rfl, hk, hnum, hlb, hrty, hrfr, _, _⟩ := hr.open9
 obtain ⟨b0, o0, q0, d0, rfl, hat0, hre0, hg0⟩ := hsl.kidTy hkl (i := 0) zX zX
 simp only [List.getElem_cons_zero] at hat0 hre0
 have hT := P8 (.mk tk tks) G _ hty.small hrty
 have hS := fun G1 (hle : C1 G G1) => A2d x (.mk fk fks) G1 _ _ (hre0.mono hle) (hrfr.mono hle)
 refine C7 Tryz.func150 rfl Tryz.ntmps150 Tryz.results150 rfl ?_
 intro w0
 refine A4 ?_
 refine sE (D5 rfl rfl) rfl (fun b3 => ?_)
 refine sE (A8 rfl) rfl (fun b4 => ?_)
 refine I2 ?_
 refine C2 ?_
 refine A4 ?_
 refine sP (L9 rfl rfl zW) rfl rfl ?_
 refine A9 ?_
 refine D2 D3 rfl ?_
 refine H1 (i := 0) (l' := [tt,ff,ff,ff,ff,ff,ff,ff,ff,ff,ff]) rfl C8 (C0 rfl) rfl zU rfl rfl ?_
 refine aL 1 rfl (A3 rfl rfl) rfl ?_
 refine aP 3 rfl (qM rfl) rfl ?_
 refine aP 4 rfl (B1 (j := 0) rfl rfl rfl zX) rfl ?_
 refine aL 5 rfl (A5 rfl rfl (hat0 _) rfl) rfl ?_
 refine aP 6 rfl (C0 rfl) rfl ?_
 refine aL 7 rfl (A3 rfl rfl) rfl ?_
 refine A1 2 ?_
 (refine E1 rfl rfl hT rfl rfl rfl (fun v G1 hle1 hh => ?_); obtain ⟨L7, F1, rfl, hs1, hn1⟩ := hh; obtain ⟨p1, c1, rfl, _⟩ := hs1.open; have hmr := hs1.R.mono (D7.le G1 G); have hS1 := hS G1 hle1)
 refine A1 8 ?_
 refine L1 rfl rfl (hS1) rfl rfl rfl ?_
 refine A1 9 ?_
 refine E4 rfl ?_
 refine aP 10 rfl (qA rfl) rfl ?_
 refine A9 ?_
 refine E0 (rC rfl (A3 rfl rfl)) (rT rfl) ?_
 (exact M9.mk rfl hmr hty)
theorem B1j (k : Int) (hk78 : k = 7 ∨ k = 8) (x y : Ty) (hr : B6 G (.mk k nm num ty fr lb ks) cells) (hsl : D0 G p 2 c 2 es) (hkl : E9 G [x, y] es) :
  Fn Tryz.prog 150 [.agg ⟨cells⟩, .slice p 2 c] [] G (M9 (if H9 x N2 = true ∧ H9 y N2 = true then some (if k = 7 then N2 else R8) else none) G) := by
 have hone := hr.one
 obtain ⟨tk, tks⟩ := ty
 obtain ⟨fk, fks⟩ := fr
 obtain ⟨pt, ct, pf, cf, pk, ck, ek, rfl, hk, hnum, hlb, hrty, hrfr, _, _⟩ := hr.open9
 obtain ⟨b0, o0, q0, d0, rfl, hat0, hre0, hg0⟩ := hsl.kidTy hkl (i := 0) zX zX
 obtain ⟨b1, o1, q1, d1, hp1, hat1, hre1, hg1⟩ := hsl.kidTy hkl (i := 1) zX zX
 cases hp1
 simp only [List.getElem_cons_zero, List.getElem_cons_succ] at hat0 hre0 hat1 hre1
 have hS0 := A2d x N2 G _ _ hre0 (K0 G)
 have hS1 := A2d y N2 G _ _ hre1 (K0 G)
 generalize H9 x N2 = s0 at hS0 ⊢
 generalize H9 y N2 = s1 at hS1 ⊢
 refine C7 Tryz.func150 rfl Tryz.ntmps150 Tryz.results150 rfl ?_
 intro w0
 refine A4 ?_
 refine sE (D5 rfl rfl) rfl (fun b3 => ?_)
 refine sE (A8 rfl) rfl (fun b4 => ?_)
 refine I2 ?_
 refine C2 ?_
 refine A4 ?_
 refine sP (F0 rfl rfl zW) rfl rfl ?_
 refine A7 ?_
 refine sP (F0 rfl rfl zW) rfl rfl ?_
 refine A7 ?_
 refine sB (qE rfl rfl) rfl rfl (fun h32 => ?_) (fun h32 => ?_)
 refine A9 ?_
 refine D2 D3 rfl ?_
 refine H1 (i := 1) (l' := [ff,tt,ff,ff,ff,ff,ff,ff,ff,ff,ff,ff,ff,ff,ff]) rfl C8 (qM rfl) rfl zU rfl rfl ?_
 refine aP 2 rfl (B1 (j := 0) rfl rfl rfl zX) rfl ?_
 refine aL 3 rfl (A5 rfl rfl (hat0 _) rfl) rfl ?_
 refine A1 0 ?_
 refine L1 rfl rfl ((V8 _)) rfl rfl rfl ?_
 refine A1 4 ?_
 refine L1 rfl rfl ((V8 _)) rfl rfl rfl ?_
 refine A1 5 ?_
 refine Q3 rfl rfl (hS0) rfl rfl rfl (fun h47 => ?_) (fun h47 => ?_)
 refine aP 6 rfl (qM rfl) rfl ?_
 refine aP 7 rfl (qM rfl) rfl ?_
 refine aP 8 rfl (B1 (j := 1) rfl rfl rfl zX) rfl ?_
 refine aL 9 rfl (A5 rfl rfl (hat1 _) rfl) rfl ?_
 refine A1 10 ?_
 refine L1 rfl rfl ((V8 _)) rfl rfl rfl ?_
 refine A1 11 ?_
 refine L1 rfl rfl (hS1) rfl rfl rfl ?_
 refine aP 12 rfl (M4 rfl rfl) rfl ?_
 refine A1 13 ?_
 refine E4 rfl ?_
 refine aP 14 rfl (qA rfl) rfl ?_
 refine A9 ?_
 refine E0 (rC rfl (A3 rfl rfl)) (rT rfl) ?_
 (exact M9.mk (by rw [if_pos (show k = 7 by omega)]; simp_all) (K0 G) (M6 zV zV))
 refine aP 6 rfl (qM rfl) rfl ?_
 refine B9 7 rfl rfl rfl ?_
 refine B9 8 rfl rfl rfl ?_
 refine B9 9 rfl rfl rfl ?_
 refine B9 10 rfl rfl rfl ?_
 refine B9 11 rfl rfl rfl ?_
 refine aP 12 rfl (O2 rfl rfl) rfl ?_
 refine A1 13 ?_
 refine E4 rfl ?_
 refine aP 14 rfl (qA rfl) rfl ?_
 refine A9 ?_
 refine E0 (rC rfl (A3 rfl rfl)) (rT rfl) ?_
 (exact M9.mk (by rw [if_pos (show k = 7 by omega)]; simp_all) (K0 G) (M6 zV zV))
 refine A7 ?_
 refine sP (L9 rfl rfl zW) rfl rfl ?_
 refine A9 ?_
 refine D2 D3 rfl ?_
 refine H1 (i := 1) (l' := [ff,tt,ff,ff,ff,ff,ff,ff,ff,ff,ff,ff,ff,ff,ff]) rfl C8 (qM rfl) rfl zU rfl rfl ?_
 refine aP 2 rfl (B1 (j := 0) rfl rfl rfl zX) rfl ?_
 refine aL 3 rfl (A5 rfl rfl (hat0 _) rfl) rfl ?_
 refine A1 0 ?_
 refine L1 rfl rfl ((A1i _)) rfl rfl rfl ?_
 refine A1 4 ?_
 refine L1 rfl rfl ((V8 _)) rfl rfl rfl ?_
 refine A1 5 ?_
 refine Q3 rfl rfl (hS0) rfl rfl rfl (fun h105 => ?_) (fun h105 => ?_)
 refine aP 6 rfl (qM rfl) rfl ?_
 refine aP 7 rfl (qM rfl) rfl ?_
 refine aP 8 rfl (B1 (j := 1) rfl rfl rfl zX) rfl ?_
 refine aL 9 rfl (A5 rfl rfl (hat1 _) rfl) rfl ?_
 refine A1 10 ?_
 refine L1 rfl rfl ((V8 _)) rfl rfl rfl ?_
 refine A1 11 ?_
 refine L1 rfl rfl (hS1) rfl rfl rfl ?_
 refine aP 12 rfl (M4 rfl rfl) rfl ?_
 refine A1 13 ?_
 refine E4 rfl ?_
 refine aP 14 rfl (qA rfl) rfl ?_
 refine A9 ?_
 refine E0 (rC rfl (A3 rfl rfl)) (rT rfl) ?_
 (exact M9.mk (by rw [if_neg (show ¬ k = 7 by omega)]; simp_all) (W6 G) (M6 zV zV))
 refine aP 6 rfl (qM rfl) rfl ?_
 refine B9 7 rfl rfl rfl ?_
 refine B9 8 rfl rfl rfl ?_
 refine B9 9 rfl rfl rfl ?_
 refine B9 10 rfl rfl rfl ?_
 refine B9 11 rfl rfl rfl ?_
 refine aP 12 rfl (O2 rfl rfl) rfl ?_
 refine A1 13 ?_
 refine E4 rfl ?_
 refine aP 14 rfl (qA rfl) rfl ?_
 refine A9 ?_
 refine E0 (rC rfl (A3 rfl rfl)) (rT rfl) ?_
 (exact M9.mk (by rw [if_neg (show ¬ k = 7 by omega)]; simp_all) (W6 G) (M6 zV zV))
theorem B6A (x y z : Ty) (hay : E5 y) (hr : B6 G (.mk 9 nm num ty fr lb ks) cells) (hsl : D0 G p 3 c 2 es) (hkl : E9 G [x, y, z] es) :
  Fn Tryz.prog 150 [.agg ⟨cells⟩, .slice p 3 c] [] G (M9 (T5 9 ty fr [x, y, z]) G) := by
 have hone := hr.one
 obtain ⟨tk, tks⟩ := ty
 obtain ⟨fk, fks⟩ := fr
 obtain ⟨pt, ct, pf, cf, pk, ck, ek, rfl, hk, hnum, hlb, hrty, hrfr, _, _⟩ := hr.open9
 obtain ⟨b0, o0, q0, d0, rfl, hat0, hre0, hg0⟩ := hsl.kidTy hkl (i := 0) zX zX
 obtain ⟨b1, o1, q1, d1, hp1, hat1, hre1, hg1⟩ := hsl.kidTy hkl (i := 1) zX zX
 obtain ⟨b2, o2, q2, d2, hp2, hat2, hre2, hg2⟩ := hsl.kidTy hkl (i := 2) zX zX
 cases hp1
 cases hp2
 simp only [List.getElem_cons_zero, List.getElem_cons_succ] at hat0 hre0 hat1 hre1 hat2 hre2
 have hT := P8 y G _ hay.small hre1
 have hS0 := fun G1 (hle : C1 G G1) => A2d x R8 G1 _ _ (hre0.mono hle) (W6 G1)
 have hS1 := fun G1 (hle : C1 G G1) => A2d y z G1 _ _ (hre1.mono hle) (hre2.mono hle)
 have hE : T5 9 (.mk tk tks) (.mk fk fks) [x, y, z] = if H9 x R8 = true ∧ H9 y z = true then some y else none := rfl
 rw [hE]
 generalize H9 x R8 = s0 at hS0 ⊢
 generalize H9 y z = s1 at hS1 ⊢
 refine C7 Tryz.func150 rfl Tryz.ntmps150 Tryz.results150 rfl ?_
 intro w0
 refine A4 ?_
 refine sE (D5 rfl rfl) rfl (fun b3 => ?_)
 refine sE (A8 rfl) rfl (fun b4 => ?_)
 refine I2 ?_
 refine C2 ?_
 refine A4 ?_
 refine sP (F0 rfl rfl zW) rfl rfl ?_
 refine A7 ?_
 refine sP (F0 rfl rfl zW) rfl rfl ?_
 refine A7 ?_
 refine sP (F0 rfl rfl zW) rfl rfl ?_
 refine A7 ?_
 refine sP (F0 rfl rfl zW) rfl rfl ?_
 refine A7 ?_
 refine sP (L9 rfl rfl zW) rfl rfl ?_
 refine A9 ?_
 refine D2 D3 rfl ?_
 refine H1 (i := 0) (l' := [tt,ff,ff,ff,ff,ff,ff,ff,ff,ff,ff,ff,ff,ff,ff,ff,ff,ff,ff,ff]) rfl C8 (qM rfl) rfl zU rfl rfl ?_
 refine aP 1 rfl (B1 (j := 1) rfl rfl rfl zX) rfl ?_
 refine aL 2 rfl (A5 rfl rfl (hat1 _) rfl) rfl ?_
 refine aP 4 rfl (qM rfl) rfl ?_
 refine aP 5 rfl (B1 (j := 0) rfl rfl rfl zX) rfl ?_
 refine aL 6 rfl (A5 rfl rfl (hat0 _) rfl) rfl ?_
 refine A1 3 ?_
 (refine E1 rfl rfl hT rfl rfl rfl (fun v G1 hle1 hh => ?_); obtain ⟨L7, F1, rfl, hs1, hn1⟩ := hh; obtain ⟨p1, c1, rfl, _⟩ := hs1.open; have hmr := hs1.R.mono (D7.le G1 G); have hS01 := hS0 G1 hle1; have hS11 := hS1 G1 hle1)
 refine A1 7 ?_
 refine L1 rfl rfl ((A1i _)) rfl rfl rfl ?_
 refine A1 8 ?_
 refine Q3 rfl rfl (hS01) rfl rfl rfl (fun h64 => ?_) (fun h64 => ?_)
 refine aP 9 rfl (qM rfl) rfl ?_
 refine aP 10 rfl (qM rfl) rfl ?_
 refine aP 11 rfl (B1 (j := 1) rfl rfl rfl zX) rfl ?_
 refine aL 12 rfl (A5 rfl rfl (At.mono' hle1 (hat1 [])) rfl) rfl ?_
 refine aP 13 rfl (qM rfl) rfl ?_
 refine aP 14 rfl (B1 (j := 2) rfl rfl rfl zX) rfl ?_
 refine aL 15 rfl (A5 rfl rfl (At.mono' hle1 (hat2 [])) rfl) rfl ?_
 refine A1 16 ?_
 refine L1 rfl rfl (hS11) rfl rfl rfl ?_
 refine aP 17 rfl (M4 rfl rfl) rfl ?_
 refine A1 18 ?_
 refine E4 rfl ?_
 refine aP 19 rfl (qA rfl) rfl ?_
 refine A9 ?_
 refine E0 (rC rfl (A3 rfl rfl)) (rT rfl) ?_
 (exact M9.mk (by simp_all) hmr hay)
 refine aP 9 rfl (qM rfl) rfl ?_
 refine B9 10 rfl rfl rfl ?_
 refine B9 11 rfl rfl rfl ?_
 refine B9 12 rfl rfl rfl ?_
 refine B9 13 rfl rfl rfl ?_
 refine B9 14 rfl rfl rfl ?_
 refine B9 15 rfl rfl rfl ?_
 refine B9 16 rfl rfl rfl ?_
 refine aP 17 rfl (O2 rfl rfl) rfl ?_
 refine A1 18 ?_
 refine E4 rfl ?_
 refine aP 19 rfl (qA rfl) rfl ?_
 refine A9 ?_
 refine E0 (rC rfl (A3 rfl rfl)) (rT rfl) ?_
 (exact M9.mk (by simp_all) hmr hay)
theorem B6B (x y : Ty) (hax : E5 x) (hay : E5 y) (hr : B6 G (.mk 10 nm num ty fr lb ks) cells) (hsl : D0 G p 2 c 2 es) (hkl : E9 G [x, y] es) :
  Fn Tryz.prog 150 [.agg ⟨cells⟩, .slice p 2 c] [] G (M9 (T5 10 ty fr [x, y]) G) := by
 have hone := hr.one
 obtain ⟨tk, tks⟩ := ty
 obtain ⟨fk, fks⟩ := fr
 obtain ⟨pt, ct, pf, cf, pk, ck, ek, rfl, hk, hnum, hlb, hrty, hrfr, _, _⟩ := hr.open9
 obtain ⟨b0, o0, q0, d0, rfl, hat0, hre0, hg0⟩ := hsl.kidTy hkl (i := 0) zX zX
 obtain ⟨b1, o1, q1, d1, hp1, hat1, hre1, hg1⟩ := hsl.kidTy hkl (i := 1) zX zX
 cases hp1
 simp only [List.getElem_cons_zero, List.getElem_cons_succ] at hat0 hre0 hat1 hre1
 have hE : T5 10 (.mk tk tks) (.mk fk fks) [x, y] = if M1 (.mk 5 [x, y]) = true then some (.mk 5 [x, y]) else none := rfl
 rw [hE]
 refine C7 Tryz.func150 rfl Tryz.ntmps150 Tryz.results150 rfl ?_
 intro w0
 refine A4 ?_
 refine sE (D5 rfl rfl) rfl (fun b3 => ?_)
 refine sE (A8 rfl) rfl (fun b4 => ?_)
 refine I2 ?_
 refine C2 ?_
 refine A4 ?_
 refine sP (F0 rfl rfl zW) rfl rfl ?_
 refine A7 ?_
 refine sP (F0 rfl rfl zW) rfl rfl ?_
 refine A7 ?_
 refine sP (F0 rfl rfl zW) rfl rfl ?_
 refine A7 ?_
 refine sP (F0 rfl rfl zW) rfl rfl ?_
 refine A7 ?_
 refine sP (F0 rfl rfl zW) rfl rfl ?_
 refine A7 ?_
 refine sP (L9 rfl rfl zW) rfl rfl ?_
 refine A9 ?_
 refine D2 D3 rfl ?_
 refine H1 (i := 0) (l' := [tt,ff,ff,ff,ff,ff,ff,ff,ff,ff,ff]) rfl C8 (qM rfl) rfl zU rfl rfl ?_
 refine aP 1 rfl (B1 (j := 0) rfl rfl rfl zX) rfl ?_
 refine aL 2 rfl (A5 rfl rfl (hat0 _) rfl) rfl ?_
 refine aP 3 rfl (qM rfl) rfl ?_
 refine aP 4 rfl (B1 (j := 1) rfl rfl rfl zX) rfl ?_
 refine aL 5 rfl (A5 rfl rfl (hat1 _) rfl) rfl ?_
 refine A1 6 ?_
 (refine E1 rfl rfl (A5p 5 x y G _ _ (.inr rfl) hax hay hre0 hre1) rfl rfl rfl (fun v G1 hle1 hh => ?_); obtain ⟨mc, rfl, hmr⟩ := hh; have hma := A10 (.inr rfl) hax hay; obtain ⟨p1, c1, e1, rfl, _⟩ := hmr.open)
 refine aP 7 rfl (pX rfl rfl) rfl ?_
 refine aP 8 rfl (pX rfl rfl) rfl ?_
 refine A1 9 ?_
 refine E4 rfl ?_
 refine aP 10 rfl (qA rfl) rfl ?_
 refine A9 ?_
 refine E0 (rC rfl (A3 rfl rfl)) (rT rfl) ?_
 (exact M9.mk rfl hmr hma)
theorem B6C (x y : Ty) (hax : E5 x) (hr : B6 G (.mk 6 nm num ty fr lb ks) cells) (hsl : D0 G p 2 c 2 es) (hkl : E9 G [x, y] es) :
  Fn Tryz.prog 150 [.agg ⟨cells⟩, .slice p 2 c] [] G (M9 (T5 6 ty fr [x, y]) G) := by
 have hone := hr.one
 obtain ⟨tk, tks⟩ := ty
 obtain ⟨fk, fks⟩ := fr
 obtain ⟨pt, ct, pf, cf, pk, ck, ek, rfl, hk, hnum, hlb, hrty, hrfr, _, _⟩ := hr.open9
 obtain ⟨b0, o0, q0, d0, rfl, hat0, hre0, hg0⟩ := hsl.kidTy hkl (i := 0) zX zX
 obtain ⟨b1, o1, q1, d1, hp1, hat1, hre1, hg1⟩ := hsl.kidTy hkl (i := 1) zX zX
 cases hp1
 simp only [List.getElem_cons_zero, List.getElem_cons_succ] at hat0 hre0 hat1 hre1
 have hE : T5 6 (.mk tk tks) (.mk fk fks) [x, y] = if x.k = 4 ∧ H9 (x.ks.getD 0 B4) y = true then some (x.ks.getD 1 B4) else none := rfl
 rw [hE]
 obtain ⟨xk, xks⟩ := x
 simp only [Ty.k, Ty.ks] at hat0 hre0
 show Fn _ _ _ _ _ (M9 (if xk = 4 ∧ H9 (xks.getD 0 B4) y = true then some (xks.getD 1 B4) else none) G)
 by_cases hx4 : xk = 4
 ·subst hx4
  obtain ⟨A, B, rfl, hA, hB⟩ := hax.kids2 (.inl rfl)
  obtain ⟨b3, o3, pA, cA, pB, cB, rfl, hatA, hreA, hatB, hreB⟩ := B8.kid2 hre0
  simp only [List.getD_cons_zero, List.getD_cons_succ, true_and]
  have hS0 := A2d A y G _ _ hreA hre1
  have hT := P8 B G _ hB.small hreB
  generalize H9 A y = s0 at hS0 ⊢
  refine C7 Tryz.func150 rfl Tryz.ntmps150 Tryz.results150 rfl ?_
  intro w0
  refine A4 ?_
  refine sE (D5 rfl rfl) rfl (fun b3 => ?_)
  refine sE (A8 rfl) rfl (fun b4 => ?_)
  refine I2 ?_
  refine C2 ?_
  refine A4 ?_
  refine sP (F0 rfl rfl zW) rfl rfl ?_
  refine A7 ?_
  refine sP (L9 rfl rfl zW) rfl rfl ?_
  refine A7 ?_
  refine D2 D3 rfl ?_
  refine H1 (i := 0) (l' := [tt,ff,ff,ff,ff,ff,ff,ff,ff,ff,ff,ff,ff,ff,ff,ff,ff,ff]) rfl C8 (qM rfl) rfl zU rfl rfl ?_
  refine aP 1 rfl (B1 (j := 0) rfl rfl rfl zX) rfl ?_
  refine aP 2 rfl (qF rfl) rfl ?_
  refine aL 3 rfl (S0 rfl rfl (At.sub (j := 0) (hat0 _) rfl)) rfl ?_
  refine aP 4 rfl (A0Z rfl rfl zW) rfl ?_
  refine aP 5 rfl (qM rfl) rfl ?_
  refine aP 6 rfl (qM rfl) rfl ?_
  refine aP 7 rfl (B1 (j := 0) rfl rfl rfl zX) rfl ?_
  refine aP 8 rfl (qF rfl) rfl ?_
  refine aL 9 rfl (S0 rfl rfl (At.sub (j := 1) (hat0 _) rfl)) rfl ?_
  refine aP 10 rfl (B1 (j := 0) rfl rfl rfl zX) rfl ?_
  refine aL 11 rfl (A5 rfl rfl (hatA _) rfl) rfl ?_
  refine aP 12 rfl (qM rfl) rfl ?_
  refine aP 13 rfl (B1 (j := 1) rfl rfl rfl zX) rfl ?_
  refine aL 14 rfl (A5 rfl rfl (hat1 _) rfl) rfl ?_
  refine A1 15 ?_
  refine Q3 rfl rfl (hS0) rfl rfl rfl (fun h49 => ?_) (fun h49 => ?_)
  refine aP 16 rfl (pNt rfl) rfl ?_
  refine aP 17 rfl (O2 rfl rfl) rfl ?_
  refine E7 ?_
  refine sP (B1 (j := 0) rfl rfl rfl zX) rfl rfl ?_
  refine F8 ?_
  refine sL (S0 rfl rfl (At.sub (j := 1) (hat0 _) rfl)) rfl rfl ?_
  refine sP (B1 (j := 1) rfl rfl rfl zX) rfl rfl ?_
  refine sL (A5 rfl rfl (hatB _) rfl) rfl rfl ?_
  (refine F9 rfl hT rfl rfl (fun v G1 hle1 hh => ?_); obtain ⟨L7, F1, rfl, hs1, hn1⟩ := hh; obtain ⟨p1, c1, rfl, _⟩ := hs1.open; have hmr := hs1.R.mono (D7.le G1 G))
  refine B5 ?_
  refine E0 (rC rfl (A3 rfl rfl)) (rT rfl) ?_
  (exact M9.yes (by rw [if_pos zT]) hmr hB)
  refine aP 16 rfl (pNf rfl) rfl ?_
  refine aP 17 rfl (O2 rfl rfl) rfl ?_
  refine N1 ?_
  refine E0 (rC rfl (A3 rfl rfl)) (rT rfl) ?_
  (exact M9.no (by rw [if_neg (by simp_all)]) (J8 _ ⟨by omega, by omega⟩) (M6 zW zW))
 ·rw [if_neg (fun h => hx4 h.1)]
  refine C7 Tryz.func150 rfl Tryz.ntmps150 Tryz.results150 rfl ?_
  intro w0
  refine A4 ?_
  refine sE (D5 rfl rfl) rfl (fun b3 => ?_)
  refine sE (A8 rfl) rfl (fun b4 => ?_)
  refine I2 ?_
  refine C2 ?_
  refine A4 ?_
  refine sP (F0 rfl rfl zW) rfl rfl ?_
  refine A7 ?_
  refine sP (L9 rfl rfl zW) rfl rfl ?_
  refine A7 ?_
  refine D2 D3 rfl ?_
  refine H1 (i := 0) (l' := [tt,ff,ff,ff,ff,ff,ff,ff,ff,ff,ff,ff,ff,ff,ff,ff,ff,ff]) rfl C8 (qM rfl) rfl zU rfl rfl ?_
  refine aP 1 rfl (B1 (j := 0) rfl rfl rfl zX) rfl ?_
  refine aP 2 rfl (qF rfl) rfl ?_
  refine aL 3 rfl (S0 rfl rfl (At.sub (j := 0) (hat0 _) rfl)) rfl ?_
  refine aP 4 rfl (A1C rfl rfl zW) rfl ?_
  refine aP 5 rfl (qM rfl) rfl ?_
  refine B9 6 rfl rfl rfl ?_
  refine B9 7 rfl rfl rfl ?_
  refine B9 8 rfl rfl rfl ?_
  refine B9 9 rfl rfl rfl ?_
  refine B9 10 rfl rfl rfl ?_
  refine B9 11 rfl rfl rfl ?_
  refine B9 12 rfl rfl rfl ?_
  refine B9 13 rfl rfl rfl ?_
  refine B9 14 rfl rfl rfl ?_
  refine B9 15 rfl rfl rfl ?_
  refine B9 16 rfl rfl rfl ?_
  refine aP 17 rfl (M4 rfl rfl) rfl ?_
  refine N1 ?_
  refine E0 (rC rfl (A3 rfl rfl)) (rT rfl) ?_
  (exact M9.no rfl (J8 _ ⟨by omega, by omega⟩) (M6 zW zW))
theorem B1k (k : Int) (hkk : k = 11 ∨ k = 12) (x : Ty) (hax : E5 x) (hr : B6 G (.mk k nm num ty fr lb ks) cells) (hsl : D0 G p 1 c 2 es) (hkl : E9 G [x] es) :
  Fn Tryz.prog 150 [.agg ⟨cells⟩, .slice p 1 c] [] G (M9 (T5 k ty fr [x]) G) := by
 have hone := hr.one
 obtain ⟨tk, tks⟩ := ty
 obtain ⟨fk, fks⟩ := fr
 obtain ⟨pt, ct, pf, cf, pk, ck, ek, rfl, hk, hnum, hlb, hrty, hrfr, _, _⟩ := hr.open9
 obtain ⟨b0, o0, q0, d0, rfl, hat0, hre0, hg0⟩ := hsl.kidTy hkl (i := 0) zX zX
 simp only [List.getElem_cons_zero] at hat0 hre0
 have hE : T5 k (.mk tk tks) (.mk fk fks) [x] = if x.k = 5 then some (x.ks.getD (k - 11).toNat B4) else none := by
  unfold T5
  rw [if_neg zW, if_neg zW, if_neg zW, if_neg zW, if_neg zW, if_neg zW]
  rfl
 rw [hE]
 obtain ⟨xk, xks⟩ := x
 simp only [Ty.k, Ty.ks] at hat0 hre0
 show Fn _ _ _ _ _ (M9 (if xk = 5 then some (xks.getD (k - 11).toNat B4) else none) G)
 by_cases hx4 : xk = 5
 ·subst hx4
  obtain ⟨A, B, rfl, hA, hB⟩ := hax.kids2 (.inr rfl)
  obtain ⟨b3, o3, pA, cA, pB, cB, rfl, hatA, hreA, hatB, hreB⟩ := B8.kid2 hre0
  rw [if_pos rfl]
  have hTA := P8 A G _ hA.small hreA
  have hTB := P8 B G _ hB.small hreB
  obtain ⟨i, hi⟩ : ∃ i : Nat, k - 11 = (i : Int) ∧ (i = 0 ∧ k = 11 ∨ i = 1 ∧ k = 12) := by
   rcases hkk with rfl | rfl
   ·exact ⟨0, by decide, .inl ⟨rfl, rfl⟩⟩
   ·exact ⟨1, by decide, .inr ⟨rfl, rfl⟩⟩
  obtain ⟨hi0, hi⟩ := hi
  rcases hi with ⟨rfl, rfl⟩ | ⟨rfl, rfl⟩
  ·refine C7 Tryz.func150 rfl Tryz.ntmps150 Tryz.results150 rfl ?_
   intro w0
   refine A4 ?_
   refine sE (D5 rfl rfl) rfl (fun b3 => ?_)
   refine sE (A8 rfl) rfl (fun b4 => ?_)
   refine I2 ?_
   refine C2 ?_
   refine A4 ?_
   refine sP (F0 rfl rfl zW) rfl rfl ?_
   refine A7 ?_
   refine sP (F0 rfl rfl zW) rfl rfl ?_
   refine A7 ?_
   refine sP (F0 rfl rfl zW) rfl rfl ?_
   refine A7 ?_
   refine sP (F0 rfl rfl zW) rfl rfl ?_
   refine A7 ?_
   refine sP (F0 rfl rfl zW) rfl rfl ?_
   refine A7 ?_
   refine sP (F0 rfl rfl zW) rfl rfl ?_
   refine I3 ?_
   refine sP (B1 (j := 0) rfl rfl rfl zX) rfl rfl ?_
   refine F8 ?_
   refine sL (S0 rfl rfl (At.sub (j := 0) (hat0 _) rfl)) rfl rfl ?_
   refine sP (A0Z rfl rfl zW) rfl rfl ?_
   refine A7 ?_
   refine D2 D3 rfl ?_
   refine H1 (i := 0) (l' := [tt,ff,ff,ff,ff,ff,ff,ff,ff,ff,ff,ff]) rfl C8 (qM rfl) rfl zU rfl rfl ?_
   refine aP 1 rfl (B1 (j := 0) rfl rfl rfl zX) rfl ?_
   refine aP 2 rfl (qF rfl) rfl ?_
   refine aL 3 rfl (S0 rfl rfl (At.sub (j := 1) (hat0 _) rfl)) rfl ?_
   refine aP 4 rfl (C0 rfl) rfl ?_
   refine aL 5 rfl (D4 rfl rfl) rfl ?_
   refine aP 6 rfl (O7 rfl rfl zW zW) rfl ?_
   refine aP 7 rfl (B1 (j := 0) rfl rfl rfl zX) rfl ?_
   refine aL 8 rfl (A5 rfl rfl (hatA _) rfl) rfl ?_
   refine A1 9 ?_
   (refine E1 rfl rfl hTA rfl rfl rfl (fun v G1 hle1 hh => ?_); obtain ⟨L7, F1, rfl, hs1, hn1⟩ := hh; obtain ⟨p1, c1, rfl, _⟩ := hs1.open; have hmr := hs1.R.mono (D7.le G1 G))
   refine A1 10 ?_
   refine E4 rfl ?_
   refine aP 11 rfl (qA rfl) rfl ?_
   refine B3 ?_
   refine E0 (rC rfl (A3 rfl rfl)) (rT rfl) ?_
   (exact M9.yes rfl hmr hA)
  ·refine C7 Tryz.func150 rfl Tryz.ntmps150 Tryz.results150 rfl ?_
   intro w0
   refine A4 ?_
   refine sE (D5 rfl rfl) rfl (fun b3 => ?_)
   refine sE (A8 rfl) rfl (fun b4 => ?_)
   refine I2 ?_
   refine C2 ?_
   refine A4 ?_
   refine sP (F0 rfl rfl zW) rfl rfl ?_
   refine A7 ?_
   refine sP (F0 rfl rfl zW) rfl rfl ?_
   refine A7 ?_
   refine sP (F0 rfl rfl zW) rfl rfl ?_
   refine A7 ?_
   refine sP (F0 rfl rfl zW) rfl rfl ?_
   refine A7 ?_
   refine sP (F0 rfl rfl zW) rfl rfl ?_
   refine A7 ?_
   refine sP (F0 rfl rfl zW) rfl rfl ?_
   refine I3 ?_
   refine sP (B1 (j := 0) rfl rfl rfl zX) rfl rfl ?_
   refine F8 ?_
   refine sL (S0 rfl rfl (At.sub (j := 0) (hat0 _) rfl)) rfl rfl ?_
   refine sP (A0Z rfl rfl zW) rfl rfl ?_
   refine A7 ?_
   refine D2 D3 rfl ?_
   refine H1 (i := 0) (l' := [tt,ff,ff,ff,ff,ff,ff,ff,ff,ff,ff,ff]) rfl C8 (qM rfl) rfl zU rfl rfl ?_
   refine aP 1 rfl (B1 (j := 0) rfl rfl rfl zX) rfl ?_
   refine aP 2 rfl (qF rfl) rfl ?_
   refine aL 3 rfl (S0 rfl rfl (At.sub (j := 1) (hat0 _) rfl)) rfl ?_
   refine aP 4 rfl (C0 rfl) rfl ?_
   refine aL 5 rfl (D4 rfl rfl) rfl ?_
   refine aP 6 rfl (O7 rfl rfl zW zW) rfl ?_
   refine aP 7 rfl (B1 (j := 1) rfl rfl rfl zX) rfl ?_
   refine aL 8 rfl (A5 rfl rfl (hatB _) rfl) rfl ?_
   refine A1 9 ?_
   (refine E1 rfl rfl hTB rfl rfl rfl (fun v G1 hle1 hh => ?_); obtain ⟨L7, F1, rfl, hs1, hn1⟩ := hh; obtain ⟨p1, c1, rfl, _⟩ := hs1.open; have hmr := hs1.R.mono (D7.le G1 G))
   refine A1 10 ?_
   refine E4 rfl ?_
   refine aP 11 rfl (qA rfl) rfl ?_
   refine B3 ?_
   refine E0 (rC rfl (A3 rfl rfl)) (rT rfl) ?_
   (exact M9.yes rfl hmr hB)
 ·rw [if_neg hx4]
  refine C7 Tryz.func150 rfl Tryz.ntmps150 Tryz.results150 rfl ?_
  intro w0
  refine A4 ?_
  refine sE (D5 rfl rfl) rfl (fun b3 => ?_)
  refine sE (A8 rfl) rfl (fun b4 => ?_)
  refine I2 ?_
  refine C2 ?_
  refine A4 ?_
  refine sP (F0 rfl rfl zW) rfl rfl ?_
  refine A7 ?_
  refine sP (F0 rfl rfl zW) rfl rfl ?_
  refine A7 ?_
  refine sP (F0 rfl rfl zW) rfl rfl ?_
  refine A7 ?_
  refine sP (F0 rfl rfl zW) rfl rfl ?_
  refine A7 ?_
  refine sP (F0 rfl rfl zW) rfl rfl ?_
  refine A7 ?_
  refine sP (F0 rfl rfl zW) rfl rfl ?_
  refine I3 ?_
  refine sP (B1 (j := 0) rfl rfl rfl zX) rfl rfl ?_
  refine F8 ?_
  refine sL (S0 rfl rfl (At.sub (j := 0) (hat0 _) rfl)) rfl rfl ?_
  refine sP (A1C rfl rfl zW) rfl rfl ?_
  refine N8 ?_
  refine E0 (rC rfl (A3 rfl rfl)) (rT rfl) ?_
  (exact M9.no rfl (J8 _ ⟨by omega, by omega⟩) (M6 zW zW))
theorem B6D (k : Int) (h : List Ty) (hk8 : k = 6 ∨ k = 7 ∨ k = 8 ∨ k = 9 ∨ k = 10 ∨ k = 11 ∨ k = 12 ∨ k = 14) (hop : F7 k = (h.length : Int)) (har : ∀ t ∈ h, E5 t) (hty : E5 ty) (hr : B6 G (.mk k nm num ty fr lb ks) cells) (hsl : D0 G p h.length c 2 es) (hkl : E9 G h es) :
  Fn Tryz.prog 150 [.agg ⟨cells⟩, .slice p h.length c] [] G (M9 (T5 k ty fr h) G) := by
 rcases hk8 with rfl | rfl | rfl | rfl | rfl | rfl | rfl | rfl
 ·match h, hop with
  | [x, y], _ => exact B6C nm num ty fr lb ks G cells p c es x y (har x zX) hr hsl hkl
 ·match h, hop with
  | [x, y], _ => exact B1j nm num ty fr lb ks G cells p c es 7 (.inl rfl) x y hr hsl hkl
 ·match h, hop with
  | [x, y], _ => exact B1j nm num ty fr lb ks G cells p c es 8 (.inr rfl) x y hr hsl hkl
 ·match h, hop with
  | [x, y, z], _ => exact B6A nm num ty fr lb ks G cells p c es x y z (har y zX) hr hsl hkl
 ·match h, hop with
  | [x, y], _ => exact B6B nm num ty fr lb ks G cells p c es x y (har x zX) (har y zX) hr hsl hkl
 ·match h, hop with
  | [x], _ => exact B1k nm num ty fr lb ks G cells p c es 11 (.inl rfl) x (har x zX) hr hsl hkl
 ·match h, hop with
  | [x], _ => exact B1k nm num ty fr lb ks G cells p c es 12 (.inr rfl) x (har x zX) hr hsl hkl
 ·match h, hop with
  | [x], _ => exact B6z nm num ty fr lb ks G cells p c es x hty hr hsl hkl
end
theorem B6E (cx : Cx) (k : Int) (nm : ByteArray) (num : Int) (ty fr : Ty) (lb : Int) (hk4 : k = 1 ∨ k = 2 ∨ k = 3 ∨ k = 4) (G : IM) (p : Option Addr) (n c : Nat) (cells : List Value) (hcv : cxV cx) (hx : R9 G cx p n c) (hr : B6 G (.mk k nm num ty fr lb []) cells) :
  Fn Tryz.prog 131 [.slice p n c, .agg ⟨cells⟩] [] G (M9 (C5 cx (.mk k nm num ty fr lb [])) G) := by
 have hone := hr.one
 have f1 : k = 1 → C5 cx (.mk k nm num ty fr lb []) = O9 cx nm := by rintro rfl; exact B6v hcv
 have f2 : k = 2 → C5 cx (.mk k nm num ty fr lb []) = some N2 := by rintro rfl; exact B6w
 have f3 : k = 3 ∨ k = 4 → C5 cx (.mk k nm num ty fr lb []) = some R8 := by rintro (rfl | rfl); exact B6x; exact B6y
 generalize C5 cx (.mk k nm num ty fr lb []) = R at f1 f2 f3 ⊢
 obtain ⟨tk, tks⟩ := ty
 obtain ⟨fk, fks⟩ := fr
 obtain ⟨pt, ct, pf, cf, q, cq, es, rfl, hk, hnum, hlb, hty, hfr, hsl, hkl⟩ := hr.open9
 refine C7 Tryz.func131 rfl Tryz.ntmps131 Tryz.results131 rfl ?_
 intro w0
 refine A4 ?_
 refine sE (D5 rfl rfl) rfl (fun b3 => ?_)
 refine sE (A8 rfl) rfl (fun b4 => ?_)
 refine I2 ?_
 refine C2 (tS (tR (sB (qE rfl rfl) rfl rfl (fun h18 => ?_) (fun h18 => ?_))))
 refine D9 ?_
 (refine F9 rfl (B53 G cx hcv p n c nm hx) rfl rfl (fun v G1 hle1 hh => ?_); obtain ⟨mt, mc, rfl, hmr, hma, hmu⟩ := hh; obtain ⟨p1, c1, e1, rfl, _⟩ := hmr.open)
 refine D9 ?_
 refine E0 (rC rfl (A3 rfl rfl)) (rT rfl) ?_
 (rw [f1 zW]; exact ⟨rfl, _, _, rfl, hmr, hma, hmu⟩)
 refine A7 ?_
 refine sB (qE rfl rfl) rfl rfl (fun h46 => ?_) (fun h46 => ?_)
 refine A7 ?_
 refine E6 rfl ((V8 _)) rfl rfl ?_
 refine B5 ?_
 refine E0 (rC rfl (A3 rfl rfl)) (rT rfl) ?_
 (rw [f2 zW]; exact M9.yes rfl (K0 _) (M6 zW zW))
 refine B5 ?_
 refine sB (qE rfl rfl) rfl rfl (fun h70 => ?_) (fun h70 => ?_)
 refine D9 ?_
 refine E6 rfl ((A1i _)) rfl rfl ?_
 refine B5 ?_
 refine E0 (rC rfl (A3 rfl rfl)) (rT rfl) ?_
 (rw [f3 zW]; exact M9.yes rfl (W6 _) (M6 zW zW))
 refine A9 ?_
 refine sP (L9 rfl rfl zW) rfl rfl ?_
 refine A7 ?_
 refine E6 rfl ((A1i _)) rfl rfl ?_
 refine B5 ?_
 refine E0 (rC rfl (A3 rfl rfl)) (rT rfl) ?_
 (rw [f3 zW]; exact M9.yes rfl (W6 _) (M6 zW zW))
theorem B6F : ∀ (e : Tm) (d : Int) (cx : Cx) (G : IM) (p : Option Addr) (n c : Nat) (cells : List Value), K8 40 13 e d = true → (n : Int) ≤ d → cxV cx → R9 G cx p n c → B6 G e cells →
  Fn Tryz.prog 104 [.slice p n c, .agg ⟨cells⟩] [] G (M9 (C5 cx e) G) := by
 refine Tm.ind fun k nm num ty fr lb ks ih d cx G p n c cells hv hnd hcv hx hr => ?_
 have hr0 := hr
 have hone := hr.one
 obtain ⟨hv1, hv2, hv3, hv4⟩ := Z5 hv
 have hvk := (A04 40 13 ks _).1 hv4
 have har := (X4.1 hv3).1
 have hop := A2C har
 obtain ⟨hta, hts⟩ := A25 hv3
 have hkr : 1 ≤ k ∧ k ≤ 14 := B0s (by rw [har]; omega)
 have hcv5 : k = 5 → cxV (cx ++ [(nm, ty)]) := fun hk => by have := B48 (k := k) (nm := nm) (ty := ty) hcv fun hk => (X4.1 hv3).2.2.2.2.2.1 (.inl hk); rwa [M7, if_pos hk] at this
 have h0 : k ≤ 4 → ks = [] := fun h => List.length_eq_zero_iff.1 (by
  have hk : k = 1 ∨ k = 2 ∨ k = 3 ∨ k = 4 := by omega
  rcases hk with rfl | rfl | rfl | rfl
  ·have : F7 1 = 0 := rfl; omega
  ·have : F7 2 = 0 := rfl; omega
  ·have : F7 3 = 0 := rfl; omega
  ·have : F7 4 = 0 := rfl; omega)
 have f0 := fun (h : k ≤ 4) => B6E cx k nm num ty fr lb zW G p n c cells hcv hx (by have := hr; rw [h0 h] at this; exact this)
 have f0' : k ≤ 4 → C5 cx (.mk k nm num ty fr lb ks) = C5 cx (.mk k nm num ty fr lb []) := fun h => by rw [h0 h]
 have f4 : ∀ (hk : k = 5) (hl : 0 < ks.length), C5 (cx ++ [(nm, ty)]) ks[0] = none → C5 cx (.mk k nm num ty fr lb ks) = none := fun hk hl h => by
  subst hk; obtain ⟨b, rfl⟩ := ks1 (hop.2.2 (.inl rfl)); exact B6t h
 have f5 : ∀ (t : Ty) (hk : k = 5) (hl : 0 < ks.length), C5 (cx ++ [(nm, ty)]) ks[0] = some t → C5 cx (.mk k nm num ty fr lb ks) = if M1 (.mk 4 [ty, t]) = true then some (.mk 4 [ty, t]) else none := fun t hk hl h => by
  subst hk; obtain ⟨b, rfl⟩ := ks1 (hop.2.2 (.inl rfl)); exact B6u h
 have f6 : k ≠ 5 → J6 cx ks = none → C5 cx (.mk k nm num ty fr lb ks) = none := fun hk h => A9U (by rw [M7, if_neg hk]; exact h)
 have f7 := fun (h : List Ty) (hk : k = 6 ∨ k = 7 ∨ k = 8 ∨ k = 9 ∨ k = 10 ∨ k = 11 ∨ k = 12 ∨ k = 14) (hu : J6 cx ks = some h) (hvh : ∀ u ∈ h, M1 u = true) => @B6s cx k nm num ty fr lb ks h hk har hu hvh
 have hkv : ∀ i (hi : i < ks.length) u, C5 cx ks[i] = some u → M1 u = true := fun i hi u hu => by
  have h1 := hvk i hi
  generalize ks[i] = a at h1 hu
  obtain ⟨ak, anm, anum, aty, afr, alb, aks⟩ := a
  exact A5b (fun h14 => (X4.1 (Z5 h1).2.2.1).2.2.2.2.2.1 zW) hu
 generalize C5 cx (.mk k nm num ty fr lb ks) = R at f0' f4 f5 f6 f7 ⊢
 obtain ⟨tk, tks⟩ := ty
 obtain ⟨fk, fks⟩ := fr
 obtain ⟨pt, ct, pf, cf, q, cq, es, rfl, hk, hnum, hlb, hty, hfr, hsl, hkl⟩ := hr.open9
 have hlen : ks.length ≤ 3 := by have := A1J k; omega
 refine C7 Tryz.func104 rfl Tryz.ntmps104 Tryz.results104 rfl ?_
 intro w0
 refine A4 ?_
 refine sE (D5 rfl rfl) rfl (fun b3 => ?_)
 refine sE (A8 rfl) rfl (fun b4 => ?_)
 refine I2 ?_
 refine C2 (tS (tS (tR (sB (qE rfl rfl) rfl rfl (fun h19 => ?_) (fun h19 => ?_)))))
 refine I3 ?_
 exact y26
 refine A7 ?_
 refine sB (qE rfl rfl) rfl rfl (fun h49 => ?_) (fun h49 => ?_)
 refine I3 ?_
 exact y26
 refine A7 ?_
 refine sB (qE rfl rfl) rfl rfl (fun h79 => ?_) (fun h79 => ?_)
 refine I3 ?_
 exact y26
 refine A9 ?_
 refine sB (qE rfl rfl) rfl rfl (fun h108 => ?_) (fun h108 => ?_)
 refine E7 ?_
 exact y26
 refine A7 ?_
 refine sB (qE rfl rfl) rfl rfl (fun h135 => ?_) (fun h135 => ?_)
 refine A9 ?_
 (have hl1 : ks.length = 1 := hop.2.2 zW; have hk5 : k = 5 := zW; obtain ⟨b, o, e, rfl, hl, hat, hre, hgb⟩ := hsl.kidTm hkl (i := 0) zW zW; have hMore := B58 G cx p n c nm (.mk tk tks) _ hx zW hty; refine D2 D3 rfl ?_)
 refine H1 (i := 0) (l' := [tt,ff,ff,ff,ff,ff,ff,ff,ff,ff,ff,ff,ff,ff,ff,ff,ff]) rfl C8 (qM rfl) rfl zU rfl rfl ?_
 refine aP 1 rfl (C0 rfl) rfl ?_
 refine aL 2 rfl (D4 rfl rfl) rfl ?_
 refine aP 3 rfl (C0 rfl) rfl ?_
 refine aL 4 rfl (A3 rfl rfl) rfl ?_
 refine aP 6 rfl (C0 rfl) rfl ?_
 refine aL 7 rfl (D4 rfl rfl) rfl ?_
 refine aP 8 rfl (B1 (j := 0) rfl rfl rfl zW) rfl ?_
 refine aL 9 rfl (A5 rfl rfl (hat _) hl) rfl ?_
 refine N3 (j := 5) (j' := 14) zU ?_ ?_
 (refine E1 rfl rfl hMore rfl rfl rfl (fun v G1 hle1 hh => ?_); obtain ⟨pm, cm, rfl, hxm⟩ := hh; have hreM := hre.mono hle1; have hLam := ih ks[0] (List.getElem_mem zW) (d + 1) _ G1 pm (n + 1) cm _ (hvk 0 zW) zW (hcv5 zW) hxm hreM; have htyM := hty.mono hle1)
 refine N3 (j := 10) (j' := 14) zU ?_ ?_
 focus (refine E1 rfl rfl hLam rfl rfl rfl (fun v G2 hle2 hh => ?_); obtain ⟨mt, mc, rfl, hmr, hma, hmu⟩ := hh; obtain ⟨p1, c1, e1, rfl, _⟩ := hmr.open; have htyN := htyM.mono hle2; rcases hE : C5 (cx ++ [(nm, Ty.mk tk tks)]) ks[0] with _ | mt2; rotate_left; obtain rfl := hmu _ hE; rotate_left; all_goals simp only [Option.isSome])
 refine aP 11 rfl (qM rfl) rfl ?_
 refine aP 12 rfl (pX rfl rfl) rfl ?_
 refine aP 13 rfl (pX rfl rfl) rfl ?_
 refine A1 14 ?_
 (refine D1 rfl (A8 rfl) rfl rfl ?_; rintro _ ⟨b159, rfl⟩)
 exact y27
 refine aP 11 rfl (qM rfl) rfl ?_
 refine aP 12 rfl (pX rfl rfl) rfl ?_
 refine aP 13 rfl (pX rfl rfl) rfl ?_
 refine A1 14 ?_
 (refine D1 rfl (A8 rfl) rfl rfl ?_; rintro _ ⟨b190, rfl⟩)
 exact y24
 (refine D1 rfl (A8 rfl) rfl rfl ?_; rintro _ ⟨b223, rfl⟩)
 refine A1 10 ?_
 focus (refine E1 rfl rfl hLam rfl rfl rfl (fun v G2 hle2 hh => ?_); obtain ⟨mt, mc, rfl, hmr, hma, hmu⟩ := hh; obtain ⟨p1, c1, e1, rfl, _⟩ := hmr.open; have htyN := htyM.mono hle2; rcases hE : C5 (cx ++ [(nm, Ty.mk tk tks)]) ks[0] with _ | mt2; rotate_left; obtain rfl := hmu _ hE; rotate_left; all_goals simp only [Option.isSome])
 refine aP 11 rfl (qM rfl) rfl ?_
 refine aP 12 rfl (pX rfl rfl) rfl ?_
 refine aP 13 rfl (pX rfl rfl) rfl ?_
 exact y27
 refine aP 11 rfl (qM rfl) rfl ?_
 refine aP 12 rfl (pX rfl rfl) rfl ?_
 refine aP 13 rfl (pX rfl rfl) rfl ?_
 exact y24
 (refine D1 rfl (A8 rfl) rfl rfl ?_; rintro _ ⟨b290, rfl⟩)
 refine A1 5 ?_
 (refine E1 rfl rfl hMore rfl rfl rfl (fun v G1 hle1 hh => ?_); obtain ⟨pm, cm, rfl, hxm⟩ := hh; have hreM := hre.mono hle1; have hLam := ih ks[0] (List.getElem_mem zW) (d + 1) _ G1 pm (n + 1) cm _ (hvk 0 zW) zW (hcv5 zW) hxm hreM; have htyM := hty.mono hle1)
 refine A1 10 ?_
 focus (refine E1 rfl rfl hLam rfl rfl rfl (fun v G2 hle2 hh => ?_); obtain ⟨mt, mc, rfl, hmr, hma, hmu⟩ := hh; obtain ⟨p1, c1, e1, rfl, _⟩ := hmr.open; have htyN := htyM.mono hle2; rcases hE : C5 (cx ++ [(nm, Ty.mk tk tks)]) ks[0] with _ | mt2; rotate_left; obtain rfl := hmu _ hE; rotate_left; all_goals simp only [Option.isSome])
 refine aP 11 rfl (qM rfl) rfl ?_
 refine aP 12 rfl (pX rfl rfl) rfl ?_
 refine aP 13 rfl (pX rfl rfl) rfl ?_
 exact y27
 refine aP 11 rfl (qM rfl) rfl ?_
 refine aP 12 rfl (pX rfl rfl) rfl ?_
 refine aP 13 rfl (pX rfl rfl) rfl ?_
 exact y24
 refine D9 ?_
 (refine J1 (C9 rfl rfl rfl zW zR rfl) rfl ?_; rintro _ ⟨b368, rfl⟩)
 refine D9 ?_
 refine C2 ?_
 (refine L4 (fun (x : Nat × Option Addr × Nat × List Ty × List (List Value) × IM) => ⟨[(9, .int .i64 x.1), (8, .slice x.2.1 x.1 x.2.2.1), (3, .pointer (some ⟨b3, 0, none⟩)), (4, .pointer (some ⟨b4, 0, none⟩)), (0, .slice p n c)], [.slc x.2.1 x.2.2.1 25 2 x.1 x.2.2.2.2.1.flatten, .blk b4 [.int .i64 0, .slice none 0 0], .blk b3 [.int .i64 k, .string nm, .int .i64 num, .int .i64 tk, .slice pt tks.length ct, .int .i64 fk, .slice pf fks.length cf, .int .i64 lb, .slice q ks.length cq]], x.2.2.2.2.2⟩) (fun x => x.1 ≤ ks.length ∧ C1 G x.2.2.2.2.2 ∧ x.2.2.2.1.length = x.1 ∧ E9 x.2.2.2.2.2 x.2.2.2.1 x.2.2.2.2.1 ∧ (∀ u ∈ x.2.2.2.1, E5 u) ∧ (∀ u ∈ x.2.2.2.1, M1 u = true) ∧ J6 cx (ks.take x.1) = some x.2.2.2.1) (fun x => ks.length - x.1) (0, some ⟨b368, 0, none⟩, 0, [], [], G) ?_ ?_ ?_)
 (simp only [J7]; exact E3)
 (exact ⟨by simp, C1.refl _, rfl, by simp [E9], by simp, by simp, by simp [J6]⟩)
 (rintro ⟨i, pn, cn, us, es', Gi⟩ ⟨hi, hle, hlu, hst, hau, hvu, hsu⟩; simp only [] at hi hle hlu hst hau hvu hsu ⊢; replace hsl := hsl.mono hle; replace hkl := hkl.mono hle; replace hx := hx.mono hle; replace hr0 := hr0.mono hle)
 refine B5 ?_
 refine sB (K6 rfl rfl) rfl rfl (fun h390 => ?_) (fun h390 => ?_)
 refine A7 ?_
 refine C2 ?_
 refine A7 ?_
 (obtain ⟨b, o, e, rfl, hl, hat, hre, hgb⟩ := hsl.kidTm hkl (i := i) zW zW; refine sP (B1 rfl rfl rfl zW) rfl rfl ?_)
 refine sL (A5 rfl rfl (hat _) hl) rfl rfl ?_
 focus (refine F9 rfl (ih ks[i] (List.getElem_mem zW) (d + 1) cx Gi p n c _ (hvk i zW) zW hcv hx hre) rfl rfl (fun v G2 hle2 hh => ?_); obtain ⟨u, uc, rfl, hru, hua, huu⟩ := hh; obtain ⟨p3, c3, e3, rfl, _⟩ := hru.open; rcases hE : C5 cx ks[i] with _ | u2; rotate_left; obtain rfl := huu _ hE; rotate_left; all_goals simp only [Option.isSome])
 refine B3 ?_
 refine sE (A8 rfl) rfl (fun b410 => ?_)
 refine A4F ?_
 refine E0 (rC rfl (A3 rfl rfl)) (rT rfl) ?_
 (rw [f6 zW (A6M zW hE)]; exact M9.no rfl (J8 _ ⟨by omega, by omega⟩) (M6 zW zW))
 refine B3 ?_
 refine sE (A8 rfl) rfl (fun b442 => ?_)
 refine P6 ?_
 (refine J1 (C9 rfl rfl rfl zW zR rfl) rfl ?_; rintro _ ⟨b460, rfl⟩)
 refine A2t rfl rfl rfl rfl rfl (fun _ _ => by repeat (first | exact Sw.here | apply Sw.there)) (R2 zP) rfl zQ zR zW rfl (fun pn' cn' => ?_)
 refine A7 ?_
 refine sP (K9 rfl rfl zW zW) rfl rfl ?_
 refine A4 ?_
 refine K3 (i + 1, pn', cn', us ++ [u2], es' ++ [[.int .i64 u2.k, .slice p3 u2.ks.length c3]], G2) ?_ ?_ ?_
 (simp only [J7]; exact E3)
 (dsimp only; exact ⟨by omega, hle.trans hle2, by simp [hlu], E9.snoc (hst.mono hle2) hru, A11 hau hua, A11 hvu (hkv i zW _ hE), A6L zW hsu hE⟩)
 (show ks.length - (i + 1) < ks.length - i; omega)
 refine N8 ?_
 (obtain rfl : i = ks.length := zW; rw [List.take_length] at hsu; refine S9 (cs := es'.flatten) zN (fun G3 hle3 hsl3 hno3 => ?_); have hst3 := hst.mono hle3; have hk8 : k = 6 ∨ k = 7 ∨ k = 8 ∨ k = 9 ∨ k = 10 ∨ k = 11 ∨ k = 12 ∨ k = 14 := zW; have hRes := B6D nm num (.mk tk tks) (.mk fk fks) lb ks G3 _ pn cn es' k us hk8 (by rw [hlu]; exact har) hau hta (hr0.mono hle3) (by rw [hlu]; exact D0.of hsl3 (by rw [hst3.len, hlu]) hst3.all (fun e he => (hst3.each e he).2)) hst3; rw [hlu] at hRes; refine F9 rfl hRes rfl rfl (fun v G4 hle4 hh => ?_); obtain ⟨mt, mc, rfl, hmr, hma, hmu⟩ := hh; obtain ⟨p1, c1, e1, rfl, _⟩ := hmr.open)
 refine B5 ?_
 refine E0 (rC rfl (A3 rfl rfl)) (rT rfl) ?_
 (rw [f7 us hk8 hsu hvu]; exact ⟨rfl, _, _, rfl, hmr, hma, hmu⟩)
theorem B6G (e : Tm) (G : IM) (cells : List Value) (hcnt : F4 e ≤ 4294967296) (hr : B6 G e cells) :
  Fn Tryz.prog 51 [.agg ⟨cells⟩] [] G (U9 (Y1 e) G) := by
 have hl := hr.len
 have hone := hr.one
 have hw := A8W e G cells hcnt hr
 have hT := fun h : K2 e = true => B6F e 1 [] G none 0 0 cells ((A1Y e).1 h).1 zW B47 (R9.nil G) hr
 have hy : K2 e = true → Y1 e = C5 [] e := fun h => by unfold Y1; rw [if_pos h]
 have hn : K2 e = false → Y1 e = none := fun h => by unfold Y1; rw [if_neg (by rw [h]; decide)]
 generalize Y1 e = R at hy hn ⊢
 refine C7 Tryz.func51 rfl Tryz.ntmps51 Tryz.results51 rfl ?_
 intro w0
 refine A4 ?_
 refine sE (D5 rfl rfl) rfl (fun b3 => ?_)
 refine sE (A8 rfl) rfl (fun b4 => ?_)
 refine A7 ?_
 refine sL (A5 rfl rfl (B7 zP) hl) rfl rfl ?_
 refine J0 rfl (hw) rfl rfl (fun h12 => ?_) (fun h12 => ?_)
 refine E7 ?_
 refine sL (A5 rfl rfl (B7 zP) hl) rfl rfl ?_
 (refine F9 rfl (hT zT) rfl rfl (fun v G1 hle1 hh => ?_); obtain ⟨mt, mc, rfl, hmr, hma, hmu⟩ := hh; obtain ⟨p1, c1, e1, rfl, _⟩ := hmr.open; have hmo := hy zT)
 refine A4 ?_
 (refine F9 rfl (B6b mt _ _ _ hmr) rfl rfl (fun v G2 hle2 hh => ?_); obtain ⟨mc2, rfl, hmr2⟩ := hh; obtain ⟨p2, c2, e2, rfl, _⟩ := hmr2.open)
 refine B5 ?_
 refine E0 (rC rfl (A3 rfl rfl)) (rT rfl) ?_
 (rw [hmo]; exact U9.sure hmu hmr2)
 refine J2 ?_
 refine E0 (rC rfl (A3 rfl rfl)) (rT rfl) ?_
 (exact U9.no (u := B4) (J8 _ ⟨by omega, by omega⟩) rfl (hn zT))
section
variable {k : Int} {nm : ByteArray} {num : Int} {ty fr : Ty} {lb : Int} {ks : List Tm}
end
theorem A4h (e : Tm) (a b : Ty) (l : Int) (G : IM) (ce ca cb : List Value) (hl : E8 l) (he : B6 G e ce) (ha : B8 G a ca) (hb : B8 G b cb) (hsa : a.small) (hsb : b.small) : Fn Tryz.prog 53 [.agg ⟨ce⟩, .agg ⟨ca⟩, .agg ⟨cb⟩, .int .i64 l] [] G (TmP (Q6 e a b l)) := by
 have hel := he.len
 have heo := he.one
 obtain ⟨v1, v2, v3, v4, v5, v6, v7, v8, v9, rfl⟩ := nine hel
 obtain ⟨ak, aks⟩ := a
 obtain ⟨bk, bks⟩ := b
 obtain ⟨pa, cca, ea, rfl, _⟩ := ha.open
 obtain ⟨pb, ccb, eb, rfl, _⟩ := hb.open
 refine C7 Tryz.func53 rfl Tryz.ntmps53 Tryz.results53 rfl ?_
 intro w0
 refine A4 ?_
 refine sE (D5 rfl rfl) rfl (fun b3 => ?_)
 refine sE (D5 rfl rfl) rfl (fun b4 => ?_)
 refine sE (D5 rfl rfl) rfl (fun b5 => ?_)
 refine sE (A8 rfl) rfl (fun b6 => ?_)
 refine B3 ?_
 refine D2 D3 rfl ?_
 refine M3 (i := 0) (l' := [tt,ff,ff,ff,ff,ff,ff,ff,ff]) rfl C8 (A3 rfl rfl) rfl zU rfl rfl ?_
 refine aL 2 rfl (A3 rfl rfl) rfl ?_
 refine aP 4 rfl (qM rfl) rfl ?_
 refine aL 5 rfl (A3 rfl rfl) rfl ?_
 refine N3 (j := 1) (j' := 6) zU ?_ ?_
 (refine E1 rfl rfl (P8 (.mk ak aks) _ _ hsa ha) rfl rfl rfl (fun v G1 hle1 hh => ?_); obtain ⟨L7, F1, rfl, hs1, hn1⟩ := hh; obtain ⟨p1, c1, rfl, _⟩ := hs1.open; have hC2 := P8 _ G1 _ hsb (hb.mono hle1))
 refine N3 (j := 3) (j' := 6) zU ?_ ?_
 (refine E1 rfl rfl hC2 rfl rfl rfl (fun v G2 hle2 hh => ?_); obtain ⟨cs2, F2, rfl, hs2, hn2⟩ := hh; obtain ⟨p2, c2, rfl, _⟩ := hs2.open; have hr1 := hs1.R.mono ((D7.le G1 _).trans hle2); have hr2 := hs2.R.mono (D7.le G2 G1); have hre := he.mono (hle1.trans hle2))
 refine A1 6 ?_
 (refine D1 rfl (C9 rfl rfl rfl zW zR rfl) rfl rfl ?_; rintro _ ⟨b20, rfl⟩)
 exact y25
 (refine D1 rfl (C9 rfl rfl rfl zW zR rfl) rfl rfl ?_; rintro _ ⟨b30, rfl⟩)
 exact y29
 (refine D1 rfl (C9 rfl rfl rfl zW zR rfl) rfl rfl ?_; rintro _ ⟨b42, rfl⟩)
 refine A1 1 ?_
 (refine E1 rfl rfl (P8 (.mk ak aks) _ _ hsa ha) rfl rfl rfl (fun v G1 hle1 hh => ?_); obtain ⟨L7, F1, rfl, hs1, hn1⟩ := hh; obtain ⟨p1, c1, rfl, _⟩ := hs1.open; have hC2 := P8 _ G1 _ hsb (hb.mono hle1))
 exact y29
theorem B6H {G G1 : IM} {k : Int} {nm : ByteArray} {num : Int} {ty fr : Ty} {lb : Int} {ks : List Tm} {cells : List Value} {F : List Nat} (hs : Q4 (D7 G1 G) (.mk k nm num ty fr lb ks) cells F) (hn : F.Nodup) (hle : C1 G G1) (h0 : 0 < ks.length) :
  ∃ (p7 : Option Addr) (c7 : Nat) (p8 : Option Addr) (c8 bc c1 : Nat) (A C : List Value) (es1 : List (List Value)), cells = [.int .i64 k, .string nm, .int .i64 num, .int .i64 ty.k, .slice p7 ty.ks.length c7, .int .i64 fr.k, .slice p8 fr.ks.length c8, .int .i64 lb, .slice (some ⟨bc, A.length, none⟩) ks.length c1] ∧
   G1 bc = some (A ++ (es1.flatten ++ C)) ∧ G bc = none ∧ es1.length = ks.length ∧ (∀ e ∈ es1, e.length = 9) ∧ ks.length ≤ c1 ∧ c1 ≤ maxLen ∧ C1 G (Wo G1 [bc]) ∧
   B8 (Wo G1 [bc]) ty [.int .i64 ty.k, .slice p7 ty.ks.length c7] ∧ B8 (Wo G1 [bc]) fr [.int .i64 fr.k, .slice p8 fr.ks.length c8] := by
 simp only [Q4] at hs
 obtain ⟨tc, fc, p1, c1, es1, Ft, Ff, Fs, rfl, _, _, _, ht1, hf1, hsl1, hkl1, rfl, hg1⟩ := hs
 obtain ⟨p7, c7, rfl, _⟩ := ht1.open
 obtain ⟨p8, c8, rfl, _⟩ := hf1.open
 obtain ⟨bc, A, C, rfl, hgb⟩ := hsl1.sl.blk (fun h1 => by have hq := hsl1.sl.1; rw [h1] at hq; simp at hq; omega)
 have hGb : G bc = none := D7.out (by rw [hgb]; simp)
 rw [List.nodup_append, List.nodup_append] at hn
 obtain ⟨n1, ⟨n2, _, d2⟩, d3⟩ := hn
 have hbt : ∀ x ∈ Ft, x ∉ [bc] := fun x hx hb => d3 x hx x (by simp at hb; subst hb; simp [J9]) rfl
 have hbf : ∀ x ∈ Ff, x ∉ [bc] := fun x hx hb => d2 x hx x (by simp at hb; subst hb; simp [J9]) rfl
 have hm : C1 (Wo (D7 G1 G) [bc]) (Wo G1 [bc]) := by
  intro x l hx
  obtain ⟨h1, h2⟩ := Wo.get hx
  rw [Wo.at h2]
  exact D7.le _ _ _ _ h1
 exact ⟨p7, c7, p8, c8, bc, c1, A, C, es1, rfl, D7.le _ _ _ _ hgb, hGb, hkl1.R.len, hkl1.R.all, hsl1.sl.2.1, hsl1.sl.2.2.1, Wo.keep hle (fun b hb => by simp at hb; subst hb; exact hGb), ((ht1.wo hbt).R).mono hm, ((hf1.wo hbf).R).mono hm⟩
theorem B6I {H G9 : IM} {k : Int} {nm : ByteArray} {num : Int} {ty fr : Ty} {lb : Int} {us : List Tm} {es : List (List Value)} {A C : List Value} {bc c1 n c7 c8 : Nat} {p7 p8 : Option Addr} (hk : E8 k) (hnum : E8 num) (hlb : E8 lb)
  (hty : B8 H ty [.int .i64 ty.k, .slice p7 ty.ks.length c7]) (hfr : B8 H fr [.int .i64 fr.k, .slice p8 fr.ks.length c8]) (hle : C1 H G9) (hb : G9 bc = some (A ++ (es.flatten ++ C))) (hr : H3 G9 us es) (hl : us.length = n) (hc : n ≤ c1) (hm : c1 ≤ maxLen) :
  B6 G9 (.mk k nm num ty fr lb us) [.int .i64 k, .string nm, .int .i64 num, .int .i64 ty.k, .slice p7 ty.ks.length c7, .int .i64 fr.k, .slice p8 fr.ks.length c8, .int .i64 lb, .slice (some ⟨bc, A.length, none⟩) n c1] := by
 subst hl
 obtain ⟨tk, tks⟩ := ty
 obtain ⟨fk, fks⟩ := fr
 exact B6.put hk hnum hlb (hty.mono hle) (hfr.mono hle) rfl (D0.of (Sl.of_blk (by rw [A1E hr.all, hr.len]) hc hm hb) hr.len hr.all (fun e he => by obtain ⟨q, hq⟩ := List.getElem?_of_mem he; exact (hr.inv hq K5).2.one)) hr
theorem B6J {es D : List (List Value)} {i : Nat} {y : List Value} (hl : es.length = i) (hi : i < D.length) : (es ++ D.drop i).set i y = (es ++ [y]) ++ D.drop (i + 1) := by
 rw [List.set_append_right _ _ zW, hl, Nat.sub_self, List.drop_eq_getElem_cons hi, List.set_cons_zero, List.append_assoc]
 rfl
theorem B6K {es D : List (List Value)} {i sz : Nat} (h1 : ∀ e ∈ es, e.length = sz) (h2 : ∀ e ∈ D, e.length = sz) : ∀ e ∈ es ++ D.drop i, e.length = sz := by
 intro e he
 rcases List.mem_append.1 he with he | he
 ·exact h1 e he
 ·exact h2 e (List.mem_of_mem_drop he)
theorem B6L {A C : List Value} {es D : List (List Value)} {vs : List Value} {i sz : Nat} (hl : es.length = i) (hi : i < D.length) (h1 : ∀ e ∈ es, e.length = sz) (h2 : ∀ e ∈ D, e.length = sz) (hv : vs.length = sz) :
  Q2 (A ++ ((es ++ D.drop i).flatten ++ C)) (A.length + i * sz) vs = some (A ++ (((es ++ [vs]) ++ D.drop (i + 1)).flatten ++ C)) := by
 rw [B4R (by rw [List.length_append, List.length_drop]; omega) (B6K h1 h2) hv, B6J hl hi]
theorem B6M {g : Tm → Tm} {ks : List Tm} {i : Nat} (h : i < ks.length) : (O0 g ks).take (i + 1) = (O0 g ks).take i ++ [Q0 g ks[i]] := by
 rw [A3P, List.take_succ_eq_append_getElem (by rw [List.length_map]; exact h), List.getElem_map]
theorem B6N (nm : ByteArray) (num : Int) (ty fr : Ty) (lb : Int) (a : Tm) (G : IM) (cells : List Value) (hr : B6 G (.mk 14 nm num ty fr lb [a]) cells) :
  Fn Tryz.prog 61 [.agg ⟨cells⟩] [] G (J5 (.bool (decide (a.k = 14 ∧ a.ty.k = 1 ∧ fr.k = 1) && H9 a.fr ty)) G) := by
 obtain ⟨tk, tks⟩ := ty
 obtain ⟨fk, fks⟩ := fr
 obtain ⟨ak, anm, anum, ⟨atk, atks⟩, ⟨afk, afks⟩, alb, aks⟩ := a
 obtain ⟨pt, ct, pf, cf, p, c, es, rfl, hk, hnum, hlb, hty, hfr, hsl, hkl⟩ := hr.open9
 obtain ⟨bx, ox, e, rfl, hl, hat, hre, hgb⟩ := hsl.kidTm hkl (i := 0) zX zX
 have heo := hre.one
 simp only [List.getElem_cons_zero] at hre
 obtain ⟨apt, act, apf, acf, ap, ac, aes, rfl, hak, hanum, halb, haty, hafr, hasl, hakl⟩ := hre.open9
 have hS := A2d (.mk afk afks) (.mk tk tks) G _ _ hafr hty
 simp only [show ∀ a b, (Ty.mk a b).k = a from fun _ _ => rfl, show ∀ a b c d e f g, (Tm.mk a b c d e f g).k = a from fun _ _ _ _ _ _ _ => rfl, show ∀ a b c d e f g, (Tm.mk a b c d e f g).ty = d from fun _ _ _ _ _ _ _ => rfl, show ∀ a b c d e f g, (Tm.mk a b c d e f g).fr = e from fun _ _ _ _ _ _ _ => rfl]
 generalize H9 (.mk afk afks) (.mk tk tks) = s at hS ⊢
 refine C7 Tryz.func61 rfl Tryz.ntmps61 Tryz.results61 rfl ?_
 intro w0
 refine A4 ?_
 refine sE (D5 rfl rfl) rfl (fun b3 => ?_)
 refine B5 ?_
 refine sP (B1 (j := 0) rfl rfl rfl zX) rfl rfl ?_
 refine sL (A5 rfl rfl (hat _) rfl) rfl rfl ?_
 refine sE (A8 rfl) rfl (fun b13 => ?_)
 refine sS rfl rfl rfl rfl heo rfl ?_ (hu := by exact C6 rfl)
 refine A7 ?_
 refine sB (qE rfl rfl) rfl rfl (fun h21 => ?_) (fun h21 => ?_)
 refine C3 ?_
 refine sB (qE rfl rfl) rfl rfl (fun h26 => ?_) (fun h26 => ?_)
 refine A9 ?_
 refine sB (qE rfl rfl) rfl rfl (fun h32 => ?_) (fun h32 => ?_)
 refine A7 ?_
 refine E6 rfl (hS) rfl rfl ?_
 refine A7 ?_
 (exact ⟨rfl, by rw [decide_eq_true ⟨by omega, by omega, by omega⟩]; rfl, rfl⟩)
 refine J2 ?_
 (exact ⟨rfl, by rw [decide_eq_false zW]; rfl, rfl⟩)
 refine A01 ?_
 (exact ⟨rfl, by rw [decide_eq_false zW]; rfl, rfl⟩)
 refine A1U ?_
 (exact ⟨rfl, by rw [decide_eq_false zW]; rfl, rfl⟩)
theorem B6O {p : Prop} [Decidable p] {b s : Bool} (h : (decide p && b) = s) (hs : s = true) : p := by
 subst hs
 rw [Bool.and_eq_true, decide_eq_true_eq] at h
 exact h.1
theorem B6P {nm : ByteArray} {num : Int} {ty fr : Ty} {lb : Int} {a : Tm} {b : Bool} (h : H9 fr ty = false) (hb : (decide (a.k = 14 ∧ a.ty.k = 1 ∧ fr.k = 1) && H9 a.fr ty) = b) : O5 (.mk 14 nm num ty fr lb [a]) = if b = true then kd a.ks 0 else .mk 14 nm num ty fr lb [a] := by
 have hs : H9 a.fr ty = true ↔ H9 ty a.fr = true := by rw [S3, S3]; exact ⟨fun h => h.symm, fun h => h.symm⟩
 cases b with
 | true =>
  rw [Bool.and_eq_true, decide_eq_true_eq] at hb
  rw [if_pos rfl, B1f h ⟨hb.1.2.2, hb.1.1, hb.1.2.1, hs.1 hb.2⟩]
 | false =>
  rw [if_neg zV, B1g h]
  rintro ⟨h1, h2, h3, h4⟩
  rw [decide_eq_true ⟨h2, h3, h1⟩, hs.2 h4] at hb
  cases hb
theorem B6Q (k : Int) (nm : ByteArray) (num : Int) (ty fr : Ty) (lb : Int) (hk14 : k ≠ 14) (G : IM) (cells : List Value) (hts : (Tm.mk k nm num ty fr lb []).small) (hr : B6 G (.mk k nm num ty fr lb []) cells) :
  Fn Tryz.prog 26 [.agg ⟨cells⟩] [] G (TmP (.mk k nm num ty fr lb [])) := by
 have hone := hr.one
 have hl9 := hr.len
 have hC := A4R _ G cells hts hr
 obtain ⟨tk, tks⟩ := ty
 obtain ⟨fk, fks⟩ := fr
 obtain ⟨pt, ct, pf, cf, p, c, es, rfl, hk, hnum, hlb, hty, hfr, hsl, hkl⟩ := hr.open9
 refine C7 Tryz.func26 rfl Tryz.ntmps26 Tryz.results26 rfl ?_
 intro w0
 refine A4 ?_
 refine sE (D5 rfl rfl) rfl (fun b3 => ?_)
 refine sE (A8 rfl) rfl (fun b4 => ?_)
 refine A9 ?_
 (refine F9 rfl hC rfl rfl (fun v G1 hle1 hh => ?_); obtain ⟨cells1, F1, rfl, hs1, hn1⟩ := hh; have hru := hs1.R.mono (D7.le _ _); have hul := hru.len; have huo := hru.one)
 refine sE (A8 rfl) rfl (fun b11 => ?_)
 refine sS rfl rfl rfl hul huo rfl ?_ (hu := by exact C6 hul.symm)
 refine E7 ?_
 refine C2 ?_
 (refine L4 (fun (_ : Nat) => ⟨[(4, .int .i64 0), (1, .pointer (some ⟨b3, 0, none⟩)), (2, .pointer (some ⟨b4, 0, none⟩)), (3, .pointer (some ⟨b11, 0, none⟩))], [.blk b11 cells1, .blk b4 [.int .i64 0, .string ⟨⟨[]⟩⟩, .int .i64 0, .int .i64 0, .slice none 0 0, .int .i64 0, .slice none 0 0, .int .i64 0, .slice none 0 0], .blk b3 [.int .i64 k, .string nm, .int .i64 num, .int .i64 tk, .slice pt tks.length ct, .int .i64 fk, .slice pf fks.length cf, .int .i64 lb, .slice p 0 c]], G1⟩) (fun _ => True) (fun _ => 0) 0 ?_ ?_ ?_)
 ·exact E3
 ·trivial
 ·(rintro (_ : Nat) _)
  refine B5 ?_
  refine sP (A4A rfl rfl zW) rfl rfl ?_
  refine D9 ?_
  refine C2 ?_
  refine C3 ?_
  refine sP (A1C rfl rfl zW) rfl rfl ?_
  refine A7 ?_
  refine sL (A5 rfl rfl (B7 zP) hul) rfl rfl ?_
  refine sS rfl rfl rfl hul huo rfl ?_ (hu := by exact C6 hul.symm)
  refine A9 ?_
  refine L0 (rC rfl (A5 rfl rfl (B7 zP) hul)) ?_
  (exact ⟨rfl, cells1, rfl, hru⟩)
theorem B6R : ∀ (t : Tm) (G : IM) (cells : List Value), L7 t → t.small → B6 G t cells → Fn Tryz.prog 26 [.agg ⟨cells⟩] [] G (TmP (Q0 O5 t)) := by
 refine Tm.ind fun k nm num ty fr lb ks ih G cells hq hts hr => ?_
 by_cases hk0 : ks = []
 ·subst hk0
  have hk14 : k ≠ 14 := fun h => by obtain ⟨a, h1, _⟩ := A2L hq h; cases h1
  rw [show Q0 O5 (.mk k nm num ty fr lb []) = O5 (.mk k nm num ty fr lb []) by rw [Q0, O0], A7h hk14]
  exact B6Q k nm num ty fr lb hk14 G cells hts hr
 have h0 : 0 < ks.length := List.length_pos_iff.2 hk0
 have hone := hr.one
 have hC := A4R _ G cells hts hr
 have hqL : Z9 ks := by rw [L7] at hq; exact hq.2
 have hqS : Z9 (O0 O5 ks) := A5q ks hqL
 have hks : Tm.smallL ks := by rw [Tm.small] at hts; exact hts.2.2.2.2
 have hM : Q0 O5 (.mk k nm num ty fr lb ks) = O5 (.mk k nm num ty fr lb (O0 O5 ks)) := by rw [Q0]
 have hml : (O0 O5 ks).length = ks.length := by rw [A3P, List.length_map]
 have hno := @A7h k nm num ty fr lb (O0 O5 ks)
 rw [hM]
 clear hM
 obtain ⟨tk, tks⟩ := ty
 obtain ⟨fk, fks⟩ := fr
 obtain ⟨pt, ct, pf, cf, p, c, es, rfl, hk, hnum, hlb, hty, hfr, hsl, hkl⟩ := hr.open9
 have hn := hsl.le
 refine C7 Tryz.func26 rfl Tryz.ntmps26 Tryz.results26 rfl ?_
 intro w0
 refine A4 ?_
 refine sE (D5 rfl rfl) rfl (fun b3 => ?_)
 refine sE (A8 rfl) rfl (fun b4 => ?_)
 refine A9 ?_
 (refine F9 rfl hC rfl rfl (fun v G1 hle1 hh => ?_); obtain ⟨cells1, F1, rfl, hs1, hn1⟩ := hh; obtain ⟨p7, c7, p8, c8, bc, c1, A, C, es1, rfl, hgb, hGb, hel, hea, hc1, hm1, hGle, hrt, hrf⟩ := B6H hs1 hn1 hle1 h0; simp only [Ty.k, Ty.ks] at hrt hrf ⊢)
 refine sE (A8 rfl) rfl (fun b11 => ?_)
 refine D9 ?_
 refine C2 ?_
 (refine B2Z [(bc, A ++ (es1.flatten ++ C))] zX (by simp only [List.mem_singleton, forall_eq]; exact ⟨hgb, hGb⟩) ?_; refine L4 (fun (x : Nat × List (List Value) × IM) => ⟨[(4, .int .i64 x.1), (1, .pointer (some ⟨b3, 0, none⟩)), (2, .pointer (some ⟨b4, 0, none⟩)), (3, .pointer (some ⟨b11, 0, none⟩))], [.blk bc (A ++ ((x.2.1 ++ es1.drop x.1).flatten ++ C)), .blk b11 [.int .i64 k, .string nm, .int .i64 num, .int .i64 tk, .slice p7 tks.length c7, .int .i64 fk, .slice p8 fks.length c8, .int .i64 lb, .slice (some ⟨bc, A.length, none⟩) ks.length c1], .blk b4 [.int .i64 0, .string ⟨⟨[]⟩⟩, .int .i64 0, .int .i64 0, .slice none 0 0, .int .i64 0, .slice none 0 0, .int .i64 0, .slice none 0 0], .blk b3 [.int .i64 k, .string nm, .int .i64 num, .int .i64 tk, .slice pt tks.length ct, .int .i64 fk, .slice pf fks.length cf, .int .i64 lb, .slice p ks.length c]], x.2.2⟩) (fun x => x.1 ≤ ks.length ∧ C1 (Wo G1 [bc]) x.2.2 ∧ H3 x.2.2 ((O0 O5 ks).take x.1) x.2.1) (fun x => ks.length - x.1) (0, [], Wo G1 [bc]) ?_ ?_ ?_)
 (simp only [J7]; exact E3)
 (exact ⟨Nat.zero_le _, C1.refl _, by simp only [List.take_zero, H3]⟩)
 (rintro ⟨(i : Nat), es', Gi⟩ ⟨hi, hle, hst⟩; simp only [] at hi hle hst ⊢; have hsL : es'.length = i := (by rw [hst.len, List.length_take, hml]; omega))
 refine B5 ?_
 refine sB (K6 rfl rfl) rfl rfl (fun h33 => ?_) (fun h33 => ?_)
 refine A7 ?_
 refine C2 ?_
 (have hiK : i < ks.length := zW; obtain ⟨b0, o0, e0, hp0, hl0, hat0, hre0, hgb0⟩ := (hsl.mono (hGle.trans hle)).kidTm (hkl.mono (hGle.trans hle)) (i := i) hiK hiK; subst hp0; have hih := ih ks[i] (List.getElem_mem hiK) Gi e0 (B1a hqL _ (List.getElem_mem hiK)) (Tm.smallL_mem hks _ (List.getElem_mem hiK)) hre0; refine D2 D3 rfl ?_)
 refine H1 (i := 0) (l' := [tt,ff,ff,ff,ff,ff,ff,ff,ff,ff,ff]) rfl C8 (C0 rfl) rfl zU rfl rfl ?_
 refine aL 1 rfl (D4 rfl rfl) rfl ?_
 refine aP 2 rfl (qM rfl) rfl ?_
 refine aP 3 rfl (C0 rfl) rfl ?_
 refine aL 4 rfl (D4 rfl rfl) rfl ?_
 refine aP 5 rfl (qM rfl) rfl ?_
 refine aP 6 rfl (B1 (j := i) rfl rfl rfl zW) rfl ?_
 refine aL 7 rfl (A5 rfl rfl (hat0 _) hl0) rfl ?_
 refine A1 8 ?_
 (refine E1 rfl rfl hih rfl rfl rfl (fun v G2 hle2 hh => ?_); obtain ⟨yc, rfl, hry⟩ := hh; have hly := hry.len; have hoy := hry.one; have hsn := H3.snoc (hst.mono hle2) hry; rw [← B6M zW] at hsn)
 refine aP 9 rfl (B1 (j := i) rfl rfl rfl zW) rfl ?_
 refine A1 10 ?_
 refine N9 rfl rfl rfl rfl hly hoy rfl rfl zU zO (B6L hsL (by rw [hel]; omega) hst.all hea hly) ?_
 refine A9 ?_
 refine sP (K9 rfl rfl zW zW) rfl rfl ?_
 refine A4 ?_
 refine K3 (i + 1, es' ++ [yc], G2) ?_ ?_ ?_
 (simp only [J7]; exact E3)
 (dsimp only; exact ⟨by omega, hle.trans hle2, hsn⟩)
 (show ks.length - (i + 1) < ks.length - i; omega)
 refine D9 ?_
 refine C2 ?_
 refine tS ?_
 (have hik : i = ks.length := zW; subst hik; rw [List.drop_of_length_le (Nat.le_of_eq hel), List.append_nil]; rw [List.take_of_length_le (Nat.le_of_eq hml)] at hst; refine A4G (bs := [(bc, A ++ (es'.flatten ++ C))]) (Pk.perm zN) (fun hn9 hd9 hle9 => ?_); have hro := B6I (nm := nm) hk hnum hlb hrt hrf (hle.trans hle9) (Wi.in hn9 List.mem_cons_self) (hst.mono hle9) hml hc1 hm1; have hS := A2d (.mk fk fks) (.mk tk tks) _ _ _ (hfr.mono (hGle.trans (hle.trans hle9))) (hty.mono (hGle.trans (hle.trans hle9))))
 refine B3 ?_
 refine sB (R7 rfl rfl) rfl rfl (fun h82 => ?_) (fun h82 => ?_)
 refine J2 ?_
 refine L0 (rC rfl (A3 rfl rfl)) ?_
 (rw [hno zW]; exact ⟨rfl, _, rfl, hro⟩)
 refine I2 ?_
 (have hk14 : k = 14 := zW; subst hk14; obtain ⟨a, ha, hqa⟩ := A2L (k := 14) (nm := nm) (num := num) (ty := .mk tk tks) (fr := .mk fk fks) (lb := lb) (ks := O0 O5 ks) (by rw [L7]; exact ⟨fun h => by rw [hml]; (rw [L7] at hq; exact hq.1 h), hqS⟩) rfl; rw [ha] at hro hno hml ⊢; have hml1 : 1 = ks.length := hml; have hid := @B1e nm num (.mk tk tks) (.mk fk fks) lb a; have hof := @B6P nm num (.mk tk tks) (.mk fk fks) lb a; have hBk := B6N nm num (.mk tk tks) (.mk fk fks) lb a _ _ hro; obtain ⟨pt9, ct9, pf9, cf9, p9, c9, es9, hcc, _, _, _, _, _, hsl9, hkl9⟩ := hro.open9; simp only [Ty.k, Ty.ks, List.cons.injEq, Value.slice.injEq, true_and, and_true] at hcc; obtain ⟨_, _, rfl, hn9, rfl⟩ := hcc; obtain ⟨bx, ox, e, hpx, hlx, hatx, hrx, hgx⟩ := hsl9.kidTm hkl9 (i := 0) zX zX; cases hpx; have hox := hrx.one; simp only [List.getElem_cons_zero] at hrx; obtain ⟨ak, anm, anum, ⟨atk, atks⟩, ⟨afk, afks⟩, alb, aks⟩ := a; obtain ⟨apt, act, apf, acf, ap, ac, aes, rfl, hak, hanum, halb, haty, hafr, hasl, hakl⟩ := hrx.open9; obtain ⟨s1, hs1⟩ : ∃ s, H9 (.mk fk fks) (.mk tk tks) = s := ⟨_, rfl⟩; obtain ⟨s2, hs2⟩ : ∃ s, (decide (ak = 14 ∧ atk = 1 ∧ fk = 1) && H9 (.mk afk afks) (.mk tk tks)) = s := ⟨_, rfl⟩; replace hof := hof (b := s2); simp only [show ∀ a b, (Ty.mk a b).k = a from fun _ _ => rfl, show ∀ a b c d e f g, (Tm.mk a b c d e f g).k = a from fun _ _ _ _ _ _ _ => rfl, show ∀ a b c d e f g, (Tm.mk a b c d e f g).ty = d from fun _ _ _ _ _ _ _ => rfl, show ∀ a b c d e f g, (Tm.mk a b c d e f g).fr = e from fun _ _ _ _ _ _ _ => rfl, show ∀ a b c d e f g, (Tm.mk a b c d e f g).ks = g from fun _ _ _ _ _ _ _ => rfl] at hof hBk; rw [hs1] at hS hid hof; rw [hs2] at hBk; refine J0 rfl hS rfl rfl (fun h108 => ?_) (fun h108 => ?_))
 refine E7 ?_
 refine sP (B1 (j := 0) rfl rfl rfl (by first | omega | simp)) rfl rfl ?_
 refine sL (A5 rfl rfl (hatx _) rfl) rfl rfl ?_
 refine sS rfl rfl rfl rfl hox rfl ?_ (hu := by exact C6 rfl)
 refine A9 ?_
 refine L0 (rC rfl (A3 rfl rfl)) ?_
 (rw [hid zT]; exact ⟨rfl, _, rfl, hrx⟩)
 refine B5 ?_
 refine J0 rfl (hBk) rfl rfl (fun h134 => ?_) (fun h134 => ?_)
 refine E7 ?_
 refine sP (B1 (j := 0) rfl rfl rfl (by first | omega | simp)) rfl rfl ?_
 refine F8 ?_
 (have h14 : ak = 14 := (B6O hs2 zT).1; refine sL (S0 rfl rfl (At.sub (j := 8) (hatx _) rfl)) rfl rfl ?_; obtain ⟨b, rfl, _⟩ := A2L hqa h14; obtain ⟨by1, oy, f, rfl, hfl, hfat, hrf9, hfgb⟩ := hasl.kidTm hakl (i := 0) zX zX; have hfo := hrf9.one)
 refine sP (B1 (j := 0) rfl rfl rfl (by first | omega | simp)) rfl rfl ?_
 refine sL (A5 rfl rfl (hfat _) hfl) rfl rfl ?_
 refine sS rfl rfl rfl hfl hfo rfl ?_ (hu := by exact C6 hfl.symm)
 refine A9 ?_
 refine L0 (rC rfl (A5 rfl rfl (B7 zP) hfl)) ?_
 (rw [hof zT hs2, if_pos zT]; exact ⟨rfl, _, rfl, hrf9⟩)
 refine I2 ?_
 refine sS rfl rfl rfl rfl hox rfl ?_ (hu := by exact C6 rfl)
 refine B3 ?_
 refine L0 (rC rfl (A3 rfl rfl)) ?_
 (rw [hof zT hs2, if_neg (B3V zT)]; exact ⟨rfl, _, rfl, hro⟩)
theorem B6S (t : Tm) (G : IM) (cells : List Value) (hcnt : F4 t ≤ 4294967296) (hr : B6 G t cells) : Fn Tryz.prog 8 [.agg ⟨cells⟩] [] G (TbR (A1q t)) := by
 have hl := hr.len
 have hone := hr.one
 have hV := A8W t G cells hcnt hr
 have hM := fun (h : K2 t = true) => B6R t G cells (B1b t (A12 h).1) (B0t h) hr
 have hy := @A7i t
 have hn := @B1h t
 generalize A1q t = R at hy hn ⊢
 refine C7 Tryz.func8 rfl Tryz.ntmps8 Tryz.results8 rfl ?_
 intro w0
 refine A4 ?_
 refine sE (D5 rfl rfl) rfl (fun b3 => ?_)
 refine sE (A8 rfl) rfl (fun b4 => ?_)
 refine A7 ?_
 refine sL (A5 rfl rfl (B7 zP) hl) rfl rfl ?_
 refine J0 rfl (hV) rfl rfl (fun h12 => ?_) (fun h12 => ?_)
 refine E7 ?_
 refine sL (A5 rfl rfl (B7 zP) hl) rfl rfl ?_
 (refine F9 rfl (hM zT) rfl rfl (fun v3 G3 hle3 hh => ?_); obtain ⟨cu, rfl, hru⟩ := hh; have hul := hru.len; have huo := hru.one)
 refine sS rfl rfl rfl hul huo rfl ?_ (hu := by exact C6 hul.symm)
 refine C3 ?_
 refine E0 (rC rfl (A5 rfl rfl (B7 zP) hul)) (rT rfl) ?_
 (exact TbR.mk (hy zT) hru)
 refine J2 ?_
 refine E0 (rC rfl (A3 rfl rfl)) (rT rfl) ?_
 (exact TbR.mk (hn zT) (B0p _))
def RlP (r : Tm × Int) : IM → Value → List A6 → Prop := K1 fun G' v => ∃ cells, v = .tuple ⟨[.agg ⟨cells⟩, .int .i64 r.2]⟩ ∧ B6 G' r.1 cells
theorem A4i {e : Tm} {a b : Ty} {l : Int} {N : Nat} (h : e.fit N) (ha : a.small) (hb : b.small) : (Q6 e a b l).fit (N + 1) := ⟨B4s h.1 ha hb, by rw [B4t]; exact Nat.succ_le_succ h.2⟩
theorem A2N {e : Tm} {N M : Nat} (h : e.fit N) (hm : N ≤ M) : e.fit M := ⟨h.1, Nat.le_trans h.2 hm⟩
theorem B6T (br : Nat) (pb : Option Addr) (nb cb : Nat) (bs : List UInt8) (hnb : nb ≤ 2000) (p : Nat) (G : IM) (hb : Sl G pb nb cb 1 (N5 bs)) (hp : p + 9200000 < 1099511627776) :
  Fn Tryz.prog 20 [.pointer (some ⟨br, 0, none⟩)] [rd br pb nb cb p] G
   (Y9 br pb nb cb p 9200000 (fun G' v => ∃ e cells, v = .agg ⟨cells⟩ ∧ B6 G' e cells ∧ e.fit 103)) := by
 refine C7 Tryz.func20 rfl Tryz.ntmps20 Tryz.results20 rfl ?_
 intro w0
 refine A4 ?_
 refine sE (A8 rfl) rfl (fun b3 => ?_)
 refine A9 ?_
 (have hcall := B6j br pb nb cb bs hnb p _ hb zW; refine I0 rfl hcall (Pk.perm zN) rfl rfl (fun v G1 outs hle1 hh => ?_); obtain ⟨p1, hp11, hp12, rfl, e0, ce0, rfl, hr0, hf0⟩ := hh; replace hb := hb.mono hle1; have hl0 := hr0.len; have ho0 := hr0.one; have hT0 := B6G e0 _ ce0 (by have := hf0.2; omega) hr0)
 refine sE (A8 rfl) rfl (fun b10 => ?_)
 refine sS rfl rfl rfl hl0 ho0 rfl ?_ (hu := by exact C6 hl0.symm)
 refine C3 ?_
 refine sL (A5 rfl rfl (B7 zP) hl0) rfl rfl ?_
 focus (refine F9 rfl hT0 rfl rfl (fun v G2 hle2 hh => ?_); obtain ⟨cT, T, rfl, hrT, hTT⟩ := hh; obtain ⟨pT, dT, eT, rfl, _⟩ := hrT.open; replace hb := hb.mono hle2; replace hr0 := hr0.mono hle2; have hsT := @B6p e0; rcases hTY : Y1 e0 with _ | T2; rotate_left; obtain rfl := hTT _ hTY; replace hsT := hsT hTY; rotate_left)
 refine B3 ?_
 refine sE (A8 rfl) rfl (fun b21 => ?_)
 refine X9 ?_
 refine A9 ?_
 refine sL (A5 rfl rfl (B7 zP) hl0) rfl rfl ?_
 (have hcall := A4g br pb nb cb bs hnb p1 _ hb zW _ ce0 103 (A2N hf0 zW) hr0; refine I0 rfl hcall (Pk.perm zN) rfl rfl (fun v Gn outs hle9 hh => ?_); obtain ⟨p9, hp91, hp92, rfl, e, ce, rfl, hre, hfe⟩ := hh; have hl9 := hre.len; have ho9 := hre.one)
 exact y28
 refine B3 ?_
 refine sE (A8 rfl) rfl (fun b68 => ?_)
 refine I2 ?_
 (refine I0 rfl (S2 _ br pb nb cb p1 bs 2 hb hnb zW) (Pk.perm zN) rfl rfl (fun v G3 outs hle3 hh => ?_); obtain ⟨rfl, rfl, j1, rfl, hj1, hk1⟩ := hh)
 refine sB (qE rfl rfl) rfl rfl (fun h80 => ?_) (fun h80 => ?_)
 refine A9 ?_
 refine sL (A5 rfl rfl (B7 zP) hl0) rfl rfl ?_
 refine A4 ?_
 (refine F9 rfl (A4h e0 T T 61 _ ce0 _ _ ⟨by decide, by decide⟩ hr0 hrT hrT hsT hsT) rfl rfl (fun v G4 hle4 hh => ?_); obtain ⟨ce1, rfl, hr1⟩ := hh; have hl1 := hr1.len; have ho1 := hr1.one; replace hb := hb.mono hle4; replace hrT := hrT.mono hle4; have hf1 := A4i (l := 61) hf0 hsT hsT)
 refine P3 rfl rfl rfl hl1 ho1 rfl zO (by exact C6 zW) ?_
 refine E7 ?_
 (refine I0 rfl (S2 _ br pb nb cb (p1 + 1) bs 2 hb hnb zW) (Pk.perm zN) rfl rfl (fun v G5 outs hle5 hh => ?_); obtain ⟨rfl, rfl, j2, rfl, hj2, hk2⟩ := hh)
 refine sB (qE rfl rfl) rfl rfl (fun h100 => ?_) (fun h100 => ?_)
 refine C3 ?_
 refine D2 D3 rfl ?_
 refine M3 (i := 0) (l' := [tt,ff,ff,ff,ff,ff,ff,ff]) rfl C8 (A5 rfl rfl (B7 zP) hl1) rfl zU rfl rfl ?_
 refine aL 1 rfl (A3 rfl rfl) rfl ?_
 refine aL 5 rfl (A3 rfl rfl) rfl ?_
 refine A1 2 ?_
 refine L1 rfl rfl ((A0J _)) rfl rfl rfl ?_
 refine A1 3 ?_
 (refine E1 rfl rfl (A4h _ T Q5 62 _ ce1 _ _ ⟨by decide, by decide⟩ hr1 hrT (A5o _) hsT A2b) rfl rfl rfl (fun v G6 hle6 hh => ?_); obtain ⟨ce2, rfl, hr2⟩ := hh; have hl2 := hr2.len; have ho2 := hr2.one; replace hb := hb.mono hle6; replace hrT := hrT.mono hle6; have hf2 := A2N (M := 102) (A4i (l := 62) hf1 hsT A2b) zW)
 exact y23
 refine D9 ?_
 refine sL (A5 rfl rfl (B7 zP) hl1) rfl rfl ?_
 (have hcall := A4g br pb nb cb bs hnb (p1 + 1 + 1) _ hb zW _ ce1 103 (A2N hf1 zW) hr1; refine I0 rfl hcall (Pk.perm zN) rfl rfl (fun v Gn outs hle9 hh => ?_); obtain ⟨p9, hp91, hp92, rfl, e, ce, rfl, hre, hfe⟩ := hh; have hl9 := hre.len; have ho9 := hre.one)
 exact y28
 refine N8 ?_
 (refine I0 rfl (S2 _ br pb nb cb (p1 + 1) bs 2 hb hnb zW) (Pk.perm zN) rfl rfl (fun v G5 outs hle5 hh => ?_); obtain ⟨rfl, rfl, j2, rfl, hj2, hk2⟩ := hh)
 refine sB (qE rfl rfl) rfl rfl (fun h162 => ?_) (fun h162 => ?_)
 refine C3 ?_
 refine D2 D3 rfl ?_
 refine M3 (i := 0) (l' := [tt,ff,ff,ff,ff,ff,ff,ff]) rfl C8 (A5 rfl rfl (B7 zP) hl0) rfl zU rfl rfl ?_
 refine aL 1 rfl (A3 rfl rfl) rfl ?_
 refine aL 5 rfl (A3 rfl rfl) rfl ?_
 refine A1 2 ?_
 refine L1 rfl rfl ((A0J _)) rfl rfl rfl ?_
 refine A1 3 ?_
 (refine E1 rfl rfl (A4h e0 T Q5 62 _ ce0 _ _ ⟨by decide, by decide⟩ hr0 hrT (A5o _) hsT A2b) rfl rfl rfl (fun v G6 hle6 hh => ?_); obtain ⟨ce2, rfl, hr2⟩ := hh; have hl2 := hr2.len; have ho2 := hr2.one; replace hb := hb.mono hle6; replace hrT := hrT.mono hle6; have hf2 := A2N (M := 102) (A4i (l := 62) hf0 hsT A2b) zW)
 exact y23
 refine D9 ?_
 refine sL (A5 rfl rfl (B7 zP) hl0) rfl rfl ?_
 (have hcall := A4g br pb nb cb bs hnb (p1 + 1 + 1) _ hb zW _ ce0 103 (A2N hf0 zW) hr0; refine I0 rfl hcall (Pk.perm zN) rfl rfl (fun v Gn outs hle9 hh => ?_); obtain ⟨p9, hp91, hp92, rfl, e, ce, rfl, hre, hfe⟩ := hh; have hl9 := hre.len; have ho9 := hre.one)
 exact y28
def B6U (N : Nat) : IM → Value → List A6 → Prop := K1 fun G' v => ∃ e cells, v = .agg ⟨cells⟩ ∧ B6 G' e cells ∧ e.fit N
theorem B6V (G : IM) (q : Option Addr) (n c : Nat) (bs : List UInt8) (hb : Sl G q n c 1 (N5 bs)) : Fn Tryz.prog 6 [.slice q n c] [] G (B6U 103) := by
 refine C7 Tryz.func6 rfl Tryz.ntmps6 Tryz.results6 rfl ?_
 intro w0
 refine A4 ?_
 refine sE (A8 rfl) rfl (fun b3 => ?_)
 refine A9 ?_
 (refine I0 rfl (B36 G q n c bs hb) (List.Perm.refl _) rfl rfl (fun v G1 outs hle1 hh => ?_); obtain ⟨rfl, br, pb, nb, cb, bs', rfl, rfl, hnb, hb'⟩ := hh)
 (have hcall := B6T br pb nb cb bs' hnb 0 _ hb' zW; refine I0 rfl hcall (Pk.perm zN) rfl rfl (fun v Gn outs hle1 hh => ?_); obtain ⟨p1, hp11, hp12, rfl, e, ce, rfl, hre, hfe⟩ := hh; have hl1 := hre.len; have ho1 := hre.one)
 refine P3 rfl rfl rfl zT zT rfl zO (by exact C6 (by symm; assumption)) ?_
 refine B3 ?_
 refine L0 (rC rfl (A5 rfl rfl (B7 zP) hl1)) ?_
 (exact ⟨rfl, e, ce, rfl, hre, hfe⟩)
def B83 (N : Nat) : IM → Value → List A6 → Prop := K1 fun G' v => ∃ e cells l, v = .tuple ⟨[.agg ⟨cells⟩, .int .i64 l]⟩ ∧ B6 G' e cells ∧ e.fit N ∧ E8 l
theorem B1l {P : Program} {Γ : L3} {env : M0} {hp : List A6} {G : IM} {ty : TypeId} {x y : Operand} {t t' : TypeId} {r : ByteArray} (hx : evo env x = some (.string r)) (hy : evo env y = some (.string r)) :
  I5 P Γ ⟨env, hp, G⟩ (.binOp .eql t x y t') ty (.bool true) := by
 have h := A1S (P := P) (Γ := Γ) (hp := hp) (G := G) (t := t) (t' := t') (ty := ty) hx hy
 simpa using h
theorem A7j {P : Program} {Γ : L3} {env : M0} {hp : List A6} {G : IM} {ty : TypeId} {x y : Operand} {t t' : TypeId} {i : L6} [hI : I1 P t i] (hd : i.desc = .bool) {r : Bool} (hx : evo env x = some (.bool r)) (hy : evo env y = some (.bool r)) :
  I5 P Γ ⟨env, hp, G⟩ (.binOp .eql t x y t') ty (.bool true) := by
 have h := B2x (P := P) (Γ := Γ) (hp := hp) (G := G) (t := t) (t' := t') (ty := ty) (i := i) hd hx hy
 simpa using h
theorem B1m : ∀ (t : Ty) (G : IM) (cells cells' : List Value), B8 G t cells → B8 G t cells' → Fn Tryz.prog 29 [.agg ⟨cells⟩, .agg ⟨cells'⟩] [] G (J5 (.bool true) G) := by
 refine Ty.ind fun k ks ih G cells cells' hr hr' => ?_
 obtain ⟨p, c, es, rfl, hk, hsl, hkl⟩ := hr.open
 obtain ⟨p', c', es', rfl, hk', hsl', hkl'⟩ := hr'.open
 simp only [Ty.k, Ty.ks] at hk hsl hkl hk' hsl' hkl' ⊢
 refine C7 Tryz.func29 rfl Tryz.ntmps29 Tryz.results29 rfl ?_
 intro w0
 refine A4 ?_
 refine sE (D5 rfl rfl) rfl (fun b3 => ?_)
 refine sE (D5 rfl rfl) rfl (fun b4 => ?_)
 refine D9 ?_
 refine sP (L9 rfl rfl zW) rfl rfl ?_
 refine A9 ?_
 refine E6 rfl (A6h _ _ _ _ _ _ _ _ _ hsl hsl' _ [] [] [] (fun _ => true) true zX (fun i e e' he he' => ih (ks.getD i B4) (hkl.inv he B4).1 _ _ _ (hkl.inv he B4).2 (hkl'.inv he' B4).2)) rfl rfl ?_
 refine A7 ?_
 exact ⟨rfl, rfl, rfl⟩
theorem B6W (G : IM) (p p' : Option Addr) (n c c' : Nat) (es es' : List (List Value)) (hsl : D0 G p n c 9 es) (hsl' : D0 G p' n c' 9 es') (fid : FuncId) [C4 Tryz.prog fid]
  (hq : ∀ (i : Nat) (e e' : List Value), es[i]? = some e → es'[i]? = some e' → Fn Tryz.prog fid [.agg ⟨e⟩, .agg ⟨e'⟩] [] G (T8 (.bool true) [] G)) :
  Fn Tryz.prog 30 [.slice p n c, .slice p' n c', .func (.func fid) ⟨[]⟩ ⟨[]⟩] [] G (J5 (.bool true) G) := by
 have hn := hsl.le
 refine C7 Tryz.func30 rfl Tryz.ntmps30 Tryz.results30 rfl ?_
 intro w0
 refine N8 ?_
 refine sP (A0Z rfl rfl zW) rfl rfl ?_
 refine J2 ?_
 refine C2 (L4 (fun i : Nat => ⟨[(17, .int .i64 i), (16, .int .i64 n), (15, .slice p n c), (2, .func (.func fid) ⟨[]⟩ ⟨[]⟩), (1, .slice p' n c'), (0, .slice p n c)], [], G⟩) (fun i => i ≤ n) (fun i => n - i) 0 ?_ ?_ ?_)
 exact E3
 exact Nat.zero_le _
 rintro i hi
 refine A4 ?_
 refine sB (K6 rfl rfl) rfl rfl (fun h34 => ?_) (fun h34 => ?_)
 refine B5 ?_
 refine C2 ?_
 refine B3 ?_
 (obtain ⟨e, b, o, he, rfl, hl, _, hat, _⟩ := hsl.get (i := i) zW; refine sP (B1 rfl rfl rfl zW) rfl rfl ?_)
 refine sL (A5 rfl rfl (hat _) hl) rfl rfl ?_
 refine sE (A8 rfl) rfl (fun b48 => ?_)
 refine F8 ?_
 refine P3 rfl rfl rfl zT zT rfl zO (by exact C6 (by symm; assumption)) ?_
 refine A7 ?_
 (obtain ⟨e', b', o', he', rfl, hl', _, hat', _⟩ := hsl'.get (i := i) zW; refine sP (B1 rfl rfl rfl zW) rfl rfl ?_)
 refine sL (A5 rfl rfl (hat' _) hl') rfl rfl ?_
 refine sE (A8 rfl) rfl (fun b59 => ?_)
 refine P3 rfl rfl rfl zT zT rfl zO (by exact C6 (by symm; assumption)) ?_
 refine A9 ?_
 refine sL (A5 rfl rfl (B7 zP) zT) rfl rfl ?_
 refine sL (A5 rfl rfl (B7 zP) zT) rfl rfl ?_
 refine A4E rfl rfl (hq i e e' he he') A79 rfl rfl (fun h68 => ?_) (fun h68 => ?_)
 simp only [Bool.not_eq_true', Bool.not_eq_false'] at h68
 refine E7 ?_
 refine sP (K9 rfl rfl zW zW) rfl rfl ?_
 refine A4 ?_
 refine K3 (i + 1) ?_ ?_ ?_
 exact E3
 omega
 omega
 refine N4 ?_
 (exact absurd zT zV)
 refine N4 ?_
 exact ⟨rfl, rfl, rfl⟩
theorem B6X : ∀ (t : Tm) (G : IM) (cells cells' : List Value), B6 G t cells → B6 G t cells' → Fn Tryz.prog 10 [.agg ⟨cells⟩, .agg ⟨cells'⟩] [] G (J5 (.bool true) G) := by
 refine Tm.ind fun k nm num ty fr lb ks ih G cells cells' hr hr' => ?_
 obtain ⟨tk, tks⟩ := ty
 obtain ⟨fk, fks⟩ := fr
 obtain ⟨pt, ct, pf, cf, p, c, es, rfl, hk, hnum, hlb, hty, hfr, hsl, hkl⟩ := hr.open9
 obtain ⟨pt', ct', pf', cf', p', c', es', rfl, _, _, _, hty', hfr', hsl', hkl'⟩ := hr'.open9
 have h1 := B1m (.mk tk tks) G _ _ hty hty'
 have h2 := B1m (.mk fk fks) G _ _ hfr hfr'
 refine C7 Tryz.func10 rfl Tryz.ntmps10 Tryz.results10 rfl ?_
 intro w0
 refine A4 ?_
 refine sE (D5 rfl rfl) rfl (fun b3 => ?_)
 refine sE (D5 rfl rfl) rfl (fun b4 => ?_)
 refine D9 ?_
 refine sP (L9 rfl rfl zW) rfl rfl ?_
 refine A9 ?_
 refine sQ (B1l rfl rfl) rfl ?_
 refine A7 ?_
 refine sP (L9 rfl rfl zW) rfl rfl ?_
 refine A7 ?_
 refine E6 rfl (h1) rfl rfl ?_
 refine A7 ?_
 refine E6 rfl (h2) rfl rfl ?_
 refine A7 ?_
 refine sP (L9 rfl rfl zW) rfl rfl ?_
 refine A7 ?_
 refine E6 rfl (B6W _ _ _ _ _ _ _ _ hsl hsl' _ (fun i e e' he he' => ih (ks.getD i K5) (hkl.inv he K5).1 _ _ _ (hkl.inv he K5).2 (hkl'.inv he' K5).2)) rfl rfl ?_
 refine A7 ?_
 exact ⟨rfl, rfl, rfl⟩
inductive MV where
 | mk (k num : Int) (env parts : List MV)
def MV.k : MV → Int | .mk k _ _ _ => k
def MV.num : MV → Int | .mk _ n _ _ => n
def MV.env : MV → List MV | .mk _ _ e _ => e
def MV.parts : MV → List MV | .mk _ _ _ p => p
def mv0 : MV := .mk 0 0 [] []
mutual
def RMv (kc : Int → Int) (G : IM) : MV → List Value → Prop
 | .mk k num env parts, cells => ∃ p c es q d fs, cells = [.int .i64 (kc k), .int .i64 num, .slice p env.length c, .slice q parts.length d] ∧ E8 num ∧ E8 (kc k) ∧ D0 G p env.length c 4 es ∧ A3l kc G env es ∧ D0 G q parts.length d 4 fs ∧ A3l kc G parts fs
def A3l (kc : Int → Int) (G : IM) : List MV → List (List Value) → Prop
 | [], es => es = []
 | t :: ts, es => ∃ a r, es = a :: r ∧ RMv kc G t a ∧ A3l kc G ts r
end
section
variable {kc : Int → Int} {G : IM}
end

def RFr (kc : Int → Int) (G : IM) (f : Int × List MV) (cells : List Value) : Prop := ∃ p c es, cells = [.int .i64 f.1, .slice p f.2.length c] ∧ E8 f.1 ∧ D0 G p f.2.length c 4 es ∧ A3l kc G f.2 es
def B1n (kc : Int → Int) (G : IM) : List (Int × List MV) → List (List Value) → Prop
 | [], es => es = []
 | t :: ts, es => ∃ a r, es = a :: r ∧ RFr kc G t a ∧ B1n kc G ts r
section
variable {kc : Int → Int} {G : IM}
end

structure MSt where
 at' : Int
 st : List MV
 env : List MV
 fr : List (Int × List MV)
def RSs (kc : Int → Int) (G : IM) (s : MSt) (cells : List Value) : Prop := ∃ pe ce ps cs pf cf ee es ef, cells = [.int .i64 s.at', .slice pe s.env.length ce, .slice ps s.st.length cs, .slice pf s.fr.length cf] ∧ E8 s.at' ∧
 D0 G pe s.env.length ce 4 ee ∧ A3l kc G s.env ee ∧ D0 G ps s.st.length cs 4 es ∧ A3l kc G s.st es ∧ D0 G pf s.fr.length cf 2 ef ∧ B1n kc G s.fr ef
def A5r (k : Int) : Nat := if k = 6 ∨ k = 7 ∨ k = 8 ∨ k = 11 then 2 else if k = 9 ∨ k = 12 ∨ k = 13 then 1 else 0
def A7k (k : Int) : Int × Nat × Int := if k = 6 then (2, 1, 1) else if k = 7 ∨ k = 8 then (0, 2, 2) else if k = 9 then (1, 1, 3) else if k = 12 ∨ k = 13 then (3, 1, 4) else (0, 0, 0)
def A2e (s : MSt) (v : MV) : MSt := { s with st := s.st ++ [v] }
def mGo (k a : Int) (s : MSt) (v : List MV) : MSt ⊕ (Int × Int) :=
 if k = 1 then .inl (A2e s (.mk 0 a [] []))
 else if k = 2 then .inl (A2e s (.mk 1 a [] []))
 else if k = 3 then (if (s.env.length : Int) - 1 - a < 0 then .inr (3, 0) else .inl (A2e s (s.env.getD ((s.env.length : Int) - 1 - a).toNat mv0)))
 else if k = 4 then .inl { A2e s (.mk 2 s.at' s.env []) with at' := s.at' + a }
 else if k = 5 then (if s.fr.length = 0 then .inr (3, 0) else .inl { s with at' := (s.fr.getD (s.fr.length - 1) (0, [])).1, env := (s.fr.getD (s.fr.length - 1) (0, [])).2, fr := s.fr.take (s.fr.length - 1) })
 else if k = 6 then .inl { s with at' := (v.getD 0 mv0).num, env := (v.getD 0 mv0).env ++ [v.getD 1 mv0], fr := s.fr ++ [(s.at', s.env)] }
 else if k = 7 then .inl (A2e s (.mk 0 (((v.getD 0 mv0).num + (v.getD 1 mv0).num) % 1000) [] []))
 else if k = 8 then .inl (A2e s (.mk 1 (if (v.getD 0 mv0).num < (v.getD 1 mv0).num then 1 else 0) [] []))
 else if k = 9 then .inl (if (v.getD 0 mv0).num = 0 then { s with at' := s.at' + a } else s)
 else if k = 10 then .inl { s with at' := s.at' + a }
 else if k = 11 then .inl (A2e s (.mk 3 0 [] v))
 else .inl (A2e s ((v.getD 0 mv0).parts.getD (k - 12).toNat mv0))
def B6Y (k : Int) (v : List MV) : Bool := (v.take (A7k k).2.1).all fun u => decide (u.k = (A7k k).1)
def B6Z (k a : Int) (s : MSt) : MSt ⊕ (Int × Int) :=
 if s.st.length < A5r k then .inr (3, 0)
 else if B6Y k (s.st.drop (s.st.length - A5r k)) = true then mGo k a { s with at' := s.at' + 1, st := s.st.take (s.st.length - A5r k) } (s.st.drop (s.st.length - A5r k))
 else .inr (2, (A7k k).2.2)
def B60 (v : MV) : ByteArray := if v.k = 0 then ⟨(Lib.decDigits v.num.toNat).toArray⟩ else if v.k = 1 then (if v.num = 0 then ⟨#[70]⟩ else ⟨#[84]⟩) else if v.k = 2 then ⟨⟨[102, 117, 110, 99, 116, 105, 111, 110]⟩⟩ else ⟨⟨[112, 97, 105, 114]⟩⟩
def B61 (s : MSt) : ByteArray × Int × Int := if s.st.length ≠ 1 ∨ 0 < s.fr.length then (⟨#[]⟩, 3, 0) else (B60 (s.st.getD 0 mv0), 0, 0)
def B1o (ops : List (Int × Int)) : Nat → MSt → ByteArray × Int × Int
 | t, s => if (ops.length : Int) ≤ s.at' then B61 s else match t with
  | 0 => (⟨#[]⟩, 5, 0)
  | t + 1 => match B6Z (ops.getD s.at'.toNat (0, 0)).1 (ops.getD s.at'.toNat (0, 0)).2 s with
   | .inl s' => B1o ops t s'
   | .inr (c, e) => (⟨#[]⟩, c, e)
def B62 (k behind : Int) : Int := if k = 1 then 999 else if k = 2 then 1 else if k = 3 then 11 else if k = 4 ∨ k = 9 ∨ k = 10 then behind else 0
def B63 (n : Nat) (i : Nat) (x : Int × Int) : Bool := decide (1 ≤ x.1 ∧ x.1 ≤ 13 ∧ 0 ≤ x.2 ∧ x.2 ≤ B62 x.1 ((n : Int) - 1 - i))
def B64 (ops : List (Int × Int)) : Bool := decide (1 ≤ ops.length ∧ ops.length ≤ 120) && (List.range ops.length).all fun i => B63 ops.length i (ops.getD i (0, 0))
def B84 (ops : List (Int × Int)) (ticks : Int) : ByteArray × Int × Int :=
 if B64 ops = true ∧ 0 ≤ ticks ∧ ticks ≤ 2000 then B1o ops ticks.toNat ⟨0, [], [], []⟩ else (⟨#[]⟩, 3, 0)
theorem B65 (k : Int) (nm : ByteArray) (num : Int) (ty fr : Ty) (lb : Int) (ks : List Tm) (G : IM) (cells : List Value) (hT : A1d G) (hk3 : k = 2 ∨ k = 3 ∨ k = 4) (hn : 0 ≤ num ∧ num ≤ 999) (hr : B6 G (.mk k nm num ty fr lb ks) cells) : Fn Tryz.prog 71 [.agg ⟨cells⟩] [] G (J5 (.string (A19 k num)) G) := by
 obtain ⟨tk, tks⟩ := ty
 obtain ⟨fk, fks⟩ := fr
 obtain ⟨pt, ct, pf, cf, p, c, es, rfl, hk, hnum, hlb, hty, hfr, hsl, hkl⟩ := hr.open9
 have hI := B3m num G hT hn.1 hn.2
 refine C7 Tryz.func71 rfl Tryz.ntmps71 Tryz.results71 rfl ?_
 intro w0
 refine A4 ?_
 refine sE (D5 rfl rfl) rfl (fun b3 => ?_)
 refine A9 ?_
 refine sQ (A2S rfl rfl) rfl ?_
 refine I2 ?_
 refine C2 ?_
 refine A4 ?_
 refine sP (F0 rfl rfl zW) rfl rfl ?_
 refine A7 ?_
 refine sB (qE rfl rfl) rfl rfl (fun h30 => ?_) (fun h30 => ?_)
 refine E7 ?_
 refine E6 rfl (hI) rfl rfl ?_
 refine B5 ?_
 (exact ⟨rfl, by unfold A19; rw [if_pos zW]; rfl, rfl⟩)
 refine A7 ?_
 refine sB (qE rfl rfl) rfl rfl (fun h54 => ?_) (fun h54 => ?_)
 refine J2 ?_
 (exact ⟨rfl, by unfold A19; rw [if_neg zW, if_pos zW]; rfl, rfl⟩)
 refine A7 ?_
 refine sP (L9 rfl rfl zW) rfl rfl ?_
 refine J2 ?_
 (exact ⟨rfl, by unfold A19; rw [if_neg zW, if_neg zW]; rfl, rfl⟩)
def B85 (G : IM) : IM → Value → List A6 → Prop := K1 fun G' v => ∃ a ca b cb f, v = .tuple ⟨[.agg ⟨ca⟩, .agg ⟨cb⟩, .int .i64 f]⟩ ∧ B6 G' a ca ∧ a.fit 1100 ∧ B6 G' b cb ∧ b.fit 1100 ∧ E8 f
def B86 (G : IM) : IM → Value → List A6 → Prop := K1 fun G' v => ∃ a ca b cb d cd, v = .tuple ⟨[.agg ⟨ca⟩, .agg ⟨cb⟩, .agg ⟨cd⟩]⟩ ∧ B6 G' a ca ∧ a.fit 1100 ∧ B6 G' b cb ∧ b.fit 1100 ∧ B6 G' d cd ∧ d.fit 1100
def B87 (N : Nat) (G : IM) : IM → Value → List A6 → Prop := K1 fun G' v => ∃ a ca f, v = .tuple ⟨[.agg ⟨ca⟩, .int .i64 f]⟩ ∧ B6 G' a ca ∧ a.fit N ∧ E8 f
def B88 (e : Tm) : Bool := K2 e && H8 e
end Gw
end Go.Proofs.YtmceanphadildaaGreatDoor
namespace Go.Proofs.YtmceanphadildaaGreatDoor
namespace Gw
inductive GK where
 | ida | idi | idb
 | fn (c d : GK)
 | pr (c d : GK)
 | inj (c : GK)
 | prj (l : Int) (c : GK)
 | fl (l t : Int)
def GK.tg : GK → Int
 | .ida => 1
 | .idi => 2
 | .idb => 3
 | .fn _ _ => 4
 | .pr _ _ => 5
 | .inj c => c.tg
 | .prj _ _ => 0
 | .fl _ t => t
def GK.pl : GK → Bool
 | .idi => true
 | .idb => true
 | .fn _ _ => true
 | .pr _ _ => true
 | _ => false
def GK.md : GK → Bool
 | .ida => false
 | .prj _ _ => false
 | _ => true
def cmp : GK → GK → GK
 | .ida, b => b
 | .idi, b => b
 | .idb, b => b
 | .prj l a, b => .prj l (cmp a b)
 | .fl l t, _ => .fl l t
 | .inj a, .prj l d => if a.tg = d.tg then cmp a d else .fl l a.tg
 | .inj a, _ => .inj a
 | .fn c d, .fn c' d' => .fn (cmp c' c) (cmp d d')
 | .fn c d, .inj e => .inj (cmp (.fn c d) e)
 | .fn _ _, b => b
 | .pr c d, .pr c' d' => .pr (cmp c c') (cmp d d')
 | .pr c d, .inj e => .inj (cmp (.pr c d) e)
 | .pr _ _, b => b
termination_by a b => SizeOf.sizeOf a + SizeOf.sizeOf b
def fit : GK → GK → Bool
 | .ida, b => !b.md
 | .prj _ a, b => fit a b
 | .fl _ _, _ => true
 | .inj a, .prj _ d => if a.tg = d.tg then fit a d else true
 | .inj _, .ida => true
 | .inj _, _ => false
 | .idi, .fl _ t => decide (2 = t)
 | .idi, .inj e => fit .idi e
 | .idi, .idi => true
 | .idb, .fl _ t => decide (3 = t)
 | .idb, .inj e => fit .idb e
 | .idb, .idb => true
 | .fn _ _, .fl _ t => decide (4 = t)
 | .fn c d, .inj e => fit (.fn c d) e
 | .fn c d, .fn c' d' => fit c' c && fit d d'
 | .pr _ _, .fl _ t => decide (5 = t)
 | .pr c d, .inj e => fit (.pr c d) e
 | .pr c d, .pr c' d' => fit c c' && fit d d'
 | _, _ => false
termination_by a b => SizeOf.sizeOf a + SizeOf.sizeOf b
theorem A3m (a : GK) : cmp (.inj a) .ida = .inj a := by rw [cmp]; simp
theorem B1p (c d : GK) (l t : Int) : cmp (.fn c d) (.fl l t) = .fl l t := by rw [cmp] <;> simp
theorem B1q (c d : GK) (l t : Int) : cmp (.pr c d) (.fl l t) = .fl l t := by rw [cmp] <;> simp
def GT.tg : GT → Int
 | .any => 1
 | .int => 2
 | .bool => 3
 | .fn _ _ => 4
 | .pr _ _ => 5
inductive CT : GK → GT → GT → Prop
 | ida : CT .ida .any .any
 | idi : CT .idi .int .int
 | idb : CT .idb .bool .bool
 | fn {c d a b a' b'} : CT c a' a → CT d b b' → CT (.fn c d) (.fn a b) (.fn a' b')
 | pr {c d a b a' b'} : CT c a a' → CT d b b' → CT (.pr c d) (.pr a b) (.pr a' b')
 | inj {c A G} : CT c A G → c.pl = true → G.Gd → CT (.inj c) A .any
 | prj {l c G B} : CT c G B → c.md = true → G.Gd → l ≠ 0 → CT (.prj l c) .any B
 | fl {l t A B} : A ≠ .any → A.tg = t → l ≠ 0 → CT (.fl l t) A B
theorem B66 {c : GK} (h : c.pl = true) : c.md = true := by cases c <;> first | rfl | cases h
theorem CT.plg {c : GK} {A B : GT} (h : CT c A B) (hp : c.pl = true) : A ≠ .any ∧ B ≠ .any ∧ A.gr = B.gr ∧ c.tg = A.tg ∧ A.tg = B.tg := by
 cases h with
 | idi => exact ⟨by simp, by simp, rfl, rfl, rfl⟩
 | idb => exact ⟨by simp, by simp, rfl, rfl, rfl⟩
 | fn _ _ => exact ⟨by simp, by simp, rfl, rfl, rfl⟩
 | pr _ _ => exact ⟨by simp, by simp, rfl, rfl, rfl⟩
 | _ => cases hp
theorem CT.src {c : GK} {A B : GT} (h : CT c A B) (hm : c.md = true) : A ≠ .any ∧ c.tg = A.tg := by
 cases h with
 | inj h hp _ => have := h.plg hp; exact ⟨this.1, this.2.2.2.1⟩
 | fl h1 h2 _ => exact ⟨h1, h2.symm⟩
 | idi => exact ⟨by simp, rfl⟩
 | idb => exact ⟨by simp, rfl⟩
 | fn _ _ => exact ⟨by simp, rfl⟩
 | pr _ _ => exact ⟨by simp, rfl⟩
 | _ => cases hm
theorem CT.any {c : GK} {B : GT} (h : CT c .any B) : c.md = false := by
 cases h with
 | ida => rfl
 | prj _ _ _ _ => rfl
 | inj h hp _ => exact absurd rfl (h.plg hp).1
 | fl h _ _ => exact absurd rfl h
theorem CT.mid {c : GK} {A B : GT} (h : CT c A B) (hA : A ≠ .any) : c.md = true := by
 cases h <;> first | rfl | exact absurd rfl hA
theorem A7l {G H : GT} (hG : G.Gd) (hH : H.Gd) (h : G.tg = H.tg) : G = H := by
 rw [← hG.2, ← hH.2]
 cases G <;> cases H <;> first | rfl | (simp [GT.tg] at h)
theorem A7m (c : GK) : 0 < SizeOf.sizeOf c := by cases c <;> simp <;> omega
theorem A5s : ∀ (n : Nat) {a b : GK} {A B C : GT}, SizeOf.sizeOf a + SizeOf.sizeOf b ≤ n → CT a A B → CT b B C → fit a b = true ∧ CT (cmp a b) A C ∧ (a.pl = true → b.pl = true → (cmp a b).pl = true) ∧ (a.md = true → (cmp a b).md = true) := by
 intro n
 induction n with
 | zero => intro a b A B C h _ _; have := A7m a; have := A7m b; omega
 | succ n ih =>
  intro a b A B C hn ha hb
  cases ha with
  | ida => rw [fit, cmp]; exact ⟨by rw [hb.any]; rfl, hb, fun h => (by cases h), fun h => (by cases h)⟩
  | idi =>
   rw [cmp]
   refine ⟨?_, hb, fun _ h => h, fun _ => hb.mid zX⟩
   cases hb with
   | idi => rw [fit]
   | inj h hp hG =>
    rw [fit]
    have := (ih (a := .idi) (by simp at hn ⊢; omega) .idi h).1
    exact this
   | fl _ h _ => rw [fit]; exact decide_eq_true h
  | idb =>
   rw [cmp]
   refine ⟨?_, hb, fun _ h => h, fun _ => hb.mid zX⟩
   cases hb with
   | idb => rw [fit]
   | inj h hp hG =>
    rw [fit]
    have := (ih (a := .idb) (by simp at hn ⊢; omega) .idb h).1
    exact this
   | fl _ h _ => rw [fit]; exact decide_eq_true h
  | prj h hm hG hl =>
   rw [fit, cmp]
   obtain ⟨h1, h2, h3, h4⟩ := ih (by simp at hn ⊢; omega) h hb
   exact ⟨h1, .prj h2 (h4 hm) hG hl, fun h => (by cases h), fun h => (by cases h)⟩
  | fl h1 h2 h3 => rw [fit, cmp]; exact ⟨rfl, .fl h1 h2 h3, fun h => (by cases h), fun _ => rfl⟩
  | @inj c _ G h hp hG =>
   have hb0 := hb.any
   cases hb with
   | ida => rw [fit, A3m]; exact ⟨rfl, .inj h hp hG, fun h => (by cases h), fun _ => rfl⟩
   | @prj l d H _ hd hm hH hl =>
    rw [fit, cmp]
    by_cases ht : c.tg = d.tg
    ·rw [if_pos ht, if_pos ht]
     obtain ⟨p1, p2, p3, p4, p5⟩ := h.plg hp
     obtain ⟨q1, q2⟩ := hd.src hm
     have : G = H := A7l hG hH (by rw [← p5, ← p4, ht, q2])
     subst this
     obtain ⟨h1, h2, h3, h4⟩ := ih (by simp at hn ⊢; omega) h hd
     exact ⟨h1, h2, fun h => (by cases h), fun _ => h4 (B66 hp)⟩
    ·rw [if_neg ht, if_neg ht]
     have := h.plg hp
     exact ⟨rfl, .fl this.1 this.2.2.2.1.symm hl, fun h => (by cases h), fun _ => rfl⟩
   | inj _ _ _ => cases hb0
   | fl _ _ _ => cases hb0
  | @fn c d a b a' b' hc hd =>
   cases hb with
   | @fn c' d' _ _ a2 b2 hc' hd' =>
    rw [fit, cmp]
    obtain ⟨h1, h2, _, _⟩ := ih (a := c') (b := c) (by simp at hn ⊢; omega) hc' hc
    obtain ⟨h3, h4, _, _⟩ := ih (a := d) (b := d') (by simp at hn ⊢; omega) hd hd'
    exact ⟨by rw [h1, h3]; rfl, .fn h2 h4, fun _ _ => rfl, fun _ => rfl⟩
   | inj h hp hG =>
    rw [fit, cmp]
    obtain ⟨h1, h2, h3, h4⟩ := ih (by simp at hn ⊢; omega) (CT.fn hc hd) h
    exact ⟨h1, .inj h2 (h3 rfl hp) hG, fun _ h => (by cases h), fun _ => rfl⟩
   | fl h1 h2 h3 => rw [fit, B1p]; exact ⟨decide_eq_true h2, .fl zX h2 h3, fun _ h => (by cases h), fun _ => rfl⟩
  | @pr c d a b a' b' hc hd =>
   cases hb with
   | @pr c' d' _ _ a2 b2 hc' hd' =>
    rw [fit, cmp]
    obtain ⟨h1, h2, _, _⟩ := ih (a := c) (b := c') (by simp at hn ⊢; omega) hc hc'
    obtain ⟨h3, h4, _, _⟩ := ih (a := d) (b := d') (by simp at hn ⊢; omega) hd hd'
    exact ⟨by rw [h1, h3]; rfl, .pr h2 h4, fun _ _ => rfl, fun _ => rfl⟩
   | inj h hp hG =>
    rw [fit, cmp]
    obtain ⟨h1, h2, h3, h4⟩ := ih (by simp at hn ⊢; omega) (CT.pr hc hd) h
    exact ⟨h1, .inj h2 (h3 rfl hp) hG, fun _ h => (by cases h), fun _ => rfl⟩
   | fl h1 h2 h3 => rw [fit, B1q]; exact ⟨decide_eq_true h2, .fl zX h2 h3, fun _ h => (by cases h), fun _ => rfl⟩
theorem CT.cmp {a b : GK} {A B C : GT} (ha : CT a A B) (hb : CT b B C) : CT (cmp a b) A C := (A5s _ (Nat.le_refl _) ha hb).2.1
theorem CT.fit {a b : GK} {A B C : GT} (ha : CT a A B) (hb : CT b B C) : fit a b = true := (A5s _ (Nat.le_refl _) ha hb).1
theorem B1r {a b : GK} {A B C : GT} (ha : CT a A B) (hb : CT b B C) (h1 : a.pl = true) (h2 : b.pl = true) : (Gw.cmp a b).pl = true := (A5s _ (Nat.le_refl _) ha hb).2.2.1 h1 h2
theorem B67 {a b : GK} {A B C : GT} (ha : CT a A B) (hb : CT b B C) (h1 : a.md = true) : (Gw.cmp a b).md = true := (A5s _ (Nat.le_refl _) ha hb).2.2.2 h1
theorem A2f {a : GK} {l t : Int} (h : a.pl = true) : Gw.cmp a (.fl l t) = .fl l t := by
 cases a with
 | idi => rw [Gw.cmp]
 | idb => rw [Gw.cmp]
 | fn _ _ => exact B1p _ _ _ _
 | pr _ _ => exact B1q _ _ _ _
 | _ => cases h
theorem A2g {a d : GK} (h : a.pl = true) : Gw.cmp a (.inj d) = .inj (Gw.cmp a d) := by
 cases a with
 | idi => rw [Gw.cmp, Gw.cmp]
 | idb => rw [Gw.cmp, Gw.cmp]
 | fn _ _ => rw [Gw.cmp]
 | pr _ _ => rw [Gw.cmp]
 | _ => cases h
theorem B68 : ∀ (n : Nat) {a b c : GK} {A B C D : GT}, SizeOf.sizeOf a + SizeOf.sizeOf b + SizeOf.sizeOf c ≤ n → CT a A B → CT b B C → CT c C D → Gw.cmp (Gw.cmp a b) c = Gw.cmp a (Gw.cmp b c) := by
 intro n
 induction n with
 | zero => intro a b c A B C D h _ _ _; have := A7m a; omega
 | succ n ih =>
  intro a b c A B C D hn ha hb hc
  
  have plain : a.pl = true → Gw.cmp (Gw.cmp a b) c = Gw.cmp a (Gw.cmp b c) := by
   intro hp
   obtain ⟨a1, a2, a3, a4, a5⟩ := ha.plg hp
   by_cases hbp : b.pl = true
   ·have hab := B1r ha hb hp hbp
    obtain ⟨b1, b2, b3, b4, b5⟩ := hb.plg hbp
    cases hc with
    | ida => exact absurd rfl b2
    | prj _ _ _ _ => exact absurd rfl b2
    | fl h1 h2 h3 => rw [A2f hab, A2f hbp, A2f hp]
    | inj h hcp hG => rw [A2g hab, A2g hbp, A2g hp, ih (by simp at hn ⊢; omega) ha hb h]
    | idi => cases hb with
     | idi => cases ha with
      | idi => rw [Gw.cmp, Gw.cmp]
      | _ => cases hp
     | _ => cases hbp
    | idb => cases hb with
     | idb => cases ha with
      | idb => rw [Gw.cmp, Gw.cmp]
      | _ => cases hp
     | _ => cases hbp
    | fn h1 h2 => cases hb with
     | fn h3 h4 => cases ha with
      | fn h5 h6 =>
       rw [Gw.cmp, Gw.cmp, Gw.cmp, Gw.cmp, ih (by simp at hn ⊢; omega) h1 h3 h5, ih (by simp at hn ⊢; omega) h6 h4 h2]
      | _ => cases hp
     | _ => cases hbp
    | pr h1 h2 => cases hb with
     | pr h3 h4 => cases ha with
      | pr h5 h6 =>
       rw [Gw.cmp, Gw.cmp, Gw.cmp, Gw.cmp, ih (by simp at hn ⊢; omega) h5 h3 h1, ih (by simp at hn ⊢; omega) h6 h4 h2]
      | _ => cases hp
     | _ => cases hbp
   ·cases hb with
    | ida => exact absurd rfl a2
    | prj _ _ _ _ => exact absurd rfl a2
    | fl h1 h2 h3 => rw [A2f hp, Gw.cmp, A2f hp]
    | @inj d _ G h hdp hG =>
     rw [A2g hp]
     have had := B1r ha h hp hdp
     cases hc with
     | ida => rw [A3m, A3m, A2g hp]
     | @prj l e H _ he hm hH hl =>
      rw [Gw.cmp, Gw.cmp]
      obtain ⟨d1, d2, d3, d4, d5⟩ := h.plg hdp
      have t1 : (Gw.cmp a d).tg = d.tg := by rw [((ha.cmp h).plg had).2.2.2.1, d4, a5]
      by_cases ht : d.tg = e.tg
      ·rw [if_pos (t1.trans ht), if_pos ht]
       obtain ⟨q1, q2⟩ := he.src hm
       have : G = H := A7l hG hH (by rw [← d5, ← d4, ht, q2])
       subst this
       exact ih (by simp at hn ⊢; omega) ha h he
      ·rw [if_neg (by rw [t1]; exact ht), if_neg ht, A2f hp, t1]
     | inj h4 h5 _ => exact absurd rfl (h4.plg h5).1
     | fl h4 _ _ => exact absurd rfl h4
    | idi => exact absurd rfl hbp
    | idb => exact absurd rfl hbp
    | fn _ _ => exact absurd rfl hbp
    | pr _ _ => exact absurd rfl hbp
  cases ha with
  | ida => rw [Gw.cmp, Gw.cmp]
  | idi => exact plain rfl
  | idb => exact plain rfl
  | fn _ _ => exact plain rfl
  | pr _ _ => exact plain rfl
  | fl _ _ _ => rw [Gw.cmp, Gw.cmp, Gw.cmp]
  | prj h hm hG hl => rw [Gw.cmp, Gw.cmp, Gw.cmp, ih (by simp at hn ⊢; omega) h hb hc]
  | @inj a' _ G h hp hG =>
   cases hb with
   | ida => rw [A3m, Gw.cmp.eq_1]
   | @prj l d H _ hd hm hH hl =>
    rw [Gw.cmp, Gw.cmp, Gw.cmp]
    obtain ⟨q1, q2⟩ := hd.src hm
    have hdc := B67 hd hc hm
    have t1 : (Gw.cmp d c).tg = d.tg := by rw [((hd.cmp hc).src hdc).2, q2]
    by_cases ht : a'.tg = d.tg
    ·rw [if_pos ht, if_pos (ht.trans t1.symm)]
     obtain ⟨p1, p2, p3, p4, p5⟩ := h.plg hp
     have : G = H := A7l hG hH (by rw [← p5, ← p4, ht, q2])
     subst this
     exact ih (by simp at hn ⊢; omega) h hd hc
    ·rw [if_neg ht, if_neg (by rw [t1]; exact ht), Gw.cmp]
   | inj h4 h5 _ => exact absurd rfl (h4.plg h5).1
   | fl h4 _ _ => exact absurd rfl h4
theorem B69 {a b c : GK} {A B C D : GT} (ha : CT a A B) (hb : CT b B C) (hc : CT c C D) : Gw.cmp (Gw.cmp a b) c = Gw.cmp a (Gw.cmp b c) := B68 _ (Nat.le_refl _) ha hb hc
mutual
def U6 : GT → Int → GK
 | .any, _ => .ida
 | .int, _ => .inj .idi
 | .bool, _ => .inj .idb
 | .fn a b, l => .inj (.fn (S8 a (-l)) (U6 b l))
 | .pr a b, l => .inj (.pr (U6 a l) (U6 b l))
def S8 : GT → Int → GK
 | .any, _ => .ida
 | .int, l => .prj l .idi
 | .bool, l => .prj l .idb
 | .fn a b, l => .prj l (.fn (U6 a (-l)) (S8 b l))
 | .pr a b, l => .prj l (.pr (S8 a l) (S8 b l))
end
def kc : GT → GT → Int → GK
 | .any, B, l => S8 B l
 | A, .any, l => U6 A l
 | .int, _, _ => .idi
 | .bool, _, _ => .idb
 | .fn a b, .fn c d, l => .fn (kc c a (-l)) (kc b d l)
 | .pr a b, .pr c d, l => .pr (kc a c l) (kc b d l)
 | _, _, _ => .ida
termination_by A B => SizeOf.sizeOf A + SizeOf.sizeOf B
theorem B1s : GT.int.Gd := ⟨by simp, rfl⟩
theorem B1t : GT.bool.Gd := ⟨by simp, rfl⟩
theorem B1u : (GT.fn .any .any).Gd := ⟨by simp, rfl⟩
theorem B1v : (GT.pr .any .any).Gd := ⟨by simp, rfl⟩
mutual
theorem A3n : ∀ (A : GT) (l : Int), l ≠ 0 → CT (U6 A l) A .any
 | .any, l, _ => by rw [U6]; exact .ida
 | .int, l, _ => by rw [U6]; exact .inj .idi rfl B1s
 | .bool, l, _ => by rw [U6]; exact .inj .idb rfl B1t
 | .fn a b, l, h => by rw [U6]; exact .inj (.fn (A3o a (-l) zW) (A3n b l h)) rfl B1u
 | .pr a b, l, h => by rw [U6]; exact .inj (.pr (A3n a l h) (A3n b l h)) rfl B1v
theorem A3o : ∀ (A : GT) (l : Int), l ≠ 0 → CT (S8 A l) .any A
 | .any, l, _ => by rw [S8]; exact .ida
 | .int, l, h => by rw [S8]; exact .prj .idi rfl B1s h
 | .bool, l, h => by rw [S8]; exact .prj .idb rfl B1t h
 | .fn a b, l, h => by rw [S8]; exact .prj (.fn (A3n a (-l) zW) (A3o b l h)) rfl B1u h
 | .pr a b, l, h => by rw [S8]; exact .prj (.pr (A3o a l h) (A3o b l h)) rfl B1v h
end
theorem A1t (B : GT) (l : Int) : kc .any B l = S8 B l := by rw [kc]
theorem A2h (A : GT) (l : Int) : kc A .any l = U6 A l := by cases A <;> first | (rw [kc, S8, U6]; done) | rw [kc] <;> simp
theorem A2O (a b c d : GT) (l : Int) : kc (.fn a b) (.fn c d) l = .fn (kc c a (-l)) (kc b d l) := by rw [kc]
theorem A2P (a b c d : GT) (l : Int) : kc (.pr a b) (.pr c d) l = .pr (kc a c l) (kc b d l) := by rw [kc]
theorem A4j (l : Int) : kc .int .int l = .idi := by rw [kc]; simp
theorem A4k (l : Int) : kc .bool .bool l = .idb := by rw [kc]; simp
theorem B7a {A B : GT} (h : Co A B) : ∀ (l : Int), l ≠ 0 → CT (kc A B l) A B ∧ CT (kc B A l) B A := by
 induction h with
 | l => intro l h; rw [A1t, A2h]; exact ⟨A3o _ l h, A3n _ l h⟩
 | r => intro l h; rw [A1t, A2h]; exact ⟨A3n _ l h, A3o _ l h⟩
 | int => intro l _; rw [A4j]; exact ⟨.idi, .idi⟩
 | bool => intro l _; rw [A4k]; exact ⟨.idb, .idb⟩
 | fn h1 h2 i j =>
  intro l h
  rw [A2O, A2O]
  exact ⟨.fn (i (-l) zW).2 (j l h).1, .fn (i (-l) zW).1 (j l h).2⟩
 | pr _ _ i j => intro l h; rw [A2P, A2P]; exact ⟨.pr (i l h).1 (j l h).1, .pr (i l h).2 (j l h).2⟩
theorem B7b {A B : GT} (h : Co A B) (l : Int) (hl : l ≠ 0) : CT (kc A B l) A B := (B7a h l hl).1
end Gw
end Go.Proofs.YtmceanphadildaaGreatDoor
namespace Go.Proofs.YtmceanphadildaaGreatDoor
namespace Gw
inductive TH where
 | var (x : ByteArray)
 | num (n : Int)
 | tru (b : Bool)
 | lam (x : ByteArray) (A : GT) (e : TH)
 | app (f a : TH)
 | ar (s : Bool) (a b : TH)
 | ite (c a b : TH)
 | pair (a b : TH)
 | part (s : Bool) (e : TH)
 | conv (c : GK) (e : TH)
def TH.sub : TH → ByteArray → TH → TH
 | .var y, x, v => if y = x then v else .var y
 | .num n, _, _ => .num n
 | .tru b, _, _ => .tru b
 | .lam y A e, x, v => if y = x then .lam y A e else .lam y A (e.sub x v)
 | .app f a, x, v => .app (f.sub x v) (a.sub x v)
 | .ar s a b, x, v => .ar s (a.sub x v) (b.sub x v)
 | .ite c a b, x, v => .ite (c.sub x v) (a.sub x v) (b.sub x v)
 | .pair a b, x, v => .pair (a.sub x v) (b.sub x v)
 | .part s e, x, v => .part s (e.sub x v)
 | .conv c e, x, v => .conv c (e.sub x v)
def GK.vl : GK → Bool
 | .inj _ => true
 | .fn _ _ => true
 | .pr _ _ => true
 | _ => false
mutual
def TH.pln : TH → Bool
 | .var _ => false
 | .num _ => true
 | .tru _ => true
 | .lam _ _ _ => true
 | .app _ _ => false
 | .ar _ _ _ => false
 | .ite _ _ _ => false
 | .pair a b => a.val && b.val
 | .part _ _ => false
 | .conv _ _ => false
def TH.val : TH → Bool
 | .var _ => false
 | .num _ => true
 | .tru _ => true
 | .lam _ _ _ => true
 | .app _ _ => false
 | .ar _ _ _ => false
 | .ite _ _ _ => false
 | .pair a b => a.val && b.val
 | .part _ _ => false
 | .conv c e => c.vl && e.pln
end
def TH.cnv : TH → Bool
 | .conv _ _ => true
 | _ => false
theorem A5t {t : TH} (h : t.pln = true) : t.val = true := by
 cases t <;> first | rfl | (rw [TH.pln] at h; rw [TH.val]; exact h) | (rw [TH.pln] at h; cases h)
theorem A1O {t : TH} (h : t.pln = true) : t.cnv = false := by cases t <;> first | rfl | (rw [TH.pln] at h; cases h)
theorem A08 {t : TH} (h : t.val = true) (hc : t.cnv = false) : t.pln = true := by
 cases t <;> first | rfl | (rw [TH.val] at h; rw [TH.pln]; exact h) | (rw [TH.val] at h; cases h) | cases hc
def arT (s : Bool) (m n : Int) : TH := if s = true then .tru (decide (m < n)) else .num ((m + n) % 1000)
abbrev Y4 := TH × Int × Int
def TH.nul : TH := .num 0
def V3 (C : TH → TH) (r : Y4) : Y4 := (C r.1, r.2.1, r.2.2)
def plS (e : TH) : GK → Y4
 | .ida => (e, 1, 0)
 | .idi => (e, 1, 0)
 | .idb => (e, 1, 0)
 | .fl l _ => (.nul, 2, l)
 | _ => (.nul, 3, 0)
def cvS (c : GK) : TH → Y4 → Y4
 | .conv c0 u, _ => if fit c0 c = true then (.conv (cmp c0 c) u, 1, 0) else (.nul, 3, 0)
 | e, r => if e.pln = false then V3 (fun x => .conv c x) r else plS e c
theorem A09 {c : GK} {e : TH} {r : Y4} (h : e.cnv = false) : cvS c e r = if e.pln = false then V3 (fun x => .conv c x) r else plS e c := by
 cases e <;> first | rfl | cases h
theorem A7n {c c0 : GK} {u : TH} {r : Y4} (h : fit c0 c = true) : cvS c (.conv c0 u) r = (.conv (cmp c0 c) u, 1, 0) := if_pos h
def apS (a : TH) : TH → Y4
 | .lam x _ b => (b.sub x a, 1, 0)
 | .conv (.fn c d) (.lam x A b) => (.conv d (.app (.lam x A b) (.conv c a)), 1, 0)
 | _ => (.nul, 3, 0)
def arS (s : Bool) : TH → TH → Y4
 | .num m, .num n => (arT s m n, 1, 0)
 | _, _ => (.nul, 3, 0)
def itS (a b : TH) : TH → Y4
 | .tru s => (if s = true then a else b, 1, 0)
 | _ => (.nul, 3, 0)
def ptS (s : Bool) : TH → Y4
 | .pair a b => (if s = true then b else a, 1, 0)
 | .conv (.pr c d) (.pair a b) => (.conv (if s = true then d else c) (.part s (.pair a b)), 1, 0)
 | _ => (.nul, 3, 0)
def TH.stp : TH → Y4
 | .app f a => if f.val = false then V3 (fun x => .app x a) f.stp else if a.val = false then V3 (fun x => .app f x) a.stp else apS a f
 | .ar s a b => if a.val = false then V3 (fun x => .ar s x b) a.stp else if b.val = false then V3 (fun x => .ar s a x) b.stp else arS s a b
 | .ite c a b => if c.val = false then V3 (fun x => .ite x a b) c.stp else itS a b c
 | .pair a b => if a.val = false then V3 (fun x => .pair x b) a.stp else V3 (fun x => .pair a x) b.stp
 | .part s e => if e.val = false then V3 (fun x => .part s x) e.stp else ptS s e
 | .conv c e => cvS c e e.stp
 | .var _ => (.nul, 3, 0)
 | .num _ => (.nul, 3, 0)
 | .tru _ => (.nul, 3, 0)
 | .lam _ _ _ => (.nul, 3, 0)
def B1w (s : Bool) : GT := if s = true then .bool else .int
inductive ST : GC → TH → GT → Prop
 | var {Γ x A} : Γ x = some (A, A) → ST Γ (.var x) A
 | num {Γ n} : ST Γ (.num n) .int
 | tru {Γ b} : ST Γ (.tru b) .bool
 | lam {Γ x A B e} : ST (P4 Γ x A A) e B → ST Γ (.lam x A e) (.fn A B)
 | app {Γ f a A B} : ST Γ f (.fn A B) → ST Γ a A → ST Γ (.app f a) B
 | ar {Γ s a b T} : ST Γ a .int → ST Γ b .int → T = B1w s → ST Γ (.ar s a b) T
 | ite {Γ c a b A} : ST Γ c .bool → ST Γ a A → ST Γ b A → ST Γ (.ite c a b) A
 | pair {Γ a b A B} : ST Γ a A → ST Γ b B → ST Γ (.pair a b) (.pr A B)
 | part {Γ s e A B T} : ST Γ e (.pr A B) → T = (if s = true then B else A) → ST Γ (.part s e) T
 | conv {Γ c e A B} : ST Γ e A → CT c A B → ST Γ (.conv c e) B
theorem ST.weak {Γ : GC} {e : TH} {A : GT} (h : ST Γ e A) : ∀ {Δ : GC}, (∀ y p, Γ y = some p → Δ y = some p) → ST Δ e A := by
 induction h with
 | var h => intro Δ hD; exact .var (hD _ _ h)
 | num => intro _ _; exact .num
 | tru => intro _ _; exact .tru
 | lam _ i =>
  intro Δ hD
  refine .lam (i fun z p hz => ?_)
  unfold P4 at hz ⊢
  split
  ·rename_i h2; rw [if_pos h2] at hz; exact hz
  ·rename_i h2; rw [if_neg h2] at hz; exact hD z p hz
 | app _ _ i j => intro Δ hD; exact .app (i hD) (j hD)
 | ar _ _ hT i j => intro Δ hD; exact .ar (i hD) (j hD) hT
 | ite _ _ _ i j k => intro Δ hD; exact .ite (i hD) (j hD) (k hD)
 | pair _ _ i j => intro Δ hD; exact .pair (i hD) (j hD)
 | part _ hT i => intro Δ hD; exact .part (i hD) hT
 | conv _ c i => intro Δ hD; exact .conv (i hD) c
theorem ST.sub {x : ByteArray} {v : TH} {A : GT} (hv : ST D6 v A) {Γ : GC} {e : TH} {B : GT} (h : ST Γ e B) :
  ∀ {Δ : GC}, (∀ y, x ≠ y → Γ y = Δ y) → Γ x = some (A, A) → ST Δ (e.sub x v) B := by
 induction h with
 | @var Γ y C hy =>
  intro Δ hD hx
  simp only [TH.sub]
  split
  ·rename_i he
   subst he
   rw [hx] at hy
   cases hy
   exact hv.weak fun z p hz => by cases hz
  ·rename_i he
   exact .var (by rw [← hD y (fun e => he e.symm)]; exact hy)
 | num => intro _ _ _; exact .num
 | tru => intro _ _ _; exact .tru
 | @lam Γ y C D e h i =>
  intro Δ hD hx
  simp only [TH.sub]
  by_cases he : y = x
  ·rw [if_pos he]
   refine .lam (h.weak fun z p hz => ?_)
   unfold P4 at hz ⊢
   split
   ·rename_i h2; rw [if_pos h2] at hz; exact hz
   ·rename_i h2; rw [if_neg h2] at hz; rw [← hD z (fun e => h2 (he.trans e))]; exact hz
  ·rw [if_neg he]
   refine .lam (i (fun z hz => ?_) ?_)
   ·unfold P4
    split
    ·rfl
    ·exact hD z hz
   ·unfold P4; rw [if_neg he]; exact hx
 | app _ _ i j => intro Δ hD hx; exact .app (i hD hx) (j hD hx)
 | ar _ _ hT i j => intro Δ hD hx; exact .ar (i hD hx) (j hD hx) hT
 | ite _ _ _ i j k => intro Δ hD hx; exact .ite (i hD hx) (j hD hx) (k hD hx)
 | pair _ _ i j => intro Δ hD hx; exact .pair (i hD hx) (j hD hx)
 | part _ hT i => intro Δ hD hx; exact .part (i hD hx) hT
 | conv _ c i => intro Δ hD hx; exact .conv (i hD hx) c
theorem A3p {u : TH} {A : GT} (h : ST D6 u A) (hp : u.pln = true) : A ≠ .any := by
 cases h <;> first | (simp; done) | (rw [TH.pln] at hp; cases hp)
theorem B7c {u : TH} (h : ST D6 u .int) (hp : u.pln = true) : ∃ n, u = .num n := by
 cases h <;> first | exact ⟨_, rfl⟩ | (rw [TH.pln] at hp; cases hp)
theorem B7d {u : TH} (h : ST D6 u .bool) (hp : u.pln = true) : ∃ n, u = .tru n := by
 cases h <;> first | exact ⟨_, rfl⟩ | (rw [TH.pln] at hp; cases hp)
theorem B1x {u : TH} {A B : GT} (h : ST D6 u (.fn A B)) (hp : u.pln = true) : ∃ x e, u = .lam x A e ∧ ST (P4 D6 x A A) e B := by
 cases h <;> first | exact ⟨_, _, rfl, by assumption⟩ | (rw [TH.pln] at hp; cases hp)
theorem B1y {u : TH} {A B : GT} (h : ST D6 u (.pr A B)) (hp : u.pln = true) : ∃ a b, u = .pair a b ∧ a.val = true ∧ b.val = true ∧ ST D6 a A ∧ ST D6 b B := by
 cases h <;> first | (rw [TH.pln, Bool.and_eq_true] at hp; exact ⟨_, _, rfl, hp.1, hp.2, by assumption, by assumption⟩) | (rw [TH.pln] at hp; cases hp)
theorem B1z {c : GK} {A B : GT} (h : CT c A B) (hv : c.vl = true) : B ≠ .int ∧ B ≠ .bool := by
 cases h <;> first | (cases hv; done) | (exact ⟨by simp, by simp⟩)
theorem A3q {v : TH} (h : ST D6 v .int) (hv : v.val = true) : ∃ n, v = .num n := by
 by_cases hc : v.cnv = false
 ·exact B7c h (A08 hv hc)
 ·cases h with
  | conv hu hk =>
   rw [TH.val, Bool.and_eq_true] at hv
   exact absurd rfl (B1z hk hv.1).1
  | _ => exact absurd rfl hc
theorem A7o {v : TH} (h : ST D6 v .bool) (hv : v.val = true) : ∃ n, v = .tru n := by
 by_cases hc : v.cnv = false
 ·exact B7d h (A08 hv hc)
 ·cases h with
  | conv hu hk =>
   rw [TH.val, Bool.and_eq_true] at hv
   exact absurd rfl (B1z hk hv.1).2
  | _ => exact absurd rfl hc
theorem A7p {v : TH} {A B : GT} (h : ST D6 v (.fn A B)) (hv : v.val = true) : (∃ x e, v = .lam x A e ∧ ST (P4 D6 x A A) e B) ∨
  ∃ c d x e A' B', v = .conv (.fn c d) (.lam x A' e) ∧ CT c A A' ∧ CT d B' B ∧ ST (P4 D6 x A' A') e B' := by
 by_cases hc : v.cnv = false
 ·exact .inl (B1x h (A08 hv hc))
 ·cases h with
  | @conv _ c u C _ hu hk =>
   rw [TH.val, Bool.and_eq_true] at hv
   cases hk with
   | fn h1 h2 =>
    obtain ⟨x, e, rfl, he⟩ := B1x hu hv.2
    exact .inr ⟨_, _, _, _, _, _, rfl, h1, h2, he⟩
   | _ => cases hv.1
  | _ => exact absurd rfl hc
theorem A7q {v : TH} {A B : GT} (h : ST D6 v (.pr A B)) (hv : v.val = true) : (∃ a b, v = .pair a b ∧ a.val = true ∧ b.val = true ∧ ST D6 a A ∧ ST D6 b B) ∨
  ∃ c d a b A' B', v = .conv (.pr c d) (.pair a b) ∧ CT c A' A ∧ CT d B' B ∧ a.val = true ∧ b.val = true ∧ ST D6 a A' ∧ ST D6 b B' := by
 by_cases hc : v.cnv = false
 ·exact .inl (B1y h (A08 hv hc))
 ·cases h with
  | @conv _ c u C _ hu hk =>
   rw [TH.val, Bool.and_eq_true] at hv
   cases hk with
   | pr h1 h2 =>
    obtain ⟨a, b, rfl, h3, h4, h5, h6⟩ := B1y hu hv.2
    exact .inr ⟨_, _, _, _, _, _, rfl, h1, h2, h3, h4, h5, h6⟩
   | _ => cases hv.1
  | _ => exact absurd rfl hc
def A5u (A : GT) (r : Y4) : Prop := (r.2.1 = 1 ∧ r.2.2 = 0 ∧ ST D6 r.1 A) ∨ (r.2.1 = 2 ∧ r.2.2 ≠ 0)
theorem A5u.lift {A B : GT} {r : Y4} (C : TH → TH) (h : A5u A r) (hC : ∀ t, ST D6 t A → ST D6 (C t) B) : A5u B (V3 C r) := by
 rcases h with ⟨h1, h2, h3⟩ | ⟨h1, h2⟩
 ·exact .inl ⟨h1, h2, hC _ h3⟩
 ·exact .inr ⟨h1, h2⟩
theorem nf {b : Bool} (h : ¬ b = false) : b = true := by cases b <;> first | rfl | exact absurd rfl h
theorem A7r {Γ : GC} {t : TH} {A : GT} (h : ST Γ t A) : Γ = D6 → t.val = false → A5u A t.stp := by
 induction h with
 | var hx => intro hE; subst hE; cases hx
 | num => intro _ hv; cases hv
 | tru => intro _ hv; cases hv
 | lam _ _ => intro _ hv; cases hv
 | @app Γ f a A B hf ha i j =>
  intro hE _
  subst hE
  rw [TH.stp]
  split
  ·rename_i h1; exact (i rfl h1).lift _ fun t ht => .app ht ha
  ·split
   ·rename_i h1; exact (j rfl h1).lift _ fun t ht => .app hf ht
   ·rename_i h1 h2
    rcases A7p hf (nf h1) with ⟨x, e, rfl, he⟩ | ⟨c, d, x, e, A', B', rfl, hc, hd, he⟩
    ·exact .inl ⟨rfl, rfl, ha.sub he (fun y hy => by unfold P4; rw [if_neg hy]) (by unfold P4; rw [if_pos rfl])⟩
    ·exact .inl ⟨rfl, rfl, .conv (.app (.lam he) (.conv ha hc)) hd⟩
 | @ar Γ s a b T ha hb hT i j =>
  intro hE _
  subst hE hT
  rw [TH.stp]
  split
  ·rename_i h1; exact (i rfl h1).lift _ fun t ht => (.ar ht hb rfl)
  ·split
   ·rename_i h1; exact (j rfl h1).lift _ fun t ht => (.ar ha ht rfl)
   ·rename_i h1 h2
    obtain ⟨m, rfl⟩ := A3q ha (nf h1)
    obtain ⟨n, rfl⟩ := A3q hb (nf h2)
    refine .inl ⟨rfl, rfl, ?_⟩
    show ST D6 (arT s m n) (B1w s)
    unfold arT
    cases s
    ·exact .num
    ·exact .tru
 | @ite Γ c a b A hc ha hb i _ _ =>
  intro hE _
  subst hE
  rw [TH.stp]
  split
  ·rename_i h1; exact (i rfl h1).lift _ fun t ht => .ite ht ha hb
  ·rename_i h1
   obtain ⟨m, rfl⟩ := A7o hc (nf h1)
   refine .inl ⟨rfl, rfl, ?_⟩
   cases m
   ·exact hb
   ·exact ha
 | @pair Γ a b A B ha hb i j =>
  intro hE hv
  subst hE
  rw [TH.stp]
  split
  ·rename_i h1; exact (i rfl h1).lift _ fun t ht => .pair ht hb
  ·rename_i h1
   refine (j rfl ?_).lift _ fun t ht => .pair ha ht
   rw [TH.val, nf h1, Bool.true_and] at hv
   exact hv
 | @part Γ s e A B T he hT i =>
  intro hE _
  subst hE hT
  rw [TH.stp]
  by_cases h1 : e.val = false
  ·rw [if_pos h1]; exact (i rfl h1).lift _ fun t ht => .part ht rfl
  ·rw [if_neg h1]
   rcases A7q he (nf h1) with ⟨a, b, rfl, _, _, ha, hb⟩ | ⟨c, d, a, b, A', B', rfl, hc, hd, _, _, ha, hb⟩
   ·refine .inl ⟨rfl, rfl, ?_⟩
    cases s
    ·exact ha
    ·exact hb
   ·refine .inl ⟨rfl, rfl, ?_⟩
    have := ST.part (s := s) (ST.pair ha hb) rfl
    cases s
    ·exact .conv this hc
    ·exact .conv this hd
 | @conv Γ c e A B he hc i =>
  intro hE hv
  subst hE
  rw [TH.stp]
  by_cases hcn : e.cnv = false
  ·rw [A09 hcn]
   split
   ·rename_i h1
    refine (i rfl ?_).lift _ fun t ht => .conv ht hc
    cases hv2 : e.val with
    | false => rfl
    | true => rw [A08 hv2 hcn] at h1; cases h1
   ·rename_i h1
    have hp := nf h1
    cases hc with
    | ida => exact absurd rfl (A3p he hp)
    | idi => exact .inl ⟨rfl, rfl, he⟩
    | idb => exact .inl ⟨rfl, rfl, he⟩
    | fl _ _ hl => exact .inr ⟨rfl, hl⟩
    | prj _ _ _ _ => exact absurd rfl (A3p he hp)
    | _ => rw [TH.val] at hv; rw [hp] at hv; cases hv
  ·cases he with
   | conv hu h0 =>
    rw [A7n (h0.fit hc)]
    exact .inl ⟨rfl, rfl, .conv hu (h0.cmp hc)⟩
   | _ => exact absurd rfl hcn
end Gw
end Go.Proofs.YtmceanphadildaaGreatDoor
namespace Go.Proofs.YtmceanphadildaaGreatDoor
namespace Gw
inductive Rs where
 | v (t : TH)
 | b (l : Int)
def fin (u : TH) : GK → Option Rs
 | .ida => some (.v u)
 | .idi => some (.v u)
 | .idb => some (.v u)
 | .fl l _ => some (.b l)
 | .prj _ _ => none
 | .inj c => some (.v (.conv (.inj c) u))
 | .fn c d => some (.v (.conv (.fn c d) u))
 | .pr c d => some (.v (.conv (.pr c d) u))
def W2 (c : GK) : TH → Option Rs
 | .conv c0 u => fin u (cmp c0 c)
 | u => fin u c
def after (d : GK) : Rs → Option Rs
 | .v t => W2 d t
 | .b l => some (.b l)
theorem A0B {c : GK} {u : TH} (h : u.cnv = false) : W2 c u = fin u c := by cases u <;> first | rfl | cases h
theorem B1A {c : GK} {u : TH} (h : u.cnv = false) (hc : c.vl = true) : W2 c u = some (.v (.conv c u)) := by
 rw [A0B h]
 cases c <;> first | rfl | cases hc
theorem B1B {u : TH} {c : GK} {w : TH} (hu : u.pln = true) (h : fin u c = some (.v w)) : w.val = true := by
 cases c <;> simp only [fin, Option.some.injEq, Rs.v.injEq, reduceCtorEq] at h <;> subst h <;> first | exact A5t hu | (rw [TH.val, hu]; rfl)
theorem A4l {u : TH} {c : GK} {w : TH} (hu : u.val = true) (h : W2 c u = some (.v w)) : w.val = true := by
 cases hc : u.cnv with
 | false => rw [A0B hc] at h; exact B1B (A08 hu hc) h
 | true =>
  cases u <;> first | cases hc | skip
  rw [TH.val, Bool.and_eq_true] at hu
  exact B1B hu.2 h
theorem B1C {u : TH} {c : GK} {A B : GT} (hu : u.pln = true) (ht : ST D6 u A) (hc : CT c A B) : ∃ r, fin u c = some r ∧ ∀ w, r = .v w → ST D6 w B := by
 have hA := A3p ht hu
 cases hc with
 | ida => exact absurd rfl hA
 | idi => exact ⟨_, rfl, fun w h => by cases h; exact ht⟩
 | idb => exact ⟨_, rfl, fun w h => by cases h; exact ht⟩
 | fn h1 h2 => exact ⟨_, rfl, fun w h => by cases h; exact .conv ht (.fn h1 h2)⟩
 | pr h1 h2 => exact ⟨_, rfl, fun w h => by cases h; exact .conv ht (.pr h1 h2)⟩
 | inj h1 h2 h3 => exact ⟨_, rfl, fun w h => by cases h; exact .conv ht (.inj h1 h2 h3)⟩
 | prj _ _ _ _ => exact absurd rfl hA
 | fl _ _ _ => exact ⟨_, rfl, fun w h => by cases h⟩
theorem U7 {Γ : GC} {c : GK} {u : TH} {B : GT} (h : ST Γ (.conv c u) B) : ∃ A, ST Γ u A ∧ CT c A B := by
 cases h with
 | conv h1 h2 => exact ⟨_, h1, h2⟩
theorem A3r {u : TH} {c : GK} {A B : GT} (hu : u.val = true) (ht : ST D6 u A) (hc : CT c A B) : ∃ r, W2 c u = some r ∧ ∀ w, r = .v w → ST D6 w B := by
 cases hcn : u.cnv with
 | false => rw [A0B hcn]; exact B1C (A08 hu hcn) ht hc
 | true =>
  cases u <;> first | cases hcn | skip
  rw [TH.val, Bool.and_eq_true] at hu
  obtain ⟨C, h1, h2⟩ := U7 ht
  exact B1C hu.2 h1 (h2.cmp hc)
theorem B1D {u : TH} {a b : GK} {A B : GT} (hu : u.pln = true) (ht : ST D6 u A) (ha : CT a A B) : fin u (cmp a b) = (fin u a).bind (after b) := by
 have hA := A3p ht hu
 have hcn := A1O hu
 cases ha with
 | ida => exact absurd rfl hA
 | prj _ _ _ _ => exact absurd rfl hA
 | idi => rw [cmp]; exact (A0B hcn).symm
 | idb => rw [cmp]; exact (A0B hcn).symm
 | fl _ _ _ => rw [cmp]; rfl
 | inj _ _ _ => rfl
 | fn _ _ => rfl
 | pr _ _ => rfl
theorem A7s {u : TH} {a b : GK} {A B C : GT} (hu : u.val = true) (ht : ST D6 u A) (ha : CT a A B) (hb : CT b B C) : W2 (cmp a b) u = (W2 a u).bind (after b) := by
 cases hcn : u.cnv with
 | false => rw [A0B hcn, A0B hcn]; exact B1D (A08 hu hcn) ht ha
 | true =>
  cases u <;> first | cases hcn | skip
  rename_i c0 w
  rw [TH.val, Bool.and_eq_true] at hu
  obtain ⟨D, h1, h2⟩ := U7 ht
  show fin w (cmp c0 (cmp a b)) = (fin w (cmp c0 a)).bind (after b)
  rw [← B69 h2 ha hb]
  exact B1D hu.2 h1 (h2.cmp ha)
inductive I8 : TH → Rs → Prop
 | num {n} : I8 (.num n) (.v (.num n))
 | tru {n} : I8 (.tru n) (.v (.tru n))
 | lam {x A e} : I8 (.lam x A e) (.v (.lam x A e))
 | pair {a b x y} : I8 a (.v x) → I8 b (.v y) → I8 (.pair a b) (.v (.pair x y))
 | pair1 {a b l} : I8 a (.b l) → I8 (.pair a b) (.b l)
 | pair2 {a b x l} : I8 a (.v x) → I8 b (.b l) → I8 (.pair a b) (.b l)
 | conv {c e x r} : I8 e (.v x) → W2 c x = some r → I8 (.conv c e) r
 | conv1 {c e l} : I8 e (.b l) → I8 (.conv c e) (.b l)
 | app {f a x A e w r} : I8 f (.v (.lam x A e)) → I8 a (.v w) → I8 (e.sub x w) r → I8 (.app f a) r
 | appc {f a c d x A e w z r r'} : I8 f (.v (.conv (.fn c d) (.lam x A e))) → I8 a (.v w) → W2 c w = some (.v z) → I8 (e.sub x z) r → after d r = some r' → I8 (.app f a) r'
 | appb {f a c d x A e w l} : I8 f (.v (.conv (.fn c d) (.lam x A e))) → I8 a (.v w) → W2 c w = some (.b l) → I8 (.app f a) (.b l)
 | app1 {f a l} : I8 f (.b l) → I8 (.app f a) (.b l)
 | app2 {f a w l} : I8 f (.v w) → I8 a (.b l) → I8 (.app f a) (.b l)
 | ar {s a b m n} : I8 a (.v (.num m)) → I8 b (.v (.num n)) → I8 (.ar s a b) (.v (arT s m n))
 | ar1 {s a b l} : I8 a (.b l) → I8 (.ar s a b) (.b l)
 | ar2 {s a b w l} : I8 a (.v w) → I8 b (.b l) → I8 (.ar s a b) (.b l)
 | ite {c a b s r} : I8 c (.v (.tru s)) → I8 (if s = true then a else b) r → I8 (.ite c a b) r
 | ite1 {c a b l} : I8 c (.b l) → I8 (.ite c a b) (.b l)
 | part {s e a b r} : I8 e (.v (.pair a b)) → r = .v (if s = true then b else a) → I8 (.part s e) r
 | partc {s e c d a b r} : I8 e (.v (.conv (.pr c d) (.pair a b))) → W2 (if s = true then d else c) (if s = true then b else a) = some r → I8 (.part s e) r
 | part1 {s e l} : I8 e (.b l) → I8 (.part s e) (.b l)
theorem I8.det {t : TH} {r : Rs} (h : I8 t r) : ∀ {r'}, I8 t r' → r' = r := by
 induction h with
 | num => intro r' h; cases h; rfl
 | tru => intro r' h; cases h; rfl
 | lam => intro r' h; cases h; rfl
 | pair _ _ i j =>
  intro r' h
  cases h with
  | pair h1 h2 => cases i h1; cases j h2; rfl
  | pair1 h1 => cases i h1
  | pair2 _ h2 => cases j h2
 | pair1 _ i =>
  intro r' h
  cases h with
  | pair h1 h2 => cases i h1
  | pair1 h1 => cases i h1; rfl
  | pair2 h1 _ => cases i h1
 | pair2 _ _ i j =>
  intro r' h
  cases h with
  | pair h1 h2 => cases j h2
  | pair1 h1 => cases i h1
  | pair2 _ h2 => cases j h2; rfl
 | conv _ hc i =>
  intro r' h
  cases h with
  | conv h1 h2 => cases i h1; rw [hc] at h2; cases h2; rfl
  | conv1 h1 => cases i h1
 | conv1 _ i =>
  intro r' h
  cases h with
  | conv h1 h2 => cases i h1
  | conv1 h1 => cases i h1; rfl
 | app _ _ _ i j k =>
  intro r' h
  cases h with
  | app h1 h2 h3 => cases i h1; cases j h2; exact k h3
  | appc h1 _ _ _ _ => cases i h1
  | appb h1 _ _ => cases i h1
  | app1 h1 => cases i h1
  | app2 _ h2 => cases j h2
 | appc _ _ hc _ hd i j k =>
  intro r' h
  cases h with
  | app h1 h2 h3 => cases i h1
  | appc h1 h2 h3 h4 h5 => cases i h1; cases j h2; rw [hc] at h3; cases h3; cases k h4; rw [hd] at h5; cases h5; rfl
  | appb h1 h2 h3 => cases i h1; cases j h2; rw [hc] at h3; cases h3
  | app1 h1 => cases i h1
  | app2 _ h2 => cases j h2
 | appb _ _ hc i j =>
  intro r' h
  cases h with
  | app h1 h2 h3 => cases i h1
  | appc h1 h2 h3 h4 h5 => cases i h1; cases j h2; rw [hc] at h3; cases h3
  | appb h1 h2 h3 => cases i h1; cases j h2; rw [hc] at h3; cases h3; rfl
  | app1 h1 => cases i h1
  | app2 _ h2 => cases j h2
 | app1 _ i =>
  intro r' h
  cases h with
  | app h1 h2 h3 => cases i h1
  | appc h1 _ _ _ _ => cases i h1
  | appb h1 _ _ => cases i h1
  | app1 h1 => cases i h1; rfl
  | app2 h1 h2 => cases i h1
 | app2 _ _ i j =>
  intro r' h
  cases h with
  | app h1 h2 h3 => cases j h2
  | appc _ h2 _ _ _ => cases j h2
  | appb _ h2 _ => cases j h2
  | app1 h1 => cases i h1
  | app2 h1 h2 => cases j h2; rfl
 | ar _ _ i j =>
  intro r' h
  cases h with
  | ar h1 h2 => cases i h1; cases j h2; rfl
  | ar1 h1 => cases i h1
  | ar2 _ h2 => cases j h2
 | ar1 _ i =>
  intro r' h
  cases h with
  | ar h1 h2 => cases i h1
  | ar1 h1 => cases i h1; rfl
  | ar2 h1 h2 => cases i h1
 | ar2 _ _ i j =>
  intro r' h
  cases h with
  | ar h1 h2 => cases j h2
  | ar1 h1 => cases i h1
  | ar2 h1 h2 => cases j h2; rfl
 | ite _ _ i j =>
  intro r' h
  cases h with
  | ite h1 h2 => cases i h1; exact j h2
  | ite1 h1 => cases i h1
 | ite1 _ i =>
  intro r' h
  cases h with
  | ite h1 h2 => cases i h1
  | ite1 h1 => cases i h1; rfl
 | part _ hr i =>
  intro r' h
  cases h with
  | part h1 h2 => cases i h1; rw [h2, hr]
  | partc h1 _ => cases i h1
  | part1 h1 => cases i h1
 | partc _ hr i =>
  intro r' h
  cases h with
  | part h1 h2 => cases i h1
  | partc h1 h2 => cases i h1; rw [hr] at h2; cases h2; rfl
  | part1 h1 => cases i h1
 | part1 _ i =>
  intro r' h
  cases h with
  | part h1 h2 => cases i h1
  | partc h1 h2 => cases i h1
  | part1 h1 => cases i h1; rfl
theorem A0C : ∀ (t : TH), t.val = true → I8 t (.v t) := by
 intro t
 induction t with
 | num _ => intro _; exact .num
 | tru _ => intro _; exact .tru
 | lam _ _ _ _ => intro _; exact .lam
 | pair a b i j => intro h; rw [TH.val, Bool.and_eq_true] at h; exact .pair (i h.1) (j h.2)
 | conv c e i => intro h; rw [TH.val, Bool.and_eq_true] at h; exact .conv (i (A5t h.2)) (B1A (A1O h.2) h.1)
 | _ => intro h; cases h
theorem I8.T {t : TH} {r : Rs} (h : I8 t r) : ∀ {A}, ST D6 t A → ∀ w, r = .v w → ST D6 w A ∧ w.val = true := by
 induction h with
 | num => intro A h w e; cases e; exact ⟨h, rfl⟩
 | tru => intro A h w e; cases e; exact ⟨h, rfl⟩
 | lam => intro A h w e; cases e; exact ⟨h, rfl⟩
 | pair _ _ i j =>
  intro A h w e
  cases e
  cases h with
  | pair h1 h2 => exact ⟨.pair (i h1 _ rfl).1 (j h2 _ rfl).1, by rw [TH.val, (i h1 _ rfl).2, (j h2 _ rfl).2]; rfl⟩
 | conv _ hc i =>
  intro A h w e
  subst e
  obtain ⟨B, h1, h2⟩ := U7 h
  obtain ⟨h3, h4⟩ := i h1 _ rfl
  obtain ⟨r, h5, h6⟩ := A3r h4 h3 h2
  rw [hc] at h5
  cases h5
  exact ⟨h6 _ rfl, A4l h4 hc⟩
 | app _ _ _ i j k =>
  intro A h w e
  subst e
  cases h with
  | app h1 h2 =>
   have hf := (i h1 _ rfl).1
   have ha := (j h2 _ rfl).1
   cases hf with
   | lam he => exact k (ha.sub he (fun y hy => by unfold P4; rw [if_neg hy]) (by unfold P4; rw [if_pos rfl])) _ rfl
 | @appc _ _ _ _ _ _ _ _ _ r0 _ _ _ hc _ hd i j k =>
  intro A h w e
  subst e
  cases h with
  | app h1 h2 =>
   have hf := (i h1 _ rfl).1
   obtain ⟨ha, hav⟩ := j h2 _ rfl
   obtain ⟨C, hl, hk⟩ := U7 hf
   cases hl with
   | lam he => cases hk with
    | fn k1 k2 =>
     obtain ⟨r1, h5, h6⟩ := A3r hav ha k1
     rw [hc] at h5
     cases h5
     have hs := (h6 _ rfl).sub he (Δ := D6) (fun y hy => by unfold P4; rw [if_neg hy]) (by unfold P4; rw [if_pos rfl])
     cases r0 with
     | b l => cases hd
     | v t =>
      obtain ⟨g1, g2⟩ := k hs _ rfl
      obtain ⟨r2, h7, h8⟩ := A3r g2 g1 k2
      have hd' : W2 _ t = some (.v w) := hd
      rw [hd'] at h7
      cases h7
      exact ⟨h8 _ rfl, A4l g2 hd'⟩
 | @ar s _ _ _ _ _ _ i j =>
  intro A h w e
  cases e
  cases h with
  | ar h1 h2 hT =>
   subst hT
   unfold arT
   cases s
   ·exact ⟨.num, rfl⟩
   ·exact ⟨.tru, rfl⟩
 | ite _ _ i j =>
  intro A h w e
  cases h with
  | ite h1 h2 h3 => exact j (by split <;> assumption) w e
 | @part s _ _ _ _ _ hr i =>
  intro A h w e
  subst hr
  cases e
  cases h with
  | part h1 hT =>
   subst hT
   obtain ⟨h2, h3⟩ := i h1 _ rfl
   rw [TH.val, Bool.and_eq_true] at h3
   cases h2 with
   | pair h4 h5 =>
    cases s
    ·exact ⟨h4, h3.1⟩
    ·exact ⟨h5, h3.2⟩
 | @partc s _ _ _ _ _ _ _ hr i =>
  intro A h w e
  subst e
  cases h with
  | part h1 hT =>
   subst hT
   obtain ⟨h2, h3⟩ := i h1 _ rfl
   rw [TH.val, TH.pln, Bool.and_eq_true, Bool.and_eq_true] at h3
   obtain ⟨C, hl, hk⟩ := U7 h2
   cases hl with
   | pair h4 h5 => cases hk with
    | pr k1 k2 =>
     cases s
     ·obtain ⟨r1, g1, g2⟩ := A3r h3.2.1 h4 k1
      have hr' : some r1 = some (.v w) := g1.symm.trans hr
      cases hr'
      exact ⟨g2 _ rfl, A4l h3.2.1 hr⟩
     ·obtain ⟨r1, g1, g2⟩ := A3r h3.2.2 h5 k2
      have hr' : some r1 = some (.v w) := g1.symm.trans hr
      cases hr'
      exact ⟨g2 _ rfl, A4l h3.2.2 hr⟩
 | _ => intro A h w e; cases e
end Gw
end Go.Proofs.YtmceanphadildaaGreatDoor
namespace Go.Proofs.YtmceanphadildaaGreatDoor
namespace Gw
theorem B1E {Γ : GC} {t : TH} {A : GT} (h : ST Γ t A) : Γ = D6 → t.val = false → (t.stp.2.1 = 1 → ∀ r, I8 t.stp.1 r → I8 t r) ∧ (t.stp.2.1 = 2 → I8 t (.b t.stp.2.2)) := by
 induction h with
 | var hx => intro hE; subst hE; cases hx
 | num => intro _ hv; cases hv
 | tru => intro _ hv; cases hv
 | lam _ _ => intro _ hv; cases hv
 | @app Γ f a A B hf ha i j =>
  intro hE _
  subst hE
  rw [TH.stp]
  split
  ·rename_i h1
   obtain ⟨i1, i2⟩ := i rfl h1
   refine ⟨fun hc r hr => ?_, fun hc => .app1 (i2 hc)⟩
   cases hr with
   | app g1 g2 g3 => exact .app (i1 hc _ g1) g2 g3
   | appc g1 g2 g3 g4 g5 => exact .appc (i1 hc _ g1) g2 g3 g4 g5
   | appb g1 g2 g3 => exact .appb (i1 hc _ g1) g2 g3
   | app1 g1 => exact .app1 (i1 hc _ g1)
   | app2 g1 g2 => exact .app2 (i1 hc _ g1) g2
  ·rename_i h1
   split
   ·rename_i h2
    obtain ⟨j1, j2⟩ := j rfl h2
    refine ⟨fun hc r hr => ?_, fun hc => .app2 (A0C f (nf h1)) (j2 hc)⟩
    cases hr with
    | app g1 g2 g3 => exact .app g1 (j1 hc _ g2) g3
    | appc g1 g2 g3 g4 g5 => exact .appc g1 (j1 hc _ g2) g3 g4 g5
    | appb g1 g2 g3 => exact .appb g1 (j1 hc _ g2) g3
    | app1 g1 => exact .app1 g1
    | app2 g1 g2 => exact .app2 g1 (j1 hc _ g2)
   ·rename_i h2
    have hva := A0C a (nf h2)
    rcases A7p hf (nf h1) with ⟨x, e, rfl, he⟩ | ⟨c, d, x, e, A', B', rfl, hc, hd, he⟩
    ·refine ⟨fun _ r hr => .app .lam hva hr, fun hc => ?_⟩
     exact absurd hc (by simp [apS])
    ·refine ⟨fun _ r hr => ?_, fun hc => absurd hc (by simp [apS])⟩
     have hf2 : I8 (.conv (.fn c d) (.lam x A' e)) (.v (.conv (.fn c d) (.lam x A' e))) := A0C _ rfl
     cases hr with
     | conv g1 g2 =>
      cases g1 with
      | app k1 k2 k3 =>
       cases k1
       cases k2 with
       | conv m1 m2 =>
        have := hva.det m1
        cases this
        exact .appc hf2 hva m2 k3 g2
      | appc k1 => cases k1
     | conv1 g1 =>
      cases g1 with
      | app k1 k2 k3 =>
       cases k1
       cases k2 with
       | conv m1 m2 =>
        have := hva.det m1
        cases this
        exact .appc hf2 hva m2 k3 rfl
      | appc k1 => cases k1
      | appb k1 => cases k1
      | app1 k1 => cases k1
      | app2 k1 k2 =>
       cases k2 with
       | conv m1 m2 =>
        have := hva.det m1
        cases this
        exact .appb hf2 hva m2
       | conv1 m1 => exact absurd (hva.det m1) zX
 | @ar Γ s a b T ha hb hT i j =>
  intro hE _
  subst hE hT
  rw [TH.stp]
  split
  ·rename_i h1
   obtain ⟨i1, i2⟩ := i rfl h1
   refine ⟨fun hc r hr => ?_, fun hc => .ar1 (i2 hc)⟩
   cases hr with
   | ar g1 g2 => exact .ar (i1 hc _ g1) g2
   | ar1 g1 => exact .ar1 (i1 hc _ g1)
   | ar2 g1 g2 => exact .ar2 (i1 hc _ g1) g2
  ·rename_i h1
   split
   ·rename_i h2
    obtain ⟨j1, j2⟩ := j rfl h2
    refine ⟨fun hc r hr => ?_, fun hc => .ar2 (A0C a (nf h1)) (j2 hc)⟩
    cases hr with
    | ar g1 g2 => exact .ar g1 (j1 hc _ g2)
    | ar1 g1 => exact .ar1 g1
    | ar2 g1 g2 => exact .ar2 g1 (j1 hc _ g2)
   ·rename_i h2
    obtain ⟨m, rfl⟩ := A3q ha (nf h1)
    obtain ⟨n, rfl⟩ := A3q hb (nf h2)
    refine ⟨fun _ r hr => ?_, fun hc => absurd hc (by simp [arS])⟩
    have hv : I8 (arT s m n) (.v (arT s m n)) := A0C _ (by unfold arT; split <;> rfl)
    have := hv.det hr
    rw [this]
    exact .ar .num .num
 | @ite Γ c a b A hc ha hb i _ _ =>
  intro hE _
  subst hE
  rw [TH.stp]
  split
  ·rename_i h1
   obtain ⟨i1, i2⟩ := i rfl h1
   refine ⟨fun hc r hr => ?_, fun hc => .ite1 (i2 hc)⟩
   cases hr with
   | ite g1 g2 => exact .ite (i1 hc _ g1) g2
   | ite1 g1 => exact .ite1 (i1 hc _ g1)
  ·rename_i h1
   obtain ⟨m, rfl⟩ := A7o hc (nf h1)
   exact ⟨fun _ r hr => .ite .tru hr, fun hc => absurd hc (by simp [itS])⟩
 | @pair Γ a b A B ha hb i j =>
  intro hE hv
  subst hE
  rw [TH.stp]
  split
  ·rename_i h1
   obtain ⟨i1, i2⟩ := i rfl h1
   refine ⟨fun hc r hr => ?_, fun hc => .pair1 (i2 hc)⟩
   cases hr with
   | pair g1 g2 => exact .pair (i1 hc _ g1) g2
   | pair1 g1 => exact .pair1 (i1 hc _ g1)
   | pair2 g1 g2 => exact .pair2 (i1 hc _ g1) g2
  ·rename_i h1
   have h2 : b.val = false := by rw [TH.val, nf h1, Bool.true_and] at hv; exact hv
   obtain ⟨j1, j2⟩ := j rfl h2
   refine ⟨fun hc r hr => ?_, fun hc => .pair2 (A0C a (nf h1)) (j2 hc)⟩
   cases hr with
   | pair g1 g2 => exact .pair g1 (j1 hc _ g2)
   | pair1 g1 => exact .pair1 g1
   | pair2 g1 g2 => exact .pair2 g1 (j1 hc _ g2)
 | @part Γ s e A B T he hT i =>
  intro hE _
  subst hE hT
  rw [TH.stp]
  by_cases h1 : e.val = false
  ·rw [if_pos h1]
   obtain ⟨i1, i2⟩ := i rfl h1
   refine ⟨fun hc r hr => ?_, fun hc => .part1 (i2 hc)⟩
   cases hr with
   | part g1 g2 => exact .part (i1 hc _ g1) g2
   | partc g1 g2 => exact .partc (i1 hc _ g1) g2
   | part1 g1 => exact .part1 (i1 hc _ g1)
  ·rw [if_neg h1]
   have hve := A0C e (nf h1)
   rcases A7q he (nf h1) with ⟨a, b, rfl, hav, hbv, ha, hb⟩ | ⟨c, d, a, b, A', B', rfl, hc, hd, hav, hbv, ha, hb⟩
   ·refine ⟨fun _ r hr => ?_, fun hc => absurd hc (by simp [ptS])⟩
    have hv : I8 (if s = true then b else a) (.v (if s = true then b else a)) := by
     cases s
     ·exact A0C a hav
     ·exact A0C b hbv
    have := hv.det hr
    exact .part hve this
   ·refine ⟨fun _ r hr => ?_, fun hc => absurd hc (by simp [ptS])⟩
    have hp : I8 (.pair a b) (.v (.pair a b)) := .pair (A0C a hav) (A0C b hbv)
    have hq : I8 (.part s (.pair a b)) (.v (if s = true then b else a)) := .part hp rfl
    cases hr with
    | conv g1 g2 =>
     have := hq.det g1
     cases this
     exact .partc hve g2
    | conv1 g1 => exact absurd (hq.det g1) zX
 | @conv Γ c e A B he hc i =>
  intro hE hv
  subst hE
  rw [TH.stp]
  by_cases hcn : e.cnv = false
  ·rw [A09 hcn]
   split
   ·rename_i h1
    have h2 : e.val = false := by
     cases hv2 : e.val with
     | false => rfl
     | true => rw [A08 hv2 hcn] at h1; cases h1
    obtain ⟨i1, i2⟩ := i rfl h2
    refine ⟨fun hc r hr => ?_, fun hc => .conv1 (i2 hc)⟩
    cases hr with
    | conv g1 g2 => exact .conv (i1 hc _ g1) g2
    | conv1 g1 => exact .conv1 (i1 hc _ g1)
   ·rename_i h1
    have hp := nf h1
    have hve := A0C e (A5t hp)
    have hcap : W2 c e = fin e c := A0B (A1O hp)
    cases hc with
    | ida => exact absurd rfl (A3p he hp)
    | idi => exact ⟨fun _ r hr => by have := hve.det hr; rw [this]; exact .conv hve (by rw [hcap]; rfl), fun hc => absurd hc (by simp [plS])⟩
    | idb => exact ⟨fun _ r hr => by have := hve.det hr; rw [this]; exact .conv hve (by rw [hcap]; rfl), fun hc => absurd hc (by simp [plS])⟩
    | fl _ _ hl => exact ⟨fun hc => absurd hc (by simp [plS]), fun _ => .conv hve (by rw [hcap]; rfl)⟩
    | prj _ _ _ _ => exact absurd rfl (A3p he hp)
    | _ => rw [TH.val] at hv; rw [hp] at hv; cases hv
  ·cases he with
   | @conv _ c0 u A0 _ hu h0 =>
    rw [A7n (h0.fit hc)]
    refine ⟨fun _ r hr => ?_, fun h2 => absurd h2 zX⟩
    cases hr with
    | conv g1 g2 =>
     obtain ⟨t1, t2⟩ := g1.T hu _ rfl
     rw [A7s t2 t1 h0 hc] at g2
     cases h3 : W2 c0 _ with
     | none => rw [h3] at g2; cases g2
     | some r0 =>
      rw [h3] at g2
      cases r0 with
      | v y => exact .conv (.conv g1 h3) g2
      | b l =>
       have : r = .b l := by cases g2; rfl
       rw [this]
       exact .conv1 (.conv g1 h3)
    | conv1 g1 => exact .conv1 (.conv1 g1)
   | _ => exact absurd rfl hcn
end Gw
end Go.Proofs.YtmceanphadildaaGreatDoor
namespace Go.Proofs.YtmceanphadildaaGreatDoor
namespace Gw
def GK.idn : GK → Bool
 | .ida => true
 | .idi => true
 | .idb => true
 | .fn c d => c.idn && d.idn
 | .pr c d => c.idn && d.idn
 | _ => false
theorem A1P : ∀ {c : GK} {A B : GT}, CT c A B → c.idn = true → A = B := by
 intro c A B h
 induction h with
 | ida => intro _; rfl
 | idi => intro _; rfl
 | idb => intro _; rfl
 | fn _ _ i j => intro h; rw [GK.idn, Bool.and_eq_true] at h; rw [i h.1, j h.2]
 | pr _ _ i j => intro h; rw [GK.idn, Bool.and_eq_true] at h; rw [i h.1, j h.2]
 | inj _ _ _ _ => intro h; cases h
 | prj _ _ _ _ _ => intro h; cases h
 | fl _ _ _ => intro h; cases h
theorem A7t {c : GK} {B : GT} (h : CT c .any B) (hi : c.idn = true) : c = .ida := by
 cases h <;> first | rfl | cases hi
theorem B1F {c : GK} {A : GT} (h : CT c A .any) (hi : c.idn = true) : c = .ida := by
 have := A1P h hi
 subst this
 exact A7t h hi
theorem B1G {c : GK} {A B : GT} (h : CT c A B) (hi : c.idn = true) (hA : A ≠ .any) : c.pl = true := by
 cases h <;> first | rfl | (cases hi; done) | exact absurd rfl hA
theorem B1H : ∀ {k : GK} {A B : GT}, CT k A B → (∀ {c : GK} {C : GT}, CT c B C → c.idn = true → cmp k c = k) ∧ (∀ {d : GK} {D : GT}, CT d D A → d.idn = true → cmp d k = k) := by
 intro k A B h
 induction h with
 | ida => exact ⟨fun hc hi => by rw [A7t hc hi, cmp], fun hc hi => by rw [B1F hc hi, cmp]⟩
 | idi =>
  refine ⟨fun hc hi => ?_, fun hc hi => ?_⟩
  ·have := A1P hc hi; subst this; cases hc <;> first | (cases hi; done) | rw [cmp]
  ·have := A1P hc hi; subst this; cases hc <;> first | (cases hi; done) | rw [cmp]
 | idb =>
  refine ⟨fun hc hi => ?_, fun hc hi => ?_⟩
  ·have := A1P hc hi; subst this; cases hc <;> first | (cases hi; done) | rw [cmp]
  ·have := A1P hc hi; subst this; cases hc <;> first | (cases hi; done) | rw [cmp]
 | fn h1 h2 i j =>
  refine ⟨fun hc hi => ?_, fun hc hi => ?_⟩
  ·cases hc with
   | fn h3 h4 => rw [GK.idn, Bool.and_eq_true] at hi; rw [cmp, i.2 h3 hi.1, j.1 h4 hi.2]
   | _ => cases hi
  ·cases hc with
   | fn h3 h4 => rw [GK.idn, Bool.and_eq_true] at hi; rw [cmp, i.1 h3 hi.1, j.2 h4 hi.2]
   | _ => cases hi
 | pr h1 h2 i j =>
  refine ⟨fun hc hi => ?_, fun hc hi => ?_⟩
  ·cases hc with
   | pr h3 h4 => rw [GK.idn, Bool.and_eq_true] at hi; rw [cmp, i.1 h3 hi.1, j.1 h4 hi.2]
   | _ => cases hi
  ·cases hc with
   | pr h3 h4 => rw [GK.idn, Bool.and_eq_true] at hi; rw [cmp, i.2 h3 hi.1, j.2 h4 hi.2]
   | _ => cases hi
 | inj h1 h2 h3 i =>
  refine ⟨fun hc hi => by rw [A7t hc hi, A3m], fun hc hi => ?_⟩
  have := A1P hc hi; subst this
  rw [A2g (B1G hc hi (h1.plg h2).1), i.2 hc hi]
 | prj h1 h2 h3 h4 i => exact ⟨fun hc hi => by rw [cmp, i.1 hc hi], fun hc hi => by rw [B1F hc hi, cmp]⟩
 | fl h1 h2 h3 =>
  refine ⟨fun hc hi => by rw [cmp], fun hc hi => ?_⟩
  have := A1P hc hi; subst this
  exact A2f (B1G hc hi h1)
theorem B7e {k c : GK} {A B C : GT} (h : CT k A B) (hc : CT c B C) (hi : c.idn = true) : cmp k c = k := (B1H h).1 hc hi
theorem B7f {k d : GK} {A B D : GT} (h : CT k A B) (hd : CT d D A) (hi : d.idn = true) : cmp d k = k := (B1H h).2 hd hi
inductive U : TH → TH → Prop
 | var {x} : U (.var x) (.var x)
 | num {n} : U (.num n) (.num n)
 | tru {b} : U (.tru b) (.tru b)
 | lam {x A e e'} : U e e' → U (.lam x A e) (.lam x A e')
 | app {f a f' a'} : U f f' → U a a' → U (.app f a) (.app f' a')
 | ar {s a b a' b'} : U a a' → U b b' → U (.ar s a b) (.ar s a' b')
 | ite {c a b c' a' b'} : U c c' → U a a' → U b b' → U (.ite c a b) (.ite c' a' b')
 | pair {a b a' b'} : U a a' → U b b' → U (.pair a b) (.pair a' b')
 | part {s e e'} : U e e' → U (.part s e) (.part s e')
 | conv {c e e'} : U e e' → U (.conv c e) (.conv c e')
 | mrg {c d e u} : U e (.conv d u) → U (.conv c e) (.conv (cmp d c) u)
 | idn {c e e'} : U e e' → c.idn = true → U (.conv c e) e'
 | back {c d e u} : U e (.conv d u) → (cmp d c).idn = true → U (.conv c e) u
theorem U.refl : ∀ {t : TH}, U t t
 | .var _ => .var
 | .num _ => .num
 | .tru _ => .tru
 | .lam _ _ _ => .lam U.refl
 | .app _ _ => .app U.refl U.refl
 | .ar _ _ _ => .ar U.refl U.refl
 | .ite _ _ _ => .ite U.refl U.refl U.refl
 | .pair _ _ => .pair U.refl U.refl
 | .part _ _ => .part U.refl
 | .conv _ _ => .conv U.refl
theorem U.sub {x : ByteArray} {v v' : TH} (hv : U v v') {t t' : TH} (h : U t t') : U (t.sub x v) (t'.sub x v') := by
 induction h with
 | @var y => rw [TH.sub, TH.sub]; split; exact hv; exact .var
 | num => exact .num
 | tru => exact .tru
 | @lam y A e e' h i => rw [TH.sub, TH.sub]; split; exact .lam h; exact .lam i
 | app _ _ i j => exact .app i j
 | ar _ _ i j => exact .ar i j
 | ite _ _ _ i j k => exact .ite i j k
 | pair _ _ i j => exact .pair i j
 | part _ i => exact .part i
 | conv _ i => exact .conv i
 | mrg _ i => exact .mrg i
 | idn _ h i => exact .idn i h
 | back _ h i => exact .back i h
theorem U.T {t t' : TH} (h : U t t') : ∀ {Γ A}, ST Γ t A → ST Γ t' A := by
 induction h with
 | var => exact fun h => h
 | num => exact fun h => h
 | tru => exact fun h => h
 | lam _ i => intro Γ A h; cases h with | lam h => exact .lam (i h)
 | app _ _ i j => intro Γ A h; cases h with | app h1 h2 => exact .app (i h1) (j h2)
 | ar _ _ i j => intro Γ A h; cases h with | ar h1 h2 h3 => exact .ar (i h1) (j h2) h3
 | ite _ _ _ i j k => intro Γ A h; cases h with | ite h1 h2 h3 => exact .ite (i h1) (j h2) (k h3)
 | pair _ _ i j => intro Γ A h; cases h with | pair h1 h2 => exact .pair (i h1) (j h2)
 | part _ i => intro Γ A h; cases h with | part h1 h2 => exact .part (i h1) h2
 | conv _ i => intro Γ A h; cases h with | conv h1 h2 => exact .conv (i h1) h2
 | mrg _ i =>
  intro Γ A h
  obtain ⟨B, h1, h2⟩ := U7 h
  obtain ⟨C, h3, h4⟩ := U7 (i h1)
  exact .conv h3 (h4.cmp h2)
 | idn _ hi i =>
  intro Γ A h
  obtain ⟨B, h1, h2⟩ := U7 h
  have := A1P h2 hi; subst this
  exact i h1
 | back _ hi i =>
  intro Γ A h
  obtain ⟨B, h1, h2⟩ := U7 h
  obtain ⟨C, h3, h4⟩ := U7 (i h1)
  have := A1P (h4.cmp h2) hi; subst this
  exact h3
inductive UR : Rs → Rs → Prop
 | v {t t'} : U t t' → UR (.v t) (.v t')
 | b {l} : UR (.b l) (.b l)
theorem A3s {t t' : TH} (h : U t t') (hc : t.cnv = false) : t'.cnv = false := by
 cases h <;> first | rfl | cases hc
theorem A3t {c : GK} {u t' : TH} (h : U (.conv c u) t') (hu : u.cnv = false) : (∃ u', t' = .conv c u' ∧ U u u') ∨ (U u t' ∧ c.idn = true) := by
 cases h with
 | conv h => exact .inl ⟨_, rfl, h⟩
 | mrg h => have := A3s h hu; cases this
 | idn h hi => exact .inr ⟨h, hi⟩
 | back h hi => have := A3s h hu; cases this
theorem A7u {u u' : TH} {c : GK} {r : Rs} (h : U u u') (hf : fin u c = some r) : ∃ r', fin u' c = some r' ∧ UR r r' := by
 cases c <;> simp only [fin, Option.some.injEq, reduceCtorEq] at hf <;> subst hf <;> first | exact ⟨_, rfl, .v h⟩ | exact ⟨_, rfl, .b⟩ | exact ⟨_, rfl, .v (.conv h)⟩
theorem A4m {c : GK} {u : TH} (h : (TH.conv c u).val = true) : c.vl = true ∧ u.pln = true := by rw [TH.val, Bool.and_eq_true] at h; exact h
theorem A2i {x x' : TH} {k : GK} {A B : GT} {r : Rs} (h : U x x') (hv : x.val = true) (ht : ST D6 x A) (hk : CT k A B) (hf : W2 k x = some r) : ∃ r', W2 k x' = some r' ∧ UR r r' := by
 cases hc : x.cnv with
 | false =>
  rw [A0B hc] at hf
  rw [A0B (A3s h hc)]
  exact A7u h hf
 | true =>
  cases x <;> first | cases hc | skip
  rename_i c u
  obtain ⟨_, hp⟩ := A4m hv
  have hu := A1O hp
  obtain ⟨C, h1, h2⟩ := U7 ht
  rcases A3t h hu with ⟨u', rfl, h3⟩ | ⟨h3, hi⟩
  ·exact A7u h3 hf
  ·rw [A0B (A3s h3 hu)]
   have e : W2 k (.conv c u) = fin u (cmp c k) := rfl
   rw [e, B7f hk h2 hi] at hf
   exact A7u h3 hf
theorem A5v {x : TH} {c : GK} {A B : GT} {r : Rs} (hv : x.val = true) (ht : ST D6 x A) (hc : CT c A B) (hi : c.idn = true) (hf : W2 c x = some r) : r = .v x ∨ (r = .v (.conv c x) ∧ x.cnv = false) := by
 cases hcn : x.cnv with
 | false =>
  rw [A0B hcn] at hf
  cases c <;> first | (cases hi; done) | (simp only [fin, Option.some.injEq] at hf; subst hf; first | exact .inl rfl | exact .inr ⟨rfl, rfl⟩)
 | true =>
  cases x <;> first | cases hcn | skip
  rename_i d u
  obtain ⟨h3, h4⟩ := A4m hv
  obtain ⟨C, h1, h2⟩ := U7 ht
  have e : W2 c (.conv d u) = fin u (cmp d c) := rfl
  rw [e, B7e h2 hc hi, ← A0B (A1O h4), B1A (A1O h4) h3] at hf
  cases hf
  exact .inl rfl
theorem A4n {x x' : TH} {c : GK} {A B : GT} {r : Rs} (h : U x x') (hv : x.val = true) (ht : ST D6 x A) (hc : CT c A B) (hi : c.idn = true) (hf : W2 c x = some r) : UR r (.v x') := by
 rcases A5v hv ht hc hi hf with rfl | ⟨rfl, _⟩
 ·exact .v h
 ·exact .v (.idn h hi)
theorem A5w {c d : GK} {u : TH} {A B C : GT} {r : Rs} (hu : ST D6 u A) (hd : CT d A B) (hc : CT c B C) (h : I8 (.conv c (.conv d u)) r) : I8 (.conv (cmp d c) u) r := by
 cases h with
 | conv g1 g2 =>
  cases g1 with
  | conv k1 k2 =>
   obtain ⟨t1, t2⟩ := k1.T hu _ rfl
   exact .conv k1 (by rw [A7s t2 t1 hd hc, k2]; exact g2)
 | conv1 g1 =>
  cases g1 with
  | conv k1 k2 =>
   obtain ⟨t1, t2⟩ := k1.T hu _ rfl
   exact .conv k1 (by rw [A7s t2 t1 hd hc, k2]; rfl)
  | conv1 k1 => exact .conv1 k1
theorem B7g {r y : TH} {k : GK} (h : U r (.conv k y)) (hv : r.val = true) (hk : k.idn = true) : U r y := by
 cases hc : r.cnv with
 | false => have := A3s h hc; cases this
 | true =>
  cases r <;> first | cases hc | skip
  rename_i c u
  obtain ⟨_, hp⟩ := A4m hv
  rcases A3t h (A1O hp) with ⟨u', h1, h2⟩ | ⟨h1, _⟩
  ·cases h1; exact .idn h2 hk
  ·have := A3s h1 (A1O hp); cases this
theorem UR.v_inv {t : TH} {r : Rs} (h : UR (.v t) r) : ∃ t', r = .v t' ∧ U t t' := by cases h with | v h => exact ⟨_, rfl, h⟩
theorem UR.b_inv {l : Int} {r : Rs} (h : UR (.b l) r) : r = .b l := by cases h; rfl
theorem A5x {x : ByteArray} {A : GT} {e t : TH} (h : U (.lam x A e) t) : ∃ e', t = .lam x A e' ∧ U e e' := by cases h with | lam h => exact ⟨_, rfl, h⟩
theorem A7v {a b t : TH} (h : U (.pair a b) t) : ∃ a' b', t = .pair a' b' ∧ U a a' ∧ U b b' := by cases h with | pair h h2 => exact ⟨_, _, rfl, h, h2⟩
theorem B1I {n : Int} {t : TH} (h : U (.num n) t) : t = .num n := by cases h; rfl
theorem B7h {n : Bool} {t : TH} (h : U (.tru n) t) : t = .tru n := by cases h; rfl
theorem U.ev {t : TH} {r : Rs} (h : I8 t r) : ∀ {t' A}, U t t' → ST D6 t A → ∃ r', I8 t' r' ∧ UR r r' := by
 induction h with
 | num => intro t' A h _; cases h; exact ⟨_, .num, .v .num⟩
 | tru => intro t' A h _; cases h; exact ⟨_, .tru, .v .tru⟩
 | lam => intro t' A h _; cases h with | lam h => exact ⟨_, .lam, .v (.lam h)⟩
 | pair _ _ i j =>
  intro t' A h ht
  cases h with | pair u1 u2 => cases ht with | pair t1 t2 =>
  obtain ⟨r1, e1, q1⟩ := i u1 t1
  obtain ⟨x1, rfl, pp⟩ := q1.v_inv; replace q1 := pp; clear pp
  obtain ⟨r2, e2, q2⟩ := j u2 t2
  obtain ⟨x2, rfl, pp⟩ := q2.v_inv; replace q2 := pp; clear pp
  exact ⟨_, .pair e1 e2, .v (.pair q1 q2)⟩
 | pair1 _ i =>
  intro t' A h ht
  cases h with | pair u1 u2 => cases ht with | pair t1 t2 =>
  obtain ⟨r1, e1, q1⟩ := i u1 t1
  obtain rfl := q1.b_inv
  exact ⟨_, .pair1 e1, .b⟩
 | pair2 _ _ i j =>
  intro t' A h ht
  cases h with | pair u1 u2 => cases ht with | pair t1 t2 =>
  obtain ⟨r1, e1, q1⟩ := i u1 t1
  obtain ⟨x1, rfl, pp⟩ := q1.v_inv; replace q1 := pp; clear pp
  obtain ⟨r2, e2, q2⟩ := j u2 t2
  obtain rfl := q2.b_inv
  exact ⟨_, .pair2 e1 e2, .b⟩
 | @conv c e x r he hc i =>
  intro t' A h ht
  obtain ⟨B, t1, t2⟩ := U7 ht
  obtain ⟨v1, v2⟩ := he.T t1 _ rfl
  cases h with
  | conv u1 =>
   obtain ⟨r1, e1, q1⟩ := i u1 t1
   obtain ⟨x1, rfl, pp⟩ := q1.v_inv; replace q1 := pp; clear pp
   obtain ⟨r', e2, q2⟩ := A2i q1 v2 v1 t2 hc
   exact ⟨r', .conv e1 e2, q2⟩
  | mrg u1 =>
   obtain ⟨r1, e1, q1⟩ := i u1 t1
   obtain ⟨x1, rfl, pp⟩ := q1.v_inv; replace q1 := pp; clear pp
   obtain ⟨r', e2, q2⟩ := A2i q1 v2 v1 t2 hc
   obtain ⟨C, t3, t4⟩ := U7 (u1.T t1)
   exact ⟨r', A5w t3 t4 t2 (.conv e1 e2), q2⟩
  | idn u1 hi =>
   obtain ⟨r1, e1, q1⟩ := i u1 t1
   obtain ⟨x1, rfl, pp⟩ := q1.v_inv; replace q1 := pp; clear pp
   exact ⟨_, e1, A4n q1 v2 v1 t2 hi hc⟩
  | @back _ d _ u u1 hi =>
   obtain ⟨r1, e1, q1⟩ := i u1 t1
   obtain ⟨x1, rfl, pp⟩ := q1.v_inv; replace q1 := pp; clear pp
   obtain ⟨r', e2, q2⟩ := A2i q1 v2 v1 t2 hc
   obtain ⟨C, t3, t4⟩ := U7 (u1.T t1)
   cases A5w t3 t4 t2 (.conv e1 e2) with
   | conv g1 g2 =>
    obtain ⟨w1, w2⟩ := g1.T t3 _ rfl
    rcases A5v w2 w1 (t4.cmp t2) hi g2 with rfl | ⟨rfl, _⟩
    ·exact ⟨_, g1, q2⟩
    ·refine ⟨_, g1, ?_⟩
     cases q2 with
     | v q2 => exact .v (B7g q2 (A4l v2 hc) hi)
   | conv1 g1 =>
    cases e1 with
    | conv k1 k2 => exact absurd (k1.det g1) zX
 | conv1 he i =>
  intro t' A h ht
  obtain ⟨B, t1, t2⟩ := U7 ht
  cases h with
  | conv u1 =>
   obtain ⟨r1, e1, q1⟩ := i u1 t1
   obtain rfl := q1.b_inv
   exact ⟨_, .conv1 e1, .b⟩
  | mrg u1 =>
   obtain ⟨r1, e1, q1⟩ := i u1 t1
   obtain rfl := q1.b_inv
   obtain ⟨C, t3, t4⟩ := U7 (u1.T t1)
   exact ⟨_, A5w t3 t4 t2 (.conv1 e1), .b⟩
  | idn u1 hi =>
   obtain ⟨r1, e1, q1⟩ := i u1 t1
   exact ⟨_, e1, q1⟩
  | @back _ d _ u u1 hi =>
   obtain ⟨r1, e1, q1⟩ := i u1 t1
   obtain rfl := q1.b_inv
   obtain ⟨C, t3, t4⟩ := U7 (u1.T t1)
   cases A5w t3 t4 t2 (.conv1 e1) with
   | conv g1 g2 =>
    obtain ⟨w1, w2⟩ := g1.T t3 _ rfl
    rcases A5v w2 w1 (t4.cmp t2) hi g2 with h | ⟨h, _⟩
    ·cases h
    ·cases h
   | conv1 g1 => exact ⟨_, g1, .b⟩
 | @app f a x A e w r hf ha hb i j k =>
  intro t' B h ht
  cases h with | app u1 u2 => cases ht with | app t1 t2 =>
  obtain ⟨r1, e1, q1⟩ := i u1 t1
  obtain ⟨x1, rfl, pp⟩ := q1.v_inv; replace q1 := pp; clear pp
  obtain ⟨e', rfl, m1⟩ := A5x q1
  obtain ⟨r2, e2, q2⟩ := j u2 t2
  obtain ⟨x2, rfl, pp⟩ := q2.v_inv; replace q2 := pp; clear pp
  have hl := (hf.T t1 _ rfl).1
  have hw := (ha.T t2 _ rfl).1
  cases hl with
  | lam he =>
   obtain ⟨r', e3, q3⟩ := k (q2.sub m1) (hw.sub he (fun y hy => by unfold P4; rw [if_neg hy]) (by unfold P4; rw [if_pos rfl]))
   exact ⟨r', .app e1 e2 e3, q3⟩
 | @appc f a c d x A e w z r r' hf ha hc hb hd i j k =>
  intro t' B h ht
  cases h with | app u1 u2 => cases ht with | app t1 t2 =>
  obtain ⟨r1, e1, q1⟩ := i u1 t1
  obtain ⟨x1, rfl, pp⟩ := q1.v_inv; replace q1 := pp; clear pp
  obtain ⟨r2, e2, q2⟩ := j u2 t2
  obtain ⟨x2, rfl, pp⟩ := q2.v_inv; replace q2 := pp; clear pp
  have hl := (hf.T t1 _ rfl).1
  obtain ⟨hw, hwv⟩ := ha.T t2 _ rfl
  obtain ⟨C, hl, hk⟩ := U7 hl
  cases hl with
  | lam he => cases hk with
   | fn k1 k2 =>
    obtain ⟨r5, h5, h6⟩ := A3r hwv hw k1
    rw [hc] at h5
    cases h5
    have hs := (h6 _ rfl).sub he (Δ := D6) (fun y hy => by unfold P4; rw [if_neg hy]) (by unfold P4; rw [if_pos rfl])
    rcases A3t q1 rfl with ⟨u', rfl, w1⟩ | ⟨w1, hi⟩
    ·obtain ⟨e', rfl, m1⟩ := A5x w1
     obtain ⟨rz, e4, q4⟩ := A2i q2 hwv hw k1 hc
     obtain ⟨z', rfl, pp⟩ := q4.v_inv; replace q4 := pp; clear pp
     obtain ⟨r3, e3, q3⟩ := k (q4.sub m1) hs
     cases q3 with
     | @v y y' q3 =>
      obtain ⟨y1, y2⟩ := hb.T hs _ rfl
      obtain ⟨r6, e6, q6⟩ := A2i q3 y2 y1 k2 hd
      exact ⟨r6, .appc e1 e2 e4 e3 e6, q6⟩
     | b => cases hd; exact ⟨_, .appc e1 e2 e4 e3 rfl, .b⟩
    ·obtain ⟨e', rfl, m1⟩ := A5x w1
     rw [GK.idn, Bool.and_eq_true] at hi
     have hz := A4n q2 hwv hw k1 hi.1 hc
     cases hz with
     | v hz =>
      obtain ⟨r3, e3, q3⟩ := k (hz.sub m1) hs
      cases q3 with
      | @v y y' q3 =>
       obtain ⟨y1, y2⟩ := hb.T hs _ rfl
       exact ⟨_, .app e1 e2 e3, A4n q3 y2 y1 k2 hi.2 hd⟩
      | b => cases hd; exact ⟨_, .app e1 e2 e3, .b⟩
 | @appb f a c d x A e w l hf ha hc i j =>
  intro t' B h ht
  cases h with | app u1 u2 => cases ht with | app t1 t2 =>
  obtain ⟨r1, e1, q1⟩ := i u1 t1
  obtain ⟨x1, rfl, pp⟩ := q1.v_inv; replace q1 := pp; clear pp
  obtain ⟨r2, e2, q2⟩ := j u2 t2
  obtain ⟨x2, rfl, pp⟩ := q2.v_inv; replace q2 := pp; clear pp
  have hl := (hf.T t1 _ rfl).1
  obtain ⟨hw, hwv⟩ := ha.T t2 _ rfl
  obtain ⟨C, hl, hk⟩ := U7 hl
  cases hl with
  | lam he => cases hk with
   | fn k1 k2 =>
    rcases A3t q1 rfl with ⟨u', rfl, w1⟩ | ⟨w1, hi⟩
    ·obtain ⟨e', rfl, m1⟩ := A5x w1
     obtain ⟨rz, e4, q4⟩ := A2i q2 hwv hw k1 hc
     obtain rfl := q4.b_inv
     exact ⟨_, .appb e1 e2 e4, .b⟩
    ·rw [GK.idn, Bool.and_eq_true] at hi
     rcases A5v hwv hw k1 hi.1 hc with h | ⟨h, _⟩
     ·cases h
     ·cases h
 | app1 _ i =>
  intro t' B h ht
  cases h with | app u1 u2 => cases ht with | app t1 t2 =>
  obtain ⟨r1, e1, q1⟩ := i u1 t1
  obtain rfl := q1.b_inv
  exact ⟨_, .app1 e1, .b⟩
 | app2 _ _ i j =>
  intro t' B h ht
  cases h with | app u1 u2 => cases ht with | app t1 t2 =>
  obtain ⟨r1, e1, q1⟩ := i u1 t1
  obtain ⟨x1, rfl, pp⟩ := q1.v_inv; replace q1 := pp; clear pp
  obtain ⟨r2, e2, q2⟩ := j u2 t2
  obtain rfl := q2.b_inv
  exact ⟨_, .app2 e1 e2, .b⟩
 | ar _ _ i j =>
  intro t' B h ht
  cases h with | ar u1 u2 => cases ht with | ar t1 t2 _ =>
  obtain ⟨r1, e1, q1⟩ := i u1 t1
  obtain ⟨x1, rfl, pp⟩ := q1.v_inv; replace q1 := pp; clear pp
  obtain rfl := B1I q1
  obtain ⟨r2, e2, q2⟩ := j u2 t2
  obtain ⟨x2, rfl, pp⟩ := q2.v_inv; replace q2 := pp; clear pp
  obtain rfl := B1I q2
  exact ⟨_, .ar e1 e2, .v U.refl⟩
 | ar1 _ i =>
  intro t' B h ht
  cases h with | ar u1 u2 => cases ht with | ar t1 t2 _ =>
  obtain ⟨r1, e1, q1⟩ := i u1 t1
  obtain rfl := q1.b_inv
  exact ⟨_, .ar1 e1, .b⟩
 | ar2 _ _ i j =>
  intro t' B h ht
  cases h with | ar u1 u2 => cases ht with | ar t1 t2 _ =>
  obtain ⟨r1, e1, q1⟩ := i u1 t1
  obtain ⟨x1, rfl, pp⟩ := q1.v_inv; replace q1 := pp; clear pp
  obtain ⟨r2, e2, q2⟩ := j u2 t2
  obtain rfl := q2.b_inv
  exact ⟨_, .ar2 e1 e2, .b⟩
 | @ite c a b s r _ _ i j =>
  intro t' B h ht
  cases h with | ite u1 u2 u3 => cases ht with | ite t1 t2 t3 =>
  obtain ⟨r1, e1, q1⟩ := i u1 t1
  obtain ⟨x1, rfl, pp⟩ := q1.v_inv; replace q1 := pp; clear pp
  obtain rfl := B7h q1
  cases s with
  | true => obtain ⟨r2, e2, q2⟩ := j u2 t2; exact ⟨r2, .ite e1 e2, q2⟩
  | false => obtain ⟨r2, e2, q2⟩ := j u3 t3; exact ⟨r2, .ite e1 e2, q2⟩
 | ite1 _ i =>
  intro t' B h ht
  cases h with | ite u1 u2 u3 => cases ht with | ite t1 t2 t3 =>
  obtain ⟨r1, e1, q1⟩ := i u1 t1
  obtain rfl := q1.b_inv
  exact ⟨_, .ite1 e1, .b⟩
 | @part s e a b r _ hr i =>
  intro t' B h ht
  subst hr
  cases h with | part u1 => cases ht with | part t1 _ =>
  obtain ⟨r1, e1, q1⟩ := i u1 t1
  obtain ⟨x1, rfl, pp⟩ := q1.v_inv; replace q1 := pp; clear pp
  obtain ⟨a', b', rfl, q2, q3⟩ := A7v q1
  exact ⟨_, .part e1 rfl, .v (by cases s <;> assumption)⟩
 | @partc s e c d a b r he hr i =>
  intro t' B h ht
  cases h with | part u1 => cases ht with | part t1 hT =>
  obtain ⟨r1, e1, q1⟩ := i u1 t1
  obtain ⟨x1, rfl, pp⟩ := q1.v_inv; replace q1 := pp; clear pp
  obtain ⟨h2, h3⟩ := he.T t1 _ rfl
  rw [TH.val, TH.pln, Bool.and_eq_true, Bool.and_eq_true] at h3
  obtain ⟨C, hl, hk⟩ := U7 h2
  cases hl with
  | pair h4 h5 => cases hk with
   | pr k1 k2 =>
    rcases A3t q1 rfl with ⟨u', rfl, w1⟩ | ⟨w1, hi⟩
    ·obtain ⟨a', b', rfl, q2, q3⟩ := A7v w1
     cases s with
     | true => obtain ⟨r5, e5, q5⟩ := A2i q3 h3.2.2 h5 k2 hr; exact ⟨r5, .partc e1 e5, q5⟩
     | false => obtain ⟨r5, e5, q5⟩ := A2i q2 h3.2.1 h4 k1 hr; exact ⟨r5, .partc e1 e5, q5⟩
    ·obtain ⟨a', b', rfl, q2, q3⟩ := A7v w1
     rw [GK.idn, Bool.and_eq_true] at hi
     refine ⟨_, .part e1 rfl, ?_⟩
     cases s with
     | true => exact A4n q3 h3.2.2 h5 k2 hi.2 hr
     | false => exact A4n q2 h3.2.1 h4 k1 hi.1 hr
 | part1 _ i =>
  intro t' B h ht
  cases h with | part u1 => cases ht with | part t1 _ =>
  obtain ⟨r1, e1, q1⟩ := i u1 t1
  obtain rfl := q1.b_inv
  exact ⟨_, .part1 e1, .b⟩
end Gw
end Go.Proofs.YtmceanphadildaaGreatDoor
