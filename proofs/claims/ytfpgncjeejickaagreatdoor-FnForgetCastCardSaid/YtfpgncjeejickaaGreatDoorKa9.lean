/-
  The law FnForgetCast.
-/
import Derived.Test.YtfpgncjeejickaaGreatDoorKa8
set_option linter.unusedVariables false
set_option linter.unusedSimpArgs false
set_option maxHeartbeats 0
set_option maxRecDepth 100000
set_option synthInstance.maxSize 4000
set_option synthInstance.maxHeartbeats 0
namespace Go.Proofs.YtfpgncjeejickaaGreatDoor
open Go Go.RowKit
namespace Gw
theorem B6F {a x : Tm} {l : Int} {b : Bool} (hS : A0X a l = (x, b)) (hb : b = true) : A2a a x 150 300 ∧ A0E a = (J7 N9 a, true) ∧ A0E x = (J7 N9 a, true) := by
 subst hb
 cases hT : R3 a with
 | none => rw [A7a hT] at hS; cases hS
 | some T =>
  obtain ⟨h1, h2⟩ := A3f hT
  cases hl : W2 l with
  | false => rw [A69 hT hl] at hS; cases hS
  | true =>
   rw [A68 hT hl] at hS
   cases hv : I3 (L1 (L1 a T L0 l) L0 T l) with
   | false => rw [A1k hv] at hS; cases hS
   | true =>
    rw [A1j hv] at hS
    obtain ⟨rfl, _⟩ := Prod.mk.inj hS
    obtain ⟨g1, g2⟩ := B5j h1 h2 hv
    exact ⟨A7e g1, A33 h1, by rw [A33 hv, g2]⟩
theorem B6G (bs : List UInt8) (G : IM) (p : Option Addr) (n c : Nat) (hT : A0o G) (hb : Sl G p n c 1 (N5 bs)) : Fn Tryz.prog 9 [.slice p n c] [] G (L2 fun _ v => v = .bool true) := by
 have hn := hb.le
 refine B6 Tryz.func9 rfl Tryz.ntmps9 Tryz.results9 rfl ?_
 intro w0
 refine I8 ?_
 refine sB (Y2 rfl rfl) rfl rfl (fun h11 => ?_) (fun h11 => ?_)
 refine J6 ?_
 (exact ⟨rfl, rfl⟩)
 refine sD (nS (cF rfl (tK (nS (tS (tR (sQ (qM rfl) rfl ?_)))))))
 (refine D7 rfl (B6o G _ _ _ bs hb) rfl rfl (fun v G1 hle1 hh => ?_); obtain ⟨a, ca, lb, rfl, hra, hfa, hlb⟩ := hh; replace hT := hT.mono hle1; have hca := hfa.2; have hla := hra.len; have hoa := hra.one; have hA := B5P a lb G1 ca hlb hra; obtain ⟨⟨x, bx⟩, hS⟩ : ∃ r, A0X a lb = r := ⟨_, rfl⟩; rw [hS] at hA; have hk := fun h => @B6F a x lb bx hS h)
 refine H9 ?_
 refine sE (A6 rfl) rfl (fun b36 => ?_)
 refine sS rfl rfl rfl hla hoa rfl ?_ (hu := by exact C1 hla.symm)
 refine sQ (qA rfl) rfl (sD (nS (tS (tR ?_))))
 refine sL (A3 rfl rfl (A7 (by repeat first | exact mH | apply mT)) hla) rfl rfl ?_
 refine sQ (qM rfl) rfl ?_
 (refine D7 rfl hA rfl rfl (fun v2 G2 hle2 hh => ?_); obtain ⟨cx, hve, hrx⟩ := hh; replace hve : v2 = .tuple ⟨[.agg ⟨cx⟩, .bool bx]⟩ := hve; subst hve; replace hrx : A8 G2 x cx := hrx; have hlx := hrx.len; have hox := hrx.one; replace hT := hT.mono hle2; replace hra := hra.mono hle2; have hB := B6j a lb G2 ca hlb (by omega) hra; rw [hS] at hB)
 refine H9 ?_
 refine sE (A6 rfl) rfl (fun b49 => ?_)
 refine sS rfl rfl rfl hlx hox rfl ?_ (hu := by exact C1 hlx.symm)
 refine sQ (qA rfl) rfl (sD (nS (tS (tR ?_))))
 refine sL (A3 rfl rfl (A7 (by repeat first | exact mH | apply mT)) hla) rfl rfl ?_
 refine sQ (qM rfl) rfl ?_
 (refine D7 rfl hB rfl rfl (fun v3 G3 hle3 hh => ?_); obtain ⟨cy, hve, hry⟩ := hh; replace hve : v3 = .tuple ⟨[.agg ⟨cy⟩, .bool bx]⟩ := hve; subst hve; replace hry : A8 G3 x cy := hry; have hly := hry.len; have hoy := hry.one; replace hT := hT.mono hle3; replace hra := hra.mono hle3; replace hrx := hrx.mono hle3; have hSm := A5b x G3 cx cy hrx hry; cases bx)
 refine H9 ?_
 refine sE (A6 rfl) rfl (fun b62 => ?_)
 refine sS rfl rfl rfl hly hoy rfl ?_ (hu := by exact C1 hly.symm)
 refine F8 ?_
 refine sQ (A0h rfl rfl rfl) rfl ?_
 refine sQ (qM rfl) rfl ?_
 refine sL (A3 rfl rfl (A7 (by repeat first | exact mH | apply mT)) hlx) rfl rfl ?_
 refine sL (A3 rfl rfl (A7 (by repeat first | exact mH | apply mT)) hly) rfl rfl ?_
 refine E8 rfl (hSm) rfl rfl ?_
 refine J4 ?_
 refine sQ (A2G rfl rfl rfl) rfl ?_
 refine sQ (qM rfl) rfl ?_
 refine sL (A3 rfl rfl (A7 (by repeat first | exact mH | apply mT)) hlx) rfl rfl ?_
 refine sL (A3 rfl rfl (A7 (by repeat first | exact mH | apply mT)) hly) rfl rfl ?_
 refine E8 rfl (hSm) rfl rfl ?_
 refine D5 ?_
 (exact ⟨rfl, rfl⟩)
 refine H9 ?_
 refine sE (A6 rfl) rfl (fun b106 => ?_)
 refine sS rfl rfl rfl hly hoy rfl ?_ (hu := by exact C1 hly.symm)
 refine F8 ?_
 refine sQ (A0h rfl rfl rfl) rfl ?_
 refine sQ (qM rfl) rfl ?_
 refine sL (A3 rfl rfl (A7 (by repeat first | exact mH | apply mT)) hlx) rfl rfl ?_
 refine sL (A3 rfl rfl (A7 (by repeat first | exact mH | apply mT)) hly) rfl rfl ?_
 refine E8 rfl (hSm) rfl rfl ?_
 refine J4 ?_
 refine sL (A3 rfl rfl (A7 (by repeat first | exact mH | apply mT)) hla) rfl rfl ?_
 (obtain ⟨hk2, hs1, hs2⟩ := hk rfl; have hE1 := A26 a 150 G3 ca hra; unfold A2a at hk2; obtain ⟨⟨u, c1, l1⟩, hr1⟩ : ∃ r, K6 a 150 = r := ⟨_, rfl⟩; obtain ⟨⟨w, c2, l2⟩, hr2⟩ : ∃ r, K6 x 300 = r := ⟨_, rfl⟩; rw [hr1] at hE1 hk2; rw [hr2] at hk2; simp only [] at hk2; refine D7 rfl hE1 rfl rfl (fun v6 G6 hle6 hh => ?_); obtain ⟨cu, hve, hru⟩ := hh; replace hve : v6 = .tuple ⟨[.agg ⟨cu⟩, .int .i64 c1, .int .i64 l1]⟩ := hve; subst hve; replace hru : A8 G6 u cu := hru; have hlu := hru.len; have hou := hru.one; replace hT := hT.mono hle6; replace hra := hra.mono hle6; replace hrx := hrx.mono hle6; have hE2 := A26 x 300 G6 cx hrx; rw [hr2] at hE2)
 refine J8 ?_
 refine sE (A6 rfl) rfl (fun b140 => ?_)
 refine sS rfl rfl rfl hlu hou rfl ?_ (hu := by exact C1 hlu.symm)
 refine sQ (qA rfl) rfl (sQ (qA rfl) rfl (sD (nS (tS (tR ?_)))))
 refine sL (A3 rfl rfl (A7 (by repeat first | exact mH | apply mT)) hlx) rfl rfl ?_
 (refine D7 rfl hE2 rfl rfl (fun v7 G7 hle7 hh => ?_); obtain ⟨cw, hve, hrw⟩ := hh; replace hve : v7 = .tuple ⟨[.agg ⟨cw⟩, .int .i64 c2, .int .i64 l2]⟩ := hve; subst hve; replace hrw : A8 G7 w cw := hrw; have hlw := hrw.len; have how := hrw.one; replace hT := hT.mono hle7; replace hru := hru.mono hle7; replace hra := hra.mono hle7; replace hrx := hrx.mono hle7; have hP1 := A65 x G7 cx hrx; rw [hs2] at hP1)
 refine J8 ?_
 refine sE (A6 rfl) rfl (fun b154 => ?_)
 refine sS rfl rfl rfl hlw how rfl ?_ (hu := by exact C1 hlw.symm)
 refine sQ (qA rfl) rfl (sQ (qA rfl) rfl (sD (nS (tS (tR ?_)))))
 refine sL (A3 rfl rfl (A7 (by repeat first | exact mH | apply mT)) hlx) rfl rfl ?_
 (refine D7 rfl hP1 rfl rfl (fun v8 G8 hle8 hh => ?_); obtain ⟨ct, hve, hrt⟩ := hh; replace hve : v8 = .tuple ⟨[.agg ⟨ct⟩, .bool true]⟩ := hve; subst hve; replace hrt : A8 G8 (J7 N9 a) ct := hrt; have hlt := hrt.len; have hot := hrt.one; replace hT := hT.mono hle8; replace hru := hru.mono hle8; replace hrw := hrw.mono hle8; replace hra := hra.mono hle8; have hP2 := A65 a G8 ca hra; rw [hs1] at hP2)
 refine H9 ?_
 refine sE (A6 rfl) rfl (fun b167 => ?_)
 refine sS rfl rfl rfl hlt hot rfl ?_ (hu := by exact C1 hlt.symm)
 refine sQ (qA rfl) rfl (sD (nS (tS (tR ?_))))
 refine sL (A3 rfl rfl (A7 (by repeat first | exact mH | apply mT)) hla) rfl rfl ?_
 (refine D7 rfl hP2 rfl rfl (fun v9 G9 hle9 hh => ?_); obtain ⟨cz, hve, hrz⟩ := hh; replace hve : v9 = .tuple ⟨[.agg ⟨cz⟩, .bool true]⟩ := hve; subst hve; replace hrz : A8 G9 (J7 N9 a) cz := hrz; have hlz := hrz.len; have hoz := hrz.one; replace hT := hT.mono hle9; replace hru := hru.mono hle9; replace hrw := hrw.mono hle9; replace hrt := hrt.mono hle9; have hSm2 := A5b _ G9 ct cz hrt hrz; have hV1 := A3h u G9 cu hT hru; have hV2 := A3h w G9 cw hT hrw)
 refine H9 ?_
 refine sE (A6 rfl) rfl (fun b179 => ?_)
 refine sS rfl rfl rfl hlz hoz rfl ?_ (hu := by exact C1 hlz.symm)
 refine J4 ?_
 refine sL (A3 rfl rfl (A7 (by repeat first | exact mH | apply mT)) hlt) rfl rfl ?_
 refine sL (A3 rfl rfl (A7 (by repeat first | exact mH | apply mT)) hlz) rfl rfl ?_
 refine E8 rfl (hSm2) rfl rfl ?_
 refine J6 ?_
 refine sB (qE rfl rfl) rfl rfl (fun h208 => ?_) (fun h208 => ?_)
 refine A0A ?_
 (exact ⟨rfl, rfl⟩)
 refine sQ (qM rfl) rfl (sQ (qM rfl) rfl ?_)
 refine sB (qE rfl rfl) rfl rfl (fun h235 => ?_) (fun h235 => ?_)
 refine A0d ?_
 (exact ⟨rfl, rfl⟩)
 refine sQ (L6 rfl rfl) rfl (sQ (qM rfl) rfl (sQ (qM rfl) rfl ?_))
 refine sB (qE rfl rfl) rfl rfl (fun h260 => ?_) (fun h260 => ?_)
 refine M9 ?_
 (exact ⟨rfl, rfl⟩)
 refine sQ (L6 rfl rfl) rfl (sQ (qM rfl) rfl (sQ (qM rfl) rfl ?_))
 refine sB (qE rfl rfl) rfl rfl (fun h281 => ?_) (fun h281 => ?_)
 refine N2 ?_
 (exact ⟨rfl, rfl⟩)
 refine sQ (L6 rfl rfl) rfl (sD (nS (cF rfl (tK (nS (tS ?_))))))
 (obtain ⟨hg1, hg2, hg3, hg4⟩ := (((hk2.resolve_left (by omega)).resolve_left (by omega)).resolve_left (by omega)).resolve_left (by omega); rw [hg3, hg4] at hV1; clear hk2; refine D1 D2 rfl ?_)
 refine I4 (i := 0) (l' := [tt,ff,ff,ff,ff,ff,ff,ff,ff,ff,ff,ff,ff,ff,ff,ff]) rfl C8 (qM rfl) rfl (by kernel_rfl) rfl rfl ?_
 refine aP 1 rfl (qM rfl) rfl ?_
 refine aP 2 rfl (Q8 rfl rfl (by omega)) rfl ?_
 refine aP 3 rfl (qM rfl) rfl ?_
 refine aP 4 rfl (qM rfl) rfl ?_
 refine aP 5 rfl (qM rfl) rfl ?_
 refine aP 6 rfl (Q8 rfl rfl (by omega)) rfl ?_
 refine aP 7 rfl (K1 rfl rfl) rfl ?_
 refine aP 8 rfl (qM rfl) rfl ?_
 refine aL 9 rfl (A3 rfl rfl (A7 (by repeat first | exact mH | apply mT)) hlu) rfl ?_
 refine aL 11 rfl (A3 rfl rfl (A7 (by repeat first | exact mH | apply mT)) hlw) rfl ?_
 refine A2 10 ?_
 refine J0 rfl rfl (hV1) rfl rfl rfl ?_
 refine A2 12 ?_
 refine J0 rfl rfl (hV2) rfl rfl rfl ?_
 refine aP 13 rfl (A49 rfl rfl) rfl ?_
 refine aP 14 rfl (K1 rfl rfl) rfl ?_
 refine aP 15 rfl (qA rfl) rfl ?_
 refine C0 (nS (tT (D6 (rT rfl) ?_)))
 (exact ⟨rfl, rfl⟩)
end Gw
end Go.Proofs.YtfpgncjeejickaaGreatDoor
