/-
  The draw of FnBareTyped, FnBareStatic, FnBareEmbed. TypeSame, TermSame: the same data is the same. Drawn terms with casts, paths, arguments. The law FnEvalCast. What a run of a term with a type says: plain. The casts of a term and their types: walked. slices.Sort and slices.Compact over own slices of numbers: the kit's contracts; CastLabels of the program. The law FnRunTerm. The law FnBareTyped. The law FnBareStatic.
-/
import Derived.Test.YtfpgncjeejickaaGreatDoorKc8
import Derived.Test.YtfpgncjeejickaaGreatDoorKc1
import Derived.Test.YtfpgncjeejickaaGreatDoorKc3
import Derived.Test.YtfpgncjeejickaaGreatDoorKc6
import Derived.Test.YtfpgncjeejickaaGreatDoorKc5
import Derived.Test.YtfpgncjeejickaaGreatDoorKc7
import Derived.Test.YtfpgncjeejickaaGreatDoorKc2
import Derived.Test.YtfpgncjeejickaaGreatDoorShelf
set_option linter.unusedVariables false
set_option linter.unusedSimpArgs false
set_option maxHeartbeats 0
set_option maxRecDepth 100000
set_option synthInstance.maxSize 4000
set_option synthInstance.maxHeartbeats 0
namespace Go.Proofs.YtfpgncjeejickaaGreatDoor
open Go Go.RowKit
namespace Gw
theorem B1p (G : IM) (q : Option Addr) (n c : Nat) (bs : List UInt8) (hb : Sl G q n c 1 (O6 bs)) : Fn Tryz.prog 19 [.slice q n c] [] G (B7F 1100 G) := by
 refine B2 Tryz.func19 rfl Tryz.ntmps19 Tryz.results19 rfl ?_
 intro w0
 refine tS (tR ?_)
 refine sE (A5 rfl) rfl (fun b3 => ?_)
 refine sQ (qA rfl) rfl (sD (nS (tS (tR (sQ (qM rfl) rfl ?_)))))
 (refine I7 rfl (B3f G q n c bs hb) (List.Perm.refl _) rfl rfl (fun v G1 outs hle1 hh => ?_); obtain ⟨rfl, br, pb, nb, cb, bs', rfl, rfl, hnb, hb'⟩ := hh)
 refine sQ (qA rfl) rfl (sD (nS (tS (tR (sQ (qM rfl) rfl ?_)))))
 (have hcall := B58 br pb nb cb bs' hnb 0 _ hb' (by omega); refine I7 rfl hcall (Pk.perm (by repeat (first | exact Pk.here | apply Pk.there))) rfl rfl (fun v Gn outs hle1 hh => ?_); obtain ⟨p1, hp11, hp12, rfl, e0, ce0, rfl, hr0, hf0⟩ := hh; replace hb' := hb'.mono hle1; have hl0 := hr0.len; have ho0 := hr0.one)
 refine sE (A5 rfl) rfl (fun b18 => ?_)
 refine X7 rfl rfl rfl hl0 ho0 rfl (by repeat first | exact Sw.here | apply Sw.there) (by exact C3 (by first | exact hl0.symm | omega)) ?_
 refine sD (nS (tS (tS (tR (sQ (qM rfl) rfl ?_)))))
 (refine I7 rfl (X9 _ br pb nb cb (p1) bs' 3 hb' hnb (by omega)) (Pk.perm (by repeat (first | exact Pk.here | apply Pk.there))) rfl rfl (fun v Gp outs hle26 hh => ?_); obtain ⟨rfl, rfl, j26, rfl, hj26, hk26⟩ := hh; skip)
 replace hr0 := hr0.mono hle26
 replace hb' := hb'.mono hle26
 refine sB (qE rfl rfl) rfl rfl (fun h27 => ?_) (fun h27 => ?_)
 refine sD (nS (qT rfl (tR (sQ (qM rfl) rfl ?_))))
 (refine I7 rfl (B3g br pb nb cb bs' hnb (p1 + 1) _ hb' (by omega)) (Pk.perm (by repeat (first | exact Pk.here | apply Pk.there))) rfl rfl (fun v G3 outs hle3 hh => ?_); obtain ⟨p3, hp31, hp32, rfl, t3, cells3, rfl, hr3, hs3⟩ := hh; replace hb' := hb'.mono hle3; have hf3 : t3.fit 1100 := ⟨A57 t3 (by omega), by have := A3C t3; omega⟩; have hl3 := hr3.len; have ho3 := hr3.one)
 refine X7 rfl rfl rfl hl3 ho3 rfl (by repeat first | exact Sw.here | apply Sw.there) (by exact C3 (by first | exact (hl3.trans hl0.symm).symm | exact hl3.symm | omega)) ?_
 refine sD (nS (tS (tR (sQ (qM rfl) rfl ?_))))
 refine sL (A1 rfl rfl (A9 (by repeat first | exact mH | apply mT)) hl3) rfl rfl ?_
 (have hcall := A8W br pb nb cb bs' hnb p3 _ hb' (by omega) t3 cells3 1100 hf3 hr3; refine I7 rfl hcall (Pk.perm (by repeat (first | exact Pk.here | apply Pk.there))) rfl rfl (fun v Gn outs hle2 hh => ?_); obtain ⟨p2, hp21, hp22, rfl, e, ce, rfl, hre, hfe⟩ := hh; have hl1 := hre.len; have ho1 := hre.one; replace hb' := hb'.mono hle2)
 refine sQ (qM rfl) rfl ?_
 (have hcall := B0G br pb nb cb bs' hnb p2 _ hb' (by omega); refine I7 rfl hcall (Pk.perm (by repeat (first | exact Pk.here | apply Pk.there))) rfl rfl (fun v Gn outs hle5 hh => ?_); obtain ⟨p5, hp51, hp52, rfl, fl, rfl, hfl⟩ := hh; replace hre := hre.mono hle5)
 refine X7 rfl rfl rfl hl1 ho1 rfl (by repeat first | exact Sw.here | apply Sw.there) (by exact C3 (by first | exact hl1.symm | omega)) ?_
 refine sQ (qA rfl) rfl (sD (nS (tT ?_)))
 refine I2 (rC rfl (A1 rfl rfl (A9 (by repeat first | exact mH | apply mT)) hl1)) (rT rfl) ?_
 (exact ⟨rfl, e, ce, fl, rfl, hre, hfe, hfl⟩)
 refine sD (nS (cF rfl (tK (nS (tS (tR (sQ (qM rfl) rfl ?_)))))))
 refine sL (A1 rfl rfl (A9 (by repeat first | exact mH | apply mT)) hl0) rfl rfl ?_
 (have hcall := A8W br pb nb cb bs' hnb (p1 + 1) _ hb' (by omega) e0 ce0 1100 hf0 hr0; refine I7 rfl hcall (Pk.perm (by repeat (first | exact Pk.here | apply Pk.there))) rfl rfl (fun v Gn outs hle2 hh => ?_); obtain ⟨p2, hp21, hp22, rfl, e, ce, rfl, hre, hfe⟩ := hh; have hl1 := hre.len; have ho1 := hre.one; replace hb' := hb'.mono hle2)
 refine sQ (qM rfl) rfl ?_
 (have hcall := B0G br pb nb cb bs' hnb p2 _ hb' (by omega); refine I7 rfl hcall (Pk.perm (by repeat (first | exact Pk.here | apply Pk.there))) rfl rfl (fun v Gn outs hle5 hh => ?_); obtain ⟨p5, hp51, hp52, rfl, fl, rfl, hfl⟩ := hh; replace hre := hre.mono hle5)
 refine X7 rfl rfl rfl hl1 ho1 rfl (by repeat first | exact Sw.here | apply Sw.there) (by exact C3 (by first | exact hl1.symm | omega)) ?_
 refine sQ (qA rfl) rfl (sD (nS (tT ?_)))
 refine I2 (rC rfl (A1 rfl rfl (A9 (by repeat first | exact mH | apply mT)) hl1)) (rT rfl) ?_
 (exact ⟨rfl, e, ce, fl, rfl, hre, hfe, hfl⟩)
def B8c (G : IM) : IM → Value → List A4 → Prop := L5 fun G' v => ∃ u cu t ct b, v = .tuple ⟨[.agg ⟨cu⟩, .agg ⟨ct⟩, .bool b]⟩ ∧ A8 G' u cu ∧ u.small ∧ C6 u ≤ 60 ∧ B7 G' t ct ∧ E5 t ∧ J7 t ≤ 960
def B8d (G : IM) : IM → Value → List A4 → Prop := L5 fun G' v => ∃ t cells l q c, v = .tuple ⟨[.agg ⟨cells⟩, .slice q l.length c]⟩ ∧ A8 G' t cells ∧ t.fit 100 ∧ Sl G' q l.length c 1 (A3x l) ∧ l.length ≤ 100
def B8e (e : Tm) : Bool := J3 e && C8 e
def B8f (ts : List Tm) (G : IM) : IM → Value → List A4 → Prop := L5 fun G' v => ∃ p c es, v = .slice p ts.length c ∧ D0 G' p ts.length c 9 es ∧ D7 G' ts es
def B8g (ts : List Ty) (G : IM) : IM → Value → List A4 → Prop := L5 fun G' v => ∃ p c es, v = .slice p ts.length c ∧ D0 G' p ts.length c 2 es ∧ D2 G' ts es
def srt (zs : List Int) : List Int := zs.mergeSort fun x y => decide (x ≤ y)
def B8h (t : Tm) : List Int := if J3 t = true then Lib.compact (srt ((A3g t).map Tm.lb)) else []
section slaws
variable {P : Program} {Γ : M0} {env : M4} {hp : List A4} {G : IM} {ty : TypeId}
theorem A4e {x y : Operand} {t t' : TypeId} {r : ByteArray} (hx : evo env x = some (.string r)) (hy : evo env y = some (.string r)) :
  I3 P Γ ⟨env, hp, G⟩ (.binOp .eql t x y t') ty (.bool true) := by
 have h := A1b (P := P) (Γ := Γ) (hp := hp) (G := G) (t := t) (t' := t') (ty := ty) hx hy
 rwa [decide_eq_true rfl] at h
end slaws
theorem B7G (bs : List UInt8) (G : IM) (p : Option Addr) (n c : Nat) (hT : A0F G) (hb : Sl G p n c 1 (O6 bs)) : Fn Tryz.prog 4 [.slice p n c] [] G (L5 fun _ v => v = .bool true) := by
 have hn := hb.le
 refine B2 Tryz.func4 rfl Tryz.ntmps4 Tryz.results4 rfl ?_
 intro w0
 refine I9 ?_
 refine sB (X6 rfl rfl) rfl rfl (fun h11 => ?_) (fun h11 => ?_)
 refine I6 ?_
 (exact ⟨rfl, rfl⟩)
 refine sD (nS (cF rfl (tK (nS (tS (tR (sQ (qM rfl) rfl ?_)))))))
 (refine E0 rfl (B1p G _ _ _ bs hb) rfl rfl (fun v G1 hle1 hh => ?_); obtain ⟨a, ca, fl, rfl, hra, hfa, hfl⟩ := hh; replace hT := hT.mono hle1; have hca := hfa.2; have hsa := hfa.1; have hla := hra.len; have hoa := hra.one; have hA := B1n a 300 G1 ca hT hsa hra; have hS := B1o a 300; have hR := B1f a fl; have hk := @B6u a fl; obtain ⟨⟨s1, c1, l1⟩, hr1⟩ : ∃ r, A0m a 300 = r := ⟨_, rfl⟩; obtain ⟨⟨s2, c2, l2⟩, hr2⟩ : ∃ r, A0d a fl = r := ⟨_, rfl⟩; rw [hr1] at hA hk hS; rw [hr2] at hR hk; replace hk : c2 = 0 → c1 = 4 ∨ (c1 = 0 ∧ s1 = s2) := hk)
 refine K3 ?_
 refine sE (A5 rfl) rfl (fun b36 => ?_)
 refine sS rfl rfl rfl hla hoa rfl ?_ (hu := by exact C3 hla.symm)
 refine sQ (qA rfl) rfl (sD (nS (tS (tR ?_))))
 refine sL (A1 rfl rfl (A9 (by repeat first | exact mH | apply mT)) hla) rfl rfl ?_
 (refine E0 rfl hA rfl rfl (fun v2 G2 hle2 hh => ?_); replace hh : v2 = .tuple ⟨[.string s1, .int .i64 c1, .int .i64 l1]⟩ := hh; subst hh; replace hra := hra.mono hle2; replace hT := hT.mono hle2; have hS2 := hS G2 ca hsa (by omega) hra)
 refine I6 ?_
 refine sL (A1 rfl rfl (A9 (by repeat first | exact mH | apply mT)) hla) rfl rfl ?_
 (refine E0 rfl hS2 rfl rfl (fun v3 G3 hle3 hh => ?_); replace hh : v3 = .tuple ⟨[.string s1, .int .i64 c1, .int .i64 l1]⟩ := hh; subst hh; replace hra := hra.mono hle3; replace hT := hT.mono hle3)
 refine I6 ?_
 refine sL (A1 rfl rfl (A9 (by repeat first | exact mH | apply mT)) hla) rfl rfl ?_
 refine sQ (qM rfl) rfl ?_
 (refine E0 rfl (hR G3 ca hT hra) rfl rfl (fun v4 G4 hle4 hh => ?_); replace hh : v4 = .tuple ⟨[.string s2, .int .i64 c2, .int .i64 l2]⟩ := hh; subst hh)
 refine J2 ?_
 refine sQ (A5X rfl rfl) rfl ?_
 refine sQ (qM rfl) rfl (sQ (qM rfl) rfl (sQ (qM rfl) rfl ?_))
 refine sP (A0Y rfl rfl (by omega)) rfl rfl ?_
 refine F0 ?_
 refine sP (A0Y rfl rfl (by omega)) rfl rfl ?_
 refine sQ (O3 rfl rfl) rfl (sQ (qM rfl) rfl (sQ (qM rfl) rfl ?_))
 refine sB (M7 rfl rfl) rfl rfl (fun h99 => ?_) (fun h99 => ?_)
 refine D3 ?_
 refine sQ (A4e rfl rfl) rfl ?_
 refine sQ (qM rfl) rfl (sQ (qM rfl) rfl (sQ (qM rfl) rfl ?_))
 refine sP (T5 rfl rfl (by omega)) rfl rfl ?_
 refine F0 ?_
 refine sP (T5 rfl rfl (by omega)) rfl rfl ?_
 refine C2 ?_
 (exact ⟨rfl, rfl⟩)
 refine D4 ?_
 refine sB (qE rfl rfl) rfl rfl (fun h135 => ?_) (fun h135 => ?_)
 refine V6 ?_
 (exact ⟨rfl, rfl⟩)
 refine sQ (qM rfl) rfl (sQ (qM rfl) rfl ?_)
 refine sP (H4 rfl rfl (by omega)) rfl rfl ?_
 refine sQ (O3 rfl rfl) rfl (sQ (qM rfl) rfl (sQ (qM rfl) rfl ?_))
 refine sP (T5 rfl rfl (by omega)) rfl rfl ?_
 refine sQ (qM rfl) rfl (sQ (qM rfl) rfl (sQ (qM rfl) rfl ?_))
 (have hs12 : s1 = s2 := (hk (by omega) |>.resolve_left (by omega)).2; subst hs12; refine sQ (A4e rfl rfl) rfl ?_)
 refine C2 ?_
 (exact ⟨rfl, rfl⟩)
theorem B7H (bs : List UInt8) (G : IM) (p : Option Addr) (n c : Nat) (hT : A0F G) (hb : Sl G p n c 1 (O6 bs)) : Fn Tryz.prog 5 [.slice p n c] [] G (L5 fun _ v => v = .bool true) := by
 have hn := hb.le
 refine B2 Tryz.func5 rfl Tryz.ntmps5 Tryz.results5 rfl ?_
 intro w0
 refine I9 ?_
 refine sB (X6 rfl rfl) rfl rfl (fun h11 => ?_) (fun h11 => ?_)
 refine I6 ?_
 (exact ⟨rfl, rfl⟩)
 refine sD (nS (cF rfl (tK (nS (tS (tR (sQ (qM rfl) rfl ?_)))))))
 (refine E0 rfl (B1p G _ _ _ bs hb) rfl rfl (fun v G1 hle1 hh => ?_); obtain ⟨a, ca, fl, rfl, hra, hfa, hfl⟩ := hh; replace hT := hT.mono hle1; have hca := hfa.2; have hsa := hfa.1; have hla := hra.len; have hoa := hra.one; have hA := B1n a fl G1 ca hT hsa hra; have hS := B1o a fl; have hR := B1f a fl; have hk := fun h1 h2 => @B6v a h1 h2 fl; obtain ⟨⟨s1, c1, l1⟩, hr1⟩ : ∃ r, A0m a fl = r := ⟨_, rfl⟩; obtain ⟨⟨s2, c2, l2⟩, hr2⟩ : ∃ r, A0d a fl = r := ⟨_, rfl⟩; rw [hr1] at hA hk hS; rw [hr2] at hR hk; replace hk : A1u a = true → (U4 a).isSome = true → c1 ≠ 2 ∧ c1 = c2 ∧ s1 = s2 := hk; have hTy := B45 a; have hSt := B6n a; generalize A1u a = bst at hk hSt; obtain ⟨bt, hbt⟩ : ∃ b, (U4 a).isSome = b := ⟨_, rfl⟩; rw [hbt] at hk)
 refine K3 ?_
 refine sE (A5 rfl) rfl (fun b36 => ?_)
 refine sS rfl rfl rfl hla hoa rfl ?_ (hu := by exact C3 hla.symm)
 refine sQ (qA rfl) rfl (sD (nS (tS (tR ?_))))
 refine sL (A1 rfl rfl (A9 (by repeat first | exact mH | apply mT)) hla) rfl rfl ?_
 refine sQ (qM rfl) rfl ?_
 (refine E0 rfl hA rfl rfl (fun v2 G2 hle2 hh => ?_); replace hh : v2 = .tuple ⟨[.string s1, .int .i64 c1, .int .i64 l1]⟩ := hh; subst hh; replace hra := hra.mono hle2; replace hT := hT.mono hle2; have hS2 := hS G2 ca hsa (by omega) hra)
 refine I6 ?_
 refine sL (A1 rfl rfl (A9 (by repeat first | exact mH | apply mT)) hla) rfl rfl ?_
 refine sQ (qM rfl) rfl ?_
 (refine E0 rfl hS2 rfl rfl (fun v3 G3 hle3 hh => ?_); replace hh : v3 = .tuple ⟨[.string s1, .int .i64 c1, .int .i64 l1]⟩ := hh; subst hh; replace hra := hra.mono hle3; replace hT := hT.mono hle3)
 refine I6 ?_
 refine sL (A1 rfl rfl (A9 (by repeat first | exact mH | apply mT)) hla) rfl rfl ?_
 (refine E0 rfl (hTy G3 ca hra) rfl rfl (fun v4 G4 hle4 hh => ?_); obtain ⟨ct, u, rfl, hru, _⟩ := hh; obtain ⟨qt, dt, et2, rfl, _⟩ := hru.open; replace hra := hra.mono hle4; replace hT := hT.mono hle4; rw [hbt]; cases bt)
 refine K3 ?_
 refine sE (A5 rfl) rfl (fun b76 => ?_)
 refine D4 ?_
 refine sQ (A5X rfl rfl) rfl ?_
 refine sQ (qM rfl) rfl (sQ (qM rfl) rfl (sQ (qM rfl) rfl ?_))
 refine sP (A0Y rfl rfl (by omega)) rfl rfl ?_
 refine F0 ?_
 refine sP (A0Y rfl rfl (by omega)) rfl rfl ?_
 refine T0 ?_
 refine sQ (A4e rfl rfl) rfl ?_
 refine sQ (qM rfl) rfl (sQ (qM rfl) rfl (sQ (qM rfl) rfl ?_))
 refine sP (T5 rfl rfl (by omega)) rfl rfl ?_
 refine F0 ?_
 refine sP (T5 rfl rfl (by omega)) rfl rfl ?_
 refine C2 ?_
 (exact ⟨rfl, rfl⟩)
 refine K3 ?_
 refine sE (A5 rfl) rfl (fun b134 => ?_)
 refine D4 ?_
 refine sQ (A5X rfl rfl) rfl ?_
 refine sQ (qM rfl) rfl (sQ (qM rfl) rfl (sQ (qM rfl) rfl ?_))
 refine sP (A0Y rfl rfl (by omega)) rfl rfl ?_
 refine F0 ?_
 refine sP (A0Y rfl rfl (by omega)) rfl rfl ?_
 refine J8 ?_
 refine sL (A1 rfl rfl (A9 (by repeat first | exact mH | apply mT)) hla) rfl rfl ?_
 focus (refine E0 rfl (hSt _ ca hra) rfl rfl (fun v5 G5 hle5 hh => ?_); subst hh; replace hra := hra.mono hle5; replace hT := hT.mono hle5; cases bst; rotate_left; obtain ⟨k1, k2, k3⟩ := hk rfl rfl; subst k3; rotate_left)
 refine D4 ?_
 refine sQ (A4e rfl rfl) rfl ?_
 refine sQ (qM rfl) rfl (sQ (qM rfl) rfl (sQ (qM rfl) rfl ?_))
 refine sP (T5 rfl rfl (by omega)) rfl rfl ?_
 refine F0 ?_
 refine sP (T5 rfl rfl (by omega)) rfl rfl ?_
 refine C2 ?_
 (exact ⟨rfl, rfl⟩)
 refine D4 ?_
 refine sL (A1 rfl rfl (A9 (by repeat first | exact mH | apply mT)) hla) rfl rfl ?_
 refine sQ (qM rfl) rfl ?_
 (refine E0 rfl (hR _ ca hT hra) rfl rfl (fun v6 G6 hle6 hh => ?_); replace hh : v6 = .tuple ⟨[.string s1, .int .i64 c2, .int .i64 l2]⟩ := hh; subst hh)
 refine N6 ?_
 refine sP (A0f rfl rfl (by omega)) rfl rfl ?_
 refine sQ (qM rfl) rfl (sQ (qM rfl) rfl (sQ (qM rfl) rfl ?_))
 refine sP (T5 rfl rfl (by omega)) rfl rfl ?_
 refine F0 ?_
 refine sQ (A4e rfl rfl) rfl ?_
 refine J8 ?_
 (exact ⟨rfl, rfl⟩)
end Gw
end Go.Proofs.YtfpgncjeejickaaGreatDoor
