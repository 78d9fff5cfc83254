/-
  The reference model's TermValid.
-/
import Derived.Test.YtgodjiieijekiaaGreatDoorKc2
import Derived.Test.YtgodjiieijekiaaGreatDoorKc1
import Derived.Test.YtgodjiieijekiaaGreatDoorKc0
import Derived.Lib.AppendZeros
set_option linter.unusedVariables false
set_option linter.unusedSimpArgs false
set_option maxHeartbeats 0
set_option maxRecDepth 100000
set_option synthInstance.maxSize 4000
set_option synthInstance.maxHeartbeats 0
namespace Go.Proofs.YtgodjiieijekiaaGreatDoor
open Go Go.RowKit
namespace Gw
theorem A0b (t : Tm) : O6 t = true ↔ I9 12 14 t 1 = true ∧ C9 t ≤ 30 := by
 have := A6m 30 12 14 t 1 0 (by omega)
 rw [O6, this]
 constructor
 ·rintro ⟨a, b⟩; exact ⟨a, by omega⟩
 ·rintro ⟨a, b⟩; exact ⟨a, by omega⟩
theorem B3v : ∀ (t : Tm) (d : Int) (G : IM) (cells : List Value), 0 ≤ d ∧ d ≤ 12 → B5 G t cells →
  Fn Tryz.prog 44 [.agg ⟨cells⟩, .int .i64 d] [] G (J1 (.bool (I9 12 14 t (13 - d))) G) := by
 refine Tm.ind fun k nm num ty fr lb ks ih d G cells hd hr => ?_
 have hr0 := hr
 have hne := fun h : k ≠ 14 => @B26 k nm num ty fr lb ks.length h
 have har := fun h : X7 k nm num ty fr lb ks.length = true => (R7.1 h).1
 obtain ⟨R, hR⟩ : ∃ R, X7 k nm num ty fr lb ks.length = R := ⟨_, rfl⟩
 rw [hR] at hne har
 have hl2 := B24 k nm num ty fr lb ks G cells hr0 R
 have hk1 := A6j k G
 obtain ⟨tk, tks⟩ := ty
 obtain ⟨fk, fks⟩ := fr
 obtain ⟨pt, ct, pf, cf, p, c, es, rfl, hk, hnum, hlb, hty, hfr, hsl, hkl⟩ := hr.open9
 have hn := hsl.le
 clear hr hr0
 refine B6 Tryz.func44 rfl Tryz.ntmps44 Tryz.results44 rfl ?_
 intro w0
 refine tS (tR ?_)
 refine sE (E2 rfl rfl) rfl (fun b3 => ?_)
 refine sQ (qA rfl) rfl (sD (nS (tS (tS ?_))))
 refine D7 D8 rfl ?_
 refine H4 (i := 0) (l' := [tt,ff,ff,ff,ff,ff,ff,ff,ff,ff,ff,ff,ff,ff,ff,ff,ff,ff,ff,ff,ff]) rfl D3 (qM rfl) rfl (by kernel_rfl) rfl rfl ?_
 refine A2t (i := 1) (l' := [tt,tt,ff,ff,ff,ff,ff,ff,ff,ff,ff,ff,ff,ff,ff,ff,ff,ff,ff,ff,ff]) rfl D3 (I7 rfl rfl) rfl (by kernel_rfl) rfl rfl (fun h11 => ?_) (fun h11 => ?_)
 refine aP 2 rfl (qM rfl) rfl ?_
 refine E0 3 rfl rfl rfl ?_
 refine E0 4 rfl rfl rfl ?_
 refine E0 6 rfl rfl rfl ?_
 refine E0 7 rfl rfl rfl ?_
 refine E0 8 rfl rfl rfl ?_
 refine E0 5 rfl rfl rfl ?_
 refine E0 9 rfl rfl rfl ?_
 refine aP 10 rfl (N4 rfl rfl) rfl ?_
 refine aP 11 rfl (qM rfl) rfl ?_
 refine E0 12 rfl rfl rfl ?_
 refine E0 13 rfl rfl rfl ?_
 refine E0 14 rfl rfl rfl ?_
 refine aP 15 rfl (N4 rfl rfl) rfl ?_
 refine aP 16 rfl (qM rfl) rfl ?_
 refine E0 17 rfl rfl rfl ?_
 refine E0 18 rfl rfl rfl ?_
 refine E0 19 rfl rfl rfl ?_
 refine aP 20 rfl (N4 rfl rfl) rfl ?_
 refine J3 ?_
 (rw [A3S (by rw [hR]; first | omega | exact .inr (.inr (by assumption)) | exact .inr (.inr (by cases R with | false => rfl | true => exact absurd (har rfl) (by omega))))]; exact ⟨rfl, rfl, rfl⟩)
 refine aP 2 rfl (qM rfl) rfl ?_
 refine aP 3 rfl (B1 rfl) rfl ?_
 refine aL 4 rfl (D4 rfl rfl) rfl ?_
 refine aP 6 rfl (B1 rfl) rfl ?_
 refine aL 7 rfl (D4 rfl rfl) rfl ?_
 refine aP 8 rfl (W0 rfl rfl) rfl ?_
 refine A2 5 ?_
 refine S4 rfl rfl (hk1) rfl rfl rfl ?_
 refine A2t (i := 9) (l' := [tt,tt,tt,tt,tt,tt,tt,tt,tt,tt,ff,ff,ff,ff,ff,ff,ff,ff,ff,ff,ff]) rfl D3 (X4 rfl rfl) rfl (by kernel_rfl) rfl rfl (fun h51 => ?_) (fun h51 => ?_)
 refine aP 10 rfl (S2 rfl rfl) rfl ?_
 refine aP 11 rfl (qM rfl) rfl ?_
 refine E0 12 rfl rfl rfl ?_
 refine E0 13 rfl rfl rfl ?_
 refine E0 14 rfl rfl rfl ?_
 refine aP 15 rfl (N4 rfl rfl) rfl ?_
 refine aP 16 rfl (qM rfl) rfl ?_
 refine E0 17 rfl rfl rfl ?_
 refine E0 18 rfl rfl rfl ?_
 refine E0 19 rfl rfl rfl ?_
 refine aP 20 rfl (N4 rfl rfl) rfl ?_
 refine J3 ?_
 (rw [A3S (by rw [hR]; first | omega | exact .inr (.inr (by assumption)) | exact .inr (.inr (by cases R with | false => rfl | true => exact absurd (har rfl) (by omega))))]; exact ⟨rfl, rfl, rfl⟩)
 refine aP 10 rfl (S2 rfl rfl) rfl ?_
 refine aP 11 rfl (qM rfl) rfl ?_
 refine aP 12 rfl (B1 rfl) rfl ?_
 refine aL 13 rfl (D4 rfl rfl) rfl ?_
 refine A2t (i := 14) (l' := [tt,tt,tt,tt,tt,tt,tt,tt,tt,tt,tt,tt,tt,tt,tt,ff,ff,ff,ff,ff,ff]) rfl D3 (qE rfl rfl) rfl (by kernel_rfl) rfl rfl (fun h79 => ?_) (fun h79 => ?_)
 refine aP 15 rfl (S2 rfl rfl) rfl ?_
 refine aP 16 rfl (qM rfl) rfl ?_
 refine E0 17 rfl rfl rfl ?_
 refine E0 18 rfl rfl rfl ?_
 refine E0 19 rfl rfl rfl ?_
 refine aP 20 rfl (N4 rfl rfl) rfl ?_
 refine J3 ?_
 (rw [A3S (by rw [hR]; first | omega | exact .inr (.inr (by assumption)) | exact .inr (.inr (by cases R with | false => rfl | true => exact absurd (har rfl) (by omega))))]; exact ⟨rfl, rfl, rfl⟩)
 refine aP 15 rfl (S2 rfl rfl) rfl ?_
 refine aP 16 rfl (qM rfl) rfl ?_
 refine aL 17 rfl (A3 rfl rfl) rfl ?_
 refine A2 18 ?_
 refine W2 rfl rfl (hl2 (hne (by omega) (by omega))) rfl rfl rfl (fun h102 => ?_) (fun h102 => ?_)
 refine aP 19 rfl (pNt rfl) rfl ?_
 refine aP 20 rfl (S2 rfl rfl) rfl ?_
 refine J3 ?_
 refine B2 ?_
 (refine J8 (fun (i : Nat) => ⟨[(5, .int .i64 i), (2, .pointer (some ⟨b3, 0, none⟩)), (1, .int .i64 d)], [.blk b3 [.int .i64 k, .string nm, .int .i64 num, .int .i64 tk, .slice pt tks.length ct, .int .i64 fk, .slice pf fks.length cf, .int .i64 lb, .slice p ks.length c]], G⟩) (fun i => i ≤ ks.length ∧ ∀ j (h : j < ks.length), j < i → I9 12 14 ks[j] (13 - d + 1) = true) (fun i => ks.length - i) 0 ?_ ?_ ?_)
 exact C2
 exact ⟨by omega, by omega⟩
 (rintro i ⟨hi, hf⟩)
 refine C5 ?_
 refine sB (I7 rfl rfl) rfl rfl (fun h128 => ?_) (fun h128 => ?_)
 refine sD (nS (qT rfl (tK (nS (tS ?_)))))
 refine B2 ?_
 refine W1 ?_
 (obtain ⟨b, o, e, rfl, hl, hat, hre, hgb⟩ := hsl.kidTm hkl (i := i) (by omega) (by omega); refine sP (B3 rfl rfl rfl (by omega)) rfl rfl ?_)
 refine sL (A6 rfl rfl (hat _) hl) rfl rfl ?_
 refine sQ (qM rfl) rfl ?_
 refine sP (N1 rfl rfl (by omega) (by omega)) rfl rfl ?_
 (have hih := ih ks[i] (List.getElem_mem (by omega)) (d - 1) G _ (by omega) hre; rw [show 13 - (d - 1) = 13 - d + 1 by omega] at hih; refine H8 rfl hih rfl rfl (fun h145 => ?_) (fun h145 => ?_))
 refine E8 ?_
 refine sP (H2 rfl rfl (by omega) (by omega)) rfl rfl ?_
 refine sQ (qA rfl) rfl (sD ?_)
 refine J4 (i + 1) ?_ ?_ ?_
 exact C2
 exact ⟨by omega, fun j hj hji => by (by_cases he : j = i; (subst he; assumption); exact hf j hj (by omega))⟩
 omega
 refine N9 ?_
 (rw [A19 (by omega) (by omega) (hR.trans (by assumption)), B25 (i := i) (by omega) (by assumption)]; exact ⟨rfl, rfl, rfl⟩)
 refine J5 ?_
 (rw [A19 (by omega) (by omega) (hR.trans (by assumption)), (A0U 12 14 ks _).2 (fun j hj => hf j hj (by omega))]; exact ⟨rfl, rfl, rfl⟩)
 refine aP 19 rfl (pNf rfl) rfl ?_
 refine aP 20 rfl (S2 rfl rfl) rfl ?_
 refine J3 ?_
 (rw [A3S (by rw [hR]; first | omega | exact .inr (.inr (by assumption)) | exact .inr (.inr (by cases R with | false => rfl | true => exact absurd (har rfl) (by omega))))]; exact ⟨rfl, rfl, rfl⟩)
theorem A4Z (t : Tm) (G : IM) (cells : List Value) (hcnt : C9 t ≤ 4294967296) (hr : B5 G t cells) :
  Fn Tryz.prog 15 [.agg ⟨cells⟩] [] G (J1 (.bool (O6 t)) G) := by
 have hl := hr.len
 have hv := B3v t 12 G cells (by omega) hr
 have hc := fun h => B28 12 14 t 12 G cells (by omega) h hcnt hr
 have hi := A0b t
 obtain ⟨R, hR⟩ : ∃ R, O6 t = R := ⟨_, rfl⟩
 rw [hR] at hi ⊢
 refine B6 Tryz.func15 rfl Tryz.ntmps15 Tryz.results15 rfl ?_
 intro w0
 refine tS (tR ?_)
 refine sE (E2 rfl rfl) rfl (fun b3 => ?_)
 refine sQ (qA rfl) rfl (sD (nS (tS (tR ?_))))
 refine sL (A6 rfl rfl (H0 (by repeat first | exact mH | apply mT)) (by assumption)) rfl rfl ?_
 refine H8 rfl (hv) rfl rfl (fun h10 => ?_) (fun h10 => ?_)
 refine sQ (qM rfl) rfl ?_
 refine sL (A6 rfl rfl (H0 (by repeat first | exact mH | apply mT)) (by assumption)) rfl rfl ?_
 refine H6 rfl (hc (by assumption)) rfl rfl ?_
 refine sB (V6 rfl rfl) rfl rfl (fun h14 => ?_) (fun h14 => ?_)
 refine N6 ?_
 exact ⟨rfl, by rw [hi.2 ⟨by assumption, by omega⟩], rfl⟩
 refine N6 ?_
 exact ⟨rfl, by (cases R with | false => rfl | true => (exfalso; have h0 := hi.1 rfl; first | omega | simp_all)), rfl⟩
 refine H9 ?_
 exact ⟨rfl, by (cases R with | false => rfl | true => (exfalso; have h0 := hi.1 rfl; first | omega | simp_all)), rfl⟩
theorem B3w (br : Nat) (pb : Option Addr) (nb cb : Nat) (bs : List UInt8) (hnb : nb ≤ 2000) (p : Nat) (G : IM) (hb : Sl G pb nb cb 1 (O7 bs)) (hp : p + 31 < 1099511627776) :
  Fn Tryz.prog 115 [.pointer (some ⟨br, 0, none⟩)] [rd br pb nb cb p] G
   (A0y br pb nb cb p 31 (fun G' v => ∃ t cells, v = .agg ⟨cells⟩ ∧ A8 G' t cells ∧ I0 t ≤ 30 ∧ Q5 3 t)) := by
 refine B6 Tryz.func115 rfl Tryz.ntmps115 Tryz.results115 rfl ?_
 intro w0
 refine tS (tR ?_)
 refine sE (B0 rfl) rfl (fun b3 => ?_)
 refine sD (nS (tS (tR (sQ (qM rfl) rfl (sQ (qM rfl) rfl ?_)))))
 (refine E9 (B4 rfl rfl rfl (by omega) (by unfold maxLen; omega) rfl) rfl ?_; rintro _ ⟨b10, rfl⟩)
 (refine S9 (by repeat (first | exact Pk.here | apply Pk.there)) (fun G1 hle1 hsl1 _ => ?_); refine C6 rfl (A0o G1 br pb nb cb p bs _ _ _ _ (hb.mono hle1) hnb (by omega) hsl1 (by decide)) (Pk.perm (by repeat (first | exact Pk.here | apply Pk.there))) rfl rfl (fun v G2 outs hle2 hh => ?_); obtain ⟨rfl, rfl, hv⟩ := hh; replace hb := hb.mono hle1; obtain ⟨d, rfl, hd⟩ : ∃ d : Nat, v = .int .i64 ((d + 1 : Nat) : Int) ∧ d ≤ 3 := (by simp only [List.mem_cons, List.not_mem_nil, or_false] at hv; rcases hv with rfl | rfl | rfl | rfl | rfl <;> first | exact ⟨0, rfl, by decide⟩ | exact ⟨1, rfl, by decide⟩ | exact ⟨2, rfl, by decide⟩ | exact ⟨3, rfl, by decide⟩))
 (have hdB := B3t hd; refine C6 rfl (A3X br pb nb cb bs hnb d (p + 1) G2 (by omega) hb (by omega)) (Pk.perm (by repeat (first | exact Pk.here | apply Pk.there))) rfl rfl (fun v G3 outs hle3 hh => ?_); obtain ⟨p3, hp31, hp32, rfl, t3, cells3, rfl, hr3, hs3, ha3⟩ := hh; obtain ⟨q3, c3, es3, rfl, _⟩ := hr3.open)
 refine I1 ?_
 refine sD (nS (tT ?_))
 refine E3 (outs := [rd br pb nb cb p3]) (rC rfl (A3 rfl rfl)) (by repeat (first | exact A0.nil | refine A0.cons Pk.here ?_ | refine A0.cons (Pk.there Pk.here) ?_ | apply A0.drop)) ?_
 exact ⟨p3, by omega, by omega, rfl, t3, _, rfl, hr3, by omega, ha3.le hd⟩
theorem B3x (br : Nat) (pb : Option Addr) (nb cb : Nat) (bs : List UInt8) (hnb : nb ≤ 2000) (p : Nat) (G : IM) (hb : Sl G pb nb cb 1 (O7 bs)) (hp : p + 31 < 1099511627776) :
  Fn Tryz.prog 115 [.pointer (some ⟨br, 0, none⟩)] [rd br pb nb cb p] G
   (A0y br pb nb cb p 31 (fun G' v => ∃ t cells, v = .agg ⟨cells⟩ ∧ A8 G' t cells ∧ I0 t ≤ 30)) :=
 (B3w br pb nb cb bs hnb p G hb hp).mono fun G' v outs _ ⟨p', h1, h2, h3, t, cells, h4, h5, h6, _⟩ => ⟨p', h1, h2, h3, t, cells, h4, h5, h6⟩
theorem B3y (k : Int) (ks : List Ty) (G : IM) (p : Option Addr) (c : Nat) (hts : (Ty.mk k ks).small) (hr : A8 G (.mk k ks) [.int .i64 k, .slice p ks.length c]) : Fn Tryz.prog 170 [.agg ⟨[.int .i64 k, .slice p ks.length c]⟩] [] G
  (fun G' v outs => ∃ p c es, v = .agg ⟨[.int .i64 k, .slice p ks.length c]⟩ ∧ outs = [.slc p c 25 2 ks.length es.flatten] ∧ C3 G' ks es) := by
 simp only [Ty.small] at hts
 obtain ⟨hsm, hks⟩ := hts
 obtain ⟨p', c', es, he, hk, hsl, hkl⟩ := hr.open
 simp only [Ty.k, Ty.ks, List.cons.injEq, Value.slice.injEq, true_and, and_true] at he hk hsl hkl
 obtain ⟨rfl, rfl⟩ := he
 have hn := hsl.le
 refine B6 Tryz.func170 rfl Tryz.ntmps170 Tryz.results170 rfl ?_
 intro w0
 refine tS (tR ?_)
 refine sE (E2 rfl rfl) rfl (fun b3 => ?_)
 refine sE (B0 rfl) rfl (fun b4 => ?_)
 refine C5 ?_
 refine sE (B0 rfl) rfl (fun b12 => ?_)
 refine I1 ?_
 refine sD (nS (tS (tS (tR (sQ (qA rfl) rfl (sD (nS ?_)))))))
 refine B2 ?_
 (refine W9 25 2 ?_; refine J8 (fun (x : Nat × Option Addr × Nat × List (List Value) × IM) => ⟨[(4, .int .i64 x.1), (3, .pointer (some ⟨b12, 0, none⟩)), (1, .pointer (some ⟨b3, 0, none⟩)), (2, .pointer (some ⟨b4, 0, none⟩))], [.blk b12 [.int .i64 k, .slice x.2.1 x.1 x.2.2.1], .slc x.2.1 x.2.2.1 25 2 x.1 x.2.2.2.1.flatten, .blk b4 [.int .i64 0, .slice none 0 0], .blk b3 [.int .i64 k, .slice p ks.length c]], x.2.2.2.2⟩) (fun x => x.1 ≤ ks.length ∧ A7 G x.2.2.2.2 ∧ C3 x.2.2.2.2 (ks.take x.1) x.2.2.2.1) (fun x => ks.length - x.1) (0, none, 0, [], G) ?_ ?_ ?_)
 (simp only [E7]; exact C2)
 exact ⟨by simp, A7.refl _, by simp [C3]⟩
 (rintro ⟨i, pn, cn, es', Gi⟩ ⟨hi, hle, hst⟩; simp only [] at hi hle hst ⊢; replace hsl := hsl.mono hle; replace hkl := hkl.mono hle)
 refine C5 ?_
 refine sB (I7 rfl rfl) rfl rfl (fun h34 => ?_) (fun h34 => ?_)
 refine sD (nS (qT rfl (tK (nS (tS ?_)))))
 refine B2 ?_
 (obtain ⟨b, o, p2, c2, rfl, hat, hre, hgb⟩ := hsl.kidTy hkl (i := i) (by omega) (by omega); refine D7 D8 rfl ?_)
 refine H4 (i := 0) (l' := [tt,ff,ff,ff,ff,ff,ff,ff,ff,ff,ff,ff]) rfl D3 (B1 rfl) rfl (by kernel_rfl) rfl rfl ?_
 refine aL 1 rfl (D4 rfl rfl) rfl ?_
 refine aP 2 rfl (B1 rfl) rfl ?_
 refine aL 3 rfl (D4 rfl rfl) rfl ?_
 refine aP 4 rfl (qM rfl) rfl ?_
 refine aP 5 rfl (B3 rfl rfl rfl (by omega)) rfl ?_
 refine aL 6 rfl (A6 rfl rfl (hat _) rfl) rfl ?_
 refine A2 7 ?_
 (refine P2 rfl rfl (A0k ks[i] _ _ (Ty.smallL_mem hks _ (List.getElem_mem (by omega))) hre) rfl rfl rfl (fun v G1 hle1 hh => ?_); obtain ⟨cells', F', rfl, hs', hnd'⟩ := hh; have hr' := hs'.R.mono (B7.le _ _); obtain ⟨p3, c3, es3, rfl, _⟩ := hr'.open)
 refine A2 8 ?_
 (refine D6 rfl (B4 rfl rfl rfl (by omega) (by unfold maxLen; omega) rfl) rfl rfl ?_; rintro _ ⟨b53, rfl⟩)
 refine A2 9 ?_
 refine Q9 rfl rfl rfl rfl rfl rfl (fun _ _ => by repeat (first | exact Sw.here | apply Sw.there)) (J9 (by repeat first | exact mH | apply mT)) rfl (by simp [Value.oneCell']) (by unfold maxLen; omega) (by omega) rfl rfl (by repeat (first | exact A4.nil | apply A4.dep (by decide +kernel) | apply A4.blk (by decide +kernel) (by repeat (first | exact Pk.here | apply Pk.there)) (by repeat first | exact mH | apply mT))) (fun pn' cn' => ?_)
 refine aP 10 rfl (B1 rfl) rfl ?_
 refine A2 11 ?_
 refine R2 rfl rfl rfl rfl rfl rfl rfl rfl (by kernel_rfl) (by repeat first | exact Sw.here | apply Sw.there) (by rfl) ?_
 refine B9 (M2 (nS (tR (sQ (qM rfl) rfl ?_))))
 refine sP (H2 rfl rfl (by omega) (by omega)) rfl rfl ?_
 refine sQ (qA rfl) rfl (sD ?_)
 refine J4 (i + 1, pn', cn', es' ++ [[.int .i64 ks[i].k, .slice p3 ks[i].ks.length c3]], G1) ?_ ?_ ?_
 (simp only [E7]; exact C2)
 (dsimp only; exact ⟨by omega, hle.trans hle1, by rw [List.take_succ_eq_append_getElem (by omega)]; exact C3.snoc (hst.mono hle1) hr'⟩)
 (show ks.length - (i + 1) < ks.length - i; omega)
 refine J5 ?_
 (obtain rfl : i = ks.length := (by omega); refine E3 (outs := [.slc pn cn 25 2 ks.length es'.flatten]) (rC rfl (A3 rfl rfl)) (by repeat (first | exact A0.nil | refine A0.cons Pk.here ?_ | refine A0.cons (Pk.there Pk.here) ?_ | apply A0.drop)) ?_)
 (rw [List.take_length] at hst; exact ⟨pn, cn, es', rfl, rfl, hst⟩)
theorem A1o (G : IM) : A8 G O4 [.int .i64 1, .slice none 0 0] := by
 simp only [O4, A8]
 exact ⟨none, 0, [], rfl, ⟨by omega, by omega⟩, C0.of (Sl.nil _ _) rfl (by simp) (by simp), by simp [C3]⟩
theorem A6C : I0 O4 = 0 := rfl
theorem B3z (br : Nat) (pb : Option Addr) (nb cb : Nat) (bs : List UInt8) (hnb : nb ≤ 2000) (p : Nat) (G : IM) (hb : Sl G pb nb cb 1 (O7 bs)) (hp : p + 31 < 1099511627776) (t : Ty) (cells : List Value) (hr : A8 G t cells) (hsz : I0 t ≤ 30) :
  Fn Tryz.prog 114 [.pointer (some ⟨br, 0, none⟩), .agg ⟨cells⟩] [rd br pb nb cb p] G
   (A0y br pb nb cb p 2 (fun G' v => ∃ t cells, v = .agg ⟨cells⟩ ∧ A8 G' t cells ∧ I0 t ≤ 38)) := by
 have hts := A3N t (by omega)
 obtain ⟨k, ks⟩ := t
 rw [I0] at hsz
 have hsn := A1M ks
 obtain ⟨q0, c0, es0, rfl, hk, _⟩ := hr.open
 simp only [Ty.k, Ty.ks] at hk hr ⊢
 refine B6 Tryz.func114 rfl Tryz.ntmps114 Tryz.results114 rfl ?_
 intro w0
 refine tS (tR ?_)
 refine sE (E2 rfl rfl) rfl (fun b3 => ?_)
 refine sE (B0 rfl) rfl (fun b4 => ?_)
 refine sD (nS (tS (tR (sL (A3 rfl rfl) rfl rfl ?_))))
 (refine A3H rfl (B3y k ks G q0 c0 hts hr) rfl rfl (fun v G1 outs hle1 hh => ?_); obtain ⟨q, c, es, rfl, rfl, hst⟩ := hh)
 refine sE (B0 rfl) rfl (fun b11 => ?_)
 refine I1 ?_
 refine sD (nS (tS (tS (tR (sQ (qM rfl) rfl ?_)))))
 (refine C6 rfl (Y6 G1 br pb nb cb p bs 40 (hb.mono hle1) hnb (by omega)) (Pk.perm (by repeat (first | exact Pk.here | apply Pk.there))) rfl rfl (fun v G2 outs hle2 hh => ?_); obtain ⟨rfl, rfl, j, rfl, hj0, hj1⟩ := hh; replace hb := hb.mono hle1)
 refine sD (nS ?_)
 (show H5 _ _ (.block 0 _) _ _; refine A0n (fun (x : Ty × Option Addr × Nat × Nat × IM) => ⟨[(5, .pointer (some ⟨b11, 0, none⟩)), (4, .pointer (some ⟨b4, 0, none⟩))], [.blk b11 [.int .i64 x.1.k, .slice x.2.1 x.1.ks.length x.2.2.1], .blk b4 [.int .i64 0, .slice none 0 0], rd br pb nb cb x.2.2.2.1], x.2.2.2.2⟩) (fun x => A7 G2 x.2.2.2.2 ∧ A8 x.2.2.2.2 x.1 [.int .i64 x.1.k, .slice x.2.1 x.1.ks.length x.2.2.1] ∧ I0 x.1 ≤ 38 ∧ p ≤ x.2.2.2.1 ∧ x.2.2.2.1 ≤ p + 2) ?_ ?_)
 refine B2 (tS (tR (sB (qE rfl rfl) rfl rfl (fun h26 => ?_) (fun h26 => ?_))))
 refine sQ (qA rfl) rfl (sD (nS (qT rfl (tR (sQ (qM rfl) rfl ?_)))))
 (refine E9 (B4 rfl rfl rfl (by omega) (by unfold maxLen; omega) rfl) rfl ?_; rintro _ ⟨b33, rfl⟩)
 (refine S9 (by repeat (first | exact Pk.here | apply Pk.there)) (fun G3 hle3 hsl3 _ => ?_); refine S9 (by repeat (first | exact Pk.here | apply Pk.there)) (fun G4 hle4 hsl4 _ => ?_); refine C6 rfl (A0o G4 br pb nb cb (p + 1) bs _ _ _ _ (hb.mono (hle3.trans hle4)) hnb (by omega) (hsl3.mono hle4) (by decide)) (Pk.perm (by repeat (first | exact Pk.here | apply Pk.there))) rfl rfl (fun v G5 outs hle5 hh => ?_); obtain ⟨rfl, rfl, hv⟩ := hh; obtain ⟨k', rfl, hk'⟩ : ∃ k', v = .int .i64 k' ∧ C1 k' := (by simp only [List.mem_cons, List.not_mem_nil, or_false] at hv; rcases hv with rfl | rfl | rfl | rfl | rfl <;> exact ⟨_, rfl, by unfold C1; omega⟩))
 refine sQ (B1 rfl) rfl (I1 ?_)
 refine sD (M2 ?_)
 refine P6 (.mk k' ks, q, c, p + 2, G5) ?_ ?_
 (simp only [E7]; exact C2)
 (dsimp only; exact ⟨hle3.trans hle4, (hst.mono (hle3.trans hle4)).ty rfl hsl4 hk', by (rw [I0]; omega), by omega, by omega⟩)
 refine sQ (qA rfl) rfl (sD (nS (cF rfl (tS (tR ?_)))))
 refine sB (qE rfl rfl) rfl rfl (fun h48 => ?_) (fun h48 => ?_)
 refine sQ (qA rfl) rfl (sD (nS (qT rfl ?_)))
 refine D7 D8 rfl ?_
 refine H4 (i := 0) (l' := [tt,ff,ff,ff,ff,ff,ff]) rfl D3 (B1 rfl) rfl (by kernel_rfl) rfl rfl ?_
 refine aL 1 rfl (D4 rfl rfl) rfl ?_
 refine A2 2 ?_
 refine S4 rfl rfl ((A1R _)) rfl rfl rfl ?_
 refine A2 3 ?_
 (refine D6 rfl (B4 rfl rfl rfl (by omega) (by unfold maxLen; omega) rfl) rfl rfl ?_; rintro _ ⟨b59, rfl⟩)
 refine A2 4 ?_
 refine Q9 rfl rfl rfl rfl rfl rfl (fun _ _ => by repeat (first | exact Sw.here | apply Sw.there)) (J9 (by repeat first | exact mH | apply mT)) rfl (by simp [Value.oneCell']) (by unfold maxLen; omega) (by omega) rfl rfl (by repeat (first | exact A4.nil | apply A4.dep (by decide +kernel) | apply A4.blk (by decide +kernel) (by repeat (first | exact Pk.here | apply Pk.there)) (by repeat first | exact mH | apply mT))) (fun qn cn => ?_)
 (refine A23 (cs := es.flatten ++ [.int .i64 1, .slice none 0 0]) (by repeat (first | exact Pk.here | apply Pk.there)) (fun G6 hle6 hsl6 _ => ?_))
 refine aP 5 rfl (B1 rfl) rfl ?_
 refine A2 6 ?_
 refine R2 rfl rfl rfl rfl rfl rfl rfl rfl (by kernel_rfl) (by repeat first | exact Sw.here | apply Sw.there) (by rfl) ?_
 refine B9 (M2 ?_)
 refine P6 (.mk k (ks ++ [O4]), qn, cn, p + 1, G6) (by rw [show (Ty.mk k (ks ++ [O4])).ks.length = ks.length + 1 from by simp [Ty.ks]]; exact C2) ?_
 (dsimp only; refine ⟨hle6, C3.ty (ts := ks ++ [O4]) (es := es ++ [[.int .i64 1, .slice none 0 0]]) (C3.snoc (hst.mono hle6) (A1o _)) rfl (by simpa [Ty.ks] using hsl6) hk, ?_, by omega, by omega⟩; rw [I0, A4Y, A6C, List.length_append]; simp only [List.length_singleton]; omega)
 refine sQ (qA rfl) rfl (sD (nS (cF rfl (tS (tR ?_)))))
 refine sB (qE rfl rfl) rfl rfl (fun h76 => ?_) (fun h76 => ?_)
 refine E8 ?_
 refine B2 ?_
 (refine A1k (by repeat (first | exact Pk.here | apply Pk.there)) (fun G3 hle3 hsl3 _ => ?_); refine J8 (fun (x : Nat × Ty × Option Addr × Nat × IM) => ⟨[(6, .int .i64 x.1), (5, .pointer (some ⟨b11, 0, none⟩)), (4, .pointer (some ⟨b4, 0, none⟩))], [.blk b11 [.int .i64 x.2.1.k, .slice x.2.2.1 x.2.1.ks.length x.2.2.2.1], .blk b4 [.int .i64 0, .slice none 0 0], rd br pb nb cb (p + 1)], x.2.2.2.2⟩) (fun x => x.1 ≤ 4 ∧ A7 G3 x.2.2.2.2 ∧ A8 x.2.2.2.2 x.2.1 [.int .i64 x.2.1.k, .slice x.2.2.1 x.2.1.ks.length x.2.2.2.1] ∧ I0 x.2.1 ≤ 30 + 2 * x.1) (fun x => 4 - x.1) (0, .mk k ks, q, c, G3) ?_ ?_ ?_)
 (simp only [E7]; exact C2)
 (dsimp only; exact ⟨by omega, A7.refl _, (hst.mono hle3).ty rfl hsl3 hk, by (rw [I0]; omega)⟩)
 (rintro ⟨i, ⟨tk, tks⟩, qi, ci, Gi⟩ ⟨hi, hlei, hri, hsi⟩; simp only [Ty.k, Ty.ks] at hi hlei hri hsi ⊢)
 refine tS (tS (tR (sQ (qM rfl) rfl ?_)))
 refine sB (I7 rfl rfl) rfl rfl (fun h95 => ?_) (fun h95 => ?_)
 refine sD (nS (qT rfl (tK (nS (tS ?_)))))
 refine B2 ?_
 refine D7 D8 rfl ?_
 refine V5 (i := 1) (l' := [ff,tt,ff,ff,ff]) rfl D3 (A3 rfl rfl) rfl (by kernel_rfl) rfl rfl ?_
 refine A2 0 ?_
 refine S4 rfl rfl ((A1R _)) rfl rfl rfl ?_
 refine A2 2 ?_
 (refine D6 rfl (B4 rfl rfl rfl (by omega) (by unfold maxLen; omega) rfl) rfl rfl ?_; rintro _ ⟨b108, rfl⟩)
 (refine A23 (cs := [.int .i64 1, .slice none 0 0, .int .i64 tk, .slice qi tks.length ci]) (by repeat (first | exact Pk.here | apply Pk.there)) (fun G7 hle7 hsl7 _ => ?_))
 refine aP 3 rfl (R6 rfl rfl) rfl ?_
 refine A2 4 ?_
 refine R2 rfl rfl rfl rfl rfl rfl rfl rfl (by kernel_rfl) (by repeat first | exact Sw.here | apply Sw.there) (by rfl) ?_
 refine B9 (M2 (nS (tR (sQ (qM rfl) rfl ?_))))
 refine sP (H2 rfl rfl (by omega) (by omega)) rfl rfl ?_
 refine sQ (qA rfl) rfl (sD ?_)
 refine J4 (i + 1, .mk 4 [O4, .mk tk tks], some ⟨b108, 0, none⟩, 2, G7) ?_ ?_ ?_
 (simp only [E7]; exact C2)
 (dsimp only; refine ⟨by omega, hlei.trans hle7, C3.ty (ts := [O4, .mk tk tks]) (es := [[.int .i64 1, .slice none 0 0], [.int .i64 tk, .slice qi tks.length ci]]) ⟨_, _, rfl, A1o _, _, _, rfl, hri.mono hle7, rfl⟩ rfl hsl7 ⟨by omega, by omega⟩, ?_⟩; rw [I0, O0, O0, O0, A6C]; simp only [List.length_cons, List.length_nil]; omega)
 (show 4 - (i + 1) < 4 - i; omega)
 refine E1 ?_
 refine P6 (.mk tk tks, qi, ci, p + 1, Gi) ?_ ?_
 (simp only [E7]; exact C2)
 (dsimp only; exact ⟨hle3.trans hlei, hri, by omega, by omega, by omega⟩)
 refine sQ (qA rfl) rfl (sD (nS (cF rfl ?_)))
 (refine A1k (by repeat (first | exact Pk.here | apply Pk.there)) (fun G8 hle8 hsl8 _ => ?_); refine tK ?_)
 refine M2 ?_
 refine P6 (.mk k ks, q, c, p + 1, G8) ?_ ?_
 (simp only [E7]; exact C2)
 (dsimp only; exact ⟨hle8, (hst.mono hle8).ty rfl hsl8 hk, by (rw [I0]; omega), by omega, by omega⟩)
 (rintro ⟨t', q', c', p', G'⟩ ⟨hle9, hr9, hs9, hp9, hp9'⟩; simp only [] at hle9 hr9 hs9 hp9 hp9' ⊢)
 refine tS (tR (sL (A3 rfl rfl) rfl rfl (I1 ?_)))
 refine sD (nS (tT ?_))
 refine E3 (outs := [rd br pb nb cb p']) (rC rfl (A3 rfl rfl)) (by repeat (first | exact A0.nil | refine A0.cons Pk.here ?_ | refine A0.cons (Pk.there Pk.here) ?_ | apply A0.drop)) ?_
 (exact ⟨p', by omega, by omega, rfl, t', _, rfl, hr9, by omega⟩)
mutual
def D0 : Tm → Tm
 | .mk k nm num ty fr lb ks => if k = 13 ∨ k = 14 then (C4 ks).headD I2 else .mk k nm num (if k = 5 then O4 else A5) A5 0 (C4 ks)
def C4 : List Tm → List Tm
 | [] => []
 | t :: ts => D0 t :: C4 ts
end
theorem A1S : ∀ ks, C4 ks = ks.map D0
 | [] => rfl
 | t :: ts => by rw [C4, A1S ts, List.map_cons]
def A0A : Tm → Tm
 | .mk k nm num ty fr lb ks => if k = 13 ∨ k = 14 then ks.headD I2 else if k = 5 then .mk k nm num O4 fr lb ks else .mk k nm num ty fr lb ks
def A2E : Tm → Prop
 | .mk k _ _ _ _ _ ks => k = 13 ∨ k = 14 → ks ≠ []
theorem A3c {t : Ty} (h : Z5 t = true) : t = A5 := by
 obtain ⟨k, ks⟩ := t
 obtain ⟨h1, h2⟩ : (Ty.mk k ks).k = 0 ∧ (Ty.mk k ks).ks.length = 0 := of_decide_eq_true h
 simp only [Ty.k, Ty.ks] at h1 h2
 have h3 : ks = [] := List.length_eq_zero_iff.1 (by omega)
 rw [h3, A5]
 congr
theorem R8 {D N : Int} {k : Int} {nm : ByteArray} {num : Int} {ty fr : Ty} {lb : Int} {ks : List Tm} {d : Int} (h : I9 D N (.mk k nm num ty fr lb ks) d = true) : d ≤ D ∧ k ≠ N ∧ X7 k nm num ty fr lb ks.length = true ∧ F8 D N ks (d + 1) = true := by
 rw [I9] at h
 simp only [Bool.and_eq_true, decide_eq_true_eq] at h
 exact ⟨h.1.1.1, h.1.1.2, h.1.2, h.2⟩
mutual
theorem A8V (D N : Int) : ∀ (t : Tm) (d : Int), I9 D N t d = true → A1P A0A t = D0 t ∧ mOk A2E A0A t
 | .mk k nm num ty fr lb ks, d, h => by
  obtain ⟨h1, h2, h3, h4⟩ := R8 h
  obtain ⟨e1, e2⟩ := A8W D N ks _ h4
  have hn := R7.1 h3
  rw [A1P, D0, mOk, e1]
  refine ⟨?_, e2, ?_⟩
  ·rw [A0A]
   by_cases hk : k = 13 ∨ k = 14
   ·rw [if_pos hk, if_pos hk]
   ·rw [if_neg hk, if_neg hk]
    obtain ⟨hf, hl⟩ := hn.2.2.2.2.2.2.2.2 (by omega)
    rw [A3c hf, hl]
    by_cases hk5 : k = 5
    ·rw [if_pos hk5, if_pos hk5]
    ·rw [if_neg hk5, if_neg hk5, A3c (hn.2.2.2.2.2.2.1 (by omega))]
  ·rw [A2E]
   intro hk he
   have ha := hn.1
   have : ks.length = 0 := by
    have := congrArg List.length he
    rw [A1S, List.length_map] at this
    simpa using this
   rcases hk with rfl | rfl <;> (rw [this] at ha; revert ha; decide)
theorem A8W (D N : Int) : ∀ (ts : List Tm) (d : Int), F8 D N ts d = true → A0T A0A ts = C4 ts ∧ A2C A2E A0A ts
 | [], d, h => by rw [A0T, C4, A2C]; exact ⟨rfl, trivial⟩
 | t :: ts, d, h => by
  rw [F8, Bool.and_eq_true] at h
  obtain ⟨a1, a2⟩ := A8V D N t d h.1
  obtain ⟨b1, b2⟩ := A8W D N ts d h.2
  rw [A0T, C4, A2C, a1, b1]
  exact ⟨rfl, a2, b2⟩
end
mutual
theorem A6D : ∀ (t : Tm) (d : Int), I9 12 14 (D0 t) d = true → I9 40 13 (D0 t) d = true
 | .mk k nm num ty fr lb ks, d, h => by
  rw [D0] at h ⊢
  by_cases hk : k = 13 ∨ k = 14
  ·rw [if_pos hk] at h ⊢
   cases ks with
   | nil => exact absurd (R8 (D := 12) (N := 14) h).2.2.1 (by decide)
   | cons x xs =>
    rw [C4] at h ⊢
    exact A6D x d h
  ·rw [if_neg hk] at h ⊢
   obtain ⟨h1, h2, h3, h4⟩ := R8 h
   rw [A19 (by omega) (by omega) h3]
   exact A8X ks _ h4
theorem A8X : ∀ (ts : List Tm) (d : Int), F8 12 14 (C4 ts) d = true → F8 40 13 (C4 ts) d = true
 | [], d, h => by rw [C4, F8]
 | t :: ts, d, h => by
  rw [C4, F8, Bool.and_eq_true] at h ⊢
  exact ⟨A6D t d h.1, A8X ts d h.2⟩
end
theorem B3A {t : Tm} (h : O6 (D0 t) = true) : W4 (D0 t) = true := by
 obtain ⟨h1, h2⟩ := (A0b _).1 h
 exact (A4O _).2 ⟨A6D t 1 h1, by omega⟩
mutual
theorem A3Y : ∀ t : Tm, t.small → (D0 t).small ∧ C9 (D0 t) ≤ C9 t
 | .mk k nm num ty fr lb ks, h => by
  simp only [Tm.small] at h
  obtain ⟨h1, h2, h3, h4, h5⟩ := h
  obtain ⟨b1, b2⟩ := A8Y ks h5
  rw [D0]
  by_cases hk : k = 13 ∨ k = 14
  ·rw [if_pos hk]
   cases ks with
   | nil => exact ⟨by simp [C4, I2, Tm.small, Ty.small, Ty.smallL, Tm.smallL, ByteArray.size], by rw [C9]; simp [C4, I2, C9, D2]⟩
   | cons x xs =>
    simp only [Tm.smallL] at h5
    obtain ⟨c1, c2⟩ := A3Y x h5.1
    rw [C4, C9, D2]
    exact ⟨c1, by show C9 (D0 x) ≤ _; omega⟩
  ·rw [if_neg hk]
   simp only [Tm.small, C9]
   refine ⟨⟨h1, ?_, by simp [A5, Ty.small, Ty.smallL], by rw [A1S, List.length_map]; exact h4, b1⟩, by omega⟩
   by_cases hk5 : k = 5
   ·rw [if_pos hk5]; simp [O4, Ty.small, Ty.smallL]
   ·rw [if_neg hk5]; simp [A5, Ty.small, Ty.smallL]
theorem A8Y : ∀ ts : List Tm, Tm.smallL ts → Tm.smallL (C4 ts) ∧ D2 (C4 ts) ≤ D2 ts
 | [], h => by rw [C4]; simp [Tm.smallL]
 | t :: ts, h => by
  simp only [Tm.smallL] at h
  obtain ⟨a1, a2⟩ := A3Y t h.1
  obtain ⟨b1, b2⟩ := A8Y ts h.2
  rw [C4, D2, D2]
  simp only [Tm.smallL]
  exact ⟨⟨a1, b1⟩, by omega⟩
end
mutual
theorem A6E (D N : Int) : ∀ (t : Tm) (d d' : Int), d' ≤ d → I9 D N t d = true → I9 D N t d' = true
 | .mk k nm num ty fr lb ks, d, d', hd, h => by
  obtain ⟨h1, h2, h3, h4⟩ := R8 h
  rw [A19 (by omega) h2 h3]
  exact A40 D N ks _ _ (by omega) h4
theorem A40 (D N : Int) : ∀ (ts : List Tm) (d d' : Int), d' ≤ d → F8 D N ts d = true → F8 D N ts d' = true
 | [], d, d', hd, h => by rw [F8]
 | t :: ts, d, d', hd, h => by
  rw [F8, Bool.and_eq_true] at h ⊢
  exact ⟨A6E D N t d d' hd h.1, A40 D N ts d d' hd h.2⟩
end
section own
variable {P : Program} {Γ : I3} {env : J0} {hp : List A1} {G : IM} {ty : TypeId} {K : Po} {ops : Array Oper} {rest : List Oper}
theorem St.trim {a : Act} {w : World} {hp' : List A1} {p : Option Addr} {c el sz n k : Nat} {cs : List Value} (hs : St Γ ⟨env, hp, G⟩ a w) (hk : Pk hp (.slc p c el sz n cs) hp') (hkn : k ≤ n) :
  St Γ ⟨env, .slc p c el sz k (cs.take (k * sz)) :: hp', G⟩ a w := by
 have hown : S7 [.slc p c el sz n cs] G w := hs.res.own.of_mem hk.perm
 obtain ⟨hl, h⟩ := hown.ok _ List.mem_cons_self
 have hok : A1.ok w (.slc p c el sz k (cs.take (k * sz))) := by
  have hle : k * sz ≤ n * sz := Nat.mul_le_mul_right _ hkn
  refine ⟨by rw [List.length_take, hl]; exact Nat.min_eq_left hle, ?_⟩
  rcases h with ⟨hv, hn⟩ | ⟨g, cap, cur, hv, hb, hg, hnc, hcm, hsz, ht⟩
  ·cases hv; left; exact ⟨by rw [show k = 0 by omega], by omega⟩
  ·cases hv
   refine .inr ⟨g, _, cur, rfl, hb, hg, by omega, hcm, hsz, ?_⟩
   rw [← ht, List.take_take, Nat.min_eq_left hle]
 have hr : P4 [.slc p c el sz n cs] G w [.slc p c el sz k (cs.take (k * sz))] G w := by
  refine ⟨⟨hown.inn, ?_, ?_, ?_⟩, Ext.refl _ _, A7.refl _, fun _ _ h => .inl h, ?_, fun b l h h0 => absurd h (by rw [h0]; simp)⟩
  ·intro e he
   simp at he; subst he; exact hok
  ·have := hown.nodup; simpa [Fp, A1.fp] using this
  ·intro b hb; exact hown.disj b (by simpa [Fp, A1.fp] using hb)
  ·intro b hb; exact .inr (by simpa [Fp, A1.fp] using hb)
 exact ⟨hs.size, hs.nod, hs.env, by have := (hs.res.perm hk.perm).frame hr; simpa using this⟩
theorem A6F {p : Option Addr} {c el sz n k : Nat} {cs : List Value} {hp' : List A1} (hk : Pk hp (.slc p c el sz n cs) hp') (hkn : k ≤ n)
  (h : F0 P Γ ops rest K ⟨env, .slc p c el sz k (cs.take (k * sz)) :: hp', G⟩) : F0 P Γ ops rest K ⟨env, hp, G⟩ := ⟨fun a w hs => h.run a w (hs.trim hk hkn)⟩
theorem Pk2 {e1 e2 : A1} {h1 h2 : List A1} (a : Pk hp e1 h1) (b : Pk h1 e2 h2) : hp.Perm ([e1, e2] ++ h2) := a.perm.trans (List.Perm.cons _ b.perm)
theorem Pk3 {e1 e2 e3 : A1} {h1 h2 h3 : List A1} (a : Pk hp e1 h1) (b : Pk h1 e2 h2) (c : Pk h2 e3 h3) : hp.Perm ([e1, e2, e3] ++ h3) := a.perm.trans (List.Perm.cons _ (b.perm.trans (List.Perm.cons _ c.perm)))
theorem B3B {cs vs cs' C : List Value} {o : Nat} (h : R1 cs o vs = some cs') : cs' ++ C = (cs ++ C).take o ++ vs ++ (cs ++ C).drop (o + vs.length) := by
 obtain ⟨h1, h2⟩ := A20 h
 rw [h1, List.take_append_of_le_length (by omega), List.drop_append_of_le_length (by omega)]
 simp
theorem B3C {d : Option Nat} {x y : Operand} {t : TypeId} {i : H7} [hI : C7 P t i] {b o c el sz n : Nat} {v : Value} {vs cs cs' : List Value} {hp' : List A1}
  (hx : evo env x = some (.pointer (some ⟨b, o, none⟩))) (hy : evo env y = some v) (hv : v.cells = ⟨vs⟩) (hsz : vs.length = i.size) (h1 : vs.all (·.oneCell') = true)
  (hu : R1 cs o vs = some cs') (hm : Sw hp (.slc (some ⟨b, 0, none⟩) c el sz n cs) (.slc (some ⟨b, 0, none⟩) c el sz n cs') hp') (hd : dok Γ.n d = true) :
  X3 P Γ ⟨env, hp, G⟩ d (.store t x y) ty [b] (fun σ' => σ' = ⟨dpu d undef env, hp', G⟩) := by
 refine ⟨fun a w hs pos af gd Q next hn => ?_⟩
 obtain ⟨rest, p1, p2⟩ := hm.perm
 have hown : S7 [.slc (some ⟨b, 0, none⟩) c el sz n cs] G w := hs.res.own.of_mem p1
 obtain ⟨hl, h⟩ := hown.ok _ List.mem_cons_self
 rcases h with ⟨hv', _⟩ | ⟨g, cap, cur, hv', hbg, hg, hnc, hcm, hcs, ht⟩
 ·cases hv'
 cases hv'
 obtain ⟨u1, u2⟩ := A20 hu
 have hcur : cur.toList = cs ++ cur.toList.drop (n * sz) := by
  conv => lhs; rw [← List.take_append_drop (n * sz) cur.toList, ht]
 have hlen : cs.length ≤ cur.size := by
  rw [hl, hcs]; exact Nat.mul_le_mul_right _ hnc
 have hst := run_storeCells_at P b o el vs 0 cur w hg (by omega) (by simpa using h1)
 obtain ⟨cur', hcur'⟩ : ∃ l : List Value, l = cs' ++ cur.toList.drop (n * sz) := ⟨_, rfl⟩
 have hcc : cur.toList.take (o + 0) ++ vs ++ cur.toList.drop (o + 0 + vs.length) = cur' := by
  rw [hcur', Nat.add_zero, B3B hu, ← hcur]
 rw [hcc] at hst
 have hl' : cs'.length = cs.length := by rw [u1]; simp; omega
 have hsz' : cur'.length = cur.size := by
  have := congrArg List.length hcur
  rw [hcur', List.length_append, hl']
  simpa using this.symm
 obtain ⟨inf, g1, g2, _⟩ := hI.info
 have hrun : (execOp a.eval ⟨d, .store t x y, ty, pos, af, gd⟩).run P w = .ok .skip (w.setRow b cur'.toArray) := by
  simp [execOp, Instr.storeAt, Instr.sureAddr, (hs.evo hx : a.eval x = _), (hs.evo hy : a.eval y = _), storeVar, sizeOf, typeInfo, g1, g2, hv, hsz, hst]
 simp only [Oper.wp, hrun, Oper.upon]
 have hr' : P4 [.slc (some ⟨b, 0, none⟩) c el sz n cs] G w [.slc (some ⟨b, 0, none⟩) c el sz n cs'] G (w.setRow b cur'.toArray) := by
  refine ⟨⟨?_, ?_, by simp [Fp, A1.fp, H1], ?_⟩, ⟨rfl, rfl, rfl, by simp [World.setRow], fun k _ hk => setRow_other w b k _ (by rintro rfl; simp [Fp, A1.fp, H1] at hk)⟩, A7.refl _, fun _ _ h => .inl h, ?_, fun b l h h0 => absurd h (by rw [h0]; simp)⟩
  ·intro k l hg'
   obtain ⟨e', f', h'⟩ := hown.inn k l hg'
   refine ⟨e', f', ?_⟩
   rw [setRow_other w b k _ ?_]
   ·exact h'
   ·rintro rfl
    have := hown.disj k (by simp [Fp, A1.fp, H1])
    rw [this] at hg'; cases hg'
  ·intro x hx
   simp at hx; subst hx
   refine ⟨by rw [hl', hl], .inr ⟨b, _, cur'.toArray, rfl, hbg, setRow_heap w b cur cur'.toArray el (0, 0) hg, hnc, hcm, by rw [List.size_toArray, hsz', hcs], ?_⟩⟩
   rw [hcur', List.take_left' (by rw [hl', hl])]
  ·intro k hk
   exact hown.disj k (by simpa [Fp, A1.fp, H1] using hk)
  ·intro k hk
   exact .inr (by simpa [Fp, A1.fp, H1] using hk)
 exact hn _ _ _ (hs.step p1 hr' p2 hd) (by simpa [Fp, A1.fp, H1] using hr'.ext) rfl
variable {pos : String} {af : Array Edge} {gd : Option (Nat × Bool)}
theorem A8Z {H : List (Nat × Nat)} {fuel : Nat} {listed l' : List Bool} {j c el sz n : Nat} {cs vs : List Value} {x y : Operand} {t : TypeId} {i : H7} [hI : C7 P t i] {bb o : Nat} {v : Value} {cs' : List Value} {hp' : List A1} (hi : ops[j]? = some ⟨none, .store t x y, ty, pos, af, gd⟩)
  (hx : evo env x = some (.pointer (some ⟨bb, o, none⟩))) (hy : evo env y = some v) (hv : v.cells = ⟨vs⟩) (hsz : vs.length = i.size) (h1 : vs.all (·.oneCell') = true)
  (hw : K8 ops env gd = some true) (hl : listed.set j true = l') (hm : ((H.map Prod.fst).all fun i => Z4 ops j i) = true) (hsw : Sw hp (.slc (some ⟨bb, 0, none⟩) c el sz n cs) (.slc (some ⟨bb, 0, none⟩) c el sz n cs') hp') (hu : R1 cs o vs = some cs')
  (k : M1 P Γ ops K [] fuel l' ⟨env, hp', G⟩) : U6 P Γ ops K H fuel listed j ⟨env, hp, G⟩ :=
 A53 hi (B3C hx hy hv hsz h1 hu hsw rfl) hw hl hm (by rintro _ rfl; exact k)
theorem A3Z {H : List (Nat × Nat)} {fuel : Nat} {listed l' : List Bool} {j d : Nat} {f : FuncId} [hF : A9 P f] {xs : List Operand} {ats : Array TypeId} {vs : List Value} {ins rst : List A1} {post : IM → Value → List A1 → Prop}
  (hi : ops[j]? = some ⟨some d, .call ⟨.value (.func f), ⟨xs⟩, ats⟩, ty, pos, af, gd⟩) (hx : evl env xs = some vs) (h : Fn P f vs ins G post) (hp' : hp.Perm (ins ++ rst)) (hw : K8 ops env gd = some true) (hd : Nat.blt d Γ.n = true) (hl : listed.set j true = l')
  (hm : ((H.map Prod.fst).all fun i => Z4 ops j i) = true)
  (k : ∀ v G' outs, A7 G G' → post G' v outs → M1 P Γ ops K [] fuel l' ⟨(d, v) :: env, outs ++ rst, G'⟩) : U6 P Γ ops K H fuel listed j ⟨env, hp, G⟩ :=
 A53 hi (A2v hx h hp' hd) hw hl hm (by rintro _ ⟨v, G', outs, rfl, hle, hq⟩; exact k v G' outs hle hq)
end own
abbrev kI (k : Int) : Int := k
theorem A30 (k n : Int) (G : IM) : Fn Tryz.prog 131 [.int .i64 k, .int .i64 n] [] G (J1 (.agg ⟨[.int .i64 k, .int .i64 n, .slice none 0 0, .slice none 0 0]⟩) G) := by
 refine B6 Tryz.func131 rfl Tryz.ntmps131 Tryz.results131 rfl ?_
 intro w0
 refine tS (tR ?_)
 refine sE (B0 rfl) rfl (fun b3 => ?_)
 refine J3 ?_
 refine I6 (rC rfl (A3 rfl rfl)) ?_
 exact ⟨rfl, rfl, rfl⟩
theorem A2b {P : Program} {Γ : I3} {env : J0} {hp : List A1} {G : IM} {r r2 r3 r4 : ResultVar} {post : IM → Value → List A1 → Prop} {v v2 v3 v4 : Value} (h : W8 P Γ ⟨env, hp, G⟩ r v) (h2 : W8 P Γ ⟨env, hp, G⟩ r2 v2) (h3 : W8 P Γ ⟨env, hp, G⟩ r3 v3) (h4 : W8 P Γ ⟨env, hp, G⟩ r4 v4)
  (hk : post G (.tuple ⟨[v, v2, v3, v4]⟩) []) : A0f P Γ [r, r2, r3, r4] post .ret ⟨env, hp, G⟩ := A4y (.cons h (.cons h2 (.cons h3 (.cons h4 .nil)))) hk
theorem mPW (k : Int) : (k = 6 ∧ L5 k = 2 ∧ O1 k = (2, 1, 1)) ∨ ((k = 7 ∨ k = 8) ∧ L5 k = 2 ∧ O1 k = (0, 2, 2)) ∨ (k = 9 ∧ L5 k = 1 ∧ O1 k = (1, 1, 3)) ∨ (k = 11 ∧ L5 k = 2 ∧ O1 k = (0, 0, 0)) ∨ ((k = 12 ∨ k = 13) ∧ L5 k = 1 ∧ O1 k = (3, 1, 4)) ∨ ((k ≠ 6 ∧ k ≠ 7 ∧ k ≠ 8 ∧ k ≠ 9 ∧ k ≠ 11 ∧ k ≠ 12 ∧ k ≠ 13) ∧ L5 k = 0 ∧ O1 k = (0, 0, 0)) := by
 by_cases h6 : k = 6
 ·subst h6; exact .inl ⟨rfl, rfl, rfl⟩
 by_cases h7 : k = 7
 ·subst h7; exact .inr (.inl ⟨.inl rfl, rfl, rfl⟩)
 by_cases h8 : k = 8
 ·subst h8; exact .inr (.inl ⟨.inr rfl, rfl, rfl⟩)
 by_cases h9 : k = 9
 ·subst h9; exact .inr (.inr (.inl ⟨rfl, rfl, rfl⟩))
 by_cases h11 : k = 11
 ·subst h11; exact .inr (.inr (.inr (.inl ⟨rfl, rfl, rfl⟩)))
 by_cases h12 : k = 12
 ·subst h12; exact .inr (.inr (.inr (.inr (.inl ⟨.inl rfl, rfl, rfl⟩))))
 by_cases h13 : k = 13
 ·subst h13; exact .inr (.inr (.inr (.inr (.inl ⟨.inr rfl, rfl, rfl⟩))))
 refine .inr (.inr (.inr (.inr (.inr ⟨⟨h6, h7, h8, h9, h11, h12, h13⟩, A6p (by omega) (by omega), ?_⟩))))
 unfold O1
 rw [if_neg h6, if_neg (by omega), if_neg h9, if_neg (by omega)]
theorem A41 (k : Int) (G : IM) : Fn Tryz.prog 128 [.int .i64 k] [] G (J1 (.tuple ⟨[.int .i64 (L5 k), .int .i64 (O1 k).1, .int .i64 (O1 k).2.1, .int .i64 (O1 k).2.2]⟩) G) := by
 refine B6 Tryz.func128 rfl Tryz.ntmps128 Tryz.results128 rfl ?_
 intro w0
 refine M5 ?_
 refine B2 (tS (tR (sB (qE rfl rfl) rfl rfl (fun h18 => ?_) (fun h18 => ?_))))
 refine J5 ?_
 refine A2b (rT rfl) (rT rfl) (rT rfl) (rT rfl) ?_
 (refine ⟨rfl, ?_, rfl⟩; rcases mPW k with ⟨h1, h2, h3⟩ | ⟨h1, h2, h3⟩ | ⟨h1, h2, h3⟩ | ⟨h1, h2, h3⟩ | ⟨h1, h2, h3⟩ | ⟨h1, h2, h3⟩ <;> first | (exfalso; omega) | (rw [h2, h3]; rfl))
 refine sQ (qA rfl) rfl (sD (nS (cF rfl (tS (tS (tR ?_))))))
 refine sB (qE rfl rfl) rfl rfl (fun h43 => ?_) (fun h43 => ?_)
 refine A0g ?_
 refine A2b (rT rfl) (rT rfl) (rT rfl) (rT rfl) ?_
 (refine ⟨rfl, ?_, rfl⟩; rcases mPW k with ⟨h1, h2, h3⟩ | ⟨h1, h2, h3⟩ | ⟨h1, h2, h3⟩ | ⟨h1, h2, h3⟩ | ⟨h1, h2, h3⟩ | ⟨h1, h2, h3⟩ <;> first | (exfalso; omega) | (rw [h2, h3]; rfl))
 refine sQ (qA rfl) rfl (sD (nS (cF rfl (tR ?_))))
 refine sB (qE rfl rfl) rfl rfl (fun h69 => ?_) (fun h69 => ?_)
 refine J5 ?_
 refine A2b (rT rfl) (rT rfl) (rT rfl) (rT rfl) ?_
 (refine ⟨rfl, ?_, rfl⟩; rcases mPW k with ⟨h1, h2, h3⟩ | ⟨h1, h2, h3⟩ | ⟨h1, h2, h3⟩ | ⟨h1, h2, h3⟩ | ⟨h1, h2, h3⟩ | ⟨h1, h2, h3⟩ <;> first | (exfalso; omega) | (rw [h2, h3]; rfl))
 refine sQ (qA rfl) rfl (sD (nS (cF rfl (tS (tR ?_)))))
 refine sB (qE rfl rfl) rfl rfl (fun h93 => ?_) (fun h93 => ?_)
 refine J5 ?_
 refine A2b (rT rfl) (rT rfl) (rT rfl) (rT rfl) ?_
 (refine ⟨rfl, ?_, rfl⟩; rcases mPW k with ⟨h1, h2, h3⟩ | ⟨h1, h2, h3⟩ | ⟨h1, h2, h3⟩ | ⟨h1, h2, h3⟩ | ⟨h1, h2, h3⟩ | ⟨h1, h2, h3⟩ <;> first | (exfalso; omega) | (rw [h2, h3]; rfl))
 refine sQ (qA rfl) rfl (sD (nS (cF rfl (tS (tR ?_)))))
 refine sB (qE rfl rfl) rfl rfl (fun h117 => ?_) (fun h117 => ?_)
 refine J5 ?_
 refine A2b (rT rfl) (rT rfl) (rT rfl) (rT rfl) ?_
 (refine ⟨rfl, ?_, rfl⟩; rcases mPW k with ⟨h1, h2, h3⟩ | ⟨h1, h2, h3⟩ | ⟨h1, h2, h3⟩ | ⟨h1, h2, h3⟩ | ⟨h1, h2, h3⟩ | ⟨h1, h2, h3⟩ <;> first | (exfalso; omega) | (rw [h2, h3]; rfl))
 refine sQ (qA rfl) rfl (sD (nS (cF rfl (tS (tS (tR ?_))))))
 refine sB (qE rfl rfl) rfl rfl (fun h142 => ?_) (fun h142 => ?_)
 refine A0g ?_
 refine A2b (rT rfl) (rT rfl) (rT rfl) (rT rfl) ?_
 (refine ⟨rfl, ?_, rfl⟩; rcases mPW k with ⟨h1, h2, h3⟩ | ⟨h1, h2, h3⟩ | ⟨h1, h2, h3⟩ | ⟨h1, h2, h3⟩ | ⟨h1, h2, h3⟩ | ⟨h1, h2, h3⟩ <;> first | (exfalso; omega) | (rw [h2, h3]; rfl))
 refine sQ (qA rfl) rfl (sD (nS (cF rfl (tR ?_))))
 refine sB (qE rfl rfl) rfl rfl (fun h168 => ?_) (fun h168 => ?_)
 refine J5 ?_
 refine A2b (rT rfl) (rT rfl) (rT rfl) (rT rfl) ?_
 (refine ⟨rfl, ?_, rfl⟩; rcases mPW k with ⟨h1, h2, h3⟩ | ⟨h1, h2, h3⟩ | ⟨h1, h2, h3⟩ | ⟨h1, h2, h3⟩ | ⟨h1, h2, h3⟩ | ⟨h1, h2, h3⟩ <;> first | (exfalso; omega) | (rw [h2, h3]; rfl))
 refine N9 ?_
 refine A2b (rT rfl) (rT rfl) (rT rfl) (rT rfl) ?_
 (refine ⟨rfl, ?_, rfl⟩; rcases mPW k with ⟨h1, h2, h3⟩ | ⟨h1, h2, h3⟩ | ⟨h1, h2, h3⟩ | ⟨h1, h2, h3⟩ | ⟨h1, h2, h3⟩ | ⟨h1, h2, h3⟩ <;> first | (exfalso; omega) | (rw [h2, h3]; rfl))
section
variable {P : Program} {Γ : I3} {env : J0} {hp : List A1} {G : IM} {ty : TypeId}
theorem A80 {x : Operand} {t : TypeId} {i : H7} [hI : C7 P t i] {e : TypeId} (hd : i.desc = .slice e) {p : Option Addr} {n c : Nat} (hx : evo env x = some (.slice p n c)) :
  E6 P Γ ⟨env, hp, G⟩ (.call ⟨.builtin .cap, ⟨[x]⟩, ⟨[t]⟩⟩) ty (.int .i64 c) := by
 refine ⟨fun a _ hs _ _ _ _ w => ?_⟩
 have hu := hI.und
 rw [hd] at hu
 simp [execOp, resolve, invoke, builtin, Builtin.cap_, (hs.evo hx : a.eval x = _), run_underlying hu, goInt]
theorem B3D {w : World} (h : A2Y G w) : P4 [] G w [] G w.drew := A8t ⟨h, by simp, by simp [Fp], by simp [Fp]⟩ 1 #[]
theorem B3E {d : Nat} {x y : Operand} {t tn el : TypeId} {i : H7} {jn : H7} {k kn : IntKind} {sz by' : Nat} {zs : List Value} [hI : C7 P t i] (hd' : i.desc = .slice el) [hJ : C7 P tn jn] (hj : jn.desc = .int kn) [hE : S8 P el sz by' zs] {n : Nat}
  (hd : Nat.blt d Γ.n = true) (hx : evo env x = some (.slice none 0 0)) (hy : evo env y = some (.int k (n : Int))) (h0 : 0 < n) (hsz : Nat.blt 0 sz = true) (hn : n ≤ 1000000) (hb : n * by' ≤ 281474976710656) :
  X3 P Γ ⟨env, hp, G⟩ (some d) (.call ⟨.builtin .append, ⟨[x, y]⟩, ⟨[t, tn]⟩⟩) ty [] (fun σ' => ∃ b c cs, σ' = ⟨(d, .slice (some ⟨b, 0, none⟩) n c) :: env, .slc (some ⟨b, 0, none⟩) c el sz c cs :: hp, G⟩) := by
 refine ⟨fun a w hs pos af gd Q next hn' => ?_⟩
 have hz := hE.len
 obtain ⟨_, hE⟩ := hE.ok
 obtain ⟨inf, z, t1, t2, t3, t4, t5, t6, t7, t8⟩ := A15 (P := P) (t := el)
 have hu := hI.und
 rw [hd'] at hu
 have huj := hJ.und
 rw [hj] at huj
 have hrun := Lib.run_append_nil_zeros (P := P) w t tn ty el inf z k kn hu huj t6 t7 n h0 (by rw [t8]; simpa using hsz) (by omega) (by rw [t4]; exact hb)
 obtain ⟨C, hC⟩ : ∃ C, grownCap w n 0 el = C := ⟨_, rfl⟩
 have hge : n ≤ C := by rw [← hC]; exact grownCap_ge w n 0 el
 have hle : C ≤ maxLen := by rw [← hC]; exact grownCap_le_maxLen w n 0 el (by unfold maxLen; omega)
 rw [hC] at hrun
 have hzc : ∀ m, Builtin.zeroCells z.cells m = ⟨V7 m zs⟩ := fun m => by
  have := A7X z.cells zs t5 m
  unfold Builtin.zeroCells
  rw [show z.cells.size = zs.length by rw [t5]; rfl]
  rw [show z.cells.size = zs.length by rw [t5]; rfl] at this
  exact this
 have hcs : Builtin.zeroCells z.cells n ++ Builtin.zeroCells z.cells (C - n) = (V7 n zs ++ V7 (C - n) zs).toArray := by rw [hzc, hzc]; simp
 have hlen : (V7 n zs ++ V7 (C - n) zs).length = C * sz := by
  rw [List.length_append, A3E, A3E, hz, ← Nat.add_mul]; congr 1; omega
 rw [hcs] at hrun
 have hexec : (execOp a.eval ⟨some d, .call ⟨.builtin .append, ⟨[x, y]⟩, ⟨[t, tn]⟩⟩, ty, pos, af, gd⟩).run P w = .ok (.value (.slice (some ⟨w.heap.size, 0, none⟩) n C)) (w.drew.alloc (.cells (V7 n zs ++ V7 (C - n) zs).toArray el)) := by
  simp only [execOp, resolve, invoke, builtin, Sem.run_bind, Sem.run_pure, Result.andThen_ok]
  have e1 : (⟨[x, y]⟩ : Array Operand).map a.eval = #[.slice none 0 0, .int k n] := by
   simp [(hs.evo hx : a.eval x = _), (hs.evo hy : a.eval y = _)]
  rw [e1]
  have : (Builtin.append_ ⟨[t, tn]⟩ ty #[.slice none 0 0, .int k n]).run P w = .ok (.slice (some ⟨w.heap.size, 0, none⟩) n C) (w.drew.alloc (.cells (V7 n zs ++ V7 (C - n) zs).toArray el)) := hrun
  rw [this]; rfl
 simp only [Oper.wp, hexec, Oper.upon]
 have h1 := B3D hs.res.own.inn
 have h2 := A7V w.drew h1.own.inn el sz C (V7 n zs ++ V7 (C - n) zs) hlen hle
 have hr' : P4 [] G w [.slc (some ⟨w.heap.size, 0, none⟩) C el sz C (V7 n zs ++ V7 (C - n) zs)] G (w.drew.alloc (.cells (V7 n zs ++ V7 (C - n) zs).toArray el)) := by
  have := P4.frame (ins := []) (rest := []) (by simpa using h1) h2
  simpa using this
 exact hn' _ _ _ (hs.step (ins := []) (rest := hp) (List.Perm.refl _) hr' (List.Perm.refl _) (d := some d) hd) hr'.ext ⟨w.heap.size, C, _, rfl⟩
end
section slaws
variable {P : Program} {Γ : I3} {env : J0} {hp : List A1} {G : IM} {ty : TypeId}
theorem A31 {P : Program} {w : World} {l c : Nat} (hl : l ≤ c) (code : BoundsCode) : (Instr.sliceBound (.int .i64 (l : Int)) c code).run P w = .ok l w := by
 unfold Instr.sliceBound
 simp only [asIntOf, Sem.run_bind, Sem.run_pure, Result.andThen_ok]
 rw [if_pos ⟨by omega, by omega⟩]
 simp
theorem A2c {x y z : Operand} {t : TypeId} {i : H7} [hI : C7 P t i] (hd' : i.desc = .string) {s : ByteArray} {l h : Nat}
  (hx : evo env x = some (.string s)) (hy : evo env y = some (.int .i64 (l : Int))) (hz : evo env z = some (.int .i64 (h : Int))) (hl : l ≤ h) (hh : h ≤ s.size) :
  E6 P Γ ⟨env, hp, G⟩ (.slice t x (some y) (some z) none) ty (.string (s.extract l h)) := by
 refine ⟨fun a _ hs _ _ _ _ w => ?_⟩
 have hu := hI.und
 rw [hd'] at hu
 simp [execOp, (hs.evo hx : a.eval x = _), (hs.evo hy : a.eval y = _), (hs.evo hz : a.eval z = _), Instr.sliceAt, Sem.run_bind, run_underlying hu, Instr.slice, Instr.sliceBounds, A31 hl, A31 hh]
theorem A42 {x z : Operand} {t : TypeId} {i : H7} [hI : C7 P t i] (hd' : i.desc = .string) {s : ByteArray} {h : Nat}
  (hx : evo env x = some (.string s)) (hz : evo env z = some (.int .i64 (h : Int))) (hh : h ≤ s.size) :
  E6 P Γ ⟨env, hp, G⟩ (.slice t x none (some z) none) ty (.string (s.extract 0 h)) := by
 refine ⟨fun a _ hs _ _ _ _ w => ?_⟩
 have hu := hI.und
 rw [hd'] at hu
 simp [execOp, (hs.evo hx : a.eval x = _), (hs.evo hz : a.eval z = _), Instr.sliceAt, Sem.run_bind, run_underlying hu, Instr.slice, Instr.sliceBounds, A31 hh]
theorem A43 {x y : Operand} {t : TypeId} {i : H7} [hI : C7 P t i] (hd' : i.desc = .string) {s : ByteArray} {l : Nat}
  (hx : evo env x = some (.string s)) (hy : evo env y = some (.int .i64 (l : Int))) (hl : l ≤ s.size) :
  E6 P Γ ⟨env, hp, G⟩ (.slice t x (some y) none none) ty (.string (s.extract l s.size)) := by
 refine ⟨fun a _ hs _ _ _ _ w => ?_⟩
 have hu := hI.und
 rw [hd'] at hu
 simp [execOp, (hs.evo hx : a.eval x = _), (hs.evo hy : a.eval y = _), Instr.sliceAt, Sem.run_bind, run_underlying hu, Instr.slice, Instr.sliceBounds, A31 hl]
theorem A81 {x y : Operand} {t t' : TypeId} {r s : ByteArray} (hx : evo env x = some (.string r)) (hy : evo env y = some (.string s)) :
  E6 P Γ ⟨env, hp, G⟩ (.binOp .lss t x y t') ty (.bool (decide (Op.bytesLess r.toList s.toList = true))) := by
 refine ⟨fun a _ hs _ _ _ _ w => ?_⟩
 simp only [execOp, eqGuard, binOp, Op.stringOp, (hs.evo hx : a.eval x = _), (hs.evo hy : a.eval y = _)]
 simp
end slaws
theorem B3F (s nm : ByteArray) (G : IM) (hs : s.size ≤ 1000) (hn : nm.size ≤ 1000) :
  Fn Tryz.prog 125 [.string s, .string nm] [] G (fun G' v outs => G' = G ∧ outs = [] ∧ ∃ r, v = .string r ∧ r.size ≤ s.size + nm.size) := by
 refine B6 Tryz.func125 rfl Tryz.ntmps125 Tryz.results125 rfl ?_
 intro w0
 refine J3 ?_
 refine B2 ?_
 (refine J8 (fun (i : Nat) => ⟨[(5, .int .i64 (i : Int)), (0, .string s), (1, .string nm)], [], G⟩) (fun i => i ≤ s.size) (fun i => s.size - i) 0 ?_ ?_ ?_)
 exact C2
 exact Nat.zero_le _
 (intro i hi)
 refine tS (tS (tR (sQ (qM rfl) rfl (sQ (qM rfl) rfl ?_))))
 refine sQ (A0w rfl rfl) rfl (sB (I7 rfl rfl) rfl rfl (fun h23 => ?_) (fun h23 => ?_))
 refine K5 ?_
 refine sP (A0j (n := 1) rfl rfl (by omega)) rfl rfl ?_
 refine sP (A2c (h := i + 1) rfl rfl rfl rfl (by omega) (by omega)) rfl rfl ?_
 refine sQ (qM rfl) rfl ?_
 refine sB (A81 rfl rfl) rfl rfl (fun h31 => ?_) (fun h31 => ?_)
 refine sQ (N4 rfl rfl) rfl (sD (nS (qT rfl (tK (nS ?_)))))
 refine B2 ?_
 refine tR (sQ (qM rfl) rfl ?_)
 refine sP (A0j (n := 1) rfl rfl (by omega)) rfl rfl ?_
 refine sQ (qA rfl) rfl (sD (M2 ?_))
 refine J4 (i + 1) ?_ ?_ ?_
 exact C2
 (show _ ≤ s.size; omega)
 (show s.size - _ < s.size - _; omega)
 refine M5 ?_
 refine sQ (A0w rfl rfl) rfl ?_
 refine sP (A7Q rfl rfl (by omega)) rfl rfl ?_
 refine K5 ?_
 refine sP (A0j (n := 1) rfl rfl (by omega)) rfl rfl ?_
 refine sP (A2c (h := i + 1) rfl rfl rfl rfl (by omega) (by omega)) rfl rfl ?_
 refine sQ (qM rfl) rfl ?_
 refine sB (A2u rfl rfl) rfl rfl (fun h72 => ?_) (fun h72 => ?_)
 refine L4 ?_
 refine E3 (outs := []) (rT rfl) A0.nil ?_
 (exact ⟨rfl, rfl, _, rfl, Nat.le_add_right _ _⟩)
 refine sQ (N4 rfl rfl) rfl (sD (nS (cF rfl (tK (nS (tS ?_))))))
 refine D7 D8 rfl ?_
 refine H4 (i := 0) (l' := [tt,ff,ff,ff,ff,ff,ff,ff,ff,ff]) rfl D3 (qM rfl) rfl (by kernel_rfl) rfl rfl ?_
 refine aP 1 rfl (qM rfl) rfl ?_
 refine aP 2 rfl (A42 rfl rfl rfl (by omega)) rfl ?_
 refine aP 3 rfl (qM rfl) rfl ?_
 refine aP 4 rfl (A0R rfl rfl (by simp only [ByteArray.size_extract, ByteArray.size_append]; omega)) rfl ?_
 refine aP 5 rfl (qM rfl) rfl ?_
 refine aP 6 rfl (qM rfl) rfl ?_
 refine aP 7 rfl (A43 rfl rfl rfl (by omega)) rfl ?_
 refine aP 8 rfl (A0R rfl rfl (by simp only [ByteArray.size_extract, ByteArray.size_append]; omega)) rfl ?_
 refine aP 9 rfl (qA rfl) rfl ?_
 refine B9 (nS (tT ?_))
 refine E3 (outs := []) (rT rfl) A0.nil ?_
 (exact ⟨rfl, rfl, _, rfl, by simp only [ByteArray.size_extract, ByteArray.size_append]; omega⟩)
 refine A0S ?_
 refine sQ (A0w rfl rfl) rfl ?_
 refine sP (A14 rfl rfl (by omega)) rfl rfl ?_
 refine J5 ?_
 refine D7 D8 rfl ?_
 refine H4 (i := 0) (l' := [tt,ff,ff,ff,ff,ff,ff,ff,ff,ff]) rfl D3 (qM rfl) rfl (by kernel_rfl) rfl rfl ?_
 refine aP 1 rfl (qM rfl) rfl ?_
 refine aP 2 rfl (A42 rfl rfl rfl (by omega)) rfl ?_
 refine aP 3 rfl (qM rfl) rfl ?_
 refine aP 4 rfl (A0R rfl rfl (by simp only [ByteArray.size_extract, ByteArray.size_append]; omega)) rfl ?_
 refine aP 5 rfl (qM rfl) rfl ?_
 refine aP 6 rfl (qM rfl) rfl ?_
 refine aP 7 rfl (A43 rfl rfl rfl (by omega)) rfl ?_
 refine aP 8 rfl (A0R rfl rfl (by simp only [ByteArray.size_extract, ByteArray.size_append]; omega)) rfl ?_
 refine aP 9 rfl (qA rfl) rfl ?_
 refine B9 (nS (tT ?_))
 refine E3 (outs := []) (rT rfl) A0.nil ?_
 (exact ⟨rfl, rfl, _, rfl, by simp only [ByteArray.size_extract, ByteArray.size_append]; omega⟩)
theorem A44 (G : IM) : A8 G A5 [.int .i64 0, .slice none 0 0] := by
 simp only [A5, A8]
 exact ⟨none, 0, [], rfl, ⟨by omega, by omega⟩, C0.of (Sl.nil _ _) rfl (by simp) (by simp), by simp [C3]⟩
theorem A6G : I0 A5 = 0 := rfl
theorem F4.tm {G : IM} {k : Int} {nm : ByteArray} {num : Int} {t : Ty} {q : Option Addr} {d : Nat} {ts : List Tm} {es : List (List Value)} {p : Option Addr} {n c : Nat} (h : F4 G ts es) (hn : ts.length = n) (hs : Sl G p n c 9 es.flatten) (hk : C1 k) (hm : C1 num)
  (ht : A8 G t [.int .i64 t.k, .slice q t.ks.length d]) : B5 G (.mk k nm num t A5 0 ts) [.int .i64 k, .string nm, .int .i64 num, .int .i64 t.k, .slice q t.ks.length d, .int .i64 0, .slice none 0 0, .int .i64 0, .slice p n c] := by
 subst hn
 simp only [B5]
 exact ⟨_, _, p, c, es, rfl, hk, hm, ⟨by omega, by omega⟩, ht, A44 G, C0.of hs h.len h.all (fun e he => (h.each e he).2), h⟩
theorem A1p {G : IM} {k : Int} {nm : ByteArray} {num : Int} (hk : C1 k) (hm : C1 num) :
  B5 G (.mk k nm num A5 A5 0 []) [.int .i64 k, .string nm, .int .i64 num, .int .i64 0, .slice none 0 0, .int .i64 0, .slice none 0 0, .int .i64 0, .slice none 0 0] :=
 F4.tm (ts := []) (es := []) (t := A5) (by simp [F4]) rfl (Sl.nil _ _) hk hm (A44 G)
theorem A1T (k : Int) (nm : ByteArray) (num : Int) : A0i (.mk k nm num A5 A5 0 []) = nm.size := by
 rw [A0i, A6G, Y5]; simp
theorem A6H : ∀ (ts : List Tm) (t : Tm), Y5 (ts ++ [t]) = Y5 ts + A0i t
 | [], t => by simp [Y5]
 | a :: ts, t => by simp only [List.cons_append, Y5, A6H ts t]; omega
theorem A32 (k : Int) : D5 k ≤ 3 := by
 unfold D5; repeat (split; omega)
 omega
theorem A6I {d : Nat} (h : d ≤ 2) : dB (d + 1) ≤ 14 := by
 have : d = 0 ∨ d = 1 ∨ d = 2 := by omega
 rcases this with rfl | rfl | rfl <;> decide
theorem A2F (n : Int) (G : IM) : Fn Tryz.prog 100 [.int .i64 n] [] G (J1 (.agg ⟨[.int .i64 2, .string ⟨⟨[]⟩⟩, .int .i64 n, .int .i64 0, .slice none 0 0, .int .i64 0, .slice none 0 0, .int .i64 0, .slice none 0 0]⟩) G) := by
 refine B6 Tryz.func100 rfl Tryz.ntmps100 Tryz.results100 rfl ?_
 intro w0
 refine tS (tR ?_)
 refine sE (B0 rfl) rfl (fun b3 => ?_)
 refine H9 ?_
 refine I6 (rC rfl (A3 rfl rfl)) ?_
 exact ⟨rfl, rfl, rfl⟩
theorem A82 (br : Nat) (pb : Option Addr) (nb cb : Nat) (bs : List UInt8) (hnb : nb ≤ 2000) (p : Nat) (G : IM) (hb : Sl G pb nb cb 1 (O7 bs)) (hp : p + 3 < 1099511627776) (s : ByteArray) (hs : s.size ≤ 1000) :
  Fn Tryz.prog 165 [.pointer (some ⟨br, 0, none⟩), .string s] [rd br pb nb cb p] G
   (A0y br pb nb cb p 3 (fun G' v => ∃ t cells, v = .agg ⟨cells⟩ ∧ B5 G' t cells ∧ A0i t ≤ 1)) := by
 refine B6 Tryz.func165 rfl Tryz.ntmps165 Tryz.results165 rfl ?_
 intro w0
 refine tS (tR ?_)
 refine sE (B0 rfl) rfl (fun b3 => ?_)
 refine sD (nS (tS (tS (tR (sQ (qM rfl) rfl ?_)))))
 refine sQ (A0w rfl rfl) rfl ?_
 refine sB (A0v rfl rfl) rfl rfl (fun h11 => ?_) (fun h11 => ?_)
 refine sQ (qM rfl) rfl (sQ (qM rfl) rfl ?_)
 (refine C6 rfl (Y6 _ br pb nb cb p bs _ hb hnb (by omega)) (Pk.perm (by repeat (first | exact Pk.here | apply Pk.there))) rfl rfl (fun v14 G14 outs14 hle14 hh => ?_); obtain ⟨rfl, rfl, j14, rfl, hj14, hk14⟩ := hh; obtain ⟨i14, rfl⟩ := Int.eq_ofNat_of_zero_le hj14)
 replace hb := hb.mono hle14
 refine sB (A0v rfl rfl) rfl rfl (fun h15 => ?_) (fun h15 => ?_)
 refine E1 ?_
 refine sQ (A0w rfl rfl) rfl ?_
 (refine C6 rfl (Y6 _ br pb nb cb (p + 1) bs _ hb hnb (by omega)) (Pk.perm (by repeat (first | exact Pk.here | apply Pk.there))) rfl rfl (fun v25 G25 outs25 hle25 hh => ?_); obtain ⟨rfl, rfl, j25, rfl, hj25, hk25⟩ := hh; obtain ⟨i25, rfl⟩ := Int.eq_ofNat_of_zero_le hj25)
 replace hb := hb.mono hle25
 refine E1 ?_
 refine sP (A0j (n := 1) rfl rfl (by omega)) rfl rfl ?_
 refine sP (A2c rfl rfl rfl rfl (by omega) (by omega)) rfl rfl ?_
 refine sQ (R6 rfl rfl) rfl (I1 ?_)
 refine sD (nS (tT (rS ?_)))
 refine E3 (outs := [rd br pb nb cb (p + 1 + 1)]) (rC rfl (A3 rfl rfl)) (by repeat (first | exact A0.nil | refine A0.cons Pk.here ?_ | refine A0.cons (Pk.there Pk.here) ?_ | refine A0.cons (Pk.there (Pk.there Pk.here)) ?_ | apply A0.drop)) ?_
 focus (refine ⟨_, ?_, ?_, rfl, _, _, rfl, A1p ⟨by omega, by omega⟩ ⟨by omega, by omega⟩, ?_⟩; all_goals (try rw [A1T]); all_goals (first | omega | (simp only [ByteArray.size_extract]; omega) | decide))
 refine H9 ?_
 (refine C6 rfl (Y6 _ br pb nb cb (p + 1) bs _ hb hnb (by omega)) (Pk.perm (by repeat (first | exact Pk.here | apply Pk.there))) rfl rfl (fun v54 G54 outs54 hle54 hh => ?_); obtain ⟨rfl, rfl, j54, rfl, hj54, hk54⟩ := hh; obtain ⟨i54, rfl⟩ := Int.eq_ofNat_of_zero_le hj54)
 replace hb := hb.mono hle54
 refine sD (nS ?_)
 refine B2 (tS (tR (sB (qE rfl rfl) rfl rfl (fun h60 => ?_) (fun h60 => ?_))))
 refine L7 ?_
 refine E3 (outs := [rd br pb nb cb (p + 1 + 1)]) (rC rfl (A3 rfl rfl)) (by repeat (first | exact A0.nil | refine A0.cons Pk.here ?_ | refine A0.cons (Pk.there Pk.here) ?_ | refine A0.cons (Pk.there (Pk.there Pk.here)) ?_ | apply A0.drop)) ?_
 focus (refine ⟨_, ?_, ?_, rfl, _, _, rfl, A1p ⟨by omega, by omega⟩ ⟨by omega, by omega⟩, ?_⟩; all_goals (try rw [A1T]); all_goals (first | omega | (simp only [ByteArray.size_extract]; omega) | decide))
 refine sQ (qA rfl) rfl (sD (nS (cF rfl (tS (tR ?_)))))
 refine sB (qE rfl rfl) rfl rfl (fun h82 => ?_) (fun h82 => ?_)
 refine L7 ?_
 refine E3 (outs := [rd br pb nb cb (p + 1 + 1)]) (rC rfl (A3 rfl rfl)) (by repeat (first | exact A0.nil | refine A0.cons Pk.here ?_ | refine A0.cons (Pk.there Pk.here) ?_ | refine A0.cons (Pk.there (Pk.there Pk.here)) ?_ | apply A0.drop)) ?_
 focus (refine ⟨_, ?_, ?_, rfl, _, _, rfl, A1p ⟨by omega, by omega⟩ ⟨by omega, by omega⟩, ?_⟩; all_goals (try rw [A1T]); all_goals (first | omega | (simp only [ByteArray.size_extract]; omega) | decide))
 refine H9 ?_
 (refine E9 (B4 rfl rfl rfl (by omega) (by unfold maxLen; omega) rfl) rfl ?_; rintro _ ⟨b108, rfl⟩)
 (refine S9 (by repeat (first | exact Pk.here | apply Pk.there)) (fun Gf hlef hslf _ => ?_); refine C6 rfl (A0o Gf br pb nb cb (p + 1 + 1) bs _ _ _ _ (hb.mono hlef) hnb (by omega) hslf (by decide)) (Pk.perm (by repeat (first | exact Pk.here | apply Pk.there))) rfl rfl (fun v Gn outs hlen hh => ?_); obtain ⟨rfl, rfl, hv⟩ := hh; obtain ⟨kn, rfl, hkn⟩ : ∃ k, v = .int .i64 k ∧ C1 k := (by simp only [List.mem_cons, List.not_mem_nil, or_false] at hv; rcases hv with rfl | rfl | rfl | rfl | rfl | rfl <;> exact ⟨_, rfl, by unfold C1; omega⟩))
 refine H6 rfl ((A2F _ _)) rfl rfl ?_
 refine I1 ?_
 refine sD (nS (tT ?_))
 refine E3 (outs := [rd br pb nb cb (p + 1 + 1 + 1)]) (rC rfl (A3 rfl rfl)) (by repeat (first | exact A0.nil | refine A0.cons Pk.here ?_ | refine A0.cons (Pk.there Pk.here) ?_ | refine A0.cons (Pk.there (Pk.there Pk.here)) ?_ | apply A0.drop)) ?_
 focus (refine ⟨_, ?_, ?_, rfl, _, _, rfl, A1p ⟨by omega, by omega⟩ hkn, ?_⟩; all_goals (try rw [A1T]); all_goals (first | omega | decide))
 refine M5 ?_
 (refine C6 rfl (Y6 _ br pb nb cb p bs _ hb hnb (by omega)) (Pk.perm (by repeat (first | exact Pk.here | apply Pk.there))) rfl rfl (fun v131 G131 outs131 hle131 hh => ?_); obtain ⟨rfl, rfl, j131, rfl, hj131, hk131⟩ := hh; obtain ⟨i131, rfl⟩ := Int.eq_ofNat_of_zero_le hj131)
 replace hb := hb.mono hle131
 refine sD (nS ?_)
 refine B2 (tS (tR (sB (qE rfl rfl) rfl rfl (fun h137 => ?_) (fun h137 => ?_))))
 refine L7 ?_
 refine E3 (outs := [rd br pb nb cb (p + 1)]) (rC rfl (A3 rfl rfl)) (by repeat (first | exact A0.nil | refine A0.cons Pk.here ?_ | refine A0.cons (Pk.there Pk.here) ?_ | refine A0.cons (Pk.there (Pk.there Pk.here)) ?_ | apply A0.drop)) ?_
 focus (refine ⟨_, ?_, ?_, rfl, _, _, rfl, A1p ⟨by omega, by omega⟩ ⟨by omega, by omega⟩, ?_⟩; all_goals (try rw [A1T]); all_goals (first | omega | (simp only [ByteArray.size_extract]; omega) | decide))
 refine sQ (qA rfl) rfl (sD (nS (cF rfl (tS (tR ?_)))))
 refine sB (qE rfl rfl) rfl rfl (fun h159 => ?_) (fun h159 => ?_)
 refine L7 ?_
 refine E3 (outs := [rd br pb nb cb (p + 1)]) (rC rfl (A3 rfl rfl)) (by repeat (first | exact A0.nil | refine A0.cons Pk.here ?_ | refine A0.cons (Pk.there Pk.here) ?_ | refine A0.cons (Pk.there (Pk.there Pk.here)) ?_ | apply A0.drop)) ?_
 focus (refine ⟨_, ?_, ?_, rfl, _, _, rfl, A1p ⟨by omega, by omega⟩ ⟨by omega, by omega⟩, ?_⟩; all_goals (try rw [A1T]); all_goals (first | omega | (simp only [ByteArray.size_extract]; omega) | decide))
 refine H9 ?_
 (refine E9 (B4 rfl rfl rfl (by omega) (by unfold maxLen; omega) rfl) rfl ?_; rintro _ ⟨b185, rfl⟩)
 (refine S9 (by repeat (first | exact Pk.here | apply Pk.there)) (fun Gf hlef hslf _ => ?_); refine C6 rfl (A0o Gf br pb nb cb (p + 1) bs _ _ _ _ (hb.mono hlef) hnb (by omega) hslf (by decide)) (Pk.perm (by repeat (first | exact Pk.here | apply Pk.there))) rfl rfl (fun v Gn outs hlen hh => ?_); obtain ⟨rfl, rfl, hv⟩ := hh; obtain ⟨kn, rfl, hkn⟩ : ∃ k, v = .int .i64 k ∧ C1 k := (by simp only [List.mem_cons, List.not_mem_nil, or_false] at hv; rcases hv with rfl | rfl | rfl | rfl | rfl | rfl <;> exact ⟨_, rfl, by unfold C1; omega⟩))
 refine H6 rfl ((A2F _ _)) rfl rfl ?_
 refine I1 ?_
 refine sD (nS (tT ?_))
 refine E3 (outs := [rd br pb nb cb (p + 1 + 1)]) (rC rfl (A3 rfl rfl)) (by repeat (first | exact A0.nil | refine A0.cons Pk.here ?_ | refine A0.cons (Pk.there Pk.here) ?_ | refine A0.cons (Pk.there (Pk.there Pk.here)) ?_ | apply A0.drop)) ?_
 focus (refine ⟨_, ?_, ?_, rfl, _, _, rfl, A1p ⟨by omega, by omega⟩ hkn, ?_⟩; all_goals (try rw [A1T]); all_goals (first | omega | decide))
def tB : Nat → Nat
 | 0 => 3
 | d + 1 => 3 * tB d + 20
theorem A83 (d : Nat) : 3 ≤ tB d := by cases d <;> simp only [tB] <;> omega
theorem A84 (br : Nat) (pb : Option Addr) (nb cb : Nat) (bs : List UInt8) (hnb : nb ≤ 2000) : ∀ (d p : Nat) (G : IM) (s : ByteArray), d ≤ 900 → s.size + d ≤ 950 → Sl G pb nb cb 1 (O7 bs) → p + tB d < 1099511627776 →
  Fn Tryz.prog 98 [.pointer (some ⟨br, 0, none⟩), .string s, .int .i64 ((d + 1 : Nat) : Int)] [rd br pb nb cb p] G
   (A0y br pb nb cb p (tB d) (fun G' v => ∃ t cells, v = .agg ⟨cells⟩ ∧ B5 G' t cells ∧ A0i t ≤ ((tB d : Nat) : Int))) := by
 refine fun d => Nat.strongRecOn d fun d ih p G s hd hs hb hp => ?_
 have hge := A83 d
 refine B6 Tryz.func98 rfl Tryz.ntmps98 Tryz.results98 rfl ?_
 intro w0
 refine tS (tR ?_)
 refine sE (B0 rfl) rfl (fun b3 => ?_)
 refine sD (nS (tS (tS (tR (sQ (qM rfl) rfl ?_)))))
 refine sB (I7 rfl rfl) rfl rfl (fun h10 => ?_) (fun h10 => ?_)
 ·refine L4 ?_
  (refine C6 rfl (A82 br pb nb cb bs hnb p _ hb (by omega) s (by omega)) (Pk.perm (by repeat (first | exact Pk.here | apply Pk.there))) rfl rfl (fun v Ga outs hlea hh => ?_); obtain ⟨pa, hpa1, hpa2, rfl, ta, cellsa, rfl, hra, hsa⟩ := hh; have hl9 := hra.len; have ho9 := hra.one)
  refine sS rfl rfl rfl hl9 ho9 rfl ?_ (hu := by exact O5 hl9.symm)
  refine sD (nS (tT (rS ?_)))
  refine E3 (outs := [rd br pb nb cb pa]) (rC rfl (A6 rfl rfl (H0 (by repeat first | exact mH | apply mT)) hl9)) (by repeat (first | exact A0.nil | refine A0.cons Pk.here ?_ | refine A0.cons (Pk.there Pk.here) ?_ | refine A0.cons (Pk.there (Pk.there Pk.here)) ?_ | apply A0.drop)) ?_
  (exact ⟨pa, by omega, by omega, rfl, ta, cellsa, rfl, hra, by omega⟩)
 ·refine sQ (qM rfl) rfl (sQ (qM rfl) rfl ?_)
  (have hB4 : 4 ≤ tB d := (by obtain ⟨d1, rfl⟩ : ∃ d1, d = d1 + 1 := ⟨d - 1, by omega⟩; simp only [tB]; have := A83 d1; omega); refine C6 rfl (Y6 _ br pb nb cb p bs _ hb hnb (by omega)) (Pk.perm (by repeat (first | exact Pk.here | apply Pk.there))) rfl rfl (fun v33 G33 outs33 hle33 hh => ?_); obtain ⟨rfl, rfl, j33, rfl, hj33, hk33⟩ := hh)
  replace hb := hb.mono hle33
  refine sB (qE rfl rfl) rfl rfl (fun h34 => ?_) (fun h34 => ?_)
  ·refine E1 ?_
   (refine C6 rfl (A82 br pb nb cb bs hnb (p + 1) _ hb (by omega) s (by omega)) (Pk.perm (by repeat (first | exact Pk.here | apply Pk.there))) rfl rfl (fun v Ga outs hlea hh => ?_); obtain ⟨pa, hpa1, hpa2, rfl, ta, cellsa, rfl, hra, hsa⟩ := hh; have hl9 := hra.len; have ho9 := hra.one)
   refine sS rfl rfl rfl hl9 ho9 rfl ?_ (hu := by exact O5 hl9.symm)
   refine sD (nS (tT (rS ?_)))
   refine E3 (outs := [rd br pb nb cb pa]) (rC rfl (A6 rfl rfl (H0 (by repeat first | exact mH | apply mT)) hl9)) (by repeat (first | exact A0.nil | refine A0.cons Pk.here ?_ | refine A0.cons (Pk.there Pk.here) ?_ | refine A0.cons (Pk.there (Pk.there Pk.here)) ?_ | apply A0.drop)) ?_
   (exact ⟨pa, by omega, by omega, rfl, ta, cellsa, rfl, hra, by omega⟩)
  ·refine E8 ?_
   (refine E9 (B4 rfl rfl rfl (by omega) (by unfold maxLen; omega) rfl) rfl ?_; rintro _ ⟨b60, rfl⟩)
   (refine S9 (by repeat (first | exact Pk.here | apply Pk.there)) (fun Gf hlef hslf _ => ?_); refine C6 rfl (A0o Gf br pb nb cb (p + 1) bs _ _ _ _ (hb.mono hlef) hnb (by omega) hslf (by decide)) (Pk.perm (by repeat (first | exact Pk.here | apply Pk.there))) rfl rfl (fun v Gk outs hlek hh => ?_); obtain ⟨rfl, rfl, hv⟩ := hh; replace hb := hb.mono hlef; obtain ⟨k, rfl, hk1, hk2⟩ : ∃ k, v = .int .i64 k ∧ 5 ≤ k ∧ k ≤ 13 := (by simp only [List.mem_cons, List.not_mem_nil, or_false] at hv; rcases hv with rfl | rfl | rfl | rfl | rfl | rfl | rfl | rfl | rfl | rfl | rfl <;> exact ⟨_, rfl, by decide, by decide⟩); obtain ⟨d1, rfl⟩ : ∃ d1, d = d1 + 1 := ⟨d - 1, by omega⟩; have hB : tB (d1 + 1) = 3 * tB d1 + 20 := rfl)
   refine C5 ?_
   refine sE (B0 rfl) rfl (fun b69 => ?_)
   refine I1 ?_
   refine sD (nS (tS (tS (tR (sQ (qM rfl) rfl ?_)))))
   refine sB (qE rfl rfl) rfl rfl (fun h77 => ?_) (fun h77 => ?_)
   ·refine sD (nS ?_)
    (show H5 _ _ (.cond (.tmp 26) _ _) _ _; refine A0n (fun (x : ByteArray × ByteArray × Nat × IM) => ⟨[(7, .int .i64 k), (8, .pointer (some ⟨b69, 0, none⟩)), (6, .pointer (some ⟨b3, 0, none⟩)), (0, .pointer (some ⟨br, 0, none⟩)), (1, .string x.2.1), (2, .int .i64 ((d1 + 1 + 1 : Nat) : Int))], [.blk b69 [.int .i64 k, .string x.1, .int .i64 0, .int .i64 0, .slice none 0 0, .int .i64 0, .slice none 0 0, .int .i64 0, .slice none 0 0], .blk b3 [.int .i64 0, .string ⟨⟨[]⟩⟩, .int .i64 0, .int .i64 0, .slice none 0 0, .int .i64 0, .slice none 0 0, .int .i64 0, .slice none 0 0], rd br pb nb cb x.2.2.1], x.2.2.2⟩) (fun x => A7 Gk x.2.2.2 ∧ x.1.size ≤ 1 ∧ x.2.1.size ≤ s.size + 1 ∧ p + 2 ≤ x.2.2.1 ∧ x.2.2.1 ≤ p + 3) ?_ ?_)
    ·refine qT rfl (tS (tR (sQ (qM rfl) rfl ?_)))
     (refine E9 (B4 rfl rfl rfl (by omega) (by unfold maxLen; omega) rfl) rfl ?_; rintro _ ⟨b85, rfl⟩)
     (refine S9 (by repeat (first | exact Pk.here | apply Pk.there)) (fun Gf2 hlef2 hslf2 _ => ?_); refine C6 rfl (A6B Gf2 br pb nb cb (p + 1 + 1) bs _ _ _ _ (hb.mono hlef2) hnb (by omega) hslf2 (by decide)) (Pk.perm (by repeat (first | exact Pk.here | apply Pk.there))) rfl rfl (fun v Go outs hleo hh => ?_); obtain ⟨rfl, rfl, hv2⟩ := hh; obtain ⟨nmA, rfl, hnA⟩ : ∃ nm, v = .string nm ∧ nm.size ≤ 1 := (by simp only [List.mem_cons, List.not_mem_nil, or_false] at hv2; rcases hv2 with rfl | rfl | rfl | rfl <;> exact ⟨_, rfl, by decide⟩))
     refine E1 ?_
     (refine A3H rfl (B3F s nmA _ (by omega) (by omega)) rfl rfl (fun v Ga outs hlea hh => ?_); obtain ⟨rfl, rfl, sA, rfl, hsA⟩ := hh)
     refine sQ (qA rfl) rfl (sD ?_)
     refine P6 (nmA, sA, p + 1 + 1 + 1, Ga) (M4 (by repeat (first | exact C8.nil | refine C8.cons rfl ?_)) (by repeat (first | exact A0.refl | exact A0.nil | refine A0.cons (by repeat (first | exact Pk.here | apply Pk.there)) ?_ | apply A0.drop))) ?_
     (dsimp only; exact ⟨hlef2, hnA, by omega, by omega, by omega⟩)
    ·(rintro ⟨(nm : ByteArray), s', p1, G1⟩ ⟨hleA, hnm, hss, hpA, hpB⟩; simp only [] at hleA hnm hss hpA hpB ⊢; replace hb := hb.mono hleA; have hmark := hleA)
     refine tS (tS ?_)
     (have hm' := hmark; refine A0n (fun (x : Bool) => ⟨(40, .bool x) :: [(7, .int .i64 k), (8, .pointer (some ⟨b69, 0, none⟩)), (6, .pointer (some ⟨b3, 0, none⟩)), (0, .pointer (some ⟨br, 0, none⟩)), (1, .string s'), (2, .int .i64 ((d1 + 1 + 1 : Nat) : Int))], [.blk b69 [.int .i64 k, .string nm, .int .i64 0, .int .i64 0, .slice none 0 0, .int .i64 0, .slice none 0 0, .int .i64 0, .slice none 0 0], .blk b3 [.int .i64 0, .string ⟨⟨[]⟩⟩, .int .i64 0, .int .i64 0, .slice none 0 0, .int .i64 0, .slice none 0 0, .int .i64 0, .slice none 0 0], rd br pb nb cb p1], G1⟩) (fun x => True) ?_ ?_)
     ·refine tR (sQ (qM rfl) rfl ?_)
      refine sP (A1i rfl rfl (by omega)) rfl rfl ?_
      refine W1 ?_
      refine P6 true (M4 (by repeat (first | exact C8.nil | refine C8.cons rfl ?_)) (by repeat (first | exact A0.refl | exact A0.nil | refine A0.cons (by repeat (first | exact Pk.here | apply Pk.there)) ?_ | apply A0.drop))) ?_
      trivial
     ·(rintro x _; clear hmark)
      (show H5 _ _ (.cond (.tmp 40) _ _) _ _; refine A0n (fun (x : Ty × Option Addr × Nat × Nat × IM) => ⟨[(7, .int .i64 k), (8, .pointer (some ⟨b69, 0, none⟩)), (6, .pointer (some ⟨b3, 0, none⟩)), (0, .pointer (some ⟨br, 0, none⟩)), (1, .string s'), (2, .int .i64 ((d1 + 1 + 1 : Nat) : Int))], [.blk b69 [.int .i64 k, .string nm, .int .i64 0, .int .i64 x.1.k, .slice x.2.1 x.1.ks.length x.2.2.1, .int .i64 0, .slice none 0 0, .int .i64 0, .slice none 0 0], .blk b3 [.int .i64 0, .string ⟨⟨[]⟩⟩, .int .i64 0, .int .i64 0, .slice none 0 0, .int .i64 0, .slice none 0 0, .int .i64 0, .slice none 0 0], rd br pb nb cb x.2.2.2.1], x.2.2.2.2⟩) (fun x => A7 G1 x.2.2.2.2 ∧ A8 x.2.2.2.2 x.1 [.int .i64 x.1.k, .slice x.2.1 x.1.ks.length x.2.2.1] ∧ I0 x.1 ≤ 14 ∧ p1 ≤ x.2.2.2.1 ∧ x.2.2.2.1 ≤ p1 + 15) (A3w rfl (fun hxt => ?_) (fun hxf => ?_)) ?_)
      ·refine tR (sQ (qM rfl) rfl (sQ (qM rfl) rfl ?_))
       (refine E9 (B4 rfl rfl rfl (by omega) (by unfold maxLen; omega) rfl) rfl ?_; rintro _ ⟨b119, rfl⟩)
       (refine S9 (by repeat (first | exact Pk.here | apply Pk.there)) (fun Gf hlef3 hslf _ => ?_); refine C6 rfl (A0o Gf br pb nb cb p1 bs _ _ _ _ (hb.mono hlef3) hnb (by omega) hslf (by decide)) (Pk.perm (by repeat (first | exact Pk.here | apply Pk.there))) rfl rfl (fun v Gn outs hlen hh => ?_); obtain ⟨rfl, rfl, hv⟩ := hh; replace hb := hb.mono hlef3; obtain ⟨dd, rfl, hdd⟩ : ∃ d : Nat, v = .int .i64 ((d + 1 : Nat) : Int) ∧ d ≤ 2 := (by simp only [List.mem_cons, List.not_mem_nil, or_false] at hv; rcases hv with rfl | rfl | rfl | rfl <;> first | exact ⟨0, rfl, by decide⟩ | exact ⟨1, rfl, by decide⟩ | exact ⟨2, rfl, by decide⟩))
       (have hdB := A6I hdd; refine C6 rfl (A8U br pb nb cb bs hnb dd (p1 + 1) _ (by omega) hb (by omega)) (Pk.perm (by repeat (first | exact Pk.here | apply Pk.there))) rfl rfl (fun v G3 outs hle3 hh => ?_); obtain ⟨p3, hp31, hp32, rfl, t3, cells3, rfl, hr3, hs3⟩ := hh; obtain ⟨q3, c3, es3, rfl, _⟩ := hr3.open)
       refine sQ (B1 rfl) rfl (I1 ?_)
       refine sD ?_
       refine P6 (t3, q3, c3, p3, G3) (M4 (by repeat (first | exact C8.nil | refine C8.cons rfl ?_)) (by repeat (first | exact A0.refl | exact A0.nil | refine A0.cons (by repeat (first | exact Pk.here | apply Pk.there)) ?_ | apply A0.drop))) ?_
       (dsimp only; exact ⟨hlef3.trans hle3, hr3, by omega, by omega, by omega⟩)
      ·refine tK ?_
       refine P6 (A5, none, 0, p1, G1) (M4 (by repeat (first | exact C8.nil | refine C8.cons rfl ?_)) (by repeat (first | exact A0.refl | exact A0.nil | refine A0.cons (by repeat (first | exact Pk.here | apply Pk.there)) ?_ | apply A0.drop))) ?_
       (dsimp only; exact ⟨A7.refl _, A44 _, by decide, by omega, by omega⟩)
      ·(rintro ⟨(t' : Ty), q', c', p2, G2⟩ ⟨hleB, hrB, hsB, hpC, hpD⟩; simp only [] at hleB hrB hsB hpC hpD ⊢; replace hb := hb.mono hleB; have hop := A32 k; have hK := A6j k)
       refine tS (tS (tR (sQ (qA rfl) rfl (sD (nS ?_)))))
       refine B2 ?_
       (refine W9 28 9 ?_; refine J8 (fun (x : Nat × Option Addr × Nat × List Tm × List (List Value) × Nat × IM) => ⟨[(9, .int .i64 x.1), (7, .int .i64 k), (8, .pointer (some ⟨b69, 0, none⟩)), (6, .pointer (some ⟨b3, 0, none⟩)), (0, .pointer (some ⟨br, 0, none⟩)), (1, .string s'), (2, .int .i64 ((d1 + 1 + 1 : Nat) : Int))], [.blk b69 [.int .i64 k, .string nm, .int .i64 0, .int .i64 t'.k, .slice q' t'.ks.length c', .int .i64 0, .slice none 0 0, .int .i64 0, .slice x.2.1 x.1 x.2.2.1], .slc x.2.1 x.2.2.1 28 9 x.1 x.2.2.2.2.1.flatten, rd br pb nb cb x.2.2.2.2.2.1, .blk b3 [.int .i64 0, .string ⟨⟨[]⟩⟩, .int .i64 0, .int .i64 0, .slice none 0 0, .int .i64 0, .slice none 0 0, .int .i64 0, .slice none 0 0]], x.2.2.2.2.2.2⟩) (fun x => ((x.1 : Int) ≤ D5 k ∨ x.1 = 0) ∧ A7 G2 x.2.2.2.2.2.2 ∧ x.2.2.2.1.length = x.1 ∧ F4 x.2.2.2.2.2.2 x.2.2.2.1 x.2.2.2.2.1 ∧ Y5 x.2.2.2.1 ≤ ((x.1 * tB d1 : Nat) : Int) ∧ p2 ≤ x.2.2.2.2.2.1 ∧ x.2.2.2.2.2.1 ≤ p2 + x.1 * tB d1) (fun x => (D5 k).toNat - x.1) (0, none, 0, [], [], p2, G2) ?_ ?_ ?_)
       ·(simp only [E7]; exact C2)
       ·(exact ⟨.inr rfl, A7.refl _, rfl, by simp [F4], by simp [Y5], by dsimp only; omega, by dsimp only; omega⟩)
       ·(rintro ⟨i, pn, cn, ts, es', p', Gi⟩ ⟨hi, hle, hlt, hst, hsum, hq1, hq2⟩; simp only [] at hi hle hlt hst hsum hq1 hq2 ⊢; have hid : i * tB d1 ≤ 3 * tB d1 := Nat.mul_le_mul_right _ (by omega))
        refine tS (tS (tR (sQ (qM rfl) rfl (sQ (qM rfl) rfl ?_))))
        refine H6 rfl ((hK _)) rfl rfl ?_
        refine sB (I7 rfl rfl) rfl rfl (fun h148 => ?_) (fun h148 => ?_)
        ·refine sD (nS (qT rfl (tK (nS (tS ?_)))))
         refine B2 ?_
         (have hih := ih d1 (by omega) p' Gi s' (by omega) (by omega) (hb.mono hle) (by have := Nat.mul_le_mul_right (tB d1) (show i + 1 ≤ 3 by omega); rw [Nat.succ_mul] at this; omega); refine D7 D8 rfl ?_)
         refine H4 (i := 0) (l' := [tt,ff,ff,ff,ff,ff,ff,ff,ff,ff,ff]) rfl D3 (B1 rfl) rfl (by kernel_rfl) rfl rfl ?_
         refine aL 1 rfl (D4 rfl rfl) rfl ?_
         refine aP 2 rfl (qM rfl) rfl ?_
         refine aP 3 rfl (qM rfl) rfl ?_
         refine aP 4 rfl (qM rfl) rfl ?_
         refine aP 5 rfl (A4M rfl rfl (by omega)) rfl ?_
         refine A2 6 ?_
         (refine A0a (l' := [tt,tt,tt,tt,tt,tt,tt,ff,ff,ff,ff]) rfl rfl hih (Pk.perm (by repeat (first | exact Pk.here | apply Pk.there))) rfl rfl rfl (by repeat (first | exact A4.nil | apply A4.dep (by decide +kernel) | apply A4.blk (by decide +kernel) (by repeat (first | exact Pk.here | apply Pk.there)) (by repeat first | exact mH | apply mT))) (fun v G3 outs hle3 hh => ?_); obtain ⟨p3, hp31, hp32, rfl, t3, cells3, rfl, hr3, hs3⟩ := hh; obtain ⟨qt, dt, et, qf, df, ef, q3, d3, es3, rfl, _⟩ := hr3.open)
         refine A2 7 ?_
         (refine D6 rfl (B4 rfl rfl rfl (by omega) (by unfold maxLen; omega) rfl) rfl rfl ?_; rintro _ ⟨b166, rfl⟩)
         refine A2 8 ?_
         refine Q9 rfl rfl rfl rfl rfl rfl (fun _ _ => by repeat (first | exact Sw.here | apply Sw.there)) (J9 (by repeat first | exact mH | apply mT)) rfl (by simp [Value.oneCell']) (by unfold maxLen; omega) (by omega) rfl rfl (by repeat (first | exact A4.nil | apply A4.dep (by decide +kernel) | apply A4.blk (by decide +kernel) (by repeat (first | exact Pk.here | apply Pk.there)) (by repeat first | exact mH | apply mT))) (fun pn' cn' => ?_)
         refine aP 9 rfl (B1 rfl) rfl ?_
         refine A2 10 ?_
         refine R2 rfl rfl rfl rfl rfl rfl rfl rfl (by kernel_rfl) (by repeat first | exact Sw.here | apply Sw.there) (by rfl) ?_
         refine B9 (M2 (nS (tR (sQ (qM rfl) rfl ?_))))
         refine sP (H2 rfl rfl (by omega) (by omega)) rfl rfl ?_
         refine sQ (qA rfl) rfl (sD ?_)
         refine J4 (i + 1, pn', cn', ts ++ [t3], es' ++ [[.int .i64 t3.k, .string t3.nm, .int .i64 t3.num, .int .i64 t3.ty.k, .slice qt t3.ty.ks.length dt, .int .i64 t3.fr.k, .slice qf t3.fr.ks.length df, .int .i64 t3.lb, .slice q3 t3.ks.length d3]], p3, G3) ?_ ?_ ?_
         ·(simp only [E7]; exact C2)
         ·(dsimp only; have e1 : (i + 1) * tB d1 = i * tB d1 + tB d1 := Nat.succ_mul _ _; have e2 := A6H ts t3; exact ⟨.inl (by omega), hle.trans hle3, by simp [hlt], F4.snoc (hst.mono hle3) hr3, by omega, by omega, by omega⟩)
         ·(show (D5 k).toNat - (i + 1) < (D5 k).toNat - i; omega)
        ·refine M5 ?_
         (refine I5 (by repeat (first | exact Pk.here | apply Pk.there)) (fun G5 hle5 hsl5 hno5 => ?_))
         refine tT ?_
         refine E3 (outs := [rd br pb nb cb p']) (rC rfl (A3 rfl rfl)) (by repeat (first | exact A0.nil | refine A0.cons Pk.here ?_ | refine A0.cons (Pk.there Pk.here) ?_ | refine A0.cons (Pk.there (Pk.there Pk.here)) ?_ | apply A0.drop)) ?_
         (refine ⟨p', by omega, by omega, rfl, .mk k nm 0 t' A5 0 ts, _, rfl, (hst.mono hle5).tm hlt hsl5 ⟨by omega, by omega⟩ ⟨by omega, by omega⟩ (hrB.mono (hle.trans hle5)), ?_⟩; rw [A0i, A6G]; omega)
   ·refine sD (nS ?_)
    (show H5 _ _ (.cond (.tmp 26) _ _) _ _; refine A0n (fun (x : ByteArray × ByteArray × Nat × IM) => ⟨[(7, .int .i64 k), (8, .pointer (some ⟨b69, 0, none⟩)), (6, .pointer (some ⟨b3, 0, none⟩)), (0, .pointer (some ⟨br, 0, none⟩)), (1, .string x.2.1), (2, .int .i64 ((d1 + 1 + 1 : Nat) : Int))], [.blk b69 [.int .i64 k, .string x.1, .int .i64 0, .int .i64 0, .slice none 0 0, .int .i64 0, .slice none 0 0, .int .i64 0, .slice none 0 0], .blk b3 [.int .i64 0, .string ⟨⟨[]⟩⟩, .int .i64 0, .int .i64 0, .slice none 0 0, .int .i64 0, .slice none 0 0, .int .i64 0, .slice none 0 0], rd br pb nb cb x.2.2.1], x.2.2.2⟩) (fun x => A7 Gk x.2.2.2 ∧ x.1.size ≤ 1 ∧ x.2.1.size ≤ s.size + 1 ∧ p + 2 ≤ x.2.2.1 ∧ x.2.2.1 ≤ p + 3) ?_ ?_)
    ·refine cF rfl (tK ?_)
     refine P6 (⟨⟨[]⟩⟩, s, p + 1 + 1, Gk) (M4 (by repeat (first | exact C8.nil | refine C8.cons rfl ?_)) (by repeat (first | exact A0.refl | exact A0.nil | refine A0.cons (by repeat (first | exact Pk.here | apply Pk.there)) ?_ | apply A0.drop))) ?_
     (dsimp only; exact ⟨A7.refl _, by decide, by omega, by omega, by omega⟩)
    ·(rintro ⟨(nm : ByteArray), s', p1, G1⟩ ⟨hleA, hnm, hss, hpA, hpB⟩; simp only [] at hleA hnm hss hpA hpB ⊢; replace hb := hb.mono hleA; have hmark := hleA)
     refine tS (tS ?_)
     (have hm' := hmark; refine A0n (fun (x : Bool) => ⟨(40, .bool x) :: [(7, .int .i64 k), (8, .pointer (some ⟨b69, 0, none⟩)), (6, .pointer (some ⟨b3, 0, none⟩)), (0, .pointer (some ⟨br, 0, none⟩)), (1, .string s'), (2, .int .i64 ((d1 + 1 + 1 : Nat) : Int))], [.blk b69 [.int .i64 k, .string nm, .int .i64 0, .int .i64 0, .slice none 0 0, .int .i64 0, .slice none 0 0, .int .i64 0, .slice none 0 0], .blk b3 [.int .i64 0, .string ⟨⟨[]⟩⟩, .int .i64 0, .int .i64 0, .slice none 0 0, .int .i64 0, .slice none 0 0, .int .i64 0, .slice none 0 0], rd br pb nb cb p1], G1⟩) (fun x => True) ?_ ?_)
     ·refine tR (sQ (qM rfl) rfl ?_)
      refine sP (K9 rfl rfl (by omega)) rfl rfl ?_
      refine sQ (qM rfl) rfl (sQ (qM rfl) rfl ?_)
      refine sB (qE rfl rfl) rfl rfl (fun h218 => ?_) (fun h218 => ?_)
      ·refine sQ (S2 rfl rfl) rfl (sD ?_)
       refine P6 true (M4 (by repeat (first | exact C8.nil | refine C8.cons rfl ?_)) (by repeat (first | exact A0.refl | exact A0.nil | refine A0.cons (by repeat (first | exact Pk.here | apply Pk.there)) ?_ | apply A0.drop))) ?_
       trivial
      ·refine sQ (S2 rfl rfl) rfl (sD ?_)
       refine P6 false (M4 (by repeat (first | exact C8.nil | refine C8.cons rfl ?_)) (by repeat (first | exact A0.refl | exact A0.nil | refine A0.cons (by repeat (first | exact Pk.here | apply Pk.there)) ?_ | apply A0.drop))) ?_
       trivial
     ·(rintro x _; clear hmark)
      (show H5 _ _ (.cond (.tmp 40) _ _) _ _; refine A0n (fun (x : Ty × Option Addr × Nat × Nat × IM) => ⟨[(7, .int .i64 k), (8, .pointer (some ⟨b69, 0, none⟩)), (6, .pointer (some ⟨b3, 0, none⟩)), (0, .pointer (some ⟨br, 0, none⟩)), (1, .string s'), (2, .int .i64 ((d1 + 1 + 1 : Nat) : Int))], [.blk b69 [.int .i64 k, .string nm, .int .i64 0, .int .i64 x.1.k, .slice x.2.1 x.1.ks.length x.2.2.1, .int .i64 0, .slice none 0 0, .int .i64 0, .slice none 0 0], .blk b3 [.int .i64 0, .string ⟨⟨[]⟩⟩, .int .i64 0, .int .i64 0, .slice none 0 0, .int .i64 0, .slice none 0 0, .int .i64 0, .slice none 0 0], rd br pb nb cb x.2.2.2.1], x.2.2.2.2⟩) (fun x => A7 G1 x.2.2.2.2 ∧ A8 x.2.2.2.2 x.1 [.int .i64 x.1.k, .slice x.2.1 x.1.ks.length x.2.2.1] ∧ I0 x.1 ≤ 14 ∧ p1 ≤ x.2.2.2.1 ∧ x.2.2.2.1 ≤ p1 + 15) (A3w rfl (fun hxt => ?_) (fun hxf => ?_)) ?_)
      ·refine tR (sQ (qM rfl) rfl (sQ (qM rfl) rfl ?_))
       (refine E9 (B4 rfl rfl rfl (by omega) (by unfold maxLen; omega) rfl) rfl ?_; rintro _ ⟨b232, rfl⟩)
       (refine S9 (by repeat (first | exact Pk.here | apply Pk.there)) (fun Gf hlef3 hslf _ => ?_); refine C6 rfl (A0o Gf br pb nb cb p1 bs _ _ _ _ (hb.mono hlef3) hnb (by omega) hslf (by decide)) (Pk.perm (by repeat (first | exact Pk.here | apply Pk.there))) rfl rfl (fun v Gn outs hlen hh => ?_); obtain ⟨rfl, rfl, hv⟩ := hh; replace hb := hb.mono hlef3; obtain ⟨dd, rfl, hdd⟩ : ∃ d : Nat, v = .int .i64 ((d + 1 : Nat) : Int) ∧ d ≤ 2 := (by simp only [List.mem_cons, List.not_mem_nil, or_false] at hv; rcases hv with rfl | rfl | rfl | rfl <;> first | exact ⟨0, rfl, by decide⟩ | exact ⟨1, rfl, by decide⟩ | exact ⟨2, rfl, by decide⟩))
       (have hdB := A6I hdd; refine C6 rfl (A8U br pb nb cb bs hnb dd (p1 + 1) _ (by omega) hb (by omega)) (Pk.perm (by repeat (first | exact Pk.here | apply Pk.there))) rfl rfl (fun v G3 outs hle3 hh => ?_); obtain ⟨p3, hp31, hp32, rfl, t3, cells3, rfl, hr3, hs3⟩ := hh; obtain ⟨q3, c3, es3, rfl, _⟩ := hr3.open)
       refine sQ (B1 rfl) rfl (I1 ?_)
       refine sD ?_
       refine P6 (t3, q3, c3, p3, G3) (M4 (by repeat (first | exact C8.nil | refine C8.cons rfl ?_)) (by repeat (first | exact A0.refl | exact A0.nil | refine A0.cons (by repeat (first | exact Pk.here | apply Pk.there)) ?_ | apply A0.drop))) ?_
       (dsimp only; exact ⟨hlef3.trans hle3, hr3, by omega, by omega, by omega⟩)
      ·refine tK ?_
       refine P6 (A5, none, 0, p1, G1) (M4 (by repeat (first | exact C8.nil | refine C8.cons rfl ?_)) (by repeat (first | exact A0.refl | exact A0.nil | refine A0.cons (by repeat (first | exact Pk.here | apply Pk.there)) ?_ | apply A0.drop))) ?_
       (dsimp only; exact ⟨A7.refl _, A44 _, by decide, by omega, by omega⟩)
      ·(rintro ⟨(t' : Ty), q', c', p2, G2⟩ ⟨hleB, hrB, hsB, hpC, hpD⟩; simp only [] at hleB hrB hsB hpC hpD ⊢; replace hb := hb.mono hleB; have hop := A32 k; have hK := A6j k)
       refine tS (tS (tR (sQ (qA rfl) rfl (sD (nS ?_)))))
       refine B2 ?_
       (refine W9 28 9 ?_; refine J8 (fun (x : Nat × Option Addr × Nat × List Tm × List (List Value) × Nat × IM) => ⟨[(9, .int .i64 x.1), (7, .int .i64 k), (8, .pointer (some ⟨b69, 0, none⟩)), (6, .pointer (some ⟨b3, 0, none⟩)), (0, .pointer (some ⟨br, 0, none⟩)), (1, .string s'), (2, .int .i64 ((d1 + 1 + 1 : Nat) : Int))], [.blk b69 [.int .i64 k, .string nm, .int .i64 0, .int .i64 t'.k, .slice q' t'.ks.length c', .int .i64 0, .slice none 0 0, .int .i64 0, .slice x.2.1 x.1 x.2.2.1], .slc x.2.1 x.2.2.1 28 9 x.1 x.2.2.2.2.1.flatten, rd br pb nb cb x.2.2.2.2.2.1, .blk b3 [.int .i64 0, .string ⟨⟨[]⟩⟩, .int .i64 0, .int .i64 0, .slice none 0 0, .int .i64 0, .slice none 0 0, .int .i64 0, .slice none 0 0]], x.2.2.2.2.2.2⟩) (fun x => ((x.1 : Int) ≤ D5 k ∨ x.1 = 0) ∧ A7 G2 x.2.2.2.2.2.2 ∧ x.2.2.2.1.length = x.1 ∧ F4 x.2.2.2.2.2.2 x.2.2.2.1 x.2.2.2.2.1 ∧ Y5 x.2.2.2.1 ≤ ((x.1 * tB d1 : Nat) : Int) ∧ p2 ≤ x.2.2.2.2.2.1 ∧ x.2.2.2.2.2.1 ≤ p2 + x.1 * tB d1) (fun x => (D5 k).toNat - x.1) (0, none, 0, [], [], p2, G2) ?_ ?_ ?_)
       ·(simp only [E7]; exact C2)
       ·(exact ⟨.inr rfl, A7.refl _, rfl, by simp [F4], by simp [Y5], by dsimp only; omega, by dsimp only; omega⟩)
       ·(rintro ⟨i, pn, cn, ts, es', p', Gi⟩ ⟨hi, hle, hlt, hst, hsum, hq1, hq2⟩; simp only [] at hi hle hlt hst hsum hq1 hq2 ⊢; have hid : i * tB d1 ≤ 3 * tB d1 := Nat.mul_le_mul_right _ (by omega))
        refine tS (tS (tR (sQ (qM rfl) rfl (sQ (qM rfl) rfl ?_))))
        refine H6 rfl ((hK _)) rfl rfl ?_
        refine sB (I7 rfl rfl) rfl rfl (fun h261 => ?_) (fun h261 => ?_)
        ·refine sD (nS (qT rfl (tK (nS (tS ?_)))))
         refine B2 ?_
         (have hih := ih d1 (by omega) p' Gi s' (by omega) (by omega) (hb.mono hle) (by have := Nat.mul_le_mul_right (tB d1) (show i + 1 ≤ 3 by omega); rw [Nat.succ_mul] at this; omega); refine D7 D8 rfl ?_)
         refine H4 (i := 0) (l' := [tt,ff,ff,ff,ff,ff,ff,ff,ff,ff,ff]) rfl D3 (B1 rfl) rfl (by kernel_rfl) rfl rfl ?_
         refine aL 1 rfl (D4 rfl rfl) rfl ?_
         refine aP 2 rfl (qM rfl) rfl ?_
         refine aP 3 rfl (qM rfl) rfl ?_
         refine aP 4 rfl (qM rfl) rfl ?_
         refine aP 5 rfl (A4M rfl rfl (by omega)) rfl ?_
         refine A2 6 ?_
         (refine A0a (l' := [tt,tt,tt,tt,tt,tt,tt,ff,ff,ff,ff]) rfl rfl hih (Pk.perm (by repeat (first | exact Pk.here | apply Pk.there))) rfl rfl rfl (by repeat (first | exact A4.nil | apply A4.dep (by decide +kernel) | apply A4.blk (by decide +kernel) (by repeat (first | exact Pk.here | apply Pk.there)) (by repeat first | exact mH | apply mT))) (fun v G3 outs hle3 hh => ?_); obtain ⟨p3, hp31, hp32, rfl, t3, cells3, rfl, hr3, hs3⟩ := hh; obtain ⟨qt, dt, et, qf, df, ef, q3, d3, es3, rfl, _⟩ := hr3.open)
         refine A2 7 ?_
         (refine D6 rfl (B4 rfl rfl rfl (by omega) (by unfold maxLen; omega) rfl) rfl rfl ?_; rintro _ ⟨b279, rfl⟩)
         refine A2 8 ?_
         refine Q9 rfl rfl rfl rfl rfl rfl (fun _ _ => by repeat (first | exact Sw.here | apply Sw.there)) (J9 (by repeat first | exact mH | apply mT)) rfl (by simp [Value.oneCell']) (by unfold maxLen; omega) (by omega) rfl rfl (by repeat (first | exact A4.nil | apply A4.dep (by decide +kernel) | apply A4.blk (by decide +kernel) (by repeat (first | exact Pk.here | apply Pk.there)) (by repeat first | exact mH | apply mT))) (fun pn' cn' => ?_)
         refine aP 9 rfl (B1 rfl) rfl ?_
         refine A2 10 ?_
         refine R2 rfl rfl rfl rfl rfl rfl rfl rfl (by kernel_rfl) (by repeat first | exact Sw.here | apply Sw.there) (by rfl) ?_
         refine B9 (M2 (nS (tR (sQ (qM rfl) rfl ?_))))
         refine sP (H2 rfl rfl (by omega) (by omega)) rfl rfl ?_
         refine sQ (qA rfl) rfl (sD ?_)
         refine J4 (i + 1, pn', cn', ts ++ [t3], es' ++ [[.int .i64 t3.k, .string t3.nm, .int .i64 t3.num, .int .i64 t3.ty.k, .slice qt t3.ty.ks.length dt, .int .i64 t3.fr.k, .slice qf t3.fr.ks.length df, .int .i64 t3.lb, .slice q3 t3.ks.length d3]], p3, G3) ?_ ?_ ?_
         ·(simp only [E7]; exact C2)
         ·(dsimp only; have e1 : (i + 1) * tB d1 = i * tB d1 + tB d1 := Nat.succ_mul _ _; have e2 := A6H ts t3; exact ⟨.inl (by omega), hle.trans hle3, by simp [hlt], F4.snoc (hst.mono hle3) hr3, by omega, by omega, by omega⟩)
         ·(show (D5 k).toNat - (i + 1) < (D5 k).toNat - i; omega)
        ·refine M5 ?_
         (refine I5 (by repeat (first | exact Pk.here | apply Pk.there)) (fun G5 hle5 hsl5 hno5 => ?_))
         refine tT ?_
         refine E3 (outs := [rd br pb nb cb p']) (rC rfl (A3 rfl rfl)) (by repeat (first | exact A0.nil | refine A0.cons Pk.here ?_ | refine A0.cons (Pk.there Pk.here) ?_ | refine A0.cons (Pk.there (Pk.there Pk.here)) ?_ | apply A0.drop)) ?_
         (refine ⟨p', by omega, by omega, rfl, .mk k nm 0 t' A5 0 ts, _, rfl, (hst.mono hle5).tm hlt hsl5 ⟨by omega, by omega⟩ ⟨by omega, by omega⟩ (hrB.mono (hle.trans hle5)), ?_⟩; rw [A0i, A6G]; omega)
theorem Sl.pre {G : IM} {p : Option Addr} {n c m : Nat} {cs : List Value} (h : Sl G p n c 1 cs) (hm : m ≤ n) : Sl G p m c 1 (cs.take m) := by
 obtain ⟨h1, h2, h3, h4⟩ := h
 refine ⟨by rw [List.length_take]; omega, by omega, h3, ?_⟩
 rcases h4 with h4 | ⟨b, o, full, e1, e2, e3⟩
 ·exact .inl (by omega)
 ·refine .inr ⟨b, o, full, e1, e2, fun j v hj => e3 j v ?_⟩
  rw [List.getElem?_take] at hj
  split at hj
  ·exact hj
  ·cases hj
theorem B3G (bs : List UInt8) (m : Nat) : O7 (bs.take m) = (O7 bs).take m := by unfold O7; rw [List.map_take]
theorem A85 {d : Nat} (h : d ≤ 4) : tB d ≤ 1043 := by
 have : d = 0 ∨ d = 1 ∨ d = 2 ∨ d = 3 ∨ d = 4 := by omega
 rcases this with rfl | rfl | rfl | rfl | rfl <;> decide
def A33 (G : IM) : IM → Value → List A1 → Prop := fun G' v outs => G' = G ∧ ∃ br pb nb cb bs, v = .pointer (some ⟨br, 0, none⟩) ∧ outs = [rd br pb nb cb 0] ∧ nb ≤ 2000 ∧ Sl G pb nb cb 1 (O7 bs)
theorem A33.mk {G : IM} {b : Nat} {pb : Option Addr} {nb cb : Nat} {bs : List UInt8} (h : nb ≤ 2000) (hb : Sl G pb nb cb 1 (O7 bs)) : A33 G G (.pointer (some ⟨b, 0, none⟩)) [.blk b [.slice pb nb cb, .int .i64 0]] := ⟨rfl, _, _, _, _, bs, rfl, rfl, h, hb⟩
theorem B3H (G : IM) (q : Option Addr) (n c : Nat) (bs : List UInt8) (hb : Sl G q n c 1 (O7 bs)) :
  Fn Tryz.prog 48 [.slice q n c] [] G (A33 G) := by
 have hn := hb.le
 have hnc := hb.2.1
 have hpre := fun h : 2000 ≤ n => hb.pre h
 refine B6 Tryz.func48 rfl Tryz.ntmps48 Tryz.results48 rfl ?_
 intro w0
 refine H9 ?_
 refine sB (A0v rfl rfl) rfl rfl (fun h11 => ?_) (fun h11 => ?_)
 refine sD (nS (qT rfl (tR (sQ (qM rfl) rfl ?_))))
 refine sP (A1O (l := 2000) rfl rfl rfl (by omega)) rfl rfl ?_
 refine C5 ?_
 refine sE (E2 rfl rfl) rfl (fun b25 => ?_)
 refine sQ (qA rfl) rfl (sD (nS (tT ?_)))
 refine E3 (rT rfl) A0.refl ?_
 exact A33.mk (Nat.le_refl _) (by rw [B3G]; exact hpre (by omega))
 refine E8 ?_
 refine sE (E2 rfl rfl) rfl (fun b41 => ?_)
 refine sQ (qA rfl) rfl (sD (nS (tT ?_)))
 refine E3 (rT rfl) A0.refl ?_
 exact A33.mk (by omega) hb
theorem A86 (br : Nat) (pb : Option Addr) (nb cb : Nat) (bs : List UInt8) (hnb : nb ≤ 2000) (p : Nat) (G : IM) (hb : Sl G pb nb cb 1 (O7 bs)) (hp : p + 1100 < 1099511627776) :
  Fn Tryz.prog 97 [.pointer (some ⟨br, 0, none⟩)] [rd br pb nb cb p] G
   (A0y br pb nb cb p 1100 (fun G' v => ∃ t cells, v = .agg ⟨cells⟩ ∧ B5 G' t cells ∧ A0i t ≤ 1043)) := by
 refine B6 Tryz.func97 rfl Tryz.ntmps97 Tryz.results97 rfl ?_
 intro w0
 refine tS (tR ?_)
 refine sE (B0 rfl) rfl (fun b3 => ?_)
 refine sD (nS (tS (tR (sQ (qM rfl) rfl (sQ (qM rfl) rfl ?_)))))
 (refine E9 (B4 rfl rfl rfl (by omega) (by unfold maxLen; omega) rfl) rfl ?_; rintro _ ⟨b10, rfl⟩)
 (refine S9 (by repeat (first | exact Pk.here | apply Pk.there)) (fun Gf hlef hslf _ => ?_); refine C6 rfl (A0o Gf br pb nb cb p bs _ _ _ _ (hb.mono hlef) hnb (by omega) hslf (by decide)) (Pk.perm (by repeat (first | exact Pk.here | apply Pk.there))) rfl rfl (fun v Gn outs hlen hh => ?_); obtain ⟨rfl, rfl, hv⟩ := hh; replace hb := hb.mono hlef; obtain ⟨dd, rfl, hdd⟩ : ∃ d : Nat, v = .int .i64 ((d + 1 : Nat) : Int) ∧ d ≤ 4 := (by simp only [List.mem_cons, List.not_mem_nil, or_false] at hv; rcases hv with rfl | rfl | rfl | rfl | rfl <;> first | exact ⟨3, rfl, by decide⟩ | exact ⟨2, rfl, by decide⟩ | exact ⟨4, rfl, by decide⟩ | exact ⟨1, rfl, by decide⟩); have htB := A85 hdd)
 (refine C6 rfl (A84 br pb nb cb bs hnb dd (p + 1) Gn ⟨⟨[]⟩⟩ (by omega) (by have hz : (⟨⟨[]⟩⟩ : ByteArray).size ≤ 2 := (by decide); omega) hb (by omega)) (Pk.perm (by repeat (first | exact Pk.here | apply Pk.there))) rfl rfl (fun v G3 outs hle3 hh => ?_); obtain ⟨p3, hp31, hp32, rfl, t3, cells3, rfl, hr3, hs3⟩ := hh; have hl3 := hr3.len; have ho3 := hr3.one; have hc3 := A3O t3; have hv3 := A4Z t3 G3 cells3 (by omega) hr3)
 refine sE (B0 rfl) rfl (fun b13 => ?_)
 refine sS rfl rfl rfl hl3 ho3 rfl ?_ (hu := by exact O5 hl3.symm)
 refine sD (nS (tS (tS (tR ?_))))
 refine sL (A6 rfl rfl (H0 (by repeat first | exact mH | apply mT)) hl3) rfl rfl ?_
 refine H8 rfl (hv3) rfl rfl (fun h21 => ?_) (fun h21 => ?_)
 refine sD (nS (qT rfl (tS (tR ?_))))
 refine sL (A6 rfl rfl (H0 (by repeat first | exact mH | apply mT)) hl3) rfl rfl ?_
 refine sS rfl rfl rfl hl3 ho3 rfl ?_ (hu := by exact O5 hl3.symm)
 refine sD (nS (tT (rS ?_)))
 refine E3 (outs := [rd br pb nb cb p3]) (rC rfl (A6 rfl rfl (H0 (by repeat first | exact mH | apply mT)) hl3)) (by repeat (first | exact A0.nil | refine A0.cons Pk.here ?_ | refine A0.cons (Pk.there Pk.here) ?_ | refine A0.cons (Pk.there (Pk.there Pk.here)) ?_ | apply A0.drop)) ?_
 (exact ⟨p3, by omega, by omega, rfl, t3, cells3, rfl, hr3, by omega⟩)
 refine sD (nS (cF rfl (tK (nS (tS (tR ?_))))))
 refine H6 rfl ((A2F _ _)) rfl rfl ?_
 refine I1 ?_
 refine sD (nS (tT ?_))
 refine E3 (outs := [rd br pb nb cb p3]) (rC rfl (A3 rfl rfl)) (by repeat (first | exact A0.nil | refine A0.cons Pk.here ?_ | refine A0.cons (Pk.there Pk.here) ?_ | refine A0.cons (Pk.there (Pk.there Pk.here)) ?_ | apply A0.drop)) ?_
 (exact ⟨p3, by omega, by omega, rfl, _, _, rfl, A1p ⟨by omega, by omega⟩ ⟨by omega, by omega⟩, by rw [A1T]; decide⟩)
theorem B3I (br : Nat) (pb : Option Addr) (nb cb : Nat) (bs : List UInt8) (hnb : nb ≤ 2000) (p : Nat) (G : IM) (hb : Sl G pb nb cb 1 (O7 bs)) (hp : p + 1200 < 1099511627776) :
  Fn Tryz.prog 50 [.pointer (some ⟨br, 0, none⟩)] [rd br pb nb cb p] G
   (A0y br pb nb cb p 1200 (fun G' v => ∃ t cells, v = .agg ⟨cells⟩ ∧ B5 G' t cells ∧ A0i t ≤ 1043)) := by
 refine B6 Tryz.func50 rfl Tryz.ntmps50 Tryz.results50 rfl ?_
 intro w0
 refine tS (tR ?_)
 refine sE (B0 rfl) rfl (fun b3 => ?_)
 refine sD (nS (tS (tS (tR (sQ (qM rfl) rfl ?_)))))
 (refine C6 rfl (Y6 _ br pb nb cb p bs _ hb hnb (by omega)) (Pk.perm (by repeat (first | exact Pk.here | apply Pk.there))) rfl rfl (fun v10 G10 outs10 hle10 hh => ?_); obtain ⟨rfl, rfl, j10, rfl, hj10, hk10⟩ := hh)
 replace hb := hb.mono hle10
 refine sB (A0v rfl rfl) rfl rfl (fun h11 => ?_) (fun h11 => ?_)
 refine sD (nS (qT rfl (tS (tR (sQ (qM rfl) rfl ?_)))))
 (refine C6 rfl (A86 br pb nb cb bs hnb (p + 1) _ hb (by omega)) (Pk.perm (by repeat (first | exact Pk.here | apply Pk.there))) rfl rfl (fun v G3 outs hle3 hh => ?_); obtain ⟨p3, hp31, hp32, rfl, t3, cells3, rfl, hr3, hs3⟩ := hh; have hl3 := hr3.len; have ho3 := hr3.one)
 refine sS rfl rfl rfl hl3 ho3 rfl ?_ (hu := by exact O5 hl3.symm)
 refine sD (nS (tT (rS ?_)))
 refine E3 (outs := [rd br pb nb cb p3]) (rC rfl (A6 rfl rfl (H0 (by repeat first | exact mH | apply mT)) hl3)) (by repeat (first | exact A0.nil | refine A0.cons Pk.here ?_ | refine A0.cons (Pk.there Pk.here) ?_ | refine A0.cons (Pk.there (Pk.there Pk.here)) ?_ | apply A0.drop)) ?_
 (exact ⟨p3, by omega, by omega, rfl, t3, cells3, rfl, hr3, by omega⟩)
 refine E8 ?_
 (refine E9 (B4 rfl rfl rfl (by omega) (by unfold maxLen; omega) rfl) rfl ?_; rintro _ ⟨b35, rfl⟩)
 (refine S9 (by repeat (first | exact Pk.here | apply Pk.there)) (fun Gf hlef hslf _ => ?_); refine C6 rfl (A0o Gf br pb nb cb (p + 1) bs _ _ _ _ (hb.mono hlef) hnb (by omega) hslf (by decide)) (Pk.perm (by repeat (first | exact Pk.here | apply Pk.there))) rfl rfl (fun v Gn outs hlen hh => ?_); obtain ⟨rfl, rfl, hv⟩ := hh; replace hb := hb.mono hlef; obtain ⟨dd, rfl, hdd⟩ : ∃ d : Nat, v = .int .i64 ((d + 1 : Nat) : Int) ∧ d ≤ 4 := (by simp only [List.mem_cons, List.not_mem_nil, or_false] at hv; rcases hv with rfl | rfl | rfl <;> first | exact ⟨2, rfl, by decide⟩ | exact ⟨1, rfl, by decide⟩ | exact ⟨3, rfl, by decide⟩); have htB := A85 hdd)
 (refine C6 rfl (A84 br pb nb cb bs hnb dd (p + 1 + 1) Gn ⟨⟨[120, 122]⟩⟩ (by omega) (by have hz : (⟨⟨[120, 122]⟩⟩ : ByteArray).size ≤ 2 := (by decide); omega) hb (by omega)) (Pk.perm (by repeat (first | exact Pk.here | apply Pk.there))) rfl rfl (fun v G3 outs hle3 hh => ?_); obtain ⟨p3, hp31, hp32, rfl, t3, cells3, rfl, hr3, hs3⟩ := hh; have hl3 := hr3.len; have ho3 := hr3.one; have hc3 := A3O t3; have hv3 := A4Z t3 G3 cells3 (by omega) hr3)
 refine sE (B0 rfl) rfl (fun b38 => ?_)
 refine sS rfl rfl rfl hl3 ho3 rfl ?_ (hu := by exact O5 hl3.symm)
 refine sD (nS (tS (tS (tR ?_))))
 refine sL (A6 rfl rfl (H0 (by repeat first | exact mH | apply mT)) hl3) rfl rfl ?_
 refine H8 rfl (hv3) rfl rfl (fun h46 => ?_) (fun h46 => ?_)
 refine sD (nS (qT rfl (tS (tR ?_))))
 refine sL (A6 rfl rfl (H0 (by repeat first | exact mH | apply mT)) hl3) rfl rfl ?_
 refine sS rfl rfl rfl hl3 ho3 rfl ?_ (hu := by exact O5 hl3.symm)
 refine sD (nS (tT (rS ?_)))
 refine E3 (outs := [rd br pb nb cb p3]) (rC rfl (A6 rfl rfl (H0 (by repeat first | exact mH | apply mT)) hl3)) (by repeat (first | exact A0.nil | refine A0.cons Pk.here ?_ | refine A0.cons (Pk.there Pk.here) ?_ | refine A0.cons (Pk.there (Pk.there Pk.here)) ?_ | apply A0.drop)) ?_
 (exact ⟨p3, by omega, by omega, rfl, t3, cells3, rfl, hr3, by omega⟩)
 refine sD (nS (cF rfl (tK (nS (tS (tR ?_))))))
 refine H6 rfl ((A2F _ _)) rfl rfl ?_
 refine I1 ?_
 refine sD (nS (tT ?_))
 refine E3 (outs := [rd br pb nb cb p3]) (rC rfl (A3 rfl rfl)) (by repeat (first | exact A0.nil | refine A0.cons Pk.here ?_ | refine A0.cons (Pk.there Pk.here) ?_ | refine A0.cons (Pk.there (Pk.there Pk.here)) ?_ | apply A0.drop)) ?_
 (exact ⟨p3, by omega, by omega, rfl, _, _, rfl, A1p ⟨by omega, by omega⟩ ⟨by omega, by omega⟩, by rw [A1T]; decide⟩)
theorem A1q (G : IM) : Fn Tryz.prog 174 [] [] G (J1 (.agg ⟨[.int .i64 2, .slice none 0 0]⟩) G) := by
 refine B6 Tryz.func174 rfl Tryz.ntmps174 Tryz.results174 rfl ?_
 intro w0
 refine tS (tR ?_)
 refine sE (B0 rfl) rfl (fun b3 => ?_)
 refine E8 ?_
 refine I6 (rC rfl (A3 rfl rfl)) ?_
 exact ⟨rfl, rfl, rfl⟩
theorem A34 (G : IM) : Fn Tryz.prog 172 [] [] G (J1 (.agg ⟨[.int .i64 3, .slice none 0 0]⟩) G) := by
 refine B6 Tryz.func172 rfl Tryz.ntmps172 Tryz.results172 rfl ?_
 intro w0
 refine tS (tR ?_)
 refine sE (B0 rfl) rfl (fun b3 => ?_)
 refine E8 ?_
 refine I6 (rC rfl (A3 rfl rfl)) ?_
 exact ⟨rfl, rfl, rfl⟩
theorem A2G (G : IM) (k : Int) (p : Option Addr) (n c : Nat) : Fn Tryz.prog 171 [.int .i64 k, .slice p n c] [] G (J1 (.agg ⟨[.int .i64 k, .string ⟨⟨[]⟩⟩, .int .i64 0, .int .i64 0, .slice none 0 0, .int .i64 0, .slice none 0 0, .int .i64 0, .slice p n c]⟩) G) := by
 refine B6 Tryz.func171 rfl Tryz.ntmps171 Tryz.results171 rfl ?_
 intro w0
 refine tS (tR ?_)
 refine sE (B0 rfl) rfl (fun b3 => ?_)
 refine J3 ?_
 refine I6 (rC rfl (A3 rfl rfl)) ?_
 exact ⟨rfl, rfl, rfl⟩
theorem N8 (G : IM) {k : Int} (hk : C1 k) : A8 G (.mk k []) [.int .i64 k, .slice none 0 0] := by
 simp only [A8]
 exact ⟨none, 0, [], rfl, hk, C0.of (Sl.nil _ _) rfl (by simp) (by simp), by simp [C3]⟩
theorem A87 (k : Int) : I0 (.mk k []) = 0 := rfl
def TyB (B : Int) (G : IM) : IM → Value → List A1 → Prop := I8 fun G' v => ∃ t cells b, v = .tuple ⟨[.agg ⟨cells⟩, .bool b]⟩ ∧ A8 G' t cells ∧ E5 t ∧ I0 t ≤ B
theorem A45 {k : Int} {a b : Ty} (hk : k = 4 ∨ k = 5) (ha : E5 a) (hb : E5 b) : E5 (.mk k [a, b]) := by
 rw [E5]
 exact ⟨fun _ => rfl, fun h4 h5 => by omega, by simp [A0V, ha, hb]⟩
theorem V1 {k : Int} (h4 : k ≠ 4) (h5 : k ≠ 5) : E5 (.mk k []) := (A3b 0 h4 h5).ar
theorem E5.kid {k : Int} {ks : List Ty} (h : E5 (.mk k ks)) : ∀ t ∈ ks, E5 t := by
 rw [E5] at h; exact A3V.1 h.2.2
theorem E5.two {k : Int} {ks : List Ty} (h : E5 (.mk k ks)) : ks.length ≤ 2 := by
 rw [E5] at h
 have h1 := h.1
 have h2 := h.2.1
 omega
theorem A6J : ∀ {ks : List Ty} {t : Ty}, t ∈ ks → I0 t ≤ O0 ks
 | [], t, h => by simp at h
 | t' :: ts, t, h => by
  rw [O0]
  have := A1a t'
  have := A1M ts
  rcases List.mem_cons.1 h with rfl | h
  ·omega
  ·have := A6J h; omega
theorem B3J {k : Int} {ks : List Ty} {t : Ty} (h : t ∈ ks) : I0 t ≤ I0 (.mk k ks) := by
 have := A6J h
 rw [I0]; omega
def B7O (B : Int) (G : IM) : IM → Value → List A1 → Prop := I8 fun G' v => ∃ a ca b cb x, v = .tuple ⟨[.agg ⟨ca⟩, .agg ⟨cb⟩, .bool x]⟩ ∧ A8 G' a ca ∧ E5 a ∧ I0 a ≤ B ∧ A8 G' b cb ∧ E5 b ∧ I0 b ≤ B
def TyP (B : Int) (Q : Ty → Prop) (G : IM) : IM → Value → List A1 → Prop := I8 fun G' v => ∃ t cells, v = .agg ⟨cells⟩ ∧ A8 G' t cells ∧ E5 t ∧ I0 t ≤ B ∧ Q t
theorem A88 {k : Int} {ks us : List Ty} (h : E5 (.mk k ks)) (hl : us.length = ks.length) (hu : ∀ u ∈ us, E5 u) : E5 (.mk k us) := by
 rw [E5] at h ⊢
 exact ⟨fun hk => by rw [hl]; exact h.1 hk, fun a b => by rw [hl]; exact h.2.1 a b, A3V.2 hu⟩
theorem A3d {P : Ty → Prop} {us : List Ty} {u : Ty} (h : ∀ x ∈ us, P x) (hu : P u) : ∀ x ∈ us ++ [u], P x := by
 simp only [List.forall_mem_append, List.forall_mem_singleton]; exact ⟨h, hu⟩
theorem A1U : ∀ (t t' : Ty) (G : IM) (cells cells' : List Value), E5 t → E5 t' → A8 G t cells → A8 G t' cells' →
  Fn Tryz.prog 145 [.agg ⟨cells⟩, .agg ⟨cells'⟩] [] G (J1 (.bool (J6 t t')) G) := by
 refine Ty.ind fun k ks ih t' G cells cells' ha ha' hr hr' => ?_
 obtain ⟨k', ks'⟩ := t'
 obtain ⟨p, c, es, rfl, hk, hsl, hkl⟩ := hr.open
 obtain ⟨p', c', es', rfl, hk', hsl', hkl'⟩ := hr'.open
 simp only [Ty.k, Ty.ks] at hk hsl hkl hk' hsl' hkl' ⊢
 have hn := hsl.le
 have hn' := hsl'.le
 have hv2 := ha.kid
 have hv2' := ha'.kid
 rw [E5] at ha ha'
 have hle : k = k' → ks.length = ks'.length := by
  rintro rfl
  have h1 := ha.1
  have h2 := ha.2.1
  have h3 := ha'.1
  have h4 := ha'.2.1
  omega
 refine B6 Tryz.func145 rfl Tryz.ntmps145 Tryz.results145 rfl ?_
 intro w0
 refine tS (tR ?_)
 refine sE (E2 rfl rfl) rfl (fun b3 => ?_)
 refine sE (E2 rfl rfl) rfl (fun b4 => ?_)
 refine E1 ?_
 refine sB (qE rfl rfl) rfl rfl (fun h13 => ?_) (fun h13 => ?_)
 refine N9 ?_
 (rw [A8I (by omega)]; exact ⟨rfl, rfl, rfl⟩)
 refine M3 ?_
 refine sB (qE rfl rfl) rfl rfl (fun h34 => ?_) (fun h34 => ?_)
 refine L4 ?_
 (rw [A8I (by omega)]; exact ⟨rfl, rfl, rfl⟩)
 refine L7 ?_
 refine sB (X4 rfl rfl) rfl rfl (fun h61 => ?_) (fun h61 => ?_)
 refine J3 ?_
 (rw [B22 (by omega) (by omega) (by omega)]; exact ⟨rfl, rfl, rfl⟩)
 refine J3 ?_
 refine B2 ?_
 (have hll : ks.length = ks'.length := hle (by omega); refine J8 (fun (i : Nat) => ⟨[(5, .int .i64 i), (3, .pointer (some ⟨b4, 0, none⟩)), (2, .pointer (some ⟨b3, 0, none⟩))], [.blk b3 [.int .i64 k, .slice p ks.length c], .blk b4 [.int .i64 k', .slice p' ks'.length c']], G⟩) (fun i => i ≤ ks.length ∧ ∀ j (h : j < ks.length) (h' : j < ks'.length), j < i → J6 ks[j] ks'[j] = true) (fun i => ks.length - i) 0 ?_ ?_ ?_)
 exact C2
 exact ⟨by omega, by omega⟩
 (rintro i ⟨hi, hf⟩)
 refine C5 ?_
 refine sB (I7 rfl rfl) rfl rfl (fun h97 => ?_) (fun h97 => ?_)
 refine sD (nS (qT rfl (tK (nS (tS ?_)))))
 refine B2 ?_
 refine tS ?_
 (obtain ⟨b, o, p2, c2, rfl, hat, hre, hgb⟩ := hsl.kidTy hkl (i := i) (by omega) (by omega); obtain ⟨b', o', p2', c2', rfl, hat', hre', hgb'⟩ := hsl'.kidTy hkl' (i := i) (by omega) (by omega); refine D7 D8 rfl ?_)
 refine H4 (i := 0) (l' := [tt,ff,ff,ff,ff,ff,ff,ff,ff,ff,ff,ff]) rfl D3 (B1 rfl) rfl (by kernel_rfl) rfl rfl ?_
 refine aL 1 rfl (D4 rfl rfl) rfl ?_
 refine aP 2 rfl (qM rfl) rfl ?_
 refine aP 3 rfl (B3 rfl rfl rfl (by omega)) rfl ?_
 refine aL 4 rfl (A6 rfl rfl (hat _) rfl) rfl ?_
 refine aP 5 rfl (B1 rfl) rfl ?_
 refine aL 6 rfl (D4 rfl rfl) rfl ?_
 refine aP 7 rfl (qM rfl) rfl ?_
 refine aP 8 rfl (B3 rfl rfl rfl (by omega)) rfl ?_
 refine aL 9 rfl (A6 rfl rfl (hat' _) rfl) rfl ?_
 refine A2 10 ?_
 refine W2 rfl rfl (ih ks[i] (List.getElem_mem (by omega)) ks'[i] G _ _ (hv2 _ (List.getElem_mem (by omega))) (hv2' _ (List.getElem_mem (by omega))) hre hre') rfl rfl rfl (fun h118 => ?_) (fun h118 => ?_)
 refine aP 11 rfl (pNt rfl) rfl ?_
 refine E1 ?_
 refine sP (H2 rfl rfl (by omega) (by omega)) rfl rfl ?_
 refine sQ (qA rfl) rfl (sD ?_)
 refine J4 (i + 1) ?_ ?_ ?_
 exact C2
 exact ⟨by omega, fun j hj hj' hji => by (by_cases he : j = i; (subst he; assumption); exact hf j hj hj' (by omega))⟩
 omega
 refine aP 11 rfl (pNf rfl) rfl ?_
 refine J5 ?_
 (rw [A8J (by omega) (by omega) (by omega), B23 (i := i) (by omega) (by omega) (by assumption)]; exact ⟨rfl, rfl, rfl⟩)
 refine J5 ?_
 (rw [A8J (by omega) (by omega) (by omega), (A2z ks _).2 ⟨hll, fun j hj hj' => hf j hj hj' (by omega)⟩]; exact ⟨rfl, rfl, rfl⟩)
theorem A6K (br : Nat) (pb : Option Addr) (nb cb : Nat) (bs : List UInt8) (hnb : nb ≤ 2000) : ∀ (t : Ty) (p : Nat) (G : IM) (cells : List Value), E5 t → A8 G t cells → Sl G pb nb cb 1 (O7 bs) → p + (I0 t).toNat + 1 < 1099511627776 →
  Fn Tryz.prog 144 [.pointer (some ⟨br, 0, none⟩), .agg ⟨cells⟩] [rd br pb nb cb p] G
   (A0y br pb nb cb p ((I0 t).toNat + 1) (fun G' v => ∃ u cells, v = .agg ⟨cells⟩ ∧ A8 G' u cells ∧ E5 u ∧ I0 u ≤ I0 t ∧ ∀ n, Q5 n t → Q5 n u)) := by
 refine Ty.ind fun k ks ih p G cells ha hr hb hp => ?_
 have hkid := ha.kid
 have hnn := A1M ks
 have hz : I0 (.mk k ks) = ks.length + O0 ks := by rw [I0]
 rw [hz] at hp ⊢
 obtain ⟨q, c, es, rfl, hk, hsl, hkl⟩ := hr.open
 simp only [Ty.k, Ty.ks] at hk hsl hkl ⊢
 have hn := hsl.le
 have hl2 := ha.two
 refine B6 Tryz.func144 rfl Tryz.ntmps144 Tryz.results144 rfl ?_
 intro w0
 refine tS (tR ?_)
 refine sE (E2 rfl rfl) rfl (fun b3 => ?_)
 refine sE (B0 rfl) rfl (fun b4 => ?_)
 refine sD (nS (tS (tS (tR (sQ (qM rfl) rfl ?_)))))
 (refine C6 rfl (Y6 _ br pb nb cb p bs _ hb hnb (by omega)) (Pk.perm (by repeat (first | exact Pk.here | apply Pk.there))) rfl rfl (fun v11 G11 outs11 hle11 hh => ?_); obtain ⟨rfl, rfl, j11, rfl, hj11, hk11⟩ := hh; have hm := hle11)
 replace hb := hb.mono hle11
 replace hr := hr.mono hle11
 replace hsl := hsl.mono hle11
 replace hkl := hkl.mono hle11
 refine sB (qE rfl rfl) rfl rfl (fun h12 => ?_) (fun h12 => ?_)
 refine sD (nS (qT rfl (tS (tR ?_))))
 refine H6 rfl ((A1R _)) rfl rfl ?_
 refine I1 ?_
 refine sD (nS (tT (rS ?_)))
 refine E3 (outs := [rd br pb nb cb (p + 1)]) (rC rfl (A3 rfl rfl)) (by repeat (first | exact A0.nil | refine A0.cons Pk.here ?_ | refine A0.cons (Pk.there Pk.here) ?_ | refine A0.cons (Pk.there (Pk.there Pk.here)) ?_ | apply A0.drop)) ?_
 (exact ⟨p + 1, by omega, by omega, rfl, O4, _, rfl, A1o _, A3W, by rw [A6C]; omega, fun n _ => A8T n⟩)
 refine H9 ?_
 refine sE (B0 rfl) rfl (fun b36 => ?_)
 refine I1 ?_
 refine sD (nS (tS (tS (tR (sQ (qA rfl) rfl (sD (nS ?_)))))))
 refine B2 ?_
 (refine W9 25 2 ?_; refine J8 (fun (x : Nat × Option Addr × Nat × List Ty × List (List Value) × Nat × IM) => ⟨[(6, .int .i64 x.1), (5, .pointer (some ⟨b36, 0, none⟩)), (4, .pointer (some ⟨b4, 0, none⟩)), (0, .pointer (some ⟨br, 0, none⟩)), (3, .pointer (some ⟨b3, 0, none⟩))], [.blk b36 [.int .i64 k, .slice x.2.1 x.1 x.2.2.1], .slc x.2.1 x.2.2.1 25 2 x.1 x.2.2.2.2.1.flatten, rd br pb nb cb x.2.2.2.2.2.1, .blk b4 [.int .i64 0, .slice none 0 0], .blk b3 [.int .i64 k, .slice q ks.length c]], x.2.2.2.2.2.2⟩) (fun x => x.1 ≤ ks.length ∧ A7 G11 x.2.2.2.2.2.2 ∧ x.2.2.2.1.length = x.1 ∧ C3 x.2.2.2.2.2.2 x.2.2.2.1 x.2.2.2.2.1 ∧ (∀ u ∈ x.2.2.2.1, E5 u) ∧ (∀ n, Q5 n (.mk k ks) → ∀ u ∈ x.2.2.2.1, Q5 (n - 1) u) ∧ O0 x.2.2.2.1 ≤ O0 (ks.take x.1) ∧ p + 1 ≤ x.2.2.2.2.2.1 ∧ (x.2.2.2.2.2.1 : Int) ≤ p + 1 + x.1 + O0 (ks.take x.1)) (fun x => ks.length - x.1) (0, none, 0, [], [], p + 1, G11) ?_ ?_ ?_)
 (simp only [E7]; exact C2)
 (exact ⟨by simp, A7.refl _, rfl, by simp [C3], by simp, by simp, by simp [O0], by dsimp only; omega, by simp [O0]⟩)
 (rintro ⟨i, pn, cn, us, es', p', Gi⟩ ⟨hi, hle, hlu, hst, hau, hhu, hsu, hp1, hp2⟩; simp only [] at hi hle hlu hst hau hhu hsu hp1 hp2 ⊢; replace hsl := hsl.mono hle; replace hkl := hkl.mono hle; have htk := A8q ks i)
 refine C5 ?_
 refine sB (I7 rfl rfl) rfl rfl (fun h58 => ?_) (fun h58 => ?_)
 refine sD (nS (qT rfl (tK (nS (tS ?_)))))
 refine B2 ?_
 (obtain ⟨b, o, q0, d0, hp0, hat0, hre0, hg0⟩ := hsl.kidTy hkl (i := i) (by omega) (by omega); subst hp0; have e1 := B2A (ks := ks) (i := i) (by omega); have e2 := A8q ks (i + 1); have e3 := A1a ks[i]; have hih := ih ks[i] (List.getElem_mem (by omega)) p' Gi _ (hkid _ (List.getElem_mem (by omega))) hre0 (hb.mono hle) (by omega); refine D7 D8 rfl ?_)
 refine H4 (i := 0) (l' := [tt,ff,ff,ff,ff,ff,ff,ff,ff,ff,ff,ff,ff]) rfl D3 (B1 rfl) rfl (by kernel_rfl) rfl rfl ?_
 refine aL 1 rfl (D4 rfl rfl) rfl ?_
 refine aP 2 rfl (qM rfl) rfl ?_
 refine aP 3 rfl (B1 rfl) rfl ?_
 refine aL 4 rfl (D4 rfl rfl) rfl ?_
 refine aP 5 rfl (qM rfl) rfl ?_
 refine aP 6 rfl (B3 rfl rfl rfl (by omega)) rfl ?_
 refine aL 7 rfl (A6 rfl rfl (hat0 _) rfl) rfl ?_
 refine A2 8 ?_
 (refine A0a (l' := [tt,tt,tt,tt,tt,tt,tt,tt,tt,ff,ff,ff,ff]) rfl rfl hih (Pk.perm (by repeat (first | exact Pk.here | apply Pk.there))) rfl rfl rfl (by repeat (first | exact A4.nil | apply A4.dep (by decide +kernel) | apply A4.blk (by decide +kernel) (by repeat (first | exact Pk.here | apply Pk.there)) (by repeat first | exact mH | apply mT) | apply A4.im (by decide +kernel) hg0 (by repeat first | exact mH | apply mT))) (fun v G3 outs hle3 hh => ?_); obtain ⟨p3, hp31, hp32, rfl, u, cells3, rfl, hru, hua, hus, huh⟩ := hh; obtain ⟨q3, c3, es3, rfl, _⟩ := hru.open)
 refine A2 9 ?_
 (refine D6 rfl (B4 rfl rfl rfl (by omega) (by unfold maxLen; omega) rfl) rfl rfl ?_; rintro _ ⟨b78, rfl⟩)
 refine A2 10 ?_
 refine Q9 rfl rfl rfl rfl rfl rfl (fun _ _ => by repeat (first | exact Sw.here | apply Sw.there)) (J9 (by repeat first | exact mH | apply mT)) rfl (by simp [Value.oneCell']) (by unfold maxLen; omega) (by omega) rfl rfl (by repeat (first | exact A4.nil | apply A4.dep (by decide +kernel) | apply A4.blk (by decide +kernel) (by repeat (first | exact Pk.here | apply Pk.there)) (by repeat first | exact mH | apply mT))) (fun pn' cn' => ?_)
 refine aP 11 rfl (B1 rfl) rfl ?_
 refine A2 12 ?_
 refine R2 rfl rfl rfl rfl rfl rfl rfl rfl (by kernel_rfl) (by repeat first | exact Sw.here | apply Sw.there) (by rfl) ?_
 refine B9 (M2 (nS (tR (sQ (qM rfl) rfl ?_))))
 refine sP (H2 rfl rfl (by omega) (by omega)) rfl rfl ?_
 refine sQ (qA rfl) rfl (sD ?_)
 refine J4 (i + 1, pn', cn', us ++ [u], es' ++ [[.int .i64 u.k, .slice q3 u.ks.length c3]], p3, G3) ?_ ?_ ?_
 (simp only [E7]; exact C2)
 (dsimp only; exact ⟨by omega, hle.trans hle3, by simp [hlu], C3.snoc (hst.mono hle3) hru, A3d hau hua, fun n hn => A3d (hhu n hn) (huh _ (A6A hn (List.getElem_mem _))), by rw [A4Y]; omega, by omega, by omega⟩)
 (show ks.length - (i + 1) < ks.length - i; omega)
 refine M5 ?_
 (refine I5 (by repeat (first | exact Pk.here | apply Pk.there)) (fun G5 hle5 hsl5 hno5 => ?_); obtain rfl : i = ks.length := (by omega))
 refine tT ?_
 refine E3 (outs := [rd br pb nb cb p']) (rC rfl (A3 rfl rfl)) (by repeat (first | exact A0.nil | refine A0.cons Pk.here ?_ | refine A0.cons (Pk.there Pk.here) ?_ | refine A0.cons (Pk.there (Pk.there Pk.here)) ?_ | apply A0.drop)) ?_
 (rw [List.take_length] at hsu hp2; refine ⟨p', by omega, by omega, rfl, .mk k us, _, rfl, (hst.mono hle5).ty hlu hsl5 hk, A88 ha hlu hau, by rw [I0]; omega, fun n hn => B3s hn hlu (hhu n hn)⟩)
theorem At.sub {hp : List A1} {G : IM} {b o j : Nat} {vs : List Value} {v : Value} (h : At hp G b o vs) (hj : vs[j]? = some v) : At hp G b (o + j) [v] := by
 have key : ∀ {cs : List Value}, (∀ i u, vs[i]? = some u → cs[o + i]? = some u) → ∀ i u, [v][i]? = some u → cs[o + j + i]? = some u := by
  intro cs hc i u hu
  cases i with
  | zero => simp at hu; subst hu; simpa using hc j v hj
  | succ i => simp at hu
 rcases h with ⟨cs, hm, hv⟩ | ⟨n, c, el, sz, cs, hm, hv⟩ | ⟨full, hg, hv⟩
 ·exact .inl ⟨cs, hm, key hv⟩
 ·exact .inr (.inl ⟨n, c, el, sz, cs, hm, key hv⟩)
 ·exact .inr (.inr ⟨full, hg, key hv⟩)
def HTm (G : IM) (t : Tm) (k : Int) (cells : List Value) : Prop := ∃ pt ct et pf cf ef p c es,
 cells = [.int .i64 t.k, .string t.nm, .int .i64 t.num, .int .i64 t.ty.k, .slice pt t.ty.ks.length ct, .int .i64 t.fr.k, .slice pf t.fr.ks.length cf, .int .i64 t.lb, .slice p t.ks.length c] ∧
 C0 G pt t.ty.ks.length ct 2 et ∧ C3 G (A18 t.ty.ks k) et ∧ C0 G pf t.fr.ks.length cf 2 ef ∧ C3 G (A18 t.fr.ks (k + A0h t.ty.ks)) ef ∧ C0 G p t.ks.length c 9 es ∧ F4 G (A4K t.ks (k + A0h t.ty.ks + A0h t.fr.ks)) es
theorem B3K {nm : ByteArray} (h : Y4 nm = true) : nm.size = 1 := by
 unfold Y4 at h
 simp at h
 omega
theorem A6L {k : Int} {nm : ByteArray} {num : Int} {ty fr : Ty} {lb : Int} {n : Nat} (h : X7 k nm num ty fr lb n = true) : nm.size ≤ 1 := by
 obtain ⟨_, h2, h3, _⟩ := R7.1 h
 by_cases hk : k = 1 ∨ k = 5
 ·rw [B3K (h2 hk)]; omega
 ·rw [h3 hk]; decide
def RBd (G : IM) (e : List Value) : Prop := ∃ nm t q d, e = [.string nm, .int .i64 t.k, .slice q t.ks.length d] ∧ A8 G t [.int .i64 t.k, .slice q t.ks.length d] ∧ E5 t ∧ I0 t ≤ 30 ∧ nm.size ≤ 1
def X8 (G : IM) (p : Option Addr) (n c : Nat) : Prop := ∃ es, es.length = n ∧ C0 G p n c 3 es ∧ ∀ e ∈ es, RBd G e
theorem RBd.mono {G G' : IM} {e : List Value} (h : RBd G e) (hg : A7 G G') : RBd G' e := by
 obtain ⟨nm, t, q, d, h1, h2, h3, h4⟩ := h
 exact ⟨nm, t, q, d, h1, h2.mono hg, h3, h4⟩
theorem X8.mono {G G' : IM} {p : Option Addr} {n c : Nat} (h : X8 G p n c) (hg : A7 G G') : X8 G' p n c := by
 obtain ⟨es, h1, h2, h3⟩ := h
 exact ⟨es, h1, h2.mono hg, fun e he => (h3 e he).mono hg⟩
theorem X8.nil (G : IM) : X8 G none 0 0 := ⟨[], rfl, C0.nil _ _, by simp⟩
theorem At.drop {hp : List A1} {G : IM} {b o : Nat} {v : Value} {vs : List Value} (h : At hp G b o (v :: vs)) : At hp G b (o + 1) vs := by
 have key : ∀ {cs : List Value}, (∀ i u, (v :: vs)[i]? = some u → cs[o + i]? = some u) → ∀ i u, vs[i]? = some u → cs[o + 1 + i]? = some u := by
  intro cs hc i u hu
  have := hc (i + 1) u (by simpa using hu)
  rwa [show o + 1 + i = o + (i + 1) by omega]
 rcases h with ⟨cs, hm, hv⟩ | ⟨n, c, el, sz, cs, hm, hv⟩ | ⟨full, hg, hv⟩
 ·exact .inl ⟨cs, hm, key hv⟩
 ·exact .inr (.inl ⟨n, c, el, sz, cs, hm, key hv⟩)
 ·exact .inr (.inr ⟨full, hg, key hv⟩)
theorem X8.get {G : IM} {p : Option Addr} {n c : Nat} (h : X8 G p n c) {i : Nat} (hi : i < n) :
  ∃ b o nm t q d, p = some ⟨b, o, none⟩ ∧ (∀ hp, At hp G b (o + i * 3) [.string nm, .int .i64 t.k, .slice q t.ks.length d]) ∧ A8 G t [.int .i64 t.k, .slice q t.ks.length d] ∧ E5 t ∧ I0 t ≤ 30 ∧ G b ≠ none ∧ nm.size ≤ 1 := by
 obtain ⟨es, h1, h2, h3⟩ := h
 obtain ⟨e, b, o, he, rfl, hl, _, hat, hgb⟩ := h2.get (i := i) (by omega)
 obtain ⟨nm, t, q, d, rfl, h5, h6, h7, h8⟩ := h3 e (List.mem_of_getElem? he)
 exact ⟨b, o, nm, t, q, d, rfl, hat, h5, h6, h7, hgb, h8⟩
theorem X8.le {G : IM} {p : Option Addr} {n c : Nat} (h : X8 G p n c) : n ≤ 9223372036854775807 := by
 obtain ⟨es, h1, h2, h3⟩ := h
 exact h2.le
theorem B3L (G : IM) (p : Option Addr) (n c : Nat) (nm : ByteArray) (hx : X8 G p n c) :
  Fn Tryz.prog 169 [.slice p n c, .string nm] [] G (TyB 30 G) := by
 have hn := hx.le
 refine B6 Tryz.func169 rfl Tryz.ntmps169 Tryz.results169 rfl ?_
 intro w0
 refine tS (tR ?_)
 refine sE (B0 rfl) rfl (fun b3 => ?_)
 refine E1 ?_
 refine sP (N1 rfl rfl (by omega) (by omega)) rfl rfl ?_
 refine sQ (qA rfl) rfl (sD (nS ?_))
 refine B2 ?_
 (refine J8 (fun (i : Nat) => ⟨[(6, .int .i64 ((i : Int) - 1)), (0, .slice p n c), (1, .string nm), (4, .pointer (some ⟨b3, 0, none⟩))], [.blk b3 [.int .i64 0, .slice none 0 0]], G⟩) (fun i => i ≤ n) (fun i => i) n ?_ ?_ ?_)
 exact C2
 exact Nat.le_refl _
 (rintro i hi)
 refine tS (tS (tR (sQ (qM rfl) rfl ?_)))
 refine sB (Y2 rfl rfl) rfl rfl (fun h25 => ?_) (fun h25 => ?_)
 refine sD (nS (qT rfl (tK (nS (tS ?_)))))
 (show H5 _ _ (.block 1 _) _ _; obtain ⟨j, rfl⟩ : ∃ j, i = j + 1 := ⟨i - 1, by omega⟩; rw [show ((j + 1 : Nat) : Int) - 1 = (j : Int) from by omega]; obtain ⟨b, o, nm1, t1, q1, d1, rfl, hat, hr1, ha1, hs1, hgb, hns1⟩ := hx.get (i := j) (by omega); refine B2 ?_)
 refine tS (tR (sQ (qM rfl) rfl (sQ (qM rfl) rfl ?_)))
 refine sP (B3 rfl rfl rfl (by omega)) rfl rfl ?_
 refine sQ (qF rfl) rfl ?_
 refine sL (Q8 rfl rfl ((hat _).sub (j := 0) rfl)) rfl rfl ?_
 refine sQ (qM rfl) rfl ?_
 refine sB (A2u rfl rfl) rfl rfl (fun h41 => ?_) (fun h41 => ?_)
 refine C5 ?_
 refine sP (B3 rfl rfl rfl (by omega)) rfl rfl ?_
 refine sQ (qF rfl) rfl ?_
 refine sL (A6 rfl rfl (hat _).drop rfl) rfl rfl ?_
 (refine M0 rfl (A0k _ G _ ha1.small hr1) rfl rfl (fun v G1 hle1 hh => ?_); obtain ⟨Y3, F1, rfl, hs1', hn1⟩ := hh; obtain ⟨p1, c1, rfl, _⟩ := hs1'.open; have hrr := hs1'.R.mono (B7.le G1 G))
 refine H9 ?_
 refine K0 (rC rfl (A3 rfl rfl)) (rT rfl) ?_
 (exact ⟨rfl, _, _, _, rfl, hrr, ha1, hs1⟩)
 refine E1 ?_
 refine sP (N1 rfl rfl (by omega) (by omega)) rfl rfl ?_
 refine sQ (qA rfl) rfl (sD ?_)
 refine J4 j ?_ ?_ ?_
 exact C2
 (show _ ≤ n; omega)
 exact Nat.le_refl _
 refine N9 ?_
 refine K0 (rC rfl (A3 rfl rfl)) (rT rfl) ?_
 (exact ⟨rfl, _, _, _, rfl, N8 _ ⟨by omega, by omega⟩, V1 (by omega) (by omega), by rw [A87]; omega⟩)
theorem A6M {G : IM} {nm : ByteArray} {k : Int} {ks : List Ty} {q : Option Addr} {d : Nat} (hr : A8 G (.mk k ks) [.int .i64 k, .slice q ks.length d]) (ha : E5 (.mk k ks)) (hs : I0 (.mk k ks) ≤ 30) (hn : nm.size ≤ 1) : RBd G [.string nm, .int .i64 k, .slice q ks.length d] := ⟨nm, .mk k ks, q, d, rfl, hr, ha, hs, hn⟩
theorem X8.snoc {G G' : IM} {p p' : Option Addr} {n c c' : Nat} {es : List (List Value)} {e : List Value} (h1 : es.length = n) (h2 : C0 G p n c 3 es) (h3 : ∀ e ∈ es, RBd G e) (hg : A7 G G') (he : RBd G' e) (hs : Sl G' p' (n + 1) c' 3 (es.flatten ++ e)) : X8 G' p' (n + 1) c' := by
 refine ⟨es ++ [e], by simp [h1], C0.of (by simpa using hs) (by simp [h1]) ?_ ?_, ?_⟩
 ·intro x hx
  rcases List.mem_append.1 hx with hx | hx
  ·obtain ⟨_, _, _, _, rfl, _⟩ := h3 x hx; rfl
  ·obtain ⟨_, _, _, _, rfl, _⟩ := he
   simp only [List.mem_singleton] at hx; subst hx; rfl
 ·intro x hx
  rcases List.mem_append.1 hx with hx | hx
  ·obtain ⟨_, _, _, _, rfl, _⟩ := h3 x hx; simp [Value.oneCell']
  ·obtain ⟨_, _, _, _, rfl, _⟩ := he
   simp only [List.mem_singleton] at hx; subst hx; simp [Value.oneCell']
 ·intro x hx
  rcases List.mem_append.1 hx with hx | hx
  ·exact (h3 x hx).mono hg
  ·simp only [List.mem_singleton] at hx; subst hx; exact he
theorem B3M (G : IM) (p : Option Addr) (n c : Nat) (nm : ByteArray) (t : Ty) (cells : List Value) (hx : X8 G p n c) (hn : n ≤ 1000) (hr : A8 G t cells) (ha : E5 t) (hs : I0 t ≤ 30) (hnm : nm.size ≤ 1) :
  Fn Tryz.prog 195 [.slice p n c, .string nm, .agg ⟨cells⟩] [] G (I8 fun G' v => ∃ p' c', v = .slice p' (n + 1) c' ∧ X8 G' p' (n + 1) c') := by
 obtain ⟨k, ks⟩ := t
 obtain ⟨q, d, es0, rfl, _⟩ := hr.open
 simp only [Ty.k, Ty.ks] at hr ⊢
 obtain ⟨es, h1, h2, h3⟩ := hx
 have hSl : Sl G p n c 3 es.flatten := h2.1
 have h1c : ∀ u ∈ es.flatten, u.oneCell' = true := by
  intro u hu
  obtain ⟨e, he, hue⟩ := List.mem_flatten.1 hu
  obtain ⟨_, _, _, _, rfl, _⟩ := h3 e he
  simp only [List.mem_cons, List.not_mem_nil, or_false] at hue
  rcases hue with rfl | rfl | rfl <;> rfl
 refine B6 Tryz.func195 rfl Tryz.ntmps195 Tryz.results195 rfl ?_
 intro w0
 refine tS (tR ?_)
 refine sE (E2 rfl rfl) rfl (fun b3 => ?_)
 refine sQ (qA rfl) rfl (sD (nS (tS ?_)))
 refine D7 D8 rfl ?_
 refine H4 (i := 1) (l' := [ff,tt,ff,ff,ff,ff,ff,ff,ff]) rfl D3 (qM rfl) rfl (by kernel_rfl) rfl rfl ?_
 refine aP 3 rfl (qM rfl) rfl ?_
 refine aL 4 rfl (A3 rfl rfl) rfl ?_
 refine aP 5 rfl (R6 rfl rfl) rfl ?_
 refine U7 (j := 0) (j' := 6) (by kernel_rfl) ?_ ?_
 (refine D6 rfl (B4 rfl rfl rfl (by omega) (by unfold maxLen; omega) rfl) rfl rfl ?_; rintro _ ⟨b14, rfl⟩)
 refine U7 (j := 2) (j' := 6) (by kernel_rfl) ?_ ?_
 (refine A29 rfl rfl rfl rfl rfl rfl (fun _ _ => by repeat (first | exact Sw.here | apply Sw.there)) hSl h1c (Nat.zero_le _) (by unfold maxLen; omega) (by omega) rfl rfl (by repeat (first | exact A4.nil | apply A4.dep (by decide +kernel) | apply A4.blk (by decide +kernel) (by repeat (first | exact Pk.here | apply Pk.there)) (by repeat first | exact mH | apply mT))) (fun p4 c4 => ?_); simp only [Nat.zero_add, List.nil_append])
 refine A2 6 ?_
 (refine D6 rfl (B4 rfl rfl rfl (by omega) (by unfold maxLen; omega) rfl) rfl rfl ?_; rintro _ ⟨b18, rfl⟩)
 refine A2 7 ?_
 (refine Q9 rfl rfl rfl rfl rfl rfl (fun _ _ => by repeat (first | exact Sw.here | apply Sw.there)) (J9 (by repeat first | exact mH | apply mT)) rfl (by simp [Value.oneCell']) (by unfold maxLen; omega) (by omega) rfl rfl (by repeat (first | exact A4.nil | apply A4.dep (by decide +kernel) | apply A4.blk (by decide +kernel) (by repeat (first | exact Pk.here | apply Pk.there)) (by repeat first | exact mH | apply mT))) (fun p5 c5 => ?_))
 refine aP 8 rfl (qA rfl) rfl ?_
 refine B9 (nS ?_)
 (refine I5 (cs := es.flatten ++ [.string nm, .int .i64 k, .slice q ks.length d]) (by repeat (first | exact Pk.here | apply Pk.there)) (fun G5 hle5 hsl5 hno5 => ?_))
 refine tT (I6 (rT rfl) ?_)
 (exact ⟨rfl, _, _, rfl, X8.snoc h1 h2 h3 hle5 (A6M (hr.mono hle5) ha hs hnm) hsl5⟩)
 (refine D6 rfl (B4 rfl rfl rfl (by omega) (by unfold maxLen; omega) rfl) rfl rfl ?_; rintro _ ⟨b28, rfl⟩)
 refine A2 2 ?_
 (refine A29 rfl rfl rfl rfl rfl rfl (fun _ _ => by repeat (first | exact Sw.here | apply Sw.there)) hSl h1c (Nat.zero_le _) (by unfold maxLen; omega) (by omega) rfl rfl (by repeat (first | exact A4.nil | apply A4.dep (by decide +kernel) | apply A4.blk (by decide +kernel) (by repeat (first | exact Pk.here | apply Pk.there)) (by repeat first | exact mH | apply mT))) (fun p4 c4 => ?_); simp only [Nat.zero_add, List.nil_append])
 refine A2 7 ?_
 (refine Q9 rfl rfl rfl rfl rfl rfl (fun _ _ => by repeat (first | exact Sw.here | apply Sw.there)) (J9 (by repeat first | exact mH | apply mT)) rfl (by simp [Value.oneCell']) (by unfold maxLen; omega) (by omega) rfl rfl (by repeat (first | exact A4.nil | apply A4.dep (by decide +kernel) | apply A4.blk (by decide +kernel) (by repeat (first | exact Pk.here | apply Pk.there)) (by repeat first | exact mH | apply mT))) (fun p5 c5 => ?_))
 refine aP 8 rfl (qA rfl) rfl ?_
 refine B9 (nS ?_)
 (refine I5 (cs := es.flatten ++ [.string nm, .int .i64 k, .slice q ks.length d]) (by repeat (first | exact Pk.here | apply Pk.there)) (fun G5 hle5 hsl5 hno5 => ?_))
 refine tT (I6 (rT rfl) ?_)
 (exact ⟨rfl, _, _, rfl, X8.snoc h1 h2 h3 hle5 (A6M (hr.mono hle5) ha hs hnm) hsl5⟩)
 (refine D6 rfl (B4 rfl rfl rfl (by omega) (by unfold maxLen; omega) rfl) rfl rfl ?_; rintro _ ⟨b40, rfl⟩)
 refine A2 0 ?_
 (refine D6 rfl (B4 rfl rfl rfl (by omega) (by unfold maxLen; omega) rfl) rfl rfl ?_; rintro _ ⟨b42, rfl⟩)
 refine A2 2 ?_
 (refine A29 rfl rfl rfl rfl rfl rfl (fun _ _ => by repeat (first | exact Sw.here | apply Sw.there)) hSl h1c (Nat.zero_le _) (by unfold maxLen; omega) (by omega) rfl rfl (by repeat (first | exact A4.nil | apply A4.dep (by decide +kernel) | apply A4.blk (by decide +kernel) (by repeat (first | exact Pk.here | apply Pk.there)) (by repeat first | exact mH | apply mT))) (fun p4 c4 => ?_); simp only [Nat.zero_add, List.nil_append])
 refine A2 7 ?_
 (refine Q9 rfl rfl rfl rfl rfl rfl (fun _ _ => by repeat (first | exact Sw.here | apply Sw.there)) (J9 (by repeat first | exact mH | apply mT)) rfl (by simp [Value.oneCell']) (by unfold maxLen; omega) (by omega) rfl rfl (by repeat (first | exact A4.nil | apply A4.dep (by decide +kernel) | apply A4.blk (by decide +kernel) (by repeat (first | exact Pk.here | apply Pk.there)) (by repeat first | exact mH | apply mT))) (fun p5 c5 => ?_))
 refine aP 8 rfl (qA rfl) rfl ?_
 refine B9 (nS ?_)
 (refine I5 (cs := es.flatten ++ [.string nm, .int .i64 k, .slice q ks.length d]) (by repeat (first | exact Pk.here | apply Pk.there)) (fun G5 hle5 hsl5 hno5 => ?_))
 refine tT (I6 (rT rfl) ?_)
 (exact ⟨rfl, _, _, rfl, X8.snoc h1 h2 h3 hle5 (A6M (hr.mono hle5) ha hs hnm) hsl5⟩)
theorem B3N (G : IM) : Fn Tryz.prog 196 [.slice none 0 0] [] G (J1 (.bool true) G) := by
 refine B6 Tryz.func196 rfl Tryz.ntmps196 Tryz.results196 rfl ?_
 intro w0
 refine J3 ?_
 refine B2 ?_
 (refine J8 (fun (_ : Nat) => ⟨[(3, .int .i64 0), (0, .slice none 0 0)], [], G⟩) (fun _ => True) (fun i => i) 0 ?_ ?_ ?_)
 ·exact C2
 ·trivial
 ·(rintro i _)
  refine N6 ?_
  refine sP (A14 rfl rfl (by omega)) rfl rfl ?_
  refine L4 ?_
  refine sP (A7R rfl rfl (by omega)) rfl rfl ?_
  refine sQ (qA rfl) rfl (sD (nS (tT (I6 (rT rfl) ?_))))
  trivial
theorem A46 {k : Int} {n : Nat} (h : D5 k = n) : (k = 6 ∨ k = 7 ∨ k = 8 ∨ k = 10 → n = 2) ∧ (k = 9 → n = 3) ∧ (k = 5 ∨ k = 11 ∨ k = 12 ∨ k = 13 → n = 1) := by
 refine ⟨?_, ?_, ?_⟩
 ·rintro (rfl | rfl | rfl | rfl)
  ·rw [show D5 6 = 2 from rfl] at h; omega
  ·rw [show D5 7 = 2 from rfl] at h; omega
  ·rw [show D5 8 = 2 from rfl] at h; omega
  ·rw [show D5 10 = 2 from rfl] at h; omega
 ·rintro rfl
  rw [show D5 9 = 3 from rfl] at h; omega
 ·rintro (rfl | rfl | rfl | rfl)
  ·rw [show D5 5 = 1 from rfl] at h; omega
  ·rw [show D5 11 = 1 from rfl] at h; omega
  ·rw [show D5 12 = 1 from rfl] at h; omega
  ·rw [show D5 13 = 1 from rfl] at h; omega
theorem B3O : ∀ (t : Ty) (d : Int), K3 t d = true → E5 t := by
 refine Ty.ind fun k ks ih d h => ?_
 obtain ⟨h1, h2⟩ := A6k h
 rw [E5]
 refine ⟨fun hk => ?_, fun h4 h5 => ?_, A3V.2 fun t ht => ?_⟩
 ·have := (N2 k).2.1 hk
  omega
 ·have h5' := N2 k
  have h6 := h5'.1
  have h7 := h5'.2.2
  omega
 ·obtain ⟨i, hi, rfl⟩ := List.getElem_of_mem ht
  exact ih _ ht _ (h2 i hi)
theorem B3P : ∀ (n : Nat) (t : Ty) (d : Int), K3 t d = true → 4 - d ≤ n → Q5 n t := by
 intro n
 induction n with
 | zero =>
  rintro ⟨k, ks⟩ d h hd
  obtain ⟨h1, h2⟩ := A6k h
  have hks : ks.length = 0 := by
   rcases Nat.eq_zero_or_pos ks.length with h0 | h0
   ·exact h0
   ·have h3 := h2 0 h0
    obtain ⟨k', ks'⟩ : Ty := ks[0]
    have h4 : ∀ (u : Ty) (d : Int), K3 u d = true → d ≤ 4 := by
     rintro ⟨a, b⟩ d hu
     rw [K3] at hu
     simp only [Bool.and_eq_true, decide_eq_true_eq] at hu
     exact hu.1.1
    have := h4 _ _ h3
    omega
  have h5 := N2 k
  have h6 := h5.2.1
  exact ⟨List.length_eq_zero_iff.1 hks, by intro h; have := h6 (.inl h); omega, by intro h; have := h6 (.inr h); omega⟩
 | succ n ih =>
  rintro ⟨k, ks⟩ d h hd
  have ha := B3O _ _ h
  rw [E5] at ha
  obtain ⟨h1, h2⟩ := A6k h
  refine ⟨ha.1, ha.2.1, fun t ht => ?_⟩
  obtain ⟨i, hi, rfl⟩ := List.getElem_of_mem ht
  exact ih _ _ (h2 i hi) (by omega)
theorem A47 {t : Ty} (h : E4 t = true) : E5 t ∧ I0 t ≤ 30 := by
 have h1 := B3P 3 t 1 h (by omega)
 have h2 := A4X h1
 have h3 : ((2 ^ (3 + 1) - 2 : Nat) : Int) = 14 := rfl
 exact ⟨h1.ar, by omega⟩
theorem B3Q {t : Ty} (h : Z5 t = true) : E5 t ∧ I0 t ≤ 30 := by
 rw [A3c h]
 exact ⟨V1 (by decide) (by decide), by rw [A5, A87]; omega⟩
theorem A6N {k : Int} {nm : ByteArray} {num : Int} {ty fr : Ty} {lb : Int} {n : Nat} (h : X7 k nm num ty fr lb n = true) : E5 ty ∧ I0 ty ≤ 30 := by
 have hn := R7.1 h
 by_cases hk : k = 5 ∨ k = 13 ∨ k = 14
 ·exact A47 (hn.2.2.2.2.2.1 hk)
 ·exact B3Q (hn.2.2.2.2.2.2.1 hk)
theorem B5.of9 {G : IM} {k : Int} {nm : ByteArray} {num tk fk : Int} {tks fks : List Ty} {lb : Int} {ks : List Tm} {q1 q2 q3 : Option Addr} {c1 c2 c3 : Nat} {es : List (List Value)} (hk : C1 k) (hnum : C1 num) (hlb : C1 lb) (hty : A8 G (.mk tk tks) [.int .i64 tk, .slice q1 tks.length c1])
  (hfr : A8 G (.mk fk fks) [.int .i64 fk, .slice q2 fks.length c2]) (hsl : C0 G q3 ks.length c3 9 es) (hkl : F4 G ks es) :
  B5 G (.mk k nm num (.mk tk tks) (.mk fk fks) lb ks) [.int .i64 k, .string nm, .int .i64 num, .int .i64 tk, .slice q1 tks.length c1, .int .i64 fk, .slice q2 fks.length c2, .int .i64 lb, .slice q3 ks.length c3] := by
 simp only [B5]
 exact ⟨_, _, q3, c3, es, rfl, hk, hnum, hlb, hty, hfr, hsl, hkl⟩
theorem A2H {k k' : Int} {nm nm' : ByteArray} {num num' : Int} {ty fr ty' fr' : Ty} {lb lb' : Int} {ks : List Tm} (h : (Tm.mk k nm num ty fr lb ks).small) (h1 : nm'.size ≤ 4294967296) (h2 : ty'.small) (h3 : fr'.small) : (Tm.mk k' nm' num' ty' fr' lb' ks).small := by
 simp only [Tm.small] at h ⊢
 exact ⟨h1, h2, h3, h.2.2.2⟩
def Tm.fit (t : Tm) (N : Nat) : Prop := t.small ∧ C9 t ≤ N
theorem A89 (br : Nat) (pb : Option Addr) (nb cb : Nat) (bs : List UInt8) (hnb : nb ≤ 2000) (p : Nat) (G : IM) (hb : Sl G pb nb cb 1 (O7 bs)) (hp : p + 100 < 1099511627776) (t : Tm) (cells : List Value) (N : Nat) (hfit : t.fit N) (hr : B5 G t cells) :
  Fn Tryz.prog 60 [.pointer (some ⟨br, 0, none⟩), .agg ⟨cells⟩] [rd br pb nb cb p] G
   (A0y br pb nb cb p 40 (fun G' v => ∃ t cells, v = .agg ⟨cells⟩ ∧ B5 G' t cells ∧ t.fit N)) := by
 have hl := hr.len
 have hone := hr.one
 obtain ⟨k, nm, num, ⟨tk, tks⟩, ⟨fk, fks⟩, lb, ks⟩ := t
 have hfit0 := hfit
 obtain ⟨hsm, hcn⟩ := hfit0
 replace hfit : (Tm.mk k nm num (.mk tk tks) (.mk fk fks) lb ks).small ∧ C9 (Tm.mk k nm num (.mk tk tks) (.mk fk fks) lb ks) ≤ N := hfit
 rw [show (Tm.mk k nm num (.mk tk tks) (.mk fk fks) lb ks).small = (nm.size ≤ 4294967296 ∧ (Ty.mk tk tks).small ∧ (Ty.mk fk fks).small ∧ ks.length ≤ 4294967296 ∧ Tm.smallL ks) from by rw [Tm.small]] at hfit
 refine B6 Tryz.func60 rfl Tryz.ntmps60 Tryz.results60 rfl ?_
 intro w0
 refine tS (tR ?_)
 refine sE (E2 rfl rfl) rfl (fun b3 => ?_)
 refine sE (B0 rfl) rfl (fun b4 => ?_)
 refine sD (nS (tS (tR ?_)))
 refine sL (A6 rfl rfl (H0 (by repeat first | exact mH | apply mT)) (by assumption)) rfl rfl ?_
 (refine M0 rfl (B2O _ G cells hsm hr) rfl rfl (fun v G1 hle1 hh => ?_); obtain ⟨cells1, F1, rfl, hs1, hn1⟩ := hh; have hr1 := hs1.R.mono (B7.le G1 G); obtain ⟨q1, c1, q2, c2, q3, c3, es, rfl, hk, hnum, hlb, hty, hfr, hsl, hkl⟩ := hr1.open9)
 refine sE (B0 rfl) rfl (fun b11 => ?_)
 refine I1 ?_
 refine sD (nS (tS (tS (tR (sQ (qM rfl) rfl ?_)))))
 (refine C6 rfl (Y6 _ br pb nb cb p bs 50 (hb.mono hle1) hnb (by omega)) (Pk.perm (by repeat (first | exact Pk.here | apply Pk.there))) rfl rfl (fun v G2 outs hle2 hh => ?_); obtain ⟨rfl, rfl, j, rfl, hj0, hj1⟩ := hh; replace hb := hb.mono hle1)
 refine sD (nS ?_)
 (show H5 _ _ (.block 0 _) _ _; refine A0n (fun (x : List Value × Nat × IM) => ⟨[(5, .pointer (some ⟨b11, 0, none⟩)), (4, .pointer (some ⟨b4, 0, none⟩))], [.blk b11 x.1, .blk b4 [.int .i64 0, .string ⟨⟨[]⟩⟩, .int .i64 0, .int .i64 0, .slice none 0 0, .int .i64 0, .slice none 0 0, .int .i64 0, .slice none 0 0], rd br pb nb cb x.2.1], x.2.2⟩) (fun x => A7 G2 x.2.2 ∧ p ≤ x.2.1 ∧ x.2.1 ≤ p + 40 ∧ ∃ t, B5 x.2.2 t x.1 ∧ t.small ∧ C9 t = C9 (.mk k nm num (.mk tk tks) (.mk fk fks) lb ks)) ?_ ?_)
 refine B2 (tS (tR (sB (qE rfl rfl) rfl rfl (fun h26 => ?_) (fun h26 => ?_))))
 refine sQ (qA rfl) rfl (sD (nS (qT rfl (tR (sQ (qM rfl) rfl ?_)))))
 (refine E9 (B4 rfl rfl rfl (by omega) (by unfold maxLen; omega) rfl) rfl ?_; rintro _ ⟨b33, rfl⟩)
 (refine S9 (by repeat (first | exact Pk.here | apply Pk.there)) (fun G4 hle4 hsl4 _ => ?_); refine C6 rfl (A0o G4 br pb nb cb (p + 1) bs _ _ _ _ (hb.mono hle4) hnb (by omega) hsl4 (by decide)) (Pk.perm (by repeat (first | exact Pk.here | apply Pk.there))) rfl rfl (fun v G5 outs hle5 hh => ?_); obtain ⟨rfl, rfl, hv⟩ := hh; obtain ⟨k', rfl, hk'⟩ : ∃ k', v = .int .i64 k' ∧ C1 k' := (by simp only [List.mem_cons, List.not_mem_nil, or_false] at hv; rcases hv with rfl | rfl | rfl | rfl | rfl | rfl <;> exact ⟨_, rfl, by unfold C1; omega⟩))
 refine sQ (B1 rfl) rfl (I1 ?_)
 refine sD (M2 ?_)
 refine P6 ([.int .i64 k', .string nm, .int .i64 num, .int .i64 tk, .slice q1 tks.length c1, .int .i64 fk, .slice q2 fks.length c2, .int .i64 lb, .slice q3 ks.length c3], p + 1 + 1, G5) (M4 (by repeat (first | exact C8.nil | refine C8.cons rfl ?_)) (by repeat (first | exact A0.refl | exact A0.nil | refine A0.cons (by repeat (first | exact Pk.here | apply Pk.there)) ?_ | apply A0.drop))) ?_
 (dsimp only; exact ⟨hle4, by omega, by omega, _, B5.of9 hk' hnum hlb (hty.mono hle4) (hfr.mono hle4) (hsl.mono hle4) (hkl.mono hle4), A2H hsm hfit.1.1 hfit.1.2.1 hfit.1.2.2.1, rfl⟩)
 refine sQ (qA rfl) rfl (sD (nS (cF rfl (tS (tR ?_)))))
 refine sB (qE rfl rfl) rfl rfl (fun h47 => ?_) (fun h47 => ?_)
 refine sQ (qA rfl) rfl (sD (nS (qT rfl (tR (sQ (qM rfl) rfl ?_)))))
 (refine E9 (B4 rfl rfl rfl (by omega) (by unfold maxLen; omega) rfl) rfl ?_; rintro _ ⟨b54, rfl⟩)
 (refine S9 (by repeat (first | exact Pk.here | apply Pk.there)) (fun G4 hle4 hsl4 _ => ?_); refine C6 rfl (A6B G4 br pb nb cb (p + 1) bs _ _ _ _ (hb.mono hle4) hnb (by omega) hsl4 (by decide)) (Pk.perm (by repeat (first | exact Pk.here | apply Pk.there))) rfl rfl (fun v G5 outs hle5 hh => ?_); obtain ⟨rfl, rfl, hv⟩ := hh; obtain ⟨nm', rfl, hnm'⟩ : ∃ nm', v = .string nm' ∧ nm'.size ≤ 2 := (by simp only [List.mem_cons, List.not_mem_nil, or_false] at hv; rcases hv with rfl | rfl | rfl | rfl <;> exact ⟨_, rfl, by decide⟩))
 refine sQ (B1 rfl) rfl (I1 ?_)
 refine sD (M2 ?_)
 refine P6 ([.int .i64 k, .string nm', .int .i64 num, .int .i64 tk, .slice q1 tks.length c1, .int .i64 fk, .slice q2 fks.length c2, .int .i64 lb, .slice q3 ks.length c3], p + 1 + 1, G5) (M4 (by repeat (first | exact C8.nil | refine C8.cons rfl ?_)) (by repeat (first | exact A0.refl | exact A0.nil | refine A0.cons (by repeat (first | exact Pk.here | apply Pk.there)) ?_ | apply A0.drop))) ?_
 (dsimp only; exact ⟨hle4, by omega, by omega, _, B5.of9 hk hnum hlb (hty.mono hle4) (hfr.mono hle4) (hsl.mono hle4) (hkl.mono hle4), A2H hsm (by omega) hfit.1.2.1 hfit.1.2.2.1, rfl⟩)
 refine sQ (qA rfl) rfl (sD (nS (cF rfl (tS (tR ?_)))))
 refine sB (qE rfl rfl) rfl rfl (fun h68 => ?_) (fun h68 => ?_)
 refine sQ (qA rfl) rfl (sD (nS (qT rfl (tR (sQ (qM rfl) rfl ?_)))))
 (refine E9 (B4 rfl rfl rfl (by omega) (by unfold maxLen; omega) rfl) rfl ?_; rintro _ ⟨b75, rfl⟩)
 (refine S9 (by repeat (first | exact Pk.here | apply Pk.there)) (fun G4 hle4 hsl4 _ => ?_); refine C6 rfl (A0o G4 br pb nb cb (p + 1) bs _ _ _ _ (hb.mono hle4) hnb (by omega) hsl4 (by decide)) (Pk.perm (by repeat (first | exact Pk.here | apply Pk.there))) rfl rfl (fun v G5 outs hle5 hh => ?_); obtain ⟨rfl, rfl, hv⟩ := hh; obtain ⟨k', rfl, hk'⟩ : ∃ k', v = .int .i64 k' ∧ C1 k' := (by simp only [List.mem_cons, List.not_mem_nil, or_false] at hv; rcases hv with rfl | rfl | rfl | rfl | rfl | rfl <;> exact ⟨_, rfl, by unfold C1; omega⟩))
 refine sQ (B1 rfl) rfl (I1 ?_)
 refine sD (M2 ?_)
 refine P6 ([.int .i64 k, .string nm, .int .i64 k', .int .i64 tk, .slice q1 tks.length c1, .int .i64 fk, .slice q2 fks.length c2, .int .i64 lb, .slice q3 ks.length c3], p + 1 + 1, G5) (M4 (by repeat (first | exact C8.nil | refine C8.cons rfl ?_)) (by repeat (first | exact A0.refl | exact A0.nil | refine A0.cons (by repeat (first | exact Pk.here | apply Pk.there)) ?_ | apply A0.drop))) ?_
 (dsimp only; exact ⟨hle4, by omega, by omega, _, B5.of9 hk hk' hlb (hty.mono hle4) (hfr.mono hle4) (hsl.mono hle4) (hkl.mono hle4), A2H hsm hfit.1.1 hfit.1.2.1 hfit.1.2.2.1, rfl⟩)
 refine sQ (qA rfl) rfl (sD (nS (cF rfl (tS (tR ?_)))))
 refine sB (qE rfl rfl) rfl rfl (fun h89 => ?_) (fun h89 => ?_)
 refine C5 ?_
 (refine C6 rfl (B3x br pb nb cb bs hnb (p + 1) _ hb (by omega)) (Pk.perm (by repeat (first | exact Pk.here | apply Pk.there))) rfl rfl (fun v G3 outs hle3 hh => ?_); obtain ⟨p3, hp31, hp32, rfl, t3, cells3, rfl, hr3, hs3⟩ := hh)
 (refine C6 rfl (B3z br pb nb cb bs hnb p3 _ (hb.mono hle3) (by omega) t3 cells3 hr3 hs3) (Pk.perm (by repeat (first | exact Pk.here | apply Pk.there))) rfl rfl (fun v G4 outs hle4 hh => ?_); obtain ⟨p4, hp41, hp42, rfl, t4, cells4, rfl, hr4, hs4⟩ := hh; have hts4 := A3N t4 (by omega); obtain ⟨t4k, t4s⟩ := t4; obtain ⟨q4, c4, es4, rfl, _⟩ := hr4.open; have hle24 := hle3.trans hle4)
 refine sQ (B1 rfl) rfl (I1 ?_)
 refine sD (M2 ?_)
 refine P6 ([.int .i64 k, .string nm, .int .i64 num, .int .i64 t4k, .slice q4 t4s.length c4, .int .i64 fk, .slice q2 fks.length c2, .int .i64 lb, .slice q3 ks.length c3], p4, G4) (M4 (by repeat (first | exact C8.nil | refine C8.cons rfl ?_)) (by repeat (first | exact A0.refl | exact A0.nil | refine A0.cons (by repeat (first | exact Pk.here | apply Pk.there)) ?_ | apply A0.drop))) ?_
 (dsimp only; exact ⟨hle24, by omega, by omega, _, B5.of9 hk hnum hlb hr4 (hfr.mono hle24) (hsl.mono hle24) (hkl.mono hle24), A2H hsm hfit.1.1 hts4 hfit.1.2.2.1, rfl⟩)
 refine sQ (qA rfl) rfl (sD (nS (cF rfl (tS (tR ?_)))))
 refine sB (qE rfl rfl) rfl rfl (fun h111 => ?_) (fun h111 => ?_)
 refine E8 ?_
 refine P6 ([.int .i64 k, .string nm, .int .i64 num, .int .i64 tk, .slice q1 tks.length c1, .int .i64 fk, .slice q2 fks.length c2, .int .i64 1, .slice q3 ks.length c3], p + 1, G2) (M4 (by repeat (first | exact C8.nil | refine C8.cons rfl ?_)) (by repeat (first | exact A0.refl | exact A0.nil | refine A0.cons (by repeat (first | exact Pk.here | apply Pk.there)) ?_ | apply A0.drop))) ?_
 (dsimp only; exact ⟨A7.refl _, by omega, by omega, _, B5.of9 hk hnum ⟨by omega, by omega⟩ hty hfr hsl hkl, A2H hsm hfit.1.1 hfit.1.2.1 hfit.1.2.2.1, rfl⟩)
 refine sQ (qA rfl) rfl (sD (nS (cF rfl (tS (tR ?_)))))
 refine sB (qE rfl rfl) rfl rfl (fun h129 => ?_) (fun h129 => ?_)
 refine sQ (qA rfl) rfl (sD (nS (qT rfl (tR ?_))))
 refine H6 rfl ((A1R _)) rfl rfl ?_
 refine sQ (B1 rfl) rfl (I1 ?_)
 refine sD (M2 ?_)
 refine P6 ([.int .i64 k, .string nm, .int .i64 num, .int .i64 tk, .slice q1 tks.length c1, .int .i64 1, .slice none 0 0, .int .i64 lb, .slice q3 ks.length c3], p + 1, G2) (M4 (by repeat (first | exact C8.nil | refine C8.cons rfl ?_)) (by repeat (first | exact A0.refl | exact A0.nil | refine A0.cons (by repeat (first | exact Pk.here | apply Pk.there)) ?_ | apply A0.drop))) ?_
 (dsimp only; exact ⟨A7.refl _, by omega, by omega, _, B5.of9 hk hnum hlb hty (A1o _) hsl hkl, A2H hsm hfit.1.1 hfit.1.2.1 (by simp [Ty.small, Ty.smallL]), rfl⟩)
 refine sQ (qA rfl) rfl (sD (nS (cF rfl (tK (M2 ?_)))))
 refine P6 ([.int .i64 k, .string nm, .int .i64 num, .int .i64 tk, .slice q1 tks.length c1, .int .i64 fk, .slice q2 fks.length c2, .int .i64 lb, .slice q3 ks.length c3], p + 1, G2) (M4 (by repeat (first | exact C8.nil | refine C8.cons rfl ?_)) (by repeat (first | exact A0.refl | exact A0.nil | refine A0.cons (by repeat (first | exact Pk.here | apply Pk.there)) ?_ | apply A0.drop))) ?_
 (dsimp only; exact ⟨A7.refl _, by omega, by omega, _, B5.of9 hk hnum hlb hty hfr hsl hkl, A2H hsm hfit.1.1 hfit.1.2.1 hfit.1.2.2.1, rfl⟩)
 (rintro ⟨cells9, p9, G9⟩ ⟨hle9, hp9, hp9', t9, hr9, hs9, hc9⟩; simp only [] at hle9 hp9 hp9' hr9 hs9 hc9 ⊢; have hl9 := hr9.len; have ho9 := hr9.one)
 refine tS (tR ?_)
 refine sL (A6 rfl rfl (H0 (by repeat first | exact mH | apply mT)) hl9) rfl rfl ?_
 refine sS rfl rfl rfl hl9 ho9 rfl ?_ (hu := by exact O5 hl9.symm)
 refine sD (nS (tT ?_))
 refine E3 (outs := [rd br pb nb cb p9]) (rC rfl (A6 rfl rfl (H0 (by repeat first | exact mH | apply mT)) hl9)) (by repeat (first | exact A0.nil | refine A0.cons Pk.here ?_ | refine A0.cons (Pk.there Pk.here) ?_ | refine A0.cons (Pk.there (Pk.there Pk.here)) ?_ | apply A0.drop)) ?_
 (exact ⟨p9, by omega, by omega, rfl, t9, cells9, rfl, hr9, hs9, by omega⟩)
def TyV (e : Tm) (G : IM) : IM → Value → List A1 → Prop := I8 fun G' v => ∃ t cells b, v = .tuple ⟨[.agg ⟨cells⟩, .bool b]⟩ ∧ A8 G' t cells ∧ E5 t ∧ I0 t ≤ 960 ∧ (b = true → O6 e = true)
theorem B3R {G : IM} {e : Tm} {ce : List Value} {p : Option Addr} {c : Nat} (hr : B5 G e ce) (hs : Sl G p 1 c 9 ce) : C0 G p [e].length c 9 [ce] ∧ F4 G [e] [ce] := by
 refine ⟨C0.of (by simpa using hs) rfl (fun x hx => by simp only [List.mem_singleton] at hx; subst hx; exact hr.len) (fun x hx => by simp only [List.mem_singleton] at hx; subst hx; exact hr.one), ?_⟩
 simp only [F4]
 exact ⟨ce, [], rfl, hr, rfl⟩
def B7P (e : Tm) (label : Int) (G : IM) : IM → Value → List A1 → Prop := I8 fun G' v => ∃ u cu l', v = .tuple ⟨[.agg ⟨cu⟩, .int .i64 l']⟩ ∧ B5 G' u cu ∧ (e.small → u.small) ∧ C9 u ≤ C9 e + 1 ∧ label ≤ l' ∧ l' ≤ label + 1
def B7Q (n : Nat) (G : IM) : IM → Value → List A1 → Prop := I8 fun G' v => ∃ p c es ws, v = .slice p n c ∧ ws.length = n ∧ C0 G' p n c 2 es ∧ C3 G' ws es ∧ ∀ w ∈ ws, E5 w
theorem F4.at2 {G : IM} {ts : List Tm} {es : List (List Value)} {i : Nat} (h : F4 G ts es) (h1 : i < ts.length) (h2 : i < es.length) : i < es.length ∧ B5 G ts[i] es[i] := by
 have := (h.inv (List.getElem?_eq_getElem h2) I2).2
 rw [List.getD_eq_getElem?_getD, List.getElem?_eq_getElem h1] at this
 exact ⟨h2, this⟩
theorem A9a {hp : List A1} {G : IM} {b sz i : Nat} {es : List (List Value)} {C : List Value} (hm : A1.blk b (es.flatten ++ C) ∈ hp) (hi : i < es.length) (ha : ∀ e ∈ es, e.length = sz) : At hp G b (0 + i * sz) es[i] := by
 refine .inl ⟨_, hm, fun j u hu => ?_⟩
 rw [A8N hi, List.append_assoc, List.append_assoc]
 have hl : (es.take i).flatten.length = i * sz := by
  rw [A17 (fun e he => ha e (List.mem_of_mem_take he)), List.length_take, Nat.min_eq_left (by omega)]
 have hj : j < es[i].length := (List.getElem?_eq_some_iff.1 hu).1
 rw [List.getElem?_append_right (by omega), show 0 + i * sz + j - (es.take i).flatten.length = j by omega, List.getElem?_append_left hj]
 exact hu
def B7R (e : Tm) (label : Int) (G : IM) : IM → Value → List A1 → Prop := I8 fun G' v => ∃ u cu t ct l', v = .tuple ⟨[.agg ⟨cu⟩, .agg ⟨ct⟩, .int .i64 l']⟩ ∧ B5 G' u cu ∧ u.small ∧ C9 u + 1 ≤ 2 * C9 e ∧ A8 G' t ct ∧ E5 t ∧ I0 t ≤ 32 * (C9 e : Int) ∧ label ≤ l' ∧ l' + 1 ≤ label + 2 * (C9 e : Int)
theorem A0B : ∀ {ks : List Tm} {i : Nat} (h : i < ks.length), D2 (ks.take (i + 1)) = D2 (ks.take i) + C9 ks[i]
 | [], i, h => by simp at h
 | t :: ts, 0, h => by simp [D2]
 | t :: ts, i + 1, h => by
  have := A0B (ks := ts) (i := i) (by simpa using h)
  simp only [List.take_succ_cons, D2, List.getElem_cons_succ, this]
  omega
theorem A0C : ∀ (ks : List Tm) (i : Nat), D2 (ks.take i) ≤ D2 ks
 | [], i => by simp [D2]
 | t :: ts, 0 => by simp [D2]
 | t :: ts, i + 1 => by
  have := A0C ts i
  simp only [List.take_succ_cons, D2]
  omega
theorem B3S (G : IM) : O9 G O4 [.int .i64 1, .slice none 0 0] [] := by
 simp only [O4, O9, N5]
 exact ⟨none, 0, [], [], rfl, ⟨by omega, by omega⟩, C0.nil _ _, ⟨rfl, rfl⟩, rfl, by simp [H1]⟩
theorem B3T (G : IM) : O9 G A5 [.int .i64 0, .slice none 0 0] [] := by
 simp only [A5, O9, N5]
 exact ⟨none, 0, [], [], rfl, ⟨by omega, by omega⟩, C0.nil _ _, ⟨rfl, rfl⟩, rfl, by simp [H1]⟩
theorem B3U (t : Tm) (G0 G1 : IM) (cells : List Value) (F : List Nat) (hQ : A2E t) (hle : A7 G0 G1) (hs : P0 (B7 G1 G0) t cells F) (hn : F.Nodup) :
  Fn Tryz.prog 122 [.agg ⟨cells⟩] [] G1 (I8 fun G2 v => G2 = G1 ∧ ∃ cells' F', v = .agg ⟨cells'⟩ ∧ P0 (B7 G1 G0) (A0A t) cells' F' ∧ F'.Nodup) := by
 obtain ⟨k, nm, num, ty, fr, lb, ks⟩ := t
 have hs0 := hs
 rw [A2E] at hQ
 have hbA : k = 13 ∨ k = 14 → A0A (.mk k nm num ty fr lb ks) = ks.headD I2 := fun h => by rw [A0A, if_pos h]
 have hbB : k = 5 → A0A (.mk k nm num ty fr lb ks) = .mk k nm num O4 fr lb ks := fun h => by rw [A0A, if_neg (by omega), if_pos h]
 have hbC : ¬(k = 13 ∨ k = 14) → k ≠ 5 → A0A (.mk k nm num ty fr lb ks) = .mk k nm num ty fr lb ks := fun h h' => by rw [A0A, if_neg h, if_neg h']
 simp only [P0] at hs
 obtain ⟨tc, fc, p, c, es, F1, F2, Fs, rfl, hk, hnum, hlb, hty, hfr, hsl, hkl, rfl, hin⟩ := hs
 obtain ⟨pt, ct, rfl, htk, hts⟩ := hty.open
 obtain ⟨pf, cf, rfl, hfk, hfs⟩ := hfr.open
 have hslG := hsl.mono (B7.le G1 G0)
 have hnd := hn
 rw [List.nodup_append, List.nodup_append] at hnd
 obtain ⟨n1, ⟨n2, n3, n4⟩, n5⟩ := hnd
 have hB : P0 (B7 G1 G0) (.mk k nm num O4 fr lb ks) [.int .i64 k, .string nm, .int .i64 num, .int .i64 1, .slice none 0 0, .int .i64 fr.k, .slice pf fr.ks.length cf, .int .i64 lb, .slice p ks.length c] ([] ++ (F2 ++ (H1 p ++ Fs))) := by
  simp only [P0]
  exact ⟨[.int .i64 1, .slice none 0 0], [.int .i64 fr.k, .slice pf fr.ks.length cf], p, c, es, [], F2, Fs, rfl, hk, hnum, hlb, B3S _, hfr, hsl, hkl, rfl, hin⟩
 have hBn : ([] ++ (F2 ++ (H1 p ++ Fs))).Nodup := by
  rw [List.nil_append, List.nodup_append]; exact ⟨n2, n3, n4⟩
 refine B6 Tryz.func122 rfl Tryz.ntmps122 Tryz.results122 rfl ?_
 intro w0
 refine tS (tR ?_)
 refine sE (E2 rfl rfl) rfl (fun b3 => ?_)
 refine sE (B0 rfl) rfl (fun b4 => ?_)
 refine E8 ?_
 refine B2 (tS (tS (tR (sB (qE rfl rfl) rfl rfl (fun h18 => ?_) (fun h18 => ?_)))))
 refine J3 ?_
 (obtain ⟨x, xs, rfl⟩ : ∃ x xs, ks = x :: xs := List.exists_cons_of_ne_nil (hQ (by omega)); simp only [L8] at hkl; obtain ⟨e0, es0, Fa, Fb, rfl, hx, hxs, rfl⟩ := hkl; obtain ⟨e', b, o, he', rfl, hl, _, hat, _⟩ := hslG.get (i := 0) (by simp); simp only [List.getElem?_cons_zero, Option.some.injEq] at he'; subst he'; refine sP (B3 (j := 0) rfl rfl rfl (by simp)) rfl rfl ?_)
 refine sL (A6 rfl rfl (hat _) hl) rfl rfl ?_
 refine sS rfl rfl rfl hl hx.R.one rfl ?_ (hu := by exact O5 hl.symm)
 refine sD (nS (tT (rB (rS ?_))))
 refine I6 (rC rfl (A6 rfl rfl (H0 (by repeat first | exact mH | apply mT)) hl)) ?_
 (rw [hbA (by omega)]; exact ⟨rfl, rfl, _, _, rfl, hx, by rw [List.nodup_append, List.nodup_append] at n3; exact n3.2.1.1⟩)
 refine sQ (qA rfl) rfl (sD (nS (cF rfl (tR ?_))))
 refine sB (qE rfl rfl) rfl rfl (fun h45 => ?_) (fun h45 => ?_)
 refine E1 ?_
 (obtain ⟨x, xs, rfl⟩ : ∃ x xs, ks = x :: xs := List.exists_cons_of_ne_nil (hQ (by omega)); simp only [L8] at hkl; obtain ⟨e0, es0, Fa, Fb, rfl, hx, hxs, rfl⟩ := hkl; obtain ⟨e', b, o, he', rfl, hl, _, hat, _⟩ := hslG.get (i := 0) (by simp); simp only [List.getElem?_cons_zero, Option.some.injEq] at he'; subst he'; refine sP (B3 (j := 0) rfl rfl rfl (by simp)) rfl rfl ?_)
 refine sL (A6 rfl rfl (hat _) hl) rfl rfl ?_
 refine sS rfl rfl rfl hl hx.R.one rfl ?_ (hu := by exact O5 hl.symm)
 refine sD (nS (tT (rB (rS ?_))))
 refine I6 (rC rfl (A6 rfl rfl (H0 (by repeat first | exact mH | apply mT)) hl)) ?_
 (rw [hbA (by omega)]; exact ⟨rfl, rfl, _, _, rfl, hx, by rw [List.nodup_append, List.nodup_append] at n3; exact n3.2.1.1⟩)
 refine sQ (qA rfl) rfl (sD (nS (cF rfl (tS (tR ?_)))))
 refine sB (qE rfl rfl) rfl rfl (fun h70 => ?_) (fun h70 => ?_)
 refine sQ (qA rfl) rfl (sD (nS (qT rfl (tR ?_))))
 refine H6 rfl (A3P _ _) rfl rfl ?_
 refine L4 ?_
 refine I6 (rC rfl (A3 rfl rfl)) ?_
 (rw [hbB (by omega)]; exact ⟨rfl, rfl, _, _, rfl, hB, hBn⟩)
 refine M5 ?_
 refine I6 (rC rfl (A3 rfl rfl)) ?_
 (rw [hbC (by omega) (by omega)]; exact ⟨rfl, rfl, _, _, rfl, hs0, hn⟩)
theorem B3V : A8B A0A A2E 122 [] [] := fun t G0 G1 cells F hQ hle hs hn =>
 (B3U t G0 G1 cells F hQ hle hs hn).mono fun G' v outs _ ⟨h1, h2, c', F', h3, h4, h5⟩ => ⟨h1, c', F', h3, by rw [h2]; exact h4, h5⟩
theorem B3W (t : Tm) (G : IM) (cells : List Value) (D N : Int) (hv : I9 D N t 1 = true) (hts : t.small) (hr : B5 G t cells) : Fn Tryz.prog 63 [.agg ⟨cells⟩] [] G (A4N (D0 t) G) := by
 have hl := hr.len
 have hone := hr.one
 obtain ⟨e1, e2⟩ := A8V D N t 1 hv
 have hM := B2P A0A A2E 122 [] [] B3V t G cells e2 hts hr
 rw [e1] at hM
 refine B6 Tryz.func63 rfl Tryz.ntmps63 Tryz.results63 rfl ?_
 intro w0
 refine tS (tR ?_)
 refine sE (E2 rfl rfl) rfl (fun b3 => ?_)
 refine sE (B0 rfl) rfl (fun b4 => ?_)
 refine sD (nS (tS (tR ?_)))
 refine sL (A6 rfl rfl (H0 (by repeat first | exact mH | apply mT)) (by assumption)) rfl rfl ?_
 (refine M0 rfl hM rfl rfl (fun v G3 hle3 hh => ?_); obtain ⟨cells', F', rfl, hs', hnd'⟩ := hh; have hl' := hs'.R.len; have ho' := hs'.R.one)
 refine sS rfl rfl rfl hl' ho' rfl ?_ (hu := by exact O5 hl'.symm)
 refine sD (nS (tT ?_))
 refine I6 (rC rfl (A6 rfl rfl (H0 (by repeat first | exact mH | apply mT)) hl')) ?_
 exact ⟨rfl, cells', F', rfl, hs', hnd'⟩
def B7S (t : Tm) : Tm × Bool := if O6 t = true ∨ W4 t = true then (D0 t, true) else (I2, false)
theorem A08.leaf {G : IM} {k : Int} {nm : ByteArray} {num x : Int} {ks : List Tm} {p : Option Addr} {c : Nat} {F : List Nat} (h : A08 G ks p c F) (hk : C1 k) (hnum : C1 num) (hx : C1 x) :
  P0 G (.mk k nm num (.mk x []) A5 0 ks) [.int .i64 k, .string nm, .int .i64 num, .int .i64 x, .slice none 0 0, .int .i64 0, .slice none 0 0, .int .i64 0, .slice p ks.length c] F := by
 obtain ⟨es, Fs, h1, h2, rfl, h4⟩ := h
 have hT : O9 G (.mk x []) [.int .i64 x, .slice none 0 0] [] := by
  simp only [O9, N5]
  exact ⟨none, 0, [], [], rfl, hx, C0.nil _ _, ⟨rfl, rfl⟩, rfl, by simp [H1]⟩
 simp only [P0]
 exact ⟨[.int .i64 x, .slice none 0 0], [.int .i64 0, .slice none 0 0], p, c, es, [], [], Fs, rfl, hk, hnum, ⟨by omega, by omega⟩, hT, B3T G, h1, h2, rfl, h4⟩
theorem B3X {k : Int} {nm : ByteArray} {num : Int} {ty fr : Ty} {lb : Int} {ks : List Tm} (h : k = 13 ∨ k = 14) (h0 : 0 < ks.length) : D0 (.mk k nm num ty fr lb ks) = D0 ks[0] := by
 cases ks with
 | nil => simp at h0
 | cons x xs => rw [D0, if_pos h, C4]; rfl
theorem B3Y {k : Int} {nm : ByteArray} {num : Int} {ty fr : Ty} {lb : Int} {ks : List Tm} {x : Int} (h : ¬(k = 13 ∨ k = 14)) (hx : x = if k = 5 then 1 else 0) : D0 (.mk k nm num ty fr lb ks) = .mk k nm num (.mk x []) A5 0 (C4 ks) := by
 rw [D0, if_neg h, hx]
 by_cases h5 : k = 5
 ·rw [if_pos h5, if_pos h5]; rfl
 ·rw [if_neg h5, if_neg h5]; rfl
theorem B3Z (D N : Int) : ∀ (t : Tm) (d : Int) (G : IM) (cells : List Value), I9 D N t d = true → t.small → B5 G t cells →
  Fn Tryz.prog 66 [.agg ⟨cells⟩] [] G (A4N (D0 t) G) := by
 refine Tm.ind fun k nm num ty fr lb ks ih d G cells hv hts hr => ?_
 have hone := hr.one
 obtain ⟨hv1, hv2, hv3, hv4⟩ := R8 hv
 have hvk := (A0U D N ks _).1 hv4
 have har := (R7.1 hv3).1
 have hk0 : k = 13 ∨ k = 14 → 0 < ks.length := by
  rintro (rfl | rfl)
  ·rw [show D5 13 = 1 from rfl] at har; omega
  ·rw [show D5 14 = 1 from rfl] at har; omega
 simp only [Tm.small] at hts
 obtain ⟨hnm, hty', hfr', hsm, hks⟩ := hts
 obtain ⟨tk, tks⟩ := ty
 obtain ⟨fk, fks⟩ := fr
 obtain ⟨pt, ct, pf, cf, p, c, es, rfl, hk, hnum, hlb, hty, hfr, hsl, hkl⟩ := hr.open9
 have hn := hsl.le
 have hlen : (C4 ks).length = ks.length := by rw [A1S, List.length_map]
 have hget : ∀ i (h : i < ks.length) (h' : i < (C4 ks).length), (C4 ks)[i] = D0 ks[i] := fun i h h' => by simp [A1S]
 have hB1 := fun h h0 => @B3X k nm num (.mk tk tks) (.mk fk fks) lb ks h h0
 have hB2 := fun x h hx => @B3Y k nm num (.mk tk tks) (.mk fk fks) lb ks x h hx
 refine B6 Tryz.func66 rfl Tryz.ntmps66 Tryz.results66 rfl ?_
 intro w0
 refine tS (tR ?_)
 refine sE (E2 rfl rfl) rfl (fun b3 => ?_)
 refine sE (B0 rfl) rfl (fun b4 => ?_)
 refine C5 ?_
 refine sB (qE rfl rfl) rfl rfl (fun h12 => ?_) (fun h12 => ?_)
 refine L4 ?_
 (have hk00 := hk0 (by omega); obtain ⟨b, o, e, rfl, hl, hat, hre, hgb⟩ := hsl.kidTm hkl (i := 0) hk00 hk00; have hK := ih ks[0] (List.getElem_mem _) _ G _ (hvk 0 hk00) (Tm.smallL_mem hks _ (List.getElem_mem _)) hre; rw [← hB1 (by omega) hk00] at hK; refine sP (B3 (j := 0) rfl rfl rfl (by omega)) rfl rfl ?_)
 refine sL (A6 rfl rfl (hat _) hl) rfl rfl ?_
 (refine M0 rfl hK rfl rfl (fun v G3 hle3 hh => ?_); obtain ⟨cells', F', rfl, hs', hnd'⟩ := hh; have hl' := hs'.R.len; have ho' := hs'.R.one)
 refine sS rfl rfl rfl hl' ho' rfl ?_ (hu := by exact O5 hl'.symm)
 refine sD (nS (tT (rS ?_)))
 refine I6 (rC rfl (A6 rfl rfl (H0 (by repeat first | exact mH | apply mT)) hl')) ?_
 exact ⟨rfl, cells', F', rfl, hs', hnd'⟩
 refine M3 ?_
 refine sB (qE rfl rfl) rfl rfl (fun h38 => ?_) (fun h38 => ?_)
 refine E1 ?_
 (have hk00 := hk0 (by omega); obtain ⟨b, o, e, rfl, hl, hat, hre, hgb⟩ := hsl.kidTm hkl (i := 0) hk00 hk00; have hK := ih ks[0] (List.getElem_mem _) _ G _ (hvk 0 hk00) (Tm.smallL_mem hks _ (List.getElem_mem _)) hre; rw [← hB1 (by omega) hk00] at hK; refine sP (B3 (j := 0) rfl rfl rfl (by omega)) rfl rfl ?_)
 refine sL (A6 rfl rfl (hat _) hl) rfl rfl ?_
 (refine M0 rfl hK rfl rfl (fun v G3 hle3 hh => ?_); obtain ⟨cells', F', rfl, hs', hnd'⟩ := hh; have hl' := hs'.R.len; have ho' := hs'.R.one)
 refine sS rfl rfl rfl hl' ho' rfl ?_ (hu := by exact O5 hl'.symm)
 refine sD (nS (tT (rS ?_)))
 refine I6 (rC rfl (A6 rfl rfl (H0 (by repeat first | exact mH | apply mT)) hl')) ?_
 exact ⟨rfl, cells', F', rfl, hs', hnd'⟩
 refine J5 ?_
 refine sE (B0 rfl) rfl (fun b72 => ?_)
 refine E1 ?_
 refine sB (qE rfl rfl) rfl rfl (fun h81 => ?_) (fun h81 => ?_)
 refine sD (nS ?_)
 (show H5 _ _ (.cond (.tmp 27) _ _) _ _; refine A0n (fun (x : Int) => ⟨[(3, .pointer (some ⟨b72, 0, none⟩)), (1, .pointer (some ⟨b3, 0, none⟩)), (2, .pointer (some ⟨b4, 0, none⟩))], [.blk b72 [.int .i64 k, .string nm, .int .i64 num, .int .i64 x, .slice none 0 0, .int .i64 0, .slice none 0 0, .int .i64 0, .slice none 0 0], .blk b4 [.int .i64 0, .string ⟨⟨[]⟩⟩, .int .i64 0, .int .i64 0, .slice none 0 0, .int .i64 0, .slice none 0 0, .int .i64 0, .slice none 0 0], .blk b3 [.int .i64 k, .string nm, .int .i64 num, .int .i64 tk, .slice pt tks.length ct, .int .i64 fk, .slice pf fks.length cf, .int .i64 lb, .slice p ks.length c]], G⟩) (fun x => x = if k = 5 then 1 else 0) ?_ ?_)
 refine qT rfl (tR ?_)
 refine H6 rfl ((A1R _)) rfl rfl ?_
 refine sQ (B1 rfl) rfl (I1 ?_)
 refine sD ?_
 refine P6 1 (M4 (by repeat (first | exact C8.nil | refine C8.cons rfl ?_)) (by repeat (first | exact A0.refl | exact A0.nil | refine A0.cons (by repeat (first | exact Pk.here | apply Pk.there)) ?_ | apply A0.drop))) (if_pos (by omega)).symm
 (intro tx htx; have hxi : C1 tx := (by rw [htx]; split <;> exact ⟨by omega, by omega⟩); have hB3 := hB2 tx (by omega) htx)
 refine tS (tS (tR (sQ (qA rfl) rfl (sD (nS ?_)))))
 refine B2 ?_
 (refine W9 28 9 ?_; refine J8 (fun (x : Nat × Option Addr × Nat × List (List Value) × List Nat × IM) => ⟨[(4, .int .i64 x.1), (3, .pointer (some ⟨b72, 0, none⟩)), (1, .pointer (some ⟨b3, 0, none⟩)), (2, .pointer (some ⟨b4, 0, none⟩))], [.blk b72 [.int .i64 k, .string nm, .int .i64 num, .int .i64 tx, .slice none 0 0, .int .i64 0, .slice none 0 0, .int .i64 0, .slice x.2.1 x.1 x.2.2.1], .slc x.2.1 x.2.2.1 28 9 x.1 x.2.2.2.1.flatten, .blk b4 [.int .i64 0, .string ⟨⟨[]⟩⟩, .int .i64 0, .int .i64 0, .slice none 0 0, .int .i64 0, .slice none 0 0, .int .i64 0, .slice none 0 0], .blk b3 [.int .i64 k, .string nm, .int .i64 num, .int .i64 tk, .slice pt tks.length ct, .int .i64 fk, .slice pf fks.length cf, .int .i64 lb, .slice p ks.length c]], x.2.2.2.2.2⟩) (fun x => x.1 ≤ ks.length ∧ A7 G x.2.2.2.2.2 ∧ L8 (B7 x.2.2.2.2.2 G) ((C4 ks).take x.1) x.2.2.2.1 x.2.2.2.2.1 ∧ x.2.2.2.2.1.Nodup) (fun x => ks.length - x.1) (0, none, 0, [], [], G) ?_ ?_ ?_)
 (simp only [E7]; exact C2)
 exact ⟨by simp, A7.refl _, by simp [L8], by simp⟩
 (rintro ⟨i, pn, cn, es', F, Gi⟩ ⟨hi, hle, hst, hnd⟩; simp only [] at hi hle hst hnd ⊢; replace hsl := hsl.mono hle; replace hkl := hkl.mono hle)
 refine C5 ?_
 refine sB (I7 rfl rfl) rfl rfl (fun h111 => ?_) (fun h111 => ?_)
 refine sD (nS (qT rfl (tK (nS (tS ?_)))))
 refine B2 ?_
 (obtain ⟨b, o, e, rfl, hl, hat, hre, hgb⟩ := hsl.kidTm hkl (i := i) (by omega) (by omega); have hone := hre.one; refine D7 D8 rfl ?_)
 refine H4 (i := 0) (l' := [tt,ff,ff,ff,ff,ff,ff,ff,ff,ff,ff,ff]) rfl D3 (B1 rfl) rfl (by kernel_rfl) rfl rfl ?_
 refine aL 1 rfl (D4 rfl rfl) rfl ?_
 refine aP 2 rfl (B1 rfl) rfl ?_
 refine aL 3 rfl (D4 rfl rfl) rfl ?_
 refine aP 4 rfl (qM rfl) rfl ?_
 refine aP 5 rfl (B3 rfl rfl rfl (by omega)) rfl ?_
 refine aL 6 rfl (A6 rfl rfl (hat _) hl) rfl ?_
 refine A2 7 ?_
 (refine P2 rfl rfl (ih ks[i] (List.getElem_mem (by omega)) _ _ _ (hvk i (by omega)) (Tm.smallL_mem hks _ (List.getElem_mem (by omega))) hre) rfl rfl rfl (fun v G3 hle3 hh => ?_); obtain ⟨cells', F', rfl, hs', hnd'⟩ := hh; rw [← hget i (by omega) (by omega)] at hs'; obtain ⟨qt, dt, et', qf, df, ef', q3, d3, es3, rfl, _⟩ := hs'.R.open)
 refine A2 8 ?_
 (refine D6 rfl (B4 rfl rfl rfl (by omega) (by unfold maxLen; omega) rfl) rfl rfl ?_; rintro _ ⟨b130, rfl⟩)
 refine A2 9 ?_
 refine Q9 rfl rfl rfl rfl rfl rfl (fun _ _ => by repeat (first | exact Sw.here | apply Sw.there)) (J9 (by repeat first | exact mH | apply mT)) rfl (by simp [Value.oneCell']) (by unfold maxLen; omega) (by omega) rfl rfl (by repeat (first | exact A4.nil | apply A4.dep (by decide +kernel) | apply A4.blk (by decide +kernel) (by repeat (first | exact Pk.here | apply Pk.there)) (by repeat first | exact mH | apply mT))) (fun pn' cn' => ?_)
 refine aP 10 rfl (B1 rfl) rfl ?_
 refine A2 11 ?_
 refine R2 rfl rfl rfl rfl rfl rfl rfl rfl (by kernel_rfl) (by repeat first | exact Sw.here | apply Sw.there) (by rfl) ?_
 refine B9 (M2 (nS (tR (sQ (qM rfl) rfl ?_))))
 refine sP (H2 rfl rfl (by omega) (by omega)) rfl rfl ?_
 refine sQ (qA rfl) rfl (sD ?_)
 refine J4 (i + 1, pn', cn', es' ++ [[.int .i64 (C4 ks)[i].k, .string (C4 ks)[i].nm, .int .i64 (C4 ks)[i].num, .int .i64 (C4 ks)[i].ty.k, .slice qt (C4 ks)[i].ty.ks.length dt, .int .i64 (C4 ks)[i].fr.k, .slice qf (C4 ks)[i].fr.ks.length df, .int .i64 (C4 ks)[i].lb, .slice q3 (C4 ks)[i].ks.length d3]], F ++ F', G3) ?_ ?_ ?_
 (simp only [E7]; exact C2)
 exact ⟨by omega, hle.trans hle3, L8.step hst hnd hle hle3 (by omega) hs' hnd'⟩
 (show ks.length - (i + 1) < ks.length - i; omega)
 refine M5 ?_
 (refine I5 (by repeat (first | exact Pk.here | apply Pk.there)) (fun G4 hle4 hsl4 hno4 => ?_); obtain rfl : i = ks.length := (by omega))
 refine tT ?_
 refine I6 (rC rfl (A3 rfl rfl)) ?_
 (rw [← hlen, List.take_length] at hst; rw [← hlen] at hsl4 ⊢; obtain ⟨F3, hf1, hf2⟩ := A08.fin hst hnd hle hle4 hsl4 hno4; rw [hB3]; exact ⟨rfl, _, F3, rfl, hf1.leaf hk hnum hxi, hf2⟩)
 refine sD (nS ?_)
 (show H5 _ _ (.cond (.tmp 27) _ _) _ _; refine A0n (fun (x : Int) => ⟨[(3, .pointer (some ⟨b72, 0, none⟩)), (1, .pointer (some ⟨b3, 0, none⟩)), (2, .pointer (some ⟨b4, 0, none⟩))], [.blk b72 [.int .i64 k, .string nm, .int .i64 num, .int .i64 x, .slice none 0 0, .int .i64 0, .slice none 0 0, .int .i64 0, .slice none 0 0], .blk b4 [.int .i64 0, .string ⟨⟨[]⟩⟩, .int .i64 0, .int .i64 0, .slice none 0 0, .int .i64 0, .slice none 0 0, .int .i64 0, .slice none 0 0], .blk b3 [.int .i64 k, .string nm, .int .i64 num, .int .i64 tk, .slice pt tks.length ct, .int .i64 fk, .slice pf fks.length cf, .int .i64 lb, .slice p ks.length c]], G⟩) (fun x => x = if k = 5 then 1 else 0) ?_ ?_)
 refine cF rfl (tK ?_)
 refine P6 0 (M4 (by repeat (first | exact C8.nil | refine C8.cons rfl ?_)) (by repeat (first | exact A0.refl | exact A0.nil | refine A0.cons (by repeat (first | exact Pk.here | apply Pk.there)) ?_ | apply A0.drop))) (if_neg (by omega)).symm
 (intro tx htx; have hxi : C1 tx := (by rw [htx]; split <;> exact ⟨by omega, by omega⟩); have hB3 := hB2 tx (by omega) htx)
 refine tS (tS (tR (sQ (qA rfl) rfl (sD (nS ?_)))))
 refine B2 ?_
 (refine W9 28 9 ?_; refine J8 (fun (x : Nat × Option Addr × Nat × List (List Value) × List Nat × IM) => ⟨[(4, .int .i64 x.1), (3, .pointer (some ⟨b72, 0, none⟩)), (1, .pointer (some ⟨b3, 0, none⟩)), (2, .pointer (some ⟨b4, 0, none⟩))], [.blk b72 [.int .i64 k, .string nm, .int .i64 num, .int .i64 tx, .slice none 0 0, .int .i64 0, .slice none 0 0, .int .i64 0, .slice x.2.1 x.1 x.2.2.1], .slc x.2.1 x.2.2.1 28 9 x.1 x.2.2.2.1.flatten, .blk b4 [.int .i64 0, .string ⟨⟨[]⟩⟩, .int .i64 0, .int .i64 0, .slice none 0 0, .int .i64 0, .slice none 0 0, .int .i64 0, .slice none 0 0], .blk b3 [.int .i64 k, .string nm, .int .i64 num, .int .i64 tk, .slice pt tks.length ct, .int .i64 fk, .slice pf fks.length cf, .int .i64 lb, .slice p ks.length c]], x.2.2.2.2.2⟩) (fun x => x.1 ≤ ks.length ∧ A7 G x.2.2.2.2.2 ∧ L8 (B7 x.2.2.2.2.2 G) ((C4 ks).take x.1) x.2.2.2.1 x.2.2.2.2.1 ∧ x.2.2.2.2.1.Nodup) (fun x => ks.length - x.1) (0, none, 0, [], [], G) ?_ ?_ ?_)
 (simp only [E7]; exact C2)
 exact ⟨by simp, A7.refl _, by simp [L8], by simp⟩
 (rintro ⟨i, pn, cn, es', F, Gi⟩ ⟨hi, hle, hst, hnd⟩; simp only [] at hi hle hst hnd ⊢; replace hsl := hsl.mono hle; replace hkl := hkl.mono hle)
 refine C5 ?_
 refine sB (I7 rfl rfl) rfl rfl (fun h191 => ?_) (fun h191 => ?_)
 refine sD (nS (qT rfl (tK (nS (tS ?_)))))
 refine B2 ?_
 (obtain ⟨b, o, e, rfl, hl, hat, hre, hgb⟩ := hsl.kidTm hkl (i := i) (by omega) (by omega); have hone := hre.one; refine D7 D8 rfl ?_)
 refine H4 (i := 0) (l' := [tt,ff,ff,ff,ff,ff,ff,ff,ff,ff,ff,ff]) rfl D3 (B1 rfl) rfl (by kernel_rfl) rfl rfl ?_
 refine aL 1 rfl (D4 rfl rfl) rfl ?_
 refine aP 2 rfl (B1 rfl) rfl ?_
 refine aL 3 rfl (D4 rfl rfl) rfl ?_
 refine aP 4 rfl (qM rfl) rfl ?_
 refine aP 5 rfl (B3 rfl rfl rfl (by omega)) rfl ?_
 refine aL 6 rfl (A6 rfl rfl (hat _) hl) rfl ?_
 refine A2 7 ?_
 (refine P2 rfl rfl (ih ks[i] (List.getElem_mem (by omega)) _ _ _ (hvk i (by omega)) (Tm.smallL_mem hks _ (List.getElem_mem (by omega))) hre) rfl rfl rfl (fun v G3 hle3 hh => ?_); obtain ⟨cells', F', rfl, hs', hnd'⟩ := hh; rw [← hget i (by omega) (by omega)] at hs'; obtain ⟨qt, dt, et', qf, df, ef', q3, d3, es3, rfl, _⟩ := hs'.R.open)
 refine A2 8 ?_
 (refine D6 rfl (B4 rfl rfl rfl (by omega) (by unfold maxLen; omega) rfl) rfl rfl ?_; rintro _ ⟨b210, rfl⟩)
 refine A2 9 ?_
 refine Q9 rfl rfl rfl rfl rfl rfl (fun _ _ => by repeat (first | exact Sw.here | apply Sw.there)) (J9 (by repeat first | exact mH | apply mT)) rfl (by simp [Value.oneCell']) (by unfold maxLen; omega) (by omega) rfl rfl (by repeat (first | exact A4.nil | apply A4.dep (by decide +kernel) | apply A4.blk (by decide +kernel) (by repeat (first | exact Pk.here | apply Pk.there)) (by repeat first | exact mH | apply mT))) (fun pn' cn' => ?_)
 refine aP 10 rfl (B1 rfl) rfl ?_
 refine A2 11 ?_
 refine R2 rfl rfl rfl rfl rfl rfl rfl rfl (by kernel_rfl) (by repeat first | exact Sw.here | apply Sw.there) (by rfl) ?_
 refine B9 (M2 (nS (tR (sQ (qM rfl) rfl ?_))))
 refine sP (H2 rfl rfl (by omega) (by omega)) rfl rfl ?_
 refine sQ (qA rfl) rfl (sD ?_)
 refine J4 (i + 1, pn', cn', es' ++ [[.int .i64 (C4 ks)[i].k, .string (C4 ks)[i].nm, .int .i64 (C4 ks)[i].num, .int .i64 (C4 ks)[i].ty.k, .slice qt (C4 ks)[i].ty.ks.length dt, .int .i64 (C4 ks)[i].fr.k, .slice qf (C4 ks)[i].fr.ks.length df, .int .i64 (C4 ks)[i].lb, .slice q3 (C4 ks)[i].ks.length d3]], F ++ F', G3) ?_ ?_ ?_
 (simp only [E7]; exact C2)
 exact ⟨by omega, hle.trans hle3, L8.step hst hnd hle hle3 (by omega) hs' hnd'⟩
 (show ks.length - (i + 1) < ks.length - i; omega)
 refine M5 ?_
 (refine I5 (by repeat (first | exact Pk.here | apply Pk.there)) (fun G4 hle4 hsl4 hno4 => ?_); obtain rfl : i = ks.length := (by omega))
 refine tT ?_
 refine I6 (rC rfl (A3 rfl rfl)) ?_
 (rw [← hlen, List.take_length] at hst; rw [← hlen] at hsl4 ⊢; obtain ⟨F3, hf1, hf2⟩ := A08.fin hst hnd hle hle4 hsl4 hno4; rw [hB3]; exact ⟨rfl, _, F3, rfl, hf1.leaf hk hnum hxi, hf2⟩)
def B7T (t : Tm) : Nat := if O6 t = true then C9 t else 0
end Gw
end Go.Proofs.YtgodjiieijekiaaGreatDoor
