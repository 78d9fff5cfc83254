/-
  The reference model's TermValid.
-/
import Derived.Test.YtgodjiieijekiaaGreatDoorKb2
import Derived.Test.YtgodjiieijekiaaGreatDoorKb1
import Derived.Test.YtgodjiieijekiaaGreatDoorKb0
import Derived.Lib.AppendZeros
set_option linter.unusedVariables false
set_option linter.unusedSimpArgs false
set_option maxHeartbeats 0
set_option maxRecDepth 100000
set_option synthInstance.maxSize 4000
set_option synthInstance.maxHeartbeats 0
namespace Go.Proofs.YtgodjiieijekiaaGreatDoor
open Go Go.RowKit
namespace Gw
theorem A0E (t : Tm) : M5 t = true ↔ M1 12 14 t 1 = true ∧ E6 t ≤ 30 := by
 have := A5P 30 12 14 t 1 0 (by omega)
 rw [M5, this]
 constructor
 ·rintro ⟨a, b⟩; exact ⟨a, by omega⟩
 ·rintro ⟨a, b⟩; exact ⟨a, by omega⟩
theorem B2W : ∀ (t : Tm) (d : Int) (G : IM) (cells : List Value), 0 ≤ d ∧ d ≤ 12 → B1 G t cells →
  Fn Tryz.prog 44 [.agg ⟨cells⟩, .int .i64 d] [] G (H3 (.bool (M1 12 14 t (13 - d))) G) := by
 refine Tm.ind fun k nm num ty fr lb ks ih d G cells hd hr => ?_
 have hr0 := hr
 have hne := fun h : k ≠ 14 => @B2y k nm num ty fr lb ks.length h
 have har := fun h : W3 k nm num ty fr lb ks.length = true => (U9.1 h).1
 obtain ⟨R, hR⟩ : ∃ R, W3 k nm num ty fr lb ks.length = R := ⟨_, rfl⟩
 rw [hR] at hne har
 have hl2 := B2w k nm num ty fr lb ks G cells hr0 R
 have hk1 := A5M k G
 obtain ⟨tk, tks⟩ := ty
 obtain ⟨fk, fks⟩ := fr
 obtain ⟨pt, ct, pf, cf, p, c, es, rfl, hk, hnum, hlb, hty, hfr, hsl, hkl⟩ := hr.open9
 have hn := hsl.le
 clear hr hr0
 refine B7 Tryz.func44 rfl Tryz.ntmps44 Tryz.results44 rfl ?_
 intro w0
 refine tS (tR ?_)
 refine sE (D5 rfl rfl) rfl (fun b3 => ?_)
 refine sQ (qA rfl) rfl (sD (nS (tS (tS ?_))))
 refine I0 I1 rfl ?_
 refine J2 (i := 0) (l' := [tt,ff,ff,ff,ff,ff,ff,ff,ff,ff,ff,ff,ff,ff,ff,ff,ff,ff,ff,ff,ff]) rfl F4 (qM rfl) rfl (by kernel_rfl) rfl rfl ?_
 refine A12 (i := 1) (l' := [tt,tt,ff,ff,ff,ff,ff,ff,ff,ff,ff,ff,ff,ff,ff,ff,ff,ff,ff,ff,ff]) rfl F4 (J3 rfl rfl) rfl (by kernel_rfl) rfl rfl (fun h11 => ?_) (fun h11 => ?_)
 refine aP 2 rfl (qM rfl) rfl ?_
 refine J7 3 rfl rfl rfl ?_
 refine J7 4 rfl rfl rfl ?_
 refine J7 6 rfl rfl rfl ?_
 refine J7 7 rfl rfl rfl ?_
 refine J7 8 rfl rfl rfl ?_
 refine J7 5 rfl rfl rfl ?_
 refine J7 9 rfl rfl rfl ?_
 refine aP 10 rfl (C1 rfl rfl) rfl ?_
 refine aP 11 rfl (qM rfl) rfl ?_
 refine J7 12 rfl rfl rfl ?_
 refine J7 13 rfl rfl rfl ?_
 refine J7 14 rfl rfl rfl ?_
 refine aP 15 rfl (C1 rfl rfl) rfl ?_
 refine aP 16 rfl (qM rfl) rfl ?_
 refine J7 17 rfl rfl rfl ?_
 refine J7 18 rfl rfl rfl ?_
 refine J7 19 rfl rfl rfl ?_
 refine aP 20 rfl (C1 rfl rfl) rfl ?_
 refine D6 (nS (qT rfl (tS (tR (sQ (qA rfl) rfl (sD (nS (tT (rS (A6 (rT rfl) ?_))))))))))
 (rw [A3H (by rw [hR]; first | omega | exact .inr (.inr (by assumption)) | exact .inr (.inr (by cases R with | false => rfl | true => exact absurd (har rfl) (by omega))))]; exact ⟨rfl, rfl, rfl⟩)
 refine aP 2 rfl (qM rfl) rfl ?_
 refine aP 3 rfl (A3 rfl) rfl ?_
 refine aL 4 rfl (A5 rfl rfl) rfl ?_
 refine aP 6 rfl (A3 rfl) rfl ?_
 refine aL 7 rfl (A5 rfl rfl) rfl ?_
 refine aP 8 rfl (D8 rfl rfl) rfl ?_
 refine A8 5 ?_
 refine Q5 rfl rfl (hk1) rfl rfl rfl ?_
 refine A12 (i := 9) (l' := [tt,tt,tt,tt,tt,tt,tt,tt,tt,tt,ff,ff,ff,ff,ff,ff,ff,ff,ff,ff,ff]) rfl F4 (P9 rfl rfl) rfl (by kernel_rfl) rfl rfl (fun h51 => ?_) (fun h51 => ?_)
 refine aP 10 rfl (D7 rfl rfl) rfl ?_
 refine aP 11 rfl (qM rfl) rfl ?_
 refine J7 12 rfl rfl rfl ?_
 refine J7 13 rfl rfl rfl ?_
 refine J7 14 rfl rfl rfl ?_
 refine aP 15 rfl (C1 rfl rfl) rfl ?_
 refine aP 16 rfl (qM rfl) rfl ?_
 refine J7 17 rfl rfl rfl ?_
 refine J7 18 rfl rfl rfl ?_
 refine J7 19 rfl rfl rfl ?_
 refine aP 20 rfl (C1 rfl rfl) rfl ?_
 refine D6 (nS (qT rfl (tS (tR (sQ (qA rfl) rfl (sD (nS (tT (rS (A6 (rT rfl) ?_))))))))))
 (rw [A3H (by rw [hR]; first | omega | exact .inr (.inr (by assumption)) | exact .inr (.inr (by cases R with | false => rfl | true => exact absurd (har rfl) (by omega))))]; exact ⟨rfl, rfl, rfl⟩)
 refine aP 10 rfl (D7 rfl rfl) rfl ?_
 refine aP 11 rfl (qM rfl) rfl ?_
 refine aP 12 rfl (A3 rfl) rfl ?_
 refine aL 13 rfl (A5 rfl rfl) rfl ?_
 refine A12 (i := 14) (l' := [tt,tt,tt,tt,tt,tt,tt,tt,tt,tt,tt,tt,tt,tt,tt,ff,ff,ff,ff,ff,ff]) rfl F4 (qE rfl rfl) rfl (by kernel_rfl) rfl rfl (fun h79 => ?_) (fun h79 => ?_)
 refine aP 15 rfl (D7 rfl rfl) rfl ?_
 refine aP 16 rfl (qM rfl) rfl ?_
 refine J7 17 rfl rfl rfl ?_
 refine J7 18 rfl rfl rfl ?_
 refine J7 19 rfl rfl rfl ?_
 refine aP 20 rfl (C1 rfl rfl) rfl ?_
 refine D6 (nS (qT rfl (tS (tR (sQ (qA rfl) rfl (sD (nS (tT (rS (A6 (rT rfl) ?_))))))))))
 (rw [A3H (by rw [hR]; first | omega | exact .inr (.inr (by assumption)) | exact .inr (.inr (by cases R with | false => rfl | true => exact absurd (har rfl) (by omega))))]; exact ⟨rfl, rfl, rfl⟩)
 refine aP 15 rfl (D7 rfl rfl) rfl ?_
 refine aP 16 rfl (qM rfl) rfl ?_
 refine aL 17 rfl (A7 rfl rfl) rfl ?_
 refine A8 18 ?_
 refine A2p rfl rfl (hl2 (hne (by omega) (by omega))) rfl rfl rfl (fun h102 => ?_) (fun h102 => ?_)
 refine aP 19 rfl (M4 rfl) rfl ?_
 refine aP 20 rfl (D7 rfl rfl) rfl ?_
 refine D6 (nS (cF rfl (tK (nS (tS (tS (tR (sQ (qA rfl) rfl (sD (nS ?_))))))))))
 refine B5 ?_
 (refine K4 (fun (i : Nat) => ⟨[(5, .int .i64 i), (2, .pointer (some ⟨b3, 0, none⟩)), (1, .int .i64 d)], [.blk b3 [.int .i64 k, .string nm, .int .i64 num, .int .i64 tk, .slice pt tks.length ct, .int .i64 fk, .slice pf fks.length cf, .int .i64 lb, .slice p ks.length c]], G⟩) (fun i => i ≤ ks.length ∧ ∀ j (h : j < ks.length), j < i → M1 12 14 ks[j] (13 - d + 1) = true) (fun i => ks.length - i) 0 ?_ ?_ ?_)
 exact C9
 exact ⟨by omega, by omega⟩
 (rintro i ⟨hi, hf⟩)
 refine tS (tS (tR (sQ (qM rfl) rfl (sQ (A3 rfl) rfl (sL (A5 rfl rfl) rfl rfl (sQ (D8 rfl rfl) rfl ?_))))))
 refine sB (J3 rfl rfl) rfl rfl (fun h128 => ?_) (fun h128 => ?_)
 refine sD (nS (qT rfl (tK (nS (tS ?_)))))
 refine B5 ?_
 refine tS (tR (sQ (A3 rfl) rfl (sL (A5 rfl rfl) rfl rfl (sQ (qM rfl) rfl ?_))))
 (obtain ⟨b, o, e, rfl, hl, hat, hre, hgb⟩ := hsl.kidTm hkl (i := i) (by omega) (by omega); refine sP (C2 rfl rfl rfl (by omega)) rfl rfl ?_)
 refine sL (A9 rfl rfl (hat _) hl) rfl rfl ?_
 refine sQ (qM rfl) rfl ?_
 refine sP (L7 rfl rfl (by omega) (by omega)) rfl rfl ?_
 (have hih := ih ks[i] (List.getElem_mem (by omega)) (d - 1) G _ (by omega) hre; rw [show 13 - (d - 1) = 13 - d + 1 by omega] at hih; refine H1 rfl hih rfl rfl (fun h145 => ?_) (fun h145 => ?_))
 refine sQ (M4 rfl) rfl (sD (nS (cF rfl (tK (C8 (nS (tR (sQ (qM rfl) rfl ?_))))))))
 refine sP (H6 rfl rfl (by omega) (by omega)) rfl rfl ?_
 refine sQ (qA rfl) rfl (sD ?_)
 refine K3 (i + 1) ?_ ?_ ?_
 exact C9
 exact ⟨by omega, fun j hj hji => by (by_cases he : j = i; (subst he; assumption); exact hf j hj (by omega))⟩
 omega
 refine sQ (O5 rfl) rfl (sD (nS (qT rfl (tS (tR (sQ (qA rfl) rfl (sD (nS (tT (rB (rS (U2 (rB (rS (A6 (rT rfl) ?_)))))))))))))))
 (rw [A3I (by omega) (by omega) (hR.trans (by assumption)), B2x (i := i) (by omega) (by assumption)]; exact ⟨rfl, rfl, rfl⟩)
 refine sD (nS (cF rfl (M7 (M8 (N3 (M9 (nS (tS (tR (sQ (qA rfl) rfl (sD (nS (tT (A6 (rT rfl) ?_))))))))))))))
 (rw [A3I (by omega) (by omega) (hR.trans (by assumption)), (A0B 12 14 ks _).2 (fun j hj => hf j hj (by omega))]; exact ⟨rfl, rfl, rfl⟩)
 refine aP 19 rfl (O5 rfl) rfl ?_
 refine aP 20 rfl (D7 rfl rfl) rfl ?_
 refine D6 (nS (qT rfl (tS (tR (sQ (qA rfl) rfl (sD (nS (tT (rS (A6 (rT rfl) ?_))))))))))
 (rw [A3H (by rw [hR]; first | omega | exact .inr (.inr (by assumption)) | exact .inr (.inr (by cases R with | false => rfl | true => exact absurd (har rfl) (by omega))))]; exact ⟨rfl, rfl, rfl⟩)
theorem A4x (t : Tm) (G : IM) (cells : List Value) (hcnt : E6 t ≤ 4294967296) (hr : B1 G t cells) :
  Fn Tryz.prog 15 [.agg ⟨cells⟩] [] G (H3 (.bool (M5 t)) G) := by
 have hl := hr.len
 have hv := B2W t 12 G cells (by omega) hr
 have hc := fun h => B2A 12 14 t 12 G cells (by omega) h hcnt hr
 have hi := A0E t
 obtain ⟨R, hR⟩ : ∃ R, M5 t = R := ⟨_, rfl⟩
 rw [hR] at hi ⊢
 refine B7 Tryz.func15 rfl Tryz.ntmps15 Tryz.results15 rfl ?_
 intro w0
 refine tS (tR ?_)
 refine sE (D5 rfl rfl) rfl (fun b3 => ?_)
 refine sQ (qA rfl) rfl (sD (nS (tS (tR ?_))))
 refine sL (A9 rfl rfl (C7 (by repeat first | exact mH | apply mT)) (by assumption)) rfl rfl ?_
 refine H1 rfl (hv) rfl rfl (fun h10 => ?_) (fun h10 => ?_)
 refine sQ (qM rfl) rfl ?_
 refine sL (A9 rfl rfl (C7 (by repeat first | exact mH | apply mT)) (by assumption)) rfl rfl ?_
 refine F0 rfl (hc (by assumption)) rfl rfl ?_
 refine sB (T6 rfl rfl) rfl rfl (fun h14 => ?_) (fun h14 => ?_)
 refine sQ (C1 rfl rfl) rfl (sQ (qA rfl) rfl (sD (nS (tT (A6 (rT rfl) ?_)))))
 exact ⟨rfl, by rw [hi.2 ⟨by assumption, by omega⟩], rfl⟩
 refine sQ (C1 rfl rfl) rfl (sQ (qA rfl) rfl (sD (nS (tT (A6 (rT rfl) ?_)))))
 exact ⟨rfl, by (cases R with | false => rfl | true => (exfalso; have h0 := hi.1 rfl; first | omega | simp_all)), rfl⟩
 refine sQ (qM rfl) rfl (sK rfl rfl (sK rfl rfl (sK rfl rfl (sQ (D7 rfl rfl) rfl (sQ (qA rfl) rfl (sD (nS (tT (A6 (rT rfl) ?_)))))))))
 exact ⟨rfl, by (cases R with | false => rfl | true => (exfalso; have h0 := hi.1 rfl; first | omega | simp_all)), rfl⟩
theorem B2X (br : Nat) (pb : Option Addr) (nb cb : Nat) (bs : List UInt8) (hnb : nb ≤ 2000) (p : Nat) (G : IM) (hb : Sl G pb nb cb 1 (N1 bs)) (hp : p + 31 < 1099511627776) :
  Fn Tryz.prog 115 [.pointer (some ⟨br, 0, none⟩)] [rd br pb nb cb p] G
   (A0q br pb nb cb p 31 (fun G' v => ∃ t cells, v = .agg ⟨cells⟩ ∧ C3 G' t cells ∧ K0 t ≤ 30 ∧ P6 3 t)) := by
 refine B7 Tryz.func115 rfl Tryz.ntmps115 Tryz.results115 rfl ?_
 intro w0
 refine tS (tR ?_)
 refine sE (B6 rfl) rfl (fun b3 => ?_)
 refine sD (nS (tS (tR (sQ (qM rfl) rfl (sQ (qM rfl) rfl ?_)))))
 (refine E0 (D0 rfl rfl rfl (by omega) (by unfold maxLen; omega) rfl) rfl ?_; rintro _ ⟨b10, rfl⟩)
 (refine Q8 (by repeat (first | exact Pk.here | apply Pk.there)) (fun G1 hle1 hsl1 _ => ?_); refine D2 rfl (A0b G1 br pb nb cb p bs _ _ _ _ (hb.mono hle1) hnb (by omega) hsl1 (by decide)) (Pk.perm (by repeat (first | exact Pk.here | apply Pk.there))) rfl rfl (fun v G2 outs hle2 hh => ?_); obtain ⟨rfl, rfl, hv⟩ := hh; replace hb := hb.mono hle1; obtain ⟨d, rfl, hd⟩ : ∃ d : Nat, v = .int .i64 ((d + 1 : Nat) : Int) ∧ d ≤ 3 := (by simp only [List.mem_cons, List.not_mem_nil, or_false] at hv; rcases hv with rfl | rfl | rfl | rfl | rfl <;> first | exact ⟨0, rfl, by decide⟩ | exact ⟨1, rfl, by decide⟩ | exact ⟨2, rfl, by decide⟩ | exact ⟨3, rfl, by decide⟩))
 (have hdB := B2U hd; refine D2 rfl (A3N br pb nb cb bs hnb d (p + 1) G2 (by omega) hb (by omega)) (Pk.perm (by repeat (first | exact Pk.here | apply Pk.there))) rfl rfl (fun v G3 outs hle3 hh => ?_); obtain ⟨p3, hp31, hp32, rfl, t3, cells3, rfl, hr3, hs3, ha3⟩ := hh; obtain ⟨q3, c3, es3, rfl, _⟩ := hr3.open)
 refine B9 ?_
 refine sD (nS (tT ?_))
 refine E5 (outs := [rd br pb nb cb p3]) (rC rfl (A7 rfl rfl)) (by repeat (first | exact A0.nil | refine A0.cons Pk.here ?_ | refine A0.cons (Pk.there Pk.here) ?_ | apply A0.drop)) ?_
 exact ⟨p3, by omega, by omega, rfl, t3, _, rfl, hr3, by omega, ha3.le hd⟩
theorem B2Y (br : Nat) (pb : Option Addr) (nb cb : Nat) (bs : List UInt8) (hnb : nb ≤ 2000) (p : Nat) (G : IM) (hb : Sl G pb nb cb 1 (N1 bs)) (hp : p + 31 < 1099511627776) :
  Fn Tryz.prog 115 [.pointer (some ⟨br, 0, none⟩)] [rd br pb nb cb p] G
   (A0q br pb nb cb p 31 (fun G' v => ∃ t cells, v = .agg ⟨cells⟩ ∧ C3 G' t cells ∧ K0 t ≤ 30)) :=
 (B2X br pb nb cb bs hnb p G hb hp).mono fun G' v outs _ ⟨p', h1, h2, h3, t, cells, h4, h5, h6, _⟩ => ⟨p', h1, h2, h3, t, cells, h4, h5, h6⟩
theorem B2Z (k : Int) (ks : List Ty) (G : IM) (p : Option Addr) (c : Nat) (hts : (Ty.mk k ks).small) (hr : C3 G (.mk k ks) [.int .i64 k, .slice p ks.length c]) : Fn Tryz.prog 170 [.agg ⟨[.int .i64 k, .slice p ks.length c]⟩] [] G
  (fun G' v outs => ∃ p c es, v = .agg ⟨[.int .i64 k, .slice p ks.length c]⟩ ∧ outs = [.slc p c 25 2 ks.length es.flatten] ∧ F8 G' ks es) := by
 simp only [Ty.small] at hts
 obtain ⟨hsm, hks⟩ := hts
 obtain ⟨p', c', es, he, hk, hsl, hkl⟩ := hr.open
 simp only [Ty.k, Ty.ks, List.cons.injEq, Value.slice.injEq, true_and, and_true] at he hk hsl hkl
 obtain ⟨rfl, rfl⟩ := he
 have hn := hsl.le
 refine B7 Tryz.func170 rfl Tryz.ntmps170 Tryz.results170 rfl ?_
 intro w0
 refine tS (tR ?_)
 refine sE (D5 rfl rfl) rfl (fun b3 => ?_)
 refine sE (B6 rfl) rfl (fun b4 => ?_)
 refine sD (nS (tS (tR (sQ (A3 rfl) rfl (sL (A5 rfl rfl) rfl rfl (sQ (D9 rfl rfl) rfl ?_))))))
 refine sE (B6 rfl) rfl (fun b12 => ?_)
 refine B9 ?_
 refine sD (nS (tS (tS (tR (sQ (qA rfl) rfl (sD (nS ?_)))))))
 refine B5 ?_
 (refine W1 25 2 ?_; refine K4 (fun (x : Nat × Option Addr × Nat × List (List Value) × IM) => ⟨[(4, .int .i64 x.1), (3, .pointer (some ⟨b12, 0, none⟩)), (1, .pointer (some ⟨b3, 0, none⟩)), (2, .pointer (some ⟨b4, 0, none⟩))], [.blk b12 [.int .i64 k, .slice x.2.1 x.1 x.2.2.1], .slc x.2.1 x.2.2.1 25 2 x.1 x.2.2.2.1.flatten, .blk b4 [.int .i64 0, .slice none 0 0], .blk b3 [.int .i64 k, .slice p ks.length c]], x.2.2.2.2⟩) (fun x => x.1 ≤ ks.length ∧ B4 G x.2.2.2.2 ∧ F8 x.2.2.2.2 (ks.take x.1) x.2.2.2.1) (fun x => ks.length - x.1) (0, none, 0, [], G) ?_ ?_ ?_)
 (simp only [E2]; exact C9)
 exact ⟨by simp, B4.refl _, by simp [F8]⟩
 (rintro ⟨i, pn, cn, es', Gi⟩ ⟨hi, hle, hst⟩; simp only [] at hi hle hst ⊢; replace hsl := hsl.mono hle; replace hkl := hkl.mono hle)
 refine tS (tS (tR (sQ (qM rfl) rfl (sQ (A3 rfl) rfl (sL (A5 rfl rfl) rfl rfl (sQ (D8 rfl rfl) rfl ?_))))))
 refine sB (J3 rfl rfl) rfl rfl (fun h34 => ?_) (fun h34 => ?_)
 refine sD (nS (qT rfl (tK (nS (tS ?_)))))
 refine B5 ?_
 (obtain ⟨b, o, p2, c2, rfl, hat, hre, hgb⟩ := hsl.kidTy hkl (i := i) (by omega) (by omega); refine I0 I1 rfl ?_)
 refine J2 (i := 0) (l' := [tt,ff,ff,ff,ff,ff,ff,ff,ff,ff,ff,ff]) rfl F4 (A3 rfl) rfl (by kernel_rfl) rfl rfl ?_
 refine aL 1 rfl (A5 rfl rfl) rfl ?_
 refine aP 2 rfl (A3 rfl) rfl ?_
 refine aL 3 rfl (A5 rfl rfl) rfl ?_
 refine aP 4 rfl (qM rfl) rfl ?_
 refine aP 5 rfl (C2 rfl rfl rfl (by omega)) rfl ?_
 refine aL 6 rfl (A9 rfl rfl (hat _) rfl) rfl ?_
 refine A8 7 ?_
 (refine Q0 rfl rfl (Z9 ks[i] _ _ (Ty.smallL_mem hks _ (List.getElem_mem (by omega))) hre) rfl rfl rfl (fun v G1 hle1 hh => ?_); obtain ⟨cells', F', rfl, hs', hnd'⟩ := hh; have hr' := hs'.R.mono (C4.le _ _); obtain ⟨p3, c3, es3, rfl, _⟩ := hr'.open)
 refine A8 8 ?_
 (refine J9 rfl (D0 rfl rfl rfl (by omega) (by unfold maxLen; omega) rfl) rfl rfl ?_; rintro _ ⟨b53, rfl⟩)
 refine A8 9 ?_
 refine S9 rfl rfl rfl rfl rfl rfl (fun _ _ => by repeat (first | exact Sw.here | apply Sw.there)) (K9 (by repeat first | exact mH | apply mT)) rfl (by simp [Value.oneCell']) (by unfold maxLen; omega) (by omega) rfl rfl (by repeat (first | exact B0.nil | apply B0.dep (by decide +kernel) | apply B0.blk (by decide +kernel) (by repeat (first | exact Pk.here | apply Pk.there)) (by repeat first | exact mH | apply mT))) (fun pn' cn' => ?_)
 refine aP 10 rfl (A3 rfl) rfl ?_
 refine A8 11 ?_
 refine P3 rfl rfl rfl rfl rfl rfl rfl rfl (by kernel_rfl) (by repeat first | exact Sw.here | apply Sw.there) (by rfl) ?_
 refine D6 (C8 (nS (tR (sQ (qM rfl) rfl ?_))))
 refine sP (H6 rfl rfl (by omega) (by omega)) rfl rfl ?_
 refine sQ (qA rfl) rfl (sD ?_)
 refine K3 (i + 1, pn', cn', es' ++ [[.int .i64 ks[i].k, .slice p3 ks[i].ks.length c3]], G1) ?_ ?_ ?_
 (simp only [E2]; exact C9)
 (dsimp only; exact ⟨by omega, hle.trans hle1, by rw [List.take_succ_eq_append_getElem (by omega)]; exact F8.snoc (hst.mono hle1) hr'⟩)
 (show ks.length - (i + 1) < ks.length - i; omega)
 refine sD (nS (cF rfl (M7 (M8 (N3 (M9 (nS (tS (tR (sL (A7 rfl rfl) rfl rfl (B9 ?_)))))))))))
 refine sD (nS (tT ?_))
 (obtain rfl : i = ks.length := (by omega); refine E5 (outs := [.slc pn cn 25 2 ks.length es'.flatten]) (rC rfl (A7 rfl rfl)) (by repeat (first | exact A0.nil | refine A0.cons Pk.here ?_ | refine A0.cons (Pk.there Pk.here) ?_ | apply A0.drop)) ?_)
 (rw [List.take_length] at hst; exact ⟨pn, cn, es', rfl, rfl, hst⟩)
theorem A1t (G : IM) : C3 G O4 [.int .i64 1, .slice none 0 0] := by
 simp only [O4, C3]
 exact ⟨none, 0, [], rfl, ⟨by omega, by omega⟩, C5.of (Sl.nil _ _) rfl (by simp) (by simp), by simp [F8]⟩
theorem A57 : K0 O4 = 0 := rfl
theorem B20 (br : Nat) (pb : Option Addr) (nb cb : Nat) (bs : List UInt8) (hnb : nb ≤ 2000) (p : Nat) (G : IM) (hb : Sl G pb nb cb 1 (N1 bs)) (hp : p + 31 < 1099511627776) (t : Ty) (cells : List Value) (hr : C3 G t cells) (hsz : K0 t ≤ 30) :
  Fn Tryz.prog 114 [.pointer (some ⟨br, 0, none⟩), .agg ⟨cells⟩] [rd br pb nb cb p] G
   (A0q br pb nb cb p 2 (fun G' v => ∃ t cells, v = .agg ⟨cells⟩ ∧ C3 G' t cells ∧ K0 t ≤ 38)) := by
 have hts := A3D t (by omega)
 obtain ⟨k, ks⟩ := t
 rw [K0] at hsz
 have hsn := A17 ks
 obtain ⟨q0, c0, es0, rfl, hk, _⟩ := hr.open
 simp only [Ty.k, Ty.ks] at hk hr ⊢
 refine B7 Tryz.func114 rfl Tryz.ntmps114 Tryz.results114 rfl ?_
 intro w0
 refine tS (tR ?_)
 refine sE (D5 rfl rfl) rfl (fun b3 => ?_)
 refine sE (B6 rfl) rfl (fun b4 => ?_)
 refine sD (nS (tS (tR (sL (A7 rfl rfl) rfl rfl ?_))))
 (refine A5r rfl (B2Z k ks G q0 c0 hts hr) rfl rfl (fun v G1 outs hle1 hh => ?_); obtain ⟨q, c, es, rfl, rfl, hst⟩ := hh)
 refine sE (B6 rfl) rfl (fun b11 => ?_)
 refine B9 ?_
 refine sD (nS (tS (tS (tR (sQ (qM rfl) rfl ?_)))))
 (refine D2 rfl (X2 G1 br pb nb cb p bs 40 (hb.mono hle1) hnb (by omega)) (Pk.perm (by repeat (first | exact Pk.here | apply Pk.there))) rfl rfl (fun v G2 outs hle2 hh => ?_); obtain ⟨rfl, rfl, j, rfl, hj0, hj1⟩ := hh; replace hb := hb.mono hle1)
 refine sD (nS ?_)
 (show I6 _ _ (.block 0 _) _ _; refine A0i (fun (x : Ty × Option Addr × Nat × Nat × IM) => ⟨[(5, .pointer (some ⟨b11, 0, none⟩)), (4, .pointer (some ⟨b4, 0, none⟩))], [.blk b11 [.int .i64 x.1.k, .slice x.2.1 x.1.ks.length x.2.2.1], .blk b4 [.int .i64 0, .slice none 0 0], rd br pb nb cb x.2.2.2.1], x.2.2.2.2⟩) (fun x => B4 G2 x.2.2.2.2 ∧ C3 x.2.2.2.2 x.1 [.int .i64 x.1.k, .slice x.2.1 x.1.ks.length x.2.2.1] ∧ K0 x.1 ≤ 38 ∧ p ≤ x.2.2.2.1 ∧ x.2.2.2.1 ≤ p + 2) ?_ ?_)
 refine B5 (tS (tR (sB (qE rfl rfl) rfl rfl (fun h26 => ?_) (fun h26 => ?_))))
 refine sQ (qA rfl) rfl (sD (nS (qT rfl (tR (sQ (qM rfl) rfl ?_)))))
 (refine E0 (D0 rfl rfl rfl (by omega) (by unfold maxLen; omega) rfl) rfl ?_; rintro _ ⟨b33, rfl⟩)
 (refine Q8 (by repeat (first | exact Pk.here | apply Pk.there)) (fun G3 hle3 hsl3 _ => ?_); refine Q8 (by repeat (first | exact Pk.here | apply Pk.there)) (fun G4 hle4 hsl4 _ => ?_); refine D2 rfl (A0b G4 br pb nb cb (p + 1) bs _ _ _ _ (hb.mono (hle3.trans hle4)) hnb (by omega) (hsl3.mono hle4) (by decide)) (Pk.perm (by repeat (first | exact Pk.here | apply Pk.there))) rfl rfl (fun v G5 outs hle5 hh => ?_); obtain ⟨rfl, rfl, hv⟩ := hh; obtain ⟨k', rfl, hk'⟩ : ∃ k', v = .int .i64 k' ∧ C6 k' := (by simp only [List.mem_cons, List.not_mem_nil, or_false] at hv; rcases hv with rfl | rfl | rfl | rfl | rfl <;> exact ⟨_, rfl, by unfold C6; omega⟩))
 refine sQ (A3 rfl) rfl (B9 ?_)
 refine sD (C8 ?_)
 refine P0 (.mk k' ks, q, c, p + 2, G5) ?_ ?_
 (simp only [E2]; exact C9)
 (dsimp only; exact ⟨hle3.trans hle4, (hst.mono (hle3.trans hle4)).ty rfl hsl4 hk', by (rw [K0]; omega), by omega, by omega⟩)
 refine sQ (qA rfl) rfl (sD (nS (cF rfl (tS (tR ?_)))))
 refine sB (qE rfl rfl) rfl rfl (fun h48 => ?_) (fun h48 => ?_)
 refine sQ (qA rfl) rfl (sD (nS (qT rfl ?_)))
 refine I0 I1 rfl ?_
 refine J2 (i := 0) (l' := [tt,ff,ff,ff,ff,ff,ff]) rfl F4 (A3 rfl) rfl (by kernel_rfl) rfl rfl ?_
 refine aL 1 rfl (A5 rfl rfl) rfl ?_
 refine A8 2 ?_
 refine Q5 rfl rfl ((A1Q _)) rfl rfl rfl ?_
 refine A8 3 ?_
 (refine J9 rfl (D0 rfl rfl rfl (by omega) (by unfold maxLen; omega) rfl) rfl rfl ?_; rintro _ ⟨b59, rfl⟩)
 refine A8 4 ?_
 refine S9 rfl rfl rfl rfl rfl rfl (fun _ _ => by repeat (first | exact Sw.here | apply Sw.there)) (K9 (by repeat first | exact mH | apply mT)) rfl (by simp [Value.oneCell']) (by unfold maxLen; omega) (by omega) rfl rfl (by repeat (first | exact B0.nil | apply B0.dep (by decide +kernel) | apply B0.blk (by decide +kernel) (by repeat (first | exact Pk.here | apply Pk.there)) (by repeat first | exact mH | apply mT))) (fun qn cn => ?_)
 (refine A4c (cs := es.flatten ++ [.int .i64 1, .slice none 0 0]) (by repeat (first | exact Pk.here | apply Pk.there)) (fun G6 hle6 hsl6 _ => ?_))
 refine aP 5 rfl (A3 rfl) rfl ?_
 refine A8 6 ?_
 refine P3 rfl rfl rfl rfl rfl rfl rfl rfl (by kernel_rfl) (by repeat first | exact Sw.here | apply Sw.there) (by rfl) ?_
 refine D6 (C8 ?_)
 refine P0 (.mk k (ks ++ [O4]), qn, cn, p + 1, G6) (by rw [show (Ty.mk k (ks ++ [O4])).ks.length = ks.length + 1 from by simp [Ty.ks]]; exact C9) ?_
 (dsimp only; refine ⟨hle6, F8.ty (ts := ks ++ [O4]) (es := es ++ [[.int .i64 1, .slice none 0 0]]) (F8.snoc (hst.mono hle6) (A1t _)) rfl (by simpa [Ty.ks] using hsl6) hk, ?_, by omega, by omega⟩; rw [K0, A4w, A57, List.length_append]; simp only [List.length_singleton]; omega)
 refine sQ (qA rfl) rfl (sD (nS (cF rfl (tS (tR ?_)))))
 refine sB (qE rfl rfl) rfl rfl (fun h76 => ?_) (fun h76 => ?_)
 refine sQ (qA rfl) rfl (sD (nS (qT rfl (tS (tR (sQ (qA rfl) rfl (sD (nS ?_))))))))
 refine B5 ?_
 (refine A1p (by repeat (first | exact Pk.here | apply Pk.there)) (fun G3 hle3 hsl3 _ => ?_); refine K4 (fun (x : Nat × Ty × Option Addr × Nat × IM) => ⟨[(6, .int .i64 x.1), (5, .pointer (some ⟨b11, 0, none⟩)), (4, .pointer (some ⟨b4, 0, none⟩))], [.blk b11 [.int .i64 x.2.1.k, .slice x.2.2.1 x.2.1.ks.length x.2.2.2.1], .blk b4 [.int .i64 0, .slice none 0 0], rd br pb nb cb (p + 1)], x.2.2.2.2⟩) (fun x => x.1 ≤ 4 ∧ B4 G3 x.2.2.2.2 ∧ C3 x.2.2.2.2 x.2.1 [.int .i64 x.2.1.k, .slice x.2.2.1 x.2.1.ks.length x.2.2.2.1] ∧ K0 x.2.1 ≤ 30 + 2 * x.1) (fun x => 4 - x.1) (0, .mk k ks, q, c, G3) ?_ ?_ ?_)
 (simp only [E2]; exact C9)
 (dsimp only; exact ⟨by omega, B4.refl _, (hst.mono hle3).ty rfl hsl3 hk, by (rw [K0]; omega)⟩)
 (rintro ⟨i, ⟨tk, tks⟩, qi, ci, Gi⟩ ⟨hi, hlei, hri, hsi⟩; simp only [Ty.k, Ty.ks] at hi hlei hri hsi ⊢)
 refine tS (tS (tR (sQ (qM rfl) rfl ?_)))
 refine sB (J3 rfl rfl) rfl rfl (fun h95 => ?_) (fun h95 => ?_)
 refine sD (nS (qT rfl (tK (nS (tS ?_)))))
 refine B5 ?_
 refine I0 I1 rfl ?_
 refine A0M (i := 1) (l' := [ff,tt,ff,ff,ff]) rfl F4 (A7 rfl rfl) rfl (by kernel_rfl) rfl rfl ?_
 refine A8 0 ?_
 refine Q5 rfl rfl ((A1Q _)) rfl rfl rfl ?_
 refine A8 2 ?_
 (refine J9 rfl (D0 rfl rfl rfl (by omega) (by unfold maxLen; omega) rfl) rfl rfl ?_; rintro _ ⟨b108, rfl⟩)
 (refine A4c (cs := [.int .i64 1, .slice none 0 0, .int .i64 tk, .slice qi tks.length ci]) (by repeat (first | exact Pk.here | apply Pk.there)) (fun G7 hle7 hsl7 _ => ?_))
 refine aP 3 rfl (D9 rfl rfl) rfl ?_
 refine A8 4 ?_
 refine P3 rfl rfl rfl rfl rfl rfl rfl rfl (by kernel_rfl) (by repeat first | exact Sw.here | apply Sw.there) (by rfl) ?_
 refine D6 (C8 (nS (tR (sQ (qM rfl) rfl ?_))))
 refine sP (H6 rfl rfl (by omega) (by omega)) rfl rfl ?_
 refine sQ (qA rfl) rfl (sD ?_)
 refine K3 (i + 1, .mk 4 [O4, .mk tk tks], some ⟨b108, 0, none⟩, 2, G7) ?_ ?_ ?_
 (simp only [E2]; exact C9)
 (dsimp only; refine ⟨by omega, hlei.trans hle7, F8.ty (ts := [O4, .mk tk tks]) (es := [[.int .i64 1, .slice none 0 0], [.int .i64 tk, .slice qi tks.length ci]]) ⟨_, _, rfl, A1t _, _, _, rfl, hri.mono hle7, rfl⟩ rfl hsl7 ⟨by omega, by omega⟩, ?_⟩; rw [K0, N9, N9, N9, A57]; simp only [List.length_cons, List.length_nil]; omega)
 (show 4 - (i + 1) < 4 - i; omega)
 refine sD (nS (cF rfl (M7 (M8 (N3 (M9 (C8 ?_)))))))
 refine P0 (.mk tk tks, qi, ci, p + 1, Gi) ?_ ?_
 (simp only [E2]; exact C9)
 (dsimp only; exact ⟨hle3.trans hlei, hri, by omega, by omega, by omega⟩)
 refine sQ (qA rfl) rfl (sD (nS (cF rfl ?_)))
 (refine A1p (by repeat (first | exact Pk.here | apply Pk.there)) (fun G8 hle8 hsl8 _ => ?_); refine tK ?_)
 refine C8 ?_
 refine P0 (.mk k ks, q, c, p + 1, G8) ?_ ?_
 (simp only [E2]; exact C9)
 (dsimp only; exact ⟨hle8, (hst.mono hle8).ty rfl hsl8 hk, by (rw [K0]; omega), by omega, by omega⟩)
 (rintro ⟨t', q', c', p', G'⟩ ⟨hle9, hr9, hs9, hp9, hp9'⟩; simp only [] at hle9 hr9 hs9 hp9 hp9' ⊢)
 refine tS (tR (sL (A7 rfl rfl) rfl rfl (B9 ?_)))
 refine sD (nS (tT ?_))
 refine E5 (outs := [rd br pb nb cb p']) (rC rfl (A7 rfl rfl)) (by repeat (first | exact A0.nil | refine A0.cons Pk.here ?_ | refine A0.cons (Pk.there Pk.here) ?_ | apply A0.drop)) ?_
 (exact ⟨p', by omega, by omega, rfl, t', _, rfl, hr9, by omega⟩)
mutual
def D3 : Tm → Tm
 | .mk k nm num ty fr lb ks => if k = 13 ∨ k = 14 then (I3 ks).headD H7 else .mk k nm num (if k = 5 then O4 else B8) B8 0 (I3 ks)
def I3 : List Tm → List Tm
 | [] => []
 | t :: ts => D3 t :: I3 ts
end
theorem A1R : ∀ ks, I3 ks = ks.map D3
 | [] => rfl
 | t :: ts => by rw [I3, A1R ts, List.map_cons]
def A0t : Tm → Tm
 | .mk k nm num ty fr lb ks => if k = 13 ∨ k = 14 then ks.headD H7 else if k = 5 then .mk k nm num O4 fr lb ks else .mk k nm num ty fr lb ks
def A2t : Tm → Prop
 | .mk k _ _ _ _ _ ks => k = 13 ∨ k = 14 → ks ≠ []
theorem A2u {t : Ty} (h : Y1 t = true) : t = B8 := by
 obtain ⟨k, ks⟩ := t
 obtain ⟨h1, h2⟩ : (Ty.mk k ks).k = 0 ∧ (Ty.mk k ks).ks.length = 0 := of_decide_eq_true h
 simp only [Ty.k, Ty.ks] at h1 h2
 have h3 : ks = [] := List.length_eq_zero_iff.1 (by omega)
 rw [h3, B8]
 congr
theorem V7 {D N : Int} {k : Int} {nm : ByteArray} {num : Int} {ty fr : Ty} {lb : Int} {ks : List Tm} {d : Int} (h : M1 D N (.mk k nm num ty fr lb ks) d = true) : d ≤ D ∧ k ≠ N ∧ W3 k nm num ty fr lb ks.length = true ∧ N6 D N ks (d + 1) = true := by
 rw [M1] at h
 simp only [Bool.and_eq_true, decide_eq_true_eq] at h
 exact ⟨h.1.1.1, h.1.1.2, h.1.2, h.2⟩
mutual
theorem A8A (D N : Int) : ∀ (t : Tm) (d : Int), M1 D N t d = true → A1e A0t t = D3 t ∧ mOk A2t A0t t
 | .mk k nm num ty fr lb ks, d, h => by
  obtain ⟨h1, h2, h3, h4⟩ := V7 h
  obtain ⟨e1, e2⟩ := A8B D N ks _ h4
  have hn := U9.1 h3
  rw [A1e, D3, mOk, e1]
  refine ⟨?_, e2, ?_⟩
  ·rw [A0t]
   by_cases hk : k = 13 ∨ k = 14
   ·rw [if_pos hk, if_pos hk]
   ·rw [if_neg hk, if_neg hk]
    obtain ⟨hf, hl⟩ := hn.2.2.2.2.2.2.2.2 (by omega)
    rw [A2u hf, hl]
    by_cases hk5 : k = 5
    ·rw [if_pos hk5, if_pos hk5]
    ·rw [if_neg hk5, if_neg hk5, A2u (hn.2.2.2.2.2.2.1 (by omega))]
  ·rw [A2t]
   intro hk he
   have ha := hn.1
   have : ks.length = 0 := by
    have := congrArg List.length he
    rw [A1R, List.length_map] at this
    simpa using this
   rcases hk with rfl | rfl <;> (rw [this] at ha; revert ha; decide)
theorem A8B (D N : Int) : ∀ (ts : List Tm) (d : Int), N6 D N ts d = true → A0r A0t ts = I3 ts ∧ A1r A2t A0t ts
 | [], d, h => by rw [A0r, I3, A1r]; exact ⟨rfl, trivial⟩
 | t :: ts, d, h => by
  rw [N6, Bool.and_eq_true] at h
  obtain ⟨a1, a2⟩ := A8A D N t d h.1
  obtain ⟨b1, b2⟩ := A8B D N ts d h.2
  rw [A0r, I3, A1r, a1, b1]
  exact ⟨rfl, a2, b2⟩
end
mutual
theorem A58 : ∀ (t : Tm) (d : Int), M1 12 14 (D3 t) d = true → M1 40 13 (D3 t) d = true
 | .mk k nm num ty fr lb ks, d, h => by
  rw [D3] at h ⊢
  by_cases hk : k = 13 ∨ k = 14
  ·rw [if_pos hk] at h ⊢
   cases ks with
   | nil => exact absurd (V7 (D := 12) (N := 14) h).2.2.1 (by decide)
   | cons x xs =>
    rw [I3] at h ⊢
    exact A58 x d h
  ·rw [if_neg hk] at h ⊢
   obtain ⟨h1, h2, h3, h4⟩ := V7 h
   rw [A3I (by omega) (by omega) h3]
   exact A8C ks _ h4
theorem A8C : ∀ (ts : List Tm) (d : Int), N6 12 14 (I3 ts) d = true → N6 40 13 (I3 ts) d = true
 | [], d, h => by rw [I3, N6]
 | t :: ts, d, h => by
  rw [I3, N6, Bool.and_eq_true] at h ⊢
  exact ⟨A58 t d h.1, A8C ts d h.2⟩
end
theorem B21 {t : Tm} (h : M5 (D3 t) = true) : N0 (D3 t) = true := by
 obtain ⟨h1, h2⟩ := (A0E _).1 h
 exact (A4o _).2 ⟨A58 t 1 h1, by omega⟩
mutual
theorem A3O : ∀ t : Tm, t.small → (D3 t).small ∧ E6 (D3 t) ≤ E6 t
 | .mk k nm num ty fr lb ks, h => by
  simp only [Tm.small] at h
  obtain ⟨h1, h2, h3, h4, h5⟩ := h
  obtain ⟨b1, b2⟩ := A8D ks h5
  rw [D3]
  by_cases hk : k = 13 ∨ k = 14
  ·rw [if_pos hk]
   cases ks with
   | nil => exact ⟨by simp [I3, H7, Tm.small, Ty.small, Ty.smallL, Tm.smallL, ByteArray.size], by rw [E6]; simp [I3, H7, E6, I2]⟩
   | cons x xs =>
    simp only [Tm.smallL] at h5
    obtain ⟨c1, c2⟩ := A3O x h5.1
    rw [I3, E6, I2]
    exact ⟨c1, by show E6 (D3 x) ≤ _; omega⟩
  ·rw [if_neg hk]
   simp only [Tm.small, E6]
   refine ⟨⟨h1, ?_, by simp [B8, Ty.small, Ty.smallL], by rw [A1R, List.length_map]; exact h4, b1⟩, by omega⟩
   by_cases hk5 : k = 5
   ·rw [if_pos hk5]; simp [O4, Ty.small, Ty.smallL]
   ·rw [if_neg hk5]; simp [B8, Ty.small, Ty.smallL]
theorem A8D : ∀ ts : List Tm, Tm.smallL ts → Tm.smallL (I3 ts) ∧ I2 (I3 ts) ≤ I2 ts
 | [], h => by rw [I3]; simp [Tm.smallL]
 | t :: ts, h => by
  simp only [Tm.smallL] at h
  obtain ⟨a1, a2⟩ := A3O t h.1
  obtain ⟨b1, b2⟩ := A8D ts h.2
  rw [I3, I2, I2]
  simp only [Tm.smallL]
  exact ⟨⟨a1, b1⟩, by omega⟩
end
section own
variable {P : Program} {Γ : J1} {env : J5} {hp : List A4} {G : IM} {ty : TypeId} {K : Po} {ops : Array Oper} {rest : List Oper}
theorem St.trim {a : Act} {w : World} {hp' : List A4} {p : Option Addr} {c el sz n k : Nat} {cs : List Value} (hs : St Γ ⟨env, hp, G⟩ a w) (hk : Pk hp (.slc p c el sz n cs) hp') (hkn : k ≤ n) :
  St Γ ⟨env, .slc p c el sz k (cs.take (k * sz)) :: hp', G⟩ a w := by
 have hown : S0 [.slc p c el sz n cs] G w := hs.res.own.of_mem hk.perm
 obtain ⟨hl, h⟩ := hown.ok _ List.mem_cons_self
 have hok : A4.ok w (.slc p c el sz k (cs.take (k * sz))) := by
  have hle : k * sz ≤ n * sz := Nat.mul_le_mul_right _ hkn
  refine ⟨by rw [List.length_take, hl]; exact Nat.min_eq_left hle, ?_⟩
  rcases h with ⟨hv, hn⟩ | ⟨g, cap, cur, hv, hb, hg, hnc, hcm, hsz, ht⟩
  ·cases hv; left; exact ⟨by rw [show k = 0 by omega], by omega⟩
  ·cases hv
   refine .inr ⟨g, _, cur, rfl, hb, hg, by omega, hcm, hsz, ?_⟩
   rw [← ht, List.take_take, Nat.min_eq_left hle]
 have hr : O1 [.slc p c el sz n cs] G w [.slc p c el sz k (cs.take (k * sz))] G w := by
  refine ⟨⟨hown.inn, ?_, ?_, ?_⟩, Ext.refl _ _, B4.refl _, fun _ _ h => .inl h, ?_, fun b l h h0 => absurd h (by rw [h0]; simp)⟩
  ·intro e he
   simp at he; subst he; exact hok
  ·have := hown.nodup; simpa [Fp, A4.fp] using this
  ·intro b hb; exact hown.disj b (by simpa [Fp, A4.fp] using hb)
  ·intro b hb; exact .inr (by simpa [Fp, A4.fp] using hb)
 exact ⟨hs.size, hs.nod, hs.env, by have := (hs.res.perm hk.perm).frame hr; simpa using this⟩
theorem A59 {p : Option Addr} {c el sz n k : Nat} {cs : List Value} {hp' : List A4} (hk : Pk hp (.slc p c el sz n cs) hp') (hkn : k ≤ n)
  (h : F9 P Γ ops rest K ⟨env, .slc p c el sz k (cs.take (k * sz)) :: hp', G⟩) : F9 P Γ ops rest K ⟨env, hp, G⟩ := ⟨fun a w hs => h.run a w (hs.trim hk hkn)⟩
theorem Pk2 {e1 e2 : A4} {h1 h2 : List A4} (a : Pk hp e1 h1) (b : Pk h1 e2 h2) : hp.Perm ([e1, e2] ++ h2) := a.perm.trans (List.Perm.cons _ b.perm)
theorem Pk3 {e1 e2 e3 : A4} {h1 h2 h3 : List A4} (a : Pk hp e1 h1) (b : Pk h1 e2 h2) (c : Pk h2 e3 h3) : hp.Perm ([e1, e2, e3] ++ h3) := a.perm.trans (List.Perm.cons _ (b.perm.trans (List.Perm.cons _ c.perm)))
theorem B22 {cs vs cs' C : List Value} {o : Nat} (h : Q3 cs o vs = some cs') : cs' ++ C = (cs ++ C).take o ++ vs ++ (cs ++ C).drop (o + vs.length) := by
 obtain ⟨h1, h2⟩ := A2O h
 rw [h1, List.take_append_of_le_length (by omega), List.drop_append_of_le_length (by omega)]
 simp
theorem B23 {d : Option Nat} {x y : Operand} {t : TypeId} {i : I7} [hI : D4 P t i] {b o c el sz n : Nat} {v : Value} {vs cs cs' : List Value} {hp' : List A4}
  (hx : evo env x = some (.pointer (some ⟨b, o, none⟩))) (hy : evo env y = some v) (hv : v.cells = ⟨vs⟩) (hsz : vs.length = i.size) (h1 : vs.all (·.oneCell') = true)
  (hu : Q3 cs o vs = some cs') (hm : Sw hp (.slc (some ⟨b, 0, none⟩) c el sz n cs) (.slc (some ⟨b, 0, none⟩) c el sz n cs') hp') (hd : dok Γ.n d = true) :
  V5 P Γ ⟨env, hp, G⟩ d (.store t x y) ty [b] (fun σ' => σ' = ⟨dpu d undef env, hp', G⟩) := by
 refine ⟨fun a w hs pos af gd Q next hn => ?_⟩
 obtain ⟨rest, p1, p2⟩ := hm.perm
 have hown : S0 [.slc (some ⟨b, 0, none⟩) c el sz n cs] G w := hs.res.own.of_mem p1
 obtain ⟨hl, h⟩ := hown.ok _ List.mem_cons_self
 rcases h with ⟨hv', _⟩ | ⟨g, cap, cur, hv', hbg, hg, hnc, hcm, hcs, ht⟩
 ·cases hv'
 cases hv'
 obtain ⟨u1, u2⟩ := A2O hu
 have hcur : cur.toList = cs ++ cur.toList.drop (n * sz) := by
  conv => lhs; rw [← List.take_append_drop (n * sz) cur.toList, ht]
 have hlen : cs.length ≤ cur.size := by
  rw [hl, hcs]; exact Nat.mul_le_mul_right _ hnc
 have hst := run_storeCells_at P b o el vs 0 cur w hg (by omega) (by simpa using h1)
 obtain ⟨cur', hcur'⟩ : ∃ l : List Value, l = cs' ++ cur.toList.drop (n * sz) := ⟨_, rfl⟩
 have hcc : cur.toList.take (o + 0) ++ vs ++ cur.toList.drop (o + 0 + vs.length) = cur' := by
  rw [hcur', Nat.add_zero, B22 hu, ← hcur]
 rw [hcc] at hst
 have hl' : cs'.length = cs.length := by rw [u1]; simp; omega
 have hsz' : cur'.length = cur.size := by
  have := congrArg List.length hcur
  rw [hcur', List.length_append, hl']
  simpa using this.symm
 obtain ⟨inf, g1, g2, _⟩ := hI.info
 have hrun : (execOp a.eval ⟨d, .store t x y, ty, pos, af, gd⟩).run P w = .ok .skip (w.setRow b cur'.toArray) := by
  simp [execOp, Instr.storeAt, Instr.sureAddr, (hs.evo hx : a.eval x = _), (hs.evo hy : a.eval y = _), storeVar, sizeOf, typeInfo, g1, g2, hv, hsz, hst]
 simp only [Oper.wp, hrun, Oper.upon]
 have hr' : O1 [.slc (some ⟨b, 0, none⟩) c el sz n cs] G w [.slc (some ⟨b, 0, none⟩) c el sz n cs'] G (w.setRow b cur'.toArray) := by
  refine ⟨⟨?_, ?_, by simp [Fp, A4.fp, H5], ?_⟩, ⟨rfl, rfl, rfl, by simp [World.setRow], fun k _ hk => setRow_other w b k _ (by rintro rfl; simp [Fp, A4.fp, H5] at hk)⟩, B4.refl _, fun _ _ h => .inl h, ?_, fun b l h h0 => absurd h (by rw [h0]; simp)⟩
  ·intro k l hg'
   obtain ⟨e', f', h'⟩ := hown.inn k l hg'
   refine ⟨e', f', ?_⟩
   rw [setRow_other w b k _ ?_]
   ·exact h'
   ·rintro rfl
    have := hown.disj k (by simp [Fp, A4.fp, H5])
    rw [this] at hg'; cases hg'
  ·intro x hx
   simp at hx; subst hx
   refine ⟨by rw [hl', hl], .inr ⟨b, _, cur'.toArray, rfl, hbg, setRow_heap w b cur cur'.toArray el (0, 0) hg, hnc, hcm, by rw [List.size_toArray, hsz', hcs], ?_⟩⟩
   rw [hcur', List.take_left' (by rw [hl', hl])]
  ·intro k hk
   exact hown.disj k (by simpa [Fp, A4.fp, H5] using hk)
  ·intro k hk
   exact .inr (by simpa [Fp, A4.fp, H5] using hk)
 exact hn _ _ _ (hs.step p1 hr' p2 hd) (by simpa [Fp, A4.fp, H5] using hr'.ext) rfl
variable {pos : String} {af : Array Edge} {gd : Option (Nat × Bool)}
theorem A8E {H : List (Nat × Nat)} {fuel : Nat} {listed l' : List Bool} {j c el sz n : Nat} {cs vs : List Value} {x y : Operand} {t : TypeId} {i : I7} [hI : D4 P t i] {bb o : Nat} {v : Value} {cs' : List Value} {hp' : List A4} (hi : ops[j]? = some ⟨none, .store t x y, ty, pos, af, gd⟩)
  (hx : evo env x = some (.pointer (some ⟨bb, o, none⟩))) (hy : evo env y = some v) (hv : v.cells = ⟨vs⟩) (hsz : vs.length = i.size) (h1 : vs.all (·.oneCell') = true)
  (hw : K8 ops env gd = some true) (hl : listed.set j true = l') (hm : ((H.map Prod.fst).all fun i => X9 ops j i) = true) (hsw : Sw hp (.slc (some ⟨bb, 0, none⟩) c el sz n cs) (.slc (some ⟨bb, 0, none⟩) c el sz n cs') hp') (hu : Q3 cs o vs = some cs')
  (k : L5 P Γ ops K [] fuel l' ⟨env, hp', G⟩) : T5 P Γ ops K H fuel listed j ⟨env, hp, G⟩ :=
 A5u hi (B23 hx hy hv hsz h1 hu hsw rfl) hw hl hm (by rintro _ rfl; exact k)
theorem A3P {H : List (Nat × Nat)} {fuel : Nat} {listed l' : List Bool} {j d : Nat} {f : FuncId} [hF : B3 P f] {xs : List Operand} {ats : Array TypeId} {vs : List Value} {ins rst : List A4} {post : IM → Value → List A4 → Prop}
  (hi : ops[j]? = some ⟨some d, .call ⟨.value (.func f), ⟨xs⟩, ats⟩, ty, pos, af, gd⟩) (hx : evl env xs = some vs) (h : Fn P f vs ins G post) (hp' : hp.Perm (ins ++ rst)) (hw : K8 ops env gd = some true) (hd : Nat.blt d Γ.n = true) (hl : listed.set j true = l')
  (hm : ((H.map Prod.fst).all fun i => X9 ops j i) = true)
  (k : ∀ v G' outs, B4 G G' → post G' v outs → L5 P Γ ops K [] fuel l' ⟨(d, v) :: env, outs ++ rst, G'⟩) : T5 P Γ ops K H fuel listed j ⟨env, hp, G⟩ :=
 A5u hi (A2l hx h hp' hd) hw hl hm (by rintro _ ⟨v, G', outs, rfl, hle, hq⟩; exact k v G' outs hle hq)
end own
abbrev kI (k : Int) : Int := k
theorem A3Q (k n : Int) (G : IM) : Fn Tryz.prog 131 [.int .i64 k, .int .i64 n] [] G (H3 (.agg ⟨[.int .i64 k, .int .i64 n, .slice none 0 0, .slice none 0 0]⟩) G) := by
 refine B7 Tryz.func131 rfl Tryz.ntmps131 Tryz.results131 rfl ?_
 intro w0
 refine tS (tR ?_)
 refine sE (B6 rfl) rfl (fun b3 => ?_)
 refine sD (nS (tS (tR (sQ (qM rfl) rfl (sQ (qM rfl) rfl (sQ (D9 rfl rfl) rfl (B9 ?_)))))))
 refine sD (nS (tT ?_))
 refine A6 (rC rfl (A7 rfl rfl)) ?_
 exact ⟨rfl, rfl, rfl⟩
theorem A19 {P : Program} {Γ : J1} {env : J5} {hp : List A4} {G : IM} {r r2 r3 r4 : ResultVar} {post : IM → Value → List A4 → Prop} {v v2 v3 v4 : Value} (h : U3 P Γ ⟨env, hp, G⟩ r v) (h2 : U3 P Γ ⟨env, hp, G⟩ r2 v2) (h3 : U3 P Γ ⟨env, hp, G⟩ r3 v3) (h4 : U3 P Γ ⟨env, hp, G⟩ r4 v4)
  (hk : post G (.tuple ⟨[v, v2, v3, v4]⟩) []) : Z3 P Γ [r, r2, r3, r4] post .ret ⟨env, hp, G⟩ := A3s (.cons h (.cons h2 (.cons h3 (.cons h4 .nil)))) hk
theorem mPW (k : Int) : (k = 6 ∧ K5 k = 2 ∧ M6 k = (2, 1, 1)) ∨ ((k = 7 ∨ k = 8) ∧ K5 k = 2 ∧ M6 k = (0, 2, 2)) ∨ (k = 9 ∧ K5 k = 1 ∧ M6 k = (1, 1, 3)) ∨ (k = 11 ∧ K5 k = 2 ∧ M6 k = (0, 0, 0)) ∨ ((k = 12 ∨ k = 13) ∧ K5 k = 1 ∧ M6 k = (3, 1, 4)) ∨ ((k ≠ 6 ∧ k ≠ 7 ∧ k ≠ 8 ∧ k ≠ 9 ∧ k ≠ 11 ∧ k ≠ 12 ∧ k ≠ 13) ∧ K5 k = 0 ∧ M6 k = (0, 0, 0)) := by
 by_cases h6 : k = 6
 ·subst h6; exact .inl ⟨rfl, rfl, rfl⟩
 by_cases h7 : k = 7
 ·subst h7; exact .inr (.inl ⟨.inl rfl, rfl, rfl⟩)
 by_cases h8 : k = 8
 ·subst h8; exact .inr (.inl ⟨.inr rfl, rfl, rfl⟩)
 by_cases h9 : k = 9
 ·subst h9; exact .inr (.inr (.inl ⟨rfl, rfl, rfl⟩))
 by_cases h11 : k = 11
 ·subst h11; exact .inr (.inr (.inr (.inl ⟨rfl, rfl, rfl⟩)))
 by_cases h12 : k = 12
 ·subst h12; exact .inr (.inr (.inr (.inr (.inl ⟨.inl rfl, rfl, rfl⟩))))
 by_cases h13 : k = 13
 ·subst h13; exact .inr (.inr (.inr (.inr (.inl ⟨.inr rfl, rfl, rfl⟩))))
 refine .inr (.inr (.inr (.inr (.inr ⟨⟨h6, h7, h8, h9, h11, h12, h13⟩, A5T (by omega) (by omega), ?_⟩))))
 unfold M6
 rw [if_neg h6, if_neg (by omega), if_neg h9, if_neg (by omega)]
theorem A4y (k : Int) (G : IM) : Fn Tryz.prog 128 [.int .i64 k] [] G (H3 (.tuple ⟨[.int .i64 (K5 k), .int .i64 (M6 k).1, .int .i64 (M6 k).2.1, .int .i64 (M6 k).2.2]⟩) G) := by
 refine B7 Tryz.func128 rfl Tryz.ntmps128 Tryz.results128 rfl ?_
 intro w0
 refine Y8 ?_
 refine B5 (tS (tR (sB (qE rfl rfl) rfl rfl (fun h18 => ?_) (fun h18 => ?_))))
 refine N5 ?_
 refine A19 (rT rfl) (rT rfl) (rT rfl) (rT rfl) ?_
 (refine ⟨rfl, ?_, rfl⟩; rcases mPW k with ⟨h1, h2, h3⟩ | ⟨h1, h2, h3⟩ | ⟨h1, h2, h3⟩ | ⟨h1, h2, h3⟩ | ⟨h1, h2, h3⟩ | ⟨h1, h2, h3⟩ <;> first | (exfalso; omega) | (rw [h2, h3]; rfl))
 refine sQ (qA rfl) rfl (sD (nS (cF rfl (tS (tS (tR ?_))))))
 refine sB (qE rfl rfl) rfl rfl (fun h43 => ?_) (fun h43 => ?_)
 refine V6 ?_
 refine A19 (rT rfl) (rT rfl) (rT rfl) (rT rfl) ?_
 (refine ⟨rfl, ?_, rfl⟩; rcases mPW k with ⟨h1, h2, h3⟩ | ⟨h1, h2, h3⟩ | ⟨h1, h2, h3⟩ | ⟨h1, h2, h3⟩ | ⟨h1, h2, h3⟩ | ⟨h1, h2, h3⟩ <;> first | (exfalso; omega) | (rw [h2, h3]; rfl))
 refine sQ (qA rfl) rfl (sD (nS (cF rfl (tR ?_))))
 refine sB (qE rfl rfl) rfl rfl (fun h69 => ?_) (fun h69 => ?_)
 refine N5 ?_
 refine A19 (rT rfl) (rT rfl) (rT rfl) (rT rfl) ?_
 (refine ⟨rfl, ?_, rfl⟩; rcases mPW k with ⟨h1, h2, h3⟩ | ⟨h1, h2, h3⟩ | ⟨h1, h2, h3⟩ | ⟨h1, h2, h3⟩ | ⟨h1, h2, h3⟩ | ⟨h1, h2, h3⟩ <;> first | (exfalso; omega) | (rw [h2, h3]; rfl))
 refine sQ (qA rfl) rfl (sD (nS (cF rfl (tS (tR ?_)))))
 refine sB (qE rfl rfl) rfl rfl (fun h93 => ?_) (fun h93 => ?_)
 refine N5 ?_
 refine A19 (rT rfl) (rT rfl) (rT rfl) (rT rfl) ?_
 (refine ⟨rfl, ?_, rfl⟩; rcases mPW k with ⟨h1, h2, h3⟩ | ⟨h1, h2, h3⟩ | ⟨h1, h2, h3⟩ | ⟨h1, h2, h3⟩ | ⟨h1, h2, h3⟩ | ⟨h1, h2, h3⟩ <;> first | (exfalso; omega) | (rw [h2, h3]; rfl))
 refine sQ (qA rfl) rfl (sD (nS (cF rfl (tS (tR ?_)))))
 refine sB (qE rfl rfl) rfl rfl (fun h117 => ?_) (fun h117 => ?_)
 refine N5 ?_
 refine A19 (rT rfl) (rT rfl) (rT rfl) (rT rfl) ?_
 (refine ⟨rfl, ?_, rfl⟩; rcases mPW k with ⟨h1, h2, h3⟩ | ⟨h1, h2, h3⟩ | ⟨h1, h2, h3⟩ | ⟨h1, h2, h3⟩ | ⟨h1, h2, h3⟩ | ⟨h1, h2, h3⟩ <;> first | (exfalso; omega) | (rw [h2, h3]; rfl))
 refine sQ (qA rfl) rfl (sD (nS (cF rfl (tS (tS (tR ?_))))))
 refine sB (qE rfl rfl) rfl rfl (fun h142 => ?_) (fun h142 => ?_)
 refine V6 ?_
 refine A19 (rT rfl) (rT rfl) (rT rfl) (rT rfl) ?_
 (refine ⟨rfl, ?_, rfl⟩; rcases mPW k with ⟨h1, h2, h3⟩ | ⟨h1, h2, h3⟩ | ⟨h1, h2, h3⟩ | ⟨h1, h2, h3⟩ | ⟨h1, h2, h3⟩ | ⟨h1, h2, h3⟩ <;> first | (exfalso; omega) | (rw [h2, h3]; rfl))
 refine sQ (qA rfl) rfl (sD (nS (cF rfl (tR ?_))))
 refine sB (qE rfl rfl) rfl rfl (fun h168 => ?_) (fun h168 => ?_)
 refine N5 ?_
 refine A19 (rT rfl) (rT rfl) (rT rfl) (rT rfl) ?_
 (refine ⟨rfl, ?_, rfl⟩; rcases mPW k with ⟨h1, h2, h3⟩ | ⟨h1, h2, h3⟩ | ⟨h1, h2, h3⟩ | ⟨h1, h2, h3⟩ | ⟨h1, h2, h3⟩ | ⟨h1, h2, h3⟩ <;> first | (exfalso; omega) | (rw [h2, h3]; rfl))
 refine Q9 ?_
 refine A19 (rT rfl) (rT rfl) (rT rfl) (rT rfl) ?_
 (refine ⟨rfl, ?_, rfl⟩; rcases mPW k with ⟨h1, h2, h3⟩ | ⟨h1, h2, h3⟩ | ⟨h1, h2, h3⟩ | ⟨h1, h2, h3⟩ | ⟨h1, h2, h3⟩ | ⟨h1, h2, h3⟩ <;> first | (exfalso; omega) | (rw [h2, h3]; rfl))
section
variable {P : Program} {Γ : J1} {env : J5} {hp : List A4} {G : IM} {ty : TypeId}
theorem A8F {x : Operand} {t : TypeId} {i : I7} [hI : D4 P t i] {e : TypeId} (hd : i.desc = .slice e) {p : Option Addr} {n c : Nat} (hx : evo env x = some (.slice p n c)) :
  E1 P Γ ⟨env, hp, G⟩ (.call ⟨.builtin .cap, ⟨[x]⟩, ⟨[t]⟩⟩) ty (.int .i64 c) := by
 refine ⟨fun a _ hs _ _ _ _ w => ?_⟩
 have hu := hI.und
 rw [hd] at hu
 simp [execOp, resolve, invoke, builtin, Builtin.cap_, (hs.evo hx : a.eval x = _), run_underlying hu, goInt]
theorem B24 {w : World} (h : A2L G w) : O1 [] G w [] G w.drew := A7X ⟨h, by simp, by simp [Fp], by simp [Fp]⟩ 1 #[]
theorem B25 {d : Nat} {x y : Operand} {t tn el : TypeId} {i : I7} {jn : I7} {k kn : IntKind} {sz by' : Nat} {zs : List Value} [hI : D4 P t i] (hd' : i.desc = .slice el) [hJ : D4 P tn jn] (hj : jn.desc = .int kn) [hE : S1 P el sz by' zs] {n : Nat}
  (hd : Nat.blt d Γ.n = true) (hx : evo env x = some (.slice none 0 0)) (hy : evo env y = some (.int k (n : Int))) (h0 : 0 < n) (hsz : Nat.blt 0 sz = true) (hn : n ≤ 1000000) (hb : n * by' ≤ 281474976710656) :
  V5 P Γ ⟨env, hp, G⟩ (some d) (.call ⟨.builtin .append, ⟨[x, y]⟩, ⟨[t, tn]⟩⟩) ty [] (fun σ' => ∃ b c cs, σ' = ⟨(d, .slice (some ⟨b, 0, none⟩) n c) :: env, .slc (some ⟨b, 0, none⟩) c el sz c cs :: hp, G⟩) := by
 refine ⟨fun a w hs pos af gd Q next hn' => ?_⟩
 have hz := hE.len
 obtain ⟨_, hE⟩ := hE.ok
 obtain ⟨inf, z, t1, t2, t3, t4, t5, t6, t7, t8⟩ := A15 (P := P) (t := el)
 have hu := hI.und
 rw [hd'] at hu
 have huj := hJ.und
 rw [hj] at huj
 have hrun := Lib.run_append_nil_zeros (P := P) w t tn ty el inf z k kn hu huj t6 t7 n h0 (by rw [t8]; simpa using hsz) (by omega) (by rw [t4]; exact hb)
 obtain ⟨C, hC⟩ : ∃ C, grownCap w n 0 el = C := ⟨_, rfl⟩
 have hge : n ≤ C := by rw [← hC]; exact grownCap_ge w n 0 el
 have hle : C ≤ maxLen := by rw [← hC]; exact grownCap_le_maxLen w n 0 el (by unfold maxLen; omega)
 rw [hC] at hrun
 have hzc : ∀ m, Builtin.zeroCells z.cells m = ⟨T7 m zs⟩ := fun m => by
  have := A7r z.cells zs t5 m
  unfold Builtin.zeroCells
  rw [show z.cells.size = zs.length by rw [t5]; rfl]
  rw [show z.cells.size = zs.length by rw [t5]; rfl] at this
  exact this
 have hcs : Builtin.zeroCells z.cells n ++ Builtin.zeroCells z.cells (C - n) = (T7 n zs ++ T7 (C - n) zs).toArray := by rw [hzc, hzc]; simp
 have hlen : (T7 n zs ++ T7 (C - n) zs).length = C * sz := by
  rw [List.length_append, A3t, A3t, hz, ← Nat.add_mul]; congr 1; omega
 rw [hcs] at hrun
 have hexec : (execOp a.eval ⟨some d, .call ⟨.builtin .append, ⟨[x, y]⟩, ⟨[t, tn]⟩⟩, ty, pos, af, gd⟩).run P w = .ok (.value (.slice (some ⟨w.heap.size, 0, none⟩) n C)) (w.drew.alloc (.cells (T7 n zs ++ T7 (C - n) zs).toArray el)) := by
  simp only [execOp, resolve, invoke, builtin, Sem.run_bind, Sem.run_pure, Result.andThen_ok]
  have e1 : (⟨[x, y]⟩ : Array Operand).map a.eval = #[.slice none 0 0, .int k n] := by
   simp [(hs.evo hx : a.eval x = _), (hs.evo hy : a.eval y = _)]
  rw [e1]
  have : (Builtin.append_ ⟨[t, tn]⟩ ty #[.slice none 0 0, .int k n]).run P w = .ok (.slice (some ⟨w.heap.size, 0, none⟩) n C) (w.drew.alloc (.cells (T7 n zs ++ T7 (C - n) zs).toArray el)) := hrun
  rw [this]; rfl
 simp only [Oper.wp, hexec, Oper.upon]
 have h1 := B24 hs.res.own.inn
 have h2 := A7p w.drew h1.own.inn el sz C (T7 n zs ++ T7 (C - n) zs) hlen hle
 have hr' : O1 [] G w [.slc (some ⟨w.heap.size, 0, none⟩) C el sz C (T7 n zs ++ T7 (C - n) zs)] G (w.drew.alloc (.cells (T7 n zs ++ T7 (C - n) zs).toArray el)) := by
  have := O1.frame (ins := []) (rest := []) (by simpa using h1) h2
  simpa using this
 exact hn' _ _ _ (hs.step (ins := []) (rest := hp) (List.Perm.refl _) hr' (List.Perm.refl _) (d := some d) hd) hr'.ext ⟨w.heap.size, C, _, rfl⟩
end
section slaws
variable {P : Program} {Γ : J1} {env : J5} {hp : List A4} {G : IM} {ty : TypeId}
theorem A3R {P : Program} {w : World} {l c : Nat} (hl : l ≤ c) (code : BoundsCode) : (Instr.sliceBound (.int .i64 (l : Int)) c code).run P w = .ok l w := by
 unfold Instr.sliceBound
 simp only [asIntOf, Sem.run_bind, Sem.run_pure, Result.andThen_ok]
 rw [if_pos ⟨by omega, by omega⟩]
 simp
theorem A2a {x y z : Operand} {t : TypeId} {i : I7} [hI : D4 P t i] (hd' : i.desc = .string) {s : ByteArray} {l h : Nat}
  (hx : evo env x = some (.string s)) (hy : evo env y = some (.int .i64 (l : Int))) (hz : evo env z = some (.int .i64 (h : Int))) (hl : l ≤ h) (hh : h ≤ s.size) :
  E1 P Γ ⟨env, hp, G⟩ (.slice t x (some y) (some z) none) ty (.string (s.extract l h)) := by
 refine ⟨fun a _ hs _ _ _ _ w => ?_⟩
 have hu := hI.und
 rw [hd'] at hu
 simp [execOp, (hs.evo hx : a.eval x = _), (hs.evo hy : a.eval y = _), (hs.evo hz : a.eval z = _), Instr.sliceAt, Sem.run_bind, run_underlying hu, Instr.slice, Instr.sliceBounds, A3R hl, A3R hh]
theorem A4z {x z : Operand} {t : TypeId} {i : I7} [hI : D4 P t i] (hd' : i.desc = .string) {s : ByteArray} {h : Nat}
  (hx : evo env x = some (.string s)) (hz : evo env z = some (.int .i64 (h : Int))) (hh : h ≤ s.size) :
  E1 P Γ ⟨env, hp, G⟩ (.slice t x none (some z) none) ty (.string (s.extract 0 h)) := by
 refine ⟨fun a _ hs _ _ _ _ w => ?_⟩
 have hu := hI.und
 rw [hd'] at hu
 simp [execOp, (hs.evo hx : a.eval x = _), (hs.evo hz : a.eval z = _), Instr.sliceAt, Sem.run_bind, run_underlying hu, Instr.slice, Instr.sliceBounds, A3R hh]
theorem A4A {x y : Operand} {t : TypeId} {i : I7} [hI : D4 P t i] (hd' : i.desc = .string) {s : ByteArray} {l : Nat}
  (hx : evo env x = some (.string s)) (hy : evo env y = some (.int .i64 (l : Int))) (hl : l ≤ s.size) :
  E1 P Γ ⟨env, hp, G⟩ (.slice t x (some y) none none) ty (.string (s.extract l s.size)) := by
 refine ⟨fun a _ hs _ _ _ _ w => ?_⟩
 have hu := hI.und
 rw [hd'] at hu
 simp [execOp, (hs.evo hx : a.eval x = _), (hs.evo hy : a.eval y = _), Instr.sliceAt, Sem.run_bind, run_underlying hu, Instr.slice, Instr.sliceBounds, A3R hl]
theorem A8G {x y : Operand} {t t' : TypeId} {r s : ByteArray} (hx : evo env x = some (.string r)) (hy : evo env y = some (.string s)) :
  E1 P Γ ⟨env, hp, G⟩ (.binOp .lss t x y t') ty (.bool (decide (Op.bytesLess r.toList s.toList = true))) := by
 refine ⟨fun a _ hs _ _ _ _ w => ?_⟩
 simp only [execOp, eqGuard, binOp, Op.stringOp, (hs.evo hx : a.eval x = _), (hs.evo hy : a.eval y = _)]
 simp
end slaws
theorem B26 (s nm : ByteArray) (G : IM) (hs : s.size ≤ 1000) (hn : nm.size ≤ 1000) :
  Fn Tryz.prog 125 [.string s, .string nm] [] G (fun G' v outs => G' = G ∧ outs = [] ∧ ∃ r, v = .string r ∧ r.size ≤ s.size + nm.size) := by
 refine B7 Tryz.func125 rfl Tryz.ntmps125 Tryz.results125 rfl ?_
 intro w0
 refine tS (tR (sQ (qA rfl) rfl (sD (nS (tS (tR (sQ (qA rfl) rfl (sD (nS (tS ?_))))))))))
 refine B5 ?_
 (refine K4 (fun (i : Nat) => ⟨[(5, .int .i64 (i : Int)), (0, .string s), (1, .string nm)], [], G⟩) (fun i => i ≤ s.size) (fun i => s.size - i) 0 ?_ ?_ ?_)
 exact C9
 exact Nat.zero_le _
 (intro i hi)
 refine tS (tS (tR (sQ (qM rfl) rfl (sQ (qM rfl) rfl ?_))))
 refine sQ (A0m rfl rfl) rfl (sB (J3 rfl rfl) rfl rfl (fun h23 => ?_) (fun h23 => ?_))
 refine sQ (qM rfl) rfl (sQ (qM rfl) rfl (sQ (qM rfl) rfl (sQ (qM rfl) rfl ?_)))
 refine sP (Z8 (n := 1) rfl rfl (by omega)) rfl rfl ?_
 refine sP (A2a (h := i + 1) rfl rfl rfl rfl (by omega) (by omega)) rfl rfl ?_
 refine sQ (qM rfl) rfl ?_
 refine sB (A8G rfl rfl) rfl rfl (fun h31 => ?_) (fun h31 => ?_)
 refine sQ (C1 rfl rfl) rfl (sD (nS (qT rfl (tK (nS ?_)))))
 refine B5 ?_
 refine tR (sQ (qM rfl) rfl ?_)
 refine sP (Z8 (n := 1) rfl rfl (by omega)) rfl rfl ?_
 refine sQ (qA rfl) rfl (sD (C8 ?_))
 refine K3 (i + 1) ?_ ?_ ?_
 exact C9
 (show _ ≤ s.size; omega)
 (show s.size - _ < s.size - _; omega)
 refine Y8 ?_
 refine sQ (A0m rfl rfl) rfl ?_
 refine sP (A7m rfl rfl (by omega)) rfl rfl ?_
 refine sQ (qM rfl) rfl (sQ (qM rfl) rfl (sQ (qM rfl) rfl (sQ (qM rfl) rfl ?_)))
 refine sP (Z8 (n := 1) rfl rfl (by omega)) rfl rfl ?_
 refine sP (A2a (h := i + 1) rfl rfl rfl rfl (by omega) (by omega)) rfl rfl ?_
 refine sQ (qM rfl) rfl ?_
 refine sB (A1J rfl rfl) rfl rfl (fun h72 => ?_) (fun h72 => ?_)
 refine sQ (C1 rfl rfl) rfl (sD (nS (qT rfl (tS (tR (sQ (qM rfl) rfl (sQ (qA rfl) rfl (sD (nS (tT (rS ?_)))))))))))
 refine E5 (outs := []) (rT rfl) A0.nil ?_
 (exact ⟨rfl, rfl, _, rfl, Nat.le_add_right _ _⟩)
 refine sQ (C1 rfl rfl) rfl (sD (nS (cF rfl (tK (nS (tS ?_))))))
 refine I0 I1 rfl ?_
 refine J2 (i := 0) (l' := [tt,ff,ff,ff,ff,ff,ff,ff,ff,ff]) rfl F4 (qM rfl) rfl (by kernel_rfl) rfl rfl ?_
 refine aP 1 rfl (qM rfl) rfl ?_
 refine aP 2 rfl (A4z rfl rfl rfl (by omega)) rfl ?_
 refine aP 3 rfl (qM rfl) rfl ?_
 refine aP 4 rfl (A0P rfl rfl (by simp only [ByteArray.size_extract, ByteArray.size_append]; omega)) rfl ?_
 refine aP 5 rfl (qM rfl) rfl ?_
 refine aP 6 rfl (qM rfl) rfl ?_
 refine aP 7 rfl (A4A rfl rfl rfl (by omega)) rfl ?_
 refine aP 8 rfl (A0P rfl rfl (by simp only [ByteArray.size_extract, ByteArray.size_append]; omega)) rfl ?_
 refine aP 9 rfl (qA rfl) rfl ?_
 refine D6 (nS (tT ?_))
 refine E5 (outs := []) (rT rfl) A0.nil ?_
 (exact ⟨rfl, rfl, _, rfl, by simp only [ByteArray.size_extract, ByteArray.size_append]; omega⟩)
 refine A09 ?_
 refine sQ (A0m rfl rfl) rfl ?_
 refine sP (A2S rfl rfl (by omega)) rfl rfl ?_
 refine N5 ?_
 refine I0 I1 rfl ?_
 refine J2 (i := 0) (l' := [tt,ff,ff,ff,ff,ff,ff,ff,ff,ff]) rfl F4 (qM rfl) rfl (by kernel_rfl) rfl rfl ?_
 refine aP 1 rfl (qM rfl) rfl ?_
 refine aP 2 rfl (A4z rfl rfl rfl (by omega)) rfl ?_
 refine aP 3 rfl (qM rfl) rfl ?_
 refine aP 4 rfl (A0P rfl rfl (by simp only [ByteArray.size_extract, ByteArray.size_append]; omega)) rfl ?_
 refine aP 5 rfl (qM rfl) rfl ?_
 refine aP 6 rfl (qM rfl) rfl ?_
 refine aP 7 rfl (A4A rfl rfl rfl (by omega)) rfl ?_
 refine aP 8 rfl (A0P rfl rfl (by simp only [ByteArray.size_extract, ByteArray.size_append]; omega)) rfl ?_
 refine aP 9 rfl (qA rfl) rfl ?_
 refine D6 (nS (tT ?_))
 refine E5 (outs := []) (rT rfl) A0.nil ?_
 (exact ⟨rfl, rfl, _, rfl, by simp only [ByteArray.size_extract, ByteArray.size_append]; omega⟩)
theorem A2b (G : IM) : C3 G B8 [.int .i64 0, .slice none 0 0] := by
 simp only [B8, C3]
 exact ⟨none, 0, [], rfl, ⟨by omega, by omega⟩, C5.of (Sl.nil _ _) rfl (by simp) (by simp), by simp [F8]⟩
theorem A6a : K0 B8 = 0 := rfl
theorem E3.tm {G : IM} {k : Int} {nm : ByteArray} {num : Int} {t : Ty} {q : Option Addr} {d : Nat} {ts : List Tm} {es : List (List Value)} {p : Option Addr} {n c : Nat} (h : E3 G ts es) (hn : ts.length = n) (hs : Sl G p n c 9 es.flatten) (hk : C6 k) (hm : C6 num)
  (ht : C3 G t [.int .i64 t.k, .slice q t.ks.length d]) : B1 G (.mk k nm num t B8 0 ts) [.int .i64 k, .string nm, .int .i64 num, .int .i64 t.k, .slice q t.ks.length d, .int .i64 0, .slice none 0 0, .int .i64 0, .slice p n c] := by
 subst hn
 simp only [B1]
 exact ⟨_, _, p, c, es, rfl, hk, hm, ⟨by omega, by omega⟩, ht, A2b G, C5.of hs h.len h.all (fun e he => (h.each e he).2), h⟩
theorem A1u {G : IM} {k : Int} {nm : ByteArray} {num : Int} (hk : C6 k) (hm : C6 num) :
  B1 G (.mk k nm num B8 B8 0 []) [.int .i64 k, .string nm, .int .i64 num, .int .i64 0, .slice none 0 0, .int .i64 0, .slice none 0 0, .int .i64 0, .slice none 0 0] :=
 E3.tm (ts := []) (es := []) (t := B8) (by simp [E3]) rfl (Sl.nil _ _) hk hm (A2b G)
theorem A1S (k : Int) (nm : ByteArray) (num : Int) : Z7 (.mk k nm num B8 B8 0 []) = nm.size := by
 rw [Z7, A6a, X1]; simp
theorem A6b : ∀ (ts : List Tm) (t : Tm), X1 (ts ++ [t]) = X1 ts + Z7 t
 | [], t => by simp [X1]
 | a :: ts, t => by simp only [List.cons_append, X1, A6b ts t]; omega
theorem A23 (k : Int) : E7 k ≤ 3 := by
 unfold E7; repeat (split; omega)
 omega
theorem A6c {d : Nat} (h : d ≤ 2) : dB (d + 1) ≤ 14 := by
 have : d = 0 ∨ d = 1 ∨ d = 2 := by omega
 rcases this with rfl | rfl | rfl <;> decide
theorem A2v (n : Int) (G : IM) : Fn Tryz.prog 100 [.int .i64 n] [] G (H3 (.agg ⟨[.int .i64 2, .string ⟨⟨[]⟩⟩, .int .i64 n, .int .i64 0, .slice none 0 0, .int .i64 0, .slice none 0 0, .int .i64 0, .slice none 0 0]⟩) G) := by
 refine B7 Tryz.func100 rfl Tryz.ntmps100 Tryz.results100 rfl ?_
 intro w0
 refine tS (tR ?_)
 refine sE (B6 rfl) rfl (fun b3 => ?_)
 refine sD (nS (tS (tR (sQ (qM rfl) rfl (sQ (D9 rfl rfl) rfl (B9 ?_))))))
 refine sD (nS (tT ?_))
 refine A6 (rC rfl (A7 rfl rfl)) ?_
 exact ⟨rfl, rfl, rfl⟩
theorem A8H (br : Nat) (pb : Option Addr) (nb cb : Nat) (bs : List UInt8) (hnb : nb ≤ 2000) (p : Nat) (G : IM) (hb : Sl G pb nb cb 1 (N1 bs)) (hp : p + 3 < 1099511627776) (s : ByteArray) (hs : s.size ≤ 1000) :
  Fn Tryz.prog 165 [.pointer (some ⟨br, 0, none⟩), .string s] [rd br pb nb cb p] G
   (A0q br pb nb cb p 3 (fun G' v => ∃ t cells, v = .agg ⟨cells⟩ ∧ B1 G' t cells ∧ Z7 t ≤ 1)) := by
 refine B7 Tryz.func165 rfl Tryz.ntmps165 Tryz.results165 rfl ?_
 intro w0
 refine tS (tR ?_)
 refine sE (B6 rfl) rfl (fun b3 => ?_)
 refine sD (nS (tS (tS (tR (sQ (qM rfl) rfl ?_)))))
 refine sQ (A0m rfl rfl) rfl ?_
 refine sB (Y7 rfl rfl) rfl rfl (fun h11 => ?_) (fun h11 => ?_)
 refine sQ (qM rfl) rfl (sQ (qM rfl) rfl ?_)
 (refine D2 rfl (X2 _ br pb nb cb p bs _ hb hnb (by omega)) (Pk.perm (by repeat (first | exact Pk.here | apply Pk.there))) rfl rfl (fun v14 G14 outs14 hle14 hh => ?_); obtain ⟨rfl, rfl, j14, rfl, hj14, hk14⟩ := hh; obtain ⟨i14, rfl⟩ := Int.eq_ofNat_of_zero_le hj14)
 replace hb := hb.mono hle14
 refine sB (Y7 rfl rfl) rfl rfl (fun h15 => ?_) (fun h15 => ?_)
 refine sQ (C1 rfl rfl) rfl (sD (nS (qT rfl (tS (tR (sQ (qM rfl) rfl (sQ (qM rfl) rfl ?_)))))))
 refine sQ (A0m rfl rfl) rfl ?_
 (refine D2 rfl (X2 _ br pb nb cb (p + 1) bs _ hb hnb (by omega)) (Pk.perm (by repeat (first | exact Pk.here | apply Pk.there))) rfl rfl (fun v25 G25 outs25 hle25 hh => ?_); obtain ⟨rfl, rfl, j25, rfl, hj25, hk25⟩ := hh; obtain ⟨i25, rfl⟩ := Int.eq_ofNat_of_zero_le hj25)
 replace hb := hb.mono hle25
 refine sQ (qA rfl) rfl (sD (nS (tS (tR (sQ (qM rfl) rfl (sQ (qM rfl) rfl (sQ (qM rfl) rfl ?_)))))))
 refine sP (Z8 (n := 1) rfl rfl (by omega)) rfl rfl ?_
 refine sP (A2a rfl rfl rfl rfl (by omega) (by omega)) rfl rfl ?_
 refine sQ (D9 rfl rfl) rfl (B9 ?_)
 refine sD (nS (tT (rS ?_)))
 refine E5 (outs := [rd br pb nb cb (p + 1 + 1)]) (rC rfl (A7 rfl rfl)) (by repeat (first | exact A0.nil | refine A0.cons Pk.here ?_ | refine A0.cons (Pk.there Pk.here) ?_ | refine A0.cons (Pk.there (Pk.there Pk.here)) ?_ | apply A0.drop)) ?_
 focus (refine ⟨_, ?_, ?_, rfl, _, _, rfl, A1u ⟨by omega, by omega⟩ ⟨by omega, by omega⟩, ?_⟩; all_goals (try rw [A1S]); all_goals (first | omega | (simp only [ByteArray.size_extract]; omega) | decide))
 refine sQ (C1 rfl rfl) rfl (sD (nS (cF rfl (tK (nS (tS (tS (tR (sQ (qM rfl) rfl ?_)))))))))
 (refine D2 rfl (X2 _ br pb nb cb (p + 1) bs _ hb hnb (by omega)) (Pk.perm (by repeat (first | exact Pk.here | apply Pk.there))) rfl rfl (fun v54 G54 outs54 hle54 hh => ?_); obtain ⟨rfl, rfl, j54, rfl, hj54, hk54⟩ := hh; obtain ⟨i54, rfl⟩ := Int.eq_ofNat_of_zero_le hj54)
 replace hb := hb.mono hle54
 refine sD (nS ?_)
 refine B5 (tS (tR (sB (qE rfl rfl) rfl rfl (fun h60 => ?_) (fun h60 => ?_))))
 refine sQ (qA rfl) rfl (sD (nS (qT rfl (tS (tR (sQ (D9 rfl rfl) rfl (B9 ?_)))))))
 refine sD (nS (tT (rB (rS ?_))))
 refine E5 (outs := [rd br pb nb cb (p + 1 + 1)]) (rC rfl (A7 rfl rfl)) (by repeat (first | exact A0.nil | refine A0.cons Pk.here ?_ | refine A0.cons (Pk.there Pk.here) ?_ | refine A0.cons (Pk.there (Pk.there Pk.here)) ?_ | apply A0.drop)) ?_
 focus (refine ⟨_, ?_, ?_, rfl, _, _, rfl, A1u ⟨by omega, by omega⟩ ⟨by omega, by omega⟩, ?_⟩; all_goals (try rw [A1S]); all_goals (first | omega | (simp only [ByteArray.size_extract]; omega) | decide))
 refine sQ (qA rfl) rfl (sD (nS (cF rfl (tS (tR ?_)))))
 refine sB (qE rfl rfl) rfl rfl (fun h82 => ?_) (fun h82 => ?_)
 refine sQ (qA rfl) rfl (sD (nS (qT rfl (tS (tR (sQ (D9 rfl rfl) rfl (B9 ?_)))))))
 refine sD (nS (tT (rB (rS ?_))))
 refine E5 (outs := [rd br pb nb cb (p + 1 + 1)]) (rC rfl (A7 rfl rfl)) (by repeat (first | exact A0.nil | refine A0.cons Pk.here ?_ | refine A0.cons (Pk.there Pk.here) ?_ | refine A0.cons (Pk.there (Pk.there Pk.here)) ?_ | apply A0.drop)) ?_
 focus (refine ⟨_, ?_, ?_, rfl, _, _, rfl, A1u ⟨by omega, by omega⟩ ⟨by omega, by omega⟩, ?_⟩; all_goals (try rw [A1S]); all_goals (first | omega | (simp only [ByteArray.size_extract]; omega) | decide))
 refine sQ (qA rfl) rfl (sD (nS (cF rfl (tK (C8 (nS (tS (tR (sQ (qM rfl) rfl ?_)))))))))
 (refine E0 (D0 rfl rfl rfl (by omega) (by unfold maxLen; omega) rfl) rfl ?_; rintro _ ⟨b108, rfl⟩)
 (refine Q8 (by repeat (first | exact Pk.here | apply Pk.there)) (fun Gf hlef hslf _ => ?_); refine D2 rfl (A0b Gf br pb nb cb (p + 1 + 1) bs _ _ _ _ (hb.mono hlef) hnb (by omega) hslf (by decide)) (Pk.perm (by repeat (first | exact Pk.here | apply Pk.there))) rfl rfl (fun v Gn outs hlen hh => ?_); obtain ⟨rfl, rfl, hv⟩ := hh; obtain ⟨kn, rfl, hkn⟩ : ∃ k, v = .int .i64 k ∧ C6 k := (by simp only [List.mem_cons, List.not_mem_nil, or_false] at hv; rcases hv with rfl | rfl | rfl | rfl | rfl | rfl <;> exact ⟨_, rfl, by unfold C6; omega⟩))
 refine F0 rfl ((A2v _ _)) rfl rfl ?_
 refine B9 ?_
 refine sD (nS (tT ?_))
 refine E5 (outs := [rd br pb nb cb (p + 1 + 1 + 1)]) (rC rfl (A7 rfl rfl)) (by repeat (first | exact A0.nil | refine A0.cons Pk.here ?_ | refine A0.cons (Pk.there Pk.here) ?_ | refine A0.cons (Pk.there (Pk.there Pk.here)) ?_ | apply A0.drop)) ?_
 focus (refine ⟨_, ?_, ?_, rfl, _, _, rfl, A1u ⟨by omega, by omega⟩ hkn, ?_⟩; all_goals (try rw [A1S]); all_goals (first | omega | decide))
 refine Y8 ?_
 (refine D2 rfl (X2 _ br pb nb cb p bs _ hb hnb (by omega)) (Pk.perm (by repeat (first | exact Pk.here | apply Pk.there))) rfl rfl (fun v131 G131 outs131 hle131 hh => ?_); obtain ⟨rfl, rfl, j131, rfl, hj131, hk131⟩ := hh; obtain ⟨i131, rfl⟩ := Int.eq_ofNat_of_zero_le hj131)
 replace hb := hb.mono hle131
 refine sD (nS ?_)
 refine B5 (tS (tR (sB (qE rfl rfl) rfl rfl (fun h137 => ?_) (fun h137 => ?_))))
 refine sQ (qA rfl) rfl (sD (nS (qT rfl (tS (tR (sQ (D9 rfl rfl) rfl (B9 ?_)))))))
 refine sD (nS (tT (rB (rS ?_))))
 refine E5 (outs := [rd br pb nb cb (p + 1)]) (rC rfl (A7 rfl rfl)) (by repeat (first | exact A0.nil | refine A0.cons Pk.here ?_ | refine A0.cons (Pk.there Pk.here) ?_ | refine A0.cons (Pk.there (Pk.there Pk.here)) ?_ | apply A0.drop)) ?_
 focus (refine ⟨_, ?_, ?_, rfl, _, _, rfl, A1u ⟨by omega, by omega⟩ ⟨by omega, by omega⟩, ?_⟩; all_goals (try rw [A1S]); all_goals (first | omega | (simp only [ByteArray.size_extract]; omega) | decide))
 refine sQ (qA rfl) rfl (sD (nS (cF rfl (tS (tR ?_)))))
 refine sB (qE rfl rfl) rfl rfl (fun h159 => ?_) (fun h159 => ?_)
 refine sQ (qA rfl) rfl (sD (nS (qT rfl (tS (tR (sQ (D9 rfl rfl) rfl (B9 ?_)))))))
 refine sD (nS (tT (rB (rS ?_))))
 refine E5 (outs := [rd br pb nb cb (p + 1)]) (rC rfl (A7 rfl rfl)) (by repeat (first | exact A0.nil | refine A0.cons Pk.here ?_ | refine A0.cons (Pk.there Pk.here) ?_ | refine A0.cons (Pk.there (Pk.there Pk.here)) ?_ | apply A0.drop)) ?_
 focus (refine ⟨_, ?_, ?_, rfl, _, _, rfl, A1u ⟨by omega, by omega⟩ ⟨by omega, by omega⟩, ?_⟩; all_goals (try rw [A1S]); all_goals (first | omega | (simp only [ByteArray.size_extract]; omega) | decide))
 refine sQ (qA rfl) rfl (sD (nS (cF rfl (tK (C8 (nS (tS (tR (sQ (qM rfl) rfl ?_)))))))))
 (refine E0 (D0 rfl rfl rfl (by omega) (by unfold maxLen; omega) rfl) rfl ?_; rintro _ ⟨b185, rfl⟩)
 (refine Q8 (by repeat (first | exact Pk.here | apply Pk.there)) (fun Gf hlef hslf _ => ?_); refine D2 rfl (A0b Gf br pb nb cb (p + 1) bs _ _ _ _ (hb.mono hlef) hnb (by omega) hslf (by decide)) (Pk.perm (by repeat (first | exact Pk.here | apply Pk.there))) rfl rfl (fun v Gn outs hlen hh => ?_); obtain ⟨rfl, rfl, hv⟩ := hh; obtain ⟨kn, rfl, hkn⟩ : ∃ k, v = .int .i64 k ∧ C6 k := (by simp only [List.mem_cons, List.not_mem_nil, or_false] at hv; rcases hv with rfl | rfl | rfl | rfl | rfl | rfl <;> exact ⟨_, rfl, by unfold C6; omega⟩))
 refine F0 rfl ((A2v _ _)) rfl rfl ?_
 refine B9 ?_
 refine sD (nS (tT ?_))
 refine E5 (outs := [rd br pb nb cb (p + 1 + 1)]) (rC rfl (A7 rfl rfl)) (by repeat (first | exact A0.nil | refine A0.cons Pk.here ?_ | refine A0.cons (Pk.there Pk.here) ?_ | refine A0.cons (Pk.there (Pk.there Pk.here)) ?_ | apply A0.drop)) ?_
 focus (refine ⟨_, ?_, ?_, rfl, _, _, rfl, A1u ⟨by omega, by omega⟩ hkn, ?_⟩; all_goals (try rw [A1S]); all_goals (first | omega | decide))
def tB : Nat → Nat
 | 0 => 3
 | d + 1 => 3 * tB d + 20
theorem A8I (d : Nat) : 3 ≤ tB d := by cases d <;> simp only [tB] <;> omega
theorem A8J (br : Nat) (pb : Option Addr) (nb cb : Nat) (bs : List UInt8) (hnb : nb ≤ 2000) : ∀ (d p : Nat) (G : IM) (s : ByteArray), d ≤ 900 → s.size + d ≤ 950 → Sl G pb nb cb 1 (N1 bs) → p + tB d < 1099511627776 →
  Fn Tryz.prog 98 [.pointer (some ⟨br, 0, none⟩), .string s, .int .i64 ((d + 1 : Nat) : Int)] [rd br pb nb cb p] G
   (A0q br pb nb cb p (tB d) (fun G' v => ∃ t cells, v = .agg ⟨cells⟩ ∧ B1 G' t cells ∧ Z7 t ≤ ((tB d : Nat) : Int))) := by
 refine fun d => Nat.strongRecOn d fun d ih p G s hd hs hb hp => ?_
 have hge := A8I d
 refine B7 Tryz.func98 rfl Tryz.ntmps98 Tryz.results98 rfl ?_
 intro w0
 refine tS (tR ?_)
 refine sE (B6 rfl) rfl (fun b3 => ?_)
 refine sD (nS (tS (tS (tR (sQ (qM rfl) rfl ?_)))))
 refine sB (J3 rfl rfl) rfl rfl (fun h10 => ?_) (fun h10 => ?_)
 ·refine R5 ?_
  (refine D2 rfl (A8H br pb nb cb bs hnb p _ hb (by omega) s (by omega)) (Pk.perm (by repeat (first | exact Pk.here | apply Pk.there))) rfl rfl (fun v Ga outs hlea hh => ?_); obtain ⟨pa, hpa1, hpa2, rfl, ta, cellsa, rfl, hra, hsa⟩ := hh; have hl9 := hra.len; have ho9 := hra.one)
  refine sS rfl rfl rfl hl9 ho9 rfl ?_ (hu := by exact I4 hl9.symm)
  refine sD (nS (tT (rS ?_)))
  refine E5 (outs := [rd br pb nb cb pa]) (rC rfl (A9 rfl rfl (C7 (by repeat first | exact mH | apply mT)) hl9)) (by repeat (first | exact A0.nil | refine A0.cons Pk.here ?_ | refine A0.cons (Pk.there Pk.here) ?_ | refine A0.cons (Pk.there (Pk.there Pk.here)) ?_ | apply A0.drop)) ?_
  (exact ⟨pa, by omega, by omega, rfl, ta, cellsa, rfl, hra, by omega⟩)
 ·refine sQ (qM rfl) rfl (sQ (qM rfl) rfl ?_)
  (have hB4 : 4 ≤ tB d := (by obtain ⟨d1, rfl⟩ : ∃ d1, d = d1 + 1 := ⟨d - 1, by omega⟩; simp only [tB]; have := A8I d1; omega); refine D2 rfl (X2 _ br pb nb cb p bs _ hb hnb (by omega)) (Pk.perm (by repeat (first | exact Pk.here | apply Pk.there))) rfl rfl (fun v33 G33 outs33 hle33 hh => ?_); obtain ⟨rfl, rfl, j33, rfl, hj33, hk33⟩ := hh)
  replace hb := hb.mono hle33
  refine sB (qE rfl rfl) rfl rfl (fun h34 => ?_) (fun h34 => ?_)
  ·refine sQ (D7 rfl rfl) rfl (sD (nS (qT rfl (tS (tR (sQ (qM rfl) rfl (sQ (qM rfl) rfl ?_)))))))
   (refine D2 rfl (A8H br pb nb cb bs hnb (p + 1) _ hb (by omega) s (by omega)) (Pk.perm (by repeat (first | exact Pk.here | apply Pk.there))) rfl rfl (fun v Ga outs hlea hh => ?_); obtain ⟨pa, hpa1, hpa2, rfl, ta, cellsa, rfl, hra, hsa⟩ := hh; have hl9 := hra.len; have ho9 := hra.one)
   refine sS rfl rfl rfl hl9 ho9 rfl ?_ (hu := by exact I4 hl9.symm)
   refine sD (nS (tT (rS ?_)))
   refine E5 (outs := [rd br pb nb cb pa]) (rC rfl (A9 rfl rfl (C7 (by repeat first | exact mH | apply mT)) hl9)) (by repeat (first | exact A0.nil | refine A0.cons Pk.here ?_ | refine A0.cons (Pk.there Pk.here) ?_ | refine A0.cons (Pk.there (Pk.there Pk.here)) ?_ | apply A0.drop)) ?_
   (exact ⟨pa, by omega, by omega, rfl, ta, cellsa, rfl, hra, by omega⟩)
  ·refine sQ (D7 rfl rfl) rfl (sD (nS (cF rfl (tK (nS (tS (tR (sQ (qM rfl) rfl ?_))))))))
   (refine E0 (D0 rfl rfl rfl (by omega) (by unfold maxLen; omega) rfl) rfl ?_; rintro _ ⟨b60, rfl⟩)
   (refine Q8 (by repeat (first | exact Pk.here | apply Pk.there)) (fun Gf hlef hslf _ => ?_); refine D2 rfl (A0b Gf br pb nb cb (p + 1) bs _ _ _ _ (hb.mono hlef) hnb (by omega) hslf (by decide)) (Pk.perm (by repeat (first | exact Pk.here | apply Pk.there))) rfl rfl (fun v Gk outs hlek hh => ?_); obtain ⟨rfl, rfl, hv⟩ := hh; replace hb := hb.mono hlef; obtain ⟨k, rfl, hk1, hk2⟩ : ∃ k, v = .int .i64 k ∧ 5 ≤ k ∧ k ≤ 13 := (by simp only [List.mem_cons, List.not_mem_nil, or_false] at hv; rcases hv with rfl | rfl | rfl | rfl | rfl | rfl | rfl | rfl | rfl | rfl | rfl <;> exact ⟨_, rfl, by decide, by decide⟩); obtain ⟨d1, rfl⟩ : ∃ d1, d = d1 + 1 := ⟨d - 1, by omega⟩; have hB : tB (d1 + 1) = 3 * tB d1 + 20 := rfl)
   refine sQ (qA rfl) rfl (sD (nS (tS (tR (sQ (qM rfl) rfl (sQ (D9 rfl rfl) rfl ?_))))))
   refine sE (B6 rfl) rfl (fun b69 => ?_)
   refine B9 ?_
   refine sD (nS (tS (tS (tR (sQ (qM rfl) rfl ?_)))))
   refine sB (qE rfl rfl) rfl rfl (fun h77 => ?_) (fun h77 => ?_)
   ·refine sD (nS ?_)
    (show I6 _ _ (.cond (.tmp 26) _ _) _ _; refine A0i (fun (x : ByteArray × ByteArray × Nat × IM) => ⟨[(7, .int .i64 k), (8, .pointer (some ⟨b69, 0, none⟩)), (6, .pointer (some ⟨b3, 0, none⟩)), (0, .pointer (some ⟨br, 0, none⟩)), (1, .string x.2.1), (2, .int .i64 ((d1 + 1 + 1 : Nat) : Int))], [.blk b69 [.int .i64 k, .string x.1, .int .i64 0, .int .i64 0, .slice none 0 0, .int .i64 0, .slice none 0 0, .int .i64 0, .slice none 0 0], .blk b3 [.int .i64 0, .string ⟨⟨[]⟩⟩, .int .i64 0, .int .i64 0, .slice none 0 0, .int .i64 0, .slice none 0 0, .int .i64 0, .slice none 0 0], rd br pb nb cb x.2.2.1], x.2.2.2⟩) (fun x => B4 Gk x.2.2.2 ∧ x.1.size ≤ 1 ∧ x.2.1.size ≤ s.size + 1 ∧ p + 2 ≤ x.2.2.1 ∧ x.2.2.1 ≤ p + 3) ?_ ?_)
    ·refine qT rfl (tS (tR (sQ (qM rfl) rfl ?_)))
     (refine E0 (D0 rfl rfl rfl (by omega) (by unfold maxLen; omega) rfl) rfl ?_; rintro _ ⟨b85, rfl⟩)
     (refine Q8 (by repeat (first | exact Pk.here | apply Pk.there)) (fun Gf2 hlef2 hslf2 _ => ?_); refine D2 rfl (A56 Gf2 br pb nb cb (p + 1 + 1) bs _ _ _ _ (hb.mono hlef2) hnb (by omega) hslf2 (by decide)) (Pk.perm (by repeat (first | exact Pk.here | apply Pk.there))) rfl rfl (fun v Go outs hleo hh => ?_); obtain ⟨rfl, rfl, hv2⟩ := hh; obtain ⟨nmA, rfl, hnA⟩ : ∃ nm, v = .string nm ∧ nm.size ≤ 1 := (by simp only [List.mem_cons, List.not_mem_nil, or_false] at hv2; rcases hv2 with rfl | rfl | rfl | rfl <;> exact ⟨_, rfl, by decide⟩))
     refine sQ (A3 rfl) rfl (B9 ?_)
     refine sD (nS (tR (sQ (qM rfl) rfl (sQ (A3 rfl) rfl (sL (A5 rfl rfl) rfl rfl ?_)))))
     (refine A5r rfl (B26 s nmA _ (by omega) (by omega)) rfl rfl (fun v Ga outs hlea hh => ?_); obtain ⟨rfl, rfl, sA, rfl, hsA⟩ := hh)
     refine sQ (qA rfl) rfl (sD ?_)
     refine P0 (nmA, sA, p + 1 + 1 + 1, Ga) (O2 (by repeat (first | exact E4.nil | refine E4.cons rfl ?_)) (by repeat (first | exact A0.refl | exact A0.nil | refine A0.cons (by repeat (first | exact Pk.here | apply Pk.there)) ?_ | apply A0.drop))) ?_
     (dsimp only; exact ⟨hlef2, hnA, by omega, by omega, by omega⟩)
    ·(rintro ⟨(nm : ByteArray), s', p1, G1⟩ ⟨hleA, hnm, hss, hpA, hpB⟩; simp only [] at hleA hnm hss hpA hpB ⊢; replace hb := hb.mono hleA; have hmark := hleA)
     refine tS (tS ?_)
     (have hm' := hmark; refine A0i (fun (x : Bool) => ⟨(40, .bool x) :: [(7, .int .i64 k), (8, .pointer (some ⟨b69, 0, none⟩)), (6, .pointer (some ⟨b3, 0, none⟩)), (0, .pointer (some ⟨br, 0, none⟩)), (1, .string s'), (2, .int .i64 ((d1 + 1 + 1 : Nat) : Int))], [.blk b69 [.int .i64 k, .string nm, .int .i64 0, .int .i64 0, .slice none 0 0, .int .i64 0, .slice none 0 0, .int .i64 0, .slice none 0 0], .blk b3 [.int .i64 0, .string ⟨⟨[]⟩⟩, .int .i64 0, .int .i64 0, .slice none 0 0, .int .i64 0, .slice none 0 0, .int .i64 0, .slice none 0 0], rd br pb nb cb p1], G1⟩) (fun x => True) ?_ ?_)
     ·refine tR (sQ (qM rfl) rfl ?_)
      refine sP (W9 rfl rfl (by omega)) rfl rfl ?_
      refine sQ (qM rfl) rfl (sK rfl rfl (sK rfl rfl (sQ (C1 rfl rfl) rfl (sD ?_))))
      refine P0 true (O2 (by repeat (first | exact E4.nil | refine E4.cons rfl ?_)) (by repeat (first | exact A0.refl | exact A0.nil | refine A0.cons (by repeat (first | exact Pk.here | apply Pk.there)) ?_ | apply A0.drop))) ?_
      trivial
     ·(rintro x _; clear hmark)
      (show I6 _ _ (.cond (.tmp 40) _ _) _ _; refine A0i (fun (x : Ty × Option Addr × Nat × Nat × IM) => ⟨[(7, .int .i64 k), (8, .pointer (some ⟨b69, 0, none⟩)), (6, .pointer (some ⟨b3, 0, none⟩)), (0, .pointer (some ⟨br, 0, none⟩)), (1, .string s'), (2, .int .i64 ((d1 + 1 + 1 : Nat) : Int))], [.blk b69 [.int .i64 k, .string nm, .int .i64 0, .int .i64 x.1.k, .slice x.2.1 x.1.ks.length x.2.2.1, .int .i64 0, .slice none 0 0, .int .i64 0, .slice none 0 0], .blk b3 [.int .i64 0, .string ⟨⟨[]⟩⟩, .int .i64 0, .int .i64 0, .slice none 0 0, .int .i64 0, .slice none 0 0, .int .i64 0, .slice none 0 0], rd br pb nb cb x.2.2.2.1], x.2.2.2.2⟩) (fun x => B4 G1 x.2.2.2.2 ∧ C3 x.2.2.2.2 x.1 [.int .i64 x.1.k, .slice x.2.1 x.1.ks.length x.2.2.1] ∧ K0 x.1 ≤ 14 ∧ p1 ≤ x.2.2.2.1 ∧ x.2.2.2.1 ≤ p1 + 15) (A3l rfl (fun hxt => ?_) (fun hxf => ?_)) ?_)
      ·refine tR (sQ (qM rfl) rfl (sQ (qM rfl) rfl ?_))
       (refine E0 (D0 rfl rfl rfl (by omega) (by unfold maxLen; omega) rfl) rfl ?_; rintro _ ⟨b119, rfl⟩)
       (refine Q8 (by repeat (first | exact Pk.here | apply Pk.there)) (fun Gf hlef3 hslf _ => ?_); refine D2 rfl (A0b Gf br pb nb cb p1 bs _ _ _ _ (hb.mono hlef3) hnb (by omega) hslf (by decide)) (Pk.perm (by repeat (first | exact Pk.here | apply Pk.there))) rfl rfl (fun v Gn outs hlen hh => ?_); obtain ⟨rfl, rfl, hv⟩ := hh; replace hb := hb.mono hlef3; obtain ⟨dd, rfl, hdd⟩ : ∃ d : Nat, v = .int .i64 ((d + 1 : Nat) : Int) ∧ d ≤ 2 := (by simp only [List.mem_cons, List.not_mem_nil, or_false] at hv; rcases hv with rfl | rfl | rfl | rfl <;> first | exact ⟨0, rfl, by decide⟩ | exact ⟨1, rfl, by decide⟩ | exact ⟨2, rfl, by decide⟩))
       (have hdB := A6c hdd; refine D2 rfl (A8z br pb nb cb bs hnb dd (p1 + 1) _ (by omega) hb (by omega)) (Pk.perm (by repeat (first | exact Pk.here | apply Pk.there))) rfl rfl (fun v G3 outs hle3 hh => ?_); obtain ⟨p3, hp31, hp32, rfl, t3, cells3, rfl, hr3, hs3⟩ := hh; obtain ⟨q3, c3, es3, rfl, _⟩ := hr3.open)
       refine sQ (A3 rfl) rfl (B9 ?_)
       refine sD ?_
       refine P0 (t3, q3, c3, p3, G3) (O2 (by repeat (first | exact E4.nil | refine E4.cons rfl ?_)) (by repeat (first | exact A0.refl | exact A0.nil | refine A0.cons (by repeat (first | exact Pk.here | apply Pk.there)) ?_ | apply A0.drop))) ?_
       (dsimp only; exact ⟨hlef3.trans hle3, hr3, by omega, by omega, by omega⟩)
      ·refine tK ?_
       refine P0 (B8, none, 0, p1, G1) (O2 (by repeat (first | exact E4.nil | refine E4.cons rfl ?_)) (by repeat (first | exact A0.refl | exact A0.nil | refine A0.cons (by repeat (first | exact Pk.here | apply Pk.there)) ?_ | apply A0.drop))) ?_
       (dsimp only; exact ⟨B4.refl _, A2b _, by decide, by omega, by omega⟩)
      ·(rintro ⟨(t' : Ty), q', c', p2, G2⟩ ⟨hleB, hrB, hsB, hpC, hpD⟩; simp only [] at hleB hrB hsB hpC hpD ⊢; replace hb := hb.mono hleB; have hop := A23 k; have hK := A5M k)
       refine tS (tS (tR (sQ (qA rfl) rfl (sD (nS ?_)))))
       refine B5 ?_
       (refine W1 28 9 ?_; refine K4 (fun (x : Nat × Option Addr × Nat × List Tm × List (List Value) × Nat × IM) => ⟨[(9, .int .i64 x.1), (7, .int .i64 k), (8, .pointer (some ⟨b69, 0, none⟩)), (6, .pointer (some ⟨b3, 0, none⟩)), (0, .pointer (some ⟨br, 0, none⟩)), (1, .string s'), (2, .int .i64 ((d1 + 1 + 1 : Nat) : Int))], [.blk b69 [.int .i64 k, .string nm, .int .i64 0, .int .i64 t'.k, .slice q' t'.ks.length c', .int .i64 0, .slice none 0 0, .int .i64 0, .slice x.2.1 x.1 x.2.2.1], .slc x.2.1 x.2.2.1 28 9 x.1 x.2.2.2.2.1.flatten, rd br pb nb cb x.2.2.2.2.2.1, .blk b3 [.int .i64 0, .string ⟨⟨[]⟩⟩, .int .i64 0, .int .i64 0, .slice none 0 0, .int .i64 0, .slice none 0 0, .int .i64 0, .slice none 0 0]], x.2.2.2.2.2.2⟩) (fun x => ((x.1 : Int) ≤ E7 k ∨ x.1 = 0) ∧ B4 G2 x.2.2.2.2.2.2 ∧ x.2.2.2.1.length = x.1 ∧ E3 x.2.2.2.2.2.2 x.2.2.2.1 x.2.2.2.2.1 ∧ X1 x.2.2.2.1 ≤ ((x.1 * tB d1 : Nat) : Int) ∧ p2 ≤ x.2.2.2.2.2.1 ∧ x.2.2.2.2.2.1 ≤ p2 + x.1 * tB d1) (fun x => (E7 k).toNat - x.1) (0, none, 0, [], [], p2, G2) ?_ ?_ ?_)
       ·(simp only [E2]; exact C9)
       ·(exact ⟨.inr rfl, B4.refl _, rfl, by simp [E3], by simp [X1], by dsimp only; omega, by dsimp only; omega⟩)
       ·(rintro ⟨i, pn, cn, ts, es', p', Gi⟩ ⟨hi, hle, hlt, hst, hsum, hq1, hq2⟩; simp only [] at hi hle hlt hst hsum hq1 hq2 ⊢; have hid : i * tB d1 ≤ 3 * tB d1 := Nat.mul_le_mul_right _ (by omega))
        refine tS (tS (tR (sQ (qM rfl) rfl (sQ (qM rfl) rfl ?_))))
        refine F0 rfl ((hK _)) rfl rfl ?_
        refine sB (J3 rfl rfl) rfl rfl (fun h148 => ?_) (fun h148 => ?_)
        ·refine sD (nS (qT rfl (tK (nS (tS ?_)))))
         refine B5 ?_
         (have hih := ih d1 (by omega) p' Gi s' (by omega) (by omega) (hb.mono hle) (by have := Nat.mul_le_mul_right (tB d1) (show i + 1 ≤ 3 by omega); rw [Nat.succ_mul] at this; omega); refine I0 I1 rfl ?_)
         refine J2 (i := 0) (l' := [tt,ff,ff,ff,ff,ff,ff,ff,ff,ff,ff]) rfl F4 (A3 rfl) rfl (by kernel_rfl) rfl rfl ?_
         refine aL 1 rfl (A5 rfl rfl) rfl ?_
         refine aP 2 rfl (qM rfl) rfl ?_
         refine aP 3 rfl (qM rfl) rfl ?_
         refine aP 4 rfl (qM rfl) rfl ?_
         refine aP 5 rfl (A4n rfl rfl (by omega)) rfl ?_
         refine A8 6 ?_
         (refine A0a (l' := [tt,tt,tt,tt,tt,tt,tt,ff,ff,ff,ff]) rfl rfl hih (Pk.perm (by repeat (first | exact Pk.here | apply Pk.there))) rfl rfl rfl (by repeat (first | exact B0.nil | apply B0.dep (by decide +kernel) | apply B0.blk (by decide +kernel) (by repeat (first | exact Pk.here | apply Pk.there)) (by repeat first | exact mH | apply mT))) (fun v G3 outs hle3 hh => ?_); obtain ⟨p3, hp31, hp32, rfl, t3, cells3, rfl, hr3, hs3⟩ := hh; obtain ⟨qt, dt, et, qf, df, ef, q3, d3, es3, rfl, _⟩ := hr3.open)
         refine A8 7 ?_
         (refine J9 rfl (D0 rfl rfl rfl (by omega) (by unfold maxLen; omega) rfl) rfl rfl ?_; rintro _ ⟨b166, rfl⟩)
         refine A8 8 ?_
         refine S9 rfl rfl rfl rfl rfl rfl (fun _ _ => by repeat (first | exact Sw.here | apply Sw.there)) (K9 (by repeat first | exact mH | apply mT)) rfl (by simp [Value.oneCell']) (by unfold maxLen; omega) (by omega) rfl rfl (by repeat (first | exact B0.nil | apply B0.dep (by decide +kernel) | apply B0.blk (by decide +kernel) (by repeat (first | exact Pk.here | apply Pk.there)) (by repeat first | exact mH | apply mT))) (fun pn' cn' => ?_)
         refine aP 9 rfl (A3 rfl) rfl ?_
         refine A8 10 ?_
         refine P3 rfl rfl rfl rfl rfl rfl rfl rfl (by kernel_rfl) (by repeat first | exact Sw.here | apply Sw.there) (by rfl) ?_
         refine D6 (C8 (nS (tR (sQ (qM rfl) rfl ?_))))
         refine sP (H6 rfl rfl (by omega) (by omega)) rfl rfl ?_
         refine sQ (qA rfl) rfl (sD ?_)
         refine K3 (i + 1, pn', cn', ts ++ [t3], es' ++ [[.int .i64 t3.k, .string t3.nm, .int .i64 t3.num, .int .i64 t3.ty.k, .slice qt t3.ty.ks.length dt, .int .i64 t3.fr.k, .slice qf t3.fr.ks.length df, .int .i64 t3.lb, .slice q3 t3.ks.length d3]], p3, G3) ?_ ?_ ?_
         ·(simp only [E2]; exact C9)
         ·(dsimp only; have e1 : (i + 1) * tB d1 = i * tB d1 + tB d1 := Nat.succ_mul _ _; have e2 := A6b ts t3; exact ⟨.inl (by omega), hle.trans hle3, by simp [hlt], E3.snoc (hst.mono hle3) hr3, by omega, by omega, by omega⟩)
         ·(show (E7 k).toNat - (i + 1) < (E7 k).toNat - i; omega)
        ·refine sD (nS (cF rfl (M7 (M8 (N3 (M9 (nS (tS (tR (sL (A7 rfl rfl) rfl rfl (B9 ?_)))))))))))
         refine sD (nS ?_)
         (refine Q4 (by repeat (first | exact Pk.here | apply Pk.there)) (fun G5 hle5 hsl5 hno5 => ?_))
         refine tT ?_
         refine E5 (outs := [rd br pb nb cb p']) (rC rfl (A7 rfl rfl)) (by repeat (first | exact A0.nil | refine A0.cons Pk.here ?_ | refine A0.cons (Pk.there Pk.here) ?_ | refine A0.cons (Pk.there (Pk.there Pk.here)) ?_ | apply A0.drop)) ?_
         (refine ⟨p', by omega, by omega, rfl, .mk k nm 0 t' B8 0 ts, _, rfl, (hst.mono hle5).tm hlt hsl5 ⟨by omega, by omega⟩ ⟨by omega, by omega⟩ (hrB.mono (hle.trans hle5)), ?_⟩; rw [Z7, A6a]; omega)
   ·refine sD (nS ?_)
    (show I6 _ _ (.cond (.tmp 26) _ _) _ _; refine A0i (fun (x : ByteArray × ByteArray × Nat × IM) => ⟨[(7, .int .i64 k), (8, .pointer (some ⟨b69, 0, none⟩)), (6, .pointer (some ⟨b3, 0, none⟩)), (0, .pointer (some ⟨br, 0, none⟩)), (1, .string x.2.1), (2, .int .i64 ((d1 + 1 + 1 : Nat) : Int))], [.blk b69 [.int .i64 k, .string x.1, .int .i64 0, .int .i64 0, .slice none 0 0, .int .i64 0, .slice none 0 0, .int .i64 0, .slice none 0 0], .blk b3 [.int .i64 0, .string ⟨⟨[]⟩⟩, .int .i64 0, .int .i64 0, .slice none 0 0, .int .i64 0, .slice none 0 0, .int .i64 0, .slice none 0 0], rd br pb nb cb x.2.2.1], x.2.2.2⟩) (fun x => B4 Gk x.2.2.2 ∧ x.1.size ≤ 1 ∧ x.2.1.size ≤ s.size + 1 ∧ p + 2 ≤ x.2.2.1 ∧ x.2.2.1 ≤ p + 3) ?_ ?_)
    ·refine cF rfl (tK ?_)
     refine P0 (⟨⟨[]⟩⟩, s, p + 1 + 1, Gk) (O2 (by repeat (first | exact E4.nil | refine E4.cons rfl ?_)) (by repeat (first | exact A0.refl | exact A0.nil | refine A0.cons (by repeat (first | exact Pk.here | apply Pk.there)) ?_ | apply A0.drop))) ?_
     (dsimp only; exact ⟨B4.refl _, by decide, by omega, by omega, by omega⟩)
    ·(rintro ⟨(nm : ByteArray), s', p1, G1⟩ ⟨hleA, hnm, hss, hpA, hpB⟩; simp only [] at hleA hnm hss hpA hpB ⊢; replace hb := hb.mono hleA; have hmark := hleA)
     refine tS (tS ?_)
     (have hm' := hmark; refine A0i (fun (x : Bool) => ⟨(40, .bool x) :: [(7, .int .i64 k), (8, .pointer (some ⟨b69, 0, none⟩)), (6, .pointer (some ⟨b3, 0, none⟩)), (0, .pointer (some ⟨br, 0, none⟩)), (1, .string s'), (2, .int .i64 ((d1 + 1 + 1 : Nat) : Int))], [.blk b69 [.int .i64 k, .string nm, .int .i64 0, .int .i64 0, .slice none 0 0, .int .i64 0, .slice none 0 0, .int .i64 0, .slice none 0 0], .blk b3 [.int .i64 0, .string ⟨⟨[]⟩⟩, .int .i64 0, .int .i64 0, .slice none 0 0, .int .i64 0, .slice none 0 0, .int .i64 0, .slice none 0 0], rd br pb nb cb p1], G1⟩) (fun x => True) ?_ ?_)
     ·refine tR (sQ (qM rfl) rfl ?_)
      refine sP (E9 rfl rfl (by omega)) rfl rfl ?_
      refine sQ (qM rfl) rfl (sQ (qM rfl) rfl ?_)
      refine sB (qE rfl rfl) rfl rfl (fun h218 => ?_) (fun h218 => ?_)
      ·refine sQ (D7 rfl rfl) rfl (sD ?_)
       refine P0 true (O2 (by repeat (first | exact E4.nil | refine E4.cons rfl ?_)) (by repeat (first | exact A0.refl | exact A0.nil | refine A0.cons (by repeat (first | exact Pk.here | apply Pk.there)) ?_ | apply A0.drop))) ?_
       trivial
      ·refine sQ (D7 rfl rfl) rfl (sD ?_)
       refine P0 false (O2 (by repeat (first | exact E4.nil | refine E4.cons rfl ?_)) (by repeat (first | exact A0.refl | exact A0.nil | refine A0.cons (by repeat (first | exact Pk.here | apply Pk.there)) ?_ | apply A0.drop))) ?_
       trivial
     ·(rintro x _; clear hmark)
      (show I6 _ _ (.cond (.tmp 40) _ _) _ _; refine A0i (fun (x : Ty × Option Addr × Nat × Nat × IM) => ⟨[(7, .int .i64 k), (8, .pointer (some ⟨b69, 0, none⟩)), (6, .pointer (some ⟨b3, 0, none⟩)), (0, .pointer (some ⟨br, 0, none⟩)), (1, .string s'), (2, .int .i64 ((d1 + 1 + 1 : Nat) : Int))], [.blk b69 [.int .i64 k, .string nm, .int .i64 0, .int .i64 x.1.k, .slice x.2.1 x.1.ks.length x.2.2.1, .int .i64 0, .slice none 0 0, .int .i64 0, .slice none 0 0], .blk b3 [.int .i64 0, .string ⟨⟨[]⟩⟩, .int .i64 0, .int .i64 0, .slice none 0 0, .int .i64 0, .slice none 0 0, .int .i64 0, .slice none 0 0], rd br pb nb cb x.2.2.2.1], x.2.2.2.2⟩) (fun x => B4 G1 x.2.2.2.2 ∧ C3 x.2.2.2.2 x.1 [.int .i64 x.1.k, .slice x.2.1 x.1.ks.length x.2.2.1] ∧ K0 x.1 ≤ 14 ∧ p1 ≤ x.2.2.2.1 ∧ x.2.2.2.1 ≤ p1 + 15) (A3l rfl (fun hxt => ?_) (fun hxf => ?_)) ?_)
      ·refine tR (sQ (qM rfl) rfl (sQ (qM rfl) rfl ?_))
       (refine E0 (D0 rfl rfl rfl (by omega) (by unfold maxLen; omega) rfl) rfl ?_; rintro _ ⟨b232, rfl⟩)
       (refine Q8 (by repeat (first | exact Pk.here | apply Pk.there)) (fun Gf hlef3 hslf _ => ?_); refine D2 rfl (A0b Gf br pb nb cb p1 bs _ _ _ _ (hb.mono hlef3) hnb (by omega) hslf (by decide)) (Pk.perm (by repeat (first | exact Pk.here | apply Pk.there))) rfl rfl (fun v Gn outs hlen hh => ?_); obtain ⟨rfl, rfl, hv⟩ := hh; replace hb := hb.mono hlef3; obtain ⟨dd, rfl, hdd⟩ : ∃ d : Nat, v = .int .i64 ((d + 1 : Nat) : Int) ∧ d ≤ 2 := (by simp only [List.mem_cons, List.not_mem_nil, or_false] at hv; rcases hv with rfl | rfl | rfl | rfl <;> first | exact ⟨0, rfl, by decide⟩ | exact ⟨1, rfl, by decide⟩ | exact ⟨2, rfl, by decide⟩))
       (have hdB := A6c hdd; refine D2 rfl (A8z br pb nb cb bs hnb dd (p1 + 1) _ (by omega) hb (by omega)) (Pk.perm (by repeat (first | exact Pk.here | apply Pk.there))) rfl rfl (fun v G3 outs hle3 hh => ?_); obtain ⟨p3, hp31, hp32, rfl, t3, cells3, rfl, hr3, hs3⟩ := hh; obtain ⟨q3, c3, es3, rfl, _⟩ := hr3.open)
       refine sQ (A3 rfl) rfl (B9 ?_)
       refine sD ?_
       refine P0 (t3, q3, c3, p3, G3) (O2 (by repeat (first | exact E4.nil | refine E4.cons rfl ?_)) (by repeat (first | exact A0.refl | exact A0.nil | refine A0.cons (by repeat (first | exact Pk.here | apply Pk.there)) ?_ | apply A0.drop))) ?_
       (dsimp only; exact ⟨hlef3.trans hle3, hr3, by omega, by omega, by omega⟩)
      ·refine tK ?_
       refine P0 (B8, none, 0, p1, G1) (O2 (by repeat (first | exact E4.nil | refine E4.cons rfl ?_)) (by repeat (first | exact A0.refl | exact A0.nil | refine A0.cons (by repeat (first | exact Pk.here | apply Pk.there)) ?_ | apply A0.drop))) ?_
       (dsimp only; exact ⟨B4.refl _, A2b _, by decide, by omega, by omega⟩)
      ·(rintro ⟨(t' : Ty), q', c', p2, G2⟩ ⟨hleB, hrB, hsB, hpC, hpD⟩; simp only [] at hleB hrB hsB hpC hpD ⊢; replace hb := hb.mono hleB; have hop := A23 k; have hK := A5M k)
       refine tS (tS (tR (sQ (qA rfl) rfl (sD (nS ?_)))))
       refine B5 ?_
       (refine W1 28 9 ?_; refine K4 (fun (x : Nat × Option Addr × Nat × List Tm × List (List Value) × Nat × IM) => ⟨[(9, .int .i64 x.1), (7, .int .i64 k), (8, .pointer (some ⟨b69, 0, none⟩)), (6, .pointer (some ⟨b3, 0, none⟩)), (0, .pointer (some ⟨br, 0, none⟩)), (1, .string s'), (2, .int .i64 ((d1 + 1 + 1 : Nat) : Int))], [.blk b69 [.int .i64 k, .string nm, .int .i64 0, .int .i64 t'.k, .slice q' t'.ks.length c', .int .i64 0, .slice none 0 0, .int .i64 0, .slice x.2.1 x.1 x.2.2.1], .slc x.2.1 x.2.2.1 28 9 x.1 x.2.2.2.2.1.flatten, rd br pb nb cb x.2.2.2.2.2.1, .blk b3 [.int .i64 0, .string ⟨⟨[]⟩⟩, .int .i64 0, .int .i64 0, .slice none 0 0, .int .i64 0, .slice none 0 0, .int .i64 0, .slice none 0 0]], x.2.2.2.2.2.2⟩) (fun x => ((x.1 : Int) ≤ E7 k ∨ x.1 = 0) ∧ B4 G2 x.2.2.2.2.2.2 ∧ x.2.2.2.1.length = x.1 ∧ E3 x.2.2.2.2.2.2 x.2.2.2.1 x.2.2.2.2.1 ∧ X1 x.2.2.2.1 ≤ ((x.1 * tB d1 : Nat) : Int) ∧ p2 ≤ x.2.2.2.2.2.1 ∧ x.2.2.2.2.2.1 ≤ p2 + x.1 * tB d1) (fun x => (E7 k).toNat - x.1) (0, none, 0, [], [], p2, G2) ?_ ?_ ?_)
       ·(simp only [E2]; exact C9)
       ·(exact ⟨.inr rfl, B4.refl _, rfl, by simp [E3], by simp [X1], by dsimp only; omega, by dsimp only; omega⟩)
       ·(rintro ⟨i, pn, cn, ts, es', p', Gi⟩ ⟨hi, hle, hlt, hst, hsum, hq1, hq2⟩; simp only [] at hi hle hlt hst hsum hq1 hq2 ⊢; have hid : i * tB d1 ≤ 3 * tB d1 := Nat.mul_le_mul_right _ (by omega))
        refine tS (tS (tR (sQ (qM rfl) rfl (sQ (qM rfl) rfl ?_))))
        refine F0 rfl ((hK _)) rfl rfl ?_
        refine sB (J3 rfl rfl) rfl rfl (fun h261 => ?_) (fun h261 => ?_)
        ·refine sD (nS (qT rfl (tK (nS (tS ?_)))))
         refine B5 ?_
         (have hih := ih d1 (by omega) p' Gi s' (by omega) (by omega) (hb.mono hle) (by have := Nat.mul_le_mul_right (tB d1) (show i + 1 ≤ 3 by omega); rw [Nat.succ_mul] at this; omega); refine I0 I1 rfl ?_)
         refine J2 (i := 0) (l' := [tt,ff,ff,ff,ff,ff,ff,ff,ff,ff,ff]) rfl F4 (A3 rfl) rfl (by kernel_rfl) rfl rfl ?_
         refine aL 1 rfl (A5 rfl rfl) rfl ?_
         refine aP 2 rfl (qM rfl) rfl ?_
         refine aP 3 rfl (qM rfl) rfl ?_
         refine aP 4 rfl (qM rfl) rfl ?_
         refine aP 5 rfl (A4n rfl rfl (by omega)) rfl ?_
         refine A8 6 ?_
         (refine A0a (l' := [tt,tt,tt,tt,tt,tt,tt,ff,ff,ff,ff]) rfl rfl hih (Pk.perm (by repeat (first | exact Pk.here | apply Pk.there))) rfl rfl rfl (by repeat (first | exact B0.nil | apply B0.dep (by decide +kernel) | apply B0.blk (by decide +kernel) (by repeat (first | exact Pk.here | apply Pk.there)) (by repeat first | exact mH | apply mT))) (fun v G3 outs hle3 hh => ?_); obtain ⟨p3, hp31, hp32, rfl, t3, cells3, rfl, hr3, hs3⟩ := hh; obtain ⟨qt, dt, et, qf, df, ef, q3, d3, es3, rfl, _⟩ := hr3.open)
         refine A8 7 ?_
         (refine J9 rfl (D0 rfl rfl rfl (by omega) (by unfold maxLen; omega) rfl) rfl rfl ?_; rintro _ ⟨b279, rfl⟩)
         refine A8 8 ?_
         refine S9 rfl rfl rfl rfl rfl rfl (fun _ _ => by repeat (first | exact Sw.here | apply Sw.there)) (K9 (by repeat first | exact mH | apply mT)) rfl (by simp [Value.oneCell']) (by unfold maxLen; omega) (by omega) rfl rfl (by repeat (first | exact B0.nil | apply B0.dep (by decide +kernel) | apply B0.blk (by decide +kernel) (by repeat (first | exact Pk.here | apply Pk.there)) (by repeat first | exact mH | apply mT))) (fun pn' cn' => ?_)
         refine aP 9 rfl (A3 rfl) rfl ?_
         refine A8 10 ?_
         refine P3 rfl rfl rfl rfl rfl rfl rfl rfl (by kernel_rfl) (by repeat first | exact Sw.here | apply Sw.there) (by rfl) ?_
         refine D6 (C8 (nS (tR (sQ (qM rfl) rfl ?_))))
         refine sP (H6 rfl rfl (by omega) (by omega)) rfl rfl ?_
         refine sQ (qA rfl) rfl (sD ?_)
         refine K3 (i + 1, pn', cn', ts ++ [t3], es' ++ [[.int .i64 t3.k, .string t3.nm, .int .i64 t3.num, .int .i64 t3.ty.k, .slice qt t3.ty.ks.length dt, .int .i64 t3.fr.k, .slice qf t3.fr.ks.length df, .int .i64 t3.lb, .slice q3 t3.ks.length d3]], p3, G3) ?_ ?_ ?_
         ·(simp only [E2]; exact C9)
         ·(dsimp only; have e1 : (i + 1) * tB d1 = i * tB d1 + tB d1 := Nat.succ_mul _ _; have e2 := A6b ts t3; exact ⟨.inl (by omega), hle.trans hle3, by simp [hlt], E3.snoc (hst.mono hle3) hr3, by omega, by omega, by omega⟩)
         ·(show (E7 k).toNat - (i + 1) < (E7 k).toNat - i; omega)
        ·refine sD (nS (cF rfl (M7 (M8 (N3 (M9 (nS (tS (tR (sL (A7 rfl rfl) rfl rfl (B9 ?_)))))))))))
         refine sD (nS ?_)
         (refine Q4 (by repeat (first | exact Pk.here | apply Pk.there)) (fun G5 hle5 hsl5 hno5 => ?_))
         refine tT ?_
         refine E5 (outs := [rd br pb nb cb p']) (rC rfl (A7 rfl rfl)) (by repeat (first | exact A0.nil | refine A0.cons Pk.here ?_ | refine A0.cons (Pk.there Pk.here) ?_ | refine A0.cons (Pk.there (Pk.there Pk.here)) ?_ | apply A0.drop)) ?_
         (refine ⟨p', by omega, by omega, rfl, .mk k nm 0 t' B8 0 ts, _, rfl, (hst.mono hle5).tm hlt hsl5 ⟨by omega, by omega⟩ ⟨by omega, by omega⟩ (hrB.mono (hle.trans hle5)), ?_⟩; rw [Z7, A6a]; omega)
theorem Sl.pre {G : IM} {p : Option Addr} {n c m : Nat} {cs : List Value} (h : Sl G p n c 1 cs) (hm : m ≤ n) : Sl G p m c 1 (cs.take m) := by
 obtain ⟨h1, h2, h3, h4⟩ := h
 refine ⟨by rw [List.length_take]; omega, by omega, h3, ?_⟩
 rcases h4 with h4 | ⟨b, o, full, e1, e2, e3⟩
 ·exact .inl (by omega)
 ·refine .inr ⟨b, o, full, e1, e2, fun j v hj => e3 j v ?_⟩
  rw [List.getElem?_take] at hj
  split at hj
  ·exact hj
  ·cases hj
theorem B27 (bs : List UInt8) (m : Nat) : N1 (bs.take m) = (N1 bs).take m := by unfold N1; rw [List.map_take]
theorem A8K {d : Nat} (h : d ≤ 4) : tB d ≤ 1043 := by
 have : d = 0 ∨ d = 1 ∨ d = 2 ∨ d = 3 ∨ d = 4 := by omega
 rcases this with rfl | rfl | rfl | rfl | rfl <;> decide
def A3S (G : IM) : IM → Value → List A4 → Prop := fun G' v outs => G' = G ∧ ∃ br pb nb cb bs, v = .pointer (some ⟨br, 0, none⟩) ∧ outs = [rd br pb nb cb 0] ∧ nb ≤ 2000 ∧ Sl G pb nb cb 1 (N1 bs)
theorem A3S.mk {G : IM} {b : Nat} {pb : Option Addr} {nb cb : Nat} {bs : List UInt8} (h : nb ≤ 2000) (hb : Sl G pb nb cb 1 (N1 bs)) : A3S G G (.pointer (some ⟨b, 0, none⟩)) [.blk b [.slice pb nb cb, .int .i64 0]] := ⟨rfl, _, _, _, _, bs, rfl, rfl, h, hb⟩
theorem B28 (G : IM) (q : Option Addr) (n c : Nat) (bs : List UInt8) (hb : Sl G q n c 1 (N1 bs)) :
  Fn Tryz.prog 48 [.slice q n c] [] G (A3S G) := by
 have hn := hb.le
 have hnc := hb.2.1
 have hpre := fun h : 2000 ≤ n => hb.pre h
 refine B7 Tryz.func48 rfl Tryz.ntmps48 Tryz.results48 rfl ?_
 intro w0
 refine tS (tR (sQ (qA rfl) rfl (sD (nS (tS (tS (tR (sQ (qM rfl) rfl (sQ (D8 rfl rfl) rfl ?_)))))))))
 refine sB (Y7 rfl rfl) rfl rfl (fun h11 => ?_) (fun h11 => ?_)
 refine sD (nS (qT rfl (tR (sQ (qM rfl) rfl ?_))))
 refine sP (A1q (l := 2000) rfl rfl rfl (by omega)) rfl rfl ?_
 refine sQ (qA rfl) rfl (sD (nS (tS (tR (sQ (qM rfl) rfl (sQ (D9 rfl rfl) rfl ?_))))))
 refine sE (D5 rfl rfl) rfl (fun b25 => ?_)
 refine sQ (qA rfl) rfl (sD (nS (tT ?_)))
 refine E5 (rT rfl) A0.refl ?_
 exact A3S.mk (Nat.le_refl _) (by rw [B27]; exact hpre (by omega))
 refine sD (nS (cF rfl (tK (nS (tS (tR (sQ (qM rfl) rfl (sQ (D9 rfl rfl) rfl ?_))))))))
 refine sE (D5 rfl rfl) rfl (fun b41 => ?_)
 refine sQ (qA rfl) rfl (sD (nS (tT ?_)))
 refine E5 (rT rfl) A0.refl ?_
 exact A3S.mk (by omega) hb
theorem A8L (br : Nat) (pb : Option Addr) (nb cb : Nat) (bs : List UInt8) (hnb : nb ≤ 2000) (p : Nat) (G : IM) (hb : Sl G pb nb cb 1 (N1 bs)) (hp : p + 1100 < 1099511627776) :
  Fn Tryz.prog 97 [.pointer (some ⟨br, 0, none⟩)] [rd br pb nb cb p] G
   (A0q br pb nb cb p 1100 (fun G' v => ∃ t cells, v = .agg ⟨cells⟩ ∧ B1 G' t cells ∧ Z7 t ≤ 1043)) := by
 refine B7 Tryz.func97 rfl Tryz.ntmps97 Tryz.results97 rfl ?_
 intro w0
 refine tS (tR ?_)
 refine sE (B6 rfl) rfl (fun b3 => ?_)
 refine sD (nS (tS (tR (sQ (qM rfl) rfl (sQ (qM rfl) rfl ?_)))))
 (refine E0 (D0 rfl rfl rfl (by omega) (by unfold maxLen; omega) rfl) rfl ?_; rintro _ ⟨b10, rfl⟩)
 (refine Q8 (by repeat (first | exact Pk.here | apply Pk.there)) (fun Gf hlef hslf _ => ?_); refine D2 rfl (A0b Gf br pb nb cb p bs _ _ _ _ (hb.mono hlef) hnb (by omega) hslf (by decide)) (Pk.perm (by repeat (first | exact Pk.here | apply Pk.there))) rfl rfl (fun v Gn outs hlen hh => ?_); obtain ⟨rfl, rfl, hv⟩ := hh; replace hb := hb.mono hlef; obtain ⟨dd, rfl, hdd⟩ : ∃ d : Nat, v = .int .i64 ((d + 1 : Nat) : Int) ∧ d ≤ 4 := (by simp only [List.mem_cons, List.not_mem_nil, or_false] at hv; rcases hv with rfl | rfl | rfl | rfl | rfl <;> first | exact ⟨3, rfl, by decide⟩ | exact ⟨2, rfl, by decide⟩ | exact ⟨4, rfl, by decide⟩ | exact ⟨1, rfl, by decide⟩); have htB := A8K hdd)
 (refine D2 rfl (A8J br pb nb cb bs hnb dd (p + 1) Gn ⟨⟨[]⟩⟩ (by omega) (by have hz : (⟨⟨[]⟩⟩ : ByteArray).size ≤ 2 := (by decide); omega) hb (by omega)) (Pk.perm (by repeat (first | exact Pk.here | apply Pk.there))) rfl rfl (fun v G3 outs hle3 hh => ?_); obtain ⟨p3, hp31, hp32, rfl, t3, cells3, rfl, hr3, hs3⟩ := hh; have hl3 := hr3.len; have ho3 := hr3.one; have hc3 := A3E t3; have hv3 := A4x t3 G3 cells3 (by omega) hr3)
 refine sE (B6 rfl) rfl (fun b13 => ?_)
 refine sS rfl rfl rfl hl3 ho3 rfl ?_ (hu := by exact I4 hl3.symm)
 refine sD (nS (tS (tS (tR ?_))))
 refine sL (A9 rfl rfl (C7 (by repeat first | exact mH | apply mT)) hl3) rfl rfl ?_
 refine H1 rfl (hv3) rfl rfl (fun h21 => ?_) (fun h21 => ?_)
 refine sD (nS (qT rfl (tS (tR ?_))))
 refine sL (A9 rfl rfl (C7 (by repeat first | exact mH | apply mT)) hl3) rfl rfl ?_
 refine sS rfl rfl rfl hl3 ho3 rfl ?_ (hu := by exact I4 hl3.symm)
 refine sD (nS (tT (rS ?_)))
 refine E5 (outs := [rd br pb nb cb p3]) (rC rfl (A9 rfl rfl (C7 (by repeat first | exact mH | apply mT)) hl3)) (by repeat (first | exact A0.nil | refine A0.cons Pk.here ?_ | refine A0.cons (Pk.there Pk.here) ?_ | refine A0.cons (Pk.there (Pk.there Pk.here)) ?_ | apply A0.drop)) ?_
 (exact ⟨p3, by omega, by omega, rfl, t3, cells3, rfl, hr3, by omega⟩)
 refine sD (nS (cF rfl (tK (nS (tS (tR ?_))))))
 refine F0 rfl ((A2v _ _)) rfl rfl ?_
 refine B9 ?_
 refine sD (nS (tT ?_))
 refine E5 (outs := [rd br pb nb cb p3]) (rC rfl (A7 rfl rfl)) (by repeat (first | exact A0.nil | refine A0.cons Pk.here ?_ | refine A0.cons (Pk.there Pk.here) ?_ | refine A0.cons (Pk.there (Pk.there Pk.here)) ?_ | apply A0.drop)) ?_
 (exact ⟨p3, by omega, by omega, rfl, _, _, rfl, A1u ⟨by omega, by omega⟩ ⟨by omega, by omega⟩, by rw [A1S]; decide⟩)
theorem B29 (br : Nat) (pb : Option Addr) (nb cb : Nat) (bs : List UInt8) (hnb : nb ≤ 2000) (p : Nat) (G : IM) (hb : Sl G pb nb cb 1 (N1 bs)) (hp : p + 1200 < 1099511627776) :
  Fn Tryz.prog 50 [.pointer (some ⟨br, 0, none⟩)] [rd br pb nb cb p] G
   (A0q br pb nb cb p 1200 (fun G' v => ∃ t cells, v = .agg ⟨cells⟩ ∧ B1 G' t cells ∧ Z7 t ≤ 1043)) := by
 refine B7 Tryz.func50 rfl Tryz.ntmps50 Tryz.results50 rfl ?_
 intro w0
 refine tS (tR ?_)
 refine sE (B6 rfl) rfl (fun b3 => ?_)
 refine sD (nS (tS (tS (tR (sQ (qM rfl) rfl ?_)))))
 (refine D2 rfl (X2 _ br pb nb cb p bs _ hb hnb (by omega)) (Pk.perm (by repeat (first | exact Pk.here | apply Pk.there))) rfl rfl (fun v10 G10 outs10 hle10 hh => ?_); obtain ⟨rfl, rfl, j10, rfl, hj10, hk10⟩ := hh)
 replace hb := hb.mono hle10
 refine sB (Y7 rfl rfl) rfl rfl (fun h11 => ?_) (fun h11 => ?_)
 refine sD (nS (qT rfl (tS (tR (sQ (qM rfl) rfl ?_)))))
 (refine D2 rfl (A8L br pb nb cb bs hnb (p + 1) _ hb (by omega)) (Pk.perm (by repeat (first | exact Pk.here | apply Pk.there))) rfl rfl (fun v G3 outs hle3 hh => ?_); obtain ⟨p3, hp31, hp32, rfl, t3, cells3, rfl, hr3, hs3⟩ := hh; have hl3 := hr3.len; have ho3 := hr3.one)
 refine sS rfl rfl rfl hl3 ho3 rfl ?_ (hu := by exact I4 hl3.symm)
 refine sD (nS (tT (rS ?_)))
 refine E5 (outs := [rd br pb nb cb p3]) (rC rfl (A9 rfl rfl (C7 (by repeat first | exact mH | apply mT)) hl3)) (by repeat (first | exact A0.nil | refine A0.cons Pk.here ?_ | refine A0.cons (Pk.there Pk.here) ?_ | refine A0.cons (Pk.there (Pk.there Pk.here)) ?_ | apply A0.drop)) ?_
 (exact ⟨p3, by omega, by omega, rfl, t3, cells3, rfl, hr3, by omega⟩)
 refine sD (nS (cF rfl (tK (nS (tS (tR (sQ (qM rfl) rfl (sQ (qM rfl) rfl ?_))))))))
 (refine E0 (D0 rfl rfl rfl (by omega) (by unfold maxLen; omega) rfl) rfl ?_; rintro _ ⟨b35, rfl⟩)
 (refine Q8 (by repeat (first | exact Pk.here | apply Pk.there)) (fun Gf hlef hslf _ => ?_); refine D2 rfl (A0b Gf br pb nb cb (p + 1) bs _ _ _ _ (hb.mono hlef) hnb (by omega) hslf (by decide)) (Pk.perm (by repeat (first | exact Pk.here | apply Pk.there))) rfl rfl (fun v Gn outs hlen hh => ?_); obtain ⟨rfl, rfl, hv⟩ := hh; replace hb := hb.mono hlef; obtain ⟨dd, rfl, hdd⟩ : ∃ d : Nat, v = .int .i64 ((d + 1 : Nat) : Int) ∧ d ≤ 4 := (by simp only [List.mem_cons, List.not_mem_nil, or_false] at hv; rcases hv with rfl | rfl | rfl <;> first | exact ⟨2, rfl, by decide⟩ | exact ⟨1, rfl, by decide⟩ | exact ⟨3, rfl, by decide⟩); have htB := A8K hdd)
 (refine D2 rfl (A8J br pb nb cb bs hnb dd (p + 1 + 1) Gn ⟨⟨[120, 122]⟩⟩ (by omega) (by have hz : (⟨⟨[120, 122]⟩⟩ : ByteArray).size ≤ 2 := (by decide); omega) hb (by omega)) (Pk.perm (by repeat (first | exact Pk.here | apply Pk.there))) rfl rfl (fun v G3 outs hle3 hh => ?_); obtain ⟨p3, hp31, hp32, rfl, t3, cells3, rfl, hr3, hs3⟩ := hh; have hl3 := hr3.len; have ho3 := hr3.one; have hc3 := A3E t3; have hv3 := A4x t3 G3 cells3 (by omega) hr3)
 refine sE (B6 rfl) rfl (fun b38 => ?_)
 refine sS rfl rfl rfl hl3 ho3 rfl ?_ (hu := by exact I4 hl3.symm)
 refine sD (nS (tS (tS (tR ?_))))
 refine sL (A9 rfl rfl (C7 (by repeat first | exact mH | apply mT)) hl3) rfl rfl ?_
 refine H1 rfl (hv3) rfl rfl (fun h46 => ?_) (fun h46 => ?_)
 refine sD (nS (qT rfl (tS (tR ?_))))
 refine sL (A9 rfl rfl (C7 (by repeat first | exact mH | apply mT)) hl3) rfl rfl ?_
 refine sS rfl rfl rfl hl3 ho3 rfl ?_ (hu := by exact I4 hl3.symm)
 refine sD (nS (tT (rS ?_)))
 refine E5 (outs := [rd br pb nb cb p3]) (rC rfl (A9 rfl rfl (C7 (by repeat first | exact mH | apply mT)) hl3)) (by repeat (first | exact A0.nil | refine A0.cons Pk.here ?_ | refine A0.cons (Pk.there Pk.here) ?_ | refine A0.cons (Pk.there (Pk.there Pk.here)) ?_ | apply A0.drop)) ?_
 (exact ⟨p3, by omega, by omega, rfl, t3, cells3, rfl, hr3, by omega⟩)
 refine sD (nS (cF rfl (tK (nS (tS (tR ?_))))))
 refine F0 rfl ((A2v _ _)) rfl rfl ?_
 refine B9 ?_
 refine sD (nS (tT ?_))
 refine E5 (outs := [rd br pb nb cb p3]) (rC rfl (A7 rfl rfl)) (by repeat (first | exact A0.nil | refine A0.cons Pk.here ?_ | refine A0.cons (Pk.there Pk.here) ?_ | refine A0.cons (Pk.there (Pk.there Pk.here)) ?_ | apply A0.drop)) ?_
 (exact ⟨p3, by omega, by omega, rfl, _, _, rfl, A1u ⟨by omega, by omega⟩ ⟨by omega, by omega⟩, by rw [A1S]; decide⟩)
theorem A1v (G : IM) : Fn Tryz.prog 174 [] [] G (H3 (.agg ⟨[.int .i64 2, .slice none 0 0]⟩) G) := by
 refine B7 Tryz.func174 rfl Tryz.ntmps174 Tryz.results174 rfl ?_
 intro w0
 refine tS (tR ?_)
 refine sE (B6 rfl) rfl (fun b3 => ?_)
 refine sD (nS (tS (tR (sQ (D9 rfl rfl) rfl (B9 ?_)))))
 refine sD (nS (tT ?_))
 refine A6 (rC rfl (A7 rfl rfl)) ?_
 exact ⟨rfl, rfl, rfl⟩
theorem A3T (G : IM) : Fn Tryz.prog 172 [] [] G (H3 (.agg ⟨[.int .i64 3, .slice none 0 0]⟩) G) := by
 refine B7 Tryz.func172 rfl Tryz.ntmps172 Tryz.results172 rfl ?_
 intro w0
 refine tS (tR ?_)
 refine sE (B6 rfl) rfl (fun b3 => ?_)
 refine sD (nS (tS (tR (sQ (D9 rfl rfl) rfl (B9 ?_)))))
 refine sD (nS (tT ?_))
 refine A6 (rC rfl (A7 rfl rfl)) ?_
 exact ⟨rfl, rfl, rfl⟩
theorem A2w (G : IM) (k : Int) (p : Option Addr) (n c : Nat) : Fn Tryz.prog 171 [.int .i64 k, .slice p n c] [] G (H3 (.agg ⟨[.int .i64 k, .string ⟨⟨[]⟩⟩, .int .i64 0, .int .i64 0, .slice none 0 0, .int .i64 0, .slice none 0 0, .int .i64 0, .slice p n c]⟩) G) := by
 refine B7 Tryz.func171 rfl Tryz.ntmps171 Tryz.results171 rfl ?_
 intro w0
 refine tS (tR ?_)
 refine sE (B6 rfl) rfl (fun b3 => ?_)
 refine sD (nS (tS (tR (sQ (qM rfl) rfl (sQ (qM rfl) rfl (sQ (D9 rfl rfl) rfl (B9 ?_)))))))
 refine sD (nS (tT ?_))
 refine A6 (rC rfl (A7 rfl rfl)) ?_
 exact ⟨rfl, rfl, rfl⟩
theorem P1 (G : IM) {k : Int} (hk : C6 k) : C3 G (.mk k []) [.int .i64 k, .slice none 0 0] := by
 simp only [C3]
 exact ⟨none, 0, [], rfl, hk, C5.of (Sl.nil _ _) rfl (by simp) (by simp), by simp [F8]⟩
theorem A8M (k : Int) : K0 (.mk k []) = 0 := rfl
def TyB (B : Int) (G : IM) : IM → Value → List A4 → Prop := I9 fun G' v => ∃ t cells b, v = .tuple ⟨[.agg ⟨cells⟩, .bool b]⟩ ∧ C3 G' t cells ∧ H4 t ∧ K0 t ≤ B
theorem A4B {k : Int} {a b : Ty} (hk : k = 4 ∨ k = 5) (ha : H4 a) (hb : H4 b) : H4 (.mk k [a, b]) := by
 rw [H4]
 exact ⟨fun _ => rfl, fun h4 h5 => by omega, by simp [A0Q, ha, hb]⟩
theorem U0 {k : Int} (h4 : k ≠ 4) (h5 : k ≠ 5) : H4 (.mk k []) := (A22 0 h4 h5).ar
theorem H4.kid {k : Int} {ks : List Ty} (h : H4 (.mk k ks)) : ∀ t ∈ ks, H4 t := by
 rw [H4] at h; exact A3M.1 h.2.2
theorem H4.two {k : Int} {ks : List Ty} (h : H4 (.mk k ks)) : ks.length ≤ 2 := by
 rw [H4] at h
 have h1 := h.1
 have h2 := h.2.1
 omega
theorem A8N : ∀ {ks : List Ty} {t : Ty}, t ∈ ks → K0 t ≤ N9 ks
 | [], t, h => by simp at h
 | t' :: ts, t, h => by
  rw [N9]
  have := A1d t'
  have := A17 ts
  rcases List.mem_cons.1 h with rfl | h
  ·omega
  ·have := A8N h; omega
theorem B3a {k : Int} {ks : List Ty} {t : Ty} (h : t ∈ ks) : K0 t ≤ K0 (.mk k ks) := by
 have := A8N h
 rw [K0]; omega
def B65 (B : Int) (G : IM) : IM → Value → List A4 → Prop := I9 fun G' v => ∃ a ca b cb x, v = .tuple ⟨[.agg ⟨ca⟩, .agg ⟨cb⟩, .bool x]⟩ ∧ C3 G' a ca ∧ H4 a ∧ K0 a ≤ B ∧ C3 G' b cb ∧ H4 b ∧ K0 b ≤ B
def TyP (B : Int) (Q : Ty → Prop) (G : IM) : IM → Value → List A4 → Prop := I9 fun G' v => ∃ t cells, v = .agg ⟨cells⟩ ∧ C3 G' t cells ∧ H4 t ∧ K0 t ≤ B ∧ Q t
theorem A8O {k : Int} {ks us : List Ty} (h : H4 (.mk k ks)) (hl : us.length = ks.length) (hu : ∀ u ∈ us, H4 u) : H4 (.mk k us) := by
 rw [H4] at h ⊢
 exact ⟨fun hk => by rw [hl]; exact h.1 hk, fun a b => by rw [hl]; exact h.2.1 a b, A3M.2 hu⟩
theorem A6d {P : Ty → Prop} {us : List Ty} {u : Ty} (h : ∀ x ∈ us, P x) (hu : P u) : ∀ x ∈ us ++ [u], P x := by
 simp only [List.forall_mem_append, List.forall_mem_singleton]; exact ⟨h, hu⟩
theorem A1T : ∀ (t t' : Ty) (G : IM) (cells cells' : List Value), H4 t → H4 t' → C3 G t cells → C3 G t' cells' →
  Fn Tryz.prog 145 [.agg ⟨cells⟩, .agg ⟨cells'⟩] [] G (H3 (.bool (O3 t t')) G) := by
 refine Ty.ind fun k ks ih t' G cells cells' ha ha' hr hr' => ?_
 obtain ⟨k', ks'⟩ := t'
 obtain ⟨p, c, es, rfl, hk, hsl, hkl⟩ := hr.open
 obtain ⟨p', c', es', rfl, hk', hsl', hkl'⟩ := hr'.open
 simp only [Ty.k, Ty.ks] at hk hsl hkl hk' hsl' hkl' ⊢
 have hn := hsl.le
 have hn' := hsl'.le
 have hv2 := ha.kid
 have hv2' := ha'.kid
 rw [H4] at ha ha'
 have hle : k = k' → ks.length = ks'.length := by
  rintro rfl
  have h1 := ha.1
  have h2 := ha.2.1
  have h3 := ha'.1
  have h4 := ha'.2.1
  omega
 refine B7 Tryz.func145 rfl Tryz.ntmps145 Tryz.results145 rfl ?_
 intro w0
 refine tS (tR ?_)
 refine sE (D5 rfl rfl) rfl (fun b3 => ?_)
 refine sE (D5 rfl rfl) rfl (fun b4 => ?_)
 refine sQ (qA rfl) rfl (sD (nS (tS (tS (tR (sQ (A3 rfl) rfl (sL (A5 rfl rfl) rfl rfl ?_)))))))
 refine sB (qE rfl rfl) rfl rfl (fun h13 => ?_) (fun h13 => ?_)
 refine Q9 ?_
 (rw [A8n (by omega)]; exact ⟨rfl, rfl, rfl⟩)
 refine sQ (qM rfl) rfl (sQ (A3 rfl) rfl (sL (A5 rfl rfl) rfl rfl ?_))
 refine sB (qE rfl rfl) rfl rfl (fun h34 => ?_) (fun h34 => ?_)
 refine sQ (D7 rfl rfl) rfl (sD (nS (qT rfl (tS (tR (sQ (qA rfl) rfl (sD (nS (tT (rS (A6 (rT rfl) ?_)))))))))))
 (rw [A8n (by omega)]; exact ⟨rfl, rfl, rfl⟩)
 refine W2 ?_
 refine sB (P9 rfl rfl) rfl rfl (fun h61 => ?_) (fun h61 => ?_)
 refine sD (nS (qT rfl (tS (tR (sQ (qA rfl) rfl (sD (nS (tT (rS (A6 (rT rfl) ?_))))))))))
 (rw [B2u (by omega) (by omega) (by omega)]; exact ⟨rfl, rfl, rfl⟩)
 refine sD (nS (cF rfl (tK (nS (tS (tS (tR (sQ (qA rfl) rfl (sD (nS ?_))))))))))
 refine B5 ?_
 (have hll : ks.length = ks'.length := hle (by omega); refine K4 (fun (i : Nat) => ⟨[(5, .int .i64 i), (3, .pointer (some ⟨b4, 0, none⟩)), (2, .pointer (some ⟨b3, 0, none⟩))], [.blk b3 [.int .i64 k, .slice p ks.length c], .blk b4 [.int .i64 k', .slice p' ks'.length c']], G⟩) (fun i => i ≤ ks.length ∧ ∀ j (h : j < ks.length) (h' : j < ks'.length), j < i → O3 ks[j] ks'[j] = true) (fun i => ks.length - i) 0 ?_ ?_ ?_)
 exact C9
 exact ⟨by omega, by omega⟩
 (rintro i ⟨hi, hf⟩)
 refine tS (tS (tR (sQ (qM rfl) rfl (sQ (A3 rfl) rfl (sL (A5 rfl rfl) rfl rfl (sQ (D8 rfl rfl) rfl ?_))))))
 refine sB (J3 rfl rfl) rfl rfl (fun h97 => ?_) (fun h97 => ?_)
 refine sD (nS (qT rfl (tK (nS (tS ?_)))))
 refine B5 ?_
 refine tS ?_
 (obtain ⟨b, o, p2, c2, rfl, hat, hre, hgb⟩ := hsl.kidTy hkl (i := i) (by omega) (by omega); obtain ⟨b', o', p2', c2', rfl, hat', hre', hgb'⟩ := hsl'.kidTy hkl' (i := i) (by omega) (by omega); refine I0 I1 rfl ?_)
 refine J2 (i := 0) (l' := [tt,ff,ff,ff,ff,ff,ff,ff,ff,ff,ff,ff]) rfl F4 (A3 rfl) rfl (by kernel_rfl) rfl rfl ?_
 refine aL 1 rfl (A5 rfl rfl) rfl ?_
 refine aP 2 rfl (qM rfl) rfl ?_
 refine aP 3 rfl (C2 rfl rfl rfl (by omega)) rfl ?_
 refine aL 4 rfl (A9 rfl rfl (hat _) rfl) rfl ?_
 refine aP 5 rfl (A3 rfl) rfl ?_
 refine aL 6 rfl (A5 rfl rfl) rfl ?_
 refine aP 7 rfl (qM rfl) rfl ?_
 refine aP 8 rfl (C2 rfl rfl rfl (by omega)) rfl ?_
 refine aL 9 rfl (A9 rfl rfl (hat' _) rfl) rfl ?_
 refine A8 10 ?_
 refine A2p rfl rfl (ih ks[i] (List.getElem_mem (by omega)) ks'[i] G _ _ (hv2 _ (List.getElem_mem (by omega))) (hv2' _ (List.getElem_mem (by omega))) hre hre') rfl rfl rfl (fun h118 => ?_) (fun h118 => ?_)
 refine aP 11 rfl (M4 rfl) rfl ?_
 refine D6 (nS (cF rfl (tK (C8 (nS (tR (sQ (qM rfl) rfl ?_)))))))
 refine sP (H6 rfl rfl (by omega) (by omega)) rfl rfl ?_
 refine sQ (qA rfl) rfl (sD ?_)
 refine K3 (i + 1) ?_ ?_ ?_
 exact C9
 exact ⟨by omega, fun j hj hj' hji => by (by_cases he : j = i; (subst he; assumption); exact hf j hj hj' (by omega))⟩
 omega
 refine aP 11 rfl (O5 rfl) rfl ?_
 refine D6 (nS (qT rfl (tS (tR (sQ (qA rfl) rfl (sD (nS (tT (rB (rS (U2 (rB (rS (A6 (rT rfl) ?_))))))))))))))
 (rw [A8o (by omega) (by omega) (by omega), B2v (i := i) (by omega) (by omega) (by assumption)]; exact ⟨rfl, rfl, rfl⟩)
 refine sD (nS (cF rfl (M7 (M8 (N3 (M9 (nS (tS (tR (sQ (qA rfl) rfl (sD (nS (tT (A6 (rT rfl) ?_))))))))))))))
 (rw [A8o (by omega) (by omega) (by omega), (A2V ks _).2 ⟨hll, fun j hj hj' => hf j hj hj' (by omega)⟩]; exact ⟨rfl, rfl, rfl⟩)
theorem A6e (br : Nat) (pb : Option Addr) (nb cb : Nat) (bs : List UInt8) (hnb : nb ≤ 2000) : ∀ (t : Ty) (p : Nat) (G : IM) (cells : List Value), H4 t → C3 G t cells → Sl G pb nb cb 1 (N1 bs) → p + (K0 t).toNat + 1 < 1099511627776 →
  Fn Tryz.prog 144 [.pointer (some ⟨br, 0, none⟩), .agg ⟨cells⟩] [rd br pb nb cb p] G
   (A0q br pb nb cb p ((K0 t).toNat + 1) (fun G' v => ∃ u cells, v = .agg ⟨cells⟩ ∧ C3 G' u cells ∧ H4 u ∧ K0 u ≤ K0 t ∧ ∀ n, P6 n t → P6 n u)) := by
 refine Ty.ind fun k ks ih p G cells ha hr hb hp => ?_
 have hkid := ha.kid
 have hnn := A17 ks
 have hz : K0 (.mk k ks) = ks.length + N9 ks := by rw [K0]
 rw [hz] at hp ⊢
 obtain ⟨q, c, es, rfl, hk, hsl, hkl⟩ := hr.open
 simp only [Ty.k, Ty.ks] at hk hsl hkl ⊢
 have hn := hsl.le
 have hl2 := ha.two
 refine B7 Tryz.func144 rfl Tryz.ntmps144 Tryz.results144 rfl ?_
 intro w0
 refine tS (tR ?_)
 refine sE (D5 rfl rfl) rfl (fun b3 => ?_)
 refine sE (B6 rfl) rfl (fun b4 => ?_)
 refine sD (nS (tS (tS (tR (sQ (qM rfl) rfl ?_)))))
 (refine D2 rfl (X2 _ br pb nb cb p bs _ hb hnb (by omega)) (Pk.perm (by repeat (first | exact Pk.here | apply Pk.there))) rfl rfl (fun v11 G11 outs11 hle11 hh => ?_); obtain ⟨rfl, rfl, j11, rfl, hj11, hk11⟩ := hh; have hm := hle11)
 replace hb := hb.mono hle11
 replace hr := hr.mono hle11
 replace hsl := hsl.mono hle11
 replace hkl := hkl.mono hle11
 refine sB (qE rfl rfl) rfl rfl (fun h12 => ?_) (fun h12 => ?_)
 refine sD (nS (qT rfl (tS (tR ?_))))
 refine F0 rfl ((A1Q _)) rfl rfl ?_
 refine B9 ?_
 refine sD (nS (tT (rS ?_)))
 refine E5 (outs := [rd br pb nb cb (p + 1)]) (rC rfl (A7 rfl rfl)) (by repeat (first | exact A0.nil | refine A0.cons Pk.here ?_ | refine A0.cons (Pk.there Pk.here) ?_ | refine A0.cons (Pk.there (Pk.there Pk.here)) ?_ | apply A0.drop)) ?_
 (exact ⟨p + 1, by omega, by omega, rfl, O4, _, rfl, A1t _, A54, by rw [A57]; omega, fun n _ => A8y n⟩)
 refine sD (nS (cF rfl (tK (nS (tS (tR (sQ (A3 rfl) rfl (sL (A5 rfl rfl) rfl rfl (sQ (D9 rfl rfl) rfl ?_)))))))))
 refine sE (B6 rfl) rfl (fun b36 => ?_)
 refine B9 ?_
 refine sD (nS (tS (tS (tR (sQ (qA rfl) rfl (sD (nS ?_)))))))
 refine B5 ?_
 (refine W1 25 2 ?_; refine K4 (fun (x : Nat × Option Addr × Nat × List Ty × List (List Value) × Nat × IM) => ⟨[(6, .int .i64 x.1), (5, .pointer (some ⟨b36, 0, none⟩)), (4, .pointer (some ⟨b4, 0, none⟩)), (0, .pointer (some ⟨br, 0, none⟩)), (3, .pointer (some ⟨b3, 0, none⟩))], [.blk b36 [.int .i64 k, .slice x.2.1 x.1 x.2.2.1], .slc x.2.1 x.2.2.1 25 2 x.1 x.2.2.2.2.1.flatten, rd br pb nb cb x.2.2.2.2.2.1, .blk b4 [.int .i64 0, .slice none 0 0], .blk b3 [.int .i64 k, .slice q ks.length c]], x.2.2.2.2.2.2⟩) (fun x => x.1 ≤ ks.length ∧ B4 G11 x.2.2.2.2.2.2 ∧ x.2.2.2.1.length = x.1 ∧ F8 x.2.2.2.2.2.2 x.2.2.2.1 x.2.2.2.2.1 ∧ (∀ u ∈ x.2.2.2.1, H4 u) ∧ (∀ n, P6 n (.mk k ks) → ∀ u ∈ x.2.2.2.1, P6 (n - 1) u) ∧ N9 x.2.2.2.1 ≤ N9 (ks.take x.1) ∧ p + 1 ≤ x.2.2.2.2.2.1 ∧ (x.2.2.2.2.2.1 : Int) ≤ p + 1 + x.1 + N9 (ks.take x.1)) (fun x => ks.length - x.1) (0, none, 0, [], [], p + 1, G11) ?_ ?_ ?_)
 (simp only [E2]; exact C9)
 (exact ⟨by simp, B4.refl _, rfl, by simp [F8], by simp, by simp, by simp [N9], by dsimp only; omega, by simp [N9]⟩)
 (rintro ⟨i, pn, cn, us, es', p', Gi⟩ ⟨hi, hle, hlu, hst, hau, hhu, hsu, hp1, hp2⟩; simp only [] at hi hle hlu hst hau hhu hsu hp1 hp2 ⊢; replace hsl := hsl.mono hle; replace hkl := hkl.mono hle; have htk := A7S ks i)
 refine tS (tS (tR (sQ (qM rfl) rfl (sQ (A3 rfl) rfl (sL (A5 rfl rfl) rfl rfl (sQ (D8 rfl rfl) rfl ?_))))))
 refine sB (J3 rfl rfl) rfl rfl (fun h58 => ?_) (fun h58 => ?_)
 refine sD (nS (qT rfl (tK (nS (tS ?_)))))
 refine B5 ?_
 (obtain ⟨b, o, q0, d0, hp0, hat0, hre0, hg0⟩ := hsl.kidTy hkl (i := i) (by omega) (by omega); subst hp0; have e1 := B16 (ks := ks) (i := i) (by omega); have e2 := A7S ks (i + 1); have e3 := A1d ks[i]; have hih := ih ks[i] (List.getElem_mem (by omega)) p' Gi _ (hkid _ (List.getElem_mem (by omega))) hre0 (hb.mono hle) (by omega); refine I0 I1 rfl ?_)
 refine J2 (i := 0) (l' := [tt,ff,ff,ff,ff,ff,ff,ff,ff,ff,ff,ff,ff]) rfl F4 (A3 rfl) rfl (by kernel_rfl) rfl rfl ?_
 refine aL 1 rfl (A5 rfl rfl) rfl ?_
 refine aP 2 rfl (qM rfl) rfl ?_
 refine aP 3 rfl (A3 rfl) rfl ?_
 refine aL 4 rfl (A5 rfl rfl) rfl ?_
 refine aP 5 rfl (qM rfl) rfl ?_
 refine aP 6 rfl (C2 rfl rfl rfl (by omega)) rfl ?_
 refine aL 7 rfl (A9 rfl rfl (hat0 _) rfl) rfl ?_
 refine A8 8 ?_
 (refine A0a (l' := [tt,tt,tt,tt,tt,tt,tt,tt,tt,ff,ff,ff,ff]) rfl rfl hih (Pk.perm (by repeat (first | exact Pk.here | apply Pk.there))) rfl rfl rfl (by repeat (first | exact B0.nil | apply B0.dep (by decide +kernel) | apply B0.blk (by decide +kernel) (by repeat (first | exact Pk.here | apply Pk.there)) (by repeat first | exact mH | apply mT) | apply B0.im (by decide +kernel) hg0 (by repeat first | exact mH | apply mT))) (fun v G3 outs hle3 hh => ?_); obtain ⟨p3, hp31, hp32, rfl, u, cells3, rfl, hru, hua, hus, huh⟩ := hh; obtain ⟨q3, c3, es3, rfl, _⟩ := hru.open)
 refine A8 9 ?_
 (refine J9 rfl (D0 rfl rfl rfl (by omega) (by unfold maxLen; omega) rfl) rfl rfl ?_; rintro _ ⟨b78, rfl⟩)
 refine A8 10 ?_
 refine S9 rfl rfl rfl rfl rfl rfl (fun _ _ => by repeat (first | exact Sw.here | apply Sw.there)) (K9 (by repeat first | exact mH | apply mT)) rfl (by simp [Value.oneCell']) (by unfold maxLen; omega) (by omega) rfl rfl (by repeat (first | exact B0.nil | apply B0.dep (by decide +kernel) | apply B0.blk (by decide +kernel) (by repeat (first | exact Pk.here | apply Pk.there)) (by repeat first | exact mH | apply mT))) (fun pn' cn' => ?_)
 refine aP 11 rfl (A3 rfl) rfl ?_
 refine A8 12 ?_
 refine P3 rfl rfl rfl rfl rfl rfl rfl rfl (by kernel_rfl) (by repeat first | exact Sw.here | apply Sw.there) (by rfl) ?_
 refine D6 (C8 (nS (tR (sQ (qM rfl) rfl ?_))))
 refine sP (H6 rfl rfl (by omega) (by omega)) rfl rfl ?_
 refine sQ (qA rfl) rfl (sD ?_)
 refine K3 (i + 1, pn', cn', us ++ [u], es' ++ [[.int .i64 u.k, .slice q3 u.ks.length c3]], p3, G3) ?_ ?_ ?_
 (simp only [E2]; exact C9)
 (dsimp only; exact ⟨by omega, hle.trans hle3, by simp [hlu], F8.snoc (hst.mono hle3) hru, A6d hau hua, fun n hn => A6d (hhu n hn) (huh _ (A55 hn (List.getElem_mem _))), by rw [A4w]; omega, by omega, by omega⟩)
 (show ks.length - (i + 1) < ks.length - i; omega)
 refine sD (nS (cF rfl (M7 (M8 (N3 (M9 (nS (tS (tR (sL (A7 rfl rfl) rfl rfl (B9 ?_)))))))))))
 refine sD (nS ?_)
 (refine Q4 (by repeat (first | exact Pk.here | apply Pk.there)) (fun G5 hle5 hsl5 hno5 => ?_); obtain rfl : i = ks.length := (by omega))
 refine tT ?_
 refine E5 (outs := [rd br pb nb cb p']) (rC rfl (A7 rfl rfl)) (by repeat (first | exact A0.nil | refine A0.cons Pk.here ?_ | refine A0.cons (Pk.there Pk.here) ?_ | refine A0.cons (Pk.there (Pk.there Pk.here)) ?_ | apply A0.drop)) ?_
 (rw [List.take_length] at hsu hp2; refine ⟨p', by omega, by omega, rfl, .mk k us, _, rfl, (hst.mono hle5).ty hlu hsl5 hk, A8O ha hlu hau, by rw [K0]; omega, fun n hn => B2T hn hlu (hhu n hn)⟩)
theorem At.sub {hp : List A4} {G : IM} {b o j : Nat} {vs : List Value} {v : Value} (h : At hp G b o vs) (hj : vs[j]? = some v) : At hp G b (o + j) [v] := by
 have key : ∀ {cs : List Value}, (∀ i u, vs[i]? = some u → cs[o + i]? = some u) → ∀ i u, [v][i]? = some u → cs[o + j + i]? = some u := by
  intro cs hc i u hu
  cases i with
  | zero => simp at hu; subst hu; simpa using hc j v hj
  | succ i => simp at hu
 rcases h with ⟨cs, hm, hv⟩ | ⟨n, c, el, sz, cs, hm, hv⟩ | ⟨full, hg, hv⟩
 ·exact .inl ⟨cs, hm, key hv⟩
 ·exact .inr (.inl ⟨n, c, el, sz, cs, hm, key hv⟩)
 ·exact .inr (.inr ⟨full, hg, key hv⟩)
def HTm (G : IM) (t : Tm) (k : Int) (cells : List Value) : Prop := ∃ pt ct et pf cf ef p c es,
 cells = [.int .i64 t.k, .string t.nm, .int .i64 t.num, .int .i64 t.ty.k, .slice pt t.ty.ks.length ct, .int .i64 t.fr.k, .slice pf t.fr.ks.length cf, .int .i64 t.lb, .slice p t.ks.length c] ∧
 C5 G pt t.ty.ks.length ct 2 et ∧ F8 G (A16 t.ty.ks k) et ∧ C5 G pf t.fr.ks.length cf 2 ef ∧ F8 G (A16 t.fr.ks (k + Z6 t.ty.ks)) ef ∧ C5 G p t.ks.length c 9 es ∧ E3 G (A4l t.ks (k + Z6 t.ty.ks + Z6 t.fr.ks)) es
theorem B3b {nm : ByteArray} (h : X0 nm = true) : nm.size = 1 := by
 unfold X0 at h
 simp at h
 omega
theorem A4C {k : Int} {nm : ByteArray} {num : Int} {ty fr : Ty} {lb : Int} {n : Nat} (h : W3 k nm num ty fr lb n = true) : nm.size ≤ 1 := by
 obtain ⟨_, h2, h3, _⟩ := U9.1 h
 by_cases hk : k = 1 ∨ k = 5
 ·rw [B3b (h2 hk)]; omega
 ·rw [h3 hk]; decide
def RBd (G : IM) (e : List Value) : Prop := ∃ nm t q d, e = [.string nm, .int .i64 t.k, .slice q t.ks.length d] ∧ C3 G t [.int .i64 t.k, .slice q t.ks.length d] ∧ H4 t ∧ K0 t ≤ 30 ∧ nm.size ≤ 1
def W4 (G : IM) (p : Option Addr) (n c : Nat) : Prop := ∃ es, es.length = n ∧ C5 G p n c 3 es ∧ ∀ e ∈ es, RBd G e
theorem RBd.mono {G G' : IM} {e : List Value} (h : RBd G e) (hg : B4 G G') : RBd G' e := by
 obtain ⟨nm, t, q, d, h1, h2, h3, h4⟩ := h
 exact ⟨nm, t, q, d, h1, h2.mono hg, h3, h4⟩
theorem W4.mono {G G' : IM} {p : Option Addr} {n c : Nat} (h : W4 G p n c) (hg : B4 G G') : W4 G' p n c := by
 obtain ⟨es, h1, h2, h3⟩ := h
 exact ⟨es, h1, h2.mono hg, fun e he => (h3 e he).mono hg⟩
theorem W4.nil (G : IM) : W4 G none 0 0 := ⟨[], rfl, C5.nil _ _, by simp⟩
theorem At.drop {hp : List A4} {G : IM} {b o : Nat} {v : Value} {vs : List Value} (h : At hp G b o (v :: vs)) : At hp G b (o + 1) vs := by
 have key : ∀ {cs : List Value}, (∀ i u, (v :: vs)[i]? = some u → cs[o + i]? = some u) → ∀ i u, vs[i]? = some u → cs[o + 1 + i]? = some u := by
  intro cs hc i u hu
  have := hc (i + 1) u (by simpa using hu)
  rwa [show o + 1 + i = o + (i + 1) by omega]
 rcases h with ⟨cs, hm, hv⟩ | ⟨n, c, el, sz, cs, hm, hv⟩ | ⟨full, hg, hv⟩
 ·exact .inl ⟨cs, hm, key hv⟩
 ·exact .inr (.inl ⟨n, c, el, sz, cs, hm, key hv⟩)
 ·exact .inr (.inr ⟨full, hg, key hv⟩)
theorem W4.get {G : IM} {p : Option Addr} {n c : Nat} (h : W4 G p n c) {i : Nat} (hi : i < n) :
  ∃ b o nm t q d, p = some ⟨b, o, none⟩ ∧ (∀ hp, At hp G b (o + i * 3) [.string nm, .int .i64 t.k, .slice q t.ks.length d]) ∧ C3 G t [.int .i64 t.k, .slice q t.ks.length d] ∧ H4 t ∧ K0 t ≤ 30 ∧ G b ≠ none ∧ nm.size ≤ 1 := by
 obtain ⟨es, h1, h2, h3⟩ := h
 obtain ⟨e, b, o, he, rfl, hl, _, hat, hgb⟩ := h2.get (i := i) (by omega)
 obtain ⟨nm, t, q, d, rfl, h5, h6, h7, h8⟩ := h3 e (List.mem_of_getElem? he)
 exact ⟨b, o, nm, t, q, d, rfl, hat, h5, h6, h7, hgb, h8⟩
theorem W4.le {G : IM} {p : Option Addr} {n c : Nat} (h : W4 G p n c) : n ≤ 9223372036854775807 := by
 obtain ⟨es, h1, h2, h3⟩ := h
 exact h2.le
theorem B3c (G : IM) (p : Option Addr) (n c : Nat) (nm : ByteArray) (hx : W4 G p n c) :
  Fn Tryz.prog 169 [.slice p n c, .string nm] [] G (TyB 30 G) := by
 have hn := hx.le
 refine B7 Tryz.func169 rfl Tryz.ntmps169 Tryz.results169 rfl ?_
 intro w0
 refine tS (tR ?_)
 refine sE (B6 rfl) rfl (fun b3 => ?_)
 refine sQ (qA rfl) rfl (sD (nS (tS (tS (tR (sQ (qM rfl) rfl (sQ (D8 rfl rfl) rfl ?_)))))))
 refine sP (L7 rfl rfl (by omega) (by omega)) rfl rfl ?_
 refine sQ (qA rfl) rfl (sD (nS ?_))
 refine B5 ?_
 (refine K4 (fun (i : Nat) => ⟨[(6, .int .i64 ((i : Int) - 1)), (0, .slice p n c), (1, .string nm), (4, .pointer (some ⟨b3, 0, none⟩))], [.blk b3 [.int .i64 0, .slice none 0 0]], G⟩) (fun i => i ≤ n) (fun i => i) n ?_ ?_ ?_)
 exact C9
 exact Nat.le_refl _
 (rintro i hi)
 refine tS (tS (tR (sQ (qM rfl) rfl ?_)))
 refine sB (Y0 rfl rfl) rfl rfl (fun h25 => ?_) (fun h25 => ?_)
 refine sD (nS (qT rfl (tK (nS (tS ?_)))))
 (show I6 _ _ (.block 1 _) _ _; obtain ⟨j, rfl⟩ : ∃ j, i = j + 1 := ⟨i - 1, by omega⟩; rw [show ((j + 1 : Nat) : Int) - 1 = (j : Int) from by omega]; obtain ⟨b, o, nm1, t1, q1, d1, rfl, hat, hr1, ha1, hs1, hgb, hns1⟩ := hx.get (i := j) (by omega); refine B5 ?_)
 refine tS (tR (sQ (qM rfl) rfl (sQ (qM rfl) rfl ?_)))
 refine sP (C2 rfl rfl rfl (by omega)) rfl rfl ?_
 refine sQ (qF rfl) rfl ?_
 refine sL (Q2 rfl rfl ((hat _).sub (j := 0) rfl)) rfl rfl ?_
 refine sQ (qM rfl) rfl ?_
 refine sB (A1J rfl rfl) rfl rfl (fun h41 => ?_) (fun h41 => ?_)
 refine sD (nS (qT rfl (tS (tR (sQ (qM rfl) rfl (sQ (qM rfl) rfl ?_))))))
 refine sP (C2 rfl rfl rfl (by omega)) rfl rfl ?_
 refine sQ (qF rfl) rfl ?_
 refine sL (A9 rfl rfl (hat _).drop rfl) rfl rfl ?_
 (refine I5 rfl (Z9 _ G _ ha1.small hr1) rfl rfl (fun v G1 hle1 hh => ?_); obtain ⟨Z4, F1, rfl, hs1', hn1⟩ := hh; obtain ⟨p1, c1, rfl, _⟩ := hs1'.open; have hrr := hs1'.R.mono (C4.le G1 G))
 refine B9 ?_
 refine sQ (qA rfl) rfl (sD (nS (tT (rB (rS (U2 (rB (rS ?_))))))))
 refine H9 (rC rfl (A7 rfl rfl)) (rT rfl) ?_
 (exact ⟨rfl, _, _, _, rfl, hrr, ha1, hs1⟩)
 refine sD (nS (cF rfl (tK (C8 (nS (tR (sQ (qM rfl) rfl ?_)))))))
 refine sP (L7 rfl rfl (by omega) (by omega)) rfl rfl ?_
 refine sQ (qA rfl) rfl (sD ?_)
 refine K3 j ?_ ?_ ?_
 exact C9
 (show _ ≤ n; omega)
 exact Nat.le_refl _
 refine Q9 ?_
 refine H9 (rC rfl (A7 rfl rfl)) (rT rfl) ?_
 (exact ⟨rfl, _, _, _, rfl, P1 _ ⟨by omega, by omega⟩, U0 (by omega) (by omega), by rw [A8M]; omega⟩)
theorem A6f {G : IM} {nm : ByteArray} {k : Int} {ks : List Ty} {q : Option Addr} {d : Nat} (hr : C3 G (.mk k ks) [.int .i64 k, .slice q ks.length d]) (ha : H4 (.mk k ks)) (hs : K0 (.mk k ks) ≤ 30) (hn : nm.size ≤ 1) : RBd G [.string nm, .int .i64 k, .slice q ks.length d] := ⟨nm, .mk k ks, q, d, rfl, hr, ha, hs, hn⟩
theorem W4.snoc {G G' : IM} {p p' : Option Addr} {n c c' : Nat} {es : List (List Value)} {e : List Value} (h1 : es.length = n) (h2 : C5 G p n c 3 es) (h3 : ∀ e ∈ es, RBd G e) (hg : B4 G G') (he : RBd G' e) (hs : Sl G' p' (n + 1) c' 3 (es.flatten ++ e)) : W4 G' p' (n + 1) c' := by
 refine ⟨es ++ [e], by simp [h1], C5.of (by simpa using hs) (by simp [h1]) ?_ ?_, ?_⟩
 ·intro x hx
  rcases List.mem_append.1 hx with hx | hx
  ·obtain ⟨_, _, _, _, rfl, _⟩ := h3 x hx; rfl
  ·obtain ⟨_, _, _, _, rfl, _⟩ := he
   simp only [List.mem_singleton] at hx; subst hx; rfl
 ·intro x hx
  rcases List.mem_append.1 hx with hx | hx
  ·obtain ⟨_, _, _, _, rfl, _⟩ := h3 x hx; simp [Value.oneCell']
  ·obtain ⟨_, _, _, _, rfl, _⟩ := he
   simp only [List.mem_singleton] at hx; subst hx; simp [Value.oneCell']
 ·intro x hx
  rcases List.mem_append.1 hx with hx | hx
  ·exact (h3 x hx).mono hg
  ·simp only [List.mem_singleton] at hx; subst hx; exact he
theorem B3d (G : IM) (p : Option Addr) (n c : Nat) (nm : ByteArray) (t : Ty) (cells : List Value) (hx : W4 G p n c) (hn : n ≤ 1000) (hr : C3 G t cells) (ha : H4 t) (hs : K0 t ≤ 30) (hnm : nm.size ≤ 1) :
  Fn Tryz.prog 195 [.slice p n c, .string nm, .agg ⟨cells⟩] [] G (I9 fun G' v => ∃ p' c', v = .slice p' (n + 1) c' ∧ W4 G' p' (n + 1) c') := by
 obtain ⟨k, ks⟩ := t
 obtain ⟨q, d, es0, rfl, _⟩ := hr.open
 simp only [Ty.k, Ty.ks] at hr ⊢
 obtain ⟨es, h1, h2, h3⟩ := hx
 have hSl : Sl G p n c 3 es.flatten := h2.1
 have h1c : ∀ u ∈ es.flatten, u.oneCell' = true := by
  intro u hu
  obtain ⟨e, he, hue⟩ := List.mem_flatten.1 hu
  obtain ⟨_, _, _, _, rfl, _⟩ := h3 e he
  simp only [List.mem_cons, List.not_mem_nil, or_false] at hue
  rcases hue with rfl | rfl | rfl <;> rfl
 refine B7 Tryz.func195 rfl Tryz.ntmps195 Tryz.results195 rfl ?_
 intro w0
 refine tS (tR ?_)
 refine sE (D5 rfl rfl) rfl (fun b3 => ?_)
 refine sQ (qA rfl) rfl (sD (nS (tS ?_)))
 refine I0 I1 rfl ?_
 refine J2 (i := 1) (l' := [ff,tt,ff,ff,ff,ff,ff,ff,ff]) rfl F4 (qM rfl) rfl (by kernel_rfl) rfl rfl ?_
 refine aP 3 rfl (qM rfl) rfl ?_
 refine aL 4 rfl (A7 rfl rfl) rfl ?_
 refine aP 5 rfl (D9 rfl rfl) rfl ?_
 refine A0N (j := 0) (j' := 6) (by kernel_rfl) ?_ ?_
 (refine J9 rfl (D0 rfl rfl rfl (by omega) (by unfold maxLen; omega) rfl) rfl rfl ?_; rintro _ ⟨b14, rfl⟩)
 refine A0N (j := 2) (j' := 6) (by kernel_rfl) ?_ ?_
 (refine A20 rfl rfl rfl rfl rfl rfl (fun _ _ => by repeat (first | exact Sw.here | apply Sw.there)) hSl h1c (Nat.zero_le _) (by unfold maxLen; omega) (by omega) rfl rfl (by repeat (first | exact B0.nil | apply B0.dep (by decide +kernel) | apply B0.blk (by decide +kernel) (by repeat (first | exact Pk.here | apply Pk.there)) (by repeat first | exact mH | apply mT))) (fun p4 c4 => ?_); simp only [Nat.zero_add, List.nil_append])
 refine A8 6 ?_
 (refine J9 rfl (D0 rfl rfl rfl (by omega) (by unfold maxLen; omega) rfl) rfl rfl ?_; rintro _ ⟨b18, rfl⟩)
 refine A8 7 ?_
 (refine S9 rfl rfl rfl rfl rfl rfl (fun _ _ => by repeat (first | exact Sw.here | apply Sw.there)) (K9 (by repeat first | exact mH | apply mT)) rfl (by simp [Value.oneCell']) (by unfold maxLen; omega) (by omega) rfl rfl (by repeat (first | exact B0.nil | apply B0.dep (by decide +kernel) | apply B0.blk (by decide +kernel) (by repeat (first | exact Pk.here | apply Pk.there)) (by repeat first | exact mH | apply mT))) (fun p5 c5 => ?_))
 refine aP 8 rfl (qA rfl) rfl ?_
 refine D6 (nS ?_)
 (refine Q4 (cs := es.flatten ++ [.string nm, .int .i64 k, .slice q ks.length d]) (by repeat (first | exact Pk.here | apply Pk.there)) (fun G5 hle5 hsl5 hno5 => ?_))
 refine tT (A6 (rT rfl) ?_)
 (exact ⟨rfl, _, _, rfl, W4.snoc h1 h2 h3 hle5 (A6f (hr.mono hle5) ha hs hnm) hsl5⟩)
 (refine J9 rfl (D0 rfl rfl rfl (by omega) (by unfold maxLen; omega) rfl) rfl rfl ?_; rintro _ ⟨b28, rfl⟩)
 refine A8 2 ?_
 (refine A20 rfl rfl rfl rfl rfl rfl (fun _ _ => by repeat (first | exact Sw.here | apply Sw.there)) hSl h1c (Nat.zero_le _) (by unfold maxLen; omega) (by omega) rfl rfl (by repeat (first | exact B0.nil | apply B0.dep (by decide +kernel) | apply B0.blk (by decide +kernel) (by repeat (first | exact Pk.here | apply Pk.there)) (by repeat first | exact mH | apply mT))) (fun p4 c4 => ?_); simp only [Nat.zero_add, List.nil_append])
 refine A8 7 ?_
 (refine S9 rfl rfl rfl rfl rfl rfl (fun _ _ => by repeat (first | exact Sw.here | apply Sw.there)) (K9 (by repeat first | exact mH | apply mT)) rfl (by simp [Value.oneCell']) (by unfold maxLen; omega) (by omega) rfl rfl (by repeat (first | exact B0.nil | apply B0.dep (by decide +kernel) | apply B0.blk (by decide +kernel) (by repeat (first | exact Pk.here | apply Pk.there)) (by repeat first | exact mH | apply mT))) (fun p5 c5 => ?_))
 refine aP 8 rfl (qA rfl) rfl ?_
 refine D6 (nS ?_)
 (refine Q4 (cs := es.flatten ++ [.string nm, .int .i64 k, .slice q ks.length d]) (by repeat (first | exact Pk.here | apply Pk.there)) (fun G5 hle5 hsl5 hno5 => ?_))
 refine tT (A6 (rT rfl) ?_)
 (exact ⟨rfl, _, _, rfl, W4.snoc h1 h2 h3 hle5 (A6f (hr.mono hle5) ha hs hnm) hsl5⟩)
 (refine J9 rfl (D0 rfl rfl rfl (by omega) (by unfold maxLen; omega) rfl) rfl rfl ?_; rintro _ ⟨b40, rfl⟩)
 refine A8 0 ?_
 (refine J9 rfl (D0 rfl rfl rfl (by omega) (by unfold maxLen; omega) rfl) rfl rfl ?_; rintro _ ⟨b42, rfl⟩)
 refine A8 2 ?_
 (refine A20 rfl rfl rfl rfl rfl rfl (fun _ _ => by repeat (first | exact Sw.here | apply Sw.there)) hSl h1c (Nat.zero_le _) (by unfold maxLen; omega) (by omega) rfl rfl (by repeat (first | exact B0.nil | apply B0.dep (by decide +kernel) | apply B0.blk (by decide +kernel) (by repeat (first | exact Pk.here | apply Pk.there)) (by repeat first | exact mH | apply mT))) (fun p4 c4 => ?_); simp only [Nat.zero_add, List.nil_append])
 refine A8 7 ?_
 (refine S9 rfl rfl rfl rfl rfl rfl (fun _ _ => by repeat (first | exact Sw.here | apply Sw.there)) (K9 (by repeat first | exact mH | apply mT)) rfl (by simp [Value.oneCell']) (by unfold maxLen; omega) (by omega) rfl rfl (by repeat (first | exact B0.nil | apply B0.dep (by decide +kernel) | apply B0.blk (by decide +kernel) (by repeat (first | exact Pk.here | apply Pk.there)) (by repeat first | exact mH | apply mT))) (fun p5 c5 => ?_))
 refine aP 8 rfl (qA rfl) rfl ?_
 refine D6 (nS ?_)
 (refine Q4 (cs := es.flatten ++ [.string nm, .int .i64 k, .slice q ks.length d]) (by repeat (first | exact Pk.here | apply Pk.there)) (fun G5 hle5 hsl5 hno5 => ?_))
 refine tT (A6 (rT rfl) ?_)
 (exact ⟨rfl, _, _, rfl, W4.snoc h1 h2 h3 hle5 (A6f (hr.mono hle5) ha hs hnm) hsl5⟩)
theorem B3e (G : IM) : Fn Tryz.prog 196 [.slice none 0 0] [] G (H3 (.bool true) G) := by
 refine B7 Tryz.func196 rfl Tryz.ntmps196 Tryz.results196 rfl ?_
 intro w0
 refine tS (tR (sQ (qA rfl) rfl (sD (nS (tS (tS (tR (sQ (qA rfl) rfl (sD (nS ?_))))))))))
 refine B5 ?_
 (refine K4 (fun (_ : Nat) => ⟨[(3, .int .i64 0), (0, .slice none 0 0)], [], G⟩) (fun _ => True) (fun i => i) 0 ?_ ?_ ?_)
 ·exact C9
 ·trivial
 ·(rintro i _)
  refine tS (tS (tR (sQ (qM rfl) rfl (sQ (qM rfl) rfl (sQ (D8 rfl rfl) rfl ?_)))))
  refine sP (A2S rfl rfl (by omega)) rfl rfl ?_
  refine sD (nS (cF rfl (M7 (M8 (N3 (M9 (nS (tS (tR (sQ (qM rfl) rfl (sQ (D8 rfl rfl) rfl ?_)))))))))))
  refine sP (B1x rfl rfl (by omega)) rfl rfl ?_
  refine sQ (qA rfl) rfl (sD (nS (tT (A6 (rT rfl) ?_))))
  trivial
theorem A8P {k : Int} {n : Nat} (h : E7 k = n) : (k = 6 ∨ k = 7 ∨ k = 8 ∨ k = 10 → n = 2) ∧ (k = 9 → n = 3) ∧ (k = 5 ∨ k = 11 ∨ k = 12 ∨ k = 13 → n = 1) := by
 refine ⟨?_, ?_, ?_⟩
 ·rintro (rfl | rfl | rfl | rfl)
  ·rw [show E7 6 = 2 from rfl] at h; omega
  ·rw [show E7 7 = 2 from rfl] at h; omega
  ·rw [show E7 8 = 2 from rfl] at h; omega
  ·rw [show E7 10 = 2 from rfl] at h; omega
 ·rintro rfl
  rw [show E7 9 = 3 from rfl] at h; omega
 ·rintro (rfl | rfl | rfl | rfl)
  ·rw [show E7 5 = 1 from rfl] at h; omega
  ·rw [show E7 11 = 1 from rfl] at h; omega
  ·rw [show E7 12 = 1 from rfl] at h; omega
  ·rw [show E7 13 = 1 from rfl] at h; omega
theorem B3f : ∀ (t : Ty) (d : Int), K6 t d = true → H4 t := by
 refine Ty.ind fun k ks ih d h => ?_
 obtain ⟨h1, h2⟩ := A5N h
 rw [H4]
 refine ⟨fun hk => ?_, fun h4 h5 => ?_, A3M.2 fun t ht => ?_⟩
 ·have := (L9 k).2.1 hk
  omega
 ·have h5' := L9 k
  have h6 := h5'.1
  have h7 := h5'.2.2
  omega
 ·obtain ⟨i, hi, rfl⟩ := List.getElem_of_mem ht
  exact ih _ ht _ (h2 i hi)
theorem B3g : ∀ (n : Nat) (t : Ty) (d : Int), K6 t d = true → 4 - d ≤ n → P6 n t := by
 intro n
 induction n with
 | zero =>
  rintro ⟨k, ks⟩ d h hd
  obtain ⟨h1, h2⟩ := A5N h
  have hks : ks.length = 0 := by
   rcases Nat.eq_zero_or_pos ks.length with h0 | h0
   ·exact h0
   ·have h3 := h2 0 h0
    obtain ⟨k', ks'⟩ : Ty := ks[0]
    have h4 : ∀ (u : Ty) (d : Int), K6 u d = true → d ≤ 4 := by
     rintro ⟨a, b⟩ d hu
     rw [K6] at hu
     simp only [Bool.and_eq_true, decide_eq_true_eq] at hu
     exact hu.1.1
    have := h4 _ _ h3
    omega
  have h5 := L9 k
  have h6 := h5.2.1
  exact ⟨List.length_eq_zero_iff.1 hks, by intro h; have := h6 (.inl h); omega, by intro h; have := h6 (.inr h); omega⟩
 | succ n ih =>
  rintro ⟨k, ks⟩ d h hd
  have ha := B3f _ _ h
  rw [H4] at ha
  obtain ⟨h1, h2⟩ := A5N h
  refine ⟨ha.1, ha.2.1, fun t ht => ?_⟩
  obtain ⟨i, hi, rfl⟩ := List.getElem_of_mem ht
  exact ih _ _ (h2 i hi) (by omega)
theorem A6g {t : Ty} (h : M0 t = true) : H4 t ∧ K0 t ≤ 30 := by
 have h1 := B3g 3 t 1 h (by omega)
 have h2 := A4v h1
 have h3 : ((2 ^ (3 + 1) - 2 : Nat) : Int) = 14 := rfl
 exact ⟨h1.ar, by omega⟩
theorem B3h {t : Ty} (h : Y1 t = true) : H4 t ∧ K0 t ≤ 30 := by
 rw [A2u h]
 exact ⟨U0 (by decide) (by decide), by rw [B8, A8M]; omega⟩
theorem A6h {k : Int} {nm : ByteArray} {num : Int} {ty fr : Ty} {lb : Int} {n : Nat} (h : W3 k nm num ty fr lb n = true) : H4 ty ∧ K0 ty ≤ 30 := by
 have hn := U9.1 h
 by_cases hk : k = 5 ∨ k = 13 ∨ k = 14
 ·exact A6g (hn.2.2.2.2.2.1 hk)
 ·exact B3h (hn.2.2.2.2.2.2.1 hk)
theorem B1.of9 {G : IM} {k : Int} {nm : ByteArray} {num tk fk : Int} {tks fks : List Ty} {lb : Int} {ks : List Tm} {q1 q2 q3 : Option Addr} {c1 c2 c3 : Nat} {es : List (List Value)} (hk : C6 k) (hnum : C6 num) (hlb : C6 lb) (hty : C3 G (.mk tk tks) [.int .i64 tk, .slice q1 tks.length c1])
  (hfr : C3 G (.mk fk fks) [.int .i64 fk, .slice q2 fks.length c2]) (hsl : C5 G q3 ks.length c3 9 es) (hkl : E3 G ks es) :
  B1 G (.mk k nm num (.mk tk tks) (.mk fk fks) lb ks) [.int .i64 k, .string nm, .int .i64 num, .int .i64 tk, .slice q1 tks.length c1, .int .i64 fk, .slice q2 fks.length c2, .int .i64 lb, .slice q3 ks.length c3] := by
 simp only [B1]
 exact ⟨_, _, q3, c3, es, rfl, hk, hnum, hlb, hty, hfr, hsl, hkl⟩
theorem A2x {k k' : Int} {nm nm' : ByteArray} {num num' : Int} {ty fr ty' fr' : Ty} {lb lb' : Int} {ks : List Tm} (h : (Tm.mk k nm num ty fr lb ks).small) (h1 : nm'.size ≤ 4294967296) (h2 : ty'.small) (h3 : fr'.small) : (Tm.mk k' nm' num' ty' fr' lb' ks).small := by
 simp only [Tm.small] at h ⊢
 exact ⟨h1, h2, h3, h.2.2.2⟩
def Tm.fit (t : Tm) (N : Nat) : Prop := t.small ∧ E6 t ≤ N
theorem A8Q (br : Nat) (pb : Option Addr) (nb cb : Nat) (bs : List UInt8) (hnb : nb ≤ 2000) (p : Nat) (G : IM) (hb : Sl G pb nb cb 1 (N1 bs)) (hp : p + 100 < 1099511627776) (t : Tm) (cells : List Value) (N : Nat) (hfit : t.fit N) (hr : B1 G t cells) :
  Fn Tryz.prog 60 [.pointer (some ⟨br, 0, none⟩), .agg ⟨cells⟩] [rd br pb nb cb p] G
   (A0q br pb nb cb p 40 (fun G' v => ∃ t cells, v = .agg ⟨cells⟩ ∧ B1 G' t cells ∧ t.fit N)) := by
 have hl := hr.len
 have hone := hr.one
 obtain ⟨k, nm, num, ⟨tk, tks⟩, ⟨fk, fks⟩, lb, ks⟩ := t
 have hfit0 := hfit
 obtain ⟨hsm, hcn⟩ := hfit0
 replace hfit : (Tm.mk k nm num (.mk tk tks) (.mk fk fks) lb ks).small ∧ E6 (Tm.mk k nm num (.mk tk tks) (.mk fk fks) lb ks) ≤ N := hfit
 rw [show (Tm.mk k nm num (.mk tk tks) (.mk fk fks) lb ks).small = (nm.size ≤ 4294967296 ∧ (Ty.mk tk tks).small ∧ (Ty.mk fk fks).small ∧ ks.length ≤ 4294967296 ∧ Tm.smallL ks) from by rw [Tm.small]] at hfit
 refine B7 Tryz.func60 rfl Tryz.ntmps60 Tryz.results60 rfl ?_
 intro w0
 refine tS (tR ?_)
 refine sE (D5 rfl rfl) rfl (fun b3 => ?_)
 refine sE (B6 rfl) rfl (fun b4 => ?_)
 refine sD (nS (tS (tR ?_)))
 refine sL (A9 rfl rfl (C7 (by repeat first | exact mH | apply mT)) (by assumption)) rfl rfl ?_
 (refine I5 rfl (B2f _ G cells hsm hr) rfl rfl (fun v G1 hle1 hh => ?_); obtain ⟨cells1, F1, rfl, hs1, hn1⟩ := hh; have hr1 := hs1.R.mono (C4.le G1 G); obtain ⟨q1, c1, q2, c2, q3, c3, es, rfl, hk, hnum, hlb, hty, hfr, hsl, hkl⟩ := hr1.open9)
 refine sE (B6 rfl) rfl (fun b11 => ?_)
 refine B9 ?_
 refine sD (nS (tS (tS (tR (sQ (qM rfl) rfl ?_)))))
 (refine D2 rfl (X2 _ br pb nb cb p bs 50 (hb.mono hle1) hnb (by omega)) (Pk.perm (by repeat (first | exact Pk.here | apply Pk.there))) rfl rfl (fun v G2 outs hle2 hh => ?_); obtain ⟨rfl, rfl, j, rfl, hj0, hj1⟩ := hh; replace hb := hb.mono hle1)
 refine sD (nS ?_)
 (show I6 _ _ (.block 0 _) _ _; refine A0i (fun (x : List Value × Nat × IM) => ⟨[(5, .pointer (some ⟨b11, 0, none⟩)), (4, .pointer (some ⟨b4, 0, none⟩))], [.blk b11 x.1, .blk b4 [.int .i64 0, .string ⟨⟨[]⟩⟩, .int .i64 0, .int .i64 0, .slice none 0 0, .int .i64 0, .slice none 0 0, .int .i64 0, .slice none 0 0], rd br pb nb cb x.2.1], x.2.2⟩) (fun x => B4 G2 x.2.2 ∧ p ≤ x.2.1 ∧ x.2.1 ≤ p + 40 ∧ ∃ t, B1 x.2.2 t x.1 ∧ t.small ∧ E6 t = E6 (.mk k nm num (.mk tk tks) (.mk fk fks) lb ks)) ?_ ?_)
 refine B5 (tS (tR (sB (qE rfl rfl) rfl rfl (fun h26 => ?_) (fun h26 => ?_))))
 refine sQ (qA rfl) rfl (sD (nS (qT rfl (tR (sQ (qM rfl) rfl ?_)))))
 (refine E0 (D0 rfl rfl rfl (by omega) (by unfold maxLen; omega) rfl) rfl ?_; rintro _ ⟨b33, rfl⟩)
 (refine Q8 (by repeat (first | exact Pk.here | apply Pk.there)) (fun G4 hle4 hsl4 _ => ?_); refine D2 rfl (A0b G4 br pb nb cb (p + 1) bs _ _ _ _ (hb.mono hle4) hnb (by omega) hsl4 (by decide)) (Pk.perm (by repeat (first | exact Pk.here | apply Pk.there))) rfl rfl (fun v G5 outs hle5 hh => ?_); obtain ⟨rfl, rfl, hv⟩ := hh; obtain ⟨k', rfl, hk'⟩ : ∃ k', v = .int .i64 k' ∧ C6 k' := (by simp only [List.mem_cons, List.not_mem_nil, or_false] at hv; rcases hv with rfl | rfl | rfl | rfl | rfl | rfl <;> exact ⟨_, rfl, by unfold C6; omega⟩))
 refine sQ (A3 rfl) rfl (B9 ?_)
 refine sD (C8 ?_)
 refine P0 ([.int .i64 k', .string nm, .int .i64 num, .int .i64 tk, .slice q1 tks.length c1, .int .i64 fk, .slice q2 fks.length c2, .int .i64 lb, .slice q3 ks.length c3], p + 1 + 1, G5) (O2 (by repeat (first | exact E4.nil | refine E4.cons rfl ?_)) (by repeat (first | exact A0.refl | exact A0.nil | refine A0.cons (by repeat (first | exact Pk.here | apply Pk.there)) ?_ | apply A0.drop))) ?_
 (dsimp only; exact ⟨hle4, by omega, by omega, _, B1.of9 hk' hnum hlb (hty.mono hle4) (hfr.mono hle4) (hsl.mono hle4) (hkl.mono hle4), A2x hsm hfit.1.1 hfit.1.2.1 hfit.1.2.2.1, rfl⟩)
 refine sQ (qA rfl) rfl (sD (nS (cF rfl (tS (tR ?_)))))
 refine sB (qE rfl rfl) rfl rfl (fun h47 => ?_) (fun h47 => ?_)
 refine sQ (qA rfl) rfl (sD (nS (qT rfl (tR (sQ (qM rfl) rfl ?_)))))
 (refine E0 (D0 rfl rfl rfl (by omega) (by unfold maxLen; omega) rfl) rfl ?_; rintro _ ⟨b54, rfl⟩)
 (refine Q8 (by repeat (first | exact Pk.here | apply Pk.there)) (fun G4 hle4 hsl4 _ => ?_); refine D2 rfl (A56 G4 br pb nb cb (p + 1) bs _ _ _ _ (hb.mono hle4) hnb (by omega) hsl4 (by decide)) (Pk.perm (by repeat (first | exact Pk.here | apply Pk.there))) rfl rfl (fun v G5 outs hle5 hh => ?_); obtain ⟨rfl, rfl, hv⟩ := hh; obtain ⟨nm', rfl, hnm'⟩ : ∃ nm', v = .string nm' ∧ nm'.size ≤ 2 := (by simp only [List.mem_cons, List.not_mem_nil, or_false] at hv; rcases hv with rfl | rfl | rfl | rfl <;> exact ⟨_, rfl, by decide⟩))
 refine sQ (A3 rfl) rfl (B9 ?_)
 refine sD (C8 ?_)
 refine P0 ([.int .i64 k, .string nm', .int .i64 num, .int .i64 tk, .slice q1 tks.length c1, .int .i64 fk, .slice q2 fks.length c2, .int .i64 lb, .slice q3 ks.length c3], p + 1 + 1, G5) (O2 (by repeat (first | exact E4.nil | refine E4.cons rfl ?_)) (by repeat (first | exact A0.refl | exact A0.nil | refine A0.cons (by repeat (first | exact Pk.here | apply Pk.there)) ?_ | apply A0.drop))) ?_
 (dsimp only; exact ⟨hle4, by omega, by omega, _, B1.of9 hk hnum hlb (hty.mono hle4) (hfr.mono hle4) (hsl.mono hle4) (hkl.mono hle4), A2x hsm (by omega) hfit.1.2.1 hfit.1.2.2.1, rfl⟩)
 refine sQ (qA rfl) rfl (sD (nS (cF rfl (tS (tR ?_)))))
 refine sB (qE rfl rfl) rfl rfl (fun h68 => ?_) (fun h68 => ?_)
 refine sQ (qA rfl) rfl (sD (nS (qT rfl (tR (sQ (qM rfl) rfl ?_)))))
 (refine E0 (D0 rfl rfl rfl (by omega) (by unfold maxLen; omega) rfl) rfl ?_; rintro _ ⟨b75, rfl⟩)
 (refine Q8 (by repeat (first | exact Pk.here | apply Pk.there)) (fun G4 hle4 hsl4 _ => ?_); refine D2 rfl (A0b G4 br pb nb cb (p + 1) bs _ _ _ _ (hb.mono hle4) hnb (by omega) hsl4 (by decide)) (Pk.perm (by repeat (first | exact Pk.here | apply Pk.there))) rfl rfl (fun v G5 outs hle5 hh => ?_); obtain ⟨rfl, rfl, hv⟩ := hh; obtain ⟨k', rfl, hk'⟩ : ∃ k', v = .int .i64 k' ∧ C6 k' := (by simp only [List.mem_cons, List.not_mem_nil, or_false] at hv; rcases hv with rfl | rfl | rfl | rfl | rfl | rfl <;> exact ⟨_, rfl, by unfold C6; omega⟩))
 refine sQ (A3 rfl) rfl (B9 ?_)
 refine sD (C8 ?_)
 refine P0 ([.int .i64 k, .string nm, .int .i64 k', .int .i64 tk, .slice q1 tks.length c1, .int .i64 fk, .slice q2 fks.length c2, .int .i64 lb, .slice q3 ks.length c3], p + 1 + 1, G5) (O2 (by repeat (first | exact E4.nil | refine E4.cons rfl ?_)) (by repeat (first | exact A0.refl | exact A0.nil | refine A0.cons (by repeat (first | exact Pk.here | apply Pk.there)) ?_ | apply A0.drop))) ?_
 (dsimp only; exact ⟨hle4, by omega, by omega, _, B1.of9 hk hk' hlb (hty.mono hle4) (hfr.mono hle4) (hsl.mono hle4) (hkl.mono hle4), A2x hsm hfit.1.1 hfit.1.2.1 hfit.1.2.2.1, rfl⟩)
 refine sQ (qA rfl) rfl (sD (nS (cF rfl (tS (tR ?_)))))
 refine sB (qE rfl rfl) rfl rfl (fun h89 => ?_) (fun h89 => ?_)
 refine sQ (qA rfl) rfl (sD (nS (qT rfl (tR (sQ (qM rfl) rfl (sQ (qM rfl) rfl ?_))))))
 (refine D2 rfl (B2Y br pb nb cb bs hnb (p + 1) _ hb (by omega)) (Pk.perm (by repeat (first | exact Pk.here | apply Pk.there))) rfl rfl (fun v G3 outs hle3 hh => ?_); obtain ⟨p3, hp31, hp32, rfl, t3, cells3, rfl, hr3, hs3⟩ := hh)
 (refine D2 rfl (B20 br pb nb cb bs hnb p3 _ (hb.mono hle3) (by omega) t3 cells3 hr3 hs3) (Pk.perm (by repeat (first | exact Pk.here | apply Pk.there))) rfl rfl (fun v G4 outs hle4 hh => ?_); obtain ⟨p4, hp41, hp42, rfl, t4, cells4, rfl, hr4, hs4⟩ := hh; have hts4 := A3D t4 (by omega); obtain ⟨t4k, t4s⟩ := t4; obtain ⟨q4, c4, es4, rfl, _⟩ := hr4.open; have hle24 := hle3.trans hle4)
 refine sQ (A3 rfl) rfl (B9 ?_)
 refine sD (C8 ?_)
 refine P0 ([.int .i64 k, .string nm, .int .i64 num, .int .i64 t4k, .slice q4 t4s.length c4, .int .i64 fk, .slice q2 fks.length c2, .int .i64 lb, .slice q3 ks.length c3], p4, G4) (O2 (by repeat (first | exact E4.nil | refine E4.cons rfl ?_)) (by repeat (first | exact A0.refl | exact A0.nil | refine A0.cons (by repeat (first | exact Pk.here | apply Pk.there)) ?_ | apply A0.drop))) ?_
 (dsimp only; exact ⟨hle24, by omega, by omega, _, B1.of9 hk hnum hlb hr4 (hfr.mono hle24) (hsl.mono hle24) (hkl.mono hle24), A2x hsm hfit.1.1 hts4 hfit.1.2.2.1, rfl⟩)
 refine sQ (qA rfl) rfl (sD (nS (cF rfl (tS (tR ?_)))))
 refine sB (qE rfl rfl) rfl rfl (fun h111 => ?_) (fun h111 => ?_)
 refine sQ (qA rfl) rfl (sD (nS (qT rfl (tR (sQ (A3 rfl) rfl (B9 ?_))))))
 refine sD (C8 ?_)
 refine P0 ([.int .i64 k, .string nm, .int .i64 num, .int .i64 tk, .slice q1 tks.length c1, .int .i64 fk, .slice q2 fks.length c2, .int .i64 1, .slice q3 ks.length c3], p + 1, G2) (O2 (by repeat (first | exact E4.nil | refine E4.cons rfl ?_)) (by repeat (first | exact A0.refl | exact A0.nil | refine A0.cons (by repeat (first | exact Pk.here | apply Pk.there)) ?_ | apply A0.drop))) ?_
 (dsimp only; exact ⟨B4.refl _, by omega, by omega, _, B1.of9 hk hnum ⟨by omega, by omega⟩ hty hfr hsl hkl, A2x hsm hfit.1.1 hfit.1.2.1 hfit.1.2.2.1, rfl⟩)
 refine sQ (qA rfl) rfl (sD (nS (cF rfl (tS (tR ?_)))))
 refine sB (qE rfl rfl) rfl rfl (fun h129 => ?_) (fun h129 => ?_)
 refine sQ (qA rfl) rfl (sD (nS (qT rfl (tR ?_))))
 refine F0 rfl ((A1Q _)) rfl rfl ?_
 refine sQ (A3 rfl) rfl (B9 ?_)
 refine sD (C8 ?_)
 refine P0 ([.int .i64 k, .string nm, .int .i64 num, .int .i64 tk, .slice q1 tks.length c1, .int .i64 1, .slice none 0 0, .int .i64 lb, .slice q3 ks.length c3], p + 1, G2) (O2 (by repeat (first | exact E4.nil | refine E4.cons rfl ?_)) (by repeat (first | exact A0.refl | exact A0.nil | refine A0.cons (by repeat (first | exact Pk.here | apply Pk.there)) ?_ | apply A0.drop))) ?_
 (dsimp only; exact ⟨B4.refl _, by omega, by omega, _, B1.of9 hk hnum hlb hty (A1t _) hsl hkl, A2x hsm hfit.1.1 hfit.1.2.1 (by simp [Ty.small, Ty.smallL]), rfl⟩)
 refine sQ (qA rfl) rfl (sD (nS (cF rfl (tK (C8 ?_)))))
 refine P0 ([.int .i64 k, .string nm, .int .i64 num, .int .i64 tk, .slice q1 tks.length c1, .int .i64 fk, .slice q2 fks.length c2, .int .i64 lb, .slice q3 ks.length c3], p + 1, G2) (O2 (by repeat (first | exact E4.nil | refine E4.cons rfl ?_)) (by repeat (first | exact A0.refl | exact A0.nil | refine A0.cons (by repeat (first | exact Pk.here | apply Pk.there)) ?_ | apply A0.drop))) ?_
 (dsimp only; exact ⟨B4.refl _, by omega, by omega, _, B1.of9 hk hnum hlb hty hfr hsl hkl, A2x hsm hfit.1.1 hfit.1.2.1 hfit.1.2.2.1, rfl⟩)
 (rintro ⟨cells9, p9, G9⟩ ⟨hle9, hp9, hp9', t9, hr9, hs9, hc9⟩; simp only [] at hle9 hp9 hp9' hr9 hs9 hc9 ⊢; have hl9 := hr9.len; have ho9 := hr9.one)
 refine tS (tR ?_)
 refine sL (A9 rfl rfl (C7 (by repeat first | exact mH | apply mT)) hl9) rfl rfl ?_
 refine sS rfl rfl rfl hl9 ho9 rfl ?_ (hu := by exact I4 hl9.symm)
 refine sD (nS (tT ?_))
 refine E5 (outs := [rd br pb nb cb p9]) (rC rfl (A9 rfl rfl (C7 (by repeat first | exact mH | apply mT)) hl9)) (by repeat (first | exact A0.nil | refine A0.cons Pk.here ?_ | refine A0.cons (Pk.there Pk.here) ?_ | refine A0.cons (Pk.there (Pk.there Pk.here)) ?_ | apply A0.drop)) ?_
 (exact ⟨p9, by omega, by omega, rfl, t9, cells9, rfl, hr9, hs9, by omega⟩)
def TyV (e : Tm) (G : IM) : IM → Value → List A4 → Prop := I9 fun G' v => ∃ t cells b, v = .tuple ⟨[.agg ⟨cells⟩, .bool b]⟩ ∧ C3 G' t cells ∧ H4 t ∧ K0 t ≤ 960 ∧ (b = true → M5 e = true)
theorem B3i {G : IM} {e : Tm} {ce : List Value} {p : Option Addr} {c : Nat} (hr : B1 G e ce) (hs : Sl G p 1 c 9 ce) : C5 G p [e].length c 9 [ce] ∧ E3 G [e] [ce] := by
 refine ⟨C5.of (by simpa using hs) rfl (fun x hx => by simp only [List.mem_singleton] at hx; subst hx; exact hr.len) (fun x hx => by simp only [List.mem_singleton] at hx; subst hx; exact hr.one), ?_⟩
 simp only [E3]
 exact ⟨ce, [], rfl, hr, rfl⟩
def B66 (e : Tm) (label : Int) (G : IM) : IM → Value → List A4 → Prop := I9 fun G' v => ∃ u cu l', v = .tuple ⟨[.agg ⟨cu⟩, .int .i64 l']⟩ ∧ B1 G' u cu ∧ (e.small → u.small) ∧ E6 u ≤ E6 e + 1 ∧ label ≤ l' ∧ l' ≤ label + 1
def B67 (n : Nat) (G : IM) : IM → Value → List A4 → Prop := I9 fun G' v => ∃ p c es ws, v = .slice p n c ∧ ws.length = n ∧ C5 G' p n c 2 es ∧ F8 G' ws es ∧ ∀ w ∈ ws, H4 w
def B68 (e : Tm) (label : Int) (G : IM) : IM → Value → List A4 → Prop := I9 fun G' v => ∃ u cu t ct l', v = .tuple ⟨[.agg ⟨cu⟩, .agg ⟨ct⟩, .int .i64 l']⟩ ∧ B1 G' u cu ∧ u.small ∧ E6 u + 1 ≤ 2 * E6 e ∧ C3 G' t ct ∧ H4 t ∧ K0 t ≤ 32 * (E6 e : Int) ∧ label ≤ l' ∧ l' + 1 ≤ label + 2 * (E6 e : Int)
theorem A0u : ∀ {ks : List Tm} {i : Nat} (h : i < ks.length), I2 (ks.take (i + 1)) = I2 (ks.take i) + E6 ks[i]
 | [], i, h => by simp at h
 | t :: ts, 0, h => by simp [I2]
 | t :: ts, i + 1, h => by
  have := A0u (ks := ts) (i := i) (by simpa using h)
  simp only [List.take_succ_cons, I2, List.getElem_cons_succ, this]
  omega
theorem A0v : ∀ (ks : List Tm) (i : Nat), I2 (ks.take i) ≤ I2 ks
 | [], i => by simp [I2]
 | t :: ts, 0 => by simp [I2]
 | t :: ts, i + 1 => by
  have := A0v ts i
  simp only [List.take_succ_cons, I2]
  omega
theorem B3j (G : IM) : N8 G O4 [.int .i64 1, .slice none 0 0] [] := by
 simp only [O4, N8, L8]
 exact ⟨none, 0, [], [], rfl, ⟨by omega, by omega⟩, C5.nil _ _, ⟨rfl, rfl⟩, rfl, by simp [H5]⟩
theorem B3k (G : IM) : N8 G B8 [.int .i64 0, .slice none 0 0] [] := by
 simp only [B8, N8, L8]
 exact ⟨none, 0, [], [], rfl, ⟨by omega, by omega⟩, C5.nil _ _, ⟨rfl, rfl⟩, rfl, by simp [H5]⟩
theorem B3l (t : Tm) (G0 G1 : IM) (cells : List Value) (F : List Nat) (hQ : A2t t) (hle : B4 G0 G1) (hs : N4 (C4 G1 G0) t cells F) (hn : F.Nodup) :
  Fn Tryz.prog 122 [.agg ⟨cells⟩] [] G1 (I9 fun G2 v => G2 = G1 ∧ ∃ cells' F', v = .agg ⟨cells'⟩ ∧ N4 (C4 G1 G0) (A0t t) cells' F' ∧ F'.Nodup) := by
 obtain ⟨k, nm, num, ty, fr, lb, ks⟩ := t
 have hs0 := hs
 rw [A2t] at hQ
 have hbA : k = 13 ∨ k = 14 → A0t (.mk k nm num ty fr lb ks) = ks.headD H7 := fun h => by rw [A0t, if_pos h]
 have hbB : k = 5 → A0t (.mk k nm num ty fr lb ks) = .mk k nm num O4 fr lb ks := fun h => by rw [A0t, if_neg (by omega), if_pos h]
 have hbC : ¬(k = 13 ∨ k = 14) → k ≠ 5 → A0t (.mk k nm num ty fr lb ks) = .mk k nm num ty fr lb ks := fun h h' => by rw [A0t, if_neg h, if_neg h']
 simp only [N4] at hs
 obtain ⟨tc, fc, p, c, es, F1, F2, Fs, rfl, hk, hnum, hlb, hty, hfr, hsl, hkl, rfl, hin⟩ := hs
 obtain ⟨pt, ct, rfl, htk, hts⟩ := hty.open
 obtain ⟨pf, cf, rfl, hfk, hfs⟩ := hfr.open
 have hslG := hsl.mono (C4.le G1 G0)
 have hnd := hn
 rw [List.nodup_append, List.nodup_append] at hnd
 obtain ⟨n1, ⟨n2, n3, n4⟩, n5⟩ := hnd
 have hB : N4 (C4 G1 G0) (.mk k nm num O4 fr lb ks) [.int .i64 k, .string nm, .int .i64 num, .int .i64 1, .slice none 0 0, .int .i64 fr.k, .slice pf fr.ks.length cf, .int .i64 lb, .slice p ks.length c] ([] ++ (F2 ++ (H5 p ++ Fs))) := by
  simp only [N4]
  exact ⟨[.int .i64 1, .slice none 0 0], [.int .i64 fr.k, .slice pf fr.ks.length cf], p, c, es, [], F2, Fs, rfl, hk, hnum, hlb, B3j _, hfr, hsl, hkl, rfl, hin⟩
 have hBn : ([] ++ (F2 ++ (H5 p ++ Fs))).Nodup := by
  rw [List.nil_append, List.nodup_append]; exact ⟨n2, n3, n4⟩
 refine B7 Tryz.func122 rfl Tryz.ntmps122 Tryz.results122 rfl ?_
 intro w0
 refine tS (tR ?_)
 refine sE (D5 rfl rfl) rfl (fun b3 => ?_)
 refine sE (B6 rfl) rfl (fun b4 => ?_)
 refine sD (nS (tS (tS (tR (sQ (A3 rfl) rfl (sL (A5 rfl rfl) rfl rfl (sD (nS ?_))))))))
 refine B5 (tS (tS (tR (sB (qE rfl rfl) rfl rfl (fun h18 => ?_) (fun h18 => ?_)))))
 refine sQ (qA rfl) rfl (sD (nS (qT rfl (tK (nS (qT rfl (tS (tR (sQ (A3 rfl) rfl (sL (A5 rfl rfl) rfl rfl ?_))))))))))
 (obtain ⟨x, xs, rfl⟩ : ∃ x xs, ks = x :: xs := List.exists_cons_of_ne_nil (hQ (by omega)); simp only [L4] at hkl; obtain ⟨e0, es0, Fa, Fb, rfl, hx, hxs, rfl⟩ := hkl; obtain ⟨e', b, o, he', rfl, hl, _, hat, _⟩ := hslG.get (i := 0) (by simp); simp only [List.getElem?_cons_zero, Option.some.injEq] at he'; subst he'; refine sP (C2 (j := 0) rfl rfl rfl (by simp)) rfl rfl ?_)
 refine sL (A9 rfl rfl (hat _) hl) rfl rfl ?_
 refine sS rfl rfl rfl hl hx.R.one rfl ?_ (hu := by exact I4 hl.symm)
 refine sD (nS (tT (rB (rS ?_))))
 refine A6 (rC rfl (A9 rfl rfl (C7 (by repeat first | exact mH | apply mT)) hl)) ?_
 (rw [hbA (by omega)]; exact ⟨rfl, rfl, _, _, rfl, hx, by rw [List.nodup_append, List.nodup_append] at n3; exact n3.2.1.1⟩)
 refine sQ (qA rfl) rfl (sD (nS (cF rfl (tR ?_))))
 refine sB (qE rfl rfl) rfl rfl (fun h45 => ?_) (fun h45 => ?_)
 refine sQ (qA rfl) rfl (sD (nS (qT rfl (tS (tR (sQ (A3 rfl) rfl (sL (A5 rfl rfl) rfl rfl ?_)))))))
 (obtain ⟨x, xs, rfl⟩ : ∃ x xs, ks = x :: xs := List.exists_cons_of_ne_nil (hQ (by omega)); simp only [L4] at hkl; obtain ⟨e0, es0, Fa, Fb, rfl, hx, hxs, rfl⟩ := hkl; obtain ⟨e', b, o, he', rfl, hl, _, hat, _⟩ := hslG.get (i := 0) (by simp); simp only [List.getElem?_cons_zero, Option.some.injEq] at he'; subst he'; refine sP (C2 (j := 0) rfl rfl rfl (by simp)) rfl rfl ?_)
 refine sL (A9 rfl rfl (hat _) hl) rfl rfl ?_
 refine sS rfl rfl rfl hl hx.R.one rfl ?_ (hu := by exact I4 hl.symm)
 refine sD (nS (tT (rB (rS ?_))))
 refine A6 (rC rfl (A9 rfl rfl (C7 (by repeat first | exact mH | apply mT)) hl)) ?_
 (rw [hbA (by omega)]; exact ⟨rfl, rfl, _, _, rfl, hx, by rw [List.nodup_append, List.nodup_append] at n3; exact n3.2.1.1⟩)
 refine sQ (qA rfl) rfl (sD (nS (cF rfl (tS (tR ?_)))))
 refine sB (qE rfl rfl) rfl rfl (fun h70 => ?_) (fun h70 => ?_)
 refine sQ (qA rfl) rfl (sD (nS (qT rfl (tR ?_))))
 refine F0 rfl (A2Y _ _) rfl rfl ?_
 refine sQ (A3 rfl) rfl (B9 ?_)
 refine sD (C8 (nS (tS (tR (sL (A7 rfl rfl) rfl rfl (B9 ?_))))))
 refine sD (nS (tT ?_))
 refine A6 (rC rfl (A7 rfl rfl)) ?_
 (rw [hbB (by omega)]; exact ⟨rfl, rfl, _, _, rfl, hB, hBn⟩)
 refine sQ (qA rfl) rfl (sD (nS (cF rfl (tK (C8 (nS (tS (tR (sL (A7 rfl rfl) rfl rfl (B9 ?_))))))))))
 refine sD (nS (tT ?_))
 refine A6 (rC rfl (A7 rfl rfl)) ?_
 (rw [hbC (by omega) (by omega)]; exact ⟨rfl, rfl, _, _, rfl, hs0, hn⟩)
theorem B3m : A5K A0t A2t 122 [] [] := fun t G0 G1 cells F hQ hle hs hn =>
 (B3l t G0 G1 cells F hQ hle hs hn).mono fun G' v outs _ ⟨h1, h2, c', F', h3, h4, h5⟩ => ⟨h1, c', F', h3, by rw [h2]; exact h4, h5⟩
theorem A6i (t : Tm) (G : IM) (cells : List Value) (D N : Int) (hv : M1 D N t 1 = true) (hts : t.small) (hr : B1 G t cells) : Fn Tryz.prog 63 [.agg ⟨cells⟩] [] G (A3C (D3 t) G) := by
 have hl := hr.len
 have hone := hr.one
 obtain ⟨e1, e2⟩ := A8A D N t 1 hv
 have hM := A8c A0t A2t 122 [] [] B3m t G cells e2 hts hr
 rw [e1] at hM
 refine B7 Tryz.func63 rfl Tryz.ntmps63 Tryz.results63 rfl ?_
 intro w0
 refine tS (tR ?_)
 refine sE (D5 rfl rfl) rfl (fun b3 => ?_)
 refine sE (B6 rfl) rfl (fun b4 => ?_)
 refine sD (nS (tS (tR ?_)))
 refine sL (A9 rfl rfl (C7 (by repeat first | exact mH | apply mT)) (by assumption)) rfl rfl ?_
 (refine I5 rfl hM rfl rfl (fun v G3 hle3 hh => ?_); obtain ⟨cells', F', rfl, hs', hnd'⟩ := hh; have hl' := hs'.R.len; have ho' := hs'.R.one)
 refine sS rfl rfl rfl hl' ho' rfl ?_ (hu := by exact I4 hl'.symm)
 refine sD (nS (tT ?_))
 refine A6 (rC rfl (A9 rfl rfl (C7 (by repeat first | exact mH | apply mT)) hl')) ?_
 exact ⟨rfl, cells', F', rfl, hs', hnd'⟩
def A3U (t : Tm) : Tm × Bool := if M5 t = true ∨ N0 t = true then (D3 t, true) else (H7, false)
theorem B3n (t : Tm) (G : IM) (cells : List Value) (hts : t.small) (hr : B1 G t cells) : Fn Tryz.prog 77 [.agg ⟨cells⟩] [] G (TbP (A3U t) G) := by
 have hl := hr.len
 have hone := hr.one
 have hv := A8h t G cells hr
 have hw := A8i t G cells hr
 have hA1 := fun h : M5 t = true => A6i t G cells 12 14 ((A0E t).1 h).1 hts hr
 have hA2 := fun h : N0 t = true => A6i t G cells 40 13 ((A4o t).1 h).1 hts hr
 refine B7 Tryz.func77 rfl Tryz.ntmps77 Tryz.results77 rfl ?_
 intro w0
 refine tS (tR ?_)
 refine sE (D5 rfl rfl) rfl (fun b3 => ?_)
 refine sE (B6 rfl) rfl (fun b4 => ?_)
 refine sQ (qA rfl) rfl (sD (nS (tS (tS (tR ?_)))))
 refine sL (A9 rfl rfl (C7 (by repeat first | exact mH | apply mT)) (by assumption)) rfl rfl ?_
 refine H1 rfl (hw) rfl rfl (fun h12 => ?_) (fun h12 => ?_)
 refine W2 ?_
 refine sL (A9 rfl rfl (C7 (by repeat first | exact mH | apply mT)) (by assumption)) rfl rfl ?_
 (refine I5 rfl (by first | exact hA1 (by assumption) | exact hA2 (by assumption)) rfl rfl (fun v G3 hle3 hh => ?_); obtain ⟨cells', F', rfl, hs', hnd'⟩ := hh; have hl' := hs'.R.len; have ho' := hs'.R.one)
 refine sS rfl rfl rfl hl' ho' rfl ?_ (hu := by exact I4 hl'.symm)
 refine sQ (qA rfl) rfl (sD (nS (tT ?_)))
 refine H9 (rC rfl (A9 rfl rfl (C7 (by repeat first | exact mH | apply mT)) hl')) (rT rfl) ?_
 exact TbP.mk (if_pos (by simp [*])) hs' hnd'
 refine sQ (O5 rfl) rfl (sQ (qM rfl) rfl ?_)
 refine sL (A9 rfl rfl (C7 (by repeat first | exact mH | apply mT)) (by assumption)) rfl rfl ?_
 refine H1 rfl (hv) rfl rfl (fun h38 => ?_) (fun h38 => ?_)
 refine sQ (M4 rfl) rfl (sQ (C1 rfl rfl) rfl (sD (nS (cF rfl (tK (nS (tS (tR ?_))))))))
 refine sL (A9 rfl rfl (C7 (by repeat first | exact mH | apply mT)) (by assumption)) rfl rfl ?_
 (refine I5 rfl (by first | exact hA1 (by assumption) | exact hA2 (by assumption)) rfl rfl (fun v G3 hle3 hh => ?_); obtain ⟨cells', F', rfl, hs', hnd'⟩ := hh; have hl' := hs'.R.len; have ho' := hs'.R.one)
 refine sS rfl rfl rfl hl' ho' rfl ?_ (hu := by exact I4 hl'.symm)
 refine sQ (qA rfl) rfl (sD (nS (tT ?_)))
 refine H9 (rC rfl (A9 rfl rfl (C7 (by repeat first | exact mH | apply mT)) hl')) (rT rfl) ?_
 exact TbP.mk (if_pos (by simp [*])) hs' hnd'
 refine Y8 ?_
 refine H9 (rC rfl (A7 rfl rfl)) (rT rfl) ?_
 exact TbP.mk (if_neg (by simp [*])) (N4.zero _) (by simp)
theorem A1b.leaf {G : IM} {k : Int} {nm : ByteArray} {num x : Int} {ks : List Tm} {p : Option Addr} {c : Nat} {F : List Nat} (h : A1b G ks p c F) (hk : C6 k) (hnum : C6 num) (hx : C6 x) :
  N4 G (.mk k nm num (.mk x []) B8 0 ks) [.int .i64 k, .string nm, .int .i64 num, .int .i64 x, .slice none 0 0, .int .i64 0, .slice none 0 0, .int .i64 0, .slice p ks.length c] F := by
 obtain ⟨es, Fs, h1, h2, rfl, h4⟩ := h
 have hT : N8 G (.mk x []) [.int .i64 x, .slice none 0 0] [] := by
  simp only [N8, L8]
  exact ⟨none, 0, [], [], rfl, hx, C5.nil _ _, ⟨rfl, rfl⟩, rfl, by simp [H5]⟩
 simp only [N4]
 exact ⟨[.int .i64 x, .slice none 0 0], [.int .i64 0, .slice none 0 0], p, c, es, [], [], Fs, rfl, hk, hnum, ⟨by omega, by omega⟩, hT, B3k G, h1, h2, rfl, h4⟩
theorem B3o {k : Int} {nm : ByteArray} {num : Int} {ty fr : Ty} {lb : Int} {ks : List Tm} (h : k = 13 ∨ k = 14) (h0 : 0 < ks.length) : D3 (.mk k nm num ty fr lb ks) = D3 ks[0] := by
 cases ks with
 | nil => simp at h0
 | cons x xs => rw [D3, if_pos h, I3]; rfl
theorem B3p {k : Int} {nm : ByteArray} {num : Int} {ty fr : Ty} {lb : Int} {ks : List Tm} {x : Int} (h : ¬(k = 13 ∨ k = 14)) (hx : x = if k = 5 then 1 else 0) : D3 (.mk k nm num ty fr lb ks) = .mk k nm num (.mk x []) B8 0 (I3 ks) := by
 rw [D3, if_neg h, hx]
 by_cases h5 : k = 5
 ·rw [if_pos h5, if_pos h5]; rfl
 ·rw [if_neg h5, if_neg h5]; rfl
theorem B3q (D N : Int) : ∀ (t : Tm) (d : Int) (G : IM) (cells : List Value), M1 D N t d = true → t.small → B1 G t cells →
  Fn Tryz.prog 66 [.agg ⟨cells⟩] [] G (A3C (D3 t) G) := by
 refine Tm.ind fun k nm num ty fr lb ks ih d G cells hv hts hr => ?_
 have hone := hr.one
 obtain ⟨hv1, hv2, hv3, hv4⟩ := V7 hv
 have hvk := (A0B D N ks _).1 hv4
 have har := (U9.1 hv3).1
 have hk0 : k = 13 ∨ k = 14 → 0 < ks.length := by
  rintro (rfl | rfl)
  ·rw [show E7 13 = 1 from rfl] at har; omega
  ·rw [show E7 14 = 1 from rfl] at har; omega
 simp only [Tm.small] at hts
 obtain ⟨hnm, hty', hfr', hsm, hks⟩ := hts
 obtain ⟨tk, tks⟩ := ty
 obtain ⟨fk, fks⟩ := fr
 obtain ⟨pt, ct, pf, cf, p, c, es, rfl, hk, hnum, hlb, hty, hfr, hsl, hkl⟩ := hr.open9
 have hn := hsl.le
 have hlen : (I3 ks).length = ks.length := by rw [A1R, List.length_map]
 have hget : ∀ i (h : i < ks.length) (h' : i < (I3 ks).length), (I3 ks)[i] = D3 ks[i] := fun i h h' => by simp [A1R]
 have hB1 := fun h h0 => @B3o k nm num (.mk tk tks) (.mk fk fks) lb ks h h0
 have hB2 := fun x h hx => @B3p k nm num (.mk tk tks) (.mk fk fks) lb ks x h hx
 refine B7 Tryz.func66 rfl Tryz.ntmps66 Tryz.results66 rfl ?_
 intro w0
 refine tS (tR ?_)
 refine sE (D5 rfl rfl) rfl (fun b3 => ?_)
 refine sE (B6 rfl) rfl (fun b4 => ?_)
 refine sD (nS (tS (tS (tR (sQ (A3 rfl) rfl (sL (A5 rfl rfl) rfl rfl ?_))))))
 refine sB (qE rfl rfl) rfl rfl (fun h12 => ?_) (fun h12 => ?_)
 refine R5 ?_
 (have hk00 := hk0 (by omega); obtain ⟨b, o, e, rfl, hl, hat, hre, hgb⟩ := hsl.kidTm hkl (i := 0) hk00 hk00; have hK := ih ks[0] (List.getElem_mem _) _ G _ (hvk 0 hk00) (Tm.smallL_mem hks _ (List.getElem_mem _)) hre; rw [← hB1 (by omega) hk00] at hK; refine sP (C2 (j := 0) rfl rfl rfl (by omega)) rfl rfl ?_)
 refine sL (A9 rfl rfl (hat _) hl) rfl rfl ?_
 (refine I5 rfl hK rfl rfl (fun v G3 hle3 hh => ?_); obtain ⟨cells', F', rfl, hs', hnd'⟩ := hh; have hl' := hs'.R.len; have ho' := hs'.R.one)
 refine sS rfl rfl rfl hl' ho' rfl ?_ (hu := by exact I4 hl'.symm)
 refine sD (nS (tT (rS ?_)))
 refine A6 (rC rfl (A9 rfl rfl (C7 (by repeat first | exact mH | apply mT)) hl')) ?_
 exact ⟨rfl, cells', F', rfl, hs', hnd'⟩
 refine sQ (qM rfl) rfl (sQ (A3 rfl) rfl (sL (A5 rfl rfl) rfl rfl ?_))
 refine sB (qE rfl rfl) rfl rfl (fun h38 => ?_) (fun h38 => ?_)
 refine sQ (D7 rfl rfl) rfl (sD (nS (qT rfl (tS (tR (sQ (A3 rfl) rfl (sL (A5 rfl rfl) rfl rfl ?_)))))))
 (have hk00 := hk0 (by omega); obtain ⟨b, o, e, rfl, hl, hat, hre, hgb⟩ := hsl.kidTm hkl (i := 0) hk00 hk00; have hK := ih ks[0] (List.getElem_mem _) _ G _ (hvk 0 hk00) (Tm.smallL_mem hks _ (List.getElem_mem _)) hre; rw [← hB1 (by omega) hk00] at hK; refine sP (C2 (j := 0) rfl rfl rfl (by omega)) rfl rfl ?_)
 refine sL (A9 rfl rfl (hat _) hl) rfl rfl ?_
 (refine I5 rfl hK rfl rfl (fun v G3 hle3 hh => ?_); obtain ⟨cells', F', rfl, hs', hnd'⟩ := hh; have hl' := hs'.R.len; have ho' := hs'.R.one)
 refine sS rfl rfl rfl hl' ho' rfl ?_ (hu := by exact I4 hl'.symm)
 refine sD (nS (tT (rS ?_)))
 refine A6 (rC rfl (A9 rfl rfl (C7 (by repeat first | exact mH | apply mT)) hl')) ?_
 exact ⟨rfl, cells', F', rfl, hs', hnd'⟩
 refine N5 ?_
 refine sE (B6 rfl) rfl (fun b72 => ?_)
 refine B9 ?_
 refine sD (nS (tS (tS (tR (sQ (A3 rfl) rfl (sL (A5 rfl rfl) rfl rfl ?_))))))
 refine sB (qE rfl rfl) rfl rfl (fun h81 => ?_) (fun h81 => ?_)
 refine sD (nS ?_)
 (show I6 _ _ (.cond (.tmp 27) _ _) _ _; refine A0i (fun (x : Int) => ⟨[(3, .pointer (some ⟨b72, 0, none⟩)), (1, .pointer (some ⟨b3, 0, none⟩)), (2, .pointer (some ⟨b4, 0, none⟩))], [.blk b72 [.int .i64 k, .string nm, .int .i64 num, .int .i64 x, .slice none 0 0, .int .i64 0, .slice none 0 0, .int .i64 0, .slice none 0 0], .blk b4 [.int .i64 0, .string ⟨⟨[]⟩⟩, .int .i64 0, .int .i64 0, .slice none 0 0, .int .i64 0, .slice none 0 0, .int .i64 0, .slice none 0 0], .blk b3 [.int .i64 k, .string nm, .int .i64 num, .int .i64 tk, .slice pt tks.length ct, .int .i64 fk, .slice pf fks.length cf, .int .i64 lb, .slice p ks.length c]], G⟩) (fun x => x = if k = 5 then 1 else 0) ?_ ?_)
 refine qT rfl (tR ?_)
 refine F0 rfl ((A1Q _)) rfl rfl ?_
 refine sQ (A3 rfl) rfl (B9 ?_)
 refine sD ?_
 refine P0 1 (O2 (by repeat (first | exact E4.nil | refine E4.cons rfl ?_)) (by repeat (first | exact A0.refl | exact A0.nil | refine A0.cons (by repeat (first | exact Pk.here | apply Pk.there)) ?_ | apply A0.drop))) (if_pos (by omega)).symm
 (intro tx htx; have hxi : C6 tx := (by rw [htx]; split <;> exact ⟨by omega, by omega⟩); have hB3 := hB2 tx (by omega) htx)
 refine tS (tS (tR (sQ (qA rfl) rfl (sD (nS ?_)))))
 refine B5 ?_
 (refine W1 28 9 ?_; refine K4 (fun (x : Nat × Option Addr × Nat × List (List Value) × List Nat × IM) => ⟨[(4, .int .i64 x.1), (3, .pointer (some ⟨b72, 0, none⟩)), (1, .pointer (some ⟨b3, 0, none⟩)), (2, .pointer (some ⟨b4, 0, none⟩))], [.blk b72 [.int .i64 k, .string nm, .int .i64 num, .int .i64 tx, .slice none 0 0, .int .i64 0, .slice none 0 0, .int .i64 0, .slice x.2.1 x.1 x.2.2.1], .slc x.2.1 x.2.2.1 28 9 x.1 x.2.2.2.1.flatten, .blk b4 [.int .i64 0, .string ⟨⟨[]⟩⟩, .int .i64 0, .int .i64 0, .slice none 0 0, .int .i64 0, .slice none 0 0, .int .i64 0, .slice none 0 0], .blk b3 [.int .i64 k, .string nm, .int .i64 num, .int .i64 tk, .slice pt tks.length ct, .int .i64 fk, .slice pf fks.length cf, .int .i64 lb, .slice p ks.length c]], x.2.2.2.2.2⟩) (fun x => x.1 ≤ ks.length ∧ B4 G x.2.2.2.2.2 ∧ L4 (C4 x.2.2.2.2.2 G) ((I3 ks).take x.1) x.2.2.2.1 x.2.2.2.2.1 ∧ x.2.2.2.2.1.Nodup) (fun x => ks.length - x.1) (0, none, 0, [], [], G) ?_ ?_ ?_)
 (simp only [E2]; exact C9)
 exact ⟨by simp, B4.refl _, by simp [L4], by simp⟩
 (rintro ⟨i, pn, cn, es', F, Gi⟩ ⟨hi, hle, hst, hnd⟩; simp only [] at hi hle hst hnd ⊢; replace hsl := hsl.mono hle; replace hkl := hkl.mono hle)
 refine tS (tS (tR (sQ (qM rfl) rfl (sQ (A3 rfl) rfl (sL (A5 rfl rfl) rfl rfl (sQ (D8 rfl rfl) rfl ?_))))))
 refine sB (J3 rfl rfl) rfl rfl (fun h111 => ?_) (fun h111 => ?_)
 refine sD (nS (qT rfl (tK (nS (tS ?_)))))
 refine B5 ?_
 (obtain ⟨b, o, e, rfl, hl, hat, hre, hgb⟩ := hsl.kidTm hkl (i := i) (by omega) (by omega); have hone := hre.one; refine I0 I1 rfl ?_)
 refine J2 (i := 0) (l' := [tt,ff,ff,ff,ff,ff,ff,ff,ff,ff,ff,ff]) rfl F4 (A3 rfl) rfl (by kernel_rfl) rfl rfl ?_
 refine aL 1 rfl (A5 rfl rfl) rfl ?_
 refine aP 2 rfl (A3 rfl) rfl ?_
 refine aL 3 rfl (A5 rfl rfl) rfl ?_
 refine aP 4 rfl (qM rfl) rfl ?_
 refine aP 5 rfl (C2 rfl rfl rfl (by omega)) rfl ?_
 refine aL 6 rfl (A9 rfl rfl (hat _) hl) rfl ?_
 refine A8 7 ?_
 (refine Q0 rfl rfl (ih ks[i] (List.getElem_mem (by omega)) _ _ _ (hvk i (by omega)) (Tm.smallL_mem hks _ (List.getElem_mem (by omega))) hre) rfl rfl rfl (fun v G3 hle3 hh => ?_); obtain ⟨cells', F', rfl, hs', hnd'⟩ := hh; rw [← hget i (by omega) (by omega)] at hs'; obtain ⟨qt, dt, et', qf, df, ef', q3, d3, es3, rfl, _⟩ := hs'.R.open)
 refine A8 8 ?_
 (refine J9 rfl (D0 rfl rfl rfl (by omega) (by unfold maxLen; omega) rfl) rfl rfl ?_; rintro _ ⟨b130, rfl⟩)
 refine A8 9 ?_
 refine S9 rfl rfl rfl rfl rfl rfl (fun _ _ => by repeat (first | exact Sw.here | apply Sw.there)) (K9 (by repeat first | exact mH | apply mT)) rfl (by simp [Value.oneCell']) (by unfold maxLen; omega) (by omega) rfl rfl (by repeat (first | exact B0.nil | apply B0.dep (by decide +kernel) | apply B0.blk (by decide +kernel) (by repeat (first | exact Pk.here | apply Pk.there)) (by repeat first | exact mH | apply mT))) (fun pn' cn' => ?_)
 refine aP 10 rfl (A3 rfl) rfl ?_
 refine A8 11 ?_
 refine P3 rfl rfl rfl rfl rfl rfl rfl rfl (by kernel_rfl) (by repeat first | exact Sw.here | apply Sw.there) (by rfl) ?_
 refine D6 (C8 (nS (tR (sQ (qM rfl) rfl ?_))))
 refine sP (H6 rfl rfl (by omega) (by omega)) rfl rfl ?_
 refine sQ (qA rfl) rfl (sD ?_)
 refine K3 (i + 1, pn', cn', es' ++ [[.int .i64 (I3 ks)[i].k, .string (I3 ks)[i].nm, .int .i64 (I3 ks)[i].num, .int .i64 (I3 ks)[i].ty.k, .slice qt (I3 ks)[i].ty.ks.length dt, .int .i64 (I3 ks)[i].fr.k, .slice qf (I3 ks)[i].fr.ks.length df, .int .i64 (I3 ks)[i].lb, .slice q3 (I3 ks)[i].ks.length d3]], F ++ F', G3) ?_ ?_ ?_
 (simp only [E2]; exact C9)
 exact ⟨by omega, hle.trans hle3, L4.step hst hnd hle hle3 (by omega) hs' hnd'⟩
 (show ks.length - (i + 1) < ks.length - i; omega)
 refine sD (nS (cF rfl (M7 (M8 (N3 (M9 (nS (tS (tR (sL (A7 rfl rfl) rfl rfl (B9 ?_)))))))))))
 refine sD (nS ?_)
 (refine Q4 (by repeat (first | exact Pk.here | apply Pk.there)) (fun G4 hle4 hsl4 hno4 => ?_); obtain rfl : i = ks.length := (by omega))
 refine tT ?_
 refine A6 (rC rfl (A7 rfl rfl)) ?_
 (rw [← hlen, List.take_length] at hst; rw [← hlen] at hsl4 ⊢; obtain ⟨F3, hf1, hf2⟩ := A1b.fin hst hnd hle hle4 hsl4 hno4; rw [hB3]; exact ⟨rfl, _, F3, rfl, hf1.leaf hk hnum hxi, hf2⟩)
 refine sD (nS ?_)
 (show I6 _ _ (.cond (.tmp 27) _ _) _ _; refine A0i (fun (x : Int) => ⟨[(3, .pointer (some ⟨b72, 0, none⟩)), (1, .pointer (some ⟨b3, 0, none⟩)), (2, .pointer (some ⟨b4, 0, none⟩))], [.blk b72 [.int .i64 k, .string nm, .int .i64 num, .int .i64 x, .slice none 0 0, .int .i64 0, .slice none 0 0, .int .i64 0, .slice none 0 0], .blk b4 [.int .i64 0, .string ⟨⟨[]⟩⟩, .int .i64 0, .int .i64 0, .slice none 0 0, .int .i64 0, .slice none 0 0, .int .i64 0, .slice none 0 0], .blk b3 [.int .i64 k, .string nm, .int .i64 num, .int .i64 tk, .slice pt tks.length ct, .int .i64 fk, .slice pf fks.length cf, .int .i64 lb, .slice p ks.length c]], G⟩) (fun x => x = if k = 5 then 1 else 0) ?_ ?_)
 refine cF rfl (tK ?_)
 refine P0 0 (O2 (by repeat (first | exact E4.nil | refine E4.cons rfl ?_)) (by repeat (first | exact A0.refl | exact A0.nil | refine A0.cons (by repeat (first | exact Pk.here | apply Pk.there)) ?_ | apply A0.drop))) (if_neg (by omega)).symm
 (intro tx htx; have hxi : C6 tx := (by rw [htx]; split <;> exact ⟨by omega, by omega⟩); have hB3 := hB2 tx (by omega) htx)
 refine tS (tS (tR (sQ (qA rfl) rfl (sD (nS ?_)))))
 refine B5 ?_
 (refine W1 28 9 ?_; refine K4 (fun (x : Nat × Option Addr × Nat × List (List Value) × List Nat × IM) => ⟨[(4, .int .i64 x.1), (3, .pointer (some ⟨b72, 0, none⟩)), (1, .pointer (some ⟨b3, 0, none⟩)), (2, .pointer (some ⟨b4, 0, none⟩))], [.blk b72 [.int .i64 k, .string nm, .int .i64 num, .int .i64 tx, .slice none 0 0, .int .i64 0, .slice none 0 0, .int .i64 0, .slice x.2.1 x.1 x.2.2.1], .slc x.2.1 x.2.2.1 28 9 x.1 x.2.2.2.1.flatten, .blk b4 [.int .i64 0, .string ⟨⟨[]⟩⟩, .int .i64 0, .int .i64 0, .slice none 0 0, .int .i64 0, .slice none 0 0, .int .i64 0, .slice none 0 0], .blk b3 [.int .i64 k, .string nm, .int .i64 num, .int .i64 tk, .slice pt tks.length ct, .int .i64 fk, .slice pf fks.length cf, .int .i64 lb, .slice p ks.length c]], x.2.2.2.2.2⟩) (fun x => x.1 ≤ ks.length ∧ B4 G x.2.2.2.2.2 ∧ L4 (C4 x.2.2.2.2.2 G) ((I3 ks).take x.1) x.2.2.2.1 x.2.2.2.2.1 ∧ x.2.2.2.2.1.Nodup) (fun x => ks.length - x.1) (0, none, 0, [], [], G) ?_ ?_ ?_)
 (simp only [E2]; exact C9)
 exact ⟨by simp, B4.refl _, by simp [L4], by simp⟩
 (rintro ⟨i, pn, cn, es', F, Gi⟩ ⟨hi, hle, hst, hnd⟩; simp only [] at hi hle hst hnd ⊢; replace hsl := hsl.mono hle; replace hkl := hkl.mono hle)
 refine tS (tS (tR (sQ (qM rfl) rfl (sQ (A3 rfl) rfl (sL (A5 rfl rfl) rfl rfl (sQ (D8 rfl rfl) rfl ?_))))))
 refine sB (J3 rfl rfl) rfl rfl (fun h191 => ?_) (fun h191 => ?_)
 refine sD (nS (qT rfl (tK (nS (tS ?_)))))
 refine B5 ?_
 (obtain ⟨b, o, e, rfl, hl, hat, hre, hgb⟩ := hsl.kidTm hkl (i := i) (by omega) (by omega); have hone := hre.one; refine I0 I1 rfl ?_)
 refine J2 (i := 0) (l' := [tt,ff,ff,ff,ff,ff,ff,ff,ff,ff,ff,ff]) rfl F4 (A3 rfl) rfl (by kernel_rfl) rfl rfl ?_
 refine aL 1 rfl (A5 rfl rfl) rfl ?_
 refine aP 2 rfl (A3 rfl) rfl ?_
 refine aL 3 rfl (A5 rfl rfl) rfl ?_
 refine aP 4 rfl (qM rfl) rfl ?_
 refine aP 5 rfl (C2 rfl rfl rfl (by omega)) rfl ?_
 refine aL 6 rfl (A9 rfl rfl (hat _) hl) rfl ?_
 refine A8 7 ?_
 (refine Q0 rfl rfl (ih ks[i] (List.getElem_mem (by omega)) _ _ _ (hvk i (by omega)) (Tm.smallL_mem hks _ (List.getElem_mem (by omega))) hre) rfl rfl rfl (fun v G3 hle3 hh => ?_); obtain ⟨cells', F', rfl, hs', hnd'⟩ := hh; rw [← hget i (by omega) (by omega)] at hs'; obtain ⟨qt, dt, et', qf, df, ef', q3, d3, es3, rfl, _⟩ := hs'.R.open)
 refine A8 8 ?_
 (refine J9 rfl (D0 rfl rfl rfl (by omega) (by unfold maxLen; omega) rfl) rfl rfl ?_; rintro _ ⟨b210, rfl⟩)
 refine A8 9 ?_
 refine S9 rfl rfl rfl rfl rfl rfl (fun _ _ => by repeat (first | exact Sw.here | apply Sw.there)) (K9 (by repeat first | exact mH | apply mT)) rfl (by simp [Value.oneCell']) (by unfold maxLen; omega) (by omega) rfl rfl (by repeat (first | exact B0.nil | apply B0.dep (by decide +kernel) | apply B0.blk (by decide +kernel) (by repeat (first | exact Pk.here | apply Pk.there)) (by repeat first | exact mH | apply mT))) (fun pn' cn' => ?_)
 refine aP 10 rfl (A3 rfl) rfl ?_
 refine A8 11 ?_
 refine P3 rfl rfl rfl rfl rfl rfl rfl rfl (by kernel_rfl) (by repeat first | exact Sw.here | apply Sw.there) (by rfl) ?_
 refine D6 (C8 (nS (tR (sQ (qM rfl) rfl ?_))))
 refine sP (H6 rfl rfl (by omega) (by omega)) rfl rfl ?_
 refine sQ (qA rfl) rfl (sD ?_)
 refine K3 (i + 1, pn', cn', es' ++ [[.int .i64 (I3 ks)[i].k, .string (I3 ks)[i].nm, .int .i64 (I3 ks)[i].num, .int .i64 (I3 ks)[i].ty.k, .slice qt (I3 ks)[i].ty.ks.length dt, .int .i64 (I3 ks)[i].fr.k, .slice qf (I3 ks)[i].fr.ks.length df, .int .i64 (I3 ks)[i].lb, .slice q3 (I3 ks)[i].ks.length d3]], F ++ F', G3) ?_ ?_ ?_
 (simp only [E2]; exact C9)
 exact ⟨by omega, hle.trans hle3, L4.step hst hnd hle hle3 (by omega) hs' hnd'⟩
 (show ks.length - (i + 1) < ks.length - i; omega)
 refine sD (nS (cF rfl (M7 (M8 (N3 (M9 (nS (tS (tR (sL (A7 rfl rfl) rfl rfl (B9 ?_)))))))))))
 refine sD (nS ?_)
 (refine Q4 (by repeat (first | exact Pk.here | apply Pk.there)) (fun G4 hle4 hsl4 hno4 => ?_); obtain rfl : i = ks.length := (by omega))
 refine tT ?_
 refine A6 (rC rfl (A7 rfl rfl)) ?_
 (rw [← hlen, List.take_length] at hst; rw [← hlen] at hsl4 ⊢; obtain ⟨F3, hf1, hf2⟩ := A1b.fin hst hnd hle hle4 hsl4 hno4; rw [hB3]; exact ⟨rfl, _, F3, rfl, hf1.leaf hk hnum hxi, hf2⟩)
def B69 (t : Tm) : Nat := if M5 t = true then E6 t else 0
end Gw
end Go.Proofs.YtgodjiieijekiaaGreatDoor
