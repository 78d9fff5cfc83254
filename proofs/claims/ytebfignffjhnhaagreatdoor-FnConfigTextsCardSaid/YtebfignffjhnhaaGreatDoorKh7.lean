/-
  The reference's evaluator: steps of nodes whose operands are values. The reference's insertion of casts, exactly. The reference's evaluator: a step, runs of steps, RunTerm. The reference's StepCast, EvalCast, RunTerm. CompareRuns, on both sides. Runs of terms of which one is more precise. The types that a term's text holds, and terms with other types: the plain words. Own slices and their capacity; data of terms one after the other. The types that a term's text holds: the program's list.
-/
import Derived.Test.YtebfignffjhnhaaGreatDoorKh6
import Derived.Test.YtebfignffjhnhaaGreatDoorKh3
import Derived.Test.YtebfignffjhnhaaGreatDoorKh5
import Derived.Test.YtebfignffjhnhaaGreatDoorKh4
import Derived.Test.YtebfignffjhnhaaGreatDoorKh1
import Derived.Test.YtebfignffjhnhaaGreatDoorKh2
set_option linter.unusedVariables false
set_option linter.unusedSimpArgs false
set_option maxHeartbeats 0
set_option maxRecDepth 100000
set_option synthInstance.maxSize 4000
set_option synthInstance.maxHeartbeats 0
namespace Go.Proofs.YtebfignffjhnhaaGreatDoor
open Go Go.RowKit
namespace Gw
theorem B1s (k : Int) (a b : Tm) (G : IM) (ca cb : List Value) (hk78 : k = 7 ∨ k = 8) (hca : 0 ≤ a.num ∧ a.num ≤ 999) (hcb : 0 ≤ b.num ∧ b.num ≤ 999) (hra : B1 G a ca) (hrb : B1 G b cb) : Fn Tryz.prog 249 [.int .i64 k, .agg ⟨ca⟩, .agg ⟨cb⟩] [] G (L6 (N7 k B3 B3 0 [a, b])) := by
 obtain ⟨ak, anm, anum, ⟨atk, atks⟩, ⟨afk, afks⟩, alb, aks⟩ := a
 obtain ⟨bk, bnm, bnum, ⟨btk, btks⟩, ⟨bfk, bfks⟩, blb, bks⟩ := b
 obtain ⟨apt, act, apf, acf, ap, ac, aes, rfl, hak, hanum, halb, haty, hafr, hasl, hakl⟩ := hra.open9
 obtain ⟨bpt, bct, bpf, bcf, bp, bc, bes, rfl, hbk, hbnum, hblb, hbty, hbfr, hbsl, hbkl⟩ := hrb.open9
 simp only [Tm.num] at hca hcb
 have hR : N7 k B3 B3 0 [Tm.mk ak anm anum (.mk atk atks) (.mk afk afks) alb aks, Tm.mk bk bnm bnum (.mk btk btks) (.mk bfk bfks) blb bks] = (if ak = 2 ∧ bk = 2 then (if k = 7 then A2D ((anum + bnum) % 1000) else Z7 (anum < bnum), 1, 0) else R4) := by
  unfold N7; rw [if_neg (by omega), if_pos hk78]; rfl
 rw [hR]
 have htm : (anum + bnum).tmod 1000 = (anum + bnum) % 1000 := B0w hca hcb
 have hb : F8 ((anum + bnum) % 1000) := ⟨by omega, by omega⟩
 refine C1 Tryz.func249 rfl Tryz.ntmps249 Tryz.results249 rfl ?_
 intro w0
 refine A3 ?_
 refine sE (C7 rfl rfl) rfl (fun b3 => ?_)
 refine sE (C7 rfl rfl) rfl (fun b4 => ?_)
 refine sE (A7 rfl) rfl (fun b5 => ?_)
 refine E0 ?_
 refine sB (N5 rfl rfl) rfl rfl (fun h15 => ?_) (fun h15 => ?_)
 refine U7 ?_
 refine D5 (rC rfl (A5 rfl rfl)) (rT rfl) (rT rfl) ?_
 (exact L6.mk (by rw [if_neg (by omega)]; rfl) (P6 _))
 refine B7 ?_
 refine sB (N5 rfl rfl) rfl rfl (fun h39 => ?_) (fun h39 => ?_)
 refine J9 ?_
 refine D5 (rC rfl (A5 rfl rfl)) (rT rfl) (rT rfl) ?_
 (exact L6.mk (by rw [if_neg (by omega)]; rfl) (P6 _))
 refine J3 ?_
 refine sB (qE rfl rfl) rfl rfl (fun h66 => ?_) (fun h66 => ?_)
 refine E0 ?_
 refine sP (H5 rfl rfl (by omega) (by omega)) rfl rfl ?_
 refine sP (A3J rfl rfl (by omega)) rfl rfl ?_
 (rw [htm]; refine E8 rfl (A17 _ _) rfl rfl ?_)
 refine B5 ?_
 refine D5 (rC rfl (A5 rfl rfl)) (rT rfl) (rT rfl) ?_
 (exact L6.mk (u := A2D (HMod.hMod (anum + bnum) 1000)) (by rw [if_pos ⟨by omega, by omega⟩, if_pos (by omega)]) (B1.put (us := []) ⟨by decide, by decide⟩ hb ⟨by decide, by decide⟩ (A1R _) (A1R _) rfl (D7.nil _ _) rfl))
 refine J1 ?_
 (refine sB (I8 rfl rfl) rfl rfl (fun h99 => ?_) (fun h99 => ?_))
 (refine D9 rfl (B1r _ _) rfl rfl (fun u G1 hle1 hh => ?_); obtain ⟨uc, rfl, hru⟩ := hh; have hul := hru.len; have huo := hru.one)
 refine sS rfl rfl rfl hul huo rfl ?_ (hu := by exact D4 hul.symm)
 refine B0 ?_
 refine D5 (rC rfl (A2 rfl rfl (A9 (by repeat first | exact mH | apply mT)) hul)) (rT rfl) (rT rfl) ?_
 (exact L6.mk (by rw [if_pos ⟨by omega, by omega⟩, if_neg (by omega)]; unfold Z7; rw [if_pos (by omega), if_pos rfl]) hru)
 (refine D9 rfl (B1r _ _) rfl rfl (fun u G1 hle1 hh => ?_); obtain ⟨uc, rfl, hru⟩ := hh; have hul := hru.len; have huo := hru.one)
 refine sS rfl rfl rfl hul huo rfl ?_ (hu := by exact D4 hul.symm)
 refine B0 ?_
 refine D5 (rC rfl (A2 rfl rfl (A9 (by repeat first | exact mH | apply mT)) hul)) (rT rfl) (rT rfl) ?_
 (exact L6.mk (by rw [if_pos ⟨by omega, by omega⟩, if_neg (by omega)]; unfold Z7; rw [if_neg (by omega), if_neg (by decide)]) hru)
theorem A5A {Q : Prop} (h : Q := by (exact L6.mk (by rw [if_neg (by omega), if_neg (by omega)]; rfl) (P6 _))) : Q := h
theorem A3A {Q : Prop} (h : Q := by (exact L6.mk (by rw [if_neg hnd, if_pos hq, A2g (by omega), A0Y (by omega), A0Y (by omega), A0Y (by omega), A0Y (by omega)]) hrw)) : Q := h
theorem B6X (a b : Tm) (G : IM) (ca cb : List Value) (hca : cv a) (hbs : b.small) (hra : B1 G a ca) (hrb : B1 G b cb) : Fn Tryz.prog 248 [.agg ⟨ca⟩, .agg ⟨cb⟩] [] G (L6 (N7 6 B3 B3 0 [a, b])) := by
 have hsma := A2F a hca
 have hP := A5y a G _ hra
 obtain ⟨ak, anm, anum, ⟨atk, atks⟩, ⟨afk, afks⟩, alb, aks⟩ := a
 obtain ⟨hN, hkk⟩ := hca.node
 have hops := hN.ops
 have hbl := hN.lbB
 have htyA := hN.tyA
 have hfrA := hN.frA
 rw [F9] at htyA hfrA
 have htyS := fun t (h : t ∈ atks) => (A1N.1 htyA.2.2 t h).small
 have hfrS := fun t (h : t ∈ afks) => (A1N.1 hfrA.2.2 t h).small
 have h14 : ak = 14 → aks.length = 1 := fun h => by rw [h] at hops; have : E6 14 = 1 := rfl; omega
 have h5 : ak = 5 → aks.length = 1 := fun h => by rw [h] at hops; have : E6 5 = 1 := rfl; omega
 obtain ⟨_, _, _, _, hksm⟩ := A0s.1 hsma
 have hbL := hrb.len
 have hbO := hrb.one
 obtain ⟨apt, act, apf, acf, ap, ac, aes, rfl, hak, hanum, halb, haty, hafr, hasl, hakl⟩ := hra.open9
 obtain ⟨tes, htS, htL⟩ := haty.kids
 obtain ⟨fes, hfS, hfL⟩ := hafr.kids
 simp only [Ty.ks] at htS htL hfS hfL
 obtain ⟨y1, y2, y3, y4, y5, y6, y7, y8, y9, rfl⟩ := nine hbL
 have hR : N7 6 B3 B3 0 [Tm.mk ak anm anum (.mk atk atks) (.mk afk afks) alb aks, b] = (if ak = 5 then (T7 anm b (kd aks 0), 1, 0) else if (ak = 14 ∧ afk = atk ∧ (atk = 4 ∨ atk = 5)) ∧ atk = 4 then (L3 (A0r 6 [kd aks 0, L3 b (kt atks 0) (kt afks 0) (-alb)]) (kt afks 1) (kt atks 1) alb, 1, 0) else R4) := by
  unfold N7
  rw [if_pos rfl, show kd [Tm.mk ak anm anum (.mk atk atks) (.mk afk afks) alb aks, b] 0 = Tm.mk ak anm anum (.mk atk atks) (.mk afk afks) alb aks from rfl, A1w]
  simp only [decide_eq_true_eq]
  rfl
 rw [hR]
 replace hP : Fn Tryz.prog 130 _ [] G (I5 (.bool (decide (ak = 14 ∧ afk = atk ∧ (atk = 4 ∨ atk = 5)))) G) := hP
 refine C1 Tryz.func248 rfl Tryz.ntmps248 Tryz.results248 rfl ?_
 intro w0
 refine A3 ?_
 refine sE (C7 rfl rfl) rfl (fun b3 => ?_)
 refine sE (C7 rfl rfl) rfl (fun b4 => ?_)
 refine sE (A7 rfl) rfl (fun b5 => ?_)
 refine E0 ?_
 refine sB (qE rfl rfl) rfl rfl (fun h15 => ?_) (fun h15 => ?_)
 refine B4 ?_
 (have hq : ak = 5 := (by assumption); have hq1 := h5 hq; obtain ⟨bq, oq, e3, rfl, hl3, hat3, hre3, hgb3⟩ := hasl.kidTm hakl (i := 0) (by omega) (by omega); have hS := B6W anm b _ hbs aks[0] G e3 (Tm.smallL_mem hksm _ (List.getElem_mem (by omega))) hre3 hrb; refine E2 E4 rfl ?_)
 refine L4 (i := 6) (l' := [ff,ff,ff,ff,ff,ff,tt,ff,ff,ff,ff]) rfl D6 (A2 rfl rfl (A9 (by repeat first | exact mH | apply mT)) rfl) rfl (by kernel_rfl) rfl rfl ?_
 refine aP 0 rfl (B9 rfl) rfl ?_
 refine aL 1 rfl (C8 rfl rfl) rfl ?_
 refine aP 2 rfl (B6 (j := 0) rfl rfl rfl (by omega)) rfl ?_
 refine aL 3 rfl (A2 rfl rfl (hat3 _) hl3) rfl ?_
 refine aP 4 rfl (B9 rfl) rfl ?_
 refine aL 5 rfl (C8 rfl rfl) rfl ?_
 refine A4 7 ?_
 (refine H7 rfl rfl hS rfl rfl rfl (fun u G1 hle1 hh => ?_); obtain ⟨uc, rfl, hru⟩ := hh; have hwl := hru.len; have hwo := hru.one)
 refine A4 8 ?_
 (refine oS rfl rfl rfl rfl hwl hwo rfl rfl ?_ (hu := by exact D4 hwl.symm))
 refine aP 9 rfl (qA rfl) rfl ?_
 refine aP 10 rfl (qA rfl) rfl ?_
 refine B4 ?_
 refine D5 (rC rfl (A2 rfl rfl (A9 (by repeat first | exact mH | apply mT)) hwl)) (rT rfl) (rT rfl) ?_
 (exact L6.mk (by rw [if_pos hq, A2g (by omega)]) hru)
 refine E0 ?_
 focus (by_cases hpx : (ak = 14 ∧ afk = atk ∧ (atk = 4 ∨ atk = 5)); rw [decide_eq_true hpx] at hP; rotate_left; rw [decide_eq_false hpx] at hP; rotate_left; all_goals (refine E8 rfl hP rfl rfl ?_))
 refine B0 ?_
 refine sB (N5 rfl rfl) rfl rfl (fun h55 => ?_) (fun h55 => ?_)
 refine J9 ?_
 refine D5 (rC rfl (A5 rfl rfl)) (rT rfl) (rT rfl) ?_
 exact A5A
 refine B5 ?_
 (have hnd : ¬ak = 5 := (by omega); have hq : (ak = 14 ∧ afk = atk ∧ (atk = 4 ∨ atk = 5)) ∧ atk = 4 := ⟨hpx, by omega⟩; have hq1 := h14 hq.1.1; have hq2 := htyA.1 (by omega); have hq3 := hfrA.1 (by omega); obtain ⟨bq, oq, e3, rfl, hl3, hat3, hre3, hgb3⟩ := hasl.kidTm hakl (i := 0) (by omega) (by omega); have ho3 := hre3.one; obtain ⟨b5, o5, q5, d5, rfl, hat5, hre5, hgb5⟩ := htS.kidTy htL (i := 0) (by omega) (by omega); obtain ⟨_, _, q6, d6, hp6, hat6, hre6, hgb6⟩ := htS.kidTy htL (i := 1) (by omega) (by omega); cases hp6; obtain ⟨b7, o7, q7, d7, rfl, hat7, hre7, hgb7⟩ := hfS.kidTy hfL (i := 0) (by omega) (by omega); obtain ⟨_, _, q8, d8, hp8, hat8, hre8, hgb8⟩ := hfS.kidTy hfL (i := 1) (by omega) (by omega); cases hp8; obtain ⟨x1, x2, x3, x4, x5, x6, x7, x8, x9, rfl⟩ := nine hl3; refine E2 E4 rfl ?_)
 refine L4 (i := 0) (l' := [tt,ff,ff,ff,ff,ff,ff,ff,ff,ff,ff,ff,ff,ff,ff,ff,ff]) rfl D6 (A2 rfl rfl (A9 (by repeat first | exact mH | apply mT)) rfl) rfl (by kernel_rfl) rfl rfl ?_
 refine aP 1 rfl (B9 rfl) rfl ?_
 refine aP 2 rfl (qF rfl) rfl ?_
 refine aL 3 rfl (C8 rfl rfl) rfl ?_
 refine aP 4 rfl (B6 (j := 0) rfl rfl rfl (by omega)) rfl ?_
 refine aL 5 rfl (A2 rfl rfl (hat5 _) rfl) rfl ?_
 refine aP 6 rfl (B9 rfl) rfl ?_
 refine aP 7 rfl (qF rfl) rfl ?_
 refine aL 8 rfl (C8 rfl rfl) rfl ?_
 refine aP 9 rfl (B6 (j := 0) rfl rfl rfl (by omega)) rfl ?_
 refine aL 10 rfl (A2 rfl rfl (hat7 _) rfl) rfl ?_
 refine aP 11 rfl (B9 rfl) rfl ?_
 refine aL 12 rfl (C8 rfl rfl) rfl ?_
 refine aP 13 rfl (A4t rfl (by omega) (by omega)) rfl ?_
 refine Q8 (j := 14) (j' := 15) (by kernel_rfl) ?_ ?_
 (have hcO := hnd; refine H7 rfl rfl (A0Q b atks[0] afks[0] (-alb) G _ _ _ ⟨by omega, by omega⟩ hrb hre5 hre7 (htyS _ (List.getElem_mem (by omega))) (hfrS _ (List.getElem_mem (by omega)))) rfl rfl rfl (fun u G1 hle1 hh => ?_); obtain ⟨uc, rfl, hru⟩ := hh; have hul := hru.len; have huo := hru.one; obtain ⟨z1, z2, z3, z4, z5, z6, z7, z8, z9, rfl⟩ := nine hul; replace hre3 := hre3.mono hle1; replace hre6 := hre6.mono hle1; replace hre8 := hre8.mono hle1)
 refine A4 15 ?_
 (refine E5 rfl (A7 rfl) rfl rfl ?_; rintro _ ⟨b97, rfl⟩)
 refine A4 16 ?_
 (refine oS rfl rfl rfl rfl rfl huo rfl rfl ?_ (hu := by exact D4 rfl))
 refine B7 ?_
 refine E2 E4 rfl ?_
 refine L4 (i := 4) (l' := [ff,ff,ff,ff,tt,ff,ff,ff,ff]) rfl D6 (A2 rfl rfl (A9 (by repeat first | exact mH | apply mT)) rfl) rfl (by kernel_rfl) rfl rfl ?_
 refine aP 0 rfl (B9 rfl) rfl ?_
 refine aL 1 rfl (C8 rfl rfl) rfl ?_
 refine aP 2 rfl (B6 (j := 0) rfl rfl rfl (by omega)) rfl ?_
 refine aL 3 rfl (A2 rfl rfl (At.mono' hle1 (hat3 _)) rfl) rfl ?_
 refine Q8 (j := 5) (j' := 7) (by kernel_rfl) ?_ ?_
 (refine E5 rfl (D0 rfl rfl rfl (by omega) (by unfold maxLen; omega) rfl) rfl rfl ?_; rintro _ ⟨b110, rfl⟩)
 refine Q8 (j := 6) (j' := 7) (by kernel_rfl) ?_ ?_
 (refine A1h (cs := [x1, x2, x3, x4, x5, x6, x7, x8, x9, z1, z2, z3, z4, z5, z6, z7, z8, z9]) (by repeat (first | exact Pk.here | apply Pk.there)) (fun G2 hle2 hsl2 hno2 => ?_); have hrN := A0X (k := 6) (ks := [aks[0], L3 b atks[0] afks[0] (-alb)]) (es := [[x1, x2, x3, x4, x5, x6, x7, x8, x9], [z1, z2, z3, z4, z5, z6, z7, z8, z9]]) ⟨by decide, by decide⟩ rfl (D7.of hsl2 rfl (by simp) (by intro x hx; rcases List.mem_cons.1 hx with rfl | hx; exact ho3; obtain rfl := List.mem_singleton.1 hx; exact huo)) (by simp only [E1]; exact ⟨_, _, rfl, hre3.mono hle2, _, _, rfl, hru.mono hle2, rfl⟩); replace hre6 := hre6.mono hle2; replace hre8 := hre8.mono hle2; refine N3 rfl rfl (A0E _ _ _ _ _) rfl rfl rfl ?_)
 refine A4 7 ?_
 (refine E5 rfl (A7 rfl) rfl rfl ?_; rintro _ ⟨b114, rfl⟩)
 refine A4 8 ?_
 refine I2 rfl ?_
 refine B7 ?_
 refine E2 E4 rfl ?_
 refine L4 (i := 0) (l' := [tt,ff,ff,ff,ff,ff,ff,ff,ff,ff,ff,ff,ff,ff,ff,ff,ff]) rfl D6 (A2 rfl rfl (A9 (by repeat first | exact mH | apply mT)) rfl) rfl (by kernel_rfl) rfl rfl ?_
 refine aP 1 rfl (B9 rfl) rfl ?_
 refine aP 2 rfl (qF rfl) rfl ?_
 refine aL 3 rfl (C8 rfl rfl) rfl ?_
 refine aP 4 rfl (B6 (j := 1) rfl rfl rfl (by omega)) rfl ?_
 refine aL 5 rfl (A2 rfl rfl (At.mono' (hle1.trans hle2) (hat8 _)) rfl) rfl ?_
 refine aP 6 rfl (B9 rfl) rfl ?_
 refine aP 7 rfl (qF rfl) rfl ?_
 refine aL 8 rfl (C8 rfl rfl) rfl ?_
 refine aP 9 rfl (B6 (j := 1) rfl rfl rfl (by omega)) rfl ?_
 refine aL 10 rfl (A2 rfl rfl (At.mono' (hle1.trans hle2) (hat6 _)) rfl) rfl ?_
 refine aP 11 rfl (B9 rfl) rfl ?_
 refine aL 12 rfl (C8 rfl rfl) rfl ?_
 refine A4 13 ?_
 (refine H7 rfl rfl (A0Q _ afks[1] atks[1] alb G2 _ _ _ ⟨by omega, by omega⟩ hrN hre8 hre6 (hfrS _ (List.getElem_mem (by omega))) (htyS _ (List.getElem_mem (by omega)))) rfl rfl rfl (fun u G3 hle3 hh => ?_); obtain ⟨wc, rfl, hrw⟩ := hh; have hwl := hrw.len; have hwo := hrw.one)
 refine A4 14 ?_
 (refine oS rfl rfl rfl rfl hwl hwo rfl rfl ?_ (hu := by exact D4 hwl.symm))
 refine aP 15 rfl (qA rfl) rfl ?_
 refine aP 16 rfl (qA rfl) rfl ?_
 refine B7 ?_
 refine D5 (rC rfl (A2 rfl rfl (A9 (by repeat first | exact mH | apply mT)) hwl)) (rT rfl) (rT rfl) ?_
 exact A3A
 (refine E5 rfl (A7 rfl) rfl rfl ?_; rintro _ ⟨b145, rfl⟩)
 refine A4 6 ?_
 (refine A1h (cs := [x1, x2, x3, x4, x5, x6, x7, x8, x9, z1, z2, z3, z4, z5, z6, z7, z8, z9]) (by repeat (first | exact Pk.here | apply Pk.there)) (fun G2 hle2 hsl2 hno2 => ?_); have hrN := A0X (k := 6) (ks := [aks[0], L3 b atks[0] afks[0] (-alb)]) (es := [[x1, x2, x3, x4, x5, x6, x7, x8, x9], [z1, z2, z3, z4, z5, z6, z7, z8, z9]]) ⟨by decide, by decide⟩ rfl (D7.of hsl2 rfl (by simp) (by intro x hx; rcases List.mem_cons.1 hx with rfl | hx; exact ho3; obtain rfl := List.mem_singleton.1 hx; exact huo)) (by simp only [E1]; exact ⟨_, _, rfl, hre3.mono hle2, _, _, rfl, hru.mono hle2, rfl⟩); replace hre6 := hre6.mono hle2; replace hre8 := hre8.mono hle2; refine N3 rfl rfl (A0E _ _ _ _ _) rfl rfl rfl ?_)
 refine A4 8 ?_
 refine I2 rfl ?_
 refine B7 ?_
 refine E2 E4 rfl ?_
 refine L4 (i := 0) (l' := [tt,ff,ff,ff,ff,ff,ff,ff,ff,ff,ff,ff,ff,ff,ff,ff,ff]) rfl D6 (A2 rfl rfl (A9 (by repeat first | exact mH | apply mT)) rfl) rfl (by kernel_rfl) rfl rfl ?_
 refine aP 1 rfl (B9 rfl) rfl ?_
 refine aP 2 rfl (qF rfl) rfl ?_
 refine aL 3 rfl (C8 rfl rfl) rfl ?_
 refine aP 4 rfl (B6 (j := 1) rfl rfl rfl (by omega)) rfl ?_
 refine aL 5 rfl (A2 rfl rfl (At.mono' (hle1.trans hle2) (hat8 _)) rfl) rfl ?_
 refine aP 6 rfl (B9 rfl) rfl ?_
 refine aP 7 rfl (qF rfl) rfl ?_
 refine aL 8 rfl (C8 rfl rfl) rfl ?_
 refine aP 9 rfl (B6 (j := 1) rfl rfl rfl (by omega)) rfl ?_
 refine aL 10 rfl (A2 rfl rfl (At.mono' (hle1.trans hle2) (hat6 _)) rfl) rfl ?_
 refine aP 11 rfl (B9 rfl) rfl ?_
 refine aL 12 rfl (C8 rfl rfl) rfl ?_
 refine A4 13 ?_
 (refine H7 rfl rfl (A0Q _ afks[1] atks[1] alb G2 _ _ _ ⟨by omega, by omega⟩ hrN hre8 hre6 (hfrS _ (List.getElem_mem (by omega))) (htyS _ (List.getElem_mem (by omega)))) rfl rfl rfl (fun u G3 hle3 hh => ?_); obtain ⟨wc, rfl, hrw⟩ := hh; have hwl := hrw.len; have hwo := hrw.one)
 refine A4 14 ?_
 (refine oS rfl rfl rfl rfl hwl hwo rfl rfl ?_ (hu := by exact D4 hwl.symm))
 refine aP 15 rfl (qA rfl) rfl ?_
 refine aP 16 rfl (qA rfl) rfl ?_
 refine B7 ?_
 refine D5 (rC rfl (A2 rfl rfl (A9 (by repeat first | exact mH | apply mT)) hwl)) (rT rfl) (rT rfl) ?_
 exact A3A
 (refine E5 rfl (A7 rfl) rfl rfl ?_; rintro _ ⟨b178, rfl⟩)
 refine A4 5 ?_
 (refine E5 rfl (D0 rfl rfl rfl (by omega) (by unfold maxLen; omega) rfl) rfl rfl ?_; rintro _ ⟨b180, rfl⟩)
 refine A4 6 ?_
 (refine A1h (cs := [x1, x2, x3, x4, x5, x6, x7, x8, x9, z1, z2, z3, z4, z5, z6, z7, z8, z9]) (by repeat (first | exact Pk.here | apply Pk.there)) (fun G2 hle2 hsl2 hno2 => ?_); have hrN := A0X (k := 6) (ks := [aks[0], L3 b atks[0] afks[0] (-alb)]) (es := [[x1, x2, x3, x4, x5, x6, x7, x8, x9], [z1, z2, z3, z4, z5, z6, z7, z8, z9]]) ⟨by decide, by decide⟩ rfl (D7.of hsl2 rfl (by simp) (by intro x hx; rcases List.mem_cons.1 hx with rfl | hx; exact ho3; obtain rfl := List.mem_singleton.1 hx; exact huo)) (by simp only [E1]; exact ⟨_, _, rfl, hre3.mono hle2, _, _, rfl, hru.mono hle2, rfl⟩); replace hre6 := hre6.mono hle2; replace hre8 := hre8.mono hle2; refine N3 rfl rfl (A0E _ _ _ _ _) rfl rfl rfl ?_)
 refine A4 8 ?_
 refine I2 rfl ?_
 refine B7 ?_
 refine E2 E4 rfl ?_
 refine L4 (i := 0) (l' := [tt,ff,ff,ff,ff,ff,ff,ff,ff,ff,ff,ff,ff,ff,ff,ff,ff]) rfl D6 (A2 rfl rfl (A9 (by repeat first | exact mH | apply mT)) rfl) rfl (by kernel_rfl) rfl rfl ?_
 refine aP 1 rfl (B9 rfl) rfl ?_
 refine aP 2 rfl (qF rfl) rfl ?_
 refine aL 3 rfl (C8 rfl rfl) rfl ?_
 refine aP 4 rfl (B6 (j := 1) rfl rfl rfl (by omega)) rfl ?_
 refine aL 5 rfl (A2 rfl rfl (At.mono' (hle1.trans hle2) (hat8 _)) rfl) rfl ?_
 refine aP 6 rfl (B9 rfl) rfl ?_
 refine aP 7 rfl (qF rfl) rfl ?_
 refine aL 8 rfl (C8 rfl rfl) rfl ?_
 refine aP 9 rfl (B6 (j := 1) rfl rfl rfl (by omega)) rfl ?_
 refine aL 10 rfl (A2 rfl rfl (At.mono' (hle1.trans hle2) (hat6 _)) rfl) rfl ?_
 refine aP 11 rfl (B9 rfl) rfl ?_
 refine aL 12 rfl (C8 rfl rfl) rfl ?_
 refine A4 13 ?_
 (refine H7 rfl rfl (A0Q _ afks[1] atks[1] alb G2 _ _ _ ⟨by omega, by omega⟩ hrN hre8 hre6 (hfrS _ (List.getElem_mem (by omega))) (htyS _ (List.getElem_mem (by omega)))) rfl rfl rfl (fun u G3 hle3 hh => ?_); obtain ⟨wc, rfl, hrw⟩ := hh; have hwl := hrw.len; have hwo := hrw.one)
 refine A4 14 ?_
 (refine oS rfl rfl rfl rfl hwl hwo rfl rfl ?_ (hu := by exact D4 hwl.symm))
 refine aP 15 rfl (qA rfl) rfl ?_
 refine aP 16 rfl (qA rfl) rfl ?_
 refine B7 ?_
 refine D5 (rC rfl (A2 rfl rfl (A9 (by repeat first | exact mH | apply mT)) hwl)) (rT rfl) (rT rfl) ?_
 exact A3A
 (refine E5 rfl (A7 rfl) rfl rfl ?_; rintro _ ⟨b213, rfl⟩)
 refine A4 14 ?_
 (have hcO := hnd; refine H7 rfl rfl (A0Q b atks[0] afks[0] (-alb) G _ _ _ ⟨by omega, by omega⟩ hrb hre5 hre7 (htyS _ (List.getElem_mem (by omega))) (hfrS _ (List.getElem_mem (by omega)))) rfl rfl rfl (fun u G1 hle1 hh => ?_); obtain ⟨uc, rfl, hru⟩ := hh; have hul := hru.len; have huo := hru.one; obtain ⟨z1, z2, z3, z4, z5, z6, z7, z8, z9, rfl⟩ := nine hul; replace hre3 := hre3.mono hle1; replace hre6 := hre6.mono hle1; replace hre8 := hre8.mono hle1)
 refine A4 16 ?_
 (refine oS rfl rfl rfl rfl rfl huo rfl rfl ?_ (hu := by exact D4 rfl))
 refine B7 ?_
 refine E2 E4 rfl ?_
 refine L4 (i := 4) (l' := [ff,ff,ff,ff,tt,ff,ff,ff,ff]) rfl D6 (A2 rfl rfl (A9 (by repeat first | exact mH | apply mT)) rfl) rfl (by kernel_rfl) rfl rfl ?_
 refine aP 0 rfl (B9 rfl) rfl ?_
 refine aL 1 rfl (C8 rfl rfl) rfl ?_
 refine aP 2 rfl (B6 (j := 0) rfl rfl rfl (by omega)) rfl ?_
 refine aL 3 rfl (A2 rfl rfl (At.mono' hle1 (hat3 _)) rfl) rfl ?_
 refine Q8 (j := 5) (j' := 7) (by kernel_rfl) ?_ ?_
 (refine E5 rfl (D0 rfl rfl rfl (by omega) (by unfold maxLen; omega) rfl) rfl rfl ?_; rintro _ ⟨b228, rfl⟩)
 refine Q8 (j := 6) (j' := 7) (by kernel_rfl) ?_ ?_
 (refine A1h (cs := [x1, x2, x3, x4, x5, x6, x7, x8, x9, z1, z2, z3, z4, z5, z6, z7, z8, z9]) (by repeat (first | exact Pk.here | apply Pk.there)) (fun G2 hle2 hsl2 hno2 => ?_); have hrN := A0X (k := 6) (ks := [aks[0], L3 b atks[0] afks[0] (-alb)]) (es := [[x1, x2, x3, x4, x5, x6, x7, x8, x9], [z1, z2, z3, z4, z5, z6, z7, z8, z9]]) ⟨by decide, by decide⟩ rfl (D7.of hsl2 rfl (by simp) (by intro x hx; rcases List.mem_cons.1 hx with rfl | hx; exact ho3; obtain rfl := List.mem_singleton.1 hx; exact huo)) (by simp only [E1]; exact ⟨_, _, rfl, hre3.mono hle2, _, _, rfl, hru.mono hle2, rfl⟩); replace hre6 := hre6.mono hle2; replace hre8 := hre8.mono hle2; refine N3 rfl rfl (A0E _ _ _ _ _) rfl rfl rfl ?_)
 refine A4 7 ?_
 (refine E5 rfl (A7 rfl) rfl rfl ?_; rintro _ ⟨b232, rfl⟩)
 refine A4 8 ?_
 refine I2 rfl ?_
 refine B7 ?_
 refine E2 E4 rfl ?_
 refine L4 (i := 0) (l' := [tt,ff,ff,ff,ff,ff,ff,ff,ff,ff,ff,ff,ff,ff,ff,ff,ff]) rfl D6 (A2 rfl rfl (A9 (by repeat first | exact mH | apply mT)) rfl) rfl (by kernel_rfl) rfl rfl ?_
 refine aP 1 rfl (B9 rfl) rfl ?_
 refine aP 2 rfl (qF rfl) rfl ?_
 refine aL 3 rfl (C8 rfl rfl) rfl ?_
 refine aP 4 rfl (B6 (j := 1) rfl rfl rfl (by omega)) rfl ?_
 refine aL 5 rfl (A2 rfl rfl (At.mono' (hle1.trans hle2) (hat8 _)) rfl) rfl ?_
 refine aP 6 rfl (B9 rfl) rfl ?_
 refine aP 7 rfl (qF rfl) rfl ?_
 refine aL 8 rfl (C8 rfl rfl) rfl ?_
 refine aP 9 rfl (B6 (j := 1) rfl rfl rfl (by omega)) rfl ?_
 refine aL 10 rfl (A2 rfl rfl (At.mono' (hle1.trans hle2) (hat6 _)) rfl) rfl ?_
 refine aP 11 rfl (B9 rfl) rfl ?_
 refine aL 12 rfl (C8 rfl rfl) rfl ?_
 refine A4 13 ?_
 (refine H7 rfl rfl (A0Q _ afks[1] atks[1] alb G2 _ _ _ ⟨by omega, by omega⟩ hrN hre8 hre6 (hfrS _ (List.getElem_mem (by omega))) (htyS _ (List.getElem_mem (by omega)))) rfl rfl rfl (fun u G3 hle3 hh => ?_); obtain ⟨wc, rfl, hrw⟩ := hh; have hwl := hrw.len; have hwo := hrw.one)
 refine A4 14 ?_
 (refine oS rfl rfl rfl rfl hwl hwo rfl rfl ?_ (hu := by exact D4 hwl.symm))
 refine aP 15 rfl (qA rfl) rfl ?_
 refine aP 16 rfl (qA rfl) rfl ?_
 refine B7 ?_
 refine D5 (rC rfl (A2 rfl rfl (A9 (by repeat first | exact mH | apply mT)) hwl)) (rT rfl) (rT rfl) ?_
 exact A3A
 (refine E5 rfl (A7 rfl) rfl rfl ?_; rintro _ ⟨b263, rfl⟩)
 refine A4 6 ?_
 (refine A1h (cs := [x1, x2, x3, x4, x5, x6, x7, x8, x9, z1, z2, z3, z4, z5, z6, z7, z8, z9]) (by repeat (first | exact Pk.here | apply Pk.there)) (fun G2 hle2 hsl2 hno2 => ?_); have hrN := A0X (k := 6) (ks := [aks[0], L3 b atks[0] afks[0] (-alb)]) (es := [[x1, x2, x3, x4, x5, x6, x7, x8, x9], [z1, z2, z3, z4, z5, z6, z7, z8, z9]]) ⟨by decide, by decide⟩ rfl (D7.of hsl2 rfl (by simp) (by intro x hx; rcases List.mem_cons.1 hx with rfl | hx; exact ho3; obtain rfl := List.mem_singleton.1 hx; exact huo)) (by simp only [E1]; exact ⟨_, _, rfl, hre3.mono hle2, _, _, rfl, hru.mono hle2, rfl⟩); replace hre6 := hre6.mono hle2; replace hre8 := hre8.mono hle2; refine N3 rfl rfl (A0E _ _ _ _ _) rfl rfl rfl ?_)
 refine A4 8 ?_
 refine I2 rfl ?_
 refine B7 ?_
 refine E2 E4 rfl ?_
 refine L4 (i := 0) (l' := [tt,ff,ff,ff,ff,ff,ff,ff,ff,ff,ff,ff,ff,ff,ff,ff,ff]) rfl D6 (A2 rfl rfl (A9 (by repeat first | exact mH | apply mT)) rfl) rfl (by kernel_rfl) rfl rfl ?_
 refine aP 1 rfl (B9 rfl) rfl ?_
 refine aP 2 rfl (qF rfl) rfl ?_
 refine aL 3 rfl (C8 rfl rfl) rfl ?_
 refine aP 4 rfl (B6 (j := 1) rfl rfl rfl (by omega)) rfl ?_
 refine aL 5 rfl (A2 rfl rfl (At.mono' (hle1.trans hle2) (hat8 _)) rfl) rfl ?_
 refine aP 6 rfl (B9 rfl) rfl ?_
 refine aP 7 rfl (qF rfl) rfl ?_
 refine aL 8 rfl (C8 rfl rfl) rfl ?_
 refine aP 9 rfl (B6 (j := 1) rfl rfl rfl (by omega)) rfl ?_
 refine aL 10 rfl (A2 rfl rfl (At.mono' (hle1.trans hle2) (hat6 _)) rfl) rfl ?_
 refine aP 11 rfl (B9 rfl) rfl ?_
 refine aL 12 rfl (C8 rfl rfl) rfl ?_
 refine A4 13 ?_
 (refine H7 rfl rfl (A0Q _ afks[1] atks[1] alb G2 _ _ _ ⟨by omega, by omega⟩ hrN hre8 hre6 (hfrS _ (List.getElem_mem (by omega))) (htyS _ (List.getElem_mem (by omega)))) rfl rfl rfl (fun u G3 hle3 hh => ?_); obtain ⟨wc, rfl, hrw⟩ := hh; have hwl := hrw.len; have hwo := hrw.one)
 refine A4 14 ?_
 (refine oS rfl rfl rfl rfl hwl hwo rfl rfl ?_ (hu := by exact D4 hwl.symm))
 refine aP 15 rfl (qA rfl) rfl ?_
 refine aP 16 rfl (qA rfl) rfl ?_
 refine B7 ?_
 refine D5 (rC rfl (A2 rfl rfl (A9 (by repeat first | exact mH | apply mT)) hwl)) (rT rfl) (rT rfl) ?_
 exact A3A
 (refine E5 rfl (A7 rfl) rfl rfl ?_; rintro _ ⟨b296, rfl⟩)
 refine A4 5 ?_
 (refine E5 rfl (D0 rfl rfl rfl (by omega) (by unfold maxLen; omega) rfl) rfl rfl ?_; rintro _ ⟨b298, rfl⟩)
 refine A4 6 ?_
 (refine A1h (cs := [x1, x2, x3, x4, x5, x6, x7, x8, x9, z1, z2, z3, z4, z5, z6, z7, z8, z9]) (by repeat (first | exact Pk.here | apply Pk.there)) (fun G2 hle2 hsl2 hno2 => ?_); have hrN := A0X (k := 6) (ks := [aks[0], L3 b atks[0] afks[0] (-alb)]) (es := [[x1, x2, x3, x4, x5, x6, x7, x8, x9], [z1, z2, z3, z4, z5, z6, z7, z8, z9]]) ⟨by decide, by decide⟩ rfl (D7.of hsl2 rfl (by simp) (by intro x hx; rcases List.mem_cons.1 hx with rfl | hx; exact ho3; obtain rfl := List.mem_singleton.1 hx; exact huo)) (by simp only [E1]; exact ⟨_, _, rfl, hre3.mono hle2, _, _, rfl, hru.mono hle2, rfl⟩); replace hre6 := hre6.mono hle2; replace hre8 := hre8.mono hle2; refine N3 rfl rfl (A0E _ _ _ _ _) rfl rfl rfl ?_)
 refine A4 8 ?_
 refine I2 rfl ?_
 refine B7 ?_
 refine E2 E4 rfl ?_
 refine L4 (i := 0) (l' := [tt,ff,ff,ff,ff,ff,ff,ff,ff,ff,ff,ff,ff,ff,ff,ff,ff]) rfl D6 (A2 rfl rfl (A9 (by repeat first | exact mH | apply mT)) rfl) rfl (by kernel_rfl) rfl rfl ?_
 refine aP 1 rfl (B9 rfl) rfl ?_
 refine aP 2 rfl (qF rfl) rfl ?_
 refine aL 3 rfl (C8 rfl rfl) rfl ?_
 refine aP 4 rfl (B6 (j := 1) rfl rfl rfl (by omega)) rfl ?_
 refine aL 5 rfl (A2 rfl rfl (At.mono' (hle1.trans hle2) (hat8 _)) rfl) rfl ?_
 refine aP 6 rfl (B9 rfl) rfl ?_
 refine aP 7 rfl (qF rfl) rfl ?_
 refine aL 8 rfl (C8 rfl rfl) rfl ?_
 refine aP 9 rfl (B6 (j := 1) rfl rfl rfl (by omega)) rfl ?_
 refine aL 10 rfl (A2 rfl rfl (At.mono' (hle1.trans hle2) (hat6 _)) rfl) rfl ?_
 refine aP 11 rfl (B9 rfl) rfl ?_
 refine aL 12 rfl (C8 rfl rfl) rfl ?_
 refine A4 13 ?_
 (refine H7 rfl rfl (A0Q _ afks[1] atks[1] alb G2 _ _ _ ⟨by omega, by omega⟩ hrN hre8 hre6 (hfrS _ (List.getElem_mem (by omega))) (htyS _ (List.getElem_mem (by omega)))) rfl rfl rfl (fun u G3 hle3 hh => ?_); obtain ⟨wc, rfl, hrw⟩ := hh; have hwl := hrw.len; have hwo := hrw.one)
 refine A4 14 ?_
 (refine oS rfl rfl rfl rfl hwl hwo rfl rfl ?_ (hu := by exact D4 hwl.symm))
 refine aP 15 rfl (qA rfl) rfl ?_
 refine aP 16 rfl (qA rfl) rfl ?_
 refine B7 ?_
 refine D5 (rC rfl (A2 rfl rfl (A9 (by repeat first | exact mH | apply mT)) hwl)) (rT rfl) (rT rfl) ?_
 exact A3A
 refine A0e ?_
 refine D5 (rC rfl (A5 rfl rfl)) (rT rfl) (rT rfl) ?_
 exact A5A
theorem B1t (k : Int) (a : Tm) (G : IM) (ca : List Value) (hk1 : k = 11 ∨ k = 12) (hca : cv a) (hra : B1 G a ca) : Fn Tryz.prog 250 [.int .i64 k, .agg ⟨ca⟩] [] G (L6 (N7 k B3 B3 0 [a])) := by
 have hP := A5y a G _ hra
 obtain ⟨ak, anm, anum, ⟨atk, atks⟩, ⟨afk, afks⟩, alb, aks⟩ := a
 obtain ⟨hN, hkk⟩ := hca.node
 have hops := hN.ops
 have hbl := hN.lbB
 have htyA := hN.tyA
 have hfrA := hN.frA
 rw [F9] at htyA hfrA
 have htyS := fun t (h : t ∈ atks) => (A1N.1 htyA.2.2 t h).small
 have hfrS := fun t (h : t ∈ afks) => (A1N.1 hfrA.2.2 t h).small
 have h14 : ak = 14 → aks.length = 1 := fun h => by rw [h] at hops; have : E6 14 = 1 := rfl; omega
 have h10 : ak = 10 → aks.length = 2 := fun h => by rw [h] at hops; have : E6 10 = 2 := rfl; omega
 obtain ⟨apt, act, apf, acf, ap, ac, aes, rfl, hak, hanum, halb, haty, hafr, hasl, hakl⟩ := hra.open9
 obtain ⟨tes, htS, htL⟩ := haty.kids
 obtain ⟨fes, hfS, hfL⟩ := hafr.kids
 simp only [Ty.ks] at htS htL hfS hfL
 obtain ⟨i, hi⟩ : ∃ i : Nat, (k - 11).toNat = i := ⟨_, rfl⟩
 have hR : N7 k B3 B3 0 [Tm.mk ak anm anum (.mk atk atks) (.mk afk afks) alb aks] = (if ak = 10 then (kd aks i, 1, 0) else if (ak = 14 ∧ afk = atk ∧ (atk = 4 ∨ atk = 5)) ∧ atk = 5 then (L3 (A0r k [kd aks 0]) (kt afks i) (kt atks i) alb, 1, 0) else R4) := by
  unfold N7
  rw [if_neg (by omega), if_neg (by omega), if_neg (by omega), if_pos hk1, hi, show kd [Tm.mk ak anm anum (.mk atk atks) (.mk afk afks) alb aks] 0 = Tm.mk ak anm anum (.mk atk atks) (.mk afk afks) alb aks from rfl, A1w]
  simp only [decide_eq_true_eq]
  rfl
 rw [hR]
 replace hP : Fn Tryz.prog 130 _ [] G (I5 (.bool (decide (ak = 14 ∧ afk = atk ∧ (atk = 4 ∨ atk = 5)))) G) := hP
 refine C1 Tryz.func250 rfl Tryz.ntmps250 Tryz.results250 rfl ?_
 intro w0
 refine A3 ?_
 refine sE (C7 rfl rfl) rfl (fun b3 => ?_)
 refine sE (A7 rfl) rfl (fun b4 => ?_)
 refine B5 ?_
 refine sP (O9 rfl rfl (by omega) (by omega)) rfl rfl ?_
 (rw [show (k - 11 : Int) = ((i : Nat) : Int) from (by omega)]; refine sQ (qA rfl) rfl ?_)
 refine B5 ?_
 refine sB (qE rfl rfl) rfl rfl (fun h21 => ?_) (fun h21 => ?_)
 refine D1 ?_
 (have hq := h10 (by omega); obtain ⟨bq, oq, e3, rfl, hl3, hat3, hre3, hgb3⟩ := hasl.kidTm hakl (i := i) (by omega) (by omega); have ho3 := hre3.one; refine sP (B6 (j := i) rfl rfl rfl (by omega)) rfl rfl ?_)
 refine sL (A2 rfl rfl (hat3 _) hl3) rfl rfl ?_
 refine sS rfl rfl rfl hl3 ho3 rfl ?_ (hu := by exact D4 hl3.symm)
 refine A8 ?_
 refine D5 (rC rfl (A2 rfl rfl (A9 (by repeat first | exact mH | apply mT)) hl3)) (rT rfl) (rT rfl) ?_
 (exact L6.mk (by rw [if_pos (by omega), A2g (by omega)]) hre3)
 refine E0 ?_
 focus (by_cases hpx : (ak = 14 ∧ afk = atk ∧ (atk = 4 ∨ atk = 5)); rw [decide_eq_true hpx] at hP; rotate_left; rw [decide_eq_false hpx] at hP; rotate_left; all_goals (refine E8 rfl hP rfl rfl ?_))
 refine B0 ?_
 refine sB (N5 rfl rfl) rfl rfl (fun h56 => ?_) (fun h56 => ?_)
 refine J9 ?_
 refine D5 (rC rfl (A5 rfl rfl)) (rT rfl) (rT rfl) ?_
 exact A5A
 refine B5 ?_
 (have hnd : ¬ak = 10 := (by omega); have hq : (ak = 14 ∧ afk = atk ∧ (atk = 4 ∨ atk = 5)) ∧ atk = 5 := ⟨hpx, by omega⟩; have hq1 := h14 hq.1.1; have hq2 := htyA.1 (by omega); have hq3 := hfrA.1 (by omega); obtain ⟨bq, oq, e3, rfl, hl3, hat3, hre3, hgb3⟩ := hasl.kidTm hakl (i := 0) (by omega) (by omega); have ho3 := hre3.one; obtain ⟨b5, o5, q5, d5, rfl, hat5, hre5, hgb5⟩ := htS.kidTy htL (i := i) (by omega) (by omega); obtain ⟨b7, o7, q7, d7, rfl, hat7, hre7, hgb7⟩ := hfS.kidTy hfL (i := i) (by omega) (by omega); obtain ⟨x1, x2, x3, x4, x5, x6, x7, x8, x9, rfl⟩ := nine hl3; refine E2 E4 rfl ?_)
 refine J4 (i := 0) (l' := [tt,ff,ff,ff,ff,ff,ff,ff,ff,ff,ff,ff,ff,ff,ff,ff,ff,ff,ff,ff,ff,ff,ff,ff,ff]) rfl D6 (qM rfl) rfl (by kernel_rfl) rfl rfl ?_
 refine aP 1 rfl (B9 rfl) rfl ?_
 refine aL 2 rfl (C8 rfl rfl) rfl ?_
 refine aP 3 rfl (B6 (j := 0) rfl rfl rfl (by omega)) rfl ?_
 refine aL 4 rfl (A2 rfl rfl (hat3 _) rfl) rfl ?_
 refine aP 7 rfl (B9 rfl) rfl ?_
 refine aP 8 rfl (qF rfl) rfl ?_
 refine aL 9 rfl (C8 rfl rfl) rfl ?_
 refine aP 10 rfl (qM rfl) rfl ?_
 refine aP 11 rfl (B6 (j := i) rfl rfl rfl (by omega)) rfl ?_
 refine aL 12 rfl (A2 rfl rfl (hat7 _) rfl) rfl ?_
 refine aP 13 rfl (B9 rfl) rfl ?_
 refine aP 14 rfl (qF rfl) rfl ?_
 refine aL 15 rfl (C8 rfl rfl) rfl ?_
 refine aP 16 rfl (qM rfl) rfl ?_
 refine aP 17 rfl (B6 (j := i) rfl rfl rfl (by omega)) rfl ?_
 refine aL 18 rfl (A2 rfl rfl (hat5 _) rfl) rfl ?_
 refine aP 19 rfl (B9 rfl) rfl ?_
 refine aL 20 rfl (C8 rfl rfl) rfl ?_
 refine A4 5 ?_
 (refine E5 rfl (D0 rfl rfl rfl (by omega) (by unfold maxLen; omega) rfl) rfl rfl ?_; rintro _ ⟨b101, rfl⟩)
 refine A4 6 ?_
 (refine A1h (cs := [x1, x2, x3, x4, x5, x6, x7, x8, x9]) (by repeat (first | exact Pk.here | apply Pk.there)) (fun G2 hle2 hsl2 hno2 => ?_); have hrN := A0X (k := k) (ks := [aks[0]]) (es := [[x1, x2, x3, x4, x5, x6, x7, x8, x9]]) ⟨by omega, by omega⟩ rfl (D7.of hsl2 rfl (by simp) (by intro x hx; obtain rfl := List.mem_singleton.1 hx; exact ho3)) (by simp only [E1]; exact ⟨_, _, rfl, hre3.mono hle2, rfl⟩); replace hre5 := hre5.mono hle2; replace hre7 := hre7.mono hle2; refine N3 rfl rfl (A0E _ _ _ _ _) rfl rfl rfl ?_)
 refine A4 21 ?_
 (refine H7 rfl rfl (A0Q _ afks[i] atks[i] alb G2 _ _ _ ⟨by omega, by omega⟩ hrN hre7 hre5 (hfrS _ (List.getElem_mem (by omega))) (htyS _ (List.getElem_mem (by omega)))) rfl rfl rfl (fun u G3 hle3 hh => ?_); obtain ⟨wc, rfl, hrw⟩ := hh; have hwl := hrw.len; have hwo := hrw.one)
 refine A4 22 ?_
 (refine oS rfl rfl rfl rfl hwl hwo rfl rfl ?_ (hu := by exact D4 hwl.symm))
 refine aP 23 rfl (qA rfl) rfl ?_
 refine aP 24 rfl (qA rfl) rfl ?_
 refine B7 ?_
 refine D5 (rC rfl (A2 rfl rfl (A9 (by repeat first | exact mH | apply mT)) hwl)) (rT rfl) (rT rfl) ?_
 (exact L6.mk (by rw [if_neg hnd, if_pos hq, A2g (by omega), A0Y (by omega), A0Y (by omega)]) hrw)
 refine A0e ?_
 refine D5 (rC rfl (A5 rfl rfl)) (rT rfl) (rT rfl) ?_
 exact A5A
theorem B6Y (a : Tm) (nm : ByteArray) (num : Int) (ty fr : Ty) (lb : Int) (G : IM) (cells : List Value) (hc : cv (.mk 14 nm num ty fr lb [a])) (hr : B1 G (.mk 14 nm num ty fr lb [a]) cells) : Fn Tryz.prog 251 [.agg ⟨cells⟩] [] G (L6 (N7 14 ty fr lb [a])) := by
 obtain ⟨hNe, hkk0⟩ := hc.node
 have hca := hkk0 a (by simp)
 have hlb9 := hNe.lbB
 obtain ⟨hcons, htv, hfv⟩ := hNe.c14 rfl
 have hji := @B0D a
 have hjk := @A5k a
 obtain ⟨ak, anm, anum, ⟨atk, atks⟩, ⟨afk, afks⟩, alb, aks⟩ := a
 obtain ⟨hN, hkk⟩ := hca.node
 have hops := hN.ops
 have h14 : ak = 14 → aks.length = 1 := fun h => by rw [h] at hops; have : E6 14 = 1 := rfl; omega
 obtain ⟨tk, tks⟩ := ty
 obtain ⟨fk, fks⟩ := fr
 rw [U9] at hcons
 simp only [Bool.or_eq_true, Bool.and_eq_true, decide_eq_true_eq] at hcons
 have hcc : fk ≠ tk → tk ≠ 1 → fk = 1 := fun h1 h2 => by rcases hcons with (h | h) | h; exact h; exact absurd h h2; exact absurd h.1 h1
 have hta := A7u htv
 have hfa := A7u hfv
 obtain ⟨pt, ct, pf, cf, p, c, es, rfl, hk, hnum, hlb, hty, hfr, hsl, hkl⟩ := hr.open9
 obtain ⟨bx, ox, e0, rfl, hl0, hat0, hre0, hgb0⟩ := hsl.kidTm hkl (i := 0) (by simp) (by simp)
 replace hre0 : B1 G (Tm.mk ak anm anum (.mk atk atks) (.mk afk afks) alb aks) e0 := hre0
 have hI := A7A (Tm.mk ak anm anum (.mk atk atks) (.mk afk afks) alb aks) G _ hN.frA hre0
 have ho0 := hre0.one
 obtain ⟨apt, act, apf, acf, ap, ac, aes, rfl, hak, hanum, halb, haty, hafr, hasl, hakl⟩ := hre0.open9
 obtain ⟨J, hJ⟩ : ∃ J, inj (Tm.mk ak anm anum (.mk atk atks) (.mk afk afks) alb aks) = J := ⟨_, rfl⟩
 obtain ⟨D, hD⟩ : ∃ D, U3 (.mk tk tks) = D := ⟨_, rfl⟩
 have hGr := B1p (.mk tk tks) G _ hta hty
 rw [hD] at hGr
 rw [hJ] at hI hji hjk
 have hR : N7 14 (.mk tk tks) (.mk fk fks) lb [Tm.mk ak anm anum (.mk atk atks) (.mk afk afks) alb aks] = (if fk = tk then (Tm.mk ak anm anum (.mk atk atks) (.mk afk afks) alb aks, 1, 0)
   else if tk = 1 then (L3 (L3 (Tm.mk ak anm anum (.mk atk atks) (.mk afk afks) alb aks) (.mk fk fks) (V1 (.mk fk fks)) lb) (V1 (.mk fk fks)) (.mk tk tks) lb, 1, 0)
   else if D = false then (L3 (L3 (Tm.mk ak anm anum (.mk atk atks) (.mk afk afks) alb aks) (.mk fk fks) (V1 (.mk tk tks)) lb) (V1 (.mk tk tks)) (.mk tk tks) lb, 1, 0)
   else if J = false then R4
   else if afk = tk then (kd aks 0, 1, 0)
   else (K7, 2, lb)) := by
  rw [← hJ, ← hD]; rfl
 rw [hR]
 refine C1 Tryz.func251 rfl Tryz.ntmps251 Tryz.results251 rfl ?_
 intro w0
 refine A3 ?_
 refine sE (C7 rfl rfl) rfl (fun b3 => ?_)
 refine sE (A7 rfl) rfl (fun b4 => ?_)
 refine D1 ?_
 refine sP (B6 (j := 0) rfl rfl rfl (by simp)) rfl rfl ?_
 refine sL (A2 rfl rfl (hat0 _) rfl) rfl rfl ?_
 refine sE (A7 rfl) rfl (fun b15 => ?_)
 refine B4 ?_
 refine C0 ?_
 refine D1 ?_
 refine sB (qE rfl rfl) rfl rfl (fun h29 => ?_) (fun h29 => ?_)
 refine I7 ?_
 refine D5 (rC rfl (A5 rfl rfl)) (rT rfl) (rT rfl) ?_
 (exact L6.mk (by rw [if_pos (by omega)]) hre0)
 refine E0 ?_
 refine sB (qE rfl rfl) rfl rfl (fun h56 => ?_) (fun h56 => ?_)
 refine D1 ?_
 (have hgk : tk = 1 := (by omega); refine D9 rfl (A7z (.mk fk fks) G _ hfa hfr) rfl rfl (fun u G1 hle1 hh => ?_); obtain ⟨gc, rfl, hrg⟩ := hh; have hgs := A3n (.mk fk fks); generalize V1 (.mk fk fks) = g at hrg hgs ⊢; obtain ⟨pg, cg, eg, rfl, _⟩ := hrg.open; replace hre0 := hre0.mono hle1; replace hfr := hfr.mono hle1; replace hty := hty.mono hle1)
 refine sE (A7 rfl) rfl (fun b66 => ?_)
 refine B4 ?_
 refine E2 E4 rfl ?_
 refine L4 (i := 0) (l' := [tt,ff,ff,ff,ff,ff,ff,ff,ff,ff,ff,ff,ff,ff,ff,ff]) rfl D6 (A2 rfl rfl (A9 (by repeat first | exact mH | apply mT)) rfl) rfl (by kernel_rfl) rfl rfl ?_
 refine aL 3 rfl (A2 rfl rfl (A9 (by repeat first | exact mH | apply mT)) rfl) rfl ?_
 refine aL 7 rfl (A2 rfl rfl (A9 (by repeat first | exact mH | apply mT)) rfl) rfl ?_
 refine aP 1 rfl (B9 rfl) rfl ?_
 refine aL 2 rfl (A5 rfl rfl) rfl ?_
 refine aP 4 rfl (B9 rfl) rfl ?_
 refine aL 5 rfl (C8 rfl rfl) rfl ?_
 refine aP 8 rfl (B9 rfl) rfl ?_
 refine aL 9 rfl (A5 rfl rfl) rfl ?_
 refine aP 10 rfl (B9 rfl) rfl ?_
 refine aL 11 rfl (C8 rfl rfl) rfl ?_
 refine A4 6 ?_
 (refine H7 rfl rfl (A0Q _ (.mk fk fks) _ lb G1 _ _ _ ⟨by omega, by omega⟩ hre0 hfr hrg hfa.small hgs) rfl rfl rfl (fun u G3 hle3 hh => ?_); obtain ⟨wc, rfl, hrw⟩ := hh; have hwl := hrw.len; have hwo := hrw.one; replace hrg := hrg.mono hle3; replace hty := hty.mono hle3)
 refine A4 12 ?_
 (refine H7 rfl rfl (A0Q _ _ (.mk tk tks) lb G3 _ _ _ ⟨by omega, by omega⟩ hrw hrg hty hgs hta.small) rfl rfl rfl (fun u G4 hle4 hh => ?_); obtain ⟨xc, rfl, hrx⟩ := hh; have hxl := hrx.len; have hxo := hrx.one)
 refine A4 13 ?_
 (refine oS rfl rfl rfl rfl hxl hxo rfl rfl ?_ (hu := by exact D4 hxl.symm))
 refine aP 14 rfl (qA rfl) rfl ?_
 refine aP 15 rfl (qA rfl) rfl ?_
 refine B0 ?_
 refine D5 (rC rfl (A2 rfl rfl (A9 (by repeat first | exact mH | apply mT)) hxl)) (rT rfl) (rT rfl) ?_
 (exact L6.mk (by rw [if_neg (by omega), if_pos (by omega)]) hrx)
 refine E0 ?_
 refine sP (A24 rfl rfl (by omega)) rfl rfl ?_
 refine D1 ?_
 focus (cases hDD : D; all_goals (rw [hDD] at hGr; refine E8 rfl hGr rfl rfl ?_))
 refine E0 ?_
 (refine D9 rfl (A7z (.mk tk tks) G _ hta hty) rfl rfl (fun u G1 hle1 hh => ?_); obtain ⟨gc, rfl, hrg⟩ := hh; have hgs := A3n (.mk tk tks); generalize V1 (.mk tk tks) = g at hrg hgs ⊢; obtain ⟨pg, cg, eg, rfl, _⟩ := hrg.open; replace hre0 := hre0.mono hle1; replace hfr := hfr.mono hle1; replace hty := hty.mono hle1)
 refine sE (A7 rfl) rfl (fun b127 => ?_)
 refine B4 ?_
 refine E2 E4 rfl ?_
 refine L4 (i := 0) (l' := [tt,ff,ff,ff,ff,ff,ff,ff,ff,ff,ff,ff,ff,ff,ff,ff]) rfl D6 (A2 rfl rfl (A9 (by repeat first | exact mH | apply mT)) rfl) rfl (by kernel_rfl) rfl rfl ?_
 refine aL 3 rfl (A2 rfl rfl (A9 (by repeat first | exact mH | apply mT)) rfl) rfl ?_
 refine aL 7 rfl (A2 rfl rfl (A9 (by repeat first | exact mH | apply mT)) rfl) rfl ?_
 refine aP 1 rfl (B9 rfl) rfl ?_
 refine aL 2 rfl (A5 rfl rfl) rfl ?_
 refine aP 4 rfl (B9 rfl) rfl ?_
 refine aL 5 rfl (C8 rfl rfl) rfl ?_
 refine aP 8 rfl (B9 rfl) rfl ?_
 refine aL 9 rfl (A5 rfl rfl) rfl ?_
 refine aP 10 rfl (B9 rfl) rfl ?_
 refine aL 11 rfl (C8 rfl rfl) rfl ?_
 refine A4 6 ?_
 (refine H7 rfl rfl (A0Q _ (.mk fk fks) _ lb G1 _ _ _ ⟨by omega, by omega⟩ hre0 hfr hrg hfa.small hgs) rfl rfl rfl (fun u G3 hle3 hh => ?_); obtain ⟨wc, rfl, hrw⟩ := hh; have hwl := hrw.len; have hwo := hrw.one; replace hrg := hrg.mono hle3; replace hty := hty.mono hle3)
 refine A4 12 ?_
 (refine H7 rfl rfl (A0Q _ _ (.mk tk tks) lb G3 _ _ _ ⟨by omega, by omega⟩ hrw hrg hty hgs hta.small) rfl rfl rfl (fun u G4 hle4 hh => ?_); obtain ⟨xc, rfl, hrx⟩ := hh; have hxl := hrx.len; have hxo := hrx.one)
 refine A4 13 ?_
 (refine oS rfl rfl rfl rfl hxl hxo rfl rfl ?_ (hu := by exact D4 hxl.symm))
 refine aP 14 rfl (qA rfl) rfl ?_
 refine aP 15 rfl (qA rfl) rfl ?_
 refine B0 ?_
 refine D5 (rC rfl (A2 rfl rfl (A9 (by repeat first | exact mH | apply mT)) hxl)) (rT rfl) (rT rfl) ?_
 (exact L6.mk (by rw [if_neg (by omega), if_neg (by omega), if_pos rfl]) hrx)
 refine D1 ?_
 focus (cases hJJ : J; all_goals (rw [hJJ] at hI; refine E8 rfl hI rfl rfl ?_))
 refine K0 ?_
 refine D5 (rC rfl (A5 rfl rfl)) (rT rfl) (rT rfl) ?_
 (exact L6.mk (by rw [if_neg (by omega), if_neg (by omega), if_neg (by decide), if_pos rfl]; rfl) (P6 _))
 refine J7 ?_
 refine sB (qE rfl rfl) rfl rfl (fun h199 => ?_) (fun h199 => ?_)
 refine D1 ?_
 (have hq1 := h14 (hjk (by assumption)); obtain ⟨bq, oq, e3, rfl, hl3, hat3, hre3, hgb3⟩ := hasl.kidTm hakl (i := 0) (by omega) (by omega); have ho3 := hre3.one; refine sP (B6 (j := 0) rfl rfl rfl (by omega)) rfl rfl ?_)
 refine sL (A2 rfl rfl (hat3 _) hl3) rfl rfl ?_
 refine sS rfl rfl rfl hl3 ho3 rfl ?_ (hu := by exact D4 hl3.symm)
 refine B5 ?_
 refine D5 (rC rfl (A2 rfl rfl (A9 (by repeat first | exact mH | apply mT)) hl3)) (rT rfl) (rT rfl) ?_
 (exact L6.mk (by rw [if_neg (by omega), if_neg (by omega), if_neg (by decide), if_neg (by decide), if_pos (by assumption), A2g (by omega)]) hre3)
 refine D1 ?_
 refine E2 E4 rfl ?_
 refine J4 (i := 0) (l' := [tt,ff,ff,ff,ff,ff]) rfl D6 (X0 rfl rfl) rfl (by kernel_rfl) rfl rfl ?_
 refine aP 1 rfl (B9 rfl) rfl ?_
 refine aL 2 rfl (C8 rfl rfl) rfl ?_
 refine A4 3 ?_
 refine I2 rfl ?_
 refine aP 4 rfl (qA rfl) rfl ?_
 refine aP 5 rfl (qA rfl) rfl ?_
 refine B7 ?_
 refine D5 (rC rfl (A5 rfl rfl)) (rT rfl) (rT rfl) ?_
 (exact L6.mk (by rw [if_neg (by omega), if_neg (by omega), if_neg (by decide), if_neg (by decide), if_neg (by assumption)]) (P6 _))
theorem B6Z {e : Tm} (h : N9 e = true) : Q3 e = Q2 [] e := by
 have hs := ((A0C e).1 h).1
 obtain ⟨h1, h2⟩ := A3s e 1 [] 0 hs A3r
 unfold Q3
 cases hE : M6 [] e 0 with
 | none => rw [A7r h hE, h2 hE]
 | some r =>
  obtain ⟨u, a, l⟩ := r
  rw [A7s h hE, (h1 u a l hE).1]
theorem B60 {e u : Tm} {t : Ty} (h : U4 e = some (u, t)) : N9 e = true ∧ ∃ l, M6 [] e 0 = some (u, t, l) := by
 unfold U4 at h
 split at h
 ·rename_i hv
  refine ⟨hv, ?_⟩
  split at h
  ·rename_i u' t' l' he; cases h; exact ⟨l', he⟩
  ·cases h
 ·cases h
def A7G (t : Ty) (x : Bool) (G : IM) : IM → Value → List A6 → Prop := K1 fun G' v => ∃ cells, v = .tuple ⟨[.agg ⟨cells⟩, .bool x]⟩ ∧ C3 G' (if x = true then t else B3) cells
theorem B61 (t : Ty) (G : IM) (cells : List Value) (hr : C3 G t cells) : Fn Tryz.prog 184 [.agg ⟨cells⟩, .bool true] [] G (A7G t true G) := by
 obtain ⟨p, c, e, rfl, _⟩ := hr.open
 refine C1 Tryz.func184 rfl Tryz.ntmps184 Tryz.results184 rfl ?_
 intro w0
 refine A3 ?_
 refine sE (C7 rfl rfl) rfl (fun b3 => ?_)
 refine sE (A7 rfl) rfl (fun b4 => ?_)
 refine A0z ?_
 refine E9 (rC rfl (A5 rfl rfl)) (rT rfl) ?_
 (exact ⟨rfl, _, rfl, hr⟩)
theorem B62 (t : Ty) (G : IM) (cells : List Value) (hr : C3 G t cells) : Fn Tryz.prog 184 [.agg ⟨cells⟩, .bool false] [] G (A7G t false G) := by
 obtain ⟨p, c, e, rfl, _⟩ := hr.open
 refine C1 Tryz.func184 rfl Tryz.ntmps184 Tryz.results184 rfl ?_
 intro w0
 refine A3 ?_
 refine sE (C7 rfl rfl) rfl (fun b3 => ?_)
 refine sE (A7 rfl) rfl (fun b4 => ?_)
 refine A0e ?_
 refine E9 (rC rfl (A5 rfl rfl)) (rT rfl) ?_
 (exact ⟨rfl, _, rfl, O1 _ ⟨by omega, by omega⟩⟩)
theorem B63 (t : Ty) (x : Bool) (G : IM) (cells : List Value) (hr : C3 G t cells) : Fn Tryz.prog 184 [.agg ⟨cells⟩, .bool x] [] G (A7G t x G) := by
 cases x
 ·exact B62 t G cells hr
 ·exact B61 t G cells hr
theorem Y0.sure {o : Option Ty} {t : Ty} {G G' : IM} {cells : List Value} (h : ∀ u, o = some u → u = t) (hr : C3 G' (if o.isSome = true then t else B3) cells) : Y0 o G G' (.tuple ⟨[.agg ⟨cells⟩, .bool o.isSome]⟩) [] := by
 cases o with
 | none => exact ⟨rfl, cells, B3, rfl, hr, by simp⟩
 | some u => exact ⟨rfl, cells, t, rfl, hr, fun x hx => by cases hx; exact (h _ rfl).symm⟩
theorem B64 (e : Tm) (G : IM) (cells : List Value) (hcnt : D3 e ≤ 4294967296) (hr : B1 G e cells) :
  Fn Tryz.prog 134 [.slice none 0 0, .agg ⟨cells⟩] [] G (Y0 (Q3 e) G) := by
 have hl := hr.len
 have hone := hr.one
 have hw := A4Z e G cells hcnt hr
 have hT := fun h : N9 e = true => B1o e 1 [] G none 0 0 cells ((A0C e).1 h).1 (by omega) A3r (S9.nil G) hr
 have hts := fun h => @B6Z e h
 have hno := @B09 e
 refine C1 Tryz.func134 rfl Tryz.ntmps134 Tryz.results134 rfl ?_
 intro w0
 refine A3 ?_
 refine sE (C7 rfl rfl) rfl (fun b3 => ?_)
 refine sE (A7 rfl) rfl (fun b4 => ?_)
 refine B5 ?_
 refine E8 rfl ((B4o _)) rfl rfl ?_
 refine A3 ?_
 refine sL (A2 rfl rfl (A9 (by repeat first | exact mH | apply mT)) (by assumption)) rfl rfl ?_
 refine F4 rfl (hw) rfl rfl (fun h16 => ?_) (fun h16 => ?_)
 refine J3 ?_
 refine sL (A2 rfl rfl (A9 (by repeat first | exact mH | apply mT)) (by assumption)) rfl rfl ?_
 (refine D9 rfl (hT (by assumption)) rfl rfl (fun v G1 hle1 hh => ?_); obtain ⟨mt, mc, rfl, hmr, hma, hmu⟩ := hh; obtain ⟨p1, c1, e1, rfl, _⟩ := hmr.open; have hmo := hts (by assumption))
 refine A3 ?_
 (refine D9 rfl (B63 mt _ _ _ hmr) rfl rfl (fun v G2 hle2 hh => ?_); obtain ⟨mc2, rfl, hmr2⟩ := hh; obtain ⟨p2, c2, e2, rfl, _⟩ := hmr2.open)
 refine B5 ?_
 refine E9 (rC rfl (A5 rfl rfl)) (rT rfl) ?_
 (rw [hmo]; exact Y0.sure hmu hmr2)
 refine J9 ?_
 refine E9 (rC rfl (A5 rfl rfl)) (rT rfl) ?_
 (exact Y0.no (u := B3) (O1 _ ⟨by omega, by omega⟩) rfl (hno (by assumption)))
theorem A7H (e : Tm) (G : IM) (cells : List Value) (hcnt : D3 e ≤ 4294967296) (hr : B1 G e cells) :
  Fn Tryz.prog 92 [.agg ⟨cells⟩] [] G (Y0 (Q3 e) G) := by
 have hl := hr.len
 have hone := hr.one
 refine C1 Tryz.func92 rfl Tryz.ntmps92 Tryz.results92 rfl ?_
 intro w0
 refine A3 ?_
 refine sE (C7 rfl rfl) rfl (fun b3 => ?_)
 refine sE (A7 rfl) rfl (fun b4 => ?_)
 refine B0 ?_
 refine sL (A2 rfl rfl (A9 (by repeat first | exact mH | apply mT)) (by assumption)) rfl rfl ?_
 (refine D9 rfl (B64 e G cells hcnt hr) rfl rfl (fun v G1 hle1 hh => ?_); obtain ⟨cu, u, rfl, hru, hu⟩ := hh; obtain ⟨p1, c1, e1, rfl, _⟩ := hru.open)
 refine B5 ?_
 refine E9 (rC rfl (A5 rfl rfl)) (rT rfl) ?_
 (exact ⟨rfl, _, u, rfl, hru, hu⟩)
def A2U (e : Tm) (a b : Ty) (l : Int) : IM → Value → List A6 → Prop := K1 fun G' v => ∃ cells, v = .tuple ⟨[.agg ⟨cells⟩, .int .i64 (if M5 a b = true then l else l + 1)]⟩ ∧ B1 G' (if M5 a b = true then e else L3 e a b l) cells
theorem A2U.yes {G : IM} {e : Tm} {a b : Ty} {l : Int} {cells : List Value} (h : M5 a b = true) (hr : B1 G e cells) : A2U e a b l G (.tuple ⟨[.agg ⟨cells⟩, .int .i64 l]⟩) [] := ⟨rfl, cells, by rw [if_pos h], by rw [if_pos h]; exact hr⟩
theorem A2U.no {G : IM} {e : Tm} {a b : Ty} {l : Int} {cells : List Value} (h : M5 a b = false) (hr : B1 G (L3 e a b l) cells) : A2U e a b l G (.tuple ⟨[.agg ⟨cells⟩, .int .i64 (l + 1)]⟩) [] := ⟨rfl, cells, by rw [if_neg (by rw [h]; decide)], by rw [if_neg (by rw [h]; decide)]; exact hr⟩
theorem A7I {Q : Prop} (h : Q := by (exact A2U.no (by assumption) (B1.of9 (ks := [e]) ⟨by omega, by omega⟩ ⟨by omega, by omega⟩ ⟨by omega, by omega⟩ (hr2.mono hle5) (hr1.mono hle5) hone1 hone2))) : Q := h
theorem B65 (e : Tm) (a b : Ty) (label : Int) (G : IM) (ce ca cb : List Value) (hlab : -1099511627776 ≤ label ∧ label ≤ 1099511627776) (hr : B1 G e ce) (hra : C3 G a ca) (hrb : C3 G b cb) (hsa : a.small) (hsb : b.small) :
  Fn Tryz.prog 143 [.agg ⟨ce⟩, .agg ⟨ca⟩, .agg ⟨cb⟩, .int .i64 label] [] G (A2U e a b label) := by
 have hl := hr.len
 have hone := hr.one
 obtain ⟨hlab1, hlab2⟩ := hlab
 have hSame := B1j a b G ca cb hra hrb
 obtain ⟨ak, aks⟩ := a
 obtain ⟨bk, bks⟩ := b
 obtain ⟨pa, cca, ea, rfl, _⟩ := hra.open
 obtain ⟨pb, ccb, eb, rfl, _⟩ := hrb.open
 simp only [Ty.k, Ty.ks] at hra hrb hSame ⊢
 obtain ⟨v1, v2, v3, v4, v5, v6, v7, v8, v9, rfl⟩ := nine hl
 refine C1 Tryz.func143 rfl Tryz.ntmps143 Tryz.results143 rfl ?_
 intro w0
 refine A3 ?_
 refine sE (C7 rfl rfl) rfl (fun b3 => ?_)
 refine sE (C7 rfl rfl) rfl (fun b4 => ?_)
 refine sE (C7 rfl rfl) rfl (fun b5 => ?_)
 refine sE (A7 rfl) rfl (fun b6 => ?_)
 refine D1 ?_
 refine F4 rfl (hSame) rfl rfl (fun h15 => ?_) (fun h15 => ?_)
 refine B0 ?_
 refine sL (A2 rfl rfl (A9 (by repeat first | exact mH | apply mT)) hl) rfl rfl ?_
 refine E3 ?_
 refine sS rfl rfl rfl hl hone rfl ?_ (hu := by exact D4 hl.symm)
 refine B0 ?_
 refine E9 (rC rfl (A2 rfl rfl (A9 (by repeat first | exact mH | apply mT)) hl)) (rT rfl) ?_
 (exact A2U.yes (by assumption) hr)
 refine A8 ?_
 refine E2 E4 rfl ?_
 refine L4 (i := 5) (l' := [ff,ff,ff,ff,ff,tt,ff,ff,ff,ff,ff,ff]) rfl D6 (A2 rfl rfl (A9 (by repeat first | exact mH | apply mT)) hl) rfl (by kernel_rfl) rfl rfl ?_
 refine aL 0 rfl (A5 rfl rfl) rfl ?_
 refine aL 2 rfl (A5 rfl rfl) rfl ?_
 refine aP 4 rfl (qM rfl) rfl ?_
 refine aP 8 rfl (qM rfl) rfl ?_
 refine aP 9 rfl (H5 rfl rfl (by omega) (by omega)) rfl ?_
 refine Q8 (j := 1) (j' := 6) (by kernel_rfl) ?_ ?_
 (refine H7 rfl rfl (P7 _ _ _ hsa hra) rfl rfl rfl (fun v G1 hle1 hh => ?_); obtain ⟨cs1, F1, rfl, hs1, hn1⟩ := hh; obtain ⟨p1, c1, rfl, _⟩ := hs1.open; have hC2 := P7 _ G1 _ hsb (hrb.mono hle1))
 refine Q8 (j := 3) (j' := 6) (by kernel_rfl) ?_ ?_
 (refine H7 rfl rfl hC2 rfl rfl rfl (fun v G2 hle2 hh => ?_); obtain ⟨cs2, F2, rfl, hs2, hn2⟩ := hh; obtain ⟨p2, c2, rfl, _⟩ := hs2.open; have hr1 := hs1.R.mono ((C5.le G1 _).trans hle2); have hr2 := hs2.R.mono (C5.le G2 G1); have hre := hr.mono (hle1.trans hle2))
 refine A4 6 ?_
 (refine E5 rfl (D0 rfl rfl rfl (by omega) (by unfold maxLen; omega) rfl) rfl rfl ?_; rintro _ ⟨b49, rfl⟩)
 refine aP 7 rfl (X0 rfl rfl) rfl ?_
 refine A4 10 ?_
 refine I2 rfl ?_
 refine aP 11 rfl (qA rfl) rfl ?_
 refine A3 ?_
 (refine F0 (cs := [v1, v2, v3, v4, v5, v6, v7, v8, v9]) (by repeat (first | exact Pk.here | apply Pk.there)) (fun G5 hle5 hsl5 hno5 => ?_); obtain ⟨hone1, hone2⟩ := A2C (hre.mono hle5) hsl5)
 refine tT ?_
 refine E9 (rC rfl (A5 rfl rfl)) (rT rfl) ?_
 exact A7I
 (refine E5 rfl (D0 rfl rfl rfl (by omega) (by unfold maxLen; omega) rfl) rfl rfl ?_; rintro _ ⟨b60, rfl⟩)
 refine A4 3 ?_
 (refine H7 rfl rfl hC2 rfl rfl rfl (fun v G2 hle2 hh => ?_); obtain ⟨cs2, F2, rfl, hs2, hn2⟩ := hh; obtain ⟨p2, c2, rfl, _⟩ := hs2.open; have hr1 := hs1.R.mono ((C5.le G1 _).trans hle2); have hr2 := hs2.R.mono (C5.le G2 G1); have hre := hr.mono (hle1.trans hle2))
 refine aP 7 rfl (X0 rfl rfl) rfl ?_
 refine A4 10 ?_
 refine I2 rfl ?_
 refine aP 11 rfl (qA rfl) rfl ?_
 refine A3 ?_
 (refine F0 (cs := [v1, v2, v3, v4, v5, v6, v7, v8, v9]) (by repeat (first | exact Pk.here | apply Pk.there)) (fun G5 hle5 hsl5 hno5 => ?_); obtain ⟨hone1, hone2⟩ := A2C (hre.mono hle5) hsl5)
 refine tT ?_
 refine E9 (rC rfl (A5 rfl rfl)) (rT rfl) ?_
 exact A7I
 (refine E5 rfl (D0 rfl rfl rfl (by omega) (by unfold maxLen; omega) rfl) rfl rfl ?_; rintro _ ⟨b73, rfl⟩)
 refine A4 1 ?_
 (refine H7 rfl rfl (P7 _ _ _ hsa hra) rfl rfl rfl (fun v G1 hle1 hh => ?_); obtain ⟨cs1, F1, rfl, hs1, hn1⟩ := hh; obtain ⟨p1, c1, rfl, _⟩ := hs1.open; have hC2 := P7 _ G1 _ hsb (hrb.mono hle1))
 refine A4 3 ?_
 (refine H7 rfl rfl hC2 rfl rfl rfl (fun v G2 hle2 hh => ?_); obtain ⟨cs2, F2, rfl, hs2, hn2⟩ := hh; obtain ⟨p2, c2, rfl, _⟩ := hs2.open; have hr1 := hs1.R.mono ((C5.le G1 _).trans hle2); have hr2 := hs2.R.mono (C5.le G2 G1); have hre := hr.mono (hle1.trans hle2))
 refine aP 7 rfl (X0 rfl rfl) rfl ?_
 refine A4 10 ?_
 refine I2 rfl ?_
 refine aP 11 rfl (qA rfl) rfl ?_
 refine A3 ?_
 (refine F0 (cs := [v1, v2, v3, v4, v5, v6, v7, v8, v9]) (by repeat (first | exact Pk.here | apply Pk.there)) (fun G5 hle5 hsl5 hno5 => ?_); obtain ⟨hone1, hone2⟩ := A2C (hre.mono hle5) hsl5)
 refine tT ?_
 refine E9 (rC rfl (A5 rfl rfl)) (rT rfl) ?_
 exact A7I
def S1 (w ts : List Ty) : List Ty := if w = [] then ts else w
theorem A4h {a : Ty} {w ts : List Ty} : S1 (a :: w) ts = a :: w := by unfold S1; rw [if_neg (by simp)]
def Y2 (ws : List Ty) (n : Nat) (G : IM) : IM → Value → List A6 → Prop := K1 fun G' v => ∃ p c es, v = .slice p n c ∧ ws.length = n ∧ D7 G' p n c 2 es ∧ C9 G' ws es
theorem Y2.mk {G G' : IM} {p : Option Addr} {n c : Nat} {ws ws' : List Ty} {es : List (List Value)} (he : ws = ws') (hl : ws'.length = n) (hs : Sl G' p n c 2 es.flatten) (hst : C9 G' ws' es) : Y2 ws n G G' (.slice p n c) [] := by
 subst he
 exact ⟨rfl, p, c, es, rfl, hl, D7.of hs (by rw [hst.len, hl]) hst.all (fun e he => (hst.each e he).2), hst⟩
theorem Y2.mk1 {G G' : IM} {p : Option Addr} {n c : Nat} {ws : List Ty} {a : Ty} {ca : List Value} (he : ws = [a]) (hn : n = 1) (hs : Sl G' p 1 c 2 ca) (ha : C3 G' a ca) : Y2 ws n G G' (.slice p 1 c) [] := by
 subst hn
 exact Y2.mk (ws' := [a]) (es := [ca]) he rfl (by simpa using hs) ⟨_, _, rfl, ha, rfl⟩
theorem Y2.mk2 {G G' : IM} {p : Option Addr} {n c : Nat} {ws : List Ty} {a b : Ty} {ca cb : List Value} (he : ws = [a, b]) (hn : n = 2) (hs : Sl G' p 2 c 2 (ca ++ cb)) (ha : C3 G' a ca) (hb : C3 G' b cb) : Y2 ws n G G' (.slice p 2 c) [] := by
 subst hn
 exact Y2.mk (ws' := [a, b]) (es := [ca, cb]) he rfl (by simpa using hs) ⟨_, _, rfl, ha, _, _, rfl, hb, rfl⟩
theorem Y2.mk3 {G G' : IM} {p : Option Addr} {n c : Nat} {ws : List Ty} {a b d : Ty} {ca cb cd : List Value} (he : ws = [a, b, d]) (hn : n = 3) (hs : Sl G' p 3 c 2 (ca ++ (cb ++ cd))) (ha : C3 G' a ca) (hb : C3 G' b cb) (hd : C3 G' d cd) : Y2 ws n G G' (.slice p 3 c) [] := by
 subst hn
 exact Y2.mk (ws' := [a, b, d]) (es := [ca, cb, cd]) he rfl (by simpa using hs) ⟨_, _, rfl, ha, _, _, rfl, hb, _, _, rfl, hd, rfl⟩
section
variable {cx : Cx} {k : Int} {nm : ByteArray} {ty : Ty} {ts w : List Ty} {t : Ty}
theorem wo6 (hk : k = 6) (h : L9 cx k nm ty ts = some (w, t)) (hl : 0 < ts.length) : ∃ a b, R2 4 ts[0] = some (a, b) ∧ S1 w ts = [.mk 4 [a, b], a] := by
 subst hk
 rw [mW6, gD hl] at h
 split at h
 ·rename_i a b hm
  split at h
  ·cases h; exact ⟨a, _, hm, A4h⟩
  ·cases h
 ·cases h
theorem B66 (hk : k = 7 ∨ k = 8) (h : L9 cx k nm ty ts = some (w, t)) : S1 w ts = [T4, T4] := by
 rw [W1 hk] at h
 split at h
 ·cases h; exact A4h
 ·cases h
theorem wo9 (hk : k = 9) (h : L9 cx k nm ty ts = some (w, t)) : S1 w ts = [X7, t, t] := by
 subst hk
 rw [mW9] at h
 split at h
 ·cases h; exact A4h
 ·cases h
theorem B67 (hk : k = 11 ∨ k = 12) (h : L9 cx k nm ty ts = some (w, t)) (hl : 0 < ts.length) : ∃ a b, R2 5 ts[0] = some (a, b) ∧ S1 w ts = [.mk 5 [a, b]] := by
 rw [A3q hk, gD hl] at h
 split at h
 ·rename_i a b hm; cases h; exact ⟨a, b, hm, A4h⟩
 ·cases h
theorem B68 (hk : k = 13) (h : L9 cx k nm ty ts = some (w, t)) : S1 w ts = [t] := by
 subst hk
 rw [A2K] at h
 split at h
 ·cases h; exact A4h
 ·cases h
theorem wo0 (hk : 1 ≤ k ∧ k ≤ 5 ∨ k = 10) (h : L9 cx k nm ty ts = some (w, t)) : S1 w ts = ts := by
 have : w = [] := by
  have hk' : k = 1 ∨ k = 2 ∨ (k = 3 ∨ k = 4) ∨ k = 5 ∨ k = 10 := by omega
  rcases hk' with rfl | rfl | hk | rfl | rfl
  ·rw [mW1] at h; split at h <;> cases h; rfl
  ·rw [mW2] at h; cases h; rfl
  ·rw [A36 hk] at h; cases h; rfl
  ·rw [mW5] at h; cases h; rfl
  ·rw [A5a] at h; cases h; rfl
 subst this; rfl
end
theorem B1u {Q : Prop} (h : Q := by (exact Y2.mk2 (o78 (by omega)) (hop.1 (by omega)) hsl5 (K8 _) (K8 _))) : Q := h
theorem B69 (cx : Cx) (k : Int) (nm : ByteArray) (num : Int) (ty fr : Ty) (lb : Int) (ks : List Tm) (ts w : List Ty) (t : Ty) (G : IM) (cells tcells : List Value) (p : Option Addr) (c : Nat) (es : List (List Value))
  (hw : L9 cx k nm ty ts = some (w, t)) (hk14 : k ≠ 14) (hops : E6 k = ts.length) (hr : B1 G (.mk k nm num ty fr lb ks) cells) (hsl : D7 G p ts.length c 2 es) (hkl : C9 G ts es) (har : ∀ t ∈ ts, F9 t) (hrt : C3 G t tcells) :
  Fn Tryz.prog 142 [.agg ⟨cells⟩, .slice p ts.length c, .agg ⟨tcells⟩] [] G (Y2 (S1 w ts) ts.length G) := by
 have hone := hr.one
 have hop := A3j hops
 have hkr : 1 ≤ k ∧ k ≤ 14 := A4f (by rw [hops]; omega)
 have ha0 := fun h : 0 < ts.length => har _ (List.getElem_mem h)
 obtain ⟨tyk, tyks⟩ := ty
 obtain ⟨fk, fks⟩ := fr
 obtain ⟨tk, tks⟩ := t
 obtain ⟨q9, d9, e9, rfl, _⟩ := hrt.open
 obtain ⟨pt, ct, pf, cf, pk, ck, ek, rfl, hk, hnum, hlb, hrty, hrfr, _, _⟩ := hr.open9
 have o6 := fun h hl => wo6 h hw hl
 have o78 := fun h => B66 h hw
 have o9 := fun h => wo9 h hw
 have o11 := fun h hl => B67 h hw hl
 have o13 := fun h => B68 h hw
 have o0 := fun h => wo0 h hw
 refine C1 Tryz.func142 rfl Tryz.ntmps142 Tryz.results142 rfl ?_
 intro w0
 refine A3 ?_
 refine sE (C7 rfl rfl) rfl (fun b3 => ?_)
 refine sE (C7 rfl rfl) rfl (fun b4 => ?_)
 refine J3 ?_
 refine C0 (tS (tR (sB (qE rfl rfl) rfl rfl (fun h18 => ?_) (fun h18 => ?_))))
 refine B5 ?_
 (have hl2 : ts.length = 2 := hop.1 (by omega); obtain ⟨b0, o0', q0, d0, hp0, hat0, hre0, hg0⟩ := hsl.kidTy hkl (i := 0) (by omega) (by omega); cases hp0; refine sP (B6 (j := 0) rfl rfl rfl (by omega)) rfl rfl ?_)
 refine sL (A2 rfl rfl (hat0 _) rfl) rfl rfl ?_
 (obtain ⟨ma', mb', hm, hwo⟩ := o6 (by omega) (by omega); refine D9 rfl (A3z 4 ts[0] G _ (.inl rfl) (ha0 (by omega)) hre0) rfl rfl (fun v G1 hle1 hh => ?_); obtain ⟨ma, mca, mb, mcb, rfl, hma, hmb, hma2, hmb2, hpp⟩ := hh; have hpe := hpp _ hm; simp only [Prod.mk.injEq] at hpe; obtain ⟨rfl, rfl⟩ := hpe; obtain ⟨p1, c1, e1, rfl, _⟩ := hma.open; obtain ⟨p2, c2, e2, rfl, _⟩ := hmb.open; have hTwo := A2T 4 _ _ G1 _ _ (.inl rfl) hma2 hmb2 hma hmb)
 refine B4 ?_
 refine sE (A7 rfl) rfl (fun b33 => ?_)
 refine sE (A7 rfl) rfl (fun b34 => ?_)
 refine E0 ?_
 (refine D9 rfl hTwo rfl rfl (fun v G2 hle2 hh => ?_); obtain ⟨mc, rfl, hmr⟩ := hh; obtain ⟨p3, c3, e3, rfl, _⟩ := hmr.open; have hma4 := hma.mono hle2)
 refine B7 ?_
 refine sE (A7 rfl) rfl (fun b48 => ?_)
 refine D1 ?_
 (refine I3 (D0 rfl rfl rfl (by omega) (by unfold maxLen; omega) rfl) rfl ?_; rintro _ ⟨b57, rfl⟩)
 refine B7 ?_
 (refine F0 (by repeat (first | exact Pk.here | apply Pk.there)) (fun G5 hle5 hsl5 hno5 => ?_))
 refine B4 ?_
 (exact Y2.mk2 hwo (hop.1 (by omega)) hsl5 (hmr.mono hle5) (hma4.mono hle5))
 refine B5 ?_
 refine sB (qE rfl rfl) rfl rfl (fun h74 => ?_) (fun h74 => ?_)
 refine E0 ?_
 refine E8 rfl ((A0D _)) rfl rfl ?_
 refine E8 rfl ((A0D _)) rfl rfl ?_
 (refine I3 (D0 rfl rfl rfl (by omega) (by unfold maxLen; omega) rfl) rfl ?_; rintro _ ⟨b86, rfl⟩)
 refine B7 ?_
 (refine F0 (by repeat (first | exact Pk.here | apply Pk.there)) (fun G5 hle5 hsl5 hno5 => ?_))
 refine B4 ?_
 exact B1u
 refine B0 ?_
 refine sB (qE rfl rfl) rfl rfl (fun h101 => ?_) (fun h101 => ?_)
 refine A8 ?_
 refine E8 rfl ((A0D _)) rfl rfl ?_
 refine E8 rfl ((A0D _)) rfl rfl ?_
 (refine I3 (D0 rfl rfl rfl (by omega) (by unfold maxLen; omega) rfl) rfl ?_; rintro _ ⟨b110, rfl⟩)
 refine B7 ?_
 (refine F0 (by repeat (first | exact Pk.here | apply Pk.there)) (fun G5 hle5 hsl5 hno5 => ?_))
 refine B4 ?_
 exact B1u
 refine A8 ?_
 refine sB (qE rfl rfl) rfl rfl (fun h126 => ?_) (fun h126 => ?_)
 refine B0 ?_
 refine E2 E4 rfl ?_
 refine L4 (i := 1) (l' := [ff,tt,ff,ff,ff]) rfl D6 (A5 rfl rfl) rfl (by kernel_rfl) rfl rfl ?_
 refine aL 2 rfl (A5 rfl rfl) rfl ?_
 refine A4 0 ?_
 refine N3 rfl rfl ((A3h _)) rfl rfl rfl ?_
 refine A4 3 ?_
 (refine E5 rfl (D0 rfl rfl rfl (by omega) (by unfold maxLen; omega) rfl) rfl rfl ?_; rintro _ ⟨b138, rfl⟩)
 refine aP 4 rfl (qA rfl) rfl ?_
 refine A3 ?_
 (refine F0 (by repeat (first | exact Pk.here | apply Pk.there)) (fun G5 hle5 hsl5 hno5 => ?_))
 refine B4 ?_
 (exact Y2.mk3 (o9 (by omega)) (hop.2.1 (by omega)) hsl5 (A0t _) (hrt.mono hle5) (hrt.mono hle5))
 refine B5 ?_
 refine sB (qE rfl rfl) rfl rfl (fun h155 => ?_) (fun h155 => ?_)
 refine J3 ?_
 (have hl1 : ts.length = 1 := hop.2.2 (by omega); obtain ⟨b0, o0', q0, d0, hp0, hat0, hre0, hg0⟩ := hsl.kidTy hkl (i := 0) (by omega) (by omega); cases hp0; refine sP (B6 (j := 0) rfl rfl rfl (by omega)) rfl rfl ?_)
 refine sL (A2 rfl rfl (hat0 _) rfl) rfl rfl ?_
 (obtain ⟨ma', mb', hm, hwo⟩ := o11 (by omega) (by omega); refine D9 rfl (A3z 5 ts[0] G _ (.inr rfl) (ha0 (by omega)) hre0) rfl rfl (fun v G1 hle1 hh => ?_); obtain ⟨ma, mca, mb, mcb, rfl, hma, hmb, hma2, hmb2, hpp⟩ := hh; have hpe := hpp _ hm; simp only [Prod.mk.injEq] at hpe; obtain ⟨rfl, rfl⟩ := hpe; obtain ⟨p1, c1, e1, rfl, _⟩ := hma.open; obtain ⟨p2, c2, e2, rfl, _⟩ := hmb.open; have hTwo := A2T 5 _ _ G1 _ _ (.inr rfl) hma2 hmb2 hma hmb)
 refine B4 ?_
 refine sE (A7 rfl) rfl (fun b173 => ?_)
 refine sE (A7 rfl) rfl (fun b174 => ?_)
 refine E0 ?_
 (refine D9 rfl hTwo rfl rfl (fun v G2 hle2 hh => ?_); obtain ⟨mc, rfl, hmr⟩ := hh; obtain ⟨p3, c3, e3, rfl, _⟩ := hmr.open; have hma4 := hma.mono hle2)
 refine B7 ?_
 refine sE (A7 rfl) rfl (fun b188 => ?_)
 refine B5 ?_
 (refine I3 (D0 rfl rfl rfl (by omega) (by unfold maxLen; omega) rfl) rfl ?_; rintro _ ⟨b196, rfl⟩)
 refine B7 ?_
 (refine F0 (by repeat (first | exact Pk.here | apply Pk.there)) (fun G5 hle5 hsl5 hno5 => ?_))
 refine B4 ?_
 (exact Y2.mk1 hwo (hop.2.2 (by omega)) hsl5 (hmr.mono hle5))
 refine B0 ?_
 refine sB (qE rfl rfl) rfl rfl (fun h211 => ?_) (fun h211 => ?_)
 refine B5 ?_
 (have hl1 : ts.length = 1 := hop.2.2 (by omega); obtain ⟨b0, o0', q0, d0, hp0, hat0, hre0, hg0⟩ := hsl.kidTy hkl (i := 0) (by omega) (by omega); cases hp0; refine sP (B6 (j := 0) rfl rfl rfl (by omega)) rfl rfl ?_)
 refine sL (A2 rfl rfl (hat0 _) rfl) rfl rfl ?_
 (obtain ⟨ma', mb', hm, hwo⟩ := o11 (by omega) (by omega); refine D9 rfl (A3z 5 ts[0] G _ (.inr rfl) (ha0 (by omega)) hre0) rfl rfl (fun v G1 hle1 hh => ?_); obtain ⟨ma, mca, mb, mcb, rfl, hma, hmb, hma2, hmb2, hpp⟩ := hh; have hpe := hpp _ hm; simp only [Prod.mk.injEq] at hpe; obtain ⟨rfl, rfl⟩ := hpe; obtain ⟨p1, c1, e1, rfl, _⟩ := hma.open; obtain ⟨p2, c2, e2, rfl, _⟩ := hmb.open; have hTwo := A2T 5 _ _ G1 _ _ (.inr rfl) hma2 hmb2 hma hmb)
 refine B4 ?_
 refine sE (A7 rfl) rfl (fun b226 => ?_)
 refine sE (A7 rfl) rfl (fun b227 => ?_)
 refine E0 ?_
 (refine D9 rfl hTwo rfl rfl (fun v G2 hle2 hh => ?_); obtain ⟨mc, rfl, hmr⟩ := hh; obtain ⟨p3, c3, e3, rfl, _⟩ := hmr.open; have hma4 := hma.mono hle2)
 refine B7 ?_
 refine sE (A7 rfl) rfl (fun b241 => ?_)
 refine B5 ?_
 (refine I3 (D0 rfl rfl rfl (by omega) (by unfold maxLen; omega) rfl) rfl ?_; rintro _ ⟨b249, rfl⟩)
 refine B7 ?_
 (refine F0 (by repeat (first | exact Pk.here | apply Pk.there)) (fun G5 hle5 hsl5 hno5 => ?_))
 refine B4 ?_
 (exact Y2.mk1 hwo (hop.2.2 (by omega)) hsl5 (hmr.mono hle5))
 refine A8 ?_
 refine sB (qE rfl rfl) rfl rfl (fun h265 => ?_) (fun h265 => ?_)
 refine B5 ?_
 (refine I3 (D0 rfl rfl rfl (by omega) (by unfold maxLen; omega) rfl) rfl ?_; rintro _ ⟨b273, rfl⟩)
 refine B7 ?_
 (refine F0 (by repeat (first | exact Pk.here | apply Pk.there)) (fun G5 hle5 hsl5 hno5 => ?_))
 refine B4 ?_
 (exact Y2.mk1 (o13 (by omega)) (hop.2.2 (by omega)) hsl5 (hrt.mono hle5))
 refine I7 ?_
 (exact Y2.mk (o0 (by omega)) rfl hsl.sl hkl)
theorem B1v : ∀ (us : List Tm) (h : List Ty) (l : Int), H4 us h h l = (us, l)
 | [], h, l => by simp [H4]
 | u :: us, [], l => by simp [H4]
 | u :: us, a :: h, l => by simp only [H4, A6x, if_true, B1v us h l]
theorem A5B {us : List Tm} {h w : List Ty} {l : Int} : H4 us h (S1 w h) l = H4 us h w l := by
 unfold S1
 split
 ·rename_i hw; subst hw; rw [B1v, V4]
 ·rfl
theorem B7a {cx : Cx} {k : Int} {nm : ByteArray} {ty : Ty} {h w : List Ty} {t : Ty} (hh : ∀ a ∈ h, H1 a = true) (hw : Wt cx k nm ty h w t) : ∀ a ∈ S1 w h, H1 a = true := by
 intro a ha
 unfold S1 at ha
 split at ha
 ·exact hh a ha
 ·rename_i hne
  obtain ⟨i, hi, rfl⟩ := List.mem_iff_getElem.1 ha
  exact (hw.ok i hi (by rcases hw.len with h1 | h1; exact absurd h1 hne; omega)).2
def B7b (u : Tm) (t : Ty) (l : Int) (G : IM) : IM → Value → List A6 → Prop := K1 fun G' v => ∃ cu ct, v = .tuple ⟨[.agg ⟨cu⟩, .agg ⟨ct⟩, .int .i64 (l + 1)]⟩ ∧ B1 G' u cu ∧ C3 G' t ct
theorem B1w {cx : Cx} : ∀ {ks : List Tm} {l : Int} {us : List Tm} {h : List Ty} {l' : Int}, M0 cx ks l = some (us, h, l') → us.length = ks.length ∧ h.length = ks.length
 | [], l, us, h, l', he => by simp only [M0, Option.some.injEq, Prod.mk.injEq] at he; obtain ⟨rfl, rfl, _⟩ := he; exact ⟨rfl, rfl⟩
 | t :: ts, l, us, h, l', he => by
  rw [M0] at he
  split at he
  ·cases he
  ·split at he
   ·cases he
   ·rename_i hz
    simp only [Option.some.injEq, Prod.mk.injEq] at he
    obtain ⟨rfl, rfl, _⟩ := he
    have := B1w hz
    simp [this.1, this.2]
theorem B7c : ∀ (e : Tm) (d : Int) (cx : Cx) (l0 : Int) (u0 : Tm) (t0 : Ty) (l1 : Int) (G : IM) (p : Option Addr) (n c : Nat) (cells : List Value), M6 cx e l0 = some (u0, t0, l1) → M8 12 14 e d = true → (n : Int) ≤ d → Z8 cx → S9 G cx p n c → B1 G e cells → 0 ≤ l0 → l0 + (D3 e : Int) ≤ 1000000000 →
  Fn Tryz.prog 101 [.slice p n c, .agg ⟨cells⟩, .int .i64 (l0 + 1)] [] G (B7b u0 t0 l1 G) := by
 refine Tm.ind fun k nm num ty fr lb ks ih d cx l0 u0 t0 l1 G p n c cells hel hv hnd hcv hx hr hl0 hlc => ?_
 have hr0 := hr
 have hone := hr.one
 have hT := B1o _ d cx G p n c cells hv hnd hcv hx hr
 obtain ⟨hts1, hts2⟩ := (A3s _ d cx l0 hv hcv).1 u0 t0 l1 hel
 rw [hts1] at hT
 have hsm := A9S _ d hv
 obtain ⟨hv1, hv2, hv3, hv4⟩ := A0P hv
 have hvk := (A1n 12 14 ks _).1 hv4
 have har := (T9.1 hv3).1
 have hop := A3j har
 obtain ⟨hta, hts⟩ := A3k hv3
 have hcvX : Z8 (O0 cx k nm ty) := A38 hcv fun hk => (T9.1 hv3).2.2.2.2.2.1 (.inl hk)
 have hck : D3 (.mk k nm num ty fr lb ks) = E7 ks + 1 := Z1 ..
 rw [hck] at hlc
 rw [M6] at hel
 rcases hEL : M0 (O0 cx k nm ty) ks l0 with _ | ⟨usA, tsA, lA⟩
 ·rw [hEL] at hel; cases hel
 rw [hEL] at hel
 unfold Q7 at hel
 rcases hNT : Y7 cx k nm ty tsA with _ | ⟨w, t9⟩
 ·simp only [hNT] at hel; cases hel
 simp only [hNT, Option.some.injEq, Prod.mk.injEq] at hel
 obtain ⟨hu0, rfl, rfl⟩ := hel
 obtain ⟨hlA1, hlA2⟩ := B1w hEL
 have hmw := (A6X hNT).2
 obtain ⟨_, htv, _⟩ := (B0e ks (fun t ht d' cx' l' h1 h2 => A3s t d' cx' l' h1 h2) (d + 1) _ l0 hv4 hcvX).1 usA tsA lA hEL
 have hcAll := A1s usA tsA w lA
 have hWV : ∀ a ∈ S1 w tsA, H1 a = true := B7a htv (B0S htv (fun hk => (T9.1 hv3).2.2.2.2.2.1 (.inr (.inl hk))) (by rw [hlA2]; exact har) hv2 hmw)
 obtain ⟨tk, tks⟩ := ty
 obtain ⟨fk, fks⟩ := fr
 obtain ⟨pt, ct, pf, cf, q, cq, es, rfl, hk, hnum, hlb, hty, hfr, hsl, hkl⟩ := hr.open9
 have hlen : ks.length ≤ 3 := by have := A1r k; omega
 have hk13 : k = 13 → ks.length = 1 := fun h => hop.2.2 (by omega)
 refine C1 Tryz.func101 rfl Tryz.ntmps101 Tryz.results101 rfl ?_
 intro w0
 refine A3 ?_
 refine sE (C7 rfl rfl) rfl (fun b3 => ?_)
 refine sE (A7 rfl) rfl (fun b4 => ?_)
 refine sE (A7 rfl) rfl (fun b5 => ?_)
 refine B5 ?_
 (refine D9 rfl hT rfl rfl (fun v G1 hle1 hh => ?_); obtain ⟨mt, mc, rfl, hmr, hma, hmu⟩ := hh; obtain rfl := hmu _ rfl; obtain ⟨p1, d1, e1, rfl, _⟩ := hmr.open; have hC := A3e _ G1 _ hsm (hr0.mono hle1))
 refine B7 ?_
 refine sE (A7 rfl) rfl (fun b17 => ?_)
 refine B5 ?_
 (refine D9 rfl hC rfl rfl (fun v G2 hle2 hh => ?_); obtain ⟨cs1, F1, rfl, hs1, hn1⟩ := hh; have hr1 := hs1.R.mono (C5.le G2 G1); obtain ⟨q1, c1, q2, c2, q3, c3, es1, rfl, _, _, _, hty1, hfr1, _, _⟩ := hr1.open9; have hle02 := hle1.trans hle2; replace hx := hx.mono hle02; replace hty := hty.mono hle02; replace hsl := hsl.mono hle02; replace hkl := hkl.mono hle02; replace hmr := hmr.mono hle2; replace hr0 := hr0.mono hle02)
 refine sE (A7 rfl) rfl (fun b26 => ?_)
 refine J1 ?_
 (show J6 _ _ (.region 4 ..) _ _; refine A0k (fun (x : Bool) => ⟨[(30, .bool x), (0, .slice p n c), (2, .int .i64 (l0 + 1)), (4, .pointer (some ⟨b3, 0, none⟩)), (6, .pointer (some ⟨b4, 0, none⟩)), (7, .pointer (some ⟨b5, 0, none⟩)), (9, .pointer (some ⟨b17, 0, none⟩)), (11, .pointer (some ⟨b26, 0, none⟩))], [.blk b26 [.int .i64 k, .string nm, .int .i64 num, .int .i64 tk, .slice q1 tks.length c1, .int .i64 fk, .slice q2 fks.length c2, .int .i64 lb, .slice none 0 0], .blk b17 [.int .i64 t9.k, .slice p1 t9.ks.length d1], .blk b5 [.int .i64 0, .slice none 0 0], .blk b4 [.int .i64 0, .string ⟨⟨[]⟩⟩, .int .i64 0, .int .i64 0, .slice none 0 0, .int .i64 0, .slice none 0 0, .int .i64 0, .slice none 0 0], .blk b3 [.int .i64 k, .string nm, .int .i64 num, .int .i64 tk, .slice pt tks.length ct, .int .i64 fk, .slice pf fks.length cf, .int .i64 lb, .slice q ks.length cq]], G2⟩) (fun x => x = true ↔ k = 5) ?_ ?_)
 ·refine B7 ?_
  refine sB (qE rfl rfl) rfl rfl (fun h42 => ?_) (fun h42 => ?_)
  ·refine sD ?_
   refine P8 true (K2 (by repeat (first | exact D8.nil | refine D8.cons rfl ?_)) (by repeat (first | exact A0.refl | exact A0.nil | refine A0.cons (by repeat (first | exact Pk.here | apply Pk.there)) ?_ | apply A0.drop))) ⟨fun _ => (by omega), fun _ => rfl⟩
  ·refine sD ?_
   refine P8 false (K2 (by repeat (first | exact D8.nil | refine D8.cons rfl ?_)) (by repeat (first | exact A0.refl | exact A0.nil | refine A0.cons (by repeat (first | exact Pk.here | apply Pk.there)) ?_ | apply A0.drop))) ⟨fun h => (by cases h), fun _ => (by omega)⟩
 ·(rintro (x : Bool) hx5)
  (show J6 _ _ (.cond (.tmp 30) _ _) _ _; refine A0k (fun (x : Option Addr × Nat × Nat × IM) => ⟨[(0, .slice x.1 x.2.1 x.2.2.1), (2, .int .i64 (l0 + 1)), (4, .pointer (some ⟨b3, 0, none⟩)), (6, .pointer (some ⟨b4, 0, none⟩)), (7, .pointer (some ⟨b5, 0, none⟩)), (9, .pointer (some ⟨b17, 0, none⟩)), (11, .pointer (some ⟨b26, 0, none⟩))], [.blk b26 [.int .i64 k, .string nm, .int .i64 num, .int .i64 tk, .slice q1 tks.length c1, .int .i64 fk, .slice q2 fks.length c2, .int .i64 lb, .slice none 0 0], .blk b17 [.int .i64 t9.k, .slice p1 t9.ks.length d1], .blk b5 [.int .i64 0, .slice none 0 0], .blk b4 [.int .i64 0, .string ⟨⟨[]⟩⟩, .int .i64 0, .int .i64 0, .slice none 0 0, .int .i64 0, .slice none 0 0, .int .i64 0, .slice none 0 0], .blk b3 [.int .i64 k, .string nm, .int .i64 num, .int .i64 tk, .slice pt tks.length ct, .int .i64 fk, .slice pf fks.length cf, .int .i64 lb, .slice q ks.length cq]], x.2.2.2⟩) (fun x => C2 G2 x.2.2.2 ∧ S9 x.2.2.2 (O0 cx k nm (.mk tk tks)) x.1 x.2.1 x.2.2.1 ∧ (x.2.1 : Int) ≤ d + 1) (A3G rfl (fun hxt => ?_) (fun hxf => ?_)) ?_)
  ·refine A8 ?_
   (refine D9 rfl (B1k G2 cx p n c nm (.mk tk tks) _ hx (by omega) hty) rfl rfl (fun v G3 hle3 hh => ?_); obtain ⟨pm0, cm0, rfl, hxm⟩ := hh)
   refine A3 ?_
   refine P8 (pm0, n + 1, cm0, G3) (K2 (by repeat (first | exact D8.nil | refine D8.cons rfl ?_)) (by repeat (first | exact A0.refl | exact A0.nil | refine A0.cons (by repeat (first | exact Pk.here | apply Pk.there)) ?_ | apply A0.drop))) ?_
   (dsimp only; exact ⟨hle3, by rw [O0, if_pos (hx5.1 (by assumption))]; exact hxm, by omega⟩)
  ·refine tK ?_
   refine P8 (p, n, c, G2) (K2 (by repeat (first | exact D8.nil | refine D8.cons rfl ?_)) (by repeat (first | exact A0.refl | exact A0.nil | refine A0.cons (by repeat (first | exact Pk.here | apply Pk.there)) ?_ | apply A0.drop))) ?_
   (dsimp only; exact ⟨C2.refl _, by rw [O0, if_neg (fun h => by have := hx5.2 h; rw [this] at hxf; cases hxf)]; exact hx, by omega⟩)
  ·(rintro ⟨(px : Option Addr), nx, cxx, Gx⟩ ⟨hleX, hxX, hnX⟩; simp only [] at hleX hxX hnX ⊢; replace hty1 := hty1.mono hleX; replace hfr1 := hfr1.mono hleX; replace hsl := hsl.mono hleX; replace hkl := hkl.mono hleX; replace hmr := hmr.mono hleX; replace hr0 := hr0.mono hleX)
   refine A3 ?_
   (refine I3 (D0 rfl rfl rfl (by omega) (by unfold maxLen; omega) rfl) rfl ?_; rintro _ ⟨b66, rfl⟩)
   refine E0 ?_
   refine C0 ?_
   (refine Q9 37 9 ?_; refine J0 (fun (x : Nat × (Option Addr × Nat × List Tm × List (List Value)) × (Option Addr × Nat × List Ty × List (List Value)) × Int × IM) => ⟨[(13, .int .i64 x.1), (12, .slice x.2.2.1.1 x.1 x.2.2.1.2.1), (0, .slice px nx cxx), (2, .int .i64 (x.2.2.2.1 + 1)), (4, .pointer (some ⟨b3, 0, none⟩)), (6, .pointer (some ⟨b4, 0, none⟩)), (7, .pointer (some ⟨b5, 0, none⟩)), (9, .pointer (some ⟨b17, 0, none⟩)), (11, .pointer (some ⟨b26, 0, none⟩))], [.blk b26 [.int .i64 k, .string nm, .int .i64 num, .int .i64 tk, .slice q1 tks.length c1, .int .i64 fk, .slice q2 fks.length c2, .int .i64 lb, .slice x.2.1.1 x.1 x.2.1.2.1], .slc x.2.1.1 x.2.1.2.1 37 9 x.1 x.2.1.2.2.2.flatten, .slc x.2.2.1.1 x.2.2.1.2.1 34 2 x.1 x.2.2.1.2.2.2.flatten, .blk b17 [.int .i64 t9.k, .slice p1 t9.ks.length d1], .blk b5 [.int .i64 0, .slice none 0 0], .blk b4 [.int .i64 0, .string ⟨⟨[]⟩⟩, .int .i64 0, .int .i64 0, .slice none 0 0, .int .i64 0, .slice none 0 0, .int .i64 0, .slice none 0 0], .blk b3 [.int .i64 k, .string nm, .int .i64 num, .int .i64 tk, .slice pt tks.length ct, .int .i64 fk, .slice pf fks.length cf, .int .i64 lb, .slice q ks.length cq]], x.2.2.2.2⟩) (fun x => x.1 ≤ ks.length ∧ C2 Gx x.2.2.2.2 ∧ x.2.1.2.2.1.length = x.1 ∧ E1 x.2.2.2.2 x.2.1.2.2.1 x.2.1.2.2.2 ∧ x.2.2.1.2.2.1.length = x.1 ∧ C9 x.2.2.2.2 x.2.2.1.2.2.1 x.2.2.1.2.2.2 ∧ M0 (O0 cx k nm (.mk tk tks)) (ks.take x.1) l0 = some (x.2.1.2.2.1, x.2.2.1.2.2.1, x.2.2.2.1) ∧ l0 ≤ x.2.2.2.1 ∧ x.2.2.2.1 + x.1 ≤ l0 + (E7 (ks.take x.1) : Int)) (fun x => ks.length - x.1) (0, (none, 0, [], []), (some ⟨b66, 0, none⟩, 0, [], []), l0, Gx) ?_ ?_ ?_)
   ·(simp only [List.take_zero, V4]; exact (K2 (by repeat (first | exact D8.nil | refine D8.cons rfl ?_)) (by repeat (first | exact A0.refl | exact A0.nil | refine A0.cons (by repeat (first | exact Pk.here | apply Pk.there)) ?_ | apply A0.drop))))
   ·(exact ⟨by simp, C2.refl _, rfl, by simp [E1], rfl, by simp [C9], by simp [M0], Int.le_refl _, by simp [E7]⟩)
   ·(rintro ⟨i, ⟨pn, cn, us, es'⟩, ⟨pm, cm, ts, ess⟩, l, Gi⟩ ⟨hi, hle, hlu, hst, hlt, hstt, hml, hl1, hl2⟩; simp only [] at hi hle hlu hst hlt hstt hml hl1 hl2 ⊢; replace hty1 := hty1.mono hle; replace hfr1 := hfr1.mono hle; replace hsl := hsl.mono hle; replace hkl := hkl.mono hle; replace hmr := hmr.mono hle; replace hr0 := hr0.mono hle; replace hxX := hxX.mono hle)
    refine B5 ?_
    refine sB (I8 rfl rfl) rfl rfl (fun h88 => ?_) (fun h88 => ?_)
    ·refine A8 ?_
     refine C0 ?_
     refine A8 ?_
     (obtain ⟨b, o, e, rfl, hl, hate, hre, hgb⟩ := hsl.kidTm hkl (i := i) (by omega) (by omega); have hsc := A0M (ks := ks) (i := i) (by omega); have hsk := A0L (ks := ks) (i := i) (by omega); rcases hE : M6 (O0 cx k nm (Ty.mk tk tks)) ks[i] l with _ | ⟨u, t, l3⟩; (have hno := A61 (by omega) hml hE; rw [hEL] at hno; cases hno); have hlm := A7j.el_mono _ _ _ _ _ _ hE; have hlx := B0U ks[i] (d + 1) _ l u t l3 (hvk i (by omega)) hE; refine sP (B6 rfl rfl rfl (by omega)) rfl rfl ?_)
     refine sL (A2 rfl rfl (hate _) hl) rfl rfl ?_
     refine E3 ?_
     (refine D9 rfl (ih ks[i] (List.getElem_mem (by omega)) (d + 1) _ l u t l3 Gi px nx cxx _ hE (hvk i (by omega)) (by omega) hcvX hxX hre (by omega) (by omega)) rfl rfl (fun v G3 hle3 hh => ?_); obtain ⟨uc, tc, rfl, hru, hrt⟩ := hh; obtain ⟨v1, v2, v3, v4, v5, v6, v7, v8, v9, rfl⟩ := nine hru.len; obtain ⟨p3, c3, e3, rfl, _⟩ := hrt.open; have hlu9 := hru.len; have hou9 := hru.one)
     refine B4 ?_
     refine sE (A7 rfl) rfl (fun b110 => ?_)
     refine sE (A7 rfl) rfl (fun b111 => ?_)
     refine sS rfl rfl rfl hlu9 hou9 rfl ?_ (hu := by exact D4 hlu9.symm)
     refine E0 ?_
     (refine I3 (D0 rfl rfl rfl (by omega) (by unfold maxLen; omega) rfl) rfl ?_; rintro _ ⟨b122, rfl⟩)
     refine Y5 rfl rfl rfl rfl rfl (fun _ _ => by repeat (first | exact Sw.here | apply Sw.there)) (M1 (by repeat first | exact mH | apply mT)) rfl (fun u hu => List.all_eq_true.1 hou9 u hu) (by unfold maxLen; omega) (by omega) rfl (fun pn' cn' => ?_)
     refine D1 ?_
     (refine I3 (D0 rfl rfl rfl (by omega) (by unfold maxLen; omega) rfl) rfl ?_; rintro _ ⟨b132, rfl⟩)
     refine Y5 rfl rfl rfl rfl rfl (fun _ _ => by repeat (first | exact Sw.here | apply Sw.there)) (M1 (by repeat first | exact mH | apply mT)) rfl (by simp [Value.oneCell']) (by unfold maxLen; omega) (by omega) rfl (fun pm' cm' => ?_)
     refine J1 ?_
     refine sP (H5 rfl rfl (by omega) (by omega)) rfl rfl ?_
     refine A3 ?_
     refine I1 (i + 1, (pn', cn', us ++ [u], es' ++ [[v1, v2, v3, v4, v5, v6, v7, v8, v9]]), (pm', cm', ts ++ [t], ess ++ [[.int .i64 t.k, .slice p3 t.ks.length c3]]), l3, G3) ?_ ?_ ?_
     ·(simp only [H6]; exact D2)
     ·(dsimp only; exact ⟨by omega, hle.trans hle3, by simp [hlu], E1.snoc (hst.mono hle3) hru, by simp [hlt], C9.snoc (hstt.mono hle3) hrt, A39 (by omega) hml hE, by omega, by omega⟩)
     ·(show ks.length - (i + 1) < ks.length - i; omega)
    ·refine J7 ?_
     (obtain rfl : i = ks.length := (by omega); rw [List.take_length] at hml hl2; rw [hEL] at hml; simp only [Option.some.injEq, Prod.mk.injEq] at hml; obtain ⟨rfl, rfl, rfl⟩ := hml; refine R9 (cs := ess.flatten) (by repeat (first | exact Pk.here | apply Pk.there)) (fun G4 hle4 hsl4 hno4 => ?_); have hstt4 := hstt.mono hle4; have hslT : D7 G4 pm ks.length cm 2 ess := D7.of hsl4 (by rw [hstt4.len, hlt]) hstt4.all (fun e he => (hstt4.each e he).2); have hW := B69 cx k nm num (.mk tk tks) (.mk fk fks) lb ks _ w _ G4 _ _ pm cm ess hmw hv2 (by rw [hlt]; exact har) (hr0.mono hle4) (by rw [hlt]; exact hslT) hstt4 (fun t ht => A2i (htv t ht)) (hmr.mono hle4); rw [hlt] at hW; refine D9 rfl hW rfl rfl (fun v G5 hle5 hh => ?_); obtain ⟨pw, cw, esw, rfl, hlw, hsw, hstw⟩ := hh; have hle45 := hle4.trans hle5; replace hty1 := hty1.mono hle45; replace hfr1 := hfr1.mono hle45; replace hmr := hmr.mono hle45; replace hst := hst.mono hle45; replace hslT := hslT.mono hle5; replace hstt := hstt.mono hle45; rcases Nat.eq_zero_or_pos ks.length with h0 | h0)
     ·refine E0 ?_
      refine C0 ?_
      (have h0' : ks.length = 0 := h0; refine J0 (fun (_ : Nat) => ⟨[(18, .int .i64 0), (17, .slice pw ks.length cw), (12, .slice pm ks.length cm), (2, .int .i64 (lA + 1)), (4, .pointer (some ⟨b3, 0, none⟩)), (6, .pointer (some ⟨b4, 0, none⟩)), (7, .pointer (some ⟨b5, 0, none⟩)), (9, .pointer (some ⟨b17, 0, none⟩)), (11, .pointer (some ⟨b26, 0, none⟩))], [.blk b26 [.int .i64 k, .string nm, .int .i64 num, .int .i64 tk, .slice q1 tks.length c1, .int .i64 fk, .slice q2 fks.length c2, .int .i64 lb, .slice pn ks.length cn], .slc pn cn 37 9 ks.length es'.flatten, .blk b17 [.int .i64 t9.k, .slice p1 t9.ks.length d1], .blk b5 [.int .i64 0, .slice none 0 0], .blk b4 [.int .i64 0, .string ⟨⟨[]⟩⟩, .int .i64 0, .int .i64 0, .slice none 0 0, .int .i64 0, .slice none 0 0, .int .i64 0, .slice none 0 0], .blk b3 [.int .i64 k, .string nm, .int .i64 num, .int .i64 tk, .slice pt tks.length ct, .int .i64 fk, .slice pf fks.length cf, .int .i64 lb, .slice q ks.length cq]], G5⟩) (fun _ => True) (fun i => i) 0 ?_ ?_ ?_)
      ·exact D2
      ·trivial
      ·(rintro (i0 : Nat) _)
       refine A8 ?_
       refine sP (A1I rfl rfl (by omega)) rfl rfl ?_
       refine J7 ?_
       refine sP (J8 rfl rfl (by omega)) rfl rfl ?_
       refine A8 ?_
       refine E2 E4 rfl ?_
       refine L4 (i := 0) (l' := [tt,ff,ff,ff,ff,ff]) rfl D6 (A5 rfl rfl) rfl (by kernel_rfl) rfl rfl ?_
       refine aL 1 rfl (A5 rfl rfl) rfl ?_
       refine aP 2 rfl (qM rfl) rfl ?_
       refine A4 3 ?_
       refine oS rfl rfl rfl rfl rfl rfl rfl rfl ?_
       refine A4 4 ?_
       refine oS rfl rfl rfl rfl rfl rfl rfl rfl ?_
       refine aP 5 rfl (qA rfl) rfl ?_
       refine A3 ?_
       (refine F0 (cs := es'.flatten) (by repeat (first | exact Pk.here | apply Pk.there)) (fun G8 hle8 hsl8 hno8 => ?_); have hst8 := hst.mono hle8)
       refine tT ?_
       refine D5 (rC rfl (A5 rfl rfl)) (rC rfl (A5 rfl rfl)) (rT rfl) ?_
       (have hu9 : usA = [] := List.length_eq_zero_iff.1 (by omega); have hne : k ≠ 13 := (fun h => by have := hk13 h; omega); have hz : H4 usA tsA w lA = (usA, lA) := (by rw [hu9]; simp [H4]); rw [if_neg hne, hz] at hu0; subst hu0; rw [hz]; exact ⟨rfl, _, _, rfl, B1.put hk hnum hlb (hty1.mono hle8) (hfr1.mono hle8) hlA1.symm (D7.of hsl8 (by rw [hst8.len, hlA1]) hst8.all (fun e he => (hst8.each e he).2)) hst8, hmr.mono hle8⟩)
     ·(refine A34 (cs := es'.flatten) (by repeat (first | exact Pk.here | apply Pk.there)) h0 (fun bc C hpe hnc hcm => ?_); subst hpe; refine sQ (qA rfl) rfl ?_)
      refine D1 ?_
      refine C0 ?_
      (have hLoop2 := hlw; refine J0 (fun (x : Nat × List (List Value) × IM) => ⟨[(18, .int .i64 x.1), (17, .slice pw ks.length cw), (12, .slice pm ks.length cm), (2, .int .i64 ((H4 usA tsA ((S1 w tsA).take x.1) lA).2 + 1)), (4, .pointer (some ⟨b3, 0, none⟩)), (6, .pointer (some ⟨b4, 0, none⟩)), (7, .pointer (some ⟨b5, 0, none⟩)), (9, .pointer (some ⟨b17, 0, none⟩)), (11, .pointer (some ⟨b26, 0, none⟩))], [.blk b26 [.int .i64 k, .string nm, .int .i64 num, .int .i64 tk, .slice q1 tks.length c1, .int .i64 fk, .slice q2 fks.length c2, .int .i64 lb, .slice (some ⟨bc, 0, none⟩) ks.length cn], .blk bc (x.2.1.flatten ++ C), .blk b17 [.int .i64 t9.k, .slice p1 t9.ks.length d1], .blk b5 [.int .i64 0, .slice none 0 0], .blk b4 [.int .i64 0, .string ⟨⟨[]⟩⟩, .int .i64 0, .int .i64 0, .slice none 0 0, .int .i64 0, .slice none 0 0, .int .i64 0, .slice none 0 0], .blk b3 [.int .i64 k, .string nm, .int .i64 num, .int .i64 tk, .slice pt tks.length ct, .int .i64 fk, .slice pf fks.length cf, .int .i64 lb, .slice q ks.length cq]], x.2.2⟩) (fun x => x.1 ≤ ks.length ∧ C2 G5 x.2.2 ∧ E1 x.2.2 (H4 usA tsA ((S1 w tsA).take x.1) lA).1 x.2.1) (fun x => ks.length - x.1) (0, es', G5) ?_ ?_ ?_)
      ·(simp only [List.take_zero, V4]; exact (K2 (by repeat (first | exact D8.nil | refine D8.cons rfl ?_)) (by repeat (first | exact A0.refl | exact A0.nil | refine A0.cons (by repeat (first | exact Pk.here | apply Pk.there)) ?_ | apply A0.drop))))
      ·(exact ⟨Nat.zero_le _, C2.refl _, by simp only [List.take_zero, V4]; exact hst⟩)
      ·(rintro ⟨j, es2, G6⟩ ⟨hj, hle6, hst2⟩; simp only [] at hj hle6 hst2 ⊢; replace hty1 := hty1.mono hle6; replace hfr1 := hfr1.mono hle6; replace hmr := hmr.mono hle6; replace hslT := hslT.mono hle6; replace hstt := hstt.mono hle6; replace hsw := hsw.mono hle6; replace hstw := hstw.mono hle6; have hle2s := hst2.len; rw [A1W] at hle2s; have hall2 := hst2.all)
       refine A8 ?_
       refine sB (I8 rfl rfl) rfl rfl (fun h242 => ?_) (fun h242 => ?_)
       ·refine A8 ?_
        refine C0 ?_
        (have hjw : j < (S1 w tsA).length := (by omega); obtain ⟨bt, ot, qt, dt, hpt, hatt, hrtt, hgt⟩ := hslT.kidTy hstt (i := j) (by omega) (by omega); obtain ⟨bw, ow, qw, dw, hpw, hatw, hrtw, hgw⟩ := (show D7 G6 pw (S1 w tsA).length cw 2 esw from by rw [hlw]; exact hsw).kidTy hstw (i := j) (by omega) (by omega); cases hpt; cases hpw; obtain ⟨m1, m2, _⟩ := A4a usA tsA (S1 w tsA) lA j hjw (by omega) (by omega); obtain ⟨m3, m4⟩ := B0j (us := usA) (h := tsA) (w := S1 w tsA) (l := lA) hjw (by omega) (by omega); obtain ⟨hE1, hE2⟩ := hst2.at2 (i := j) (by omega) (by omega); rw [m2] at hE2; have hE3 := hE2.len; have hcj := A1s usA tsA ((S1 w tsA).take j) lA; refine E2 E4 rfl ?_)
        refine J4 (i := 0) (l' := [tt,ff,ff,ff,ff,ff,ff,ff,ff,ff,ff,ff,ff,ff,ff,ff,ff,ff,ff,ff,ff,ff,ff,ff]) rfl D6 (B9 rfl) rfl (by kernel_rfl) rfl rfl ?_
        refine aL 1 rfl (C8 rfl rfl) rfl ?_
        refine aP 2 rfl (qM rfl) rfl ?_
        refine aP 3 rfl (B9 rfl) rfl ?_
        refine aL 4 rfl (C8 rfl rfl) rfl ?_
        refine aP 5 rfl (qM rfl) rfl ?_
        refine aP 6 rfl (B6 (j := j) rfl rfl rfl (by omega)) rfl ?_
        refine aL 7 rfl (A2 rfl rfl (A44 (es := es2) (by repeat first | exact mH | apply mT) (by omega) hall2) hE3) rfl ?_
        refine aP 8 rfl (qM rfl) rfl ?_
        refine aP 9 rfl (qM rfl) rfl ?_
        refine aP 10 rfl (B6 (j := j) rfl rfl rfl (by omega)) rfl ?_
        refine aL 11 rfl (A2 rfl rfl (hatt _) rfl) rfl ?_
        refine aP 12 rfl (qM rfl) rfl ?_
        refine aP 13 rfl (qM rfl) rfl ?_
        refine aP 14 rfl (B6 (j := j) rfl rfl rfl (by omega)) rfl ?_
        refine aL 15 rfl (A2 rfl rfl (hatw _) rfl) rfl ?_
        refine aP 16 rfl (qM rfl) rfl ?_
        refine A4 17 ?_
        (have hwsm := (A2i (hWV _ (List.getElem_mem (show j < (S1 w tsA).length by omega)))).small; refine H7 rfl rfl (B65 usA[j] tsA[j] (S1 w tsA)[j] _ _ _ _ _ (by omega) hE2 hrtt hrtw (A2i (htv _ (List.getElem_mem (by omega)))).small hwsm) rfl rfl rfl (fun v G7 hle7 hh => ?_); obtain ⟨uc, rfl, hru⟩ := hh; rw [show (if M5 tsA[j] (S1 w tsA)[j] = true then (H4 usA tsA ((S1 w tsA).take j) lA).2 + 1 else (H4 usA tsA ((S1 w tsA).take j) lA).2 + 1 + 1) = (H4 usA tsA ((S1 w tsA).take (j + 1)) lA).2 + 1 from by rw [m4]; split <;> rfl]; have hlu9 := hru.len; have hou9 := hru.one)
        refine aP 18 rfl (qM rfl) rfl ?_
        refine aP 19 rfl (pX rfl rfl) rfl ?_
        refine aP 21 rfl (B6 (j := j) rfl rfl rfl (by omega)) rfl ?_
        refine aP 20 rfl (pX rfl rfl) rfl ?_
        refine A4 22 ?_
        refine R5 rfl rfl rfl rfl hlu9 hou9 rfl rfl (by kernel_rfl) (by repeat first | exact Sw.here | apply Sw.there) (by exact A35 (by omega) hall2 hlu9) ?_
        refine aP 23 rfl (qA rfl) rfl ?_
        refine B0 ?_
        refine sP (H5 rfl rfl (by omega) (by omega)) rfl rfl ?_
        refine A3 ?_
        refine I1 (j + 1, es2.set j uc, G7) ?_ ?_ ?_
        ·(simp only [List.take_zero, V4]; exact (K2 (by repeat (first | exact D8.nil | refine D8.cons rfl ?_)) (by repeat (first | exact A0.refl | exact A0.nil | refine A0.cons (by repeat (first | exact Pk.here | apply Pk.there)) ?_ | apply A0.drop))))
        ·(dsimp only; exact ⟨by omega, hle6.trans hle7, by rw [m3]; exact E1.set (hst2.mono hle7) hru⟩)
        ·(show ks.length - (j + 1) < ks.length - j; omega)
       ·refine J7 ?_
        refine sB (qE rfl rfl) rfl rfl (fun h302 => ?_) (fun h302 => ?_)
        ·refine B4 ?_
         (have hq13 : k = 13 := (by omega); have hl13 := hk13 hq13; have hjw : j = (S1 w tsA).length := (by omega); rw [hjw, List.take_length, A5B] at hst2; have hm0 := A1W usA tsA w lA; obtain ⟨hE1, hE2⟩ := hst2.at2 (i := 0) (by omega) (by omega); have hE3 := hE2.len; have hE4 := hE2.one; refine E2 E4 rfl ?_)
         refine J4 (i := 0) (l' := [tt,ff,ff,ff,ff,ff,ff,ff,ff]) rfl D6 (B9 rfl) rfl (by kernel_rfl) rfl rfl ?_
         refine aL 1 rfl (C8 rfl rfl) rfl ?_
         refine aP 2 rfl (B6 (j := 0) rfl rfl rfl (by omega)) rfl ?_
         refine aL 3 rfl (A2 rfl rfl (A44 (es := es2) (by repeat first | exact mH | apply mT) (by omega) hall2) hE3) rfl ?_
         refine aL 4 rfl (A5 rfl rfl) rfl ?_
         refine aP 5 rfl (qM rfl) rfl ?_
         refine A4 6 ?_
         refine oS rfl rfl rfl rfl hE3 hE4 rfl rfl ?_ (hu := by exact D4 hE3.symm)
         refine A4 7 ?_
         refine oS rfl rfl rfl rfl rfl rfl rfl rfl ?_
         refine aP 8 rfl (qA rfl) rfl ?_
         refine A3 ?_
         (refine A2v (bs := [(bc, es2.flatten ++ C)]) (Pk.perm (by repeat (first | exact Pk.here | apply Pk.there))) (fun hn9 hd9 hle9 => ?_))
         refine A3 ?_
         refine D5 (rC rfl (A2 rfl rfl (A9 (by repeat first | exact mH | apply mT)) hE3)) (rC rfl (A5 rfl rfl)) (rT rfl) ?_
         (rw [if_pos hq13, B05 (by omega)] at hu0; subst hu0; rw [hjw, List.take_length, A5B]; exact ⟨rfl, _, _, rfl, hE2.mono hle9, hmr.mono hle9⟩)
        ·refine A8 ?_
         refine E2 E4 rfl ?_
         refine L4 (i := 0) (l' := [tt,ff,ff,ff,ff,ff]) rfl D6 (A5 rfl rfl) rfl (by kernel_rfl) rfl rfl ?_
         refine aL 1 rfl (A5 rfl rfl) rfl ?_
         refine aP 2 rfl (qM rfl) rfl ?_
         refine A4 3 ?_
         refine oS rfl rfl rfl rfl rfl rfl rfl rfl ?_
         refine A4 4 ?_
         refine oS rfl rfl rfl rfl rfl rfl rfl rfl ?_
         refine aP 5 rfl (qA rfl) rfl ?_
         refine A3 ?_
         (refine A2v (bs := [(bc, es2.flatten ++ C)]) (Pk.perm (by repeat (first | exact Pk.here | apply Pk.there))) (fun hn9 hd9 hle9 => ?_))
         refine tT ?_
         refine D5 (rC rfl (A5 rfl rfl)) (rC rfl (A5 rfl rfl)) (rT rfl) ?_
         (have hjw : j = (S1 w tsA).length := (by omega); rw [hjw, List.take_length, A5B] at hst2; have hst9 := hst2.mono hle9; have hm0 := A1W usA tsA w lA; rw [if_neg (by omega)] at hu0; subst hu0; rw [hjw, List.take_length, A5B]; exact ⟨rfl, _, _, rfl, B1.put hk hnum hlb (hty1.mono hle9) (hfr1.mono hle9) (by rw [hm0, hlA1]) (D7.of (Sl.of_blk (A := []) (by rw [A09 hst9.all, hst9.len, hm0, hlA1]) (by omega) hcm (Wi.in hn9 List.mem_cons_self)) (by rw [hst9.len, hm0, hlA1]) hst9.all (fun e he => (hst9.each e he).2)) hst9, hmr.mono hle9⟩)
theorem B7d (e : Tm) (G : IM) (cells : List Value) (hcnt : D3 e ≤ 4294967296) (hr : B1 G e cells) : Fn Tryz.prog 55 [.agg ⟨cells⟩] [] G (A1i (U4 e)) := by
 have hl := hr.len
 have hone := hr.one
 refine C1 Tryz.func55 rfl Tryz.ntmps55 Tryz.results55 rfl ?_
 intro w0
 refine A3 ?_
 refine sE (C7 rfl rfl) rfl (fun b3 => ?_)
 refine sE (A7 rfl) rfl (fun b4 => ?_)
 refine sE (A7 rfl) rfl (fun b5 => ?_)
 refine B0 ?_
 refine sL (A2 rfl rfl (A9 (by repeat first | exact mH | apply mT)) (by assumption)) rfl rfl ?_
 focus (refine D9 rfl (A7H e _ _ (by omega) hr) rfl rfl (fun v G1 hle1 hh => ?_); obtain ⟨mc, mt, rfl, hmr, hmu⟩ := hh; obtain ⟨pt, ct, et, rfl, _⟩ := hmr.open; obtain ⟨r, hI⟩ : ∃ r, U4 e = r := ⟨_, rfl⟩; rcases r with _ | ⟨u, t⟩; (have hto : Q3 e = none := by unfold Q3; rw [hI]); rotate_left; (have hto : Q3 e = some t := by unfold Q3; rw [hI]); obtain ⟨hv, l3, hE⟩ := B60 hI; obtain ⟨hv1, hv2⟩ := (A0C e).1 hv; rotate_left; all_goals rw [hto]; all_goals simp only [Option.isSome])
 refine B7 ?_
 refine sE (A7 rfl) rfl (fun b16 => ?_)
 refine A06 ?_
 refine D5 (rC rfl (A5 rfl rfl)) (rC rfl (A5 rfl rfl)) (rT rfl) ?_
 (exact A1i.no (by first | exact hI | rfl) (P6 _) (O1 _ ⟨by omega, by omega⟩))
 refine B7 ?_
 refine sE (A7 rfl) rfl (fun b45 => ?_)
 refine K0 ?_
 refine sL (A2 rfl rfl (A9 (by repeat first | exact mH | apply mT)) (by assumption)) rfl rfl ?_
 (have hIn := B7c e 1 [] 0 u t l3 G1 none 0 0 cells hE hv1 (by omega) A3r (S9.nil _) (hr.mono hle1) (by omega) (by omega); refine D9 rfl hIn rfl rfl (fun v G2 hle2 hh => ?_); obtain ⟨cu, tc, rfl, hru, hrt⟩ := hh; obtain ⟨qt, dt, et2, rfl, _⟩ := hrt.open; have hlu := hru.len; have hou := hru.one)
 refine B4 ?_
 refine sE (A7 rfl) rfl (fun b68 => ?_)
 refine sE (A7 rfl) rfl (fun b69 => ?_)
 refine W4 rfl rfl rfl hlu hou rfl (by repeat first | exact Sw.here | apply Sw.there) (by exact D4 (by first | exact hlu.symm | omega)) ?_
 refine B0 ?_
 refine E2 E4 rfl ?_
 refine L4 (i := 0) (l' := [tt,ff,ff,ff,ff]) rfl D6 (A2 rfl rfl (A9 (by repeat first | exact mH | apply mT)) hlu) rfl (by kernel_rfl) rfl rfl ?_
 refine aL 1 rfl (A5 rfl rfl) rfl ?_
 refine A4 2 ?_
 refine oS rfl rfl rfl rfl hlu hou rfl rfl ?_ (hu := by exact D4 hlu.symm)
 refine A4 3 ?_
 refine oS rfl rfl rfl rfl rfl rfl rfl rfl ?_
 refine aP 4 rfl (qA rfl) rfl ?_
 refine B7 ?_
 refine D5 (rC rfl (A2 rfl rfl (A9 (by repeat first | exact mH | apply mT)) hlu)) (rC rfl (A5 rfl rfl)) (rT rfl) ?_
 (exact A1i.yes (by first | exact hI | rfl) hru hrt)
theorem A7J {k : Int} {ty fr ty' fr' : Ty} {lb lb' : Int} {ks : List Tm} (h : k ≠ 14) : N7 k ty fr lb ks = N7 k ty' fr' lb' ks := by
 unfold N7
 rw [if_neg h, if_neg h]
theorem B7e (k : Int) (nm : ByteArray) (num : Int) (ty fr : Ty) (lb : Int) (ks : List Tm) (G : IM) (cells : List Value) (h7 : k = 1 ∨ k = 6 ∨ k = 7 ∨ k = 8 ∨ k = 11 ∨ k = 12 ∨ k = 14) (hc : cv (.mk k nm num ty fr lb ks)) (hr : B1 G (.mk k nm num ty fr lb ks) cells) : Fn Tryz.prog 234 [.agg ⟨cells⟩] [] G (L6 (N7 k ty fr lb ks)) := by
 have hr0 := hr
 obtain ⟨hN, hkk⟩ := hc.node
 have hops := hN.ops
 have hL2 : k = 6 ∨ k = 7 ∨ k = 8 → ∃ a b, ks = [a, b] := fun h => ks2 (by
  rcases h with rfl | rfl | rfl
  ·have : E6 6 = 2 := rfl; omega
  ·have : E6 7 = 2 := rfl; omega
  ·have : E6 8 = 2 := rfl; omega)
 have hL1 : k = 11 ∨ k = 12 ∨ k = 14 → ∃ a, ks = [a] := fun h => ks1 (by
  rcases h with rfl | rfl | rfl
  ·have : E6 11 = 1 := rfl; omega
  ·have : E6 12 = 1 := rfl; omega
  ·have : E6 14 = 1 := rfl; omega)
 have hC : k = 14 → Fn Tryz.prog 251 [.agg ⟨cells⟩] [] G (L6 (N7 k ty fr lb ks)) := by
  rintro rfl
  obtain ⟨a, rfl⟩ := hL1 (by omega)
  exact B6Y a nm num ty fr lb G cells hc hr
 have hA : k = 6 → ∀ a b, ks = [a, b] → N7 k ty fr lb ks = N7 6 B3 B3 0 [a, b] := by rintro rfl a b rfl; exact A7J (by decide)
 have hB : k = 7 ∨ k = 8 → ∀ a b, ks = [a, b] → N7 k ty fr lb ks = N7 k B3 B3 0 [a, b] := by rintro h a b rfl; exact A7J (by omega)
 have hD : k = 11 ∨ k = 12 → ∀ a, ks = [a] → N7 k ty fr lb ks = N7 k B3 B3 0 [a] := by rintro h a rfl; exact A7J (by omega)
 have hO : k = 1 → N7 k ty fr lb ks = R4 := by rintro rfl; rfl
 generalize N7 k ty fr lb ks = R at hC hA hB hD hO ⊢
 obtain ⟨tk, tks⟩ := ty
 obtain ⟨fk, fks⟩ := fr
 obtain ⟨pt, ct, pf, cf, p, c, es, rfl, hk, hnum, hlb, hty, hfr, hsl, hkl⟩ := hr.open9
 refine C1 Tryz.func234 rfl Tryz.ntmps234 Tryz.results234 rfl ?_
 intro w0
 refine A3 ?_
 refine sE (C7 rfl rfl) rfl (fun b3 => ?_)
 refine sE (A7 rfl) rfl (fun b4 => ?_)
 refine J1 ?_
 refine C0 (tS (tR (sB (qE rfl rfl) rfl rfl (fun h19 => ?_) (fun h19 => ?_))))
 refine B0 ?_
 (have hq : k = 6 := (by assumption); obtain ⟨x, y, hxy⟩ := hL2 (by omega); have hAq := hA hq x y hxy; subst hxy; obtain ⟨bx, ox, e0, rfl, hl0, hat0, hre0, hgb0⟩ := hsl.kidTm hkl (i := 0) (by simp) (by simp); obtain ⟨_, _, e1, hp1, hl1, hat1, hre1, hgb1⟩ := hsl.kidTm hkl (i := 1) (by simp) (by simp); cases hp1; have hF := B6X x y G e0 e1 (hkk x (by simp)) (A2F y (hkk y (by simp))) hre0 hre1; rw [← hAq] at hF; refine E2 E4 rfl ?_)
 refine J4 (i := 0) (l' := [tt,ff,ff,ff,ff,ff,ff,ff,ff,ff,ff,ff,ff,ff,ff]) rfl D6 (B9 rfl) rfl (by kernel_rfl) rfl rfl ?_
 refine aL 1 rfl (C8 rfl rfl) rfl ?_
 refine aP 2 rfl (B6 (j := 0) rfl rfl rfl (by simp)) rfl ?_
 refine aL 3 rfl (A2 rfl rfl (hat0 _) hl0) rfl ?_
 refine aP 4 rfl (B9 rfl) rfl ?_
 refine aL 5 rfl (C8 rfl rfl) rfl ?_
 refine aP 6 rfl (B6 (j := 1) rfl rfl rfl (by simp)) rfl ?_
 refine aL 7 rfl (A2 rfl rfl (hat1 _) hl1) rfl ?_
 refine A4 8 ?_
 (refine H7 rfl rfl hF rfl rfl rfl (fun v G1 hle1 hh => ?_); obtain ⟨wc, rfl, hrw⟩ := hh; have hwl := hrw.len; have hwo := hrw.one)
 refine aP 9 rfl (pX rfl rfl) rfl ?_
 refine aP 10 rfl (pX rfl rfl) rfl ?_
 refine aP 11 rfl (pX rfl rfl) rfl ?_
 refine A4 12 ?_
 (refine oS rfl rfl rfl rfl hwl hwo rfl rfl ?_ (hu := by exact D4 hwl.symm))
 refine aP 13 rfl (qA rfl) rfl ?_
 refine aP 14 rfl (qA rfl) rfl ?_
 refine B0 ?_
 refine D5 (rC rfl (A2 rfl rfl (A9 (by repeat first | exact mH | apply mT)) hwl)) (rT rfl) (rT rfl) ?_
 (exact ⟨rfl, _, rfl, hrw⟩)
 refine B5 ?_
 refine sB (qE rfl rfl) rfl rfl (fun h57 => ?_) (fun h57 => ?_)
 refine D1 ?_
 (have hq : k = 7 ∨ k = 8 := (by omega); obtain ⟨x, y, hxy⟩ := hL2 (by omega); have hBq := hB hq x y hxy; subst hxy; obtain ⟨bx, ox, e0, rfl, hl0, hat0, hre0, hgb0⟩ := hsl.kidTm hkl (i := 0) (by simp) (by simp); obtain ⟨_, _, e1, hp1, hl1, hat1, hre1, hgb1⟩ := hsl.kidTm hkl (i := 1) (by simp) (by simp); cases hp1; have hF := B1s k x y G e0 e1 hq (by have := (hkk x (by simp)); cases x; exact this.node.1.num0) (by have := (hkk y (by simp)); cases y; exact this.node.1.num0) hre0 hre1; rw [← hBq] at hF; refine E2 E4 rfl ?_)
 refine J4 (i := 0) (l' := [tt,ff,ff,ff,ff,ff,ff,ff,ff,ff,ff,ff,ff,ff,ff,ff,ff]) rfl D6 (B9 rfl) rfl (by kernel_rfl) rfl rfl ?_
 refine aL 1 rfl (C8 rfl rfl) rfl ?_
 refine aP 2 rfl (B9 rfl) rfl ?_
 refine aL 3 rfl (C8 rfl rfl) rfl ?_
 refine aP 4 rfl (B6 (j := 0) rfl rfl rfl (by simp)) rfl ?_
 refine aL 5 rfl (A2 rfl rfl (hat0 _) hl0) rfl ?_
 refine aP 6 rfl (B9 rfl) rfl ?_
 refine aL 7 rfl (C8 rfl rfl) rfl ?_
 refine aP 8 rfl (B6 (j := 1) rfl rfl rfl (by simp)) rfl ?_
 refine aL 9 rfl (A2 rfl rfl (hat1 _) hl1) rfl ?_
 refine A4 10 ?_
 (refine H7 rfl rfl hF rfl rfl rfl (fun v G1 hle1 hh => ?_); obtain ⟨wc, rfl, hrw⟩ := hh; have hwl := hrw.len; have hwo := hrw.one)
 refine aP 11 rfl (pX rfl rfl) rfl ?_
 refine aP 12 rfl (pX rfl rfl) rfl ?_
 refine aP 13 rfl (pX rfl rfl) rfl ?_
 refine A4 14 ?_
 (refine oS rfl rfl rfl rfl hwl hwo rfl rfl ?_ (hu := by exact D4 hwl.symm))
 refine aP 15 rfl (qA rfl) rfl ?_
 refine aP 16 rfl (qA rfl) rfl ?_
 refine B0 ?_
 refine D5 (rC rfl (A2 rfl rfl (A9 (by repeat first | exact mH | apply mT)) hwl)) (rT rfl) (rT rfl) ?_
 (exact ⟨rfl, _, rfl, hrw⟩)
 refine B0 ?_
 refine sB (qE rfl rfl) rfl rfl (fun h98 => ?_) (fun h98 => ?_)
 refine B0 ?_
 (have hq : k = 7 ∨ k = 8 := (by omega); obtain ⟨x, y, hxy⟩ := hL2 (by omega); have hBq := hB hq x y hxy; subst hxy; obtain ⟨bx, ox, e0, rfl, hl0, hat0, hre0, hgb0⟩ := hsl.kidTm hkl (i := 0) (by simp) (by simp); obtain ⟨_, _, e1, hp1, hl1, hat1, hre1, hgb1⟩ := hsl.kidTm hkl (i := 1) (by simp) (by simp); cases hp1; have hF := B1s k x y G e0 e1 hq (by have := (hkk x (by simp)); cases x; exact this.node.1.num0) (by have := (hkk y (by simp)); cases y; exact this.node.1.num0) hre0 hre1; rw [← hBq] at hF; refine E2 E4 rfl ?_)
 refine J4 (i := 0) (l' := [tt,ff,ff,ff,ff,ff,ff,ff,ff,ff,ff,ff,ff,ff,ff,ff,ff]) rfl D6 (B9 rfl) rfl (by kernel_rfl) rfl rfl ?_
 refine aL 1 rfl (C8 rfl rfl) rfl ?_
 refine aP 2 rfl (B9 rfl) rfl ?_
 refine aL 3 rfl (C8 rfl rfl) rfl ?_
 refine aP 4 rfl (B6 (j := 0) rfl rfl rfl (by simp)) rfl ?_
 refine aL 5 rfl (A2 rfl rfl (hat0 _) hl0) rfl ?_
 refine aP 6 rfl (B9 rfl) rfl ?_
 refine aL 7 rfl (C8 rfl rfl) rfl ?_
 refine aP 8 rfl (B6 (j := 1) rfl rfl rfl (by simp)) rfl ?_
 refine aL 9 rfl (A2 rfl rfl (hat1 _) hl1) rfl ?_
 refine A4 10 ?_
 (refine H7 rfl rfl hF rfl rfl rfl (fun v G1 hle1 hh => ?_); obtain ⟨wc, rfl, hrw⟩ := hh; have hwl := hrw.len; have hwo := hrw.one)
 refine aP 11 rfl (pX rfl rfl) rfl ?_
 refine aP 12 rfl (pX rfl rfl) rfl ?_
 refine aP 13 rfl (pX rfl rfl) rfl ?_
 refine A4 14 ?_
 (refine oS rfl rfl rfl rfl hwl hwo rfl rfl ?_ (hu := by exact D4 hwl.symm))
 refine aP 15 rfl (qA rfl) rfl ?_
 refine aP 16 rfl (qA rfl) rfl ?_
 refine B0 ?_
 refine D5 (rC rfl (A2 rfl rfl (A9 (by repeat first | exact mH | apply mT)) hwl)) (rT rfl) (rT rfl) ?_
 (exact ⟨rfl, _, rfl, hrw⟩)
 refine B5 ?_
 refine sB (qE rfl rfl) rfl rfl (fun h138 => ?_) (fun h138 => ?_)
 refine D1 ?_
 (have hq : k = 11 ∨ k = 12 := (by omega); obtain ⟨x, hxy⟩ := hL1 (by omega); have hDq := hD hq x hxy; subst hxy; obtain ⟨bx, ox, e0, rfl, hl0, hat0, hre0, hgb0⟩ := hsl.kidTm hkl (i := 0) (by simp) (by simp); have hF := B1t k x G e0 hq (hkk x (by simp)) hre0; rw [← hDq] at hF; refine E2 E4 rfl ?_)
 refine J4 (i := 0) (l' := [tt,ff,ff,ff,ff,ff,ff,ff,ff,ff,ff,ff,ff]) rfl D6 (B9 rfl) rfl (by kernel_rfl) rfl rfl ?_
 refine aL 1 rfl (C8 rfl rfl) rfl ?_
 refine aP 2 rfl (B9 rfl) rfl ?_
 refine aL 3 rfl (C8 rfl rfl) rfl ?_
 refine aP 4 rfl (B6 (j := 0) rfl rfl rfl (by simp)) rfl ?_
 refine aL 5 rfl (A2 rfl rfl (hat0 _) hl0) rfl ?_
 refine A4 6 ?_
 (refine H7 rfl rfl hF rfl rfl rfl (fun v G1 hle1 hh => ?_); obtain ⟨wc, rfl, hrw⟩ := hh; have hwl := hrw.len; have hwo := hrw.one)
 refine aP 7 rfl (pX rfl rfl) rfl ?_
 refine aP 8 rfl (pX rfl rfl) rfl ?_
 refine aP 9 rfl (pX rfl rfl) rfl ?_
 refine A4 10 ?_
 (refine oS rfl rfl rfl rfl hwl hwo rfl rfl ?_ (hu := by exact D4 hwl.symm))
 refine aP 11 rfl (qA rfl) rfl ?_
 refine aP 12 rfl (qA rfl) rfl ?_
 refine B0 ?_
 refine D5 (rC rfl (A2 rfl rfl (A9 (by repeat first | exact mH | apply mT)) hwl)) (rT rfl) (rT rfl) ?_
 (exact ⟨rfl, _, rfl, hrw⟩)
 refine B0 ?_
 refine sB (qE rfl rfl) rfl rfl (fun h175 => ?_) (fun h175 => ?_)
 refine B0 ?_
 (have hq : k = 11 ∨ k = 12 := (by omega); obtain ⟨x, hxy⟩ := hL1 (by omega); have hDq := hD hq x hxy; subst hxy; obtain ⟨bx, ox, e0, rfl, hl0, hat0, hre0, hgb0⟩ := hsl.kidTm hkl (i := 0) (by simp) (by simp); have hF := B1t k x G e0 hq (hkk x (by simp)) hre0; rw [← hDq] at hF; refine E2 E4 rfl ?_)
 refine J4 (i := 0) (l' := [tt,ff,ff,ff,ff,ff,ff,ff,ff,ff,ff,ff,ff]) rfl D6 (B9 rfl) rfl (by kernel_rfl) rfl rfl ?_
 refine aL 1 rfl (C8 rfl rfl) rfl ?_
 refine aP 2 rfl (B9 rfl) rfl ?_
 refine aL 3 rfl (C8 rfl rfl) rfl ?_
 refine aP 4 rfl (B6 (j := 0) rfl rfl rfl (by simp)) rfl ?_
 refine aL 5 rfl (A2 rfl rfl (hat0 _) hl0) rfl ?_
 refine A4 6 ?_
 (refine H7 rfl rfl hF rfl rfl rfl (fun v G1 hle1 hh => ?_); obtain ⟨wc, rfl, hrw⟩ := hh; have hwl := hrw.len; have hwo := hrw.one)
 refine aP 7 rfl (pX rfl rfl) rfl ?_
 refine aP 8 rfl (pX rfl rfl) rfl ?_
 refine aP 9 rfl (pX rfl rfl) rfl ?_
 refine A4 10 ?_
 (refine oS rfl rfl rfl rfl hwl hwo rfl rfl ?_ (hu := by exact D4 hwl.symm))
 refine aP 11 rfl (qA rfl) rfl ?_
 refine aP 12 rfl (qA rfl) rfl ?_
 refine B0 ?_
 refine D5 (rC rfl (A2 rfl rfl (A9 (by repeat first | exact mH | apply mT)) hwl)) (rT rfl) (rT rfl) ?_
 (exact ⟨rfl, _, rfl, hrw⟩)
 refine A8 ?_
 refine sB (qE rfl rfl) rfl rfl (fun h210 => ?_) (fun h210 => ?_)
 refine B5 ?_
 (refine D9 rfl (hC (by omega)) rfl rfl (fun v G1 hle1 hh => ?_); obtain ⟨wc, rfl, hrw⟩ := hh; have hwl := hrw.len; have hwo := hrw.one)
 refine B7 ?_
 refine sS rfl rfl rfl hwl hwo rfl ?_ (hu := by exact D4 hwl.symm)
 refine B5 ?_
 refine D5 (rC rfl (A2 rfl rfl (A9 (by repeat first | exact mH | apply mT)) hwl)) (rT rfl) (rT rfl) ?_
 (exact ⟨rfl, _, rfl, hrw⟩)
 refine K0 ?_
 refine D5 (rC rfl (A5 rfl rfl)) (rT rfl) (rT rfl) ?_
 (rw [hO (by omega)]; exact L6.mk rfl (P6 _))
theorem B7f {k : Int} {nm : ByteArray} {num : Int} {ty fr : Ty} {lb : Int} {ks : List Tm} {i : Nat} (hi : i < ks.length) (hn : i < (if k = 9 then 1 else ks.length)) (hj : ∀ j, j < i → (h : j < ks.length) → H2 ks[j] = true) (hv : H2 ks[i] = false) :
  H8 (.mk k nm num ty fr lb ks) = if (H8 ks[i]).2.1 = 1 then (.mk k nm num ty fr lb (ks.set i (H8 ks[i]).1), 1, 0) else (K7, (H8 ks[i]).2.1, (H8 ks[i]).2.2) := by
 rw [H8, A69 _ ks i hi hn hj hv]
theorem B7g {k : Int} {nm : ByteArray} {num : Int} {ty fr : Ty} {lb : Int} {ks : List Tm} (h : ∀ i, i < (if k = 9 then 1 else ks.length) → (hl : i < ks.length) → H2 ks[i] = true) : H8 (.mk k nm num ty fr lb ks) = N7 k ty fr lb ks := by
 rw [H8, A68 _ _ h]
theorem B7h {ty fr : Ty} {lb : Int} {a b c : Tm} : N7 9 ty fr lb [a, b, c] = (if a.k = 3 then (b, 1, 0) else if a.k = 4 then (c, 1, 0) else R4) := rfl
theorem B7i : ∀ (t : Tm) (G : IM) (cells : List Value), cv t → H2 t = false → B1 G t cells → Fn Tryz.prog 211 [.agg ⟨cells⟩] [] G (L6 (H8 t)) := by
 refine Tm.ind fun k nm num ty fr lb ks ih G cells hc hv hr => ?_
 have hr0 := hr
 have hRl := hr.len
 have hN := hc.node.1
 have hkk := hc.node.2
 have hops := hN.ops
 have hle3 := A1r k
 have hkd := @B0F k nm num ty fr lb ks hc hv
 have hkX := fun (i : Nat) => @B7f k nm num ty fr lb ks i
 have hrX := @B7g k nm num ty fr lb ks
 have hRd := fun h7 => B7e k nm num ty fr lb ks G cells h7 hc hr
 obtain ⟨C, hC⟩ : ∃ C : Nat, (if k = 9 then 1 else ks.length : Nat) = C := ⟨_, rfl⟩
 rw [hC] at hkd hrX
 have hkX' := fun (i : Nat) (hi : i < ks.length) (hn : i < C) => hkX i hi (by rw [hC]; exact hn)
 have h93 : k = 9 → ks.length = 3 := fun h => by rw [h] at hops; have : E6 9 = 3 := rfl; omega
 have hC1 : k = 9 → C = 1 := fun h => by rw [← hC, if_pos h]
 have hC2 : k ≠ 9 → C = ks.length := fun h => by rw [← hC, if_neg h]
 have hC9 : C ≤ ks.length := by by_cases h9 : k = 9; have := h93 h9; have := hC1 h9; omega; have := hC2 h9; omega
 generalize H8 (.mk k nm num ty fr lb ks) = R at hkX hkX' hrX ⊢
 obtain ⟨tk, tks⟩ := ty
 obtain ⟨fk, fks⟩ := fr
 obtain ⟨pt, ct, pf, cf, p, c, es, rfl, hk, hnum, hlb, hty, hfr, hsl, hkl⟩ := hr.open9
 have hn := hsl.le
 have hnc := hsl.sl.2.1
 have hes1 : ∀ u ∈ es.flatten, u.oneCell' = true := by
  intro u hu
  obtain ⟨e, he, hue⟩ := List.mem_flatten.1 hu
  exact List.all_eq_true.1 (hsl.one e he) u hue
 refine C1 Tryz.func211 rfl Tryz.ntmps211 Tryz.results211 rfl ?_
 intro w0
 refine A3 ?_
 refine sE (C7 rfl rfl) rfl (fun b3 => ?_)
 refine sE (A7 rfl) rfl (fun b4 => ?_)
 refine Q5 ?_
 refine sB (qE rfl rfl) rfl rfl (fun h22 => ?_) (fun h22 => ?_)
 refine A3 ?_
 (show J6 _ _ (.cond (.tmp 16) _ _) _ _; refine A0k (fun (_ : Unit) => ⟨[(5, .int .i64 (C : Int)), (1, .pointer (some ⟨b3, 0, none⟩)), (2, .pointer (some ⟨b4, 0, none⟩))], [.blk b4 [.int .i64 0, .string ⟨⟨[]⟩⟩, .int .i64 0, .int .i64 0, .slice none 0 0, .int .i64 0, .slice none 0 0, .int .i64 0, .slice none 0 0], .blk b3 [.int .i64 k, .string nm, .int .i64 num, .int .i64 tk, .slice pt tks.length ct, .int .i64 fk, .slice pf fks.length cf, .int .i64 lb, .slice p ks.length c]], G⟩) (fun _ => True) (qT rfl ?_) ?_)
 refine B7 ?_
 (have hCC := hC1 (by omega); subst hCC; refine P8 () (K2 (by repeat (first | exact D8.nil | refine D8.cons rfl ?_)) (by repeat (first | exact A0.refl | exact A0.nil | refine A0.cons (by repeat (first | exact Pk.here | apply Pk.there)) ?_ | apply A0.drop))) trivial)
 (rintro (_ : Unit) _)
 refine A8 ?_
 refine C0 ?_
 (refine J0 (fun (i : Nat) => ⟨[(6, .int .i64 (i : Int)), (5, .int .i64 (C : Int)), (1, .pointer (some ⟨b3, 0, none⟩)), (2, .pointer (some ⟨b4, 0, none⟩))], [.blk b4 [.int .i64 0, .string ⟨⟨[]⟩⟩, .int .i64 0, .int .i64 0, .slice none 0 0, .int .i64 0, .slice none 0 0, .int .i64 0, .slice none 0 0], .blk b3 [.int .i64 k, .string nm, .int .i64 num, .int .i64 tk, .slice pt tks.length ct, .int .i64 fk, .slice pf fks.length cf, .int .i64 lb, .slice p ks.length c]], G⟩) (fun i => i ≤ C ∧ ∀ j, j < i → (h : j < ks.length) → H2 ks[j] = true) (fun i => C - i) 0 ?_ ?_ ?_)
 exact D2
 exact A7a
 (rintro i ⟨hi, hj⟩)
 refine B0 ?_
 refine sB (I8 rfl rfl) rfl rfl (fun h47 => ?_) (fun h47 => ?_)
 refine A8 ?_
 refine C0 ?_
 refine A8 ?_
 (have hiC : i < C := (by omega); obtain ⟨bx, ox, e, rfl, hl, hat, hre, hgb⟩ := hsl.kidTm hkl (i := i) (by omega) (by omega); have heo := hre.one; have hVi := A7C ks[i] G e (hkk _ (List.getElem_mem (by omega))) hre; refine sP (B6 (j := i) rfl rfl rfl (by omega)) rfl rfl ?_)
 refine sL (A2 rfl rfl (hat _) hl) rfl rfl ?_
 refine F4 rfl (hVi) rfl rfl (fun h63 => ?_) (fun h63 => ?_)
 refine E0 ?_
 refine sP (H5 rfl rfl (by omega) (by omega)) rfl rfl ?_
 refine A3 ?_
 refine I1 (i + 1) ?_ ?_ ?_
 exact D2
 exact A7b
 (show C - (i + 1) < C - i; omega)
 refine J3 ?_
 refine sP (B6 (j := i) rfl rfl rfl (by omega)) rfl rfl ?_
 refine sL (A2 rfl rfl (hat _) hl) rfl rfl ?_
 (have hvF : H2 ks[i] = false := (by assumption); have hst := hkX' i (by omega) hiC (fun j hji hl2 => hj j hji hl2) hvF; refine D9 rfl (ih ks[i] (List.getElem_mem (by omega)) G e (hkk _ (List.getElem_mem (by omega))) hvF hre) rfl rfl (fun v G1 hle1 hh => ?_); obtain ⟨uc, hvv, hru⟩ := hh; have hul := hru.len; have huo := hru.one; generalize H8 ks[i] = r at hvv hru hst; obtain ⟨u, cc, ll⟩ := r; simp only at hvv hru hst; subst hvv)
 refine B4 ?_
 refine sE (A7 rfl) rfl (fun b97 => ?_)
 refine sS rfl rfl rfl hul huo rfl ?_ (hu := by exact D4 hul.symm)
 refine D1 ?_
 refine sB (N5 rfl rfl) rfl rfl (fun h107 => ?_) (fun h107 => ?_)
 refine A0e ?_
 refine D5 (rC rfl (A5 rfl rfl)) (rT rfl) (rT rfl) ?_
 (rw [hst, if_neg (by omega)]; exact L6.mk rfl (P6 _))
 refine D1 ?_
 refine sE (A7 rfl) rfl (fun b138 => ?_)
 refine B0 ?_
 (refine I3 (D0 rfl rfl rfl (by omega) (by unfold maxLen; omega) rfl) rfl ?_; rintro _ ⟨b144, rfl⟩)
 refine A3 ?_
 (refine A31 rfl rfl rfl rfl rfl (fun _ _ => by repeat (first | exact Sw.here | apply Sw.there)) (hsl.mono hle1).sl hes1 (Nat.zero_le _) (by unfold maxLen; omega) (by omega) rfl (fun p4 c4 => ?_); simp only [Nat.zero_add, List.nil_append]; refine A34 (cs := es.flatten) (by repeat (first | exact Pk.here | apply Pk.there)) (by omega) (fun bc Cc hpe hnc1 hcm => ?_); subst hpe)
 refine E0 ?_
 refine sL (A2 rfl rfl (A9 (by repeat first | exact mH | apply mT)) hul) rfl rfl ?_
 refine sP (B6 (j := i) rfl rfl rfl (by omega)) rfl rfl ?_
 refine W4 rfl rfl rfl hul huo rfl (by repeat first | exact Sw.here | apply Sw.there) (by exact A35 (by rw [hkl.len]; omega) (fun e he => (hsl.all e he)) hul) ?_
 refine J3 ?_
 (refine A2v (bs := [(bc, (es.set i uc).flatten ++ Cc)]) (Pk.perm (by repeat (first | exact Pk.here | apply Pk.there))) (fun hn2 hd2 hle2 => ?_))
 refine A8 ?_
 refine D5 (rC rfl (A5 rfl rfl)) (rT rfl) (rT rfl) ?_
 (have hks2 := E1.set (j := i) ((hkl.mono hle1).mono hle2) (hru.mono hle2); rw [hst, if_pos (by omega)]; exact L6.mk rfl (B1.put (us := ks.set i u) (es := es.set i uc) hk hnum hlb ((hty.mono hle1).mono hle2) ((hfr.mono hle1).mono hle2) (by rw [List.length_set]) (D7.of (Sl.of_blk (A := []) (by rw [A09 hks2.all, hks2.len, List.length_set]) (by omega) hcm (Wi.in hn2 List.mem_cons_self)) (by rw [hks2.len, List.length_set]) hks2.all (fun e he => by obtain ⟨q, hq⟩ := List.getElem?_of_mem he; exact (hks2.inv hq K7).2.one)) hks2))
 refine J7 ?_
 refine sP (A24 rfl rfl (by omega)) rfl rfl ?_
 refine J3 ?_
 (have hall : ∀ i, i < C → (hl : i < ks.length) → H2 ks[i] = true := (fun j hjc hl2 => hj j (by omega) hl2); have hrd' := hrX hall; have h9 : k = 9 := (by omega); subst h9; obtain ⟨xa, xb, xc, hxs⟩ := ks3 (h93 rfl); subst hxs; rw [B7h] at hrd'; obtain ⟨bx, ox, e0, rfl, hl0, hat0, hre0, hgb0⟩ := hsl.kidTm hkl (i := 0) (by simp) (by simp); obtain ⟨_, _, e1, hp1, hl1, hat1, hre1, hgb1⟩ := hsl.kidTm hkl (i := 1) (by simp) (by simp); cases hp1; obtain ⟨_, _, e2, hp2, hl2, hat2, hre2, hgb2⟩ := hsl.kidTm hkl (i := 2) (by simp) (by simp); cases hp2; replace hre0 : B1 G xa e0 := hre0; replace hre1 : B1 G xb e1 := hre1; replace hre2 : B1 G xc e2 := hre2; have ho1 := hre1.one; have ho2 := hre2.one; obtain ⟨ak, anm, anum, ⟨atk, atks⟩, ⟨afk, afks⟩, alb, aks⟩ := xa; obtain ⟨apt, act, apf, acf, ap, ac, aes, rfl, hak, hanum, halb, haty, hafr, hasl, hakl⟩ := hre0.open9; replace hrd' : R = (if ak = 3 then (xb, 1, 0) else if ak = 4 then (xc, 1, 0) else R4) := hrd'; refine sP (B6 (j := 0) rfl rfl rfl (by simp)) rfl rfl ?_)
 refine E3 ?_
 refine sL (T3 rfl rfl ((hat0 _).sub (j := 0) rfl)) rfl rfl ?_
 refine A3 ?_
 refine C0 (tS (tR (sB (qE rfl rfl) rfl rfl (fun h211 => ?_) (fun h211 => ?_))))
 refine D1 ?_
 refine sP (B6 (j := 1) rfl rfl rfl (by simp)) rfl rfl ?_
 refine sL (A2 rfl rfl (hat1 _) hl1) rfl rfl ?_
 refine sS rfl rfl rfl hl1 ho1 rfl ?_ (hu := by exact D4 hl1.symm)
 refine B5 ?_
 refine D5 (rC rfl (A2 rfl rfl (A9 (by repeat first | exact mH | apply mT)) hl1)) (rT rfl) (rT rfl) ?_
 (rw [hrd', if_pos (by omega)]; exact L6.mk rfl hre1)
 refine A8 ?_
 refine sB (qE rfl rfl) rfl rfl (fun h238 => ?_) (fun h238 => ?_)
 refine D1 ?_
 refine sP (B6 (j := 2) rfl rfl rfl (by simp)) rfl rfl ?_
 refine sL (A2 rfl rfl (hat2 _) hl2) rfl rfl ?_
 refine sS rfl rfl rfl hl2 ho2 rfl ?_ (hu := by exact D4 hl2.symm)
 refine B5 ?_
 refine D5 (rC rfl (A2 rfl rfl (A9 (by repeat first | exact mH | apply mT)) hl2)) (rT rfl) (rT rfl) ?_
 (rw [hrd', if_neg (by omega), if_pos (by omega)]; exact L6.mk rfl hre2)
 refine K0 ?_
 refine D5 (rC rfl (A5 rfl rfl)) (rT rfl) (rT rfl) ?_
 (rw [hrd', if_neg (by omega), if_neg (by omega)]; exact L6.mk rfl (P6 _))
 refine A3 ?_
 (show J6 _ _ (.cond (.tmp 16) _ _) _ _; refine A0k (fun (_ : Unit) => ⟨[(5, .int .i64 (C : Int)), (1, .pointer (some ⟨b3, 0, none⟩)), (2, .pointer (some ⟨b4, 0, none⟩))], [.blk b4 [.int .i64 0, .string ⟨⟨[]⟩⟩, .int .i64 0, .int .i64 0, .slice none 0 0, .int .i64 0, .slice none 0 0, .int .i64 0, .slice none 0 0], .blk b3 [.int .i64 k, .string nm, .int .i64 num, .int .i64 tk, .slice pt tks.length ct, .int .i64 fk, .slice pf fks.length cf, .int .i64 lb, .slice p ks.length c]], G⟩) (fun _ => True) (cF rfl ?_) ?_)
 refine tK ?_
 (have hCC := hC2 (by omega); subst hCC; refine P8 () (K2 (by repeat (first | exact D8.nil | refine D8.cons rfl ?_)) (by repeat (first | exact A0.refl | exact A0.nil | refine A0.cons (by repeat (first | exact Pk.here | apply Pk.there)) ?_ | apply A0.drop))) trivial)
 (rintro (_ : Unit) _)
 refine A8 ?_
 refine C0 ?_
 (refine J0 (fun (i : Nat) => ⟨[(6, .int .i64 (i : Int)), (5, .int .i64 (C : Int)), (1, .pointer (some ⟨b3, 0, none⟩)), (2, .pointer (some ⟨b4, 0, none⟩))], [.blk b4 [.int .i64 0, .string ⟨⟨[]⟩⟩, .int .i64 0, .int .i64 0, .slice none 0 0, .int .i64 0, .slice none 0 0, .int .i64 0, .slice none 0 0], .blk b3 [.int .i64 k, .string nm, .int .i64 num, .int .i64 tk, .slice pt tks.length ct, .int .i64 fk, .slice pf fks.length cf, .int .i64 lb, .slice p ks.length c]], G⟩) (fun i => i ≤ C ∧ ∀ j, j < i → (h : j < ks.length) → H2 ks[j] = true) (fun i => C - i) 0 ?_ ?_ ?_)
 exact D2
 exact A7a
 (rintro i ⟨hi, hj⟩)
 refine B0 ?_
 refine sB (I8 rfl rfl) rfl rfl (fun h299 => ?_) (fun h299 => ?_)
 refine A8 ?_
 refine C0 ?_
 refine A8 ?_
 (have hiC : i < C := (by omega); obtain ⟨bx, ox, e, rfl, hl, hat, hre, hgb⟩ := hsl.kidTm hkl (i := i) (by omega) (by omega); have heo := hre.one; have hVi := A7C ks[i] G e (hkk _ (List.getElem_mem (by omega))) hre; refine sP (B6 (j := i) rfl rfl rfl (by omega)) rfl rfl ?_)
 refine sL (A2 rfl rfl (hat _) hl) rfl rfl ?_
 refine F4 rfl (hVi) rfl rfl (fun h315 => ?_) (fun h315 => ?_)
 refine E0 ?_
 refine sP (H5 rfl rfl (by omega) (by omega)) rfl rfl ?_
 refine A3 ?_
 refine I1 (i + 1) ?_ ?_ ?_
 exact D2
 exact A7b
 (show C - (i + 1) < C - i; omega)
 refine J3 ?_
 refine sP (B6 (j := i) rfl rfl rfl (by omega)) rfl rfl ?_
 refine sL (A2 rfl rfl (hat _) hl) rfl rfl ?_
 (have hvF : H2 ks[i] = false := (by assumption); have hst := hkX' i (by omega) hiC (fun j hji hl2 => hj j hji hl2) hvF; refine D9 rfl (ih ks[i] (List.getElem_mem (by omega)) G e (hkk _ (List.getElem_mem (by omega))) hvF hre) rfl rfl (fun v G1 hle1 hh => ?_); obtain ⟨uc, hvv, hru⟩ := hh; have hul := hru.len; have huo := hru.one; generalize H8 ks[i] = r at hvv hru hst; obtain ⟨u, cc, ll⟩ := r; simp only at hvv hru hst; subst hvv)
 refine B4 ?_
 refine sE (A7 rfl) rfl (fun b349 => ?_)
 refine sS rfl rfl rfl hul huo rfl ?_ (hu := by exact D4 hul.symm)
 refine D1 ?_
 refine sB (N5 rfl rfl) rfl rfl (fun h359 => ?_) (fun h359 => ?_)
 refine A0e ?_
 refine D5 (rC rfl (A5 rfl rfl)) (rT rfl) (rT rfl) ?_
 (rw [hst, if_neg (by omega)]; exact L6.mk rfl (P6 _))
 refine D1 ?_
 refine sE (A7 rfl) rfl (fun b390 => ?_)
 refine B0 ?_
 (refine I3 (D0 rfl rfl rfl (by omega) (by unfold maxLen; omega) rfl) rfl ?_; rintro _ ⟨b396, rfl⟩)
 refine A3 ?_
 (refine A31 rfl rfl rfl rfl rfl (fun _ _ => by repeat (first | exact Sw.here | apply Sw.there)) (hsl.mono hle1).sl hes1 (Nat.zero_le _) (by unfold maxLen; omega) (by omega) rfl (fun p4 c4 => ?_); simp only [Nat.zero_add, List.nil_append]; refine A34 (cs := es.flatten) (by repeat (first | exact Pk.here | apply Pk.there)) (by omega) (fun bc Cc hpe hnc1 hcm => ?_); subst hpe)
 refine E0 ?_
 refine sL (A2 rfl rfl (A9 (by repeat first | exact mH | apply mT)) hul) rfl rfl ?_
 refine sP (B6 (j := i) rfl rfl rfl (by omega)) rfl rfl ?_
 refine W4 rfl rfl rfl hul huo rfl (by repeat first | exact Sw.here | apply Sw.there) (by exact A35 (by rw [hkl.len]; omega) (fun e he => (hsl.all e he)) hul) ?_
 refine J3 ?_
 (refine A2v (bs := [(bc, (es.set i uc).flatten ++ Cc)]) (Pk.perm (by repeat (first | exact Pk.here | apply Pk.there))) (fun hn2 hd2 hle2 => ?_))
 refine A8 ?_
 refine D5 (rC rfl (A5 rfl rfl)) (rT rfl) (rT rfl) ?_
 (have hks2 := E1.set (j := i) ((hkl.mono hle1).mono hle2) (hru.mono hle2); rw [hst, if_pos (by omega)]; exact L6.mk rfl (B1.put (us := ks.set i u) (es := es.set i uc) hk hnum hlb ((hty.mono hle1).mono hle2) ((hfr.mono hle1).mono hle2) (by rw [List.length_set]) (D7.of (Sl.of_blk (A := []) (by rw [A09 hks2.all, hks2.len, List.length_set]) (by omega) hcm (Wi.in hn2 List.mem_cons_self)) (by rw [hks2.len, List.length_set]) hks2.all (fun e he => by obtain ⟨q, hq⟩ := List.getElem?_of_mem he; exact (hks2.inv hq K7).2.one)) hks2))
 refine J7 ?_
 refine sP (A0n rfl rfl (by omega)) rfl rfl ?_
 refine A8 ?_
 (have hall : ∀ i, i < C → (hl : i < ks.length) → H2 ks[i] = true := (fun j hjc hl2 => hj j (by omega) hl2); have hk8 := hkd hall; have hrd' := hrX hall; refine D9 rfl (hRd (by omega)) rfl rfl (fun v G1 hle1 hh => ?_); obtain ⟨uc, rfl, hru⟩ := hh; have hul := hru.len; have huo := hru.one)
 refine B7 ?_
 refine sS rfl rfl rfl hul huo rfl ?_ (hu := by exact D4 hul.symm)
 refine A8 ?_
 refine D5 (rC rfl (A2 rfl rfl (A9 (by repeat first | exact mH | apply mT)) hul)) (rT rfl) (rT rfl) ?_
 (rw [hrd']; exact ⟨rfl, _, rfl, hru⟩)
theorem B7j {t : Tm} (h : O4 t = true) : (H8 t).1.small ∧ D3 (H8 t).1 ≤ 40300 := by
 obtain ⟨h1, h2⟩ := A2E h
 have := B4P t (A2F t h1) h2
 exact ⟨this.1, by omega⟩
theorem B7k (t : Tm) (G : IM) (cells : List Value) (hcnt : D3 t ≤ 4294967296) (hr : B1 G t cells) : Fn Tryz.prog 170 [.agg ⟨cells⟩] [] G (L6 (H3 t)) := by
 have hRl := hr.len
 have hRo := hr.one
 have hV := A9A t G cells hcnt hr
 have e1 := @A5n t
 have e2 := @A5o t
 have e3 := @A5p t
 have e4 := @A5q t
 have e5 := @A5r t
 have hsc := @B7j t
 refine C1 Tryz.func170 rfl Tryz.ntmps170 Tryz.results170 rfl ?_
 intro w0
 refine A3 ?_
 refine sE (C7 rfl rfl) rfl (fun b3 => ?_)
 refine sE (A7 rfl) rfl (fun b4 => ?_)
 refine B5 ?_
 refine sL (A2 rfl rfl (A9 (by repeat first | exact mH | apply mT)) hRl) rfl rfl ?_
 refine F4 rfl (hV) rfl rfl (fun h13 => ?_) (fun h13 => ?_)
 refine E0 ?_
 refine sL (A2 rfl rfl (A9 (by repeat first | exact mH | apply mT)) hRl) rfl rfl ?_
 refine F4 rfl ((A7C t G cells (A2E (by assumption)).1 hr)) rfl rfl (fun h24 => ?_) (fun h24 => ?_)
 refine B0 ?_
 refine sL (A2 rfl rfl (A9 (by repeat first | exact mH | apply mT)) hRl) rfl rfl ?_
 (refine D9 rfl (A3e t G cells (A5m (by assumption)) hr) rfl rfl (fun v G1 hle1 hh => ?_); obtain ⟨cs1, F1, rfl, hs1, hn1⟩ := hh; have hul := hs1.R.len; have huo := hs1.R.one)
 refine sS rfl rfl rfl hul huo rfl ?_ (hu := by exact D4 hul.symm)
 refine A8 ?_
 refine D5 (rC rfl (A2 rfl rfl (A9 (by repeat first | exact mH | apply mT)) hul)) (rT rfl) (rT rfl) ?_
 (exact L6.mk (e2 (by assumption) (by assumption)) (hs1.R.mono (C5.le _ _)))
 refine B5 ?_
 refine sL (A2 rfl rfl (A9 (by repeat first | exact mH | apply mT)) hRl) rfl rfl ?_
 (have hcv : O4 t = true := (by assumption); have hnv : H2 t = false := (by assumption); obtain ⟨hsc1, hsc2⟩ := hsc hcv; replace e3 := e3 hcv hnv; replace e4 := e4 hcv hnv; replace e5 := e5 hcv hnv; refine D9 rfl (B7i t G cells (A2E hcv).1 hnv hr) rfl rfl (fun v G1 hle1 hh => ?_); obtain ⟨uc, hvv, hru⟩ := hh; have hul := hru.len; have huo := hru.one; generalize H8 t = r at hvv hru hsc1 hsc2 e3 e4 e5; obtain ⟨u, cc, ll⟩ := r; simp only at hvv hru hsc1 hsc2 e3 e4 e5; subst hvv; have hVu := A9A u G1 uc (by omega) hru)
 refine B4 ?_
 refine sE (A7 rfl) rfl (fun b54 => ?_)
 refine sS rfl rfl rfl hul huo rfl ?_ (hu := by exact D4 hul.symm)
 refine D1 ?_
 refine sB (N5 rfl rfl) rfl rfl (fun h64 => ?_) (fun h64 => ?_)
 refine I7 ?_
 refine D5 (rC rfl (A5 rfl rfl)) (rT rfl) (rT rfl) ?_
 (exact L6.mk (e3 (by omega)) (P6 _))
 refine D1 ?_
 refine sL (A2 rfl rfl (A9 (by repeat first | exact mH | apply mT)) hul) rfl rfl ?_
 refine F4 rfl (hVu) rfl rfl (fun h91 => ?_) (fun h91 => ?_)
 refine D1 ?_
 refine sL (A2 rfl rfl (A9 (by repeat first | exact mH | apply mT)) hul) rfl rfl ?_
 (refine D9 rfl (A3e u G1 uc hsc1 hru) rfl rfl (fun v G2 hle2 hh => ?_); obtain ⟨cs2, F2, rfl, hs2, hn2⟩ := hh; have hwl := hs2.R.len; have hwo := hs2.R.one)
 refine sS rfl rfl rfl hwl hwo rfl ?_ (hu := by exact D4 hwl.symm)
 refine B0 ?_
 refine D5 (rC rfl (A2 rfl rfl (A9 (by repeat first | exact mH | apply mT)) hwl)) (rT rfl) (rT rfl) ?_
 (exact L6.mk (e5 (by omega) (by assumption)) (hs2.R.mono (C5.le _ _)))
 refine J9 ?_
 refine D5 (rC rfl (A5 rfl rfl)) (rT rfl) (rT rfl) ?_
 (exact L6.mk (e4 (by omega) (by assumption)) (P6 _))
 refine J9 ?_
 refine D5 (rC rfl (A5 rfl rfl)) (rT rfl) (rT rfl) ?_
 (exact L6.mk (e1 (by assumption)) (P6 _))
theorem B7l {m i : Nat} {e : Tm} (h : (H3 e).2.1 ≠ 1) : A0l i (K3 m e) = ((H3 e).1, (H3 e).2.1, (H3 e).2.2, i) := by
 cases m with
 | zero => rw [K3, if_neg h]; simp [A0l]
 | succ m => rw [K3, if_neg h]; simp [A0l]
theorem B7m {m i : Nat} {e : Tm} (h : (H3 e).2.1 = 1) (hm : m = 0) : A0l i (K3 m e) = (K7, 5, 0, i) := by
 subst hm; rw [K3, if_pos h]; simp [A0l]
theorem B7n {m i : Nat} {e : Tm} (h : (H3 e).2.1 = 1) (hm : 0 < m) : A0l i (K3 m e) = A0l (i + 1) (K3 (m - 1) (H3 e).1) := by
 obtain ⟨k, rfl⟩ : ∃ k, m = k + 1 := ⟨m - 1, by omega⟩
 rw [K3, if_pos h]; simp only [A0l, Nat.add_sub_cancel, Nat.add_assoc, Nat.add_comm 1 i]
theorem B7o (e : Tm) (n : Nat) (hn : n ≤ 300) (G : IM) (cells : List Value) (hcnt : D3 e ≤ 4294967296) (hr : B1 G e cells) : Fn Tryz.prog 128 [.agg ⟨cells⟩, .int .i64 (n : Int)] [] G (EvP (K3 n e)) := by
 have hRl := hr.len
 have hRo := hr.one
 refine C1 Tryz.func128 rfl Tryz.ntmps128 Tryz.results128 rfl ?_
 intro w0
 refine A3 ?_
 refine sE (C7 rfl rfl) rfl (fun b3 => ?_)
 refine sE (A7 rfl) rfl (fun b4 => ?_)
 refine J3 ?_
 refine C0 ?_
 (refine J0 (fun (x : Nat × Tm × List Value × IM) => ⟨[(8, .int .i64 (x.1 : Int)), (1, .int .i64 (n : Int)), (2, .pointer (some ⟨b3, 0, none⟩)), (4, .pointer (some ⟨b4, 0, none⟩))], [.blk b3 x.2.2.1, .blk b4 [.int .i64 0, .string ⟨⟨[]⟩⟩, .int .i64 0, .int .i64 0, .slice none 0 0, .int .i64 0, .slice none 0 0, .int .i64 0, .slice none 0 0]], x.2.2.2⟩) (fun x => x.1 ≤ n ∧ C2 G x.2.2.2 ∧ B1 x.2.2.2 x.2.1 x.2.2.1 ∧ D3 x.2.1 ≤ 4294967296 ∧ A0l x.1 (K3 (n - x.1) x.2.1) = K3 n e) (fun x => n - x.1) (0, e, cells, G) ?_ ?_ ?_)
 (simp only [H6]; exact D2)
 (exact ⟨Nat.zero_le _, C2.refl _, hr, hcnt, rfl⟩)
 (rintro ⟨i, u, uc, Gi⟩ ⟨hi, hle, hru, hcu, hev⟩; simp only [] at hi hle hru hcu hev ⊢; have hul := hru.len; have huo := hru.one)
 refine tS ?_
 refine C0 ?_
 refine A3 ?_
 refine sL (A2 rfl rfl (A9 (by repeat first | exact mH | apply mT)) hul) rfl rfl ?_
 (refine D9 rfl (B7k u Gi uc hcu hru) rfl rfl (fun v G1 hle1 hh => ?_); obtain ⟨wc, hv, hrw⟩ := hh; have hwl := hrw.len; have hwo := hrw.one; have hend := @B7l (n - i) i u; have hmu := @B7m (n - i) i u; have hgo := @B7n (n - i) i u; have hval := @B5U u; generalize H3 u = r at hv hrw hend hmu hgo hval; obtain ⟨w, c, l⟩ := r; simp only at hv hrw hend hmu hgo hval; subst hv)
 refine B4 ?_
 refine sE (A7 rfl) rfl (fun b30 => ?_)
 refine sS rfl rfl rfl hwl hwo rfl ?_ (hu := by exact D4 hwl.symm)
 refine D1 ?_
 refine sB (N5 rfl rfl) rfl rfl (fun h40 => ?_) (fun h40 => ?_)
 refine B0 ?_
 refine sL (A2 rfl rfl (A9 (by repeat first | exact mH | apply mT)) hwl) rfl rfl ?_
 refine B7 ?_
 refine sS rfl rfl rfl hwl hwo rfl ?_ (hu := by exact D4 hwl.symm)
 refine J1 ?_
 refine A5s (rC rfl (A2 rfl rfl (A9 (by repeat first | exact mH | apply mT)) hwl)) (rT rfl) (rT rfl) (rT rfl) ?_
 exact A7f
 refine J3 ?_
 refine sB (qE rfl rfl) rfl rfl (fun h74 => ?_) (fun h74 => ?_)
 refine A0y ?_
 refine A5s (rC rfl (A5 rfl rfl)) (rT rfl) (rT rfl) (rT rfl) ?_
 (exact EvP.mk (by rw [← hev]; exact hmu (by omega) (by omega)) (P6 _))
 refine A8 ?_
 refine sL (A2 rfl rfl (A9 (by repeat first | exact mH | apply mT)) hwl) rfl rfl ?_
 refine W4 rfl rfl rfl hwl hwo rfl (by repeat first | exact Sw.here | apply Sw.there) (by exact D4 (hul.trans hwl.symm)) ?_
 refine B0 ?_
 refine sP (H5 rfl rfl (by omega) (by omega)) rfl rfl ?_
 refine A3 ?_
 refine I1 (i + 1, w, wc, G1) ?_ ?_ ?_
 (simp only [H6]; exact D2)
 (dsimp only; exact ⟨by omega, hle.trans hle1, hrw, by have := A8I (hval (by omega)); omega, by rw [← hev, hgo (by omega) (by omega), show n - (i + 1) = n - i - 1 by omega]⟩)
 (show n - (i + 1) < n - i; omega)
theorem B7p {e : Tm} {fuel : Int} (h : O7 fuel 0 300 = true) : S8 e fuel = ((K3 fuel.toNat e).1, (K3 fuel.toNat e).2.1, (K3 fuel.toNat e).2.2.1) := by
 unfold S8; rw [if_pos (A3Q h)]
theorem B1x {fuel : Int} (h : fuel < 0 ∨ 300 < fuel) : O7 fuel 0 300 = false := by unfold O7; rw [decide_eq_false (by omega)]
theorem B7q {fuel : Int} (h : 0 ≤ fuel) (h2 : fuel ≤ 300) : O7 fuel 0 300 = true := by unfold O7; rw [decide_eq_true ⟨h, h2⟩]
theorem B7r (e : Tm) (fuel : Int) (G : IM) (cells : List Value) (hcnt : D3 e ≤ 4294967296) (hr : B1 G e cells) : Fn Tryz.prog 86 [.agg ⟨cells⟩, .int .i64 fuel] [] G (L6 (S8 e fuel)) := by
 have hRl := hr.len
 have hRo := hr.one
 have hno := @A7h e fuel
 have hin := @B7p e fuel
 refine C1 Tryz.func86 rfl Tryz.ntmps86 Tryz.results86 rfl ?_
 intro w0
 refine A3 ?_
 refine sE (C7 rfl rfl) rfl (fun b3 => ?_)
 refine sE (A7 rfl) rfl (fun b4 => ?_)
 refine D1 ?_
 refine sB (I8 rfl rfl) rfl rfl (fun h13 => ?_) (fun h13 => ?_)
 refine Q5 ?_
 refine D5 (rC rfl (A5 rfl rfl)) (rT rfl) (rT rfl) ?_
 (exact L6.mk (hno (B1x (by omega))) (P6 _))
 refine A3 ?_
 refine sB (W3 rfl rfl) rfl rfl (fun h35 => ?_) (fun h35 => ?_)
 refine J9 ?_
 refine D5 (rC rfl (A5 rfl rfl)) (rT rfl) (rT rfl) ?_
 (exact L6.mk (hno (B1x (by omega))) (P6 _))
 refine D1 ?_
 refine sL (A2 rfl rfl (A9 (by repeat first | exact mH | apply mT)) hRl) rfl rfl ?_
 refine E3 ?_
 (have hE := B7o e fuel.toNat (by omega) G cells hcnt hr; rw [Int.toNat_of_nonneg (by omega)] at hE; have hin := hin (B7q (by omega) (by omega)); refine D9 rfl hE rfl rfl (fun v G1 hle1 hh => ?_); obtain ⟨wc, hv, hrw⟩ := hh; have hwl := hrw.len; have hwo := hrw.one; generalize K3 fuel.toNat e = r at hv hrw hin; obtain ⟨w, c, l, i⟩ := r; simp only at hv hrw hin; subst hv)
 refine B0 ?_
 refine sE (A7 rfl) rfl (fun b68 => ?_)
 refine sS rfl rfl rfl hwl hwo rfl ?_ (hu := by exact D4 hwl.symm)
 refine B5 ?_
 refine sL (A2 rfl rfl (A9 (by repeat first | exact mH | apply mT)) hwl) rfl rfl ?_
 refine A3 ?_
 refine sS rfl rfl rfl hwl hwo rfl ?_ (hu := by exact D4 hwl.symm)
 refine B0 ?_
 refine D5 (rC rfl (A2 rfl rfl (A9 (by repeat first | exact mH | apply mT)) hwl)) (rT rfl) (rT rfl) ?_
 (exact L6.mk hin hrw)
theorem B7s : ∀ (t : Tm) (G : IM) (cells : List Value), cv t → H2 t = true → B1 G t cells → Fn Tryz.prog 87 [.agg ⟨cells⟩] [] G (I5 (.string (A0a t)) G) := by
 refine Tm.ind fun k nm num ty fr lb ks ih G cells hc hv hr => ?_
 have hr0 := hr
 have hP := A5y _ G _ hr
 obtain ⟨hN, hkk⟩ := hc.node
 have hI := A7A (.mk k nm num ty fr lb ks) G _ hN.frA hr
 have hop := hN.ops
 have hnum0 := hN.num0
 have h14 : k = 14 → ks.length = 1 := fun h => by rw [h] at hop; have : E6 14 = 1 := rfl; omega
 have hvp := @B0Z k nm num ty fr lb ks
 have hvf := @B00 k nm num ty fr lb ks
 have hvc := @A7p k nm num ty fr lb ks
 have hvl := @B01 k nm num ty fr lb ks
 have hvn := @A5i k nm num ty fr lb ks
 have hvy := @B1q k nm num ty fr lb ks
 have hprx := A1w k nm num ty fr lb ks
 have hinj := A5h k nm num ty fr lb ks
 have h5 : k ≠ 10 → R3 (.mk k nm num ty fr lb ks) = false → inj (.mk k nm num ty fr lb ks) = false → k = 2 ∨ k = 3 ∨ k = 4 ∨ k = 5 := fun h1 h2 h3 => by
  have := hvn h1 h2 h3; rw [hv] at this; exact of_decide_eq_true this.symm
 have hdis : R3 (.mk k nm num ty fr lb ks) = true → inj (.mk k nm num ty fr lb ks) = false := fun h => by
  rw [hprx] at h; have := of_decide_eq_true h; rw [hinj, decide_eq_false (by omega)]; rfl
 have hik : inj (.mk k nm num ty fr lb ks) = true → k = 14 := fun h => A5k h
 have hpk : R3 (.mk k nm num ty fr lb ks) = true → k = 14 ∧ ty.k = fr.k := fun h => by rw [hprx] at h; have := of_decide_eq_true h; exact ⟨this.1, this.2.1.symm⟩
 have hkv := fun (h : inj (.mk k nm num ty fr lb ks) = true) => (hvy (.inr h) (h14 (hik h))).symm.trans hv
 obtain ⟨j, hj⟩ : ∃ j : Nat, num = j := ⟨num.toNat, by omega⟩
 have hdec := B6i j (by omega) G
 generalize hpx : R3 (.mk k nm num ty fr lb ks) = bp at *
 generalize hij : inj (.mk k nm num ty fr lb ks) = bi at *
 subst hj
 obtain ⟨tk, tks⟩ := ty
 obtain ⟨fk, fks⟩ := fr
 obtain ⟨pt, ct, pf, cf, p, c, es, rfl, hk, hnum, hlb, hty, hfr, hsl, hkl⟩ := hr.open9
 refine C1 Tryz.func87 rfl Tryz.ntmps87 Tryz.results87 rfl ?_
 intro w0
 refine A3 ?_
 refine sE (C7 rfl rfl) rfl (fun b3 => ?_)
 refine B4 ?_
 refine C0 ?_
 refine B4 ?_
 refine sB (qE rfl rfl) rfl rfl (fun h13 => ?_) (fun h13 => ?_)
 refine D1 ?_
 refine E8 rfl (hdec) rfl rfl ?_
 refine B5 ?_
 (have hbp : bp = false := (by cases hb : bp with | false => rfl | true => (have := (hpk hb).1; omega)); refine ⟨rfl, congrArg Value.string ?_, rfl⟩; rw [hvl hbp (by omega) (by omega) (by omega)]; unfold A1Y; first | (rw [if_pos (by omega)]; rfl) | (rw [if_neg (by omega), if_pos (by omega)]; rfl) | (rw [if_neg (by omega), if_neg (by omega)]; rfl))
 refine D1 ?_
 refine sB (qE rfl rfl) rfl rfl (fun h39 => ?_) (fun h39 => ?_)
 refine J7 ?_
 (have hbp : bp = false := (by cases hb : bp with | false => rfl | true => (have := (hpk hb).1; omega)); refine ⟨rfl, congrArg Value.string ?_, rfl⟩; rw [hvl hbp (by omega) (by omega) (by omega)]; unfold A1Y; first | (rw [if_pos (by omega)]; rfl) | (rw [if_neg (by omega), if_pos (by omega)]; rfl) | (rw [if_neg (by omega), if_neg (by omega)]; rfl))
 refine D1 ?_
 refine sB (qE rfl rfl) rfl rfl (fun h62 => ?_) (fun h62 => ?_)
 refine J7 ?_
 (have hbp : bp = false := (by cases hb : bp with | false => rfl | true => (have := (hpk hb).1; omega)); refine ⟨rfl, congrArg Value.string ?_, rfl⟩; rw [hvl hbp (by omega) (by omega) (by omega)]; unfold A1Y; first | (rw [if_pos (by omega)]; rfl) | (rw [if_neg (by omega), if_pos (by omega)]; rfl) | (rw [if_neg (by omega), if_neg (by omega)]; rfl))
 refine D1 ?_
 refine sB (qE rfl rfl) rfl rfl (fun h85 => ?_) (fun h85 => ?_)
 refine A06 ?_
 (refine ⟨rfl, congrArg Value.string ?_, rfl⟩; rw [hvp (by first | exact .inl (by omega) | exact .inr ⟨by assumption, by have := (hpk (by assumption)).2; simp only [Ty.k] at this ⊢; omega⟩)]; rfl)
 refine A3 ?_
 refine F4 rfl (hP) rfl rfl (fun h112 => ?_) (fun h112 => ?_)
 refine B4 ?_
 refine sB (qE rfl rfl) rfl rfl (fun h117 => ?_) (fun h117 => ?_)
 refine I7 ?_
 (refine ⟨rfl, congrArg Value.string ?_, rfl⟩; rw [hvp (by first | exact .inl (by omega) | exact .inr ⟨by assumption, by have := (hpk (by assumption)).2; simp only [Ty.k] at this ⊢; omega⟩)]; rfl)
 refine E0 ?_
 refine F4 rfl (hI) rfl rfl (fun h143 => ?_) (fun h143 => ?_)
 refine D1 ?_
 (have hl1 := h14 (hik (by assumption)); obtain ⟨bx, ox, e, rfl, hl, hat, hre, hgb⟩ := hsl.kidTm hkl (i := 0) (by omega) (by omega); have hih := ih ks[0] (List.getElem_mem (by omega)) G e (hkk _ (List.getElem_mem (by omega))) (hkv (by assumption)) hre; refine sP (B6 (j := 0) rfl rfl rfl (by omega)) rfl rfl ?_)
 refine sL (A2 rfl rfl (hat _) hl) rfl rfl ?_
 refine E8 rfl (hih) rfl rfl ?_
 refine B5 ?_
 (have hbp : bp = false := (by cases hb : bp with | false => rfl | true => (have := hdis hb; have h9 : bi = true := (by assumption); rw [h9] at this; cases this)); refine ⟨rfl, congrArg Value.string ?_, rfl⟩; rw [hvc hbp (hik (by assumption)) (by omega)])
 refine J9 ?_
 (refine ⟨rfl, congrArg Value.string ?_, rfl⟩; rw [hvf (by rintro (h | ⟨h1, h2⟩) <;> first | omega | exact Bool.noConfusion (h1.symm.trans (show bp = false by assumption)) | (have := (hpk h1).2; simp only [Ty.k] at this h2; omega)) (by cases hb : bp with | true => exact .inr rfl | false => exact .inl (by have := h5 (by omega) hb (by assumption); omega))]; rfl)
 refine J9 ?_
 refine F4 rfl (hI) rfl rfl (fun h192 => ?_) (fun h192 => ?_)
 refine D1 ?_
 (have hl1 := h14 (hik (by assumption)); obtain ⟨bx, ox, e, rfl, hl, hat, hre, hgb⟩ := hsl.kidTm hkl (i := 0) (by omega) (by omega); have hih := ih ks[0] (List.getElem_mem (by omega)) G e (hkk _ (List.getElem_mem (by omega))) (hkv (by assumption)) hre; refine sP (B6 (j := 0) rfl rfl rfl (by omega)) rfl rfl ?_)
 refine sL (A2 rfl rfl (hat _) hl) rfl rfl ?_
 refine E8 rfl (hih) rfl rfl ?_
 refine B5 ?_
 (have hbp : bp = false := (by cases hb : bp with | false => rfl | true => (have := hdis hb; have h9 : bi = true := (by assumption); rw [h9] at this; cases this)); refine ⟨rfl, congrArg Value.string ?_, rfl⟩; rw [hvc hbp (hik (by assumption)) (by omega)])
 refine J9 ?_
 (refine ⟨rfl, congrArg Value.string ?_, rfl⟩; rw [hvf (by rintro (h | ⟨h1, h2⟩) <;> first | omega | exact Bool.noConfusion (h1.symm.trans (show bp = false by assumption)) | (have := (hpk h1).2; simp only [Ty.k] at this h2; omega)) (by cases hb : bp with | true => exact .inr rfl | false => exact .inl (by have := h5 (by omega) hb (by assumption); omega))]; rfl)
theorem B7t (e : Tm) (fuel : Int) (G : IM) (cells : List Value) (hcnt : D3 e ≤ 4294967296) (hr : B1 G e cells) : Fn Tryz.prog 37 [.agg ⟨cells⟩, .int .i64 fuel] [] G (B1a (O2 e fuel) G) := by
 have hRl := hr.len
 have hRo := hr.one
 have hno := @A7t e fuel
 have hyv := fun u t => @A5v e u t fuel
 have hyn := fun u t => @A4g e u t fuel
 refine C1 Tryz.func37 rfl Tryz.ntmps37 Tryz.results37 rfl ?_
 intro w0
 refine A3 ?_
 refine sE (C7 rfl rfl) rfl (fun b3 => ?_)
 refine B5 ?_
 refine sL (A2 rfl rfl (A9 (by repeat first | exact mH | apply mT)) hRl) rfl rfl ?_
 focus (refine D9 rfl (B7d e G cells hcnt hr) rfl rfl (fun v G1 hle1 hh => ?_); obtain ⟨cu, ct, rfl, hru, hrt⟩ := hh; rcases hI : U4 e with _ | ⟨u, t⟩; rotate_left; rw [hI] at hru hrt; simp only [Option.getD_some] at hru hrt; have hgI := A5t hI; rotate_left; rw [hI] at hru hrt; simp only [Option.getD_none] at hru hrt; simp only [Option.isSome]; rotate_left; simp only [Option.isSome]; rotate_left; all_goals (have hul := hru.len; have huo := hru.one; obtain ⟨p3, c3, e3, rfl, _⟩ := hrt.open))
 refine B4 ?_
 refine sE (A7 rfl) rfl (fun b17 => ?_)
 refine sE (A7 rfl) rfl (fun b18 => ?_)
 refine sS rfl rfl rfl hul huo rfl ?_ (hu := by exact D4 hul.symm)
 refine A0z ?_
 refine D5 (rT rfl) (rT rfl) (rT rfl) ?_
 (exact ⟨rfl, by rw [hno (by first | exact hI | rfl | assumption)]⟩)
 refine B4 ?_
 refine sE (A7 rfl) rfl (fun b47 => ?_)
 refine sE (A7 rfl) rfl (fun b48 => ?_)
 refine sS rfl rfl rfl hul huo rfl ?_ (hu := by exact D4 hul.symm)
 refine K0 ?_
 refine sL (A2 rfl rfl (A9 (by repeat first | exact mH | apply mT)) hul) rfl rfl ?_
 refine E3 ?_
 (have hyv := hyv u t hI; have hyn := hyn u t hI; have hev := @B1c u fuel; refine D9 rfl (B7r u fuel G1 cu (by have := A8I hgI.1; omega) hru) rfl rfl (fun v G2 hle2 hh => ?_); obtain ⟨wc, hvv, hrw⟩ := hh; have hwl := hrw.len; have hwo := hrw.one; generalize S8 u fuel = r at hvv hrw hyv hyn hev; obtain ⟨w, c, l⟩ := r; simp only at hvv hrw hyv hyn hev; subst hvv)
 refine B4 ?_
 refine sE (A7 rfl) rfl (fun b73 => ?_)
 refine sS rfl rfl rfl hwl hwo rfl ?_ (hu := by exact D4 hwl.symm)
 refine D1 ?_
 refine sB (N5 rfl rfl) rfl rfl (fun h83 => ?_) (fun h83 => ?_)
 refine J9 ?_
 refine D5 (rT rfl) (rT rfl) (rT rfl) ?_
 (exact ⟨rfl, by rw [hyn (by omega)]⟩)
 refine B5 ?_
 refine sL (A2 rfl rfl (A9 (by repeat first | exact mH | apply mT)) hwl) rfl rfl ?_
 (obtain ⟨he1, he2, he3⟩ := hev (by omega); refine E8 rfl (B7s w G2 wc (A2E he1).1 he2 hrw) rfl rfl ?_)
 refine B5 ?_
 refine D5 (rT rfl) (rT rfl) (rT rfl) ?_
 exact B1d
def B7u (r s : ByteArray × Int × Int) : Int := if r.2.1 = 2 then 2 else if r.2.1 ≠ 0 ∨ s.2.1 = 4 ∨ s.2.1 = 5 then 3 else if s.2.1 = 0 ∧ r.1 = s.1 then 1 else 4
def B8x (a b : Tm) (fuel : Int) : Int := if (Q3 a).isSome = true ∧ A3t a b = true ∧ O7 fuel 0 300 = true then B7u (O2 a fuel) (O2 b fuel) else 0
def gxT : GX → ByteArray
 | .n n => B0Y n
 | .b b => if b = true then txT else txF
 | .p => A7n
 | .f => A7o
theorem B1y {v : GE} (h : GV v) : A0a v.tm = gxT v.tx := by
 induction h with
 | num => rfl
 | @tru b => cases b <;> rfl
 | lam => rfl
 | pair _ _ _ _ => rfl
 | pf _ _ => rfl
 | pp _ _ => rfl
 | @inj A l e hv hg i =>
  rw [GE.tm, A7p (h0 := by simp)]
  ·exact i
  ·rw [A1w]
   refine decide_eq_false ?_
   rintro ⟨_, _, h | h⟩ <;> simp [GT.ty, Ty.k] at h
  ·rfl
theorem B1z {fuel : Int} (hf : O7 fuel 0 300 = true) (u : Tm) : S8 u fuel = ((K3 fuel.toNat u).1, (K3 fuel.toNat u).2.1, (K3 fuel.toNat u).2.2.1) := by
 unfold S8
 rw [if_pos (A1U.1 hf)]
theorem B7v {a b : Tm} {fuel : Int} (hp : A3t a b = true) (hf : O7 fuel 0 300 = true) (h0 : (O2 a fuel).2.1 = 0) :
  ((O2 b fuel).2.1 = 0 ∧ (O2 b fuel).1 = (O2 a fuel).1) ∨ (O2 b fuel).2.1 = 4 ∨ (O2 b fuel).2.1 = 5 := by
 cases hu : U4 a with
 | none => rw [A7t hu] at h0; cases h0
 | some p =>
  obtain ⟨u, t⟩ := p
  obtain ⟨e, e', A, A', rfl, rfl, h3, hP⟩ := B5r hu hp
  have hv := (A5t h3).1
  by_cases he : (S8 e.tm fuel).2.1 = 0
  ·have hE := B1z hf e.tm
   have hE' := B1z hf e'.tm
   rw [A5v hu he, hE]
   rw [hE] at he
   obtain ⟨w, h1, h2, h4⟩ := B4H hP he fuel.toNat hv
   rcases h4 with ⟨g, w', g1, g2, g3⟩ | g | g
   ·refine .inl ?_
    rw [A5v h3 (by rw [hE']; exact g), hE']
    refine ⟨rfl, ?_⟩
    show A0a (K3 fuel.toNat e'.tm).1 = A0a (K3 fuel.toNat e.tm).1
    rw [g1, h1, B1y g2, B1y h2, g3]
   ·exact .inr (.inl (by rw [A4g h3 (by rw [hE']; show (K3 fuel.toNat e'.tm).2.1 ≠ 0; omega), hE']; exact g))
   ·exact .inr (.inr (by rw [A4g h3 (by rw [hE']; show (K3 fuel.toNat e'.tm).2.1 ≠ 0; omega), hE']; exact g))
  ·rw [A4g hu he] at h0; exact absurd h0 he
mutual
def H0 : Tm → List Ty
 | .mk k _ _ ty _ _ ks => (if k = 5 ∨ k = 13 then [ty] else []) ++ I0 ks
def I0 : List Tm → List Ty
 | [] => []
 | t :: ts => H0 t ++ I0 ts
end
theorem A7K : ∀ (a b : List Tm), I0 (a ++ b) = I0 a ++ I0 b
 | [], b => by simp [I0]
 | t :: a, b => by simp [I0, A7K a b]
theorem A1j {ks : List Tm} {i : Nat} (hi : i < ks.length) : I0 (ks.take (i + 1)) = I0 (ks.take i) ++ H0 ks[i] := by
 rw [List.take_succ_eq_append_getElem hi, A7K, I0, I0, List.append_nil]
mutual
theorem A5C : ∀ t : Tm, (H0 t).length ≤ D3 t
 | .mk k nm num ty fr lb ks => by
  have := A0Z ks
  rw [H0, D3, List.length_append]
  split <;> simp <;> omega
theorem A0Z : ∀ ts : List Tm, (I0 ts).length ≤ E7 ts
 | [] => by simp [I0]
 | t :: ts => by
  have := A5C t
  have := A0Z ts
  rw [I0, E7, List.length_append]; omega
end
mutual
def S2 : Tm → List Ty → Tm
 | .mk k nm num ty fr lb ks, l => .mk k nm num (if k = 5 ∨ k = 13 then l.getD 0 B3 else ty) fr lb (N4 ks (if k = 5 ∨ k = 13 then l.drop 1 else l))
def N4 : List Tm → List Ty → List Tm
 | [], _ => []
 | t :: ts, l => S2 t l :: N4 ts (l.drop (H0 t).length)
end
theorem A2j : ∀ (ts : List Tm) (l : List Ty), (N4 ts l).length = ts.length
 | [], _ => rfl
 | t :: ts, l => by rw [N4, List.length_cons, A2j ts, List.length_cons]
theorem B1A : ∀ (a b : List Tm) (l : List Ty), N4 (a ++ b) l = N4 a l ++ N4 b (l.drop (I0 a).length)
 | [], b, l => by simp [N4, I0]
 | t :: a, b, l => by simp [N4, I0, B1A a b, List.drop_drop]
theorem A4i {ks : List Tm} {i : Nat} (hi : i < ks.length) (l : List Ty) : N4 (ks.take (i + 1)) l = N4 (ks.take i) l ++ [S2 ks[i] (l.drop (I0 (ks.take i)).length)] := by
 rw [List.take_succ_eq_append_getElem hi, B1A, N4, N4]
def P4 (mask : Nat) : Nat → List Ty → List Ty
 | _, [] => []
 | i, t :: ts => (if (mask / 2 ^ i) % 2 = 1 then .mk 1 [] else t) :: P4 mask (i + 1) ts
theorem A2k (mask : Nat) : ∀ (l : List Ty) (i : Nat), (P4 mask i l).length = l.length
 | [], _ => rfl
 | t :: ts, i => by rw [P4, List.length_cons, A2k mask ts, List.length_cons]
theorem B1B (mask : Nat) : ∀ (a b : List Ty) (j : Nat), P4 mask j (a ++ b) = P4 mask j a ++ P4 mask (j + a.length) b
 | [], b, j => by simp [P4]
 | t :: a, b, j => by rw [List.cons_append, P4, B1B mask a b (j + 1), P4, List.cons_append, List.length_cons, show j + 1 + a.length = j + (a.length + 1) from by omega]
theorem B1C {α : Type} : ∀ (A : List α) (x y : α) (B : List α) (i : Nat), A.length = i → (A ++ x :: B).set i y = A ++ y :: B
 | [], x, y, B, i, h => by subst h; rfl
 | a :: A, x, y, B, i, h => by
  subst h
  rw [List.cons_append, List.length_cons, List.set_cons_succ, B1C A x y B _ rfl, List.cons_append]
theorem B1D (mask : Nat) (L : List Ty) (i : Nat) (hi : i < L.length) :
  P4 mask 0 (L.take (i + 1)) ++ L.drop (i + 1) = if (mask / 2 ^ i) % 2 = 1 then (P4 mask 0 (L.take i) ++ L.drop i).set i (.mk 1 []) else P4 mask 0 (L.take i) ++ L.drop i := by
 have hl : (P4 mask 0 (L.take i)).length = i := by rw [A2k, List.length_take]; omega
 rw [List.take_succ_eq_append_getElem hi, B1B, List.drop_eq_getElem_cons hi, List.length_take, show 0 + min i L.length = i from by omega, P4, P4]
 split
 ·rw [B1C _ _ _ _ _ hl]; simp
 ·simp
theorem A3B (mask : Nat) : ∀ (l : List Ty) (j : Nat) (u : Ty), u ∈ P4 mask j l → u = .mk 1 [] ∨ u ∈ l
 | [], j, u, h => by simp [P4] at h
 | t :: l, j, u, h => by
  rw [P4] at h
  rcases List.mem_cons.1 h with h | h
  ·split at h
   ·exact .inl h
   ·exact .inr (by rw [h]; simp)
  ·rcases A3B mask l (j + 1) u h with h | h
   ·exact .inl h
   ·exact .inr (List.mem_cons_of_mem _ h)
def P1 (e : Tm) (mask : Nat) : Tm := S2 e (P4 mask 0 (H0 e))
def A0b (e : Tm) : List Tm := (List.range (2 ^ (H0 e).length)).map (P1 e)
theorem A4j {ks : List Tm} {i : Nat} (hi : i < ks.length) : (I0 (ks.take i)).length + (H0 ks[i]).length ≤ (I0 ks).length := by
 have h : ks = ks.take (i + 1) ++ ks.drop (i + 1) := (List.take_append_drop _ _).symm
 conv => rhs; rw [h]
 rw [A7K, A1j hi]
 simp only [List.length_append]; omega
section cap
variable {P : Program} {Γ : L7} {env : M2} {hp : List A6} {G : IM} {K : Po} {ops : Array Oper} {rest : List Oper}
theorem St.slc_cap {a : Act} {w : World} {p : Option Addr} {c el sz n : Nat} {cs : List Value} {hp' : List A6} (hs : St Γ ⟨env, hp, G⟩ a w) (hk : Pk hp (.slc p c el sz n cs) hp') : n ≤ c := by
 have hown : T2 [.slc p c el sz n cs] G w := hs.res.own.of_mem hk.perm
 obtain ⟨hl, h⟩ := hown.ok _ List.mem_cons_self
 rcases h with ⟨hv, hn⟩ | ⟨g, cap, cur, hv, _, hg, hnc, hcm, hsz, ht⟩
 ·omega
 ·cases hv; exact hnc
theorem B1E {p : Option Addr} {c el sz n : Nat} {cs : List Value} {hp' : List A6} (hk : Pk hp (.slc p c el sz n cs) hp') (h : n ≤ c → I9 P Γ ops rest K ⟨env, hp, G⟩) : I9 P Γ ops rest K ⟨env, hp, G⟩ :=
 ⟨fun a w hs => (h (hs.slc_cap hk)).run a w hs⟩
end cap
theorem C9.append {G : IM} : ∀ {a b : List Ty} {es fs : List (List Value)}, C9 G a es → C9 G b fs → C9 G (a ++ b) (es ++ fs)
 | [], b, es, fs, h, h2 => by simp only [C9] at h; subst h; simpa using h2
 | t :: a, b, es, fs, h, h2 => by
  simp only [C9] at h
  obtain ⟨x, r, rfl, h3, h4⟩ := h
  simp only [List.cons_append, C9]
  exact ⟨x, r ++ fs, rfl, h3, C9.append h4 h2⟩
theorem C9.ones {G : IM} {ts : List Ty} {es : List (List Value)} (h : C9 G ts es) : ∀ u ∈ es.flatten, u.oneCell' = true := by
 intro u hu
 obtain ⟨e, he, hue⟩ := List.mem_flatten.1 hu
 exact List.all_eq_true.1 (h.each e he).2 u hue
theorem C9.one1 {G : IM} {t : Ty} {c : List Value} (h : C3 G t c) : C9 G [t] [c] := by
 simp only [C9]; exact ⟨c, [], rfl, h, rfl⟩
def A0c (ts : List Ty) : IM → Value → List A6 → Prop := fun G' v outs => ∃ p c es, v = .slice p ts.length c ∧ outs = [.slc p c 34 2 ts.length es.flatten] ∧ C9 G' ts es
theorem A0c.mk {ts : List Ty} {n : Nat} {G' : IM} {p : Option Addr} {c : Nat} {es : List (List Value)} (hn : ts.length = n) (hr : C9 G' ts es) : A0c ts G' (.slice p n c) [.slc p c 34 2 n es.flatten] := by
 subst hn
 exact ⟨p, c, es, rfl, rfl, hr⟩
theorem B1F {Q : Prop} (h : Q := by (dsimp only; exact ⟨by omega, hle.trans (hle3.trans hle4), by rw [A1j (by omega), ← List.append_assoc]; exact hap, by rw [A1j (by omega)]; simp only [List.length_append, List.length_singleton, List.length_nil]; omega⟩)) : Q := h
theorem B1G {Q : Prop} (h : Q := by (rw [h14]; rw [List.take_length] at hst hlen; exact A0c.mk (by simp only [List.length_append, List.length_singleton, List.length_nil]; omega) hst)) : Q := h
theorem A4k : ∀ (t : Tm) (G : IM) (cells : List Value), t.small → D3 t ≤ 4000000 → B1 G t cells → Fn Tryz.prog 74 [.agg ⟨cells⟩] [] G (A0c (H0 t)) := by
 refine Tm.ind fun k nm num ty fr lb ks ih G cells hts hcnt hr => ?_
 have hT := A7l _ G cells hr
 have hone := hr.one
 simp only [Tm.small] at hts
 obtain ⟨_, hty', _, hsm, hks⟩ := hts
 have hcy : A0u k = true → H0 (.mk k nm num ty fr lb ks) = [ty] ++ I0 ks := fun h => by rw [H0, if_pos (of_decide_eq_true h)]
 have hcn : A0u k = false → H0 (.mk k nm num ty fr lb ks) = [] ++ I0 ks := fun h => by rw [H0, if_neg (of_decide_eq_false h)]
 rw [D3] at hcnt
 obtain ⟨tk, tks⟩ := ty
 obtain ⟨fk, fks⟩ := fr
 have hT' : Fn Tryz.prog 77 _ [] G (I5 (.bool (A0u k)) G) := hT
 obtain ⟨pt, ct, pf, cf, q, cq, ek, rfl, hk, hnum, hlb, hty, hfr, hsl, hkl⟩ := hr.open9
 have hn := hsl.le
 refine C1 Tryz.func74 rfl Tryz.ntmps74 Tryz.results74 rfl ?_
 intro w0
 refine A3 ?_
 refine sE (C7 rfl rfl) rfl (fun b3 => ?_)
 refine K5 ?_
 refine F4 rfl (hT') rfl rfl (fun h16 => ?_) (fun h16 => ?_)
 refine B7 ?_
 (show J6 _ _ (.region 3 ..) _ _; refine Q9 34 2 ?_; refine tR ?_)
 refine B7 ?_
 (refine D9 rfl (A1Q (.mk tk tks) G _ hty' hty) rfl rfl (fun v G1 hle1 hh => ?_); obtain ⟨cs1, F1, rfl, hs1, hn1⟩ := hh; have hr1 := hs1.R.mono (C5.le _ _); obtain ⟨p1, c1, rfl, _⟩ := hs1.open)
 (refine I3 (D0 rfl rfl rfl (by omega) (by unfold maxLen; omega) rfl) rfl ?_; rintro _ ⟨b25, rfl⟩)
 (refine Y5 rfl rfl rfl rfl rfl (fun _ _ => by repeat (first | exact Sw.here | apply Sw.there)) (M1 (by repeat first | exact mH | apply mT)) rfl (by simp [Value.oneCell']) (by unfold maxLen; omega) (by omega) rfl (fun pn0 cn0 => ?_))
 refine K5 ?_
 refine C0 ?_
 (have h14 := hcy (by assumption); have hinit := C9.one1 hr1; refine J0 (fun (x : Nat × Nat × Option Addr × Nat × List (List Value) × IM) => ⟨[(17, .int .i64 x.1), (16, .int .i64 ks.length), (15, .slice q ks.length cq), (3, .slice x.2.2.1 x.2.1 x.2.2.2.1)], [.slc x.2.2.1 x.2.2.2.1 34 2 x.2.1 x.2.2.2.2.1.flatten], x.2.2.2.2.2⟩) (fun x => x.1 ≤ ks.length ∧ C2 G x.2.2.2.2.2 ∧ C9 x.2.2.2.2.2 ([Ty.mk tk tks] ++ I0 (ks.take x.1)) x.2.2.2.2.1 ∧ ([Ty.mk tk tks] ++ I0 (ks.take x.1)).length = x.2.1) (fun x => ks.length - x.1) (0, 1, pn0, cn0, [[.int .i64 tk, .slice p1 tks.length c1]], G1) ?_ ?_ ?_)
 (simp only [H6]; exact D2)
 (exact ⟨Nat.zero_le _, hle1, (by show C9 G1 ([Ty.mk tk tks] ++ I0 (ks.take 0)) _; rw [List.take_zero, I0, List.append_nil]; exact hinit), by simp [I0]⟩)
 (rintro ⟨(i : Nat), (m : Nat), pn, cn, es, Gi⟩ ⟨hi, hle, hst, hlen⟩; simp only [] at hi hle hst hlen ⊢; replace hsl := hsl.mono hle; replace hkl := hkl.mono hle; have hb1 := A0Z (ks.take i); have hb2 := A0Z ks; simp only [List.length_append, List.length_singleton, List.length_nil] at hlen)
 refine A3 ?_
 refine sB (I8 rfl rfl) rfl rfl (fun h46 => ?_) (fun h46 => ?_)
 refine B5 ?_
 refine C0 ?_
 refine A3 ?_
 (obtain ⟨b, o, e, rfl, hl, hat, hre, hgb⟩ := hsl.kidTm hkl (i := i) (by omega) (by omega); have hone9 := hre.one; have hsc := A0M (ks := ks) (i := i) (by omega); have hsk := A0L (ks := ks) (i := i) (by omega); refine sP (B6 rfl rfl rfl (by omega)) rfl rfl ?_)
 refine sL (A2 rfl rfl (hat _) hl) rfl rfl ?_
 refine sE (A7 rfl) rfl (fun b59 => ?_)
 refine sS rfl rfl rfl hl hone9 rfl ?_ (hu := by exact D4 hl.symm)
 refine B4 ?_
 refine sL (A2 rfl rfl (A9 (by repeat first | exact mH | apply mT)) hl) rfl rfl ?_
 (refine U6 rfl (ih ks[i] (List.getElem_mem (by omega)) _ _ (Tm.smallL_mem hks _ (List.getElem_mem (by omega))) (by omega) hre) rfl rfl (fun v G3 outs hle3 hh => ?_); obtain ⟨p3, c3, e3, rfl, rfl, hr3⟩ := hh; have hlk := A5C ks[i]; refine R9 (cs := e3.flatten) Pk.here (fun G4 hle4 hsl4 hno4 => ?_); refine B1E (cs := es.flatten) (by repeat (first | exact Pk.here | apply Pk.there)) (fun hcap => ?_))
 (refine A31 rfl rfl rfl rfl rfl (fun _ _ => by repeat (first | exact Sw.here | apply Sw.there)) hsl4 hr3.ones hcap (by unfold maxLen; omega) (by omega) rfl (fun p4 c4 => ?_))
 refine B0 ?_
 refine sP (H5 rfl rfl (by omega) (by omega)) rfl rfl ?_
 refine A3 ?_
 (have hap := C9.append (hst.mono (hle3.trans hle4)) (hr3.mono hle4); refine I1 (i + 1, m + (H0 ks[i]).length, p4, c4, es ++ e3, G4) (by simp only [List.flatten_append]; exact (K2 (by repeat (first | exact D8.nil | refine D8.cons rfl ?_)) (by repeat (first | exact A0.refl | exact A0.nil | refine A0.cons (by repeat (first | exact Pk.here | apply Pk.there)) ?_ | apply A0.drop)))) ?_ ?_)
 exact B1F
 exact V0
 refine I7 ?_
 (obtain rfl : i = ks.length := (by omega))
 refine tT ?_
 refine H9 (outs := [.slc pn cn 34 2 m es.flatten]) (rT rfl) (A0.cons (by repeat (first | exact Pk.here | apply Pk.there)) A0.nil) ?_
 exact B1G
 refine J9 ?_
 refine C0 ?_
 (have h14 := hcn (by assumption); refine Q9 34 2 ?_; refine J0 (fun (x : Nat × Nat × Option Addr × Nat × List (List Value) × IM) => ⟨[(17, .int .i64 x.1), (16, .int .i64 ks.length), (15, .slice q ks.length cq), (3, .slice x.2.2.1 x.2.1 x.2.2.2.1)], [.slc x.2.2.1 x.2.2.2.1 34 2 x.2.1 x.2.2.2.2.1.flatten], x.2.2.2.2.2⟩) (fun x => x.1 ≤ ks.length ∧ C2 G x.2.2.2.2.2 ∧ C9 x.2.2.2.2.2 ([] ++ I0 (ks.take x.1)) x.2.2.2.2.1 ∧ ([] ++ I0 (ks.take x.1)).length = x.2.1) (fun x => ks.length - x.1) (0, 0, none, 0, [], G) ?_ ?_ ?_)
 (simp only [H6]; exact D2)
 (exact ⟨Nat.zero_le _, C2.refl _, by simp [I0, C9], by simp [I0]⟩)
 (rintro ⟨(i : Nat), (m : Nat), pn, cn, es, Gi⟩ ⟨hi, hle, hst, hlen⟩; simp only [] at hi hle hst hlen ⊢; replace hsl := hsl.mono hle; replace hkl := hkl.mono hle; have hb1 := A0Z (ks.take i); have hb2 := A0Z ks; simp only [List.length_append, List.length_singleton, List.length_nil] at hlen)
 refine A3 ?_
 refine sB (I8 rfl rfl) rfl rfl (fun h119 => ?_) (fun h119 => ?_)
 refine B5 ?_
 refine C0 ?_
 refine A3 ?_
 (obtain ⟨b, o, e, rfl, hl, hat, hre, hgb⟩ := hsl.kidTm hkl (i := i) (by omega) (by omega); have hone9 := hre.one; have hsc := A0M (ks := ks) (i := i) (by omega); have hsk := A0L (ks := ks) (i := i) (by omega); refine sP (B6 rfl rfl rfl (by omega)) rfl rfl ?_)
 refine sL (A2 rfl rfl (hat _) hl) rfl rfl ?_
 refine sE (A7 rfl) rfl (fun b132 => ?_)
 refine sS rfl rfl rfl hl hone9 rfl ?_ (hu := by exact D4 hl.symm)
 refine B4 ?_
 refine sL (A2 rfl rfl (A9 (by repeat first | exact mH | apply mT)) hl) rfl rfl ?_
 (refine U6 rfl (ih ks[i] (List.getElem_mem (by omega)) _ _ (Tm.smallL_mem hks _ (List.getElem_mem (by omega))) (by omega) hre) rfl rfl (fun v G3 outs hle3 hh => ?_); obtain ⟨p3, c3, e3, rfl, rfl, hr3⟩ := hh; have hlk := A5C ks[i]; refine R9 (cs := e3.flatten) Pk.here (fun G4 hle4 hsl4 hno4 => ?_); refine B1E (cs := es.flatten) (by repeat (first | exact Pk.here | apply Pk.there)) (fun hcap => ?_))
 (refine A31 rfl rfl rfl rfl rfl (fun _ _ => by repeat (first | exact Sw.here | apply Sw.there)) hsl4 hr3.ones hcap (by unfold maxLen; omega) (by omega) rfl (fun p4 c4 => ?_))
 refine B0 ?_
 refine sP (H5 rfl rfl (by omega) (by omega)) rfl rfl ?_
 refine A3 ?_
 (have hap := C9.append (hst.mono (hle3.trans hle4)) (hr3.mono hle4); refine I1 (i + 1, m + (H0 ks[i]).length, p4, c4, es ++ e3, G4) (by simp only [List.flatten_append]; exact (K2 (by repeat (first | exact D8.nil | refine D8.cons rfl ?_)) (by repeat (first | exact A0.refl | exact A0.nil | refine A0.cons (by repeat (first | exact Pk.here | apply Pk.there)) ?_ | apply A0.drop)))) ?_ ?_)
 exact B1F
 exact V0
 refine I7 ?_
 (obtain rfl : i = ks.length := (by omega))
 refine tT ?_
 refine H9 (outs := [.slc pn cn 34 2 m es.flatten]) (rT rfl) (A0.cons (by repeat (first | exact Pk.here | apply Pk.there)) A0.nil) ?_
 exact B1G
end Gw
end Go.Proofs.YtebfignffjhnhaaGreatDoor
