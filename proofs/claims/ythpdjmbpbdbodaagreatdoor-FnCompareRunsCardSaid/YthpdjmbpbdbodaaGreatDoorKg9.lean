/-
  Terms with other types: the reference's. WithTypes of the reference. Drawn terms that are small, terms with blurred types, fuel. Drawn arguments of runs. The laws FnCompareRuns, FnGuaranteeBlame, FnGuaranteeChain.
-/
import Derived.Test.YthpdjmbpbdbodaaGreatDoorKg8
import Derived.Test.YthpdjmbpbdbodaaGreatDoorKg2
import Derived.Test.YthpdjmbpbdbodaaGreatDoorKg3
import Derived.Test.YthpdjmbpbdbodaaGreatDoorKg7
set_option linter.unusedVariables false
set_option linter.unusedSimpArgs false
set_option maxHeartbeats 0
set_option maxRecDepth 100000
set_option synthInstance.maxSize 4000
set_option synthInstance.maxHeartbeats 0
namespace Go.Proofs.YthpdjmbpbdbodaaGreatDoor
open Go Go.RowKit
namespace Gw
def A26 (u : Tm) (n : Int) : IM → Value → List A6 → Prop := fun G' v outs => outs = [] ∧ ∃ cu, v = .tuple ⟨[.agg ⟨cu⟩, .int .i64 n]⟩ ∧ A9 G' u cu
theorem A26.mk {G' : IM} {k : Int} {nm : ByteArray} {num : Int} {ty fr : Ty} {lb : Int} {ks : List Tm} {tk fk : Int} {pt pf : Option Addr} {nt ct nf cf : Nat} {p : Option Addr} {m c : Nat} {es : List (List Value)} {a n : Int}
  (hk : F0 k) (hnum : F0 num) (hlb : F0 lb) (hty : B6 G' ty [.int .i64 tk, .slice pt nt ct]) (hfr : B6 G' fr [.int .i64 fk, .slice pf nf cf]) (hm : m = ks.length) (hs : Sl G' p m c 9 es.flatten) (hr : D6 G' ks es) (ha : a = n) :
  A26 (.mk k nm num ty fr lb ks) n G' (.tuple ⟨[.agg ⟨[.int .i64 k, .string nm, .int .i64 num, .int .i64 tk, .slice pt nt ct, .int .i64 fk, .slice pf nf cf, .int .i64 lb, .slice p m c]⟩, .int .i64 a]⟩) [] := by
 subst hm ha
 refine ⟨rfl, _, rfl, ?_⟩
 simp only [A9]
 exact ⟨_, _, p, c, es, rfl, hk, hnum, hlb, hty, hfr, D3.of hs hr.len hr.all (fun e he => by obtain ⟨j, hj⟩ := List.getElem?_of_mem he; exact (hr.inv hj I2).2.one), hr⟩
theorem B5v (L : List Ty) (p : Option Addr) (c : Nat) (hsmL : ∀ u ∈ L, u.small) : ∀ (t : Tm) (a : Nat) (G : IM) (cells : List Value) (el : List (List Value)), a + (P0 t).length ≤ L.length → L.length ≤ 4000000 → t.small → D0 t ≤ 4000000 → A9 G t cells → D3 G p L.length c 2 el → C9 G L el →
  Fn Tryz.prog 125 [.agg ⟨cells⟩, .slice p L.length c, .int .i64 (a : Int)] [] G (A26 (A0F t (L.drop a)) ((a + (P0 t).length : Nat) : Int)) := by
 refine Tm.ind fun k nm num ty fr lb ks ih a G cells el hlen hLb hts hcnt hr hse hel => ?_
 have hone := hr.one
 have hlen9 := hr.len
 simp only [Tm.small] at hts
 obtain ⟨_, hty', hfr', hsm, hks⟩ := hts
 have hcy : k = 5 ∨ k = 13 → P0 (.mk k nm num ty fr lb ks) = [ty] ++ K7 ks := fun h => by rw [P0, if_pos h]
 have hcn : ¬ (k = 5 ∨ k = 13) → P0 (.mk k nm num ty fr lb ks) = K7 ks := fun h => by rw [P0, if_neg h, List.nil_append]
 have hwy : k = 5 ∨ k = 13 → A0F (.mk k nm num ty fr lb ks) (L.drop a) = .mk k nm num ((L.drop a).getD 0 B2) fr lb (U4 ks (L.drop (a + 1))) := fun h => by rw [A0F, if_pos h, if_pos h, List.drop_drop]
 have hwn : ¬ (k = 5 ∨ k = 13) → A0F (.mk k nm num ty fr lb ks) (L.drop a) = .mk k nm num ty fr lb (U4 ks (L.drop a)) := fun h => by rw [A0F, if_neg h, if_neg h]
 rw [D0] at hcnt
 obtain ⟨tk, tks⟩ := ty
 obtain ⟨fk, fks⟩ := fr
 obtain ⟨pt, ct, pf, cf, q, cq, ek, rfl, hk, hnum, hlb, hty, hfr, hsl, hkl⟩ := hr.open9
 have hn := hsl.le
 have hkn := A5l ks
 have hT := P3 (.mk tk tks) G _ hty' hty
 refine B7 Tryz.func125 rfl Tryz.ntmps125 Tryz.results125 rfl ?_
 intro w0
 refine tS (tR ?_)
 refine sE (C2 rfl rfl) rfl (fun b3 => ?_)
 refine sE (A7 rfl) rfl (fun b4 => ?_)
 refine H6 ?_
 refine sE (A7 rfl) rfl (fun b11 => ?_)
 refine C4 ?_
 (refine E4 rfl hT rfl rfl (fun v G1 hle1 hh => ?_); obtain ⟨cs1, F1, rfl, hs1, hn1⟩ := hh; have hr1 := hs1.R.mono (C5.le _ _); obtain ⟨p1, c1, rfl, _⟩ := hs1.open; have hF := P3 (.mk fk fks) G1 _ hfr' (hfr.mono hle1))
 refine D2 ?_
 (refine E4 rfl hF rfl rfl (fun v G2 hle2 hh => ?_); obtain ⟨cs2, F2, rfl, hs2, hn2⟩ := hh; have hr2 := hs2.R.mono (C5.le _ _); obtain ⟨p2, c2, rfl, _⟩ := hs2.open; have hle12 := hle1.trans hle2; replace hsl := hsl.mono hle12; replace hkl := hkl.mono hle12; replace hse := hse.mono hle12; replace hel := hel.mono hle12)
 refine H4 ?_
 refine sB (qE rfl rfl) rfl rfl (fun h44 => ?_) (fun h44 => ?_)
 refine N5 ?_
 (have hL1 := hcy (by omega); have h1 : a + (1 + (K7 ks).length) ≤ L.length := (by rw [hL1] at hlen; simp only [List.length_append, List.length_singleton] at hlen; omega); obtain ⟨b0, o0, p20, c20, rfl, hat0, hre0, hgb0⟩ := hse.kidTy hel (i := a) (by omega) (by omega); obtain ⟨T0, hT0⟩ : ∃ T, T = L[a]'(by omega) := ⟨_, rfl⟩; have hs0 := hsmL _ (List.getElem_mem (show a < L.length by omega)); rw [← hT0] at hre0 hat0 hs0; have hO := P3 T0 G2 _ hs0 hre0; refine sP (B3 rfl rfl rfl (by omega)) rfl rfl ?_)
 refine sL (A3 rfl rfl (hat0 _) rfl) rfl rfl ?_
 (refine E4 rfl hO rfl rfl (fun v G3 hle3 hh => ?_); obtain ⟨cs3, F3, rfl, hs3, hn3⟩ := hh; have hr3 := hs3.R.mono (C5.le _ _); obtain ⟨p3, c3, rfl, _⟩ := hs3.open)
 refine sQ (B0 rfl) rfl (F9 ?_)
 refine sD (nS (tR (sQ (qM rfl) rfl ?_)))
 refine sP (J2 rfl rfl (by omega) (by omega)) rfl rfl ?_
 refine D9 ?_
 refine B8 ?_
 (have hL2 := hcy (by omega); have hW2 := hwy (by omega); refine U5 28 9 ?_; refine J8 (fun (x : Nat × Option Addr × Nat × List (List Value) × IM) => ⟨[(9, .int .i64 x.1), (2, .int .i64 ((a + 1 + (K7 (ks.take x.1)).length : Nat) : Int)), (1, .slice (some ⟨b0, o0, none⟩) L.length c), (3, .pointer (some ⟨b3, 0, none⟩)), (8, .pointer (some ⟨b11, 0, none⟩)), (6, .pointer (some ⟨b4, 0, none⟩))], [.blk b11 [.int .i64 k, .string nm, .int .i64 num, .int .i64 T0.k, .slice p3 T0.ks.length c3, .int .i64 fk, .slice p2 fks.length c2, .int .i64 lb, .slice x.2.1 x.1 x.2.2.1], .slc x.2.1 x.2.2.1 28 9 x.1 x.2.2.2.1.flatten, .blk b4 [.int .i64 0, .string ⟨⟨[]⟩⟩, .int .i64 0, .int .i64 0, .slice none 0 0, .int .i64 0, .slice none 0 0, .int .i64 0, .slice none 0 0], .blk b3 [.int .i64 k, .string nm, .int .i64 num, .int .i64 tk, .slice pt tks.length ct, .int .i64 fk, .slice pf fks.length cf, .int .i64 lb, .slice q ks.length cq]], x.2.2.2.2⟩) (fun x => x.1 ≤ ks.length ∧ B9 G3 x.2.2.2.2 ∧ D6 x.2.2.2.2 (U4 (ks.take x.1) (L.drop (a + 1))) x.2.2.2.1) (fun x => ks.length - x.1) (0, none, 0, [], G3) ?_ ?_ ?_)
 (simp only [J5]; exact D8)
 (exact ⟨Nat.zero_le _, B9.refl _, by simp [U4, D6]⟩)
 (rintro ⟨(i : Nat), pn, cn, es, Gi⟩ ⟨hi, hle, hst⟩; simp only [] at hi hle hst ⊢)
 refine C4 ?_
 refine sB (J4 rfl rfl) rfl rfl (fun h88 => ?_) (fun h88 => ?_)
 refine sD (nS (qT rfl (tK (nS (tS ?_)))))
 refine B8 ?_
 refine tS (tR (sQ (Q3 rfl rfl) rfl ?_))
 refine sE (A7 rfl) rfl (fun b99 => ?_)
 refine D2 ?_
 (obtain ⟨b, o, e, rfl, hl, hat, hre, hgb⟩ := (hsl.mono (by first | exact hle | exact hle3.trans hle)).kidTm (hkl.mono (by first | exact hle | exact hle3.trans hle)) (i := i) (by omega) (by omega); have hone9 := hre.one; have hsc := A1A (ks := ks) (i := i) (by omega); have hsk := A1z (ks := ks) (i := i) (by omega); have hts1 := A6D (ks := ks) (i := i) (by omega); have e9 : (K7 (ks.take (i + 1))).length = (K7 (ks.take i)).length + (P0 ks[i]).length := (by rw [A1n (by omega), List.length_append]); refine sP (B3 rfl rfl rfl (by omega)) rfl rfl ?_)
 refine sL (A3 rfl rfl (hat _) hl) rfl rfl ?_
 refine sQ (qM rfl) rfl (sQ (qM rfl) rfl ?_)
 (have hih := ih ks[i] (List.getElem_mem (by omega)) _ Gi e el (by rw [hL2] at hlen; (try simp only [List.length_append, List.length_singleton] at hlen); first | exact (show a + 1 + (K7 (ks.take i)).length + (P0 ks[i]).length ≤ L.length by omega) | exact (show a + (K7 (ks.take i)).length + (P0 ks[i]).length ≤ L.length by omega)) hLb (Tm.smallL_mem hks _ (List.getElem_mem (by omega))) (by omega) hre (hse.mono (by first | exact hle | exact hle3.trans hle)) (hel.mono (by first | exact hle | exact hle3.trans hle)); refine A1w rfl hih rfl rfl (fun v G7 outs hle7 hh => ?_); obtain ⟨rfl, cu, rfl, hru⟩ := hh; rw [← List.drop_drop] at hru; have hsn := D6.snoc (hst.mono hle7) hru; obtain ⟨u1, u2, u3, u4, u5, u6, u7, u8, u9, rfl⟩ : ∃ u1 u2 u3 u4 u5 u6 u7 u8 u9, cu = [u1, u2, u3, u4, u5, u6, u7, u8, u9] := (by obtain ⟨_, _, _, _, _, _, _, _, _, rfl, _⟩ := hru.open; exact ⟨_, _, _, _, _, _, _, _, _, rfl⟩); have huo := hru.one)
 refine J7 ?_
 refine sS rfl rfl rfl rfl huo rfl ?_
 refine C4 ?_
 (refine J1 (C7 rfl rfl rfl (by omega) (by unfold maxLen; omega) rfl) rfl ?_; rintro _ ⟨b124, rfl⟩)
 (refine A08 rfl rfl rfl rfl rfl (fun _ _ => by repeat (first | exact Sw.here | apply Sw.there)) (N9 (by repeat first | exact mH | apply mT)) rfl (fun u hu => List.all_eq_true.1 huo u hu) (by unfold maxLen; omega) (by omega) rfl (fun p4 c4 => ?_))
 refine C4 ?_
 refine sP (J2 rfl rfl (by omega) (by omega)) rfl rfl ?_
 refine sQ (qA rfl) rfl (sD ?_)
 (rw [← A6C (by omega)] at hsn; refine J9 (i + 1, p4, c4, es ++ [[u1, u2, u3, u4, u5, u6, u7, u8, u9]], G7) (by simp only [List.flatten_append, List.flatten_cons, List.flatten_nil, List.append_nil, e9, ← Nat.add_assoc]; exact (M0 (by repeat (first | exact E1.nil | refine E1.cons rfl ?_)) (by repeat (first | exact A0.refl | exact A0.nil | refine A0.cons (by repeat (first | exact Pk.here | apply Pk.there)) ?_ | apply A0.drop)))) ?_ ?_)
 (dsimp only; exact ⟨by omega, hle.trans hle7, hsn⟩)
 (show ks.length - (i + 1) < ks.length - i; omega)
 refine K0 ?_
 (refine H0 (cs := es.flatten) (by repeat (first | exact Pk.here | apply Pk.there)) (fun G9 hle9 hsl9 hno9 => ?_); obtain rfl : i = ks.length := (by omega); rw [List.take_length] at hst)
 refine tT ?_
 refine I1 (rC rfl (A5 rfl rfl)) (rT rfl) ?_
 (rw [hW2, hL2]; exact A26.mk hk hnum hlb (by first | (rw [List.getD_eq_getElem?_getD, List.getElem?_drop, Nat.add_zero, List.getElem?_eq_getElem (by omega), Option.getD_some, ← hT0]; exact hr3.mono (hle.trans hle9)) | exact hr1.mono (hle2.trans (hle.trans hle9))) (by first | exact hr2.mono (hle3.trans (hle.trans hle9)) | exact hr2.mono (hle.trans hle9)) (by rw [A3S]) hsl9 (hst.mono hle9) (by (simp only [List.take_length, List.length_append, List.length_singleton]) <;> omega))
 refine J7 ?_
 refine sB (qE rfl rfl) rfl rfl (fun h162 => ?_) (fun h162 => ?_)
 refine D2 ?_
 (have hL1 := hcy (by omega); have h1 : a + (1 + (K7 ks).length) ≤ L.length := (by rw [hL1] at hlen; simp only [List.length_append, List.length_singleton] at hlen; omega); obtain ⟨b0, o0, p20, c20, rfl, hat0, hre0, hgb0⟩ := hse.kidTy hel (i := a) (by omega) (by omega); obtain ⟨T0, hT0⟩ : ∃ T, T = L[a]'(by omega) := ⟨_, rfl⟩; have hs0 := hsmL _ (List.getElem_mem (show a < L.length by omega)); rw [← hT0] at hre0 hat0 hs0; have hO := P3 T0 G2 _ hs0 hre0; refine sP (B3 rfl rfl rfl (by omega)) rfl rfl ?_)
 refine sL (A3 rfl rfl (hat0 _) rfl) rfl rfl ?_
 (refine E4 rfl hO rfl rfl (fun v G3 hle3 hh => ?_); obtain ⟨cs3, F3, rfl, hs3, hn3⟩ := hh; have hr3 := hs3.R.mono (C5.le _ _); obtain ⟨p3, c3, rfl, _⟩ := hs3.open)
 refine sQ (B0 rfl) rfl (F9 ?_)
 refine sD (nS (tR (sQ (qM rfl) rfl ?_)))
 refine sP (J2 rfl rfl (by omega) (by omega)) rfl rfl ?_
 refine D9 ?_
 refine B8 ?_
 (have hL2 := hcy (by omega); have hW2 := hwy (by omega); refine U5 28 9 ?_; refine J8 (fun (x : Nat × Option Addr × Nat × List (List Value) × IM) => ⟨[(9, .int .i64 x.1), (2, .int .i64 ((a + 1 + (K7 (ks.take x.1)).length : Nat) : Int)), (1, .slice (some ⟨b0, o0, none⟩) L.length c), (3, .pointer (some ⟨b3, 0, none⟩)), (8, .pointer (some ⟨b11, 0, none⟩)), (6, .pointer (some ⟨b4, 0, none⟩))], [.blk b11 [.int .i64 k, .string nm, .int .i64 num, .int .i64 T0.k, .slice p3 T0.ks.length c3, .int .i64 fk, .slice p2 fks.length c2, .int .i64 lb, .slice x.2.1 x.1 x.2.2.1], .slc x.2.1 x.2.2.1 28 9 x.1 x.2.2.2.1.flatten, .blk b4 [.int .i64 0, .string ⟨⟨[]⟩⟩, .int .i64 0, .int .i64 0, .slice none 0 0, .int .i64 0, .slice none 0 0, .int .i64 0, .slice none 0 0], .blk b3 [.int .i64 k, .string nm, .int .i64 num, .int .i64 tk, .slice pt tks.length ct, .int .i64 fk, .slice pf fks.length cf, .int .i64 lb, .slice q ks.length cq]], x.2.2.2.2⟩) (fun x => x.1 ≤ ks.length ∧ B9 G3 x.2.2.2.2 ∧ D6 x.2.2.2.2 (U4 (ks.take x.1) (L.drop (a + 1))) x.2.2.2.1) (fun x => ks.length - x.1) (0, none, 0, [], G3) ?_ ?_ ?_)
 (simp only [J5]; exact D8)
 (exact ⟨Nat.zero_le _, B9.refl _, by simp [U4, D6]⟩)
 (rintro ⟨(i : Nat), pn, cn, es, Gi⟩ ⟨hi, hle, hst⟩; simp only [] at hi hle hst ⊢)
 refine C4 ?_
 refine sB (J4 rfl rfl) rfl rfl (fun h202 => ?_) (fun h202 => ?_)
 refine sD (nS (qT rfl (tK (nS (tS ?_)))))
 refine B8 ?_
 refine tS (tR (sQ (Q3 rfl rfl) rfl ?_))
 refine sE (A7 rfl) rfl (fun b213 => ?_)
 refine D2 ?_
 (obtain ⟨b, o, e, rfl, hl, hat, hre, hgb⟩ := (hsl.mono (by first | exact hle | exact hle3.trans hle)).kidTm (hkl.mono (by first | exact hle | exact hle3.trans hle)) (i := i) (by omega) (by omega); have hone9 := hre.one; have hsc := A1A (ks := ks) (i := i) (by omega); have hsk := A1z (ks := ks) (i := i) (by omega); have hts1 := A6D (ks := ks) (i := i) (by omega); have e9 : (K7 (ks.take (i + 1))).length = (K7 (ks.take i)).length + (P0 ks[i]).length := (by rw [A1n (by omega), List.length_append]); refine sP (B3 rfl rfl rfl (by omega)) rfl rfl ?_)
 refine sL (A3 rfl rfl (hat _) hl) rfl rfl ?_
 refine sQ (qM rfl) rfl (sQ (qM rfl) rfl ?_)
 (have hih := ih ks[i] (List.getElem_mem (by omega)) _ Gi e el (by rw [hL2] at hlen; (try simp only [List.length_append, List.length_singleton] at hlen); first | exact (show a + 1 + (K7 (ks.take i)).length + (P0 ks[i]).length ≤ L.length by omega) | exact (show a + (K7 (ks.take i)).length + (P0 ks[i]).length ≤ L.length by omega)) hLb (Tm.smallL_mem hks _ (List.getElem_mem (by omega))) (by omega) hre (hse.mono (by first | exact hle | exact hle3.trans hle)) (hel.mono (by first | exact hle | exact hle3.trans hle)); refine A1w rfl hih rfl rfl (fun v G7 outs hle7 hh => ?_); obtain ⟨rfl, cu, rfl, hru⟩ := hh; rw [← List.drop_drop] at hru; have hsn := D6.snoc (hst.mono hle7) hru; obtain ⟨u1, u2, u3, u4, u5, u6, u7, u8, u9, rfl⟩ : ∃ u1 u2 u3 u4 u5 u6 u7 u8 u9, cu = [u1, u2, u3, u4, u5, u6, u7, u8, u9] := (by obtain ⟨_, _, _, _, _, _, _, _, _, rfl, _⟩ := hru.open; exact ⟨_, _, _, _, _, _, _, _, _, rfl⟩); have huo := hru.one)
 refine J7 ?_
 refine sS rfl rfl rfl rfl huo rfl ?_
 refine C4 ?_
 (refine J1 (C7 rfl rfl rfl (by omega) (by unfold maxLen; omega) rfl) rfl ?_; rintro _ ⟨b238, rfl⟩)
 (refine A08 rfl rfl rfl rfl rfl (fun _ _ => by repeat (first | exact Sw.here | apply Sw.there)) (N9 (by repeat first | exact mH | apply mT)) rfl (fun u hu => List.all_eq_true.1 huo u hu) (by unfold maxLen; omega) (by omega) rfl (fun p4 c4 => ?_))
 refine C4 ?_
 refine sP (J2 rfl rfl (by omega) (by omega)) rfl rfl ?_
 refine sQ (qA rfl) rfl (sD ?_)
 (rw [← A6C (by omega)] at hsn; refine J9 (i + 1, p4, c4, es ++ [[u1, u2, u3, u4, u5, u6, u7, u8, u9]], G7) (by simp only [List.flatten_append, List.flatten_cons, List.flatten_nil, List.append_nil, e9, ← Nat.add_assoc]; exact (M0 (by repeat (first | exact E1.nil | refine E1.cons rfl ?_)) (by repeat (first | exact A0.refl | exact A0.nil | refine A0.cons (by repeat (first | exact Pk.here | apply Pk.there)) ?_ | apply A0.drop)))) ?_ ?_)
 (dsimp only; exact ⟨by omega, hle.trans hle7, hsn⟩)
 (show ks.length - (i + 1) < ks.length - i; omega)
 refine K0 ?_
 (refine H0 (cs := es.flatten) (by repeat (first | exact Pk.here | apply Pk.there)) (fun G9 hle9 hsl9 hno9 => ?_); obtain rfl : i = ks.length := (by omega); rw [List.take_length] at hst)
 refine tT ?_
 refine I1 (rC rfl (A5 rfl rfl)) (rT rfl) ?_
 (rw [hW2, hL2]; exact A26.mk hk hnum hlb (by first | (rw [List.getD_eq_getElem?_getD, List.getElem?_drop, Nat.add_zero, List.getElem?_eq_getElem (by omega), Option.getD_some, ← hT0]; exact hr3.mono (hle.trans hle9)) | exact hr1.mono (hle2.trans (hle.trans hle9))) (by first | exact hr2.mono (hle3.trans (hle.trans hle9)) | exact hr2.mono (hle.trans hle9)) (by rw [A3S]) hsl9 (hst.mono hle9) (by (simp only [List.take_length, List.length_append, List.length_singleton]) <;> omega))
 refine N5 ?_
 refine B8 ?_
 (have hL2 := hcn (by omega); have hW2 := hwn (by omega); refine U5 28 9 ?_; refine J8 (fun (x : Nat × Option Addr × Nat × List (List Value) × IM) => ⟨[(9, .int .i64 x.1), (2, .int .i64 ((a + (K7 (ks.take x.1)).length : Nat) : Int)), (1, .slice p L.length c), (3, .pointer (some ⟨b3, 0, none⟩)), (8, .pointer (some ⟨b11, 0, none⟩)), (6, .pointer (some ⟨b4, 0, none⟩))], [.blk b11 [.int .i64 k, .string nm, .int .i64 num, .int .i64 tk, .slice p1 tks.length c1, .int .i64 fk, .slice p2 fks.length c2, .int .i64 lb, .slice x.2.1 x.1 x.2.2.1], .slc x.2.1 x.2.2.1 28 9 x.1 x.2.2.2.1.flatten, .blk b4 [.int .i64 0, .string ⟨⟨[]⟩⟩, .int .i64 0, .int .i64 0, .slice none 0 0, .int .i64 0, .slice none 0 0, .int .i64 0, .slice none 0 0], .blk b3 [.int .i64 k, .string nm, .int .i64 num, .int .i64 tk, .slice pt tks.length ct, .int .i64 fk, .slice pf fks.length cf, .int .i64 lb, .slice q ks.length cq]], x.2.2.2.2⟩) (fun x => x.1 ≤ ks.length ∧ B9 G2 x.2.2.2.2 ∧ D6 x.2.2.2.2 (U4 (ks.take x.1) (L.drop a)) x.2.2.2.1) (fun x => ks.length - x.1) (0, none, 0, [], G2) ?_ ?_ ?_)
 (simp only [J5]; exact D8)
 (exact ⟨Nat.zero_le _, B9.refl _, by simp [U4, D6]⟩)
 (rintro ⟨(i : Nat), pn, cn, es, Gi⟩ ⟨hi, hle, hst⟩; simp only [] at hi hle hst ⊢)
 refine C4 ?_
 refine sB (J4 rfl rfl) rfl rfl (fun h297 => ?_) (fun h297 => ?_)
 refine sD (nS (qT rfl (tK (nS (tS ?_)))))
 refine B8 ?_
 refine tS (tR (sQ (Q3 rfl rfl) rfl ?_))
 refine sE (A7 rfl) rfl (fun b308 => ?_)
 refine D2 ?_
 (obtain ⟨b, o, e, rfl, hl, hat, hre, hgb⟩ := (hsl.mono (by first | exact hle | exact hle3.trans hle)).kidTm (hkl.mono (by first | exact hle | exact hle3.trans hle)) (i := i) (by omega) (by omega); have hone9 := hre.one; have hsc := A1A (ks := ks) (i := i) (by omega); have hsk := A1z (ks := ks) (i := i) (by omega); have hts1 := A6D (ks := ks) (i := i) (by omega); have e9 : (K7 (ks.take (i + 1))).length = (K7 (ks.take i)).length + (P0 ks[i]).length := (by rw [A1n (by omega), List.length_append]); refine sP (B3 rfl rfl rfl (by omega)) rfl rfl ?_)
 refine sL (A3 rfl rfl (hat _) hl) rfl rfl ?_
 refine sQ (qM rfl) rfl (sQ (qM rfl) rfl ?_)
 (have hih := ih ks[i] (List.getElem_mem (by omega)) _ Gi e el (by rw [hL2] at hlen; (try simp only [List.length_append, List.length_singleton] at hlen); first | exact (show a + 1 + (K7 (ks.take i)).length + (P0 ks[i]).length ≤ L.length by omega) | exact (show a + (K7 (ks.take i)).length + (P0 ks[i]).length ≤ L.length by omega)) hLb (Tm.smallL_mem hks _ (List.getElem_mem (by omega))) (by omega) hre (hse.mono (by first | exact hle | exact hle3.trans hle)) (hel.mono (by first | exact hle | exact hle3.trans hle)); refine A1w rfl hih rfl rfl (fun v G7 outs hle7 hh => ?_); obtain ⟨rfl, cu, rfl, hru⟩ := hh; rw [← List.drop_drop] at hru; have hsn := D6.snoc (hst.mono hle7) hru; obtain ⟨u1, u2, u3, u4, u5, u6, u7, u8, u9, rfl⟩ : ∃ u1 u2 u3 u4 u5 u6 u7 u8 u9, cu = [u1, u2, u3, u4, u5, u6, u7, u8, u9] := (by obtain ⟨_, _, _, _, _, _, _, _, _, rfl, _⟩ := hru.open; exact ⟨_, _, _, _, _, _, _, _, _, rfl⟩); have huo := hru.one)
 refine J7 ?_
 refine sS rfl rfl rfl rfl huo rfl ?_
 refine C4 ?_
 (refine J1 (C7 rfl rfl rfl (by omega) (by unfold maxLen; omega) rfl) rfl ?_; rintro _ ⟨b333, rfl⟩)
 (refine A08 rfl rfl rfl rfl rfl (fun _ _ => by repeat (first | exact Sw.here | apply Sw.there)) (N9 (by repeat first | exact mH | apply mT)) rfl (fun u hu => List.all_eq_true.1 huo u hu) (by unfold maxLen; omega) (by omega) rfl (fun p4 c4 => ?_))
 refine C4 ?_
 refine sP (J2 rfl rfl (by omega) (by omega)) rfl rfl ?_
 refine sQ (qA rfl) rfl (sD ?_)
 (rw [← A6C (by omega)] at hsn; refine J9 (i + 1, p4, c4, es ++ [[u1, u2, u3, u4, u5, u6, u7, u8, u9]], G7) (by simp only [List.flatten_append, List.flatten_cons, List.flatten_nil, List.append_nil, e9, ← Nat.add_assoc]; exact (M0 (by repeat (first | exact E1.nil | refine E1.cons rfl ?_)) (by repeat (first | exact A0.refl | exact A0.nil | refine A0.cons (by repeat (first | exact Pk.here | apply Pk.there)) ?_ | apply A0.drop)))) ?_ ?_)
 (dsimp only; exact ⟨by omega, hle.trans hle7, hsn⟩)
 (show ks.length - (i + 1) < ks.length - i; omega)
 refine K0 ?_
 (refine H0 (cs := es.flatten) (by repeat (first | exact Pk.here | apply Pk.there)) (fun G9 hle9 hsl9 hno9 => ?_); obtain rfl : i = ks.length := (by omega); rw [List.take_length] at hst)
 refine tT ?_
 refine I1 (rC rfl (A5 rfl rfl)) (rT rfl) ?_
 (rw [hW2, hL2]; exact A26.mk hk hnum hlb (by first | (rw [List.getD_eq_getElem?_getD, List.getElem?_drop, Nat.add_zero, List.getElem?_eq_getElem (by omega), Option.getD_some, ← hT0]; exact hr3.mono (hle.trans hle9)) | exact hr1.mono (hle2.trans (hle.trans hle9))) (by first | exact hr2.mono (hle3.trans (hle.trans hle9)) | exact hr2.mono (hle.trans hle9)) (by rw [A3S]) hsl9 (hst.mono hle9) (by (simp only [List.take_length, List.length_append, List.length_singleton]) <;> omega))
def A1o (t : Tm) (L : List Ty) : Option Tm := if R0 t = true ∧ (A0r t).length = L.length ∧ ∀ u ∈ L, E8 u = true then some (A0F t L) else none
theorem B5w {t : Tm} {L : List Ty} (h : R0 t = true) (hl : (A0r t).length = L.length) (ha : ∀ j, j < L.length → (h : j < L.length) → E8 L[j] = true) : A1o t L = some (A0F t L) := by
 unfold A1o
 rw [if_pos ⟨h, hl, fun u hu => by obtain ⟨i, hi, rfl⟩ := List.mem_iff_getElem.1 hu; exact ha i hi hi⟩]
theorem B5x {t : Tm} {L : List Ty} (h : ¬(R0 t = true ∧ (A0r t).length = L.length ∧ ∀ u ∈ L, E8 u = true)) : A1o t L = none := by
 unfold A1o; rw [if_neg h]
def TmB (o : Option Tm) : IM → Value → List A6 → Prop := M4 fun G' v => ∃ cu, v = .tuple ⟨[.agg ⟨cu⟩, .bool o.isSome]⟩ ∧ A9 G' (o.getD I2) cu
theorem B5y {t : Tm} (h : R0 t = true) : A0r t = P0 t := by unfold A0r; rw [if_pos h]
theorem B5z (t : Tm) (L : List Ty) (G : IM) (cells : List Value) (p : Option Addr) (c : Nat) (es : List (List Value)) (hts : t.small) (hcnt : D0 t ≤ 4000000) (hLb : L.length ≤ 4000000) (hsm : ∀ u ∈ L, u.small) (hr : A9 G t cells) (hse : D3 G p L.length c 2 es) (hel : C9 G L es) :
  Fn Tryz.prog 82 [.agg ⟨cells⟩, .slice p L.length c] [] G (TmB (A1o t L)) := by
 have hl := hr.len
 have hone := hr.one
 have hyes := @B5w t L
 have hno := @B5x t L
 have htv := @B5y t
 have hT := A9V t G cells hts hcnt hr
 generalize A1o t L = R at hyes hno ⊢
 obtain ⟨TT, hTT⟩ : ∃ TT, A0r t = TT := ⟨_, rfl⟩
 rw [hTT] at hyes hno htv hT
 refine B7 Tryz.func82 rfl Tryz.ntmps82 Tryz.results82 rfl ?_
 intro w0
 refine tS (tR ?_)
 refine sE (C2 rfl rfl) rfl (fun b3 => ?_)
 refine sE (A7 rfl) rfl (fun b4 => ?_)
 refine sQ (qA rfl) rfl (sD (nS (tS (tS (tR ?_)))))
 refine sL (A3 rfl rfl (B1 (by repeat first | exact mH | apply mT)) hl) rfl rfl ?_
 (refine A1w rfl hT rfl rfl (fun v G1 outs hle1 hh => ?_); obtain ⟨p1, c1, e1, rfl, rfl, hr1⟩ := hh; replace hr := hr.mono hle1; replace hse := hse.mono hle1; replace hel := hel.mono hle1; have hv := A2N t G1 cells (by omega) hr)
 refine J7 ?_
 refine sB (M3 rfl rfl) rfl rfl (fun h16 => ?_) (fun h16 => ?_)
 refine T7 ?_
 refine I1 (rC rfl (A5 rfl rfl)) (rT rfl) ?_
 (rw [hno (fun hc => by first | omega | exact Bool.noConfusion (hc.1.symm.trans (show R0 t = false by assumption)) | exact Bool.noConfusion ((hc.2.2 _ (List.getElem_mem (show i < L.length by omega))).symm.trans (by assumption)))]; exact ⟨rfl, _, rfl, (P6.zero _).R⟩)
 refine sQ (qM rfl) rfl ?_
 refine sL (A3 rfl rfl (B1 (by repeat first | exact mH | apply mT)) hl) rfl rfl ?_
 refine E2 rfl (hv) rfl rfl (fun h38 => ?_) (fun h38 => ?_)
 refine I9 ?_
 refine B8 ?_
 (refine J8 (fun (x : Nat) => ⟨[(6, .int .i64 x), (1, .slice p L.length c), (2, .pointer (some ⟨b3, 0, none⟩)), (4, .pointer (some ⟨b4, 0, none⟩))], [.blk b4 [.int .i64 0, .string ⟨⟨[]⟩⟩, .int .i64 0, .int .i64 0, .slice none 0 0, .int .i64 0, .slice none 0 0, .int .i64 0, .slice none 0 0], .blk b3 cells], G1⟩) (fun x => x ≤ L.length ∧ ∀ j, j < x → (h : j < L.length) → E8 L[j] = true) (fun x => L.length - x) 0 ?_ ?_ ?_)
 exact D8
 (exact ⟨Nat.zero_le _, fun j hj => absurd hj (by omega)⟩)
 (rintro (i : Nat) ⟨hi, hval⟩)
 refine H6 ?_
 refine sB (J4 rfl rfl) rfl rfl (fun h63 => ?_) (fun h63 => ?_)
 refine sD (nS (qT rfl (tK (nS (tS ?_)))))
 refine B8 ?_
 refine tS (tR (sQ (qM rfl) rfl (sQ (qM rfl) rfl ?_)))
 (obtain ⟨b0, o0, p20, c20, rfl, hat0, hre0, hgb0⟩ := hse.kidTy hel (i := i) (by omega) (by omega); have hV := A1E _ G1 _ hre0; refine sP (B3 rfl rfl rfl (by omega)) rfl rfl ?_)
 refine sL (A3 rfl rfl (hat0 _) rfl) rfl rfl ?_
 refine E2 rfl (hV) rfl rfl (fun h77 => ?_) (fun h77 => ?_)
 refine D9 ?_
 refine sP (J2 rfl rfl (by omega) (by omega)) rfl rfl ?_
 refine sQ (qA rfl) rfl (sD ?_)
 refine J9 (i + 1) ?_ ?_ ?_
 exact D8
 (exact ⟨by omega, fun j hj hl => by rcases Nat.lt_succ_iff_lt_or_eq.1 hj with h | h; exact hval j h hl; subst h; assumption⟩)
 (show L.length - (i + 1) < L.length - i; omega)
 refine T7 ?_
 refine I1 (rC rfl (A5 rfl rfl)) (rT rfl) ?_
 (rw [hno (fun hc => by first | omega | exact Bool.noConfusion (hc.1.symm.trans (show R0 t = false by assumption)) | exact Bool.noConfusion ((hc.2.2 _ (List.getElem_mem (show i < L.length by omega))).symm.trans (by assumption)))]; exact ⟨rfl, _, rfl, (P6.zero _).R⟩)
 refine I5 ?_
 refine sL (A3 rfl rfl (B1 (by repeat first | exact mH | apply mT)) hl) rfl rfl ?_
 refine sQ (qM rfl) rfl ?_
 (have hTv := htv (by assumption); refine A1w rfl (B5v L p c hsm t 0 G1 cells es (by rw [← hTv]; omega) hLb hts hcnt hr hse hel) rfl rfl (fun v G3 outs hle3 hh => ?_); obtain ⟨rfl, cu, rfl, hru⟩ := hh; rw [List.drop_zero] at hru; have hul := hru.len; have huo := hru.one)
 refine J7 ?_
 refine sE (A7 rfl) rfl (fun b129 => ?_)
 refine sS rfl rfl rfl hul huo rfl ?_ (hu := by exact D1 hul.symm)
 refine sQ (qA rfl) rfl (sD (nS (tS (tR ?_))))
 refine sL (A3 rfl rfl (B1 (by repeat first | exact mH | apply mT)) hul) rfl rfl ?_
 refine sS rfl rfl rfl hul huo rfl ?_ (hu := by exact D1 hul.symm)
 refine sQ (qA rfl) rfl (sD (nS (tT ?_)))
 refine I1 (rC rfl (A3 rfl rfl (B1 (by repeat first | exact mH | apply mT)) hul)) (rT rfl) ?_
 (rw [hyes (by assumption) (by omega) (fun j hj => hval j (by omega))]; exact ⟨rfl, _, rfl, hru⟩)
 refine I6 ?_
 refine I1 (rC rfl (A5 rfl rfl)) (rT rfl) ?_
 (rw [hno (fun hc => by first | omega | exact Bool.noConfusion (hc.1.symm.trans (show R0 t = false by assumption)) | exact Bool.noConfusion ((hc.2.2 _ (List.getElem_mem (show i < L.length by omega))).symm.trans (by assumption)))]; exact ⟨rfl, _, rfl, (P6.zero _).R⟩)
theorem B5A {e : Tm} (h : (S8 e).isSome = true) : R0 e = true := by
 unfold S8 U3 at h
 split at h
 ·rename_i u t hx
  split at hx
  ·assumption
  ·cases hx
 ·cases h
mutual
theorem A9W : ∀ (t : Tm) (d : Int), M9 12 14 t d = true → t.small
 | .mk k nm num ty fr lb ks, d, h => by
  obtain ⟨_, h2, h3, h4⟩ := A0t h
  obtain ⟨n1, n2, n3, n4, n5, n6, n7, n8, n9⟩ := T8.1 h3
  rw [Tm.small]
  refine ⟨by have := A8e h3; omega, (A2S h3).1.small, by rw [A1T (n9 h2).1]; exact A2t, ?_, A9X ks _ h4⟩
  have := A1f k; omega
theorem A9X : ∀ (ts : List Tm) (d : Int), N7 12 14 ts d = true → Tm.smallL ts
 | [], _, _ => by rw [Tm.smallL]; trivial
 | t :: ts, d, h => by
  rw [N7, Bool.and_eq_true] at h
  rw [Tm.smallL]
  exact ⟨A9W t d h.1, A9X ts d h.2⟩
end
theorem B5B {e : Tm} (h : R0 e = true) : e.fit 30 := by
 obtain ⟨h1, h2⟩ := (A0B e).1 h
 exact ⟨A9W e 1 h1, h2⟩
theorem Tm.fit.le {e : Tm} {n m : Nat} (h : e.fit n) (hm : n ≤ m) : e.fit m := ⟨h.1, Nat.le_trans h.2 hm⟩
mutual
theorem A9Y : ∀ (t : Tm) (d : Int), M9 12 14 t d = true → ∀ u ∈ P0 t, E8 u = true
 | .mk k nm num ty fr lb ks, d, h => by
  obtain ⟨_, h2, h3, h4⟩ := A0t h
  obtain ⟨n1, n2, n3, n4, n5, n6, n7, n8, n9⟩ := T8.1 h3
  intro u hu
  rw [P0, List.mem_append] at hu
  rcases hu with hu | hu
  ·split at hu
   ·rename_i hk
    obtain rfl := List.mem_singleton.1 hu
    exact n6 (by omega)
   ·simp at hu
  ·exact A9Z ks _ h4 u hu
theorem A9Z : ∀ (ts : List Tm) (d : Int), N7 12 14 ts d = true → ∀ u ∈ K7 ts, E8 u = true
 | [], _, _ => by simp [K7]
 | t :: ts, d, h => by
  rw [N7, Bool.and_eq_true] at h
  intro u hu
  rw [K7, List.mem_append] at hu
  rcases hu with hu | hu
  ·exact A9Y t d h.1 u hu
  ·exact A9Z ts d h.2 u hu
end
theorem B5C (e : Tm) : (A0r e).length ≤ 30 ∧ ∀ u ∈ A0r e, E8 u = true := by
 unfold A0r
 split
 ·rename_i h
  obtain ⟨h1, h2⟩ := (A0B e).1 h
  exact ⟨by have := A9S e; omega, A9Y e 1 h1⟩
 ·simp
mutual
theorem A90 : ∀ (t : Tm) (l : List Ty), t.small → (∀ u ∈ l, u.small) → (A0F t l).small ∧ D0 (A0F t l) = D0 t
 | .mk k nm num ty fr lb ks, l, h, hl => by
  obtain ⟨h1, h2, h3, h4, h5⟩ := A0o.1 h
  rw [A0F]
  have hd : ∀ u ∈ (if k = 5 ∨ k = 13 then l.drop 1 else l), u.small := by
   intro u hu
   split at hu
   ·exact hl u (List.mem_of_mem_drop hu)
   ·exact hl u hu
  obtain ⟨g1, g2⟩ := A91 ks _ h5 hd
  refine ⟨A0o.2 ⟨h1, ?_, h3, by rw [A3S]; exact h4, g1⟩, by rw [Y1, Y1, g2]⟩
  split
  ·rw [List.getD_eq_getElem?_getD]
   cases hx : l[0]? with
   | none => exact A2t
   | some t => exact hl t (List.mem_of_getElem? hx)
  ·exact h2
theorem A91 : ∀ (ts : List Tm) (l : List Ty), Tm.smallL ts → (∀ u ∈ l, u.small) → Tm.smallL (U4 ts l) ∧ E3 (U4 ts l) = E3 ts
 | [], l, _, _ => by simp [U4, Tm.smallL, E3]
 | t :: ts, l, h, hl => by
  simp only [Tm.smallL] at h
  obtain ⟨a1, a2⟩ := A90 t l h.1 hl
  obtain ⟨b1, b2⟩ := A91 ts (l.drop (P0 t).length) h.2 (fun u hu => hl u (List.mem_of_mem_drop hu))
  simp only [U4, Tm.smallL, E3, a2, b2]
  exact ⟨⟨a1, b1⟩, trivial⟩
end
theorem B5D {t : Tm} {l : List Ty} {N : Nat} (h : t.fit N) (hl : ∀ u ∈ l, u.small) : ((A1o t l).getD I2).fit N := by
 unfold A1o
 split
 ·obtain ⟨h1, h2⟩ := A90 t l h.1 hl
  exact ⟨h1, by rw [Option.getD_some, h2]; exact h.2⟩
 ·refine ⟨A3A, ?_⟩
  have h2 := h.2
  have : 1 ≤ D0 t := by cases t; rw [Y1]; omega
  show D0 I2 ≤ N
  rw [A8q]; omega
theorem B5E {es : List (List Value)} {i sz : Nat} (hi : i < es.length) (ha : ∀ e ∈ es, e.length = sz) : ∀ j v, es[i][j]? = some v → es.flatten[0 + i * sz + j]? = some v := by
 intro j v hj
 have h1 : es.flatten = (es.take i).flatten ++ (es[i] ++ (es.drop (i + 1)).flatten) := by
  conv => lhs; rw [← List.take_append_drop i es, List.drop_eq_getElem_cons hi]
  rw [List.flatten_append, List.flatten_cons]
 have hA : ((es.take i).flatten).length = 0 + i * sz := by rw [A0J (fun e he => ha e (List.mem_of_mem_take he)), List.length_take, Nat.min_eq_left (by omega)]; omega
 have hjl : j < es[i].length := by
  apply Classical.byContradiction
  intro hn
  rw [List.getElem?_eq_none (by omega)] at hj
  cases hj
 rw [h1, List.getElem?_append_right (by omega), hA, show 0 + i * sz + j - (0 + i * sz) = j by omega, List.getElem?_append_left hjl, hj]
theorem A92 (br : Nat) (pb : Option Addr) (nb cb : Nat) (bs : List UInt8) (hnb : nb ≤ 2000) (p : Nat) (G : IM) (hb : Sl G pb nb cb 1 (O4 bs)) (hp : p < 1099511627776) :
  Fn Tryz.prog 27 [.pointer (some ⟨br, 0, none⟩)] [rd br pb nb cb p] G
   (A0m br pb nb cb p 1 (fun _ v => ∃ k, v = .int .i64 k ∧ F0 k)) := by
 refine B7 Tryz.func27 rfl Tryz.ntmps27 Tryz.results27 rfl ?_
 intro w0
 refine D2 ?_
 (refine J1 (C7 rfl rfl rfl (by omega) (by unfold maxLen; omega) rfl) rfl ?_; rintro _ ⟨b9, rfl⟩)
 (refine U6 (by repeat (first | exact Pk.here | apply Pk.there)) (fun Gf hlef hslf _ => ?_); refine J0 rfl (A0e Gf br pb nb cb p bs _ _ _ _ (hb.mono hlef) hnb (by omega) hslf (by decide)) (Pk.perm (by repeat (first | exact Pk.here | apply Pk.there))) rfl rfl (fun v Gm outs hlen hh => ?_); obtain ⟨rfl, rfl, hv⟩ := hh; obtain ⟨kn, rfl, hkn⟩ : ∃ k, v = .int .i64 k ∧ F0 k := (by simp only [List.mem_cons, List.not_mem_nil, or_false] at hv; rcases hv with rfl | rfl | rfl | rfl | rfl | rfl | rfl | rfl <;> exact ⟨_, rfl, by unfold F0; omega⟩))
 refine sQ (qA rfl) rfl (sD (nS (tT ?_)))
 refine H5 (outs := [rd br pb nb cb (p + 1)]) (rT rfl) (by repeat (first | exact A0.nil | refine A0.cons Pk.here ?_ | refine A0.cons (Pk.there Pk.here) ?_ | refine A0.cons (Pk.there (Pk.there Pk.here)) ?_ | apply A0.drop)) ?_
 (exact ⟨p + 1, by omega, by omega, rfl, kn, rfl, hkn⟩)
theorem A93 (br : Nat) (pb : Option Addr) (nb cb : Nat) (bs : List UInt8) (hnb : nb ≤ 2000) (p : Nat) (G : IM) (hb : Sl G pb nb cb 1 (O4 bs)) (hp : p + 9000000 < 1099511627776) :
  Fn Tryz.prog 40 [.pointer (some ⟨br, 0, none⟩)] [rd br pb nb cb p] G
   (A0m br pb nb cb p 9000000 (fun G' v => ∃ e cells, v = .agg ⟨cells⟩ ∧ A9 G' e cells ∧ e.fit 1100)) := by
 have hm8 : mB 8 = 1968200 := by decide
 refine B7 Tryz.func40 rfl Tryz.ntmps40 Tryz.results40 rfl ?_
 intro w0
 refine tS (tR ?_)
 refine sE (A7 rfl) rfl (fun b3 => ?_)
 refine sD (nS (tS (tS (tR (sQ (qA rfl) rfl (sD (nS ?_)))))))
 refine B8 ?_
 (refine J8 (fun (x : Nat × Nat × IM) => ⟨[(3, .int .i64 x.1), (0, .pointer (some ⟨br, 0, none⟩)), (2, .pointer (some ⟨b3, 0, none⟩))], [rd br pb nb cb x.2.1, .blk b3 [.int .i64 0, .string ⟨⟨[]⟩⟩, .int .i64 0, .int .i64 0, .slice none 0 0, .int .i64 0, .slice none 0 0, .int .i64 0, .slice none 0 0]], x.2.2⟩) (fun x => x.1 ≤ 4 ∧ B9 G x.2.2 ∧ p ≤ x.2.1 ∧ x.2.1 ≤ p + x.1 * 2000000) (fun x => 4 - x.1) (0, p, G) ?_ ?_ ?_)
 (simp only [J5]; exact D8)
 (exact ⟨by omega, B9.refl _, Nat.le_refl _, by dsimp only; omega⟩)
 (rintro ⟨(i : Nat), (p1 : Nat), G1⟩ ⟨hi, hleL, hpL, hpL2⟩; simp only [] at hi hleL hpL hpL2 ⊢; replace hb := hb.mono hleL)
 refine tS (tS (tR (sQ (qM rfl) rfl ?_)))
 refine sB (J4 rfl rfl) rfl rfl (fun h21 => ?_) (fun h21 => ?_)
 refine sD (nS (qT rfl (tK (nS (tS ?_)))))
 refine B8 ?_
 refine O7 ?_
 (refine J1 (C7 rfl rfl rfl (by omega) (by unfold maxLen; omega) rfl) rfl ?_; rintro _ ⟨b34, rfl⟩)
 (refine U6 (by repeat (first | exact Pk.here | apply Pk.there)) (fun Gf hlef hslf _ => ?_); refine J0 rfl (A0e Gf br pb nb cb (p1) bs _ _ _ _ (hb.mono hlef) hnb (by omega) hslf (by decide)) (Pk.perm (by repeat (first | exact Pk.here | apply Pk.there))) rfl rfl (fun v Gm outs hlen hh => ?_); obtain ⟨rfl, rfl, hv⟩ := hh; replace hb := hb.mono hlef; obtain ⟨dd, rfl, hdd⟩ : ∃ d : Nat, v = .int .i64 ((d + 1 : Nat) : Int) ∧ d ≤ 2 := (by simp only [List.mem_cons, List.not_mem_nil, or_false] at hv; rcases hv with rfl | rfl | rfl | rfl <;> first | exact ⟨0, rfl, by decide⟩ | exact ⟨1, rfl, by decide⟩ | exact ⟨2, rfl, by decide⟩); have hdB := A5T hdd; replace hleL := hleL.trans hlef)
 (have hcall := A3v br pb nb cb bs hnb dd (p1 + 1) _ (by omega) hb (by omega); refine J0 rfl hcall (Pk.perm (by repeat (first | exact Pk.here | apply Pk.there))) rfl rfl (fun v Gn outs hleD hh => ?_); obtain ⟨pD, hpD1, hpD2, rfl, uD, cD, rfl, hrD, hsD, haD⟩ := hh; obtain ⟨qD, dD, eD, rfl, _⟩ := hrD.open; replace hb := hb.mono hleD; replace hleL := hleL.trans hleD)
 refine sQ (qM rfl) rfl ?_
 (refine J1 (C7 rfl rfl rfl (by omega) (by unfold maxLen; omega) rfl) rfl ?_; rintro _ ⟨b38, rfl⟩)
 (refine U6 (by repeat (first | exact Pk.here | apply Pk.there)) (fun Gf hlef hslf _ => ?_); refine J0 rfl (A0e Gf br pb nb cb (pD) bs _ _ _ _ (hb.mono hlef) hnb (by omega) hslf (by decide)) (Pk.perm (by repeat (first | exact Pk.here | apply Pk.there))) rfl rfl (fun v Gm outs hlen hh => ?_); obtain ⟨rfl, rfl, hv⟩ := hh; replace hb := hb.mono hlef; replace hleL := hleL.trans hlef; replace hrD := hrD.mono hlef; obtain ⟨dp, rfl, hdp1, hdp2⟩ : ∃ d : Int, v = .int .i64 d ∧ 3 ≤ d ∧ d ≤ 5 := (by simp only [List.mem_cons, List.not_mem_nil, or_false] at hv; rcases hv with rfl | rfl | rfl | rfl <;> exact ⟨_, rfl, by decide, by decide⟩))
 (have hcall := B5o br pb nb cb bs hnb 8 dp uD (pD + 1) _ none 0 0 _ ⟨haD.le (by omega), by omega, by omega, .inr ⟨by omega, by omega⟩⟩ (by omega) (by omega) (by omega) (W3.nil _) hrD hb (by omega); refine J0 rfl hcall (Pk.perm (by repeat (first | exact Pk.here | apply Pk.there))) rfl rfl (fun v Gn outs hleM hh => ?_); obtain ⟨pM, hpM1, hpM2, rfl, eM, cM, rfl, hrM, hcM⟩ := hh; have hlM := hrM.len; have hoM := hrM.one; replace hb := hb.mono hleM; replace hleL := hleL.trans hleM)
 refine sE (A7 rfl) rfl (fun b41 => ?_)
 refine W7 rfl rfl rfl hlM hoM rfl (by repeat first | exact Sw.here | apply Sw.there) (by exact D1 (by first | exact hlM.symm | omega)) ?_
 refine sD (nS (tS (tR ?_)))
 refine sL (A3 rfl rfl (B1 (by repeat first | exact mH | apply mT)) hlM) rfl rfl ?_
 (refine E4 rfl (A6x eM _ _ (by omega) hrM) rfl rfl (fun v G9 hle9 hh => ?_); have hmv := @B5A eM; obtain ⟨mc, mt, rfl, hmr, hmu⟩ := hh; obtain ⟨pt, ct, et, rfl, _⟩ := hmr.open; replace hb := hb.mono hle9; replace hleL := hleL.trans hle9; replace hrM := hrM.mono hle9; generalize (S8 eM).isSome = mx at *; cases mx)
 refine J7 ?_
 refine sE (A7 rfl) rfl (fun b52 => ?_)
 refine H4 ?_
 refine sP (J2 rfl rfl (by omega) (by omega)) rfl rfl ?_
 refine sQ (qA rfl) rfl (sD ?_)
 refine J9 (i + 1, pM, G9) ?_ ?_ ?_
 (simp only [J5]; exact D8)
 (dsimp only; exact ⟨by omega, hleL, by omega, by omega⟩)
 (show 4 - (i + 1) < 4 - i; omega)
 refine J7 ?_
 refine sE (A7 rfl) rfl (fun b78 => ?_)
 refine N5 ?_
 refine sL (A3 rfl rfl (B1 (by repeat first | exact mH | apply mT)) hlM) rfl rfl ?_
 refine W7 rfl rfl rfl hlM hoM rfl (by repeat first | exact Sw.here | apply Sw.there) (by exact D1 (by first | exact hlM.symm | omega)) ?_
 refine sD (nS (tT (rB (rS (A3a (rB (rS ?_)))))))
 refine H5 (outs := [rd br pb nb cb pM]) (rC rfl (A3 rfl rfl (B1 (by repeat first | exact mH | apply mT)) hlM)) (by repeat (first | exact A0.nil | refine A0.cons Pk.here ?_ | refine A0.cons (Pk.there Pk.here) ?_ | refine A0.cons (Pk.there (Pk.there Pk.here)) ?_ | apply A0.drop)) ?_
 (exact ⟨pM, by omega, by omega, rfl, eM, _, rfl, hrM, (B5B (hmv rfl)).le (by omega)⟩)
 refine J3 ?_
 (have hcall := B11 br pb nb cb bs hnb p1 _ hb (by omega); refine J0 rfl hcall (Pk.perm (by repeat (first | exact Pk.here | apply Pk.there))) rfl rfl (fun v Gn outs hleC hh => ?_); obtain ⟨pC, hpC1, hpC2, rfl, eC, cC, rfl, hrC, hcC⟩ := hh; have hlC := hrC.len; have hoC := hrC.one; have hcnt := A5A eC)
 refine W7 rfl rfl rfl hlC hoC rfl (by repeat first | exact Sw.here | apply Sw.there) (by exact D1 (by first | exact hlC.symm | omega)) ?_
 refine sD (nS (tT ?_))
 refine H5 (outs := [rd br pb nb cb pC]) (rC rfl (A3 rfl rfl (B1 (by repeat first | exact mH | apply mT)) hlC)) (by repeat (first | exact A0.nil | refine A0.cons Pk.here ?_ | refine A0.cons (Pk.there Pk.here) ?_ | refine A0.cons (Pk.there (Pk.there Pk.here)) ?_ | apply A0.drop)) ?_
 (exact ⟨pC, by omega, by omega, rfl, eC, _, rfl, hrC, A7G _ (by omega), by omega⟩)
theorem B5F (br : Nat) (pb : Option Addr) (nb cb : Nat) (bs : List UInt8) (hnb : nb ≤ 2000) (p : Nat) (G : IM) (hb : Sl G pb nb cb 1 (O4 bs)) (hp : p + 1000 < 1099511627776) (e : Tm) (ce : List Value) (N : Nat) (hfit : e.fit N) (hN : N ≤ 4000000) (hr : A9 G e ce) :
  Fn Tryz.prog 42 [.pointer (some ⟨br, 0, none⟩), .agg ⟨ce⟩] [rd br pb nb cb p] G
   (A0m br pb nb cb p 1000 (fun G' v => ∃ u cu, v = .agg ⟨cu⟩ ∧ A9 G' u cu ∧ u.fit N)) := by
 have hl := hr.len
 have hone := hr.one
 have hcnt := hfit.2
 obtain ⟨hTl, hTv⟩ := B5C e
 have hT := A9V e G ce hfit.1 (by omega) hr
 generalize A0r e = L0 at hTl hTv hT
 refine B7 Tryz.func42 rfl Tryz.ntmps42 Tryz.results42 rfl ?_
 intro w0
 refine tS (tR ?_)
 refine sE (C2 rfl rfl) rfl (fun b3 => ?_)
 refine sE (A7 rfl) rfl (fun b4 => ?_)
 refine sD (nS (tS (tR ?_)))
 refine sL (A3 rfl rfl (B1 (by repeat first | exact mH | apply mT)) hl) rfl rfl ?_
 (refine A1w rfl hT rfl rfl (fun v G1 outs hle1 hh => ?_); obtain ⟨q, c, es0, rfl, rfl, hr1⟩ := hh; replace hb := hb.mono hle1; replace hr := hr.mono hle1)
 refine D9 ?_
 refine B8 ?_
 (refine B0E (fun a w hs => hs.slc_ptT (p := q) (c := c) (el := 25) (sz := 2) (n := L0.length) (cs := es0.flatten) (by repeat first | exact mH | apply mT)) (fun hq => ?_); refine J8 (fun (x : Nat × Nat × List (List Value) × IM) => ⟨[(6, .int .i64 x.1), (5, .slice q L0.length c), (0, .pointer (some ⟨br, 0, none⟩)), (3, .pointer (some ⟨b3, 0, none⟩)), (4, .pointer (some ⟨b4, 0, none⟩))], [.slc q c 25 2 L0.length x.2.2.1.flatten, rd br pb nb cb x.2.1, .blk b4 [.int .i64 0, .string ⟨⟨[]⟩⟩, .int .i64 0, .int .i64 0, .slice none 0 0, .int .i64 0, .slice none 0 0, .int .i64 0, .slice none 0 0], .blk b3 ce], x.2.2.2⟩) (fun x => x.1 ≤ L0.length ∧ B9 G1 x.2.2.2 ∧ p ≤ x.2.1 ∧ x.2.1 ≤ p + x.1 * 31 ∧ ∃ L, L.length = L0.length ∧ C9 x.2.2.2 L x.2.2.1 ∧ ∀ u ∈ L, E6 u ∧ K6 u ≤ 30) (fun x => L0.length - x.1) (0, p, es0, G1) ?_ ?_ ?_)
 (simp only [J5]; exact D8)
 (exact ⟨Nat.zero_le _, B9.refl _, Nat.le_refl _, by dsimp only; omega, L0, rfl, hr1, fun u hu => A3x (hTv u hu)⟩)
 (rintro ⟨(i : Nat), (p1 : Nat), es, Gi⟩ ⟨hi, hle, hp1, hp2, L, hL, hst, hal⟩; simp only [] at hi hle hp1 hp2 hst ⊢; replace hb := hb.mono hle; have hesl : es.length = L0.length := (by have h0 := hst.len; omega))
 refine H6 ?_
 refine sB (J4 rfl rfl) rfl rfl (fun h31 => ?_) (fun h31 => ?_)
 refine sD (nS (qT rfl (tK (nS (tS ?_)))))
 refine B8 ?_
 refine H6 ?_
 (obtain ⟨g, rfl, hgc⟩ := hq.resolve_left (by omega); obtain ⟨hai, hsi⟩ := hal L[i] (List.getElem_mem (by omega)); have hri : B6 Gi L[i] (es[i]'(by omega)) := (by have h0 := (hst.inv (i := i) (List.getElem?_eq_getElem (by omega)) B2).2; rw [List.getD_eq_getElem?_getD, List.getElem?_eq_getElem (by omega), Option.getD_some] at h0; exact h0); have hei := hri.len; refine sP (B3 (j := i) rfl rfl rfl (by omega)) rfl rfl ?_)
 refine sL (A3 rfl rfl (A6J (by repeat first | exact mH | apply mT) (B5E (by omega) (fun e he => (hst.each e he).1))) hei) rfl rfl ?_
 (have hcall := A4p br pb nb cb bs hnb _ p1 _ _ hai hri hb (by omega); refine J0 rfl hcall (Pk.perm (by repeat (first | exact Pk.here | apply Pk.there))) rfl rfl (fun v Gn outs hleu hh => ?_); obtain ⟨p2, hp21, hp22, rfl, u, cu, rfl, hru, hua, hus, huh⟩ := hh; have hul := hru.len; have huo := hru.one; replace hb := hb.mono hleu; replace hle := hle.trans hleu; replace hst := hst.mono hleu)
 refine sP (B3 (j := i) rfl rfl rfl (by omega)) rfl rfl ?_
 refine B5s rfl rfl rfl hul huo rfl (by repeat first | exact Sw.here | apply Sw.there) (B5t (by omega) (fun e he => (hst.each e he).1) hul) ?_
 refine sD (N3 (nS (tR (sQ (qM rfl) rfl ?_))))
 refine sP (J2 rfl rfl (by omega) (by omega)) rfl rfl ?_
 refine sQ (qA rfl) rfl (sD ?_)
 (refine J9 (i + 1, p2, es.set i cu, Gn) ?_ ?_ ?_)
 (simp only [J5]; exact D8)
 (dsimp only; exact ⟨by omega, hle, by omega, by omega, L.set i u, by rw [List.length_set]; exact hL, hst.set i hru, fun w hw => by rcases List.mem_or_eq_of_mem_set hw with h | h; exact hal w h; rw [h]; exact ⟨hua, by omega⟩⟩)
 (show L0.length - (i + 1) < L0.length - i; omega)
 refine I5 ?_
 refine sL (A3 rfl rfl (B1 (by repeat first | exact mH | apply mT)) hl) rfl rfl ?_
 refine sQ (qM rfl) rfl ?_
 (refine U6 (cs := es.flatten) (by repeat (first | exact Pk.here | apply Pk.there)) (fun G2 hle2 hsl2 hno2 => ?_); have hw := B5z e L G2 ce q c es hfit.1 (by omega) (by omega) (fun u hu => (hal u hu).1.small) ((hr.mono hle).mono hle2) (D3.of (by rw [hL]; exact hsl2) (by omega) hst.all (fun e he => (hst.each e he).2)) (hst.mono hle2); rw [hL] at hw; refine E4 rfl hw rfl rfl (fun v G3 hle3 hh => ?_); obtain ⟨cu, rfl, hru⟩ := hh; have hfu := B5D hfit (fun u hu => (hal u hu).1.small); generalize (A1o e L).isSome = bx; generalize (A1o e L).getD I2 = ux at *; have hul := hru.len; have huo := hru.one)
 refine J7 ?_
 refine sE (A7 rfl) rfl (fun b78 => ?_)
 refine sS rfl rfl rfl hul huo rfl ?_ (hu := by exact D1 hul.symm)
 refine sQ (qA rfl) rfl (sD (nS (tS (tR ?_))))
 refine sL (A3 rfl rfl (B1 (by repeat first | exact mH | apply mT)) hul) rfl rfl ?_
 refine sS rfl rfl rfl hul huo rfl ?_ (hu := by exact D1 hul.symm)
 refine sD (nS (tT ?_))
 refine H5 (outs := [rd br pb nb cb p1]) (rC rfl (A3 rfl rfl (B1 (by repeat first | exact mH | apply mT)) hul)) (by repeat (first | exact A0.nil | refine A0.cons Pk.here ?_ | refine A0.cons (Pk.there Pk.here) ?_ | refine A0.cons (Pk.there (Pk.there Pk.here)) ?_ | apply A0.drop)) ?_
 (exact ⟨p1, by omega, by omega, rfl, ux, cu, rfl, hru, hfu⟩)
def B5G (G : IM) : IM → Value → List A6 → Prop := M4 fun G' v => ∃ a ca b cb f, v = .tuple ⟨[.agg ⟨ca⟩, .agg ⟨cb⟩, .int .i64 f]⟩ ∧ A9 G' a ca ∧ a.fit 1100 ∧ A9 G' b cb ∧ b.fit 1100 ∧ F0 f
theorem B5H (G : IM) (q : Option Addr) (n c : Nat) (bs : List UInt8) (hb : Sl G q n c 1 (O4 bs)) : Fn Tryz.prog 23 [.slice q n c] [] G (B5G G) := by
 refine B7 Tryz.func23 rfl Tryz.ntmps23 Tryz.results23 rfl ?_
 intro w0
 refine tS (tR ?_)
 refine sE (A7 rfl) rfl (fun b3 => ?_)
 refine sE (A7 rfl) rfl (fun b4 => ?_)
 refine sQ (qA rfl) rfl (sD (nS (tS (tR (sQ (qM rfl) rfl ?_)))))
 (refine J0 rfl (B10 G q n c bs hb) (List.Perm.refl _) rfl rfl (fun v G1 outs hle1 hh => ?_); obtain ⟨rfl, br, pb, nb, cb, bs', rfl, rfl, hnb, hb'⟩ := hh)
 refine C4 ?_
 (have hcall := A93 br pb nb cb bs' hnb 0 _ hb' (by omega); refine J0 rfl hcall (Pk.perm (by repeat (first | exact Pk.here | apply Pk.there))) rfl rfl (fun v Gn outs hle1 hh => ?_); obtain ⟨p1, hp11, hp12, rfl, e0, ce0, rfl, hr0, hf0⟩ := hh; replace hb' := hb'.mono hle1)
 (have hcall := B19 br pb nb cb bs' hnb p1 _ hb' (by omega) e0 ce0 1100 hf0 hr0; refine J0 rfl hcall (Pk.perm (by repeat (first | exact Pk.here | apply Pk.there))) rfl rfl (fun v Gn outs hle2 hh => ?_); obtain ⟨p2, hp21, hp22, rfl, e, ce, rfl, hre, hfe⟩ := hh; have hl1 := hre.len; have ho1 := hre.one; replace hb' := hb'.mono hle2)
 refine sE (A7 rfl) rfl (fun b21 => ?_)
 refine W7 rfl rfl rfl hl1 ho1 rfl (by repeat first | exact Sw.here | apply Sw.there) (by exact D1 (by first | exact hl1.symm | omega)) ?_
 refine sD (nS (tS (tR (sQ (qM rfl) rfl ?_))))
 refine sL (A3 rfl rfl (B1 (by repeat first | exact mH | apply mT)) hl1) rfl rfl ?_
 (have hcall := B5F br pb nb cb bs' hnb p2 _ hb' (by omega) e ce 1100 hfe (by omega) hre; refine J0 rfl hcall (Pk.perm (by repeat (first | exact Pk.here | apply Pk.there))) rfl rfl (fun v Gn outs hle3 hh => ?_); obtain ⟨p3, hp31, hp32, rfl, b, cb1, rfl, hrb, hfb⟩ := hh; have hl2 := hrb.len; have ho2 := hrb.one; replace hb' := hb'.mono hle3; replace hre := hre.mono hle3)
 refine sE (A7 rfl) rfl (fun b30 => ?_)
 refine W7 rfl rfl rfl hl2 ho2 rfl (by repeat first | exact Sw.here | apply Sw.there) (by exact D1 (by first | exact hl2.symm | omega)) ?_
 refine sD (nS (tS (tS (tR (sQ (qM rfl) rfl ?_)))))
 (refine J0 rfl (X8 _ br pb nb cb (p3) bs' 12 hb' hnb (by omega)) (Pk.perm (by repeat (first | exact Pk.here | apply Pk.there))) rfl rfl (fun v Gp outs hle38 hh => ?_); obtain ⟨rfl, rfl, j38, rfl, hj38, hk38⟩ := hh; skip)
 replace hrb := hrb.mono hle38
 replace hb' := hb'.mono hle38
 replace hre := hre.mono hle38
 refine sB (qE rfl rfl) rfl rfl (fun h39 => ?_) (fun h39 => ?_)
 refine sD (nS (qT rfl (tR (sQ (qM rfl) rfl ?_))))
 (have hcall := A93 br pb nb cb bs' hnb (p3 + 1) _ hb' (by omega); refine J0 rfl hcall (Pk.perm (by repeat (first | exact Pk.here | apply Pk.there))) rfl rfl (fun v Gn outs hle4 hh => ?_); obtain ⟨p4, hp41, hp42, rfl, b2, cb2, rfl, hrb2, hfb2⟩ := hh; have hl3 := hrb2.len; have ho3 := hrb2.one; replace hb' := hb'.mono hle4; replace hre := hre.mono hle4)
 refine W7 rfl rfl rfl hl3 ho3 rfl (by repeat first | exact Sw.here | apply Sw.there) (by exact D1 (by first | exact (hl3.trans hl2.symm).symm | omega)) ?_
 refine sD (nS (tS ?_))
 refine D4 D5 rfl ?_
 refine K9 (i := 0) (l' := [tt,ff,ff,ff,ff,ff,ff]) rfl C8 (A3 rfl rfl (B1 (by repeat first | exact mH | apply mT)) hl1) rfl (by kernel_rfl) rfl rfl ?_
 refine aL 1 rfl (A3 rfl rfl (B1 (by repeat first | exact mH | apply mT)) hl3) rfl ?_
 refine aP 2 rfl (qM rfl) rfl ?_
 refine A4 3 ?_
 (have hcall := A92 br pb nb cb bs' hnb p4 _ hb' (by omega); refine X0 (l' := [tt,tt,tt,tt,ff,ff,ff]) rfl rfl hcall (Pk.perm (by repeat (first | exact Pk.here | apply Pk.there))) rfl rfl rfl (by repeat (first | exact A8.nil | apply A8.dep (by decide +kernel) | apply A8.blk (by decide +kernel) (by repeat (first | exact Pk.here | apply Pk.there)) (by repeat first | exact mH | apply mT))) (fun v Gn outs hle5 hh => ?_); obtain ⟨p5, hp51, hp52, rfl, fl, rfl, hfl⟩ := hh; replace hre := hre.mono hle5; replace hrb2 := hrb2.mono hle5)
 refine A4 4 ?_
 refine A2d rfl rfl rfl rfl hl1 ho1 rfl rfl (by repeat first | exact Sw.here | apply Sw.there) (by exact D1 hl1.symm) (by repeat (first | exact A8.nil | apply A8.dep (by decide +kernel) | apply A8.blk (by decide +kernel) (by repeat (first | exact Pk.here | apply Pk.there)) (by repeat first | exact mH | apply mT))) ?_
 refine A4 5 ?_
 refine A2d rfl rfl rfl rfl hl3 ho3 rfl rfl (by repeat first | exact Sw.here | apply Sw.there) (by exact D1 hl3.symm) (by repeat (first | exact A8.nil | apply A8.dep (by decide +kernel) | apply A8.blk (by decide +kernel) (by repeat (first | exact Pk.here | apply Pk.there)) (by repeat first | exact mH | apply mT))) ?_
 refine aP 6 rfl (qA rfl) rfl ?_
 refine C1 (nS (tT ?_))
 refine C6 (rC rfl (A3 rfl rfl (B1 (by repeat first | exact mH | apply mT)) hl1)) (rC rfl (A3 rfl rfl (B1 (by repeat first | exact mH | apply mT)) hl3)) (rT rfl) ?_
 (exact ⟨rfl, e, ce, b2, cb2, fl, rfl, hre, hfe, hrb2, hfb2, hfl⟩)
 refine sD (nS (cF rfl (tK (nS (tS ?_)))))
 refine D4 D5 rfl ?_
 refine K9 (i := 0) (l' := [tt,ff,ff,ff,ff,ff,ff]) rfl C8 (A3 rfl rfl (B1 (by repeat first | exact mH | apply mT)) hl1) rfl (by kernel_rfl) rfl rfl ?_
 refine aL 1 rfl (A3 rfl rfl (B1 (by repeat first | exact mH | apply mT)) hl2) rfl ?_
 refine aP 2 rfl (qM rfl) rfl ?_
 refine A4 3 ?_
 (have hcall := A92 br pb nb cb bs' hnb (p3 + 1) _ hb' (by omega); refine X0 (l' := [tt,tt,tt,tt,ff,ff,ff]) rfl rfl hcall (Pk.perm (by repeat (first | exact Pk.here | apply Pk.there))) rfl rfl rfl (by repeat (first | exact A8.nil | apply A8.dep (by decide +kernel) | apply A8.blk (by decide +kernel) (by repeat (first | exact Pk.here | apply Pk.there)) (by repeat first | exact mH | apply mT))) (fun v Gn outs hle5 hh => ?_); obtain ⟨p5, hp51, hp52, rfl, fl, rfl, hfl⟩ := hh; replace hre := hre.mono hle5; replace hrb := hrb.mono hle5)
 refine A4 4 ?_
 refine A2d rfl rfl rfl rfl hl1 ho1 rfl rfl (by repeat first | exact Sw.here | apply Sw.there) (by exact D1 hl1.symm) (by repeat (first | exact A8.nil | apply A8.dep (by decide +kernel) | apply A8.blk (by decide +kernel) (by repeat (first | exact Pk.here | apply Pk.there)) (by repeat first | exact mH | apply mT))) ?_
 refine A4 5 ?_
 refine A2d rfl rfl rfl rfl hl2 ho2 rfl rfl (by repeat first | exact Sw.here | apply Sw.there) (by exact D1 hl2.symm) (by repeat (first | exact A8.nil | apply A8.dep (by decide +kernel) | apply A8.blk (by decide +kernel) (by repeat (first | exact Pk.here | apply Pk.there)) (by repeat first | exact mH | apply mT))) ?_
 refine aP 6 rfl (qA rfl) rfl ?_
 refine C1 (nS (tT ?_))
 refine C6 (rC rfl (A3 rfl rfl (B1 (by repeat first | exact mH | apply mT)) hl1)) (rC rfl (A3 rfl rfl (B1 (by repeat first | exact mH | apply mT)) hl2)) (rT rfl) ?_
 (exact ⟨rfl, e, ce, b, cb1, fl, rfl, hre, hfe, hrb, hfb, hfl⟩)
def B52 (G : IM) : IM → Value → List A6 → Prop := M4 fun G' v => ∃ a ca b cb d cd, v = .tuple ⟨[.agg ⟨ca⟩, .agg ⟨cb⟩, .agg ⟨cd⟩]⟩ ∧ A9 G' a ca ∧ a.fit 1100 ∧ A9 G' b cb ∧ b.fit 1100 ∧ A9 G' d cd ∧ d.fit 1100
def B53 (N : Nat) (G : IM) : IM → Value → List A6 → Prop := M4 fun G' v => ∃ a ca f, v = .tuple ⟨[.agg ⟨ca⟩, .int .i64 f]⟩ ∧ A9 G' a ca ∧ a.fit N ∧ F0 f
theorem B5I (bs : List UInt8) (G : IM) (p : Option Addr) (n c : Nat) (hT : A01 G) (hb : Sl G p n c 1 (O4 bs)) : Fn Tryz.prog 6 [.slice p n c] [] G (M4 fun _ v => v = .bool true) := by
 have hn := hb.le
 refine B7 Tryz.func6 rfl Tryz.ntmps6 Tryz.results6 rfl ?_
 intro w0
 refine I5 ?_
 refine sB (Y7 rfl rfl) rfl rfl (fun h11 => ?_) (fun h11 => ?_)
 refine J3 ?_
 (exact ⟨rfl, rfl⟩)
 refine sD (nS (cF rfl (tK (nS (tS (tR (sQ (qM rfl) rfl ?_)))))))
 (refine E4 rfl (B5H G _ _ _ bs hb) rfl rfl (fun v G1 hle1 hh => ?_); obtain ⟨a, ca, b, cb, fl, rfl, hra, hfa, hrb, hfb, hfl⟩ := hh; replace hT := hT.mono hle1; have hca := hfa.2; have hcb := hfb.2; have hla := hra.len; have hoa := hra.one; have hlb := hrb.len; have hob := hrb.one; have hI := B5h a b fl G1 ca cb hT hra hrb; have hk := B5l a b fl; have hS := B5i a b fl; obtain ⟨R, hR⟩ : ∃ R, A0Q a b fl = R := ⟨_, rfl⟩; rw [hR] at hI hk hS)
 refine H3 ?_
 refine sE (A7 rfl) rfl (fun b37 => ?_)
 refine sE (A7 rfl) rfl (fun b38 => ?_)
 refine sS rfl rfl rfl hla hoa rfl ?_ (hu := by exact D1 hla.symm)
 refine sS rfl rfl rfl hlb hob rfl ?_ (hu := by exact D1 hlb.symm)
 refine sQ (qA rfl) rfl (sD (nS (tS (tR ?_))))
 refine sL (A3 rfl rfl (B1 (by repeat first | exact mH | apply mT)) hla) rfl rfl ?_
 refine sL (A3 rfl rfl (B1 (by repeat first | exact mH | apply mT)) hlb) rfl rfl ?_
 refine sQ (qM rfl) rfl ?_
 (refine E4 rfl hI rfl rfl (fun v2 G2 hle2 hh => ?_); subst hh; replace hra := hra.mono hle2; replace hrb := hrb.mono hle2; have hS2 := hS G2 ca cb (by omega) (by omega) hra hrb)
 refine sQ (qA rfl) rfl (sD (nS (tS (tR (sQ (qM rfl) rfl ?_)))))
 refine sL (A3 rfl rfl (B1 (by repeat first | exact mH | apply mT)) hla) rfl rfl ?_
 refine sL (A3 rfl rfl (B1 (by repeat first | exact mH | apply mT)) hlb) rfl rfl ?_
 refine sQ (qM rfl) rfl ?_
 (refine E4 rfl hS2 rfl rfl (fun v3 G3 hle3 hh => ?_); subst hh)
 refine sP (Y9 rfl rfl (by omega)) rfl rfl ?_
 refine sQ (qM rfl) rfl (sQ (qM rfl) rfl ?_)
 refine sP (A0j rfl rfl (by omega)) rfl rfl ?_
 refine H6 ?_
 (exact ⟨rfl, rfl⟩)
end Gw
end Go.Proofs.YthpdjmbpbdbodaaGreatDoor
