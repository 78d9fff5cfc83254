/-
  TermTypes and CountSlots of the reference. Terms with other types: the reference's. WithTypes of the reference. Drawn terms that are small, terms with blurred types, fuel. Configurations: plain laws (they are valid, ordered by precision; fewer types fail less); `and` and `and not` of masks. The law that CastPath gives what the reference model gives: its walk. The cast that is blamed, on both sides. The labels of inserted casts: from 1 on, each once; what a run may blame (plain). SubPositive, SubNegative of the program. TypeSame, TermSame: the same data is the same. Drawn terms with casts, paths, arguments. Drawn arguments of runs. The law FnEvalCast. What a run of a term with a type says: plain. The casts of a term and their types: walked. slices.Sort and slices.Compact over own slices of numbers: the kit's contracts; CastLabels of the program. The law FnRunTerm. Lists of numbers are compared. The law FnBlamedCast.
-/
import Derived.Test.YtebfignffjhnhaaGreatDoorKk8
import Derived.Test.YtebfignffjhnhaaGreatDoorKk2
import Derived.Test.YtebfignffjhnhaaGreatDoorKk4
import Derived.Test.YtebfignffjhnhaaGreatDoorKk7
import Derived.Test.YtebfignffjhnhaaGreatDoorKk6
import Derived.Test.YtebfignffjhnhaaGreatDoorKk5
import Derived.Test.YtebfignffjhnhaaGreatDoorKk1
import Derived.Test.YtebfignffjhnhaaGreatDoorKk3
import Derived.Test.YtebfignffjhnhaaGreatDoorShelf
set_option linter.unusedVariables false
set_option linter.unusedSimpArgs false
set_option maxHeartbeats 0
set_option maxRecDepth 100000
set_option synthInstance.maxSize 4000
set_option synthInstance.maxHeartbeats 0
namespace Go.Proofs.YtebfignffjhnhaaGreatDoor
open Go Go.RowKit
namespace Gw
def A0z (t : Tm) : List Ty := if T5 t = true then P3 t else []
theorem B2l (t : Tm) (G : IM) (cells : List Value) (hts : t.small) (hcnt : D1 t ≤ 4000000) (hr : B1 G t cells) : Fn Tryz.prog 93 [.agg ⟨cells⟩] [] G (A0y (A0z t)) := by
 have hl := hr.len
 have hone := hr.one
 have hv := A5s t G cells (by omega) hr
 have hno : T5 t = false → A0z t = [] := fun h => by unfold A0z; rw [h]; rfl
 have hyes : T5 t = true → A0z t = P3 t := fun h => by unfold A0z; rw [h]; rfl
 refine C6 Tryz.func93 rfl Tryz.ntmps93 Tryz.results93 rfl ?_
 intro w0
 refine A4 ?_
 refine sE (C9 rfl rfl) rfl (fun b3 => ?_)
 refine A8 ?_
 refine sL (A3 rfl rfl (B6 (by repeat first | exact mH | apply mT)) (by assumption)) rfl rfl ?_
 refine H1 rfl (hv) rfl rfl (fun h11 => ?_) (fun h11 => ?_)
 refine D4 ?_
 (refine I3 (D0 rfl rfl rfl (by omega) (by unfold maxLen; omega) rfl) rfl ?_; rintro _ ⟨b20, rfl⟩)
 refine sL (A3 rfl rfl (B6 (by repeat first | exact mH | apply mT)) (by assumption)) rfl rfl ?_
 (refine J9 rfl (B8A t [] G cells _ 0 [] hts (by simp; omega) hr (by simp [D5])) (Pk.perm (by repeat (first | exact Pk.here | apply Pk.there))) rfl rfl (fun v3 G3 outs hle3 hh => ?_); obtain ⟨p3, c3, e3, rfl, rfl, hr3⟩ := hh)
 refine B4 ?_
 refine H7 (outs := [.slc p3 c3 34 2 ([] ++ P3 t).length e3.flatten]) (rT rfl) (A1.cons (by repeat (first | exact Pk.here | apply Pk.there)) A1.nil) ?_
 (rw [hyes (by assumption)]; exact ⟨p3, c3, e3, rfl, rfl, hr3⟩)
 refine A8 ?_
 (refine I3 (D0 rfl rfl rfl (by omega) (by unfold maxLen; omega) rfl) rfl ?_; rintro _ ⟨b35, rfl⟩)
 refine B0 ?_
 refine H7 (rT rfl) (A1.cons Pk.here A1.nil) ?_
 (rw [hno (by assumption)]; exact ⟨_, _, [], rfl, rfl, by simp [D5]⟩)
def A31 (u : Tm) (n : Int) : IM → Value → List A6 → Prop := fun G' v outs => outs = [] ∧ ∃ cu, v = .tuple ⟨[.agg ⟨cu⟩, .int .i64 n]⟩ ∧ B1 G' u cu
theorem A31.mk {G' : IM} {k : Int} {nm : ByteArray} {num : Int} {ty fr : Ty} {lb : Int} {ks : List Tm} {tk fk : Int} {pt pf : Option Addr} {nt ct nf cf : Nat} {p : Option Addr} {m c : Nat} {es : List (List Value)} {a n : Int}
  (hk : H0 k) (hnum : H0 num) (hlb : H0 lb) (hty : C3 G' ty [.int .i64 tk, .slice pt nt ct]) (hfr : C3 G' fr [.int .i64 fk, .slice pf nf cf]) (hm : m = ks.length) (hs : Sl G' p m c 9 es.flatten) (hr : E5 G' ks es) (ha : a = n) :
  A31 (.mk k nm num ty fr lb ks) n G' (.tuple ⟨[.agg ⟨[.int .i64 k, .string nm, .int .i64 num, .int .i64 tk, .slice pt nt ct, .int .i64 fk, .slice pf nf cf, .int .i64 lb, .slice p m c]⟩, .int .i64 a]⟩) [] := by
 subst hm ha
 refine ⟨rfl, _, rfl, ?_⟩
 simp only [B1]
 exact ⟨_, _, p, c, es, rfl, hk, hnum, hlb, hty, hfr, E3.of hs hr.len hr.all (fun e he => by obtain ⟨j, hj⟩ := List.getElem?_of_mem he; exact (hr.inv hj J7).2.one), hr⟩
theorem A76 {Q : Prop} (h : Q := by (exact ⟨Nat.zero_le _, C4.refl _, by simp [X0, E5]⟩)) : Q := h
theorem A77 {Q : Prop} (h : Q := by (dsimp only; exact ⟨by omega, hle.trans hle7, hsn⟩)) : Q := h
theorem B8B (L : List Ty) (p : Option Addr) (c : Nat) (hsmL : ∀ u ∈ L, u.small) : ∀ (t : Tm) (a : Nat) (G : IM) (cells : List Value) (el : List (List Value)), a + (P3 t).length ≤ L.length → L.length ≤ 4000000 → t.small → D1 t ≤ 4000000 → B1 G t cells → E3 G p L.length c 2 el → D5 G L el →
  Fn Tryz.prog 138 [.agg ⟨cells⟩, .slice p L.length c, .int .i64 (a : Int)] [] G (A31 (A0U t (L.drop a)) ((a + (P3 t).length : Nat) : Int)) := by
 refine Tm.ind fun k nm num ty fr lb ks ih a G cells el hlen hLb hts hcnt hr hse hel => ?_
 have hone := hr.one
 have hlen9 := hr.len
 simp only [Tm.small] at hts
 obtain ⟨_, hty', hfr', hsm, hks⟩ := hts
 have hcy : k = 5 ∨ k = 13 → P3 (.mk k nm num ty fr lb ks) = [ty] ++ L7 ks := fun h => by rw [P3, if_pos h]
 have hcn : ¬ (k = 5 ∨ k = 13) → P3 (.mk k nm num ty fr lb ks) = L7 ks := fun h => by rw [P3, if_neg h, List.nil_append]
 have hwy : k = 5 ∨ k = 13 → A0U (.mk k nm num ty fr lb ks) (L.drop a) = .mk k nm num ((L.drop a).getD 0 B3) fr lb (X0 ks (L.drop (a + 1))) := fun h => by rw [A0U, if_pos h, if_pos h, List.drop_drop]
 have hwn : ¬ (k = 5 ∨ k = 13) → A0U (.mk k nm num ty fr lb ks) (L.drop a) = .mk k nm num ty fr lb (X0 ks (L.drop a)) := fun h => by rw [A0U, if_neg h, if_neg h]
 rw [D1] at hcnt
 obtain ⟨tk, tks⟩ := ty
 obtain ⟨fk, fks⟩ := fr
 obtain ⟨pt, ct, pf, cf, q, cq, ek, rfl, hk, hnum, hlb, hty, hfr, hsl, hkl⟩ := hr.open9
 have hn := hsl.le
 have hkn := A4i ks
 have hT := Q5 (.mk tk tks) G _ hty' hty
 refine C6 Tryz.func138 rfl Tryz.ntmps138 Tryz.results138 rfl ?_
 intro w0
 refine A4 ?_
 refine sE (C9 rfl rfl) rfl (fun b3 => ?_)
 refine sE (A9 rfl) rfl (fun b4 => ?_)
 refine A8 ?_
 refine sE (A9 rfl) rfl (fun b11 => ?_)
 refine B7 ?_
 (refine E6 rfl hT rfl rfl (fun v G1 hle1 hh => ?_); obtain ⟨cs1, F1, rfl, hs1, hn1⟩ := hh; have hr1 := hs1.R.mono (C2.le _ _); obtain ⟨p1, c1, rfl, _⟩ := hs1.open; have hF := Q5 (.mk fk fks) G1 _ hfr' (hfr.mono hle1))
 refine D4 ?_
 (refine E6 rfl hF rfl rfl (fun v G2 hle2 hh => ?_); obtain ⟨cs2, F2, rfl, hs2, hn2⟩ := hh; have hr2 := hs2.R.mono (C2.le _ _); obtain ⟨p2, c2, rfl, _⟩ := hs2.open; have hle12 := hle1.trans hle2; replace hsl := hsl.mono hle12; replace hkl := hkl.mono hle12; replace hse := hse.mono hle12; replace hel := hel.mono hle12)
 refine I7 ?_
 refine sB (qE rfl rfl) rfl rfl (fun h44 => ?_) (fun h44 => ?_)
 refine N4 ?_
 (have hL1 := hcy (by omega); have h1 : a + (1 + (L7 ks).length) ≤ L.length := (by rw [hL1] at hlen; simp only [List.length_append, List.length_singleton] at hlen; omega); obtain ⟨b0, o0, p20, c20, rfl, hat0, hre0, hgb0⟩ := hse.kidTy hel (i := a) (by omega) (by omega); obtain ⟨T0, hT0⟩ : ∃ T, T = L[a]'(by omega) := ⟨_, rfl⟩; have hs0 := hsmL _ (List.getElem_mem (show a < L.length by omega)); rw [← hT0] at hre0 hat0 hs0; have hO := Q5 T0 G2 _ hs0 hre0; refine sP (B5 rfl rfl rfl (by omega)) rfl rfl ?_)
 refine sL (A3 rfl rfl (hat0 _) rfl) rfl rfl ?_
 (refine E6 rfl hO rfl rfl (fun v G3 hle3 hh => ?_); obtain ⟨cs3, F3, rfl, hs3, hn3⟩ := hh; have hr3 := hs3.R.mono (C2.le _ _); obtain ⟨p3, c3, rfl, _⟩ := hs3.open)
 refine A8 ?_
 refine sP (H9 rfl rfl (by omega) (by omega)) rfl rfl ?_
 refine E1 ?_
 refine C5 ?_
 (have hL2 := hcy (by omega); have hW2 := hwy (by omega); refine V0 37 9 ?_; refine K2 (fun (x : Nat × Option Addr × Nat × List (List Value) × IM) => ⟨[(9, .int .i64 x.1), (2, .int .i64 ((a + 1 + (L7 (ks.take x.1)).length : Nat) : Int)), (1, .slice (some ⟨b0, o0, none⟩) L.length c), (3, .pointer (some ⟨b3, 0, none⟩)), (8, .pointer (some ⟨b11, 0, none⟩)), (6, .pointer (some ⟨b4, 0, none⟩))], [.blk b11 [.int .i64 k, .string nm, .int .i64 num, .int .i64 T0.k, .slice p3 T0.ks.length c3, .int .i64 fk, .slice p2 fks.length c2, .int .i64 lb, .slice x.2.1 x.1 x.2.2.1], .slc x.2.1 x.2.2.1 37 9 x.1 x.2.2.2.1.flatten, .blk b4 [.int .i64 0, .string ⟨⟨[]⟩⟩, .int .i64 0, .int .i64 0, .slice none 0 0, .int .i64 0, .slice none 0 0, .int .i64 0, .slice none 0 0], .blk b3 [.int .i64 k, .string nm, .int .i64 num, .int .i64 tk, .slice pt tks.length ct, .int .i64 fk, .slice pf fks.length cf, .int .i64 lb, .slice q ks.length cq]], x.2.2.2.2⟩) (fun x => x.1 ≤ ks.length ∧ C4 G3 x.2.2.2.2 ∧ E5 x.2.2.2.2 (X0 (ks.take x.1) (L.drop (a + 1))) x.2.2.2.1) (fun x => ks.length - x.1) (0, none, 0, [], G3) ?_ ?_ ?_)
 (simp only [I1]; exact D6)
 exact A76
 (rintro ⟨(i : Nat), pn, cn, es, Gi⟩ ⟨hi, hle, hst⟩; simp only [] at hi hle hst ⊢)
 refine B7 ?_
 refine sB (J4 rfl rfl) rfl rfl (fun h88 => ?_) (fun h88 => ?_)
 refine A8 ?_
 refine C5 ?_
 refine B9 ?_
 refine sE (A9 rfl) rfl (fun b99 => ?_)
 refine D4 ?_
 (obtain ⟨b, o, e, rfl, hl, hat, hre, hgb⟩ := (hsl.mono (by first | exact hle | exact hle3.trans hle)).kidTm (hkl.mono (by first | exact hle | exact hle3.trans hle)) (i := i) (by omega) (by omega); have hone9 := hre.one; have hsc := A0G (ks := ks) (i := i) (by omega); have hsk := A1h (ks := ks) (i := i) (by omega); have hts1 := A73 (ks := ks) (i := i) (by omega); have e9 : (L7 (ks.take (i + 1))).length = (L7 (ks.take i)).length + (P3 ks[i]).length := (by rw [A30 (by omega), List.length_append]); refine sP (B5 rfl rfl rfl (by omega)) rfl rfl ?_)
 refine sL (A3 rfl rfl (hat _) hl) rfl rfl ?_
 refine A4 ?_
 (have hih := ih ks[i] (List.getElem_mem (by omega)) _ Gi e el (by rw [hL2] at hlen; (try simp only [List.length_append, List.length_singleton] at hlen); first | exact (show a + 1 + (L7 (ks.take i)).length + (P3 ks[i]).length ≤ L.length by omega) | exact (show a + (L7 (ks.take i)).length + (P3 ks[i]).length ≤ L.length by omega)) hLb (Tm.smallL_mem hks _ (List.getElem_mem (by omega))) (by omega) hre (hse.mono (by first | exact hle | exact hle3.trans hle)) (hel.mono (by first | exact hle | exact hle3.trans hle)); refine A0Y rfl hih rfl rfl (fun v G7 outs hle7 hh => ?_); obtain ⟨rfl, cu, rfl, hru⟩ := hh; rw [← List.drop_drop] at hru; have hsn := E5.snoc (hst.mono hle7) hru; obtain ⟨u1, u2, u3, u4, u5, u6, u7, u8, u9, rfl⟩ : ∃ u1 u2 u3 u4 u5 u6 u7 u8 u9, cu = [u1, u2, u3, u4, u5, u6, u7, u8, u9] := (by obtain ⟨_, _, _, _, _, _, _, _, _, rfl, _⟩ := hru.open; exact ⟨_, _, _, _, _, _, _, _, _, rfl⟩); have huo := hru.one)
 refine B9 ?_
 refine sS rfl rfl rfl rfl huo rfl ?_
 refine B7 ?_
 (refine I3 (D0 rfl rfl rfl (by omega) (by unfold maxLen; omega) rfl) rfl ?_; rintro _ ⟨b124, rfl⟩)
 (refine A0Z rfl rfl rfl rfl rfl (fun _ _ => by repeat (first | exact Sw.here | apply Sw.there)) (M9 (by repeat first | exact mH | apply mT)) rfl (fun u hu => List.all_eq_true.1 huo u hu) (by unfold maxLen; omega) (by omega) rfl (fun p4 c4 => ?_))
 refine B7 ?_
 refine sP (H9 rfl rfl (by omega) (by omega)) rfl rfl ?_
 refine A4 ?_
 (rw [← A72 (by omega)] at hsn; refine I5 (i + 1, p4, c4, es ++ [[u1, u2, u3, u4, u5, u6, u7, u8, u9]], G7) (by simp only [List.flatten_append, List.flatten_cons, List.flatten_nil, List.append_nil, e9, ← Nat.add_assoc]; exact (M4 (by repeat (first | exact E7.nil | refine E7.cons rfl ?_)) (by repeat (first | exact A1.refl | exact A1.nil | refine A1.cons (by repeat (first | exact Pk.here | apply Pk.there)) ?_ | apply A1.drop)))) ?_ ?_)
 exact A77
 exact V5
 refine K0 ?_
 (refine H2 (cs := es.flatten) (by repeat (first | exact Pk.here | apply Pk.there)) (fun G9 hle9 hsl9 hno9 => ?_); obtain rfl : i = ks.length := (by omega); rw [List.take_length] at hst)
 refine tT ?_
 refine H5 (rC rfl (A5 rfl rfl)) (rT rfl) ?_
 (rw [hW2, hL2]; exact A31.mk hk hnum hlb (by first | (rw [List.getD_eq_getElem?_getD, List.getElem?_drop, Nat.add_zero, List.getElem?_eq_getElem (by omega), Option.getD_some, ← hT0]; exact hr3.mono (hle.trans hle9)) | exact hr1.mono (hle2.trans (hle.trans hle9))) (by first | exact hr2.mono (hle3.trans (hle.trans hle9)) | exact hr2.mono (hle.trans hle9)) (by rw [A4W]) hsl9 (hst.mono hle9) (by (simp only [List.take_length, List.length_append, List.length_singleton]) <;> omega))
 refine B9 ?_
 refine sB (qE rfl rfl) rfl rfl (fun h162 => ?_) (fun h162 => ?_)
 refine D4 ?_
 (have hL1 := hcy (by omega); have h1 : a + (1 + (L7 ks).length) ≤ L.length := (by rw [hL1] at hlen; simp only [List.length_append, List.length_singleton] at hlen; omega); obtain ⟨b0, o0, p20, c20, rfl, hat0, hre0, hgb0⟩ := hse.kidTy hel (i := a) (by omega) (by omega); obtain ⟨T0, hT0⟩ : ∃ T, T = L[a]'(by omega) := ⟨_, rfl⟩; have hs0 := hsmL _ (List.getElem_mem (show a < L.length by omega)); rw [← hT0] at hre0 hat0 hs0; have hO := Q5 T0 G2 _ hs0 hre0; refine sP (B5 rfl rfl rfl (by omega)) rfl rfl ?_)
 refine sL (A3 rfl rfl (hat0 _) rfl) rfl rfl ?_
 (refine E6 rfl hO rfl rfl (fun v G3 hle3 hh => ?_); obtain ⟨cs3, F3, rfl, hs3, hn3⟩ := hh; have hr3 := hs3.R.mono (C2.le _ _); obtain ⟨p3, c3, rfl, _⟩ := hs3.open)
 refine A8 ?_
 refine sP (H9 rfl rfl (by omega) (by omega)) rfl rfl ?_
 refine E1 ?_
 refine C5 ?_
 (have hL2 := hcy (by omega); have hW2 := hwy (by omega); refine V0 37 9 ?_; refine K2 (fun (x : Nat × Option Addr × Nat × List (List Value) × IM) => ⟨[(9, .int .i64 x.1), (2, .int .i64 ((a + 1 + (L7 (ks.take x.1)).length : Nat) : Int)), (1, .slice (some ⟨b0, o0, none⟩) L.length c), (3, .pointer (some ⟨b3, 0, none⟩)), (8, .pointer (some ⟨b11, 0, none⟩)), (6, .pointer (some ⟨b4, 0, none⟩))], [.blk b11 [.int .i64 k, .string nm, .int .i64 num, .int .i64 T0.k, .slice p3 T0.ks.length c3, .int .i64 fk, .slice p2 fks.length c2, .int .i64 lb, .slice x.2.1 x.1 x.2.2.1], .slc x.2.1 x.2.2.1 37 9 x.1 x.2.2.2.1.flatten, .blk b4 [.int .i64 0, .string ⟨⟨[]⟩⟩, .int .i64 0, .int .i64 0, .slice none 0 0, .int .i64 0, .slice none 0 0, .int .i64 0, .slice none 0 0], .blk b3 [.int .i64 k, .string nm, .int .i64 num, .int .i64 tk, .slice pt tks.length ct, .int .i64 fk, .slice pf fks.length cf, .int .i64 lb, .slice q ks.length cq]], x.2.2.2.2⟩) (fun x => x.1 ≤ ks.length ∧ C4 G3 x.2.2.2.2 ∧ E5 x.2.2.2.2 (X0 (ks.take x.1) (L.drop (a + 1))) x.2.2.2.1) (fun x => ks.length - x.1) (0, none, 0, [], G3) ?_ ?_ ?_)
 (simp only [I1]; exact D6)
 exact A76
 (rintro ⟨(i : Nat), pn, cn, es, Gi⟩ ⟨hi, hle, hst⟩; simp only [] at hi hle hst ⊢)
 refine B7 ?_
 refine sB (J4 rfl rfl) rfl rfl (fun h202 => ?_) (fun h202 => ?_)
 refine A8 ?_
 refine C5 ?_
 refine B9 ?_
 refine sE (A9 rfl) rfl (fun b213 => ?_)
 refine D4 ?_
 (obtain ⟨b, o, e, rfl, hl, hat, hre, hgb⟩ := (hsl.mono (by first | exact hle | exact hle3.trans hle)).kidTm (hkl.mono (by first | exact hle | exact hle3.trans hle)) (i := i) (by omega) (by omega); have hone9 := hre.one; have hsc := A0G (ks := ks) (i := i) (by omega); have hsk := A1h (ks := ks) (i := i) (by omega); have hts1 := A73 (ks := ks) (i := i) (by omega); have e9 : (L7 (ks.take (i + 1))).length = (L7 (ks.take i)).length + (P3 ks[i]).length := (by rw [A30 (by omega), List.length_append]); refine sP (B5 rfl rfl rfl (by omega)) rfl rfl ?_)
 refine sL (A3 rfl rfl (hat _) hl) rfl rfl ?_
 refine A4 ?_
 (have hih := ih ks[i] (List.getElem_mem (by omega)) _ Gi e el (by rw [hL2] at hlen; (try simp only [List.length_append, List.length_singleton] at hlen); first | exact (show a + 1 + (L7 (ks.take i)).length + (P3 ks[i]).length ≤ L.length by omega) | exact (show a + (L7 (ks.take i)).length + (P3 ks[i]).length ≤ L.length by omega)) hLb (Tm.smallL_mem hks _ (List.getElem_mem (by omega))) (by omega) hre (hse.mono (by first | exact hle | exact hle3.trans hle)) (hel.mono (by first | exact hle | exact hle3.trans hle)); refine A0Y rfl hih rfl rfl (fun v G7 outs hle7 hh => ?_); obtain ⟨rfl, cu, rfl, hru⟩ := hh; rw [← List.drop_drop] at hru; have hsn := E5.snoc (hst.mono hle7) hru; obtain ⟨u1, u2, u3, u4, u5, u6, u7, u8, u9, rfl⟩ : ∃ u1 u2 u3 u4 u5 u6 u7 u8 u9, cu = [u1, u2, u3, u4, u5, u6, u7, u8, u9] := (by obtain ⟨_, _, _, _, _, _, _, _, _, rfl, _⟩ := hru.open; exact ⟨_, _, _, _, _, _, _, _, _, rfl⟩); have huo := hru.one)
 refine B9 ?_
 refine sS rfl rfl rfl rfl huo rfl ?_
 refine B7 ?_
 (refine I3 (D0 rfl rfl rfl (by omega) (by unfold maxLen; omega) rfl) rfl ?_; rintro _ ⟨b238, rfl⟩)
 (refine A0Z rfl rfl rfl rfl rfl (fun _ _ => by repeat (first | exact Sw.here | apply Sw.there)) (M9 (by repeat first | exact mH | apply mT)) rfl (fun u hu => List.all_eq_true.1 huo u hu) (by unfold maxLen; omega) (by omega) rfl (fun p4 c4 => ?_))
 refine B7 ?_
 refine sP (H9 rfl rfl (by omega) (by omega)) rfl rfl ?_
 refine A4 ?_
 (rw [← A72 (by omega)] at hsn; refine I5 (i + 1, p4, c4, es ++ [[u1, u2, u3, u4, u5, u6, u7, u8, u9]], G7) (by simp only [List.flatten_append, List.flatten_cons, List.flatten_nil, List.append_nil, e9, ← Nat.add_assoc]; exact (M4 (by repeat (first | exact E7.nil | refine E7.cons rfl ?_)) (by repeat (first | exact A1.refl | exact A1.nil | refine A1.cons (by repeat (first | exact Pk.here | apply Pk.there)) ?_ | apply A1.drop)))) ?_ ?_)
 exact A77
 exact V5
 refine K0 ?_
 (refine H2 (cs := es.flatten) (by repeat (first | exact Pk.here | apply Pk.there)) (fun G9 hle9 hsl9 hno9 => ?_); obtain rfl : i = ks.length := (by omega); rw [List.take_length] at hst)
 refine tT ?_
 refine H5 (rC rfl (A5 rfl rfl)) (rT rfl) ?_
 (rw [hW2, hL2]; exact A31.mk hk hnum hlb (by first | (rw [List.getD_eq_getElem?_getD, List.getElem?_drop, Nat.add_zero, List.getElem?_eq_getElem (by omega), Option.getD_some, ← hT0]; exact hr3.mono (hle.trans hle9)) | exact hr1.mono (hle2.trans (hle.trans hle9))) (by first | exact hr2.mono (hle3.trans (hle.trans hle9)) | exact hr2.mono (hle.trans hle9)) (by rw [A4W]) hsl9 (hst.mono hle9) (by (simp only [List.take_length, List.length_append, List.length_singleton]) <;> omega))
 refine N4 ?_
 refine C5 ?_
 (have hL2 := hcn (by omega); have hW2 := hwn (by omega); refine V0 37 9 ?_; refine K2 (fun (x : Nat × Option Addr × Nat × List (List Value) × IM) => ⟨[(9, .int .i64 x.1), (2, .int .i64 ((a + (L7 (ks.take x.1)).length : Nat) : Int)), (1, .slice p L.length c), (3, .pointer (some ⟨b3, 0, none⟩)), (8, .pointer (some ⟨b11, 0, none⟩)), (6, .pointer (some ⟨b4, 0, none⟩))], [.blk b11 [.int .i64 k, .string nm, .int .i64 num, .int .i64 tk, .slice p1 tks.length c1, .int .i64 fk, .slice p2 fks.length c2, .int .i64 lb, .slice x.2.1 x.1 x.2.2.1], .slc x.2.1 x.2.2.1 37 9 x.1 x.2.2.2.1.flatten, .blk b4 [.int .i64 0, .string ⟨⟨[]⟩⟩, .int .i64 0, .int .i64 0, .slice none 0 0, .int .i64 0, .slice none 0 0, .int .i64 0, .slice none 0 0], .blk b3 [.int .i64 k, .string nm, .int .i64 num, .int .i64 tk, .slice pt tks.length ct, .int .i64 fk, .slice pf fks.length cf, .int .i64 lb, .slice q ks.length cq]], x.2.2.2.2⟩) (fun x => x.1 ≤ ks.length ∧ C4 G2 x.2.2.2.2 ∧ E5 x.2.2.2.2 (X0 (ks.take x.1) (L.drop a)) x.2.2.2.1) (fun x => ks.length - x.1) (0, none, 0, [], G2) ?_ ?_ ?_)
 (simp only [I1]; exact D6)
 exact A76
 (rintro ⟨(i : Nat), pn, cn, es, Gi⟩ ⟨hi, hle, hst⟩; simp only [] at hi hle hst ⊢)
 refine B7 ?_
 refine sB (J4 rfl rfl) rfl rfl (fun h297 => ?_) (fun h297 => ?_)
 refine A8 ?_
 refine C5 ?_
 refine B9 ?_
 refine sE (A9 rfl) rfl (fun b308 => ?_)
 refine D4 ?_
 (obtain ⟨b, o, e, rfl, hl, hat, hre, hgb⟩ := (hsl.mono (by first | exact hle | exact hle3.trans hle)).kidTm (hkl.mono (by first | exact hle | exact hle3.trans hle)) (i := i) (by omega) (by omega); have hone9 := hre.one; have hsc := A0G (ks := ks) (i := i) (by omega); have hsk := A1h (ks := ks) (i := i) (by omega); have hts1 := A73 (ks := ks) (i := i) (by omega); have e9 : (L7 (ks.take (i + 1))).length = (L7 (ks.take i)).length + (P3 ks[i]).length := (by rw [A30 (by omega), List.length_append]); refine sP (B5 rfl rfl rfl (by omega)) rfl rfl ?_)
 refine sL (A3 rfl rfl (hat _) hl) rfl rfl ?_
 refine A4 ?_
 (have hih := ih ks[i] (List.getElem_mem (by omega)) _ Gi e el (by rw [hL2] at hlen; (try simp only [List.length_append, List.length_singleton] at hlen); first | exact (show a + 1 + (L7 (ks.take i)).length + (P3 ks[i]).length ≤ L.length by omega) | exact (show a + (L7 (ks.take i)).length + (P3 ks[i]).length ≤ L.length by omega)) hLb (Tm.smallL_mem hks _ (List.getElem_mem (by omega))) (by omega) hre (hse.mono (by first | exact hle | exact hle3.trans hle)) (hel.mono (by first | exact hle | exact hle3.trans hle)); refine A0Y rfl hih rfl rfl (fun v G7 outs hle7 hh => ?_); obtain ⟨rfl, cu, rfl, hru⟩ := hh; rw [← List.drop_drop] at hru; have hsn := E5.snoc (hst.mono hle7) hru; obtain ⟨u1, u2, u3, u4, u5, u6, u7, u8, u9, rfl⟩ : ∃ u1 u2 u3 u4 u5 u6 u7 u8 u9, cu = [u1, u2, u3, u4, u5, u6, u7, u8, u9] := (by obtain ⟨_, _, _, _, _, _, _, _, _, rfl, _⟩ := hru.open; exact ⟨_, _, _, _, _, _, _, _, _, rfl⟩); have huo := hru.one)
 refine B9 ?_
 refine sS rfl rfl rfl rfl huo rfl ?_
 refine B7 ?_
 (refine I3 (D0 rfl rfl rfl (by omega) (by unfold maxLen; omega) rfl) rfl ?_; rintro _ ⟨b333, rfl⟩)
 (refine A0Z rfl rfl rfl rfl rfl (fun _ _ => by repeat (first | exact Sw.here | apply Sw.there)) (M9 (by repeat first | exact mH | apply mT)) rfl (fun u hu => List.all_eq_true.1 huo u hu) (by unfold maxLen; omega) (by omega) rfl (fun p4 c4 => ?_))
 refine B7 ?_
 refine sP (H9 rfl rfl (by omega) (by omega)) rfl rfl ?_
 refine A4 ?_
 (rw [← A72 (by omega)] at hsn; refine I5 (i + 1, p4, c4, es ++ [[u1, u2, u3, u4, u5, u6, u7, u8, u9]], G7) (by simp only [List.flatten_append, List.flatten_cons, List.flatten_nil, List.append_nil, e9, ← Nat.add_assoc]; exact (M4 (by repeat (first | exact E7.nil | refine E7.cons rfl ?_)) (by repeat (first | exact A1.refl | exact A1.nil | refine A1.cons (by repeat (first | exact Pk.here | apply Pk.there)) ?_ | apply A1.drop)))) ?_ ?_)
 exact A77
 exact V5
 refine K0 ?_
 (refine H2 (cs := es.flatten) (by repeat (first | exact Pk.here | apply Pk.there)) (fun G9 hle9 hsl9 hno9 => ?_); obtain rfl : i = ks.length := (by omega); rw [List.take_length] at hst)
 refine tT ?_
 refine H5 (rC rfl (A5 rfl rfl)) (rT rfl) ?_
 (rw [hW2, hL2]; exact A31.mk hk hnum hlb (by first | (rw [List.getD_eq_getElem?_getD, List.getElem?_drop, Nat.add_zero, List.getElem?_eq_getElem (by omega), Option.getD_some, ← hT0]; exact hr3.mono (hle.trans hle9)) | exact hr1.mono (hle2.trans (hle.trans hle9))) (by first | exact hr2.mono (hle3.trans (hle.trans hle9)) | exact hr2.mono (hle.trans hle9)) (by rw [A4W]) hsl9 (hst.mono hle9) (by (simp only [List.take_length, List.length_append, List.length_singleton]) <;> omega))
def A1N (t : Tm) (L : List Ty) : Option Tm := if T5 t = true ∧ (A0z t).length = L.length ∧ ∀ u ∈ L, F4 u = true then some (A0U t L) else none
theorem B8C {t : Tm} {L : List Ty} (h : T5 t = true) (hl : (A0z t).length = L.length) (ha : ∀ j, j < L.length → (h : j < L.length) → F4 L[j] = true) : A1N t L = some (A0U t L) := by
 unfold A1N
 rw [if_pos ⟨h, hl, fun u hu => by obtain ⟨i, hi, rfl⟩ := List.mem_iff_getElem.1 hu; exact ha i hi hi⟩]
theorem B8D {t : Tm} {L : List Ty} (h : ¬(T5 t = true ∧ (A0z t).length = L.length ∧ ∀ u ∈ L, F4 u = true)) : A1N t L = none := by
 unfold A1N; rw [if_neg h]
def TmB (o : Option Tm) : IM → Value → List A6 → Prop := K8 fun G' v => ∃ cu, v = .tuple ⟨[.agg ⟨cu⟩, .bool o.isSome]⟩ ∧ B1 G' (o.getD J7) cu
theorem B8E {t : Tm} (h : T5 t = true) : A0z t = P3 t := by unfold A0z; rw [if_pos h]
theorem A78 {Q : Prop} (h : Q := by (rw [hno (fun hc => by first | omega | exact Bool.noConfusion (hc.1.symm.trans (show T5 t = false by assumption)) | exact Bool.noConfusion ((hc.2.2 _ (List.getElem_mem (show i < L.length by omega))).symm.trans (by assumption)))]; exact ⟨rfl, _, rfl, (Q4.zero _).R⟩)) : Q := h
theorem B8F (t : Tm) (L : List Ty) (G : IM) (cells : List Value) (p : Option Addr) (c : Nat) (es : List (List Value)) (hts : t.small) (hcnt : D1 t ≤ 4000000) (hLb : L.length ≤ 4000000) (hsm : ∀ u ∈ L, u.small) (hr : B1 G t cells) (hse : E3 G p L.length c 2 es) (hel : D5 G L es) :
  Fn Tryz.prog 95 [.agg ⟨cells⟩, .slice p L.length c] [] G (TmB (A1N t L)) := by
 have hl := hr.len
 have hone := hr.one
 have hyes := @B8C t L
 have hno := @B8D t L
 have htv := @B8E t
 have hT := B2l t G cells hts hcnt hr
 generalize A1N t L = R at hyes hno ⊢
 obtain ⟨TT, hTT⟩ : ∃ TT, A0z t = TT := ⟨_, rfl⟩
 rw [hTT] at hyes hno htv hT
 refine C6 Tryz.func95 rfl Tryz.ntmps95 Tryz.results95 rfl ?_
 intro w0
 refine A4 ?_
 refine sE (C9 rfl rfl) rfl (fun b3 => ?_)
 refine sE (A9 rfl) rfl (fun b4 => ?_)
 refine A8 ?_
 refine sL (A3 rfl rfl (B6 (by repeat first | exact mH | apply mT)) hl) rfl rfl ?_
 (refine A0Y rfl hT rfl rfl (fun v G1 outs hle1 hh => ?_); obtain ⟨p1, c1, e1, rfl, rfl, hr1⟩ := hh; replace hr := hr.mono hle1; replace hse := hse.mono hle1; replace hel := hel.mono hle1; have hv := A5s t G1 cells (by omega) hr)
 refine B9 ?_
 refine sB (N2 rfl rfl) rfl rfl (fun h16 => ?_) (fun h16 => ?_)
 refine S4 ?_
 refine H5 (rC rfl (A5 rfl rfl)) (rT rfl) ?_
 exact A78
 refine F8 ?_
 refine sL (A3 rfl rfl (B6 (by repeat first | exact mH | apply mT)) hl) rfl rfl ?_
 refine H1 rfl (hv) rfl rfl (fun h38 => ?_) (fun h38 => ?_)
 refine K4 ?_
 refine C5 ?_
 (refine K2 (fun (x : Nat) => ⟨[(6, .int .i64 x), (1, .slice p L.length c), (2, .pointer (some ⟨b3, 0, none⟩)), (4, .pointer (some ⟨b4, 0, none⟩))], [.blk b4 [.int .i64 0, .string ⟨⟨[]⟩⟩, .int .i64 0, .int .i64 0, .slice none 0 0, .int .i64 0, .slice none 0 0, .int .i64 0, .slice none 0 0], .blk b3 cells], G1⟩) (fun x => x ≤ L.length ∧ ∀ j, j < x → (h : j < L.length) → F4 L[j] = true) (fun x => L.length - x) 0 ?_ ?_ ?_)
 exact D6
 (exact ⟨Nat.zero_le _, fun j hj => absurd hj (by omega)⟩)
 (rintro (i : Nat) ⟨hi, hval⟩)
 refine A8 ?_
 refine sB (J4 rfl rfl) rfl rfl (fun h63 => ?_) (fun h63 => ?_)
 refine A8 ?_
 refine C5 ?_
 refine B4 ?_
 (obtain ⟨b0, o0, p20, c20, rfl, hat0, hre0, hgb0⟩ := hse.kidTy hel (i := i) (by omega) (by omega); have hV := A13 _ G1 _ hre0; refine sP (B5 rfl rfl rfl (by omega)) rfl rfl ?_)
 refine sL (A3 rfl rfl (hat0 _) rfl) rfl rfl ?_
 refine H1 rfl (hV) rfl rfl (fun h77 => ?_) (fun h77 => ?_)
 refine E1 ?_
 refine sP (H9 rfl rfl (by omega) (by omega)) rfl rfl ?_
 refine A4 ?_
 refine I5 (i + 1) ?_ ?_ ?_
 exact D6
 (exact ⟨by omega, fun j hj hl => by rcases Nat.lt_succ_iff_lt_or_eq.1 hj with h | h; exact hval j h hl; subst h; assumption⟩)
 (show L.length - (i + 1) < L.length - i; omega)
 refine S4 ?_
 refine H5 (rC rfl (A5 rfl rfl)) (rT rfl) ?_
 exact A78
 refine J2 ?_
 refine sL (A3 rfl rfl (B6 (by repeat first | exact mH | apply mT)) hl) rfl rfl ?_
 refine F8 ?_
 (have hTv := htv (by assumption); refine A0Y rfl (B8B L p c hsm t 0 G1 cells es (by rw [← hTv]; omega) hLb hts hcnt hr hse hel) rfl rfl (fun v G3 outs hle3 hh => ?_); obtain ⟨rfl, cu, rfl, hru⟩ := hh; rw [List.drop_zero] at hru; have hul := hru.len; have huo := hru.one)
 refine B9 ?_
 refine sE (A9 rfl) rfl (fun b129 => ?_)
 refine sS rfl rfl rfl hul huo rfl ?_ (hu := by exact E0 hul.symm)
 refine B0 ?_
 refine sL (A3 rfl rfl (B6 (by repeat first | exact mH | apply mT)) hul) rfl rfl ?_
 refine sS rfl rfl rfl hul huo rfl ?_ (hu := by exact E0 hul.symm)
 refine B4 ?_
 refine H5 (rC rfl (A3 rfl rfl (B6 (by repeat first | exact mH | apply mT)) hul)) (rT rfl) ?_
 (rw [hyes (by assumption) (by omega) (fun j hj => hval j (by omega))]; exact ⟨rfl, _, rfl, hru⟩)
 refine J5 ?_
 refine H5 (rC rfl (A5 rfl rfl)) (rT rfl) ?_
 exact A78
theorem B2m {e : Tm} (h : (A0d e).isSome = true) : T5 e = true := by
 unfold A0d O8 at h
 split at h
 ·rename_i u t hx
  split at hx
  ·assumption
  ·cases hx
 ·cases h
mutual
theorem B2n : ∀ (t : Tm) (d : Int), N5 12 14 t d = true → t.small
 | .mk k nm num ty fr lb ks, d, h => by
  obtain ⟨_, h2, h3, h4⟩ := A0R h
  obtain ⟨n1, n2, n3, n4, n5, n6, n7, n8, n9⟩ := V8.1 h3
  rw [Tm.small]
  refine ⟨by have := A91 h3; omega, (A3H h3).1.small, by rw [A2m (n9 h2).1]; exact A24, ?_, B2o ks _ h4⟩
  have := A1B k; omega
theorem B2o : ∀ (ts : List Tm) (d : Int), N7 12 14 ts d = true → Tm.smallL ts
 | [], _, _ => by rw [Tm.smallL]; trivial
 | t :: ts, d, h => by
  rw [N7, Bool.and_eq_true] at h
  rw [Tm.smallL]
  exact ⟨B2n t d h.1, B2o ts d h.2⟩
end
theorem B8G {e : Tm} (h : T5 e = true) : e.fit 30 := by
 obtain ⟨h1, h2⟩ := (A1p e).1 h
 exact ⟨B2n e 1 h1, h2⟩
theorem Tm.fit.le {e : Tm} {n m : Nat} (h : e.fit n) (hm : n ≤ m) : e.fit m := ⟨h.1, Nat.le_trans h.2 hm⟩
mutual
theorem B2p : ∀ (t : Tm) (d : Int), N5 12 14 t d = true → ∀ u ∈ P3 t, F4 u = true
 | .mk k nm num ty fr lb ks, d, h => by
  obtain ⟨_, h2, h3, h4⟩ := A0R h
  obtain ⟨n1, n2, n3, n4, n5, n6, n7, n8, n9⟩ := V8.1 h3
  intro u hu
  rw [P3, List.mem_append] at hu
  rcases hu with hu | hu
  ·split at hu
   ·rename_i hk
    obtain rfl := List.mem_singleton.1 hu
    exact n6 (by omega)
   ·simp at hu
  ·exact B2q ks _ h4 u hu
theorem B2q : ∀ (ts : List Tm) (d : Int), N7 12 14 ts d = true → ∀ u ∈ L7 ts, F4 u = true
 | [], _, _ => by simp [L7]
 | t :: ts, d, h => by
  rw [N7, Bool.and_eq_true] at h
  intro u hu
  rw [L7, List.mem_append] at hu
  rcases hu with hu | hu
  ·exact B2p t d h.1 u hu
  ·exact B2q ts d h.2 u hu
end
theorem B8H (e : Tm) : (A0z e).length ≤ 30 ∧ ∀ u ∈ A0z e, F4 u = true := by
 unfold A0z
 split
 ·rename_i h
  obtain ⟨h1, h2⟩ := (A1p e).1 h
  exact ⟨by have := B2e e; omega, B2p e 1 h1⟩
 ·simp
mutual
theorem B2r : ∀ (t : Tm) (l : List Ty), t.small → (∀ u ∈ l, u.small) → (A0U t l).small ∧ D1 (A0U t l) = D1 t
 | .mk k nm num ty fr lb ks, l, h, hl => by
  obtain ⟨h1, h2, h3, h4, h5⟩ := A0v.1 h
  rw [A0U]
  have hd : ∀ u ∈ (if k = 5 ∨ k = 13 then l.drop 1 else l), u.small := by
   intro u hu
   split at hu
   ·exact hl u (List.mem_of_mem_drop hu)
   ·exact hl u hu
  obtain ⟨g1, g2⟩ := B2s ks _ h5 hd
  refine ⟨A0v.2 ⟨h1, ?_, h3, by rw [A4W]; exact h4, g1⟩, by rw [Z4, Z4, g2]⟩
  split
  ·rw [List.getD_eq_getElem?_getD]
   cases hx : l[0]? with
   | none => exact A24
   | some t => exact hl t (List.mem_of_getElem? hx)
  ·exact h2
theorem B2s : ∀ (ts : List Tm) (l : List Ty), Tm.smallL ts → (∀ u ∈ l, u.small) → Tm.smallL (X0 ts l) ∧ E8 (X0 ts l) = E8 ts
 | [], l, _, _ => by simp [X0, Tm.smallL, E8]
 | t :: ts, l, h, hl => by
  simp only [Tm.smallL] at h
  obtain ⟨a1, a2⟩ := B2r t l h.1 hl
  obtain ⟨b1, b2⟩ := B2s ts (l.drop (P3 t).length) h.2 (fun u hu => hl u (List.mem_of_mem_drop hu))
  simp only [X0, Tm.smallL, E8, a2, b2]
  exact ⟨⟨a1, b1⟩, trivial⟩
end
theorem B8I {t : Tm} {l : List Ty} {N : Nat} (h : t.fit N) (hl : ∀ u ∈ l, u.small) : ((A1N t l).getD J7).fit N := by
 unfold A1N
 split
 ·obtain ⟨h1, h2⟩ := B2r t l h.1 hl
  exact ⟨h1, by rw [Option.getD_some, h2]; exact h.2⟩
 ·refine ⟨A4B, ?_⟩
  have h2 := h.2
  have : 1 ≤ D1 t := by cases t; rw [Z4]; omega
  show D1 J7 ≤ N
  rw [B0e]; omega
theorem B8J {es : List (List Value)} {i sz : Nat} (hi : i < es.length) (ha : ∀ e ∈ es, e.length = sz) : ∀ j v, es[i][j]? = some v → es.flatten[0 + i * sz + j]? = some v := by
 intro j v hj
 have h1 : es.flatten = (es.take i).flatten ++ (es[i] ++ (es.drop (i + 1)).flatten) := by
  conv => lhs; rw [← List.take_append_drop i es, List.drop_eq_getElem_cons hi]
  rw [List.flatten_append, List.flatten_cons]
 have hA : ((es.take i).flatten).length = 0 + i * sz := by rw [A00 (fun e he => ha e (List.mem_of_mem_take he)), List.length_take, Nat.min_eq_left (by omega)]; omega
 have hjl : j < es[i].length := by
  apply Classical.byContradiction
  intro hn
  rw [List.getElem?_eq_none (by omega)] at hj
  cases hj
 rw [h1, List.getElem?_append_right (by omega), hA, show 0 + i * sz + j - (0 + i * sz) = j by omega, List.getElem?_append_left hjl, hj]
theorem B2t (br : Nat) (pb : Option Addr) (nb cb : Nat) (bs : List UInt8) (hnb : nb ≤ 2000) (p : Nat) (G : IM) (hb : Sl G pb nb cb 1 (O2 bs)) (hp : p < 1099511627776) :
  Fn Tryz.prog 85 [.pointer (some ⟨br, 0, none⟩)] [rd br pb nb cb p] G
   (A0t br pb nb cb p 1 (fun _ v => ∃ k, v = .int .i64 k ∧ H0 k)) := by
 refine C6 Tryz.func85 rfl Tryz.ntmps85 Tryz.results85 rfl ?_
 intro w0
 refine D4 ?_
 (refine I3 (D0 rfl rfl rfl (by omega) (by unfold maxLen; omega) rfl) rfl ?_; rintro _ ⟨b9, rfl⟩)
 (refine U6 (by repeat (first | exact Pk.here | apply Pk.there)) (fun Gf hlef hslf _ => ?_); refine J9 rfl (A0m Gf br pb nb cb p bs _ _ _ _ (hb.mono hlef) hnb (by omega) hslf (by decide)) (Pk.perm (by repeat (first | exact Pk.here | apply Pk.there))) rfl rfl (fun v Gm outs hlen hh => ?_); obtain ⟨rfl, rfl, hv⟩ := hh; obtain ⟨kn, rfl, hkn⟩ : ∃ k, v = .int .i64 k ∧ H0 k := (by simp only [List.mem_cons, List.not_mem_nil, or_false] at hv; rcases hv with rfl | rfl | rfl | rfl | rfl | rfl | rfl | rfl <;> exact ⟨_, rfl, by unfold H0; omega⟩))
 refine B4 ?_
 refine H7 (outs := [rd br pb nb cb (p + 1)]) (rT rfl) (by repeat (first | exact A1.nil | refine A1.cons Pk.here ?_ | refine A1.cons (Pk.there Pk.here) ?_ | refine A1.cons (Pk.there (Pk.there Pk.here)) ?_ | apply A1.drop)) ?_
 (exact ⟨p + 1, by omega, by omega, rfl, kn, rfl, hkn⟩)
theorem B8K (br : Nat) (pb : Option Addr) (nb cb : Nat) (bs : List UInt8) (hnb : nb ≤ 2000) (p : Nat) (G : IM) (hb : Sl G pb nb cb 1 (O2 bs)) (hp : p + 9000000 < 1099511627776) :
  Fn Tryz.prog 82 [.pointer (some ⟨br, 0, none⟩)] [rd br pb nb cb p] G
   (A0t br pb nb cb p 9000000 (fun G' v => ∃ e cells, v = .agg ⟨cells⟩ ∧ B1 G' e cells ∧ e.fit 1100)) := by
 have hm8 : mB 8 = 1968200 := by decide
 refine C6 Tryz.func82 rfl Tryz.ntmps82 Tryz.results82 rfl ?_
 intro w0
 refine A4 ?_
 refine sE (A9 rfl) rfl (fun b3 => ?_)
 refine D4 ?_
 refine C5 ?_
 (refine K2 (fun (x : Nat × Nat × IM) => ⟨[(3, .int .i64 x.1), (0, .pointer (some ⟨br, 0, none⟩)), (2, .pointer (some ⟨b3, 0, none⟩))], [rd br pb nb cb x.2.1, .blk b3 [.int .i64 0, .string ⟨⟨[]⟩⟩, .int .i64 0, .int .i64 0, .slice none 0 0, .int .i64 0, .slice none 0 0, .int .i64 0, .slice none 0 0]], x.2.2⟩) (fun x => x.1 ≤ 4 ∧ C4 G x.2.2 ∧ p ≤ x.2.1 ∧ x.2.1 ≤ p + x.1 * 2000000) (fun x => 4 - x.1) (0, p, G) ?_ ?_ ?_)
 (simp only [I1]; exact D6)
 (exact ⟨by omega, C4.refl _, Nat.le_refl _, by dsimp only; omega⟩)
 (rintro ⟨(i : Nat), (p1 : Nat), G1⟩ ⟨hi, hleL, hpL, hpL2⟩; simp only [] at hi hleL hpL hpL2 ⊢; replace hb := hb.mono hleL)
 refine B4 ?_
 refine sB (J4 rfl rfl) rfl rfl (fun h21 => ?_) (fun h21 => ?_)
 refine A8 ?_
 refine C5 ?_
 refine B0 ?_
 (refine I3 (D0 rfl rfl rfl (by omega) (by unfold maxLen; omega) rfl) rfl ?_; rintro _ ⟨b34, rfl⟩)
 (refine U6 (by repeat (first | exact Pk.here | apply Pk.there)) (fun Gf hlef hslf _ => ?_); refine J9 rfl (A0m Gf br pb nb cb (p1) bs _ _ _ _ (hb.mono hlef) hnb (by omega) hslf (by decide)) (Pk.perm (by repeat (first | exact Pk.here | apply Pk.there))) rfl rfl (fun v Gm outs hlen hh => ?_); obtain ⟨rfl, rfl, hv⟩ := hh; replace hb := hb.mono hlef; obtain ⟨dd, rfl, hdd⟩ : ∃ d : Nat, v = .int .i64 ((d + 1 : Nat) : Int) ∧ d ≤ 2 := (by simp only [List.mem_cons, List.not_mem_nil, or_false] at hv; rcases hv with rfl | rfl | rfl | rfl <;> first | exact ⟨0, rfl, by decide⟩ | exact ⟨1, rfl, by decide⟩ | exact ⟨2, rfl, by decide⟩); have hdB := A61 hdd; replace hleL := hleL.trans hlef)
 (have hcall := A4v br pb nb cb bs hnb dd (p1 + 1) _ (by omega) hb (by omega); refine J9 rfl hcall (Pk.perm (by repeat (first | exact Pk.here | apply Pk.there))) rfl rfl (fun v Gn outs hleD hh => ?_); obtain ⟨pD, hpD1, hpD2, rfl, uD, cD, rfl, hrD, hsD, haD⟩ := hh; obtain ⟨qD, dD, eD, rfl, _⟩ := hrD.open; replace hb := hb.mono hleD; replace hleL := hleL.trans hleD)
 refine F8 ?_
 (refine I3 (D0 rfl rfl rfl (by omega) (by unfold maxLen; omega) rfl) rfl ?_; rintro _ ⟨b38, rfl⟩)
 (refine U6 (by repeat (first | exact Pk.here | apply Pk.there)) (fun Gf hlef hslf _ => ?_); refine J9 rfl (A0m Gf br pb nb cb (pD) bs _ _ _ _ (hb.mono hlef) hnb (by omega) hslf (by decide)) (Pk.perm (by repeat (first | exact Pk.here | apply Pk.there))) rfl rfl (fun v Gm outs hlen hh => ?_); obtain ⟨rfl, rfl, hv⟩ := hh; replace hb := hb.mono hlef; replace hleL := hleL.trans hlef; replace hrD := hrD.mono hlef; obtain ⟨dp, rfl, hdp1, hdp2⟩ : ∃ d : Int, v = .int .i64 d ∧ 3 ≤ d ∧ d ≤ 5 := (by simp only [List.mem_cons, List.not_mem_nil, or_false] at hv; rcases hv with rfl | rfl | rfl | rfl <;> exact ⟨_, rfl, by decide, by decide⟩))
 (have hcall := B8z br pb nb cb bs hnb 8 dp uD (pD + 1) _ none 0 0 _ ⟨haD.le (by omega), by omega, by omega, .inr ⟨by omega, by omega⟩⟩ (by omega) (by omega) (by omega) (Z3.nil _) hrD hb (by omega); refine J9 rfl hcall (Pk.perm (by repeat (first | exact Pk.here | apply Pk.there))) rfl rfl (fun v Gn outs hleM hh => ?_); obtain ⟨pM, hpM1, hpM2, rfl, eM, cM, rfl, hrM, hsmM, hcM⟩ := hh; have hlM := hrM.len; have hoM := hrM.one; replace hb := hb.mono hleM; replace hleL := hleL.trans hleM)
 refine sE (A9 rfl) rfl (fun b41 => ?_)
 refine X5 rfl rfl rfl hlM hoM rfl (by repeat first | exact Sw.here | apply Sw.there) (by exact E0 (by first | exact hlM.symm | omega)) ?_
 refine B4 ?_
 refine sL (A3 rfl rfl (B6 (by repeat first | exact mH | apply mT)) hlM) rfl rfl ?_
 (refine E6 rfl (B1V eM _ _ (by omega) hrM) rfl rfl (fun v G9 hle9 hh => ?_); have hmv := @B2m eM; obtain ⟨mc, mt, rfl, hmr, hmu⟩ := hh; obtain ⟨pt, ct, et, rfl, _⟩ := hmr.open; replace hb := hb.mono hle9; replace hleL := hleL.trans hle9; replace hrM := hrM.mono hle9; generalize (A0d eM).isSome = mx at *; cases mx)
 refine B9 ?_
 refine sE (A9 rfl) rfl (fun b52 => ?_)
 refine I7 ?_
 refine sP (H9 rfl rfl (by omega) (by omega)) rfl rfl ?_
 refine A4 ?_
 refine I5 (i + 1, pM, G9) ?_ ?_ ?_
 (simp only [I1]; exact D6)
 (dsimp only; exact ⟨by omega, hleL, by omega, by omega⟩)
 (show 4 - (i + 1) < 4 - i; omega)
 refine B9 ?_
 refine sE (A9 rfl) rfl (fun b78 => ?_)
 refine N4 ?_
 refine sL (A3 rfl rfl (B6 (by repeat first | exact mH | apply mT)) hlM) rfl rfl ?_
 refine X5 rfl rfl rfl hlM hoM rfl (by repeat first | exact Sw.here | apply Sw.there) (by exact E0 (by first | exact hlM.symm | omega)) ?_
 refine D4 ?_
 refine H7 (outs := [rd br pb nb cb pM]) (rC rfl (A3 rfl rfl (B6 (by repeat first | exact mH | apply mT)) hlM)) (by repeat (first | exact A1.nil | refine A1.cons Pk.here ?_ | refine A1.cons (Pk.there Pk.here) ?_ | refine A1.cons (Pk.there (Pk.there Pk.here)) ?_ | apply A1.drop)) ?_
 (exact ⟨pM, by omega, by omega, rfl, eM, _, rfl, hrM, (B8G (hmv rfl)).le (by omega)⟩)
 refine J8 ?_
 (have hcall := B4Q br pb nb cb bs hnb p1 _ hb (by omega); refine J9 rfl hcall (Pk.perm (by repeat (first | exact Pk.here | apply Pk.there))) rfl rfl (fun v Gn outs hleC hh => ?_); obtain ⟨pC, hpC1, hpC2, rfl, eC, cC, rfl, hrC, hcC⟩ := hh; have hlC := hrC.len; have hoC := hrC.one; have hcnt := A6I eC)
 refine X5 rfl rfl rfl hlC hoC rfl (by repeat first | exact Sw.here | apply Sw.there) (by exact E0 (by first | exact hlC.symm | omega)) ?_
 refine B9 ?_
 refine H7 (outs := [rd br pb nb cb pC]) (rC rfl (A3 rfl rfl (B6 (by repeat first | exact mH | apply mT)) hlC)) (by repeat (first | exact A1.nil | refine A1.cons Pk.here ?_ | refine A1.cons (Pk.there Pk.here) ?_ | refine A1.cons (Pk.there (Pk.there Pk.here)) ?_ | apply A1.drop)) ?_
 (exact ⟨pC, by omega, by omega, rfl, eC, _, rfl, hrC, A9d _ (by omega), by omega⟩)
theorem B8L (br : Nat) (pb : Option Addr) (nb cb : Nat) (bs : List UInt8) (hnb : nb ≤ 2000) (p : Nat) (G : IM) (hb : Sl G pb nb cb 1 (O2 bs)) (hp : p + 1000 < 1099511627776) (e : Tm) (ce : List Value) (N : Nat) (hfit : e.fit N) (hN : N ≤ 4000000) (hr : B1 G e ce) :
  Fn Tryz.prog 84 [.pointer (some ⟨br, 0, none⟩), .agg ⟨ce⟩] [rd br pb nb cb p] G
   (A0t br pb nb cb p 1000 (fun G' v => ∃ u cu, v = .agg ⟨cu⟩ ∧ B1 G' u cu ∧ u.fit N)) := by
 have hl := hr.len
 have hone := hr.one
 have hcnt := hfit.2
 obtain ⟨hTl, hTv⟩ := B8H e
 have hT := B2l e G ce hfit.1 (by omega) hr
 generalize A0z e = L0 at hTl hTv hT
 refine C6 Tryz.func84 rfl Tryz.ntmps84 Tryz.results84 rfl ?_
 intro w0
 refine A4 ?_
 refine sE (C9 rfl rfl) rfl (fun b3 => ?_)
 refine sE (A9 rfl) rfl (fun b4 => ?_)
 refine B4 ?_
 refine sL (A3 rfl rfl (B6 (by repeat first | exact mH | apply mT)) hl) rfl rfl ?_
 (refine A0Y rfl hT rfl rfl (fun v G1 outs hle1 hh => ?_); obtain ⟨q, c, es0, rfl, rfl, hr1⟩ := hh; replace hb := hb.mono hle1; replace hr := hr.mono hle1)
 refine E1 ?_
 refine C5 ?_
 (refine B3h (fun a w hs => hs.slc_ptT (p := q) (c := c) (el := 34) (sz := 2) (n := L0.length) (cs := es0.flatten) (by repeat first | exact mH | apply mT)) (fun hq => ?_); refine K2 (fun (x : Nat × Nat × List (List Value) × IM) => ⟨[(6, .int .i64 x.1), (5, .slice q L0.length c), (0, .pointer (some ⟨br, 0, none⟩)), (3, .pointer (some ⟨b3, 0, none⟩)), (4, .pointer (some ⟨b4, 0, none⟩))], [.slc q c 34 2 L0.length x.2.2.1.flatten, rd br pb nb cb x.2.1, .blk b4 [.int .i64 0, .string ⟨⟨[]⟩⟩, .int .i64 0, .int .i64 0, .slice none 0 0, .int .i64 0, .slice none 0 0, .int .i64 0, .slice none 0 0], .blk b3 ce], x.2.2.2⟩) (fun x => x.1 ≤ L0.length ∧ C4 G1 x.2.2.2 ∧ p ≤ x.2.1 ∧ x.2.1 ≤ p + x.1 * 31 ∧ ∃ L, L.length = L0.length ∧ D5 x.2.2.2 L x.2.2.1 ∧ ∀ u ∈ L, F9 u ∧ K7 u ≤ 30) (fun x => L0.length - x.1) (0, p, es0, G1) ?_ ?_ ?_)
 (simp only [I1]; exact D6)
 (exact ⟨Nat.zero_le _, C4.refl _, Nat.le_refl _, by dsimp only; omega, L0, rfl, hr1, fun u hu => A4x (hTv u hu)⟩)
 (rintro ⟨(i : Nat), (p1 : Nat), es, Gi⟩ ⟨hi, hle, hp1, hp2, L, hL, hst, hal⟩; simp only [] at hi hle hp1 hp2 hst ⊢; replace hb := hb.mono hle; have hesl : es.length = L0.length := (by have h0 := hst.len; omega))
 refine A8 ?_
 refine sB (J4 rfl rfl) rfl rfl (fun h31 => ?_) (fun h31 => ?_)
 refine A8 ?_
 refine C5 ?_
 refine A8 ?_
 (obtain ⟨g, rfl, hgc⟩ := hq.resolve_left (by omega); obtain ⟨hai, hsi⟩ := hal L[i] (List.getElem_mem (by omega)); have hri : C3 Gi L[i] (es[i]'(by omega)) := (by have h0 := (hst.inv (i := i) (List.getElem?_eq_getElem (by omega)) B3).2; rw [List.getD_eq_getElem?_getD, List.getElem?_eq_getElem (by omega), Option.getD_some] at h0; exact h0); have hei := hri.len; refine sP (B5 (j := i) rfl rfl rfl (by omega)) rfl rfl ?_)
 refine sL (A3 rfl rfl (A8g (by repeat first | exact mH | apply mT) (B8J (by omega) (fun e he => (hst.each e he).1))) hei) rfl rfl ?_
 (have hcall := A5x br pb nb cb bs hnb _ p1 _ _ hai hri hb (by omega); refine J9 rfl hcall (Pk.perm (by repeat (first | exact Pk.here | apply Pk.there))) rfl rfl (fun v Gn outs hleu hh => ?_); obtain ⟨p2, hp21, hp22, rfl, u, cu, rfl, hru, hua, hus, huh⟩ := hh; have hul := hru.len; have huo := hru.one; replace hb := hb.mono hleu; replace hle := hle.trans hleu; replace hst := hst.mono hleu)
 refine sP (B5 (j := i) rfl rfl rfl (by omega)) rfl rfl ?_
 refine B8u rfl rfl rfl hul huo rfl (by repeat first | exact Sw.here | apply Sw.there) (B8v (by omega) (fun e he => (hst.each e he).1) hul) ?_
 refine B0 ?_
 refine sP (H9 rfl rfl (by omega) (by omega)) rfl rfl ?_
 refine A4 ?_
 (refine I5 (i + 1, p2, es.set i cu, Gn) ?_ ?_ ?_)
 (simp only [I1]; exact D6)
 (dsimp only; exact ⟨by omega, hle, by omega, by omega, L.set i u, by rw [List.length_set]; exact hL, hst.set i hru, fun w hw => by rcases List.mem_or_eq_of_mem_set hw with h | h; exact hal w h; rw [h]; exact ⟨hua, by omega⟩⟩)
 (show L0.length - (i + 1) < L0.length - i; omega)
 refine J2 ?_
 refine sL (A3 rfl rfl (B6 (by repeat first | exact mH | apply mT)) hl) rfl rfl ?_
 refine F8 ?_
 (refine U6 (cs := es.flatten) (by repeat (first | exact Pk.here | apply Pk.there)) (fun G2 hle2 hsl2 hno2 => ?_); have hw := B8F e L G2 ce q c es hfit.1 (by omega) (by omega) (fun u hu => (hal u hu).1.small) ((hr.mono hle).mono hle2) (E3.of (by rw [hL]; exact hsl2) (by omega) hst.all (fun e he => (hst.each e he).2)) (hst.mono hle2); rw [hL] at hw; refine E6 rfl hw rfl rfl (fun v G3 hle3 hh => ?_); obtain ⟨cu, rfl, hru⟩ := hh; have hfu := B8I hfit (fun u hu => (hal u hu).1.small); generalize (A1N e L).isSome = bx; generalize (A1N e L).getD J7 = ux at *; have hul := hru.len; have huo := hru.one)
 refine B9 ?_
 refine sE (A9 rfl) rfl (fun b78 => ?_)
 refine sS rfl rfl rfl hul huo rfl ?_ (hu := by exact E0 hul.symm)
 refine B0 ?_
 refine sL (A3 rfl rfl (B6 (by repeat first | exact mH | apply mT)) hul) rfl rfl ?_
 refine sS rfl rfl rfl hul huo rfl ?_ (hu := by exact E0 hul.symm)
 refine B9 ?_
 refine H7 (outs := [rd br pb nb cb p1]) (rC rfl (A3 rfl rfl (B6 (by repeat first | exact mH | apply mT)) hul)) (by repeat (first | exact A1.nil | refine A1.cons Pk.here ?_ | refine A1.cons (Pk.there Pk.here) ?_ | refine A1.cons (Pk.there (Pk.there Pk.here)) ?_ | apply A1.drop)) ?_
 (exact ⟨p1, by omega, by omega, rfl, ux, cu, rfl, hru, hfu⟩)
mutual
theorem B2u : ∀ a : Ty, A2e a a = true
 | .mk k ks => by rw [A1F, B2v ks]; simp
theorem B2v : ∀ xs : List Ty, A0J xs xs = true
 | [] => rfl
 | a :: xs => by rw [A0J, B2u a, B2v xs]; rfl
end
def PLe (l l' : List Ty) : Prop := ∀ i, A2e (l.getD i B3) (l'.getD i B3) = true
section masks
variable {P : Program} {Γ : M0} {env : M6} {hp : List A6} {G : IM} {ty : TypeId}
end masks
theorem SP1.mono {G G' : IM} {l : List Int} {p : Option Addr} {c : Nat} (h : SP1 G l p c) (hg : C4 G G') : SP1 G' l p c := ⟨h.1.mono hg, A2U hg h.2⟩
def Y9 (e : Tm) (fuel : Int) : List Int × Int × Bool :=
 if (O9 e fuel).2.1 = 2 then ((A0e ((O8 e).getD (J7, B3)).1 (U8 (O9 e fuel).2.2)).1, (O9 e fuel).2.2, (A0e ((O8 e).getD (J7, B3)).1 (U8 (O9 e fuel).2.2)).2) else ([], 0, false)
def A1w (e : Tm) (fuel : Int) (G : IM) : IM → Value → List A6 → Prop := K8 fun G' v => ∃ p c, v = .tuple ⟨[.slice p (Y9 e fuel).1.length c, .int .i64 (Y9 e fuel).2.1, .bool (Y9 e fuel).2.2]⟩ ∧ SP1 (C2 G' G) (Y9 e fuel).1 p c
theorem A1w.no {e : Tm} {fuel : Int} {G G' : IM} {p : Option Addr} {c : Nat} (h : ¬ (O9 e fuel).2.1 = 2) (hs : SP1 (C2 G' G) [] p c) : A1w e fuel G G' (.tuple ⟨[.slice p 0 c, .int .i64 0, .bool false]⟩) [] := by
 refine ⟨rfl, p, c, ?_, ?_⟩
 ·unfold Y9; rw [if_neg h]; rfl
 ·unfold Y9; rw [if_neg h]; exact hs
theorem A1w.yes {e : Tm} {fuel : Int} {G G1 G' : IM} {p : Option Addr} {c : Nat} {l : Int} (hl : (O9 e fuel).2.2 = l) (h : (O9 e fuel).2.1 = 2) (hle : C4 G G1)
  (hs : SP1 (C2 G' G1) (A0e ((O8 e).getD (J7, B3)).1 (U8 l)).1 p c) : A1w e fuel G G' (.tuple ⟨[.slice p (A0e ((O8 e).getD (J7, B3)).1 (U8 l)).1.length c, .int .i64 l, .bool (A0e ((O8 e).getD (J7, B3)).1 (U8 l)).2]⟩) [] := by
 subst hl
 refine ⟨rfl, p, c, ?_, ?_⟩
 ·unfold Y9; rw [if_pos h]
 ·unfold Y9; rw [if_pos h]; exact hs.mono (C2.anti hle)
theorem B8M : ∀ t : Tm, cv t → W9 (fun l => -99 ≤ l ∧ l ≤ 99) t := by
 refine Tm.ind fun k nm num ty fr lb ks ih hc => ?_
 obtain ⟨hN, hk⟩ := hc.node
 rw [A0x]
 exact ⟨fun _ => hN.lbB, A07.2 fun t ht => ih t ht (hk t ht)⟩
theorem A54 {e : Tm} {fuel : Int} (h : (O9 e fuel).2.1 = 2) : -99 ≤ (O9 e fuel).2.2 ∧ (O9 e fuel).2.2 ≤ 99 := by
 cases hi : O8 e with
 | none => rw [A5V hi] at h; simp at h
 | some r =>
  obtain ⟨u, t⟩ := r
  obtain ⟨g1, g2, g3⟩ := A2z hi
  by_cases h0 : (S9 u fuel).2.1 = 0
  ·rw [A5W hi h0] at h; simp at h
  ·rw [A5X hi h0] at h ⊢
   simp only at h ⊢
   unfold S9 at h ⊢
   split at h
   ·rename_i hf
    rw [if_pos hf]
    have := A7y (fun l => -99 ≤ l ∧ l ≤ 99) (fun l hl => ⟨by omega, by omega⟩) fuel.toNat u t g1 g2 (B8M u (A03 g1).1)
    simp only at h
    rcases this with ⟨q, _⟩ | ⟨_, q⟩ | ⟨q, _⟩ | ⟨q, _⟩
    ·omega
    ·exact q
    ·omega
    ·omega
   ·simp [Q7] at h
theorem B2w {l : Int} (h : -99 ≤ l ∧ l ≤ 99) : U8 l = if l < -l then -l else l := by
 unfold U8
 rw [if_neg (by omega)]
 split <;> split <;> omega
theorem B8N (e : Tm) : D1 ((O8 e).getD (J7, B3)).1 ≤ 4294967296 := by
 cases hi : O8 e with
 | none => decide
 | some r =>
  obtain ⟨u, t⟩ := r
  have := A4j (A2z hi).1
  show D1 u ≤ _
  omega
theorem B8O {P : Program} {Γ : M0} {env : M6} {hp : List A6} {G : IM} {ty t1 t2 : TypeId} {x y : Operand} {k k' : IntKind} {m n : Int} (hx : evo env x = some (.int k m)) (hy : evo env y = some (.int k' n)) :
  J1 P Γ ⟨env, hp, G⟩ (.call ⟨.builtin .max, ⟨[x, y]⟩, ⟨[t1, t2]⟩⟩) ty (.int k (if m < n then n else m)) := by
 refine ⟨fun a _ hs _ _ _ _ w => ?_⟩
 simp [execOp, resolve, invoke, builtin, Builtin.max_, Builtin.max2, (hs.evo hx : a.eval x = _), (hs.evo hy : a.eval y = _)]
theorem B8P (e : Tm) (fuel : Int) (G : IM) (cells : List Value) (hT : A1k G) (hr : B1 G e cells) : Fn Tryz.prog 21 [.agg ⟨cells⟩, .int .i64 fuel] [] G (A1w e fuel G) := by
 have hRl := hr.len
 have hRo := hr.one
 have hlab := @A54 e fuel
 refine C6 Tryz.func21 rfl Tryz.ntmps21 Tryz.results21 rfl ?_
 intro w0
 refine A4 ?_
 refine sE (C9 rfl rfl) rfl (fun b3 => ?_)
 refine B7 ?_
 refine sL (A3 rfl rfl (B6 (by repeat first | exact mH | apply mT)) hRl) rfl rfl ?_
 refine F8 ?_
 (refine E6 rfl (B1E e fuel G cells hT hr) rfl rfl (fun v1 G1 hle1 hh => ?_); obtain ⟨r, hR⟩ : ∃ r, O9 e fuel = r := ⟨_, rfl⟩; have hr1 := hr.mono hle1; rw [hR] at hh hlab; obtain ⟨s, c, l⟩ := r; simp only at hh hlab; subst hh; have hc2 : (O9 e fuel).2.1 = c := (by rw [hR]); have hl2 : (O9 e fuel).2.2 = l := (by rw [hR]))
 refine K4 ?_
 refine sB (N2 rfl rfl) rfl rfl (fun h27 => ?_) (fun h27 => ?_)
 refine N4 ?_
 refine D3 (rT rfl) (rT rfl) (rT rfl) ?_
 exact A1w.no (by omega) (SP1.nil _)
 refine B7 ?_
 refine sL (A3 rfl rfl (B6 (by repeat first | exact mH | apply mT)) hRl) rfl rfl ?_
 (have hl99 := hlab (by omega); have hmx := B2w hl99; refine E6 rfl (A7F e G1 cells hr1) rfl rfl (fun v2 G2 hle2 hh => ?_); obtain ⟨cu, ct, rfl, hru, hrt⟩ := hh; obtain ⟨qt, dt, et2, rfl, _⟩ := hrt.open; have hlu := hru.len; have hou := hru.one)
 refine B4 ?_
 refine sE (A9 rfl) rfl (fun b55 => ?_)
 refine sE (A9 rfl) rfl (fun b56 => ?_)
 refine X5 rfl rfl rfl (by assumption) (by assumption) rfl (by repeat first | exact Sw.here | apply Sw.there) (by exact E0 (by symm; assumption)) ?_
 refine A8 ?_
 refine sL (A3 rfl rfl (B6 (by repeat first | exact mH | apply mT)) hlu) rfl rfl ?_
 refine A4 ?_
 refine sP (A3m rfl (by omega) (by omega)) rfl rfl ?_
 refine sQ (B8O rfl rfl) rfl ?_
 (rw [← hmx]; refine E6 rfl (B8g _ _ G2 cu hru) rfl rfl (fun v3 G3 hle3 hh => ?_); obtain ⟨p3, c3, rfl, hp3⟩ := hh)
 refine V1 ?_
 refine D3 (rT rfl) (rT rfl) (rT rfl) ?_
 exact A1w.yes hl2 (by omega) (hle1.trans hle2) hp3
theorem B8Q (e : Tm) (fuel : Int) (G : IM) (cells : List Value) (hcnt : D1 e ≤ 4294967296) (hr : B1 G e cells) : Fn Tryz.prog 22 [.agg ⟨cells⟩, .int .i64 fuel] [] G (A1w e fuel G) := by
 have hRl := hr.len
 have hRo := hr.one
 have hic := B8N e
 refine C6 Tryz.func22 rfl Tryz.ntmps22 Tryz.results22 rfl ?_
 intro w0
 refine A4 ?_
 refine sE (C9 rfl rfl) rfl (fun b3 => ?_)
 refine B7 ?_
 refine sL (A3 rfl rfl (B6 (by repeat first | exact mH | apply mT)) hRl) rfl rfl ?_
 refine F8 ?_
 (refine E6 rfl (B79 e fuel G cells hcnt hr) rfl rfl (fun v1 G1 hle1 hh => ?_); obtain ⟨r, hR⟩ : ∃ r, O9 e fuel = r := ⟨_, rfl⟩; have hr1 := hr.mono hle1; rw [hR] at hh; obtain ⟨s, c, l⟩ := r; simp only at hh; subst hh; have hc2 : (O9 e fuel).2.1 = c := (by rw [hR]); have hl2 : (O9 e fuel).2.2 = l := (by rw [hR]))
 refine K4 ?_
 refine sB (N2 rfl rfl) rfl rfl (fun h27 => ?_) (fun h27 => ?_)
 refine B0 ?_
 (refine I3 (D0 rfl rfl rfl (by omega) (by unfold maxLen; omega) rfl) rfl ?_; rintro _ ⟨b33, rfl⟩)
 refine B0 ?_
 (refine H2 (by repeat (first | exact Pk.here | apply Pk.there)) (fun G5 hle5 hsl5 hno5 => ?_))
 refine A4 ?_
 refine D3 (rT rfl) (rT rfl) (rT rfl) ?_
 (exact A1w.no (by omega) ⟨by simpa [S5] using hsl5.dif (fun b hb => (hno5 b hb).1) hle1, fun b hb => A5e hle1 (hno5 b hb)⟩)
 refine B7 ?_
 refine sL (A3 rfl rfl (B6 (by repeat first | exact mH | apply mT)) hRl) rfl rfl ?_
 (refine E6 rfl (B1Z e G1 cells hcnt hr1) rfl rfl (fun v2 G2 hle2 hh => ?_); obtain ⟨cu, ct, rfl, hru, hrt⟩ := hh; obtain ⟨qt, dt, et2, rfl, _⟩ := hrt.open; have hlu := hru.len; have hou := hru.one)
 refine B4 ?_
 refine sE (A9 rfl) rfl (fun b57 => ?_)
 refine sE (A9 rfl) rfl (fun b58 => ?_)
 refine X5 rfl rfl rfl (by assumption) (by assumption) rfl (by repeat first | exact Sw.here | apply Sw.there) (by exact E0 (by symm; assumption)) ?_
 refine B0 ?_
 refine D7 D8 rfl ?_
 refine L3 (i := 0) (l' := [tt,ff,ff,ff,ff,ff,ff,ff,ff]) rfl D2 (A3 rfl rfl (B6 (by repeat first | exact mH | apply mT)) hlu) rfl (by kernel_rfl) rfl rfl ?_
 refine aP 1 rfl (qM rfl) rfl ?_
 refine A2 2 ?_
 refine N6 rfl rfl (A9b l _) rfl rfl rfl ?_
 refine A2 3 ?_
 (refine H3 rfl rfl (B8h _ _ G2 cu hic hru) rfl rfl rfl (fun v3 G3 hle3 hh => ?_); obtain ⟨p3, c3, rfl, hp3⟩ := hh)
 refine aP 4 rfl (qM rfl) rfl ?_
 refine aP 5 rfl (pX rfl rfl) rfl ?_
 refine aP 6 rfl (pX rfl rfl) rfl ?_
 refine aP 7 rfl (qA rfl) rfl ?_
 refine aP 8 rfl (qA rfl) rfl ?_
 refine K4 ?_
 refine D3 (rT rfl) (rT rfl) (rT rfl) ?_
 exact A1w.yes hl2 (by omega) (hle1.trans hle2) hp3
def mLb (t : Tm) : List Int := (O3 t).map Tm.lb
def A0o (ts : List Tm) : List Int := (L8 ts).map Tm.lb
theorem B2x : A0o [] = [] := by unfold A0o; rw [L8]; rfl
theorem A41 (t : Tm) (ts : List Tm) : A0o (t :: ts) = mLb t ++ A0o ts := by unfold A0o mLb; rw [L8, List.map_append]
theorem B8R {k : Int} {nm : ByteArray} {num : Int} {ty fr : Ty} {lb : Int} {ks : List Tm} (hk : k ≠ 14) : mLb (.mk k nm num ty fr lb ks) = A0o ks := by unfold A0o mLb; rw [O3, if_neg hk, List.nil_append]
theorem B8S (u : Tm) (a b : Ty) (l : Int) : mLb (K5 u a b l) = l :: mLb u := by
 unfold mLb K5
 rw [O3, if_pos rfl, L8, L8, List.append_nil]
 rfl
structure Lbs (ls : List Int) (l l' : Int) : Prop where
 le : l ≤ l'
 nd : ls.Nodup
 len : (ls.length : Int) = l' - l
 mem : ∀ m ∈ ls, l < m ∧ m ≤ l'
theorem Lbs.nil (l : Int) : Lbs [] l l := ⟨Int.le_refl _, List.nodup_nil, by simp, fun m h => by simp at h⟩
theorem Lbs.app {a b : List Int} {l l1 l2 : Int} (h : Lbs a l l1) (h2 : Lbs b l1 l2) : Lbs (a ++ b) l l2 := by
 have e1 := h.le
 have e2 := h2.le
 have e3 := h.len
 have e4 := h2.len
 refine ⟨by omega, ?_, by rw [List.length_append]; omega, ?_⟩
 ·rw [List.nodup_append]
  refine ⟨h.nd, h2.nd, ?_⟩
  rintro x hx y hy rfl
  have g1 := h.mem x hx
  have g2 := h2.mem x hy
  omega
 ·intro m hm
  rcases List.mem_append.1 hm with hm | hm
  ·have := h.mem m hm; omega
  ·have := h2.mem m hm; omega
theorem A32 {us : List Tm} {h w : List Ty} {l : Int} (hn : us = [] ∨ h = [] ∨ w = []) : E9 us h w l = (us, l) := by
 rcases hn with rfl | rfl | rfl
 ·simp [E9]
 ·simp [E9]
 ·simp [E9]
theorem A79 : ∀ (us : List Tm) (h w : List Ty) (l : Int), (∀ m ∈ A0o us, m ≤ l) → (A0o us).Nodup →
  l ≤ (E9 us h w l).2 ∧ (A0o (E9 us h w l).1).Nodup ∧ ((A0o (E9 us h w l).1).length : Int) = (A0o us).length + ((E9 us h w l).2 - l) ∧ ∀ m ∈ A0o (E9 us h w l).1, m ∈ A0o us ∨ (l < m ∧ m ≤ (E9 us h w l).2)
 | [], h, w, l, h1, h2 => by rw [A32 (by simp)]; exact ⟨Int.le_refl _, h2, by simp, fun m hm => .inl hm⟩
 | u :: us, [], w, l, h1, h2 => by rw [A32 (by simp)]; exact ⟨Int.le_refl _, h2, by simp, fun m hm => .inl hm⟩
 | u :: us, a :: h, [], l, h1, h2 => by rw [A32 (by simp)]; exact ⟨Int.le_refl _, h2, by simp, fun m hm => .inl hm⟩
 | u :: us, a :: h, b :: w, l, h1, h2 => by
  rw [A41] at h1 h2
  rw [List.nodup_append] at h2
  obtain ⟨n1, n2, n3⟩ := h2
  rw [E9]
  split
  ·obtain ⟨i1, i2, i3, i4⟩ := A79 us h w l (fun m hm => h1 m (List.mem_append_right _ hm)) n2
   simp only [A41, List.length_append]
   refine ⟨i1, ?_, by omega, ?_⟩
   ·rw [List.nodup_append]
    refine ⟨n1, i2, ?_⟩
    rintro x hx y hy rfl
    rcases i4 x hy with g | g
    ·exact n3 x hx x g rfl
    ·have := h1 x (List.mem_append_left _ hx); omega
   ·intro m hm
    rcases List.mem_append.1 hm with hm | hm
    ·exact .inl (List.mem_append_left _ hm)
    ·rcases i4 m hm with g | g
     ·exact .inl (List.mem_append_right _ g)
     ·exact .inr g
  ·obtain ⟨i1, i2, i3, i4⟩ := A79 us h w (l + 1) (fun m hm => by have := h1 m (List.mem_append_right _ hm); omega) n2
   simp only [A41, B8S, List.length_append, List.length_cons, List.cons_append]
   refine ⟨by omega, ?_, by omega, ?_⟩
   ·rw [List.nodup_cons, List.nodup_append]
    refine ⟨fun hm => ?_, n1, i2, ?_⟩
    ·rcases List.mem_append.1 hm with hm | hm
     ·have := h1 _ (List.mem_append_left _ hm); omega
     ·rcases i4 _ hm with g | g
      ·have := h1 _ (List.mem_append_right _ g); omega
      ·omega
    ·rintro x hx y hy rfl
     rcases i4 x hy with g | g
     ·exact n3 x hx x g rfl
     ·have := h1 x (List.mem_append_left _ hx); omega
   ·intro m hm
    rcases List.mem_cons.1 hm with rfl | hm
    ·exact .inr (by omega)
    rcases List.mem_append.1 hm with hm | hm
    ·exact .inl (List.mem_append_left _ hm)
    ·rcases i4 m hm with g | g
     ·exact .inl (List.mem_append_right _ g)
     ·exact .inr (by omega)
theorem A8a : ∀ (us : List Tm) (h w : List Ty) (l : Int), (E9 us h w l).1.length = us.length
 | [], h, w, l => by rw [A32 (by simp)]
 | u :: us, [], w, l => by rw [A32 (by simp)]
 | u :: us, a :: h, [], l => by rw [A32 (by simp)]
 | u :: us, a :: h, b :: w, l => by
  rw [E9]
  split
  ·simp only [List.length_cons, A8a us h w l]
  ·simp only [List.length_cons, A8a us h w (l + 1)]
theorem B8T (ks : List Tm) (ih : ∀ t ∈ ks, ∀ (d : Int) (cx : Cx) (l : Int) (u : Tm) (a : Ty) (l' : Int), N5 12 14 t d = true → M8 cx t l = some (u, a, l') → Lbs (mLb u) l l') :
  ∀ (d : Int) (cx : Cx) (l : Int) (us : List Tm) (h : List Ty) (l' : Int), N7 12 14 ks d = true → L6 cx ks l = some (us, h, l') → Lbs (A0o us) l l' ∧ us.length = ks.length := by
 induction ks with
 | nil =>
  intro d cx l us h l' _ hE
  rw [L6] at hE
  cases hE
  rw [B2x]
  exact ⟨Lbs.nil _, rfl⟩
 | cons t ts ihl =>
  intro d cx l us h l' hs hE
  rw [N7, Bool.and_eq_true] at hs
  rw [L6] at hE
  split at hE
  ·cases hE
  ·rename_i u a l1 h1
   split at hE
   ·cases hE
   ·rename_i us2 h2 l2 hE2
    cases hE
    obtain ⟨g1, g2⟩ := ihl (fun t ht => ih t (List.mem_cons_of_mem _ ht)) d cx l1 us2 h2 _ hs.2 hE2
    rw [A41]
    exact ⟨(ih t List.mem_cons_self d cx l u a l1 hs.1 h1).app g1, by simp only [List.length_cons, g2]⟩
theorem B8U : ∀ (t : Tm) (d : Int) (cx : Cx) (l : Int) (u : Tm) (a : Ty) (l' : Int), N5 12 14 t d = true → M8 cx t l = some (u, a, l') → Lbs (mLb u) l l' := by
 refine Tm.ind fun k nm num ty fr lb ks ih d cx l u a l' hs hE => ?_
 obtain ⟨_, h2, h3, h4⟩ := A0R hs
 have hops := (V8.1 h3).1
 rw [M8] at hE
 split at hE
 ·cases hE
 ·rename_i us h l1 hL
  obtain ⟨g1, g2⟩ := B8T ks ih _ _ _ _ _ _ h4 hL
  rw [R2] at hE
  split at hE
  ·cases hE
  ·rename_i w t' hN
   cases hE
   obtain ⟨i1, i2, i3, i4⟩ := A79 us h w l1 (fun m hm => (g1.mem m hm).2) g1.nd
   have hle := g1.le
   have hln := g1.len
   have hR : Lbs (A0o (E9 us h w l1).1) l (E9 us h w l1).2 := ⟨by omega, i2, by omega, fun m hm => by
    rcases i4 m hm with g | g
    ·have := g1.mem m g; omega
    ·omega⟩
   split
   ·rename_i hk
    subst hk
    have hl : (E9 us h w l1).1.length = 1 := by rw [A8a, g2]; rw [show D9 13 = 1 from rfl] at hops; omega
    obtain ⟨x, hx⟩ : ∃ x, (E9 us h w l1).1 = [x] := List.length_eq_one_iff.1 hl
    rw [hx] at hR ⊢
    rw [A41, B2x, List.append_nil] at hR
    exact hR
   ·rw [B8R h2]; exact hR
theorem B2y {e u : Tm} {t : Ty} (h : O8 e = some (u, t)) : Lbs (mLb u) 0 ((O3 u).length : Int) := by
 unfold O8 at h
 split at h
 ·rename_i hv
  split at h
  ·rename_i u' t' l' he
   cases h
   have := B8U e 1 [] 0 u t l' ((A1p e).1 hv).1 he
   have hl := this.len
   unfold mLb at hl ⊢
   rw [List.length_map] at hl
   rw [hl, Int.sub_zero]
   exact this
  ·cases h
 ·cases h
theorem B2z {α β : Type} {f : α → β} : ∀ {l : List α}, (l.map f).Nodup → ∀ {x y}, x ∈ l → y ∈ l → f x = f y → x = y
 | [], _, x, y, hx, _, _ => by cases hx
 | a :: l, h, x, y, hx, hy, e => by
  rw [List.map_cons, List.nodup_cons] at h
  rcases List.mem_cons.1 hx with h1 | h1 <;> rcases List.mem_cons.1 hy with h2 | h2
  ·rw [h1, h2]
  ·rw [h1] at e; exact (h.1 (List.mem_map.2 ⟨y, h2, e.symm⟩)).elim
  ·rw [h2] at e; exact (h.1 (List.mem_map.2 ⟨x, h1, e⟩)).elim
  ·exact B2z h.2 h1 h2 e
mutual
theorem B2A {L : Int → Prop} : ∀ (t : Tm), (∀ c ∈ O3 t, L c.lb) → W9 L t
 | .mk k nm num ty fr lb ks, h => by
  rw [A0x]
  refine ⟨fun hk => h (.mk k nm num ty fr lb ks) (by rw [O3, if_pos hk]; simp), B2B ks fun c hc => h c ?_⟩
  rw [O3]; exact List.mem_append_right _ hc
theorem B2B {L : Int → Prop} : ∀ (ts : List Tm), (∀ c ∈ L8 ts, L c.lb) → A1u L ts
 | [], _ => A07.2 fun t ht => by cases ht
 | t :: ts, h => by
  rw [L8] at h
  have h1 := B2A t fun c hc => h c (List.mem_append_left _ hc)
  have h2 := B2B ts fun c hc => h c (List.mem_append_right _ hc)
  refine A07.2 fun t' ht => ?_
  rcases List.mem_cons.1 ht with he | ht
  ·rw [he]; exact h1
  ·exact A07.1 h2 t' ht
end
theorem B8V : ∀ (e : GE) (x : Tm), x ∈ O3 e.tm → ∃ A B l w, x = (GE.cast A B l w).tm := by
 intro e
 induction e with
 | var x => intro y h; rw [GE.tm, O3, L8] at h; simp at h
 | num n => intro y h; rw [GE.tm, O3, L8] at h; simp at h
 | tru b => intro y h; rw [GE.tm, O3, L8] at h; cases b <;> simp at h
 | lam x A e i => intro y h; rw [GE.tm, O3, L8, L8] at h; simp at h; exact i y h
 | app f a i j => intro y h; rw [GE.tm, O3, L8, L8, L8] at h; simp at h; exact h.elim (i y) (j y)
 | ar s f a i j => intro y h; rw [GE.tm, O3, L8, L8, L8] at h; cases s <;> (simp at h; exact h.elim (i y) (j y))
 | ite c f a i j k => intro y h; rw [GE.tm, O3, L8, L8, L8, L8] at h; simp at h; exact h.elim (i y) (fun h => h.elim (j y) (k y))
 | pair f a i j => intro y h; rw [GE.tm, O3, L8, L8, L8] at h; simp at h; exact h.elim (i y) (j y)
 | part s e i => intro y h; rw [GE.tm, O3, L8, L8] at h; cases s <;> (simp at h; exact i y h)
 | cast A B l e i =>
  intro y h
  rw [GE.tm, O3, L8, L8] at h
  simp at h
  rcases h with rfl | h
  ·exact ⟨A, B, l, e, rfl⟩
  ·exact i y h
mutual
theorem B2C : ∀ a : Tm, A29 a a = true
 | .mk k nm num ty fr lb ks => B0H.2 ⟨rfl, rfl, rfl, fun _ => B2u ty, B2D ks⟩
theorem B2D : ∀ xs : List Tm, A2v xs xs = true
 | [] => rfl
 | a :: xs => by rw [A2v, B2C a, B2D xs]; rfl
end
theorem B8W {e u : Tm} {t : Ty} (h : O8 e = some (u, t)) : ∃ g A g' A', u = g.tm ∧ t = A.ty ∧ GP Q0 g g' A A' := by
 have hv : T5 e = true := B2m (by rw [B8b h]; rfl)
 obtain ⟨g, g', A, A', h1, h2, _, h4⟩ := B6a h (b := e) (by unfold A5I; rw [hv, B2C]; rfl)
 exact ⟨g, A, g', A', h1, h2, h4⟩
theorem B8X {e : Tm} {fuel : Int} (h : (O9 e fuel).2.1 = 2) :
  ∃ u t, O8 e = some (u, t) ∧ 0 ≤ fuel ∧ fuel ≤ 300 ∧ (K3 fuel.toNat u).2.1 = 2 ∧ (O9 e fuel).2.2 = (K3 fuel.toNat u).2.2.1 := by
 cases hi : O8 e with
 | none => rw [A5V hi] at h; simp at h
 | some r =>
  obtain ⟨u, t⟩ := r
  by_cases h0 : (S9 u fuel).2.1 = 0
  ·rw [A5W hi h0] at h; simp at h
  ·rw [A5X hi h0] at h ⊢
   simp only at h ⊢
   unfold S9 at h ⊢
   by_cases hf : 0 ≤ fuel ∧ fuel ≤ 300
   ·rw [if_pos hf] at h ⊢
    exact ⟨u, t, rfl, hf.1, hf.2, h, rfl⟩
   ·rw [if_neg hf] at h; simp [Q7] at h
theorem B8Y {e u : Tm} {t : Ty} {n : Nat} (hi : O8 e = some (u, t)) (h : (K3 n u).2.1 = 2) : ∃ c ∈ O3 u, (c.lb = (K3 n u).2.2.1 ∨ c.lb = -(K3 n u).2.2.1) ∧ 0 < c.lb ∧ c.lb ≤ ((O3 u).length : Int) := by
 obtain ⟨g1, g2, _⟩ := A2z hi
 have hL := B2y hi
 have := A7y (fun l => ∃ c ∈ O3 u, (c.lb = l ∨ c.lb = -l) ∧ 0 < c.lb ∧ c.lb ≤ ((O3 u).length : Int)) (fun l ⟨c, h1, h2, h3⟩ => ⟨c, h1, by omega, h3⟩) n u t g1 g2
  (B2A u fun c hc => ⟨c, hc, .inl rfl, hL.mem c.lb (List.mem_map.2 ⟨c, hc, rfl⟩)⟩)
 rcases this with ⟨q, _⟩ | ⟨_, q⟩ | ⟨q, _⟩ | ⟨q, _⟩
 ·omega
 ·exact q
 ·omega
 ·omega
theorem B8Z {e : Tm} {fuel : Int} (h : (O9 e fuel).2.1 = 2) : ∃ u t x A B, O8 e = some (u, t) ∧ (Y9 e fuel).2.2 = true ∧ A1q u (Y9 e fuel).1 = (x, true) ∧ x.k = 14 ∧ x.fr = A.ty ∧ x.ty = B.ty ∧
  (((O9 e fuel).2.2 > 0 ∧ x.lb = (O9 e fuel).2.2 ∧ P8 A B = false) ∨ ((O9 e fuel).2.2 < 0 ∧ x.lb = -(O9 e fuel).2.2 ∧ L9 A B = false)) := by
 have hab := B2w (A54 h)
 have hlab := A54 h
 obtain ⟨u, t, hi, _, _, h2, hl⟩ := B8X h
 obtain ⟨c, hc, hc2, hc3, hc4⟩ := B8Y hi h2
 rw [← hl] at hc2
 obtain ⟨g1, g2, _⟩ := A2z hi
 have hL := B2y hi
 obtain ⟨l, hl'⟩ : ∃ l, (O9 e fuel).2.2 = l := ⟨_, rfl⟩
 have hB : Y9 e fuel = ((A0e u (U8 l)).1, l, (A0e u (U8 l)).2) := by
  unfold Y9; rw [if_pos h, hi, hl']; rfl
 rw [hl'] at hab hc2 hl hlab
 rw [hB, hl']
 have habc : U8 l = c.lb := by rw [hab]; split <;> omega
 have hfind : ∃ x, (O3 u).find? (A08 (U8 l)) = some x := by
  cases hf : (O3 u).find? (A08 (U8 l)) with
  | some x => exact ⟨x, rfl⟩
  | none =>
   have := List.find?_eq_none.1 hf c hc
   exact absurd (decide_eq_true habc.symm) this
 obtain ⟨x, hx⟩ := hfind
 obtain ⟨p, hp1, hp2⟩ := (B16 u (U8 l)).2 x hx
 have hC : A0e u (U8 l) = (p, true) := by unfold A0e; rw [O1, if_pos g1, hp1]
 have hxm : x ∈ O3 u := List.mem_of_find?_eq_some hx
 have hxb : A08 (U8 l) x = true := List.find?_some hx
 have hxl : x.lb = U8 l := of_decide_eq_true hxb
 obtain ⟨g, A0, g', A0', rfl, rfl, hP⟩ := B8W hi
 obtain ⟨A, B, m, w, rfl⟩ := B8V g x hxm
 rw [hC]
 refine ⟨g.tm, A0.ty, _, A, B, hi, rfl, A9O g1 hp2, rfl, rfl, rfl, ?_⟩
 have hmx : m = U8 l := hxl
 have key : ∀ (A' B' : GT) (l' : Int) (w' : GE), (GE.cast A' B' l' w').tm ∈ O3 g.tm → 0 < l' ∧ (l' = m → A' = A ∧ B' = B) := by
  intro A' B' l' w' hm
  refine ⟨(hL.mem l' (List.mem_map.2 ⟨_, hm, rfl⟩)).1, fun he => ?_⟩
  have := B2z (f := Tm.lb) hL.nd hm hxm (by exact he)
  rw [GE.tm, GE.tm] at this
  injection this with _ _ _ e1 e2 _ _
  exact ⟨GT.inj e2, GT.inj e1⟩
 have hno : ¬ GQ (QL l) g := fun hq => by
  obtain ⟨B2, hB2, hq2, _⟩ := B8o (B8p l) fuel.toNat hP hq h2
  have := hq2 hl.symm
  rw [A7Y hB2] at this; cases this
 by_cases h0 : 0 < l
 ·refine .inl ⟨h0, by show m = l; rw [hmx, hab]; split <;> omega, ?_⟩
  cases hg : P8 A B with
  | false => rfl
  | true =>
   refine absurd (B2d g fun A' B' l' w' hm => ?_) hno
   obtain ⟨k1, k2⟩ := key A' B' l' w' hm
   refine ⟨fun he => ?_, fun he => by omega⟩
   obtain ⟨rfl, rfl⟩ := k2 (by rw [he, hmx, hab]; split <;> omega)
   exact hg
 ·refine .inr ⟨by omega, by show m = -l; rw [hmx, hab]; split <;> omega, ?_⟩
  cases hg : L9 A B with
  | false => rfl
  | true =>
   refine absurd (B2d g fun A' B' l' w' hm => ?_) hno
   obtain ⟨k1, k2⟩ := key A' B' l' w' hm
   refine ⟨fun he => by omega, fun he => ?_⟩
   obtain ⟨rfl, rfl⟩ := k2 (by rw [he, hmx, hab]; split <;> omega)
   exact hg
def O5 : GT → Nat
 | .any => 1
 | .int => 1
 | .bool => 1
 | .fn a b => O5 a + O5 b + 1
 | .pr a b => O5 a + O5 b + 1
def grk (a b : GT) : Nat := O5 a + if b.ty.k = 1 then 4 else O5 b
theorem A2h (a : GT) : 1 ≤ O5 a := by cases a <;> simp [O5]
theorem A55 (a b : GT) : O5 a + O5 b ≤ grk a b := by
 unfold grk
 split
 ·rename_i h; rw [A0c.1 h]; simp [O5]
 ·exact Nat.le_refl _
theorem A56 (a b : GT) : grk a b ≤ O5 a + O5 b + 3 := by
 unfold grk
 have := A2h b
 split <;> omega
def A2G (S O : GT → GT → Bool) : GT → GT → Bool
 | .fn a b, .fn c d => O c a && S b d
 | .pr a b, .pr c d => S a c && S b d
 | .int, .int => true
 | .bool, .bool => true
 | .any, .any => true
 | _, _ => false
theorem B80 (a b : GT) (h : b ≠ .any) : P8 a b = A2G P8 L9 a b := by
 rw [P8.eq_def]; cases b with
 | any => exact absurd rfl h
 | _ => cases a <;> rfl
theorem B81 (a b : GT) (h : a ≠ .any) (h2 : b ≠ .any) : L9 a b = A2G L9 P8 a b := by
 rw [L9.eq_def]; cases b with
 | any => exact absurd rfl h2
 | _ => cases a with
  | any => exact absurd rfl h
  | _ => rfl
def A0V (f : FuncId) (S : GT → GT → Bool) (a b : GT) : Prop := ∀ (G : IM) (ca cb : List Value), C3 G a.ty ca → C3 G b.ty cb → Fn Tryz.prog f [.agg ⟨ca⟩, .agg ⟨cb⟩] [] G (K8 fun _ v => v = .bool (S a b))
theorem A2H {G : IM} {p : Option Addr} {n c : Nat} {es : List (List Value)} {ks : List Ty} {a1 a2 : Ty} (hk : ks = [a1, a2]) (hn : n = ks.length) (h : E3 G p n c 2 es) (hr : D5 G ks es) :
  ∃ b o q1 d1 q2 d2, p = some ⟨b, o, none⟩ ∧ (∀ hp, At hp G b (o + 0 * 2) [.int .i64 a1.k, .slice q1 a1.ks.length d1]) ∧ C3 G a1 [.int .i64 a1.k, .slice q1 a1.ks.length d1] ∧
   (∀ hp, At hp G b (o + 1 * 2) [.int .i64 a2.k, .slice q2 a2.ks.length d2]) ∧ C3 G a2 [.int .i64 a2.k, .slice q2 a2.ks.length d2] := by
 subst hk hn
 obtain ⟨b, o, q1, d1, rfl, h1, h2, _⟩ := h.kidTy hr (i := 0) (by simp) (by simp)
 obtain ⟨b', o', q2, d2, he, h3, h4, _⟩ := h.kidTy hr (i := 1) (by simp) (by simp)
 cases he
 exact ⟨b, o, q1, d1, q2, d2, rfl, h1, h2, h3, h4⟩
theorem B2E (S O : GT → GT → Bool) (fs fo : FuncId) [C0 Tryz.prog fs] [C0 Tryz.prog fo] (a b : GT) (hS : ∀ x y, O5 x + O5 y + 3 < O5 a + O5 b → A0V fs S x y) (hO : ∀ x y, O5 x + O5 y + 3 < O5 a + O5 b → A0V fo O x y)
  (G : IM) (ca cb : List Value) (ha : C3 G a.ty ca) (hb : C3 G b.ty cb) :
  Fn Tryz.prog 114 [.agg ⟨ca⟩, .agg ⟨cb⟩, .func (.func fs) ⟨[]⟩ ⟨[]⟩, .func (.func fo) ⟨[]⟩ ⟨[]⟩] [] G (K8 fun _ v => v = .bool (A2G S O a b)) := by
 obtain ⟨pa, na, ea, rfl, ka, sa, la⟩ := ha.open
 obtain ⟨pb, nb, eb, rfl, kb, sb, lb⟩ := hb.open
 have hne : a.ty.k ≠ b.ty.k → A2G S O a b = false := by intro h; cases a <;> cases b <;> first | rfl | exact absurd rfl h
 have hleaf : a.ty.k = b.ty.k → a.ty.k ≠ 4 → a.ty.k ≠ 5 → A2G S O a b = true := by
  intro h h4 h5
  cases a <;> cases b <;> first | rfl | exact absurd rfl h4 | exact absurd rfl h5 | (simp [GT.ty, Ty.k] at h)
 have hfn : a.ty.k = 4 → b.ty.k = 4 → ∃ a1 a2 b1 b2, a.ty.ks = [GT.ty a1, GT.ty a2] ∧ b.ty.ks = [GT.ty b1, GT.ty b2] ∧ A2G S O a b = (O b1 a1 && S a2 b2) ∧ O5 b1 + O5 a1 + 3 < O5 a + O5 b ∧ O5 a2 + O5 b2 + 3 < O5 a + O5 b := by
  intro h h2
  cases a with
  | fn a1 a2 => cases b with
   | fn b1 b2 =>
    have := A2h a1; have := A2h a2; have := A2h b1; have := A2h b2
    exact ⟨a1, a2, b1, b2, rfl, rfl, rfl, by simp only [O5]; omega, by simp only [O5]; omega⟩
   | _ => simp [GT.ty, Ty.k] at h2
  | _ => simp [GT.ty, Ty.k] at h
 have hpr : a.ty.k = 5 → b.ty.k = 5 → ∃ a1 a2 b1 b2, a.ty.ks = [GT.ty a1, GT.ty a2] ∧ b.ty.ks = [GT.ty b1, GT.ty b2] ∧ A2G S O a b = (S a1 b1 && S a2 b2) ∧ O5 a1 + O5 b1 + 3 < O5 a + O5 b ∧ O5 a2 + O5 b2 + 3 < O5 a + O5 b := by
  intro h h2
  cases a with
  | pr a1 a2 => cases b with
   | pr b1 b2 =>
    have := A2h a1; have := A2h a2; have := A2h b1; have := A2h b2
    exact ⟨a1, a2, b1, b2, rfl, rfl, rfl, by simp only [O5]; omega, by simp only [O5]; omega⟩
   | _ => simp [GT.ty, Ty.k] at h2
  | _ => simp [GT.ty, Ty.k] at h
 obtain ⟨R, hR⟩ : ∃ R, A2G S O a b = R := ⟨_, rfl⟩
 rw [hR] at hne hleaf hfn hpr ⊢
 refine C6 Tryz.func114 rfl Tryz.ntmps114 Tryz.results114 rfl ?_
 intro w0
 refine A4 ?_
 refine sE (C9 rfl rfl) rfl (fun b3 => ?_)
 refine sE (C9 rfl rfl) rfl (fun b4 => ?_)
 refine J2 ?_
 refine sB (N2 rfl rfl) rfl rfl (fun h15 => ?_) (fun h15 => ?_)
 refine J8 ?_
 (exact ⟨rfl, by rw [hne (by omega)]⟩)
 refine N4 ?_
 refine C5 (tS (tR (sB (qE rfl rfl) rfl rfl (fun h43 => ?_) (fun h43 => ?_))))
 refine B0 ?_
 (obtain ⟨a1, a2, b1, b2, hka, hkb, hg, r1, r2⟩ := hfn (by omega) (by omega); obtain ⟨ba, oa, q1, d1, q2, d2, rfl, hA1, hrA1, hA2, hrA2⟩ := A2H hka rfl sa la; obtain ⟨bb, ob, q3, d3, q4, d4, rfl, hB1, hrB1, hB2, hrB2⟩ := A2H hkb rfl sb lb; have hf := hO b1 a1 r1 G _ _ hrB1 hrA1; obtain ⟨x, hx⟩ : ∃ x, O b1 a1 = x := ⟨_, rfl⟩; rw [hx] at hf hg; have hla : a.ty.ks.length = 2 := (by rw [hka]; rfl); have hlb : b.ty.ks.length = 2 := (by rw [hkb]; rfl); refine D7 D8 rfl ?_)
 refine I6 (i := 0) (l' := [tt,ff,ff,ff,ff,ff,ff,ff,ff,ff,ff,ff,ff,ff,ff,ff,ff,ff,ff,ff,ff,ff,ff]) rfl D2 (qM rfl) rfl (by kernel_rfl) rfl rfl ?_
 refine aP 1 rfl (B8 rfl) rfl ?_
 refine aL 2 rfl (C7 rfl rfl) rfl ?_
 refine aP 3 rfl (B5 (j := 0) rfl rfl rfl (by omega)) rfl ?_
 refine aL 4 rfl (A3 rfl rfl (hB1 _) rfl) rfl ?_
 refine aP 5 rfl (B8 rfl) rfl ?_
 refine aL 6 rfl (C7 rfl rfl) rfl ?_
 refine aP 7 rfl (B5 (j := 0) rfl rfl rfl (by omega)) rfl ?_
 refine aL 8 rfl (A3 rfl rfl (hA1 _) rfl) rfl ?_
 refine A2 9 ?_
 (refine E2 rfl (A2M (ins := []) rfl rfl hf (List.Perm.refl _) rfl) rfl rfl ?_; rintro _ ⟨v, G7, outs, rfl, hle7, rfl, rfl⟩; obtain ⟨ba', oa', q1', d1', q2', d2', hq, hA1', hrA1', hA2', hrA2'⟩ := A2H hka rfl (sa.mono hle7) (la.mono hle7); cases hq; obtain ⟨bb', ob', q3', d3', q4', d4', hq2, hB1', hrB1', hB2', hrB2'⟩ := A2H hkb rfl (sb.mono hle7) (lb.mono hle7); cases hq2; have hf2 := hS a2 b2 r2 G7 _ _ hrA2' hrB2'; cases x)
 refine aP 10 rfl (qM rfl) rfl ?_
 refine C1 11 rfl rfl rfl ?_
 refine C1 12 rfl rfl rfl ?_
 refine C1 13 rfl rfl rfl ?_
 refine C1 14 rfl rfl rfl ?_
 refine C1 15 rfl rfl rfl ?_
 refine C1 16 rfl rfl rfl ?_
 refine C1 17 rfl rfl rfl ?_
 refine C1 18 rfl rfl rfl ?_
 refine C1 19 rfl rfl rfl ?_
 refine C1 20 rfl rfl rfl ?_
 refine aP 21 rfl (P0 rfl rfl) rfl ?_
 refine aP 22 rfl (qA rfl) rfl ?_
 refine A8 ?_
 (exact ⟨rfl, by rw [hg]; rfl⟩)
 refine aP 10 rfl (qM rfl) rfl ?_
 refine aP 11 rfl (qM rfl) rfl ?_
 refine aP 12 rfl (B8 rfl) rfl ?_
 refine aL 13 rfl (C7 rfl rfl) rfl ?_
 refine aP 14 rfl (B5 (j := 1) rfl rfl rfl (by omega)) rfl ?_
 refine aL 15 rfl (A3 rfl rfl (hA2' _) rfl) rfl ?_
 refine aP 16 rfl (B8 rfl) rfl ?_
 refine aL 17 rfl (C7 rfl rfl) rfl ?_
 refine aP 18 rfl (B5 (j := 1) rfl rfl rfl (by omega)) rfl ?_
 refine aL 19 rfl (A3 rfl rfl (hB2' _) rfl) rfl ?_
 refine A2 20 ?_
 (refine E2 rfl (A2M (ins := []) rfl rfl hf2 (List.Perm.refl _) rfl) rfl rfl ?_; rintro _ ⟨v, G8, outs, rfl, hle8, rfl, rfl⟩)
 refine aP 21 rfl (N1 rfl rfl) rfl ?_
 refine aP 22 rfl (qA rfl) rfl ?_
 refine A8 ?_
 (exact ⟨rfl, by rw [hg]; rfl⟩)
 refine A8 ?_
 refine sB (qE rfl rfl) rfl rfl (fun h108 => ?_) (fun h108 => ?_)
 refine B0 ?_
 (obtain ⟨a1, a2, b1, b2, hka, hkb, hg, r1, r2⟩ := hpr (by omega) (by omega); obtain ⟨ba, oa, q1, d1, q2, d2, rfl, hA1, hrA1, hA2, hrA2⟩ := A2H hka rfl sa la; obtain ⟨bb, ob, q3, d3, q4, d4, rfl, hB1, hrB1, hB2, hrB2⟩ := A2H hkb rfl sb lb; have hf := hS a1 b1 r1 G _ _ hrA1 hrB1; obtain ⟨x, hx⟩ : ∃ x, S a1 b1 = x := ⟨_, rfl⟩; rw [hx] at hf hg; have hla : a.ty.ks.length = 2 := (by rw [hka]; rfl); have hlb : b.ty.ks.length = 2 := (by rw [hkb]; rfl); refine D7 D8 rfl ?_)
 refine I6 (i := 0) (l' := [tt,ff,ff,ff,ff,ff,ff,ff,ff,ff,ff,ff,ff,ff,ff,ff,ff,ff,ff,ff,ff,ff,ff]) rfl D2 (qM rfl) rfl (by kernel_rfl) rfl rfl ?_
 refine aP 1 rfl (B8 rfl) rfl ?_
 refine aL 2 rfl (C7 rfl rfl) rfl ?_
 refine aP 3 rfl (B5 (j := 0) rfl rfl rfl (by omega)) rfl ?_
 refine aL 4 rfl (A3 rfl rfl (hA1 _) rfl) rfl ?_
 refine aP 5 rfl (B8 rfl) rfl ?_
 refine aL 6 rfl (C7 rfl rfl) rfl ?_
 refine aP 7 rfl (B5 (j := 0) rfl rfl rfl (by omega)) rfl ?_
 refine aL 8 rfl (A3 rfl rfl (hB1 _) rfl) rfl ?_
 refine A2 9 ?_
 (refine E2 rfl (A2M (ins := []) rfl rfl hf (List.Perm.refl _) rfl) rfl rfl ?_; rintro _ ⟨v, G7, outs, rfl, hle7, rfl, rfl⟩; obtain ⟨ba', oa', q1', d1', q2', d2', hq, hA1', hrA1', hA2', hrA2'⟩ := A2H hka rfl (sa.mono hle7) (la.mono hle7); cases hq; obtain ⟨bb', ob', q3', d3', q4', d4', hq2, hB1', hrB1', hB2', hrB2'⟩ := A2H hkb rfl (sb.mono hle7) (lb.mono hle7); cases hq2; have hf2 := hS a2 b2 r2 G7 _ _ hrA2' hrB2'; cases x)
 refine aP 10 rfl (qM rfl) rfl ?_
 refine C1 11 rfl rfl rfl ?_
 refine C1 12 rfl rfl rfl ?_
 refine C1 13 rfl rfl rfl ?_
 refine C1 14 rfl rfl rfl ?_
 refine C1 15 rfl rfl rfl ?_
 refine C1 16 rfl rfl rfl ?_
 refine C1 17 rfl rfl rfl ?_
 refine C1 18 rfl rfl rfl ?_
 refine C1 19 rfl rfl rfl ?_
 refine C1 20 rfl rfl rfl ?_
 refine aP 21 rfl (P0 rfl rfl) rfl ?_
 refine aP 22 rfl (qA rfl) rfl ?_
 refine A8 ?_
 (exact ⟨rfl, by rw [hg]; rfl⟩)
 refine aP 10 rfl (qM rfl) rfl ?_
 refine aP 11 rfl (qM rfl) rfl ?_
 refine aP 12 rfl (B8 rfl) rfl ?_
 refine aL 13 rfl (C7 rfl rfl) rfl ?_
 refine aP 14 rfl (B5 (j := 1) rfl rfl rfl (by omega)) rfl ?_
 refine aL 15 rfl (A3 rfl rfl (hA2' _) rfl) rfl ?_
 refine aP 16 rfl (B8 rfl) rfl ?_
 refine aL 17 rfl (C7 rfl rfl) rfl ?_
 refine aP 18 rfl (B5 (j := 1) rfl rfl rfl (by omega)) rfl ?_
 refine aL 19 rfl (A3 rfl rfl (hB2' _) rfl) rfl ?_
 refine A2 20 ?_
 (refine E2 rfl (A2M (ins := []) rfl rfl hf2 (List.Perm.refl _) rfl) rfl rfl ?_; rintro _ ⟨v, G8, outs, rfl, hle8, rfl, rfl⟩)
 refine aP 21 rfl (N1 rfl rfl) rfl ?_
 refine aP 22 rfl (qA rfl) rfl ?_
 refine A8 ?_
 (exact ⟨rfl, by rw [hg]; rfl⟩)
 refine J5 ?_
 (exact ⟨rfl, by rw [hleaf (by omega) (by omega) (by omega)]⟩)
theorem B82 (a : GT) (h : a ≠ .any) : mGk a.ty.k = a.gr.ty := by
 cases a <;> first | exact absurd rfl h | rfl
theorem B83 (a b : GT) (h1 : ∀ x y, grk x y < grk a b → A0V 67 P8 x y) (h2 : ∀ x y, grk x y < grk a b → A0V 68 L9 x y) : A0V 67 P8 a b := by
 intro G ca cb ha hb
 have hs : b ≠ .any → Fn Tryz.prog 114 [.agg ⟨ca⟩, .agg ⟨cb⟩, .func (.func 67) ⟨[]⟩ ⟨[]⟩, .func (.func 68) ⟨[]⟩ ⟨[]⟩] [] G (K8 fun _ v => v = .bool (P8 a b)) := fun hne => by
  rw [B80 a b hne]
  refine B2E P8 L9 _ _ a b (fun x y h => h1 x y ?_) (fun x y h => h2 x y ?_) G ca cb ha hb
  ·have := A55 a b; have := A56 x y; omega
  ·have := A55 a b; have := A56 x y; omega
 have hany : b.ty.k = 1 → P8 a b = true := fun h => by rw [A0c.1 h]; exact A2B a
 obtain ⟨pa, na, ea, rfl, ka, sa, la⟩ := ha.open
 obtain ⟨pb, nb, eb, rfl, kb, sb, lb⟩ := hb.open
 refine C6 Tryz.func67 rfl Tryz.ntmps67 Tryz.results67 rfl ?_
 intro w0
 refine A4 ?_
 refine sE (C9 rfl rfl) rfl (fun b3 => ?_)
 refine sE (C9 rfl rfl) rfl (fun b4 => ?_)
 refine B7 ?_
 refine sB (qE rfl rfl) rfl rfl (fun h12 => ?_) (fun h12 => ?_)
 refine J2 ?_
 (exact ⟨rfl, by rw [hany (by omega)]⟩)
 refine B9 ?_
 (have hs2 := hs (fun hc => absurd (A0c.2 hc) (by omega)); refine E6 rfl hs2 rfl rfl (fun v G1 hle1 hh => ?_); subst hh)
 refine A8 ?_
 (exact ⟨rfl, rfl⟩)
theorem B84 (a b : GT) (h1 : ∀ x y, grk x y < grk a b → A0V 67 P8 x y) (h2 : ∀ x y, grk x y < grk a b → A0V 68 L9 x y) : A0V 68 L9 a b := by
 intro G ca cb ha hb
 have hs : a ≠ .any → b ≠ .any → Fn Tryz.prog 114 [.agg ⟨ca⟩, .agg ⟨cb⟩, .func (.func 68) ⟨[]⟩ ⟨[]⟩, .func (.func 67) ⟨[]⟩ ⟨[]⟩] [] G (K8 fun _ v => v = .bool (L9 a b)) := fun hna hne => by
  rw [B81 a b hna hne]
  refine B2E L9 P8 _ _ a b (fun x y h => h2 x y ?_) (fun x y h => h1 x y ?_) G ca cb ha hb
  ·have := A55 a b; have := A56 x y; omega
  ·have := A55 a b; have := A56 x y; omega
 have hany : a.ty.k = 1 → L9 a b = true := fun h => by rw [A0c.1 h]; exact A1K b
 have hgr : a.ty.k ≠ 1 → b.ty.k = 1 → A0V 68 L9 a a.gr ∧ L9 a a.gr = L9 a b ∧ mGk a.ty.k = a.gr.ty := fun hA hB => by
  have hA' : a ≠ .any := fun hc => hA (A0c.2 hc)
  rw [A0c.1 hB]
  refine ⟨h2 a a.gr ?_, B2b a, B82 a hA'⟩
  unfold grk
  rw [if_pos hB]
  cases a <;> first | exact absurd rfl hA' | (simp [GT.gr, GT.ty, Ty.k, O5])
 obtain ⟨pa, na, ea, rfl, ka, sa, la⟩ := ha.open
 obtain ⟨pb, nb, eb, rfl, kb, sb, lb⟩ := hb.open
 refine C6 Tryz.func68 rfl Tryz.ntmps68 Tryz.results68 rfl ?_
 intro w0
 refine A4 ?_
 refine sE (C9 rfl rfl) rfl (fun b3 => ?_)
 refine sE (C9 rfl rfl) rfl (fun b4 => ?_)
 refine B4 ?_
 refine C5 ?_
 refine B4 ?_
 refine sB (qE rfl rfl) rfl rfl (fun h14 => ?_) (fun h14 => ?_)
 refine K4 ?_
 (exact ⟨rfl, by rw [hany (by omega)]⟩)
 refine D4 ?_
 refine sB (qE rfl rfl) rfl rfl (fun h37 => ?_) (fun h37 => ?_)
 refine B0 ?_
 (obtain ⟨hg1, hg2, hg3⟩ := hgr (by omega) (by omega); rw [← hg2]; refine D7 D8 rfl ?_)
 refine L3 (i := 0) (l' := [tt,ff,ff,ff,ff,ff]) rfl D2 (A5 rfl rfl) rfl (by kernel_rfl) rfl rfl ?_
 refine aP 1 rfl (B8 rfl) rfl ?_
 refine aL 2 rfl (C7 rfl rfl) rfl ?_
 refine A2 3 ?_
 (refine H3 rfl rfl (A5L a.ty.k G ka) rfl rfl rfl (fun v G1 hle1 hh => ?_); obtain ⟨cg, rfl, hrg⟩ := hh; rw [hg3] at hrg)
 refine A2 4 ?_
 (refine H3 rfl rfl (hg1 _ _ _ (ha.mono hle1) hrg) rfl rfl rfl (fun v G2 hle2 hh => ?_); subst hh)
 refine aP 5 rfl (qA rfl) rfl ?_
 refine A8 ?_
 (exact ⟨rfl, rfl⟩)
 refine J8 ?_
 (have hs2 := hs (fun hc => absurd (A0c.2 hc) (by omega)) (fun hc => absurd (A0c.2 hc) (by omega)); refine E6 rfl hs2 rfl rfl (fun v G1 hle1 hh => ?_); subst hh)
 refine B0 ?_
 (exact ⟨rfl, rfl⟩)
theorem B2F : ∀ (n : Nat) (a b : GT), grk a b = n → A0V 67 P8 a b ∧ A0V 68 L9 a b := by
 intro n
 induction n using Nat.strongRecOn with
 | _ n ih =>
  intro a b h
  subst h
  exact ⟨B83 a b (fun x y hl => (ih _ hl x y rfl).1) (fun x y hl => (ih _ hl x y rfl).2), B84 a b (fun x y hl => (ih _ hl x y rfl).1) (fun x y hl => (ih _ hl x y rfl).2)⟩
theorem B85 (a b : GT) (va : F4 a.ty = true) (vb : F4 b.ty = true) : A0V 27 P8 a b := by
 intro G ca cb ha hb
 have hP := (B2F _ a b rfl).1 G ca cb ha hb
 have h1 := A11 a.ty G ca ha
 have h2 := A11 b.ty G cb hb
 rw [va] at h1
 rw [vb] at h2
 obtain ⟨pa, na, ea, rfl, ka, sa, la⟩ := ha.open
 obtain ⟨pb, nb, eb, rfl, kb, sb, lb⟩ := hb.open
 refine C6 Tryz.func27 rfl Tryz.ntmps27 Tryz.results27 rfl ?_
 intro w0
 refine A4 ?_
 refine sE (C9 rfl rfl) rfl (fun b3 => ?_)
 refine sE (C9 rfl rfl) rfl (fun b4 => ?_)
 refine A8 ?_
 refine H6 rfl (h1) rfl rfl ?_
 refine A4 ?_
 refine H6 rfl (h2) rfl rfl ?_
 refine B4 ?_
 (refine E6 rfl hP rfl rfl (fun v G1 hle1 hh => ?_); subst hh)
 refine A8 ?_
 (exact ⟨rfl, rfl⟩)
theorem B86 (a b : GT) (va : F4 a.ty = true) (vb : F4 b.ty = true) : A0V 28 L9 a b := by
 intro G ca cb ha hb
 have hP := (B2F _ a b rfl).2 G ca cb ha hb
 have h1 := A11 a.ty G ca ha
 have h2 := A11 b.ty G cb hb
 rw [va] at h1
 rw [vb] at h2
 obtain ⟨pa, na, ea, rfl, ka, sa, la⟩ := ha.open
 obtain ⟨pb, nb, eb, rfl, kb, sb, lb⟩ := hb.open
 refine C6 Tryz.func28 rfl Tryz.ntmps28 Tryz.results28 rfl ?_
 intro w0
 refine A4 ?_
 refine sE (C9 rfl rfl) rfl (fun b3 => ?_)
 refine sE (C9 rfl rfl) rfl (fun b4 => ?_)
 refine A8 ?_
 refine H6 rfl (h1) rfl rfl ?_
 refine A4 ?_
 refine H6 rfl (h2) rfl rfl ?_
 refine B4 ?_
 (refine E6 rfl hP rfl rfl (fun v G1 hle1 hh => ?_); subst hh)
 refine A8 ?_
 (exact ⟨rfl, rfl⟩)
theorem B2G {P : Program} {Γ : M0} {env : M6} {hp : List A6} {G : IM} {ty : TypeId} {x y : Operand} {t t' : TypeId} {i : L4} [hI : I0 P t i] (hd : i.desc = .bool) {r : Bool} (hx : evo env x = some (.bool r)) (hy : evo env y = some (.bool r)) :
  J1 P Γ ⟨env, hp, G⟩ (.binOp .eql t x y t') ty (.bool true) := by
 have h := B2Z (P := P) (Γ := Γ) (hp := hp) (G := G) (t := t) (t' := t') (ty := ty) (i := i) hd hx hy
 simpa using h
def B9y (G : IM) : IM → Value → List A6 → Prop := K8 fun G' v => ∃ u cu t ct b, v = .tuple ⟨[.agg ⟨cu⟩, .agg ⟨ct⟩, .bool b]⟩ ∧ B1 G' u cu ∧ u.small ∧ D1 u ≤ 60 ∧ C3 G' t ct ∧ F9 t ∧ K7 t ≤ 960
def B9z (G : IM) : IM → Value → List A6 → Prop := K8 fun G' v => ∃ t cells l q c, v = .tuple ⟨[.agg ⟨cells⟩, .slice q l.length c]⟩ ∧ B1 G' t cells ∧ t.fit 100 ∧ Sl G' q l.length c 1 (S5 l) ∧ l.length ≤ 100
def B9A (G : IM) : IM → Value → List A6 → Prop := K8 fun G' v => ∃ a ca b cb f, v = .tuple ⟨[.agg ⟨ca⟩, .agg ⟨cb⟩, .int .i64 f]⟩ ∧ B1 G' a ca ∧ a.fit 1100 ∧ B1 G' b cb ∧ b.fit 1100 ∧ H0 f
def B9B (G : IM) : IM → Value → List A6 → Prop := K8 fun G' v => ∃ a ca b cb d cd, v = .tuple ⟨[.agg ⟨ca⟩, .agg ⟨cb⟩, .agg ⟨cd⟩]⟩ ∧ B1 G' a ca ∧ a.fit 1100 ∧ B1 G' b cb ∧ b.fit 1100 ∧ B1 G' d cd ∧ d.fit 1100
def B2H (N : Nat) (G : IM) : IM → Value → List A6 → Prop := K8 fun G' v => ∃ a ca f, v = .tuple ⟨[.agg ⟨ca⟩, .int .i64 f]⟩ ∧ B1 G' a ca ∧ a.fit N ∧ H0 f
theorem B87 (G : IM) (q : Option Addr) (n c : Nat) (bs : List UInt8) (hb : Sl G q n c 1 (O2 bs)) : Fn Tryz.prog 36 [.slice q n c] [] G (B2H 1100 G) := by
 refine C6 Tryz.func36 rfl Tryz.ntmps36 Tryz.results36 rfl ?_
 intro w0
 refine A4 ?_
 refine sE (A9 rfl) rfl (fun b3 => ?_)
 refine A8 ?_
 (refine J9 rfl (B4P G q n c bs hb) (List.Perm.refl _) rfl rfl (fun v G1 outs hle1 hh => ?_); obtain ⟨rfl, br, pb, nb, cb, bs', rfl, rfl, hnb, hb'⟩ := hh)
 refine B7 ?_
 (have hcall := B8K br pb nb cb bs' hnb 0 _ hb' (by omega); refine J9 rfl hcall (Pk.perm (by repeat (first | exact Pk.here | apply Pk.there))) rfl rfl (fun v Gn outs hle1 hh => ?_); obtain ⟨p1, hp11, hp12, rfl, e0, ce0, rfl, hr0, hf0⟩ := hh; replace hb' := hb'.mono hle1)
 (have hcall := B40 br pb nb cb bs' hnb p1 _ hb' (by omega) e0 ce0 1100 hf0 hr0; refine J9 rfl hcall (Pk.perm (by repeat (first | exact Pk.here | apply Pk.there))) rfl rfl (fun v Gn outs hle2 hh => ?_); obtain ⟨p2, hp21, hp22, rfl, e, ce, rfl, hre, hfe⟩ := hh; have hl1 := hre.len; have ho1 := hre.one; replace hb' := hb'.mono hle2)
 refine sE (A9 rfl) rfl (fun b20 => ?_)
 refine X5 rfl rfl rfl hl1 ho1 rfl (by repeat first | exact Sw.here | apply Sw.there) (by exact E0 (by first | exact hl1.symm | omega)) ?_
 refine A8 ?_
 (refine J9 rfl (Z1 _ br pb nb cb (p2) bs' 2 hb' hnb (by omega)) (Pk.perm (by repeat (first | exact Pk.here | apply Pk.there))) rfl rfl (fun v Gp outs hle28 hh => ?_); obtain ⟨rfl, rfl, j28, rfl, hj28, hk28⟩ := hh; skip)
 replace hre := hre.mono hle28
 replace hb' := hb'.mono hle28
 refine sB (qE rfl rfl) rfl rfl (fun h29 => ?_) (fun h29 => ?_)
 refine B0 ?_
 refine sL (A3 rfl rfl (B6 (by repeat first | exact mH | apply mT)) hl1) rfl rfl ?_
 (have hcall := B8L br pb nb cb bs' hnb (p2 + 1) _ hb' (by omega) e ce 1100 hfe (by omega) hre; refine J9 rfl hcall (Pk.perm (by repeat (first | exact Pk.here | apply Pk.there))) rfl rfl (fun v Gn outs hle3 hh => ?_); obtain ⟨p3, hp31, hp32, rfl, b, cb1, rfl, hrb, hfb⟩ := hh; have hl2 := hrb.len; have ho2 := hrb.one; replace hb' := hb'.mono hle3)
 refine X5 rfl rfl rfl hl2 ho2 rfl (by repeat first | exact Sw.here | apply Sw.there) (by exact E0 (by first | exact (hl2.trans hl1.symm).symm | omega)) ?_
 refine B9 ?_
 refine D7 D8 rfl ?_
 refine L3 (i := 0) (l' := [tt,ff,ff,ff,ff]) rfl D2 (A3 rfl rfl (B6 (by repeat first | exact mH | apply mT)) hl2) rfl (by kernel_rfl) rfl rfl ?_
 refine aP 1 rfl (qM rfl) rfl ?_
 refine A2 2 ?_
 (have hcall := B2t br pb nb cb bs' hnb p3 _ hb' (by omega); refine X2 (l' := [tt,tt,tt,ff,ff]) rfl rfl hcall (Pk.perm (by repeat (first | exact Pk.here | apply Pk.there))) rfl rfl rfl (by repeat (first | exact A7.nil | apply A7.dep (by decide +kernel) | apply A7.blk (by decide +kernel) (by repeat (first | exact Pk.here | apply Pk.there)) (by repeat first | exact mH | apply mT))) (fun v Gn outs hle5 hh => ?_); obtain ⟨p5, hp51, hp52, rfl, fl, rfl, hfl⟩ := hh; replace hrb := hrb.mono hle5)
 refine A2 3 ?_
 refine A4f rfl rfl rfl rfl hl2 ho2 rfl rfl (by repeat first | exact Sw.here | apply Sw.there) (by exact E0 hl2.symm) (by repeat (first | exact A7.nil | apply A7.dep (by decide +kernel) | apply A7.blk (by decide +kernel) (by repeat (first | exact Pk.here | apply Pk.there)) (by repeat first | exact mH | apply mT))) ?_
 refine aP 4 rfl (qA rfl) rfl ?_
 refine B9 ?_
 refine H5 (rC rfl (A3 rfl rfl (B6 (by repeat first | exact mH | apply mT)) hl2)) (rT rfl) ?_
 (exact ⟨rfl, b, cb1, fl, rfl, hrb, hfb, hfl⟩)
 refine A8 ?_
 refine D7 D8 rfl ?_
 refine L3 (i := 0) (l' := [tt,ff,ff,ff,ff]) rfl D2 (A3 rfl rfl (B6 (by repeat first | exact mH | apply mT)) hl1) rfl (by kernel_rfl) rfl rfl ?_
 refine aP 1 rfl (qM rfl) rfl ?_
 refine A2 2 ?_
 (have hcall := B2t br pb nb cb bs' hnb (p2 + 1) _ hb' (by omega); refine X2 (l' := [tt,tt,tt,ff,ff]) rfl rfl hcall (Pk.perm (by repeat (first | exact Pk.here | apply Pk.there))) rfl rfl rfl (by repeat (first | exact A7.nil | apply A7.dep (by decide +kernel) | apply A7.blk (by decide +kernel) (by repeat (first | exact Pk.here | apply Pk.there)) (by repeat first | exact mH | apply mT))) (fun v Gn outs hle5 hh => ?_); obtain ⟨p5, hp51, hp52, rfl, fl, rfl, hfl⟩ := hh; replace hre := hre.mono hle5)
 refine A2 3 ?_
 refine A4f rfl rfl rfl rfl hl1 ho1 rfl rfl (by repeat first | exact Sw.here | apply Sw.there) (by exact E0 hl1.symm) (by repeat (first | exact A7.nil | apply A7.dep (by decide +kernel) | apply A7.blk (by decide +kernel) (by repeat (first | exact Pk.here | apply Pk.there)) (by repeat first | exact mH | apply mT))) ?_
 refine aP 4 rfl (qA rfl) rfl ?_
 refine B9 ?_
 refine H5 (rC rfl (A3 rfl rfl (B6 (by repeat first | exact mH | apply mT)) hl1)) (rT rfl) ?_
 (exact ⟨rfl, e, ce, fl, rfl, hre, hfe, hfl⟩)
def B9C (e : Tm) : Bool := M5 e && E4 e
def B9D (ts : List Tm) (G : IM) : IM → Value → List A6 → Prop := K8 fun G' v => ∃ p c es, v = .slice p ts.length c ∧ E3 G' p ts.length c 9 es ∧ E5 G' ts es
def B9E (ts : List Ty) (G : IM) : IM → Value → List A6 → Prop := K8 fun G' v => ∃ p c es, v = .slice p ts.length c ∧ E3 G' p ts.length c 2 es ∧ D5 G' ts es
def srt (zs : List Int) : List Int := zs.mergeSort fun x y => decide (x ≤ y)
def B9F (t : Tm) : List Int := if M5 t = true then Lib.compact (srt ((O3 t).map Tm.lb)) else []
section slaws
variable {P : Program} {Γ : M0} {env : M6} {hp : List A6} {G : IM} {ty : TypeId}
end slaws
theorem B88 (l l' : List Int) (G : IM) (p p' : Option Addr) (c c' : Nat) (h : Sl G p l.length c 1 (S5 l)) (h' : Sl G p' l'.length c' 1 (S5 l')) :
  Fn Tryz.prog 24 [.slice p l.length c, .slice p' l'.length c'] [] G (J0 (.bool (decide (l = l'))) G) := by
 have hn := h.le
 have hn' := h'.le
 refine C6 Tryz.func24 rfl Tryz.ntmps24 Tryz.results24 rfl ?_
 intro w0
 refine N4 ?_
 refine sB (N2 rfl rfl) rfl rfl (fun h13 => ?_) (fun h13 => ?_)
 refine J8 ?_
 (exact ⟨rfl, by rw [decide_eq_false (fun he => by have := congrArg List.length he; omega)], rfl⟩)
 refine J8 ?_
 refine C5 ?_
 (have hll : l.length = l'.length := (by omega); refine K2 (fun (i : Nat) => ⟨[(5, .int .i64 i), (0, .slice p l.length c), (1, .slice p' l'.length c')], [], G⟩) (fun i => i ≤ l.length ∧ ∀ j (h : j < l.length) (h' : j < l'.length), j < i → l[j] = l'[j]) (fun i => l.length - i) 0 ?_ ?_ ?_)
 exact D6
 exact ⟨by omega, fun j _ _ hj => absurd hj (by omega)⟩
 (rintro i ⟨hi, hf⟩)
 refine A8 ?_
 refine sB (J4 rfl rfl) rfl rfl (fun h48 => ?_) (fun h48 => ?_)
 refine A8 ?_
 refine C5 ?_
 refine tS ?_
 (obtain ⟨b, o, v, rfl, hv, hat, _⟩ := h.kid (i := i) (by omega); obtain ⟨hi1, rfl⟩ := A6y hv; obtain ⟨b', o', v', rfl, hv', hat', _⟩ := h'.kid (i := i) (by omega); obtain ⟨hi2, rfl⟩ := A6y hv'; refine D7 D8 rfl ?_)
 refine I6 (i := 0) (l' := [tt,ff,ff,ff,ff,ff,ff,ff,ff]) rfl D2 (qM rfl) rfl (by kernel_rfl) rfl rfl ?_
 refine aP 1 rfl (qM rfl) rfl ?_
 refine aP 2 rfl (B5 rfl rfl rfl (by omega)) rfl ?_
 refine aL 3 rfl (W4 rfl rfl (hat _)) rfl ?_
 refine aP 4 rfl (qM rfl) rfl ?_
 refine aP 5 rfl (qM rfl) rfl ?_
 refine aP 6 rfl (B5 rfl rfl rfl (by omega)) rfl ?_
 refine aL 7 rfl (W4 rfl rfl (hat' _)) rfl ?_
 refine A0q (i := 8) (l' := [tt,tt,tt,tt,tt,tt,tt,tt,tt]) rfl D2 (N2 rfl rfl) rfl (by kernel_rfl) rfl rfl (fun h66 => ?_) (fun h66 => ?_)
 refine I7 ?_
 (exact ⟨rfl, by rw [decide_eq_false (fun he => by subst he; omega)], rfl⟩)
 refine D4 ?_
 refine sP (H9 rfl rfl (by omega) (by omega)) rfl rfl ?_
 refine A4 ?_
 refine I5 (i + 1) ?_ ?_ ?_
 exact D6
 exact ⟨by omega, fun j hj hj' hji => by (by_cases he : j = i; (subst he; omega); exact hf j hj hj' (by omega))⟩
 omega
 refine I7 ?_
 (exact ⟨rfl, by rw [decide_eq_true (List.ext_getElem hll (fun j h1 h2 => hf j h1 h2 (by omega)))], rfl⟩)
theorem B89 (G : IM) (q : Option Addr) (n c : Nat) (bs : List UInt8) (hb : Sl G q n c 1 (O2 bs)) : Fn Tryz.prog 20 [.slice q n c] [] G (B2H 1100 G) := by
 have hD := B87 G q n c bs hb
 refine C6 Tryz.func20 rfl Tryz.ntmps20 Tryz.results20 rfl ?_
 intro w0
 refine A4 ?_
 refine sE (A9 rfl) rfl (fun b3 => ?_)
 refine A8 ?_
 (refine E6 rfl hD rfl rfl (fun v1 G1 hle1 hh => ?_); obtain ⟨e, ce, fl, rfl, hre, hfe, hfl⟩ := hh; have hl1 := hre.len; have ho1 := hre.one)
 refine A4 ?_
 refine X5 rfl rfl rfl hl1 ho1 rfl (by repeat first | exact Sw.here | apply Sw.there) (by exact E0 (by first | exact hl1.symm | omega)) ?_
 refine B4 ?_
 refine H5 (rC rfl (A3 rfl rfl (B6 (by repeat first | exact mH | apply mT)) hl1)) (rT rfl) ?_
 (exact ⟨rfl, e, ce, fl, rfl, hre, hfe, hfl⟩)
theorem B1.openT {G : IM} {k : Int} {nm : ByteArray} {num : Int} {ty fr : Ty} {lb : Int} {ks : List Tm} {cells : List Value} (h : B1 G (.mk k nm num ty fr lb ks) cells) :
  ∃ pt ct pf cf p c es, cells = [.int .i64 k, .string nm, .int .i64 num, .int .i64 ty.k, .slice pt ty.ks.length ct, .int .i64 fr.k, .slice pf fr.ks.length cf, .int .i64 lb, .slice p ks.length c] ∧
  H0 k ∧ H0 num ∧ H0 lb ∧ C3 G ty [.int .i64 ty.k, .slice pt ty.ks.length ct] ∧ C3 G fr [.int .i64 fr.k, .slice pf fr.ks.length cf] ∧ E3 G p ks.length c 9 es ∧ E5 G ks es := by
 obtain ⟨tk, tks⟩ := ty
 obtain ⟨fk, fks⟩ := fr
 exact h.open9
theorem B9a {e : Tm} {fuel : Int} (h : (O9 e fuel).2.1 ≠ 2) : (Y9 e fuel).2.2 = false := by unfold Y9; rw [if_neg h]
theorem B9b {e : Tm} {fuel : Int} (h : (O9 e fuel).2.1 = 2) : (Y9 e fuel).2.1 = (O9 e fuel).2.2 := by unfold Y9; rw [if_pos h]
structure BlI (a : Tm) (l : List Int) (l1 : Int) (u : Tm) (A B : GT) (x : Tm) : Prop where
 ins : ∃ t, O8 a = some (u, t)
 at' : A1q u l = (x, true)
 k : x.k = 14
 fr : x.fr = A.ty
 ty : x.ty = B.ty
 lab : (l1 > 0 ∧ x.lb = l1 ∧ P8 A B = false) ∨ (l1 < 0 ∧ x.lb = -l1 ∧ L9 A B = false)
 vA : F4 A.ty = true
 vB : F4 B.ty = true
theorem B9c {u x : Tm} {l : List Int} (hv : M5 u = true) (h : A1q u l = (x, true)) : cv x := by
 have key : ∀ (l : List Int) (t : Tm), cv t → ∀ x, S6 t l = some x → cv x := by
  intro l
  induction l with
  | nil => intro t ht x hx; rw [A4u] at hx; cases hx; exact ht
  | cons i is ih =>
   intro t ht x hx
   obtain ⟨k, nm, num, ty, fr, lb, ks⟩ := t
   rw [S6] at hx
   split at hx
   ·exact ih _ (ht.node.2 _ (List.getElem_mem _)) x hx
   ·cases hx
 unfold A1q at h
 rw [if_pos hv] at h
 split at h
 ·rename_i y hy
  cases h
  exact key l u (A03 hv).1 _ hy
 ·cases h
theorem B9d {a : Tm} {fl : Int} (h : (O9 a fl).2.1 = 2) : (Y9 a fl).2.2 = true ∧ ∃ u A B x, BlI a (Y9 a fl).1 (O9 a fl).2.2 u A B x := by
 obtain ⟨u, t, x, A, B, h1, h2, h3, h4, h5, h6, h7⟩ := B8Z h
 have hx := B9c (A2z h1).1 h3
 refine ⟨h2, u, A, B, x, ⟨t, h1⟩, h3, h4, h5, h6, h7, ?_, ?_⟩
 ·obtain ⟨k, nm, num, ty, fr, lb, ks⟩ := x
  have := (hx.node.1.c14 h4).2.2
  rw [← h5]; exact this
 ·obtain ⟨k, nm, num, ty, fr, lb, ks⟩ := x
  have := (hx.node.1.c14 h4).2.1
  rw [← h6]; exact this
theorem B9e (bs : List UInt8) (G : IM) (p : Option Addr) (n c : Nat) (hT : A1k G) (hb : Sl G p n c 1 (O2 bs)) : Fn Tryz.prog 4 [.slice p n c] [] G (K8 fun _ v => v = .bool true) := by
 have hn := hb.le
 refine C6 Tryz.func4 rfl Tryz.ntmps4 Tryz.results4 rfl ?_
 intro w0
 refine J2 ?_
 refine sB (A0g rfl rfl) rfl rfl (fun h11 => ?_) (fun h11 => ?_)
 refine J8 ?_
 (exact ⟨rfl, rfl⟩)
 refine D4 ?_
 (refine E6 rfl (B89 G _ _ _ bs hb) rfl rfl (fun v G1 hle1 hh => ?_); obtain ⟨a, ca, fl, rfl, hra, hfa, hfl⟩ := hh; replace hT := hT.mono hle1; have hca := hfa.2; have hla := hra.len; have hoa := hra.one; have hA := B8P a fl G1 ca hT hra; have hS := fun G cells hr => B8Q a fl G cells (by omega) hr; have hR := fun G cells hT hr => B1E a fl G cells hT hr; have hk := @B9d a fl; have hkn := @B9a a fl; have hkl := @B9b a fl; have hlab := @A54 a fl; obtain ⟨⟨s1, c1, l1⟩, hr1⟩ : ∃ r, O9 a fl = r := ⟨_, rfl⟩; rw [hr1] at hR hk hkn hkl hlab; unfold A1w at hA hS; obtain ⟨⟨l, l2, ok⟩, hbm⟩ : ∃ r, Y9 a fl = r := ⟨_, rfl⟩; rw [hbm] at hA hS hk hkn hkl; replace hk : c1 = 2 → ok = true ∧ ∃ u A B x, BlI a l l1 u A B x := hk; replace hkn : c1 ≠ 2 → ok = false := hkn; replace hkl : c1 = 2 → l2 = l1 := hkl; replace hlab : c1 = 2 → -99 ≤ l1 ∧ l1 ≤ 99 := hlab)
 refine B9 ?_
 refine sE (A9 rfl) rfl (fun b36 => ?_)
 refine sS rfl rfl rfl hla hoa rfl ?_ (hu := by exact E0 hla.symm)
 refine B0 ?_
 refine sL (A3 rfl rfl (B6 (by repeat first | exact mH | apply mT)) hla) rfl rfl ?_
 refine F8 ?_
 (refine E6 rfl hA rfl rfl (fun v2 G2 hle2 hh => ?_); obtain ⟨p2, c2, rfl, hp2⟩ := hh; have hp21 := hp2.1.mono (C2.le _ _); replace hra := hra.mono hle2; replace hT := hT.mono hle2)
 refine J8 ?_
 refine sL (A3 rfl rfl (B6 (by repeat first | exact mH | apply mT)) hla) rfl rfl ?_
 refine F8 ?_
 (refine E6 rfl (hS _ _ hra) rfl rfl (fun v3 G3 hle3 hh => ?_); obtain ⟨p3, c3, rfl, hp3⟩ := hh; have hp31 := hp3.1.mono (C2.le _ _); replace hp21 := hp21.mono hle3; replace hra := hra.mono hle3; replace hT := hT.mono hle3)
 refine J8 ?_
 refine sL (A3 rfl rfl (B6 (by repeat first | exact mH | apply mT)) hla) rfl rfl ?_
 refine F8 ?_
 focus (refine E6 rfl (hR _ _ hT hra) rfl rfl (fun v4 G4 hle4 hh => ?_); replace hh : v4 = .tuple ⟨[.string s1, .int .i64 c1, .int .i64 l1]⟩ := hh; subst hh; replace hp21 := hp21.mono hle4; replace hp31 := hp31.mono hle4; replace hra := hra.mono hle4; replace hT := hT.mono hle4; have hI := B88 l l G4 p2 p3 c2 c3 hp21 hp31; rw [decide_eq_true rfl] at hI; by_cases hc2 : c1 = 2; (obtain ⟨rfl, u, A, B, x, hx⟩ := hk hc2; obtain rfl := hkl hc2); rotate_left; obtain rfl := hkn hc2; rotate_left)
 refine J5 ?_
 refine sQ (A14 rfl rfl rfl) rfl ?_
 refine B9 ?_
 refine sP (A1V rfl rfl (by omega)) rfl rfl ?_
 refine B4 ?_
 refine H6 rfl (hI) rfl rfl ?_
 refine B0 ?_
 refine sP (Y3 rfl rfl (by omega)) rfl rfl ?_
 refine sQ (A14 rfl rfl rfl) rfl ?_
 refine N4 ?_
 refine sL (A3 rfl rfl (B6 (by repeat first | exact mH | apply mT)) hla) rfl rfl ?_
 (obtain ⟨t, hIn⟩ := hx.ins; have hcv := (A2z hIn).1; have hcs := A2p u (A03 hcv).1; refine E6 rfl (A7F a _ ca hra) rfl rfl (fun v5 G5 hle5 hh => ?_); obtain ⟨cu, ct, rfl, hru, hrt⟩ := hh; obtain ⟨qt, dt, et2, rfl, _⟩ := hrt.open; have hlu := hru.len; have hou := hru.one; rw [hIn] at hru ⊢; replace hru : B1 G5 u cu := hru; replace hp21 := hp21.mono hle5; have hTA := B4B u l G5 cu p2 c2 hcs hru hp21; rw [hx.at'] at hTA)
 refine B4 ?_
 refine sE (A9 rfl) rfl (fun b123 => ?_)
 refine sE (A9 rfl) rfl (fun b124 => ?_)
 refine sS rfl rfl rfl hlu hou rfl ?_ (hu := by exact E0 hlu.symm)
 refine A8 ?_
 refine sL (A3 rfl rfl (B6 (by repeat first | exact mH | apply mT)) hlu) rfl rfl ?_
 refine F8 ?_
 focus (refine E6 rfl hTA rfl rfl (fun v6 G6 hle6 hh => ?_); obtain ⟨cx, Fx, rfl, hsx, hnx⟩ := hh; have hrx := hsx.R.mono (C2.le G6 G5); have hxk := hx.k; have hlb := hx.lab; have hxf := hx.fr; have hxt := hx.ty; obtain ⟨xk, xnm, xnum, xty, xfr, xlb, xks⟩ := x; replace hxk : xk = 14 := hxk; replace hxf : xfr = A.ty := hxf; replace hxt : xty = B.ty := hxt; subst hxf hxt; obtain ⟨pt, ctt, pf, cf, p9, c9, es9, rfl, hk9, hn9, hl9, hrB, hrA, _, _⟩ := B1.openT hrx; replace hlb : (l2 > 0 ∧ xlb = l2 ∧ P8 A B = false) ∨ (l2 < 0 ∧ xlb = -l2 ∧ L9 A B = false) := hlb; have hP := B85 A B hx.vA hx.vB G6 _ _ hrA hrB; have hN := B86 A B hx.vA hx.vB G6 _ _ hrA hrB; have hxlab := hlab hc2; rcases hlb with ⟨hb1, rfl, hb3⟩ | ⟨hb1, rfl, hb3⟩; rw [hb3] at hP; rotate_left; rw [hb3] at hN; rotate_left)
 refine B9 ?_
 refine sE (A9 rfl) rfl (fun b138 => ?_)
 refine K0 ?_
 refine sB (N2 rfl rfl) rfl rfl (fun h155 => ?_) (fun h155 => ?_)
 refine S4 ?_
 (exfalso; first | omega | contradiction | simp_all)
 refine B4 ?_
 refine sP (A1V rfl rfl (by omega)) rfl rfl ?_
 refine E1 ?_
 refine sP (A3t rfl rfl (by omega)) rfl rfl ?_
 refine B4 ?_
 refine sP (Y3 rfl rfl (by omega)) rfl rfl ?_
 refine A8 ?_
 (refine E6 rfl hP rfl rfl (fun v7 G7 hle7 hh => ?_); subst hh)
 refine A4d ?_
 (exact ⟨rfl, rfl⟩)
 refine B9 ?_
 refine sE (A9 rfl) rfl (fun b231 => ?_)
 refine K0 ?_
 refine sB (N2 rfl rfl) rfl rfl (fun h248 => ?_) (fun h248 => ?_)
 refine S4 ?_
 (exfalso; first | omega | contradiction | simp_all)
 refine B4 ?_
 refine sP (A1V rfl rfl (by omega)) rfl rfl ?_
 refine E1 ?_
 refine sP (A8q rfl rfl (by omega)) rfl rfl ?_
 refine K0 ?_
 refine sP (A8p rfl rfl (by omega)) rfl rfl ?_
 refine B4 ?_
 refine sP (A3m rfl (by omega) (by omega)) rfl rfl ?_
 refine sP (Y3 rfl rfl (by omega)) rfl rfl ?_
 refine A8 ?_
 (refine E6 rfl hN rfl rfl (fun v7 G7 hle7 hh => ?_); subst hh)
 refine D4 ?_
 (exact ⟨rfl, rfl⟩)
 refine J5 ?_
 refine sQ (A14 rfl rfl rfl) rfl ?_
 refine B9 ?_
 refine sP (A1V rfl rfl (by omega)) rfl rfl ?_
 refine B4 ?_
 refine H6 rfl (hI) rfl rfl ?_
 refine B0 ?_
 refine sP (I9 rfl rfl (by omega)) rfl rfl ?_
 refine sQ (A14 rfl rfl rfl) rfl ?_
 refine N4 ?_
 refine sQ (B2G rfl rfl rfl) rfl ?_
 refine B9 ?_
 refine sP (Y3 rfl rfl (by omega)) rfl rfl ?_
 refine B4 ?_
 refine H6 rfl (hI) rfl rfl ?_
 refine B4 ?_
 refine sP (I9 rfl rfl (by omega)) rfl rfl ?_
 refine sQ (B2G rfl rfl rfl) rfl ?_
 refine B7 ?_
 (exact ⟨rfl, rfl⟩)
end Gw
end Go.Proofs.YtebfignffjhnhaaGreatDoor
