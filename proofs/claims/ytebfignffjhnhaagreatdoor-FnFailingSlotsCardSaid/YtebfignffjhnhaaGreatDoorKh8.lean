/-
  Terms with other types: the program's. Shifts and masks of small numbers; writing into an own slice. Terms some of whose types become the unknown type: the program's. The configurations of a term: the program's. The first cast with a label. A number for each configuration: the program's. ConfigRuns of the program. Drawn terms that often have a type: one lambda, given the terms below. Drawn terms that often have a type. The types that a term's text holds: the reference's list. TermTypes and CountSlots of the reference. Terms with other types: the reference's. WithTypes of the reference. Drawn terms that are small, terms with blurred types, fuel. Configurations: plain laws (they are valid, ordered by precision; fewer types fail less); `and` and `and not` of masks.
-/
import Derived.Test.YtebfignffjhnhaaGreatDoorKh7
import Derived.Test.YtebfignffjhnhaaGreatDoorKh3
import Derived.Test.YtebfignffjhnhaaGreatDoorKh1
import Derived.Test.YtebfignffjhnhaaGreatDoorKh6
import Derived.Test.YtebfignffjhnhaaGreatDoorKh2
set_option linter.unusedVariables false
set_option linter.unusedSimpArgs false
set_option maxHeartbeats 0
set_option maxRecDepth 100000
set_option synthInstance.maxSize 4000
set_option synthInstance.maxHeartbeats 0
namespace Go.Proofs.YtebfignffjhnhaaGreatDoor
open Go Go.RowKit
namespace Gw
theorem B1H {sz : Nat} : ∀ {es : List (List Value)} (l : Nat), (∀ e ∈ es, e.length = sz) → es.flatten.drop (l * sz) = (es.drop l).flatten
 | [], l, _ => by simp
 | e :: es, 0, _ => by simp
 | e :: es, l + 1, h => by
  rw [List.flatten_cons, List.drop_succ_cons, ← B1H l (fun x hx => h x (List.mem_cons_of_mem _ hx)), Nat.add_mul, Nat.one_mul]
  have he := h e List.mem_cons_self
  rw [List.drop_append, List.drop_eq_nil_of_le (by omega), List.nil_append]
  congr 1; omega
theorem D7.from2 {G : IM} {b o n c l sz : Nat} {es : List (List Value)} (h : D7 G (some ⟨b, o, none⟩) n c sz es) (hl : l ≤ n) : D7 G (some ⟨b, if c = l then o else o + l * sz, none⟩) (n - l) (c - l) sz (es.drop l) := by
 have h1 := h.sl.from hl
 rw [B1H l h.all] at h1
 exact D7.of h1 (by rw [List.length_drop, h.len]) (fun e he => h.all e (List.mem_of_mem_drop he)) (fun e he => h.one e (List.mem_of_mem_drop he))
theorem C9.drop {G : IM} : ∀ {l : List Ty} {es : List (List Value)} (n : Nat), C9 G l es → C9 G (l.drop n) (es.drop n)
 | [], es, n, h => by simp only [C9] at h; subst h; simp [C9]
 | t :: l, es, 0, h => by simpa using h
 | t :: l, es, n + 1, h => by
  simp only [C9] at h
  obtain ⟨a, r, rfl, h1, h2⟩ := h
  simpa using C9.drop n h2
def RtP (u : Tm) (l : List Ty) : IM → Value → List A6 → Prop := fun G' v outs => outs = [] ∧ ∃ cu p c el, v = .tuple ⟨[.agg ⟨cu⟩, .slice p l.length c]⟩ ∧ B1 G' u cu ∧ D7 G' p l.length c 2 el ∧ C9 G' l el
theorem RtP.mk {G' : IM} {k : Int} {nm : ByteArray} {num : Int} {ty fr : Ty} {lb : Int} {ks : List Tm} {tk fk : Int} {pt pf : Option Addr} {nt ct nf cf : Nat} {p q : Option Addr} {m c cq n : Nat} {es el : List (List Value)} {l : List Ty}
  (hk : F8 k) (hnum : F8 num) (hlb : F8 lb) (hty : C3 G' ty [.int .i64 tk, .slice pt nt ct]) (hfr : C3 G' fr [.int .i64 fk, .slice pf nf cf]) (hm : m = ks.length) (hs : Sl G' p m c 9 es.flatten) (hr : E1 G' ks es)
  (hn : n = l.length) (hq : D7 G' q n cq 2 el) (hl : C9 G' l el) :
  RtP (.mk k nm num ty fr lb ks) l G' (.tuple ⟨[.agg ⟨[.int .i64 k, .string nm, .int .i64 num, .int .i64 tk, .slice pt nt ct, .int .i64 fk, .slice pf nf cf, .int .i64 lb, .slice p m c]⟩, .slice q n cq]⟩) [] := by
 subst hm hn
 refine ⟨rfl, _, q, cq, el, rfl, ?_, hq, hl⟩
 simp only [B1]
 exact ⟨_, _, p, c, es, rfl, hk, hnum, hlb, hty, hfr, D7.of hs hr.len hr.all (fun e he => by obtain ⟨j, hj⟩ := List.getElem?_of_mem he; exact (hr.inv hj K7).2.one), hr⟩
theorem B1I {Q : Prop} (h : Q := by (dsimp only; exact ⟨by omega, hle.trans hle3, hsn, by rw [A1j (by omega), List.length_append]; simp only [List.length_drop]; omega, by simpa only [A1j (show i < ks.length by omega), List.length_append, List.drop_drop] using hs3, by simpa only [A1j (show i < ks.length by omega), List.length_append, List.drop_drop, Nat.add_assoc] using hr3⟩)) : Q := h
theorem B7w : ∀ (t : Tm) (l : List Ty) (G : IM) (cells : List Value) (p : Option Addr) (c : Nat) (el : List (List Value)), (H0 t).length ≤ l.length → (∀ u ∈ l, u.small) → D3 t ≤ 4000000 → B1 G t cells → D7 G p l.length c 2 el → C9 G l el →
  Fn Tryz.prog 119 [.agg ⟨cells⟩, .slice p l.length c] [] G (RtP (S2 t l) (l.drop (H0 t).length)) := by
 refine Tm.ind fun k nm num ty fr lb ks ih l G cells p c el hlen hsm hcnt hr hse hel => ?_
 have hT := A7l _ G cells hr
 have hone := hr.one
 have hcy : A0u k = true → H0 (.mk k nm num ty fr lb ks) = [ty] ++ I0 ks := fun h => by rw [H0, if_pos (of_decide_eq_true h)]
 have hcn : A0u k = false → H0 (.mk k nm num ty fr lb ks) = [] ++ I0 ks := fun h => by rw [H0, if_neg (of_decide_eq_false h)]
 have hwy : A0u k = true → S2 (.mk k nm num ty fr lb ks) l = .mk k nm num (l.getD 0 B3) fr lb (N4 ks (l.drop 1)) := fun h => by rw [S2, if_pos (of_decide_eq_true h), if_pos (of_decide_eq_true h)]
 have hwn : A0u k = false → S2 (.mk k nm num ty fr lb ks) l = .mk k nm num ty fr lb (N4 ks l) := fun h => by rw [S2, if_neg (of_decide_eq_false h), if_neg (of_decide_eq_false h)]
 rw [D3] at hcnt
 obtain ⟨tk, tks⟩ := ty
 obtain ⟨fk, fks⟩ := fr
 have hT' : Fn Tryz.prog 77 _ [] G (I5 (.bool (A0u k)) G) := hT
 obtain ⟨pt, ct, pf, cf, q, cq, ek, rfl, hk, hnum, hlb, hty, hfr, hsl, hkl⟩ := hr.open9
 have hn := hsl.le
 have hkn := A4K ks
 refine C1 Tryz.func119 rfl Tryz.ntmps119 Tryz.results119 rfl ?_
 intro w0
 refine A3 ?_
 refine sE (C7 rfl rfl) rfl (fun b3 => ?_)
 refine sE (A7 rfl) rfl (fun b4 => ?_)
 refine A8 ?_
 refine sE (A7 rfl) rfl (fun b11 => ?_)
 refine J7 ?_
 refine F4 rfl (hT') rfl rfl (fun h25 => ?_) (fun h25 => ?_)
 refine B7 ?_
 (have hL1 := hcy (by assumption); have h1 : 1 + (I0 ks).length ≤ l.length := (by rw [hL1] at hlen; simp only [List.length_append, List.length_singleton] at hlen; omega); obtain ⟨b0, o0, p20, c20, rfl, hat0, hre0, hgb0⟩ := hse.kidTy hel (i := 0) (by omega) (by omega); obtain ⟨T0, hT0⟩ : ∃ T, T = l[0]'(by omega) := ⟨_, rfl⟩; have hs0 := hsm _ (List.getElem_mem (show 0 < l.length by omega)); rw [← hT0] at hre0 hat0 hs0; have hO := A1Q T0 G _ hs0 hre0; refine E2 E4 rfl ?_)
 refine J4 (i := 0) (l' := [tt,ff,ff,ff,ff,ff,ff,ff,ff]) rfl D6 (qM rfl) rfl (by kernel_rfl) rfl rfl ?_
 refine aP 1 rfl (B6 (j := 0) rfl rfl rfl (by omega)) rfl ?_
 refine aL 2 rfl (A2 rfl rfl (hat0 _) rfl) rfl ?_
 refine aP 4 rfl (qM rfl) rfl ?_
 refine aP 5 rfl (B4t (l := 1) rfl rfl rfl (by omega)) rfl ?_
 refine A4 3 ?_
 (refine H7 rfl rfl hO rfl rfl rfl (fun v G1 hle1 hh => ?_); obtain ⟨cs1, F1, rfl, hs1, hn1⟩ := hh; have hr1 := hs1.R.mono (C5.le _ _); obtain ⟨p1, c1, rfl, _⟩ := hs1.open)
 refine aP 6 rfl (B9 rfl) rfl ?_
 refine A4 7 ?_
 refine I2 rfl ?_
 refine aP 8 rfl (qA rfl) rfl ?_
 refine J1 ?_
 refine C0 ?_
 (have hL2 := hcy (by assumption); have hW2 := hwy (by assumption); have hse1 := (hse.from2 (l := 1) (by omega)).mono hle1; have hel1 := (hel.drop 1).mono hle1; refine Q9 37 9 ?_; refine J0 (fun (x : Nat × Option Addr × Nat × List (List Value) × Option Addr × Nat × Nat × List (List Value) × IM) => ⟨[(25, .int .i64 x.1), (24, .int .i64 ks.length), (23, .slice q ks.length cq), (1, .slice x.2.2.2.2.1 x.2.2.2.2.2.1 x.2.2.2.2.2.2.1), (6, .pointer (some ⟨b11, 0, none⟩)), (4, .pointer (some ⟨b4, 0, none⟩))], [.blk b11 [.int .i64 k, .string nm, .int .i64 num, .int .i64 T0.k, .slice p1 T0.ks.length c1, .int .i64 fk, .slice pf fks.length cf, .int .i64 lb, .slice x.2.1 x.1 x.2.2.1], .slc x.2.1 x.2.2.1 37 9 x.1 x.2.2.2.1.flatten, .blk b4 [.int .i64 0, .string ⟨⟨[]⟩⟩, .int .i64 0, .int .i64 0, .slice none 0 0, .int .i64 0, .slice none 0 0, .int .i64 0, .slice none 0 0]], x.2.2.2.2.2.2.2.2⟩) (fun x => x.1 ≤ ks.length ∧ C2 G1 x.2.2.2.2.2.2.2.2 ∧ E1 x.2.2.2.2.2.2.2.2 (N4 (ks.take x.1) (l.drop 1)) x.2.2.2.1 ∧ x.2.2.2.2.2.1 = ((l.drop 1).drop (I0 (ks.take x.1)).length).length ∧ D7 x.2.2.2.2.2.2.2.2 x.2.2.2.2.1 x.2.2.2.2.2.1 x.2.2.2.2.2.2.1 2 x.2.2.2.2.2.2.2.1 ∧ C9 x.2.2.2.2.2.2.2.2 ((l.drop 1).drop (I0 (ks.take x.1)).length) x.2.2.2.2.2.2.2.1) (fun x => ks.length - x.1) (0, none, 0, [], some ⟨b0, if c = 1 then o0 else o0 + 1 * 2, none⟩, l.length - 1, c - 1, el.drop 1, G1) ?_ ?_ ?_)
 (simp only [H6]; exact D2)
 (exact ⟨Nat.zero_le _, C2.refl _, by simp [N4, E1], by simp [I0], by simpa using hse1, by simpa [I0] using hel1⟩)
 (rintro ⟨(i : Nat), pn, cn, es, pl, nl, cl, eL, Gi⟩ ⟨hi, hle, hst, hnl, hsL, heL⟩; simp only [] at hi hle hst hnl hsL heL ⊢)
 refine A3 ?_
 refine sB (I8 rfl rfl) rfl rfl (fun h59 => ?_) (fun h59 => ?_)
 refine B5 ?_
 refine C0 ?_
 refine A3 ?_
 (obtain ⟨b, o, e, rfl, hl, hat, hre, hgb⟩ := (hsl.mono (by first | exact hle | exact hle1.trans hle)).kidTm (hkl.mono (by first | exact hle | exact hle1.trans hle)) (i := i) (by omega) (by omega); have hone9 := hre.one; have hsc := A0M (ks := ks) (i := i) (by omega); have hsk := A0L (ks := ks) (i := i) (by omega); have hts1 := A4j (ks := ks) (i := i) (by omega); refine sP (B6 rfl rfl rfl (by omega)) rfl rfl ?_)
 refine sL (A2 rfl rfl (hat _) hl) rfl rfl ?_
 refine sE (A7 rfl) rfl (fun b72 => ?_)
 refine sS rfl rfl rfl hl hone9 rfl ?_ (hu := by exact D4 hl.symm)
 refine B4 ?_
 refine sL (A2 rfl rfl (A9 (by repeat first | exact mH | apply mT)) hl) rfl rfl ?_
 refine E3 ?_
 (subst hnl; refine U6 rfl (ih ks[i] (List.getElem_mem (by omega)) _ _ _ _ _ _ (by simp only [List.length_drop]; rw [hL2] at hlen; simp only [List.length_append, List.length_singleton, List.length_nil] at hlen; omega) (fun u hu => hsm u (by first | exact List.mem_of_mem_drop hu | exact List.mem_of_mem_drop (List.mem_of_mem_drop hu))) (by omega) hre hsL heL) rfl rfl (fun v G3 outs hle3 hh => ?_); obtain ⟨rfl, cu, p3, c3, e3, rfl, hru, hs3, hr3⟩ := hh; have hsn := E1.snoc (hst.mono hle3) hru; obtain ⟨u1, u2, u3, u4, u5, u6, u7, u8, u9, rfl⟩ : ∃ u1 u2 u3 u4 u5 u6 u7 u8 u9, cu = [u1, u2, u3, u4, u5, u6, u7, u8, u9] := (by obtain ⟨_, _, _, _, _, _, _, _, _, rfl, _⟩ := hru.open; exact ⟨_, _, _, _, _, _, _, _, _, rfl⟩); have huo := hru.one)
 refine B7 ?_
 refine sE (A7 rfl) rfl (fun b84 => ?_)
 refine sS rfl rfl rfl rfl huo rfl ?_
 refine B5 ?_
 (refine I3 (D0 rfl rfl rfl (by omega) (by unfold maxLen; omega) rfl) rfl ?_; rintro _ ⟨b93, rfl⟩)
 (refine Y5 rfl rfl rfl rfl rfl (fun _ _ => by repeat (first | exact Sw.here | apply Sw.there)) (M1 (by repeat first | exact mH | apply mT)) rfl (fun u hu => List.all_eq_true.1 huo u hu) (by unfold maxLen; omega) (by omega) rfl (fun p4 c4 => ?_))
 refine D1 ?_
 refine sP (H5 rfl rfl (by omega) (by omega)) rfl rfl ?_
 refine A3 ?_
 (rw [← A4i (by omega)] at hsn; refine I1 (i + 1, p4, c4, es ++ [[u1, u2, u3, u4, u5, u6, u7, u8, u9]], p3, _, c3, e3, G3) (by simp only [List.flatten_append, List.flatten_cons, List.flatten_nil, List.append_nil]; exact (K2 (by repeat (first | exact D8.nil | refine D8.cons rfl ?_)) (by repeat (first | exact A0.refl | exact A0.nil | refine A0.cons (by repeat (first | exact Pk.here | apply Pk.there)) ?_ | apply A0.drop)))) ?_ ?_)
 exact B1I
 exact V0
 refine Q5 ?_
 (refine F0 (cs := es.flatten) (by repeat (first | exact Pk.here | apply Pk.there)) (fun G5 hle5 hsl5 hno5 => ?_); obtain rfl : i = ks.length := (by omega); rw [List.take_length] at hst hnl heL)
 refine tT ?_
 refine E9 (rC rfl (A5 rfl rfl)) (rT rfl) ?_
 (rw [hW2, hL2]; exact RtP.mk hk hnum hlb (by first | (rw [List.getD_eq_getElem?_getD, List.getElem?_eq_getElem (by omega), Option.getD_some, ← hT0]; exact hr1.mono (hle.trans hle5)) | exact hty.mono (hle.trans hle5) | (rw [List.getD_eq_getElem?_getD, List.getElem?_eq_getElem (by omega), Option.getD_some, ← hT0]; exact hr1.mono (hle.trans hle5))) (hfr.mono (by first | exact hle.trans hle5 | exact hle1.trans (hle.trans hle5))) (by rw [A2j]) hsl5 (hst.mono hle5) (by simp only [List.length_append, List.length_singleton, List.length_nil, List.length_drop] at hnl ⊢; omega) (hsL.mono hle5) (by simpa [List.drop_drop, Nat.add_comm] using heL.mono hle5))
 refine J9 ?_
 refine C0 ?_
 (have hL2 := hcn (by assumption); have hW2 := hwn (by assumption); refine Q9 37 9 ?_; refine J0 (fun (x : Nat × Option Addr × Nat × List (List Value) × Option Addr × Nat × Nat × List (List Value) × IM) => ⟨[(25, .int .i64 x.1), (24, .int .i64 ks.length), (23, .slice q ks.length cq), (1, .slice x.2.2.2.2.1 x.2.2.2.2.2.1 x.2.2.2.2.2.2.1), (6, .pointer (some ⟨b11, 0, none⟩)), (4, .pointer (some ⟨b4, 0, none⟩))], [.blk b11 [.int .i64 k, .string nm, .int .i64 num, .int .i64 tk, .slice pt tks.length ct, .int .i64 fk, .slice pf fks.length cf, .int .i64 lb, .slice x.2.1 x.1 x.2.2.1], .slc x.2.1 x.2.2.1 37 9 x.1 x.2.2.2.1.flatten, .blk b4 [.int .i64 0, .string ⟨⟨[]⟩⟩, .int .i64 0, .int .i64 0, .slice none 0 0, .int .i64 0, .slice none 0 0, .int .i64 0, .slice none 0 0]], x.2.2.2.2.2.2.2.2⟩) (fun x => x.1 ≤ ks.length ∧ C2 G x.2.2.2.2.2.2.2.2 ∧ E1 x.2.2.2.2.2.2.2.2 (N4 (ks.take x.1) l) x.2.2.2.1 ∧ x.2.2.2.2.2.1 = (l.drop (I0 (ks.take x.1)).length).length ∧ D7 x.2.2.2.2.2.2.2.2 x.2.2.2.2.1 x.2.2.2.2.2.1 x.2.2.2.2.2.2.1 2 x.2.2.2.2.2.2.2.1 ∧ C9 x.2.2.2.2.2.2.2.2 (l.drop (I0 (ks.take x.1)).length) x.2.2.2.2.2.2.2.1) (fun x => ks.length - x.1) (0, none, 0, [], p, l.length, c, el, G) ?_ ?_ ?_)
 (simp only [H6]; exact D2)
 (exact ⟨Nat.zero_le _, C2.refl _, by simp [N4, E1], by simp [I0], hse, by simpa [I0] using hel⟩)
 (rintro ⟨(i : Nat), pn, cn, es, pl, nl, cl, eL, Gi⟩ ⟨hi, hle, hst, hnl, hsL, heL⟩; simp only [] at hi hle hst hnl hsL heL ⊢)
 refine A3 ?_
 refine sB (I8 rfl rfl) rfl rfl (fun h151 => ?_) (fun h151 => ?_)
 refine B5 ?_
 refine C0 ?_
 refine A3 ?_
 (obtain ⟨b, o, e, rfl, hl, hat, hre, hgb⟩ := (hsl.mono (by first | exact hle | exact hle1.trans hle)).kidTm (hkl.mono (by first | exact hle | exact hle1.trans hle)) (i := i) (by omega) (by omega); have hone9 := hre.one; have hsc := A0M (ks := ks) (i := i) (by omega); have hsk := A0L (ks := ks) (i := i) (by omega); have hts1 := A4j (ks := ks) (i := i) (by omega); refine sP (B6 rfl rfl rfl (by omega)) rfl rfl ?_)
 refine sL (A2 rfl rfl (hat _) hl) rfl rfl ?_
 refine sE (A7 rfl) rfl (fun b164 => ?_)
 refine sS rfl rfl rfl hl hone9 rfl ?_ (hu := by exact D4 hl.symm)
 refine B4 ?_
 refine sL (A2 rfl rfl (A9 (by repeat first | exact mH | apply mT)) hl) rfl rfl ?_
 refine E3 ?_
 (subst hnl; refine U6 rfl (ih ks[i] (List.getElem_mem (by omega)) _ _ _ _ _ _ (by simp only [List.length_drop]; rw [hL2] at hlen; simp only [List.length_append, List.length_singleton, List.length_nil] at hlen; omega) (fun u hu => hsm u (by first | exact List.mem_of_mem_drop hu | exact List.mem_of_mem_drop (List.mem_of_mem_drop hu))) (by omega) hre hsL heL) rfl rfl (fun v G3 outs hle3 hh => ?_); obtain ⟨rfl, cu, p3, c3, e3, rfl, hru, hs3, hr3⟩ := hh; have hsn := E1.snoc (hst.mono hle3) hru; obtain ⟨u1, u2, u3, u4, u5, u6, u7, u8, u9, rfl⟩ : ∃ u1 u2 u3 u4 u5 u6 u7 u8 u9, cu = [u1, u2, u3, u4, u5, u6, u7, u8, u9] := (by obtain ⟨_, _, _, _, _, _, _, _, _, rfl, _⟩ := hru.open; exact ⟨_, _, _, _, _, _, _, _, _, rfl⟩); have huo := hru.one)
 refine B7 ?_
 refine sE (A7 rfl) rfl (fun b176 => ?_)
 refine sS rfl rfl rfl rfl huo rfl ?_
 refine B5 ?_
 (refine I3 (D0 rfl rfl rfl (by omega) (by unfold maxLen; omega) rfl) rfl ?_; rintro _ ⟨b185, rfl⟩)
 (refine Y5 rfl rfl rfl rfl rfl (fun _ _ => by repeat (first | exact Sw.here | apply Sw.there)) (M1 (by repeat first | exact mH | apply mT)) rfl (fun u hu => List.all_eq_true.1 huo u hu) (by unfold maxLen; omega) (by omega) rfl (fun p4 c4 => ?_))
 refine D1 ?_
 refine sP (H5 rfl rfl (by omega) (by omega)) rfl rfl ?_
 refine A3 ?_
 (rw [← A4i (by omega)] at hsn; refine I1 (i + 1, p4, c4, es ++ [[u1, u2, u3, u4, u5, u6, u7, u8, u9]], p3, _, c3, e3, G3) (by simp only [List.flatten_append, List.flatten_cons, List.flatten_nil, List.append_nil]; exact (K2 (by repeat (first | exact D8.nil | refine D8.cons rfl ?_)) (by repeat (first | exact A0.refl | exact A0.nil | refine A0.cons (by repeat (first | exact Pk.here | apply Pk.there)) ?_ | apply A0.drop)))) ?_ ?_)
 exact B1I
 exact V0
 refine Q5 ?_
 (refine F0 (cs := es.flatten) (by repeat (first | exact Pk.here | apply Pk.there)) (fun G5 hle5 hsl5 hno5 => ?_); obtain rfl : i = ks.length := (by omega); rw [List.take_length] at hst hnl heL)
 refine tT ?_
 refine E9 (rC rfl (A5 rfl rfl)) (rT rfl) ?_
 (rw [hW2, hL2]; exact RtP.mk hk hnum hlb (by first | (rw [List.getD_eq_getElem?_getD, List.getElem?_eq_getElem (by omega), Option.getD_some, ← hT0]; exact hr1.mono (hle.trans hle5)) | exact hty.mono (hle.trans hle5) | (rw [List.getD_eq_getElem?_getD, List.getElem?_eq_getElem (by omega), Option.getD_some, ← hT0]; exact hr1.mono (hle.trans hle5))) (hfr.mono (by first | exact hle.trans hle5 | exact hle1.trans (hle.trans hle5))) (by rw [A2j]) hsl5 (hst.mono hle5) (by simp only [List.length_append, List.length_singleton, List.length_nil, List.length_drop] at hnl ⊢; omega) (hsL.mono hle5) (by simpa [List.drop_drop, Nat.add_comm] using heL.mono hle5))
section bits
variable {P : Program} {Γ : L7} {env : M2} {hp : List A6} {G : IM} {ty : TypeId}
theorem B1J {x y : Operand} {t t' : TypeId} {m i : Nat} (hx : evo env x = some (.int .i64 (m : Int))) (hy : evo env y = some (.int .i64 (i : Int))) (hi : i ≤ 63) :
  I4 P Γ ⟨env, hp, G⟩ (.binOp .shr t x y t') ty (.int .i64 ((m / 2 ^ i : Nat) : Int)) := by
 refine ⟨fun a _ hs _ _ _ _ w => ?_⟩
 have h1 : min ((i : Int)).toNat (IntKind.bits .i64) = i := by
  have : IntKind.bits .i64 = 64 := rfl
  rw [this, Int.toNat_natCast]; omega
 have h2 : ¬ ((i : Int) < 0) := by omega
 simp only [execOp, eqGuard, binOp, Op.shift, (hs.evo hx : a.eval x = _), (hs.evo hy : a.eval y = _), h1, if_neg h2]
 have h3 : (m : Int).fdiv (2 ^ i) = ((m / 2 ^ i : Nat) : Int) := by
  rw [Int.fdiv_eq_ediv_of_nonneg _ (Int.le_of_lt (Int.pow_pos (by decide)))]
  norm_cast
 rw [h3]; rfl
theorem B1K {x y : Operand} {t t' : TypeId} {m : Nat} (hx : evo env x = some (.int .i64 (m : Int))) (hy : evo env y = some (.int .i64 1)) :
  I4 P Γ ⟨env, hp, G⟩ (.binOp .and t x y t') ty (.int .i64 ((m % 2 : Nat) : Int)) := by
 refine ⟨fun a _ hs _ _ _ _ w => ?_⟩
 have h1 : (BitVec.ofInt (IntKind.bits .i64) (m : Int) &&& BitVec.ofInt (IntKind.bits .i64) 1).toNat = m % 2 := by
  have hb : IntKind.bits .i64 = 64 := rfl
  rw [hb, BitVec.toNat_and]
  have e1 : (BitVec.ofInt 64 (m : Int)).toNat = m % 2 ^ 64 := by rw [BitVec.ofInt_natCast, BitVec.toNat_ofNat]
  have e2 : (BitVec.ofInt 64 1).toNat = 1 := rfl
  rw [e1, e2, Nat.and_one_is_mod]; omega
 have h2 : IntKind.wrap .i64 ((m % 2 : Nat) : Int) = ((m % 2 : Nat) : Int) := A04 _ rfl (by omega) (by omega)
 simp only [execOp, eqGuard, binOp, Op.intBits, (hs.evo hx : a.eval x = _), (hs.evo hy : a.eval y = _), ne_eq, not_true_eq_false, if_false, h1, h2]
 rfl
theorem A2l {x y : Operand} {t t' : TypeId} {n : Nat} (hx : evo env x = some (.int .i64 1)) (hy : evo env y = some (.int .i64 (n : Int))) (hn : n ≤ 62) :
  I4 P Γ ⟨env, hp, G⟩ (.binOp .shl t x y t') ty (.int .i64 ((2 ^ n : Nat) : Int)) := by
 refine ⟨fun a _ hs _ _ _ _ w => ?_⟩
 have h1 : min ((n : Int)).toNat (IntKind.bits .i64) = n := by
  have : IntKind.bits .i64 = 64 := rfl
  rw [this, Int.toNat_natCast]; omega
 have h2 : ¬ ((n : Int) < 0) := by omega
 have hp : (2 : Nat) ^ n ≤ 2 ^ 62 := Nat.pow_le_pow_right (by decide) hn
 have h3 : (1 : Int) * 2 ^ n = ((2 ^ n : Nat) : Int) := by push_cast; rw [Int.one_mul]
 have h4 : IntKind.wrap .i64 ((2 ^ n : Nat) : Int) = ((2 ^ n : Nat) : Int) := A04 _ rfl (Int.le_trans (by decide) (Int.natCast_nonneg _)) (Int.le_trans (Int.ofNat_le.2 hp) (by decide))
 simp only [execOp, eqGuard, binOp, Op.shift, (hs.evo hx : a.eval x = _), (hs.evo hy : a.eval y = _), h1, if_neg h2, h3, h4]
 rfl
end bits
theorem B7x {cs vs cs' C : List Value} {o : Nat} (h : S3 cs o vs = some cs') : cs' ++ C = (cs ++ C).take o ++ vs ++ (cs ++ C).drop (o + vs.length) := by
 obtain ⟨h1, h2⟩ := A21 h
 rw [h1, List.take_append_of_le_length (by omega), List.drop_append_of_le_length (by omega)]
 simp
section wr
variable {P : Program} {Γ : L7} {env : M2} {hp : List A6} {G : IM} {ty : TypeId} {K : Po} {ops : Array Oper} {rest : List Oper}
theorem B7y {d : Option Nat} {x y : Operand} {t : TypeId} {i : K9} [hI : I6 P t i] {b o c el sz n : Nat} {v : Value} {vs cs cs' : List Value} {hp' : List A6}
  (hx : evo env x = some (.pointer (some ⟨b, o, none⟩))) (hy : evo env y = some v) (hv : v.cells = ⟨vs⟩) (hsz : vs.length = i.size) (h1 : vs.all (·.oneCell') = true)
  (hu : S3 cs o vs = some cs') (hm : Sw hp (.slc (some ⟨b, 0, none⟩) c el sz n cs) (.slc (some ⟨b, 0, none⟩) c el sz n cs') hp') (hd : dok Γ.n d = true) :
  W9 P Γ ⟨env, hp, G⟩ d (.store t x y) ty [b] (fun σ' => σ' = ⟨dpu d undef env, hp', G⟩) := by
 refine ⟨fun a w hs pos af gd Q next hn => ?_⟩
 obtain ⟨rest, p1, p2⟩ := hm.perm
 have hown : T2 [.slc (some ⟨b, 0, none⟩) c el sz n cs] G w := hs.res.own.of_mem p1
 obtain ⟨hl, h⟩ := hown.ok _ List.mem_cons_self
 rcases h with ⟨hv', _⟩ | ⟨g, cap, cur, hv', hbg, hg, hnc, hcm, hcs, ht⟩
 ·cases hv'
 cases hv'
 obtain ⟨u1, u2⟩ := A21 hu
 have hcur : cur.toList = cs ++ cur.toList.drop (n * sz) := by
  conv => lhs; rw [← List.take_append_drop (n * sz) cur.toList, ht]
 have hlen : cs.length ≤ cur.size := by
  rw [hl, hcs]; exact Nat.mul_le_mul_right _ hnc
 have hst := run_storeCells_at P b o el vs 0 cur w hg (by omega) (by simpa using h1)
 obtain ⟨cur', hcur'⟩ : ∃ l : List Value, l = cs' ++ cur.toList.drop (n * sz) := ⟨_, rfl⟩
 have hcc : cur.toList.take (o + 0) ++ vs ++ cur.toList.drop (o + 0 + vs.length) = cur' := by
  rw [hcur', Nat.add_zero, B7x hu, ← hcur]
 rw [hcc] at hst
 have hl' : cs'.length = cs.length := by rw [u1]; simp; omega
 have hsz' : cur'.length = cur.size := by
  have := congrArg List.length hcur
  rw [hcur', List.length_append, hl']
  simpa using this.symm
 obtain ⟨inf, g1, g2, _⟩ := hI.info
 have hrun : (execOp a.eval ⟨d, .store t x y, ty, pos, af, gd⟩).run P w = .ok .skip (w.setRow b cur'.toArray) := by
  simp [execOp, Instr.storeAt, Instr.sureAddr, (hs.evo hx : a.eval x = _), (hs.evo hy : a.eval y = _), storeVar, sizeOf, typeInfo, g1, g2, hv, hsz, hst]
 simp only [Oper.wp, hrun, Oper.upon]
 have hr' : Q4 [.slc (some ⟨b, 0, none⟩) c el sz n cs] G w [.slc (some ⟨b, 0, none⟩) c el sz n cs'] G (w.setRow b cur'.toArray) := by
  refine ⟨⟨?_, ?_, by simp [Fp, A6.fp, J5], ?_⟩, ⟨rfl, rfl, rfl, by simp [World.setRow], fun k _ hk => setRow_other w b k _ (by rintro rfl; simp [Fp, A6.fp, J5] at hk)⟩, C2.refl _, fun _ _ h => .inl h, ?_, fun b l h h0 => absurd h (by rw [h0]; simp)⟩
  ·intro k l hg'
   obtain ⟨e', f', h'⟩ := hown.inn k l hg'
   refine ⟨e', f', ?_⟩
   rw [setRow_other w b k _ ?_]
   ·exact h'
   ·rintro rfl
    have := hown.disj k (by simp [Fp, A6.fp, J5])
    rw [this] at hg'; cases hg'
  ·intro x hx
   simp at hx; subst hx
   refine ⟨by rw [hl', hl], .inr ⟨b, _, cur'.toArray, rfl, hbg, setRow_heap w b cur cur'.toArray el (0, 0) hg, hnc, hcm, by rw [List.size_toArray, hsz', hcs], ?_⟩⟩
   rw [hcur', List.take_left' (by rw [hl', hl])]
  ·intro k hk
   exact hown.disj k (by simpa [Fp, A6.fp, J5] using hk)
  ·intro k hk
   exact .inr (by simpa [Fp, A6.fp, J5] using hk)
 exact hn _ _ _ (hs.step p1 hr' p2 hd) (by simpa [Fp, A6.fp, J5] using hr'.ext) rfl
variable {pos : String} {af : Array Edge} {gd : Option (Nat × Bool)}
theorem B1L {c el sz n : Nat} {cs vs : List Value} {x y : Operand} {t : TypeId} {i : K9} [hI : I6 P t i] {bb o : Nat} {v : Value} {cs' : List Value} {hp' : List A6}
  (hx : evo env x = some (.pointer (some ⟨bb, o, none⟩))) (hy : evo env y = some v) (hv : v.cells = ⟨vs⟩) (hsz : vs.length = i.size) (h1 : vs.all (·.oneCell') = true)
  (hw : L8 ops env gd = some true) (hsw : Sw hp (.slc (some ⟨bb, 0, none⟩) c el sz n cs) (.slc (some ⟨bb, 0, none⟩) c el sz n cs') hp') (hu : S3 cs o vs = some cs')
  (k : I9 P Γ ops rest K ⟨env, hp', G⟩) : I9 P Γ ops (⟨none, .store t x y, ty, pos, af, gd⟩ :: rest) K ⟨env, hp, G⟩ :=
 I3 (B7y hx hy hv hsz h1 hu hsw rfl) hw (by rintro _ rfl; exact k)
theorem St.slc_ptT {p : Option Addr} {c el sz n : Nat} {cs : List Value} {a : Act} {w : World} (hs : St Γ ⟨env, hp, G⟩ a w) (hm : A6.slc p c el sz n cs ∈ hp) :
  (p = none ∧ n = 0 ∧ c = 0) ∨ ∃ g, p = some ⟨g, 0, none⟩ ∧ n ≤ c := by
 obtain ⟨_, h⟩ := hs.res.own.ok _ hm
 rcases h with ⟨hv, hn⟩ | ⟨g, cap, cur, hv, _, _, hnc, _⟩
 ·cases hv; exact .inl ⟨rfl, hn, rfl⟩
 ·cases hv; exact .inr ⟨g, rfl, hnc⟩
end wr
theorem B1M {es : List (List Value)} {i sz : Nat} {vs : List Value} (hi : i < es.length) (ha : ∀ e ∈ es, e.length = sz) (hv : vs.length = sz) : S3 es.flatten (0 + i * sz) vs = some (es.set i vs).flatten := by
 have h1 : es.flatten = (es.take i).flatten ++ (es[i] ++ (es.drop (i + 1)).flatten) := by
  conv => lhs; rw [← List.take_append_drop i es, List.drop_eq_getElem_cons hi]
  rw [List.flatten_append, List.flatten_cons]
 have h2 : (es.set i vs).flatten = (es.take i).flatten ++ (vs ++ (es.drop (i + 1)).flatten) := by rw [List.set_eq_take_append_cons_drop, if_pos hi, List.flatten_append, List.flatten_cons]
 have hA : ((es.take i).flatten).length = 0 + i * sz := by rw [A09 (fun e he => ha e (List.mem_of_mem_take he)), List.length_take, Nat.min_eq_left (by omega)]; omega
 rw [h1, h2]
 exact A6d hA (by rw [ha _ (List.getElem_mem hi), hv])
theorem C9.set {G : IM} : ∀ {l : List Ty} {es : List (List Value)} (i : Nat) {u : Ty} {c : List Value}, C9 G l es → C3 G u c → C9 G (l.set i u) (es.set i c)
 | [], es, i, u, c, h, _ => by simp only [C9] at h; subst h; simp [C9]
 | t :: l, es, 0, u, c, h, h2 => by
  simp only [C9] at h
  obtain ⟨a, r, rfl, _, h3⟩ := h
  simp only [List.set_cons_zero, C9]
  exact ⟨c, r, rfl, h2, h3⟩
 | t :: l, es, i + 1, u, c, h, h2 => by
  simp only [C9] at h
  obtain ⟨a, r, rfl, h4, h3⟩ := h
  simp only [List.set_cons_succ, C9]
  exact ⟨a, _, rfl, h4, C9.set i h3 h2⟩
mutual
theorem A5D : ∀ t : Tm, t.small → ∀ u ∈ H0 t, u.small
 | .mk k nm num ty fr lb ks, h, u, hu => by
  simp only [Tm.small] at h
  rw [H0] at hu
  rcases List.mem_append.1 hu with hu | hu
  ·split at hu
   ·simp only [List.mem_singleton] at hu; subst hu; exact h.2.1
   ·cases hu
  ·exact B1N ks h.2.2.2.2 u hu
theorem B1N : ∀ ts : List Tm, Tm.smallL ts → ∀ u ∈ I0 ts, u.small
 | [], _, u, hu => by simp [I0] at hu
 | t :: ts, h, u, hu => by
  simp only [Tm.smallL] at h
  rw [I0] at hu
  rcases List.mem_append.1 hu with hu | hu
  ·exact A5D t h.1 u hu
  ·exact B1N ts h.2 u hu
end
theorem A7L : (Ty.mk 1 []).small := by simp [Ty.small, Ty.smallL]
theorem B7z (G : IM) : C3 G (.mk 1 []) [.int .i64 1, .slice none 0 0] := by
 simp only [C3]; exact ⟨none, 0, [], rfl, ⟨by decide, by decide⟩, D7.nil G 2, by simp [C9]⟩
theorem A5E {Q : Prop} (h : Q := by (dsimp only; exact ⟨by omega, by rw [hstep (by omega)]; first | exact hst.set i (B7z _) | exact hst⟩)) : Q := h
theorem B1O (t : Tm) (m : Nat) (G : IM) (cells : List Value) (hts : t.small) (hcnt : D3 t ≤ 4000000) (h6 : (H0 t).length ≤ 60) (hm : m ≤ 4294967296) (hr : B1 G t cells) :
  Fn Tryz.prog 80 [.agg ⟨cells⟩, .int .i64 (m : Int)] [] G (K1 fun G' v => ∃ cu, v = .agg ⟨cu⟩ ∧ B1 G' (P1 t m) cu) := by
 have hlen9 := hr.len
 have hone9 := hr.one
 have hTy := A4k t G cells hts hcnt hr
 have hst0 := A5D t hts
 obtain ⟨L, hL⟩ : ∃ L, H0 t = L := ⟨_, rfl⟩
 have hB : P1 t m = S2 t (P4 m 0 L) := by unfold P1; rw [hL]
 have hml := A2k m L 0
 have hRt := fun G cells p c el hr => B7w t (P4 m 0 L) G cells p c el (Nat.le_of_eq (by rw [hL, hml])) (fun u hu => by rcases A3B m L 0 u hu with rfl | hu; exact A7L; exact hst0 u (by rw [hL]; exact hu)) hcnt hr
 rw [hml] at hRt
 rw [hL] at hTy h6
 refine C1 Tryz.func80 rfl Tryz.ntmps80 Tryz.results80 rfl ?_
 intro w0
 refine A3 ?_
 refine sE (C7 rfl rfl) rfl (fun b3 => ?_)
 refine sE (A7 rfl) rfl (fun b4 => ?_)
 refine B4 ?_
 refine sL (A2 rfl rfl (A9 (by repeat first | exact mH | apply mT)) hlen9) rfl rfl ?_
 (refine U6 rfl hTy rfl rfl (fun v G1 outs hle1 hh => ?_); obtain ⟨p, c, es0, rfl, rfl, hr1⟩ := hh; have hel := hr1.len)
 refine J1 ?_
 refine C0 ?_
 (refine A8o (fun a w hs => hs.slc_ptT (p := p) (c := c) (el := 34) (sz := 2) (n := L.length) (cs := es0.flatten) (by repeat first | exact mH | apply mT)) (fun hq => ?_); refine J0 (fun (x : Nat × List (List Value)) => ⟨[(13, .int .i64 x.1), (12, .int .i64 L.length), (5, .slice p L.length c), (1, .int .i64 (m : Int)), (2, .pointer (some ⟨b3, 0, none⟩)), (4, .pointer (some ⟨b4, 0, none⟩))], [.slc p c 34 2 L.length x.2.flatten, .blk b4 [.int .i64 0, .string ⟨⟨[]⟩⟩, .int .i64 0, .int .i64 0, .slice none 0 0, .int .i64 0, .slice none 0 0, .int .i64 0, .slice none 0 0], .blk b3 cells], G1⟩) (fun x => x.1 ≤ L.length ∧ C9 G1 (P4 m 0 (L.take x.1) ++ L.drop x.1) x.2) (fun x => L.length - x.1) (0, es0) ?_ ?_ ?_)
 (simp only [H6]; exact D2)
 (exact ⟨Nat.zero_le _, by simpa [P4] using hr1⟩)
 (rintro ⟨(i : Nat), es⟩ ⟨hi, hst⟩; simp only [] at hi hst ⊢; have hesl : es.length = L.length := (by have h0 := hst.len; simp only [List.length_append, A2k, List.length_take, List.length_drop] at h0; omega); have hstep := B1D m L i)
 refine A3 ?_
 refine sB (I8 rfl rfl) rfl rfl (fun h29 => ?_) (fun h29 => ?_)
 refine B5 ?_
 refine C0 ?_
 refine J3 ?_
 refine sP (B1J rfl rfl (by omega)) rfl rfl ?_
 refine sQ (B1K rfl rfl) rfl (sB (qE rfl rfl) rfl rfl (fun h50 => ?_) (fun h50 => ?_))
 refine A8 ?_
 refine E8 rfl (A1d 1 _) rfl rfl ?_
 (obtain ⟨g, rfl, hgc⟩ := hq.resolve_left (by omega); refine sP (B6 (j := i) rfl rfl rfl (by omega)) rfl rfl ?_)
 refine B1L rfl rfl rfl rfl rfl rfl (by repeat first | exact Sw.here | apply Sw.there) (B1M (by omega) (fun e he => (hst.each e he).1) rfl) ?_
 refine B4 ?_
 refine sP (H5 rfl rfl (by omega) (by omega)) rfl rfl ?_
 refine A3 ?_
 (rw [if_pos (by omega)] at hstep; refine I1 (i + 1, es.set i [.int .i64 1, .slice none 0 0]) ?_ ?_ ?_)
 (simp only [H6]; exact D2)
 exact A5E
 (show L.length - (i + 1) < L.length - i; omega)
 refine B5 ?_
 refine sP (H5 rfl rfl (by omega) (by omega)) rfl rfl ?_
 refine A3 ?_
 (rw [if_neg (by omega)] at hstep; refine I1 (i + 1, es) ?_ ?_ ?_)
 (simp only [H6]; exact D2)
 exact A5E
 (show L.length - (i + 1) < L.length - i; omega)
 refine J1 ?_
 refine sL (A2 rfl rfl (A9 (by repeat first | exact mH | apply mT)) hlen9) rfl rfl ?_
 refine E3 ?_
 (obtain rfl : i = L.length := (by omega); rw [List.take_length, List.drop_length, List.append_nil] at hst; refine R9 (cs := es.flatten) (by repeat (first | exact Pk.here | apply Pk.there)) (fun G2 hle2 hsl2 hno2 => ?_); refine U6 rfl (hRt G2 cells p c es ((hr.mono hle1).mono hle2) (D7.of hsl2 hesl hst.all (fun e he => (hst.each e he).2)) (hst.mono hle2)) rfl rfl (fun v G3 outs hle3 hh => ?_); obtain ⟨rfl, cu, p3, c3, e3, rfl, hru, hs3, hr3⟩ := hh; rw [← hB] at hru; have hul := hru.len; have huo := hru.one)
 refine B7 ?_
 refine sE (A7 rfl) rfl (fun b102 => ?_)
 refine sS rfl rfl rfl hul huo rfl ?_ (hu := by exact D4 hul.symm)
 refine B0 ?_
 refine sL (A2 rfl rfl (A9 (by repeat first | exact mH | apply mT)) hul) rfl rfl ?_
 refine sS rfl rfl rfl hul huo rfl ?_ (hu := by exact D4 hul.symm)
 refine B7 ?_
 refine M3 (rC rfl (A2 rfl rfl (A9 (by repeat first | exact mH | apply mT)) hul)) ?_
 (exact ⟨rfl, cu, rfl, hru⟩)
def W7 (e : Tm) : Option (List Tm) := if (Q3 e).isSome = true ∧ (H0 e).length ≤ 6 then some (A0b e) else none
def CfP (r : Option (List Tm)) : IM → Value → List A6 → Prop := fun G' v outs => outs = [] ∧ ∃ p c es, v = .tuple ⟨[.slice p (r.getD []).length c, .bool r.isSome]⟩ ∧ D7 G' p (r.getD []).length c 9 es ∧ E1 G' (r.getD []) es
theorem B7A {r : Option (List Tm)} {G' : IM} (h : r = none) : CfP r G' (.tuple ⟨[.slice none 0 0, .bool false]⟩) [] := by
 subst h; exact ⟨rfl, none, 0, [], rfl, D7.nil G' 9, by simp [E1]⟩
theorem B7B {r : Option (List Tm)} {l : List Tm} {G' : IM} {p : Option Addr} {n c : Nat} {es : List (List Value)} (h : r = some l) (hn : n = l.length) (hs : Sl G' p n c 9 es.flatten) (hr : E1 G' l es) : CfP r G' (.tuple ⟨[.slice p n c, .bool true]⟩) [] := by
 subst h hn
 exact ⟨rfl, p, c, es, rfl, D7.of hs hr.len hr.all (fun e he => by obtain ⟨j, hj⟩ := List.getElem?_of_mem he; exact (hr.inv hj K7).2.one), hr⟩
theorem B1P {α : Type} (f : Nat → α) (i : Nat) : (List.range (i + 1)).map f = (List.range i).map f ++ [f i] := by rw [List.range_succ, List.map_append]; rfl
theorem B1Q {Q : Prop} (h : Q := by (exact B7A (hno (fun hc => by first | exact Bool.noConfusion hc.1 | omega)))) : Q := h
theorem B1R (t : Tm) (G : IM) (cells : List Value) (hts : t.small) (hcnt : D3 t ≤ 4000000) (hr : B1 G t cells) :
  Fn Tryz.prog 73 [.agg ⟨cells⟩] [] G (CfP (W7 t)) := by
 have hlen9 := hr.len
 have hone9 := hr.one
 obtain ⟨L, hL⟩ : ∃ L, (H0 t).length = L := ⟨_, rfl⟩
 have hno : ¬ ((Q3 t).isSome = true ∧ L ≤ 6) → W7 t = none := fun h => by unfold W7; rw [hL, if_neg h]
 have hyes : (Q3 t).isSome = true ∧ L ≤ 6 → W7 t = some ((List.range (2 ^ L)).map (P1 t)) := fun h => by unfold W7; rw [hL, if_pos h]; unfold A0b; rw [hL]
 have hLb := A5C t
 generalize W7 t = R at *
 have hTy := fun G hr => A4k t G cells hts hcnt hr
 refine C1 Tryz.func73 rfl Tryz.ntmps73 Tryz.results73 rfl ?_
 intro w0
 refine A3 ?_
 refine sE (C7 rfl rfl) rfl (fun b3 => ?_)
 refine B5 ?_
 refine sL (A2 rfl rfl (A9 (by repeat first | exact mH | apply mT)) hlen9) rfl rfl ?_
 (refine D9 rfl (B6w t G cells hr) rfl rfl (fun v1 G1 hle1 hh => ?_); obtain ⟨ct, u, rfl, hru, _⟩ := hh; obtain ⟨qt, dt, et2, rfl, _⟩ := hru.open; have hr1 := hr.mono hle1; generalize (Q3 t).isSome = A1 at *; cases A1)
 refine B7 ?_
 refine sE (A7 rfl) rfl (fun b16 => ?_)
 refine A3N ?_
 refine E9 (rT rfl) (rT rfl) ?_
 exact B1Q
 refine B7 ?_
 refine sE (A7 rfl) rfl (fun b47 => ?_)
 refine E0 ?_
 refine sL (A2 rfl rfl (A9 (by repeat first | exact mH | apply mT)) hlen9) rfl rfl ?_
 (refine U6 rfl (hTy _ hr1) rfl rfl (fun v2 G2 outs hle2 hh => ?_); obtain ⟨p2, c2, es2, rfl, rfl, hr2⟩ := hh; rw [hL]; have hr3 := hr1.mono hle2)
 refine E3 ?_
 refine sB (W3 rfl rfl) rfl rfl (fun h60 => ?_) (fun h60 => ?_)
 refine K5 ?_
 refine E9 (rT rfl) (rT rfl) ?_
 exact B1Q
 refine J9 ?_
 refine sL (A2 rfl rfl (A9 (by repeat first | exact mH | apply mT)) hlen9) rfl rfl ?_
 (refine U6 rfl (hTy _ hr3) rfl rfl (fun v3 G3 outs hle3 hh => ?_); obtain ⟨p4, c4, es4, rfl, rfl, hr4⟩ := hh; rw [hL]; have hr5 := hr3.mono hle3)
 refine E3 ?_
 refine sP (A2l rfl rfl (by omega)) rfl rfl ?_
 refine B7 ?_
 refine C0 ?_
 (have hp64 : 2 ^ L ≤ 2 ^ 6 := Nat.pow_le_pow_right (by decide) (by omega); have hyy := hyes ⟨rfl, by omega⟩; generalize 2 ^ L = M at *; refine Q9 37 9 ?_; refine J0 (fun (x : Nat × Option Addr × Nat × List (List Value) × IM) => ⟨[(25, .int .i64 x.1), (24, .int .i64 M), (6, .slice x.2.1 x.1 x.2.2.1), (1, .pointer (some ⟨b3, 0, none⟩))], [.slc x.2.1 x.2.2.1 37 9 x.1 x.2.2.2.1.flatten, .blk b3 cells], x.2.2.2.2⟩) (fun x => x.1 ≤ M ∧ C2 G3 x.2.2.2.2 ∧ E1 x.2.2.2.2 ((List.range x.1).map (P1 t)) x.2.2.2.1) (fun x => M - x.1) (0, none, 0, [], G3) ?_ ?_ ?_)
 (simp only [H6]; exact D2)
 exact A2Q
 (rintro ⟨(i : Nat), pn, cn, es, Gi⟩ ⟨hi, hle, hst⟩; simp only [] at hi hle hst ⊢; have hr6 := hr5.mono hle)
 refine A3 ?_
 refine sB (I8 rfl rfl) rfl rfl (fun h103 => ?_) (fun h103 => ?_)
 refine B5 ?_
 refine C0 ?_
 refine D1 ?_
 refine sL (A2 rfl rfl (A9 (by repeat first | exact mH | apply mT)) hlen9) rfl rfl ?_
 refine E3 ?_
 (refine D9 rfl (B1O t i Gi cells hts hcnt (by omega) (by omega) hr6) rfl rfl (fun v7 G7 hle7 hh => ?_); obtain ⟨cu, rfl, hru7⟩ := hh; have hsn := E1.snoc (hst.mono hle7) hru7; have huo := hru7.one; obtain ⟨u1, u2, u3, u4, u5, u6, u7, u8, u9, rfl⟩ : ∃ u1 u2 u3 u4 u5 u6 u7 u8 u9, cu = [u1, u2, u3, u4, u5, u6, u7, u8, u9] := (by obtain ⟨_, _, _, _, _, _, _, _, _, rfl, _⟩ := hru7.open; exact ⟨_, _, _, _, _, _, _, _, _, rfl⟩))
 (refine I3 (D0 rfl rfl rfl (by omega) (by unfold maxLen; omega) rfl) rfl ?_; rintro _ ⟨b123, rfl⟩)
 (refine Y5 rfl rfl rfl rfl rfl (fun _ _ => by repeat (first | exact Sw.here | apply Sw.there)) (M1 (by repeat first | exact mH | apply mT)) rfl (fun u hu => List.all_eq_true.1 huo u hu) (by unfold maxLen; omega) (by omega) rfl (fun p8 c8 => ?_))
 refine B0 ?_
 refine sP (H5 rfl rfl (by omega) (by omega)) rfl rfl ?_
 refine A3 ?_
 (refine I1 (i + 1, p8, c8, es ++ [[u1, u2, u3, u4, u5, u6, u7, u8, u9]], G7) (by simp only [List.flatten_append, List.flatten_cons, List.flatten_nil, List.append_nil]; exact (K2 (by repeat (first | exact D8.nil | refine D8.cons rfl ?_)) (by repeat (first | exact A0.refl | exact A0.nil | refine A0.cons (by repeat (first | exact Pk.here | apply Pk.there)) ?_ | apply A0.drop)))) ?_ ?_)
 (dsimp only; exact ⟨by omega, hle.trans hle7, by rw [B1P]; exact hsn⟩)
 (show M - (i + 1) < M - i; omega)
 refine K0 ?_
 (refine F0 (cs := es.flatten) (by repeat (first | exact Pk.here | apply Pk.there)) (fun G9 hle9 hsl9 hno9 => ?_); obtain rfl : i = M := (by omega))
 refine tT ?_
 refine E9 (rT rfl) (rT rfl) ?_
 (exact B7B hyy (by simp) hsl9 (hst.mono hle9))
def pAt (t : Tm) (label : Int) (l : List Int) : Bool := match tAt t l with
 | some x => decide (x.k = 14 ∧ x.lb = label)
 | none => false
def A7M (t : Tm) (label : Int) : List Int × Bool := match (B3f t).find? (pAt t label) with
 | some l => (l, true)
 | none => ([], false)
def SP1 (G : IM) (l : List Int) (p : Option Addr) (c : Nat) : Prop := Sl G p l.length c 1 (T6 l) ∧ ∀ b ∈ J5 p, G b ≠ none
def CpP (t : Tm) (label : Int) (G : IM) : IM → Value → List A6 → Prop := K1 fun G' v => ∃ p c, v = .tuple ⟨[.slice p (A7M t label).1.length c, .bool (A7M t label).2]⟩ ∧ SP1 (C5 G' G) (A7M t label).1 p c
theorem SP1.nil (G : IM) : SP1 G [] none 0 := ⟨Sl.nil G 1, by simp [J5]⟩
def MsP (r : Option (List Int)) (e : A6) (G : IM) : IM → Value → List A6 → Prop := fun G' v outs => outs = [e] ∧ ∃ p c, v = .tuple ⟨[.slice p (r.getD []).length c, .bool r.isSome]⟩ ∧ SP1 (C5 G' G) (r.getD []) p c
theorem MsP.mk {o : Option (List Tm)} {f : Tm → Int} {r : Option (List Int)} {e : A6} {G G' : IM} {p : Option Addr} {n c : Nat} (hr : r = o.map (List.map f)) (hn : n = (o.getD []).length) (hs : SP1 (C5 G' G) ((o.getD []).map f) p c) : MsP r e G G' (.tuple ⟨[.slice p n c, .bool o.isSome]⟩) [e] := by
 subst hr hn
 refine ⟨rfl, p, c, ?_, ?_⟩
 ·cases o <;> simp
 ·cases o with
  | none => simpa using hs
  | some l => simpa using hs
theorem B7C (t : Tm) (f : Tm → Int) (fid : FuncId) [B8 Tryz.prog fid] (us cs : List Value) (ent : A6) (G : IM) (cells : List Value) (hts : t.small) (hcnt : D3 t ≤ 4000000) (hr : B1 G t cells)
  (hq : ∀ (x : Tm) (G' : IM) (xc : List Value), C2 G G' → x ∈ (W7 t).getD [] → B1 G' x xc → Fn Tryz.prog fid (us ++ [.agg ⟨xc⟩] ++ cs) [ent] G' (fun _ v outs => outs = [ent] ∧ v = .int .i64 (f x))) :
  Fn Tryz.prog 47 [.agg ⟨cells⟩, .func (.func fid) ⟨us⟩ ⟨cs⟩] [ent] G (MsP ((W7 t).map (List.map f)) ent G) := by
 have hlen9 := hr.len
 have hone9 := hr.one
 have hC := B1R t G cells hts hcnt hr
 obtain ⟨R, hR⟩ : ∃ R, (W7 t).map (List.map f) = R := ⟨_, rfl⟩
 rw [hR]
 have hk64 : ((W7 t).getD []).length ≤ 64 := by
  unfold W7
  split
  ·rename_i h
   have : 2 ^ (H0 t).length ≤ 2 ^ 6 := Nat.pow_le_pow_right (by decide) h.2
   simp only [Option.getD_some, A0b, List.length_map, List.length_range]; omega
  ·simp
 generalize W7 t = C at *
 obtain ⟨l, hl⟩ : ∃ l, C.getD [] = l := ⟨_, rfl⟩
 refine C1 Tryz.func47 rfl Tryz.ntmps47 Tryz.results47 rfl ?_
 intro w0
 refine A3 ?_
 refine sE (C7 rfl rfl) rfl (fun b3 => ?_)
 refine A8 ?_
 refine sL (A2 rfl rfl (A9 (by repeat first | exact mH | apply mT)) (by assumption)) rfl rfl ?_
 (refine U6 rfl hC rfl rfl (fun v1 G1 outs hle1 hh => ?_); obtain ⟨rfl, p1, c1, e1, rfl, hs1, hr1⟩ := hh; rw [hl] at hs1 hr1 hk64 hq ⊢)
 refine A0e ?_
 refine C0 ?_
 (refine Q9 3 1 ?_; refine J0 (fun (x : Nat × Option Addr × Nat × IM) => ⟨[(18, .int .i64 x.1), (17, .int .i64 l.length), (16, .slice p1 l.length c1), (8, .slice x.2.1 x.1 x.2.2.1), (7, .bool C.isSome), (1, .func (.func fid) ⟨us⟩ ⟨cs⟩)], [.slc x.2.1 x.2.2.1 3 1 x.1 (T6 ((l.take x.1).map f)), ent], x.2.2.2⟩) (fun x => x.1 ≤ l.length ∧ C2 G1 x.2.2.2) (fun x => l.length - x.1) (0, none, 0, G1) ?_ ?_ ?_)
 (simp only [H6]; exact D2)
 (exact ⟨Nat.zero_le _, C2.refl _⟩)
 (rintro ⟨(i : Nat), pn, cn, Gi⟩ ⟨hi, hle⟩; simp only [] at hi hle ⊢)
 refine A3 ?_
 refine sB (I8 rfl rfl) rfl rfl (fun h39 => ?_) (fun h39 => ?_)
 refine B5 ?_
 refine C0 ?_
 refine A3 ?_
 (obtain ⟨b, o, e, rfl, hel, hat, hre, hgb⟩ := (hs1.mono hle).kidTm (hr1.mono hle) (i := i) (by omega) (by omega); have heo := hre.one; refine sP (B6 rfl rfl rfl (by omega)) rfl rfl ?_)
 refine sL (A2 rfl rfl (hat _) hel) rfl rfl ?_
 refine sE (A7 rfl) rfl (fun b52 => ?_)
 refine sS rfl rfl rfl hel heo rfl ?_ (hu := by exact D4 hel.symm)
 refine B0 ?_
 refine sL (A2 rfl rfl (A9 (by repeat first | exact mH | apply mT)) hel) rfl rfl ?_
 (refine I3 (A4x rfl rfl (hq l[i] Gi e (hle1.trans hle) (List.getElem_mem (by omega)) hre) (Pk.perm (by repeat (first | exact Pk.here | apply Pk.there))) rfl) rfl ?_; rintro _ ⟨v, G7, outs, rfl, hle7, rfl, rfl⟩)
 (refine I3 (D0 rfl rfl rfl (by omega) (by unfold maxLen; omega) rfl) rfl ?_; rintro _ ⟨b61, rfl⟩)
 (refine Y5 rfl rfl rfl rfl rfl (fun _ _ => by repeat (first | exact Sw.here | apply Sw.there)) (M1 (by repeat first | exact mH | apply mT)) rfl (by simp [Value.oneCell']) (by unfold maxLen; omega) (by omega) rfl (fun p8 c8 => ?_))
 refine B0 ?_
 refine sP (H5 rfl rfl (by omega) (by omega)) rfl rfl ?_
 refine A3 ?_
 (refine I1 (i + 1, p8, c8, G7) (by rw [List.take_succ_eq_append_getElem (by omega), List.map_append, List.map_cons, List.map_nil, A4I]; exact (K2 (by repeat (first | exact D8.nil | refine D8.cons rfl ?_)) (by repeat (first | exact A0.refl | exact A0.nil | refine A0.cons (by repeat (first | exact Pk.here | apply Pk.there)) ?_ | apply A0.drop)))) ?_ ?_)
 (dsimp only; exact ⟨by omega, hle.trans hle7⟩)
 (show l.length - (i + 1) < l.length - i; omega)
 refine Q5 ?_
 (obtain rfl : i = l.length := (by omega); rw [List.take_length]; refine F0 (cs := T6 (l.map f)) (by repeat (first | exact Pk.here | apply Pk.there)) (fun G9 hle9 hsl9 hno9 => ?_))
 refine tT ?_
 refine B2X (outs := [ent]) (rT rfl) (rT rfl) (A0.cons (by repeat (first | exact Pk.here | apply Pk.there)) A0.nil) ?_
 (exact MsP.mk hR.symm (by rw [hl]) (by rw [hl]; exact ⟨by rw [List.length_map]; exact hsl9.dif (fun b hb => (hno9 b hb).1) (hle1.trans hle), fun b hb => A28 (hle1.trans hle) (hno9 b hb)⟩))
def P9 (e : Tm) (fuel : Int) : Option (List Int) := if O7 fuel 0 300 = true then (W7 e).map (List.map fun x => (O2 x fuel).2.1) else none
def IsP (l : List Int) (b : Bool) (G : IM) : IM → Value → List A6 → Prop := K1 fun G' v => ∃ p c, v = .tuple ⟨[.slice p l.length c, .bool b]⟩ ∧ SP1 (C5 G' G) l p c
theorem IsP.mk {l l' : List Int} {b b' : Bool} {n : Nat} {G G' : IM} {p : Option Addr} {c : Nat} (hl : l = l') (hb : b = b') (hn : n = l.length) (h : SP1 (C5 G' G) l p c) : IsP l' b' G G' (.tuple ⟨[.slice p n c, .bool b]⟩) [] := by
 subst hl hb hn; exact ⟨rfl, p, c, rfl, h⟩
theorem A7N (e : Tm) (fuel : Int) (G : IM) (cells : List Value) (hT : X1 G) (hr : B1 G e cells) : Fn Tryz.prog 49 [.agg ⟨cells⟩, .int .i64 fuel] [] G (K1 fun _ v => v = .int .i64 (O2 e fuel).2.1) := by
 have hl := hr.len
 have hone := hr.one
 obtain ⟨s, c, l, hR⟩ : ∃ s c l, O2 e fuel = (s, c, l) := ⟨_, _, _, rfl⟩
 have hI := A3y e fuel G cells hT hr
 rw [hR] at hI ⊢
 refine C1 Tryz.func49 rfl Tryz.ntmps49 Tryz.results49 rfl ?_
 intro w0
 refine A3 ?_
 refine sE (C7 rfl rfl) rfl (fun b3 => ?_)
 refine B0 ?_
 refine sL (A2 rfl rfl (A9 (by repeat first | exact mH | apply mT)) hl) rfl rfl ?_
 refine E3 ?_
 (refine D9 rfl hI rfl rfl (fun v2 G2 hle2 hh => ?_); replace hh : v2 = .tuple ⟨[.string s, .int .i64 c, .int .i64 l]⟩ := hh; subst hh)
 refine Q5 ?_
 exact ⟨rfl, rfl⟩
theorem B7D (x : Tm) (fuel : Int) (G : IM) (xc : List Value) (b : Nat) (hT : X1 G) (hr : B1 G x xc) : Fn Tryz.prog 48 [.agg ⟨xc⟩, .pointer (some ⟨b, 0, none⟩)] [.blk b [.int .i64 fuel]] G (fun _ v outs => outs = [.blk b [.int .i64 fuel]] ∧ v = .int .i64 (O2 x fuel).2.1) := by
 have hl := hr.len
 have hone := hr.one
 have hI := A7N x fuel G xc hT hr
 refine C1 Tryz.func48 rfl Tryz.ntmps48 Tryz.results48 rfl ?_
 intro w0
 refine A3 ?_
 refine sE (C7 rfl rfl) rfl (fun b3 => ?_)
 refine B0 ?_
 refine sL (A2 rfl rfl (A9 (by repeat first | exact mH | apply mT)) hl) rfl rfl ?_
 refine E3 ?_
 (refine D9 rfl hI rfl rfl (fun v2 G2 hle2 hh => ?_); subst hh)
 refine B4 ?_
 refine H9 (outs := [.blk b [.int .i64 fuel]]) (rT rfl) (by repeat (first | exact A0.nil | refine A0.cons Pk.here ?_ | refine A0.cons (Pk.there Pk.here) ?_ | refine A0.cons (Pk.there (Pk.there Pk.here)) ?_ | apply A0.drop)) ?_
 exact ⟨rfl, rfl⟩
theorem A7O (e : Tm) (fuel : Int) (G : IM) (cells : List Value) (hts : e.small) (hcnt : D3 e ≤ 4000000) (hT : X1 G) (hr : B1 G e cells) :
  Fn Tryz.prog 14 [.agg ⟨cells⟩, .int .i64 fuel] [] G (IsP ((P9 e fuel).getD []) (P9 e fuel).isSome G) := by
 have hl := hr.len
 have hone := hr.one
 have hno : O7 fuel 0 300 = false → P9 e fuel = none := fun h => by unfold P9; rw [if_neg (by rw [h]; decide)]
 have hyes : O7 fuel 0 300 = true → P9 e fuel = (W7 e).map (List.map fun x => (O2 x fuel).2.1) := fun h => by unfold P9; rw [if_pos h]
 generalize P9 e fuel = R at *
 refine C1 Tryz.func14 rfl Tryz.ntmps14 Tryz.results14 rfl ?_
 intro w0
 refine A3 ?_
 refine sE (C7 rfl rfl) rfl (fun b3 => ?_)
 (refine I3 (A8f rfl rfl rfl) rfl ?_; rintro _ ⟨b4, rfl⟩)
 refine D1 ?_
 refine F4 rfl (A7g fuel _) rfl rfl (fun h13 => ?_) (fun h13 => ?_)
 refine D1 ?_
 refine sL (A2 rfl rfl (A9 (by repeat first | exact mH | apply mT)) hl) rfl rfl ?_
 refine sQ (A2q rfl rfl) rfl ?_
 (have hy2 := hyes (by assumption); refine J2 rfl (B7C e (fun x => (O2 x fuel).2.1) 48 [] [.pointer (some ⟨b4, 0, none⟩)] (.blk b4 [.int .i64 fuel]) G cells hts hcnt hr (fun x G' xc hle _ hrx => B7D x fuel G' xc _ (hT.mono hle) hrx)) (Pk.perm (by repeat (first | exact Pk.here | apply Pk.there))) rfl rfl (fun v3 G3 outs hle3 hh => ?_); obtain ⟨rfl, p, c, rfl, hsp⟩ := hh; rw [← hy2] at hsp ⊢)
 refine B5 ?_
 refine E9 (rT rfl) (rT rfl) ?_
 exact IsP.mk rfl rfl rfl hsp
 refine K5 ?_
 refine E9 (rT rfl) (rT rfl) ?_
 exact IsP.mk (by rw [hno (by assumption)]; rfl) (by rw [hno (by assumption)]; rfl) rfl (SP1.nil _)
theorem B1.nine {G : IM} {t : Tm} {cells : List Value} (h : B1 G t cells) : ∃ v1 v2 v3 v4 v5 v6 v7 v8 v9, cells = [v1, v2, v3, v4, v5, v6, v7, v8, v9] := by
 obtain ⟨_, _, _, _, _, _, _, _, _, rfl, _⟩ := h.open
 exact ⟨_, _, _, _, _, _, _, _, _, rfl⟩
theorem A4l {G : IM} {e : Tm} {ce : List Value} {k : Int} {nm : ByteArray} {tk : Int} {tks : List Ty} {q p : Option Addr} {d c : Nat} (hk : F8 k) (ht : C3 G (.mk tk tks) [.int .i64 tk, .slice q tks.length d]) (h1 : B1 G e ce) (hs : Sl G p 1 c 9 ce) :
  B1 G (.mk k nm 0 (.mk tk tks) B3 0 [e]) [.int .i64 k, .string nm, .int .i64 0, .int .i64 tk, .slice q tks.length d, .int .i64 0, .slice none 0 0, .int .i64 0, .slice p 1 c] := by
 obtain ⟨a1, a2⟩ := A2C h1 hs
 exact B1.of9 (ks := [e]) hk ⟨by omega, by omega⟩ ⟨by omega, by omega⟩ ht (O1 _ ⟨by omega, by omega⟩) a1 a2
theorem A4m {G : IM} {e f : Tm} {ce cf : List Value} {k : Int} {nm : ByteArray} {p : Option Addr} {c : Nat} (hk : F8 k) (h1 : B1 G e ce) (h2 : B1 G f cf) (hs : Sl G p 2 c 9 (ce ++ cf)) :
  B1 G (.mk k nm 0 B3 B3 0 [e, f]) [.int .i64 k, .string nm, .int .i64 0, .int .i64 0, .slice none 0 0, .int .i64 0, .slice none 0 0, .int .i64 0, .slice p 2 c] := by
 have hL : E1 G [e, f] [ce, cf] := by simp only [E1]; exact ⟨ce, [cf], rfl, h1, cf, [], rfl, h2, rfl⟩
 exact B1.of9 (ks := [e, f]) hk ⟨by omega, by omega⟩ ⟨by omega, by omega⟩ (O1 _ ⟨by omega, by omega⟩) (O1 _ ⟨by omega, by omega⟩)
  (D7.of (by simpa using hs) rfl hL.all (fun x hx => by obtain ⟨q, hq⟩ := List.getElem?_of_mem hx; exact (hL.inv hq K7).2.one)) hL
theorem B7E {G : IM} {e f g : Tm} {ce cf cg : List Value} {k : Int} {nm : ByteArray} {p : Option Addr} {c : Nat} (hk : F8 k) (h1 : B1 G e ce) (h2 : B1 G f cf) (h3 : B1 G g cg) (hs : Sl G p 3 c 9 (ce ++ (cf ++ cg))) :
  B1 G (.mk k nm 0 B3 B3 0 [e, f, g]) [.int .i64 k, .string nm, .int .i64 0, .int .i64 0, .slice none 0 0, .int .i64 0, .slice none 0 0, .int .i64 0, .slice p 3 c] := by
 have hL : E1 G [e, f, g] [ce, cf, cg] := by simp only [E1]; exact ⟨ce, [cf, cg], rfl, h1, cf, [cg], rfl, h2, cg, [], rfl, h3, rfl⟩
 exact B1.of9 (ks := [e, f, g]) hk ⟨by omega, by omega⟩ ⟨by omega, by omega⟩ (O1 _ ⟨by omega, by omega⟩) (O1 _ ⟨by omega, by omega⟩)
  (D7.of (by simpa using hs) rfl hL.all (fun x hx => by obtain ⟨q, hq⟩ := List.getElem?_of_mem hx; exact (hL.inv hq K7).2.one)) hL
def mB : Nat → Nat
 | 0 => 200
 | n + 1 => 3 * mB n + 200
theorem A1z (n : Nat) : 200 ≤ mB n := by cases n <;> simp only [mB] <;> omega
def A1A (n : Nat) (depth : Int) (t : Ty) : Prop := Q6 4 t ∧ (n : Int) - 1000 ≤ depth ∧ depth ≤ 1000 ∧ ((depth ≤ 1 ∧ Q6 n t) ∨ (2 ≤ depth ∧ depth + 3 ≤ n))
theorem A1A.sub {n : Nat} {depth : Int} {t t' : Ty} (h : A1A (n + 1) depth t) (hd : 1 < depth) (h4 : Q6 4 t') : A1A n (depth - 1) t' := by
 obtain ⟨h1, h2, h3, h5⟩ := h
 refine ⟨h4, by omega, by omega, ?_⟩
 rcases h5 with ⟨h5, _⟩ | ⟨h5, h6⟩
 ·omega
 ·by_cases h7 : 3 ≤ depth
  ·exact .inr ⟨by omega, by omega⟩
  ·exact .inl ⟨by omega, h4.le (by omega)⟩
theorem A1A.kid {n : Nat} {depth : Int} {k : Int} {ks : List Ty} {t' : Ty} (h : A1A (n + 1) depth (.mk k ks)) (ht : t' ∈ ks) : A1A n (depth - 1) t' := by
 have h4 : Q6 4 t' := (A6u h.1 ht).up
 by_cases hd : 1 < depth
 ·exact h.sub hd h4
 ·obtain ⟨h1, h2, h3, h5⟩ := h
  refine ⟨h4, by omega, by omega, .inl ⟨by omega, ?_⟩⟩
  rcases h5 with ⟨_, h5⟩ | ⟨h5, _⟩
  ·exact A6u h5 ht
  ·omega
theorem A1A.pos {n : Nat} {depth : Int} {k : Int} {ks : List Ty} (h : A1A n depth (.mk k ks)) (hd : 1 < depth ∨ k = 4 ∨ k = 5) : ∃ m, n = m + 1 := by
 cases n with
 | succ m => exact ⟨m, rfl⟩
 | zero =>
  obtain ⟨h1, h2, h3, h5⟩ := h
  rcases h5 with ⟨h5, h6⟩ | ⟨h5, h6⟩
  ·have := h6.2
   omega
  ·omega
theorem Q0 : B3.small := by simp [B3, Ty.small, Ty.smallL]
theorem O3 {k : Int} {nm : ByteArray} {num : Int} (h : nm.size ≤ 1) : (Tm.mk k nm num B3 B3 0 []).small := by
 simp only [Tm.small, Tm.smallL]; exact ⟨by omega, Q0, Q0, by simp, trivial⟩
theorem L0 {k : Int} {nm : ByteArray} {num : Int} {ty : Ty} {a : Tm} (h : nm.size ≤ 1) (ht : ty.small) (ha : a.small) : (Tm.mk k nm num ty B3 0 [a]).small := by
 simp only [Tm.small, Tm.smallL]; exact ⟨by omega, ht, Q0, by simp, ha, trivial⟩
theorem T1 {k : Int} {nm : ByteArray} {num : Int} {a b : Tm} (h : nm.size ≤ 1) (ha : a.small) (hb : b.small) : (Tm.mk k nm num B3 B3 0 [a, b]).small := by
 simp only [Tm.small, Tm.smallL]; exact ⟨by omega, Q0, Q0, by simp, ha, hb, trivial⟩
theorem A0G {k : Int} {nm : ByteArray} {num : Int} {a b c : Tm} (h : nm.size ≤ 1) (ha : a.small) (hb : b.small) (hc : c.small) : (Tm.mk k nm num B3 B3 0 [a, b, c]).small := by
 simp only [Tm.small, Tm.smallL]; exact ⟨by omega, Q0, Q0, by simp, ha, hb, hc, trivial⟩
theorem A0H : (Ty.mk 1 []).small := by simp [Ty.small, Ty.smallL]
def B1S (br : Nat) (pb : Option Addr) (nb cb : Nat) (bs : List UInt8) (n : Nat) : Prop := ∀ (depth : Int) (t : Ty) (p : Nat) (G : IM) (pc : Option Addr) (nc cc : Nat) (cells : List Value), A1A n depth t → (n : Int) - 1000 ≤ depth → depth ≤ 1000 → nc + n ≤ 40 → X9 G pc nc cc → C3 G t cells → Sl G pb nb cb 1 (M7 bs) → p + mB n < 1099511627776 →
 Fn Tryz.prog 124 [.pointer (some ⟨br, 0, none⟩), .slice pc nc cc, .agg ⟨cells⟩, .int .i64 depth] [rd br pb nb cb p] G
  (A0h br pb nb cb p (mB n) (fun G' v => ∃ e cells, v = .agg ⟨cells⟩ ∧ B1 G' e cells ∧ e.small ∧ D3 e ≤ mB n))
theorem B1T (br : Nat) (pb : Option Addr) (nb cb : Nat) (bs : List UInt8) (hnb : nb ≤ 2000) (m : Nat) (hM : B1S br pb nb cb bs m) (depth : Int) (a t : Ty) (p : Nat) (G : IM) (pc : Option Addr) (nc cc : Nat) (ca cells : List Value)
  (hfu : A1A m depth t) (hd0 : (m : Int) - 1000 ≤ depth) (hd1 : depth ≤ 1000) (hnc : nc + 1 + m ≤ 40) (hx : X9 G pc nc cc) (hra : C3 G a ca) (haa : F9 a ∧ K6 a ≤ 30) (hrt : C3 G t cells) (hb : Sl G pb nb cb 1 (M7 bs)) (hp : p + 1 + mB m < 1099511627776) :
  Fn Tryz.prog 166 [.pointer (some ⟨br, 0, none⟩), .slice pc nc cc, .agg ⟨ca⟩, .agg ⟨cells⟩, .int .i64 depth] [rd br pb nb cb p] G
   (A0h br pb nb cb p (1 + mB m) (fun G' v => ∃ e cells, v = .agg ⟨cells⟩ ∧ B1 G' e cells ∧ e.small ∧ D3 e ≤ 1 + mB m)) := by
 obtain ⟨ak, aks⟩ := a
 obtain ⟨tk, tks⟩ := t
 obtain ⟨pa, cca, ea, rfl, _⟩ := hra.open
 obtain ⟨pt, cct, et, rfl, _⟩ := hrt.open
 simp only [Ty.k, Ty.ks] at hra hrt ⊢
 refine C1 Tryz.func166 rfl Tryz.ntmps166 Tryz.results166 rfl ?_
 intro w0
 refine A3 ?_
 refine sE (C7 rfl rfl) rfl (fun b3 => ?_)
 refine sE (C7 rfl rfl) rfl (fun b4 => ?_)
 refine sE (A7 rfl) rfl (fun b5 => ?_)
 refine B0 ?_
 (refine I3 (D0 rfl rfl rfl (by omega) (by unfold maxLen; omega) rfl) rfl ?_; rintro _ ⟨b11, rfl⟩)
 (refine R9 (by repeat (first | exact Pk.here | apply Pk.there)) (fun G4 hle4 hsl4 _ => ?_); refine J2 rfl (A6H G4 br pb nb cb p bs _ _ _ _ (hb.mono hle4) hnb (by omega) hsl4 (by decide)) (Pk.perm (by repeat (first | exact Pk.here | apply Pk.there))) rfl rfl (fun v G5 outs hle5 hh => ?_); obtain ⟨rfl, rfl, hv⟩ := hh; obtain ⟨nm, rfl, hnm⟩ : ∃ nm : ByteArray, v = .string nm ∧ nm.size ≤ 1 := (by simp only [List.mem_cons, List.not_mem_nil, or_false] at hv; rcases hv with rfl | rfl | rfl | rfl <;> exact ⟨_, rfl, by decide⟩); replace hra := hra.mono hle4; replace hx := hx.mono hle4; replace hb := hb.mono hle4; replace hrt := hrt.mono hle4;)
 refine B4 ?_
 refine E2 E4 rfl ?_
 refine J4 (i := 0) (l' := [tt,ff,ff,ff,ff,ff,ff,ff,ff,ff,ff,ff,ff,ff]) rfl D6 (qM rfl) rfl (by kernel_rfl) rfl rfl ?_
 refine aL 1 rfl (A5 rfl rfl) rfl ?_
 refine aP 3 rfl (qM rfl) rfl ?_
 refine aP 4 rfl (qM rfl) rfl ?_
 refine aP 5 rfl (qM rfl) rfl ?_
 refine aL 6 rfl (A5 rfl rfl) rfl ?_
 refine aL 8 rfl (A5 rfl rfl) rfl ?_
 refine aP 9 rfl (qM rfl) rfl ?_
 refine A4 2 ?_
 (refine H7 rfl rfl (P7 _ _ _ haa.1.small hra) rfl rfl rfl (fun v G6 hle6 hh => ?_); obtain ⟨cs1, F1, rfl, hs1, hn1⟩ := hh; obtain ⟨p1, c1, rfl, _⟩ := hs1.open; have hr1 := hs1.R.mono (C5.le G6 _); replace hra := hra.mono hle6; replace hx := hx.mono hle6; replace hb := hb.mono hle6; replace hrt := hrt.mono hle6;)
 refine A4 7 ?_
 (refine H7 rfl rfl (B4n _ pc nc cc nm (.mk ak aks) _ hx (by omega) hra haa.1 haa.2 hnm) rfl rfl rfl (fun v G7 hle7 hh => ?_); obtain ⟨pm, cm, rfl, hxm⟩ := hh; replace hr1 := hr1.mono hle7; replace hx := hx.mono hle7; replace hb := hb.mono hle7; replace hrt := hrt.mono hle7; have hcall := hM depth (.mk tk tks) (p + 1) _ pm (nc + 1) cm _ hfu hd0 hd1 (by omega) hxm hrt hb (by omega))
 refine A4 10 ?_
 (refine Y9 (l' := [tt,tt,tt,tt,tt,tt,tt,tt,tt,tt,tt,ff,ff,ff]) rfl rfl hcall (Pk.perm (by repeat (first | exact Pk.here | apply Pk.there))) rfl rfl rfl (by repeat (first | exact B2.nil | apply B2.dep (by decide +kernel) | apply B2.blk (by decide +kernel) (by repeat (first | exact Pk.here | apply Pk.there)) (by repeat first | exact mH | apply mT))) (fun v G8 outs hle8 hh => ?_); obtain ⟨p8, hp81, hp82, rfl, e8, c8, rfl, hr8, hs8, hc8⟩ := hh; obtain ⟨a1, a2, a3, a4, a5, a6, a7, a8, a9, rfl⟩ := hr8.nine; replace hr1 := hr1.mono hle8)
 refine A4 11 ?_
 (refine E5 rfl (D0 rfl rfl rfl (by omega) (by unfold maxLen; omega) rfl) rfl rfl ?_; rintro _ ⟨b33, rfl⟩)
 refine aP 12 rfl (X0 rfl rfl) rfl ?_
 refine A4 13 ?_
 refine R5 rfl rfl rfl rfl rfl rfl rfl rfl (by decide +kernel) (by repeat first | exact Sw.here | apply Sw.there) (by rfl) ?_
 refine A3 ?_
 (refine F0 (cs := [a1, a2, a3, a4, a5, a6, a7, a8, a9]) (by repeat (first | exact Pk.here | apply Pk.there)) (fun G9 hle9 hsl9 hno9 => ?_); have hN := A4l (k := 5) (nm := nm) ⟨by omega, by omega⟩ (hr1.mono hle9) (hr8.mono hle9) hsl9)
 refine tT ?_
 refine H9 (outs := [rd br pb nb cb p8]) (rC rfl (A5 rfl rfl)) (by repeat (first | exact A0.nil | refine A0.cons Pk.here ?_ | refine A0.cons (Pk.there Pk.here) ?_ | refine A0.cons (Pk.there (Pk.there Pk.here)) ?_ | apply A0.drop)) ?_
 (exact ⟨p8, by omega, by omega, rfl, _, _, rfl, hN, L0 hnm haa.1.small hs8, by simp only [D3, E7]; omega⟩)
structure A4n {ι : Type} (S : ι → Sy) (φ : ι → Prop) (K : Po) (e : Exit) (σ : Sy) : Prop where
 run : match e with
  | .normal => ∃ i, φ i ∧ Sub σ (S i)
  | e => K e σ
section cut
variable {P : Program} {Γ : L7} {K : Po} {σ : Sy} {ι : Type}
theorem B1U {c y : Code} (S : ι → Sy) (φ : ι → Prop) (h : J6 P Γ c (A4n S φ K) σ) (k : ∀ i, φ i → J6 P Γ y K (S i)) : J6 P Γ c (A01 P Γ y K) σ := by
 refine A5T h ?_
 rintro e σ ⟨hk⟩
 cases e with
 | normal => obtain ⟨i, hi, hs⟩ := hk; exact ⟨A76 hs (k i hi)⟩
 | _ => exact ⟨hk⟩
theorem A4o {S : ι → Sy} {φ : ι → Prop} {σ : Sy} (i : ι) (hs : Sub σ (S i)) (h : φ i) : A4n S φ K .normal σ := ⟨⟨i, h, hs⟩⟩
theorem A00 {S : ι → Sy} {φ : ι → Prop} {σ : Sy} (h : K .ret σ) : A4n S φ K .ret σ := ⟨h⟩
theorem B7F {S : ι → Sy} {φ : ι → Prop} (h : Z3 K) : Z3 (A4n S φ K) := fun c σ hk => h c σ hk.run
instance npC6 {S : ι → Sy} {φ : ι → Prop} [h : NpC K] : NpC (A4n S φ K) := ⟨B7F h.h⟩
end cut
theorem A2m (G : IM) (nm : ByteArray) (num : Int) {k : Int} (hk : F8 k) (hn : F8 num) : B1 G (.mk k nm num B3 B3 0 []) [.int .i64 k, .string nm, .int .i64 num, .int .i64 0, .slice none 0 0, .int .i64 0, .slice none 0 0, .int .i64 0, .slice none 0 0] := A1S hk hn
theorem C3.kidsM {G : IM} {k : Int} {ks : List Ty} {q : Option Addr} {c : Nat} (h : C3 G (.mk k ks) [.int .i64 k, .slice q ks.length c]) : ∃ es, D7 G q ks.length c 2 es ∧ C9 G ks es := by
 obtain ⟨q', c', es, he, _, h1, h2⟩ := h.open
 cases he
 exact ⟨es, h1, h2⟩
theorem A7P {Q : Prop} (h : Q := by (dsimp only; exact ⟨by omega, hleL.trans hle2, by omega, by omega⟩)) : Q := h
theorem B1V (br : Nat) (pb : Option Addr) (nb cb : Nat) (bs : List UInt8) (hnb : nb ≤ 2000) : ∀ n, B1S br pb nb cb bs n := by
 refine fun n => Nat.strongRecOn n fun n ih depth t p G pc nc cc cells hfu hd0 hd1 hnc hx hrt hb hp => ?_
 have hge := A1z n
 have har := hfu.1.ar
 have hszt := A4V hfu.1
 have hnn := A1b t
 have hncl := hx.le
 obtain ⟨k, ks⟩ := t
 obtain ⟨q, c, es, rfl, hk, _, _⟩ := hrt.open
 simp only [Ty.k, Ty.ks] at hk hrt ⊢
 have hsz30 : K6 (.mk k ks) ≤ 30 := hszt
 have hops : k = 4 ∨ k = 5 → ks.length = 2 := by have h2 := har; rw [F9] at h2; exact h2.1
 refine C1 Tryz.func124 rfl Tryz.ntmps124 Tryz.results124 rfl ?_
 intro w0
 refine A3 ?_
 refine sE (C7 rfl rfl) rfl (fun b3 => ?_)
 refine sE (A7 rfl) rfl (fun b4 => ?_)
 refine B5 ?_
 refine sP (O9 rfl rfl (by omega) (by omega)) rfl rfl ?_
 refine B7 ?_
 refine C0 ?_
 (refine J0 (fun (x : Nat × Nat × IM) => ⟨(9, .int .i64 ((x.1 : Int) - 1)) :: [(0, .pointer (some ⟨br, 0, none⟩)), (1, .slice pc nc cc), (3, .int .i64 depth), (6, .pointer (some ⟨b3, 0, none⟩)), (8, .pointer (some ⟨b4, 0, none⟩))], [rd br pb nb cb x.2.1, .blk b4 [.int .i64 0, .string ⟨⟨[]⟩⟩, .int .i64 0, .int .i64 0, .slice none 0 0, .int .i64 0, .slice none 0 0, .int .i64 0, .slice none 0 0], .blk b3 [.int .i64 k, .slice q ks.length c]], x.2.2⟩) (fun x => x.1 ≤ nc ∧ C2 G x.2.2 ∧ p ≤ x.2.1 ∧ x.2.1 + x.1 ≤ p + nc) (fun x => x.1) (nc, p, G) ?_ ?_ ?_)
 (simp only [H6]; exact D2)
 (exact ⟨Nat.le_refl _, C2.refl _, Nat.le_refl _, Nat.le_refl _⟩)
 (rintro ⟨(i : Nat), (p1 : Nat), G1⟩ ⟨hi, hleL, hpL, hpL2⟩; simp only [] at hi hleL hpL hpL2 ⊢; replace hx := hx.mono hleL; replace hb := hb.mono hleL; replace hrt := hrt.mono hleL;)
 refine B4 ?_
 refine sB (A0I rfl rfl) rfl rfl (fun h25 => ?_) (fun h25 => ?_)
 refine A8 ?_
 (show J6 _ _ (.block 1 ..) _ _; obtain ⟨j, rfl⟩ : ∃ j, i = j + 1 := ⟨i - 1, by omega⟩; rw [show ((j + 1 : Nat) : Int) - 1 = (j : Int) from by omega]; obtain ⟨b, o, nm1, t1, qq1, dd1, rfl, hat, hr1, ha1, hs1, hgb, hns1⟩ := hx.get (i := j) (by omega); refine C0 ?_)
 refine B0 ?_
 refine sP (B6 (j := j) rfl rfl rfl (by omega)) rfl rfl ?_
 refine E3 ?_
 refine sL (T3 rfl rfl ((hat _).sub (j := 0) rfl)) rfl rfl ?_
 (refine D9 rfl (B4l _ _ nc cc nm1 hx) rfl rfl (fun v G2 hle2 hh => ?_); obtain ⟨ts, tcs, xs, rfl, hrs, has, hss⟩ := hh; obtain ⟨ps, cs, ess, rfl, _⟩ := hrs.open; obtain ⟨b, o, nm1, t1, qq1, dd1, hpp, hat, hr1, ha1, hs1, hgb, hns1⟩ := (hx.mono hle2).get (i := j) (by omega); cases hpp; replace hx := hx.mono hle2; replace hb := hb.mono hle2; replace hrt := hrt.mono hle2;)
 refine B7 ?_
 refine sE (A7 rfl) rfl (fun b45 => ?_)
 refine B5 ?_
 (have hinloop := hrs; refine J2 rfl (Y6 _ br pb nb cb (p1) bs 3 hb hnb (by omega)) (Pk.perm (by repeat (first | exact Pk.here | apply Pk.there))) rfl rfl (fun v Gp outs hle53 hh => ?_); obtain ⟨rfl, rfl, j53, rfl, hj53, hk53⟩ := hh; have hinl := hj53)
 replace hrs := hrs.mono hle53
 replace hr1 := hr1.mono hle53
 replace hb := hb.mono hle53
 replace hrt := hrt.mono hle53
 replace hinloop := hinloop.mono hle53
 refine sB (qE rfl rfl) rfl rfl (fun h54 => ?_) (fun h54 => ?_)
 refine A3 ?_
 refine F4 rfl ((A1O ts _ _ hrs)) rfl rfl (fun h57 => ?_) (fun h57 => ?_)
 refine B4 ?_
 refine F4 rfl ((A1T ts (.mk k ks) _ _ _ has har hrs hrt)) rfl rfl (fun h62 => ?_) (fun h62 => ?_)
 refine D1 ?_
 refine sP (B6 (j := j) rfl rfl rfl (by omega)) rfl rfl ?_
 refine E3 ?_
 refine sL (T3 rfl rfl ((hat _).sub (j := 0) rfl)) rfl rfl ?_
 refine J3 ?_
 refine H9 (outs := [rd br pb nb cb (p1 + 1)]) (rC rfl (A5 rfl rfl)) (by repeat (first | exact A0.nil | refine A0.cons Pk.here ?_ | refine A0.cons (Pk.there Pk.here) ?_ | refine A0.cons (Pk.there (Pk.there Pk.here)) ?_ | apply A0.drop)) ?_
 (exact ⟨(p1 + 1), by omega, by omega, rfl, _, _, rfl, A2m _ _ _ ⟨by omega, by omega⟩ (by first | exact ⟨by omega, by omega⟩ | exact hkn), by first | exact O3 (by first | assumption | decide) | exact A0G (by decide) (by assumption) (by assumption) (by assumption) | exact T1 (by decide) (by assumption) (by assumption) | exact L0 (by decide) Q0 (by assumption) | exact L0 (by decide) har.small (by assumption) | exact L0 (by decide) Q0 (T1 (by decide) (by assumption) (O3 (by decide))) | exact L0 (by decide) A0H (O3 (by decide)) | assumption, by simp only [D3, E7]; omega⟩)
 refine E0 ?_
 refine sP (O9 rfl rfl (by omega) (by omega)) rfl rfl ?_
 refine A3 ?_
 (have hinloop := hrs; refine I1 (j, p1 + 1, Gp) ?_ ?_ ?_)
 (simp only [H6]; exact D2)
 exact A7P
 (show _ < _ + 1; omega)
 refine J9 ?_
 refine sP (O9 rfl rfl (by omega) (by omega)) rfl rfl ?_
 refine A3 ?_
 (have hinloop := hrs; refine I1 (j, p1 + 1, Gp) ?_ ?_ ?_)
 (simp only [H6]; exact D2)
 exact A7P
 (show _ < _ + 1; omega)
 refine Q5 ?_
 refine sP (O9 rfl rfl (by omega) (by omega)) rfl rfl ?_
 refine A3 ?_
 (have hinloop := hrs; refine I1 (j, p1 + 1, Gp) ?_ ?_ ?_)
 (simp only [H6]; exact D2)
 exact A7P
 (show _ < _ + 1; omega)
 refine J3 ?_
 (show J6 _ _ (.region 7 ..) _ _; refine A0k (fun (x : Bool) => ⟨(49, .bool x) :: [(0, .pointer (some ⟨br, 0, none⟩)), (1, .slice pc nc cc), (3, .int .i64 depth), (6, .pointer (some ⟨b3, 0, none⟩)), (8, .pointer (some ⟨b4, 0, none⟩))], [rd br pb nb cb p1, .blk b4 [.int .i64 0, .string ⟨⟨[]⟩⟩, .int .i64 0, .int .i64 0, .slice none 0 0, .int .i64 0, .slice none 0 0, .int .i64 0, .slice none 0 0], .blk b3 [.int .i64 k, .slice q ks.length c]], G1⟩) (fun x => x = true → 1 < depth) ?_ ?_)
 refine A3 ?_
 refine sB (W3 rfl rfl) rfl rfl (fun h160 => ?_) (fun h160 => ?_)
 refine sD ?_
 refine P8 true (K2 (by repeat (first | exact D8.nil | refine D8.cons rfl ?_)) (by repeat (first | exact A0.refl | exact A0.nil | refine A0.cons (by repeat (first | exact Pk.here | apply Pk.there)) ?_ | apply A0.drop))) (fun _ => by omega)
 refine sD ?_
 refine P8 false (K2 (by repeat (first | exact D8.nil | refine D8.cons rfl ?_)) (by repeat (first | exact A0.refl | exact A0.nil | refine A0.cons (by repeat (first | exact Pk.here | apply Pk.there)) ?_ | apply A0.drop))) (fun h => absurd h (by decide))
 (rintro (x49 : Bool) hx49)
 (show J6 _ _ (.cond (.tmp 49) _ _) _ _; refine B1U (fun (x : Nat × IM) => ⟨[(0, .pointer (some ⟨br, 0, none⟩)), (1, .slice pc nc cc), (3, .int .i64 depth), (6, .pointer (some ⟨b3, 0, none⟩)), (8, .pointer (some ⟨b4, 0, none⟩))], [rd br pb nb cb x.1, .blk b4 [.int .i64 0, .string ⟨⟨[]⟩⟩, .int .i64 0, .int .i64 0, .slice none 0 0, .int .i64 0, .slice none 0 0, .int .i64 0, .slice none 0 0], .blk b3 [.int .i64 k, .slice q ks.length c]], x.2⟩) (fun x => C2 G1 x.2 ∧ p1 ≤ x.1 ∧ x.1 ≤ p1 + 1) (A3G rfl (fun hxt => ?_) (fun hxf => ?_)) ?_)
 refine B7 ?_
 (have hx49b := hx49 hxt; refine J2 rfl (Y6 _ br pb nb cb (p1) bs 9 hb hnb (by omega)) (Pk.perm (by repeat (first | exact Pk.here | apply Pk.there))) rfl rfl (fun v Gp outs hle170 hh => ?_); obtain ⟨rfl, rfl, j170, rfl, hj170, hk170⟩ := hh; have hpk9 := hj170)
 replace hb := hb.mono hle170
 replace hrt := hrt.mono hle170
 refine A3 ?_
 refine C0 (tS (tR (sB (qE rfl rfl) rfl rfl (fun h176 => ?_) (fun h176 => ?_))))
 refine B0 ?_
 (obtain ⟨m, rfl⟩ := hfu.pos (.inl (by omega)); have hmB : mB (m + 1) = 3 * mB m + 200 := rfl; have hgm := A1z m; refine E2 E4 rfl ?_)
 refine L4 (i := 0) (l' := [tt,ff,ff,ff,ff,ff,ff,ff,ff,ff,ff,ff,ff]) rfl D6 (A5 rfl rfl) rfl (by kernel_rfl) rfl rfl ?_
 refine aP 2 rfl (qM rfl) rfl ?_
 refine aP 3 rfl (qM rfl) rfl ?_
 refine aP 4 rfl (qM rfl) rfl ?_
 refine aL 5 rfl (A5 rfl rfl) rfl ?_
 refine aP 7 rfl (qM rfl) rfl ?_
 refine aP 8 rfl (O9 rfl rfl (by omega) (by omega)) rfl ?_
 refine A4 1 ?_
 (refine H7 rfl rfl (P7 _ _ _ har.small hrt) rfl rfl rfl (fun v G6 hle6 hh => ?_); obtain ⟨cs1, F1, rfl, hs1, hn1⟩ := hh; obtain ⟨pz, cz, rfl, _⟩ := hs1.open; have hrz := hs1.R.mono (C5.le G6 _); replace hx := hx.mono hle6; replace hb := hb.mono hle6; replace hrt := hrt.mono hle6;)
 refine A4 6 ?_
 (have hcall := A6N br pb nb cb bs hnb (.mk k ks) (p1 + 1) _ _ har hrt hb (by omega); refine Y9 (l' := [tt,tt,tt,tt,tt,tt,tt,tt,tt,ff,ff,ff,ff]) rfl rfl hcall (Pk.perm (by repeat (first | exact Pk.here | apply Pk.there))) rfl rfl rfl (by repeat (first | exact B2.nil | apply B2.dep (by decide +kernel) | apply B2.im (by decide +kernel) hg0 (by repeat first | exact mH | apply mT) | apply B2.im (by decide +kernel) hg1 (by repeat first | exact mH | apply mT) | apply B2.blk (by decide +kernel) (by repeat (first | exact Pk.here | apply Pk.there)) (by repeat first | exact mH | apply mT))) (fun v Gn outs hleA hh => ?_); obtain ⟨pA, hpA1, hpA2, rfl, uA, cuA, rfl, hruA, huaA, husA, huhA⟩ := hh; obtain ⟨quA, duA, euA, rfl, _⟩ := hruA.open; replace hrz := hrz.mono hleA; replace hx := hx.mono hleA; replace hb := hb.mono hleA; replace hrt := hrt.mono hleA;)
 refine A4 9 ?_
 (have hcall := ih m (by omega) (depth - 1) uA pA _ pc nc cc _ (hfu.sub (by omega) (huhA 4 hfu.1)) (by omega) (by omega) (by omega) hx hruA hb (by omega); refine Y9 (l' := [tt,tt,tt,tt,tt,tt,tt,tt,tt,tt,ff,ff,ff]) rfl rfl hcall (Pk.perm (by repeat (first | exact Pk.here | apply Pk.there))) rfl rfl rfl (by repeat (first | exact B2.nil | apply B2.dep (by decide +kernel) | apply B2.im (by decide +kernel) hg0 (by repeat first | exact mH | apply mT) | apply B2.im (by decide +kernel) hg1 (by repeat first | exact mH | apply mT) | apply B2.blk (by decide +kernel) (by repeat (first | exact Pk.here | apply Pk.there)) (by repeat first | exact mH | apply mT))) (fun v Gn outs hlea hh => ?_); obtain ⟨pa, hpa1, hpa2, rfl, ea, ca, rfl, hra, hsma, hca⟩ := hh; obtain ⟨a1, a2, a3, a4, a5, a6, a7, a8, a9, rfl⟩ := hra.nine; replace hrz := hrz.mono hlea; replace hx := hx.mono hlea; replace hb := hb.mono hlea; replace hrt := hrt.mono hlea;)
 refine A4 10 ?_
 (refine E5 rfl (D0 rfl rfl rfl (by omega) (by unfold maxLen; omega) rfl) rfl rfl ?_; rintro _ ⟨b197, rfl⟩)
 refine aP 11 rfl (X0 rfl rfl) rfl ?_
 refine A4 12 ?_
 refine R5 rfl rfl rfl rfl rfl rfl rfl rfl (by decide +kernel) (by repeat first | exact Sw.here | apply Sw.there) (by rfl) ?_
 refine A3 ?_
 (refine F0 (cs := [a1, a2, a3, a4, a5, a6, a7, a8, a9]) (by repeat (first | exact Pk.here | apply Pk.there)) (fun G9 hle9 hsl9 hno9 => ?_); have hN := A4l (k := 13) (nm := ⟨⟨[]⟩⟩) ⟨by omega, by omega⟩ (hrz.mono hle9) (hra.mono hle9) hsl9)
 refine A3 ?_
 refine A00 ?_
 refine H9 (outs := [rd br pb nb cb pa]) (rC rfl (A5 rfl rfl)) (by repeat (first | exact A0.nil | refine A0.cons Pk.here ?_ | refine A0.cons (Pk.there Pk.here) ?_ | refine A0.cons (Pk.there (Pk.there Pk.here)) ?_ | apply A0.drop)) ?_
 (exact ⟨pa, by omega, by omega, rfl, _, _, rfl, hN, by first | exact O3 (by first | assumption | decide) | exact A0G (by decide) (by assumption) (by assumption) (by assumption) | exact T1 (by decide) (by assumption) (by assumption) | exact L0 (by decide) Q0 (by assumption) | exact L0 (by decide) har.small (by assumption) | exact L0 (by decide) Q0 (T1 (by decide) (by assumption) (O3 (by decide))) | exact L0 (by decide) A0H (O3 (by decide)) | assumption, by simp only [D3, E7]; omega⟩)
 refine A8 ?_
 refine sB (qE rfl rfl) rfl rfl (fun h215 => ?_) (fun h215 => ?_)
 refine B0 ?_
 (obtain ⟨m, rfl⟩ := hfu.pos (.inl (by omega)); have hmB : mB (m + 1) = 3 * mB m + 200 := rfl; have hgm := A1z m; refine E2 E4 rfl ?_)
 refine J4 (i := 0) (l' := [tt,ff,ff,ff,ff,ff,ff,ff,ff,ff,ff,ff,ff,ff,ff,ff,ff,ff,ff,ff,ff]) rfl D6 (qM rfl) rfl (by kernel_rfl) rfl rfl ?_
 refine aP 1 rfl (qM rfl) rfl ?_
 refine aP 3 rfl (qM rfl) rfl ?_
 refine aP 4 rfl (O9 rfl rfl (by omega) (by omega)) rfl ?_
 refine aP 6 rfl (qM rfl) rfl ?_
 refine aP 7 rfl (qM rfl) rfl ?_
 refine aL 8 rfl (A5 rfl rfl) rfl ?_
 refine aP 9 rfl (qM rfl) rfl ?_
 refine aP 10 rfl (O9 rfl rfl (by omega) (by omega)) rfl ?_
 refine aP 12 rfl (qM rfl) rfl ?_
 refine aP 13 rfl (qM rfl) rfl ?_
 refine aL 14 rfl (A5 rfl rfl) rfl ?_
 refine aP 15 rfl (qM rfl) rfl ?_
 refine aP 16 rfl (O9 rfl rfl (by omega) (by omega)) rfl ?_
 refine A4 2 ?_
 refine N3 rfl rfl ((A3h _)) rfl rfl rfl ?_
 refine A4 5 ?_
 (have hcall := ih m (by omega) (depth - 1) (.mk 3 []) (p1 + 1) _ pc nc cc _ (hfu.sub (by omega) (A3b 4 (by decide) (by decide))) (by omega) (by omega) (by omega) hx (O1 _ ⟨by omega, by omega⟩) hb (by omega); refine Y9 (l' := [tt,tt,tt,tt,tt,tt,tt,tt,tt,tt,tt,ff,tt,tt,tt,tt,tt,ff,ff,ff,ff]) rfl rfl hcall (Pk.perm (by repeat (first | exact Pk.here | apply Pk.there))) rfl rfl rfl (by repeat (first | exact B2.nil | apply B2.dep (by decide +kernel) | apply B2.im (by decide +kernel) hg0 (by repeat first | exact mH | apply mT) | apply B2.im (by decide +kernel) hg1 (by repeat first | exact mH | apply mT) | apply B2.blk (by decide +kernel) (by repeat (first | exact Pk.here | apply Pk.there)) (by repeat first | exact mH | apply mT))) (fun v Gn outs hlef hh => ?_); obtain ⟨pf, hpf1, hpf2, rfl, ef, cf, rfl, hrf, hsmf, hcf⟩ := hh; obtain ⟨f1, f2, f3, f4, f5, f6, f7, f8, f9, rfl⟩ := hrf.nine; replace hx := hx.mono hlef; replace hb := hb.mono hlef; replace hrt := hrt.mono hlef;)
 refine A4 11 ?_
 (have hcall := ih m (by omega) (depth - 1) (.mk k ks) pf _ pc nc cc _ (hfu.sub (by omega) hfu.1) (by omega) (by omega) (by omega) hx hrt hb (by omega); refine Y9 (l' := [tt,tt,tt,tt,tt,tt,tt,tt,tt,tt,tt,tt,tt,tt,tt,tt,tt,ff,ff,ff,ff]) rfl rfl hcall (Pk.perm (by repeat (first | exact Pk.here | apply Pk.there))) rfl rfl rfl (by repeat (first | exact B2.nil | apply B2.dep (by decide +kernel) | apply B2.im (by decide +kernel) hg0 (by repeat first | exact mH | apply mT) | apply B2.im (by decide +kernel) hg1 (by repeat first | exact mH | apply mT) | apply B2.blk (by decide +kernel) (by repeat (first | exact Pk.here | apply Pk.there)) (by repeat first | exact mH | apply mT))) (fun v Gn outs hleg hh => ?_); obtain ⟨pg, hpg1, hpg2, rfl, eg, cg, rfl, hrg, hsmg, hcg⟩ := hh; obtain ⟨g1, g2, g3, g4, g5, g6, g7, g8, g9, rfl⟩ := hrg.nine; replace hrf := hrf.mono hleg; replace hx := hx.mono hleg; replace hb := hb.mono hleg; replace hrt := hrt.mono hleg;)
 refine A4 17 ?_
 (have hcall := ih m (by omega) (depth - 1) (.mk k ks) pg _ pc nc cc _ (hfu.sub (by omega) hfu.1) (by omega) (by omega) (by omega) hx hrt hb (by omega); refine Y9 (l' := [tt,tt,tt,tt,tt,tt,tt,tt,tt,tt,tt,tt,tt,tt,tt,tt,tt,tt,ff,ff,ff]) rfl rfl hcall (Pk.perm (by repeat (first | exact Pk.here | apply Pk.there))) rfl rfl rfl (by repeat (first | exact B2.nil | apply B2.dep (by decide +kernel) | apply B2.im (by decide +kernel) hg0 (by repeat first | exact mH | apply mT) | apply B2.im (by decide +kernel) hg1 (by repeat first | exact mH | apply mT) | apply B2.blk (by decide +kernel) (by repeat (first | exact Pk.here | apply Pk.there)) (by repeat first | exact mH | apply mT))) (fun v Gn outs hlei hh => ?_); obtain ⟨pi, hpi1, hpi2, rfl, ei, ci, rfl, hri, hsmi, hci⟩ := hh; obtain ⟨i1, i2, i3, i4, i5, i6, i7, i8, i9, rfl⟩ := hri.nine; replace hrf := hrf.mono hlei; replace hrg := hrg.mono hlei; replace hx := hx.mono hlei; replace hb := hb.mono hlei; replace hrt := hrt.mono hlei;)
 refine A4 18 ?_
 (refine E5 rfl (D0 rfl rfl rfl (by omega) (by unfold maxLen; omega) rfl) rfl rfl ?_; rintro _ ⟨b245, rfl⟩)
 refine A4 19 ?_
 refine N3 rfl rfl ((A0E _ _ _ _ _)) rfl rfl rfl ?_
 refine A4 20 ?_
 refine R5 rfl rfl rfl rfl rfl rfl rfl rfl (by decide +kernel) (by repeat first | exact Sw.here | apply Sw.there) (by rfl) ?_
 refine A3 ?_
 (refine F0 (cs := [f1, f2, f3, f4, f5, f6, f7, f8, f9] ++ ([g1, g2, g3, g4, g5, g6, g7, g8, g9] ++ [i1, i2, i3, i4, i5, i6, i7, i8, i9])) (by repeat (first | exact Pk.here | apply Pk.there)) (fun G9 hle9 hsl9 hno9 => ?_); have hN := B7E (k := 9) (nm := ⟨⟨[]⟩⟩) ⟨by omega, by omega⟩ (hrf.mono hle9) (hrg.mono hle9) (hri.mono hle9) hsl9)
 refine A3 ?_
 refine A00 ?_
 refine H9 (outs := [rd br pb nb cb pi]) (rC rfl (A5 rfl rfl)) (by repeat (first | exact A0.nil | refine A0.cons Pk.here ?_ | refine A0.cons (Pk.there Pk.here) ?_ | refine A0.cons (Pk.there (Pk.there Pk.here)) ?_ | apply A0.drop)) ?_
 (exact ⟨pi, by omega, by omega, rfl, _, _, rfl, hN, by first | exact O3 (by first | assumption | decide) | exact A0G (by decide) (by assumption) (by assumption) (by assumption) | exact T1 (by decide) (by assumption) (by assumption) | exact L0 (by decide) Q0 (by assumption) | exact L0 (by decide) har.small (by assumption) | exact L0 (by decide) Q0 (T1 (by decide) (by assumption) (O3 (by decide))) | exact L0 (by decide) A0H (O3 (by decide)) | assumption, by simp only [D3, E7]; omega⟩)
 refine A8 ?_
 refine sB (qE rfl rfl) rfl rfl (fun h264 => ?_) (fun h264 => ?_)
 refine B5 ?_
 (have hcall := A3g br pb nb cb bs hnb 0 (p1 + 1) _ (by omega) hb (by have : dB (0 + 1) ≤ 6 := (by decide); omega); refine J2 rfl hcall (Pk.perm (by repeat (first | exact Pk.here | apply Pk.there))) rfl rfl (fun v Gn outs hleD hh => ?_); obtain ⟨pD, hpD1, hpD2, rfl, uD, cuD, rfl, hruD, husD, huhD⟩ := hh; have huaD := huhD.ar; obtain ⟨quD, duD, euD, rfl, _⟩ := hruD.open; have hdBD : dB (0 + 1) ≤ 6 := (by decide); replace hx := hx.mono hleD; replace hb := hb.mono hleD; replace hrt := hrt.mono hleD;)
 refine sE (A7 rfl) rfl (fun b273 => ?_)
 refine B4 ?_
 (obtain ⟨m, rfl⟩ := hfu.pos (.inl (by omega)); have hmB : mB (m + 1) = 3 * mB m + 200 := rfl; have hgm := A1z m; refine E2 E4 rfl ?_)
 refine J4 (i := 0) (l' := [tt,ff,ff,ff,ff,ff,ff,ff,ff,ff,ff,ff,ff,ff,ff,ff,ff,ff]) rfl D6 (qM rfl) rfl (by kernel_rfl) rfl rfl ?_
 refine aP 1 rfl (qM rfl) rfl ?_
 refine aL 2 rfl (A5 rfl rfl) rfl ?_
 refine aL 3 rfl (A5 rfl rfl) rfl ?_
 refine aP 4 rfl (qM rfl) rfl ?_
 refine aP 5 rfl (O9 rfl rfl (by omega) (by omega)) rfl ?_
 refine aP 7 rfl (qM rfl) rfl ?_
 refine aP 8 rfl (qM rfl) rfl ?_
 refine aP 9 rfl (qM rfl) rfl ?_
 refine aL 10 rfl (A5 rfl rfl) rfl ?_
 refine aP 12 rfl (qM rfl) rfl ?_
 refine aP 13 rfl (O9 rfl rfl (by omega) (by omega)) rfl ?_
 refine A4 6 ?_
 (have hcall := B1T br pb nb cb bs hnb m (ih m (by omega)) (depth - 1) uD (.mk k ks) (pD) _ pc nc cc _ _ (hfu.sub (by omega) hfu.1) (by omega) (by omega) (by omega) hx hruD ⟨huaD, by omega⟩ hrt hb (by omega); refine Y9 (l' := [tt,tt,tt,tt,tt,tt,tt,tt,tt,tt,tt,ff,tt,tt,ff,ff,ff,ff]) rfl rfl hcall (Pk.perm (by repeat (first | exact Pk.here | apply Pk.there))) rfl rfl rfl (by repeat (first | exact B2.nil | apply B2.dep (by decide +kernel) | apply B2.im (by decide +kernel) hg0 (by repeat first | exact mH | apply mT) | apply B2.im (by decide +kernel) hg1 (by repeat first | exact mH | apply mT) | apply B2.blk (by decide +kernel) (by repeat (first | exact Pk.here | apply Pk.there)) (by repeat first | exact mH | apply mT))) (fun v Gn outs hlel hh => ?_); obtain ⟨pl, hpl1, hpl2, rfl, el, cl, rfl, hrl, hsml, hcl⟩ := hh; obtain ⟨l1, l2, l3, l4, l5, l6, l7, l8, l9, rfl⟩ := hrl.nine; replace hruD := hruD.mono hlel; replace hx := hx.mono hlel; replace hb := hb.mono hlel; replace hrt := hrt.mono hlel;)
 refine A4 11 ?_
 (have hcall := A6N br pb nb cb bs hnb uD (pl) _ _ huaD hruD hb (by omega); refine Y9 (l' := [tt,tt,tt,tt,tt,tt,tt,tt,tt,tt,tt,tt,tt,tt,ff,ff,ff,ff]) rfl rfl hcall (Pk.perm (by repeat (first | exact Pk.here | apply Pk.there))) rfl rfl rfl (by repeat (first | exact B2.nil | apply B2.dep (by decide +kernel) | apply B2.im (by decide +kernel) hg0 (by repeat first | exact mH | apply mT) | apply B2.im (by decide +kernel) hg1 (by repeat first | exact mH | apply mT) | apply B2.blk (by decide +kernel) (by repeat (first | exact Pk.here | apply Pk.there)) (by repeat first | exact mH | apply mT))) (fun v Gn outs hleE hh => ?_); obtain ⟨pE, hpE1, hpE2, rfl, uE, cuE, rfl, hruE, huaE, husE, huhE⟩ := hh; obtain ⟨quE, duE, euE, rfl, _⟩ := hruE.open; replace hrl := hrl.mono hleE; replace hx := hx.mono hleE; replace hb := hb.mono hleE; replace hrt := hrt.mono hleE;)
 refine A4 14 ?_
 (have hcall := ih m (by omega) (depth - 1) uE pE _ pc nc cc _ (hfu.sub (by omega) (huhE 4 (huhD.le (by omega)))) (by omega) (by omega) (by omega) hx hruE hb (by omega); refine Y9 (l' := [tt,tt,tt,tt,tt,tt,tt,tt,tt,tt,tt,tt,tt,tt,tt,ff,ff,ff]) rfl rfl hcall (Pk.perm (by repeat (first | exact Pk.here | apply Pk.there))) rfl rfl rfl (by repeat (first | exact B2.nil | apply B2.dep (by decide +kernel) | apply B2.im (by decide +kernel) hg0 (by repeat first | exact mH | apply mT) | apply B2.im (by decide +kernel) hg1 (by repeat first | exact mH | apply mT) | apply B2.blk (by decide +kernel) (by repeat (first | exact Pk.here | apply Pk.there)) (by repeat first | exact mH | apply mT))) (fun v Gn outs hled hh => ?_); obtain ⟨pd, hpd1, hpd2, rfl, ed, cd, rfl, hrd, hsmd, hcd⟩ := hh; obtain ⟨d1, d2, d3, d4, d5, d6, d7, d8, d9, rfl⟩ := hrd.nine; replace hrl := hrl.mono hled; replace hx := hx.mono hled; replace hb := hb.mono hled; replace hrt := hrt.mono hled;)
 refine A4 15 ?_
 (refine E5 rfl (D0 rfl rfl rfl (by omega) (by unfold maxLen; omega) rfl) rfl rfl ?_; rintro _ ⟨b298, rfl⟩)
 refine A4 16 ?_
 refine N3 rfl rfl ((A0E _ _ _ _ _)) rfl rfl rfl ?_
 refine A4 17 ?_
 refine R5 rfl rfl rfl rfl rfl rfl rfl rfl (by decide +kernel) (by repeat first | exact Sw.here | apply Sw.there) (by rfl) ?_
 refine A3 ?_
 (refine F0 (cs := [l1, l2, l3, l4, l5, l6, l7, l8, l9] ++ [d1, d2, d3, d4, d5, d6, d7, d8, d9]) (by repeat (first | exact Pk.here | apply Pk.there)) (fun G9 hle9 hsl9 hno9 => ?_); have hN := A4m (k := 6) (nm := ⟨⟨[]⟩⟩) ⟨by omega, by omega⟩ (hrl.mono hle9) (hrd.mono hle9) hsl9)
 refine A3 ?_
 refine A00 ?_
 refine H9 (outs := [rd br pb nb cb pd]) (rC rfl (A5 rfl rfl)) (by repeat (first | exact A0.nil | refine A0.cons Pk.here ?_ | refine A0.cons (Pk.there Pk.here) ?_ | refine A0.cons (Pk.there (Pk.there Pk.here)) ?_ | apply A0.drop)) ?_
 (exact ⟨pd, by omega, by omega, rfl, _, _, rfl, hN, by first | exact O3 (by first | assumption | decide) | exact A0G (by decide) (by assumption) (by assumption) (by assumption) | exact T1 (by decide) (by assumption) (by assumption) | exact L0 (by decide) Q0 (by assumption) | exact L0 (by decide) har.small (by assumption) | exact L0 (by decide) Q0 (T1 (by decide) (by assumption) (O3 (by decide))) | exact L0 (by decide) A0H (O3 (by decide)) | assumption, by simp only [D3, E7]; omega⟩)
 refine A8 ?_
 refine sB (qE rfl rfl) rfl rfl (fun h317 => ?_) (fun h317 => ?_)
 refine J3 ?_
 refine sP (O9 rfl rfl (by omega) (by omega)) rfl rfl ?_
 (have hpkq := hpk9; obtain ⟨m, rfl⟩ := hfu.pos (.inl (by omega)); have hmB : mB (m + 1) = 3 * mB m + 200 := rfl; have hgm := A1z m; have hcall := ih m (by omega) (depth - 1) (.mk k ks) (p1 + 1) _ pc nc cc _ (hfu.sub (by omega) hfu.1) (by omega) (by omega) (by omega) hx hrt hb (by omega); refine J2 rfl hcall (Pk.perm (by repeat (first | exact Pk.here | apply Pk.there))) rfl rfl (fun v Gn outs hleh hh => ?_); obtain ⟨ph, hph1, hph2, rfl, eh, ch, rfl, hrh, hsmh, hch⟩ := hh; obtain ⟨h1, h2, h3, h4, h5, h6, h7, h8, h9, rfl⟩ := hrh.nine; replace hx := hx.mono hleh; replace hb := hb.mono hleh; replace hrt := hrt.mono hleh;)
 refine E8 rfl ((A17 _ _)) rfl rfl ?_
 (refine I3 (D0 rfl rfl rfl (by omega) (by unfold maxLen; omega) rfl) rfl ?_; rintro _ ⟨b331, rfl⟩)
 refine E8 rfl ((A0E _ _ _ _ _)) rfl rfl ?_
 (refine I3 (D0 rfl rfl rfl (by omega) (by unfold maxLen; omega) rfl) rfl ?_; rintro _ ⟨b333, rfl⟩)
 refine E8 rfl ((A0E _ _ _ _ _)) rfl rfl ?_
 refine B7 ?_
 (refine F0 (cs := [h1, h2, h3, h4, h5, h6, h7, h8, h9] ++ [.int .i64 2, .string ⟨⟨[]⟩⟩, .int .i64 1, .int .i64 0, .slice none 0 0, .int .i64 0, .slice none 0 0, .int .i64 0, .slice none 0 0]) (by repeat (first | exact Pk.here | apply Pk.there)) (fun G8 hle8 hsl8 hno8 => ?_); have hNi := A4m (k := 10) (nm := ⟨⟨[]⟩⟩) ⟨by omega, by omega⟩ (hrh.mono hle8) (A2m G8 ⟨⟨[]⟩⟩ 1 (k := 2) ⟨by omega, by omega⟩ ⟨by omega, by omega⟩) hsl8; refine F0 (by repeat (first | exact Pk.here | apply Pk.there)) (fun G9 hle9 hsl9 hno9 => ?_); have hN := A4l (k := 11) (nm := ⟨⟨[]⟩⟩) ⟨by omega, by omega⟩ (O1 G9 (k := 0) ⟨by omega, by omega⟩) (hNi.mono hle9) hsl9)
 refine A3 ?_
 refine A00 ?_
 refine H9 (outs := [rd br pb nb cb ph]) (rC rfl (A5 rfl rfl)) (by repeat (first | exact A0.nil | refine A0.cons Pk.here ?_ | refine A0.cons (Pk.there Pk.here) ?_ | refine A0.cons (Pk.there (Pk.there Pk.here)) ?_ | apply A0.drop)) ?_
 (exact ⟨ph, by omega, by omega, rfl, _, _, rfl, hN, by first | exact O3 (by first | assumption | decide) | exact A0G (by decide) (by assumption) (by assumption) (by assumption) | exact T1 (by decide) (by assumption) (by assumption) | exact L0 (by decide) Q0 (by assumption) | exact L0 (by decide) har.small (by assumption) | exact L0 (by decide) Q0 (T1 (by decide) (by assumption) (O3 (by decide))) | exact L0 (by decide) A0H (O3 (by decide)) | assumption, by simp only [D3, E7]; omega⟩)
 refine A8 ?_
 refine A4o (p1 + 1, Gp) (K2 (by repeat (first | exact D8.nil | refine D8.cons rfl ?_)) (by repeat (first | exact A0.refl | exact A0.nil | refine A0.cons (by repeat (first | exact Pk.here | apply Pk.there)) ?_ | apply A0.drop))) ⟨C2.refl _, by dsimp only; omega, by dsimp only; omega⟩
 refine tK ?_
 refine A4o (p1, G1) (K2 (by repeat (first | exact D8.nil | refine D8.cons rfl ?_)) (by repeat (first | exact A0.refl | exact A0.nil | refine A0.cons (by repeat (first | exact Pk.here | apply Pk.there)) ?_ | apply A0.drop))) ⟨C2.refl _, by dsimp only; omega, by dsimp only; omega⟩
 (rintro ⟨(p2 : Nat), G2⟩ ⟨hle2c, hp2a, hp2b⟩; simp only [] at hle2c hp2a hp2b ⊢; have hcut1 := hp2a; replace hx := hx.mono hle2c; replace hb := hb.mono hle2c; replace hrt := hrt.mono hle2c;)
 refine B5 ?_
 (show J6 _ _ (.block 3 ..) _ _; refine B1U (fun (x : Nat × IM) => ⟨[(0, .pointer (some ⟨br, 0, none⟩)), (1, .slice pc nc cc), (3, .int .i64 depth), (6, .pointer (some ⟨b3, 0, none⟩)), (8, .pointer (some ⟨b4, 0, none⟩))], [rd br pb nb cb x.1, .blk b4 [.int .i64 0, .string ⟨⟨[]⟩⟩, .int .i64 0, .int .i64 0, .slice none 0 0, .int .i64 0, .slice none 0 0, .int .i64 0, .slice none 0 0], .blk b3 [.int .i64 k, .slice q ks.length c]], x.2⟩) (fun x => C2 G2 x.2 ∧ p2 ≤ x.1 ∧ x.1 ≤ p2 + 2) ?_ ?_)
 refine C0 (tS (tR (sB (qE rfl rfl) rfl rfl (fun h365 => ?_) (fun h365 => ?_))))
 refine D1 ?_
 refine sB (W3 rfl rfl) rfl rfl (fun h374 => ?_) (fun h374 => ?_)
 refine A3 ?_
 (have hkk3 : k = 3 := (by omega); refine J2 rfl (Y6 _ br pb nb cb (p2) bs 2 hb hnb (by omega)) (Pk.perm (by repeat (first | exact Pk.here | apply Pk.there))) rfl rfl (fun v Gp outs hle377 hh => ?_); obtain ⟨rfl, rfl, j377, rfl, hj377, hk377⟩ := hh; have hpk22 := hj377)
 replace hb := hb.mono hle377
 replace hrt := hrt.mono hle377
 refine sB (qE rfl rfl) rfl rfl (fun h378 => ?_) (fun h378 => ?_)
 refine D1 ?_
 refine E8 rfl ((A0D _)) rfl rfl ?_
 refine E3 ?_
 refine sP (O9 rfl rfl (by omega) (by omega)) rfl rfl ?_
 (have hkk3q := hkk3; obtain ⟨m, rfl⟩ := hfu.pos (.inl (by omega)); have hmB : mB (m + 1) = 3 * mB m + 200 := rfl; have hgm := A1z m; have hcall := ih m (by omega) (depth - 1) (.mk 2 []) (p2 + 1) _ pc nc cc _ (hfu.sub (by omega) (A3b 4 (by decide) (by decide))) (by omega) (by omega) (by omega) hx (O1 _ ⟨by omega, by omega⟩) hb (by omega); refine J2 rfl hcall (Pk.perm (by repeat (first | exact Pk.here | apply Pk.there))) rfl rfl (fun v Gn outs hlen hh => ?_); obtain ⟨pn, hpn1, hpn2, rfl, en, cn, rfl, hrn, hsmn, hcn⟩ := hh; obtain ⟨n1, n2, n3, n4, n5, n6, n7, n8, n9, rfl⟩ := hrn.nine; replace hx := hx.mono hlen; replace hb := hb.mono hlen; replace hrt := hrt.mono hlen;)
 refine A3 ?_
 refine E8 rfl ((A0D _)) rfl rfl ?_
 refine E3 ?_
 refine sP (O9 rfl rfl (by omega) (by omega)) rfl rfl ?_
 (have hcall := ih m (by omega) (depth - 1) (.mk 2 []) pn _ pc nc cc _ (hfu.sub (by omega) (A3b 4 (by decide) (by decide))) (by omega) (by omega) (by omega) hx (O1 _ ⟨by omega, by omega⟩) hb (by omega); refine J2 rfl hcall (Pk.perm (by repeat (first | exact Pk.here | apply Pk.there))) rfl rfl (fun v Gn outs hleo hh => ?_); obtain ⟨po, hpo1, hpo2, rfl, eo, co, rfl, hro, hsmo, hco⟩ := hh; obtain ⟨o1, o2, o3, o4, o5, o6, o7, o8, o9, rfl⟩ := hro.nine; replace hrn := hrn.mono hleo; replace hx := hx.mono hleo; replace hb := hb.mono hleo; replace hrt := hrt.mono hleo;)
 (refine I3 (D0 rfl rfl rfl (by omega) (by unfold maxLen; omega) rfl) rfl ?_; rintro _ ⟨b397, rfl⟩)
 refine E8 rfl ((A0E _ _ _ _ _)) rfl rfl ?_
 refine B7 ?_
 (refine F0 (cs := [n1, n2, n3, n4, n5, n6, n7, n8, n9] ++ [o1, o2, o3, o4, o5, o6, o7, o8, o9]) (by repeat (first | exact Pk.here | apply Pk.there)) (fun G9 hle9 hsl9 hno9 => ?_); have hN := A4m (k := 8) (nm := ⟨⟨[]⟩⟩) ⟨by omega, by omega⟩ (hrn.mono hle9) (hro.mono hle9) hsl9)
 refine B7 ?_
 refine A00 ?_
 refine H9 (outs := [rd br pb nb cb po]) (rC rfl (A5 rfl rfl)) (by repeat (first | exact A0.nil | refine A0.cons Pk.here ?_ | refine A0.cons (Pk.there Pk.here) ?_ | refine A0.cons (Pk.there (Pk.there Pk.here)) ?_ | apply A0.drop)) ?_
 (exact ⟨po, by omega, by omega, rfl, _, _, rfl, hN, by first | exact O3 (by first | assumption | decide) | exact A0G (by decide) (by assumption) (by assumption) (by assumption) | exact T1 (by decide) (by assumption) (by assumption) | exact L0 (by decide) Q0 (by assumption) | exact L0 (by decide) har.small (by assumption) | exact L0 (by decide) Q0 (T1 (by decide) (by assumption) (O3 (by decide))) | exact L0 (by decide) A0H (O3 (by decide)) | assumption, by simp only [D3, E7]; omega⟩)
 refine J9 ?_
 refine A00 ?_
 refine H9 (outs := [rd br pb nb cb (p2 + 1)]) (rC rfl (A5 rfl rfl)) (by repeat (first | exact A0.nil | refine A0.cons Pk.here ?_ | refine A0.cons (Pk.there Pk.here) ?_ | refine A0.cons (Pk.there (Pk.there Pk.here)) ?_ | apply A0.drop)) ?_
 (exact ⟨(p2 + 1), by omega, by omega, rfl, _, _, rfl, A2m _ _ _ ⟨by omega, by omega⟩ (by first | exact ⟨by omega, by omega⟩ | exact hkn), by first | exact O3 (by first | assumption | decide) | exact A0G (by decide) (by assumption) (by assumption) (by assumption) | exact T1 (by decide) (by assumption) (by assumption) | exact L0 (by decide) Q0 (by assumption) | exact L0 (by decide) har.small (by assumption) | exact L0 (by decide) Q0 (T1 (by decide) (by assumption) (O3 (by decide))) | exact L0 (by decide) A0H (O3 (by decide)) | assumption, by simp only [D3, E7]; omega⟩)
 refine U7 ?_
 refine A00 ?_
 refine H9 (outs := [rd br pb nb cb p2]) (rC rfl (A5 rfl rfl)) (by repeat (first | exact A0.nil | refine A0.cons Pk.here ?_ | refine A0.cons (Pk.there Pk.here) ?_ | refine A0.cons (Pk.there (Pk.there Pk.here)) ?_ | apply A0.drop)) ?_
 (exact ⟨p2, by omega, by omega, rfl, _, _, rfl, A2m _ _ _ ⟨by omega, by omega⟩ (by first | exact ⟨by omega, by omega⟩ | exact hkn), by first | exact O3 (by first | assumption | decide) | exact A0G (by decide) (by assumption) (by assumption) (by assumption) | exact T1 (by decide) (by assumption) (by assumption) | exact L0 (by decide) Q0 (by assumption) | exact L0 (by decide) har.small (by assumption) | exact L0 (by decide) Q0 (T1 (by decide) (by assumption) (O3 (by decide))) | exact L0 (by decide) A0H (O3 (by decide)) | assumption, by simp only [D3, E7]; omega⟩)
 refine A8 ?_
 refine sB (qE rfl rfl) rfl rfl (fun h453 => ?_) (fun h453 => ?_)
 refine B0 ?_
 (have hk45 : k = 4 ∨ k = 5 := (by omega); have hl2 := hops hk45; obtain ⟨m, rfl⟩ := hfu.pos (.inr hk45); have hmB : mB (m + 1) = 3 * mB m + 200 := rfl; have hgm := A1z m; obtain ⟨es9, hsl, hkl⟩ := hrt.kidsM; obtain ⟨b0, o0, q0, d0, hp0, hat0, hre0, hg0⟩ := hsl.kidTy hkl (i := 0) (by omega) (by omega); obtain ⟨b1, o1, q1, d1, hp1, hat1, hre1, hg1⟩ := hsl.kidTy hkl (i := 1) (by omega) (by omega); cases hp0; cases hp1; have hmem0 := List.getElem_mem (l := ks) (n := 0) (by omega); have hmem1 := List.getElem_mem (l := ks) (n := 1) (by omega); refine E2 E4 rfl ?_)
 refine J4 (i := 0) (l' := [tt,ff,ff,ff,ff,ff,ff,ff,ff,ff,ff,ff,ff,ff]) rfl D6 (qM rfl) rfl (by kernel_rfl) rfl rfl ?_
 refine aP 1 rfl (qM rfl) rfl ?_
 refine aP 2 rfl (B9 rfl) rfl ?_
 refine aL 3 rfl (C8 rfl rfl) rfl ?_
 refine aP 4 rfl (B6 (j := 0) rfl rfl rfl (by omega)) rfl ?_
 refine aL 5 rfl (A2 rfl rfl (hat0 _) rfl) rfl ?_
 refine aP 6 rfl (B9 rfl) rfl ?_
 refine aL 7 rfl (C8 rfl rfl) rfl ?_
 refine aP 8 rfl (B6 (j := 1) rfl rfl rfl (by omega)) rfl ?_
 refine aL 9 rfl (A2 rfl rfl (hat1 _) rfl) rfl ?_
 refine aP 10 rfl (qM rfl) rfl ?_
 refine aP 11 rfl (O9 rfl rfl (by omega) (by omega)) rfl ?_
 refine A4 12 ?_
 (have hcall := B1T br pb nb cb bs hnb m (ih m (by omega)) (depth - 1) ks[0] ks[1] (p2) _ pc nc cc _ _ (hfu.kid hmem1) (by omega) (by omega) (by omega) hx hre0 ⟨har.kid _ hmem0, by have := B4j (k := k) hmem0; omega⟩ hre1 hb (by omega); refine Y9 (l' := [tt,tt,tt,tt,tt,tt,tt,tt,tt,tt,tt,tt,tt,ff]) rfl rfl hcall (Pk.perm (by repeat (first | exact Pk.here | apply Pk.there))) rfl rfl rfl (by repeat (first | exact B2.nil | apply B2.dep (by decide +kernel) | apply B2.im (by decide +kernel) hg0 (by repeat first | exact mH | apply mT) | apply B2.im (by decide +kernel) hg1 (by repeat first | exact mH | apply mT) | apply B2.blk (by decide +kernel) (by repeat (first | exact Pk.here | apply Pk.there)) (by repeat first | exact mH | apply mT))) (fun v Gn outs hlek hh => ?_); obtain ⟨pk, hpk1, hpk2, rfl, ek, ck, rfl, hrk, hsmk, hck⟩ := hh; obtain ⟨k1, k2, k3, k4, k5, k6, k7, k8, k9, rfl⟩ := hrk.nine; replace hx := hx.mono hlek; replace hb := hb.mono hlek; replace hrt := hrt.mono hlek;)
 refine A4 13 ?_
 refine R5 rfl rfl rfl rfl rfl hrk.one rfl rfl (by kernel_rfl) (by repeat first | exact Sw.here | apply Sw.there) (by rfl) ?_
 refine B4 ?_
 refine A00 ?_
 refine H9 (outs := [rd br pb nb cb pk]) (rC rfl (A5 rfl rfl)) (by repeat (first | exact A0.nil | refine A0.cons Pk.here ?_ | refine A0.cons (Pk.there Pk.here) ?_ | refine A0.cons (Pk.there (Pk.there Pk.here)) ?_ | apply A0.drop)) ?_
 (exact ⟨pk, by omega, by omega, rfl, _, _, rfl, hrk, hsmk, by omega⟩)
 refine A8 ?_
 refine sB (qE rfl rfl) rfl rfl (fun h489 => ?_) (fun h489 => ?_)
 refine B0 ?_
 (have hk45 : k = 4 ∨ k = 5 := (by omega); have hl2 := hops hk45; obtain ⟨m, rfl⟩ := hfu.pos (.inr hk45); have hmB : mB (m + 1) = 3 * mB m + 200 := rfl; have hgm := A1z m; obtain ⟨es9, hsl, hkl⟩ := hrt.kidsM; obtain ⟨b0, o0, q0, d0, hp0, hat0, hre0, hg0⟩ := hsl.kidTy hkl (i := 0) (by omega) (by omega); obtain ⟨b1, o1, q1, d1, hp1, hat1, hre1, hg1⟩ := hsl.kidTy hkl (i := 1) (by omega) (by omega); cases hp0; cases hp1; have hmem0 := List.getElem_mem (l := ks) (n := 0) (by omega); have hmem1 := List.getElem_mem (l := ks) (n := 1) (by omega); refine E2 E4 rfl ?_)
 refine J4 (i := 0) (l' := [tt,ff,ff,ff,ff,ff,ff,ff,ff,ff,ff,ff,ff,ff,ff,ff,ff,ff,ff,ff,ff]) rfl D6 (qM rfl) rfl (by kernel_rfl) rfl rfl ?_
 refine aP 1 rfl (qM rfl) rfl ?_
 refine aP 2 rfl (B9 rfl) rfl ?_
 refine aL 3 rfl (C8 rfl rfl) rfl ?_
 refine aP 4 rfl (B6 (j := 0) rfl rfl rfl (by omega)) rfl ?_
 refine aL 5 rfl (A2 rfl rfl (hat0 _) rfl) rfl ?_
 refine aP 6 rfl (qM rfl) rfl ?_
 refine aP 7 rfl (O9 rfl rfl (by omega) (by omega)) rfl ?_
 refine aP 9 rfl (qM rfl) rfl ?_
 refine aP 10 rfl (qM rfl) rfl ?_
 refine aP 11 rfl (B9 rfl) rfl ?_
 refine aL 12 rfl (C8 rfl rfl) rfl ?_
 refine aP 13 rfl (B6 (j := 1) rfl rfl rfl (by omega)) rfl ?_
 refine aL 14 rfl (A2 rfl rfl (hat1 _) rfl) rfl ?_
 refine aP 15 rfl (qM rfl) rfl ?_
 refine aP 16 rfl (O9 rfl rfl (by omega) (by omega)) rfl ?_
 refine A4 8 ?_
 (have hcall := ih m (by omega) (depth - 1) ks[0] p2 _ pc nc cc _ (hfu.kid hmem0) (by omega) (by omega) (by omega) hx hre0 hb (by omega); refine Y9 (l' := [tt,tt,tt,tt,tt,tt,tt,tt,tt,tt,tt,tt,tt,tt,tt,tt,tt,ff,ff,ff,ff]) rfl rfl hcall (Pk.perm (by repeat (first | exact Pk.here | apply Pk.there))) rfl rfl rfl (by repeat (first | exact B2.nil | apply B2.dep (by decide +kernel) | apply B2.im (by decide +kernel) hg0 (by repeat first | exact mH | apply mT) | apply B2.im (by decide +kernel) hg1 (by repeat first | exact mH | apply mT) | apply B2.blk (by decide +kernel) (by repeat (first | exact Pk.here | apply Pk.there)) (by repeat first | exact mH | apply mT))) (fun v Gn outs hles hh => ?_); obtain ⟨ps, hps1, hps2, rfl, es, cs, rfl, hrs, hsms, hcs⟩ := hh; obtain ⟨s1, s2, s3, s4, s5, s6, s7, s8, s9, rfl⟩ := hrs.nine; replace hre1 := hre1.mono hles; replace hx := hx.mono hles; replace hb := hb.mono hles; replace hrt := hrt.mono hles;)
 refine A4 17 ?_
 (have hcall := ih m (by omega) (depth - 1) ks[1] ps _ pc nc cc _ (hfu.kid hmem1) (by omega) (by omega) (by omega) hx hre1 hb (by omega); refine Y9 (l' := [tt,tt,tt,tt,tt,tt,tt,tt,tt,tt,tt,tt,tt,tt,tt,tt,tt,tt,ff,ff,ff]) rfl rfl hcall (Pk.perm (by repeat (first | exact Pk.here | apply Pk.there))) rfl rfl rfl (by repeat (first | exact B2.nil | apply B2.dep (by decide +kernel) | apply B2.im (by decide +kernel) hg0 (by repeat first | exact mH | apply mT) | apply B2.im (by decide +kernel) hg1 (by repeat first | exact mH | apply mT) | apply B2.blk (by decide +kernel) (by repeat (first | exact Pk.here | apply Pk.there)) (by repeat first | exact mH | apply mT))) (fun v Gn outs hlew hh => ?_); obtain ⟨pw, hpw1, hpw2, rfl, ew, cw, rfl, hrw, hsmw, hcw⟩ := hh; obtain ⟨w1, w2, w3, w4, w5, w6, w7, w8, w9, rfl⟩ := hrw.nine; replace hrs := hrs.mono hlew; replace hx := hx.mono hlew; replace hb := hb.mono hlew; replace hrt := hrt.mono hlew;)
 refine A4 18 ?_
 (refine E5 rfl (D0 rfl rfl rfl (by omega) (by unfold maxLen; omega) rfl) rfl rfl ?_; rintro _ ⟨b517, rfl⟩)
 refine A4 19 ?_
 refine N3 rfl rfl ((A0E _ _ _ _ _)) rfl rfl rfl ?_
 refine A4 20 ?_
 refine R5 rfl rfl rfl rfl rfl rfl rfl rfl (by decide +kernel) (by repeat first | exact Sw.here | apply Sw.there) (by rfl) ?_
 refine A3 ?_
 (refine F0 (cs := [s1, s2, s3, s4, s5, s6, s7, s8, s9] ++ [w1, w2, w3, w4, w5, w6, w7, w8, w9]) (by repeat (first | exact Pk.here | apply Pk.there)) (fun G9 hle9 hsl9 hno9 => ?_); have hN := A4m (k := 10) (nm := ⟨⟨[]⟩⟩) ⟨by omega, by omega⟩ (hrs.mono hle9) (hrw.mono hle9) hsl9)
 refine A3 ?_
 refine A00 ?_
 refine H9 (outs := [rd br pb nb cb pw]) (rC rfl (A5 rfl rfl)) (by repeat (first | exact A0.nil | refine A0.cons Pk.here ?_ | refine A0.cons (Pk.there Pk.here) ?_ | refine A0.cons (Pk.there (Pk.there Pk.here)) ?_ | apply A0.drop)) ?_
 (exact ⟨pw, by omega, by omega, rfl, _, _, rfl, hN, by first | exact O3 (by first | assumption | decide) | exact A0G (by decide) (by assumption) (by assumption) (by assumption) | exact T1 (by decide) (by assumption) (by assumption) | exact L0 (by decide) Q0 (by assumption) | exact L0 (by decide) har.small (by assumption) | exact L0 (by decide) Q0 (T1 (by decide) (by assumption) (O3 (by decide))) | exact L0 (by decide) A0H (O3 (by decide)) | assumption, by simp only [D3, E7]; omega⟩)
 refine A8 ?_
 refine sB (qE rfl rfl) rfl rfl (fun h536 => ?_) (fun h536 => ?_)
 refine D1 ?_
 refine sB (W3 rfl rfl) rfl rfl (fun h545 => ?_) (fun h545 => ?_)
 refine A3 ?_
 (have hkk1 : k = 1 := (by omega); refine J2 rfl (Y6 _ br pb nb cb (p2) bs 3 hb hnb (by omega)) (Pk.perm (by repeat (first | exact Pk.here | apply Pk.there))) rfl rfl (fun v Gp outs hle548 hh => ?_); obtain ⟨rfl, rfl, j548, rfl, hj548, hk548⟩ := hh; have hpk23 := hj548)
 replace hb := hb.mono hle548
 replace hrt := hrt.mono hle548
 refine sB (qE rfl rfl) rfl rfl (fun h549 => ?_) (fun h549 => ?_)
 refine E0 ?_
 (have hcall := A3g br pb nb cb bs hnb 1 (p2 + 1) _ (by omega) hb (by have : dB (1 + 1) ≤ 6 := (by decide); omega); refine J2 rfl hcall (Pk.perm (by repeat (first | exact Pk.here | apply Pk.there))) rfl rfl (fun v Gn outs hleF hh => ?_); obtain ⟨pF, hpF1, hpF2, rfl, uF, cuF, rfl, hruF, husF, huhF⟩ := hh; have huaF := huhF.ar; obtain ⟨quF, duF, euF, rfl, _⟩ := hruF.open; have hdBF : dB (1 + 1) ≤ 6 := (by decide); replace hx := hx.mono hleF; replace hb := hb.mono hleF; replace hrt := hrt.mono hleF;)
 refine E3 ?_
 refine sP (O9 rfl rfl (by omega) (by omega)) rfl rfl ?_
 (obtain ⟨m, rfl⟩ := hfu.pos (.inl (by omega)); have hmB : mB (m + 1) = 3 * mB m + 200 := rfl; have hgm := A1z m; have hcall := ih m (by omega) (depth - 1) uF pF _ pc nc cc _ (hfu.sub (by omega) (huhF.le (by omega))) (by omega) (by omega) (by omega) hx hruF hb (by omega); refine J2 rfl hcall (Pk.perm (by repeat (first | exact Pk.here | apply Pk.there))) rfl rfl (fun v Gn outs hlex hh => ?_); obtain ⟨px, hpx1, hpx2, rfl, ex, cx, rfl, hrx, hsmx, hcx⟩ := hh; obtain ⟨x1, x2, x3, x4, x5, x6, x7, x8, x9, rfl⟩ := hrx.nine; replace hx := hx.mono hlex; replace hb := hb.mono hlex; replace hrt := hrt.mono hlex;)
 refine sS rfl rfl rfl rfl hrx.one rfl ?_
 refine B0 ?_
 refine A00 ?_
 refine H9 (outs := [rd br pb nb cb px]) (rC rfl (A5 rfl rfl)) (by repeat (first | exact A0.nil | refine A0.cons Pk.here ?_ | refine A0.cons (Pk.there Pk.here) ?_ | refine A0.cons (Pk.there (Pk.there Pk.here)) ?_ | apply A0.drop)) ?_
 (exact ⟨px, by omega, by omega, rfl, _, _, rfl, hrx, hsmx, by omega⟩)
 refine E0 ?_
 (refine J2 rfl (Y6 _ br pb nb cb (p2 + 1) bs 3 hb hnb (by omega)) (Pk.perm (by repeat (first | exact Pk.here | apply Pk.there))) rfl rfl (fun v Gp outs hle581 hh => ?_); obtain ⟨rfl, rfl, j581, rfl, hj581, hk581⟩ := hh; have hpk21 := hj581)
 replace hb := hb.mono hle581
 replace hrt := hrt.mono hle581
 refine sB (qE rfl rfl) rfl rfl (fun h582 => ?_) (fun h582 => ?_)
 refine B0 ?_
 refine E8 rfl ((A1q _)) rfl rfl ?_
 refine E3 ?_
 (refine I3 (D0 rfl rfl rfl (by omega) (by unfold maxLen; omega) rfl) rfl ?_; rintro _ ⟨b590, rfl⟩)
 refine B4 ?_
 (refine F0 (cs := [.int .i64 4, .string ⟨⟨[]⟩⟩, .int .i64 0, .int .i64 0, .slice none 0 0, .int .i64 0, .slice none 0 0, .int .i64 0, .slice none 0 0]) (by repeat (first | exact Pk.here | apply Pk.there)) (fun G9 hle9 hsl9 hno9 => ?_); have hN := A4l (k := 13) (nm := ⟨⟨[]⟩⟩) ⟨by omega, by omega⟩ (A0O _) (A2m G9 ⟨⟨[]⟩⟩ 0 (k := 4) ⟨by omega, by omega⟩ ⟨by omega, by omega⟩) hsl9)
 refine A3 ?_
 refine A00 ?_
 refine H9 (outs := [rd br pb nb cb (p2 + 1 + 1)]) (rC rfl (A5 rfl rfl)) (by repeat (first | exact A0.nil | refine A0.cons Pk.here ?_ | refine A0.cons (Pk.there Pk.here) ?_ | refine A0.cons (Pk.there (Pk.there Pk.here)) ?_ | apply A0.drop)) ?_
 (exact ⟨(p2 + 1 + 1), by omega, by omega, rfl, _, _, rfl, hN, by first | exact O3 (by first | assumption | decide) | exact A0G (by decide) (by assumption) (by assumption) (by assumption) | exact T1 (by decide) (by assumption) (by assumption) | exact L0 (by decide) Q0 (by assumption) | exact L0 (by decide) har.small (by assumption) | exact L0 (by decide) Q0 (T1 (by decide) (by assumption) (O3 (by decide))) | exact L0 (by decide) A0H (O3 (by decide)) | assumption, by simp only [D3, E7]; omega⟩)
 refine B0 ?_
 refine A4o (p2 + 1 + 1, Gp) (K2 (by repeat (first | exact D8.nil | refine D8.cons rfl ?_)) (by repeat (first | exact A0.refl | exact A0.nil | refine A0.cons (by repeat (first | exact Pk.here | apply Pk.there)) ?_ | apply A0.drop))) ⟨C2.refl _, by dsimp only; omega, by dsimp only; omega⟩
 refine J7 ?_
 (have hkk1 : k = 1 := (by omega); refine J2 rfl (Y6 _ br pb nb cb (p2) bs 3 hb hnb (by omega)) (Pk.perm (by repeat (first | exact Pk.here | apply Pk.there))) rfl rfl (fun v Gp outs hle620 hh => ?_); obtain ⟨rfl, rfl, j620, rfl, hj620, hk620⟩ := hh; have hpk23 := hj620)
 replace hb := hb.mono hle620
 replace hrt := hrt.mono hle620
 refine sB (qE rfl rfl) rfl rfl (fun h621 => ?_) (fun h621 => ?_)
 refine B0 ?_
 refine E8 rfl ((A1q _)) rfl rfl ?_
 refine E3 ?_
 (refine I3 (D0 rfl rfl rfl (by omega) (by unfold maxLen; omega) rfl) rfl ?_; rintro _ ⟨b629, rfl⟩)
 refine B4 ?_
 (refine F0 (cs := [.int .i64 4, .string ⟨⟨[]⟩⟩, .int .i64 0, .int .i64 0, .slice none 0 0, .int .i64 0, .slice none 0 0, .int .i64 0, .slice none 0 0]) (by repeat (first | exact Pk.here | apply Pk.there)) (fun G9 hle9 hsl9 hno9 => ?_); have hN := A4l (k := 13) (nm := ⟨⟨[]⟩⟩) ⟨by omega, by omega⟩ (A0O _) (A2m G9 ⟨⟨[]⟩⟩ 0 (k := 4) ⟨by omega, by omega⟩ ⟨by omega, by omega⟩) hsl9)
 refine A3 ?_
 refine A00 ?_
 refine H9 (outs := [rd br pb nb cb (p2 + 1)]) (rC rfl (A5 rfl rfl)) (by repeat (first | exact A0.nil | refine A0.cons Pk.here ?_ | refine A0.cons (Pk.there Pk.here) ?_ | refine A0.cons (Pk.there (Pk.there Pk.here)) ?_ | apply A0.drop)) ?_
 (exact ⟨(p2 + 1), by omega, by omega, rfl, _, _, rfl, hN, by first | exact O3 (by first | assumption | decide) | exact A0G (by decide) (by assumption) (by assumption) (by assumption) | exact T1 (by decide) (by assumption) (by assumption) | exact L0 (by decide) Q0 (by assumption) | exact L0 (by decide) har.small (by assumption) | exact L0 (by decide) Q0 (T1 (by decide) (by assumption) (O3 (by decide))) | exact L0 (by decide) A0H (O3 (by decide)) | assumption, by simp only [D3, E7]; omega⟩)
 refine B0 ?_
 refine A4o (p2 + 1, Gp) (K2 (by repeat (first | exact D8.nil | refine D8.cons rfl ?_)) (by repeat (first | exact A0.refl | exact A0.nil | refine A0.cons (by repeat (first | exact Pk.here | apply Pk.there)) ?_ | apply A0.drop))) ⟨C2.refl _, by dsimp only; omega, by dsimp only; omega⟩
 refine A8 ?_
 refine A4o (p2, G2) (K2 (by repeat (first | exact D8.nil | refine D8.cons rfl ?_)) (by repeat (first | exact A0.refl | exact A0.nil | refine A0.cons (by repeat (first | exact Pk.here | apply Pk.there)) ?_ | apply A0.drop))) ⟨C2.refl _, by dsimp only; omega, by dsimp only; omega⟩
 (have hq := hcut1; rintro ⟨(p5 : Nat), G5⟩ ⟨hle5c, hp5a, hp5b⟩; simp only [] at hle5c hp5a hp5b ⊢; have hcut2 := hp5a; replace hx := hx.mono hle5c; replace hb := hb.mono hle5c; replace hrt := hrt.mono hle5c;)
 refine B4 ?_
 refine sB (W3 rfl rfl) rfl rfl (fun h658 => ?_) (fun h658 => ?_)
 refine A3 ?_
 (refine J2 rfl (Y6 _ br pb nb cb (p5) bs 2 hb hnb (by omega)) (Pk.perm (by repeat (first | exact Pk.here | apply Pk.there))) rfl rfl (fun v Gp outs hle661 hh => ?_); obtain ⟨rfl, rfl, j661, rfl, hj661, hk661⟩ := hh; have hpk5 := hj661)
 replace hb := hb.mono hle661
 replace hrt := hrt.mono hle661
 refine sB (qE rfl rfl) rfl rfl (fun h662 => ?_) (fun h662 => ?_)
 refine E0 ?_
 refine E8 rfl ((A0D _)) rfl rfl ?_
 (have hz2 : K6 (.mk 2 []) = 0 := rfl; have hcall := A6N br pb nb cb bs hnb (.mk 2 []) (p5 + 1) _ _ (W5 (by decide) (by decide)) (O1 _ ⟨by omega, by omega⟩) hb (by omega); refine J2 rfl hcall (Pk.perm (by repeat (first | exact Pk.here | apply Pk.there))) rfl rfl (fun v Gn outs hleG hh => ?_); obtain ⟨pG, hpG1, hpG2, rfl, uG, cuG, rfl, hruG, huaG, husG, huhG⟩ := hh; obtain ⟨quG, duG, euG, rfl, _⟩ := hruG.open; replace hx := hx.mono hleG; replace hb := hb.mono hleG; replace hrt := hrt.mono hleG;)
 refine E3 ?_
 refine sP (O9 rfl rfl (by omega) (by omega)) rfl rfl ?_
 (obtain ⟨m, rfl⟩ := hfu.pos (.inl (by omega)); have hmB : mB (m + 1) = 3 * mB m + 200 := rfl; have hgm := A1z m; have hcall := ih m (by omega) (depth - 1) uG pG _ pc nc cc _ (hfu.sub (by omega) (huhG 4 (A3b 4 (by decide) (by decide)))) (by omega) (by omega) (by omega) hx hruG hb (by omega); refine J2 rfl hcall (Pk.perm (by repeat (first | exact Pk.here | apply Pk.there))) rfl rfl (fun v Gn outs hley hh => ?_); obtain ⟨py, hpy1, hpy2, rfl, ey, cy, rfl, hry, hsmy, hcy⟩ := hh; obtain ⟨y1, y2, y3, y4, y5, y6, y7, y8, y9, rfl⟩ := hry.nine; replace hx := hx.mono hley; replace hb := hb.mono hley; replace hrt := hrt.mono hley;)
 refine A3 ?_
 refine E8 rfl ((A0D _)) rfl rfl ?_
 refine E3 ?_
 refine sP (O9 rfl rfl (by omega) (by omega)) rfl rfl ?_
 (have hcall := ih m (by omega) (depth - 1) (.mk 2 []) py _ pc nc cc _ (hfu.sub (by omega) (A3b 4 (by decide) (by decide))) (by omega) (by omega) (by omega) hx (O1 _ ⟨by omega, by omega⟩) hb (by omega); refine J2 rfl hcall (Pk.perm (by repeat (first | exact Pk.here | apply Pk.there))) rfl rfl (fun v Gn outs hlec hh => ?_); obtain ⟨pc, hpc1, hpc2, rfl, ec, cc, rfl, hrc, hsmc, hcc⟩ := hh; obtain ⟨c1, c2, c3, c4, c5, c6, c7, c8, c9, rfl⟩ := hrc.nine; replace hry := hry.mono hlec; replace hx := hx.mono hlec; replace hb := hb.mono hlec; replace hrt := hrt.mono hlec;)
 (refine I3 (D0 rfl rfl rfl (by omega) (by unfold maxLen; omega) rfl) rfl ?_; rintro _ ⟨b683, rfl⟩)
 refine E8 rfl ((A0E _ _ _ _ _)) rfl rfl ?_
 refine B7 ?_
 (refine F0 (cs := [y1, y2, y3, y4, y5, y6, y7, y8, y9] ++ [c1, c2, c3, c4, c5, c6, c7, c8, c9]) (by repeat (first | exact Pk.here | apply Pk.there)) (fun G9 hle9 hsl9 hno9 => ?_); have hN := A4m (k := 7) (nm := ⟨⟨[]⟩⟩) ⟨by omega, by omega⟩ (hry.mono hle9) (hrc.mono hle9) hsl9)
 refine A3 ?_
 refine H9 (outs := [rd br pb nb cb pc]) (rC rfl (A5 rfl rfl)) (by repeat (first | exact A0.nil | refine A0.cons Pk.here ?_ | refine A0.cons (Pk.there Pk.here) ?_ | refine A0.cons (Pk.there (Pk.there Pk.here)) ?_ | apply A0.drop)) ?_
 (exact ⟨pc, by omega, by omega, rfl, _, _, rfl, hN, by first | exact O3 (by first | assumption | decide) | exact A0G (by decide) (by assumption) (by assumption) (by assumption) | exact T1 (by decide) (by assumption) (by assumption) | exact L0 (by decide) Q0 (by assumption) | exact L0 (by decide) har.small (by assumption) | exact L0 (by decide) Q0 (T1 (by decide) (by assumption) (O3 (by decide))) | exact L0 (by decide) A0H (O3 (by decide)) | assumption, by simp only [D3, E7]; omega⟩)
 refine E0 ?_
 (refine I3 (D0 rfl rfl rfl (by omega) (by unfold maxLen; omega) rfl) rfl ?_; rintro _ ⟨b702, rfl⟩)
 (refine R9 (by repeat (first | exact Pk.here | apply Pk.there)) (fun G4 hle4 hsl4 _ => ?_); refine J2 rfl (Z0 G4 br pb nb cb (p5 + 1) bs _ _ _ _ (hb.mono hle4) hnb (by omega) hsl4 (by decide)) (Pk.perm (by repeat (first | exact Pk.here | apply Pk.there))) rfl rfl (fun v G7 outs hle7 hh => ?_); obtain ⟨rfl, rfl, hv⟩ := hh; obtain ⟨kn, rfl, hkn⟩ : ∃ k, v = .int .i64 k ∧ F8 k := (by simp only [List.mem_cons, List.not_mem_nil, or_false] at hv; rcases hv with rfl | rfl | rfl | rfl | rfl <;> exact ⟨_, rfl, by unfold F8; omega⟩))
 refine E8 rfl ((A17 _ _)) rfl rfl ?_
 refine B4 ?_
 refine H9 (outs := [rd br pb nb cb (p5 + 1 + 1)]) (rC rfl (A5 rfl rfl)) (by repeat (first | exact A0.nil | refine A0.cons Pk.here ?_ | refine A0.cons (Pk.there Pk.here) ?_ | refine A0.cons (Pk.there (Pk.there Pk.here)) ?_ | apply A0.drop)) ?_
 (exact ⟨(p5 + 1 + 1), by omega, by omega, rfl, _, _, rfl, A2m _ _ _ ⟨by omega, by omega⟩ (by first | exact ⟨by omega, by omega⟩ | exact hkn), by first | exact O3 (by first | assumption | decide) | exact A0G (by decide) (by assumption) (by assumption) (by assumption) | exact T1 (by decide) (by assumption) (by assumption) | exact L0 (by decide) Q0 (by assumption) | exact L0 (by decide) har.small (by assumption) | exact L0 (by decide) Q0 (T1 (by decide) (by assumption) (O3 (by decide))) | exact L0 (by decide) A0H (O3 (by decide)) | assumption, by simp only [D3, E7]; omega⟩)
 refine J7 ?_
 (refine I3 (D0 rfl rfl rfl (by omega) (by unfold maxLen; omega) rfl) rfl ?_; rintro _ ⟨b724, rfl⟩)
 (refine R9 (by repeat (first | exact Pk.here | apply Pk.there)) (fun G4 hle4 hsl4 _ => ?_); refine J2 rfl (Z0 G4 br pb nb cb p5 bs _ _ _ _ (hb.mono hle4) hnb (by omega) hsl4 (by decide)) (Pk.perm (by repeat (first | exact Pk.here | apply Pk.there))) rfl rfl (fun v G7 outs hle7 hh => ?_); obtain ⟨rfl, rfl, hv⟩ := hh; obtain ⟨kn, rfl, hkn⟩ : ∃ k, v = .int .i64 k ∧ F8 k := (by simp only [List.mem_cons, List.not_mem_nil, or_false] at hv; rcases hv with rfl | rfl | rfl | rfl | rfl <;> exact ⟨_, rfl, by unfold F8; omega⟩))
 refine E8 rfl ((A17 _ _)) rfl rfl ?_
 refine B4 ?_
 refine H9 (outs := [rd br pb nb cb (p5 + 1)]) (rC rfl (A5 rfl rfl)) (by repeat (first | exact A0.nil | refine A0.cons Pk.here ?_ | refine A0.cons (Pk.there Pk.here) ?_ | refine A0.cons (Pk.there (Pk.there Pk.here)) ?_ | apply A0.drop)) ?_
 (exact ⟨(p5 + 1), by omega, by omega, rfl, _, _, rfl, A2m _ _ _ ⟨by omega, by omega⟩ (by first | exact ⟨by omega, by omega⟩ | exact hkn), by first | exact O3 (by first | assumption | decide) | exact A0G (by decide) (by assumption) (by assumption) (by assumption) | exact T1 (by decide) (by assumption) (by assumption) | exact L0 (by decide) Q0 (by assumption) | exact L0 (by decide) har.small (by assumption) | exact L0 (by decide) Q0 (T1 (by decide) (by assumption) (O3 (by decide))) | exact L0 (by decide) A0H (O3 (by decide)) | assumption, by simp only [D3, E7]; omega⟩)
theorem A0c.openA {a b : List Ty} {G' : IM} {v : Value} {outs : List A6} {m : Nat} (h : A0c (a ++ b) G' v outs) (hm : a.length = m) :
  ∃ p c es, v = .slice p (m + b.length) c ∧ outs = [.slc p c 34 2 (m + b.length) es.flatten] ∧ C9 G' (a ++ b) es := by
 subst hm
 rw [← List.length_append]
 exact h
theorem B1W {Q : Prop} (h : Q := by (exact ⟨Nat.zero_le _, hle1, (by show C9 G1 ((l ++ [Ty.mk tk tks]) ++ I0 (ks.take 0)) _; rw [List.take_zero, I0, List.append_nil]; exact hinit), by simp [I0]⟩)) : Q := h
theorem A7Q {Q : Prop} (h : Q := by (dsimp only; exact ⟨by omega, hle.trans hle3, by rw [A1j (by omega), ← List.append_assoc]; exact hr3, by rw [A1j (by omega), ← List.append_assoc, List.length_append, hlen0]⟩)) : Q := h
theorem B7G : ∀ (t : Tm) (l : List Ty) (G : IM) (cells : List Value) (p : Option Addr) (c : Nat) (es : List (List Value)), t.small → l.length + D3 t ≤ 4000000 → B1 G t cells → C9 G l es →
  Fn Tryz.prog 136 [.slice p l.length c, .agg ⟨cells⟩] [.slc p c 34 2 l.length es.flatten] G (A0c (l ++ H0 t)) := by
 refine Tm.ind fun k nm num ty fr lb ks ih l G cells p c es0 hts hcnt hr hl0 => ?_
 have hone := hr.one
 simp only [Tm.small] at hts
 obtain ⟨_, hty', _, hsm, hks⟩ := hts
 have hcy : k = 5 ∨ k = 13 → H0 (.mk k nm num ty fr lb ks) = [ty] ++ I0 ks := fun h => by rw [H0, if_pos h]
 have hcn : ¬ (k = 5 ∨ k = 13) → H0 (.mk k nm num ty fr lb ks) = I0 ks := fun h => by rw [H0, if_neg h, List.nil_append]
 rw [D3] at hcnt
 obtain ⟨tk, tks⟩ := ty
 obtain ⟨fk, fks⟩ := fr
 obtain ⟨pt, ct, pf, cf, q, cq, ek, rfl, hk, hnum, hlb, hty, hfr, hsl, hkl⟩ := hr.open9
 have hn := hsl.le
 refine C1 Tryz.func136 rfl Tryz.ntmps136 Tryz.results136 rfl ?_
 intro w0
 refine A3 ?_
 refine sE (C7 rfl rfl) rfl (fun b3 => ?_)
 refine D1 ?_
 refine sB (qE rfl rfl) rfl rfl (fun h12 => ?_) (fun h12 => ?_)
 refine K5 ?_
 (refine D9 rfl (P7 (.mk tk tks) G _ hty' hty) rfl rfl (fun v G1 hle1 hh => ?_); obtain ⟨cs1, F1, rfl, hs1, hn1⟩ := hh; have hr1 := hs1.R.mono (C5.le _ _); obtain ⟨p1, c1, rfl, _⟩ := hs1.open)
 (refine I3 (D0 rfl rfl rfl (by omega) (by unfold maxLen; omega) rfl) rfl ?_; rintro _ ⟨b26, rfl⟩)
 (refine Y5 rfl rfl rfl rfl rfl (fun _ _ => by repeat (first | exact Sw.here | apply Sw.there)) (M1 (by repeat first | exact mH | apply mT)) rfl (by simp [Value.oneCell']) (by unfold maxLen; omega) (by omega) rfl (fun pn0 cn0 => ?_))
 refine E0 ?_
 refine C0 ?_
 (have h14 := hcy (by omega); have hinit := C9.append (hl0.mono hle1) (C9.one1 hr1); refine J0 (fun (x : Nat × Nat × Option Addr × Nat × List (List Value) × IM) => ⟨[(5, .int .i64 x.1), (3, .pointer (some ⟨b3, 0, none⟩)), (0, .slice x.2.2.1 x.2.1 x.2.2.2.1)], [.slc x.2.2.1 x.2.2.2.1 34 2 x.2.1 x.2.2.2.2.1.flatten, .blk b3 [.int .i64 k, .string nm, .int .i64 num, .int .i64 tk, .slice pt tks.length ct, .int .i64 fk, .slice pf fks.length cf, .int .i64 lb, .slice q ks.length cq]], x.2.2.2.2.2⟩) (fun x => x.1 ≤ ks.length ∧ C2 G x.2.2.2.2.2 ∧ C9 x.2.2.2.2.2 ((l ++ [Ty.mk tk tks]) ++ I0 (ks.take x.1)) x.2.2.2.2.1 ∧ ((l ++ [Ty.mk tk tks]) ++ I0 (ks.take x.1)).length = x.2.1) (fun x => ks.length - x.1) (0, l.length + 1, pn0, cn0, es0 ++ [[.int .i64 tk, .slice p1 tks.length c1]], G1) (by simp only [List.flatten_append, List.flatten_cons, List.flatten_nil, List.append_nil]; exact (K2 (by repeat (first | exact D8.nil | refine D8.cons rfl ?_)) (by repeat (first | exact A0.refl | exact A0.nil | refine A0.cons (by repeat (first | exact Pk.here | apply Pk.there)) ?_ | apply A0.drop)))) ?_ ?_)
 exact B1W
 (rintro ⟨(i : Nat), (m : Nat), pn, cn, es, Gi⟩ ⟨hi, hle, hst, hlen⟩; simp only [] at hi hle hst hlen ⊢; replace hsl := hsl.mono hle; replace hkl := hkl.mono hle; have hb1 := A0Z (ks.take i); have hb2 := A0Z ks; have hlen0 := hlen; simp only [List.length_append, List.length_singleton, List.length_nil] at hlen)
 refine B5 ?_
 refine sB (I8 rfl rfl) rfl rfl (fun h48 => ?_) (fun h48 => ?_)
 refine A8 ?_
 refine C0 ?_
 refine B0 ?_
 (obtain ⟨b, o, e, rfl, hl, hat, hre, hgb⟩ := hsl.kidTm hkl (i := i) (by omega) (by omega); have hone9 := hre.one; have hsc := A0M (ks := ks) (i := i) (by omega); have hsk := A0L (ks := ks) (i := i) (by omega); refine sP (B6 rfl rfl rfl (by omega)) rfl rfl ?_)
 refine sL (A2 rfl rfl (hat _) hl) rfl rfl ?_
 (have hih := ih ks[i] (List.getElem_mem (by omega)) _ Gi e pn cn es (Tm.smallL_mem hks _ (List.getElem_mem (by omega))) (by simp only [List.length_append, List.length_singleton]; omega) hre hst; rw [hlen0] at hih; refine J2 rfl hih (Pk.perm (by repeat (first | exact Pk.here | apply Pk.there))) rfl rfl (fun v3 G3 outs hle3 hh => ?_); obtain ⟨p3, c3, e3, rfl, rfl, hr3⟩ := A0c.openA hh hlen0)
 refine A8 ?_
 refine sP (H5 rfl rfl (by omega) (by omega)) rfl rfl ?_
 refine A3 ?_
 (refine I1 (i + 1, m + (H0 ks[i]).length, p3, c3, e3, G3) ?_ ?_ ?_)
 (simp only [H6]; exact D2)
 exact A7Q
 exact V0
 refine J9 ?_
 (obtain rfl : i = ks.length := (by omega))
 refine tT ?_
 refine H9 (outs := [.slc pn cn 34 2 m es.flatten]) (rT rfl) (A0.cons (by repeat (first | exact Pk.here | apply Pk.there)) A0.nil) ?_
 (rw [h14]; rw [List.take_length] at hst hlen; first | exact A0c.mk (by simp only [List.length_append, List.length_singleton, List.length_nil]; omega) hst | (rw [← List.append_assoc]; exact A0c.mk (by simp only [List.length_append, List.length_singleton, List.length_nil]; omega) hst))
 refine B7 ?_
 refine sB (qE rfl rfl) rfl rfl (fun h98 => ?_) (fun h98 => ?_)
 refine D1 ?_
 (refine D9 rfl (P7 (.mk tk tks) G _ hty' hty) rfl rfl (fun v G1 hle1 hh => ?_); obtain ⟨cs1, F1, rfl, hs1, hn1⟩ := hh; have hr1 := hs1.R.mono (C5.le _ _); obtain ⟨p1, c1, rfl, _⟩ := hs1.open)
 (refine I3 (D0 rfl rfl rfl (by omega) (by unfold maxLen; omega) rfl) rfl ?_; rintro _ ⟨b108, rfl⟩)
 (refine Y5 rfl rfl rfl rfl rfl (fun _ _ => by repeat (first | exact Sw.here | apply Sw.there)) (M1 (by repeat first | exact mH | apply mT)) rfl (by simp [Value.oneCell']) (by unfold maxLen; omega) (by omega) rfl (fun pn0 cn0 => ?_))
 refine E0 ?_
 refine C0 ?_
 (have h14 := hcy (by omega); have hinit := C9.append (hl0.mono hle1) (C9.one1 hr1); refine J0 (fun (x : Nat × Nat × Option Addr × Nat × List (List Value) × IM) => ⟨[(5, .int .i64 x.1), (3, .pointer (some ⟨b3, 0, none⟩)), (0, .slice x.2.2.1 x.2.1 x.2.2.2.1)], [.slc x.2.2.1 x.2.2.2.1 34 2 x.2.1 x.2.2.2.2.1.flatten, .blk b3 [.int .i64 k, .string nm, .int .i64 num, .int .i64 tk, .slice pt tks.length ct, .int .i64 fk, .slice pf fks.length cf, .int .i64 lb, .slice q ks.length cq]], x.2.2.2.2.2⟩) (fun x => x.1 ≤ ks.length ∧ C2 G x.2.2.2.2.2 ∧ C9 x.2.2.2.2.2 ((l ++ [Ty.mk tk tks]) ++ I0 (ks.take x.1)) x.2.2.2.2.1 ∧ ((l ++ [Ty.mk tk tks]) ++ I0 (ks.take x.1)).length = x.2.1) (fun x => ks.length - x.1) (0, l.length + 1, pn0, cn0, es0 ++ [[.int .i64 tk, .slice p1 tks.length c1]], G1) (by simp only [List.flatten_append, List.flatten_cons, List.flatten_nil, List.append_nil]; exact (K2 (by repeat (first | exact D8.nil | refine D8.cons rfl ?_)) (by repeat (first | exact A0.refl | exact A0.nil | refine A0.cons (by repeat (first | exact Pk.here | apply Pk.there)) ?_ | apply A0.drop)))) ?_ ?_)
 exact B1W
 (rintro ⟨(i : Nat), (m : Nat), pn, cn, es, Gi⟩ ⟨hi, hle, hst, hlen⟩; simp only [] at hi hle hst hlen ⊢; replace hsl := hsl.mono hle; replace hkl := hkl.mono hle; have hb1 := A0Z (ks.take i); have hb2 := A0Z ks; have hlen0 := hlen; simp only [List.length_append, List.length_singleton, List.length_nil] at hlen)
 refine B5 ?_
 refine sB (I8 rfl rfl) rfl rfl (fun h130 => ?_) (fun h130 => ?_)
 refine A8 ?_
 refine C0 ?_
 refine B0 ?_
 (obtain ⟨b, o, e, rfl, hl, hat, hre, hgb⟩ := hsl.kidTm hkl (i := i) (by omega) (by omega); have hone9 := hre.one; have hsc := A0M (ks := ks) (i := i) (by omega); have hsk := A0L (ks := ks) (i := i) (by omega); refine sP (B6 rfl rfl rfl (by omega)) rfl rfl ?_)
 refine sL (A2 rfl rfl (hat _) hl) rfl rfl ?_
 (have hih := ih ks[i] (List.getElem_mem (by omega)) _ Gi e pn cn es (Tm.smallL_mem hks _ (List.getElem_mem (by omega))) (by simp only [List.length_append, List.length_singleton]; omega) hre hst; rw [hlen0] at hih; refine J2 rfl hih (Pk.perm (by repeat (first | exact Pk.here | apply Pk.there))) rfl rfl (fun v3 G3 outs hle3 hh => ?_); obtain ⟨p3, c3, e3, rfl, rfl, hr3⟩ := A0c.openA hh hlen0)
 refine A8 ?_
 refine sP (H5 rfl rfl (by omega) (by omega)) rfl rfl ?_
 refine A3 ?_
 (refine I1 (i + 1, m + (H0 ks[i]).length, p3, c3, e3, G3) ?_ ?_ ?_)
 (simp only [H6]; exact D2)
 exact A7Q
 exact V0
 refine J9 ?_
 (obtain rfl : i = ks.length := (by omega))
 refine tT ?_
 refine H9 (outs := [.slc pn cn 34 2 m es.flatten]) (rT rfl) (A0.cons (by repeat (first | exact Pk.here | apply Pk.there)) A0.nil) ?_
 (rw [h14]; rw [List.take_length] at hst hlen; first | exact A0c.mk (by simp only [List.length_append, List.length_singleton, List.length_nil]; omega) hst | (rw [← List.append_assoc]; exact A0c.mk (by simp only [List.length_append, List.length_singleton, List.length_nil]; omega) hst))
 refine K5 ?_
 refine C0 ?_
 (have h14 := hcn (by omega); refine J0 (fun (x : Nat × Nat × Option Addr × Nat × List (List Value) × IM) => ⟨[(5, .int .i64 x.1), (3, .pointer (some ⟨b3, 0, none⟩)), (0, .slice x.2.2.1 x.2.1 x.2.2.2.1)], [.slc x.2.2.1 x.2.2.2.1 34 2 x.2.1 x.2.2.2.2.1.flatten, .blk b3 [.int .i64 k, .string nm, .int .i64 num, .int .i64 tk, .slice pt tks.length ct, .int .i64 fk, .slice pf fks.length cf, .int .i64 lb, .slice q ks.length cq]], x.2.2.2.2.2⟩) (fun x => x.1 ≤ ks.length ∧ C2 G x.2.2.2.2.2 ∧ C9 x.2.2.2.2.2 (l ++ I0 (ks.take x.1)) x.2.2.2.2.1 ∧ (l ++ I0 (ks.take x.1)).length = x.2.1) (fun x => ks.length - x.1) (0, l.length, p, c, es0, G) ?_ ?_ ?_)
 (simp only [H6]; exact D2)
 (exact ⟨Nat.zero_le _, C2.refl _, by simpa [I0] using hl0, by simp [I0]⟩)
 (rintro ⟨(i : Nat), (m : Nat), pn, cn, es, Gi⟩ ⟨hi, hle, hst, hlen⟩; simp only [] at hi hle hst hlen ⊢; replace hsl := hsl.mono hle; replace hkl := hkl.mono hle; have hb1 := A0Z (ks.take i); have hb2 := A0Z ks; have hlen0 := hlen; simp only [List.length_append, List.length_singleton, List.length_nil] at hlen)
 refine B5 ?_
 refine sB (I8 rfl rfl) rfl rfl (fun h201 => ?_) (fun h201 => ?_)
 refine A8 ?_
 refine C0 ?_
 refine B0 ?_
 (obtain ⟨b, o, e, rfl, hl, hat, hre, hgb⟩ := hsl.kidTm hkl (i := i) (by omega) (by omega); have hone9 := hre.one; have hsc := A0M (ks := ks) (i := i) (by omega); have hsk := A0L (ks := ks) (i := i) (by omega); refine sP (B6 rfl rfl rfl (by omega)) rfl rfl ?_)
 refine sL (A2 rfl rfl (hat _) hl) rfl rfl ?_
 (have hih := ih ks[i] (List.getElem_mem (by omega)) _ Gi e pn cn es (Tm.smallL_mem hks _ (List.getElem_mem (by omega))) (by simp only [List.length_append, List.length_singleton]; omega) hre hst; rw [hlen0] at hih; refine J2 rfl hih (Pk.perm (by repeat (first | exact Pk.here | apply Pk.there))) rfl rfl (fun v3 G3 outs hle3 hh => ?_); obtain ⟨p3, c3, e3, rfl, rfl, hr3⟩ := A0c.openA hh hlen0)
 refine A8 ?_
 refine sP (H5 rfl rfl (by omega) (by omega)) rfl rfl ?_
 refine A3 ?_
 (refine I1 (i + 1, m + (H0 ks[i]).length, p3, c3, e3, G3) ?_ ?_ ?_)
 (simp only [H6]; exact D2)
 exact A7Q
 exact V0
 refine J9 ?_
 (obtain rfl : i = ks.length := (by omega))
 refine tT ?_
 refine H9 (outs := [.slc pn cn 34 2 m es.flatten]) (rT rfl) (A0.cons (by repeat (first | exact Pk.here | apply Pk.there)) A0.nil) ?_
 (rw [h14]; rw [List.take_length] at hst hlen; first | exact A0c.mk (by simp only [List.length_append, List.length_singleton, List.length_nil]; omega) hst | (rw [← List.append_assoc]; exact A0c.mk (by simp only [List.length_append, List.length_singleton, List.length_nil]; omega) hst))
def R8 (t : Tm) : List Ty := if N9 t = true then H0 t else []
theorem A7R (t : Tm) (G : IM) (cells : List Value) (hts : t.small) (hcnt : D3 t ≤ 4000000) (hr : B1 G t cells) : Fn Tryz.prog 93 [.agg ⟨cells⟩] [] G (A0c (R8 t)) := by
 have hl := hr.len
 have hone := hr.one
 have hv := A4Z t G cells (by omega) hr
 have hno : N9 t = false → R8 t = [] := fun h => by unfold R8; rw [h]; rfl
 have hyes : N9 t = true → R8 t = H0 t := fun h => by unfold R8; rw [h]; rfl
 refine C1 Tryz.func93 rfl Tryz.ntmps93 Tryz.results93 rfl ?_
 intro w0
 refine A3 ?_
 refine sE (C7 rfl rfl) rfl (fun b3 => ?_)
 refine A8 ?_
 refine sL (A2 rfl rfl (A9 (by repeat first | exact mH | apply mT)) (by assumption)) rfl rfl ?_
 refine F4 rfl (hv) rfl rfl (fun h11 => ?_) (fun h11 => ?_)
 refine D1 ?_
 (refine I3 (D0 rfl rfl rfl (by omega) (by unfold maxLen; omega) rfl) rfl ?_; rintro _ ⟨b20, rfl⟩)
 refine sL (A2 rfl rfl (A9 (by repeat first | exact mH | apply mT)) (by assumption)) rfl rfl ?_
 (refine J2 rfl (B7G t [] G cells _ 0 [] hts (by simp; omega) hr (by simp [C9])) (Pk.perm (by repeat (first | exact Pk.here | apply Pk.there))) rfl rfl (fun v3 G3 outs hle3 hh => ?_); obtain ⟨p3, c3, e3, rfl, rfl, hr3⟩ := hh)
 refine B4 ?_
 refine H9 (outs := [.slc p3 c3 34 2 ([] ++ H0 t).length e3.flatten]) (rT rfl) (A0.cons (by repeat (first | exact Pk.here | apply Pk.there)) A0.nil) ?_
 (rw [hyes (by assumption)]; exact ⟨p3, c3, e3, rfl, rfl, hr3⟩)
 refine A8 ?_
 (refine I3 (D0 rfl rfl rfl (by omega) (by unfold maxLen; omega) rfl) rfl ?_; rintro _ ⟨b35, rfl⟩)
 refine B0 ?_
 refine H9 (rT rfl) (A0.cons Pk.here A0.nil) ?_
 (rw [hno (by assumption)]; exact ⟨_, _, [], rfl, rfl, by simp [C9]⟩)
theorem A7S (t : Tm) (G : IM) (cells : List Value) (hts : t.small) (hcnt : D3 t ≤ 4000000) (hr : B1 G t cells) : Fn Tryz.prog 42 [.agg ⟨cells⟩] [] G (K1 fun _ v => v = .int .i64 ((R8 t).length : Int)) := by
 have hl := hr.len
 have hone := hr.one
 refine C1 Tryz.func42 rfl Tryz.ntmps42 Tryz.results42 rfl ?_
 intro w0
 refine A3 ?_
 refine sE (C7 rfl rfl) rfl (fun b3 => ?_)
 refine B0 ?_
 refine sL (A2 rfl rfl (A9 (by repeat first | exact mH | apply mT)) (by assumption)) rfl rfl ?_
 (refine U6 rfl (A7R t G cells hts hcnt hr) rfl rfl (fun v G1 outs hle1 hh => ?_); obtain ⟨p1, c1, e1, rfl, rfl, hr1⟩ := hh)
 refine A8 ?_
 exact ⟨rfl, rfl⟩
def A3C (u : Tm) (n : Int) : IM → Value → List A6 → Prop := fun G' v outs => outs = [] ∧ ∃ cu, v = .tuple ⟨[.agg ⟨cu⟩, .int .i64 n]⟩ ∧ B1 G' u cu
theorem A3C.mk {G' : IM} {k : Int} {nm : ByteArray} {num : Int} {ty fr : Ty} {lb : Int} {ks : List Tm} {tk fk : Int} {pt pf : Option Addr} {nt ct nf cf : Nat} {p : Option Addr} {m c : Nat} {es : List (List Value)} {a n : Int}
  (hk : F8 k) (hnum : F8 num) (hlb : F8 lb) (hty : C3 G' ty [.int .i64 tk, .slice pt nt ct]) (hfr : C3 G' fr [.int .i64 fk, .slice pf nf cf]) (hm : m = ks.length) (hs : Sl G' p m c 9 es.flatten) (hr : E1 G' ks es) (ha : a = n) :
  A3C (.mk k nm num ty fr lb ks) n G' (.tuple ⟨[.agg ⟨[.int .i64 k, .string nm, .int .i64 num, .int .i64 tk, .slice pt nt ct, .int .i64 fk, .slice pf nf cf, .int .i64 lb, .slice p m c]⟩, .int .i64 a]⟩) [] := by
 subst hm ha
 refine ⟨rfl, _, rfl, ?_⟩
 simp only [B1]
 exact ⟨_, _, p, c, es, rfl, hk, hnum, hlb, hty, hfr, D7.of hs hr.len hr.all (fun e he => by obtain ⟨j, hj⟩ := List.getElem?_of_mem he; exact (hr.inv hj K7).2.one), hr⟩
theorem A7T {Q : Prop} (h : Q := by (exact ⟨Nat.zero_le _, C2.refl _, by simp [N4, E1]⟩)) : Q := h
theorem A7U {Q : Prop} (h : Q := by (dsimp only; exact ⟨by omega, hle.trans hle7, hsn⟩)) : Q := h
theorem B7H (L : List Ty) (p : Option Addr) (c : Nat) (hsmL : ∀ u ∈ L, u.small) : ∀ (t : Tm) (a : Nat) (G : IM) (cells : List Value) (el : List (List Value)), a + (H0 t).length ≤ L.length → L.length ≤ 4000000 → t.small → D3 t ≤ 4000000 → B1 G t cells → D7 G p L.length c 2 el → C9 G L el →
  Fn Tryz.prog 138 [.agg ⟨cells⟩, .slice p L.length c, .int .i64 (a : Int)] [] G (A3C (S2 t (L.drop a)) ((a + (H0 t).length : Nat) : Int)) := by
 refine Tm.ind fun k nm num ty fr lb ks ih a G cells el hlen hLb hts hcnt hr hse hel => ?_
 have hone := hr.one
 have hlen9 := hr.len
 simp only [Tm.small] at hts
 obtain ⟨_, hty', hfr', hsm, hks⟩ := hts
 have hcy : k = 5 ∨ k = 13 → H0 (.mk k nm num ty fr lb ks) = [ty] ++ I0 ks := fun h => by rw [H0, if_pos h]
 have hcn : ¬ (k = 5 ∨ k = 13) → H0 (.mk k nm num ty fr lb ks) = I0 ks := fun h => by rw [H0, if_neg h, List.nil_append]
 have hwy : k = 5 ∨ k = 13 → S2 (.mk k nm num ty fr lb ks) (L.drop a) = .mk k nm num ((L.drop a).getD 0 B3) fr lb (N4 ks (L.drop (a + 1))) := fun h => by rw [S2, if_pos h, if_pos h, List.drop_drop]
 have hwn : ¬ (k = 5 ∨ k = 13) → S2 (.mk k nm num ty fr lb ks) (L.drop a) = .mk k nm num ty fr lb (N4 ks (L.drop a)) := fun h => by rw [S2, if_neg h, if_neg h]
 rw [D3] at hcnt
 obtain ⟨tk, tks⟩ := ty
 obtain ⟨fk, fks⟩ := fr
 obtain ⟨pt, ct, pf, cf, q, cq, ek, rfl, hk, hnum, hlb, hty, hfr, hsl, hkl⟩ := hr.open9
 have hn := hsl.le
 have hkn := A4K ks
 have hT := P7 (.mk tk tks) G _ hty' hty
 refine C1 Tryz.func138 rfl Tryz.ntmps138 Tryz.results138 rfl ?_
 intro w0
 refine A3 ?_
 refine sE (C7 rfl rfl) rfl (fun b3 => ?_)
 refine sE (A7 rfl) rfl (fun b4 => ?_)
 refine A8 ?_
 refine sE (A7 rfl) rfl (fun b11 => ?_)
 refine B5 ?_
 (refine D9 rfl hT rfl rfl (fun v G1 hle1 hh => ?_); obtain ⟨cs1, F1, rfl, hs1, hn1⟩ := hh; have hr1 := hs1.R.mono (C5.le _ _); obtain ⟨p1, c1, rfl, _⟩ := hs1.open; have hF := P7 (.mk fk fks) G1 _ hfr' (hfr.mono hle1))
 refine D1 ?_
 (refine D9 rfl hF rfl rfl (fun v G2 hle2 hh => ?_); obtain ⟨cs2, F2, rfl, hs2, hn2⟩ := hh; have hr2 := hs2.R.mono (C5.le _ _); obtain ⟨p2, c2, rfl, _⟩ := hs2.open; have hle12 := hle1.trans hle2; replace hsl := hsl.mono hle12; replace hkl := hkl.mono hle12; replace hse := hse.mono hle12; replace hel := hel.mono hle12)
 refine I7 ?_
 refine sB (qE rfl rfl) rfl rfl (fun h44 => ?_) (fun h44 => ?_)
 refine K5 ?_
 (have hL1 := hcy (by omega); have h1 : a + (1 + (I0 ks).length) ≤ L.length := (by rw [hL1] at hlen; simp only [List.length_append, List.length_singleton] at hlen; omega); obtain ⟨b0, o0, p20, c20, rfl, hat0, hre0, hgb0⟩ := hse.kidTy hel (i := a) (by omega) (by omega); obtain ⟨T0, hT0⟩ : ∃ T, T = L[a]'(by omega) := ⟨_, rfl⟩; have hs0 := hsmL _ (List.getElem_mem (show a < L.length by omega)); rw [← hT0] at hre0 hat0 hs0; have hO := P7 T0 G2 _ hs0 hre0; refine sP (B6 rfl rfl rfl (by omega)) rfl rfl ?_)
 refine sL (A2 rfl rfl (hat0 _) rfl) rfl rfl ?_
 (refine D9 rfl hO rfl rfl (fun v G3 hle3 hh => ?_); obtain ⟨cs3, F3, rfl, hs3, hn3⟩ := hh; have hr3 := hs3.R.mono (C5.le _ _); obtain ⟨p3, c3, rfl, _⟩ := hs3.open)
 refine A8 ?_
 refine sP (H5 rfl rfl (by omega) (by omega)) rfl rfl ?_
 refine E0 ?_
 refine C0 ?_
 (have hL2 := hcy (by omega); have hW2 := hwy (by omega); refine Q9 37 9 ?_; refine J0 (fun (x : Nat × Option Addr × Nat × List (List Value) × IM) => ⟨[(9, .int .i64 x.1), (2, .int .i64 ((a + 1 + (I0 (ks.take x.1)).length : Nat) : Int)), (1, .slice (some ⟨b0, o0, none⟩) L.length c), (3, .pointer (some ⟨b3, 0, none⟩)), (8, .pointer (some ⟨b11, 0, none⟩)), (6, .pointer (some ⟨b4, 0, none⟩))], [.blk b11 [.int .i64 k, .string nm, .int .i64 num, .int .i64 T0.k, .slice p3 T0.ks.length c3, .int .i64 fk, .slice p2 fks.length c2, .int .i64 lb, .slice x.2.1 x.1 x.2.2.1], .slc x.2.1 x.2.2.1 37 9 x.1 x.2.2.2.1.flatten, .blk b4 [.int .i64 0, .string ⟨⟨[]⟩⟩, .int .i64 0, .int .i64 0, .slice none 0 0, .int .i64 0, .slice none 0 0, .int .i64 0, .slice none 0 0], .blk b3 [.int .i64 k, .string nm, .int .i64 num, .int .i64 tk, .slice pt tks.length ct, .int .i64 fk, .slice pf fks.length cf, .int .i64 lb, .slice q ks.length cq]], x.2.2.2.2⟩) (fun x => x.1 ≤ ks.length ∧ C2 G3 x.2.2.2.2 ∧ E1 x.2.2.2.2 (N4 (ks.take x.1) (L.drop (a + 1))) x.2.2.2.1) (fun x => ks.length - x.1) (0, none, 0, [], G3) ?_ ?_ ?_)
 (simp only [H6]; exact D2)
 exact A7T
 (rintro ⟨(i : Nat), pn, cn, es, Gi⟩ ⟨hi, hle, hst⟩; simp only [] at hi hle hst ⊢)
 refine B5 ?_
 refine sB (I8 rfl rfl) rfl rfl (fun h88 => ?_) (fun h88 => ?_)
 refine A8 ?_
 refine C0 ?_
 refine B7 ?_
 refine sE (A7 rfl) rfl (fun b99 => ?_)
 refine D1 ?_
 (obtain ⟨b, o, e, rfl, hl, hat, hre, hgb⟩ := (hsl.mono (by first | exact hle | exact hle3.trans hle)).kidTm (hkl.mono (by first | exact hle | exact hle3.trans hle)) (i := i) (by omega) (by omega); have hone9 := hre.one; have hsc := A0M (ks := ks) (i := i) (by omega); have hsk := A0L (ks := ks) (i := i) (by omega); have hts1 := A4j (ks := ks) (i := i) (by omega); have e9 : (I0 (ks.take (i + 1))).length = (I0 (ks.take i)).length + (H0 ks[i]).length := (by rw [A1j (by omega), List.length_append]); refine sP (B6 rfl rfl rfl (by omega)) rfl rfl ?_)
 refine sL (A2 rfl rfl (hat _) hl) rfl rfl ?_
 refine A3 ?_
 (have hih := ih ks[i] (List.getElem_mem (by omega)) _ Gi e el (by rw [hL2] at hlen; (try simp only [List.length_append, List.length_singleton] at hlen); first | exact (show a + 1 + (I0 (ks.take i)).length + (H0 ks[i]).length ≤ L.length by omega) | exact (show a + (I0 (ks.take i)).length + (H0 ks[i]).length ≤ L.length by omega)) hLb (Tm.smallL_mem hks _ (List.getElem_mem (by omega))) (by omega) hre (hse.mono (by first | exact hle | exact hle3.trans hle)) (hel.mono (by first | exact hle | exact hle3.trans hle)); refine U6 rfl hih rfl rfl (fun v G7 outs hle7 hh => ?_); obtain ⟨rfl, cu, rfl, hru⟩ := hh; rw [← List.drop_drop] at hru; have hsn := E1.snoc (hst.mono hle7) hru; obtain ⟨u1, u2, u3, u4, u5, u6, u7, u8, u9, rfl⟩ : ∃ u1 u2 u3 u4 u5 u6 u7 u8 u9, cu = [u1, u2, u3, u4, u5, u6, u7, u8, u9] := (by obtain ⟨_, _, _, _, _, _, _, _, _, rfl, _⟩ := hru.open; exact ⟨_, _, _, _, _, _, _, _, _, rfl⟩); have huo := hru.one)
 refine B7 ?_
 refine sS rfl rfl rfl rfl huo rfl ?_
 refine B5 ?_
 (refine I3 (D0 rfl rfl rfl (by omega) (by unfold maxLen; omega) rfl) rfl ?_; rintro _ ⟨b124, rfl⟩)
 (refine Y5 rfl rfl rfl rfl rfl (fun _ _ => by repeat (first | exact Sw.here | apply Sw.there)) (M1 (by repeat first | exact mH | apply mT)) rfl (fun u hu => List.all_eq_true.1 huo u hu) (by unfold maxLen; omega) (by omega) rfl (fun p4 c4 => ?_))
 refine B5 ?_
 refine sP (H5 rfl rfl (by omega) (by omega)) rfl rfl ?_
 refine A3 ?_
 (rw [← A4i (by omega)] at hsn; refine I1 (i + 1, p4, c4, es ++ [[u1, u2, u3, u4, u5, u6, u7, u8, u9]], G7) (by simp only [List.flatten_append, List.flatten_cons, List.flatten_nil, List.append_nil, e9, ← Nat.add_assoc]; exact (K2 (by repeat (first | exact D8.nil | refine D8.cons rfl ?_)) (by repeat (first | exact A0.refl | exact A0.nil | refine A0.cons (by repeat (first | exact Pk.here | apply Pk.there)) ?_ | apply A0.drop)))) ?_ ?_)
 exact A7U
 exact V0
 refine K0 ?_
 (refine F0 (cs := es.flatten) (by repeat (first | exact Pk.here | apply Pk.there)) (fun G9 hle9 hsl9 hno9 => ?_); obtain rfl : i = ks.length := (by omega); rw [List.take_length] at hst)
 refine tT ?_
 refine E9 (rC rfl (A5 rfl rfl)) (rT rfl) ?_
 (rw [hW2, hL2]; exact A3C.mk hk hnum hlb (by first | (rw [List.getD_eq_getElem?_getD, List.getElem?_drop, Nat.add_zero, List.getElem?_eq_getElem (by omega), Option.getD_some, ← hT0]; exact hr3.mono (hle.trans hle9)) | exact hr1.mono (hle2.trans (hle.trans hle9))) (by first | exact hr2.mono (hle3.trans (hle.trans hle9)) | exact hr2.mono (hle.trans hle9)) (by rw [A2j]) hsl9 (hst.mono hle9) (by (simp only [List.take_length, List.length_append, List.length_singleton]) <;> omega))
 refine B7 ?_
 refine sB (qE rfl rfl) rfl rfl (fun h162 => ?_) (fun h162 => ?_)
 refine D1 ?_
 (have hL1 := hcy (by omega); have h1 : a + (1 + (I0 ks).length) ≤ L.length := (by rw [hL1] at hlen; simp only [List.length_append, List.length_singleton] at hlen; omega); obtain ⟨b0, o0, p20, c20, rfl, hat0, hre0, hgb0⟩ := hse.kidTy hel (i := a) (by omega) (by omega); obtain ⟨T0, hT0⟩ : ∃ T, T = L[a]'(by omega) := ⟨_, rfl⟩; have hs0 := hsmL _ (List.getElem_mem (show a < L.length by omega)); rw [← hT0] at hre0 hat0 hs0; have hO := P7 T0 G2 _ hs0 hre0; refine sP (B6 rfl rfl rfl (by omega)) rfl rfl ?_)
 refine sL (A2 rfl rfl (hat0 _) rfl) rfl rfl ?_
 (refine D9 rfl hO rfl rfl (fun v G3 hle3 hh => ?_); obtain ⟨cs3, F3, rfl, hs3, hn3⟩ := hh; have hr3 := hs3.R.mono (C5.le _ _); obtain ⟨p3, c3, rfl, _⟩ := hs3.open)
 refine A8 ?_
 refine sP (H5 rfl rfl (by omega) (by omega)) rfl rfl ?_
 refine E0 ?_
 refine C0 ?_
 (have hL2 := hcy (by omega); have hW2 := hwy (by omega); refine Q9 37 9 ?_; refine J0 (fun (x : Nat × Option Addr × Nat × List (List Value) × IM) => ⟨[(9, .int .i64 x.1), (2, .int .i64 ((a + 1 + (I0 (ks.take x.1)).length : Nat) : Int)), (1, .slice (some ⟨b0, o0, none⟩) L.length c), (3, .pointer (some ⟨b3, 0, none⟩)), (8, .pointer (some ⟨b11, 0, none⟩)), (6, .pointer (some ⟨b4, 0, none⟩))], [.blk b11 [.int .i64 k, .string nm, .int .i64 num, .int .i64 T0.k, .slice p3 T0.ks.length c3, .int .i64 fk, .slice p2 fks.length c2, .int .i64 lb, .slice x.2.1 x.1 x.2.2.1], .slc x.2.1 x.2.2.1 37 9 x.1 x.2.2.2.1.flatten, .blk b4 [.int .i64 0, .string ⟨⟨[]⟩⟩, .int .i64 0, .int .i64 0, .slice none 0 0, .int .i64 0, .slice none 0 0, .int .i64 0, .slice none 0 0], .blk b3 [.int .i64 k, .string nm, .int .i64 num, .int .i64 tk, .slice pt tks.length ct, .int .i64 fk, .slice pf fks.length cf, .int .i64 lb, .slice q ks.length cq]], x.2.2.2.2⟩) (fun x => x.1 ≤ ks.length ∧ C2 G3 x.2.2.2.2 ∧ E1 x.2.2.2.2 (N4 (ks.take x.1) (L.drop (a + 1))) x.2.2.2.1) (fun x => ks.length - x.1) (0, none, 0, [], G3) ?_ ?_ ?_)
 (simp only [H6]; exact D2)
 exact A7T
 (rintro ⟨(i : Nat), pn, cn, es, Gi⟩ ⟨hi, hle, hst⟩; simp only [] at hi hle hst ⊢)
 refine B5 ?_
 refine sB (I8 rfl rfl) rfl rfl (fun h202 => ?_) (fun h202 => ?_)
 refine A8 ?_
 refine C0 ?_
 refine B7 ?_
 refine sE (A7 rfl) rfl (fun b213 => ?_)
 refine D1 ?_
 (obtain ⟨b, o, e, rfl, hl, hat, hre, hgb⟩ := (hsl.mono (by first | exact hle | exact hle3.trans hle)).kidTm (hkl.mono (by first | exact hle | exact hle3.trans hle)) (i := i) (by omega) (by omega); have hone9 := hre.one; have hsc := A0M (ks := ks) (i := i) (by omega); have hsk := A0L (ks := ks) (i := i) (by omega); have hts1 := A4j (ks := ks) (i := i) (by omega); have e9 : (I0 (ks.take (i + 1))).length = (I0 (ks.take i)).length + (H0 ks[i]).length := (by rw [A1j (by omega), List.length_append]); refine sP (B6 rfl rfl rfl (by omega)) rfl rfl ?_)
 refine sL (A2 rfl rfl (hat _) hl) rfl rfl ?_
 refine A3 ?_
 (have hih := ih ks[i] (List.getElem_mem (by omega)) _ Gi e el (by rw [hL2] at hlen; (try simp only [List.length_append, List.length_singleton] at hlen); first | exact (show a + 1 + (I0 (ks.take i)).length + (H0 ks[i]).length ≤ L.length by omega) | exact (show a + (I0 (ks.take i)).length + (H0 ks[i]).length ≤ L.length by omega)) hLb (Tm.smallL_mem hks _ (List.getElem_mem (by omega))) (by omega) hre (hse.mono (by first | exact hle | exact hle3.trans hle)) (hel.mono (by first | exact hle | exact hle3.trans hle)); refine U6 rfl hih rfl rfl (fun v G7 outs hle7 hh => ?_); obtain ⟨rfl, cu, rfl, hru⟩ := hh; rw [← List.drop_drop] at hru; have hsn := E1.snoc (hst.mono hle7) hru; obtain ⟨u1, u2, u3, u4, u5, u6, u7, u8, u9, rfl⟩ : ∃ u1 u2 u3 u4 u5 u6 u7 u8 u9, cu = [u1, u2, u3, u4, u5, u6, u7, u8, u9] := (by obtain ⟨_, _, _, _, _, _, _, _, _, rfl, _⟩ := hru.open; exact ⟨_, _, _, _, _, _, _, _, _, rfl⟩); have huo := hru.one)
 refine B7 ?_
 refine sS rfl rfl rfl rfl huo rfl ?_
 refine B5 ?_
 (refine I3 (D0 rfl rfl rfl (by omega) (by unfold maxLen; omega) rfl) rfl ?_; rintro _ ⟨b238, rfl⟩)
 (refine Y5 rfl rfl rfl rfl rfl (fun _ _ => by repeat (first | exact Sw.here | apply Sw.there)) (M1 (by repeat first | exact mH | apply mT)) rfl (fun u hu => List.all_eq_true.1 huo u hu) (by unfold maxLen; omega) (by omega) rfl (fun p4 c4 => ?_))
 refine B5 ?_
 refine sP (H5 rfl rfl (by omega) (by omega)) rfl rfl ?_
 refine A3 ?_
 (rw [← A4i (by omega)] at hsn; refine I1 (i + 1, p4, c4, es ++ [[u1, u2, u3, u4, u5, u6, u7, u8, u9]], G7) (by simp only [List.flatten_append, List.flatten_cons, List.flatten_nil, List.append_nil, e9, ← Nat.add_assoc]; exact (K2 (by repeat (first | exact D8.nil | refine D8.cons rfl ?_)) (by repeat (first | exact A0.refl | exact A0.nil | refine A0.cons (by repeat (first | exact Pk.here | apply Pk.there)) ?_ | apply A0.drop)))) ?_ ?_)
 exact A7U
 exact V0
 refine K0 ?_
 (refine F0 (cs := es.flatten) (by repeat (first | exact Pk.here | apply Pk.there)) (fun G9 hle9 hsl9 hno9 => ?_); obtain rfl : i = ks.length := (by omega); rw [List.take_length] at hst)
 refine tT ?_
 refine E9 (rC rfl (A5 rfl rfl)) (rT rfl) ?_
 (rw [hW2, hL2]; exact A3C.mk hk hnum hlb (by first | (rw [List.getD_eq_getElem?_getD, List.getElem?_drop, Nat.add_zero, List.getElem?_eq_getElem (by omega), Option.getD_some, ← hT0]; exact hr3.mono (hle.trans hle9)) | exact hr1.mono (hle2.trans (hle.trans hle9))) (by first | exact hr2.mono (hle3.trans (hle.trans hle9)) | exact hr2.mono (hle.trans hle9)) (by rw [A2j]) hsl9 (hst.mono hle9) (by (simp only [List.take_length, List.length_append, List.length_singleton]) <;> omega))
 refine K5 ?_
 refine C0 ?_
 (have hL2 := hcn (by omega); have hW2 := hwn (by omega); refine Q9 37 9 ?_; refine J0 (fun (x : Nat × Option Addr × Nat × List (List Value) × IM) => ⟨[(9, .int .i64 x.1), (2, .int .i64 ((a + (I0 (ks.take x.1)).length : Nat) : Int)), (1, .slice p L.length c), (3, .pointer (some ⟨b3, 0, none⟩)), (8, .pointer (some ⟨b11, 0, none⟩)), (6, .pointer (some ⟨b4, 0, none⟩))], [.blk b11 [.int .i64 k, .string nm, .int .i64 num, .int .i64 tk, .slice p1 tks.length c1, .int .i64 fk, .slice p2 fks.length c2, .int .i64 lb, .slice x.2.1 x.1 x.2.2.1], .slc x.2.1 x.2.2.1 37 9 x.1 x.2.2.2.1.flatten, .blk b4 [.int .i64 0, .string ⟨⟨[]⟩⟩, .int .i64 0, .int .i64 0, .slice none 0 0, .int .i64 0, .slice none 0 0, .int .i64 0, .slice none 0 0], .blk b3 [.int .i64 k, .string nm, .int .i64 num, .int .i64 tk, .slice pt tks.length ct, .int .i64 fk, .slice pf fks.length cf, .int .i64 lb, .slice q ks.length cq]], x.2.2.2.2⟩) (fun x => x.1 ≤ ks.length ∧ C2 G2 x.2.2.2.2 ∧ E1 x.2.2.2.2 (N4 (ks.take x.1) (L.drop a)) x.2.2.2.1) (fun x => ks.length - x.1) (0, none, 0, [], G2) ?_ ?_ ?_)
 (simp only [H6]; exact D2)
 exact A7T
 (rintro ⟨(i : Nat), pn, cn, es, Gi⟩ ⟨hi, hle, hst⟩; simp only [] at hi hle hst ⊢)
 refine B5 ?_
 refine sB (I8 rfl rfl) rfl rfl (fun h297 => ?_) (fun h297 => ?_)
 refine A8 ?_
 refine C0 ?_
 refine B7 ?_
 refine sE (A7 rfl) rfl (fun b308 => ?_)
 refine D1 ?_
 (obtain ⟨b, o, e, rfl, hl, hat, hre, hgb⟩ := (hsl.mono (by first | exact hle | exact hle3.trans hle)).kidTm (hkl.mono (by first | exact hle | exact hle3.trans hle)) (i := i) (by omega) (by omega); have hone9 := hre.one; have hsc := A0M (ks := ks) (i := i) (by omega); have hsk := A0L (ks := ks) (i := i) (by omega); have hts1 := A4j (ks := ks) (i := i) (by omega); have e9 : (I0 (ks.take (i + 1))).length = (I0 (ks.take i)).length + (H0 ks[i]).length := (by rw [A1j (by omega), List.length_append]); refine sP (B6 rfl rfl rfl (by omega)) rfl rfl ?_)
 refine sL (A2 rfl rfl (hat _) hl) rfl rfl ?_
 refine A3 ?_
 (have hih := ih ks[i] (List.getElem_mem (by omega)) _ Gi e el (by rw [hL2] at hlen; (try simp only [List.length_append, List.length_singleton] at hlen); first | exact (show a + 1 + (I0 (ks.take i)).length + (H0 ks[i]).length ≤ L.length by omega) | exact (show a + (I0 (ks.take i)).length + (H0 ks[i]).length ≤ L.length by omega)) hLb (Tm.smallL_mem hks _ (List.getElem_mem (by omega))) (by omega) hre (hse.mono (by first | exact hle | exact hle3.trans hle)) (hel.mono (by first | exact hle | exact hle3.trans hle)); refine U6 rfl hih rfl rfl (fun v G7 outs hle7 hh => ?_); obtain ⟨rfl, cu, rfl, hru⟩ := hh; rw [← List.drop_drop] at hru; have hsn := E1.snoc (hst.mono hle7) hru; obtain ⟨u1, u2, u3, u4, u5, u6, u7, u8, u9, rfl⟩ : ∃ u1 u2 u3 u4 u5 u6 u7 u8 u9, cu = [u1, u2, u3, u4, u5, u6, u7, u8, u9] := (by obtain ⟨_, _, _, _, _, _, _, _, _, rfl, _⟩ := hru.open; exact ⟨_, _, _, _, _, _, _, _, _, rfl⟩); have huo := hru.one)
 refine B7 ?_
 refine sS rfl rfl rfl rfl huo rfl ?_
 refine B5 ?_
 (refine I3 (D0 rfl rfl rfl (by omega) (by unfold maxLen; omega) rfl) rfl ?_; rintro _ ⟨b333, rfl⟩)
 (refine Y5 rfl rfl rfl rfl rfl (fun _ _ => by repeat (first | exact Sw.here | apply Sw.there)) (M1 (by repeat first | exact mH | apply mT)) rfl (fun u hu => List.all_eq_true.1 huo u hu) (by unfold maxLen; omega) (by omega) rfl (fun p4 c4 => ?_))
 refine B5 ?_
 refine sP (H5 rfl rfl (by omega) (by omega)) rfl rfl ?_
 refine A3 ?_
 (rw [← A4i (by omega)] at hsn; refine I1 (i + 1, p4, c4, es ++ [[u1, u2, u3, u4, u5, u6, u7, u8, u9]], G7) (by simp only [List.flatten_append, List.flatten_cons, List.flatten_nil, List.append_nil, e9, ← Nat.add_assoc]; exact (K2 (by repeat (first | exact D8.nil | refine D8.cons rfl ?_)) (by repeat (first | exact A0.refl | exact A0.nil | refine A0.cons (by repeat (first | exact Pk.here | apply Pk.there)) ?_ | apply A0.drop)))) ?_ ?_)
 exact A7U
 exact V0
 refine K0 ?_
 (refine F0 (cs := es.flatten) (by repeat (first | exact Pk.here | apply Pk.there)) (fun G9 hle9 hsl9 hno9 => ?_); obtain rfl : i = ks.length := (by omega); rw [List.take_length] at hst)
 refine tT ?_
 refine E9 (rC rfl (A5 rfl rfl)) (rT rfl) ?_
 (rw [hW2, hL2]; exact A3C.mk hk hnum hlb (by first | (rw [List.getD_eq_getElem?_getD, List.getElem?_drop, Nat.add_zero, List.getElem?_eq_getElem (by omega), Option.getD_some, ← hT0]; exact hr3.mono (hle.trans hle9)) | exact hr1.mono (hle2.trans (hle.trans hle9))) (by first | exact hr2.mono (hle3.trans (hle.trans hle9)) | exact hr2.mono (hle.trans hle9)) (by rw [A2j]) hsl9 (hst.mono hle9) (by (simp only [List.take_length, List.length_append, List.length_singleton]) <;> omega))
def A2V (t : Tm) (L : List Ty) : Option Tm := if N9 t = true ∧ (R8 t).length = L.length ∧ ∀ u ∈ L, H1 u = true then some (S2 t L) else none
theorem B1X {t : Tm} {L : List Ty} (h : N9 t = true) (hl : (R8 t).length = L.length) (ha : ∀ j, j < L.length → (h : j < L.length) → H1 L[j] = true) : A2V t L = some (S2 t L) := by
 unfold A2V
 rw [if_pos ⟨h, hl, fun u hu => by obtain ⟨i, hi, rfl⟩ := List.mem_iff_getElem.1 hu; exact ha i hi hi⟩]
theorem B7I {t : Tm} {L : List Ty} (h : ¬(N9 t = true ∧ (R8 t).length = L.length ∧ ∀ u ∈ L, H1 u = true)) : A2V t L = none := by
 unfold A2V; rw [if_neg h]
def TmB (o : Option Tm) : IM → Value → List A6 → Prop := K1 fun G' v => ∃ cu, v = .tuple ⟨[.agg ⟨cu⟩, .bool o.isSome]⟩ ∧ B1 G' (o.getD K7) cu
theorem A2W {t : Tm} (h : N9 t = true) : R8 t = H0 t := by unfold R8; rw [if_pos h]
theorem A7V {Q : Prop} (h : Q := by (rw [hno (fun hc => by first | omega | exact Bool.noConfusion (hc.1.symm.trans (show N9 t = false by assumption)) | exact Bool.noConfusion ((hc.2.2 _ (List.getElem_mem (show i < L.length by omega))).symm.trans (by assumption)))]; exact ⟨rfl, _, rfl, (P2.zero _).R⟩)) : Q := h
theorem B7J (t : Tm) (L : List Ty) (G : IM) (cells : List Value) (p : Option Addr) (c : Nat) (es : List (List Value)) (hts : t.small) (hcnt : D3 t ≤ 4000000) (hLb : L.length ≤ 4000000) (hsm : ∀ u ∈ L, u.small) (hr : B1 G t cells) (hse : D7 G p L.length c 2 es) (hel : C9 G L es) :
  Fn Tryz.prog 95 [.agg ⟨cells⟩, .slice p L.length c] [] G (TmB (A2V t L)) := by
 have hl := hr.len
 have hone := hr.one
 have hyes := @B1X t L
 have hno := @B7I t L
 have htv := @A2W t
 have hT := A7R t G cells hts hcnt hr
 generalize A2V t L = R at hyes hno ⊢
 obtain ⟨TT, hTT⟩ : ∃ TT, R8 t = TT := ⟨_, rfl⟩
 rw [hTT] at hyes hno htv hT
 refine C1 Tryz.func95 rfl Tryz.ntmps95 Tryz.results95 rfl ?_
 intro w0
 refine A3 ?_
 refine sE (C7 rfl rfl) rfl (fun b3 => ?_)
 refine sE (A7 rfl) rfl (fun b4 => ?_)
 refine A8 ?_
 refine sL (A2 rfl rfl (A9 (by repeat first | exact mH | apply mT)) hl) rfl rfl ?_
 (refine U6 rfl hT rfl rfl (fun v G1 outs hle1 hh => ?_); obtain ⟨p1, c1, e1, rfl, rfl, hr1⟩ := hh; replace hr := hr.mono hle1; replace hse := hse.mono hle1; replace hel := hel.mono hle1; have hv := A4Z t G1 cells (by omega) hr)
 refine B7 ?_
 refine sB (N5 rfl rfl) rfl rfl (fun h16 => ?_) (fun h16 => ?_)
 refine Q5 ?_
 refine E9 (rC rfl (A5 rfl rfl)) (rT rfl) ?_
 exact A7V
 refine E3 ?_
 refine sL (A2 rfl rfl (A9 (by repeat first | exact mH | apply mT)) hl) rfl rfl ?_
 refine F4 rfl (hv) rfl rfl (fun h38 => ?_) (fun h38 => ?_)
 refine J7 ?_
 refine C0 ?_
 (refine J0 (fun (x : Nat) => ⟨[(6, .int .i64 x), (1, .slice p L.length c), (2, .pointer (some ⟨b3, 0, none⟩)), (4, .pointer (some ⟨b4, 0, none⟩))], [.blk b4 [.int .i64 0, .string ⟨⟨[]⟩⟩, .int .i64 0, .int .i64 0, .slice none 0 0, .int .i64 0, .slice none 0 0, .int .i64 0, .slice none 0 0], .blk b3 cells], G1⟩) (fun x => x ≤ L.length ∧ ∀ j, j < x → (h : j < L.length) → H1 L[j] = true) (fun x => L.length - x) 0 ?_ ?_ ?_)
 exact D2
 (exact ⟨Nat.zero_le _, fun j hj => absurd hj (by omega)⟩)
 (rintro (i : Nat) ⟨hi, hval⟩)
 refine A8 ?_
 refine sB (I8 rfl rfl) rfl rfl (fun h63 => ?_) (fun h63 => ?_)
 refine A8 ?_
 refine C0 ?_
 refine B4 ?_
 (obtain ⟨b0, o0, p20, c20, rfl, hat0, hre0, hgb0⟩ := hse.kidTy hel (i := i) (by omega) (by omega); have hV := A1O _ G1 _ hre0; refine sP (B6 rfl rfl rfl (by omega)) rfl rfl ?_)
 refine sL (A2 rfl rfl (hat0 _) rfl) rfl rfl ?_
 refine F4 rfl (hV) rfl rfl (fun h77 => ?_) (fun h77 => ?_)
 refine E0 ?_
 refine sP (H5 rfl rfl (by omega) (by omega)) rfl rfl ?_
 refine A3 ?_
 refine I1 (i + 1) ?_ ?_ ?_
 exact D2
 (exact ⟨by omega, fun j hj hl => by rcases Nat.lt_succ_iff_lt_or_eq.1 hj with h | h; exact hval j h hl; subst h; assumption⟩)
 (show L.length - (i + 1) < L.length - i; omega)
 refine Q5 ?_
 refine E9 (rC rfl (A5 rfl rfl)) (rT rfl) ?_
 exact A7V
 refine J3 ?_
 refine sL (A2 rfl rfl (A9 (by repeat first | exact mH | apply mT)) hl) rfl rfl ?_
 refine E3 ?_
 (have hTv := htv (by assumption); refine U6 rfl (B7H L p c hsm t 0 G1 cells es (by rw [← hTv]; omega) hLb hts hcnt hr hse hel) rfl rfl (fun v G3 outs hle3 hh => ?_); obtain ⟨rfl, cu, rfl, hru⟩ := hh; rw [List.drop_zero] at hru; have hul := hru.len; have huo := hru.one)
 refine B7 ?_
 refine sE (A7 rfl) rfl (fun b129 => ?_)
 refine sS rfl rfl rfl hul huo rfl ?_ (hu := by exact D4 hul.symm)
 refine B0 ?_
 refine sL (A2 rfl rfl (A9 (by repeat first | exact mH | apply mT)) hul) rfl rfl ?_
 refine sS rfl rfl rfl hul huo rfl ?_ (hu := by exact D4 hul.symm)
 refine B4 ?_
 refine E9 (rC rfl (A2 rfl rfl (A9 (by repeat first | exact mH | apply mT)) hul)) (rT rfl) ?_
 (rw [hyes (by assumption) (by omega) (fun j hj => hval j (by omega))]; exact ⟨rfl, _, rfl, hru⟩)
 refine J9 ?_
 refine E9 (rC rfl (A5 rfl rfl)) (rT rfl) ?_
 exact A7V
theorem A7W {e : Tm} (h : (Q3 e).isSome = true) : N9 e = true := by
 unfold Q3 U4 at h
 split at h
 ·rename_i u t hx
  split at hx
  ·assumption
  ·cases hx
 ·cases h
mutual
theorem B1Y : ∀ (t : Tm) (d : Int), M8 12 14 t d = true → t.small
 | .mk k nm num ty fr lb ks, d, h => by
  obtain ⟨_, h2, h3, h4⟩ := A0P h
  obtain ⟨n1, n2, n3, n4, n5, n6, n7, n8, n9⟩ := T9.1 h3
  rw [Tm.small]
  refine ⟨by have := A9P h3; omega, (A3k h3).1.small, by rw [A15 (n9 h2).1]; exact A2G, ?_, B1Z ks _ h4⟩
  have := A1r k; omega
theorem B1Z : ∀ (ts : List Tm) (d : Int), M4 12 14 ts d = true → Tm.smallL ts
 | [], _, _ => by rw [Tm.smallL]; trivial
 | t :: ts, d, h => by
  rw [M4, Bool.and_eq_true] at h
  rw [Tm.smallL]
  exact ⟨B1Y t d h.1, B1Z ts d h.2⟩
end
theorem A4p {e : Tm} (h : N9 e = true) : e.fit 30 := by
 obtain ⟨h1, h2⟩ := (A0C e).1 h
 exact ⟨B1Y e 1 h1, h2⟩
theorem Tm.fit.le {e : Tm} {n m : Nat} (h : e.fit n) (hm : n ≤ m) : e.fit m := ⟨h.1, Nat.le_trans h.2 hm⟩
mutual
theorem A7X : ∀ (t : Tm) (d : Int), M8 12 14 t d = true → ∀ u ∈ H0 t, H1 u = true
 | .mk k nm num ty fr lb ks, d, h => by
  obtain ⟨_, h2, h3, h4⟩ := A0P h
  obtain ⟨n1, n2, n3, n4, n5, n6, n7, n8, n9⟩ := T9.1 h3
  intro u hu
  rw [H0, List.mem_append] at hu
  rcases hu with hu | hu
  ·split at hu
   ·rename_i hk
    obtain rfl := List.mem_singleton.1 hu
    exact n6 (by omega)
   ·simp at hu
  ·exact B10 ks _ h4 u hu
theorem B10 : ∀ (ts : List Tm) (d : Int), M4 12 14 ts d = true → ∀ u ∈ I0 ts, H1 u = true
 | [], _, _ => by simp [I0]
 | t :: ts, d, h => by
  rw [M4, Bool.and_eq_true] at h
  intro u hu
  rw [I0, List.mem_append] at hu
  rcases hu with hu | hu
  ·exact A7X t d h.1 u hu
  ·exact B10 ts d h.2 u hu
end
mutual
theorem A7Y : ∀ (t : Tm) (l : List Ty), t.small → (∀ u ∈ l, u.small) → (S2 t l).small ∧ D3 (S2 t l) = D3 t
 | .mk k nm num ty fr lb ks, l, h, hl => by
  obtain ⟨h1, h2, h3, h4, h5⟩ := A0s.1 h
  rw [S2]
  have hd : ∀ u ∈ (if k = 5 ∨ k = 13 then l.drop 1 else l), u.small := by
   intro u hu
   split at hu
   ·exact hl u (List.mem_of_mem_drop hu)
   ·exact hl u hu
  obtain ⟨g1, g2⟩ := B11 ks _ h5 hd
  refine ⟨A0s.2 ⟨h1, ?_, h3, by rw [A2j]; exact h4, g1⟩, by rw [Z1, Z1, g2]⟩
  split
  ·rw [List.getD_eq_getElem?_getD]
   cases hx : l[0]? with
   | none => exact A2G
   | some t => exact hl t (List.mem_of_getElem? hx)
  ·exact h2
theorem B11 : ∀ (ts : List Tm) (l : List Ty), Tm.smallL ts → (∀ u ∈ l, u.small) → Tm.smallL (N4 ts l) ∧ E7 (N4 ts l) = E7 ts
 | [], l, _, _ => by simp [N4, Tm.smallL, E7]
 | t :: ts, l, h, hl => by
  simp only [Tm.smallL] at h
  obtain ⟨a1, a2⟩ := A7Y t l h.1 hl
  obtain ⟨b1, b2⟩ := B11 ts (l.drop (H0 t).length) h.2 (fun u hu => hl u (List.mem_of_mem_drop hu))
  simp only [N4, Tm.smallL, E7, a2, b2]
  exact ⟨⟨a1, b1⟩, trivial⟩
end
theorem B7K (br : Nat) (pb : Option Addr) (nb cb : Nat) (bs : List UInt8) (hnb : nb ≤ 2000) (p : Nat) (G : IM) (hb : Sl G pb nb cb 1 (M7 bs)) (hp : p + 9000000 < 1099511627776) :
  Fn Tryz.prog 82 [.pointer (some ⟨br, 0, none⟩)] [rd br pb nb cb p] G
   (A0h br pb nb cb p 9000000 (fun G' v => ∃ e cells, v = .agg ⟨cells⟩ ∧ B1 G' e cells ∧ e.fit 1100)) := by
 have hm8 : mB 8 = 1968200 := by decide
 refine C1 Tryz.func82 rfl Tryz.ntmps82 Tryz.results82 rfl ?_
 intro w0
 refine A3 ?_
 refine sE (A7 rfl) rfl (fun b3 => ?_)
 refine D1 ?_
 refine C0 ?_
 (refine J0 (fun (x : Nat × Nat × IM) => ⟨[(3, .int .i64 x.1), (0, .pointer (some ⟨br, 0, none⟩)), (2, .pointer (some ⟨b3, 0, none⟩))], [rd br pb nb cb x.2.1, .blk b3 [.int .i64 0, .string ⟨⟨[]⟩⟩, .int .i64 0, .int .i64 0, .slice none 0 0, .int .i64 0, .slice none 0 0, .int .i64 0, .slice none 0 0]], x.2.2⟩) (fun x => x.1 ≤ 4 ∧ C2 G x.2.2 ∧ p ≤ x.2.1 ∧ x.2.1 ≤ p + x.1 * 2000000) (fun x => 4 - x.1) (0, p, G) ?_ ?_ ?_)
 (simp only [H6]; exact D2)
 (exact ⟨by omega, C2.refl _, Nat.le_refl _, by dsimp only; omega⟩)
 (rintro ⟨(i : Nat), (p1 : Nat), G1⟩ ⟨hi, hleL, hpL, hpL2⟩; simp only [] at hi hleL hpL hpL2 ⊢; replace hb := hb.mono hleL)
 refine B4 ?_
 refine sB (I8 rfl rfl) rfl rfl (fun h21 => ?_) (fun h21 => ?_)
 refine A8 ?_
 refine C0 ?_
 refine B0 ?_
 (refine I3 (D0 rfl rfl rfl (by omega) (by unfold maxLen; omega) rfl) rfl ?_; rintro _ ⟨b34, rfl⟩)
 (refine R9 (by repeat (first | exact Pk.here | apply Pk.there)) (fun Gf hlef hslf _ => ?_); refine J2 rfl (Z0 Gf br pb nb cb (p1) bs _ _ _ _ (hb.mono hlef) hnb (by omega) hslf (by decide)) (Pk.perm (by repeat (first | exact Pk.here | apply Pk.there))) rfl rfl (fun v Gm outs hlen hh => ?_); obtain ⟨rfl, rfl, hv⟩ := hh; replace hb := hb.mono hlef; obtain ⟨dd, rfl, hdd⟩ : ∃ d : Nat, v = .int .i64 ((d + 1 : Nat) : Int) ∧ d ≤ 2 := (by simp only [List.mem_cons, List.not_mem_nil, or_false] at hv; rcases hv with rfl | rfl | rfl | rfl <;> first | exact ⟨0, rfl, by decide⟩ | exact ⟨1, rfl, by decide⟩ | exact ⟨2, rfl, by decide⟩); have hdB := A43 hdd; replace hleL := hleL.trans hlef)
 (have hcall := A3g br pb nb cb bs hnb dd (p1 + 1) _ (by omega) hb (by omega); refine J2 rfl hcall (Pk.perm (by repeat (first | exact Pk.here | apply Pk.there))) rfl rfl (fun v Gn outs hleD hh => ?_); obtain ⟨pD, hpD1, hpD2, rfl, uD, cD, rfl, hrD, hsD, haD⟩ := hh; obtain ⟨qD, dD, eD, rfl, _⟩ := hrD.open; replace hb := hb.mono hleD; replace hleL := hleL.trans hleD)
 refine E3 ?_
 (refine I3 (D0 rfl rfl rfl (by omega) (by unfold maxLen; omega) rfl) rfl ?_; rintro _ ⟨b38, rfl⟩)
 (refine R9 (by repeat (first | exact Pk.here | apply Pk.there)) (fun Gf hlef hslf _ => ?_); refine J2 rfl (Z0 Gf br pb nb cb (pD) bs _ _ _ _ (hb.mono hlef) hnb (by omega) hslf (by decide)) (Pk.perm (by repeat (first | exact Pk.here | apply Pk.there))) rfl rfl (fun v Gm outs hlen hh => ?_); obtain ⟨rfl, rfl, hv⟩ := hh; replace hb := hb.mono hlef; replace hleL := hleL.trans hlef; replace hrD := hrD.mono hlef; obtain ⟨dp, rfl, hdp1, hdp2⟩ : ∃ d : Int, v = .int .i64 d ∧ 3 ≤ d ∧ d ≤ 5 := (by simp only [List.mem_cons, List.not_mem_nil, or_false] at hv; rcases hv with rfl | rfl | rfl | rfl <;> exact ⟨_, rfl, by decide, by decide⟩))
 (have hcall := B1V br pb nb cb bs hnb 8 dp uD (pD + 1) _ none 0 0 _ ⟨haD.le (by omega), by omega, by omega, .inr ⟨by omega, by omega⟩⟩ (by omega) (by omega) (by omega) (X9.nil _) hrD hb (by omega); refine J2 rfl hcall (Pk.perm (by repeat (first | exact Pk.here | apply Pk.there))) rfl rfl (fun v Gn outs hleM hh => ?_); obtain ⟨pM, hpM1, hpM2, rfl, eM, cM, rfl, hrM, hsmM, hcM⟩ := hh; have hlM := hrM.len; have hoM := hrM.one; replace hb := hb.mono hleM; replace hleL := hleL.trans hleM)
 refine sE (A7 rfl) rfl (fun b41 => ?_)
 refine W4 rfl rfl rfl hlM hoM rfl (by repeat first | exact Sw.here | apply Sw.there) (by exact D4 (by first | exact hlM.symm | omega)) ?_
 refine B4 ?_
 refine sL (A2 rfl rfl (A9 (by repeat first | exact mH | apply mT)) hlM) rfl rfl ?_
 (refine D9 rfl (A7H eM _ _ (by omega) hrM) rfl rfl (fun v G9 hle9 hh => ?_); have hmv := @A7W eM; obtain ⟨mc, mt, rfl, hmr, hmu⟩ := hh; obtain ⟨pt, ct, et, rfl, _⟩ := hmr.open; replace hb := hb.mono hle9; replace hleL := hleL.trans hle9; replace hrM := hrM.mono hle9; generalize (Q3 eM).isSome = mx at *; cases mx)
 refine B7 ?_
 refine sE (A7 rfl) rfl (fun b52 => ?_)
 refine I7 ?_
 refine sP (H5 rfl rfl (by omega) (by omega)) rfl rfl ?_
 refine A3 ?_
 refine I1 (i + 1, pM, G9) ?_ ?_ ?_
 (simp only [H6]; exact D2)
 (dsimp only; exact ⟨by omega, hleL, by omega, by omega⟩)
 (show 4 - (i + 1) < 4 - i; omega)
 refine B7 ?_
 refine sE (A7 rfl) rfl (fun b78 => ?_)
 refine K5 ?_
 refine sL (A2 rfl rfl (A9 (by repeat first | exact mH | apply mT)) hlM) rfl rfl ?_
 refine W4 rfl rfl rfl hlM hoM rfl (by repeat first | exact Sw.here | apply Sw.there) (by exact D4 (by first | exact hlM.symm | omega)) ?_
 refine D1 ?_
 refine H9 (outs := [rd br pb nb cb pM]) (rC rfl (A2 rfl rfl (A9 (by repeat first | exact mH | apply mT)) hlM)) (by repeat (first | exact A0.nil | refine A0.cons Pk.here ?_ | refine A0.cons (Pk.there Pk.here) ?_ | refine A0.cons (Pk.there (Pk.there Pk.here)) ?_ | apply A0.drop)) ?_
 (exact ⟨pM, by omega, by omega, rfl, eM, _, rfl, hrM, (A4p (hmv rfl)).le (by omega)⟩)
 refine J1 ?_
 (have hcall := B4i br pb nb cb bs hnb p1 _ hb (by omega); refine J2 rfl hcall (Pk.perm (by repeat (first | exact Pk.here | apply Pk.there))) rfl rfl (fun v Gn outs hleC hh => ?_); obtain ⟨pC, hpC1, hpC2, rfl, eC, cC, rfl, hrC, hcC⟩ := hh; have hlC := hrC.len; have hoC := hrC.one; have hcnt := A6t eC)
 refine W4 rfl rfl rfl hlC hoC rfl (by repeat first | exact Sw.here | apply Sw.there) (by exact D4 (by first | exact hlC.symm | omega)) ?_
 refine B7 ?_
 refine H9 (outs := [rd br pb nb cb pC]) (rC rfl (A2 rfl rfl (A9 (by repeat first | exact mH | apply mT)) hlC)) (by repeat (first | exact A0.nil | refine A0.cons Pk.here ?_ | refine A0.cons (Pk.there Pk.here) ?_ | refine A0.cons (Pk.there (Pk.there Pk.here)) ?_ | apply A0.drop)) ?_
 (exact ⟨pC, by omega, by omega, rfl, eC, _, rfl, hrC, A89 _ (by omega), by omega⟩)
mutual
theorem A5F : ∀ a : Ty, A1t a a = true
 | .mk k ks => by rw [A1g, B12 ks]; simp
theorem B12 : ∀ xs : List Ty, A0F xs xs = true
 | [] => rfl
 | a :: xs => by rw [A0F, A5F a, B12 xs]; rfl
end
theorem B7L (a : Ty) : A1t a (.mk 1 []) = true := by obtain ⟨k, ks⟩ := a; rw [A1g]; simp
def PLe (l l' : List Ty) : Prop := ∀ i, A1t (l.getD i B3) (l'.getD i B3) = true
theorem PLe.drop {l l' : List Ty} (h : PLe l l') (n : Nat) : PLe (l.drop n) (l'.drop n) := by
 intro i
 have := h (n + i)
 simpa [List.getD_eq_getElem?_getD, List.getElem?_drop] using this
mutual
theorem B13 : ∀ (t : Tm) (l l' : List Ty), PLe l l' → A2M (S2 t l) (S2 t l') = true
 | .mk k nm num ty fr lb ks, l, l', h => by
  rw [S2, S2, B0k]
  refine ⟨rfl, rfl, rfl, fun hk => ?_, ?_⟩
  ·rw [if_pos hk, if_pos hk]; exact h 0
  ·split
   ·exact A7Z ks _ _ (h.drop 1)
   ·exact A7Z ks _ _ h
theorem A7Z : ∀ (ts : List Tm) (l l' : List Ty), PLe l l' → A2d (N4 ts l) (N4 ts l') = true
 | [], _, _, _ => by rw [N4, N4]; rfl
 | t :: ts, l, l', h => by
  rw [N4, N4, A2d, B13 t l l' h, A7Z ts _ _ (h.drop _)]; rfl
end
theorem A5G (m : Nat) : ∀ (L : List Ty) (j i : Nat), (P4 m j L).getD i B3 = if i < L.length then (if (m / 2 ^ (j + i)) % 2 = 1 then .mk 1 [] else L.getD i B3) else B3
 | [], j, i => by simp [P4]
 | t :: ts, j, 0 => by simp [P4]
 | t :: ts, j, i + 1 => by
  rw [P4, List.getD_cons_succ, A5G m ts (j + 1) i, List.getD_cons_succ, show j + 1 + i = j + (i + 1) by omega]
  simp
theorem B7M {m m' : Nat} (L : List Ty) (h : ∀ i, (m / 2 ^ i) % 2 = 1 → (m' / 2 ^ i) % 2 = 1) : PLe (P4 m 0 L) (P4 m' 0 L) := by
 intro i
 rw [A5G, A5G]
 by_cases hi : i < L.length
 ·rw [if_pos hi, if_pos hi, Nat.zero_add]
  by_cases h1 : (m / 2 ^ i) % 2 = 1
  ·rw [if_pos h1, if_pos (h i h1)]; exact A5F _
  ·rw [if_neg h1]
   split
   ·exact B7L _
   ·exact A5F _
 ·rw [if_neg hi, if_neg hi]; exact A5F _
mutual
theorem B14 : ∀ (t : Tm) (l : List Ty) (d : Int), M8 12 14 t d = true → (H0 t).length ≤ l.length → (∀ u ∈ l, H1 u = true) → M8 12 14 (S2 t l) d = true
 | .mk k nm num ty fr lb ks, l, d, h, hl, hv => by
  obtain ⟨h1, h2, h3, h4⟩ := A0P h
  obtain ⟨n1, n2, n3, n4, n5, n6, n7, n8, n9⟩ := T9.1 h3
  rw [H0, List.length_append] at hl
  rw [S2, A14 h1 h2]
  ·refine B15 ks _ _ h4 ?_ ?_
   ·split
    ·rename_i hk
     rw [if_pos hk] at hl
     simp only [List.length_singleton] at hl
     rw [List.length_drop]; omega
    ·rename_i hk
     rw [if_neg hk] at hl
     simpa using hl
   ·intro u hu
    split at hu
    ·exact hv u (List.mem_of_mem_drop hu)
    ·exact hv u hu
  ·rw [A2j]
   by_cases hk : k = 5 ∨ k = 13
   ·rw [if_pos hk] at hl ⊢
    simp only [List.length_singleton] at hl
    refine T9.2 ⟨n1, n2, n3, n4, n5, fun _ => ?_, fun hn => absurd hk (by omega), fun h14 => absurd h14 h2, n9⟩
    rw [List.getD_eq_getElem?_getD, List.getElem?_eq_getElem (by omega), Option.getD_some]
    exact hv _ (List.getElem_mem _)
   ·rw [if_neg hk]; exact h3
theorem B15 : ∀ (ts : List Tm) (l : List Ty) (d : Int), M4 12 14 ts d = true → (I0 ts).length ≤ l.length → (∀ u ∈ l, H1 u = true) → M4 12 14 (N4 ts l) d = true
 | [], _, _, _, _, _ => by rw [N4]; rfl
 | t :: ts, l, d, h, hl, hv => by
  rw [M4, Bool.and_eq_true] at h
  rw [I0, List.length_append] at hl
  rw [N4, M4, B14 t l d h.1 (by omega) hv, B15 ts _ d h.2 (by rw [List.length_drop]; omega) (fun u hu => hv u (List.mem_of_mem_drop hu))]; rfl
end
theorem B16 {e : Tm} (h : N9 e = true) (m : Nat) : ∀ u ∈ P4 m 0 (H0 e), H1 u = true := by
 intro u hu
 rcases A3B m (H0 e) 0 u hu with h1 | h1
 ·rw [h1]; decide
 ·exact A7X e 1 ((A0C e).1 h).1 u h1
theorem B17 {e : Tm} (h : N9 e = true) (m : Nat) : N9 (P1 e m) = true := by
 obtain ⟨h1, h2⟩ := (A0C e).1 h
 have hf := (A7Y e (P4 m 0 (H0 e)) (A4p h).1 (fun u hu => (A33 (B16 h m u hu)).1.small)).2
 refine (A0C _).2 ⟨?_, ?_⟩
 ·unfold P1
  exact B14 e _ 1 h1 (by rw [A2k]; omega) (B16 h m)
 ·unfold P1; omega
theorem B7N {e : Tm} {m m' : Nat} (h : N9 e = true) (hb : ∀ i, (m / 2 ^ i) % 2 = 1 → (m' / 2 ^ i) % 2 = 1) : A3t (P1 e m) (P1 e m') = true := by
 unfold A3t
 rw [B17 h m, B17 h m']
 unfold P1
 rw [B13 e _ _ (B7M _ hb)]; rfl
mutual
theorem B18 : ∀ (t : Tm) (l : List Ty), S2 t (H0 t ++ l) = t
 | .mk k nm num ty fr lb ks, l => by
  rw [S2, H0]
  by_cases hk : k = 5 ∨ k = 13
  ·rw [if_pos hk, if_pos hk, if_pos hk]
   simp only [List.cons_append, List.nil_append, List.getD_cons_zero, List.drop_succ_cons, List.drop_zero]
   rw [A70 ks l]
  ·rw [if_neg hk, if_neg hk, if_neg hk, List.nil_append, A70 ks l]
theorem A70 : ∀ (ts : List Tm) (l : List Ty), N4 ts (I0 ts ++ l) = ts
 | [], _ => by rw [N4]
 | t :: ts, l => by
  rw [I0, N4, List.append_assoc, B18 t]
  rw [List.drop_left, A70 ts l]
end
theorem B19 : ∀ (L : List Ty) (j : Nat), P4 0 j L = L
 | [], _ => rfl
 | t :: ts, j => by rw [P4, B19 ts]; simp
theorem B8y (e : Tm) : P1 e 0 = e := by
 unfold P1
 rw [B19]
 have := B18 e []
 rwa [List.append_nil] at this
theorem B8z {e : Tm} {m m' : Nat} {fuel : Int} (h : N9 e = true) (hf : O7 fuel 0 300 = true) (hb : ∀ i, (m / 2 ^ i) % 2 = 1 → (m' / 2 ^ i) % 2 = 1) (h0 : (O2 (P1 e m) fuel).2.1 = 0) : (O2 (P1 e m') fuel).2.1 ≠ 2 := by
 rcases B7v (B7N h hb) hf h0 with ⟨g, _⟩ | g | g <;> omega
theorem B2a (m i : Nat) : (m / 2 ^ i) % 2 = 1 ↔ m.testBit i = true := by
 rw [Nat.testBit_eq_decide_div_mod_eq, decide_eq_true_eq]
theorem B8A {m m' : Nat} (h : m &&& m' = m) : ∀ i, (m / 2 ^ i) % 2 = 1 → (m' / 2 ^ i) % 2 = 1 := by
 intro i hi
 rw [B2a] at hi ⊢
 rw [← h, Nat.testBit_and, Bool.and_eq_true] at hi
 exact hi.2
section masks
variable {P : Program} {Γ : L7} {env : M2} {hp : List A6} {G : IM} {ty : TypeId}
theorem B7O {x y : Operand} {t t' : TypeId} {m n : Nat} (hx : evo env x = some (.int .i64 (m : Int))) (hy : evo env y = some (.int .i64 (n : Int))) (hm : m ≤ 4294967296) (hn : n ≤ 4294967296) :
  I4 P Γ ⟨env, hp, G⟩ (.binOp .and t x y t') ty (.int .i64 ((m &&& n : Nat) : Int)) := by
 refine ⟨fun a _ hs _ _ _ _ w => ?_⟩
 have hle : m &&& n ≤ m := Nat.and_le_left
 have h1 : (BitVec.ofInt (IntKind.bits .i64) (m : Int) &&& BitVec.ofInt (IntKind.bits .i64) (n : Int)).toNat = m &&& n := by
  have hb : IntKind.bits .i64 = 64 := rfl
  rw [hb, BitVec.toNat_and]
  have e1 : (BitVec.ofInt 64 (m : Int)).toNat = m := by rw [BitVec.ofInt_natCast, BitVec.toNat_ofNat]; omega
  have e2 : (BitVec.ofInt 64 (n : Int)).toNat = n := by rw [BitVec.ofInt_natCast, BitVec.toNat_ofNat]; omega
  rw [e1, e2]
 have h2 : IntKind.wrap .i64 ((m &&& n : Nat) : Int) = ((m &&& n : Nat) : Int) := A04 _ rfl (by omega) (by omega)
 simp only [execOp, eqGuard, binOp, Op.intBits, (hs.evo hx : a.eval x = _), (hs.evo hy : a.eval y = _), ne_eq, not_true_eq_false, if_false, h1, h2]
 rfl
end masks
end Gw
end Go.Proofs.YtebfignffjhnhaaGreatDoor
