/-
  The types that a term's text holds: the program's list.
-/
import Derived.Test.YtfpgncjeejickaaGreatKg5
import Derived.Test.YtfpgncjeejickaaGreatKg2
import Derived.Test.YtfpgncjeejickaaGreatKg1
import Derived.Test.YtfpgncjeejickaaGreatKg3
import Derived.Test.YtfpgncjeejickaaGreatKg4
set_option linter.unusedVariables false
set_option linter.unusedSimpArgs false
set_option maxHeartbeats 0
set_option maxRecDepth 100000
set_option synthInstance.maxSize 4000
set_option synthInstance.maxHeartbeats 0
namespace Go.Proofs.YtfpgncjeejickaaGreat
open Go Go.RowKit
namespace Gw
theorem C8.append {G : IM} : ∀ {a b : List Ty} {es fs : List (List Value)}, C8 G a es → C8 G b fs → C8 G (a ++ b) (es ++ fs)
 | [], b, es, fs, h, h2 => by simp only [C8] at h; subst h; simpa using h2
 | t :: a, b, es, fs, h, h2 => by
  simp only [C8] at h
  obtain ⟨x, r, rfl, h3, h4⟩ := h
  simp only [List.cons_append, C8]
  exact ⟨x, r ++ fs, rfl, h3, C8.append h4 h2⟩
theorem C8.ones {G : IM} {ts : List Ty} {es : List (List Value)} (h : C8 G ts es) : ∀ u ∈ es.flatten, u.oneCell' = true := by
 intro u hu
 obtain ⟨e, he, hue⟩ := List.mem_flatten.1 hu
 exact List.all_eq_true.1 (h.each e he).2 u hue
theorem C8.one1 {G : IM} {t : Ty} {c : List Value} (h : C1 G t c) : C8 G [t] [c] := by
 simp only [C8]; exact ⟨c, [], rfl, h, rfl⟩
def Z1 (ts : List Ty) : IM → Value → List A5 → Prop := fun G' v outs => ∃ p c es, v = .slice p ts.length c ∧ outs = [.slc p c 25 2 ts.length es.flatten] ∧ C8 G' ts es
theorem Z1.mk {ts : List Ty} {n : Nat} {G' : IM} {p : Option Addr} {c : Nat} {es : List (List Value)} (hn : ts.length = n) (hr : C8 G' ts es) : Z1 ts G' (.slice p n c) [.slc p c 25 2 n es.flatten] := by
 subst hn
 exact ⟨p, c, es, rfl, rfl, hr⟩
theorem A48 : ∀ (t : Tm) (G : IM) (cells : List Value), t.small → D0 t ≤ 4000000 → A8 G t cells → Fn Tryz.prog 75 [.agg ⟨cells⟩] [] G (Z1 (H0 t)) := by
 refine Tm.ind fun k nm num ty fr lb ks ih G cells hts hcnt hr => ?_
 have hT := A9B _ G cells hr
 have hone := hr.one
 simp only [Tm.small] at hts
 obtain ⟨_, hty', _, hsm, hks⟩ := hts
 have hcy : A1t k = true → H0 (.mk k nm num ty fr lb ks) = [ty] ++ H5 ks := fun h => by rw [H0, if_pos (of_decide_eq_true h)]
 have hcn : A1t k = false → H0 (.mk k nm num ty fr lb ks) = [] ++ H5 ks := fun h => by rw [H0, if_neg (of_decide_eq_false h)]
 rw [D0] at hcnt
 obtain ⟨tk, tks⟩ := ty
 obtain ⟨fk, fks⟩ := fr
 have hT' : Fn Tryz.prog 112 _ [] G (I5 (.bool (A1t k)) G) := hT
 obtain ⟨pt, ct, pf, cf, q, cq, ek, rfl, hk, hnum, hlb, hty, hfr, hsl, hkl⟩ := hr.open9
 have hn := hsl.le
 refine C0 Tryz.func75 rfl Tryz.ntmps75 Tryz.results75 rfl ?_
 intro w0
 refine tS (tR ?_)
 refine sE (C5 rfl rfl) rfl (fun b3 => ?_)
 refine K8 ?_
 refine H4 rfl (hT') rfl rfl (fun h16 => ?_) (fun h16 => ?_)
 refine sD (nS (qT rfl ?_))
 (show J1 _ _ (.region 3 ..) _ _; refine Q7 25 2 ?_; refine tR ?_)
 refine E3 ?_
 (refine D8 rfl (A1L (.mk tk tks) G _ hty' hty) rfl rfl (fun v G1 hle1 hh => ?_); obtain ⟨cs1, F1, rfl, hs1, hn1⟩ := hh; have hr1 := hs1.R.mono (C4.le _ _); obtain ⟨p1, c1, rfl, _⟩ := hs1.open)
 (refine I1 (C9 rfl rfl rfl (by omega) (by unfold maxLen; omega) rfl) rfl ?_; rintro _ ⟨b25, rfl⟩)
 (refine X4 rfl rfl rfl rfl rfl (fun _ _ => by repeat (first | exact Sw.here | apply Sw.there)) (M6 (by repeat first | exact mH | apply mT)) rfl (by simp [Value.oneCell']) (by unfold maxLen; omega) (by omega) rfl (fun pn0 cn0 => ?_))
 refine K8 ?_
 refine B8 ?_
 (have h14 := hcy (by assumption); have hinit := C8.one1 hr1; refine I2 (fun (x : Nat × Nat × Option Addr × Nat × List (List Value) × IM) => ⟨[(17, .int .i64 x.1), (16, .int .i64 ks.length), (15, .slice q ks.length cq), (3, .slice x.2.2.1 x.2.1 x.2.2.2.1)], [.slc x.2.2.1 x.2.2.2.1 25 2 x.2.1 x.2.2.2.2.1.flatten], x.2.2.2.2.2⟩) (fun x => x.1 ≤ ks.length ∧ B9 G x.2.2.2.2.2 ∧ C8 x.2.2.2.2.2 ([Ty.mk tk tks] ++ H5 (ks.take x.1)) x.2.2.2.2.1 ∧ ([Ty.mk tk tks] ++ H5 (ks.take x.1)).length = x.2.1) (fun x => ks.length - x.1) (0, 1, pn0, cn0, [[.int .i64 tk, .slice p1 tks.length c1]], G1) ?_ ?_ ?_)
 (simp only [H6]; exact D3)
 (exact ⟨Nat.zero_le _, hle1, (by show C8 G1 ([Ty.mk tk tks] ++ H5 (ks.take 0)) _; rw [List.take_zero, H5, List.append_nil]; exact hinit), by simp [H5]⟩)
 (rintro ⟨(i : Nat), (m : Nat), pn, cn, es, Gi⟩ ⟨hi, hle, hst, hlen⟩; simp only [] at hi hle hst hlen ⊢; replace hsl := hsl.mono hle; replace hkl := hkl.mono hle; have hb1 := A0U (ks.take i); have hb2 := A0U ks; simp only [List.length_append, List.length_singleton, List.length_nil] at hlen)
 refine tS (tR ?_)
 refine sB (I0 rfl rfl) rfl rfl (fun h46 => ?_) (fun h46 => ?_)
 refine B4 ?_
 refine B8 ?_
 refine tS (tR ?_)
 (obtain ⟨b, o, e, rfl, hl, hat, hre, hgb⟩ := hsl.kidTm hkl (i := i) (by omega) (by omega); have hone9 := hre.one; have hsc := A0p (ks := ks) (i := i) (by omega); have hsk := Z6 (ks := ks) (i := i) (by omega); refine sP (B3 rfl rfl rfl (by omega)) rfl rfl ?_)
 refine sL (A2 rfl rfl (hat _) hl) rfl rfl ?_
 refine sE (A6 rfl) rfl (fun b59 => ?_)
 refine sS rfl rfl rfl hl hone9 rfl ?_ (hu := by exact D5 hl.symm)
 refine B6 ?_
 refine sL (A2 rfl rfl (A9 (by repeat first | exact mH | apply mT)) hl) rfl rfl ?_
 (refine W0 rfl (ih ks[i] (List.getElem_mem (by omega)) _ _ (Tm.smallL_mem hks _ (List.getElem_mem (by omega))) (by omega) hre) rfl rfl (fun v G3 outs hle3 hh => ?_); obtain ⟨p3, c3, e3, rfl, rfl, hr3⟩ := hh; have hlk := A46 ks[i]; refine R6 (cs := e3.flatten) Pk.here (fun G4 hle4 hsl4 hno4 => ?_); refine A47 (cs := es.flatten) (by repeat (first | exact Pk.here | apply Pk.there)) (fun hcap => ?_))
 (refine A2v rfl rfl rfl rfl rfl (fun _ _ => by repeat (first | exact Sw.here | apply Sw.there)) hsl4 hr3.ones hcap (by unfold maxLen; omega) (by omega) rfl (fun p4 c4 => ?_))
 refine B0 ?_
 refine sP (H2 rfl rfl (by omega) (by omega)) rfl rfl ?_
 refine D7 ?_
 (have hap := C8.append (hst.mono (hle3.trans hle4)) (hr3.mono hle4); refine H9 (i + 1, m + (H0 ks[i]).length, p4, c4, es ++ e3, G4) (by simp only [List.flatten_append]; exact (J8 (by repeat (first | exact D4.nil | refine D4.cons rfl ?_)) (by repeat (first | exact A0.refl | exact A0.nil | refine A0.cons (by repeat (first | exact Pk.here | apply Pk.there)) ?_ | apply A0.drop)))) ?_ ?_)
 (dsimp only; exact ⟨by omega, hle.trans (hle3.trans hle4), by rw [W9 (by omega), ← List.append_assoc]; exact hap, by rw [W9 (by omega)]; simp only [List.length_append, List.length_singleton, List.length_nil]; omega⟩)
 (show ks.length - (i + 1) < ks.length - i; omega)
 refine I6 ?_
 (obtain rfl : i = ks.length := (by omega))
 refine tT ?_
 refine H7 (outs := [.slc pn cn 25 2 m es.flatten]) (rT rfl) (A0.cons (by repeat (first | exact Pk.here | apply Pk.there)) A0.nil) ?_
 (rw [h14]; rw [List.take_length] at hst hlen; exact Z1.mk (by simp only [List.length_append, List.length_singleton, List.length_nil]; omega) hst)
 refine K5 ?_
 refine B8 ?_
 (have h14 := hcn (by assumption); refine Q7 25 2 ?_; refine I2 (fun (x : Nat × Nat × Option Addr × Nat × List (List Value) × IM) => ⟨[(17, .int .i64 x.1), (16, .int .i64 ks.length), (15, .slice q ks.length cq), (3, .slice x.2.2.1 x.2.1 x.2.2.2.1)], [.slc x.2.2.1 x.2.2.2.1 25 2 x.2.1 x.2.2.2.2.1.flatten], x.2.2.2.2.2⟩) (fun x => x.1 ≤ ks.length ∧ B9 G x.2.2.2.2.2 ∧ C8 x.2.2.2.2.2 ([] ++ H5 (ks.take x.1)) x.2.2.2.2.1 ∧ ([] ++ H5 (ks.take x.1)).length = x.2.1) (fun x => ks.length - x.1) (0, 0, none, 0, [], G) ?_ ?_ ?_)
 (simp only [H6]; exact D3)
 (exact ⟨Nat.zero_le _, B9.refl _, by simp [H5, C8], by simp [H5]⟩)
 (rintro ⟨(i : Nat), (m : Nat), pn, cn, es, Gi⟩ ⟨hi, hle, hst, hlen⟩; simp only [] at hi hle hst hlen ⊢; replace hsl := hsl.mono hle; replace hkl := hkl.mono hle; have hb1 := A0U (ks.take i); have hb2 := A0U ks; simp only [List.length_append, List.length_singleton, List.length_nil] at hlen)
 refine tS (tR ?_)
 refine sB (I0 rfl rfl) rfl rfl (fun h119 => ?_) (fun h119 => ?_)
 refine B4 ?_
 refine B8 ?_
 refine tS (tR ?_)
 (obtain ⟨b, o, e, rfl, hl, hat, hre, hgb⟩ := hsl.kidTm hkl (i := i) (by omega) (by omega); have hone9 := hre.one; have hsc := A0p (ks := ks) (i := i) (by omega); have hsk := Z6 (ks := ks) (i := i) (by omega); refine sP (B3 rfl rfl rfl (by omega)) rfl rfl ?_)
 refine sL (A2 rfl rfl (hat _) hl) rfl rfl ?_
 refine sE (A6 rfl) rfl (fun b132 => ?_)
 refine sS rfl rfl rfl hl hone9 rfl ?_ (hu := by exact D5 hl.symm)
 refine B6 ?_
 refine sL (A2 rfl rfl (A9 (by repeat first | exact mH | apply mT)) hl) rfl rfl ?_
 (refine W0 rfl (ih ks[i] (List.getElem_mem (by omega)) _ _ (Tm.smallL_mem hks _ (List.getElem_mem (by omega))) (by omega) hre) rfl rfl (fun v G3 outs hle3 hh => ?_); obtain ⟨p3, c3, e3, rfl, rfl, hr3⟩ := hh; have hlk := A46 ks[i]; refine R6 (cs := e3.flatten) Pk.here (fun G4 hle4 hsl4 hno4 => ?_); refine A47 (cs := es.flatten) (by repeat (first | exact Pk.here | apply Pk.there)) (fun hcap => ?_))
 (refine A2v rfl rfl rfl rfl rfl (fun _ _ => by repeat (first | exact Sw.here | apply Sw.there)) hsl4 hr3.ones hcap (by unfold maxLen; omega) (by omega) rfl (fun p4 c4 => ?_))
 refine B0 ?_
 refine sP (H2 rfl rfl (by omega) (by omega)) rfl rfl ?_
 refine D7 ?_
 (have hap := C8.append (hst.mono (hle3.trans hle4)) (hr3.mono hle4); refine H9 (i + 1, m + (H0 ks[i]).length, p4, c4, es ++ e3, G4) (by simp only [List.flatten_append]; exact (J8 (by repeat (first | exact D4.nil | refine D4.cons rfl ?_)) (by repeat (first | exact A0.refl | exact A0.nil | refine A0.cons (by repeat (first | exact Pk.here | apply Pk.there)) ?_ | apply A0.drop)))) ?_ ?_)
 (dsimp only; exact ⟨by omega, hle.trans (hle3.trans hle4), by rw [W9 (by omega), ← List.append_assoc]; exact hap, by rw [W9 (by omega)]; simp only [List.length_append, List.length_singleton, List.length_nil]; omega⟩)
 (show ks.length - (i + 1) < ks.length - i; omega)
 refine I6 ?_
 (obtain rfl : i = ks.length := (by omega))
 refine tT ?_
 refine H7 (outs := [.slc pn cn 25 2 m es.flatten]) (rT rfl) (A0.cons (by repeat (first | exact Pk.here | apply Pk.there)) A0.nil) ?_
 (rw [h14]; rw [List.take_length] at hst hlen; exact Z1.mk (by simp only [List.length_append, List.length_singleton, List.length_nil]; omega) hst)
theorem A9Q {sz : Nat} : ∀ {es : List (List Value)} (l : Nat), (∀ e ∈ es, e.length = sz) → es.flatten.drop (l * sz) = (es.drop l).flatten
 | [], l, _ => by simp
 | e :: es, 0, _ => by simp
 | e :: es, l + 1, h => by
  rw [List.flatten_cons, List.drop_succ_cons, ← A9Q l (fun x hx => h x (List.mem_cons_of_mem _ hx)), Nat.add_mul, Nat.one_mul]
  have he := h e List.mem_cons_self
  rw [List.drop_append, List.drop_eq_nil_of_le (by omega), List.nil_append]
  congr 1; omega
theorem D1.from2 {G : IM} {b o n c l sz : Nat} {es : List (List Value)} (h : D1 G (some ⟨b, o, none⟩) n c sz es) (hl : l ≤ n) : D1 G (some ⟨b, if c = l then o else o + l * sz, none⟩) (n - l) (c - l) sz (es.drop l) := by
 have h1 := h.sl.from hl
 rw [A9Q l h.all] at h1
 exact D1.of h1 (by rw [List.length_drop, h.len]) (fun e he => h.all e (List.mem_of_mem_drop he)) (fun e he => h.one e (List.mem_of_mem_drop he))
theorem C8.drop {G : IM} : ∀ {l : List Ty} {es : List (List Value)} (n : Nat), C8 G l es → C8 G (l.drop n) (es.drop n)
 | [], es, n, h => by simp only [C8] at h; subst h; simp [C8]
 | t :: l, es, 0, h => by simpa using h
 | t :: l, es, n + 1, h => by
  simp only [C8] at h
  obtain ⟨a, r, rfl, h1, h2⟩ := h
  simpa using C8.drop n h2
def RtP (u : Tm) (l : List Ty) : IM → Value → List A5 → Prop := fun G' v outs => outs = [] ∧ ∃ cu p c el, v = .tuple ⟨[.agg ⟨cu⟩, .slice p l.length c]⟩ ∧ A8 G' u cu ∧ D1 G' p l.length c 2 el ∧ C8 G' l el
theorem RtP.mk {G' : IM} {k : Int} {nm : ByteArray} {num : Int} {ty fr : Ty} {lb : Int} {ks : List Tm} {tk fk : Int} {pt pf : Option Addr} {nt ct nf cf : Nat} {p q : Option Addr} {m c cq n : Nat} {es el : List (List Value)} {l : List Ty}
  (hk : F8 k) (hnum : F8 num) (hlb : F8 lb) (hty : C1 G' ty [.int .i64 tk, .slice pt nt ct]) (hfr : C1 G' fr [.int .i64 fk, .slice pf nf cf]) (hm : m = ks.length) (hs : Sl G' p m c 9 es.flatten) (hr : C6 G' ks es)
  (hn : n = l.length) (hq : D1 G' q n cq 2 el) (hl : C8 G' l el) :
  RtP (.mk k nm num ty fr lb ks) l G' (.tuple ⟨[.agg ⟨[.int .i64 k, .string nm, .int .i64 num, .int .i64 tk, .slice pt nt ct, .int .i64 fk, .slice pf nf cf, .int .i64 lb, .slice p m c]⟩, .slice q n cq]⟩) [] := by
 subst hm hn
 refine ⟨rfl, _, q, cq, el, rfl, ?_, hq, hl⟩
 simp only [A8]
 exact ⟨_, _, p, c, es, rfl, hk, hnum, hlb, hty, hfr, D1.of hs hr.len hr.all (fun e he => by obtain ⟨j, hj⟩ := List.getElem?_of_mem he; exact (hr.inv hj K1).2.one), hr⟩
theorem B4u : ∀ (t : Tm) (l : List Ty) (G : IM) (cells : List Value) (p : Option Addr) (c : Nat) (el : List (List Value)), (H0 t).length ≤ l.length → (∀ u ∈ l, u.small) → D0 t ≤ 4000000 → A8 G t cells → D1 G p l.length c 2 el → C8 G l el →
  Fn Tryz.prog 113 [.agg ⟨cells⟩, .slice p l.length c] [] G (RtP (T9 t l) (l.drop (H0 t).length)) := by
 refine Tm.ind fun k nm num ty fr lb ks ih l G cells p c el hlen hsm hcnt hr hse hel => ?_
 have hT := A9B _ G cells hr
 have hone := hr.one
 have hcy : A1t k = true → H0 (.mk k nm num ty fr lb ks) = [ty] ++ H5 ks := fun h => by rw [H0, if_pos (of_decide_eq_true h)]
 have hcn : A1t k = false → H0 (.mk k nm num ty fr lb ks) = [] ++ H5 ks := fun h => by rw [H0, if_neg (of_decide_eq_false h)]
 have hwy : A1t k = true → T9 (.mk k nm num ty fr lb ks) l = .mk k nm num (l.getD 0 B2) fr lb (O4 ks (l.drop 1)) := fun h => by rw [T9, if_pos (of_decide_eq_true h), if_pos (of_decide_eq_true h)]
 have hwn : A1t k = false → T9 (.mk k nm num ty fr lb ks) l = .mk k nm num ty fr lb (O4 ks l) := fun h => by rw [T9, if_neg (of_decide_eq_false h), if_neg (of_decide_eq_false h)]
 rw [D0] at hcnt
 obtain ⟨tk, tks⟩ := ty
 obtain ⟨fk, fks⟩ := fr
 have hT' : Fn Tryz.prog 112 _ [] G (I5 (.bool (A1t k)) G) := hT
 obtain ⟨pt, ct, pf, cf, q, cq, ek, rfl, hk, hnum, hlb, hty, hfr, hsl, hkl⟩ := hr.open9
 have hn := hsl.le
 have hkn := A4z ks
 refine C0 Tryz.func113 rfl Tryz.ntmps113 Tryz.results113 rfl ?_
 intro w0
 refine tS (tR ?_)
 refine sE (C5 rfl rfl) rfl (fun b3 => ?_)
 refine sE (A6 rfl) rfl (fun b4 => ?_)
 refine A7 ?_
 refine sE (A6 rfl) rfl (fun b11 => ?_)
 refine K3 ?_
 refine H4 rfl (hT') rfl rfl (fun h25 => ?_) (fun h25 => ?_)
 refine sD (nS (qT rfl ?_))
 (have hL1 := hcy (by assumption); have h1 : 1 + (H5 ks).length ≤ l.length := (by rw [hL1] at hlen; simp only [List.length_append, List.length_singleton] at hlen; omega); obtain ⟨b0, o0, p20, c20, rfl, hat0, hre0, hgb0⟩ := hse.kidTy hel (i := 0) (by omega) (by omega); obtain ⟨T0, hT0⟩ : ∃ T, T = l[0]'(by omega) := ⟨_, rfl⟩; have hs0 := hsm _ (List.getElem_mem (show 0 < l.length by omega)); rw [← hT0] at hre0 hat0 hs0; have hO := A1L T0 G _ hs0 hre0; refine E0 E1 rfl ?_)
 refine I8 (i := 0) (l' := [tt,ff,ff,ff,ff,ff,ff,ff,ff]) rfl D2 (qM rfl) rfl (by kernel_rfl) rfl rfl ?_
 refine aP 1 rfl (B3 (j := 0) rfl rfl rfl (by omega)) rfl ?_
 refine aL 2 rfl (A2 rfl rfl (hat0 _) rfl) rfl ?_
 refine aP 4 rfl (qM rfl) rfl ?_
 refine aP 5 rfl (B2S (l := 1) rfl rfl rfl (by omega)) rfl ?_
 refine A3 3 ?_
 (refine H1 rfl rfl hO rfl rfl rfl (fun v G1 hle1 hh => ?_); obtain ⟨cs1, F1, rfl, hs1, hn1⟩ := hh; have hr1 := hs1.R.mono (C4.le _ _); obtain ⟨p1, c1, rfl, _⟩ := hs1.open)
 refine aP 6 rfl (B7 rfl) rfl ?_
 refine A3 7 ?_
 refine H8 rfl ?_
 refine aP 8 rfl (qA rfl) rfl ?_
 refine J2 ?_
 refine B8 ?_
 (have hL2 := hcy (by assumption); have hW2 := hwy (by assumption); have hse1 := (hse.from2 (l := 1) (by omega)).mono hle1; have hel1 := (hel.drop 1).mono hle1; refine Q7 28 9 ?_; refine I2 (fun (x : Nat × Option Addr × Nat × List (List Value) × Option Addr × Nat × Nat × List (List Value) × IM) => ⟨[(25, .int .i64 x.1), (24, .int .i64 ks.length), (23, .slice q ks.length cq), (1, .slice x.2.2.2.2.1 x.2.2.2.2.2.1 x.2.2.2.2.2.2.1), (6, .pointer (some ⟨b11, 0, none⟩)), (4, .pointer (some ⟨b4, 0, none⟩))], [.blk b11 [.int .i64 k, .string nm, .int .i64 num, .int .i64 T0.k, .slice p1 T0.ks.length c1, .int .i64 fk, .slice pf fks.length cf, .int .i64 lb, .slice x.2.1 x.1 x.2.2.1], .slc x.2.1 x.2.2.1 28 9 x.1 x.2.2.2.1.flatten, .blk b4 [.int .i64 0, .string ⟨⟨[]⟩⟩, .int .i64 0, .int .i64 0, .slice none 0 0, .int .i64 0, .slice none 0 0, .int .i64 0, .slice none 0 0]], x.2.2.2.2.2.2.2.2⟩) (fun x => x.1 ≤ ks.length ∧ B9 G1 x.2.2.2.2.2.2.2.2 ∧ C6 x.2.2.2.2.2.2.2.2 (O4 (ks.take x.1) (l.drop 1)) x.2.2.2.1 ∧ x.2.2.2.2.2.1 = ((l.drop 1).drop (H5 (ks.take x.1)).length).length ∧ D1 x.2.2.2.2.2.2.2.2 x.2.2.2.2.1 x.2.2.2.2.2.1 x.2.2.2.2.2.2.1 2 x.2.2.2.2.2.2.2.1 ∧ C8 x.2.2.2.2.2.2.2.2 ((l.drop 1).drop (H5 (ks.take x.1)).length) x.2.2.2.2.2.2.2.1) (fun x => ks.length - x.1) (0, none, 0, [], some ⟨b0, if c = 1 then o0 else o0 + 1 * 2, none⟩, l.length - 1, c - 1, el.drop 1, G1) ?_ ?_ ?_)
 (simp only [H6]; exact D3)
 (exact ⟨Nat.zero_le _, B9.refl _, by simp [O4, C6], by simp [H5], by simpa using hse1, by simpa [H5] using hel1⟩)
 (rintro ⟨(i : Nat), pn, cn, es, pl, nl, cl, eL, Gi⟩ ⟨hi, hle, hst, hnl, hsL, heL⟩; simp only [] at hi hle hst hnl hsL heL ⊢)
 refine tS (tR ?_)
 refine sB (I0 rfl rfl) rfl rfl (fun h59 => ?_) (fun h59 => ?_)
 refine B4 ?_
 refine B8 ?_
 refine tS (tR ?_)
 (obtain ⟨b, o, e, rfl, hl, hat, hre, hgb⟩ := (hsl.mono (by first | exact hle | exact hle1.trans hle)).kidTm (hkl.mono (by first | exact hle | exact hle1.trans hle)) (i := i) (by omega) (by omega); have hone9 := hre.one; have hsc := A0p (ks := ks) (i := i) (by omega); have hsk := Z6 (ks := ks) (i := i) (by omega); have hts1 := A30 (ks := ks) (i := i) (by omega); refine sP (B3 rfl rfl rfl (by omega)) rfl rfl ?_)
 refine sL (A2 rfl rfl (hat _) hl) rfl rfl ?_
 refine sE (A6 rfl) rfl (fun b72 => ?_)
 refine sS rfl rfl rfl hl hone9 rfl ?_ (hu := by exact D5 hl.symm)
 refine sD (nS (tS (tR ?_)))
 refine sL (A2 rfl rfl (A9 (by repeat first | exact mH | apply mT)) hl) rfl rfl ?_
 refine sQ (qM rfl) rfl ?_
 (subst hnl; refine W0 rfl (ih ks[i] (List.getElem_mem (by omega)) _ _ _ _ _ _ (by simp only [List.length_drop]; rw [hL2] at hlen; simp only [List.length_append, List.length_singleton, List.length_nil] at hlen; omega) (fun u hu => hsm u (by first | exact List.mem_of_mem_drop hu | exact List.mem_of_mem_drop (List.mem_of_mem_drop hu))) (by omega) hre hsL heL) rfl rfl (fun v G3 outs hle3 hh => ?_); obtain ⟨rfl, cu, p3, c3, e3, rfl, hru, hs3, hr3⟩ := hh; have hsn := C6.snoc (hst.mono hle3) hru; obtain ⟨u1, u2, u3, u4, u5, u6, u7, u8, u9, rfl⟩ : ∃ u1 u2 u3 u4 u5 u6 u7 u8 u9, cu = [u1, u2, u3, u4, u5, u6, u7, u8, u9] := (by obtain ⟨_, _, _, _, _, _, _, _, _, rfl, _⟩ := hru.open; exact ⟨_, _, _, _, _, _, _, _, _, rfl⟩); have huo := hru.one)
 refine E3 ?_
 refine sE (A6 rfl) rfl (fun b84 => ?_)
 refine sS rfl rfl rfl rfl huo rfl ?_
 refine B4 ?_
 (refine I1 (C9 rfl rfl rfl (by omega) (by unfold maxLen; omega) rfl) rfl ?_; rintro _ ⟨b93, rfl⟩)
 (refine X4 rfl rfl rfl rfl rfl (fun _ _ => by repeat (first | exact Sw.here | apply Sw.there)) (M6 (by repeat first | exact mH | apply mT)) rfl (fun u hu => List.all_eq_true.1 huo u hu) (by unfold maxLen; omega) (by omega) rfl (fun p4 c4 => ?_))
 refine D6 ?_
 refine sP (H2 rfl rfl (by omega) (by omega)) rfl rfl ?_
 refine D7 ?_
 (rw [← A3Z (by omega)] at hsn; refine H9 (i + 1, p4, c4, es ++ [[u1, u2, u3, u4, u5, u6, u7, u8, u9]], p3, _, c3, e3, G3) (by simp only [List.flatten_append, List.flatten_cons, List.flatten_nil, List.append_nil]; exact (J8 (by repeat (first | exact D4.nil | refine D4.cons rfl ?_)) (by repeat (first | exact A0.refl | exact A0.nil | refine A0.cons (by repeat (first | exact Pk.here | apply Pk.there)) ?_ | apply A0.drop)))) ?_ ?_)
 (dsimp only; exact ⟨by omega, hle.trans hle3, hsn, by rw [W9 (by omega), List.length_append]; simp only [List.length_drop]; omega, by simpa only [W9 (show i < ks.length by omega), List.length_append, List.drop_drop] using hs3, by simpa only [W9 (show i < ks.length by omega), List.length_append, List.drop_drop, Nat.add_assoc] using hr3⟩)
 (show ks.length - (i + 1) < ks.length - i; omega)
 refine S6 ?_
 (refine E9 (cs := es.flatten) (by repeat (first | exact Pk.here | apply Pk.there)) (fun G5 hle5 hsl5 hno5 => ?_); obtain rfl : i = ks.length := (by omega); rw [List.take_length] at hst hnl heL)
 refine tT ?_
 refine F0 (rC rfl (A4 rfl rfl)) (rT rfl) ?_
 (rw [hW2, hL2]; exact RtP.mk hk hnum hlb (by first | (rw [List.getD_eq_getElem?_getD, List.getElem?_eq_getElem (by omega), Option.getD_some, ← hT0]; exact hr1.mono (hle.trans hle5)) | exact hty.mono (hle.trans hle5) | (rw [List.getD_eq_getElem?_getD, List.getElem?_eq_getElem (by omega), Option.getD_some, ← hT0]; exact hr1.mono (hle.trans hle5))) (hfr.mono (by first | exact hle.trans hle5 | exact hle1.trans (hle.trans hle5))) (by rw [A2c]) hsl5 (hst.mono hle5) (by simp only [List.length_append, List.length_singleton, List.length_nil, List.length_drop] at hnl ⊢; omega) (hsL.mono hle5) (by simpa [List.drop_drop, Nat.add_comm] using heL.mono hle5))
 refine K5 ?_
 refine B8 ?_
 (have hL2 := hcn (by assumption); have hW2 := hwn (by assumption); refine Q7 28 9 ?_; refine I2 (fun (x : Nat × Option Addr × Nat × List (List Value) × Option Addr × Nat × Nat × List (List Value) × IM) => ⟨[(25, .int .i64 x.1), (24, .int .i64 ks.length), (23, .slice q ks.length cq), (1, .slice x.2.2.2.2.1 x.2.2.2.2.2.1 x.2.2.2.2.2.2.1), (6, .pointer (some ⟨b11, 0, none⟩)), (4, .pointer (some ⟨b4, 0, none⟩))], [.blk b11 [.int .i64 k, .string nm, .int .i64 num, .int .i64 tk, .slice pt tks.length ct, .int .i64 fk, .slice pf fks.length cf, .int .i64 lb, .slice x.2.1 x.1 x.2.2.1], .slc x.2.1 x.2.2.1 28 9 x.1 x.2.2.2.1.flatten, .blk b4 [.int .i64 0, .string ⟨⟨[]⟩⟩, .int .i64 0, .int .i64 0, .slice none 0 0, .int .i64 0, .slice none 0 0, .int .i64 0, .slice none 0 0]], x.2.2.2.2.2.2.2.2⟩) (fun x => x.1 ≤ ks.length ∧ B9 G x.2.2.2.2.2.2.2.2 ∧ C6 x.2.2.2.2.2.2.2.2 (O4 (ks.take x.1) l) x.2.2.2.1 ∧ x.2.2.2.2.2.1 = (l.drop (H5 (ks.take x.1)).length).length ∧ D1 x.2.2.2.2.2.2.2.2 x.2.2.2.2.1 x.2.2.2.2.2.1 x.2.2.2.2.2.2.1 2 x.2.2.2.2.2.2.2.1 ∧ C8 x.2.2.2.2.2.2.2.2 (l.drop (H5 (ks.take x.1)).length) x.2.2.2.2.2.2.2.1) (fun x => ks.length - x.1) (0, none, 0, [], p, l.length, c, el, G) ?_ ?_ ?_)
 (simp only [H6]; exact D3)
 (exact ⟨Nat.zero_le _, B9.refl _, by simp [O4, C6], by simp [H5], hse, by simpa [H5] using hel⟩)
 (rintro ⟨(i : Nat), pn, cn, es, pl, nl, cl, eL, Gi⟩ ⟨hi, hle, hst, hnl, hsL, heL⟩; simp only [] at hi hle hst hnl hsL heL ⊢)
 refine tS (tR ?_)
 refine sB (I0 rfl rfl) rfl rfl (fun h151 => ?_) (fun h151 => ?_)
 refine B4 ?_
 refine B8 ?_
 refine tS (tR ?_)
 (obtain ⟨b, o, e, rfl, hl, hat, hre, hgb⟩ := (hsl.mono (by first | exact hle | exact hle1.trans hle)).kidTm (hkl.mono (by first | exact hle | exact hle1.trans hle)) (i := i) (by omega) (by omega); have hone9 := hre.one; have hsc := A0p (ks := ks) (i := i) (by omega); have hsk := Z6 (ks := ks) (i := i) (by omega); have hts1 := A30 (ks := ks) (i := i) (by omega); refine sP (B3 rfl rfl rfl (by omega)) rfl rfl ?_)
 refine sL (A2 rfl rfl (hat _) hl) rfl rfl ?_
 refine sE (A6 rfl) rfl (fun b164 => ?_)
 refine sS rfl rfl rfl hl hone9 rfl ?_ (hu := by exact D5 hl.symm)
 refine sD (nS (tS (tR ?_)))
 refine sL (A2 rfl rfl (A9 (by repeat first | exact mH | apply mT)) hl) rfl rfl ?_
 refine sQ (qM rfl) rfl ?_
 (subst hnl; refine W0 rfl (ih ks[i] (List.getElem_mem (by omega)) _ _ _ _ _ _ (by simp only [List.length_drop]; rw [hL2] at hlen; simp only [List.length_append, List.length_singleton, List.length_nil] at hlen; omega) (fun u hu => hsm u (by first | exact List.mem_of_mem_drop hu | exact List.mem_of_mem_drop (List.mem_of_mem_drop hu))) (by omega) hre hsL heL) rfl rfl (fun v G3 outs hle3 hh => ?_); obtain ⟨rfl, cu, p3, c3, e3, rfl, hru, hs3, hr3⟩ := hh; have hsn := C6.snoc (hst.mono hle3) hru; obtain ⟨u1, u2, u3, u4, u5, u6, u7, u8, u9, rfl⟩ : ∃ u1 u2 u3 u4 u5 u6 u7 u8 u9, cu = [u1, u2, u3, u4, u5, u6, u7, u8, u9] := (by obtain ⟨_, _, _, _, _, _, _, _, _, rfl, _⟩ := hru.open; exact ⟨_, _, _, _, _, _, _, _, _, rfl⟩); have huo := hru.one)
 refine E3 ?_
 refine sE (A6 rfl) rfl (fun b176 => ?_)
 refine sS rfl rfl rfl rfl huo rfl ?_
 refine B4 ?_
 (refine I1 (C9 rfl rfl rfl (by omega) (by unfold maxLen; omega) rfl) rfl ?_; rintro _ ⟨b185, rfl⟩)
 (refine X4 rfl rfl rfl rfl rfl (fun _ _ => by repeat (first | exact Sw.here | apply Sw.there)) (M6 (by repeat first | exact mH | apply mT)) rfl (fun u hu => List.all_eq_true.1 huo u hu) (by unfold maxLen; omega) (by omega) rfl (fun p4 c4 => ?_))
 refine D6 ?_
 refine sP (H2 rfl rfl (by omega) (by omega)) rfl rfl ?_
 refine D7 ?_
 (rw [← A3Z (by omega)] at hsn; refine H9 (i + 1, p4, c4, es ++ [[u1, u2, u3, u4, u5, u6, u7, u8, u9]], p3, _, c3, e3, G3) (by simp only [List.flatten_append, List.flatten_cons, List.flatten_nil, List.append_nil]; exact (J8 (by repeat (first | exact D4.nil | refine D4.cons rfl ?_)) (by repeat (first | exact A0.refl | exact A0.nil | refine A0.cons (by repeat (first | exact Pk.here | apply Pk.there)) ?_ | apply A0.drop)))) ?_ ?_)
 (dsimp only; exact ⟨by omega, hle.trans hle3, hsn, by rw [W9 (by omega), List.length_append]; simp only [List.length_drop]; omega, by simpa only [W9 (show i < ks.length by omega), List.length_append, List.drop_drop] using hs3, by simpa only [W9 (show i < ks.length by omega), List.length_append, List.drop_drop, Nat.add_assoc] using hr3⟩)
 (show ks.length - (i + 1) < ks.length - i; omega)
 refine S6 ?_
 (refine E9 (cs := es.flatten) (by repeat (first | exact Pk.here | apply Pk.there)) (fun G5 hle5 hsl5 hno5 => ?_); obtain rfl : i = ks.length := (by omega); rw [List.take_length] at hst hnl heL)
 refine tT ?_
 refine F0 (rC rfl (A4 rfl rfl)) (rT rfl) ?_
 (rw [hW2, hL2]; exact RtP.mk hk hnum hlb (by first | (rw [List.getD_eq_getElem?_getD, List.getElem?_eq_getElem (by omega), Option.getD_some, ← hT0]; exact hr1.mono (hle.trans hle5)) | exact hty.mono (hle.trans hle5) | (rw [List.getD_eq_getElem?_getD, List.getElem?_eq_getElem (by omega), Option.getD_some, ← hT0]; exact hr1.mono (hle.trans hle5))) (hfr.mono (by first | exact hle.trans hle5 | exact hle1.trans (hle.trans hle5))) (by rw [A2c]) hsl5 (hst.mono hle5) (by simp only [List.length_append, List.length_singleton, List.length_nil, List.length_drop] at hnl ⊢; omega) (hsL.mono hle5) (by simpa [List.drop_drop, Nat.add_comm] using heL.mono hle5))
section bits
variable {P : Program} {Γ : L9} {env : M4} {hp : List A5} {G : IM} {ty : TypeId}
theorem A9R {x y : Operand} {t t' : TypeId} {m i : Nat} (hx : evo env x = some (.int .i64 (m : Int))) (hy : evo env y = some (.int .i64 (i : Int))) (hi : i ≤ 63) :
  I7 P Γ ⟨env, hp, G⟩ (.binOp .shr t x y t') ty (.int .i64 ((m / 2 ^ i : Nat) : Int)) := by
 refine ⟨fun a _ hs _ _ _ _ w => ?_⟩
 have h1 : min ((i : Int)).toNat (IntKind.bits .i64) = i := by
  have : IntKind.bits .i64 = 64 := rfl
  rw [this, Int.toNat_natCast]; omega
 have h2 : ¬ ((i : Int) < 0) := by omega
 simp only [execOp, eqGuard, binOp, Op.shift, (hs.evo hx : a.eval x = _), (hs.evo hy : a.eval y = _), h1, if_neg h2]
 have h3 : (m : Int).fdiv (2 ^ i) = ((m / 2 ^ i : Nat) : Int) := by
  rw [Int.fdiv_eq_ediv_of_nonneg _ (Int.le_of_lt (Int.pow_pos (by decide)))]
  norm_cast
 rw [h3]; rfl
theorem A9S {x y : Operand} {t t' : TypeId} {m : Nat} (hx : evo env x = some (.int .i64 (m : Int))) (hy : evo env y = some (.int .i64 1)) :
  I7 P Γ ⟨env, hp, G⟩ (.binOp .and t x y t') ty (.int .i64 ((m % 2 : Nat) : Int)) := by
 refine ⟨fun a _ hs _ _ _ _ w => ?_⟩
 have h1 : (BitVec.ofInt (IntKind.bits .i64) (m : Int) &&& BitVec.ofInt (IntKind.bits .i64) 1).toNat = m % 2 := by
  have hb : IntKind.bits .i64 = 64 := rfl
  rw [hb, BitVec.toNat_and]
  have e1 : (BitVec.ofInt 64 (m : Int)).toNat = m % 2 ^ 64 := by rw [BitVec.ofInt_natCast, BitVec.toNat_ofNat]
  have e2 : (BitVec.ofInt 64 1).toNat = 1 := rfl
  rw [e1, e2, Nat.and_one_is_mod]; omega
 have h2 : IntKind.wrap .i64 ((m % 2 : Nat) : Int) = ((m % 2 : Nat) : Int) := A1A _ rfl (by omega) (by omega)
 simp only [execOp, eqGuard, binOp, Op.intBits, (hs.evo hx : a.eval x = _), (hs.evo hy : a.eval y = _), ne_eq, not_true_eq_false, if_false, h1, h2]
 rfl
theorem A31 {x y : Operand} {t t' : TypeId} {n : Nat} (hx : evo env x = some (.int .i64 1)) (hy : evo env y = some (.int .i64 (n : Int))) (hn : n ≤ 62) :
  I7 P Γ ⟨env, hp, G⟩ (.binOp .shl t x y t') ty (.int .i64 ((2 ^ n : Nat) : Int)) := by
 refine ⟨fun a _ hs _ _ _ _ w => ?_⟩
 have h1 : min ((n : Int)).toNat (IntKind.bits .i64) = n := by
  have : IntKind.bits .i64 = 64 := rfl
  rw [this, Int.toNat_natCast]; omega
 have h2 : ¬ ((n : Int) < 0) := by omega
 have hp : (2 : Nat) ^ n ≤ 2 ^ 62 := Nat.pow_le_pow_right (by decide) hn
 have h3 : (1 : Int) * 2 ^ n = ((2 ^ n : Nat) : Int) := by push_cast; rw [Int.one_mul]
 have h4 : IntKind.wrap .i64 ((2 ^ n : Nat) : Int) = ((2 ^ n : Nat) : Int) := A1A _ rfl (Int.le_trans (by decide) (Int.natCast_nonneg _)) (Int.le_trans (Int.ofNat_le.2 hp) (by decide))
 simp only [execOp, eqGuard, binOp, Op.shift, (hs.evo hx : a.eval x = _), (hs.evo hy : a.eval y = _), h1, if_neg h2, h3, h4]
 rfl
end bits
theorem B4v {cs vs cs' C : List Value} {o : Nat} (h : T4 cs o vs = some cs') : cs' ++ C = (cs ++ C).take o ++ vs ++ (cs ++ C).drop (o + vs.length) := by
 obtain ⟨h1, h2⟩ := A2R h
 rw [h1, List.take_append_of_le_length (by omega), List.drop_append_of_le_length (by omega)]
 simp
section wr
variable {P : Program} {Γ : L9} {env : M4} {hp : List A5} {G : IM} {ty : TypeId} {K : Po} {ops : Array Oper} {rest : List Oper}
theorem B4w {d : Option Nat} {x y : Operand} {t : TypeId} {i : L5} [hI : I9 P t i] {b o c el sz n : Nat} {v : Value} {vs cs cs' : List Value} {hp' : List A5}
  (hx : evo env x = some (.pointer (some ⟨b, o, none⟩))) (hy : evo env y = some v) (hv : v.cells = ⟨vs⟩) (hsz : vs.length = i.size) (h1 : vs.all (·.oneCell') = true)
  (hu : T4 cs o vs = some cs') (hm : Sw hp (.slc (some ⟨b, 0, none⟩) c el sz n cs) (.slc (some ⟨b, 0, none⟩) c el sz n cs') hp') (hd : dok Γ.n d = true) :
  W3 P Γ ⟨env, hp, G⟩ d (.store t x y) ty [b] (fun σ' => σ' = ⟨dpu d undef env, hp', G⟩) := by
 refine ⟨fun a w hs pos af gd Q next hn => ?_⟩
 obtain ⟨rest, p1, p2⟩ := hm.perm
 have hown : T8 [.slc (some ⟨b, 0, none⟩) c el sz n cs] G w := hs.res.own.of_mem p1
 obtain ⟨hl, h⟩ := hown.ok _ List.mem_cons_self
 rcases h with ⟨hv', _⟩ | ⟨g, cap, cur, hv', hbg, hg, hnc, hcm, hcs, ht⟩
 ·cases hv'
 cases hv'
 obtain ⟨u1, u2⟩ := A2R hu
 have hcur : cur.toList = cs ++ cur.toList.drop (n * sz) := by
  conv => lhs; rw [← List.take_append_drop (n * sz) cur.toList, ht]
 have hlen : cs.length ≤ cur.size := by
  rw [hl, hcs]; exact Nat.mul_le_mul_right _ hnc
 have hst := run_storeCells_at P b o el vs 0 cur w hg (by omega) (by simpa using h1)
 obtain ⟨cur', hcur'⟩ : ∃ l : List Value, l = cs' ++ cur.toList.drop (n * sz) := ⟨_, rfl⟩
 have hcc : cur.toList.take (o + 0) ++ vs ++ cur.toList.drop (o + 0 + vs.length) = cur' := by
  rw [hcur', Nat.add_zero, B4v hu, ← hcur]
 rw [hcc] at hst
 have hl' : cs'.length = cs.length := by rw [u1]; simp; omega
 have hsz' : cur'.length = cur.size := by
  have := congrArg List.length hcur
  rw [hcur', List.length_append, hl']
  simpa using this.symm
 obtain ⟨inf, g1, g2, _⟩ := hI.info
 have hrun : (execOp a.eval ⟨d, .store t x y, ty, pos, af, gd⟩).run P w = .ok .skip (w.setRow b cur'.toArray) := by
  simp [execOp, Instr.storeAt, Instr.sureAddr, (hs.evo hx : a.eval x = _), (hs.evo hy : a.eval y = _), storeVar, sizeOf, typeInfo, g1, g2, hv, hsz, hst]
 simp only [Oper.wp, hrun, Oper.upon]
 have hr' : P7 [.slc (some ⟨b, 0, none⟩) c el sz n cs] G w [.slc (some ⟨b, 0, none⟩) c el sz n cs'] G (w.setRow b cur'.toArray) := by
  refine ⟨⟨?_, ?_, by simp [Fp, A5.fp, J0], ?_⟩, ⟨rfl, rfl, rfl, by simp [World.setRow], fun k _ hk => setRow_other w b k _ (by rintro rfl; simp [Fp, A5.fp, J0] at hk)⟩, B9.refl _, fun _ _ h => .inl h, ?_, fun b l h h0 => absurd h (by rw [h0]; simp)⟩
  ·intro k l hg'
   obtain ⟨e', f', h'⟩ := hown.inn k l hg'
   refine ⟨e', f', ?_⟩
   rw [setRow_other w b k _ ?_]
   ·exact h'
   ·rintro rfl
    have := hown.disj k (by simp [Fp, A5.fp, J0])
    rw [this] at hg'; cases hg'
  ·intro x hx
   simp at hx; subst hx
   refine ⟨by rw [hl', hl], .inr ⟨b, _, cur'.toArray, rfl, hbg, setRow_heap w b cur cur'.toArray el (0, 0) hg, hnc, hcm, by rw [List.size_toArray, hsz', hcs], ?_⟩⟩
   rw [hcur', List.take_left' (by rw [hl', hl])]
  ·intro k hk
   exact hown.disj k (by simpa [Fp, A5.fp, J0] using hk)
  ·intro k hk
   exact .inr (by simpa [Fp, A5.fp, J0] using hk)
 exact hn _ _ _ (hs.step p1 hr' p2 hd) (by simpa [Fp, A5.fp, J0] using hr'.ext) rfl
variable {pos : String} {af : Array Edge} {gd : Option (Nat × Bool)}
theorem A9T {c el sz n : Nat} {cs vs : List Value} {x y : Operand} {t : TypeId} {i : L5} [hI : I9 P t i] {bb o : Nat} {v : Value} {cs' : List Value} {hp' : List A5}
  (hx : evo env x = some (.pointer (some ⟨bb, o, none⟩))) (hy : evo env y = some v) (hv : v.cells = ⟨vs⟩) (hsz : vs.length = i.size) (h1 : vs.all (·.oneCell') = true)
  (hw : M2 ops env gd = some true) (hsw : Sw hp (.slc (some ⟨bb, 0, none⟩) c el sz n cs) (.slc (some ⟨bb, 0, none⟩) c el sz n cs') hp') (hu : T4 cs o vs = some cs')
  (k : I3 P Γ ops rest K ⟨env, hp', G⟩) : I3 P Γ ops (⟨none, .store t x y, ty, pos, af, gd⟩ :: rest) K ⟨env, hp, G⟩ :=
 I1 (B4w hx hy hv hsz h1 hu hsw rfl) hw (by rintro _ rfl; exact k)
theorem St.slc_ptT {p : Option Addr} {c el sz n : Nat} {cs : List Value} {a : Act} {w : World} (hs : St Γ ⟨env, hp, G⟩ a w) (hm : A5.slc p c el sz n cs ∈ hp) :
  (p = none ∧ n = 0 ∧ c = 0) ∨ ∃ g, p = some ⟨g, 0, none⟩ ∧ n ≤ c := by
 obtain ⟨_, h⟩ := hs.res.own.ok _ hm
 rcases h with ⟨hv, hn⟩ | ⟨g, cap, cur, hv, _, _, hnc, _⟩
 ·cases hv; exact .inl ⟨rfl, hn, rfl⟩
 ·cases hv; exact .inr ⟨g, rfl, hnc⟩
end wr
theorem A9U {es : List (List Value)} {i sz : Nat} {vs : List Value} (hi : i < es.length) (ha : ∀ e ∈ es, e.length = sz) (hv : vs.length = sz) : T4 es.flatten (0 + i * sz) vs = some (es.set i vs).flatten := by
 have h1 : es.flatten = (es.take i).flatten ++ (es[i] ++ (es.drop (i + 1)).flatten) := by
  conv => lhs; rw [← List.take_append_drop i es, List.drop_eq_getElem_cons hi]
  rw [List.flatten_append, List.flatten_cons]
 have h2 : (es.set i vs).flatten = (es.take i).flatten ++ (vs ++ (es.drop (i + 1)).flatten) := by rw [List.set_eq_take_append_cons_drop, if_pos hi, List.flatten_append, List.flatten_cons]
 have hA : ((es.take i).flatten).length = 0 + i * sz := by rw [A02 (fun e he => ha e (List.mem_of_mem_take he)), List.length_take, Nat.min_eq_left (by omega)]; omega
 rw [h1, h2]
 exact A5K hA (by rw [ha _ (List.getElem_mem hi), hv])
theorem C8.set {G : IM} : ∀ {l : List Ty} {es : List (List Value)} (i : Nat) {u : Ty} {c : List Value}, C8 G l es → C1 G u c → C8 G (l.set i u) (es.set i c)
 | [], es, i, u, c, h, _ => by simp only [C8] at h; subst h; simp [C8]
 | t :: l, es, 0, u, c, h, h2 => by
  simp only [C8] at h
  obtain ⟨a, r, rfl, _, h3⟩ := h
  simp only [List.set_cons_zero, C8]
  exact ⟨c, r, rfl, h2, h3⟩
 | t :: l, es, i + 1, u, c, h, h2 => by
  simp only [C8] at h
  obtain ⟨a, r, rfl, h4, h3⟩ := h
  simp only [List.set_cons_succ, C8]
  exact ⟨a, _, rfl, h4, C8.set i h3 h2⟩
mutual
theorem A32 : ∀ t : Tm, t.small → ∀ u ∈ H0 t, u.small
 | .mk k nm num ty fr lb ks, h, u, hu => by
  simp only [Tm.small] at h
  rw [H0] at hu
  rcases List.mem_append.1 hu with hu | hu
  ·split at hu
   ·simp only [List.mem_singleton] at hu; subst hu; exact h.2.1
   ·cases hu
  ·exact A9V ks h.2.2.2.2 u hu
theorem A9V : ∀ ts : List Tm, Tm.smallL ts → ∀ u ∈ H5 ts, u.small
 | [], _, u, hu => by simp [H5] at hu
 | t :: ts, h, u, hu => by
  simp only [Tm.smallL] at h
  rw [H5] at hu
  rcases List.mem_append.1 hu with hu | hu
  ·exact A32 t h.1 u hu
  ·exact A9V ts h.2 u hu
end
theorem A49 : (Ty.mk 1 []).small := by simp [Ty.small, Ty.smallL]
theorem A5a (G : IM) : C1 G (.mk 1 []) [.int .i64 1, .slice none 0 0] := by
 simp only [C1]; exact ⟨none, 0, [], rfl, ⟨by decide, by decide⟩, D1.nil G 2, by simp [C8]⟩
theorem A9W (t : Tm) (m : Nat) (G : IM) (cells : List Value) (hts : t.small) (hcnt : D0 t ≤ 4000000) (h6 : (H0 t).length ≤ 60) (hm : m ≤ 4294967296) (hr : A8 G t cells) :
  Fn Tryz.prog 76 [.agg ⟨cells⟩, .int .i64 (m : Int)] [] G (J4 fun G' v => ∃ cu, v = .agg ⟨cu⟩ ∧ A8 G' (P5 t m) cu) := by
 have hlen9 := hr.len
 have hone9 := hr.one
 have hTy := A48 t G cells hts hcnt hr
 have hst0 := A32 t hts
 obtain ⟨L, hL⟩ : ∃ L, H0 t = L := ⟨_, rfl⟩
 have hB : P5 t m = T9 t (P1 m 0 L) := by unfold P5; rw [hL]
 have hml := A2d m L 0
 have hRt := fun G cells p c el hr => B4u t (P1 m 0 L) G cells p c el (Nat.le_of_eq (by rw [hL, hml])) (fun u hu => by rcases A2K m L 0 u hu with rfl | hu; exact A49; exact hst0 u (by rw [hL]; exact hu)) hcnt hr
 rw [hml] at hRt
 rw [hL] at hTy h6
 refine C0 Tryz.func76 rfl Tryz.ntmps76 Tryz.results76 rfl ?_
 intro w0
 refine tS (tR ?_)
 refine sE (C5 rfl rfl) rfl (fun b3 => ?_)
 refine sE (A6 rfl) rfl (fun b4 => ?_)
 refine sD (nS (tS (tR ?_)))
 refine sL (A2 rfl rfl (A9 (by repeat first | exact mH | apply mT)) hlen9) rfl rfl ?_
 (refine W0 rfl hTy rfl rfl (fun v G1 outs hle1 hh => ?_); obtain ⟨p, c, es0, rfl, rfl, hr1⟩ := hh; have hel := hr1.len)
 refine J2 ?_
 refine B8 ?_
 (refine A7t (fun a w hs => hs.slc_ptT (p := p) (c := c) (el := 25) (sz := 2) (n := L.length) (cs := es0.flatten) (by repeat first | exact mH | apply mT)) (fun hq => ?_); refine I2 (fun (x : Nat × List (List Value)) => ⟨[(13, .int .i64 x.1), (12, .int .i64 L.length), (5, .slice p L.length c), (1, .int .i64 (m : Int)), (2, .pointer (some ⟨b3, 0, none⟩)), (4, .pointer (some ⟨b4, 0, none⟩))], [.slc p c 25 2 L.length x.2.flatten, .blk b4 [.int .i64 0, .string ⟨⟨[]⟩⟩, .int .i64 0, .int .i64 0, .slice none 0 0, .int .i64 0, .slice none 0 0, .int .i64 0, .slice none 0 0], .blk b3 cells], G1⟩) (fun x => x.1 ≤ L.length ∧ C8 G1 (P1 m 0 (L.take x.1) ++ L.drop x.1) x.2) (fun x => L.length - x.1) (0, es0) ?_ ?_ ?_)
 (simp only [H6]; exact D3)
 (exact ⟨Nat.zero_le _, by simpa [P1] using hr1⟩)
 (rintro ⟨(i : Nat), es⟩ ⟨hi, hst⟩; simp only [] at hi hst ⊢; have hesl : es.length = L.length := (by have h0 := hst.len; simp only [List.length_append, A2d, List.length_take, List.length_drop] at h0; omega); have hstep := A9P m L i)
 refine tS (tR ?_)
 refine sB (I0 rfl rfl) rfl rfl (fun h29 => ?_) (fun h29 => ?_)
 refine B4 ?_
 refine B8 ?_
 refine J5 ?_
 refine sP (A9R rfl rfl (by omega)) rfl rfl ?_
 refine sQ (A9S rfl rfl) rfl (sB (qE rfl rfl) rfl rfl (fun h50 => ?_) (fun h50 => ?_))
 refine A7 ?_
 refine H3 rfl (A1k 1 _) rfl rfl ?_
 (obtain ⟨g, rfl, hgc⟩ := hq.resolve_left (by omega); refine sP (B3 (j := i) rfl rfl rfl (by omega)) rfl rfl ?_)
 refine A9T rfl rfl rfl rfl rfl rfl (by repeat first | exact Sw.here | apply Sw.there) (A9U (by omega) (fun e he => (hst.each e he).1) rfl) ?_
 refine B6 ?_
 refine sP (H2 rfl rfl (by omega) (by omega)) rfl rfl ?_
 refine D7 ?_
 (rw [if_pos (by omega)] at hstep; refine H9 (i + 1, es.set i [.int .i64 1, .slice none 0 0]) ?_ ?_ ?_)
 (simp only [H6]; exact D3)
 (dsimp only; exact ⟨by omega, by rw [hstep (by omega)]; first | exact hst.set i (A5a _) | exact hst⟩)
 (show L.length - (i + 1) < L.length - i; omega)
 refine B4 ?_
 refine sP (H2 rfl rfl (by omega) (by omega)) rfl rfl ?_
 refine D7 ?_
 (rw [if_neg (by omega)] at hstep; refine H9 (i + 1, es) ?_ ?_ ?_)
 (simp only [H6]; exact D3)
 (dsimp only; exact ⟨by omega, by rw [hstep (by omega)]; first | exact hst.set i (A5a _) | exact hst⟩)
 (show L.length - (i + 1) < L.length - i; omega)
 refine J2 ?_
 refine sL (A2 rfl rfl (A9 (by repeat first | exact mH | apply mT)) hlen9) rfl rfl ?_
 refine sQ (qM rfl) rfl ?_
 (obtain rfl : i = L.length := (by omega); rw [List.take_length, List.drop_length, List.append_nil] at hst; refine R6 (cs := es.flatten) (by repeat (first | exact Pk.here | apply Pk.there)) (fun G2 hle2 hsl2 hno2 => ?_); refine W0 rfl (hRt G2 cells p c es ((hr.mono hle1).mono hle2) (D1.of hsl2 hesl hst.all (fun e he => (hst.each e he).2)) (hst.mono hle2)) rfl rfl (fun v G3 outs hle3 hh => ?_); obtain ⟨rfl, cu, p3, c3, e3, rfl, hru, hs3, hr3⟩ := hh; rw [← hB] at hru; have hul := hru.len; have huo := hru.one)
 refine E3 ?_
 refine sE (A6 rfl) rfl (fun b102 => ?_)
 refine sS rfl rfl rfl hul huo rfl ?_ (hu := by exact D5 hul.symm)
 refine B0 ?_
 refine sL (A2 rfl rfl (A9 (by repeat first | exact mH | apply mT)) hul) rfl rfl ?_
 refine sS rfl rfl rfl hul huo rfl ?_ (hu := by exact D5 hul.symm)
 refine sD (nS (tT ?_))
 refine K7 (rC rfl (A2 rfl rfl (A9 (by repeat first | exact mH | apply mT)) hul)) ?_
 (exact ⟨rfl, cu, rfl, hru⟩)
def V2 (e : Tm) : Option (List Tm) := if (O0 e).isSome = true ∧ (H0 e).length ≤ 6 then some (A1S e) else none
def CfP (r : Option (List Tm)) : IM → Value → List A5 → Prop := fun G' v outs => outs = [] ∧ ∃ p c es, v = .tuple ⟨[.slice p (r.getD []).length c, .bool r.isSome]⟩ ∧ D1 G' p (r.getD []).length c 9 es ∧ C6 G' (r.getD []) es
theorem A9X {r : Option (List Tm)} {G' : IM} (h : r = none) : CfP r G' (.tuple ⟨[.slice none 0 0, .bool false]⟩) [] := by
 subst h; exact ⟨rfl, none, 0, [], rfl, D1.nil G' 9, by simp [C6]⟩
theorem B4x {r : Option (List Tm)} {l : List Tm} {G' : IM} {p : Option Addr} {n c : Nat} {es : List (List Value)} (h : r = some l) (hn : n = l.length) (hs : Sl G' p n c 9 es.flatten) (hr : C6 G' l es) : CfP r G' (.tuple ⟨[.slice p n c, .bool true]⟩) [] := by
 subst h hn
 exact ⟨rfl, p, c, es, rfl, D1.of hs hr.len hr.all (fun e he => by obtain ⟨j, hj⟩ := List.getElem?_of_mem he; exact (hr.inv hj K1).2.one), hr⟩
theorem A6L {α : Type} (f : Nat → α) (i : Nat) : (List.range (i + 1)).map f = (List.range i).map f ++ [f i] := by rw [List.range_succ, List.map_append]; rfl
theorem B4y (t : Tm) (G : IM) (cells : List Value) (hts : t.small) (hcnt : D0 t ≤ 4000000) (hr : A8 G t cells) :
  Fn Tryz.prog 105 [.agg ⟨cells⟩] [] G (CfP (V2 t)) := by
 have hlen9 := hr.len
 have hone9 := hr.one
 obtain ⟨L, hL⟩ : ∃ L, (H0 t).length = L := ⟨_, rfl⟩
 have hno : ¬ ((O0 t).isSome = true ∧ L ≤ 6) → V2 t = none := fun h => by unfold V2; rw [hL, if_neg h]
 have hyes : (O0 t).isSome = true ∧ L ≤ 6 → V2 t = some ((List.range (2 ^ L)).map (P5 t)) := fun h => by unfold V2; rw [hL, if_pos h]; unfold A1S; rw [hL]
 have hLb := A46 t
 generalize V2 t = R at *
 have hTy := fun G hr => A48 t G cells hts hcnt hr
 refine C0 Tryz.func105 rfl Tryz.ntmps105 Tryz.results105 rfl ?_
 intro w0
 refine tS (tR ?_)
 refine sE (C5 rfl rfl) rfl (fun b3 => ?_)
 refine B4 ?_
 refine sL (A2 rfl rfl (A9 (by repeat first | exact mH | apply mT)) hlen9) rfl rfl ?_
 (refine D8 rfl (B4q t G cells hr) rfl rfl (fun v1 G1 hle1 hh => ?_); obtain ⟨ct, u, rfl, hru, _⟩ := hh; obtain ⟨qt, dt, et2, rfl, _⟩ := hru.open; have hr1 := hr.mono hle1; generalize (O0 t).isSome = A1 at *; cases A1)
 refine E3 ?_
 refine sE (A6 rfl) rfl (fun b16 => ?_)
 refine A3z ?_
 refine F0 (rT rfl) (rT rfl) ?_
 (exact A9X (hno (fun hc => by first | exact Bool.noConfusion hc.1 | omega)))
 refine E3 ?_
 refine sE (A6 rfl) rfl (fun b47 => ?_)
 refine E4 ?_
 refine sL (A2 rfl rfl (A9 (by repeat first | exact mH | apply mT)) hlen9) rfl rfl ?_
 (refine W0 rfl (hTy _ hr1) rfl rfl (fun v2 G2 outs hle2 hh => ?_); obtain ⟨p2, c2, es2, rfl, rfl, hr2⟩ := hh; rw [hL]; have hr3 := hr1.mono hle2)
 refine P3 ?_
 refine sB (X2 rfl rfl) rfl rfl (fun h60 => ?_) (fun h60 => ?_)
 refine K8 ?_
 refine F0 (rT rfl) (rT rfl) ?_
 (exact A9X (hno (fun hc => by first | exact Bool.noConfusion hc.1 | omega)))
 refine K5 ?_
 refine sL (A2 rfl rfl (A9 (by repeat first | exact mH | apply mT)) hlen9) rfl rfl ?_
 (refine W0 rfl (hTy _ hr3) rfl rfl (fun v3 G3 outs hle3 hh => ?_); obtain ⟨p4, c4, es4, rfl, rfl, hr4⟩ := hh; rw [hL]; have hr5 := hr3.mono hle3)
 refine P3 ?_
 refine sP (A31 rfl rfl (by omega)) rfl rfl ?_
 refine E3 ?_
 refine B8 ?_
 (have hp64 : 2 ^ L ≤ 2 ^ 6 := Nat.pow_le_pow_right (by decide) (by omega); have hyy := hyes ⟨rfl, by omega⟩; generalize 2 ^ L = M at *; refine Q7 28 9 ?_; refine I2 (fun (x : Nat × Option Addr × Nat × List (List Value) × IM) => ⟨[(25, .int .i64 x.1), (24, .int .i64 M), (6, .slice x.2.1 x.1 x.2.2.1), (1, .pointer (some ⟨b3, 0, none⟩))], [.slc x.2.1 x.2.2.1 28 9 x.1 x.2.2.2.1.flatten, .blk b3 cells], x.2.2.2.2⟩) (fun x => x.1 ≤ M ∧ B9 G3 x.2.2.2.2 ∧ C6 x.2.2.2.2 ((List.range x.1).map (P5 t)) x.2.2.2.1) (fun x => M - x.1) (0, none, 0, [], G3) ?_ ?_ ?_)
 (simp only [H6]; exact D3)
 (exact ⟨Nat.zero_le _, B9.refl _, by simp [C6]⟩)
 (rintro ⟨(i : Nat), pn, cn, es, Gi⟩ ⟨hi, hle, hst⟩; simp only [] at hi hle hst ⊢; have hr6 := hr5.mono hle)
 refine tS (tR ?_)
 refine sB (I0 rfl rfl) rfl rfl (fun h103 => ?_) (fun h103 => ?_)
 refine B4 ?_
 refine B8 ?_
 refine D6 ?_
 refine sL (A2 rfl rfl (A9 (by repeat first | exact mH | apply mT)) hlen9) rfl rfl ?_
 refine sQ (qM rfl) rfl ?_
 (refine D8 rfl (A9W t i Gi cells hts hcnt (by omega) (by omega) hr6) rfl rfl (fun v7 G7 hle7 hh => ?_); obtain ⟨cu, rfl, hru7⟩ := hh; have hsn := C6.snoc (hst.mono hle7) hru7; have huo := hru7.one; obtain ⟨u1, u2, u3, u4, u5, u6, u7, u8, u9, rfl⟩ : ∃ u1 u2 u3 u4 u5 u6 u7 u8 u9, cu = [u1, u2, u3, u4, u5, u6, u7, u8, u9] := (by obtain ⟨_, _, _, _, _, _, _, _, _, rfl, _⟩ := hru7.open; exact ⟨_, _, _, _, _, _, _, _, _, rfl⟩))
 (refine I1 (C9 rfl rfl rfl (by omega) (by unfold maxLen; omega) rfl) rfl ?_; rintro _ ⟨b123, rfl⟩)
 (refine X4 rfl rfl rfl rfl rfl (fun _ _ => by repeat (first | exact Sw.here | apply Sw.there)) (M6 (by repeat first | exact mH | apply mT)) rfl (fun u hu => List.all_eq_true.1 huo u hu) (by unfold maxLen; omega) (by omega) rfl (fun p8 c8 => ?_))
 refine B0 ?_
 refine sP (H2 rfl rfl (by omega) (by omega)) rfl rfl ?_
 refine D7 ?_
 (refine H9 (i + 1, p8, c8, es ++ [[u1, u2, u3, u4, u5, u6, u7, u8, u9]], G7) (by simp only [List.flatten_append, List.flatten_cons, List.flatten_nil, List.append_nil]; exact (J8 (by repeat (first | exact D4.nil | refine D4.cons rfl ?_)) (by repeat (first | exact A0.refl | exact A0.nil | refine A0.cons (by repeat (first | exact Pk.here | apply Pk.there)) ?_ | apply A0.drop)))) ?_ ?_)
 (dsimp only; exact ⟨by omega, hle.trans hle7, by rw [A6L]; exact hsn⟩)
 (show M - (i + 1) < M - i; omega)
 refine J9 ?_
 (refine E9 (cs := es.flatten) (by repeat (first | exact Pk.here | apply Pk.there)) (fun G9 hle9 hsl9 hno9 => ?_); obtain rfl : i = M := (by omega))
 refine tT ?_
 refine F0 (rT rfl) (rT rfl) ?_
 (exact B4x hyy (by simp) hsl9 (hst.mono hle9))
def pAt (t : Tm) (label : Int) (l : List Int) : Bool := match tAt t l with
 | some x => decide (x.k = 14 ∧ x.lb = label)
 | none => false
def A6M (t : Tm) (label : Int) : List Int × Bool := match (B1V t).find? (pAt t label) with
 | some l => (l, true)
 | none => ([], false)
def SP1 (G : IM) (l : List Int) (p : Option Addr) (c : Nat) : Prop := Sl G p l.length c 1 (N6 l) ∧ ∀ b ∈ J0 p, G b ≠ none
def CpP (t : Tm) (label : Int) (G : IM) : IM → Value → List A5 → Prop := J4 fun G' v => ∃ p c, v = .tuple ⟨[.slice p (A6M t label).1.length c, .bool (A6M t label).2]⟩ ∧ SP1 (C4 G' G) (A6M t label).1 p c
theorem SP1.nil (G : IM) : SP1 G [] none 0 := ⟨Sl.nil G 1, by simp [J0]⟩
def MsP (r : Option (List Int)) (e : A5) (G : IM) : IM → Value → List A5 → Prop := fun G' v outs => outs = [e] ∧ ∃ p c, v = .tuple ⟨[.slice p (r.getD []).length c, .bool r.isSome]⟩ ∧ SP1 (C4 G' G) (r.getD []) p c
theorem MsP.mk {o : Option (List Tm)} {f : Tm → Int} {r : Option (List Int)} {e : A5} {G G' : IM} {p : Option Addr} {n c : Nat} (hr : r = o.map (List.map f)) (hn : n = (o.getD []).length) (hs : SP1 (C4 G' G) ((o.getD []).map f) p c) : MsP r e G G' (.tuple ⟨[.slice p n c, .bool o.isSome]⟩) [e] := by
 subst hr hn
 refine ⟨rfl, p, c, ?_, ?_⟩
 ·cases o <;> simp
 ·cases o with
  | none => simpa using hs
  | some l => simpa using hs
theorem A9Y (t : Tm) (f : Tm → Int) (fid : FuncId) [B5 Tryz.prog fid] (us cs : List Value) (ent : A5) (G : IM) (cells : List Value) (hts : t.small) (hcnt : D0 t ≤ 4000000) (hr : A8 G t cells)
  (hq : ∀ (x : Tm) (G' : IM) (xc : List Value), B9 G G' → x ∈ (V2 t).getD [] → A8 G' x xc → Fn Tryz.prog fid (us ++ [.agg ⟨xc⟩] ++ cs) [ent] G' (fun _ v outs => outs = [ent] ∧ v = .int .i64 (f x))) :
  Fn Tryz.prog 65 [.agg ⟨cells⟩, .func (.func fid) ⟨us⟩ ⟨cs⟩] [ent] G (MsP ((V2 t).map (List.map f)) ent G) := by
 have hlen9 := hr.len
 have hone9 := hr.one
 have hC := B4y t G cells hts hcnt hr
 obtain ⟨R, hR⟩ : ∃ R, (V2 t).map (List.map f) = R := ⟨_, rfl⟩
 rw [hR]
 have hk64 : ((V2 t).getD []).length ≤ 64 := by
  unfold V2
  split
  ·rename_i h
   have : 2 ^ (H0 t).length ≤ 2 ^ 6 := Nat.pow_le_pow_right (by decide) h.2
   simp only [Option.getD_some, A1S, List.length_map, List.length_range]; omega
  ·simp
 generalize V2 t = C at *
 obtain ⟨l, hl⟩ : ∃ l, C.getD [] = l := ⟨_, rfl⟩
 refine C0 Tryz.func65 rfl Tryz.ntmps65 Tryz.results65 rfl ?_
 intro w0
 refine tS (tR ?_)
 refine sE (C5 rfl rfl) rfl (fun b3 => ?_)
 refine A7 ?_
 refine sL (A2 rfl rfl (A9 (by repeat first | exact mH | apply mT)) (by assumption)) rfl rfl ?_
 (refine W0 rfl hC rfl rfl (fun v1 G1 outs hle1 hh => ?_); obtain ⟨rfl, p1, c1, e1, rfl, hs1, hr1⟩ := hh; rw [hl] at hs1 hr1 hk64 hq ⊢)
 refine A0n ?_
 refine B8 ?_
 (refine Q7 3 1 ?_; refine I2 (fun (x : Nat × Option Addr × Nat × IM) => ⟨[(18, .int .i64 x.1), (17, .int .i64 l.length), (16, .slice p1 l.length c1), (8, .slice x.2.1 x.1 x.2.2.1), (7, .bool C.isSome), (1, .func (.func fid) ⟨us⟩ ⟨cs⟩)], [.slc x.2.1 x.2.2.1 3 1 x.1 (N6 ((l.take x.1).map f)), ent], x.2.2.2⟩) (fun x => x.1 ≤ l.length ∧ B9 G1 x.2.2.2) (fun x => l.length - x.1) (0, none, 0, G1) ?_ ?_ ?_)
 (simp only [H6]; exact D3)
 (exact ⟨Nat.zero_le _, B9.refl _⟩)
 (rintro ⟨(i : Nat), pn, cn, Gi⟩ ⟨hi, hle⟩; simp only [] at hi hle ⊢)
 refine tS (tR ?_)
 refine sB (I0 rfl rfl) rfl rfl (fun h39 => ?_) (fun h39 => ?_)
 refine B4 ?_
 refine B8 ?_
 refine tS (tR ?_)
 (obtain ⟨b, o, e, rfl, hel, hat, hre, hgb⟩ := (hs1.mono hle).kidTm (hr1.mono hle) (i := i) (by omega) (by omega); have heo := hre.one; refine sP (B3 rfl rfl rfl (by omega)) rfl rfl ?_)
 refine sL (A2 rfl rfl (hat _) hel) rfl rfl ?_
 refine sE (A6 rfl) rfl (fun b52 => ?_)
 refine sS rfl rfl rfl hel heo rfl ?_ (hu := by exact D5 hel.symm)
 refine B0 ?_
 refine sL (A2 rfl rfl (A9 (by repeat first | exact mH | apply mT)) hel) rfl rfl ?_
 (refine I1 (A4k rfl rfl (hq l[i] Gi e (hle1.trans hle) (List.getElem_mem (by omega)) hre) (Pk.perm (by repeat (first | exact Pk.here | apply Pk.there))) rfl) rfl ?_; rintro _ ⟨v, G7, outs, rfl, hle7, rfl, rfl⟩)
 (refine I1 (C9 rfl rfl rfl (by omega) (by unfold maxLen; omega) rfl) rfl ?_; rintro _ ⟨b61, rfl⟩)
 (refine X4 rfl rfl rfl rfl rfl (fun _ _ => by repeat (first | exact Sw.here | apply Sw.there)) (M6 (by repeat first | exact mH | apply mT)) rfl (by simp [Value.oneCell']) (by unfold maxLen; omega) (by omega) rfl (fun p8 c8 => ?_))
 refine B0 ?_
 refine sP (H2 rfl rfl (by omega) (by omega)) rfl rfl ?_
 refine D7 ?_
 (refine H9 (i + 1, p8, c8, G7) (by rw [List.take_succ_eq_append_getElem (by omega), List.map_append, List.map_cons, List.map_nil, A4w]; exact (J8 (by repeat (first | exact D4.nil | refine D4.cons rfl ?_)) (by repeat (first | exact A0.refl | exact A0.nil | refine A0.cons (by repeat (first | exact Pk.here | apply Pk.there)) ?_ | apply A0.drop)))) ?_ ?_)
 (dsimp only; exact ⟨by omega, hle.trans hle7⟩)
 (show l.length - (i + 1) < l.length - i; omega)
 refine S6 ?_
 (obtain rfl : i = l.length := (by omega); rw [List.take_length]; refine E9 (cs := N6 (l.map f)) (by repeat (first | exact Pk.here | apply Pk.there)) (fun G9 hle9 hsl9 hno9 => ?_))
 refine tT ?_
 refine B1E (outs := [ent]) (rT rfl) (rT rfl) (A0.cons (by repeat (first | exact Pk.here | apply Pk.there)) A0.nil) ?_
 (exact MsP.mk hR.symm (by rw [hl]) (by rw [hl]; exact ⟨by rw [List.length_map]; exact hsl9.dif (fun b hb => (hno9 b hb).1) (hle1.trans hle), fun b hb => A3C (hle1.trans hle) (hno9 b hb)⟩))
def IsP (l : List Int) (b : Bool) (G : IM) : IM → Value → List A5 → Prop := J4 fun G' v => ∃ p c, v = .tuple ⟨[.slice p l.length c, .bool b]⟩ ∧ SP1 (C4 G' G) l p c
theorem IsP.mk {l l' : List Int} {b b' : Bool} {n : Nat} {G G' : IM} {p : Option Addr} {c : Nat} (hl : l = l') (hb : b = b') (hn : n = l.length) (h : SP1 (C4 G' G) l p c) : IsP l' b' G G' (.tuple ⟨[.slice p n c, .bool b]⟩) [] := by
 subst hl hb hn; exact ⟨rfl, p, c, rfl, h⟩
theorem A5b {l l' : List Int} {b b' : Bool} {G G' : IM} {v : Value} (hl : l = l') (hb : b = b')
  (hh : ∃ p c, v = .tuple ⟨[.slice p l.length c, .bool b]⟩ ∧ SP1 (C4 G' G) l p c) :
  ∃ p c, v = .tuple ⟨[.slice p l'.length c, .bool b']⟩ ∧ SP1 (C4 G' G) l' p c := by subst hl hb; exact hh
theorem A8.nine {G : IM} {t : Tm} {cells : List Value} (h : A8 G t cells) : ∃ v1 v2 v3 v4 v5 v6 v7 v8 v9, cells = [v1, v2, v3, v4, v5, v6, v7, v8, v9] := by
 obtain ⟨_, _, _, _, _, _, _, _, _, rfl, _⟩ := h.open
 exact ⟨_, _, _, _, _, _, _, _, _, rfl⟩
theorem A33 {G : IM} {e : Tm} {ce : List Value} {k : Int} {nm : ByteArray} {tk : Int} {tks : List Ty} {q p : Option Addr} {d c : Nat} (hk : F8 k) (ht : C1 G (.mk tk tks) [.int .i64 tk, .slice q tks.length d]) (h1 : A8 G e ce) (hs : Sl G p 1 c 9 ce) :
  A8 G (.mk k nm 0 (.mk tk tks) B2 0 [e]) [.int .i64 k, .string nm, .int .i64 0, .int .i64 tk, .slice q tks.length d, .int .i64 0, .slice none 0 0, .int .i64 0, .slice p 1 c] := by
 obtain ⟨a1, a2⟩ := A2x h1 hs
 exact A8.of9 (ks := [e]) hk ⟨by omega, by omega⟩ ⟨by omega, by omega⟩ ht (M7 _ ⟨by omega, by omega⟩) a1 a2
theorem A34 {G : IM} {e f : Tm} {ce cf : List Value} {k : Int} {nm : ByteArray} {p : Option Addr} {c : Nat} (hk : F8 k) (h1 : A8 G e ce) (h2 : A8 G f cf) (hs : Sl G p 2 c 9 (ce ++ cf)) :
  A8 G (.mk k nm 0 B2 B2 0 [e, f]) [.int .i64 k, .string nm, .int .i64 0, .int .i64 0, .slice none 0 0, .int .i64 0, .slice none 0 0, .int .i64 0, .slice p 2 c] := by
 have hL : C6 G [e, f] [ce, cf] := by simp only [C6]; exact ⟨ce, [cf], rfl, h1, cf, [], rfl, h2, rfl⟩
 exact A8.of9 (ks := [e, f]) hk ⟨by omega, by omega⟩ ⟨by omega, by omega⟩ (M7 _ ⟨by omega, by omega⟩) (M7 _ ⟨by omega, by omega⟩)
  (D1.of (by simpa using hs) rfl hL.all (fun x hx => by obtain ⟨q, hq⟩ := List.getElem?_of_mem hx; exact (hL.inv hq K1).2.one)) hL
theorem B4z {G : IM} {e f g : Tm} {ce cf cg : List Value} {k : Int} {nm : ByteArray} {p : Option Addr} {c : Nat} (hk : F8 k) (h1 : A8 G e ce) (h2 : A8 G f cf) (h3 : A8 G g cg) (hs : Sl G p 3 c 9 (ce ++ (cf ++ cg))) :
  A8 G (.mk k nm 0 B2 B2 0 [e, f, g]) [.int .i64 k, .string nm, .int .i64 0, .int .i64 0, .slice none 0 0, .int .i64 0, .slice none 0 0, .int .i64 0, .slice p 3 c] := by
 have hL : C6 G [e, f, g] [ce, cf, cg] := by simp only [C6]; exact ⟨ce, [cf, cg], rfl, h1, cf, [cg], rfl, h2, cg, [], rfl, h3, rfl⟩
 exact A8.of9 (ks := [e, f, g]) hk ⟨by omega, by omega⟩ ⟨by omega, by omega⟩ (M7 _ ⟨by omega, by omega⟩) (M7 _ ⟨by omega, by omega⟩)
  (D1.of (by simpa using hs) rfl hL.all (fun x hx => by obtain ⟨q, hq⟩ := List.getElem?_of_mem hx; exact (hL.inv hq K1).2.one)) hL
def mB : Nat → Nat
 | 0 => 200
 | n + 1 => 3 * mB n + 200
theorem A1u (n : Nat) : 200 ≤ mB n := by cases n <;> simp only [mB] <;> omega
def A1v (n : Nat) (depth : Int) (t : Ty) : Prop := Q9 4 t ∧ (n : Int) - 1000 ≤ depth ∧ depth ≤ 1000 ∧ ((depth ≤ 1 ∧ Q9 n t) ∨ (2 ≤ depth ∧ depth + 3 ≤ n))
theorem A1v.sub {n : Nat} {depth : Int} {t t' : Ty} (h : A1v (n + 1) depth t) (hd : 1 < depth) (h4 : Q9 4 t') : A1v n (depth - 1) t' := by
 obtain ⟨h1, h2, h3, h5⟩ := h
 refine ⟨h4, by omega, by omega, ?_⟩
 rcases h5 with ⟨h5, _⟩ | ⟨h5, h6⟩
 ·omega
 ·by_cases h7 : 3 ≤ depth
  ·exact .inr ⟨by omega, by omega⟩
  ·exact .inl ⟨by omega, h4.le (by omega)⟩
theorem A1v.kid {n : Nat} {depth : Int} {k : Int} {ks : List Ty} {t' : Ty} (h : A1v (n + 1) depth (.mk k ks)) (ht : t' ∈ ks) : A1v n (depth - 1) t' := by
 have h4 : Q9 4 t' := (A5U h.1 ht).up
 by_cases hd : 1 < depth
 ·exact h.sub hd h4
 ·obtain ⟨h1, h2, h3, h5⟩ := h
  refine ⟨h4, by omega, by omega, .inl ⟨by omega, ?_⟩⟩
  rcases h5 with ⟨_, h5⟩ | ⟨h5, _⟩
  ·exact A5U h5 ht
  ·omega
theorem A1v.pos {n : Nat} {depth : Int} {k : Int} {ks : List Ty} (h : A1v n depth (.mk k ks)) (hd : 1 < depth ∨ k = 4 ∨ k = 5) : ∃ m, n = m + 1 := by
 cases n with
 | succ m => exact ⟨m, rfl⟩
 | zero =>
  obtain ⟨h1, h2, h3, h5⟩ := h
  rcases h5 with ⟨h5, h6⟩ | ⟨h5, h6⟩
  ·have := h6.2
   omega
  ·omega
theorem Q3 : B2.small := by simp [B2, Ty.small, Ty.smallL]
theorem O7 {k : Int} {nm : ByteArray} {num : Int} (h : nm.size ≤ 1) : (Tm.mk k nm num B2 B2 0 []).small := by
 simp only [Tm.small, Tm.smallL]; exact ⟨by omega, Q3, Q3, by simp, trivial⟩
theorem L4 {k : Int} {nm : ByteArray} {num : Int} {ty : Ty} {a : Tm} (h : nm.size ≤ 1) (ht : ty.small) (ha : a.small) : (Tm.mk k nm num ty B2 0 [a]).small := by
 simp only [Tm.small, Tm.smallL]; exact ⟨by omega, ht, Q3, by simp, ha, trivial⟩
theorem T7 {k : Int} {nm : ByteArray} {num : Int} {a b : Tm} (h : nm.size ≤ 1) (ha : a.small) (hb : b.small) : (Tm.mk k nm num B2 B2 0 [a, b]).small := by
 simp only [Tm.small, Tm.smallL]; exact ⟨by omega, Q3, Q3, by simp, ha, hb, trivial⟩
theorem A0G {k : Int} {nm : ByteArray} {num : Int} {a b c : Tm} (h : nm.size ≤ 1) (ha : a.small) (hb : b.small) (hc : c.small) : (Tm.mk k nm num B2 B2 0 [a, b, c]).small := by
 simp only [Tm.small, Tm.smallL]; exact ⟨by omega, Q3, Q3, by simp, ha, hb, hc, trivial⟩
theorem A0H : (Ty.mk 1 []).small := by simp [Ty.small, Ty.smallL]
def A9Z (br : Nat) (pb : Option Addr) (nb cb : Nat) (bs : List UInt8) (n : Nat) : Prop := ∀ (depth : Int) (t : Ty) (p : Nat) (G : IM) (pc : Option Addr) (nc cc : Nat) (cells : List Value), A1v n depth t → (n : Int) - 1000 ≤ depth → depth ≤ 1000 → nc + n ≤ 40 → W1 G pc nc cc → C1 G t cells → Sl G pb nb cb 1 (N9 bs) → p + mB n < 1099511627776 →
 Fn Tryz.prog 151 [.pointer (some ⟨br, 0, none⟩), .slice pc nc cc, .agg ⟨cells⟩, .int .i64 depth] [rd br pb nb cb p] G
  (A0e br pb nb cb p (mB n) (fun G' v => ∃ e cells, v = .agg ⟨cells⟩ ∧ A8 G' e cells ∧ e.small ∧ D0 e ≤ mB n))
theorem A90 (br : Nat) (pb : Option Addr) (nb cb : Nat) (bs : List UInt8) (hnb : nb ≤ 2000) (m : Nat) (hM : A9Z br pb nb cb bs m) (depth : Int) (a t : Ty) (p : Nat) (G : IM) (pc : Option Addr) (nc cc : Nat) (ca cells : List Value)
  (hfu : A1v m depth t) (hd0 : (m : Int) - 1000 ≤ depth) (hd1 : depth ≤ 1000) (hnc : nc + 1 + m ≤ 40) (hx : W1 G pc nc cc) (hra : C1 G a ca) (haa : F4 a ∧ J7 a ≤ 30) (hrt : C1 G t cells) (hb : Sl G pb nb cb 1 (N9 bs)) (hp : p + 1 + mB m < 1099511627776) :
  Fn Tryz.prog 209 [.pointer (some ⟨br, 0, none⟩), .slice pc nc cc, .agg ⟨ca⟩, .agg ⟨cells⟩, .int .i64 depth] [rd br pb nb cb p] G
   (A0e br pb nb cb p (1 + mB m) (fun G' v => ∃ e cells, v = .agg ⟨cells⟩ ∧ A8 G' e cells ∧ e.small ∧ D0 e ≤ 1 + mB m)) := by
 obtain ⟨ak, aks⟩ := a
 obtain ⟨tk, tks⟩ := t
 obtain ⟨pa, cca, ea, rfl, _⟩ := hra.open
 obtain ⟨pt, cct, et, rfl, _⟩ := hrt.open
 simp only [Ty.k, Ty.ks] at hra hrt ⊢
 refine C0 Tryz.func209 rfl Tryz.ntmps209 Tryz.results209 rfl ?_
 intro w0
 refine tS (tR ?_)
 refine sE (C5 rfl rfl) rfl (fun b3 => ?_)
 refine sE (C5 rfl rfl) rfl (fun b4 => ?_)
 refine sE (A6 rfl) rfl (fun b5 => ?_)
 refine B0 ?_
 (refine I1 (C9 rfl rfl rfl (by omega) (by unfold maxLen; omega) rfl) rfl ?_; rintro _ ⟨b11, rfl⟩)
 (refine R6 (by repeat (first | exact Pk.here | apply Pk.there)) (fun G4 hle4 hsl4 _ => ?_); refine I4 rfl (A54 G4 br pb nb cb p bs _ _ _ _ (hb.mono hle4) hnb (by omega) hsl4 (by decide)) (Pk.perm (by repeat (first | exact Pk.here | apply Pk.there))) rfl rfl (fun v G5 outs hle5 hh => ?_); obtain ⟨rfl, rfl, hv⟩ := hh; obtain ⟨nm, rfl, hnm⟩ : ∃ nm : ByteArray, v = .string nm ∧ nm.size ≤ 1 := (by simp only [List.mem_cons, List.not_mem_nil, or_false] at hv; rcases hv with rfl | rfl | rfl | rfl <;> exact ⟨_, rfl, by decide⟩); replace hra := hra.mono hle4; replace hx := hx.mono hle4; replace hb := hb.mono hle4; replace hrt := hrt.mono hle4;)
 refine B6 ?_
 refine E0 E1 rfl ?_
 refine I8 (i := 0) (l' := [tt,ff,ff,ff,ff,ff,ff,ff,ff,ff,ff,ff,ff,ff]) rfl D2 (qM rfl) rfl (by kernel_rfl) rfl rfl ?_
 refine aL 1 rfl (A4 rfl rfl) rfl ?_
 refine aP 3 rfl (qM rfl) rfl ?_
 refine aP 4 rfl (qM rfl) rfl ?_
 refine aP 5 rfl (qM rfl) rfl ?_
 refine aL 6 rfl (A4 rfl rfl) rfl ?_
 refine aL 8 rfl (A4 rfl rfl) rfl ?_
 refine aP 9 rfl (qM rfl) rfl ?_
 refine A3 2 ?_
 (refine H1 rfl rfl (P9 _ _ _ haa.1.small hra) rfl rfl rfl (fun v G6 hle6 hh => ?_); obtain ⟨cs1, F1, rfl, hs1, hn1⟩ := hh; obtain ⟨p1, c1, rfl, _⟩ := hs1.open; have hr1 := hs1.R.mono (C4.le G6 _); replace hra := hra.mono hle6; replace hx := hx.mono hle6; replace hb := hb.mono hle6; replace hrt := hrt.mono hle6;)
 refine A3 7 ?_
 (refine H1 rfl rfl (B2M _ pc nc cc nm (.mk ak aks) _ hx (by omega) hra haa.1 haa.2 hnm) rfl rfl rfl (fun v G7 hle7 hh => ?_); obtain ⟨pm, cm, rfl, hxm⟩ := hh; replace hr1 := hr1.mono hle7; replace hx := hx.mono hle7; replace hb := hb.mono hle7; replace hrt := hrt.mono hle7; have hcall := hM depth (.mk tk tks) (p + 1) _ pm (nc + 1) cm _ hfu hd0 hd1 (by omega) hxm hrt hb (by omega))
 refine A3 10 ?_
 (refine Y6 (l' := [tt,tt,tt,tt,tt,tt,tt,tt,tt,tt,tt,ff,ff,ff]) rfl rfl hcall (Pk.perm (by repeat (first | exact Pk.here | apply Pk.there))) rfl rfl rfl (by repeat (first | exact B1.nil | apply B1.dep (by decide +kernel) | apply B1.blk (by decide +kernel) (by repeat (first | exact Pk.here | apply Pk.there)) (by repeat first | exact mH | apply mT))) (fun v G8 outs hle8 hh => ?_); obtain ⟨p8, hp81, hp82, rfl, e8, c8, rfl, hr8, hs8, hc8⟩ := hh; obtain ⟨a1, a2, a3, a4, a5, a6, a7, a8, a9, rfl⟩ := hr8.nine; replace hr1 := hr1.mono hle8)
 refine A3 11 ?_
 (refine E6 rfl (C9 rfl rfl rfl (by omega) (by unfold maxLen; omega) rfl) rfl rfl ?_; rintro _ ⟨b33, rfl⟩)
 refine aP 12 rfl (W4 rfl rfl) rfl ?_
 refine A3 13 ?_
 refine R7 rfl rfl rfl rfl rfl rfl rfl rfl (by decide +kernel) (by repeat first | exact Sw.here | apply Sw.there) (by rfl) ?_
 refine E8 (nS ?_)
 (refine E9 (cs := [a1, a2, a3, a4, a5, a6, a7, a8, a9]) (by repeat (first | exact Pk.here | apply Pk.there)) (fun G9 hle9 hsl9 hno9 => ?_); have hN := A33 (k := 5) (nm := nm) ⟨by omega, by omega⟩ (hr1.mono hle9) (hr8.mono hle9) hsl9)
 refine tT ?_
 refine H7 (outs := [rd br pb nb cb p8]) (rC rfl (A4 rfl rfl)) (by repeat (first | exact A0.nil | refine A0.cons Pk.here ?_ | refine A0.cons (Pk.there Pk.here) ?_ | refine A0.cons (Pk.there (Pk.there Pk.here)) ?_ | apply A0.drop)) ?_
 (exact ⟨p8, by omega, by omega, rfl, _, _, rfl, hN, L4 hnm haa.1.small hs8, by simp only [D0, E7]; omega⟩)
structure A35 {ι : Type} (S : ι → Sy) (φ : ι → Prop) (K : Po) (e : Exit) (σ : Sy) : Prop where
 run : match e with
  | .normal => ∃ i, φ i ∧ Sub σ (S i)
  | e => K e σ
section cut
variable {P : Program} {Γ : L9} {K : Po} {σ : Sy} {ι : Type}
theorem A91 {c y : Code} (S : ι → Sy) (φ : ι → Prop) (h : J1 P Γ c (A35 S φ K) σ) (k : ∀ i, φ i → J1 P Γ y K (S i)) : J1 P Γ c (A0W P Γ y K) σ := by
 refine A5s h ?_
 rintro e σ ⟨hk⟩
 cases e with
 | normal => obtain ⟨i, hi, hs⟩ := hk; exact ⟨A7a hs (k i hi)⟩
 | _ => exact ⟨hk⟩
theorem A36 {S : ι → Sy} {φ : ι → Prop} {σ : Sy} (i : ι) (hs : Sub σ (S i)) (h : φ i) : A35 S φ K .normal σ := ⟨⟨i, h, hs⟩⟩
theorem A0V {S : ι → Sy} {φ : ι → Prop} {σ : Sy} (h : K .ret σ) : A35 S φ K .ret σ := ⟨h⟩
theorem B4A {S : ι → Sy} {φ : ι → Prop} (h : Z2 K) : Z2 (A35 S φ K) := fun c σ hk => h c σ hk.run
instance npC6 {S : ι → Sy} {φ : ι → Prop} [h : NpC K] : NpC (A35 S φ K) := ⟨B4A h.h⟩
end cut
theorem A2e (G : IM) (nm : ByteArray) (num : Int) {k : Int} (hk : F8 k) (hn : F8 num) : A8 G (.mk k nm num B2 B2 0 []) [.int .i64 k, .string nm, .int .i64 num, .int .i64 0, .slice none 0 0, .int .i64 0, .slice none 0 0, .int .i64 0, .slice none 0 0] := A1M hk hn
theorem C1.kidsM {G : IM} {k : Int} {ks : List Ty} {q : Option Addr} {c : Nat} (h : C1 G (.mk k ks) [.int .i64 k, .slice q ks.length c]) : ∃ es, D1 G q ks.length c 2 es ∧ C8 G ks es := by
 obtain ⟨q', c', es, he, _, h1, h2⟩ := h.open
 cases he
 exact ⟨es, h1, h2⟩
theorem A92 (br : Nat) (pb : Option Addr) (nb cb : Nat) (bs : List UInt8) (hnb : nb ≤ 2000) : ∀ n, A9Z br pb nb cb bs n := by
 refine fun n => Nat.strongRecOn n fun n ih depth t p G pc nc cc cells hfu hd0 hd1 hnc hx hrt hb hp => ?_
 have hge := A1u n
 have har := hfu.1.ar
 have hszt := A4G hfu.1
 have hnn := A04 t
 have hncl := hx.le
 obtain ⟨k, ks⟩ := t
 obtain ⟨q, c, es, rfl, hk, _, _⟩ := hrt.open
 simp only [Ty.k, Ty.ks] at hk hrt ⊢
 have hsz30 : J7 (.mk k ks) ≤ 30 := hszt
 have hops : k = 4 ∨ k = 5 → ks.length = 2 := by have h2 := har; rw [F4] at h2; exact h2.1
 refine C0 Tryz.func151 rfl Tryz.ntmps151 Tryz.results151 rfl ?_
 intro w0
 refine tS (tR ?_)
 refine sE (C5 rfl rfl) rfl (fun b3 => ?_)
 refine sE (A6 rfl) rfl (fun b4 => ?_)
 refine B4 ?_
 refine sP (P2 rfl rfl (by omega) (by omega)) rfl rfl ?_
 refine E3 ?_
 refine B8 ?_
 (refine I2 (fun (x : Nat × Nat × IM) => ⟨(9, .int .i64 ((x.1 : Int) - 1)) :: [(0, .pointer (some ⟨br, 0, none⟩)), (1, .slice pc nc cc), (3, .int .i64 depth), (6, .pointer (some ⟨b3, 0, none⟩)), (8, .pointer (some ⟨b4, 0, none⟩))], [rd br pb nb cb x.2.1, .blk b4 [.int .i64 0, .string ⟨⟨[]⟩⟩, .int .i64 0, .int .i64 0, .slice none 0 0, .int .i64 0, .slice none 0 0, .int .i64 0, .slice none 0 0], .blk b3 [.int .i64 k, .slice q ks.length c]], x.2.2⟩) (fun x => x.1 ≤ nc ∧ B9 G x.2.2 ∧ p ≤ x.2.1 ∧ x.2.1 + x.1 ≤ p + nc) (fun x => x.1) (nc, p, G) ?_ ?_ ?_)
 (simp only [H6]; exact D3)
 (exact ⟨Nat.le_refl _, B9.refl _, Nat.le_refl _, Nat.le_refl _⟩)
 (rintro ⟨(i : Nat), (p1 : Nat), G1⟩ ⟨hi, hleL, hpL, hpL2⟩; simp only [] at hi hleL hpL hpL2 ⊢; replace hx := hx.mono hleL; replace hb := hb.mono hleL; replace hrt := hrt.mono hleL;)
 refine B6 ?_
 refine sB (A0J rfl rfl) rfl rfl (fun h25 => ?_) (fun h25 => ?_)
 refine A7 ?_
 (show J1 _ _ (.block 1 ..) _ _; obtain ⟨j, rfl⟩ : ∃ j, i = j + 1 := ⟨i - 1, by omega⟩; rw [show ((j + 1 : Nat) : Int) - 1 = (j : Int) from by omega]; obtain ⟨b, o, nm1, t1, qq1, dd1, rfl, hat, hr1, ha1, hs1, hgb, hns1⟩ := hx.get (i := j) (by omega); refine B8 ?_)
 refine B0 ?_
 refine sP (B3 (j := j) rfl rfl rfl (by omega)) rfl rfl ?_
 refine sQ (qF rfl) rfl ?_
 refine sL (R3 rfl rfl ((hat _).sub (j := 0) rfl)) rfl rfl ?_
 (refine D8 rfl (B2L _ _ nc cc nm1 hx) rfl rfl (fun v G2 hle2 hh => ?_); obtain ⟨ts, tcs, xs, rfl, hrs, has, hss⟩ := hh; obtain ⟨ps, cs, ess, rfl, _⟩ := hrs.open; obtain ⟨b, o, nm1, t1, qq1, dd1, hpp, hat, hr1, ha1, hs1, hgb, hns1⟩ := (hx.mono hle2).get (i := j) (by omega); cases hpp; replace hx := hx.mono hle2; replace hb := hb.mono hle2; replace hrt := hrt.mono hle2;)
 refine E3 ?_
 refine sE (A6 rfl) rfl (fun b45 => ?_)
 refine B4 ?_
 (have hinloop := hrs; refine I4 rfl (Y3 _ br pb nb cb (p1) bs 3 hb hnb (by omega)) (Pk.perm (by repeat (first | exact Pk.here | apply Pk.there))) rfl rfl (fun v Gp outs hle53 hh => ?_); obtain ⟨rfl, rfl, j53, rfl, hj53, hk53⟩ := hh; have hinl := hj53)
 replace hrs := hrs.mono hle53
 replace hr1 := hr1.mono hle53
 replace hb := hb.mono hle53
 replace hrt := hrt.mono hle53
 replace hinloop := hinloop.mono hle53
 refine sB (qE rfl rfl) rfl rfl (fun h54 => ?_) (fun h54 => ?_)
 refine D7 ?_
 refine H4 rfl ((A1J ts _ _ hrs)) rfl rfl (fun h57 => ?_) (fun h57 => ?_)
 refine B6 ?_
 refine H4 rfl ((A1N ts (.mk k ks) _ _ _ has har hrs hrt)) rfl rfl (fun h62 => ?_) (fun h62 => ?_)
 refine D6 ?_
 refine sP (B3 (j := j) rfl rfl rfl (by omega)) rfl rfl ?_
 refine sQ (qF rfl) rfl ?_
 refine sL (R3 rfl rfl ((hat _).sub (j := 0) rfl)) rfl rfl ?_
 refine J5 ?_
 refine H7 (outs := [rd br pb nb cb (p1 + 1)]) (rC rfl (A4 rfl rfl)) (by repeat (first | exact A0.nil | refine A0.cons Pk.here ?_ | refine A0.cons (Pk.there Pk.here) ?_ | refine A0.cons (Pk.there (Pk.there Pk.here)) ?_ | apply A0.drop)) ?_
 (exact ⟨(p1 + 1), by omega, by omega, rfl, _, _, rfl, A2e _ _ _ ⟨by omega, by omega⟩ (by first | exact ⟨by omega, by omega⟩ | exact hkn), by first | exact O7 (by first | assumption | decide) | exact A0G (by decide) (by assumption) (by assumption) (by assumption) | exact T7 (by decide) (by assumption) (by assumption) | exact L4 (by decide) Q3 (by assumption) | exact L4 (by decide) har.small (by assumption) | exact L4 (by decide) Q3 (T7 (by decide) (by assumption) (O7 (by decide))) | exact L4 (by decide) A0H (O7 (by decide)) | assumption, by simp only [D0, E7]; omega⟩)
 refine E4 ?_
 refine sP (P2 rfl rfl (by omega) (by omega)) rfl rfl ?_
 refine D7 ?_
 (have hinloop := hrs; refine H9 (j, p1 + 1, Gp) ?_ ?_ ?_)
 (simp only [H6]; exact D3)
 (dsimp only; exact ⟨by omega, hleL.trans hle2, by omega, by omega⟩)
 (show _ < _ + 1; omega)
 refine K5 ?_
 refine sP (P2 rfl rfl (by omega) (by omega)) rfl rfl ?_
 refine D7 ?_
 (have hinloop := hrs; refine H9 (j, p1 + 1, Gp) ?_ ?_ ?_)
 (simp only [H6]; exact D3)
 (dsimp only; exact ⟨by omega, hleL.trans hle2, by omega, by omega⟩)
 (show _ < _ + 1; omega)
 refine S6 ?_
 refine sP (P2 rfl rfl (by omega) (by omega)) rfl rfl ?_
 refine D7 ?_
 (have hinloop := hrs; refine H9 (j, p1 + 1, Gp) ?_ ?_ ?_)
 (simp only [H6]; exact D3)
 (dsimp only; exact ⟨by omega, hleL.trans hle2, by omega, by omega⟩)
 (show _ < _ + 1; omega)
 refine J5 ?_
 (show J1 _ _ (.region 7 ..) _ _; refine A0g (fun (x : Bool) => ⟨(49, .bool x) :: [(0, .pointer (some ⟨br, 0, none⟩)), (1, .slice pc nc cc), (3, .int .i64 depth), (6, .pointer (some ⟨b3, 0, none⟩)), (8, .pointer (some ⟨b4, 0, none⟩))], [rd br pb nb cb p1, .blk b4 [.int .i64 0, .string ⟨⟨[]⟩⟩, .int .i64 0, .int .i64 0, .slice none 0 0, .int .i64 0, .slice none 0 0, .int .i64 0, .slice none 0 0], .blk b3 [.int .i64 k, .slice q ks.length c]], G1⟩) (fun x => x = true → 1 < depth) ?_ ?_)
 refine D7 ?_
 refine sB (X2 rfl rfl) rfl rfl (fun h160 => ?_) (fun h160 => ?_)
 refine sD ?_
 refine Q0 true (J8 (by repeat (first | exact D4.nil | refine D4.cons rfl ?_)) (by repeat (first | exact A0.refl | exact A0.nil | refine A0.cons (by repeat (first | exact Pk.here | apply Pk.there)) ?_ | apply A0.drop))) (fun _ => by omega)
 refine sD ?_
 refine Q0 false (J8 (by repeat (first | exact D4.nil | refine D4.cons rfl ?_)) (by repeat (first | exact A0.refl | exact A0.nil | refine A0.cons (by repeat (first | exact Pk.here | apply Pk.there)) ?_ | apply A0.drop))) (fun h => absurd h (by decide))
 (rintro (x49 : Bool) hx49)
 (show J1 _ _ (.cond (.tmp 49) _ _) _ _; refine A91 (fun (x : Nat × IM) => ⟨[(0, .pointer (some ⟨br, 0, none⟩)), (1, .slice pc nc cc), (3, .int .i64 depth), (6, .pointer (some ⟨b3, 0, none⟩)), (8, .pointer (some ⟨b4, 0, none⟩))], [rd br pb nb cb x.1, .blk b4 [.int .i64 0, .string ⟨⟨[]⟩⟩, .int .i64 0, .int .i64 0, .slice none 0 0, .int .i64 0, .slice none 0 0, .int .i64 0, .slice none 0 0], .blk b3 [.int .i64 k, .slice q ks.length c]], x.2⟩) (fun x => B9 G1 x.2 ∧ p1 ≤ x.1 ∧ x.1 ≤ p1 + 1) (A3s rfl (fun hxt => ?_) (fun hxf => ?_)) ?_)
 refine E3 ?_
 (have hx49b := hx49 hxt; refine I4 rfl (Y3 _ br pb nb cb (p1) bs 9 hb hnb (by omega)) (Pk.perm (by repeat (first | exact Pk.here | apply Pk.there))) rfl rfl (fun v Gp outs hle170 hh => ?_); obtain ⟨rfl, rfl, j170, rfl, hj170, hk170⟩ := hh; have hpk9 := hj170)
 replace hb := hb.mono hle170
 replace hrt := hrt.mono hle170
 refine sD (nS ?_)
 refine B8 (tS (tR (sB (qE rfl rfl) rfl rfl (fun h176 => ?_) (fun h176 => ?_))))
 refine B0 ?_
 (obtain ⟨m, rfl⟩ := hfu.pos (.inl (by omega)); have hmB : mB (m + 1) = 3 * mB m + 200 := rfl; have hgm := A1u m; refine E0 E1 rfl ?_)
 refine L7 (i := 0) (l' := [tt,ff,ff,ff,ff,ff,ff,ff,ff,ff,ff,ff,ff]) rfl D2 (A4 rfl rfl) rfl (by kernel_rfl) rfl rfl ?_
 refine aP 2 rfl (qM rfl) rfl ?_
 refine aP 3 rfl (qM rfl) rfl ?_
 refine aP 4 rfl (qM rfl) rfl ?_
 refine aL 5 rfl (A4 rfl rfl) rfl ?_
 refine aP 7 rfl (qM rfl) rfl ?_
 refine aP 8 rfl (P2 rfl rfl (by omega) (by omega)) rfl ?_
 refine A3 1 ?_
 (refine H1 rfl rfl (P9 _ _ _ har.small hrt) rfl rfl rfl (fun v G6 hle6 hh => ?_); obtain ⟨cs1, F1, rfl, hs1, hn1⟩ := hh; obtain ⟨pz, cz, rfl, _⟩ := hs1.open; have hrz := hs1.R.mono (C4.le G6 _); replace hx := hx.mono hle6; replace hb := hb.mono hle6; replace hrt := hrt.mono hle6;)
 refine A3 6 ?_
 (have hcall := A6b br pb nb cb bs hnb (.mk k ks) (p1 + 1) _ _ har hrt hb (by omega); refine Y6 (l' := [tt,tt,tt,tt,tt,tt,tt,tt,tt,ff,ff,ff,ff]) rfl rfl hcall (Pk.perm (by repeat (first | exact Pk.here | apply Pk.there))) rfl rfl rfl (by repeat (first | exact B1.nil | apply B1.dep (by decide +kernel) | apply B1.im (by decide +kernel) hg0 (by repeat first | exact mH | apply mT) | apply B1.im (by decide +kernel) hg1 (by repeat first | exact mH | apply mT) | apply B1.blk (by decide +kernel) (by repeat (first | exact Pk.here | apply Pk.there)) (by repeat first | exact mH | apply mT))) (fun v Gn outs hleA hh => ?_); obtain ⟨pA, hpA1, hpA2, rfl, uA, cuA, rfl, hruA, huaA, husA, huhA⟩ := hh; obtain ⟨quA, duA, euA, rfl, _⟩ := hruA.open; replace hrz := hrz.mono hleA; replace hx := hx.mono hleA; replace hb := hb.mono hleA; replace hrt := hrt.mono hleA;)
 refine A3 9 ?_
 (have hcall := ih m (by omega) (depth - 1) uA pA _ pc nc cc _ (hfu.sub (by omega) (huhA 4 hfu.1)) (by omega) (by omega) (by omega) hx hruA hb (by omega); refine Y6 (l' := [tt,tt,tt,tt,tt,tt,tt,tt,tt,tt,ff,ff,ff]) rfl rfl hcall (Pk.perm (by repeat (first | exact Pk.here | apply Pk.there))) rfl rfl rfl (by repeat (first | exact B1.nil | apply B1.dep (by decide +kernel) | apply B1.im (by decide +kernel) hg0 (by repeat first | exact mH | apply mT) | apply B1.im (by decide +kernel) hg1 (by repeat first | exact mH | apply mT) | apply B1.blk (by decide +kernel) (by repeat (first | exact Pk.here | apply Pk.there)) (by repeat first | exact mH | apply mT))) (fun v Gn outs hlea hh => ?_); obtain ⟨pa, hpa1, hpa2, rfl, ea, ca, rfl, hra, hsma, hca⟩ := hh; obtain ⟨a1, a2, a3, a4, a5, a6, a7, a8, a9, rfl⟩ := hra.nine; replace hrz := hrz.mono hlea; replace hx := hx.mono hlea; replace hb := hb.mono hlea; replace hrt := hrt.mono hlea;)
 refine A3 10 ?_
 (refine E6 rfl (C9 rfl rfl rfl (by omega) (by unfold maxLen; omega) rfl) rfl rfl ?_; rintro _ ⟨b197, rfl⟩)
 refine aP 11 rfl (W4 rfl rfl) rfl ?_
 refine A3 12 ?_
 refine R7 rfl rfl rfl rfl rfl rfl rfl rfl (by decide +kernel) (by repeat first | exact Sw.here | apply Sw.there) (by rfl) ?_
 refine E8 (nS ?_)
 (refine E9 (cs := [a1, a2, a3, a4, a5, a6, a7, a8, a9]) (by repeat (first | exact Pk.here | apply Pk.there)) (fun G9 hle9 hsl9 hno9 => ?_); have hN := A33 (k := 13) (nm := ⟨⟨[]⟩⟩) ⟨by omega, by omega⟩ (hrz.mono hle9) (hra.mono hle9) hsl9)
 refine tT (rB ?_)
 refine A0V ?_
 refine H7 (outs := [rd br pb nb cb pa]) (rC rfl (A4 rfl rfl)) (by repeat (first | exact A0.nil | refine A0.cons Pk.here ?_ | refine A0.cons (Pk.there Pk.here) ?_ | refine A0.cons (Pk.there (Pk.there Pk.here)) ?_ | apply A0.drop)) ?_
 (exact ⟨pa, by omega, by omega, rfl, _, _, rfl, hN, by first | exact O7 (by first | assumption | decide) | exact A0G (by decide) (by assumption) (by assumption) (by assumption) | exact T7 (by decide) (by assumption) (by assumption) | exact L4 (by decide) Q3 (by assumption) | exact L4 (by decide) har.small (by assumption) | exact L4 (by decide) Q3 (T7 (by decide) (by assumption) (O7 (by decide))) | exact L4 (by decide) A0H (O7 (by decide)) | assumption, by simp only [D0, E7]; omega⟩)
 refine A7 ?_
 refine sB (qE rfl rfl) rfl rfl (fun h215 => ?_) (fun h215 => ?_)
 refine B0 ?_
 (obtain ⟨m, rfl⟩ := hfu.pos (.inl (by omega)); have hmB : mB (m + 1) = 3 * mB m + 200 := rfl; have hgm := A1u m; refine E0 E1 rfl ?_)
 refine I8 (i := 0) (l' := [tt,ff,ff,ff,ff,ff,ff,ff,ff,ff,ff,ff,ff,ff,ff,ff,ff,ff,ff,ff,ff]) rfl D2 (qM rfl) rfl (by kernel_rfl) rfl rfl ?_
 refine aP 1 rfl (qM rfl) rfl ?_
 refine aP 3 rfl (qM rfl) rfl ?_
 refine aP 4 rfl (P2 rfl rfl (by omega) (by omega)) rfl ?_
 refine aP 6 rfl (qM rfl) rfl ?_
 refine aP 7 rfl (qM rfl) rfl ?_
 refine aL 8 rfl (A4 rfl rfl) rfl ?_
 refine aP 9 rfl (qM rfl) rfl ?_
 refine aP 10 rfl (P2 rfl rfl (by omega) (by omega)) rfl ?_
 refine aP 12 rfl (qM rfl) rfl ?_
 refine aP 13 rfl (qM rfl) rfl ?_
 refine aL 14 rfl (A4 rfl rfl) rfl ?_
 refine aP 15 rfl (qM rfl) rfl ?_
 refine aP 16 rfl (P2 rfl rfl (by omega) (by omega)) rfl ?_
 refine A3 2 ?_
 refine O2 rfl rfl ((A23 _)) rfl rfl rfl ?_
 refine A3 5 ?_
 (have hcall := ih m (by omega) (depth - 1) (.mk 3 []) (p1 + 1) _ pc nc cc _ (hfu.sub (by omega) (A2Z 4 (by decide) (by decide))) (by omega) (by omega) (by omega) hx (M7 _ ⟨by omega, by omega⟩) hb (by omega); refine Y6 (l' := [tt,tt,tt,tt,tt,tt,tt,tt,tt,tt,tt,ff,tt,tt,tt,tt,tt,ff,ff,ff,ff]) rfl rfl hcall (Pk.perm (by repeat (first | exact Pk.here | apply Pk.there))) rfl rfl rfl (by repeat (first | exact B1.nil | apply B1.dep (by decide +kernel) | apply B1.im (by decide +kernel) hg0 (by repeat first | exact mH | apply mT) | apply B1.im (by decide +kernel) hg1 (by repeat first | exact mH | apply mT) | apply B1.blk (by decide +kernel) (by repeat (first | exact Pk.here | apply Pk.there)) (by repeat first | exact mH | apply mT))) (fun v Gn outs hlef hh => ?_); obtain ⟨pf, hpf1, hpf2, rfl, ef, cf, rfl, hrf, hsmf, hcf⟩ := hh; obtain ⟨f1, f2, f3, f4, f5, f6, f7, f8, f9, rfl⟩ := hrf.nine; replace hx := hx.mono hlef; replace hb := hb.mono hlef; replace hrt := hrt.mono hlef;)
 refine A3 11 ?_
 (have hcall := ih m (by omega) (depth - 1) (.mk k ks) pf _ pc nc cc _ (hfu.sub (by omega) hfu.1) (by omega) (by omega) (by omega) hx hrt hb (by omega); refine Y6 (l' := [tt,tt,tt,tt,tt,tt,tt,tt,tt,tt,tt,tt,tt,tt,tt,tt,tt,ff,ff,ff,ff]) rfl rfl hcall (Pk.perm (by repeat (first | exact Pk.here | apply Pk.there))) rfl rfl rfl (by repeat (first | exact B1.nil | apply B1.dep (by decide +kernel) | apply B1.im (by decide +kernel) hg0 (by repeat first | exact mH | apply mT) | apply B1.im (by decide +kernel) hg1 (by repeat first | exact mH | apply mT) | apply B1.blk (by decide +kernel) (by repeat (first | exact Pk.here | apply Pk.there)) (by repeat first | exact mH | apply mT))) (fun v Gn outs hleg hh => ?_); obtain ⟨pg, hpg1, hpg2, rfl, eg, cg, rfl, hrg, hsmg, hcg⟩ := hh; obtain ⟨g1, g2, g3, g4, g5, g6, g7, g8, g9, rfl⟩ := hrg.nine; replace hrf := hrf.mono hleg; replace hx := hx.mono hleg; replace hb := hb.mono hleg; replace hrt := hrt.mono hleg;)
 refine A3 17 ?_
 (have hcall := ih m (by omega) (depth - 1) (.mk k ks) pg _ pc nc cc _ (hfu.sub (by omega) hfu.1) (by omega) (by omega) (by omega) hx hrt hb (by omega); refine Y6 (l' := [tt,tt,tt,tt,tt,tt,tt,tt,tt,tt,tt,tt,tt,tt,tt,tt,tt,tt,ff,ff,ff]) rfl rfl hcall (Pk.perm (by repeat (first | exact Pk.here | apply Pk.there))) rfl rfl rfl (by repeat (first | exact B1.nil | apply B1.dep (by decide +kernel) | apply B1.im (by decide +kernel) hg0 (by repeat first | exact mH | apply mT) | apply B1.im (by decide +kernel) hg1 (by repeat first | exact mH | apply mT) | apply B1.blk (by decide +kernel) (by repeat (first | exact Pk.here | apply Pk.there)) (by repeat first | exact mH | apply mT))) (fun v Gn outs hlei hh => ?_); obtain ⟨pi, hpi1, hpi2, rfl, ei, ci, rfl, hri, hsmi, hci⟩ := hh; obtain ⟨i1, i2, i3, i4, i5, i6, i7, i8, i9, rfl⟩ := hri.nine; replace hrf := hrf.mono hlei; replace hrg := hrg.mono hlei; replace hx := hx.mono hlei; replace hb := hb.mono hlei; replace hrt := hrt.mono hlei;)
 refine A3 18 ?_
 (refine E6 rfl (C9 rfl rfl rfl (by omega) (by unfold maxLen; omega) rfl) rfl rfl ?_; rintro _ ⟨b245, rfl⟩)
 refine A3 19 ?_
 refine O2 rfl rfl ((A0C _ _ _ _ _)) rfl rfl rfl ?_
 refine A3 20 ?_
 refine R7 rfl rfl rfl rfl rfl rfl rfl rfl (by decide +kernel) (by repeat first | exact Sw.here | apply Sw.there) (by rfl) ?_
 refine E8 (nS ?_)
 (refine E9 (cs := [f1, f2, f3, f4, f5, f6, f7, f8, f9] ++ ([g1, g2, g3, g4, g5, g6, g7, g8, g9] ++ [i1, i2, i3, i4, i5, i6, i7, i8, i9])) (by repeat (first | exact Pk.here | apply Pk.there)) (fun G9 hle9 hsl9 hno9 => ?_); have hN := B4z (k := 9) (nm := ⟨⟨[]⟩⟩) ⟨by omega, by omega⟩ (hrf.mono hle9) (hrg.mono hle9) (hri.mono hle9) hsl9)
 refine tT (rB ?_)
 refine A0V ?_
 refine H7 (outs := [rd br pb nb cb pi]) (rC rfl (A4 rfl rfl)) (by repeat (first | exact A0.nil | refine A0.cons Pk.here ?_ | refine A0.cons (Pk.there Pk.here) ?_ | refine A0.cons (Pk.there (Pk.there Pk.here)) ?_ | apply A0.drop)) ?_
 (exact ⟨pi, by omega, by omega, rfl, _, _, rfl, hN, by first | exact O7 (by first | assumption | decide) | exact A0G (by decide) (by assumption) (by assumption) (by assumption) | exact T7 (by decide) (by assumption) (by assumption) | exact L4 (by decide) Q3 (by assumption) | exact L4 (by decide) har.small (by assumption) | exact L4 (by decide) Q3 (T7 (by decide) (by assumption) (O7 (by decide))) | exact L4 (by decide) A0H (O7 (by decide)) | assumption, by simp only [D0, E7]; omega⟩)
 refine A7 ?_
 refine sB (qE rfl rfl) rfl rfl (fun h264 => ?_) (fun h264 => ?_)
 refine B4 ?_
 (have hcall := A22 br pb nb cb bs hnb 0 (p1 + 1) _ (by omega) hb (by have : dB (0 + 1) ≤ 6 := (by decide); omega); refine I4 rfl hcall (Pk.perm (by repeat (first | exact Pk.here | apply Pk.there))) rfl rfl (fun v Gn outs hleD hh => ?_); obtain ⟨pD, hpD1, hpD2, rfl, uD, cuD, rfl, hruD, husD, huhD⟩ := hh; have huaD := huhD.ar; obtain ⟨quD, duD, euD, rfl, _⟩ := hruD.open; have hdBD : dB (0 + 1) ≤ 6 := (by decide); replace hx := hx.mono hleD; replace hb := hb.mono hleD; replace hrt := hrt.mono hleD;)
 refine sE (A6 rfl) rfl (fun b273 => ?_)
 refine B6 ?_
 (obtain ⟨m, rfl⟩ := hfu.pos (.inl (by omega)); have hmB : mB (m + 1) = 3 * mB m + 200 := rfl; have hgm := A1u m; refine E0 E1 rfl ?_)
 refine I8 (i := 0) (l' := [tt,ff,ff,ff,ff,ff,ff,ff,ff,ff,ff,ff,ff,ff,ff,ff,ff,ff]) rfl D2 (qM rfl) rfl (by kernel_rfl) rfl rfl ?_
 refine aP 1 rfl (qM rfl) rfl ?_
 refine aL 2 rfl (A4 rfl rfl) rfl ?_
 refine aL 3 rfl (A4 rfl rfl) rfl ?_
 refine aP 4 rfl (qM rfl) rfl ?_
 refine aP 5 rfl (P2 rfl rfl (by omega) (by omega)) rfl ?_
 refine aP 7 rfl (qM rfl) rfl ?_
 refine aP 8 rfl (qM rfl) rfl ?_
 refine aP 9 rfl (qM rfl) rfl ?_
 refine aL 10 rfl (A4 rfl rfl) rfl ?_
 refine aP 12 rfl (qM rfl) rfl ?_
 refine aP 13 rfl (P2 rfl rfl (by omega) (by omega)) rfl ?_
 refine A3 6 ?_
 (have hcall := A90 br pb nb cb bs hnb m (ih m (by omega)) (depth - 1) uD (.mk k ks) (pD) _ pc nc cc _ _ (hfu.sub (by omega) hfu.1) (by omega) (by omega) (by omega) hx hruD ⟨huaD, by omega⟩ hrt hb (by omega); refine Y6 (l' := [tt,tt,tt,tt,tt,tt,tt,tt,tt,tt,tt,ff,tt,tt,ff,ff,ff,ff]) rfl rfl hcall (Pk.perm (by repeat (first | exact Pk.here | apply Pk.there))) rfl rfl rfl (by repeat (first | exact B1.nil | apply B1.dep (by decide +kernel) | apply B1.im (by decide +kernel) hg0 (by repeat first | exact mH | apply mT) | apply B1.im (by decide +kernel) hg1 (by repeat first | exact mH | apply mT) | apply B1.blk (by decide +kernel) (by repeat (first | exact Pk.here | apply Pk.there)) (by repeat first | exact mH | apply mT))) (fun v Gn outs hlel hh => ?_); obtain ⟨pl, hpl1, hpl2, rfl, el, cl, rfl, hrl, hsml, hcl⟩ := hh; obtain ⟨l1, l2, l3, l4, l5, l6, l7, l8, l9, rfl⟩ := hrl.nine; replace hruD := hruD.mono hlel; replace hx := hx.mono hlel; replace hb := hb.mono hlel; replace hrt := hrt.mono hlel;)
 refine A3 11 ?_
 (have hcall := A6b br pb nb cb bs hnb uD (pl) _ _ huaD hruD hb (by omega); refine Y6 (l' := [tt,tt,tt,tt,tt,tt,tt,tt,tt,tt,tt,tt,tt,tt,ff,ff,ff,ff]) rfl rfl hcall (Pk.perm (by repeat (first | exact Pk.here | apply Pk.there))) rfl rfl rfl (by repeat (first | exact B1.nil | apply B1.dep (by decide +kernel) | apply B1.im (by decide +kernel) hg0 (by repeat first | exact mH | apply mT) | apply B1.im (by decide +kernel) hg1 (by repeat first | exact mH | apply mT) | apply B1.blk (by decide +kernel) (by repeat (first | exact Pk.here | apply Pk.there)) (by repeat first | exact mH | apply mT))) (fun v Gn outs hleE hh => ?_); obtain ⟨pE, hpE1, hpE2, rfl, uE, cuE, rfl, hruE, huaE, husE, huhE⟩ := hh; obtain ⟨quE, duE, euE, rfl, _⟩ := hruE.open; replace hrl := hrl.mono hleE; replace hx := hx.mono hleE; replace hb := hb.mono hleE; replace hrt := hrt.mono hleE;)
 refine A3 14 ?_
 (have hcall := ih m (by omega) (depth - 1) uE pE _ pc nc cc _ (hfu.sub (by omega) (huhE 4 (huhD.le (by omega)))) (by omega) (by omega) (by omega) hx hruE hb (by omega); refine Y6 (l' := [tt,tt,tt,tt,tt,tt,tt,tt,tt,tt,tt,tt,tt,tt,tt,ff,ff,ff]) rfl rfl hcall (Pk.perm (by repeat (first | exact Pk.here | apply Pk.there))) rfl rfl rfl (by repeat (first | exact B1.nil | apply B1.dep (by decide +kernel) | apply B1.im (by decide +kernel) hg0 (by repeat first | exact mH | apply mT) | apply B1.im (by decide +kernel) hg1 (by repeat first | exact mH | apply mT) | apply B1.blk (by decide +kernel) (by repeat (first | exact Pk.here | apply Pk.there)) (by repeat first | exact mH | apply mT))) (fun v Gn outs hled hh => ?_); obtain ⟨pd, hpd1, hpd2, rfl, ed, cd, rfl, hrd, hsmd, hcd⟩ := hh; obtain ⟨d1, d2, d3, d4, d5, d6, d7, d8, d9, rfl⟩ := hrd.nine; replace hrl := hrl.mono hled; replace hx := hx.mono hled; replace hb := hb.mono hled; replace hrt := hrt.mono hled;)
 refine A3 15 ?_
 (refine E6 rfl (C9 rfl rfl rfl (by omega) (by unfold maxLen; omega) rfl) rfl rfl ?_; rintro _ ⟨b298, rfl⟩)
 refine A3 16 ?_
 refine O2 rfl rfl ((A0C _ _ _ _ _)) rfl rfl rfl ?_
 refine A3 17 ?_
 refine R7 rfl rfl rfl rfl rfl rfl rfl rfl (by decide +kernel) (by repeat first | exact Sw.here | apply Sw.there) (by rfl) ?_
 refine E8 (nS ?_)
 (refine E9 (cs := [l1, l2, l3, l4, l5, l6, l7, l8, l9] ++ [d1, d2, d3, d4, d5, d6, d7, d8, d9]) (by repeat (first | exact Pk.here | apply Pk.there)) (fun G9 hle9 hsl9 hno9 => ?_); have hN := A34 (k := 6) (nm := ⟨⟨[]⟩⟩) ⟨by omega, by omega⟩ (hrl.mono hle9) (hrd.mono hle9) hsl9)
 refine tT (rB ?_)
 refine A0V ?_
 refine H7 (outs := [rd br pb nb cb pd]) (rC rfl (A4 rfl rfl)) (by repeat (first | exact A0.nil | refine A0.cons Pk.here ?_ | refine A0.cons (Pk.there Pk.here) ?_ | refine A0.cons (Pk.there (Pk.there Pk.here)) ?_ | apply A0.drop)) ?_
 (exact ⟨pd, by omega, by omega, rfl, _, _, rfl, hN, by first | exact O7 (by first | assumption | decide) | exact A0G (by decide) (by assumption) (by assumption) (by assumption) | exact T7 (by decide) (by assumption) (by assumption) | exact L4 (by decide) Q3 (by assumption) | exact L4 (by decide) har.small (by assumption) | exact L4 (by decide) Q3 (T7 (by decide) (by assumption) (O7 (by decide))) | exact L4 (by decide) A0H (O7 (by decide)) | assumption, by simp only [D0, E7]; omega⟩)
 refine A7 ?_
 refine sB (qE rfl rfl) rfl rfl (fun h317 => ?_) (fun h317 => ?_)
 refine J5 ?_
 refine sP (P2 rfl rfl (by omega) (by omega)) rfl rfl ?_
 (have hpkq := hpk9; obtain ⟨m, rfl⟩ := hfu.pos (.inl (by omega)); have hmB : mB (m + 1) = 3 * mB m + 200 := rfl; have hgm := A1u m; have hcall := ih m (by omega) (depth - 1) (.mk k ks) (p1 + 1) _ pc nc cc _ (hfu.sub (by omega) hfu.1) (by omega) (by omega) (by omega) hx hrt hb (by omega); refine I4 rfl hcall (Pk.perm (by repeat (first | exact Pk.here | apply Pk.there))) rfl rfl (fun v Gn outs hleh hh => ?_); obtain ⟨ph, hph1, hph2, rfl, eh, ch, rfl, hrh, hsmh, hch⟩ := hh; obtain ⟨h1, h2, h3, h4, h5, h6, h7, h8, h9, rfl⟩ := hrh.nine; replace hx := hx.mono hleh; replace hb := hb.mono hleh; replace hrt := hrt.mono hleh;)
 refine H3 rfl ((A13 _ _)) rfl rfl ?_
 (refine I1 (C9 rfl rfl rfl (by omega) (by unfold maxLen; omega) rfl) rfl ?_; rintro _ ⟨b331, rfl⟩)
 refine H3 rfl ((A0C _ _ _ _ _)) rfl rfl ?_
 (refine I1 (C9 rfl rfl rfl (by omega) (by unfold maxLen; omega) rfl) rfl ?_; rintro _ ⟨b333, rfl⟩)
 refine H3 rfl ((A0C _ _ _ _ _)) rfl rfl ?_
 refine sS' ?_
 refine sD (nS ?_)
 (refine E9 (cs := [h1, h2, h3, h4, h5, h6, h7, h8, h9] ++ [.int .i64 2, .string ⟨⟨[]⟩⟩, .int .i64 1, .int .i64 0, .slice none 0 0, .int .i64 0, .slice none 0 0, .int .i64 0, .slice none 0 0]) (by repeat (first | exact Pk.here | apply Pk.there)) (fun G8 hle8 hsl8 hno8 => ?_); have hNi := A34 (k := 10) (nm := ⟨⟨[]⟩⟩) ⟨by omega, by omega⟩ (hrh.mono hle8) (A2e G8 ⟨⟨[]⟩⟩ 1 (k := 2) ⟨by omega, by omega⟩ ⟨by omega, by omega⟩) hsl8; refine E9 (by repeat (first | exact Pk.here | apply Pk.there)) (fun G9 hle9 hsl9 hno9 => ?_); have hN := A33 (k := 11) (nm := ⟨⟨[]⟩⟩) ⟨by omega, by omega⟩ (M7 G9 (k := 0) ⟨by omega, by omega⟩) (hNi.mono hle9) hsl9)
 refine tT (rB ?_)
 refine A0V ?_
 refine H7 (outs := [rd br pb nb cb ph]) (rC rfl (A4 rfl rfl)) (by repeat (first | exact A0.nil | refine A0.cons Pk.here ?_ | refine A0.cons (Pk.there Pk.here) ?_ | refine A0.cons (Pk.there (Pk.there Pk.here)) ?_ | apply A0.drop)) ?_
 (exact ⟨ph, by omega, by omega, rfl, _, _, rfl, hN, by first | exact O7 (by first | assumption | decide) | exact A0G (by decide) (by assumption) (by assumption) (by assumption) | exact T7 (by decide) (by assumption) (by assumption) | exact L4 (by decide) Q3 (by assumption) | exact L4 (by decide) har.small (by assumption) | exact L4 (by decide) Q3 (T7 (by decide) (by assumption) (O7 (by decide))) | exact L4 (by decide) A0H (O7 (by decide)) | assumption, by simp only [D0, E7]; omega⟩)
 refine A7 ?_
 refine A36 (p1 + 1, Gp) (J8 (by repeat (first | exact D4.nil | refine D4.cons rfl ?_)) (by repeat (first | exact A0.refl | exact A0.nil | refine A0.cons (by repeat (first | exact Pk.here | apply Pk.there)) ?_ | apply A0.drop))) ⟨B9.refl _, by dsimp only; omega, by dsimp only; omega⟩
 refine tK ?_
 refine A36 (p1, G1) (J8 (by repeat (first | exact D4.nil | refine D4.cons rfl ?_)) (by repeat (first | exact A0.refl | exact A0.nil | refine A0.cons (by repeat (first | exact Pk.here | apply Pk.there)) ?_ | apply A0.drop))) ⟨B9.refl _, by dsimp only; omega, by dsimp only; omega⟩
 (rintro ⟨(p2 : Nat), G2⟩ ⟨hle2c, hp2a, hp2b⟩; simp only [] at hle2c hp2a hp2b ⊢; have hcut1 := hp2a; replace hx := hx.mono hle2c; replace hb := hb.mono hle2c; replace hrt := hrt.mono hle2c;)
 refine B4 ?_
 (show J1 _ _ (.block 3 ..) _ _; refine A91 (fun (x : Nat × IM) => ⟨[(0, .pointer (some ⟨br, 0, none⟩)), (1, .slice pc nc cc), (3, .int .i64 depth), (6, .pointer (some ⟨b3, 0, none⟩)), (8, .pointer (some ⟨b4, 0, none⟩))], [rd br pb nb cb x.1, .blk b4 [.int .i64 0, .string ⟨⟨[]⟩⟩, .int .i64 0, .int .i64 0, .slice none 0 0, .int .i64 0, .slice none 0 0, .int .i64 0, .slice none 0 0], .blk b3 [.int .i64 k, .slice q ks.length c]], x.2⟩) (fun x => B9 G2 x.2 ∧ p2 ≤ x.1 ∧ x.1 ≤ p2 + 2) ?_ ?_)
 refine B8 (tS (tR (sB (qE rfl rfl) rfl rfl (fun h365 => ?_) (fun h365 => ?_))))
 refine D6 ?_
 refine sB (X2 rfl rfl) rfl rfl (fun h374 => ?_) (fun h374 => ?_)
 refine D7 ?_
 (have hkk3 : k = 3 := (by omega); refine I4 rfl (Y3 _ br pb nb cb (p2) bs 2 hb hnb (by omega)) (Pk.perm (by repeat (first | exact Pk.here | apply Pk.there))) rfl rfl (fun v Gp outs hle377 hh => ?_); obtain ⟨rfl, rfl, j377, rfl, hj377, hk377⟩ := hh; have hpk22 := hj377)
 replace hb := hb.mono hle377
 replace hrt := hrt.mono hle377
 refine sB (qE rfl rfl) rfl rfl (fun h378 => ?_) (fun h378 => ?_)
 refine D6 ?_
 refine H3 rfl ((A0B _)) rfl rfl ?_
 refine sQ (qM rfl) rfl ?_
 refine sP (P2 rfl rfl (by omega) (by omega)) rfl rfl ?_
 (have hkk3q := hkk3; obtain ⟨m, rfl⟩ := hfu.pos (.inl (by omega)); have hmB : mB (m + 1) = 3 * mB m + 200 := rfl; have hgm := A1u m; have hcall := ih m (by omega) (depth - 1) (.mk 2 []) (p2 + 1) _ pc nc cc _ (hfu.sub (by omega) (A2Z 4 (by decide) (by decide))) (by omega) (by omega) (by omega) hx (M7 _ ⟨by omega, by omega⟩) hb (by omega); refine I4 rfl hcall (Pk.perm (by repeat (first | exact Pk.here | apply Pk.there))) rfl rfl (fun v Gn outs hlen hh => ?_); obtain ⟨pn, hpn1, hpn2, rfl, en, cn, rfl, hrn, hsmn, hcn⟩ := hh; obtain ⟨n1, n2, n3, n4, n5, n6, n7, n8, n9, rfl⟩ := hrn.nine; replace hx := hx.mono hlen; replace hb := hb.mono hlen; replace hrt := hrt.mono hlen;)
 refine D7 ?_
 refine H3 rfl ((A0B _)) rfl rfl ?_
 refine sQ (qM rfl) rfl ?_
 refine sP (P2 rfl rfl (by omega) (by omega)) rfl rfl ?_
 (have hcall := ih m (by omega) (depth - 1) (.mk 2 []) pn _ pc nc cc _ (hfu.sub (by omega) (A2Z 4 (by decide) (by decide))) (by omega) (by omega) (by omega) hx (M7 _ ⟨by omega, by omega⟩) hb (by omega); refine I4 rfl hcall (Pk.perm (by repeat (first | exact Pk.here | apply Pk.there))) rfl rfl (fun v Gn outs hleo hh => ?_); obtain ⟨po, hpo1, hpo2, rfl, eo, co, rfl, hro, hsmo, hco⟩ := hh; obtain ⟨o1, o2, o3, o4, o5, o6, o7, o8, o9, rfl⟩ := hro.nine; replace hrn := hrn.mono hleo; replace hx := hx.mono hleo; replace hb := hb.mono hleo; replace hrt := hrt.mono hleo;)
 (refine I1 (C9 rfl rfl rfl (by omega) (by unfold maxLen; omega) rfl) rfl ?_; rintro _ ⟨b397, rfl⟩)
 refine H3 rfl ((A0C _ _ _ _ _)) rfl rfl ?_
 refine sS' ?_
 refine sD (nS ?_)
 (refine E9 (cs := [n1, n2, n3, n4, n5, n6, n7, n8, n9] ++ [o1, o2, o3, o4, o5, o6, o7, o8, o9]) (by repeat (first | exact Pk.here | apply Pk.there)) (fun G9 hle9 hsl9 hno9 => ?_); have hN := A34 (k := 8) (nm := ⟨⟨[]⟩⟩) ⟨by omega, by omega⟩ (hrn.mono hle9) (hro.mono hle9) hsl9)
 refine tT (rS (rB ?_))
 refine A0V ?_
 refine H7 (outs := [rd br pb nb cb po]) (rC rfl (A4 rfl rfl)) (by repeat (first | exact A0.nil | refine A0.cons Pk.here ?_ | refine A0.cons (Pk.there Pk.here) ?_ | refine A0.cons (Pk.there (Pk.there Pk.here)) ?_ | apply A0.drop)) ?_
 (exact ⟨po, by omega, by omega, rfl, _, _, rfl, hN, by first | exact O7 (by first | assumption | decide) | exact A0G (by decide) (by assumption) (by assumption) (by assumption) | exact T7 (by decide) (by assumption) (by assumption) | exact L4 (by decide) Q3 (by assumption) | exact L4 (by decide) har.small (by assumption) | exact L4 (by decide) Q3 (T7 (by decide) (by assumption) (O7 (by decide))) | exact L4 (by decide) A0H (O7 (by decide)) | assumption, by simp only [D0, E7]; omega⟩)
 refine K5 ?_
 refine A0V ?_
 refine H7 (outs := [rd br pb nb cb (p2 + 1)]) (rC rfl (A4 rfl rfl)) (by repeat (first | exact A0.nil | refine A0.cons Pk.here ?_ | refine A0.cons (Pk.there Pk.here) ?_ | refine A0.cons (Pk.there (Pk.there Pk.here)) ?_ | apply A0.drop)) ?_
 (exact ⟨(p2 + 1), by omega, by omega, rfl, _, _, rfl, A2e _ _ _ ⟨by omega, by omega⟩ (by first | exact ⟨by omega, by omega⟩ | exact hkn), by first | exact O7 (by first | assumption | decide) | exact A0G (by decide) (by assumption) (by assumption) (by assumption) | exact T7 (by decide) (by assumption) (by assumption) | exact L4 (by decide) Q3 (by assumption) | exact L4 (by decide) har.small (by assumption) | exact L4 (by decide) Q3 (T7 (by decide) (by assumption) (O7 (by decide))) | exact L4 (by decide) A0H (O7 (by decide)) | assumption, by simp only [D0, E7]; omega⟩)
 refine U4 ?_
 refine A0V ?_
 refine H7 (outs := [rd br pb nb cb p2]) (rC rfl (A4 rfl rfl)) (by repeat (first | exact A0.nil | refine A0.cons Pk.here ?_ | refine A0.cons (Pk.there Pk.here) ?_ | refine A0.cons (Pk.there (Pk.there Pk.here)) ?_ | apply A0.drop)) ?_
 (exact ⟨p2, by omega, by omega, rfl, _, _, rfl, A2e _ _ _ ⟨by omega, by omega⟩ (by first | exact ⟨by omega, by omega⟩ | exact hkn), by first | exact O7 (by first | assumption | decide) | exact A0G (by decide) (by assumption) (by assumption) (by assumption) | exact T7 (by decide) (by assumption) (by assumption) | exact L4 (by decide) Q3 (by assumption) | exact L4 (by decide) har.small (by assumption) | exact L4 (by decide) Q3 (T7 (by decide) (by assumption) (O7 (by decide))) | exact L4 (by decide) A0H (O7 (by decide)) | assumption, by simp only [D0, E7]; omega⟩)
 refine A7 ?_
 refine sB (qE rfl rfl) rfl rfl (fun h453 => ?_) (fun h453 => ?_)
 refine B0 ?_
 (have hk45 : k = 4 ∨ k = 5 := (by omega); have hl2 := hops hk45; obtain ⟨m, rfl⟩ := hfu.pos (.inr hk45); have hmB : mB (m + 1) = 3 * mB m + 200 := rfl; have hgm := A1u m; obtain ⟨es9, hsl, hkl⟩ := hrt.kidsM; obtain ⟨b0, o0, q0, d0, hp0, hat0, hre0, hg0⟩ := hsl.kidTy hkl (i := 0) (by omega) (by omega); obtain ⟨b1, o1, q1, d1, hp1, hat1, hre1, hg1⟩ := hsl.kidTy hkl (i := 1) (by omega) (by omega); cases hp0; cases hp1; have hmem0 := List.getElem_mem (l := ks) (n := 0) (by omega); have hmem1 := List.getElem_mem (l := ks) (n := 1) (by omega); refine E0 E1 rfl ?_)
 refine I8 (i := 0) (l' := [tt,ff,ff,ff,ff,ff,ff,ff,ff,ff,ff,ff,ff,ff]) rfl D2 (qM rfl) rfl (by kernel_rfl) rfl rfl ?_
 refine aP 1 rfl (qM rfl) rfl ?_
 refine aP 2 rfl (B7 rfl) rfl ?_
 refine aL 3 rfl (C7 rfl rfl) rfl ?_
 refine aP 4 rfl (B3 (j := 0) rfl rfl rfl (by omega)) rfl ?_
 refine aL 5 rfl (A2 rfl rfl (hat0 _) rfl) rfl ?_
 refine aP 6 rfl (B7 rfl) rfl ?_
 refine aL 7 rfl (C7 rfl rfl) rfl ?_
 refine aP 8 rfl (B3 (j := 1) rfl rfl rfl (by omega)) rfl ?_
 refine aL 9 rfl (A2 rfl rfl (hat1 _) rfl) rfl ?_
 refine aP 10 rfl (qM rfl) rfl ?_
 refine aP 11 rfl (P2 rfl rfl (by omega) (by omega)) rfl ?_
 refine A3 12 ?_
 (have hcall := A90 br pb nb cb bs hnb m (ih m (by omega)) (depth - 1) ks[0] ks[1] (p2) _ pc nc cc _ _ (hfu.kid hmem1) (by omega) (by omega) (by omega) hx hre0 ⟨har.kid _ hmem0, by have := B2J (k := k) hmem0; omega⟩ hre1 hb (by omega); refine Y6 (l' := [tt,tt,tt,tt,tt,tt,tt,tt,tt,tt,tt,tt,tt,ff]) rfl rfl hcall (Pk.perm (by repeat (first | exact Pk.here | apply Pk.there))) rfl rfl rfl (by repeat (first | exact B1.nil | apply B1.dep (by decide +kernel) | apply B1.im (by decide +kernel) hg0 (by repeat first | exact mH | apply mT) | apply B1.im (by decide +kernel) hg1 (by repeat first | exact mH | apply mT) | apply B1.blk (by decide +kernel) (by repeat (first | exact Pk.here | apply Pk.there)) (by repeat first | exact mH | apply mT))) (fun v Gn outs hlek hh => ?_); obtain ⟨pk, hpk1, hpk2, rfl, ek, ck, rfl, hrk, hsmk, hck⟩ := hh; obtain ⟨k1, k2, k3, k4, k5, k6, k7, k8, k9, rfl⟩ := hrk.nine; replace hx := hx.mono hlek; replace hb := hb.mono hlek; replace hrt := hrt.mono hlek;)
 refine A3 13 ?_
 refine R7 rfl rfl rfl rfl rfl hrk.one rfl rfl (by kernel_rfl) (by repeat first | exact Sw.here | apply Sw.there) (by rfl) ?_
 refine B6 ?_
 refine A0V ?_
 refine H7 (outs := [rd br pb nb cb pk]) (rC rfl (A4 rfl rfl)) (by repeat (first | exact A0.nil | refine A0.cons Pk.here ?_ | refine A0.cons (Pk.there Pk.here) ?_ | refine A0.cons (Pk.there (Pk.there Pk.here)) ?_ | apply A0.drop)) ?_
 (exact ⟨pk, by omega, by omega, rfl, _, _, rfl, hrk, hsmk, by omega⟩)
 refine A7 ?_
 refine sB (qE rfl rfl) rfl rfl (fun h489 => ?_) (fun h489 => ?_)
 refine B0 ?_
 (have hk45 : k = 4 ∨ k = 5 := (by omega); have hl2 := hops hk45; obtain ⟨m, rfl⟩ := hfu.pos (.inr hk45); have hmB : mB (m + 1) = 3 * mB m + 200 := rfl; have hgm := A1u m; obtain ⟨es9, hsl, hkl⟩ := hrt.kidsM; obtain ⟨b0, o0, q0, d0, hp0, hat0, hre0, hg0⟩ := hsl.kidTy hkl (i := 0) (by omega) (by omega); obtain ⟨b1, o1, q1, d1, hp1, hat1, hre1, hg1⟩ := hsl.kidTy hkl (i := 1) (by omega) (by omega); cases hp0; cases hp1; have hmem0 := List.getElem_mem (l := ks) (n := 0) (by omega); have hmem1 := List.getElem_mem (l := ks) (n := 1) (by omega); refine E0 E1 rfl ?_)
 refine I8 (i := 0) (l' := [tt,ff,ff,ff,ff,ff,ff,ff,ff,ff,ff,ff,ff,ff,ff,ff,ff,ff,ff,ff,ff]) rfl D2 (qM rfl) rfl (by kernel_rfl) rfl rfl ?_
 refine aP 1 rfl (qM rfl) rfl ?_
 refine aP 2 rfl (B7 rfl) rfl ?_
 refine aL 3 rfl (C7 rfl rfl) rfl ?_
 refine aP 4 rfl (B3 (j := 0) rfl rfl rfl (by omega)) rfl ?_
 refine aL 5 rfl (A2 rfl rfl (hat0 _) rfl) rfl ?_
 refine aP 6 rfl (qM rfl) rfl ?_
 refine aP 7 rfl (P2 rfl rfl (by omega) (by omega)) rfl ?_
 refine aP 9 rfl (qM rfl) rfl ?_
 refine aP 10 rfl (qM rfl) rfl ?_
 refine aP 11 rfl (B7 rfl) rfl ?_
 refine aL 12 rfl (C7 rfl rfl) rfl ?_
 refine aP 13 rfl (B3 (j := 1) rfl rfl rfl (by omega)) rfl ?_
 refine aL 14 rfl (A2 rfl rfl (hat1 _) rfl) rfl ?_
 refine aP 15 rfl (qM rfl) rfl ?_
 refine aP 16 rfl (P2 rfl rfl (by omega) (by omega)) rfl ?_
 refine A3 8 ?_
 (have hcall := ih m (by omega) (depth - 1) ks[0] p2 _ pc nc cc _ (hfu.kid hmem0) (by omega) (by omega) (by omega) hx hre0 hb (by omega); refine Y6 (l' := [tt,tt,tt,tt,tt,tt,tt,tt,tt,tt,tt,tt,tt,tt,tt,tt,tt,ff,ff,ff,ff]) rfl rfl hcall (Pk.perm (by repeat (first | exact Pk.here | apply Pk.there))) rfl rfl rfl (by repeat (first | exact B1.nil | apply B1.dep (by decide +kernel) | apply B1.im (by decide +kernel) hg0 (by repeat first | exact mH | apply mT) | apply B1.im (by decide +kernel) hg1 (by repeat first | exact mH | apply mT) | apply B1.blk (by decide +kernel) (by repeat (first | exact Pk.here | apply Pk.there)) (by repeat first | exact mH | apply mT))) (fun v Gn outs hles hh => ?_); obtain ⟨ps, hps1, hps2, rfl, es, cs, rfl, hrs, hsms, hcs⟩ := hh; obtain ⟨s1, s2, s3, s4, s5, s6, s7, s8, s9, rfl⟩ := hrs.nine; replace hre1 := hre1.mono hles; replace hx := hx.mono hles; replace hb := hb.mono hles; replace hrt := hrt.mono hles;)
 refine A3 17 ?_
 (have hcall := ih m (by omega) (depth - 1) ks[1] ps _ pc nc cc _ (hfu.kid hmem1) (by omega) (by omega) (by omega) hx hre1 hb (by omega); refine Y6 (l' := [tt,tt,tt,tt,tt,tt,tt,tt,tt,tt,tt,tt,tt,tt,tt,tt,tt,tt,ff,ff,ff]) rfl rfl hcall (Pk.perm (by repeat (first | exact Pk.here | apply Pk.there))) rfl rfl rfl (by repeat (first | exact B1.nil | apply B1.dep (by decide +kernel) | apply B1.im (by decide +kernel) hg0 (by repeat first | exact mH | apply mT) | apply B1.im (by decide +kernel) hg1 (by repeat first | exact mH | apply mT) | apply B1.blk (by decide +kernel) (by repeat (first | exact Pk.here | apply Pk.there)) (by repeat first | exact mH | apply mT))) (fun v Gn outs hlew hh => ?_); obtain ⟨pw, hpw1, hpw2, rfl, ew, cw, rfl, hrw, hsmw, hcw⟩ := hh; obtain ⟨w1, w2, w3, w4, w5, w6, w7, w8, w9, rfl⟩ := hrw.nine; replace hrs := hrs.mono hlew; replace hx := hx.mono hlew; replace hb := hb.mono hlew; replace hrt := hrt.mono hlew;)
 refine A3 18 ?_
 (refine E6 rfl (C9 rfl rfl rfl (by omega) (by unfold maxLen; omega) rfl) rfl rfl ?_; rintro _ ⟨b517, rfl⟩)
 refine A3 19 ?_
 refine O2 rfl rfl ((A0C _ _ _ _ _)) rfl rfl rfl ?_
 refine A3 20 ?_
 refine R7 rfl rfl rfl rfl rfl rfl rfl rfl (by decide +kernel) (by repeat first | exact Sw.here | apply Sw.there) (by rfl) ?_
 refine E8 (nS ?_)
 (refine E9 (cs := [s1, s2, s3, s4, s5, s6, s7, s8, s9] ++ [w1, w2, w3, w4, w5, w6, w7, w8, w9]) (by repeat (first | exact Pk.here | apply Pk.there)) (fun G9 hle9 hsl9 hno9 => ?_); have hN := A34 (k := 10) (nm := ⟨⟨[]⟩⟩) ⟨by omega, by omega⟩ (hrs.mono hle9) (hrw.mono hle9) hsl9)
 refine tT (rB ?_)
 refine A0V ?_
 refine H7 (outs := [rd br pb nb cb pw]) (rC rfl (A4 rfl rfl)) (by repeat (first | exact A0.nil | refine A0.cons Pk.here ?_ | refine A0.cons (Pk.there Pk.here) ?_ | refine A0.cons (Pk.there (Pk.there Pk.here)) ?_ | apply A0.drop)) ?_
 (exact ⟨pw, by omega, by omega, rfl, _, _, rfl, hN, by first | exact O7 (by first | assumption | decide) | exact A0G (by decide) (by assumption) (by assumption) (by assumption) | exact T7 (by decide) (by assumption) (by assumption) | exact L4 (by decide) Q3 (by assumption) | exact L4 (by decide) har.small (by assumption) | exact L4 (by decide) Q3 (T7 (by decide) (by assumption) (O7 (by decide))) | exact L4 (by decide) A0H (O7 (by decide)) | assumption, by simp only [D0, E7]; omega⟩)
 refine A7 ?_
 refine sB (qE rfl rfl) rfl rfl (fun h536 => ?_) (fun h536 => ?_)
 refine D6 ?_
 refine sB (X2 rfl rfl) rfl rfl (fun h545 => ?_) (fun h545 => ?_)
 refine D7 ?_
 (have hkk1 : k = 1 := (by omega); refine I4 rfl (Y3 _ br pb nb cb (p2) bs 3 hb hnb (by omega)) (Pk.perm (by repeat (first | exact Pk.here | apply Pk.there))) rfl rfl (fun v Gp outs hle548 hh => ?_); obtain ⟨rfl, rfl, j548, rfl, hj548, hk548⟩ := hh; have hpk23 := hj548)
 replace hb := hb.mono hle548
 replace hrt := hrt.mono hle548
 refine sB (qE rfl rfl) rfl rfl (fun h549 => ?_) (fun h549 => ?_)
 refine E4 ?_
 (have hcall := A22 br pb nb cb bs hnb 1 (p2 + 1) _ (by omega) hb (by have : dB (1 + 1) ≤ 6 := (by decide); omega); refine I4 rfl hcall (Pk.perm (by repeat (first | exact Pk.here | apply Pk.there))) rfl rfl (fun v Gn outs hleF hh => ?_); obtain ⟨pF, hpF1, hpF2, rfl, uF, cuF, rfl, hruF, husF, huhF⟩ := hh; have huaF := huhF.ar; obtain ⟨quF, duF, euF, rfl, _⟩ := hruF.open; have hdBF : dB (1 + 1) ≤ 6 := (by decide); replace hx := hx.mono hleF; replace hb := hb.mono hleF; replace hrt := hrt.mono hleF;)
 refine sQ (qM rfl) rfl ?_
 refine sP (P2 rfl rfl (by omega) (by omega)) rfl rfl ?_
 (obtain ⟨m, rfl⟩ := hfu.pos (.inl (by omega)); have hmB : mB (m + 1) = 3 * mB m + 200 := rfl; have hgm := A1u m; have hcall := ih m (by omega) (depth - 1) uF pF _ pc nc cc _ (hfu.sub (by omega) (huhF.le (by omega))) (by omega) (by omega) (by omega) hx hruF hb (by omega); refine I4 rfl hcall (Pk.perm (by repeat (first | exact Pk.here | apply Pk.there))) rfl rfl (fun v Gn outs hlex hh => ?_); obtain ⟨px, hpx1, hpx2, rfl, ex, cx, rfl, hrx, hsmx, hcx⟩ := hh; obtain ⟨x1, x2, x3, x4, x5, x6, x7, x8, x9, rfl⟩ := hrx.nine; replace hx := hx.mono hlex; replace hb := hb.mono hlex; replace hrt := hrt.mono hlex;)
 refine sS rfl rfl rfl rfl hrx.one rfl ?_
 refine B0 ?_
 refine A0V ?_
 refine H7 (outs := [rd br pb nb cb px]) (rC rfl (A4 rfl rfl)) (by repeat (first | exact A0.nil | refine A0.cons Pk.here ?_ | refine A0.cons (Pk.there Pk.here) ?_ | refine A0.cons (Pk.there (Pk.there Pk.here)) ?_ | apply A0.drop)) ?_
 (exact ⟨px, by omega, by omega, rfl, _, _, rfl, hrx, hsmx, by omega⟩)
 refine E4 ?_
 (refine I4 rfl (Y3 _ br pb nb cb (p2 + 1) bs 3 hb hnb (by omega)) (Pk.perm (by repeat (first | exact Pk.here | apply Pk.there))) rfl rfl (fun v Gp outs hle581 hh => ?_); obtain ⟨rfl, rfl, j581, rfl, hj581, hk581⟩ := hh; have hpk21 := hj581)
 replace hb := hb.mono hle581
 replace hrt := hrt.mono hle581
 refine sB (qE rfl rfl) rfl rfl (fun h582 => ?_) (fun h582 => ?_)
 refine B0 ?_
 refine H3 rfl ((A1m _)) rfl rfl ?_
 refine P3 ?_
 (refine I1 (C9 rfl rfl rfl (by omega) (by unfold maxLen; omega) rfl) rfl ?_; rintro _ ⟨b590, rfl⟩)
 refine B6 ?_
 (refine E9 (cs := [.int .i64 4, .string ⟨⟨[]⟩⟩, .int .i64 0, .int .i64 0, .slice none 0 0, .int .i64 0, .slice none 0 0, .int .i64 0, .slice none 0 0]) (by repeat (first | exact Pk.here | apply Pk.there)) (fun G9 hle9 hsl9 hno9 => ?_); have hN := A33 (k := 13) (nm := ⟨⟨[]⟩⟩) ⟨by omega, by omega⟩ (A0M _) (A2e G9 ⟨⟨[]⟩⟩ 0 (k := 4) ⟨by omega, by omega⟩ ⟨by omega, by omega⟩) hsl9)
 refine tT (rB ?_)
 refine A0V ?_
 refine H7 (outs := [rd br pb nb cb (p2 + 1 + 1)]) (rC rfl (A4 rfl rfl)) (by repeat (first | exact A0.nil | refine A0.cons Pk.here ?_ | refine A0.cons (Pk.there Pk.here) ?_ | refine A0.cons (Pk.there (Pk.there Pk.here)) ?_ | apply A0.drop)) ?_
 (exact ⟨(p2 + 1 + 1), by omega, by omega, rfl, _, _, rfl, hN, by first | exact O7 (by first | assumption | decide) | exact A0G (by decide) (by assumption) (by assumption) (by assumption) | exact T7 (by decide) (by assumption) (by assumption) | exact L4 (by decide) Q3 (by assumption) | exact L4 (by decide) har.small (by assumption) | exact L4 (by decide) Q3 (T7 (by decide) (by assumption) (O7 (by decide))) | exact L4 (by decide) A0H (O7 (by decide)) | assumption, by simp only [D0, E7]; omega⟩)
 refine B0 ?_
 refine A36 (p2 + 1 + 1, Gp) (J8 (by repeat (first | exact D4.nil | refine D4.cons rfl ?_)) (by repeat (first | exact A0.refl | exact A0.nil | refine A0.cons (by repeat (first | exact Pk.here | apply Pk.there)) ?_ | apply A0.drop))) ⟨B9.refl _, by dsimp only; omega, by dsimp only; omega⟩
 refine K3 ?_
 (have hkk1 : k = 1 := (by omega); refine I4 rfl (Y3 _ br pb nb cb (p2) bs 3 hb hnb (by omega)) (Pk.perm (by repeat (first | exact Pk.here | apply Pk.there))) rfl rfl (fun v Gp outs hle620 hh => ?_); obtain ⟨rfl, rfl, j620, rfl, hj620, hk620⟩ := hh; have hpk23 := hj620)
 replace hb := hb.mono hle620
 replace hrt := hrt.mono hle620
 refine sB (qE rfl rfl) rfl rfl (fun h621 => ?_) (fun h621 => ?_)
 refine B0 ?_
 refine H3 rfl ((A1m _)) rfl rfl ?_
 refine P3 ?_
 (refine I1 (C9 rfl rfl rfl (by omega) (by unfold maxLen; omega) rfl) rfl ?_; rintro _ ⟨b629, rfl⟩)
 refine B6 ?_
 (refine E9 (cs := [.int .i64 4, .string ⟨⟨[]⟩⟩, .int .i64 0, .int .i64 0, .slice none 0 0, .int .i64 0, .slice none 0 0, .int .i64 0, .slice none 0 0]) (by repeat (first | exact Pk.here | apply Pk.there)) (fun G9 hle9 hsl9 hno9 => ?_); have hN := A33 (k := 13) (nm := ⟨⟨[]⟩⟩) ⟨by omega, by omega⟩ (A0M _) (A2e G9 ⟨⟨[]⟩⟩ 0 (k := 4) ⟨by omega, by omega⟩ ⟨by omega, by omega⟩) hsl9)
 refine tT (rB ?_)
 refine A0V ?_
 refine H7 (outs := [rd br pb nb cb (p2 + 1)]) (rC rfl (A4 rfl rfl)) (by repeat (first | exact A0.nil | refine A0.cons Pk.here ?_ | refine A0.cons (Pk.there Pk.here) ?_ | refine A0.cons (Pk.there (Pk.there Pk.here)) ?_ | apply A0.drop)) ?_
 (exact ⟨(p2 + 1), by omega, by omega, rfl, _, _, rfl, hN, by first | exact O7 (by first | assumption | decide) | exact A0G (by decide) (by assumption) (by assumption) (by assumption) | exact T7 (by decide) (by assumption) (by assumption) | exact L4 (by decide) Q3 (by assumption) | exact L4 (by decide) har.small (by assumption) | exact L4 (by decide) Q3 (T7 (by decide) (by assumption) (O7 (by decide))) | exact L4 (by decide) A0H (O7 (by decide)) | assumption, by simp only [D0, E7]; omega⟩)
 refine B0 ?_
 refine A36 (p2 + 1, Gp) (J8 (by repeat (first | exact D4.nil | refine D4.cons rfl ?_)) (by repeat (first | exact A0.refl | exact A0.nil | refine A0.cons (by repeat (first | exact Pk.here | apply Pk.there)) ?_ | apply A0.drop))) ⟨B9.refl _, by dsimp only; omega, by dsimp only; omega⟩
 refine A7 ?_
 refine A36 (p2, G2) (J8 (by repeat (first | exact D4.nil | refine D4.cons rfl ?_)) (by repeat (first | exact A0.refl | exact A0.nil | refine A0.cons (by repeat (first | exact Pk.here | apply Pk.there)) ?_ | apply A0.drop))) ⟨B9.refl _, by dsimp only; omega, by dsimp only; omega⟩
 (have hq := hcut1; rintro ⟨(p5 : Nat), G5⟩ ⟨hle5c, hp5a, hp5b⟩; simp only [] at hle5c hp5a hp5b ⊢; have hcut2 := hp5a; replace hx := hx.mono hle5c; replace hb := hb.mono hle5c; replace hrt := hrt.mono hle5c;)
 refine B6 ?_
 refine sB (X2 rfl rfl) rfl rfl (fun h658 => ?_) (fun h658 => ?_)
 refine D7 ?_
 (refine I4 rfl (Y3 _ br pb nb cb (p5) bs 2 hb hnb (by omega)) (Pk.perm (by repeat (first | exact Pk.here | apply Pk.there))) rfl rfl (fun v Gp outs hle661 hh => ?_); obtain ⟨rfl, rfl, j661, rfl, hj661, hk661⟩ := hh; have hpk5 := hj661)
 replace hb := hb.mono hle661
 replace hrt := hrt.mono hle661
 refine sB (qE rfl rfl) rfl rfl (fun h662 => ?_) (fun h662 => ?_)
 refine E4 ?_
 refine H3 rfl ((A0B _)) rfl rfl ?_
 (have hz2 : J7 (.mk 2 []) = 0 := rfl; have hcall := A6b br pb nb cb bs hnb (.mk 2 []) (p5 + 1) _ _ (U3 (by decide) (by decide)) (M7 _ ⟨by omega, by omega⟩) hb (by omega); refine I4 rfl hcall (Pk.perm (by repeat (first | exact Pk.here | apply Pk.there))) rfl rfl (fun v Gn outs hleG hh => ?_); obtain ⟨pG, hpG1, hpG2, rfl, uG, cuG, rfl, hruG, huaG, husG, huhG⟩ := hh; obtain ⟨quG, duG, euG, rfl, _⟩ := hruG.open; replace hx := hx.mono hleG; replace hb := hb.mono hleG; replace hrt := hrt.mono hleG;)
 refine sQ (qM rfl) rfl ?_
 refine sP (P2 rfl rfl (by omega) (by omega)) rfl rfl ?_
 (obtain ⟨m, rfl⟩ := hfu.pos (.inl (by omega)); have hmB : mB (m + 1) = 3 * mB m + 200 := rfl; have hgm := A1u m; have hcall := ih m (by omega) (depth - 1) uG pG _ pc nc cc _ (hfu.sub (by omega) (huhG 4 (A2Z 4 (by decide) (by decide)))) (by omega) (by omega) (by omega) hx hruG hb (by omega); refine I4 rfl hcall (Pk.perm (by repeat (first | exact Pk.here | apply Pk.there))) rfl rfl (fun v Gn outs hley hh => ?_); obtain ⟨py, hpy1, hpy2, rfl, ey, cy, rfl, hry, hsmy, hcy⟩ := hh; obtain ⟨y1, y2, y3, y4, y5, y6, y7, y8, y9, rfl⟩ := hry.nine; replace hx := hx.mono hley; replace hb := hb.mono hley; replace hrt := hrt.mono hley;)
 refine D7 ?_
 refine H3 rfl ((A0B _)) rfl rfl ?_
 refine sQ (qM rfl) rfl ?_
 refine sP (P2 rfl rfl (by omega) (by omega)) rfl rfl ?_
 (have hcall := ih m (by omega) (depth - 1) (.mk 2 []) py _ pc nc cc _ (hfu.sub (by omega) (A2Z 4 (by decide) (by decide))) (by omega) (by omega) (by omega) hx (M7 _ ⟨by omega, by omega⟩) hb (by omega); refine I4 rfl hcall (Pk.perm (by repeat (first | exact Pk.here | apply Pk.there))) rfl rfl (fun v Gn outs hlec hh => ?_); obtain ⟨pc, hpc1, hpc2, rfl, ec, cc, rfl, hrc, hsmc, hcc⟩ := hh; obtain ⟨c1, c2, c3, c4, c5, c6, c7, c8, c9, rfl⟩ := hrc.nine; replace hry := hry.mono hlec; replace hx := hx.mono hlec; replace hb := hb.mono hlec; replace hrt := hrt.mono hlec;)
 (refine I1 (C9 rfl rfl rfl (by omega) (by unfold maxLen; omega) rfl) rfl ?_; rintro _ ⟨b683, rfl⟩)
 refine H3 rfl ((A0C _ _ _ _ _)) rfl rfl ?_
 refine sS' ?_
 refine sD (nS ?_)
 (refine E9 (cs := [y1, y2, y3, y4, y5, y6, y7, y8, y9] ++ [c1, c2, c3, c4, c5, c6, c7, c8, c9]) (by repeat (first | exact Pk.here | apply Pk.there)) (fun G9 hle9 hsl9 hno9 => ?_); have hN := A34 (k := 7) (nm := ⟨⟨[]⟩⟩) ⟨by omega, by omega⟩ (hry.mono hle9) (hrc.mono hle9) hsl9)
 refine tT (rS ?_)
 refine H7 (outs := [rd br pb nb cb pc]) (rC rfl (A4 rfl rfl)) (by repeat (first | exact A0.nil | refine A0.cons Pk.here ?_ | refine A0.cons (Pk.there Pk.here) ?_ | refine A0.cons (Pk.there (Pk.there Pk.here)) ?_ | apply A0.drop)) ?_
 (exact ⟨pc, by omega, by omega, rfl, _, _, rfl, hN, by first | exact O7 (by first | assumption | decide) | exact A0G (by decide) (by assumption) (by assumption) (by assumption) | exact T7 (by decide) (by assumption) (by assumption) | exact L4 (by decide) Q3 (by assumption) | exact L4 (by decide) har.small (by assumption) | exact L4 (by decide) Q3 (T7 (by decide) (by assumption) (O7 (by decide))) | exact L4 (by decide) A0H (O7 (by decide)) | assumption, by simp only [D0, E7]; omega⟩)
 refine E4 ?_
 (refine I1 (C9 rfl rfl rfl (by omega) (by unfold maxLen; omega) rfl) rfl ?_; rintro _ ⟨b702, rfl⟩)
 (refine R6 (by repeat (first | exact Pk.here | apply Pk.there)) (fun G4 hle4 hsl4 _ => ?_); refine I4 rfl (Y7 G4 br pb nb cb (p5 + 1) bs _ _ _ _ (hb.mono hle4) hnb (by omega) hsl4 (by decide)) (Pk.perm (by repeat (first | exact Pk.here | apply Pk.there))) rfl rfl (fun v G7 outs hle7 hh => ?_); obtain ⟨rfl, rfl, hv⟩ := hh; obtain ⟨kn, rfl, hkn⟩ : ∃ k, v = .int .i64 k ∧ F8 k := (by simp only [List.mem_cons, List.not_mem_nil, or_false] at hv; rcases hv with rfl | rfl | rfl | rfl | rfl <;> exact ⟨_, rfl, by unfold F8; omega⟩))
 refine H3 rfl ((A13 _ _)) rfl rfl ?_
 refine B6 ?_
 refine H7 (outs := [rd br pb nb cb (p5 + 1 + 1)]) (rC rfl (A4 rfl rfl)) (by repeat (first | exact A0.nil | refine A0.cons Pk.here ?_ | refine A0.cons (Pk.there Pk.here) ?_ | refine A0.cons (Pk.there (Pk.there Pk.here)) ?_ | apply A0.drop)) ?_
 (exact ⟨(p5 + 1 + 1), by omega, by omega, rfl, _, _, rfl, A2e _ _ _ ⟨by omega, by omega⟩ (by first | exact ⟨by omega, by omega⟩ | exact hkn), by first | exact O7 (by first | assumption | decide) | exact A0G (by decide) (by assumption) (by assumption) (by assumption) | exact T7 (by decide) (by assumption) (by assumption) | exact L4 (by decide) Q3 (by assumption) | exact L4 (by decide) har.small (by assumption) | exact L4 (by decide) Q3 (T7 (by decide) (by assumption) (O7 (by decide))) | exact L4 (by decide) A0H (O7 (by decide)) | assumption, by simp only [D0, E7]; omega⟩)
 refine K3 ?_
 (refine I1 (C9 rfl rfl rfl (by omega) (by unfold maxLen; omega) rfl) rfl ?_; rintro _ ⟨b724, rfl⟩)
 (refine R6 (by repeat (first | exact Pk.here | apply Pk.there)) (fun G4 hle4 hsl4 _ => ?_); refine I4 rfl (Y7 G4 br pb nb cb p5 bs _ _ _ _ (hb.mono hle4) hnb (by omega) hsl4 (by decide)) (Pk.perm (by repeat (first | exact Pk.here | apply Pk.there))) rfl rfl (fun v G7 outs hle7 hh => ?_); obtain ⟨rfl, rfl, hv⟩ := hh; obtain ⟨kn, rfl, hkn⟩ : ∃ k, v = .int .i64 k ∧ F8 k := (by simp only [List.mem_cons, List.not_mem_nil, or_false] at hv; rcases hv with rfl | rfl | rfl | rfl | rfl <;> exact ⟨_, rfl, by unfold F8; omega⟩))
 refine H3 rfl ((A13 _ _)) rfl rfl ?_
 refine B6 ?_
 refine H7 (outs := [rd br pb nb cb (p5 + 1)]) (rC rfl (A4 rfl rfl)) (by repeat (first | exact A0.nil | refine A0.cons Pk.here ?_ | refine A0.cons (Pk.there Pk.here) ?_ | refine A0.cons (Pk.there (Pk.there Pk.here)) ?_ | apply A0.drop)) ?_
 (exact ⟨(p5 + 1), by omega, by omega, rfl, _, _, rfl, A2e _ _ _ ⟨by omega, by omega⟩ (by first | exact ⟨by omega, by omega⟩ | exact hkn), by first | exact O7 (by first | assumption | decide) | exact A0G (by decide) (by assumption) (by assumption) (by assumption) | exact T7 (by decide) (by assumption) (by assumption) | exact L4 (by decide) Q3 (by assumption) | exact L4 (by decide) har.small (by assumption) | exact L4 (by decide) Q3 (T7 (by decide) (by assumption) (O7 (by decide))) | exact L4 (by decide) A0H (O7 (by decide)) | assumption, by simp only [D0, E7]; omega⟩)
def P6 (o : Option Ty) (G : IM) : IM → Value → List A5 → Prop := J4 fun G' v => ∃ t cells, v = .tuple ⟨[.agg ⟨cells⟩, .bool o.isSome]⟩ ∧ C1 G' t cells ∧ F4 t ∧ ∀ u, o = some u → u = t
theorem P6.yes {G G' : IM} {o : Option Ty} {t : Ty} {cells : List Value} (h : o = some t) (hr : C1 G' t cells) (ha : F4 t) : P6 o G G' (.tuple ⟨[.agg ⟨cells⟩, .bool true]⟩) [] := by
 subst h; exact ⟨rfl, t, cells, rfl, hr, ha, fun u h => (by cases h; rfl)⟩
theorem P6.no {G G' : IM} {o : Option Ty} {t : Ty} {cells : List Value} (h : o = none) (hr : C1 G' t cells) (ha : F4 t) : P6 o G G' (.tuple ⟨[.agg ⟨cells⟩, .bool false]⟩) [] := by
 subst h; exact ⟨rfl, t, cells, rfl, hr, ha, fun u h => (by cases h)⟩
theorem P6.mk {G G' : IM} {o : Option Ty} {b : Bool} {t : Ty} {cells : List Value} (h : o = if b = true then some t else none) (hr : C1 G' t cells) (ha : F4 t) : P6 o G G' (.tuple ⟨[.agg ⟨cells⟩, .bool b]⟩) [] := by
 cases b
 ·exact P6.no h hr ha
 ·exact P6.yes h hr ha
theorem A6N {t : Ty} (h : F9 t = true) : F4 t := (A26 h).1
theorem A2L (k : Int) (a b : Ty) (G : IM) (ca cb : List Value) (hk : k = 4 ∨ k = 5) (ha : F4 a) (hb : F4 b) (hra : C1 G a ca) (hrb : C1 G b cb) :
  Fn Tryz.prog 200 [.int .i64 k, .agg ⟨ca⟩, .agg ⟨cb⟩] [] G (J4 fun G' v => ∃ cells, v = .tuple ⟨[.agg ⟨cells⟩, .bool (F9 (.mk k [a, b]))]⟩ ∧ C1 G' (.mk k [a, b]) cells) := by
 obtain ⟨ak, aks⟩ := a
 obtain ⟨bk, bks⟩ := b
 obtain ⟨pa, cca, ea, rfl, _⟩ := hra.open
 obtain ⟨pb, ccb, eb, rfl, _⟩ := hrb.open
 have hki : F8 k := ⟨by omega, by omega⟩
 refine C0 Tryz.func200 rfl Tryz.ntmps200 Tryz.results200 rfl ?_
 intro w0
 refine tS (tR ?_)
 refine sE (C5 rfl rfl) rfl (fun b3 => ?_)
 refine sE (C5 rfl rfl) rfl (fun b4 => ?_)
 refine sE (A6 rfl) rfl (fun b5 => ?_)
 refine B6 ?_
 refine E0 E1 rfl ?_
 refine I8 (i := 0) (l' := [tt,ff,ff,ff,ff,ff,ff,ff,ff]) rfl D2 (qM rfl) rfl (by kernel_rfl) rfl rfl ?_
 refine aL 1 rfl (A4 rfl rfl) rfl ?_
 refine aL 3 rfl (A4 rfl rfl) rfl ?_
 refine R2 (j := 2) (j' := 7) (by kernel_rfl) ?_ ?_
 (refine H1 rfl rfl (P9 _ G _ ha.small hra) rfl rfl rfl (fun v G1 hle1 hh => ?_); obtain ⟨cs1, F1, rfl, hs1, hn1⟩ := hh; obtain ⟨p1, c1, rfl, _⟩ := hs1.open; have hC2 := P9 _ G1 _ hb.small (hrb.mono hle1))
 refine R2 (j := 4) (j' := 7) (by kernel_rfl) ?_ ?_
 (refine H1 rfl rfl hC2 rfl rfl rfl (fun v G2 hle2 hh => ?_); obtain ⟨cs2, F2, rfl, hs2, hn2⟩ := hh; obtain ⟨p2, c2, rfl, _⟩ := hs2.open; have hr1 := hs1.R.mono ((C4.le G1 G).trans hle2); have hr2 := hs2.R.mono (C4.le G2 G1))
 refine R2 (j := 5) (j' := 7) (by kernel_rfl) ?_ ?_
 (refine E6 rfl (C9 rfl rfl rfl (by omega) (by unfold maxLen; omega) rfl) rfl rfl ?_; rintro _ ⟨b19, rfl⟩)
 refine aP 6 rfl (W4 rfl rfl) rfl ?_
 refine A3 7 ?_
 (refine E6 rfl (A6 rfl) rfl rfl ?_; rintro _ ⟨b22, rfl⟩)
 refine A3 8 ?_
 refine H8 rfl ?_
 refine E8 (nS (tS ?_))
 (have hr1' := hr1; refine A1X (by repeat (first | exact Pk.here | apply Pk.there)) (fun G5 hle5 hsl5 hno5 => ?_); have hRT : C1 G5 (.mk k [.mk ak aks, .mk bk bks]) _ := C8.ty (ts := [.mk ak aks, .mk bk bks]) (es := [[.int .i64 ak, .slice p1 aks.length c1], [.int .i64 bk, .slice p2 bks.length c2]]) ⟨_, _, rfl, hr1.mono hle5, _, _, rfl, hr2.mono hle5, rfl⟩ rfl hsl5 hki; have hV := A1J _ G5 _ hRT; refine E0 E1 rfl ?_)
 refine L7 (i := 0) (l' := [tt,ff,ff,ff,ff]) rfl D2 (A4 rfl rfl) rfl (by kernel_rfl) rfl rfl ?_
 refine aL 1 rfl (A4 rfl rfl) rfl ?_
 refine A3 2 ?_
 refine O2 rfl rfl (hV) rfl rfl rfl ?_
 refine A3 3 ?_
 refine H8 rfl ?_
 refine aP 4 rfl (qA rfl) rfl ?_
 refine E8 (nS (tT ?_))
 refine F0 (rC rfl (A4 rfl rfl)) (rT rfl) ?_
 (exact ⟨rfl, _, rfl, hRT⟩)
 (refine E6 rfl (A6 rfl) rfl rfl ?_; rintro _ ⟨b41, rfl⟩)
 refine A3 5 ?_
 (refine E6 rfl (C9 rfl rfl rfl (by omega) (by unfold maxLen; omega) rfl) rfl rfl ?_; rintro _ ⟨b43, rfl⟩)
 refine aP 6 rfl (W4 rfl rfl) rfl ?_
 refine A3 8 ?_
 refine H8 rfl ?_
 refine E8 (nS (tS ?_))
 (have hr1' := hr1; refine A1X (by repeat (first | exact Pk.here | apply Pk.there)) (fun G5 hle5 hsl5 hno5 => ?_); have hRT : C1 G5 (.mk k [.mk ak aks, .mk bk bks]) _ := C8.ty (ts := [.mk ak aks, .mk bk bks]) (es := [[.int .i64 ak, .slice p1 aks.length c1], [.int .i64 bk, .slice p2 bks.length c2]]) ⟨_, _, rfl, hr1.mono hle5, _, _, rfl, hr2.mono hle5, rfl⟩ rfl hsl5 hki; have hV := A1J _ G5 _ hRT; refine E0 E1 rfl ?_)
 refine L7 (i := 0) (l' := [tt,ff,ff,ff,ff]) rfl D2 (A4 rfl rfl) rfl (by kernel_rfl) rfl rfl ?_
 refine aL 1 rfl (A4 rfl rfl) rfl ?_
 refine A3 2 ?_
 refine O2 rfl rfl (hV) rfl rfl rfl ?_
 refine A3 3 ?_
 refine H8 rfl ?_
 refine aP 4 rfl (qA rfl) rfl ?_
 refine E8 (nS (tT ?_))
 refine F0 (rC rfl (A4 rfl rfl)) (rT rfl) ?_
 (exact ⟨rfl, _, rfl, hRT⟩)
 (refine E6 rfl (A6 rfl) rfl rfl ?_; rintro _ ⟨b63, rfl⟩)
 refine A3 4 ?_
 (refine H1 rfl rfl hC2 rfl rfl rfl (fun v G2 hle2 hh => ?_); obtain ⟨cs2, F2, rfl, hs2, hn2⟩ := hh; obtain ⟨p2, c2, rfl, _⟩ := hs2.open; have hr1 := hs1.R.mono ((C4.le G1 G).trans hle2); have hr2 := hs2.R.mono (C4.le G2 G1))
 refine A3 5 ?_
 (refine E6 rfl (C9 rfl rfl rfl (by omega) (by unfold maxLen; omega) rfl) rfl rfl ?_; rintro _ ⟨b67, rfl⟩)
 refine aP 6 rfl (W4 rfl rfl) rfl ?_
 refine A3 8 ?_
 refine H8 rfl ?_
 refine E8 (nS (tS ?_))
 (have hr1' := hr1; refine A1X (by repeat (first | exact Pk.here | apply Pk.there)) (fun G5 hle5 hsl5 hno5 => ?_); have hRT : C1 G5 (.mk k [.mk ak aks, .mk bk bks]) _ := C8.ty (ts := [.mk ak aks, .mk bk bks]) (es := [[.int .i64 ak, .slice p1 aks.length c1], [.int .i64 bk, .slice p2 bks.length c2]]) ⟨_, _, rfl, hr1.mono hle5, _, _, rfl, hr2.mono hle5, rfl⟩ rfl hsl5 hki; have hV := A1J _ G5 _ hRT; refine E0 E1 rfl ?_)
 refine L7 (i := 0) (l' := [tt,ff,ff,ff,ff]) rfl D2 (A4 rfl rfl) rfl (by kernel_rfl) rfl rfl ?_
 refine aL 1 rfl (A4 rfl rfl) rfl ?_
 refine A3 2 ?_
 refine O2 rfl rfl (hV) rfl rfl rfl ?_
 refine A3 3 ?_
 refine H8 rfl ?_
 refine aP 4 rfl (qA rfl) rfl ?_
 refine E8 (nS (tT ?_))
 refine F0 (rC rfl (A4 rfl rfl)) (rT rfl) ?_
 (exact ⟨rfl, _, rfl, hRT⟩)
 (refine E6 rfl (A6 rfl) rfl rfl ?_; rintro _ ⟨b87, rfl⟩)
 refine A3 2 ?_
 (refine H1 rfl rfl (P9 _ G _ ha.small hra) rfl rfl rfl (fun v G1 hle1 hh => ?_); obtain ⟨cs1, F1, rfl, hs1, hn1⟩ := hh; obtain ⟨p1, c1, rfl, _⟩ := hs1.open; have hC2 := P9 _ G1 _ hb.small (hrb.mono hle1))
 refine A3 4 ?_
 (refine H1 rfl rfl hC2 rfl rfl rfl (fun v G2 hle2 hh => ?_); obtain ⟨cs2, F2, rfl, hs2, hn2⟩ := hh; obtain ⟨p2, c2, rfl, _⟩ := hs2.open; have hr1 := hs1.R.mono ((C4.le G1 G).trans hle2); have hr2 := hs2.R.mono (C4.le G2 G1))
 refine A3 5 ?_
 (refine E6 rfl (C9 rfl rfl rfl (by omega) (by unfold maxLen; omega) rfl) rfl rfl ?_; rintro _ ⟨b93, rfl⟩)
 refine aP 6 rfl (W4 rfl rfl) rfl ?_
 refine A3 8 ?_
 refine H8 rfl ?_
 refine E8 (nS (tS ?_))
 (have hr1' := hr1; refine A1X (by repeat (first | exact Pk.here | apply Pk.there)) (fun G5 hle5 hsl5 hno5 => ?_); have hRT : C1 G5 (.mk k [.mk ak aks, .mk bk bks]) _ := C8.ty (ts := [.mk ak aks, .mk bk bks]) (es := [[.int .i64 ak, .slice p1 aks.length c1], [.int .i64 bk, .slice p2 bks.length c2]]) ⟨_, _, rfl, hr1.mono hle5, _, _, rfl, hr2.mono hle5, rfl⟩ rfl hsl5 hki; have hV := A1J _ G5 _ hRT; refine E0 E1 rfl ?_)
 refine L7 (i := 0) (l' := [tt,ff,ff,ff,ff]) rfl D2 (A4 rfl rfl) rfl (by kernel_rfl) rfl rfl ?_
 refine aL 1 rfl (A4 rfl rfl) rfl ?_
 refine A3 2 ?_
 refine O2 rfl rfl (hV) rfl rfl rfl ?_
 refine A3 3 ?_
 refine H8 rfl ?_
 refine aP 4 rfl (qA rfl) rfl ?_
 refine E8 (nS (tT ?_))
 refine F0 (rC rfl (A4 rfl rfl)) (rT rfl) ?_
 (exact ⟨rfl, _, rfl, hRT⟩)
theorem A3k (k : Int) (t : Ty) (G : IM) (cells : List Value) (hk : k = 4 ∨ k = 5) (ha : F4 t) (hr : C1 G t cells) :
  Fn Tryz.prog 202 [.int .i64 k, .agg ⟨cells⟩] [] G (A8Q k t G) := by
 obtain ⟨tk, ks⟩ := t
 have ha2 := ha
 rw [F4] at ha2
 have hkid := ha.kid
 obtain ⟨p, c, es, rfl, htk, hsl, hkl⟩ := hr.open
 simp only [Ty.k, Ty.ks] at htk hsl hkl ⊢
 refine C0 Tryz.func202 rfl Tryz.ntmps202 Tryz.results202 rfl ?_
 intro w0
 refine tS (tR ?_)
 refine sE (C5 rfl rfl) rfl (fun b3 => ?_)
 refine sE (A6 rfl) rfl (fun b4 => ?_)
 refine sE (A6 rfl) rfl (fun b5 => ?_)
 refine D6 ?_
 refine sB (qE rfl rfl) rfl rfl (fun h14 => ?_) (fun h14 => ?_)
 refine B0 ?_
 refine H3 rfl ((A1m _)) rfl rfl ?_
 refine H3 rfl ((A1m _)) rfl rfl ?_
 refine B4 ?_
 refine D9 (rC rfl (A4 rfl rfl)) (rC rfl (A4 rfl rfl)) (rT rfl) ?_
 (refine ⟨rfl, _, _, _, _, ?_, A0M _, A0M _, A3I, A3I, ?_⟩ <;> rw [A1P, if_neg (by omega), if_pos (by omega)] <;> first | rfl | (intro p hp; cases hp; rfl))
 refine J2 ?_
 refine sB (O9 rfl rfl) rfl rfl (fun h42 => ?_) (fun h42 => ?_)
 refine K5 ?_
 refine D9 (rC rfl (A4 rfl rfl)) (rC rfl (A4 rfl rfl)) (rT rfl) ?_
 (refine ⟨rfl, B2, _, B2, _, ?_, M7 _ ⟨by omega, by omega⟩, M7 _ ⟨by omega, by omega⟩, U3 (by omega) (by omega), U3 (by omega) (by omega), ?_⟩ <;> rw [A1P, if_neg (by omega), if_neg (by omega)] <;> first | rfl | (intro p hp; cases hp))
 refine A7 ?_
 (have hlen : ks.length = 2 := ha2.1 (by omega); obtain ⟨b, o, q0, d0, hp0, hat0, hre0, hg0⟩ := hsl.kidTy hkl (i := 0) (by omega) (by omega); obtain ⟨b', o', q1, d1, hp1, hat1, hre1, hg1⟩ := hsl.kidTy hkl (i := 1) (by omega) (by omega); subst hp0; cases hp1; have hC1 := P9 _ G _ (hkid _ (List.getElem_mem (by omega))).small hre0; refine E0 E1 rfl ?_)
 refine I8 (i := 0) (l' := [tt,ff,ff,ff,ff,ff,ff,ff,ff,ff,ff,ff,ff]) rfl D2 (B7 rfl) rfl (by kernel_rfl) rfl rfl ?_
 refine aL 1 rfl (C7 rfl rfl) rfl ?_
 refine aP 2 rfl (B3 (j := 0) rfl rfl rfl (by omega)) rfl ?_
 refine aL 3 rfl (A2 rfl rfl (hat0 _) rfl) rfl ?_
 refine aP 5 rfl (B7 rfl) rfl ?_
 refine aL 6 rfl (C7 rfl rfl) rfl ?_
 refine aP 7 rfl (B3 (j := 1) rfl rfl rfl (by omega)) rfl ?_
 refine aL 8 rfl (A2 rfl rfl (hat1 _) rfl) rfl ?_
 refine A3 4 ?_
 (refine H1 rfl rfl hC1 rfl rfl rfl (fun v G1 hle1 hh => ?_); obtain ⟨cs1, F1, rfl, hs1, hn1⟩ := hh; obtain ⟨p1, c1, rfl, _⟩ := hs1.open; have hC2 := P9 _ G1 _ (hkid _ (List.getElem_mem (by omega))).small (hre1.mono hle1))
 refine A3 9 ?_
 (refine H1 rfl rfl hC2 rfl rfl rfl (fun v G2 hle2 hh => ?_); obtain ⟨cs2, F2, rfl, hs2, hn2⟩ := hh; obtain ⟨p2, c2, rfl, _⟩ := hs2.open; have hr1 := hs1.R.mono ((C4.le G1 G).trans hle2); have hr2 := hs2.R.mono (C4.le G2 G1))
 refine A3 10 ?_
 refine H8 rfl ?_
 refine A3 11 ?_
 refine R7 rfl rfl rfl rfl rfl rfl rfl rfl (by decide +kernel) (by repeat first | exact Sw.here | apply Sw.there) (by rfl) ?_
 refine aP 12 rfl (qA rfl) rfl ?_
 refine E8 (nS (tT ?_))
 refine D9 (rC rfl (A4 rfl rfl)) (rC rfl (A4 rfl rfl)) (rT rfl) ?_
 (refine ⟨rfl, _, _, _, _, ?_, hr1, hr2, hkid _ (List.getElem_mem (by omega)), hkid _ (List.getElem_mem (by omega)), ?_⟩ <;> rw [A1P, if_pos (by omega)] <;> first | rfl | (intro p hp; cases hp; simp [hlen]))
theorem B4B (G : IM) (cx : Cx) (hv : W2 cx) (p : Option Addr) (n c : Nat) (nm : ByteArray) (hx : S0 G cx p n c) :
  Fn Tryz.prog 197 [.slice p n c, .string nm] [] G (P6 (V6 cx nm) G) := by
 have hn := hx.le
 refine C0 Tryz.func197 rfl Tryz.ntmps197 Tryz.results197 rfl ?_
 intro w0
 refine tS (tR ?_)
 refine sE (A6 rfl) rfl (fun b3 => ?_)
 refine D6 ?_
 refine sP (P2 rfl rfl (by omega) (by omega)) rfl rfl ?_
 refine E3 ?_
 refine B8 ?_
 (refine I2 (fun (i : Nat) => ⟨[(6, .int .i64 ((i : Int) - 1)), (0, .slice p n c), (1, .string nm), (4, .pointer (some ⟨b3, 0, none⟩))], [.blk b3 [.int .i64 0, .slice none 0 0]], G⟩) (fun i => i ≤ n ∧ V6 cx nm = W6 cx nm i) (fun i => i) n ?_ ?_ ?_)
 exact D3
 (exact ⟨Nat.le_refl _, by unfold V6; rw [hx.1]⟩)
 (rintro i ⟨hi, hlk⟩)
 refine B6 ?_
 refine sB (A0J rfl rfl) rfl rfl (fun h25 => ?_) (fun h25 => ?_)
 refine A7 ?_
 (show J1 _ _ (.block 1 _) _ _; obtain ⟨j, rfl⟩ : ∃ j, i = j + 1 := ⟨i - 1, by omega⟩; rw [show ((j + 1 : Nat) : Int) - 1 = (j : Int) from by omega]; obtain ⟨b, o, nm1, t1, q1, d1, hcx, rfl, hat, hr1, hgb⟩ := hx.get (i := j) (by omega); have ha1 := A6N (hv _ (List.mem_of_getElem? hcx)); refine B8 ?_)
 refine B6 ?_
 refine sP (B3 rfl rfl rfl (by omega)) rfl rfl ?_
 refine sQ (qF rfl) rfl ?_
 refine sL (R3 rfl rfl ((hat _).sub (j := 0) rfl)) rfl rfl ?_
 refine sQ (qM rfl) rfl ?_
 refine sB (A1B rfl rfl) rfl rfl (fun h41 => ?_) (fun h41 => ?_)
 refine B4 ?_
 refine sP (B3 rfl rfl rfl (by omega)) rfl rfl ?_
 refine sQ (qF rfl) rfl ?_
 refine sL (A2 rfl rfl (hat _).drop rfl) rfl rfl ?_
 (refine D8 rfl (P9 _ G _ ha1.small hr1) rfl rfl (fun v G1 hle1 hh => ?_); obtain ⟨cs1, F1, rfl, hs1', hn1⟩ := hh; obtain ⟨p1, c1, rfl, _⟩ := hs1'.open; have hrr := hs1'.R.mono (C4.le G1 G))
 refine J5 ?_
 refine F0 (rC rfl (A4 rfl rfl)) (rT rfl) ?_
 (exact P6.yes (by rw [hlk]; exact A5X hcx (by assumption)) hrr ha1)
 refine D6 ?_
 refine sP (P2 rfl rfl (by omega) (by omega)) rfl rfl ?_
 refine D7 ?_
 refine H9 j ?_ ?_ ?_
 exact D3
 (exact ⟨by omega, by rw [hlk]; exact A5Y hcx (by assumption)⟩)
 (show _ < _ + 1; omega)
 refine J9 ?_
 refine F0 (rC rfl (A4 rfl rfl)) (rT rfl) ?_
 (obtain rfl : i = 0 := (by omega); exact P6.no (by rw [hlk]; rfl) (M7 _ ⟨by omega, by omega⟩) (U3 (by omega) (by omega)))
theorem A5c : ∀ (xs ys : List Ty), xs.length = ys.length → (T6 xs ys).length = xs.length
 | [], [], _ => rfl
 | a :: xs, b :: ys, h => by simp only [T6, List.length_cons]; rw [A5c xs ys (by simpa using h)]
 | [], b :: ys, h => by simp at h
 | a :: xs, [], h => by simp at h
theorem A6O : ∀ (xs ys : List Ty) (i : Nat) (h : i < xs.length) (h' : i < ys.length) (hl : i < (T6 xs ys).length), (T6 xs ys)[i] = U7 xs[i] ys[i]
 | [], _, i, h, _, _ => by simp at h
 | a :: xs, [], i, _, h', _ => by simp at h'
 | a :: xs, b :: ys, 0, _, _, _ => by simp [T6]
 | a :: xs, b :: ys, i + 1, h, h', hl => by
  simp only [T6, List.getElem_cons_succ]
  exact A6O xs ys i (by simpa using h) (by simpa using h') _
theorem B4C {xs ys : List Ty} {i : Nat} (hl : xs.length = ys.length) (h : i < xs.length) : (T6 xs ys).take (i + 1) = (T6 xs ys).take i ++ [U7 xs[i] (ys[i]'(by omega))] := by
 rw [List.take_succ_eq_append_getElem (by rw [A5c _ _ hl]; exact h), A6O _ _ i h (by omega)]
theorem B4D : ∀ (a b : Ty) (G : IM) (ca cb : List Value), K0 a b = true → F4 a → F4 b → C1 G a ca → C1 G b cb → Fn Tryz.prog 234 [.agg ⟨ca⟩, .agg ⟨cb⟩] [] G (J4 fun G' v => ∃ cells, v = .agg ⟨cells⟩ ∧ C1 G' (U7 a b) cells) := by
 refine Ty.ind fun ak aks ih b G ca cb hc ha hb hra hrb => ?_
 obtain ⟨bk, bks⟩ := b
 have hka := ha.kid
 have hkb := hb.kid
 have hca := P9 _ G _ ha.small hra
 have hcb := P9 _ G _ hb.small hrb
 have hcc : ak ≠ 1 → bk ≠ 1 → aks.length = bks.length ∧ ∀ i, (h : i < aks.length) → (h' : i < bks.length) → K0 aks[i] bks[i] = true := by
  intro h1 h2
  rw [S7, decide_eq_false h1, decide_eq_false h2] at hc
  simp only [Bool.false_or, Bool.and_eq_true, decide_eq_true_eq] at hc
  exact (A1Y _ _).1 hc.2
 rw [A09]
 obtain ⟨pa, cca, ea, rfl, hak, hsla, hkla⟩ := hra.open
 obtain ⟨pb, ccb, eb, rfl, hbk, hslb, hklb⟩ := hrb.open
 simp only [Ty.k, Ty.ks] at hak hsla hkla hbk hslb hklb ⊢
 have hna := hsla.le
 have hnb := hslb.le
 have hl2 := ha.two
 refine C0 Tryz.func234 rfl Tryz.ntmps234 Tryz.results234 rfl ?_
 intro w0
 refine tS (tR ?_)
 refine sE (C5 rfl rfl) rfl (fun b3 => ?_)
 refine sE (C5 rfl rfl) rfl (fun b4 => ?_)
 refine sE (A6 rfl) rfl (fun b5 => ?_)
 refine B4 ?_
 refine sB (qE rfl rfl) rfl rfl (fun h13 => ?_) (fun h13 => ?_)
 refine A7 ?_
 (refine D8 rfl (by first | exact hcb | exact hca) rfl rfl (fun v G1 hle1 hh => ?_); obtain ⟨cs1, F1, rfl, hs1, hn1⟩ := hh; obtain ⟨p1, c1, rfl, _⟩ := hs1.open; have hr1 := hs1.R.mono (C4.le G1 G))
 refine B0 ?_
 refine K7 (rC rfl (A4 rfl rfl)) ?_
 (rw [if_pos (by omega)]; exact ⟨rfl, _, rfl, hr1⟩)
 refine J5 ?_
 refine sB (qE rfl rfl) rfl rfl (fun h38 => ?_) (fun h38 => ?_)
 refine A7 ?_
 (refine D8 rfl (by first | exact hcb | exact hca) rfl rfl (fun v G1 hle1 hh => ?_); obtain ⟨cs1, F1, rfl, hs1, hn1⟩ := hh; obtain ⟨p1, c1, rfl, _⟩ := hs1.open; have hr1 := hs1.R.mono (C4.le G1 G))
 refine B0 ?_
 refine K7 (rC rfl (A4 rfl rfl)) ?_
 (rw [if_neg (by omega), if_pos (by omega)]; exact ⟨rfl, _, rfl, hr1⟩)
 refine J5 ?_
 refine sE (A6 rfl) rfl (fun b63 => ?_)
 refine E4 ?_
 refine B8 ?_
 (obtain ⟨hlab, hcab⟩ := hcc (by omega) (by omega); refine Q7 25 2 ?_; refine I2 (fun (x : Nat × Option Addr × Nat × List Ty × List (List Value) × IM) => ⟨[(6, .int .i64 x.1), (5, .pointer (some ⟨b63, 0, none⟩)), (4, .pointer (some ⟨b5, 0, none⟩)), (2, .pointer (some ⟨b3, 0, none⟩)), (3, .pointer (some ⟨b4, 0, none⟩))], [.blk b63 [.int .i64 ak, .slice x.2.1 x.1 x.2.2.1], .slc x.2.1 x.2.2.1 25 2 x.1 x.2.2.2.2.1.flatten, .blk b5 [.int .i64 0, .slice none 0 0], .blk b4 [.int .i64 bk, .slice pb bks.length ccb], .blk b3 [.int .i64 ak, .slice pa aks.length cca]], x.2.2.2.2.2⟩) (fun x => x.1 ≤ aks.length ∧ B9 G x.2.2.2.2.2 ∧ x.2.2.2.1.length = x.1 ∧ C8 x.2.2.2.2.2 x.2.2.2.1 x.2.2.2.2.1 ∧ x.2.2.2.1 = (T6 aks bks).take x.1) (fun x => aks.length - x.1) (0, none, 0, [], [], G) ?_ ?_ ?_)
 (simp only [H6]; exact D3)
 (exact ⟨by simp, B9.refl _, rfl, by simp [C8], rfl⟩)
 (rintro ⟨i, pn, cn, us, es', Gi⟩ ⟨hi, hle, hlu, hst, hus⟩; simp only [] at hi hle hlu hst hus ⊢; replace hsla := hsla.mono hle; replace hkla := hkla.mono hle; replace hslb := hslb.mono hle; replace hklb := hklb.mono hle)
 refine B4 ?_
 refine sB (I0 rfl rfl) rfl rfl (fun h85 => ?_) (fun h85 => ?_)
 refine A7 ?_
 refine B8 ?_
 (obtain ⟨b, o, q0, d0, hp0, hat0, hre0, hg0⟩ := hsla.kidTy hkla (i := i) (by omega) (by omega); obtain ⟨b', o', q1, d1, hp1, hat1, hre1, hg1⟩ := hslb.kidTy hklb (i := i) (by omega) (by omega); subst hp0; subst hp1; have hih := ih aks[i] (List.getElem_mem (by omega)) bks[i] Gi _ _ (hcab i (by omega) (by omega)) (hka _ (List.getElem_mem (by omega))) (hkb _ (List.getElem_mem (by omega))) hre0 hre1; refine E0 E1 rfl ?_)
 refine I8 (i := 0) (l' := [tt,ff,ff,ff,ff,ff,ff,ff,ff,ff,ff,ff,ff,ff,ff,ff,ff]) rfl D2 (B7 rfl) rfl (by kernel_rfl) rfl rfl ?_
 refine aL 1 rfl (C7 rfl rfl) rfl ?_
 refine aP 2 rfl (B7 rfl) rfl ?_
 refine aL 3 rfl (C7 rfl rfl) rfl ?_
 refine aP 4 rfl (qM rfl) rfl ?_
 refine aP 5 rfl (B3 rfl rfl rfl (by omega)) rfl ?_
 refine aL 6 rfl (A2 rfl rfl (hat0 _) rfl) rfl ?_
 refine aP 7 rfl (B7 rfl) rfl ?_
 refine aL 8 rfl (C7 rfl rfl) rfl ?_
 refine aP 9 rfl (qM rfl) rfl ?_
 refine aP 10 rfl (B3 rfl rfl rfl (by omega)) rfl ?_
 refine aL 11 rfl (A2 rfl rfl (hat1 _) rfl) rfl ?_
 refine A3 12 ?_
 (refine H1 rfl rfl hih rfl rfl rfl (fun v G1 hle1 hh => ?_); obtain ⟨cells', rfl, hru⟩ := hh; generalize hu : U7 aks[i] bks[i] = u at hru; obtain ⟨p3, c3, es3, rfl, _⟩ := hru.open)
 refine A3 13 ?_
 (refine E6 rfl (C9 rfl rfl rfl (by omega) (by unfold maxLen; omega) rfl) rfl rfl ?_; rintro _ ⟨b109, rfl⟩)
 refine A3 14 ?_
 refine R4 rfl rfl rfl rfl rfl rfl (fun _ _ => by repeat (first | exact Sw.here | apply Sw.there)) (M6 (by repeat first | exact mH | apply mT)) rfl (by simp [Value.oneCell']) (by unfold maxLen; omega) (by omega) rfl rfl (by repeat (first | exact B1.nil | apply B1.dep (by decide +kernel) | apply B1.blk (by decide +kernel) (by repeat (first | exact Pk.here | apply Pk.there)) (by repeat first | exact mH | apply mT))) (fun pn' cn' => ?_)
 refine aP 15 rfl (B7 rfl) rfl ?_
 refine A3 16 ?_
 refine R7 rfl rfl rfl rfl rfl rfl rfl rfl (by decide +kernel) (by repeat first | exact Sw.here | apply Sw.there) (by rfl) ?_
 refine B0 ?_
 refine sP (H2 rfl rfl (by omega) (by omega)) rfl rfl ?_
 refine D7 ?_
 refine H9 (i + 1, pn', cn', us ++ [u], es' ++ [[.int .i64 u.k, .slice p3 u.ks.length c3]], G1) ?_ ?_ ?_
 (simp only [H6]; exact D3)
 (dsimp only; exact ⟨by omega, hle.trans hle1, by simp [hlu], C8.snoc (hst.mono hle1) hru, by rw [B4C hlab (by omega), ← hus, hu]⟩)
 (show aks.length - (i + 1) < aks.length - i; omega)
 refine K5 ?_
 (refine E9 (by repeat (first | exact Pk.here | apply Pk.there)) (fun G2 hle2 hsl2 hno2 => ?_); obtain rfl : i = aks.length := (by omega))
 refine tT ?_
 refine K7 (rC rfl (A4 rfl rfl)) ?_
 (rw [List.take_of_length_le (by rw [A5c _ _ hlab]; omega)] at hus; rw [if_neg (by omega), if_neg (by omega), ← hus]; exact ⟨rfl, _, rfl, (hst.mono hle2).ty hlu hsl2 hak⟩)
theorem gD {ts : List Ty} {i : Nat} (h : i < ts.length) : ts.getD i B2 = ts[i] := by rw [List.getD_eq_getElem?_getD, List.getElem?_eq_getElem h, Option.getD_some]
section
variable {cx : Cx} {k : Int} {nm : ByteArray} {ty : Ty} {ts : List Ty}
theorem A93 (h : 1 < ts.length) : W8 cx 6 nm ty ts = match R0 4 ts[0] with | some (a, b) => if K0 ts[1] a = true then some b else none | none => none := by
 unfold W8 L8
 rw [gD (i := 0) (by omega), gD (i := 1) h]
 simp only [show ¬((6 : Int) = 1) by decide, show ¬((6 : Int) = 2) by decide, show ¬((6 : Int) = 3 ∨ (6 : Int) = 4) by decide, show ¬((6 : Int) = 5) by decide, if_false, if_true]
 cases R0 4 ts[0] with
 | none => rfl
 | some p =>
  obtain ⟨a, b⟩ := p
  by_cases hc : K0 ts[1] a = true
  ·simp [hc]
  ·simp [hc]
theorem A5d (hk : k = 7 ∨ k = 8) (h : 1 < ts.length) : W8 cx k nm ty ts = if K0 ts[0] S8 = true ∧ K0 ts[1] S8 = true then some (if k = 8 then W5 else S8) else none := by
 unfold W8 L8
 rw [gD (i := 0) (by omega), gD (i := 1) h, if_neg (by omega), if_neg (by omega), if_neg (by omega), if_neg (by omega), if_neg (by omega), if_pos hk]
 by_cases hc : K0 ts[0] S8 = true ∧ K0 ts[1] S8 = true
 ·rw [if_pos hc, if_pos hc]; simp only; rw [if_neg (by omega)]
 ·rw [if_neg hc, if_neg hc]
theorem A94 (h : 2 < ts.length) : W8 cx 9 nm ty ts = if K0 ts[0] W5 = true ∧ K0 ts[1] ts[2] = true then some (U7 ts[1] ts[2]) else none := by
 unfold W8 L8
 rw [gD (i := 0) (by omega), gD (i := 1) (by omega), gD (i := 2) h, if_neg (by omega), if_neg (by omega), if_neg (by omega), if_neg (by omega), if_neg (by omega), if_neg (by omega), if_pos rfl]
 by_cases hc : K0 ts[0] W5 = true ∧ K0 ts[1] ts[2] = true
 ·rw [if_pos hc, if_pos hc]; simp
 ·rw [if_neg hc, if_neg hc]
theorem B4E (h : 1 < ts.length) : W8 cx 10 nm ty ts = if F9 (.mk 5 [ts[0], ts[1]]) = true then some (.mk 5 [ts[0], ts[1]]) else none := by
 unfold W8 L8
 rw [gD (i := 0) (by omega), gD (i := 1) h, if_neg (by omega), if_neg (by omega), if_neg (by omega), if_neg (by omega), if_neg (by omega), if_neg (by omega), if_neg (by omega), if_pos rfl]
 cases hv : F9 (.mk 5 [ts[0], ts[1]]) <;> simp [hv]
theorem B4F (h : 0 < ts.length) : W8 cx 13 nm ty ts = if K0 ts[0] ty = true then some ty else none := by
 unfold W8 L8
 rw [gD (i := 0) h, if_neg (by omega), if_neg (by omega), if_neg (by omega), if_neg (by omega), if_neg (by omega), if_neg (by omega), if_neg (by omega), if_neg (by omega), if_pos rfl]
 by_cases hc : K0 ts[0] ty = true
 ·rw [if_pos hc, if_pos hc]; simp
 ·rw [if_neg hc, if_neg hc]
theorem A5e (hk : k = 11 ∨ k = 12) (h : 0 < ts.length) : W8 cx k nm ty ts = match R0 5 ts[0] with | some (a, b) => some (if k = 12 then b else a) | none => none := by
 unfold W8 L8
 rw [gD (i := 0) h, if_neg (by omega), if_neg (by omega), if_neg (by omega), if_neg (by omega), if_neg (by omega), if_neg (by omega), if_neg (by omega), if_neg (by omega), if_neg (by omega)]
 cases R0 5 ts[0] with
 | none => rfl
 | some p =>
  obtain ⟨a, b⟩ := p
  simp only
  rw [if_neg (by omega)]
end
theorem B4G : ∀ (a b : Ty), K0 a b = true → F4 a → F4 b → F4 (U7 a b) := by
 refine Ty.ind fun k ks ih b hc ha hb => ?_
 obtain ⟨k', ks'⟩ := b
 rw [A09]
 split
 ·exact hb
 ·split
  ·exact ha
  ·rw [S7] at hc
   simp only [Bool.or_eq_true, Bool.and_eq_true, decide_eq_true_eq] at hc
   obtain ⟨hk, hl⟩ : k = k' ∧ M9 ks ks' = true := by
    rcases hc with (h | h) | h
    ·contradiction
    ·contradiction
    ·exact h
   obtain ⟨hll, hcc⟩ := (A1Y _ _).1 hl
   have hlen := A5c ks ks' hll
   refine A8F ha hlen fun u hu => ?_
   obtain ⟨i, hi, rfl⟩ := List.mem_iff_getElem.1 hu
   rw [A6O ks ks' i (by omega) (by omega)]
   exact ih _ (List.getElem_mem _) _ (hcc i (by omega) (by omega)) (ha.kid _ (List.getElem_mem _)) (hb.kid _ (List.getElem_mem _))
theorem B4H (cx : Cx) (k : Int) (nm : ByteArray) (num : Int) (ty fr : Ty) (lb : Int) (ks : List Tm) (ts : List Ty) (G : IM) (cells : List Value) (p : Option Addr) (c : Nat) (es : List (List Value))
  (hops : E2 k = ts.length) (hk6 : 6 ≤ k ∧ k ≤ 13) (hty : F4 ty) (hr : A8 G (.mk k nm num ty fr lb ks) cells) (hsl : D1 G p ts.length c 2 es) (hkl : C8 G ts es) (har : ∀ t ∈ ts, F4 t) :
  Fn Tryz.prog 201 [.agg ⟨cells⟩, .slice p ts.length c] [] G (P6 (W8 cx k nm ty ts) G) := by
 have hone := hr.one
 have hop := A25 hops
 have ha0 := fun h : 0 < ts.length => har _ (List.getElem_mem h)
 have ha1 := fun h : 1 < ts.length => har _ (List.getElem_mem h)
 have ha2 := fun h : 2 < ts.length => har _ (List.getElem_mem h)
 obtain ⟨tk, tks⟩ := ty
 obtain ⟨fk, fks⟩ := fr
 obtain ⟨pt, ct, pf, cf, pk, ck, ek, rfl, hk, hnum, hlb, hrty, hrfr, _, _⟩ := hr.open9
 refine C0 Tryz.func201 rfl Tryz.ntmps201 Tryz.results201 rfl ?_
 intro w0
 refine tS (tR ?_)
 refine sE (C5 rfl rfl) rfl (fun b3 => ?_)
 refine sE (A6 rfl) rfl (fun b4 => ?_)
 refine J5 ?_
 refine B8 (tS (tR (sB (qE rfl rfl) rfl rfl (fun h18 => ?_) (fun h18 => ?_))))
 refine B4 ?_
 (have hl2 : ts.length = 2 := hop.1 (by omega); obtain ⟨b0, o0, q0, d0, hp0, hat0, hre0, hg0⟩ := hsl.kidTy hkl (i := 0) (by omega) (by omega); obtain ⟨b1, o1, q1, d1, hp1, hat1, hre1, hg1⟩ := hsl.kidTy hkl (i := 1) (by omega) (by omega); cases hp0; cases hp1; refine sP (B3 (j := 0) rfl rfl rfl (by omega)) rfl rfl ?_)
 refine sL (A2 rfl rfl (hat0 _) rfl) rfl rfl ?_
 focus (refine D8 rfl (A3k 4 ts[0] G _ (.inl rfl) (ha0 (by omega)) hre0) rfl rfl (fun v G1 hle1 hh => ?_); obtain ⟨ma, mca, mb, mcb, rfl, hma, hmb, hma2, hmb2, hpp⟩ := hh; obtain ⟨p1, c1, e1, rfl, _⟩ := hma.open; obtain ⟨p2, c2, e2, rfl, _⟩ := hmb.open; replace hsl := hsl.mono hle1; replace hkl := hkl.mono hle1; rcases hm : R0 4 ts[0] with _ | pr; rotate_left; obtain rfl := hpp _ hm; rotate_left; all_goals simp only [Option.isSome])
 refine B6 ?_
 refine sE (A6 rfl) rfl (fun b33 => ?_)
 refine sE (A6 rfl) rfl (fun b34 => ?_)
 refine A7 ?_
 (have hl2 : ts.length = 2 := hop.1 (by omega); obtain ⟨b0, o0, q0, d0, hp0, hat0, hre0, hg0⟩ := hsl.kidTy hkl (i := 0) (by omega) (by omega); obtain ⟨b1, o1, q1, d1, hp1, hat1, hre1, hg1⟩ := hsl.kidTy hkl (i := 1) (by omega) (by omega); cases hp0; cases hp1; refine E0 E1 rfl ?_)
 refine L7 (i := 0) (l' := [tt,ff,ff,ff,ff,ff,ff,ff,ff,ff,ff]) rfl D2 (A4 rfl rfl) rfl (by kernel_rfl) rfl rfl ?_
 refine aP 1 rfl (qM rfl) rfl ?_
 refine aP 2 rfl (qM rfl) rfl ?_
 refine C3 3 rfl rfl rfl ?_
 refine C3 4 rfl rfl rfl ?_
 refine C3 5 rfl rfl rfl ?_
 refine C3 6 rfl rfl rfl ?_
 refine C3 7 rfl rfl rfl ?_
 refine aP 8 rfl (N4 rfl rfl) rfl ?_
 refine A3 9 ?_
 refine H8 rfl ?_
 refine aP 10 rfl (qA rfl) rfl ?_
 refine B0 ?_
 refine F0 (rC rfl (A4 rfl rfl)) (rT rfl) ?_
 (obtain rfl : k = 6 := (by omega); exact P6.no (by rw [A93 (by omega), hm]) hmb hmb2)
 refine B6 ?_
 refine sE (A6 rfl) rfl (fun b65 => ?_)
 refine sE (A6 rfl) rfl (fun b66 => ?_)
 refine A7 ?_
 (have hl2 : ts.length = 2 := hop.1 (by omega); obtain ⟨b0, o0, q0, d0, hp0, hat0, hre0, hg0⟩ := hsl.kidTy hkl (i := 0) (by omega) (by omega); obtain ⟨b1, o1, q1, d1, hp1, hat1, hre1, hg1⟩ := hsl.kidTy hkl (i := 1) (by omega) (by omega); cases hp0; cases hp1; refine E0 E1 rfl ?_)
 refine L7 (i := 0) (l' := [tt,ff,ff,ff,ff,ff,ff,ff,ff,ff,ff]) rfl D2 (A4 rfl rfl) rfl (by kernel_rfl) rfl rfl ?_
 refine aP 1 rfl (qM rfl) rfl ?_
 refine aP 2 rfl (qM rfl) rfl ?_
 refine aP 3 rfl (qM rfl) rfl ?_
 refine aP 4 rfl (B3 (j := 1) rfl rfl rfl (by omega)) rfl ?_
 refine aL 5 rfl (A2 rfl rfl (hat1 _) rfl) rfl ?_
 refine aL 6 rfl (A4 rfl rfl) rfl ?_
 refine A3 7 ?_
 refine O2 rfl rfl ((A1N ts[1] ma _ _ _ (ha1 (by omega)) hma2 hre1 hma)) rfl rfl rfl ?_
 refine aP 8 rfl (N7 rfl rfl) rfl ?_
 refine A3 9 ?_
 refine H8 rfl ?_
 refine aP 10 rfl (qA rfl) rfl ?_
 refine B0 ?_
 refine F0 (rC rfl (A4 rfl rfl)) (rT rfl) ?_
 (obtain rfl : k = 6 := (by omega); exact P6.mk (by rw [A93 (by omega), hm]) hmb hmb2)
 refine A7 ?_
 refine sB (qE rfl rfl) rfl rfl (fun h100 => ?_) (fun h100 => ?_)
 refine B0 ?_
 (have hl2 : ts.length = 2 := hop.1 (by omega); obtain ⟨b0, o0, q0, d0, hp0, hat0, hre0, hg0⟩ := hsl.kidTy hkl (i := 0) (by omega) (by omega); obtain ⟨b1, o1, q1, d1, hp1, hat1, hre1, hg1⟩ := hsl.kidTy hkl (i := 1) (by omega) (by omega); cases hp0; cases hp1; refine E0 E1 rfl ?_)
 refine I8 (i := 1) (l' := [ff,tt,ff,ff,ff,ff,ff,ff,ff,ff,ff,ff,ff,ff,ff]) rfl D2 (qM rfl) rfl (by kernel_rfl) rfl rfl ?_
 refine aP 2 rfl (B3 (j := 0) rfl rfl rfl (by omega)) rfl ?_
 refine aL 3 rfl (A2 rfl rfl (hat0 _) rfl) rfl ?_
 refine A3 0 ?_
 refine O2 rfl rfl ((A0B _)) rfl rfl rfl ?_
 refine A3 4 ?_
 refine O2 rfl rfl ((A0B _)) rfl rfl rfl ?_
 refine A3 5 ?_
 refine U5 rfl rfl ((A1N ts[0] (.mk 2 []) _ _ _ (ha0 (by omega)) (U3 (by decide) (by decide)) hre0 (M7 _ ⟨by omega, by omega⟩))) rfl rfl rfl (fun h115 => ?_) (fun h115 => ?_)
 refine aP 6 rfl (qM rfl) rfl ?_
 refine aP 7 rfl (qM rfl) rfl ?_
 refine aP 8 rfl (B3 (j := 1) rfl rfl rfl (by omega)) rfl ?_
 refine aL 9 rfl (A2 rfl rfl (hat1 _) rfl) rfl ?_
 refine A3 10 ?_
 refine O2 rfl rfl ((A0B _)) rfl rfl rfl ?_
 refine A3 11 ?_
 refine O2 rfl rfl ((A1N ts[1] (.mk 2 []) _ _ _ (ha1 (by omega)) (U3 (by decide) (by decide)) hre1 (M7 _ ⟨by omega, by omega⟩))) rfl rfl rfl ?_
 refine aP 12 rfl (N7 rfl rfl) rfl ?_
 refine A3 13 ?_
 refine H8 rfl ?_
 refine aP 14 rfl (qA rfl) rfl ?_
 refine B0 ?_
 refine F0 (rC rfl (A4 rfl rfl)) (rT rfl) ?_
 (have hk7 : k = 7 := (by omega); exact P6.mk (by rw [A5d (.inl hk7) (by omega)]; simp_all [S8]) (M7 _ ⟨by omega, by omega⟩) (U3 (by omega) (by omega)))
 refine aP 6 rfl (qM rfl) rfl ?_
 refine C3 7 rfl rfl rfl ?_
 refine C3 8 rfl rfl rfl ?_
 refine C3 9 rfl rfl rfl ?_
 refine C3 10 rfl rfl rfl ?_
 refine C3 11 rfl rfl rfl ?_
 refine aP 12 rfl (N4 rfl rfl) rfl ?_
 refine A3 13 ?_
 refine H8 rfl ?_
 refine aP 14 rfl (qA rfl) rfl ?_
 refine B0 ?_
 refine F0 (rC rfl (A4 rfl rfl)) (rT rfl) ?_
 (have hk7 : k = 7 := (by omega); exact P6.mk (by rw [A5d (.inl hk7) (by omega)]; simp_all [S8]) (M7 _ ⟨by omega, by omega⟩) (U3 (by omega) (by omega)))
 refine A7 ?_
 refine sB (qE rfl rfl) rfl rfl (fun h158 => ?_) (fun h158 => ?_)
 refine B0 ?_
 (have hl2 : ts.length = 2 := hop.1 (by omega); obtain ⟨b0, o0, q0, d0, hp0, hat0, hre0, hg0⟩ := hsl.kidTy hkl (i := 0) (by omega) (by omega); obtain ⟨b1, o1, q1, d1, hp1, hat1, hre1, hg1⟩ := hsl.kidTy hkl (i := 1) (by omega) (by omega); cases hp0; cases hp1; refine E0 E1 rfl ?_)
 refine I8 (i := 1) (l' := [ff,tt,ff,ff,ff,ff,ff,ff,ff,ff,ff,ff,ff,ff,ff]) rfl D2 (qM rfl) rfl (by kernel_rfl) rfl rfl ?_
 refine aP 2 rfl (B3 (j := 0) rfl rfl rfl (by omega)) rfl ?_
 refine aL 3 rfl (A2 rfl rfl (hat0 _) rfl) rfl ?_
 refine A3 0 ?_
 refine O2 rfl rfl ((A23 _)) rfl rfl rfl ?_
 refine A3 4 ?_
 refine O2 rfl rfl ((A0B _)) rfl rfl rfl ?_
 refine A3 5 ?_
 refine U5 rfl rfl ((A1N ts[0] (.mk 2 []) _ _ _ (ha0 (by omega)) (U3 (by decide) (by decide)) hre0 (M7 _ ⟨by omega, by omega⟩))) rfl rfl rfl (fun h173 => ?_) (fun h173 => ?_)
 refine aP 6 rfl (qM rfl) rfl ?_
 refine aP 7 rfl (qM rfl) rfl ?_
 refine aP 8 rfl (B3 (j := 1) rfl rfl rfl (by omega)) rfl ?_
 refine aL 9 rfl (A2 rfl rfl (hat1 _) rfl) rfl ?_
 refine A3 10 ?_
 refine O2 rfl rfl ((A0B _)) rfl rfl rfl ?_
 refine A3 11 ?_
 refine O2 rfl rfl ((A1N ts[1] (.mk 2 []) _ _ _ (ha1 (by omega)) (U3 (by decide) (by decide)) hre1 (M7 _ ⟨by omega, by omega⟩))) rfl rfl rfl ?_
 refine aP 12 rfl (N7 rfl rfl) rfl ?_
 refine A3 13 ?_
 refine H8 rfl ?_
 refine aP 14 rfl (qA rfl) rfl ?_
 refine B0 ?_
 refine F0 (rC rfl (A4 rfl rfl)) (rT rfl) ?_
 (have hk8 : k = 8 := (by omega); exact P6.mk (by rw [A5d (.inr hk8) (by omega)]; simp_all [S8, W5]) (M7 _ ⟨by omega, by omega⟩) (U3 (by omega) (by omega)))
 refine aP 6 rfl (qM rfl) rfl ?_
 refine C3 7 rfl rfl rfl ?_
 refine C3 8 rfl rfl rfl ?_
 refine C3 9 rfl rfl rfl ?_
 refine C3 10 rfl rfl rfl ?_
 refine C3 11 rfl rfl rfl ?_
 refine aP 12 rfl (N4 rfl rfl) rfl ?_
 refine A3 13 ?_
 refine H8 rfl ?_
 refine aP 14 rfl (qA rfl) rfl ?_
 refine B0 ?_
 refine F0 (rC rfl (A4 rfl rfl)) (rT rfl) ?_
 (have hk8 : k = 8 := (by omega); exact P6.mk (by rw [A5d (.inr hk8) (by omega)]; simp_all [S8, W5]) (M7 _ ⟨by omega, by omega⟩) (U3 (by omega) (by omega)))
 refine A7 ?_
 refine sB (qE rfl rfl) rfl rfl (fun h216 => ?_) (fun h216 => ?_)
 refine A7 ?_
 (have hl3 : ts.length = 3 := hop.2.1 (by omega); obtain ⟨b0, o0, q0, d0, hp0, hat0, hre0, hg0⟩ := hsl.kidTy hkl (i := 0) (by omega) (by omega); obtain ⟨b1, o1, q1, d1, hp1, hat1, hre1, hg1⟩ := hsl.kidTy hkl (i := 1) (by omega) (by omega); obtain ⟨b2, o2, q2, d2, hp2, hat2, hre2, hg2⟩ := hsl.kidTy hkl (i := 2) (by omega) (by omega); cases hp0; cases hp1; cases hp2; refine E0 E1 rfl ?_)
 refine I8 (i := 0) (l' := [tt,ff,ff,ff,ff,ff,ff,ff]) rfl D2 (qM rfl) rfl (by kernel_rfl) rfl rfl ?_
 refine aP 1 rfl (B3 (j := 1) rfl rfl rfl (by omega)) rfl ?_
 refine aL 2 rfl (A2 rfl rfl (hat1 _) rfl) rfl ?_
 refine aP 3 rfl (qM rfl) rfl ?_
 refine aP 4 rfl (B3 (j := 2) rfl rfl rfl (by omega)) rfl ?_
 refine aL 5 rfl (A2 rfl rfl (hat2 _) rfl) rfl ?_
 refine A3 6 ?_
 refine U5 rfl rfl ((A1N ts[1] ts[2] _ _ _ (ha1 (by omega)) (ha2 (by omega)) hre1 hre2)) rfl rfl rfl (fun h231 => ?_) (fun h231 => ?_)
 refine aP 7 rfl (pNt rfl) rfl ?_
 refine A7 ?_
 (have hl3 : ts.length = 3 := hop.2.1 (by omega); obtain ⟨b0, o0, q0, d0, hp0, hat0, hre0, hg0⟩ := hsl.kidTy hkl (i := 0) (by omega) (by omega); obtain ⟨b1, o1, q1, d1, hp1, hat1, hre1, hg1⟩ := hsl.kidTy hkl (i := 1) (by omega) (by omega); obtain ⟨b2, o2, q2, d2, hp2, hat2, hre2, hg2⟩ := hsl.kidTy hkl (i := 2) (by omega) (by omega); cases hp0; cases hp1; cases hp2; refine E0 E1 rfl ?_)
 refine I8 (i := 0) (l' := [tt,ff,ff,ff,ff,ff,ff,ff,ff,ff,ff,ff,ff,ff]) rfl D2 (qM rfl) rfl (by kernel_rfl) rfl rfl ?_
 refine aP 1 rfl (B3 (j := 1) rfl rfl rfl (by omega)) rfl ?_
 refine aL 2 rfl (A2 rfl rfl (hat1 _) rfl) rfl ?_
 refine aP 3 rfl (qM rfl) rfl ?_
 refine aP 4 rfl (B3 (j := 2) rfl rfl rfl (by omega)) rfl ?_
 refine aL 5 rfl (A2 rfl rfl (hat2 _) rfl) rfl ?_
 refine aP 7 rfl (qM rfl) rfl ?_
 refine aP 8 rfl (B3 (j := 0) rfl rfl rfl (by omega)) rfl ?_
 refine aL 9 rfl (A2 rfl rfl (hat0 _) rfl) rfl ?_
 refine A3 6 ?_
 (refine H1 rfl rfl (B4D ts[1] ts[2] G _ _ (by assumption) (ha1 (by omega)) (ha2 (by omega)) hre1 hre2) rfl rfl rfl (fun v G1 hle1 hh => ?_); obtain ⟨mc, rfl, hmr⟩ := hh; obtain ⟨mt, hmt⟩ : ∃ mt, U7 ts[1] ts[2] = mt := ⟨_, rfl⟩; rw [hmt] at hmr; have hma : F4 mt := (hmt ▸ B4G ts[1] ts[2] (by assumption) (ha1 (by omega)) (ha2 (by omega))); obtain ⟨p1, c1, e1, rfl, _⟩ := hmr.open; have hre0q := hre0.mono hle1)
 refine A3 10 ?_
 refine O2 rfl rfl ((A23 _)) rfl rfl rfl ?_
 refine A3 11 ?_
 refine O2 rfl rfl ((A1N ts[0] (.mk 3 []) _ _ _ (ha0 (by omega)) (U3 (by decide) (by decide)) hre0q (M7 _ ⟨by omega, by omega⟩))) rfl rfl rfl ?_
 refine A3 12 ?_
 refine H8 rfl ?_
 refine aP 13 rfl (qA rfl) rfl ?_
 refine B0 ?_
 refine F0 (rC rfl (A4 rfl rfl)) (rT rfl) ?_
 (obtain rfl : k = 9 := (by omega); exact P6.mk (by rw [A94 (by omega), hmt]; simp_all [W5]) hmr hma)
 refine aP 7 rfl (pNf rfl) rfl ?_
 refine K5 ?_
 refine F0 (rC rfl (A4 rfl rfl)) (rT rfl) ?_
 (obtain rfl : k = 9 := (by omega); exact P6.no (by rw [A94 (by omega)]; simp_all) (M7 _ ⟨by omega, by omega⟩) (U3 (by omega) (by omega)))
 refine A7 ?_
 refine sB (qE rfl rfl) rfl rfl (fun h288 => ?_) (fun h288 => ?_)
 refine B0 ?_
 (have hl2 : ts.length = 2 := hop.1 (by omega); obtain ⟨b0, o0, q0, d0, hp0, hat0, hre0, hg0⟩ := hsl.kidTy hkl (i := 0) (by omega) (by omega); obtain ⟨b1, o1, q1, d1, hp1, hat1, hre1, hg1⟩ := hsl.kidTy hkl (i := 1) (by omega) (by omega); cases hp0; cases hp1; refine E0 E1 rfl ?_)
 refine I8 (i := 0) (l' := [tt,ff,ff,ff,ff,ff,ff,ff,ff,ff,ff]) rfl D2 (qM rfl) rfl (by kernel_rfl) rfl rfl ?_
 refine aP 1 rfl (B3 (j := 0) rfl rfl rfl (by omega)) rfl ?_
 refine aL 2 rfl (A2 rfl rfl (hat0 _) rfl) rfl ?_
 refine aP 3 rfl (qM rfl) rfl ?_
 refine aP 4 rfl (B3 (j := 1) rfl rfl rfl (by omega)) rfl ?_
 refine aL 5 rfl (A2 rfl rfl (hat1 _) rfl) rfl ?_
 refine A3 6 ?_
 (refine H1 rfl rfl (A2L 5 ts[0] ts[1] G _ _ (.inr rfl) (ha0 (by omega)) (ha1 (by omega)) hre0 hre1) rfl rfl rfl (fun v G1 hle1 hh => ?_); obtain ⟨mc, rfl, hmr⟩ := hh; have hma := A4P (.inr rfl) (ha0 (by omega)) (ha1 (by omega)); obtain ⟨p1, c1, e1, rfl, _⟩ := hmr.open)
 refine aP 7 rfl (pX rfl rfl) rfl ?_
 refine aP 8 rfl (pX rfl rfl) rfl ?_
 refine A3 9 ?_
 refine H8 rfl ?_
 refine aP 10 rfl (qA rfl) rfl ?_
 refine B0 ?_
 refine F0 (rC rfl (A4 rfl rfl)) (rT rfl) ?_
 (obtain rfl : k = 10 := (by omega); exact P6.mk (by rw [B4E (by omega)]) hmr hma)
 refine A7 ?_
 refine sB (qE rfl rfl) rfl rfl (fun h321 => ?_) (fun h321 => ?_)
 refine B4 ?_
 (have hl1 : ts.length = 1 := hop.2.2 (by omega); obtain ⟨b0, o0, q0, d0, hp0, hat0, hre0, hg0⟩ := hsl.kidTy hkl (i := 0) (by omega) (by omega); cases hp0; refine sP (B3 (j := 0) rfl rfl rfl (by omega)) rfl rfl ?_)
 refine sL (A2 rfl rfl (hat0 _) rfl) rfl rfl ?_
 focus (refine D8 rfl (A3k 5 ts[0] G _ (.inr rfl) (ha0 (by omega)) hre0) rfl rfl (fun v G1 hle1 hh => ?_); obtain ⟨ma, mca, mb, mcb, rfl, hma, hmb, hma2, hmb2, hpp⟩ := hh; obtain ⟨p1, c1, e1, rfl, _⟩ := hma.open; obtain ⟨p2, c2, e2, rfl, _⟩ := hmb.open; rcases hm : R0 5 ts[0] with _ | pr; rotate_left; obtain rfl := hpp _ hm; rotate_left; all_goals simp only [Option.isSome])
 refine B6 ?_
 refine sE (A6 rfl) rfl (fun b336 => ?_)
 refine sE (A6 rfl) rfl (fun b337 => ?_)
 refine J9 ?_
 refine F0 (rC rfl (A4 rfl rfl)) (rT rfl) ?_
 (have hk11 : k = 11 := (by omega); exact P6.no (by rw [A5e (.inl hk11) (by omega), hm]) hma hma2)
 refine B6 ?_
 refine sE (A6 rfl) rfl (fun b360 => ?_)
 refine sE (A6 rfl) rfl (fun b361 => ?_)
 refine J9 ?_
 refine F0 (rC rfl (A4 rfl rfl)) (rT rfl) ?_
 (have hk11 : k = 11 := (by omega); exact P6.yes (by rw [A5e (.inl hk11) (by omega), hm]; simp only; rw [if_neg (by omega)]) hma hma2)
 refine A7 ?_
 refine sB (qE rfl rfl) rfl rfl (fun h386 => ?_) (fun h386 => ?_)
 refine B4 ?_
 (have hl1 : ts.length = 1 := hop.2.2 (by omega); obtain ⟨b0, o0, q0, d0, hp0, hat0, hre0, hg0⟩ := hsl.kidTy hkl (i := 0) (by omega) (by omega); cases hp0; refine sP (B3 (j := 0) rfl rfl rfl (by omega)) rfl rfl ?_)
 refine sL (A2 rfl rfl (hat0 _) rfl) rfl rfl ?_
 focus (refine D8 rfl (A3k 5 ts[0] G _ (.inr rfl) (ha0 (by omega)) hre0) rfl rfl (fun v G1 hle1 hh => ?_); obtain ⟨ma, mca, mb, mcb, rfl, hma, hmb, hma2, hmb2, hpp⟩ := hh; obtain ⟨p1, c1, e1, rfl, _⟩ := hma.open; obtain ⟨p2, c2, e2, rfl, _⟩ := hmb.open; rcases hm : R0 5 ts[0] with _ | pr; rotate_left; obtain rfl := hpp _ hm; rotate_left; all_goals simp only [Option.isSome])
 refine B6 ?_
 refine sE (A6 rfl) rfl (fun b401 => ?_)
 refine sE (A6 rfl) rfl (fun b402 => ?_)
 refine J9 ?_
 refine F0 (rC rfl (A4 rfl rfl)) (rT rfl) ?_
 (have hk12 : k = 12 := (by omega); exact P6.no (by rw [A5e (.inr hk12) (by omega), hm]) hmb hmb2)
 refine B6 ?_
 refine sE (A6 rfl) rfl (fun b425 => ?_)
 refine sE (A6 rfl) rfl (fun b426 => ?_)
 refine J9 ?_
 refine F0 (rC rfl (A4 rfl rfl)) (rT rfl) ?_
 (have hk12 : k = 12 := (by omega); exact P6.yes (by rw [A5e (.inr hk12) (by omega), hm]; simp only; rw [if_pos (by omega)]) hmb hmb2)
 refine A7 ?_
 refine sP (Z5 rfl rfl (by omega)) rfl rfl ?_
 refine B0 ?_
 (have hl1 : ts.length = 1 := hop.2.2 (by omega); obtain ⟨b0, o0, q0, d0, hp0, hat0, hre0, hg0⟩ := hsl.kidTy hkl (i := 0) (by omega) (by omega); cases hp0; refine E0 E1 rfl ?_)
 refine I8 (i := 0) (l' := [tt,ff,ff,ff,ff,ff,ff,ff,ff,ff,ff]) rfl D2 (B7 rfl) rfl (by kernel_rfl) rfl rfl ?_
 refine aL 1 rfl (A4 rfl rfl) rfl ?_
 refine aP 3 rfl (qM rfl) rfl ?_
 refine aP 4 rfl (B3 (j := 0) rfl rfl rfl (by omega)) rfl ?_
 refine aL 5 rfl (A2 rfl rfl (hat0 _) rfl) rfl ?_
 refine aP 6 rfl (B7 rfl) rfl ?_
 refine aL 7 rfl (A4 rfl rfl) rfl ?_
 refine A3 2 ?_
 (refine H1 rfl rfl (P9 (.mk tk tks) G _ hty.small hrty) rfl rfl rfl (fun v G1 hle1 hh => ?_); obtain ⟨cs1, F1, rfl, hs1, hn1⟩ := hh; obtain ⟨p1, c1, rfl, _⟩ := hs1.open; have hmr := hs1.R.mono (C4.le G1 G); have hre0q := hre0.mono hle1; have hrtyq := hrty.mono hle1)
 refine A3 8 ?_
 refine O2 rfl rfl ((A1N ts[0] (.mk tk tks) _ _ _ (ha0 (by omega)) hty hre0q hrtyq)) rfl rfl rfl ?_
 refine A3 9 ?_
 refine H8 rfl ?_
 refine aP 10 rfl (qA rfl) rfl ?_
 refine B0 ?_
 refine F0 (rC rfl (A4 rfl rfl)) (rT rfl) ?_
 (obtain rfl : k = 13 := (by omega); exact P6.mk (by rw [B4F (by omega)]) hmr hty)
end Gw
end Go.Proofs.YtfpgncjeejickaaGreat
