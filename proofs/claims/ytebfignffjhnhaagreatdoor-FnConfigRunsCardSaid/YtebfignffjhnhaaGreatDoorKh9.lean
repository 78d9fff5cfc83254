/-
  Configurations in the reference: BlurTerm, ConfigRuns. BareTerm, CountNodes: the program's and the reference model's. EraseTerm, BlurTerm, CountSlots of the program; the last configuration is the erasure. The law that CastPath gives what the reference model gives: its walk. The law FnExactConfigRuns: its walk. FailingSlots on both sides. FailingSlots of the reference. Configurations: what their runs say (plain). Drawn arguments of runs. Drawn arguments of configurations: terms with few types. Lists of numbers are compared. TypeSame, TermSame: the same data is the same. The law FnConfigRuns. The law FnConfigFirst. The law FnConfigTexts. The law FnFailingSlots.
-/
import Derived.Test.YtebfignffjhnhaaGreatDoorKh8
import Derived.Test.YtebfignffjhnhaaGreatDoorKh3
import Derived.Test.YtebfignffjhnhaaGreatDoorKh7
import Derived.Test.YtebfignffjhnhaaGreatDoorKh1
set_option linter.unusedVariables false
set_option linter.unusedSimpArgs false
set_option maxHeartbeats 0
set_option maxRecDepth 100000
set_option synthInstance.maxSize 4000
set_option synthInstance.maxHeartbeats 0
namespace Go.Proofs.YtebfignffjhnhaaGreatDoor
open Go Go.RowKit
namespace Gw
theorem B7P {e : Tm} {m : Nat} (h : N9 e = true) : A2V e (P4 m 0 (H0 e)) = some (P1 e m) := by
 unfold P1
 refine B1X h (by rw [A2W h, A2k]) fun j hj _ => ?_
 rcases A3B m (H0 e) 0 _ (List.getElem_mem hj) with h1 | h1
 ·rw [h1]; decide
 ·exact A7X e 1 ((A0C e).1 h).1 _ h1
theorem B7Q (t : Tm) (m : Nat) (G : IM) (cells : List Value) (hv : N9 t = true) (h6 : (H0 t).length ≤ 60) (hm : m < 2 ^ (H0 t).length) (hm2 : m ≤ 4294967296) (hr : B1 G t cells) :
  Fn Tryz.prog 43 [.agg ⟨cells⟩, .int .i64 (m : Int)] [] G (K1 fun G' v => ∃ cu, v = .tuple ⟨[.agg ⟨cu⟩, .bool true]⟩ ∧ B1 G' (P1 t m) cu) := by
 have hl := hr.len
 have hone := hr.one
 have hf := A4p hv
 have hcnt := hf.2
 have hT := A7R t G cells hf.1 (by omega) hr
 rw [A2W hv] at hT
 have hst0 := A5D t hf.1
 have hbw := @B7P t m hv
 obtain ⟨L, hL⟩ : ∃ L, H0 t = L := ⟨_, rfl⟩
 have hml := A2k m L 0
 rw [hL] at hT h6 hm hst0 hbw
 have hWt := fun G cells p c es => B7J t (P4 m 0 L) G cells p c es hf.1 (by omega) (by rw [hml]; omega) (fun u hu => by rcases A3B m L 0 u hu with rfl | hu; exact A7L; exact hst0 u hu)
 rw [hml, hbw] at hWt
 refine C1 Tryz.func43 rfl Tryz.ntmps43 Tryz.results43 rfl ?_
 intro w0
 refine A3 ?_
 refine sE (C7 rfl rfl) rfl (fun b3 => ?_)
 refine sE (A7 rfl) rfl (fun b4 => ?_)
 refine B0 ?_
 refine sL (A2 rfl rfl (A9 (by repeat first | exact mH | apply mT)) hl) rfl rfl ?_
 (refine U6 rfl hT rfl rfl (fun v G1 outs hle1 hh => ?_); obtain ⟨p, c, es0, rfl, rfl, hr1⟩ := hh; replace hr := hr.mono hle1; obtain ⟨M, hM⟩ : ∃ M, 2 ^ L.length = M := ⟨_, rfl⟩; rw [hM] at hm)
 refine B5 ?_
 refine sP (A1I rfl rfl (by omega)) rfl rfl ?_
 refine B4 ?_
 (refine sP (A2l rfl rfl (by omega)) rfl rfl ?_; rw [hM])
 refine sP (A4z rfl rfl (by omega)) rfl rfl ?_
 refine K5 ?_
 refine C0 ?_
 (refine A8o (fun a w hs => hs.slc_ptT (p := p) (c := c) (el := 34) (sz := 2) (n := L.length) (cs := es0.flatten) (by repeat first | exact mH | apply mT)) (fun hq => ?_); refine J0 (fun (x : Nat × List (List Value)) => ⟨[(7, .int .i64 x.1), (6, .slice p L.length c), (1, .int .i64 (m : Int)), (2, .pointer (some ⟨b3, 0, none⟩)), (4, .pointer (some ⟨b4, 0, none⟩))], [.slc p c 34 2 L.length x.2.flatten, .blk b4 [.int .i64 0, .string ⟨⟨[]⟩⟩, .int .i64 0, .int .i64 0, .slice none 0 0, .int .i64 0, .slice none 0 0, .int .i64 0, .slice none 0 0], .blk b3 cells], G1⟩) (fun x => x.1 ≤ L.length ∧ C9 G1 (P4 m 0 (L.take x.1) ++ L.drop x.1) x.2) (fun x => L.length - x.1) (0, es0) ?_ ?_ ?_)
 (simp only [H6]; exact D2)
 (exact ⟨Nat.zero_le _, by simpa [P4] using hr1⟩)
 (rintro ⟨(i : Nat), es⟩ ⟨hi, hst⟩; simp only [] at hi hst ⊢; have hesl : es.length = L.length := (by have h0 := hst.len; simp only [List.length_append, A2k, List.length_take, List.length_drop] at h0; omega); have hstep := B1D m L i)
 refine A8 ?_
 refine sB (I8 rfl rfl) rfl rfl (fun h49 => ?_) (fun h49 => ?_)
 refine A8 ?_
 refine C0 ?_
 refine B4 ?_
 refine sP (B1J rfl rfl (by omega)) rfl rfl ?_
 refine sQ (B1K rfl rfl) rfl (sB (qE rfl rfl) rfl rfl (fun h63 => ?_) (fun h63 => ?_))
 refine A8 ?_
 refine E8 rfl (A1q _) rfl rfl ?_
 (obtain ⟨g, rfl, hgc⟩ := hq.resolve_left (by omega); refine sP (B6 (j := i) rfl rfl rfl (by omega)) rfl rfl ?_)
 refine B1L rfl rfl rfl rfl rfl rfl (by repeat first | exact Sw.here | apply Sw.there) (B1M (by omega) (fun e he => (hst.each e he).1) rfl) ?_
 refine B0 ?_
 refine sP (H5 rfl rfl (by omega) (by omega)) rfl rfl ?_
 refine A3 ?_
 (rw [if_pos (by omega)] at hstep; refine I1 (i + 1, es.set i [.int .i64 1, .slice none 0 0]) ?_ ?_ ?_)
 (simp only [H6]; exact D2)
 exact A5E
 (show L.length - (i + 1) < L.length - i; omega)
 refine D1 ?_
 refine sP (H5 rfl rfl (by omega) (by omega)) rfl rfl ?_
 refine A3 ?_
 (rw [if_neg (by omega)] at hstep; refine I1 (i + 1, es) ?_ ?_ ?_)
 (simp only [H6]; exact D2)
 exact A5E
 (show L.length - (i + 1) < L.length - i; omega)
 refine J3 ?_
 refine sL (A2 rfl rfl (A9 (by repeat first | exact mH | apply mT)) hl) rfl rfl ?_
 refine E3 ?_
 (obtain rfl : i = L.length := (by omega); rw [List.take_length, List.drop_length, List.append_nil] at hst; refine R9 (cs := es.flatten) (by repeat (first | exact Pk.here | apply Pk.there)) (fun G2 hle2 hsl2 hno2 => ?_); refine D9 rfl (hWt G2 cells p c es (hr.mono hle2) (D7.of hsl2 hesl hst.all (fun e he => (hst.each e he).2)) (hst.mono hle2)) rfl rfl (fun v G3 hle3 hh => ?_); obtain ⟨cu, rfl, hru⟩ := hh; have hul := hru.len; have huo := hru.one)
 refine A3 ?_
 refine sS rfl rfl rfl hul huo rfl ?_ (hu := by exact D4 hul.symm)
 refine B4 ?_
 refine E9 (rC rfl (A2 rfl rfl (A9 (by repeat first | exact mH | apply mT)) hul)) (rT rfl) ?_
 (exact ⟨rfl, cu, rfl, hru⟩)
theorem A5H {Q : Prop} (h : Q := by (exact ⟨rfl, by rw [decide_eq_false (fun hc => by first | exact Bool.noConfusion hc.1 | omega)]⟩)) : Q := h
theorem B7R (e : Tm) (fuel : Int) (G : IM) (cells : List Value) (hts : e.small) (hcnt : D3 e ≤ 4000000) (hr : B1 G e cells) :
  Fn Tryz.prog 41 [.agg ⟨cells⟩, .int .i64 fuel] [] G (K1 fun _ v => v = .bool (decide ((Q3 e).isSome = true ∧ (R8 e).length ≤ 6 ∧ 0 ≤ fuel ∧ fuel ≤ 300))) := by
 have hl := hr.len
 have hone := hr.one
 refine C1 Tryz.func41 rfl Tryz.ntmps41 Tryz.results41 rfl ?_
 intro w0
 refine A3 ?_
 refine sE (C7 rfl rfl) rfl (fun b3 => ?_)
 refine B0 ?_
 refine sL (A2 rfl rfl (A9 (by repeat first | exact mH | apply mT)) hl) rfl rfl ?_
 (refine D9 rfl (A7H e G cells (by omega) hr) rfl rfl (fun v1 G1 hle1 hh => ?_); obtain ⟨mc, mt, rfl, hmr, hmu⟩ := hh; obtain ⟨qt, dt, et2, rfl, _⟩ := hmr.open; replace hr := hr.mono hle1; have hC := A7S e G1 cells hts hcnt hr; generalize (Q3 e).isSome = A1 at *; generalize (R8 e).length = n1 at *; cases A1)
 refine B7 ?_
 refine sE (A7 rfl) rfl (fun b14 => ?_)
 refine A3N ?_
 exact A5H
 refine B7 ?_
 refine sE (A7 rfl) rfl (fun b44 => ?_)
 refine D1 ?_
 refine sL (A2 rfl rfl (A9 (by repeat first | exact mH | apply mT)) hl) rfl rfl ?_
 (refine D9 rfl hC rfl rfl (fun v2 G2 hle2 hh => ?_); subst hh)
 refine sB (Y4 rfl rfl) rfl rfl (fun h55 => ?_) (fun h55 => ?_)
 refine B7 ?_
 refine sB (A0I rfl rfl) rfl rfl (fun h59 => ?_) (fun h59 => ?_)
 refine B7 ?_
 refine sB (Y4 rfl rfl) rfl rfl (fun h63 => ?_) (fun h63 => ?_)
 refine A8 ?_
 (exact ⟨rfl, by rw [decide_eq_true ⟨rfl, by omega, by omega, by omega⟩]⟩)
 refine A8 ?_
 exact A5H
 refine J3 ?_
 exact A5H
 refine J9 ?_
 exact A5H
theorem A5I (t : Tm) (fuel : Int) (G : IM) (cells : List Value) (hts : t.small) (hcnt : D3 t ≤ 4000000) (hr : B1 G t cells) :
  Fn Tryz.prog 12 [.agg ⟨cells⟩, .int .i64 fuel] [] G (IsP ((P9 t fuel).getD []) (P9 t fuel).isSome G) := by
 have hl := hr.len
 have hone := hr.one
 have hvv := @A7W t
 have hno : ¬ ((Q3 t).isSome = true ∧ (R8 t).length ≤ 6 ∧ 0 ≤ fuel ∧ fuel ≤ 300) → P9 t fuel = none := fun h => by
  unfold P9
  split
  ·rename_i hw
   unfold W7
   rw [if_neg (fun hc => h ⟨hc.1, by rw [A2W (hvv hc.1)]; exact hc.2, A1U.1 hw⟩)]; rfl
  ·rfl
 have hyes : (Q3 t).isSome = true ∧ (R8 t).length ≤ 6 ∧ 0 ≤ fuel ∧ fuel ≤ 300 → P9 t fuel = some ((List.range (2 ^ (R8 t).length)).map fun m => (O2 (P1 t m) fuel).2.1) := fun h => by
  unfold P9 W7
  rw [if_pos (A1U.2 h.2.2), if_pos ⟨h.1, by rw [← A2W (hvv h.1)]; exact h.2.1⟩, A2W (hvv h.1)]
  simp [A0b, Function.comp_def]
 have hF := B7R t fuel G cells hts hcnt hr
 obtain ⟨Q, hQ⟩ : ∃ Q, decide ((Q3 t).isSome = true ∧ (R8 t).length ≤ 6 ∧ 0 ≤ fuel ∧ fuel ≤ 300) = Q := ⟨_, rfl⟩
 rw [hQ] at hF
 have hBl : Q = true → ∀ (m : Nat) (G : IM) (cells : List Value), m < 2 ^ (R8 t).length → B1 G t cells → Fn Tryz.prog 43 [.agg ⟨cells⟩, .int .i64 (m : Int)] [] G (K1 fun G' v => ∃ cu, v = .tuple ⟨[.agg ⟨cu⟩, .bool true]⟩ ∧ B1 G' (P1 t m) cu) := fun h m G cells hm hr => by
  have hc := of_decide_eq_true (hQ.trans h)
  have hv := hvv hc.1
  have h6 := hc.2.1
  rw [A2W hv] at hm h6
  have : 2 ^ (H0 t).length ≤ 2 ^ 6 := Nat.pow_le_pow_right (by decide) h6
  exact B7Q t m G cells hv (by omega) hm (by omega) hr
 have hbc : ∀ m, D3 (P1 t m) ≤ 4294967296 := fun m => by
  have h0 := (A7Y t (P4 m 0 (H0 t)) hts (fun u hu => by rcases A3B m (H0 t) 0 u hu with rfl | hu; exact A7L; exact A5D t hts u hu)).2
  unfold P1; omega
 have hS : ∀ m, ∃ s c l, O2 (P1 t m) fuel = (s, c, l) := fun m => ⟨_, _, _, rfl⟩
 generalize P9 t fuel = R at *
 refine C1 Tryz.func12 rfl Tryz.ntmps12 Tryz.results12 rfl ?_
 intro w0
 refine A3 ?_
 refine sE (C7 rfl rfl) rfl (fun b3 => ?_)
 refine A8 ?_
 (refine I3 (D0 rfl rfl rfl (by omega) (by unfold maxLen; omega) rfl) rfl ?_; rintro _ ⟨b10, rfl⟩)
 refine A8 ?_
 refine sL (A2 rfl rfl (A9 (by repeat first | exact mH | apply mT)) hl) rfl rfl ?_
 refine E3 ?_
 (refine D9 rfl hF rfl rfl (fun v1 G1 hle1 hh => ?_); subst hh; replace hr := hr.mono hle1; cases Q)
 refine J1 ?_
 (have hno2 := hno (of_decide_eq_false hQ); refine F0 (by repeat (first | exact Pk.here | apply Pk.there)) (fun G5 hle5 hsl5 hno5 => ?_))
 refine A3 ?_
 refine E9 (rT rfl) (rT rfl) ?_
 (exact IsP.mk (l := []) (by rw [hno2]; rfl) (by rw [hno2]; rfl) rfl ⟨by simpa [T6] using hsl5.dif (fun b hb => (hno5 b hb).1) hle1, fun b hb => A28 hle1 (hno5 b hb)⟩)
 refine K5 ?_
 refine C0 ?_
 (have hc := of_decide_eq_true hQ; have hy2 := hyes hc; have hBt := hBl rfl; have hlen6 := hc.2.1; have hC := fun G cells hr => A7S t G cells hts hcnt hr; generalize (R8 t).length = N1 at *; have hp64 : 2 ^ N1 ≤ 2 ^ 6 := Nat.pow_le_pow_right (by decide) hlen6; refine J0 (fun (x : Nat × Option Addr × Nat × IM) => ⟨[(7, .int .i64 x.1), (6, .slice x.2.1 x.1 x.2.2.1), (1, .int .i64 fuel), (2, .pointer (some ⟨b3, 0, none⟩))], [.slc x.2.1 x.2.2.1 3 1 x.1 (T6 ((List.range x.1).map fun m => (O2 (P1 t m) fuel).2.1)), .blk b3 cells], x.2.2.2⟩) (fun x => x.1 ≤ 2 ^ N1 ∧ C2 G1 x.2.2.2) (fun x => 2 ^ N1 - x.1) (0, some ⟨b10, 0, none⟩, 0, G1) ?_ ?_ ?_)
 (simp only [H6]; exact D2)
 (exact ⟨Nat.zero_le _, C2.refl _⟩)
 (rintro ⟨(i : Nat), pn, cn, Gi⟩ ⟨hi, hle⟩; simp only [] at hi hle ⊢; replace hr := hr.mono hle)
 refine B4 ?_
 refine sL (A2 rfl rfl (A9 (by repeat first | exact mH | apply mT)) hl) rfl rfl ?_
 (refine D9 rfl (hC _ cells hr) rfl rfl (fun v2 G2 hle2 hh => ?_); subst hh; replace hr := hr.mono hle2)
 refine sP (A2l rfl rfl (by omega)) rfl rfl ?_
 refine sB (I8 rfl rfl) rfl rfl (fun h60 => ?_) (fun h60 => ?_)
 refine A8 ?_
 refine C0 ?_
 refine A3 ?_
 refine sL (A2 rfl rfl (A9 (by repeat first | exact mH | apply mT)) hl) rfl rfl ?_
 refine E3 ?_
 (refine D9 rfl (hBt i _ cells (by omega) hr) rfl rfl (fun v3 G3 hle3 hh => ?_); obtain ⟨cu, rfl, hru⟩ := hh; have hul := hru.len; have huo := hru.one; obtain ⟨s, cd, lb, hRu⟩ := hS i; have hI := B7t (P1 t i) fuel G3 cu (hbc i) hru; rw [hRu] at hI)
 refine B7 ?_
 refine sE (A7 rfl) rfl (fun b76 => ?_)
 refine sS rfl rfl rfl hul huo rfl ?_ (hu := by exact D4 hul.symm)
 refine B0 ?_
 refine sL (A2 rfl rfl (A9 (by repeat first | exact mH | apply mT)) hul) rfl rfl ?_
 refine E3 ?_
 (refine D9 rfl hI rfl rfl (fun v4 G4 hle4 hh => ?_); replace hh : v4 = .tuple ⟨[.string s, .int .i64 cd, .int .i64 lb]⟩ := hh; subst hh)
 refine K5 ?_
 (refine I3 (D0 rfl rfl rfl (by omega) (by unfold maxLen; omega) rfl) rfl ?_; rintro _ ⟨b98, rfl⟩)
 (refine Y5 rfl rfl rfl rfl rfl (fun _ _ => by repeat (first | exact Sw.here | apply Sw.there)) (M1 (by repeat first | exact mH | apply mT)) rfl (by simp [Value.oneCell']) (by unfold maxLen; omega) (by omega) rfl (fun p8 c8 => ?_))
 refine A8 ?_
 refine sP (H5 rfl rfl (by omega) (by omega)) rfl rfl ?_
 refine A3 ?_
 (refine I1 (i + 1, p8, c8, G4) (by rw [B1P, hRu, A4I]; exact (K2 (by repeat (first | exact D8.nil | refine D8.cons rfl ?_)) (by repeat (first | exact A0.refl | exact A0.nil | refine A0.cons (by repeat (first | exact Pk.here | apply Pk.there)) ?_ | apply A0.drop)))) ?_ ?_)
 (dsimp only; exact ⟨by omega, hle.trans (hle2.trans (hle3.trans hle4))⟩)
 (show 2 ^ N1 - (i + 1) < 2 ^ N1 - i; omega)
 refine I7 ?_
 (obtain rfl : i = 2 ^ N1 := (by omega); refine F0 (cs := T6 ((List.range (2 ^ N1)).map fun m => (O2 (P1 t m) fuel).2.1)) (by repeat (first | exact Pk.here | apply Pk.there)) (fun G9 hle9 hsl9 hno9 => ?_))
 refine tT ?_
 refine E9 (rT rfl) (rT rfl) ?_
 (exact IsP.mk (l := (List.range (2 ^ N1)).map fun m => (O2 (P1 t m) fuel).2.1) (by rw [hy2]; rfl) (by rw [hy2]; rfl) (by simp) ⟨by rw [List.length_map, List.length_range]; exact hsl9.dif (fun b hb => (hno9 b hb).1) (hle1.trans (hle.trans hle2)), fun b hb => A28 (hle1.trans (hle.trans hle2)) (hno9 b hb)⟩)
theorem B7S (G : IM) : Q1 G O8 [.int .i64 1, .slice none 0 0] [] := by
 simp only [O8, Q1, N8]
 exact ⟨none, 0, [], [], rfl, ⟨by omega, by omega⟩, D7.nil _ _, ⟨rfl, rfl⟩, rfl, by simp [J5]⟩
def B8B (t : Tm) : Tm × Bool := if N9 t = true ∨ O4 t = true then (A9D t, true) else (K7, false)
def erG : Tm → Tm
 | .mk k nm num ty fr lb ks => if A0u k = true then .mk k nm num O8 fr lb ks else .mk k nm num ty fr lb ks
def A2X (t : Tm) : Tm := A1p erG t
mutual
theorem B2b : ∀ (t : Tm) (l : List Ty), (∀ i, i < (H0 t).length → l.getD i B3 = O8) → S2 t l = A1p erG t
 | .mk k nm num ty fr lb ks, l, h => by
  rw [H0] at h
  rw [S2, A1p, erG]
  by_cases hk : k = 5 ∨ k = 13
  ·rw [if_pos hk] at h
   rw [if_pos hk, if_pos hk, if_pos (show A0u k = true from decide_eq_true hk), h 0 (by simp), A71 ks]
   intro i hi
   rw [← h (i + 1) (by simp; omega)]
   simp [List.getD_eq_getElem?_getD, List.getElem?_drop]
  ·rw [if_neg hk] at h
   rw [if_neg hk, if_neg hk, if_neg (show ¬ A0u k = true from fun hc => hk (of_decide_eq_true hc)), A71 ks l]
   intro i hi
   exact h i (by simpa using hi)
theorem A71 : ∀ (ts : List Tm) (l : List Ty), (∀ i, i < (I0 ts).length → l.getD i B3 = O8) → N4 ts l = A0B erG ts
 | [], _, _ => by rw [N4, A0B]
 | t :: ts, l, h => by
  rw [I0] at h
  rw [N4, A0B, B2b t l (fun i hi => h i (by rw [List.length_append]; omega)), A71 ts]
  intro i hi
  rw [← h ((H0 t).length + i) (by rw [List.length_append]; omega)]
  simp [List.getD_eq_getElem?_getD, List.getElem?_drop]
end
theorem B8C (e : Tm) : P1 e (2 ^ (H0 e).length - 1) = A2X e := by
 unfold P1 A2X
 refine B2b e _ fun i hi => ?_
 rw [A5G, if_pos hi, Nat.zero_add, if_pos ((B2a _ _).2 (by rw [Nat.testBit_two_pow_sub_one]; exact decide_eq_true hi))]
 rfl
theorem B7T (t : Tm) (G0 G1 : IM) (cells : List Value) (F : List Nat) (hle : C2 G0 G1) (hs : P2 (C5 G1 G0) t cells F) (hn : F.Nodup) :
  Fn Tryz.prog 76 [.agg ⟨cells⟩] [] G1 (K1 fun G2 v => G2 = G1 ∧ ∃ cells' F', v = .agg ⟨cells'⟩ ∧ P2 (C5 G1 G0) (erG t) cells' F' ∧ F'.Nodup) := by
 have hH := A7l t G1 cells (hs.R.mono (C5.le _ _))
 obtain ⟨k, nm, num, ty, fr, lb, ks⟩ := t
 have hs0 := hs
 have hbA : A0u k = true → erG (.mk k nm num ty fr lb ks) = .mk k nm num O8 fr lb ks := fun h => by rw [erG, if_pos h]
 have hbC : A0u k = false → erG (.mk k nm num ty fr lb ks) = .mk k nm num ty fr lb ks := fun h => by rw [erG, if_neg (by rw [h]; decide)]
 simp only [P2] at hs
 obtain ⟨tc, fc, p, c, es, F1, F2, Fs, rfl, hk, hnum, hlb, hty, hfr, hsl, hkl, rfl, hin⟩ := hs
 obtain ⟨pt, ct, rfl, htk, hts⟩ := hty.open
 obtain ⟨pf, cf, rfl, hfk, hfs⟩ := hfr.open
 have hH' : Fn Tryz.prog 77 [.agg ⟨[.int .i64 k, .string nm, .int .i64 num, .int .i64 ty.k, .slice pt ty.ks.length ct, .int .i64 fr.k, .slice pf fr.ks.length cf, .int .i64 lb, .slice p ks.length c]⟩] [] G1 (I5 (.bool (A0u k)) G1) := hH
 have hnd := hn
 rw [List.nodup_append, List.nodup_append] at hnd
 obtain ⟨n1, ⟨n2, n3, n4⟩, n5⟩ := hnd
 have hB : P2 (C5 G1 G0) (.mk k nm num O8 fr lb ks) [.int .i64 k, .string nm, .int .i64 num, .int .i64 1, .slice none 0 0, .int .i64 fr.k, .slice pf fr.ks.length cf, .int .i64 lb, .slice p ks.length c] ([] ++ (F2 ++ (J5 p ++ Fs))) := by
  simp only [P2]
  exact ⟨[.int .i64 1, .slice none 0 0], [.int .i64 fr.k, .slice pf fr.ks.length cf], p, c, es, [], F2, Fs, rfl, hk, hnum, hlb, B7S _, hfr, hsl, hkl, rfl, hin⟩
 have hBn : ([] ++ (F2 ++ (J5 p ++ Fs))).Nodup := by
  rw [List.nil_append, List.nodup_append]; exact ⟨n2, n3, n4⟩
 refine C1 Tryz.func76 rfl Tryz.ntmps76 Tryz.results76 rfl ?_
 intro w0
 refine A3 ?_
 refine sE (C7 rfl rfl) rfl (fun b3 => ?_)
 refine sE (A7 rfl) rfl (fun b4 => ?_)
 refine A8 ?_
 refine F4 rfl (hH') rfl rfl (fun h11 => ?_) (fun h11 => ?_)
 refine B4 ?_
 refine E8 rfl (A1d _ _) rfl rfl ?_
 refine J1 ?_
 refine M3 (rC rfl (A5 rfl rfl)) ?_
 (rw [hbA (by assumption)]; exact ⟨rfl, rfl, _, _, rfl, hB, hBn⟩)
 refine K5 ?_
 refine M3 (rC rfl (A5 rfl rfl)) ?_
 (rw [hbC (by assumption)]; exact ⟨rfl, rfl, _, _, rfl, hs0, hn⟩)
theorem B7U : A6D erG (fun _ => True) 76 [] [] := fun t G0 G1 cells F _ hle hs hn =>
 (B7T t G0 G1 cells F hle hs hn).mono fun G' v outs _ ⟨h1, h2, c', F', h3, h4, h5⟩ => ⟨h1, c', F', h3, by rw [h2]; exact h4, h5⟩
theorem B2c (t : Tm) (G : IM) (cells : List Value) (hv : N9 t = true) (hr : B1 G t cells) :
  Fn Tryz.prog 33 [.agg ⟨cells⟩] [] G (K1 fun G' v => ∃ cu, v = .tuple ⟨[.agg ⟨cu⟩, .bool true]⟩ ∧ B1 G' (A2X t) cu) := by
 have hl := hr.len
 have hone := hr.one
 have hV := A3V t G cells hr
 rw [hv] at hV
 have hM := A9x erG (fun _ => True) 76 [] [] B7U t G cells (A6C _ t) (A4p hv).1 hr
 refine C1 Tryz.func33 rfl Tryz.ntmps33 Tryz.results33 rfl ?_
 intro w0
 refine A3 ?_
 refine sE (C7 rfl rfl) rfl (fun b3 => ?_)
 refine sE (A7 rfl) rfl (fun b4 => ?_)
 refine A8 ?_
 refine sL (A2 rfl rfl (A9 (by repeat first | exact mH | apply mT)) hl) rfl rfl ?_
 refine E8 rfl (hV) rfl rfl ?_
 refine D1 ?_
 refine sL (A2 rfl rfl (A9 (by repeat first | exact mH | apply mT)) hl) rfl rfl ?_
 (refine D9 rfl hM rfl rfl (fun v G3 hle3 hh => ?_); obtain ⟨cells', F', rfl, hs', hnd'⟩ := hh; have hl' := hs'.R.len; have ho' := hs'.R.one)
 refine sS rfl rfl rfl hl' ho' rfl ?_ (hu := by exact D4 hl'.symm)
 refine B4 ?_
 refine E9 (rC rfl (A2 rfl rfl (A9 (by repeat first | exact mH | apply mT)) hl')) (rT rfl) ?_
 exact ⟨rfl, cells', rfl, hs'.R.mono (C5.le _ _)⟩
theorem B7V (t : Tm) (m : Nat) (G : IM) (cells : List Value) (hv : N9 t = true) (h6 : (H0 t).length ≤ 6) (hm : m < 2 ^ (H0 t).length) (hr : B1 G t cells) :
  Fn Tryz.prog 34 [.agg ⟨cells⟩, .int .i64 (m : Int)] [] G (K1 fun G' v => ∃ cu, v = .tuple ⟨[.agg ⟨cu⟩, .bool true]⟩ ∧ B1 G' (P1 t m) cu) := by
 have hl := hr.len
 have hone := hr.one
 have hV := A3V t G cells hr
 rw [hv] at hV
 have hf := A4p hv
 have hcnt := hf.2
 have hTy := A4k t G cells hf.1 (by omega) hr
 have hp6 : 2 ^ (H0 t).length ≤ 2 ^ 6 := Nat.pow_le_pow_right (by decide) h6
 have hB := fun G hr => B1O t m G cells hf.1 (by omega) (by omega) (by omega) hr
 obtain ⟨L, hL⟩ : ∃ L, (H0 t).length = L := ⟨_, rfl⟩
 rw [hL] at hp6 hm h6
 refine C1 Tryz.func34 rfl Tryz.ntmps34 Tryz.results34 rfl ?_
 intro w0
 refine A3 ?_
 refine sE (C7 rfl rfl) rfl (fun b3 => ?_)
 refine sE (A7 rfl) rfl (fun b4 => ?_)
 refine A8 ?_
 refine sL (A2 rfl rfl (A9 (by repeat first | exact mH | apply mT)) hl) rfl rfl ?_
 refine E8 rfl (hV) rfl rfl ?_
 refine B7 ?_
 refine sL (A2 rfl rfl (A9 (by repeat first | exact mH | apply mT)) hl) rfl rfl ?_
 (refine U6 rfl hTy rfl rfl (fun v1 G1 outs hle1 hh => ?_); obtain ⟨p1, c1, es1, rfl, rfl, hr1⟩ := hh; rw [hL]; replace hr := hr.mono hle1)
 refine E3 ?_
 refine sP (A2l rfl rfl (by omega)) rfl rfl ?_
 refine sP (O9 rfl rfl (by omega) (by omega)) rfl rfl ?_
 (have hW := A1c (m : Int) 0 (((2 ^ L : Nat) : Int) - 1) G1; rw [A1U.2 ⟨by omega, by omega⟩] at hW; refine E8 rfl hW rfl rfl ?_)
 refine E0 ?_
 refine sL (A2 rfl rfl (A9 (by repeat first | exact mH | apply mT)) hl) rfl rfl ?_
 refine E3 ?_
 (refine D9 rfl (hB _ hr) rfl rfl (fun v3 G3 hle3 hh => ?_); obtain ⟨cu, rfl, hru⟩ := hh; have hul := hru.len; have huo := hru.one)
 refine sS rfl rfl rfl hul huo rfl ?_ (hu := by exact D4 hul.symm)
 refine B4 ?_
 refine E9 (rC rfl (A2 rfl rfl (A9 (by repeat first | exact mH | apply mT)) hul)) (rT rfl) ?_
 exact ⟨rfl, cu, rfl, hru⟩
theorem B7W (t : Tm) (G : IM) (cells : List Value) (hts : t.small) (hcnt : D3 t ≤ 4000000) (hr : B1 G t cells) : Fn Tryz.prog 72 [.agg ⟨cells⟩] [] G (fun G' v outs => ∃ p c o, v = .slice p (R8 t).length c ∧ outs = o) := by
 have hl := hr.len
 have hone := hr.one
 have hv := A3V t G cells hr
 have hno : N9 t = false → R8 t = [] := fun h => by unfold R8; rw [h]; rfl
 have hyes : N9 t = true → R8 t = H0 t := fun h => by unfold R8; rw [h]; rfl
 refine C1 Tryz.func72 rfl Tryz.ntmps72 Tryz.results72 rfl ?_
 intro w0
 refine A3 ?_
 refine sE (C7 rfl rfl) rfl (fun b3 => ?_)
 refine A8 ?_
 refine sL (A2 rfl rfl (A9 (by repeat first | exact mH | apply mT)) hl) rfl rfl ?_
 refine F4 rfl (hv) rfl rfl (fun h11 => ?_) (fun h11 => ?_)
 refine D1 ?_
 refine sL (A2 rfl rfl (A9 (by repeat first | exact mH | apply mT)) hl) rfl rfl ?_
 (refine U6 rfl (A4k t G cells hts hcnt hr) rfl rfl (fun v3 G3 outs hle3 hh => ?_); obtain ⟨p3, c3, e3, rfl, rfl, hr3⟩ := hh)
 refine B4 ?_
 refine H9 (outs := [.slc p3 c3 34 2 (H0 t).length e3.flatten]) (rT rfl) (A0.cons (by repeat (first | exact Pk.here | apply Pk.there)) A0.nil) ?_
 (rw [hyes (by assumption)]; exact ⟨p3, c3, _, rfl, rfl⟩)
 refine K5 ?_
 (rw [hno (by assumption)]; exact ⟨_, _, _, rfl, rfl⟩)
theorem A5J (t : Tm) (G : IM) (cells : List Value) (hts : t.small) (hcnt : D3 t ≤ 4000000) (hr : B1 G t cells) : Fn Tryz.prog 30 [.agg ⟨cells⟩] [] G (K1 fun _ v => v = .int .i64 ((R8 t).length : Int)) := by
 have hl := hr.len
 have hone := hr.one
 refine C1 Tryz.func30 rfl Tryz.ntmps30 Tryz.results30 rfl ?_
 intro w0
 refine A3 ?_
 refine sE (C7 rfl rfl) rfl (fun b3 => ?_)
 refine B0 ?_
 refine sL (A2 rfl rfl (A9 (by repeat first | exact mH | apply mT)) hl) rfl rfl ?_
 (refine U6 rfl (B7W t G cells hts hcnt hr) rfl rfl (fun v1 G1 outs hle1 hh => ?_); obtain ⟨p1, c1, o1, rfl, rfl⟩ := hh)
 refine A8 ?_
 exact ⟨rfl, rfl⟩
theorem A2n {l l' : List Int} {b b' : Bool} {G G' : IM} {v : Value} (hl : l = l') (hb : b = b')
  (hh : ∃ p c, v = .tuple ⟨[.slice p l.length c, .bool b]⟩ ∧ SP1 (C5 G' G) l p c) :
  ∃ p c, v = .tuple ⟨[.slice p l'.length c, .bool b']⟩ ∧ SP1 (C5 G' G) l' p c := by subst hl hb; exact hh
def U5 (l : List Int) (i : Nat) : List Int := ((List.range i).filter fun j => decide (l.getD (l.length - 1 - 2 ^ j) 0 = 2 ∧ l.getD (l.length - 1) 0 ≠ 2)).map fun (j : Nat) => (j : Int)
def W8 (e : Tm) (fuel : Int) : Option (List Int) := (P9 e fuel).map fun l => U5 l (H0 e).length
theorem B2d {l : List Int} {i : Nat} (h : l.getD (l.length - 1 - 2 ^ i) 0 = 2) (h2 : l.getD (l.length - 1) 0 ≠ 2) : U5 l (i + 1) = U5 l i ++ [(i : Int)] := by
 unfold U5
 rw [List.range_succ, List.filter_append, List.map_append, List.filter_cons, if_pos (decide_eq_true ⟨h, h2⟩), List.filter_nil]
 rfl
theorem A5K {l : List Int} {i : Nat} (h : ¬(l.getD (l.length - 1 - 2 ^ i) 0 = 2 ∧ l.getD (l.length - 1) 0 ≠ 2)) : U5 l (i + 1) = U5 l i := by
 unfold U5
 rw [List.range_succ, List.filter_append, List.map_append, List.filter_cons, if_neg (by rw [decide_eq_false h]; decide), List.filter_nil, List.map_nil, List.append_nil]
theorem B2e {l : List Int} (h : l.getD (l.length - 1) 0 = 2) : ∀ i, U5 l i = []
 | 0 => rfl
 | i + 1 => by rw [A5K (fun hc => hc.2 h), B2e h i]
theorem A72 (l : List Int) : ∀ i, (U5 l i).length ≤ i := by
 intro i
 unfold U5
 rw [List.length_map]
 have := List.length_filter_le (fun j => decide (l.getD (l.length - 1 - 2 ^ j) 0 = 2 ∧ l.getD (l.length - 1) 0 ≠ 2)) (List.range i)
 rw [List.length_range] at this
 exact this
theorem A73 (e : Tm) : W7 e = none ∨ ((Q3 e).isSome = true ∧ (H0 e).length ≤ 6 ∧ W7 e = some (A0b e)) := by
 unfold W7
 split
 ·rename_i h; exact .inr ⟨h.1, h.2, rfl⟩
 ·exact .inl rfl
theorem B7X : ∀ n, n < 7 → ∀ i, i < n → (BitVec.ofInt 64 ((2 ^ n - 1 : Nat) : Int) &&& ~~~(BitVec.ofInt 64 ((2 ^ i : Nat) : Int))).toNat = 2 ^ n - 1 - 2 ^ i := by decide +kernel
section
variable {P : Program} {Γ : L7} {env : M2} {hp : List A6} {G : IM} {ty : TypeId}
theorem A2Y {x y : Operand} {t t' : TypeId} {m n : Nat} (hx : evo env x = some (.int .i64 (m : Int))) (hy : evo env y = some (.int .i64 (n : Int))) (h : n ≤ m) (hm : m ≤ 4294967296) :
  I4 P Γ ⟨env, hp, G⟩ (.binOp .sub t x y t') ty (.int .i64 ((m - n : Nat) : Int)) := by
 have := O9 (P := P) (Γ := Γ) (hp := hp) (G := G) (t := t) (t' := t') (ty := ty) hx hy (by omega) (by omega)
 rwa [show (m : Int) - (n : Int) = ((m - n : Nat) : Int) by omega] at this
theorem B7Y {x y : Operand} {t t' : TypeId} {n i : Nat} (hx : evo env x = some (.int .i64 ((2 ^ n - 1 : Nat) : Int))) (hy : evo env y = some (.int .i64 ((2 ^ i : Nat) : Int))) (hn : n < 7) (hi : i < n) :
  I4 P Γ ⟨env, hp, G⟩ (.binOp .andNot t x y t') ty (.int .i64 ((2 ^ n - 1 - 2 ^ i : Nat) : Int)) := by
 refine ⟨fun a _ hs _ _ _ _ w => ?_⟩
 have h1 := B7X n hn i hi
 have hb : IntKind.bits .i64 = 64 := rfl
 have hle : 2 ^ n - 1 - 2 ^ i ≤ 2 ^ 6 := Nat.le_trans (Nat.sub_le _ _) (Nat.le_trans (Nat.sub_le _ _) (Nat.pow_le_pow_right (by decide) (by omega)))
 have h2 : IntKind.wrap .i64 ((2 ^ n - 1 - 2 ^ i : Nat) : Int) = ((2 ^ n - 1 - 2 ^ i : Nat) : Int) := A04 _ rfl (by omega) (by omega)
 simp only [execOp, eqGuard, binOp, Op.intBits, (hs.evo hx : a.eval x = _), (hs.evo hy : a.eval y = _), ne_eq, not_true_eq_false, if_false]
 have h3 : (BitVec.ofInt (IntKind.bits .i64) ((2 ^ n - 1 : Nat) : Int) &&& ~~~BitVec.ofInt (IntKind.bits .i64) ((2 ^ i : Nat) : Int)).toNat = 2 ^ n - 1 - 2 ^ i := h1
 rw [h3, h2]
 rfl
end
theorem B2f {e : Tm} {fuel : Int} {l : List Int} (hl : l = (A0b e).map fun x => (O2 x fuel).2.1) {j : Nat} (hj : j < 2 ^ (H0 e).length) : l.getD j 0 = (O2 (P1 e j) fuel).2.1 := by
 subst hl
 unfold A0b
 rw [List.getD_eq_getElem?_getD, List.getElem?_map, List.getElem?_map, List.getElem?_range hj]
 rfl
theorem B7Z (e : Tm) (fuel : Int) (G : IM) (cells : List Value) (hts : e.small) (hcnt : D3 e ≤ 4000000) (hT : X1 G) (hr : B1 G e cells) :
  Fn Tryz.prog 32 [.agg ⟨cells⟩, .int .i64 fuel] [] G (IsP ((W8 e fuel).getD []) (W8 e fuel).isSome G) := by
 have hl := hr.len
 have hone := hr.one
 have hC := B1R e G cells hts hcnt hr
 have hTy := fun G hr => A4k e G cells hts hcnt hr
 obtain ⟨n, hn⟩ : ∃ n, (H0 e).length = n := ⟨_, rfl⟩
 have hno : W7 e = none ∨ O7 fuel 0 300 = false → W8 e fuel = none := fun h => by
  unfold W8 P9
  rcases h with h | h
  ·rw [h]; split <;> rfl
  ·rw [if_neg (by rw [h]; decide)]; rfl
 obtain ⟨l, hl0⟩ : ∃ l, l = (A0b e).map fun x => (O2 x fuel).2.1 := ⟨_, rfl⟩
 have hll : l.length = 2 ^ n := by rw [hl0, ← hn]; simp [A0b]
 have hyes : W7 e = some (A0b e) → O7 fuel 0 300 = true → W8 e fuel = some (U5 l n) := fun h h2 => by
  unfold W8 P9
  rw [if_pos h2, h, ← hn, hl0]; rfl
 have hget : ∀ j, j < 2 ^ n → l.getD j 0 = (O2 (P1 e j) fuel).2.1 := fun j hj => B2f hl0 (by rw [hn]; exact hj)
 have hcl : (A0b e).length = 2 ^ n := by rw [← hn]; simp [A0b]
 have hcg : ∀ j (h : j < (A0b e).length), (A0b e)[j] = P1 e j := fun j h => by simp [A0b]
 have hcs := A73 e
 have hfl := A72 l
 clear hl0
 generalize W8 e fuel = R at *
 refine C1 Tryz.func32 rfl Tryz.ntmps32 Tryz.results32 rfl ?_
 intro w0
 refine A3 ?_
 refine sE (C7 rfl rfl) rfl (fun b3 => ?_)
 refine A8 ?_
 refine sL (A2 rfl rfl (A9 (by repeat first | exact mH | apply mT)) hl) rfl rfl ?_
 focus (refine U6 rfl hC rfl rfl (fun v1 G1 outs hle1 hh => ?_); obtain ⟨rfl, p1, c1, e1, rfl, hs1, hr1⟩ := hh; replace hr := hr.mono hle1; replace hT := hT.mono hle1; rcases hcs with hcn | ⟨hty, hn6, hcs⟩; (rw [hcn] at hs1 hr1 ⊢; rotate_left); (rw [hcs] at hs1 hr1 ⊢; simp only [Option.getD_some] at hs1 hr1 ⊢; rw [hcl] at hs1 ⊢; rw [hn] at hn6; obtain ⟨M, hM⟩ : ∃ M, 2 ^ n = M := ⟨_, rfl⟩; have hM1 : 1 ≤ M := (by rw [← hM]; exact Nat.one_le_two_pow); have hM2 : M ≤ 64 := (by rw [← hM]; exact Nat.pow_le_pow_right (by decide) hn6)); rotate_left)
 refine A59 ?_
 refine E9 (rT rfl) (rT rfl) ?_
 (exact IsP.mk (by rw [hno (.inl hcn)]; rfl) (by rw [hno (.inl hcn)]; rfl) rfl (SP1.nil _))
 refine J9 ?_
 refine F4 rfl (A7g fuel _) rfl rfl (fun h56 => ?_) (fun h56 => ?_)
 refine J1 ?_
 refine sP (A2Y (m := 2 ^ n) (n := 1) rfl rfl (by omega) (by omega)) rfl rfl ?_
 refine D1 ?_
 (obtain ⟨b, o, ec, rfl, hel, hat, hre, hgb⟩ := hs1.kidTm hr1 (i := 2 ^ n - 1) (by omega) (by omega); rw [hcg] at hre; have heo := hre.one; have hy2 := hyes hcs (by assumption); refine sP (B6 (j := 2 ^ n - 1) rfl rfl rfl (by omega)) rfl rfl ?_)
 refine sL (A2 rfl rfl (hat _) hel) rfl rfl ?_
 refine E3 ?_
 (refine D9 rfl (A7N _ fuel _ _ hT hre) rfl rfl (fun v2 G2 hle2 hh => ?_); subst hh; have hg1 := hget (2 ^ n - 1) (by omega); rw [← hg1]; have hlast : l.length - 1 = 2 ^ n - 1 := (by rw [hll]); replace hr := hr.mono hle2; replace hT := hT.mono hle2)
 refine sB (qE rfl rfl) rfl rfl (fun h81 => ?_) (fun h81 => ?_)
 refine J1 ?_
 refine E9 (rT rfl) (rT rfl) ?_
 (exact IsP.mk (l := []) (by rw [hy2, B2e (by rw [hlast]; assumption)]; rfl) (by rw [hy2]; rfl) rfl (SP1.nil _))
 refine J7 ?_
 refine sL (A2 rfl rfl (A9 (by repeat first | exact mH | apply mT)) hl) rfl rfl ?_
 (refine U6 rfl (hTy _ hr) rfl rfl (fun v3 G3 outs hle3 hh => ?_); obtain ⟨p3, c3, es3, rfl, rfl, hr3⟩ := hh; rw [hn]; replace hT := hT.mono hle3)
 refine B4 ?_
 refine C0 ?_
 (refine Q9 3 1 ?_; refine J0 (fun (x : Nat × Nat × Option Addr × Nat × IM) => ⟨[(36, .int .i64 x.1), (35, .int .i64 n), (9, .slice x.2.2.1 x.2.1 x.2.2.2.1), (8, .int .i64 ((2 ^ n - 1 : Nat) : Int)), (6, .slice (some ⟨b, o, none⟩) (2 ^ n) c1), (1, .int .i64 fuel)], [.slc x.2.2.1 x.2.2.2.1 3 1 x.2.1 (T6 (U5 l x.1))], x.2.2.2.2⟩) (fun x => x.1 ≤ n ∧ C2 G3 x.2.2.2.2 ∧ x.2.1 = (U5 l x.1).length) (fun x => n - x.1) (0, 0, none, 0, G3) ?_ ?_ ?_)
 (simp only [H6]; exact D2)
 (exact ⟨Nat.zero_le _, C2.refl _, rfl⟩)
 (rintro ⟨(i : Nat), (m : Nat), pn, cn, Gi⟩ ⟨hi, hle, hmn⟩; simp only [] at hi hle hmn ⊢; have hfi := hfl i)
 refine A3 ?_
 refine sB (I8 rfl rfl) rfl rfl (fun h121 => ?_) (fun h121 => ?_)
 refine B5 ?_
 refine C0 ?_
 refine J1 ?_
 refine sP (A2l rfl rfl (by omega)) rfl rfl ?_
 refine sP (B7Y (n := n) (i := i) rfl rfl (by omega) (by omega)) rfl rfl ?_
 (have hpe : 2 ^ n - 1 - 2 ^ i < 2 ^ n := Nat.lt_of_le_of_lt (Nat.sub_le _ _) (Nat.sub_lt (Nat.two_pow_pos n) (by decide)); obtain ⟨b9, o9, e9, hq9, hel9, hat9, hre9, hgb9⟩ := (hs1.mono (hle2.trans (hle3.trans hle))).kidTm (hr1.mono (hle2.trans (hle3.trans hle))) (i := 2 ^ n - 1 - 2 ^ i) hpe (by rw [hcl]; exact hpe); cases hq9; rw [hcg] at hre9; have heo9 := hre9.one; refine sP (B6 (j := 2 ^ n - 1 - 2 ^ i) rfl rfl rfl hpe) rfl rfl ?_)
 refine sL (A2 rfl rfl (hat9 _) hel9) rfl rfl ?_
 refine E3 ?_
 (refine D9 rfl (A7N _ fuel _ _ (hT.mono hle) hre9) rfl rfl (fun v7 G7 hle7 hh => ?_); subst hh; have hg9 := hget (2 ^ n - 1 - 2 ^ i) hpe; rw [← hg9])
 refine sB (qE rfl rfl) rfl rfl (fun h147 => ?_) (fun h147 => ?_)
 refine A8 ?_
 (refine I3 (D0 rfl rfl rfl (by omega) (by unfold maxLen; omega) rfl) rfl ?_; rintro _ ⟨b154, rfl⟩)
 (refine Y5 rfl rfl rfl rfl rfl (fun _ _ => by repeat (first | exact Sw.here | apply Sw.there)) (M1 (by repeat first | exact mH | apply mT)) rfl (by simp [Value.oneCell']) (by unfold maxLen; omega) (by omega) rfl (fun p8 c8 => ?_))
 refine B0 ?_
 refine sP (H5 rfl rfl (by omega) (by omega)) rfl rfl ?_
 refine A3 ?_
 (have hst := B2d (l := l) (i := i) (by rw [hlast]; assumption) (by rw [hlast]; assumption); refine I1 (i + 1, m + 1, p8, c8, G7) (by rw [hst, A4I]; exact (K2 (by repeat (first | exact D8.nil | refine D8.cons rfl ?_)) (by repeat (first | exact A0.refl | exact A0.nil | refine A0.cons (by repeat (first | exact Pk.here | apply Pk.there)) ?_ | apply A0.drop)))) ?_ ?_)
 (dsimp only; exact ⟨by omega, hle.trans hle7, by rw [hst]; simp only [List.length_append, List.length_singleton]; omega⟩)
 (show n - (i + 1) < n - i; omega)
 refine B5 ?_
 refine sP (H5 rfl rfl (by omega) (by omega)) rfl rfl ?_
 refine A3 ?_
 (have hst := A5K (l := l) (i := i) (fun hc => by rw [hlast] at hc; exact absurd hc.1 (by assumption)); refine I1 (i + 1, m, pn, cn, G7) (by rw [hst]; exact (K2 (by repeat (first | exact D8.nil | refine D8.cons rfl ?_)) (by repeat (first | exact A0.refl | exact A0.nil | refine A0.cons (by repeat (first | exact Pk.here | apply Pk.there)) ?_ | apply A0.drop)))) ?_ ?_)
 (dsimp only; exact ⟨by omega, hle.trans hle7, by rw [hst]; exact hmn⟩)
 (show n - (i + 1) < n - i; omega)
 refine K0 ?_
 (obtain rfl : i = n := (by omega); refine F0 (cs := T6 (U5 l i)) (by repeat (first | exact Pk.here | apply Pk.there)) (fun G9 hle9 hsl9 hno9 => ?_))
 refine tT ?_
 refine E9 (rT rfl) (rT rfl) ?_
 (exact IsP.mk (l := U5 l i) (by rw [hy2]; rfl) (by rw [hy2]; rfl) hmn ⟨by rw [← hmn]; exact hsl9.dif (fun b hb => (hno9 b hb).1) (hle1.trans (hle2.trans (hle3.trans hle))), fun b hb => A28 (hle1.trans (hle2.trans (hle3.trans hle))) (hno9 b hb)⟩)
 refine J7 ?_
 refine E9 (rT rfl) (rT rfl) ?_
 (exact IsP.mk (by rw [hno (.inr (by assumption))]; rfl) (by rw [hno (.inr (by assumption))]; rfl) rfl (SP1.nil _))
theorem B70 (e : Tm) (fuel : Int) : P9 e fuel = none ∨ ∃ l, P9 e fuel = some l ∧ l.length = 2 ^ (H0 e).length ∧ (H0 e).length ≤ 6 := by
 unfold P9
 split
 ·rcases A73 e with h | ⟨_, h2, h⟩
  ·rw [h]; exact .inl rfl
  ·rw [h]; exact .inr ⟨_, rfl, by simp [A0b], h2⟩
 ·exact .inl rfl
theorem B71 (t : Tm) (fuel : Int) (G : IM) (cells : List Value) (hts : t.small) (hcnt : D3 t ≤ 4000000) (hr : B1 G t cells) :
  Fn Tryz.prog 31 [.agg ⟨cells⟩, .int .i64 fuel] [] G (IsP ((W8 t fuel).getD []) (W8 t fuel).isSome G) := by
 have hlen := hr.len
 have hone := hr.one
 have hC := A5I t fuel G cells hts hcnt hr
 have hcs := B70 t fuel
 obtain ⟨n, hn⟩ : ∃ n, (H0 t).length = n := ⟨_, rfl⟩
 rw [hn] at hcs
 have hno : P9 t fuel = none → W8 t fuel = none := fun h => by unfold W8; rw [h]; rfl
 have hyes : ∀ l, P9 t fuel = some l → W8 t fuel = some (U5 l n) := fun l h => by unfold W8; rw [h, ← hn]; rfl
 have hfl := A72
 generalize W8 t fuel = R at *
 refine C1 Tryz.func31 rfl Tryz.ntmps31 Tryz.results31 rfl ?_
 intro w0
 refine A3 ?_
 refine sE (C7 rfl rfl) rfl (fun b3 => ?_)
 refine A8 ?_
 (refine I3 (D0 rfl rfl rfl (by omega) (by unfold maxLen; omega) rfl) rfl ?_; rintro _ ⟨b10, rfl⟩)
 refine B0 ?_
 refine sL (A2 rfl rfl (A9 (by repeat first | exact mH | apply mT)) hlen) rfl rfl ?_
 refine E3 ?_
 focus (refine D9 rfl hC rfl rfl (fun v1 G1 hle1 hh => ?_); obtain ⟨p7, c7, rfl, hsp⟩ := hh; rcases hcs with hrn | ⟨l, hrs, hll, hn6⟩; (rw [hrn] at hsp ⊢; rotate_left); (rw [hrs] at hsp ⊢; simp only [Option.getD_some] at hsp ⊢; have hs7 : Sl G1 p7 l.length c7 1 (T6 l) := hsp.1.mono (C5.le _ _); have hl1 : 1 ≤ l.length := (by rw [hll]; exact Nat.one_le_two_pow); have hl64 : l.length ≤ 64 := (by rw [hll]; exact Nat.pow_le_pow_right (by decide) hn6); obtain ⟨b7, o7, v7, rfl, _⟩ := hs7.kid (i := 0) (by omega); rotate_left))
 refine J7 ?_
 refine C0 ?_
 (have hguard := hrn; refine J0 (fun (x : Nat) => ⟨[(9, .int .i64 x), (8, .bool false), (6, .slice (some ⟨b10, 0, none⟩) 0 0)], [.slc (some ⟨b10, 0, none⟩) 0 3 1 0 []], G1⟩) (fun x => x = 0) (fun x => 0) 0 ?_ ?_ ?_)
 exact D2
 (exact rfl)
 (rintro (i : Nat) hi0)
 refine A58 ?_
 (have hguard := hrn; refine F0 (cs := []) (by repeat (first | exact Pk.here | apply Pk.there)) (fun G5 hle5 hsl5 hno5 => ?_))
 refine tT ?_
 refine E9 (rT rfl) (rT rfl) ?_
 (exact IsP.mk (l := []) (by rw [hno hrn]; rfl) (by rw [hno hrn]; rfl) rfl ⟨by simpa [T6] using hsl5.dif (fun b hb => (hno5 b hb).1) hle1, fun b hb => A28 hle1 (hno5 b hb)⟩)
 refine J7 ?_
 refine C0 ?_
 (have hguard := hll; refine J0 (fun (x : Nat × Nat × Option Addr × Nat) => ⟨[(9, .int .i64 x.1), (8, .bool true), (7, .slice (some ⟨b7, o7, none⟩) l.length c7), (6, .slice x.2.2.1 x.2.1 x.2.2.2)], [.slc x.2.2.1 x.2.2.2 3 1 x.2.1 (T6 (U5 l x.1))], G1⟩) (fun x => x.1 ≤ n ∧ x.2.1 = (U5 l x.1).length) (fun x => n - x.1) (0, 0, some ⟨b10, 0, none⟩, 0) ?_ ?_ ?_)
 (simp only [H6]; exact D2)
 (exact ⟨Nat.zero_le _, rfl⟩)
 (rintro ⟨(i : Nat), (m : Nat), pn, cn⟩ ⟨hi, hmn⟩; simp only [] at hi hmn ⊢; have hfi := hfl l i; have key : i < n ↔ 2 ^ i < l.length := (by rw [hll]; exact (Nat.pow_lt_pow_iff_right (by decide)).symm))
 refine A8 ?_
 refine sP (A2l rfl rfl (by omega)) rfl rfl ?_
 refine A3 ?_
 refine sB (I8 rfl rfl) rfl rfl (fun h95 => ?_) (fun h95 => ?_)
 refine B5 ?_
 refine C0 ?_
 refine B0 ?_
 refine sP (A2Y (m := l.length) (n := 1) rfl rfl hl1 (by omega)) rfl rfl ?_
 refine E3 ?_
 refine sP (A2l rfl rfl (by omega)) rfl rfl ?_
 (have hin : i < n := key.2 (Int.ofNat_lt.1 (by assumption)); have hpl := key.1 hin; obtain ⟨D, hD⟩ : ∃ D, l.length - 1 - 2 ^ i = D := ⟨_, rfl⟩; have hDl : D < l.length := (by rw [← hD]; exact Nat.lt_of_le_of_lt (Nat.sub_le _ _) (Nat.sub_lt (by omega) (by decide))); refine sP (A2Y (m := l.length - 1) (n := 2 ^ i) rfl rfl (Nat.le_sub_one_of_lt hpl) (by omega)) rfl rfl ?_; rw [hD])
 (obtain ⟨b9, o9, v9, hq9, hv9, hat9, hgb9⟩ := hs7.kid (i := D) hDl; cases hq9; obtain ⟨hx9, rfl⟩ := A29 hv9; have hg9 : l.getD D 0 = l[D] := (by rw [List.getD_eq_getElem?_getD, List.getElem?_eq_getElem hx9, Option.getD_some]); rw [← hg9] at hat9; obtain ⟨Z9, hZ9⟩ : ∃ Z, l.getD D 0 = Z := ⟨_, rfl⟩; rw [hZ9] at hat9; refine sP (B6 (j := D) rfl rfl rfl hDl) rfl rfl ?_)
 refine sL (T3 rfl rfl (hat9 _)) rfl rfl ?_
 refine sB (qE rfl rfl) rfl rfl (fun h115 => ?_) (fun h115 => ?_)
 refine B4 ?_
 refine sP (A2Y (m := l.length) (n := 1) rfl rfl hl1 (by omega)) rfl rfl ?_
 (obtain ⟨b8, o8, v8, hq8, hv8, hat8, hgb8⟩ := hs7.kid (i := l.length - 1) (by omega); cases hq8; obtain ⟨hx8, rfl⟩ := A29 hv8; have hg8 : l.getD (l.length - 1) 0 = l[l.length - 1] := (by rw [List.getD_eq_getElem?_getD, List.getElem?_eq_getElem hx8, Option.getD_some]); rw [← hg8] at hat8; refine sP (B6 (j := l.length - 1) rfl rfl rfl (by omega)) rfl rfl ?_)
 refine sL (T3 rfl rfl (hat8 _)) rfl rfl ?_
 refine sB (N5 rfl rfl) rfl rfl (fun h123 => ?_) (fun h123 => ?_)
 refine B5 ?_
 (refine I3 (D0 rfl rfl rfl (by omega) (by unfold maxLen; omega) rfl) rfl ?_; rintro _ ⟨b131, rfl⟩)
 (refine Y5 rfl rfl rfl rfl rfl (fun _ _ => by repeat (first | exact Sw.here | apply Sw.there)) (M1 (by repeat first | exact mH | apply mT)) rfl (by simp [Value.oneCell']) (by unfold maxLen; omega) (by omega) rfl (fun p8 c8 => ?_))
 refine A8 ?_
 refine sP (H5 rfl rfl (by omega) (by omega)) rfl rfl ?_
 refine A3 ?_
 (have hst := B2d (l := l) (i := i) (by rw [hD, hZ9]; assumption) (by assumption); refine I1 (i + 1, m + 1, p8, c8) (by rw [hst, A4I]; exact (K2 (by repeat (first | exact D8.nil | refine D8.cons rfl ?_)) (by repeat (first | exact A0.refl | exact A0.nil | refine A0.cons (by repeat (first | exact Pk.here | apply Pk.there)) ?_ | apply A0.drop)))) ?_ ?_)
 (dsimp only; exact ⟨by omega, by rw [hst]; simp only [List.length_append, List.length_singleton]; omega⟩)
 (show n - (i + 1) < n - i; omega)
 refine E0 ?_
 refine sP (H5 rfl rfl (by omega) (by omega)) rfl rfl ?_
 refine A3 ?_
 (have hst := A5K (l := l) (i := i) (fun hc => by rw [hD, hZ9] at hc; first | exact absurd hc.1 (by assumption) | exact absurd (by assumption) hc.2 | omega); refine I1 (i + 1, m, pn, cn) (by rw [hst]; exact (K2 (by repeat (first | exact D8.nil | refine D8.cons rfl ?_)) (by repeat (first | exact A0.refl | exact A0.nil | refine A0.cons (by repeat (first | exact Pk.here | apply Pk.there)) ?_ | apply A0.drop)))) ?_ ?_)
 (dsimp only; exact ⟨by omega, by rw [hst]; exact hmn⟩)
 (show n - (i + 1) < n - i; omega)
 refine Q5 ?_
 refine sP (H5 rfl rfl (by omega) (by omega)) rfl rfl ?_
 refine A3 ?_
 (have hst := A5K (l := l) (i := i) (fun hc => by rw [hD, hZ9] at hc; first | exact absurd hc.1 (by assumption) | exact absurd (by assumption) hc.2 | omega); refine I1 (i + 1, m, pn, cn) (by rw [hst]; exact (K2 (by repeat (first | exact D8.nil | refine D8.cons rfl ?_)) (by repeat (first | exact A0.refl | exact A0.nil | refine A0.cons (by repeat (first | exact Pk.here | apply Pk.there)) ?_ | apply A0.drop)))) ?_ ?_)
 (dsimp only; exact ⟨by omega, by rw [hst]; exact hmn⟩)
 (show n - (i + 1) < n - i; omega)
 refine Q5 ?_
 (have hni : ¬ i < n := fun h => absurd (Int.ofNat_lt.2 (key.1 h)) (by assumption); obtain rfl : i = n := (by omega); refine F0 (cs := T6 (U5 l i)) (by repeat (first | exact Pk.here | apply Pk.there)) (fun G9 hle9 hsl9 hno9 => ?_))
 refine tT ?_
 refine E9 (rT rfl) (rT rfl) ?_
 (exact IsP.mk (l := U5 l i) (by rw [hyes l hrs]; rfl) (by rw [hyes l hrs]; rfl) hmn ⟨by rw [← hmn]; exact hsl9.dif (fun b hb => (hno9 b hb).1) hle1, fun b hb => A28 hle1 (hno9 b hb)⟩)
structure A5L (e : Tm) (fuel : Int) (l : List Int) (n : Nat) : Prop where
 typed : (Q3 e).isSome = true
 valid : N9 e = true
 fok : O7 fuel 0 300 = true
 slots : (H0 e).length = n
 n6 : n ≤ 6
 len : l.length = 2 ^ n
 get : ∀ i, i < 2 ^ n → l.getD i 0 = (O2 (P1 e i) fuel).2.1
theorem A5M {e : Tm} {fuel : Int} {l : List Int} (h : P9 e fuel = some l) : A5L e fuel l (H0 e).length := by
 unfold P9 at h
 split at h
 ·rename_i hf
  rcases A73 e with hc | ⟨h1, h2, hc⟩
  ·rw [hc] at h; cases h
  ·rw [hc] at h
   simp only [Option.map_some, Option.some.injEq] at h
   have hl : l.length = 2 ^ (H0 e).length := by rw [← h]; simp [A0b]
   exact ⟨h1, A7W h1, hf, rfl, h2, hl, fun i hi => B2f h.symm hi⟩
 ·cases h
theorem A74 {e : Tm} {fuel : Int} {l : List Int} (hl : (P9 e fuel).getD [] = l) (hb : (P9 e fuel).isSome = true) : P9 e fuel = some l := by
 cases h : P9 e fuel with
 | none => rw [h] at hb; cases hb
 | some x => rw [h] at hl; rw [← hl]; rfl
section
variable {e : Tm} {fuel : Int} {l : List Int} {n : Nat}
theorem A5L.slots' (h : A5L e fuel l n) : (R8 e).length = n := by rw [A2W h.valid, h.slots]
theorem A5L.getE (h : A5L e fuel l n) {i : Nat} (hi : i < l.length) : l[i] = (O2 (P1 e i) fuel).2.1 := by
 rw [← h.get i (by rw [← h.len]; exact hi), List.getD_eq_getElem?_getD, List.getElem?_eq_getElem hi]; rfl
theorem A5L.less (h : A5L e fuel l n) {i k : Nat} (hi : i < l.length) (hk : k < l.length) (hm : i &&& k = i) (h0 : l[i] = 0) : l[k] ≠ 2 := by
 rw [h.getE hk]
 rw [h.getE hi] at h0
 exact B8z h.valid h.fok (B8A hm) h0
theorem A5L.first (h : A5L e fuel l n) (h0 : 0 < l.length) : l[0] = (O2 e fuel).2.1 := by rw [h.getE h0, B8y]
theorem A5L.last (h : A5L e fuel l n) (h0 : l.length - 1 < l.length) : l[l.length - 1] = (O2 (A2X e) fuel).2.1 := by
 rw [h.getE h0, ← B8C, h.len, h.slots]
theorem A5L.bits (_ : A5L e fuel l n) {i : Nat} (hi : i < 2 ^ n) : ∀ j, (i / 2 ^ j) % 2 = 1 → ((2 ^ n - 1) / 2 ^ j) % 2 = 1 := by
 intro j hj
 rw [B2a] at hj ⊢
 rw [Nat.testBit_two_pow_sub_one]
 refine decide_eq_true (Classical.byContradiction fun hn => ?_)
 rw [Nat.testBit_lt_two_pow (Nat.lt_of_lt_of_le hi (Nat.pow_le_pow_right (by decide) (by omega)))] at hj
 cases hj
theorem A5L.text (h : A5L e fuel l n) {i : Nat} (hi : i < l.length) (h0 : (O2 (P1 e i) fuel).2.1 = 0) (h1 : (O2 (A2X e) fuel).2.1 = 0) : (O2 (A2X e) fuel).1 = (O2 (P1 e i) fuel).1 := by
 rw [h.len] at hi
 have := B7v (B7N h.valid (h.bits hi)) h.fok h0
 rw [← h.slots, B8C] at this
 rcases this with ⟨_, g⟩ | g | g
 ·exact g
 ·omega
 ·omega
theorem A5L.fail (h : A5L e fuel l n) {j : Nat} (hj : j < n) (h2 : l.getD (l.length - 1 - 2 ^ j) 0 = 2) : (O2 e fuel).2.1 ≠ 0 := by
 intro h0
 have hp : 2 ^ j < 2 ^ n := (Nat.pow_lt_pow_iff_right (by decide)).2 hj
 rw [h.get _ (by rw [h.len]; exact Nat.lt_of_le_of_lt (Nat.sub_le _ _) (Nat.sub_lt (Nat.two_pow_pos n) (by decide)))] at h2
 refine B8z (m := 0) h.valid h.fok (fun i hi => ?_) (by rw [B8y]; exact h0) h2
 rw [Nat.zero_div] at hi; cases hi
end
theorem B2g {l : List Int} {i : Nat} {x : Int} (h : x ∈ U5 l i) : ∃ j, j < i ∧ x = (j : Int) ∧ l.getD (l.length - 1 - 2 ^ j) 0 = 2 := by
 unfold U5 at h
 obtain ⟨j, h1, h2⟩ := List.mem_map.1 h
 obtain ⟨h3, h4⟩ := List.mem_filter.1 h1
 exact ⟨j, List.mem_range.1 h3, h2.symm, (of_decide_eq_true h4).1⟩
theorem B72 (l : List Int) (i : Nat) : (U5 l i).Pairwise (· < ·) := by
 unfold U5
 refine List.pairwise_map.2 ?_
 refine List.Pairwise.imp (fun h => Int.ofNat_lt.2 h) ?_
 exact List.Pairwise.filter _ List.pairwise_lt_range
theorem B73 {e : Tm} {fuel : Int} {l : List Int} (hl : (W8 e fuel).getD [] = l) (hb : (W8 e fuel).isSome = true) : ∃ r, A5L e fuel r (H0 e).length ∧ l = U5 r (H0 e).length := by
 unfold W8 at hl hb
 cases h : P9 e fuel with
 | none => rw [h] at hb; cases hb
 | some x => rw [h] at hl; exact ⟨x, A5M h, hl.symm⟩
structure B74 (e : Tm) (fuel : Int) (l : List Int) : Prop where
 typed : (Q3 e).isSome = true
 valid : N9 e = true
 rng : ∀ i (h : i < l.length), 0 ≤ l[i] ∧ l[i] < ((R8 e).length : Int)
 inc : ∀ i (h : i < l.length), 0 < i → l[i - 1] < l[i]
 no : 0 < l.length → (O2 e fuel).2.1 ≠ 0
 len : l.length ≤ 30
theorem B75 {e : Tm} {fuel : Int} {l : List Int} (hl : (W8 e fuel).getD [] = l) (hb : (W8 e fuel).isSome = true) : B74 e fuel l := by
 obtain ⟨r, h, rfl⟩ := B73 hl hb
 refine ⟨h.typed, h.valid, fun i hi => ?_, fun i hi h0 => ?_, fun h0 => ?_, ?_⟩
 ·obtain ⟨j, h1, h2, _⟩ := B2g (List.getElem_mem hi)
  rw [h2, h.slots']; omega
 ·exact List.pairwise_iff_getElem.1 (B72 r _) (i - 1) i (by omega) hi (by omega)
 ·obtain ⟨j, h1, h2, h3⟩ := B2g (List.getElem_mem h0)
  exact h.fail h1 h3
 ·have := A72 r (H0 e).length; have := h.n6; omega
def B8D (G : IM) : IM → Value → List A6 → Prop := K1 fun G' v => ∃ a ca b cb f, v = .tuple ⟨[.agg ⟨ca⟩, .agg ⟨cb⟩, .int .i64 f]⟩ ∧ B1 G' a ca ∧ a.fit 1100 ∧ B1 G' b cb ∧ b.fit 1100 ∧ F8 f
def B8E (G : IM) : IM → Value → List A6 → Prop := K1 fun G' v => ∃ a ca b cb d cd, v = .tuple ⟨[.agg ⟨ca⟩, .agg ⟨cb⟩, .agg ⟨cd⟩]⟩ ∧ B1 G' a ca ∧ a.fit 1100 ∧ B1 G' b cb ∧ b.fit 1100 ∧ B1 G' d cd ∧ d.fit 1100
def B2h (N : Nat) (G : IM) : IM → Value → List A6 → Prop := K1 fun G' v => ∃ a ca f, v = .tuple ⟨[.agg ⟨ca⟩, .int .i64 f]⟩ ∧ B1 G' a ca ∧ a.fit N ∧ F8 f
theorem B76 (br : Nat) (pb : Option Addr) (nb cb : Nat) (bs : List UInt8) (hnb : nb ≤ 2000) (p : Nat) (G : IM) (hb : Sl G pb nb cb 1 (M7 bs)) (hp : p < 1099511627776) :
  Fn Tryz.prog 71 [.pointer (some ⟨br, 0, none⟩)] [rd br pb nb cb p] G
   (A0h br pb nb cb p 1 (fun _ v => ∃ k, v = .int .i64 k ∧ F8 k)) := by
 refine C1 Tryz.func71 rfl Tryz.ntmps71 Tryz.results71 rfl ?_
 intro w0
 refine D1 ?_
 (refine I3 (D0 rfl rfl rfl (by omega) (by unfold maxLen; omega) rfl) rfl ?_; rintro _ ⟨b9, rfl⟩)
 (refine R9 (by repeat (first | exact Pk.here | apply Pk.there)) (fun Gf hlef hslf _ => ?_); refine J2 rfl (Z0 Gf br pb nb cb p bs _ _ _ _ (hb.mono hlef) hnb (by omega) hslf (by decide)) (Pk.perm (by repeat (first | exact Pk.here | apply Pk.there))) rfl rfl (fun v Gm outs hlen hh => ?_); obtain ⟨rfl, rfl, hv⟩ := hh; obtain ⟨kn, rfl, hkn⟩ : ∃ k, v = .int .i64 k ∧ F8 k := (by simp only [List.mem_cons, List.not_mem_nil, or_false] at hv; rcases hv with rfl | rfl | rfl | rfl | rfl | rfl | rfl <;> exact ⟨_, rfl, by unfold F8; omega⟩))
 refine B4 ?_
 refine H9 (outs := [rd br pb nb cb (p + 1)]) (rT rfl) (by repeat (first | exact A0.nil | refine A0.cons Pk.here ?_ | refine A0.cons (Pk.there Pk.here) ?_ | refine A0.cons (Pk.there (Pk.there Pk.here)) ?_ | apply A0.drop)) ?_
 (exact ⟨p + 1, by omega, by omega, rfl, kn, rfl, hkn⟩)
theorem B77 (G : IM) {n : Int} (h : F8 n) : B1 G (.mk 2 ⟨⟨[]⟩⟩ n (.mk 0 []) (.mk 0 []) 0 []) [.int .i64 2, .string ⟨⟨[]⟩⟩, .int .i64 n, .int .i64 0, .slice none 0 0, .int .i64 0, .slice none 0 0, .int .i64 0, .slice none 0 0] := by
 have h0 : C3 G (.mk 0 []) [.int .i64 0, .slice none 0 0] := by simp only [C3]; exact ⟨none, 0, [], rfl, ⟨by decide, by decide⟩, D7.nil G 2, by simp [C9]⟩
 simp only [B1]
 exact ⟨_, _, none, 0, [], rfl, ⟨by decide, by decide⟩, h, ⟨by decide, by decide⟩, h0, h0, D7.nil G 9, by simp [E1]⟩
theorem B78 (n : Int) : (Tm.mk 2 ⟨⟨[]⟩⟩ n (.mk 0 []) (.mk 0 []) 0 []).fit 30 := by
 refine ⟨?_, ?_⟩
 ·simp [Tm.small, Tm.smallL, Ty.small, Ty.smallL, ByteArray.size]
 ·rw [Z1]; simp [E7]
theorem B79 (br : Nat) (pb : Option Addr) (nb cb : Nat) (bs : List UInt8) (hnb : nb ≤ 2000) (p : Nat) (G : IM) (hb : Sl G pb nb cb 1 (M7 bs)) (hp : p + 9000000 < 1099511627776) :
  Fn Tryz.prog 116 [.pointer (some ⟨br, 0, none⟩)] [rd br pb nb cb p] G
   (A0h br pb nb cb p 9000000 (fun G' v => ∃ e cells, v = .agg ⟨cells⟩ ∧ B1 G' e cells ∧ e.fit 2000000)) := by
 have hm8 : mB 8 = 1968200 := by decide
 refine C1 Tryz.func116 rfl Tryz.ntmps116 Tryz.results116 rfl ?_
 intro w0
 refine A3 ?_
 refine sE (A7 rfl) rfl (fun b3 => ?_)
 refine D1 ?_
 refine C0 ?_
 (refine J0 (fun (x : Nat × Nat × IM) => ⟨[(3, .int .i64 x.1), (0, .pointer (some ⟨br, 0, none⟩)), (2, .pointer (some ⟨b3, 0, none⟩))], [rd br pb nb cb x.2.1, .blk b3 [.int .i64 0, .string ⟨⟨[]⟩⟩, .int .i64 0, .int .i64 0, .slice none 0 0, .int .i64 0, .slice none 0 0, .int .i64 0, .slice none 0 0]], x.2.2⟩) (fun x => x.1 ≤ 4 ∧ C2 G x.2.2 ∧ p ≤ x.2.1 ∧ x.2.1 ≤ p + x.1 * 2000000) (fun x => 4 - x.1) (0, p, G) ?_ ?_ ?_)
 (simp only [H6]; exact D2)
 (exact ⟨by omega, C2.refl _, Nat.le_refl _, by dsimp only; omega⟩)
 (rintro ⟨(i : Nat), (p1 : Nat), G1⟩ ⟨hi, hleL, hpL, hpL2⟩; simp only [] at hi hleL hpL hpL2 ⊢; replace hb := hb.mono hleL)
 refine B4 ?_
 refine sB (I8 rfl rfl) rfl rfl (fun h21 => ?_) (fun h21 => ?_)
 refine A8 ?_
 refine C0 ?_
 refine B0 ?_
 (refine I3 (D0 rfl rfl rfl (by omega) (by unfold maxLen; omega) rfl) rfl ?_; rintro _ ⟨b34, rfl⟩)
 (refine R9 (by repeat (first | exact Pk.here | apply Pk.there)) (fun Gf hlef hslf _ => ?_); refine J2 rfl (Z0 Gf br pb nb cb (p1) bs _ _ _ _ (hb.mono hlef) hnb (by omega) hslf (by decide)) (Pk.perm (by repeat (first | exact Pk.here | apply Pk.there))) rfl rfl (fun v Gm outs hlen hh => ?_); obtain ⟨rfl, rfl, hv⟩ := hh; replace hb := hb.mono hlef; obtain ⟨dd, rfl, hdd⟩ : ∃ d : Nat, v = .int .i64 ((d + 1 : Nat) : Int) ∧ d ≤ 1 := (by simp only [List.mem_cons, List.not_mem_nil, or_false] at hv; rcases hv with rfl | rfl <;> first | exact ⟨0, rfl, by decide⟩ | exact ⟨1, rfl, by decide⟩); have hdB := A43 (Nat.le_succ_of_le hdd); replace hleL := hleL.trans hlef)
 (have hcall := A3g br pb nb cb bs hnb dd (p1 + 1) _ (by omega) hb (by omega); refine J2 rfl hcall (Pk.perm (by repeat (first | exact Pk.here | apply Pk.there))) rfl rfl (fun v Gn outs hleD hh => ?_); obtain ⟨pD, hpD1, hpD2, rfl, uD, cD, rfl, hrD, hsD, haD⟩ := hh; obtain ⟨qD, dD, eD, rfl, _⟩ := hrD.open; replace hb := hb.mono hleD; replace hleL := hleL.trans hleD)
 refine E3 ?_
 (refine I3 (D0 rfl rfl rfl (by omega) (by unfold maxLen; omega) rfl) rfl ?_; rintro _ ⟨b38, rfl⟩)
 (refine R9 (by repeat (first | exact Pk.here | apply Pk.there)) (fun Gf hlef hslf _ => ?_); refine J2 rfl (Z0 Gf br pb nb cb (pD) bs _ _ _ _ (hb.mono hlef) hnb (by omega) hslf (by decide)) (Pk.perm (by repeat (first | exact Pk.here | apply Pk.there))) rfl rfl (fun v Gm outs hlen hh => ?_); obtain ⟨rfl, rfl, hv⟩ := hh; replace hb := hb.mono hlef; replace hleL := hleL.trans hlef; replace hrD := hrD.mono hlef; obtain ⟨dp, rfl, hdp1, hdp2⟩ : ∃ d : Int, v = .int .i64 d ∧ 2 ≤ d ∧ d ≤ 4 := (by simp only [List.mem_cons, List.not_mem_nil, or_false] at hv; rcases hv with rfl | rfl | rfl | rfl <;> exact ⟨_, rfl, by decide, by decide⟩))
 (have hcall := B1V br pb nb cb bs hnb 8 dp uD (pD + 1) _ none 0 0 _ ⟨haD.le (by omega), by omega, by omega, .inr ⟨by omega, by omega⟩⟩ (by omega) (by omega) (by omega) (X9.nil _) hrD hb (by omega); refine J2 rfl hcall (Pk.perm (by repeat (first | exact Pk.here | apply Pk.there))) rfl rfl (fun v Gn outs hleM hh => ?_); obtain ⟨pM, hpM1, hpM2, rfl, eM, cM, rfl, hrM, hsmM, hcM⟩ := hh; have hlM := hrM.len; have hoM := hrM.one; replace hb := hb.mono hleM; replace hleL := hleL.trans hleM)
 refine sE (A7 rfl) rfl (fun b41 => ?_)
 refine W4 rfl rfl rfl hlM hoM rfl (by repeat first | exact Sw.here | apply Sw.there) (by exact D4 (by first | exact hlM.symm | omega)) ?_
 refine B4 ?_
 refine sL (A2 rfl rfl (A9 (by repeat first | exact mH | apply mT)) hlM) rfl rfl ?_
 (refine D9 rfl (A7S eM _ _ hsmM (by omega) hrM) rfl rfl (fun v G9 hle9 hh => ?_); subst hh; replace hb := hb.mono hle9; replace hleL := hleL.trans hle9; replace hrM := hrM.mono hle9)
 refine sB (Y4 rfl rfl) rfl rfl (fun h49 => ?_) (fun h49 => ?_)
 refine B0 ?_
 refine sL (A2 rfl rfl (A9 (by repeat first | exact mH | apply mT)) hlM) rfl rfl ?_
 refine W4 rfl rfl rfl hlM hoM rfl (by repeat first | exact Sw.here | apply Sw.there) (by exact D4 (by first | exact hlM.symm | omega)) ?_
 refine D1 ?_
 refine H9 (outs := [rd br pb nb cb pM]) (rC rfl (A2 rfl rfl (A9 (by repeat first | exact mH | apply mT)) hlM)) (by repeat (first | exact A0.nil | refine A0.cons Pk.here ?_ | refine A0.cons (Pk.there Pk.here) ?_ | refine A0.cons (Pk.there (Pk.there Pk.here)) ?_ | apply A0.drop)) ?_
 (exact ⟨pM, by omega, by omega, rfl, eM, _, rfl, hrM, hsmM, by omega⟩)
 refine D1 ?_
 refine sP (H5 rfl rfl (by omega) (by omega)) rfl rfl ?_
 refine A3 ?_
 refine I1 (i + 1, pM, G9) ?_ ?_ ?_
 (simp only [H6]; exact D2)
 (dsimp only; exact ⟨by omega, hleL, by omega, by omega⟩)
 (show 4 - (i + 1) < 4 - i; omega)
 refine J3 ?_
 refine E8 rfl ((A17 _ _)) rfl rfl ?_
 refine B4 ?_
 refine H9 (outs := [rd br pb nb cb p1]) (rC rfl (A2 rfl rfl (A9 (by repeat first | exact mH | apply mT)) rfl)) (by repeat (first | exact A0.nil | refine A0.cons Pk.here ?_ | refine A0.cons (Pk.there Pk.here) ?_ | refine A0.cons (Pk.there (Pk.there Pk.here)) ?_ | apply A0.drop)) ?_
 (exact ⟨p1, by omega, by omega, rfl, _, _, rfl, B77 _ ⟨by decide, by decide⟩, (B78 _).le (by omega)⟩)
theorem B8a (br : Nat) (pb : Option Addr) (nb cb : Nat) (bs : List UInt8) (hnb : nb ≤ 2000) (p : Nat) (G : IM) (hb : Sl G pb nb cb 1 (M7 bs)) (hp : p + 19000000 < 1099511627776) :
  Fn Tryz.prog 70 [.pointer (some ⟨br, 0, none⟩)] [rd br pb nb cb p] G
   (A0h br pb nb cb p 19000000 (fun G' v => ∃ e cells, v = .agg ⟨cells⟩ ∧ B1 G' e cells ∧ e.fit 2000000)) := by
 refine C1 Tryz.func70 rfl Tryz.ntmps70 Tryz.results70 rfl ?_
 intro w0
 refine A3 ?_
 refine sE (A7 rfl) rfl (fun b3 => ?_)
 refine B0 ?_
 (have hcall := B79 br pb nb cb bs hnb p _ hb (by omega); refine J2 rfl hcall (Pk.perm (by repeat (first | exact Pk.here | apply Pk.there))) rfl rfl (fun v Gn outs hle1 hh => ?_); obtain ⟨p1, hp11, hp12, rfl, e0, ce0, rfl, hr0, hf0⟩ := hh; have hl1 := hr0.len; have ho1 := hr0.one; replace hb := hb.mono hle1)
 refine sE (A7 rfl) rfl (fun b10 => ?_)
 refine W4 rfl rfl rfl hl1 ho1 rfl (by repeat first | exact Sw.here | apply Sw.there) (by exact D4 (by first | exact hl1.symm | omega)) ?_
 refine A8 ?_
 (refine J2 rfl (Y6 _ br pb nb cb (p1) bs 8 hb hnb (by omega)) (Pk.perm (by repeat (first | exact Pk.here | apply Pk.there))) rfl rfl (fun v Gp outs hle18 hh => ?_); obtain ⟨rfl, rfl, j18, rfl, hj18, hk18⟩ := hh; skip)
 replace hr0 := hr0.mono hle18
 replace hb := hb.mono hle18
 refine sB (qE rfl rfl) rfl rfl (fun h19 => ?_) (fun h19 => ?_)
 refine A8 ?_
 (have hcall := B7K br pb nb cb bs hnb (p1 + 1) _ hb (by omega); refine J2 rfl hcall (Pk.perm (by repeat (first | exact Pk.here | apply Pk.there))) rfl rfl (fun v Gn outs hle4 hh => ?_); obtain ⟨p4, hp41, hp42, rfl, b2, cb2, rfl, hrb2, hfb2⟩ := hh; have hl3 := hrb2.len; have ho3 := hrb2.one)
 refine W4 rfl rfl rfl hl3 ho3 rfl (by repeat first | exact Sw.here | apply Sw.there) (by exact D4 (by first | exact hl3.symm | omega)) ?_
 refine B4 ?_
 refine H9 (outs := [rd br pb nb cb p4]) (rC rfl (A2 rfl rfl (A9 (by repeat first | exact mH | apply mT)) hl3)) (by repeat (first | exact A0.nil | refine A0.cons Pk.here ?_ | refine A0.cons (Pk.there Pk.here) ?_ | refine A0.cons (Pk.there (Pk.there Pk.here)) ?_ | apply A0.drop)) ?_
 (exact ⟨p4, by omega, by omega, rfl, b2, cb2, rfl, hrb2, hfb2.le (by omega)⟩)
 refine D1 ?_
 refine sL (A2 rfl rfl (A9 (by repeat first | exact mH | apply mT)) hl1) rfl rfl ?_
 (have hcall := B4s br pb nb cb bs hnb (p1 + 1) _ hb (by omega) e0 ce0 2000000 hf0 hr0; refine J2 rfl hcall (Pk.perm (by repeat (first | exact Pk.here | apply Pk.there))) rfl rfl (fun v Gn outs hle2 hh => ?_); obtain ⟨p2, hp21, hp22, rfl, e, ce, rfl, hre, hfe⟩ := hh; have hl3 := hre.len; have ho3 := hre.one)
 refine W4 rfl rfl rfl hl3 ho3 rfl (by repeat first | exact Sw.here | apply Sw.there) (by exact D4 (by first | exact hl3.symm | omega)) ?_
 refine B7 ?_
 refine H9 (outs := [rd br pb nb cb p2]) (rC rfl (A2 rfl rfl (A9 (by repeat first | exact mH | apply mT)) hl3)) (by repeat (first | exact A0.nil | refine A0.cons Pk.here ?_ | refine A0.cons (Pk.there Pk.here) ?_ | refine A0.cons (Pk.there (Pk.there Pk.here)) ?_ | apply A0.drop)) ?_
 (exact ⟨p2, by omega, by omega, rfl, e, ce, rfl, hre, hfe⟩)
theorem A5N (G : IM) (q : Option Addr) (n c : Nat) (bs : List UInt8) (hb : Sl G q n c 1 (M7 bs)) : Fn Tryz.prog 29 [.slice q n c] [] G (B2h 2000000 G) := by
 refine C1 Tryz.func29 rfl Tryz.ntmps29 Tryz.results29 rfl ?_
 intro w0
 refine A3 ?_
 refine sE (A7 rfl) rfl (fun b3 => ?_)
 refine A8 ?_
 (refine J2 rfl (B4h G q n c bs hb) (List.Perm.refl _) rfl rfl (fun v G1 outs hle1 hh => ?_); obtain ⟨rfl, br, pb, nb, cb, bs', rfl, rfl, hnb, hb'⟩ := hh)
 refine A8 ?_
 (have hcall := B8a br pb nb cb bs' hnb 0 _ hb' (by omega); refine J2 rfl hcall (Pk.perm (by repeat (first | exact Pk.here | apply Pk.there))) rfl rfl (fun v Gn outs hle1 hh => ?_); obtain ⟨p1, hp11, hp12, rfl, e, ce, rfl, hre, hfe⟩ := hh; have hl1 := hre.len; have ho1 := hre.one; replace hb' := hb'.mono hle1)
 refine sE (A7 rfl) rfl (fun b18 => ?_)
 refine W4 rfl rfl rfl hl1 ho1 rfl (by repeat first | exact Sw.here | apply Sw.there) (by exact D4 (by first | exact hl1.symm | omega)) ?_
 refine B7 ?_
 refine E2 E4 rfl ?_
 refine L4 (i := 0) (l' := [tt,ff,ff,ff,ff]) rfl D6 (A2 rfl rfl (A9 (by repeat first | exact mH | apply mT)) hl1) rfl (by kernel_rfl) rfl rfl ?_
 refine aP 1 rfl (qM rfl) rfl ?_
 refine A4 2 ?_
 (have hcall := B76 br pb nb cb bs' hnb p1 _ hb' (by omega); refine Y9 (l' := [tt,tt,tt,ff,ff]) rfl rfl hcall (Pk.perm (by repeat (first | exact Pk.here | apply Pk.there))) rfl rfl rfl (by repeat (first | exact B2.nil | apply B2.dep (by decide +kernel) | apply B2.blk (by decide +kernel) (by repeat (first | exact Pk.here | apply Pk.there)) (by repeat first | exact mH | apply mT))) (fun v Gn outs hle5 hh => ?_); obtain ⟨p5, hp51, hp52, rfl, fl, rfl, hfl⟩ := hh; replace hre := hre.mono hle5)
 refine A4 3 ?_
 refine A4E rfl rfl rfl rfl hl1 ho1 rfl rfl (by repeat first | exact Sw.here | apply Sw.there) (by exact D4 hl1.symm) (by repeat (first | exact B2.nil | apply B2.dep (by decide +kernel) | apply B2.blk (by decide +kernel) (by repeat (first | exact Pk.here | apply Pk.there)) (by repeat first | exact mH | apply mT))) ?_
 refine aP 4 rfl (qA rfl) rfl ?_
 refine B7 ?_
 refine E9 (rC rfl (A2 rfl rfl (A9 (by repeat first | exact mH | apply mT)) hl1)) (rT rfl) ?_
 (exact ⟨rfl, e, ce, fl, rfl, hre, hfe, hfl⟩)
theorem B8b (G : IM) (q : Option Addr) (n c : Nat) (bs : List UInt8) (hb : Sl G q n c 1 (M7 bs)) : Fn Tryz.prog 35 [.slice q n c] [] G (B2h 2000000 G) := by
 have hD := A5N G q n c bs hb
 refine C1 Tryz.func35 rfl Tryz.ntmps35 Tryz.results35 rfl ?_
 intro w0
 refine A3 ?_
 refine sE (A7 rfl) rfl (fun b3 => ?_)
 refine A8 ?_
 (refine D9 rfl hD rfl rfl (fun v1 G1 hle1 hh => ?_); obtain ⟨e, ce, fl, rfl, hre, hfe, hfl⟩ := hh; have hl1 := hre.len; have ho1 := hre.one)
 refine A3 ?_
 refine W4 rfl rfl rfl hl1 ho1 rfl (by repeat first | exact Sw.here | apply Sw.there) (by exact D4 (by first | exact hl1.symm | omega)) ?_
 refine B4 ?_
 refine E9 (rC rfl (A2 rfl rfl (A9 (by repeat first | exact mH | apply mT)) hl1)) (rT rfl) ?_
 (exact ⟨rfl, e, ce, fl, rfl, hre, hfe, hfl⟩)
theorem A5O (l l' : List Int) (G : IM) (p p' : Option Addr) (c c' : Nat) (h : Sl G p l.length c 1 (T6 l)) (h' : Sl G p' l'.length c' 1 (T6 l')) :
  Fn Tryz.prog 24 [.slice p l.length c, .slice p' l'.length c'] [] G (I5 (.bool (decide (l = l'))) G) := by
 have hn := h.le
 have hn' := h'.le
 refine C1 Tryz.func24 rfl Tryz.ntmps24 Tryz.results24 rfl ?_
 intro w0
 refine K5 ?_
 refine sB (N5 rfl rfl) rfl rfl (fun h13 => ?_) (fun h13 => ?_)
 refine J1 ?_
 (exact ⟨rfl, by rw [decide_eq_false (fun he => by have := congrArg List.length he; omega)], rfl⟩)
 refine J1 ?_
 refine C0 ?_
 (have hll : l.length = l'.length := (by omega); refine J0 (fun (i : Nat) => ⟨[(5, .int .i64 i), (0, .slice p l.length c), (1, .slice p' l'.length c')], [], G⟩) (fun i => i ≤ l.length ∧ ∀ j (h : j < l.length) (h' : j < l'.length), j < i → l[j] = l'[j]) (fun i => l.length - i) 0 ?_ ?_ ?_)
 exact D2
 exact ⟨by omega, fun j _ _ hj => absurd hj (by omega)⟩
 (rintro i ⟨hi, hf⟩)
 refine A8 ?_
 refine sB (I8 rfl rfl) rfl rfl (fun h48 => ?_) (fun h48 => ?_)
 refine A8 ?_
 refine C0 ?_
 refine tS ?_
 (obtain ⟨b, o, v, rfl, hv, hat, _⟩ := h.kid (i := i) (by omega); obtain ⟨hi1, rfl⟩ := A29 hv; obtain ⟨b', o', v', rfl, hv', hat', _⟩ := h'.kid (i := i) (by omega); obtain ⟨hi2, rfl⟩ := A29 hv'; refine E2 E4 rfl ?_)
 refine J4 (i := 0) (l' := [tt,ff,ff,ff,ff,ff,ff,ff,ff]) rfl D6 (qM rfl) rfl (by kernel_rfl) rfl rfl ?_
 refine aP 1 rfl (qM rfl) rfl ?_
 refine aP 2 rfl (B6 rfl rfl rfl (by omega)) rfl ?_
 refine aL 3 rfl (T3 rfl rfl (hat _)) rfl ?_
 refine aP 4 rfl (qM rfl) rfl ?_
 refine aP 5 rfl (qM rfl) rfl ?_
 refine aP 6 rfl (B6 rfl rfl rfl (by omega)) rfl ?_
 refine aL 7 rfl (T3 rfl rfl (hat' _)) rfl ?_
 refine A0v (i := 8) (l' := [tt,tt,tt,tt,tt,tt,tt,tt,tt]) rfl D6 (N5 rfl rfl) rfl (by kernel_rfl) rfl rfl (fun h66 => ?_) (fun h66 => ?_)
 refine I7 ?_
 (exact ⟨rfl, by rw [decide_eq_false (fun he => by subst he; omega)], rfl⟩)
 refine D1 ?_
 refine sP (H5 rfl rfl (by omega) (by omega)) rfl rfl ?_
 refine A3 ?_
 refine I1 (i + 1) ?_ ?_ ?_
 exact D2
 exact ⟨by omega, fun j hj hj' hji => by (by_cases he : j = i; (subst he; omega); exact hf j hj hj' (by omega))⟩
 omega
 refine I7 ?_
 (exact ⟨rfl, by rw [decide_eq_true (List.ext_getElem hll (fun j h1 h2 => hf j h1 h2 (by omega)))], rfl⟩)
theorem A5P {P : Program} {Γ : L7} {env : M2} {hp : List A6} {G : IM} {ty : TypeId} {x y : Operand} {t t' : TypeId} {i : K9} [hI : I6 P t i] (hd : i.desc = .bool) {r : Bool} (hx : evo env x = some (.bool r)) (hy : evo env y = some (.bool r)) :
  I4 P Γ ⟨env, hp, G⟩ (.binOp .eql t x y t') ty (.bool true) := by
 have h := B2A (P := P) (Γ := Γ) (hp := hp) (G := G) (t := t) (t' := t') (ty := ty) (i := i) hd hx hy
 simpa using h
theorem A3D {l : List Int} {G : IM} {b o : Nat} {c : Nat} (h : Sl G (some ⟨b, o, none⟩) l.length c 1 (T6 l)) (i : Nat) (hi : i < l.length) (hp : List A6) : At hp G b (o + i * 1) [.int .i64 l[i]] := by
 obtain ⟨b', o', v, h1, h2, h3, _⟩ := h.kid hi
 cases h1
 obtain ⟨hx, rfl⟩ := A29 h2
 exact h3 hp
theorem A5Q {l : List Int} {G : IM} {p : Option Addr} {c : Nat} (h : Sl G p l.length c 1 (T6 l)) {i : Nat} (hi : i < l.length) :
  ∃ b o, p = some ⟨b, o, none⟩ ∧ ∀ hp, At hp G b (o + i * 1) [.int .i64 l[i]] := by
 obtain ⟨b, o, v, h1, h2, h3, _⟩ := h.kid hi
 obtain ⟨hx, rfl⟩ := A29 h2
 exact ⟨b, o, h1, h3⟩
theorem B8c (bs : List UInt8) (G : IM) (p : Option Addr) (n c : Nat) (hT : X1 G) (hb : Sl G p n c 1 (M7 bs)) : Fn Tryz.prog 5 [.slice p n c] [] G (K1 fun _ v => v = .bool true) := by
 have hn := hb.le
 refine C1 Tryz.func5 rfl Tryz.ntmps5 Tryz.results5 rfl ?_
 intro w0
 refine J3 ?_
 refine sB (W3 rfl rfl) rfl rfl (fun h11 => ?_) (fun h11 => ?_)
 refine J1 ?_
 (exact ⟨rfl, rfl⟩)
 refine D1 ?_
 (refine D9 rfl (A5N G _ _ _ bs hb) rfl rfl (fun v G1 hle1 hh => ?_); obtain ⟨a, ca, fl, rfl, hra, hfa, hfl⟩ := hh; replace hT := hT.mono hle1; have hca := hfa.2; have hla := hra.len; have hoa := hra.one; have hA := A7O a fl G1 ca hfa.1 (by omega) hT hra; have hS := fun G cells hr => A5I a fl G cells hfa.1 (by omega) hr; have hC := fun G cells hr => A5J a G cells hfa.1 (by omega) hr; obtain ⟨l, hL⟩ : ∃ l, (P9 a fl).getD [] = l := ⟨_, rfl⟩; obtain ⟨b, hB⟩ : ∃ b, (P9 a fl).isSome = b := ⟨_, rfl⟩; have hrs := fun h : b = true => A5M (A74 hL (hB.trans h)))
 refine B7 ?_
 refine sE (A7 rfl) rfl (fun b36 => ?_)
 refine sS rfl rfl rfl hla hoa rfl ?_ (hu := by exact D4 hla.symm)
 refine B0 ?_
 refine sL (A2 rfl rfl (A9 (by repeat first | exact mH | apply mT)) hla) rfl rfl ?_
 refine E3 ?_
 (refine D9 rfl hA rfl rfl (fun v2 G2 hle2 hh => ?_); obtain ⟨p2, c2, rfl, hp2⟩ := A2n hL hB hh; have hp21 := hp2.1.mono (C5.le _ _); replace hra := hra.mono hle2; replace hT := hT.mono hle2)
 refine E0 ?_
 refine sL (A2 rfl rfl (A9 (by repeat first | exact mH | apply mT)) hla) rfl rfl ?_
 refine E3 ?_
 (refine D9 rfl (hS _ _ hra) rfl rfl (fun v3 G3 hle3 hh => ?_); obtain ⟨p3, c3, rfl, hp3⟩ := A2n hL hB hh; have hp31 := hp3.1.mono (C5.le _ _); replace hp21 := hp21.mono hle3; replace hra := hra.mono hle3; replace hT := hT.mono hle3; have hI := A5O l l G3 p2 p3 c2 c3 hp21 hp31; rw [decide_eq_true rfl] at hI; cases b)
 refine K5 ?_
 refine sQ (A0N rfl rfl rfl) rfl ?_
 refine B7 ?_
 refine E8 rfl (hI) rfl rfl ?_
 refine J7 ?_
 refine sQ (A5P rfl rfl rfl) rfl ?_
 refine B7 ?_
 refine E8 rfl (hI) rfl rfl ?_
 refine B5 ?_
 (exact ⟨rfl, rfl⟩)
 refine K5 ?_
 refine sQ (A0N rfl rfl rfl) rfl ?_
 refine B7 ?_
 refine E8 rfl (hI) rfl rfl ?_
 refine Q5 ?_
 refine C0 ?_
 (have hR := hrs rfl; have hp1 : 0 < l.length := (by rw [hR.len]; exact Nat.two_pow_pos _); have hl64 : l.length ≤ 64 := (by rw [hR.len]; exact Nat.pow_le_pow_right (by decide) hR.n6); obtain ⟨bR, oR, rfl, _⟩ := A5Q hp21 hp1; have hat := A3D hp21; have hN : l.length = 2 ^ (R8 a).length := (by rw [hR.len, hR.slots']); have hn6 : (R8 a).length ≤ 6 := (by rw [hR.slots']; exact hR.n6); refine J0 (fun (i : Nat) => ⟨[(9, .int .i64 i), (5, .slice (some ⟨bR, oR, none⟩) l.length c2), (3, .pointer (some ⟨b36, 0, none⟩))], [.blk b36 ca], G3⟩) (fun i => i ≤ l.length) (fun i => l.length - i) 0 ?_ ?_ ?_)
 exact D2
 exact Nat.zero_le _
 (rintro (i : Nat) hkI; replace hkI : i ≤ l.length := hkI)
 refine A8 ?_
 refine sB (I8 rfl rfl) rfl rfl (fun h146 => ?_) (fun h146 => ?_)
 refine A8 ?_
 refine C0 ?_
 refine B0 ?_
 refine C0 ?_
 (have hk2 := hkI; refine J0 (fun (k : Nat) => ⟨[(10, .int .i64 k), (9, .int .i64 i), (5, .slice (some ⟨bR, oR, none⟩) l.length c2), (3, .pointer (some ⟨b36, 0, none⟩))], [.blk b36 ca], G3⟩) (fun k => k ≤ l.length) (fun k => l.length - k) 0 ?_ ?_ ?_)
 exact D2
 exact Nat.zero_le _
 (have hq2 := hkI; rintro (k : Nat) hk)
 refine A8 ?_
 refine sB (I8 rfl rfl) rfl rfl (fun h170 => ?_) (fun h170 => ?_)
 refine A8 ?_
 refine C0 ?_
 refine B4 ?_
 refine sP (B7O (m := i) (n := k) rfl rfl (by omega) (by omega)) rfl rfl ?_
 refine E3 ?_
 refine sB (qE (m := ((i &&& k : Nat) : Int)) (n := (i : Int)) rfl rfl) rfl rfl (fun hand => ?_) (fun hand => ?_)
 refine B7 ?_
 refine sP (B6 (j := i) rfl rfl rfl (by omega)) rfl rfl ?_
 refine sL (T3 rfl rfl (hat i (by omega) _)) rfl rfl ?_
 refine sB (qE rfl rfl) rfl rfl (fun h190 => ?_) (fun h190 => ?_)
 refine B4 ?_
 refine sP (B6 (j := k) rfl rfl rfl (by omega)) rfl rfl ?_
 refine sL (T3 rfl rfl (hat k (by omega) _)) rfl rfl ?_
 refine sB (qE rfl rfl) rfl rfl (fun h197 => ?_) (fun h197 => ?_)
 refine A0e ?_
 (exfalso; exact hR.less (i := i) (k := k) (by omega) (by omega) (Int.ofNat_inj.1 hand) (by assumption) (by assumption))
 refine E0 ?_
 refine sP (H5 rfl rfl (by omega) (by omega)) rfl rfl ?_
 refine A3 ?_
 (have hlt3 : k < l.length := (by omega); refine I1 (k + 1) ?_ ?_ ?_)
 exact D2
 (show k + 1 ≤ l.length; omega)
 (show l.length - (k + 1) < l.length - k; omega)
 refine K0 ?_
 refine sP (H5 rfl rfl (by omega) (by omega)) rfl rfl ?_
 refine A3 ?_
 (have hlt3 : k < l.length := (by omega); refine I1 (k + 1) ?_ ?_ ?_)
 exact D2
 (show k + 1 ≤ l.length; omega)
 (show l.length - (k + 1) < l.length - k; omega)
 refine A57 ?_
 refine sP (H5 rfl rfl (by omega) (by omega)) rfl rfl ?_
 refine A3 ?_
 (have hlt3 : k < l.length := (by omega); refine I1 (k + 1) ?_ ?_ ?_)
 exact D2
 (show k + 1 ≤ l.length; omega)
 (show l.length - (k + 1) < l.length - k; omega)
 refine J1 ?_
 refine sP (H5 rfl rfl (by omega) (by omega)) rfl rfl ?_
 refine A3 ?_
 refine I1 (i + 1) ?_ ?_ ?_
 exact D2
 (show i + 1 ≤ l.length; omega)
 (show l.length - (i + 1) < l.length - i; omega)
 refine K5 ?_
 refine sL (A2 rfl rfl (A9 (by repeat first | exact mH | apply mT)) hla) rfl rfl ?_
 (refine D9 rfl (hC _ _ hra) rfl rfl (fun v9 G9 hle9 hh => ?_); subst hh)
 refine sP (A2l rfl rfl (by omega)) rfl rfl ?_
 (obtain rfl : i = l.length := (by omega); refine sP (X5 rfl rfl (by rw [hN])) rfl rfl ?_)
 refine B0 ?_
 (exact ⟨rfl, rfl⟩)

theorem B8d (bs : List UInt8) (G : IM) (p : Option Addr) (n c : Nat) (hT : X1 G) (hb : Sl G p n c 1 (M7 bs)) : Fn Tryz.prog 7 [.slice p n c] [] G (K1 fun _ v => v = .bool true) := by
 have hn := hb.le
 refine C1 Tryz.func7 rfl Tryz.ntmps7 Tryz.results7 rfl ?_
 intro w0
 refine J3 ?_
 refine sB (W3 rfl rfl) rfl rfl (fun h11 => ?_) (fun h11 => ?_)
 refine J1 ?_
 (exact ⟨rfl, rfl⟩)
 refine D1 ?_
 (refine D9 rfl (A5N G _ _ _ bs hb) rfl rfl (fun v G1 hle1 hh => ?_); obtain ⟨a, ca, fl, rfl, hra, hfa, hfl⟩ := hh; replace hT := hT.mono hle1; have hca := hfa.2; have hla := hra.len; have hoa := hra.one; have hA := A7O a fl G1 ca hfa.1 (by omega) hT hra; have hS := fun G cells hr => A5I a fl G cells hfa.1 (by omega) hr; have hC := fun G cells hr => A5J a G cells hfa.1 (by omega) hr; obtain ⟨l, hL⟩ : ∃ l, (P9 a fl).getD [] = l := ⟨_, rfl⟩; obtain ⟨b, hB⟩ : ∃ b, (P9 a fl).isSome = b := ⟨_, rfl⟩; have hrs := fun h : b = true => A5M (A74 hL (hB.trans h)))
 refine B7 ?_
 refine sE (A7 rfl) rfl (fun b36 => ?_)
 refine sS rfl rfl rfl hla hoa rfl ?_ (hu := by exact D4 hla.symm)
 refine B0 ?_
 refine sL (A2 rfl rfl (A9 (by repeat first | exact mH | apply mT)) hla) rfl rfl ?_
 refine E3 ?_
 (refine D9 rfl hA rfl rfl (fun v2 G2 hle2 hh => ?_); obtain ⟨p2, c2, rfl, hp2⟩ := A2n hL hB hh; have hp21 := hp2.1.mono (C5.le _ _); replace hra := hra.mono hle2; replace hT := hT.mono hle2)
 refine E0 ?_
 refine sL (A2 rfl rfl (A9 (by repeat first | exact mH | apply mT)) hla) rfl rfl ?_
 refine E3 ?_
 (refine D9 rfl (hS _ _ hra) rfl rfl (fun v3 G3 hle3 hh => ?_); obtain ⟨p3, c3, rfl, hp3⟩ := A2n hL hB hh; have hp31 := hp3.1.mono (C5.le _ _); replace hp21 := hp21.mono hle3; replace hra := hra.mono hle3; replace hT := hT.mono hle3; have hI := A5O l l G3 p2 p3 c2 c3 hp21 hp31; rw [decide_eq_true rfl] at hI; cases b)
 refine K5 ?_
 refine sQ (A0N rfl rfl rfl) rfl ?_
 refine B7 ?_
 refine E8 rfl (hI) rfl rfl ?_
 refine J7 ?_
 refine sQ (A5P rfl rfl rfl) rfl ?_
 refine B7 ?_
 refine E8 rfl (hI) rfl rfl ?_
 refine B5 ?_
 (exact ⟨rfl, rfl⟩)
 refine K5 ?_
 refine sQ (A0N rfl rfl rfl) rfl ?_
 refine B7 ?_
 refine E8 rfl (hI) rfl rfl ?_
 refine J7 ?_
 refine sL (A2 rfl rfl (A9 (by repeat first | exact mH | apply mT)) hla) rfl rfl ?_
 (have hR := hrs rfl; have hp1 : 0 < l.length := (by rw [hR.len]; exact Nat.two_pow_pos _); have hl64 : l.length ≤ 64 := (by rw [hR.len]; exact Nat.pow_le_pow_right (by decide) hR.n6); obtain ⟨bR, oR, rfl, _⟩ := A5Q hp21 hp1; refine D9 rfl (B2c a _ _ hR.valid hra) rfl rfl (fun v4 G4 hle4 hh => ?_); obtain ⟨cx, rfl, hrx⟩ := hh; have hlx := hrx.len; have hox := hrx.one; replace hp21 := hp21.mono hle4; replace hra := hra.mono hle4; replace hT := hT.mono hle4; have hFi := hR.first hp1; have hLa := hR.last (by omega); have hI1 := A3y a fl G4 ca hT hra; obtain ⟨⟨s1, c1, l1⟩, hr1⟩ : ∃ r, O2 a fl = r := ⟨_, rfl⟩; rw [hr1] at hI1 hFi; have hI2 := fun G cells hT hr => A3y (A2X a) fl G cells hT hr; obtain ⟨⟨s2, k2, l2⟩, hr2⟩ : ∃ r, O2 (A2X a) fl = r := ⟨_, rfl⟩; rw [hr2] at hI2 hLa; replace hFi : l[0] = c1 := hFi; replace hLa : l[l.length - 1] = k2 := hLa)
 refine B7 ?_
 refine sE (A7 rfl) rfl (fun b136 => ?_)
 refine sS rfl rfl rfl hlx hox rfl ?_ (hu := by exact D4 hlx.symm)
 refine B0 ?_
 refine sL (A2 rfl rfl (A9 (by repeat first | exact mH | apply mT)) hla) rfl rfl ?_
 refine E3 ?_
 (refine D9 rfl hI1 rfl rfl (fun v5 G5 hle5 hh => ?_); replace hh : v5 = .tuple ⟨[.string s1, .int .i64 c1, .int .i64 l1]⟩ := hh; subst hh; replace hp21 := hp21.mono hle5; replace hrx := hrx.mono hle5; have hI3 := hI2 G5 cx (hT.mono hle5) hrx)
 refine J1 ?_
 refine sL (A2 rfl rfl (A9 (by repeat first | exact mH | apply mT)) hlx) rfl rfl ?_
 refine E3 ?_
 (refine D9 rfl hI3 rfl rfl (fun v6 G6 hle6 hh => ?_); replace hh : v6 = .tuple ⟨[.string s2, .int .i64 k2, .int .i64 l2]⟩ := hh; subst hh; replace hp21 := hp21.mono hle6; have hat := A3D hp21)
 refine J9 ?_
 refine sP (B6 (j := 0) rfl rfl rfl (by omega)) rfl rfl ?_
 refine sL (T3 rfl rfl (hat 0 (by omega) _)) rfl rfl ?_
 refine E3 ?_
 refine sP (X5 rfl rfl (by omega)) rfl rfl ?_
 refine B0 ?_
 refine sP (A2Y (m := l.length) (n := 1) rfl rfl (by omega) (by omega)) rfl rfl ?_
 refine sP (B6 (j := l.length - 1) rfl rfl rfl (by omega)) rfl rfl ?_
 refine sL (T3 rfl rfl (hat (l.length - 1) (by omega) _)) rfl rfl ?_
 refine E3 ?_
 refine sP (X5 rfl rfl (by omega)) rfl rfl ?_
 refine A8 ?_
 (exact ⟨rfl, rfl⟩)

theorem A75 {Q : Prop} (h : Q := by (dsimp only; exact ⟨by omega, hle.trans (hle7.trans hle8)⟩)) : Q := h
theorem B8e (bs : List UInt8) (G : IM) (p : Option Addr) (n c : Nat) (hT : X1 G) (hb : Sl G p n c 1 (M7 bs)) : Fn Tryz.prog 8 [.slice p n c] [] G (K1 fun _ v => v = .bool true) := by
 have hn := hb.le
 refine C1 Tryz.func8 rfl Tryz.ntmps8 Tryz.results8 rfl ?_
 intro w0
 refine J3 ?_
 refine sB (W3 rfl rfl) rfl rfl (fun h11 => ?_) (fun h11 => ?_)
 refine J1 ?_
 (exact ⟨rfl, rfl⟩)
 refine D1 ?_
 (refine D9 rfl (A5N G _ _ _ bs hb) rfl rfl (fun v G1 hle1 hh => ?_); obtain ⟨a, ca, fl, rfl, hra, hfa, hfl⟩ := hh; replace hT := hT.mono hle1; have hca := hfa.2; have hla := hra.len; have hoa := hra.one; have hA := A7O a fl G1 ca hfa.1 (by omega) hT hra; have hS := fun G cells hr => A5I a fl G cells hfa.1 (by omega) hr; have hC := fun G cells hr => A5J a G cells hfa.1 (by omega) hr; obtain ⟨l, hL⟩ : ∃ l, (P9 a fl).getD [] = l := ⟨_, rfl⟩; obtain ⟨b, hB⟩ : ∃ b, (P9 a fl).isSome = b := ⟨_, rfl⟩; have hrs := fun h : b = true => A5M (A74 hL (hB.trans h)))
 refine B7 ?_
 refine sE (A7 rfl) rfl (fun b36 => ?_)
 refine sS rfl rfl rfl hla hoa rfl ?_ (hu := by exact D4 hla.symm)
 refine B0 ?_
 refine sL (A2 rfl rfl (A9 (by repeat first | exact mH | apply mT)) hla) rfl rfl ?_
 refine E3 ?_
 (refine D9 rfl hA rfl rfl (fun v2 G2 hle2 hh => ?_); obtain ⟨p2, c2, rfl, hp2⟩ := A2n hL hB hh; have hp21 := hp2.1.mono (C5.le _ _); replace hra := hra.mono hle2; replace hT := hT.mono hle2)
 refine E0 ?_
 refine sL (A2 rfl rfl (A9 (by repeat first | exact mH | apply mT)) hla) rfl rfl ?_
 refine E3 ?_
 (refine D9 rfl (hS _ _ hra) rfl rfl (fun v3 G3 hle3 hh => ?_); obtain ⟨p3, c3, rfl, hp3⟩ := A2n hL hB hh; have hp31 := hp3.1.mono (C5.le _ _); replace hp21 := hp21.mono hle3; replace hra := hra.mono hle3; replace hT := hT.mono hle3; have hI := A5O l l G3 p2 p3 c2 c3 hp21 hp31; rw [decide_eq_true rfl] at hI; cases b)
 refine K5 ?_
 refine sQ (A0N rfl rfl rfl) rfl ?_
 refine B7 ?_
 refine E8 rfl (hI) rfl rfl ?_
 refine J7 ?_
 refine sQ (A5P rfl rfl rfl) rfl ?_
 refine B7 ?_
 refine E8 rfl (hI) rfl rfl ?_
 refine B5 ?_
 (exact ⟨rfl, rfl⟩)
 refine K5 ?_
 refine sQ (A0N rfl rfl rfl) rfl ?_
 refine B7 ?_
 refine E8 rfl (hI) rfl rfl ?_
 refine J7 ?_
 refine sL (A2 rfl rfl (A9 (by repeat first | exact mH | apply mT)) hla) rfl rfl ?_
 (have hR := hrs rfl; have hp1 : 0 < l.length := (by rw [hR.len]; exact Nat.two_pow_pos _); have hl64 : l.length ≤ 64 := (by rw [hR.len]; exact Nat.pow_le_pow_right (by decide) hR.n6); obtain ⟨bR, oR, rfl, _⟩ := A5Q hp21 hp1; refine D9 rfl (B2c a _ _ hR.valid hra) rfl rfl (fun v4 G4 hle4 hh => ?_); obtain ⟨cx, rfl, hrx⟩ := hh; have hlx := hrx.len; have hox := hrx.one; replace hp21 := hp21.mono hle4; replace hra := hra.mono hle4; replace hT := hT.mono hle4; have hLa := hR.last (by omega); have hTx := fun i hi h0 h1 => hR.text (i := i) hi h0 h1; have hI2 := A3y (A2X a) fl G4 cx hT hrx; obtain ⟨⟨s2, k2, l2⟩, hr2⟩ : ∃ r, O2 (A2X a) fl = r := ⟨_, rfl⟩; rw [hr2] at hI2 hLa; replace hLa : l[l.length - 1] = k2 := hLa; replace hTx : ∀ i, i < l.length → (O2 (P1 a i) fl).2.1 = 0 → k2 = 0 → s2 = (O2 (P1 a i) fl).1 := (by intro i hi h0 h1; have := hTx i hi h0 (by rw [hr2]; exact h1); rw [hr2] at this; exact this))
 refine B7 ?_
 refine sE (A7 rfl) rfl (fun b136 => ?_)
 refine sS rfl rfl rfl hlx hox rfl ?_ (hu := by exact D4 hlx.symm)
 refine B0 ?_
 refine sL (A2 rfl rfl (A9 (by repeat first | exact mH | apply mT)) hlx) rfl rfl ?_
 refine E3 ?_
 (refine D9 rfl hI2 rfl rfl (fun v6 G6 hle6 hh => ?_); replace hh : v6 = .tuple ⟨[.string s2, .int .i64 k2, .int .i64 l2]⟩ := hh; subst hh; replace hp21 := hp21.mono hle6; replace hT := hT.mono hle6; replace hra := hra.mono hle6)
 refine I7 ?_
 refine C0 ?_
 (refine J0 (fun (x : Nat × IM) => ⟨[(14, .int .i64 x.1), (12, .int .i64 k2), (11, .string s2), (10, .bool true), (5, .slice (some ⟨bR, oR, none⟩) l.length c2), (4, .int .i64 fl), (3, .pointer (some ⟨b36, 0, none⟩))], [.blk b36 ca], x.2⟩) (fun x => x.1 ≤ l.length ∧ C2 G6 x.2) (fun x => l.length - x.1) (0, G6) ?_ ?_ ?_)
 (simp only [H6]; exact D2)
 exact ⟨Nat.zero_le _, C2.refl _⟩
 (rintro ⟨(i : Nat), Gi⟩ ⟨hi, hle⟩; simp only [] at hi hle ⊢; replace hp21 := hp21.mono hle; replace hT := hT.mono hle; replace hra := hra.mono hle; have hat := A3D hp21)
 refine A8 ?_
 refine sB (I8 rfl rfl) rfl rfl (fun h172 => ?_) (fun h172 => ?_)
 refine A8 ?_
 refine C0 ?_
 refine A3 ?_
 refine sL (A2 rfl rfl (A9 (by repeat first | exact mH | apply mT)) hla) rfl rfl ?_
 refine E3 ?_
 (have hgi := hR.getE (i := i) (by omega); refine D9 rfl (B7V a i _ _ hR.valid hR.n6 (by rw [← hR.len]; omega) hra) rfl rfl (fun v7 G7 hle7 hh => ?_); obtain ⟨cy, rfl, hry⟩ := hh; have hly := hry.len; have hoy := hry.one; replace hp21 := hp21.mono hle7; replace hT := hT.mono hle7; replace hra := hra.mono hle7; have hI4 := A3y (P1 a i) fl G7 cy hT hry; have hTi := hTx i (by omega); obtain ⟨⟨s3, k3, l3⟩, hr3⟩ : ∃ r, O2 (P1 a i) fl = r := ⟨_, rfl⟩; rw [hr3] at hI4 hgi hTi; replace hgi : l[i] = k3 := hgi; replace hTi : k3 = 0 → k2 = 0 → s2 = s3 := hTi)
 refine B7 ?_
 refine sE (A7 rfl) rfl (fun b188 => ?_)
 refine sS rfl rfl rfl hly hoy rfl ?_ (hu := by exact D4 hly.symm)
 refine B0 ?_
 refine sL (A2 rfl rfl (A9 (by repeat first | exact mH | apply mT)) hly) rfl rfl ?_
 refine E3 ?_
 (refine D9 rfl hI4 rfl rfl (fun v8 G8 hle8 hh => ?_); replace hh : v8 = .tuple ⟨[.string s3, .int .i64 k3, .int .i64 l3]⟩ := hh; subst hh; replace hp21 := hp21.mono hle8; have hat2 := A3D hp21)
 refine Q5 ?_
 refine sP (B6 (j := i) rfl rfl rfl (by omega)) rfl rfl ?_
 refine sL (T3 rfl rfl (hat2 i (by omega) _)) rfl rfl ?_
 refine sP (A24 rfl rfl (by omega)) rfl rfl ?_
 refine B7 ?_
 refine sB (qE rfl rfl) rfl rfl (fun h221 => ?_) (fun h221 => ?_)
 refine A3 ?_
 refine sB (qE rfl rfl) rfl rfl (fun h224 => ?_) (fun h224 => ?_)
 refine B4 ?_
 (obtain rfl := hTi (by omega) (by omega); refine sQ (B3g rfl rfl) rfl ?_)
 refine J3 ?_
 refine sP (H5 rfl rfl (by omega) (by omega)) rfl rfl ?_
 refine A3 ?_
 refine I1 (i + 1, G8) ?_ ?_ ?_
 (simp only [H6]; exact D2)
 exact A75
 (show l.length - (i + 1) < l.length - i; omega)
 refine I7 ?_
 refine sP (H5 rfl rfl (by omega) (by omega)) rfl rfl ?_
 refine A3 ?_
 refine I1 (i + 1, G8) ?_ ?_ ?_
 (simp only [H6]; exact D2)
 exact A75
 (show l.length - (i + 1) < l.length - i; omega)
 refine U7 ?_
 refine sP (H5 rfl rfl (by omega) (by omega)) rfl rfl ?_
 refine A3 ?_
 refine I1 (i + 1, G8) ?_ ?_ ?_
 (simp only [H6]; exact D2)
 exact A75
 (show l.length - (i + 1) < l.length - i; omega)
 refine K0 ?_
 refine sP (A2Y (m := l.length) (n := 1) rfl rfl (by omega) (by omega)) rfl rfl ?_
 refine sP (B6 (j := l.length - 1) rfl rfl rfl (by omega)) rfl rfl ?_
 refine sL (T3 rfl rfl (hat (l.length - 1) (by omega) _)) rfl rfl ?_
 refine sP (X5 rfl rfl (by omega)) rfl rfl ?_
 refine A8 ?_
 (exact ⟨rfl, rfl⟩)

theorem B8f (bs : List UInt8) (G : IM) (p : Option Addr) (n c : Nat) (hT : X1 G) (hb : Sl G p n c 1 (M7 bs)) : Fn Tryz.prog 9 [.slice p n c] [] G (K1 fun _ v => v = .bool true) := by
 have hn := hb.le
 refine C1 Tryz.func9 rfl Tryz.ntmps9 Tryz.results9 rfl ?_
 intro w0
 refine J3 ?_
 refine sB (W3 rfl rfl) rfl rfl (fun h11 => ?_) (fun h11 => ?_)
 refine J1 ?_
 (exact ⟨rfl, rfl⟩)
 refine D1 ?_
 (refine D9 rfl (B8b G _ _ _ bs hb) rfl rfl (fun v G1 hle1 hh => ?_); obtain ⟨a, ca, fl, rfl, hra, hfa, hfl⟩ := hh; replace hT := hT.mono hle1; have hca := hfa.2; have hla := hra.len; have hoa := hra.one; have hA := B7Z a fl G1 ca hfa.1 (by omega) hT hra; have hS := fun G cells hr => B71 a fl G cells hfa.1 (by omega) hr; have hC := fun G cells hr => A5J a G cells hfa.1 (by omega) hr; obtain ⟨l, hL⟩ : ∃ l, (W8 a fl).getD [] = l := ⟨_, rfl⟩; obtain ⟨b, hB⟩ : ∃ b, (W8 a fl).isSome = b := ⟨_, rfl⟩; have hrs := fun h : b = true => B75 hL (hB.trans h))
 refine B7 ?_
 refine sE (A7 rfl) rfl (fun b36 => ?_)
 refine sS rfl rfl rfl hla hoa rfl ?_ (hu := by exact D4 hla.symm)
 refine B0 ?_
 refine sL (A2 rfl rfl (A9 (by repeat first | exact mH | apply mT)) hla) rfl rfl ?_
 refine E3 ?_
 (refine D9 rfl hA rfl rfl (fun v2 G2 hle2 hh => ?_); obtain ⟨p2, c2, rfl, hp2⟩ := A2n hL hB hh; have hp21 := hp2.1.mono (C5.le _ _); replace hra := hra.mono hle2; replace hT := hT.mono hle2)
 refine E0 ?_
 refine sL (A2 rfl rfl (A9 (by repeat first | exact mH | apply mT)) hla) rfl rfl ?_
 refine E3 ?_
 (refine D9 rfl (hS _ _ hra) rfl rfl (fun v3 G3 hle3 hh => ?_); obtain ⟨p3, c3, rfl, hp3⟩ := A2n hL hB hh; have hp31 := hp3.1.mono (C5.le _ _); replace hp21 := hp21.mono hle3; replace hra := hra.mono hle3; replace hT := hT.mono hle3; have hI := A5O l l G3 p2 p3 c2 c3 hp21 hp31; rw [decide_eq_true rfl] at hI; cases b)
 refine K5 ?_
 refine sQ (A0N rfl rfl rfl) rfl ?_
 refine B7 ?_
 refine E8 rfl (hI) rfl rfl ?_
 refine J7 ?_
 refine sQ (A5P rfl rfl rfl) rfl ?_
 refine B7 ?_
 refine E8 rfl (hI) rfl rfl ?_
 refine B5 ?_
 (exact ⟨rfl, rfl⟩)
 refine K5 ?_
 refine sQ (A0N rfl rfl rfl) rfl ?_
 refine B7 ?_
 refine E8 rfl (hI) rfl rfl ?_
 refine J7 ?_
 refine sL (A2 rfl rfl (A9 (by repeat first | exact mH | apply mT)) hla) rfl rfl ?_
 refine E3 ?_
 (have hR := hrs rfl; have hl30 := hR.len; have hI1 := A3y a fl G3 ca hT hra; have hno := hR.no; obtain ⟨⟨s1, k1, l1⟩, hr1⟩ : ∃ r, O2 a fl = r := ⟨_, rfl⟩; rw [hr1] at hI1 hno; replace hno : 0 < l.length → k1 ≠ 0 := hno; refine D9 rfl hI1 rfl rfl (fun v6 G6 hle6 hh => ?_); replace hh : v6 = .tuple ⟨[.string s1, .int .i64 k1, .int .i64 l1]⟩ := hh; subst hh; replace hp21 := hp21.mono hle6; replace hra := hra.mono hle6)
 refine I7 ?_
 refine C0 ?_
 (refine J0 (fun (x : Nat × IM) => ⟨[(12, .int .i64 x.1), (10, .int .i64 k1), (5, .slice p2 l.length c2), (3, .pointer (some ⟨b36, 0, none⟩))], [.blk b36 ca], x.2⟩) (fun x => x.1 ≤ l.length ∧ C2 G6 x.2) (fun x => l.length - x.1) (0, G6) ?_ ?_ ?_)
 (simp only [H6]; exact D2)
 exact ⟨Nat.zero_le _, C2.refl _⟩
 (rintro ⟨(i : Nat), Gi⟩ ⟨hi, hle⟩; simp only [] at hi hle ⊢; replace hp21 := hp21.mono hle; replace hra := hra.mono hle)
 refine A8 ?_
 refine sB (I8 rfl rfl) rfl rfl (fun h160 => ?_) (fun h160 => ?_)
 refine A8 ?_
 refine C0 ?_
 refine tS ?_
 (obtain ⟨bR, oR, rfl, _⟩ := A5Q hp21 (i := i) (by omega); have hat := A3D hp21; have hrg := hR.rng i (by omega); have hin := fun h => hR.inc i (by omega) h; have hCi := hC _ _ hra; generalize ((R8 a).length : Int) = NS at *; refine E2 E4 rfl ?_)
 refine J4 (i := 0) (l' := [tt,ff,ff,ff,ff,ff,ff,ff,ff,ff,ff,ff,ff,ff,ff,ff,ff,ff,ff,ff,ff,ff,ff,ff,ff,ff,ff,ff,ff,ff]) rfl D6 (qM rfl) rfl (by kernel_rfl) rfl rfl ?_
 refine aP 1 rfl (qM rfl) rfl ?_
 refine aP 2 rfl (B6 (j := i) rfl rfl rfl (by omega)) rfl ?_
 refine aL 3 rfl (T3 rfl rfl (hat i (by omega) _)) rfl ?_
 refine aP 4 rfl (A1I rfl rfl (by omega)) rfl ?_
 refine aP 5 rfl (qM rfl) rfl ?_
 refine aL 10 rfl (A2 rfl rfl (A9 (by repeat first | exact mH | apply mT)) hla) rfl ?_
 refine aP 6 rfl (qM rfl) rfl ?_
 refine aP 7 rfl (qM rfl) rfl ?_
 refine aP 8 rfl (B6 (j := i) rfl rfl rfl (by omega)) rfl ?_
 refine aL 9 rfl (T3 rfl rfl (hat i (by omega) _)) rfl ?_
 refine A4 11 ?_
 (refine H7 rfl rfl hCi rfl rfl rfl (fun v9 G9 hle9 hh => ?_); subst hh; have hat2 := A3D (hp21.mono hle9))
 refine aP 12 rfl (A4z rfl rfl (by omega)) rfl ?_
 refine aP 13 rfl (O6 rfl rfl) rfl ?_
 refine aP 14 rfl (qM rfl) rfl ?_
 refine aP 15 rfl (qM rfl) rfl ?_
 refine A0v (i := 16) (l' := [tt,tt,tt,tt,tt,tt,tt,tt,tt,tt,tt,tt,tt,tt,tt,tt,tt,ff,ff,ff,ff,ff,ff,ff,ff,ff,ff,ff,ff,ff]) rfl D6 (W3 rfl rfl) rfl (by kernel_rfl) rfl rfl (fun h187 => ?_) (fun h187 => ?_)
 refine aP 17 rfl (qM rfl) rfl ?_
 refine aP 18 rfl (qM rfl) rfl ?_
 refine aP 19 rfl (qM rfl) rfl ?_
 refine aP 20 rfl (A2Y (m := i) (n := 1) rfl rfl (by omega) (by omega)) rfl ?_
 refine aP 21 rfl (B6 (j := i - 1) rfl rfl rfl (by omega)) rfl ?_
 refine aL 22 rfl (T3 rfl rfl (hat2 (i - 1) (by omega) _)) rfl ?_
 refine aP 23 rfl (qM rfl) rfl ?_
 refine aP 24 rfl (qM rfl) rfl ?_
 refine aP 25 rfl (B6 (j := i) rfl rfl rfl (by omega)) rfl ?_
 refine aL 26 rfl (T3 rfl rfl (hat2 i (by omega) _)) rfl ?_
 refine aP 27 rfl (A4z rfl rfl (by omega)) rfl ?_
 refine aP 28 rfl (M9 rfl rfl) rfl ?_
 refine aP 29 rfl (O6 rfl rfl) rfl ?_
 refine D1 ?_
 refine sP (H5 rfl rfl (by omega) (by omega)) rfl rfl ?_
 refine A3 ?_
 refine I1 (i + 1, G9) ?_ ?_ ?_
 (simp only [H6]; exact D2)
 (dsimp only; exact ⟨by omega, hle.trans hle9⟩)
 (show l.length - (i + 1) < l.length - i; omega)
 refine aP 17 rfl (qM rfl) rfl ?_
 refine C4 18 rfl rfl rfl ?_
 refine C4 19 rfl rfl rfl ?_
 refine C4 20 rfl rfl rfl ?_
 refine C4 21 rfl rfl rfl ?_
 refine C4 22 rfl rfl rfl ?_
 refine C4 23 rfl rfl rfl ?_
 refine C4 24 rfl rfl rfl ?_
 refine C4 25 rfl rfl rfl ?_
 refine C4 26 rfl rfl rfl ?_
 refine C4 27 rfl rfl rfl ?_
 refine aP 28 rfl (O6 rfl rfl) rfl ?_
 refine aP 29 rfl (O6 rfl rfl) rfl ?_
 refine D1 ?_
 refine sP (H5 rfl rfl (by omega) (by omega)) rfl rfl ?_
 refine A3 ?_
 refine I1 (i + 1, G9) ?_ ?_ ?_
 (simp only [H6]; exact D2)
 (dsimp only; exact ⟨by omega, hle.trans hle9⟩)
 (show l.length - (i + 1) < l.length - i; omega)
 refine K5 ?_
 refine sB (qE rfl rfl) rfl rfl (fun h256 => ?_) (fun h256 => ?_)
 refine E0 ?_
 (exact ⟨rfl, rfl⟩)
 refine A3 ?_
 refine sP (A0n rfl rfl (by omega)) rfl rfl ?_
 refine A8 ?_
 (exact ⟨rfl, rfl⟩)

end Gw
end Go.Proofs.YtebfignffjhnhaaGreatDoor
