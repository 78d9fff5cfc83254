/-
  The program's evaluator: proxies, injections, values, casts. The program's evaluator: values, casts, nodes. The program's evaluator: replacing a name, casts, nodes. The program's evaluator: casts, nodes, the rules without casts. The program's evaluator: the rules of casts. The program's evaluator: the rules of casts, selections and casts themselves. The program's evaluator: a step. The program's evaluator: step. The program's evaluator: StepCast, runs of steps, their results. Types are kept by steps; a closed term with a type does not get stuck, and what is blamed is a label of its casts. A term with its casts put in is valid, and has the type that the term has. Terms that hold a type.
-/
import Derived.Test.YthpdjmbpbdbodaaGreatDoorKg4
import Derived.Test.YthpdjmbpbdbodaaGreatDoorKg3
import Derived.Test.YthpdjmbpbdbodaaGreatDoorKg1
set_option linter.unusedVariables false
set_option linter.unusedSimpArgs false
set_option maxHeartbeats 0
set_option maxRecDepth 100000
set_option synthInstance.maxSize 4000
set_option synthInstance.maxHeartbeats 0
namespace Go.Proofs.YthpdjmbpbdbodaaGreatDoor
open Go Go.RowKit
namespace Gw
def R3 (t : Tm) : IM → Value → List A6 → Prop := M4 fun G' v => ∃ cells, v = .agg ⟨cells⟩ ∧ A9 G' t cells
theorem R3.mk {G : IM} {t : Tm} {cells : List Value} (h : A9 G t cells) : R3 t G (.agg ⟨cells⟩) [] := ⟨rfl, cells, rfl, h⟩
def mGk (k : Int) : Ty := if k = 4 ∨ k = 5 then .mk k [P9, P9] else .mk k []
theorem A0P {G : IM} {k : Int} {ks : List Tm} {p : Option Addr} {n c : Nat} {es : List (List Value)} (hk : F0 k) (hn : n = ks.length) (hs : D3 G p n c 9 es) (hr : D6 G ks es) : A9 G (A0n k ks) [.int .i64 k, .string ⟨⟨[]⟩⟩, .int .i64 0, .int .i64 0, .slice none 0 0, .int .i64 0, .slice none 0 0, .int .i64 0, .slice p n c] := by
 subst hn
 simp only [A0n, A9]
 exact ⟨[.int .i64 0, .slice none 0 0], [.int .i64 0, .slice none 0 0], p, c, es, rfl, hk, ⟨by decide, by decide⟩, ⟨by decide, by decide⟩, A1e G, A1e G, hs, hr⟩
theorem A6a (k : Int) (G : IM) (hk : F0 k) : Fn Tryz.prog 153 [.int .i64 k] [] G (M4 fun G' v => ∃ cells, v = .agg ⟨cells⟩ ∧ B6 G' (mGk k) cells) := by
 have hB := A1Y k P9 P9 G _ _ hk (A0C G) (A0C G)
 refine B7 Tryz.func153 rfl Tryz.ntmps153 Tryz.results153 rfl ?_
 intro w0
 refine tS (tR ?_)
 refine sE (A7 rfl) rfl (fun b3 => ?_)
 refine sD (nS (tS (tS (tR (sQ (qM rfl) rfl ?_)))))
 refine sB (qE rfl rfl) rfl rfl (fun h10 => ?_) (fun h10 => ?_)
 refine I5 ?_
 refine H8 rfl ((A1C _ _)) rfl rfl ?_
 refine H8 rfl ((A1C _ _)) rfl rfl ?_
 (refine E4 rfl hB rfl rfl (fun v G1 hle1 hh => ?_); obtain ⟨cb, rfl, hrb⟩ := hh; obtain ⟨p1, c1, e1, rfl, _⟩ := hrb.open)
 refine F9 ?_
 refine sD (nS (tT (rS ?_)))
 refine E5 (rC rfl (A5 rfl rfl)) ?_
 (exact ⟨rfl, _, rfl, by unfold mGk; rw [if_pos (by omega)]; exact hrb⟩)
 refine sQ (qM rfl) rfl (sQ (qM rfl) rfl ?_)
 refine sB (qE rfl rfl) rfl rfl (fun h33 => ?_) (fun h33 => ?_)
 refine C4 ?_
 refine H8 rfl ((A1C _ _)) rfl rfl ?_
 refine H8 rfl ((A1C _ _)) rfl rfl ?_
 (refine E4 rfl hB rfl rfl (fun v G1 hle1 hh => ?_); obtain ⟨cb, rfl, hrb⟩ := hh; obtain ⟨p1, c1, e1, rfl, _⟩ := hrb.open)
 refine F9 ?_
 refine sD (nS (tT (rS ?_)))
 refine E5 (rC rfl (A5 rfl rfl)) ?_
 (exact ⟨rfl, _, rfl, by unfold mGk; rw [if_pos (by omega)]; exact hrb⟩)
 refine D9 ?_
 refine H8 rfl ((A1C _ _)) rfl rfl ?_
 refine F9 ?_
 refine sD (nS (tT ?_))
 refine E5 (rC rfl (A5 rfl rfl)) ?_
 (exact ⟨rfl, _, rfl, by unfold mGk; rw [if_neg (by omega)]; exact M2 _ hk⟩)
theorem A8N (t : Ty) (G : IM) (cells : List Value) (hr : B6 G t cells) : Fn Tryz.prog 111 [.agg ⟨cells⟩] [] G (H2 (.bool (U2 t)) G) := by
 refine Fn.forget (post := M4 fun _ v => v = .bool (U2 t)) ?_ (fun _ _ _ h => h.2)
 have hr0 := hr
 obtain ⟨tk, tks⟩ := t
 obtain ⟨p, c, es, rfl, hk, _⟩ := hr.open
 simp only [Ty.k, Ty.ks] at hk hr0 ⊢
 rw [show U2 (.mk tk tks) = (decide (tk ≠ 1) && M5 (.mk tk tks) (mGk tk)) from rfl]
 refine B7 Tryz.func111 rfl Tryz.ntmps111 Tryz.results111 rfl ?_
 intro w0
 refine tS (tR ?_)
 refine sE (C2 rfl rfl) rfl (fun b3 => ?_)
 refine sQ (qA rfl) rfl (sD (nS (tS ?_)))
 refine D4 D5 rfl ?_
 refine I3 (i := 0) (l' := [tt,ff,ff,ff,ff,ff,ff,ff,ff,ff,ff]) rfl C8 (B0 rfl) rfl (by kernel_rfl) rfl rfl ?_
 refine aL 1 rfl (B5 rfl rfl) rfl ?_
 refine A0H (i := 2) (l' := [tt,tt,tt,ff,ff,ff,ff,ff,ff,ff,ff]) rfl C8 (M3 rfl rfl) rfl (by kernel_rfl) rfl rfl (fun h11 => ?_) (fun h11 => ?_)
 refine aP 3 rfl (qM rfl) rfl ?_
 refine aL 4 rfl (A5 rfl rfl) rfl ?_
 refine aP 5 rfl (B0 rfl) rfl ?_
 refine aL 6 rfl (B5 rfl rfl) rfl ?_
 refine A4 7 ?_
 (refine H1 rfl rfl (A6a tk G hk) rfl rfl rfl (fun v G1 hle1 hh => ?_); obtain ⟨cg, rfl, hrg⟩ := hh; have hT := A52 (.mk tk tks) (mGk tk) G1 _ _ (hr0.mono hle1) hrg; obtain ⟨pg, cgg, eg, rfl, _⟩ := hrg.open)
 refine A4 8 ?_
 refine N4 rfl rfl (hT) rfl rfl rfl ?_
 refine aP 9 rfl (K8 rfl rfl) rfl ?_
 refine aP 10 rfl (qA rfl) rfl ?_
 refine C1 (nS (tT (E5 (rT rfl) ?_)))
 (exact ⟨rfl, by rw [decide_eq_true (by omega), Bool.true_and]⟩)
 refine aP 3 rfl (qM rfl) rfl ?_
 refine C0 4 rfl rfl rfl ?_
 refine C0 5 rfl rfl rfl ?_
 refine C0 6 rfl rfl rfl ?_
 refine C0 7 rfl rfl rfl ?_
 refine C0 8 rfl rfl rfl ?_
 refine aP 9 rfl (N2 rfl rfl) rfl ?_
 refine aP 10 rfl (qA rfl) rfl ?_
 refine C1 (nS (tT (E5 (rT rfl) ?_)))
 (exact ⟨rfl, by rw [decide_eq_false (by omega), Bool.false_and]⟩)
theorem A2A (t : Tm) (G : IM) (cells : List Value) (hr : A9 G t cells) : Fn Tryz.prog 69 [.agg ⟨cells⟩] [] G (H2 (.bool (Q6 t)) G) := by
 obtain ⟨k, nm, num, ⟨tk, tks⟩, ⟨fk, fks⟩, lb, ks⟩ := t
 obtain ⟨pt, ct, pf, cf, p, c, es, rfl, hk, hnum, hlb, hty, hfr, hsl, hkl⟩ := hr.open9
 have hd : Q6 (.mk k nm num (.mk tk tks) (.mk fk fks) lb ks) = decide (k = 14 ∧ fk = tk ∧ (tk = 4 ∨ tk = 5)) := rfl
 rw [hd]
 refine B7 Tryz.func69 rfl Tryz.ntmps69 Tryz.results69 rfl ?_
 intro w0
 refine tS (tR ?_)
 refine sE (C2 rfl rfl) rfl (fun b3 => ?_)
 refine C4 ?_
 refine sB (qE rfl rfl) rfl rfl (fun h11 => ?_) (fun h11 => ?_)
 refine C4 ?_
 refine sB (qE rfl rfl) rfl rfl (fun h19 => ?_) (fun h19 => ?_)
 refine O7 ?_
 refine sB (qE rfl rfl) rfl rfl (fun h25 => ?_) (fun h25 => ?_)
 refine N5 ?_
 (exact ⟨rfl, by rw [decide_eq_true (by omega)], rfl⟩)
 refine H3 ?_
 refine sB (qE rfl rfl) rfl rfl (fun h43 => ?_) (fun h43 => ?_)
 refine C4 ?_
 (exact ⟨rfl, by rw [decide_eq_true (by omega)], rfl⟩)
 refine C4 ?_
 (exact ⟨rfl, by rw [decide_eq_false (by omega)], rfl⟩)
 refine T2 ?_
 (exact ⟨rfl, by rw [decide_eq_false (by omega)], rfl⟩)
 refine A36 ?_
 (exact ⟨rfl, by rw [decide_eq_false (by omega)], rfl⟩)
theorem A3J (t : Tm) (G : IM) (cells : List Value) (hr : A9 G t cells) : Fn Tryz.prog 70 [.agg ⟨cells⟩] [] G (H2 (.bool (inj t)) G) := by
 obtain ⟨k, nm, num, ⟨tk, tks⟩, ⟨fk, fks⟩, lb, ks⟩ := t
 obtain ⟨pt, ct, pf, cf, p, c, es, rfl, hk, hnum, hlb, hty, hfr, hsl, hkl⟩ := hr.open9
 have hd : inj (.mk k nm num (.mk tk tks) (.mk fk fks) lb ks) = (decide (k = 14 ∧ tk = 1) && U2 (.mk fk fks)) := rfl
 rw [hd]
 refine B7 Tryz.func70 rfl Tryz.ntmps70 Tryz.results70 rfl ?_
 intro w0
 refine tS (tR ?_)
 refine sE (C2 rfl rfl) rfl (fun b3 => ?_)
 refine C4 ?_
 refine sB (qE rfl rfl) rfl rfl (fun h11 => ?_) (fun h11 => ?_)
 refine H3 ?_
 refine sB (qE rfl rfl) rfl rfl (fun h16 => ?_) (fun h16 => ?_)
 refine H3 ?_
 refine H8 rfl ((A8N (.mk fk fks) G _ hfr)) rfl rfl ?_
 refine H6 ?_
 (exact ⟨rfl, by rw [decide_eq_true (by omega), Bool.true_and], rfl⟩)
 refine J3 ?_
 (exact ⟨rfl, by rw [decide_eq_false (by omega), Bool.false_and], rfl⟩)
 refine K0 ?_
 (exact ⟨rfl, by rw [decide_eq_false (by omega), Bool.false_and], rfl⟩)
theorem B3c (t : Tm) (G : IM) (cells : List Value) (hr : A9 G t cells) : Fn Tryz.prog 73 [.agg ⟨cells⟩] [] G (H2 (.bool (decide (t.k = 2 ∨ t.k = 3 ∨ t.k = 4 ∨ t.k = 5))) G) := by
 obtain ⟨k, nm, num, ⟨tk, tks⟩, ⟨fk, fks⟩, lb, ks⟩ := t
 obtain ⟨pt, ct, pf, cf, p, c, es, rfl, hk, hnum, hlb, hty, hfr, hsl, hkl⟩ := hr.open9
 rw [show (Tm.mk k nm num (.mk tk tks) (.mk fk fks) lb ks).k = k from rfl]
 refine B7 Tryz.func73 rfl Tryz.ntmps73 Tryz.results73 rfl ?_
 intro w0
 refine tS (tR ?_)
 refine sE (C2 rfl rfl) rfl (fun b3 => ?_)
 refine C4 ?_
 refine sB (qE rfl rfl) rfl rfl (fun h11 => ?_) (fun h11 => ?_)
 refine A0k ?_
 (exact ⟨rfl, by rw [decide_eq_true (by omega)], rfl⟩)
 refine J7 ?_
 refine sB (qE rfl rfl) rfl rfl (fun h36 => ?_) (fun h36 => ?_)
 refine K0 ?_
 (exact ⟨rfl, by rw [decide_eq_true (by omega)], rfl⟩)
 refine H3 ?_
 refine sB (qE rfl rfl) rfl rfl (fun h58 => ?_) (fun h58 => ?_)
 refine J3 ?_
 (exact ⟨rfl, by rw [decide_eq_true (by omega)], rfl⟩)
 refine H3 ?_
 refine sB (qE rfl rfl) rfl rfl (fun h75 => ?_) (fun h75 => ?_)
 refine H6 ?_
 (exact ⟨rfl, by rw [decide_eq_true (by omega)], rfl⟩)
 refine H6 ?_
 (exact ⟨rfl, by rw [decide_eq_false (by omega)], rfl⟩)
theorem B3d (G : IM) (p : Option Addr) (n c : Nat) (es : List (List Value)) (hsl : D3 G p n c 9 es) (fid : FuncId) [B4 Tryz.prog fid] (us cs : List Value) (ins : List A6) (q : Nat → Bool)
  (hq : ∀ i e, es[i]? = some e → Fn Tryz.prog fid (us ++ [.agg ⟨e⟩] ++ cs) ins G (T1 (.bool (q i)) ins G)) :
  Fn Tryz.prog 112 [.slice p n c, .func (.func fid) ⟨us⟩ ⟨cs⟩] ins G (T1 (.int .i64 (A0z q n)) ins G) := by
 have hn := hsl.le
 refine B7 Tryz.func112 rfl Tryz.ntmps112 Tryz.results112 rfl ?_
 intro w0
 refine I9 ?_
 refine B8 ?_
 refine J8 (fun i : Nat => ⟨[(8, .int .i64 i), (7, .int .i64 n), (1, .func (.func fid) ⟨us⟩ ⟨cs⟩), (0, .slice p n c)], ins, G⟩) (fun i => i ≤ n ∧ ∀ j, j < i → q j = false) (fun i => n - i) 0 ?_ ?_ ?_
 exact D8
 exact ⟨by omega, by omega⟩
 rintro i ⟨hi, hf⟩
 refine tS (tR ?_)
 refine sB (J4 rfl rfl) rfl rfl (fun h21 => ?_) (fun h21 => ?_)
 refine sD (nS (tS (qT rfl (tK (nS (tS ?_))))))
 refine B8 ?_
 refine J3 ?_
 (obtain ⟨e, b, o, he, rfl, hl, _, hat, _⟩ := hsl.get (i := i) (by omega); refine sP (B3 rfl rfl rfl (by omega)) rfl rfl ?_)
 refine sL (A3 rfl rfl (hat _) hl) rfl rfl ?_
 refine A34 rfl rfl (hq i e he) Z8 rfl rfl (fun h43 => ?_) (fun h43 => ?_)
 refine H4 ?_
 refine H5 (rT rfl) A0.refl ?_
 exact ⟨rfl, by rw [A64 (by omega) hf (by assumption)], rfl⟩
 refine sD (nS (cF rfl (tK (N3 (nS (tR ?_))))))
 refine sP (J2 rfl rfl (by omega) (by omega)) rfl rfl ?_
 refine sQ (qM rfl) rfl (sD ?_)
 refine J9 (i + 1) ?_ ?_ ?_
 exact D8
 exact ⟨by omega, fun j hj => by by_cases hji : j = i; (subst hji; assumption); exact hf j (by omega)⟩
 omega
 refine H4 ?_
 refine H5 (rT rfl) A0.refl ?_
 exact ⟨rfl, by rw [A5e (fun j hj => hf j (by omega))], rfl⟩
theorem B3e (G : IM) (p : Option Addr) (n c : Nat) (es : List (List Value)) (hsl : D3 G p n c 9 es) (fid : FuncId) [B4 Tryz.prog fid] (us cs : List Value) (ins : List A6) (q : Nat → Bool)
  (hq : ∀ i e, es[i]? = some e → Fn Tryz.prog fid (us ++ [.agg ⟨e⟩] ++ cs) ins G (T1 (.bool (q i)) ins G)) :
  Fn Tryz.prog 71 [.slice p n c, .func (.func fid) ⟨us⟩ ⟨cs⟩] ins G (T1 (.bool (decide (0 ≤ A0z q n))) ins G) := by
 refine B7 Tryz.func71 rfl Tryz.ntmps71 Tryz.results71 rfl ?_
 intro w0
 refine D9 ?_
 refine A2b rfl (B3d G p n c es hsl fid us cs ins q hq) Z8 rfl rfl ?_
 refine sQ (A0I rfl rfl) rfl ?_
 refine sQ (qA rfl) rfl (sD (nS (tT ?_)))
 refine H5 (rT rfl) A0.refl ?_
 exact ⟨rfl, rfl, rfl⟩
theorem B3f (G : IM) (p : Option Addr) (n c : Nat) (es : List (List Value)) (hsl : D3 G p n c 9 es) (fid : FuncId) [B4 Tryz.prog fid] (us cs : List Value) (ins : List A6) (f : Tm → Bool) (ks : List Tm)
  (hn : ks.length = n) {A : Bool} (hA : ks.all f = A) (hq : ∀ i e, es[i]? = some e → Fn Tryz.prog fid (us ++ [.agg ⟨e⟩] ++ cs) ins G (T1 (.bool (!f (ks.getD i I2))) ins G)) :
  Fn Tryz.prog 71 [.slice p n c, .func (.func fid) ⟨us⟩ ⟨cs⟩] ins G (T1 (.bool (!A)) ins G) := by
 subst hn hA
 rw [← A67 f ks I2]
 exact B3e G p _ c es hsl fid us cs ins _ hq
theorem A8O : ∀ ks, A04 ks = ks.all E7
 | [] => rfl
 | t :: ts => by rw [A04, A8O ts, List.all_cons]
theorem B3g (t : Tm) (G : IM) (cells : List Value) (hl : cells.length = 9) (ho : cells.all (·.oneCell') = true) (h : Fn Tryz.prog 37 [.agg ⟨cells⟩] [] G (H2 (.bool (E7 t)) G)) :
  Fn Tryz.prog 72 [.agg ⟨cells⟩] [] G (T1 (.bool (!E7 t)) [] G) := by
 refine B7 Tryz.func72 rfl Tryz.ntmps72 Tryz.results72 rfl ?_
 intro w0
 refine tS (tR ?_)
 refine sE (C2 rfl rfl) rfl (fun b3 => ?_)
 refine sQ (qA rfl) rfl (sD (nS (tS (tR ?_))))
 refine sL (A3 rfl rfl (B1 (by repeat first | exact mH | apply mT)) hl) rfl rfl ?_
 refine H8 rfl (h) rfl rfl ?_
 refine sQ (A2E rfl) rfl ?_
 refine sQ (qA rfl) rfl (sD (nS (tT (E5 (rT rfl) ?_))))
 (exact ⟨rfl, rfl, rfl⟩)
theorem A1j (k : Int) (nm : ByteArray) (num : Int) (ty fr : Ty) (lb : Int) (ks : List Tm) : Q6 (.mk k nm num ty fr lb ks) = decide (k = 14 ∧ fr.k = ty.k ∧ (ty.k = 4 ∨ ty.k = 5)) := rfl
theorem A4C (k : Int) (nm : ByteArray) (num : Int) (ty fr : Ty) (lb : Int) (ks : List Tm) : inj (.mk k nm num ty fr lb ks) = (decide (k = 14 ∧ ty.k = 1) && U2 fr) := rfl
theorem A3K {k : Int} {nm : ByteArray} {num : Int} {ty fr : Ty} {lb : Int} {ks : List Tm} (h : k = 10 ∨ Q6 (.mk k nm num ty fr lb ks) = true ∨ inj (.mk k nm num ty fr lb ks) = true) : E7 (.mk k nm num ty fr lb ks) = ks.all E7 := by
 rw [E7, if_pos, A8O]
 rw [A1j, A4C] at h
 simp only [Bool.and_eq_true, decide_eq_true_eq] at h
 rcases h with h | h | h
 ·exact .inl h
 ·exact .inr (.inl h)
 ·exact .inr (.inr ⟨h.1.1, h.1.2, h.2⟩)
theorem A4D {k : Int} {nm : ByteArray} {num : Int} {ty fr : Ty} {lb : Int} {ks : List Tm} (h : ¬k = 10) (h2 : Q6 (.mk k nm num ty fr lb ks) = false) (h3 : inj (.mk k nm num ty fr lb ks) = false) : E7 (.mk k nm num ty fr lb ks) = decide (k = 2 ∨ k = 3 ∨ k = 4 ∨ k = 5) := by
 rw [E7, if_neg]
 rw [A1j] at h2
 rw [A4C] at h3
 simp only [Bool.and_eq_false_iff, decide_eq_false_iff_not] at h2 h3
 rintro (h' | h' | h')
 ·exact h h'
 ·exact h2 h'
 ·rcases h3 with h3 | h3
  ·exact h3 ⟨h'.1, h'.2.1⟩
  ·rw [h3] at h'; cases h'.2.2
theorem A8P : ∀ (t : Tm) (G : IM) (cells : List Value), A9 G t cells → Fn Tryz.prog 37 [.agg ⟨cells⟩] [] G (H2 (.bool (E7 t)) G) := by
 refine Tm.ind fun k nm num ty fr lb ks ih G cells hr => ?_
 have hr0 := hr
 have hP := A2A _ G _ hr
 have hI := A3J _ G _ hr
 have hPl := B3c _ G _ hr
 have hy := @A3K k nm num ty fr lb ks
 have hn := @A4D k nm num ty fr lb ks
 rw [show (Tm.mk k nm num ty fr lb ks).k = k from rfl] at hPl
 obtain ⟨A, hA⟩ : ∃ A, ks.all E7 = A := ⟨_, rfl⟩
 rw [hA] at hy
 generalize hpx : Q6 (.mk k nm num ty fr lb ks) = bp at hP hy hn
 generalize hij : inj (.mk k nm num ty fr lb ks) = bi at hI hy hn
 generalize E7 (.mk k nm num ty fr lb ks) = R at hy hn ⊢
 obtain ⟨tk, tks⟩ := ty
 obtain ⟨fk, fks⟩ := fr
 obtain ⟨pt, ct, pf, cf, p, c, es, rfl, hk, hnum, hlb, hty, hfr, hsl, hkl⟩ := hr.open9
 have hC := B3f G p ks.length c es hsl 72 [] [] [] E7 ks rfl hA (fun i e he => by
  have hx := hkl.inv he I2
  exact B3g _ G e hx.2.len hx.2.one (ih _ hx.1 G e hx.2))
 refine B7 Tryz.func37 rfl Tryz.ntmps37 Tryz.results37 rfl ?_
 intro w0
 refine tS (tR ?_)
 refine sE (C2 rfl rfl) rfl (fun b3 => ?_)
 refine D2 ?_
 refine sB (qE rfl rfl) rfl rfl (fun h12 => ?_) (fun h12 => ?_)
 refine H4 ?_
 refine A2b rfl hC Z8 rfl rfl ?_
 refine sQ (A2E rfl) rfl ?_
 refine sQ (qA rfl) rfl (sD (nS (tT (rS (E5 (rT rfl) ?_)))))
 (exact ⟨rfl, by rw [hy (by first | exact .inl (by omega) | exact .inr (.inl (by assumption)) | exact .inr (.inr (by assumption)))]; cases A <;> rfl, rfl⟩)
 refine sQ (qM rfl) rfl (sL (A5 rfl rfl) rfl rfl ?_)
 refine E2 rfl (hP) rfl rfl (fun h39 => ?_) (fun h39 => ?_)
 refine N5 ?_
 refine A2b rfl hC Z8 rfl rfl ?_
 refine sQ (A2E rfl) rfl ?_
 refine sQ (qA rfl) rfl (sD (nS (tT (rS (E5 (rT rfl) ?_)))))
 (exact ⟨rfl, by rw [hy (by first | exact .inl (by omega) | exact .inr (.inl (by assumption)) | exact .inr (.inr (by assumption)))]; cases A <;> rfl, rfl⟩)
 refine J7 ?_
 refine E2 rfl (hI) rfl rfl (fun h64 => ?_) (fun h64 => ?_)
 refine D2 ?_
 refine A2b rfl hC Z8 rfl rfl ?_
 refine sQ (A2E rfl) rfl ?_
 refine sQ (qA rfl) rfl (sD (nS (tT (rS (E5 (rT rfl) ?_)))))
 (exact ⟨rfl, by rw [hy (by first | exact .inl (by omega) | exact .inr (.inl (by assumption)) | exact .inr (.inr (by assumption)))]; cases A <;> rfl, rfl⟩)
 refine D9 ?_
 refine H8 rfl (hPl) rfl rfl ?_
 refine sQ (qA rfl) rfl (sD (nS (tT (E5 (rT rfl) ?_))))
 (exact ⟨rfl, by rw [hn (by omega) (by assumption) (by assumption)], rfl⟩)
theorem A9.put {G : IM} {k : Int} {nm : ByteArray} {num tk fk lb : Int} {tks fks : List Ty} {us : List Tm} {pt pf p : Option Addr} {ct cf n c : Nat} {es : List (List Value)} (hk : F0 k) (hnum : F0 num) (hlb : F0 lb) (hty : B6 G (.mk tk tks) [.int .i64 tk, .slice pt tks.length ct]) (hfr : B6 G (.mk fk fks) [.int .i64 fk, .slice pf fks.length cf])
  (hn : n = us.length) (hs : D3 G p n c 9 es) (hr : D6 G us es) : A9 G (.mk k nm num (.mk tk tks) (.mk fk fks) lb us) [.int .i64 k, .string nm, .int .i64 num, .int .i64 tk, .slice pt tks.length ct, .int .i64 fk, .slice pf fks.length cf, .int .i64 lb, .slice p n c] := by
 subst hn
 simp only [A9]
 exact ⟨_, _, p, c, es, rfl, hk, hnum, hlb, hty, hfr, hs, hr⟩
theorem nine {uc : List Value} (h : uc.length = 9) : ∃ v1 v2 v3 v4 v5 v6 v7 v8 v9, uc = [v1, v2, v3, v4, v5, v6, v7, v8, v9] := by
 match uc, h with
 | [a, b, c, d, e, f, g, i, j], _ => exact ⟨a, b, c, d, e, f, g, i, j, rfl⟩
theorem A22 {x : ByteArray} {v : Tm} {ks : List Tm} {i : Nat} (h : i < ks.length) : (S5 x v ks).take (i + 1) = (S5 x v ks).take i ++ [T5 x v ks[i]] := by
 rw [A4r, List.take_succ_eq_append_getElem (by rw [List.length_map]; exact h), List.getElem_map]
theorem Y2 (x : ByteArray) (v : Tm) (ks : List Tm) : (S5 x v ks).length = ks.length := by rw [A4r, List.length_map]
theorem B3h (y : ByteArray) (v : Tm) (vc : List Value) : ∀ (t : Tm) (G : IM) (cells : List Value), t.small → A9 G t cells → A9 G v vc → Fn Tryz.prog 168 [.agg ⟨cells⟩, .string y, .agg ⟨vc⟩] [] G (R3 (T5 y v t)) := by
 refine Tm.ind fun k nm num ty fr lb ks ih G cells hts hr hv => ?_
 have hr0 := hr
 obtain ⟨_, _, _, hsm, hks⟩ := A0o.1 hts
 have hvl := hv.len
 have hvo := hv.one
 have hRl := hr.len
 have hRo := hr.one
 rw [T5]
 obtain ⟨tk, tks⟩ := ty
 obtain ⟨fk, fks⟩ := fr
 obtain ⟨pt, ct, pf, cf, p, c, es, rfl, hk, hnum, hlb, hty, hfr, hsl, hkl⟩ := hr.open9
 have hn := hsl.le
 refine B7 Tryz.func168 rfl Tryz.ntmps168 Tryz.results168 rfl ?_
 intro w0
 refine tS (tR ?_)
 refine sE (C2 rfl rfl) rfl (fun b3 => ?_)
 refine sE (C2 rfl rfl) rfl (fun b4 => ?_)
 refine sE (A7 rfl) rfl (fun b5 => ?_)
 refine sD (nS (tS ?_))
 refine B8 ?_
 refine tS (tR (sQ (B0 rfl) rfl (sL (B5 rfl rfl) rfl rfl ?_)))
 refine sB (qE rfl rfl) rfl rfl (fun h14 => ?_) (fun h14 => ?_)
 refine H3 ?_
 refine sB (A0x rfl rfl) rfl rfl (fun h19 => ?_) (fun h19 => ?_)
 refine C4 ?_
 refine sL (A3 rfl rfl (B1 (by repeat first | exact mH | apply mT)) hvl) rfl rfl ?_
 refine sS rfl rfl rfl hvl hvo rfl ?_ (hu := by exact D1 hvl.symm)
 refine sD (nS (tT (rB (rS ?_))))
 refine E5 (rC rfl (A3 rfl rfl (B1 (by repeat first | exact mH | apply mT)) hvl)) ?_
 (rw [if_pos (by refine ⟨by omega, by assumption⟩)]; exact R3.mk hv)
 refine D9 ?_
 refine sP (I4 rfl rfl (by omega)) rfl rfl ?_
 refine K0 ?_
 refine sE (A7 rfl) rfl (fun b62 => ?_)
 refine T2 ?_
 refine B8 ?_
 (refine U5 28 9 ?_; refine J8 (fun (x : Nat × Option Addr × Nat × List (List Value) × IM) => ⟨[(37, .int .i64 x.1), (36, .int .i64 ks.length), (35, .slice p ks.length c), (1, .string y), (3, .pointer (some ⟨b3, 0, none⟩)), (5, .pointer (some ⟨b4, 0, none⟩)), (6, .pointer (some ⟨b5, 0, none⟩)), (7, .pointer (some ⟨b62, 0, none⟩))], [.blk b62 [.int .i64 k, .string nm, .int .i64 num, .int .i64 tk, .slice pt tks.length ct, .int .i64 fk, .slice pf fks.length cf, .int .i64 lb, .slice x.2.1 x.1 x.2.2.1], .slc x.2.1 x.2.2.1 28 9 x.1 x.2.2.2.1.flatten, .blk b5 [.int .i64 0, .string ⟨⟨[]⟩⟩, .int .i64 0, .int .i64 0, .slice none 0 0, .int .i64 0, .slice none 0 0, .int .i64 0, .slice none 0 0], .blk b4 vc, .blk b3 [.int .i64 k, .string nm, .int .i64 num, .int .i64 tk, .slice pt tks.length ct, .int .i64 fk, .slice pf fks.length cf, .int .i64 lb, .slice p ks.length c]], x.2.2.2.2⟩) (fun x => x.1 ≤ ks.length ∧ B9 G x.2.2.2.2 ∧ D6 x.2.2.2.2 ((S5 y v ks).take x.1) x.2.2.2.1) (fun x => ks.length - x.1) (0, none, 0, [], G) ?_ ?_ ?_)
 (simp only [J5]; exact D8)
 (exact ⟨Nat.zero_le _, B9.refl _, by simp [D6]⟩)
 (rintro ⟨i, pn, cn, es', Gi⟩ ⟨hi, hle, hst⟩; simp only [] at hi hle hst ⊢; replace hsl := hsl.mono hle; replace hkl := hkl.mono hle; replace hv := hv.mono hle; replace hty := hty.mono hle; replace hfr := hfr.mono hle; have hsl' := hst.len; rw [List.length_take, Y2] at hsl')
 refine tS (tR ?_)
 refine sB (J4 rfl rfl) rfl rfl (fun h88 => ?_) (fun h88 => ?_)
 refine sD (nS (tS (qT rfl (tK (nS (tS ?_))))))
 refine B8 ?_
 refine tS (tR ?_)
 (have hil : i < ks.length := (by omega); obtain ⟨bx, ox, e, rfl, hl, hat, hre, hgb⟩ := hsl.kidTm hkl (i := i) (by omega) (by omega); have hel := hre.len; have heo := hre.one; refine sP (B3 (j := i) rfl rfl rfl (by omega)) rfl rfl ?_)
 refine sL (A3 rfl rfl (hat _) hl) rfl rfl ?_
 refine sE (A7 rfl) rfl (fun b101 => ?_)
 refine sS rfl rfl rfl hel heo rfl ?_ (hu := by exact D1 hel.symm)
 refine sD (nS ?_)
 refine D4 D5 rfl ?_
 refine K9 (i := 2) (l' := [ff,ff,tt,ff,ff,ff,ff,ff,ff,ff]) rfl C8 (A3 rfl rfl (B1 (by repeat first | exact mH | apply mT)) hel) rfl (by kernel_rfl) rfl rfl ?_
 refine aL 4 rfl (A3 rfl rfl (B1 (by repeat first | exact mH | apply mT)) hvl) rfl ?_
 refine aP 0 rfl (B0 rfl) rfl ?_
 refine aL 1 rfl (B5 rfl rfl) rfl ?_
 refine aP 3 rfl (qM rfl) rfl ?_
 refine A4 5 ?_
 (refine H1 rfl rfl (ih ks[i] (List.getElem_mem (by omega)) Gi _ (Tm.smallL_mem hks _ (List.getElem_mem (by omega))) hre hv) rfl rfl rfl (fun u G1 hle1 hh => ?_); obtain ⟨uc, rfl, hru⟩ := hh; have hul := hru.len; have huo := hru.one; obtain ⟨v1, v2, v3, v4, v5, v6, v7, v8, v9, rfl⟩ := nine hul)
 refine A4 6 ?_
 (refine E0 rfl (C7 rfl rfl rfl (by omega) (by unfold maxLen; omega) rfl) rfl rfl ?_; rintro _ ⟨b114, rfl⟩)
 refine A4 7 ?_
 (refine Q4 rfl rfl rfl rfl rfl rfl (fun _ _ => by repeat (first | exact Sw.here | apply Sw.there)) (N9 (by repeat first | exact mH | apply mT)) rfl (fun u hu => List.all_eq_true.1 huo u hu) (by unfold maxLen; omega) (by omega) rfl rfl (by repeat (first | exact A8.nil | apply A8.dep (by decide +kernel) | apply A8.im (by decide +kernel) (by assumption) (by repeat first | exact mH | apply mT) | apply A8.blk (by decide +kernel) (by repeat (first | exact Pk.here | apply Pk.there)) (by repeat first | exact mH | apply mT))) (fun p7 c7 => ?_))
 refine aP 8 rfl (B0 rfl) rfl ?_
 refine A4 9 ?_
 refine Q9 rfl rfl rfl rfl rfl rfl rfl rfl (by decide +kernel) (by repeat first | exact Sw.here | apply Sw.there) (by rfl) ?_
 refine C1 (N3 (nS (tR ?_)))
 refine sP (J2 rfl rfl (by omega) (by omega)) rfl rfl ?_
 refine sQ (qM rfl) rfl (sD ?_)
 refine J9 (i + 1, p7, c7, es' ++ [[v1, v2, v3, v4, v5, v6, v7, v8, v9]], G1) ?_ ?_ ?_
 (simp only [J5]; exact D8)
 (dsimp only; exact ⟨by omega, hle.trans hle1, by rw [A22 (by omega)]; exact D6.snoc (hst.mono hle1) hru⟩)
 (show ks.length - (i + 1) < ks.length - i; omega)
 refine H4 ?_
 (refine H0 (cs := es'.flatten) (by repeat (first | exact Pk.here | apply Pk.there)) (fun G2 hle2 hsl2 hno2 => ?_); obtain rfl : i = ks.length := (by omega))
 refine tT ?_
 refine E5 (rC rfl (A5 rfl rfl)) ?_
 (rw [if_neg (by rintro ⟨h1, h2⟩; first | omega | contradiction), if_neg (by rintro ⟨h1, h2⟩; first | omega | contradiction)]; rw [List.take_of_length_le (by rw [Y2]; omega)] at hst; exact R3.mk (A9.put hk hnum hlb (hty.mono hle2) (hfr.mono hle2) (by rw [Y2]) (D3.of hsl2 (by omega) hst.all (fun e he => (hst.each e he).2)) (hst.mono hle2)))
 refine I6 ?_
 refine sB (qE rfl rfl) rfl rfl (fun h164 => ?_) (fun h164 => ?_)
 refine H3 ?_
 refine sB (A0x rfl rfl) rfl rfl (fun h169 => ?_) (fun h169 => ?_)
 refine I6 ?_
 refine E5 (rC rfl (A5 rfl rfl)) ?_
 (rw [if_neg (by rintro ⟨h1, h2⟩; first | omega | contradiction), if_pos (by refine ⟨by omega, by assumption⟩)]; exact R3.mk hr0)
 refine J3 ?_
 refine sE (A7 rfl) rfl (fun b197 => ?_)
 refine T2 ?_
 refine B8 ?_
 (refine U5 28 9 ?_; refine J8 (fun (x : Nat × Option Addr × Nat × List (List Value) × IM) => ⟨[(37, .int .i64 x.1), (36, .int .i64 ks.length), (35, .slice p ks.length c), (1, .string y), (3, .pointer (some ⟨b3, 0, none⟩)), (5, .pointer (some ⟨b4, 0, none⟩)), (6, .pointer (some ⟨b5, 0, none⟩)), (7, .pointer (some ⟨b197, 0, none⟩))], [.blk b197 [.int .i64 k, .string nm, .int .i64 num, .int .i64 tk, .slice pt tks.length ct, .int .i64 fk, .slice pf fks.length cf, .int .i64 lb, .slice x.2.1 x.1 x.2.2.1], .slc x.2.1 x.2.2.1 28 9 x.1 x.2.2.2.1.flatten, .blk b5 [.int .i64 0, .string ⟨⟨[]⟩⟩, .int .i64 0, .int .i64 0, .slice none 0 0, .int .i64 0, .slice none 0 0, .int .i64 0, .slice none 0 0], .blk b4 vc, .blk b3 [.int .i64 k, .string nm, .int .i64 num, .int .i64 tk, .slice pt tks.length ct, .int .i64 fk, .slice pf fks.length cf, .int .i64 lb, .slice p ks.length c]], x.2.2.2.2⟩) (fun x => x.1 ≤ ks.length ∧ B9 G x.2.2.2.2 ∧ D6 x.2.2.2.2 ((S5 y v ks).take x.1) x.2.2.2.1) (fun x => ks.length - x.1) (0, none, 0, [], G) ?_ ?_ ?_)
 (simp only [J5]; exact D8)
 (exact ⟨Nat.zero_le _, B9.refl _, by simp [D6]⟩)
 (rintro ⟨i, pn, cn, es', Gi⟩ ⟨hi, hle, hst⟩; simp only [] at hi hle hst ⊢; replace hsl := hsl.mono hle; replace hkl := hkl.mono hle; replace hv := hv.mono hle; replace hty := hty.mono hle; replace hfr := hfr.mono hle; have hsl' := hst.len; rw [List.length_take, Y2] at hsl')
 refine tS (tR ?_)
 refine sB (J4 rfl rfl) rfl rfl (fun h223 => ?_) (fun h223 => ?_)
 refine sD (nS (tS (qT rfl (tK (nS (tS ?_))))))
 refine B8 ?_
 refine tS (tR ?_)
 (have hil : i < ks.length := (by omega); obtain ⟨bx, ox, e, rfl, hl, hat, hre, hgb⟩ := hsl.kidTm hkl (i := i) (by omega) (by omega); have hel := hre.len; have heo := hre.one; refine sP (B3 (j := i) rfl rfl rfl (by omega)) rfl rfl ?_)
 refine sL (A3 rfl rfl (hat _) hl) rfl rfl ?_
 refine sE (A7 rfl) rfl (fun b236 => ?_)
 refine sS rfl rfl rfl hel heo rfl ?_ (hu := by exact D1 hel.symm)
 refine sD (nS ?_)
 refine D4 D5 rfl ?_
 refine K9 (i := 2) (l' := [ff,ff,tt,ff,ff,ff,ff,ff,ff,ff]) rfl C8 (A3 rfl rfl (B1 (by repeat first | exact mH | apply mT)) hel) rfl (by kernel_rfl) rfl rfl ?_
 refine aL 4 rfl (A3 rfl rfl (B1 (by repeat first | exact mH | apply mT)) hvl) rfl ?_
 refine aP 0 rfl (B0 rfl) rfl ?_
 refine aL 1 rfl (B5 rfl rfl) rfl ?_
 refine aP 3 rfl (qM rfl) rfl ?_
 refine A4 5 ?_
 (refine H1 rfl rfl (ih ks[i] (List.getElem_mem (by omega)) Gi _ (Tm.smallL_mem hks _ (List.getElem_mem (by omega))) hre hv) rfl rfl rfl (fun u G1 hle1 hh => ?_); obtain ⟨uc, rfl, hru⟩ := hh; have hul := hru.len; have huo := hru.one; obtain ⟨v1, v2, v3, v4, v5, v6, v7, v8, v9, rfl⟩ := nine hul)
 refine A4 6 ?_
 (refine E0 rfl (C7 rfl rfl rfl (by omega) (by unfold maxLen; omega) rfl) rfl rfl ?_; rintro _ ⟨b249, rfl⟩)
 refine A4 7 ?_
 (refine Q4 rfl rfl rfl rfl rfl rfl (fun _ _ => by repeat (first | exact Sw.here | apply Sw.there)) (N9 (by repeat first | exact mH | apply mT)) rfl (fun u hu => List.all_eq_true.1 huo u hu) (by unfold maxLen; omega) (by omega) rfl rfl (by repeat (first | exact A8.nil | apply A8.dep (by decide +kernel) | apply A8.im (by decide +kernel) (by assumption) (by repeat first | exact mH | apply mT) | apply A8.blk (by decide +kernel) (by repeat (first | exact Pk.here | apply Pk.there)) (by repeat first | exact mH | apply mT))) (fun p7 c7 => ?_))
 refine aP 8 rfl (B0 rfl) rfl ?_
 refine A4 9 ?_
 refine Q9 rfl rfl rfl rfl rfl rfl rfl rfl (by decide +kernel) (by repeat first | exact Sw.here | apply Sw.there) (by rfl) ?_
 refine C1 (N3 (nS (tR ?_)))
 refine sP (J2 rfl rfl (by omega) (by omega)) rfl rfl ?_
 refine sQ (qM rfl) rfl (sD ?_)
 refine J9 (i + 1, p7, c7, es' ++ [[v1, v2, v3, v4, v5, v6, v7, v8, v9]], G1) ?_ ?_ ?_
 (simp only [J5]; exact D8)
 (dsimp only; exact ⟨by omega, hle.trans hle1, by rw [A22 (by omega)]; exact D6.snoc (hst.mono hle1) hru⟩)
 (show ks.length - (i + 1) < ks.length - i; omega)
 refine H4 ?_
 (refine H0 (cs := es'.flatten) (by repeat (first | exact Pk.here | apply Pk.there)) (fun G2 hle2 hsl2 hno2 => ?_); obtain rfl : i = ks.length := (by omega))
 refine tT ?_
 refine E5 (rC rfl (A5 rfl rfl)) ?_
 (rw [if_neg (by rintro ⟨h1, h2⟩; first | omega | contradiction), if_neg (by rintro ⟨h1, h2⟩; first | omega | contradiction)]; rw [List.take_of_length_le (by rw [Y2]; omega)] at hst; exact R3.mk (A9.put hk hnum hlb (hty.mono hle2) (hfr.mono hle2) (by rw [Y2]) (D3.of hsl2 (by omega) hst.all (fun e he => (hst.each e he).2)) (hst.mono hle2)))
 refine K0 ?_
 refine sE (A7 rfl) rfl (fun b301 => ?_)
 refine T2 ?_
 refine B8 ?_
 (refine U5 28 9 ?_; refine J8 (fun (x : Nat × Option Addr × Nat × List (List Value) × IM) => ⟨[(37, .int .i64 x.1), (36, .int .i64 ks.length), (35, .slice p ks.length c), (1, .string y), (3, .pointer (some ⟨b3, 0, none⟩)), (5, .pointer (some ⟨b4, 0, none⟩)), (6, .pointer (some ⟨b5, 0, none⟩)), (7, .pointer (some ⟨b301, 0, none⟩))], [.blk b301 [.int .i64 k, .string nm, .int .i64 num, .int .i64 tk, .slice pt tks.length ct, .int .i64 fk, .slice pf fks.length cf, .int .i64 lb, .slice x.2.1 x.1 x.2.2.1], .slc x.2.1 x.2.2.1 28 9 x.1 x.2.2.2.1.flatten, .blk b5 [.int .i64 0, .string ⟨⟨[]⟩⟩, .int .i64 0, .int .i64 0, .slice none 0 0, .int .i64 0, .slice none 0 0, .int .i64 0, .slice none 0 0], .blk b4 vc, .blk b3 [.int .i64 k, .string nm, .int .i64 num, .int .i64 tk, .slice pt tks.length ct, .int .i64 fk, .slice pf fks.length cf, .int .i64 lb, .slice p ks.length c]], x.2.2.2.2⟩) (fun x => x.1 ≤ ks.length ∧ B9 G x.2.2.2.2 ∧ D6 x.2.2.2.2 ((S5 y v ks).take x.1) x.2.2.2.1) (fun x => ks.length - x.1) (0, none, 0, [], G) ?_ ?_ ?_)
 (simp only [J5]; exact D8)
 (exact ⟨Nat.zero_le _, B9.refl _, by simp [D6]⟩)
 (rintro ⟨i, pn, cn, es', Gi⟩ ⟨hi, hle, hst⟩; simp only [] at hi hle hst ⊢; replace hsl := hsl.mono hle; replace hkl := hkl.mono hle; replace hv := hv.mono hle; replace hty := hty.mono hle; replace hfr := hfr.mono hle; have hsl' := hst.len; rw [List.length_take, Y2] at hsl')
 refine tS (tR ?_)
 refine sB (J4 rfl rfl) rfl rfl (fun h327 => ?_) (fun h327 => ?_)
 refine sD (nS (tS (qT rfl (tK (nS (tS ?_))))))
 refine B8 ?_
 refine tS (tR ?_)
 (have hil : i < ks.length := (by omega); obtain ⟨bx, ox, e, rfl, hl, hat, hre, hgb⟩ := hsl.kidTm hkl (i := i) (by omega) (by omega); have hel := hre.len; have heo := hre.one; refine sP (B3 (j := i) rfl rfl rfl (by omega)) rfl rfl ?_)
 refine sL (A3 rfl rfl (hat _) hl) rfl rfl ?_
 refine sE (A7 rfl) rfl (fun b340 => ?_)
 refine sS rfl rfl rfl hel heo rfl ?_ (hu := by exact D1 hel.symm)
 refine sD (nS ?_)
 refine D4 D5 rfl ?_
 refine K9 (i := 2) (l' := [ff,ff,tt,ff,ff,ff,ff,ff,ff,ff]) rfl C8 (A3 rfl rfl (B1 (by repeat first | exact mH | apply mT)) hel) rfl (by kernel_rfl) rfl rfl ?_
 refine aL 4 rfl (A3 rfl rfl (B1 (by repeat first | exact mH | apply mT)) hvl) rfl ?_
 refine aP 0 rfl (B0 rfl) rfl ?_
 refine aL 1 rfl (B5 rfl rfl) rfl ?_
 refine aP 3 rfl (qM rfl) rfl ?_
 refine A4 5 ?_
 (refine H1 rfl rfl (ih ks[i] (List.getElem_mem (by omega)) Gi _ (Tm.smallL_mem hks _ (List.getElem_mem (by omega))) hre hv) rfl rfl rfl (fun u G1 hle1 hh => ?_); obtain ⟨uc, rfl, hru⟩ := hh; have hul := hru.len; have huo := hru.one; obtain ⟨v1, v2, v3, v4, v5, v6, v7, v8, v9, rfl⟩ := nine hul)
 refine A4 6 ?_
 (refine E0 rfl (C7 rfl rfl rfl (by omega) (by unfold maxLen; omega) rfl) rfl rfl ?_; rintro _ ⟨b353, rfl⟩)
 refine A4 7 ?_
 (refine Q4 rfl rfl rfl rfl rfl rfl (fun _ _ => by repeat (first | exact Sw.here | apply Sw.there)) (N9 (by repeat first | exact mH | apply mT)) rfl (fun u hu => List.all_eq_true.1 huo u hu) (by unfold maxLen; omega) (by omega) rfl rfl (by repeat (first | exact A8.nil | apply A8.dep (by decide +kernel) | apply A8.im (by decide +kernel) (by assumption) (by repeat first | exact mH | apply mT) | apply A8.blk (by decide +kernel) (by repeat (first | exact Pk.here | apply Pk.there)) (by repeat first | exact mH | apply mT))) (fun p7 c7 => ?_))
 refine aP 8 rfl (B0 rfl) rfl ?_
 refine A4 9 ?_
 refine Q9 rfl rfl rfl rfl rfl rfl rfl rfl (by decide +kernel) (by repeat first | exact Sw.here | apply Sw.there) (by rfl) ?_
 refine C1 (N3 (nS (tR ?_)))
 refine sP (J2 rfl rfl (by omega) (by omega)) rfl rfl ?_
 refine sQ (qM rfl) rfl (sD ?_)
 refine J9 (i + 1, p7, c7, es' ++ [[v1, v2, v3, v4, v5, v6, v7, v8, v9]], G1) ?_ ?_ ?_
 (simp only [J5]; exact D8)
 (dsimp only; exact ⟨by omega, hle.trans hle1, by rw [A22 (by omega)]; exact D6.snoc (hst.mono hle1) hru⟩)
 (show ks.length - (i + 1) < ks.length - i; omega)
 refine H4 ?_
 (refine H0 (cs := es'.flatten) (by repeat (first | exact Pk.here | apply Pk.there)) (fun G2 hle2 hsl2 hno2 => ?_); obtain rfl : i = ks.length := (by omega))
 refine tT ?_
 refine E5 (rC rfl (A5 rfl rfl)) ?_
 (rw [if_neg (by rintro ⟨h1, h2⟩; first | omega | contradiction), if_neg (by rintro ⟨h1, h2⟩; first | omega | contradiction)]; rw [List.take_of_length_le (by rw [Y2]; omega)] at hst; exact R3.mk (A9.put hk hnum hlb (hty.mono hle2) (hfr.mono hle2) (by rw [Y2]) (D3.of hsl2 (by omega) hst.all (fun e he => (hst.each e he).2)) (hst.mono hle2)))
theorem A1k (e : Tm) (a b : Ty) (l : Int) (G : IM) (ce ca cb : List Value) (hl : F0 l) (he : A9 G e ce) (ha : B6 G a ca) (hb : B6 G b cb) : Fn Tryz.prog 170 [.agg ⟨ce⟩, .agg ⟨ca⟩, .agg ⟨cb⟩, .int .i64 l] [] G (R3 (L4 e a b l)) := by
 have hel := he.len
 have heo := he.one
 obtain ⟨v1, v2, v3, v4, v5, v6, v7, v8, v9, rfl⟩ := nine hel
 obtain ⟨ak, aks⟩ := a
 obtain ⟨bk, bks⟩ := b
 obtain ⟨pa, cca, ea, rfl, _⟩ := ha.open
 obtain ⟨pb, ccb, eb, rfl, _⟩ := hb.open
 refine B7 Tryz.func170 rfl Tryz.ntmps170 Tryz.results170 rfl ?_
 intro w0
 refine tS (tR ?_)
 refine sE (C2 rfl rfl) rfl (fun b3 => ?_)
 refine sE (C2 rfl rfl) rfl (fun b4 => ?_)
 refine sE (C2 rfl rfl) rfl (fun b5 => ?_)
 refine sE (A7 rfl) rfl (fun b6 => ?_)
 refine sD (nS (tS (tR ?_)))
 refine sL (A3 rfl rfl (B1 (by repeat first | exact mH | apply mT)) rfl) rfl rfl ?_
 refine sL (A3 rfl rfl (B1 (by repeat first | exact mH | apply mT)) rfl) rfl rfl ?_
 refine sQ (qM rfl) rfl ?_
 refine sL (A3 rfl rfl (B1 (by repeat first | exact mH | apply mT)) rfl) rfl rfl ?_
 (refine J1 (C7 rfl rfl rfl (by omega) (by unfold maxLen; omega) rfl) rfl ?_; rintro _ ⟨b15, rfl⟩)
 refine sQ (Q3 rfl rfl) rfl (F9 ?_)
 refine sD (nS ?_)
 (refine H0 (cs := [v1, v2, v3, v4, v5, v6, v7, v8, v9]) (by repeat (first | exact Pk.here | apply Pk.there)) (fun G2 hle2 hsl2 hno2 => ?_))
 refine tT ?_
 refine E5 (rC rfl (A5 rfl rfl)) ?_
 (exact R3.mk (A9.put (us := [e]) (es := [[v1, v2, v3, v4, v5, v6, v7, v8, v9]]) ⟨by decide, by decide⟩ ⟨by decide, by decide⟩ hl (hb.mono hle2) (ha.mono hle2) rfl (D3.of hsl2 rfl (by intro x hx; obtain rfl := List.mem_singleton.1 hx; rfl) (by intro x hx; obtain rfl := List.mem_singleton.1 hx; exact heo)) (by simp only [D6]; exact ⟨_, _, rfl, he.mono hle2, rfl⟩)))
theorem A23 (k : Int) (p : Option Addr) (n c : Nat) (G : IM) : Fn Tryz.prog 171 [.int .i64 k, .slice p n c] [] G (H2 (.agg ⟨[.int .i64 k, .string ⟨⟨[]⟩⟩, .int .i64 0, .int .i64 0, .slice none 0 0, .int .i64 0, .slice none 0 0, .int .i64 0, .slice p n c]⟩) G) := by
 refine B7 Tryz.func171 rfl Tryz.ntmps171 Tryz.results171 rfl ?_
 intro w0
 refine tS (tR ?_)
 refine sE (A7 rfl) rfl (fun b3 => ?_)
 refine J3 ?_
 refine E5 (rC rfl (A5 rfl rfl)) ?_
 (exact ⟨rfl, rfl, rfl⟩)
theorem A4E (G : IM) {k : Int} (hk : F0 k) : A9 G (A0n k []) [.int .i64 k, .string ⟨⟨[]⟩⟩, .int .i64 0, .int .i64 0, .slice none 0 0, .int .i64 0, .slice none 0 0, .int .i64 0, .slice none 0 0] := A0P hk rfl (D3.nil _ _) rfl
theorem B3i (G : IM) : Fn Tryz.prog 169 [.bool true] [] G (R3 (Z2 (true = true))) := by
 refine B7 Tryz.func169 rfl Tryz.ntmps169 Tryz.results169 rfl ?_
 intro w0
 refine tS (tR ?_)
 refine sE (A7 rfl) rfl (fun b3 => ?_)
 refine J3 ?_
 refine H8 rfl ((A23 _ _ _ _ _)) rfl rfl ?_
 refine F9 ?_
 refine sD (nS (tT (rS ?_)))
 refine E5 (rC rfl (A5 rfl rfl)) ?_
 (exact R3.mk (A4E _ ⟨by decide, by decide⟩))
theorem B3j (G : IM) : Fn Tryz.prog 169 [.bool false] [] G (R3 (Z2 (false = true))) := by
 refine B7 Tryz.func169 rfl Tryz.ntmps169 Tryz.results169 rfl ?_
 intro w0
 refine tS (tR ?_)
 refine sE (A7 rfl) rfl (fun b3 => ?_)
 refine I9 ?_
 refine H8 rfl ((A23 _ _ _ _ _)) rfl rfl ?_
 refine F9 ?_
 refine sD (nS (tT ?_))
 refine E5 (rC rfl (A5 rfl rfl)) ?_
 (exact R3.mk (A4E _ ⟨by decide, by decide⟩))
theorem A8Q (b : Bool) (G : IM) : Fn Tryz.prog 169 [.bool b] [] G (R3 (Z2 (b = true))) := by
 cases b
 ·exact B3j G
 ·exact B3i G
theorem A8R {a b : Int} (h : 0 ≤ a ∧ a ≤ 999) (h' : 0 ≤ b ∧ b ≤ 999) : (a + b).tmod 1000 = (a + b) % 1000 := by
 rw [Int.tmod_eq_emod_of_nonneg (by omega)]
def X2 (k : Int) (ks : List Tm) : Option Tm :=
 if k = 6 then (if (kd ks 0).k = 5 then some (T5 (kd ks 0).nm (kd ks 1) (kd (kd ks 0).ks 0)) else none)
 else if k = 7 ∨ k = 8 then (if (kd ks 0).k = 2 ∧ (kd ks 1).k = 2 then some (if k = 7 then A2p (((kd ks 0).num + (kd ks 1).num) % 1000) else Z2 ((kd ks 0).num < (kd ks 1).num)) else none)
 else if k = 9 then (if (kd ks 0).k = 3 then some (kd ks 1) else if (kd ks 0).k = 4 then some (kd ks 2) else none)
 else if k = 11 ∨ k = 12 then (if (kd ks 0).k = 10 then some (kd (kd ks 0).ks (k - 11).toNat) else none)
 else none
def R4 (o : Option Tm) : IM → Value → List A6 → Prop := M4 fun G' v => ∃ u cells c, v = .tuple ⟨[.agg ⟨cells⟩, .int .i64 c]⟩ ∧ A9 G' u cells ∧ (∀ x, o = some x → c = 1 ∧ u = x) ∧ (o = none → c = 3)
theorem R4.yes {G : IM} {o : Option Tm} {u : Tm} {cells : List Value} (h : o = some u) (hr : A9 G u cells) : R4 o G (.tuple ⟨[.agg ⟨cells⟩, .int .i64 1]⟩) [] := by
 subst h; exact ⟨rfl, u, cells, 1, rfl, hr, fun x hx => (by cases hx; exact ⟨rfl, rfl⟩), fun h => (by cases h)⟩
theorem R4.no {G : IM} {o : Option Tm} {u : Tm} {cells : List Value} (h : o = none) (hr : A9 G u cells) : R4 o G (.tuple ⟨[.agg ⟨cells⟩, .int .i64 3]⟩) [] := by
 subst h; exact ⟨rfl, u, cells, 3, rfl, hr, fun x hx => (by cases hx), fun _ => rfl⟩
theorem L9 (G : IM) : A9 G I2 [.int .i64 0, .string ⟨⟨[]⟩⟩, .int .i64 0, .int .i64 0, .slice none 0 0, .int .i64 0, .slice none 0 0, .int .i64 0, .slice none 0 0] := (P6.zero G).R
theorem B3k (a b : Tm) (nm : ByteArray) (num : Int) (ty fr : Ty) (lb : Int) (G : IM) (cells : List Value) (hca : cv a) (hr : A9 G (.mk 6 nm num ty fr lb [a, b]) cells) : Fn Tryz.prog 143 [.agg ⟨cells⟩] [] G (R4 (X2 6 [a, b])) := by
 have hsm := A2s a hca
 obtain ⟨ak, anm, anum, ⟨atk, atks⟩, ⟨afk, afks⟩, alb, aks⟩ := a
 obtain ⟨tk, tks⟩ := ty
 obtain ⟨fk, fks⟩ := fr
 obtain ⟨pt, ct, pf, cf, p, c, es, rfl, hk, hnum, hlb, hty, hfr, hsl, hkl⟩ := hr.open9
 obtain ⟨bx, ox, e0, rfl, hl0, hat0, hre0, hgb0⟩ := hsl.kidTm hkl (i := 0) (by simp) (by simp)
 replace hre0 : A9 G (.mk ak anm anum (.mk atk atks) (.mk afk afks) alb aks) e0 := hre0
 obtain ⟨apt, act, apf, acf, ap, ac, aes, rfl, hak, hanum, halb, haty, hafr, hasl, hakl⟩ := hre0.open9
 obtain ⟨_, _, e1, hp1, hl1, hat1, hre1, hgb1⟩ := hsl.kidTm hkl (i := 1) (by simp) (by simp)
 cases hp1
 replace hre1 : A9 G b e1 := hre1
 have ho1 := hre1.one
 obtain ⟨hN, _⟩ := hca.node
 have hops := hN.ops
 obtain ⟨_, _, _, _, hksm⟩ := A0o.1 hsm
 have h1 : ak = 5 → aks.length = 1 := fun h => by rw [h] at hops; have : D7 5 = 1 := rfl; omega
 have hL : ([Tm.mk ak anm anum (.mk atk atks) (.mk afk afks) alb aks, b] : List Tm).length = 2 := rfl
 rw [show X2 6 [Tm.mk ak anm anum (.mk atk atks) (.mk afk afks) alb aks, b] = (if ak = 5 then some (T5 anm b (kd aks 0)) else none) from rfl]
 refine B7 Tryz.func143 rfl Tryz.ntmps143 Tryz.results143 rfl ?_
 intro w0
 refine tS (tR ?_)
 refine sE (C2 rfl rfl) rfl (fun b3 => ?_)
 refine sE (A7 rfl) rfl (fun b4 => ?_)
 refine H6 ?_
 refine sE (A7 rfl) rfl (fun b11 => ?_)
 refine D9 ?_
 refine sP (A3f rfl rfl (by omega)) rfl rfl ?_
 refine H6 ?_
 refine sP (B3 (j := 0) rfl rfl rfl (by simp)) rfl rfl ?_
 refine sL (A3 rfl rfl (hat0 _) rfl) rfl rfl ?_
 refine I5 ?_
 refine B8 ?_
 refine tS (tR ?_)
 refine sP (Y9 rfl rfl (by omega)) rfl rfl ?_
 refine D2 ?_
 refine sB (qE rfl rfl) rfl rfl (fun h52 => ?_) (fun h52 => ?_)
 refine sD (nS (qT rfl (tS ?_)))
 (have hq : ak = 5 := (by omega); have hq1 := h1 hq; obtain ⟨bq, oq, e3, rfl, hl3, hat3, hre3, hgb3⟩ := hasl.kidTm hakl (i := 0) (by omega) (by omega); have hS := B3h anm b e1 aks[0] G e3 (Tm.smallL_mem hksm _ (List.getElem_mem (by omega))) hre3 hre1; refine D4 D5 rfl ?_)
 refine I3 (i := 0) (l' := [tt,ff,ff,ff,ff,ff,ff,ff,ff,ff,ff,ff,ff]) rfl C8 (B0 rfl) rfl (by kernel_rfl) rfl rfl ?_
 refine aL 1 rfl (B5 rfl rfl) rfl ?_
 refine aP 2 rfl (B3 (j := 0) rfl rfl rfl (by omega)) rfl ?_
 refine aL 3 rfl (A3 rfl rfl (hat3 _) hl3) rfl ?_
 refine aP 4 rfl (B0 rfl) rfl ?_
 refine aL 5 rfl (B5 rfl rfl) rfl ?_
 refine aP 6 rfl (B0 rfl) rfl ?_
 refine aL 7 rfl (B5 rfl rfl) rfl ?_
 refine aP 8 rfl (B3 (j := 1) rfl rfl rfl (by simp)) rfl ?_
 refine aL 9 rfl (A3 rfl rfl (hat1 _) hl1) rfl ?_
 refine A4 10 ?_
 (refine H1 rfl rfl hS rfl rfl rfl (fun u G1 hle1 hh => ?_); obtain ⟨uc, rfl, hru⟩ := hh; have hul := hru.len; have huo := hru.one)
 refine A4 11 ?_
 (refine oS rfl rfl rfl rfl hul huo rfl rfl ?_ (hu := by exact D1 hul.symm))
 refine aP 12 rfl (qA rfl) rfl ?_
 refine C1 (nS (tT (rB (rS ?_))))
 refine I1 (rC rfl (A3 rfl rfl (B1 (by repeat first | exact mH | apply mT)) hul)) (rT rfl) ?_
 (exact R4.yes (by rw [if_pos (by omega)]; unfold kd; rw [List.getD_eq_getElem?_getD, List.getElem?_eq_getElem (by omega), Option.getD_some]) hru)
 refine I6 ?_
 refine I1 (rC rfl (A5 rfl rfl)) (rT rfl) ?_
 (exact R4.no (by rw [if_neg (by omega)]) (L9 _))
theorem A8S (k : Int) (a b : Tm) (nm : ByteArray) (num : Int) (ty fr : Ty) (lb : Int) (G : IM) (cells : List Value) (hk78 : k = 7 ∨ k = 8) (hca : cv a) (hcb : cv b) (hr : A9 G (.mk k nm num ty fr lb [a, b]) cells) : Fn Tryz.prog 143 [.agg ⟨cells⟩] [] G (R4 (X2 k [a, b])) := by
 obtain ⟨ak, anm, anum, ⟨atk, atks⟩, ⟨afk, afks⟩, alb, aks⟩ := a
 obtain ⟨tk, tks⟩ := ty
 obtain ⟨fk, fks⟩ := fr
 obtain ⟨pt, ct, pf, cf, p, c, es, rfl, hk, hnum, hlb, hty, hfr, hsl, hkl⟩ := hr.open9
 obtain ⟨bx, ox, e0, rfl, hl0, hat0, hre0, hgb0⟩ := hsl.kidTm hkl (i := 0) (by simp) (by simp)
 replace hre0 : A9 G (.mk ak anm anum (.mk atk atks) (.mk afk afks) alb aks) e0 := hre0
 obtain ⟨apt, act, apf, acf, ap, ac, aes, rfl, hak, hanum, halb, haty, hafr, hasl, hakl⟩ := hre0.open9
 obtain ⟨bk, bnm, bnum, ⟨btk, btks⟩, ⟨bfk, bfks⟩, blb, bks⟩ := b
 obtain ⟨_, _, e1, hp1, hl1, hat1, hre1, hgb1⟩ := hsl.kidTm hkl (i := 1) (by simp) (by simp)
 cases hp1
 replace hre1 : A9 G (.mk bk bnm bnum (.mk btk btks) (.mk bfk bfks) blb bks) e1 := hre1
 obtain ⟨bpt, bct, bpf, bcf, bp, bc, bes, rfl, hbk, hbnum, hblb, hbty, hbfr, hbsl, hbkl⟩ := hre1.open9
 obtain ⟨hN, _⟩ := hca.node
 obtain ⟨hM, _⟩ := hcb.node
 obtain ⟨hn1, hn2⟩ := hN.num0
 obtain ⟨hm1, hm2⟩ := hM.num0
 have hL : ([Tm.mk ak anm anum (.mk atk atks) (.mk afk afks) alb aks, Tm.mk bk bnm bnum (.mk btk btks) (.mk bfk bfks) blb bks] : List Tm).length = 2 := rfl
 have hR : X2 k [Tm.mk ak anm anum (.mk atk atks) (.mk afk afks) alb aks, Tm.mk bk bnm bnum (.mk btk btks) (.mk bfk bfks) blb bks] = (if ak = 2 ∧ bk = 2 then some (if k = 7 then A2p ((anum + bnum) % 1000) else Z2 (anum < bnum)) else none) := by
  unfold X2; rw [if_neg (by omega), if_pos hk78]; rfl
 rw [hR]
 have htm : (anum + bnum).tmod 1000 = (anum + bnum) % 1000 := A8R ⟨hn1, hn2⟩ ⟨hm1, hm2⟩
 have hb : F0 ((anum + bnum) % 1000) := ⟨by omega, by omega⟩
 refine B7 Tryz.func143 rfl Tryz.ntmps143 Tryz.results143 rfl ?_
 intro w0
 refine tS (tR ?_)
 refine sE (C2 rfl rfl) rfl (fun b3 => ?_)
 refine sE (A7 rfl) rfl (fun b4 => ?_)
 refine H6 ?_
 refine sE (A7 rfl) rfl (fun b11 => ?_)
 refine D9 ?_
 refine sP (A3f rfl rfl (by omega)) rfl rfl ?_
 refine H6 ?_
 refine sP (B3 (j := 0) rfl rfl rfl (by simp)) rfl rfl ?_
 refine sL (A3 rfl rfl (hat0 _) rfl) rfl rfl ?_
 refine I5 ?_
 refine B8 ?_
 refine tS (tR ?_)
 refine sP (I4 rfl rfl (by omega)) rfl rfl ?_
 refine sQ (qA rfl) rfl (sD (nS (cF rfl (tS (tS (tR ?_))))))
 refine sB (qE rfl rfl) rfl rfl (fun h51 => ?_) (fun h51 => ?_)
 refine J3 ?_
 refine sP (B3 (j := 1) rfl rfl rfl (by simp)) rfl rfl ?_
 refine sL (A3 rfl rfl (hat1 _) rfl) rfl rfl ?_
 refine sE (A7 rfl) rfl (fun b65 => ?_)
 refine F9 ?_
 refine sD (nS ?_)
 refine B8 ?_
 refine tS (tR (sQ (B0 rfl) rfl (sL (B5 rfl rfl) rfl rfl ?_)))
 refine sB (M3 rfl rfl) rfl rfl (fun h74 => ?_) (fun h74 => ?_)
 refine W1 ?_
 refine I1 (rC rfl (A5 rfl rfl)) (rT rfl) ?_
 (exact R4.no (by rw [if_neg (by omega)]) (L9 _))
 refine J7 ?_
 refine sB (M3 rfl rfl) rfl rfl (fun h101 => ?_) (fun h101 => ?_)
 refine T7 ?_
 refine I1 (rC rfl (A5 rfl rfl)) (rT rfl) ?_
 (exact R4.no (by rw [if_neg (by omega)]) (L9 _))
 refine D9 ?_
 refine sP (Y9 rfl rfl (by omega)) rfl rfl ?_
 refine I5 ?_
 refine sP (J2 rfl rfl (by omega) (by omega)) rfl rfl ?_
 refine sP (A3d rfl rfl (by omega)) rfl rfl ?_
 refine sQ (Q3 rfl rfl) rfl ?_
 (rw [htm]; refine F9 ?_)
 refine sQ (qA rfl) rfl (sD (nS (tT (rB (rB (rS ?_))))))
 refine I1 (rC rfl (A5 rfl rfl)) (rT rfl) ?_
 (exact R4.yes (u := A2p (HMod.hMod (anum + bnum) 1000)) (by rw [if_pos ⟨by omega, by omega⟩, if_pos (by omega)]) (A9.put (us := []) ⟨by decide, by decide⟩ hb ⟨by decide, by decide⟩ (A1e _) (A1e _) rfl (D3.nil _ _) rfl))
 refine sQ (qA rfl) rfl (sD (nS (cF rfl (tR ?_))))
 refine sP (Y9 rfl rfl (by omega)) rfl rfl ?_
 refine D2 ?_
 refine sP (B3 (j := 1) rfl rfl rfl (by simp)) rfl rfl ?_
 refine sL (A3 rfl rfl (hat1 _) rfl) rfl rfl ?_
 refine sE (A7 rfl) rfl (fun b170 => ?_)
 refine F9 ?_
 refine sD (nS ?_)
 refine B8 ?_
 refine tS (tR (sQ (B0 rfl) rfl (sL (B5 rfl rfl) rfl rfl ?_)))
 refine sB (M3 rfl rfl) rfl rfl (fun h179 => ?_) (fun h179 => ?_)
 refine W1 ?_
 refine I1 (rC rfl (A5 rfl rfl)) (rT rfl) ?_
 (exact R4.no (by rw [if_neg (by omega)]) (L9 _))
 refine J7 ?_
 refine sB (M3 rfl rfl) rfl rfl (fun h206 => ?_) (fun h206 => ?_)
 refine T7 ?_
 refine I1 (rC rfl (A5 rfl rfl)) (rT rfl) ?_
 (exact R4.no (by rw [if_neg (by omega)]) (L9 _))
 refine D9 ?_
 refine sP (I4 rfl rfl (by omega)) rfl rfl ?_
 refine I5 ?_
 (refine sB (J4 rfl rfl) rfl rfl (fun h246 => ?_) (fun h246 => ?_))
 (refine E4 rfl (A8Q _ _) rfl rfl (fun u G1 hle1 hh => ?_); obtain ⟨uc, rfl, hru⟩ := hh; have hul := hru.len; have huo := hru.one)
 refine sS rfl rfl rfl hul huo rfl ?_ (hu := by exact D1 hul.symm)
 refine sQ (qA rfl) rfl (sD (nS (tT (rB (rB (rS ?_))))))
 refine I1 (rC rfl (A3 rfl rfl (B1 (by repeat first | exact mH | apply mT)) hul)) (rT rfl) ?_
 (exact R4.yes (by rw [if_pos ⟨by omega, by omega⟩, if_neg (by omega)]; unfold Z2; rw [if_pos (by omega), if_pos rfl]) hru)
 (refine E4 rfl (A8Q _ _) rfl rfl (fun u G1 hle1 hh => ?_); obtain ⟨uc, rfl, hru⟩ := hh; have hul := hru.len; have huo := hru.one)
 refine sS rfl rfl rfl hul huo rfl ?_ (hu := by exact D1 hul.symm)
 refine sQ (qA rfl) rfl (sD (nS (tT (rB (rB (rS ?_))))))
 refine I1 (rC rfl (A3 rfl rfl (B1 (by repeat first | exact mH | apply mT)) hul)) (rT rfl) ?_
 (exact R4.yes (by rw [if_pos ⟨by omega, by omega⟩, if_neg (by omega)]; unfold Z2; rw [if_neg (by omega), if_neg (by decide)]) hru)
theorem B3l (a b c0 : Tm) (nm : ByteArray) (num : Int) (ty fr : Ty) (lb : Int) (G : IM) (cells : List Value) (hr : A9 G (.mk 9 nm num ty fr lb [a, b, c0]) cells) : Fn Tryz.prog 143 [.agg ⟨cells⟩] [] G (R4 (X2 9 [a, b, c0])) := by
 obtain ⟨ak, anm, anum, ⟨atk, atks⟩, ⟨afk, afks⟩, alb, aks⟩ := a
 obtain ⟨tk, tks⟩ := ty
 obtain ⟨fk, fks⟩ := fr
 obtain ⟨pt, ct, pf, cf, p, c, es, rfl, hk, hnum, hlb, hty, hfr, hsl, hkl⟩ := hr.open9
 obtain ⟨bx, ox, e0, rfl, hl0, hat0, hre0, hgb0⟩ := hsl.kidTm hkl (i := 0) (by simp) (by simp)
 replace hre0 : A9 G (.mk ak anm anum (.mk atk atks) (.mk afk afks) alb aks) e0 := hre0
 obtain ⟨apt, act, apf, acf, ap, ac, aes, rfl, hak, hanum, halb, haty, hafr, hasl, hakl⟩ := hre0.open9
 obtain ⟨_, _, e1, hp1, hl1, hat1, hre1, hgb1⟩ := hsl.kidTm hkl (i := 1) (by simp) (by simp)
 cases hp1
 replace hre1 : A9 G b e1 := hre1
 have ho1 := hre1.one
 obtain ⟨_, _, e2, hp2, hl2, hat2, hre2, hgb2⟩ := hsl.kidTm hkl (i := 2) (by simp) (by simp)
 cases hp2
 replace hre2 : A9 G c0 e2 := hre2
 have ho2 := hre2.one
 have hL : ([Tm.mk ak anm anum (.mk atk atks) (.mk afk afks) alb aks, b, c0] : List Tm).length = 3 := rfl
 rw [show X2 9 [Tm.mk ak anm anum (.mk atk atks) (.mk afk afks) alb aks, b, c0] = (if ak = 3 then some b else if ak = 4 then some c0 else none) from rfl]
 refine B7 Tryz.func143 rfl Tryz.ntmps143 Tryz.results143 rfl ?_
 intro w0
 refine tS (tR ?_)
 refine sE (C2 rfl rfl) rfl (fun b3 => ?_)
 refine sE (A7 rfl) rfl (fun b4 => ?_)
 refine H6 ?_
 refine sE (A7 rfl) rfl (fun b11 => ?_)
 refine D9 ?_
 refine sP (A3f rfl rfl (by omega)) rfl rfl ?_
 refine H6 ?_
 refine sP (B3 (j := 0) rfl rfl rfl (by simp)) rfl rfl ?_
 refine sL (A3 rfl rfl (hat0 _) rfl) rfl rfl ?_
 refine I5 ?_
 refine B8 ?_
 refine tS (tR ?_)
 refine sP (I4 rfl rfl (by omega)) rfl rfl ?_
 refine sQ (qA rfl) rfl (sD (nS (cF rfl (tS (tS (tR ?_))))))
 refine sP (I4 rfl rfl (by omega)) rfl rfl ?_
 refine sQ (qA rfl) rfl (sD (nS (cF rfl (tR ?_))))
 refine sP (I4 rfl rfl (by omega)) rfl rfl ?_
 refine sQ (qA rfl) rfl (sD (nS (cF rfl (tS (tR ?_)))))
 refine sP (Y9 rfl rfl (by omega)) rfl rfl ?_
 refine I5 ?_
 refine B8 (tS (tR (sB (qE rfl rfl) rfl rfl (fun h78 => ?_) (fun h78 => ?_))))
 refine D2 ?_
 refine sP (B3 (j := 1) rfl rfl rfl (by simp)) rfl rfl ?_
 refine sL (A3 rfl rfl (hat1 _) hl1) rfl rfl ?_
 refine sS rfl rfl rfl hl1 ho1 rfl ?_ (hu := by exact D1 hl1.symm)
 refine sQ (qA rfl) rfl (sD (nS (tT (rB (rB (rS ?_))))))
 refine I1 (rC rfl (A3 rfl rfl (B1 (by repeat first | exact mH | apply mT)) hl1)) (rT rfl) ?_
 (exact R4.yes (by rw [if_pos (by omega)]) hre1)
 refine sQ (qA rfl) rfl (sD (nS (cF rfl (tS (tR ?_)))))
 refine sB (qE rfl rfl) rfl rfl (fun h105 => ?_) (fun h105 => ?_)
 refine D2 ?_
 refine sP (B3 (j := 2) rfl rfl rfl (by simp)) rfl rfl ?_
 refine sL (A3 rfl rfl (hat2 _) hl2) rfl rfl ?_
 refine sS rfl rfl rfl hl2 ho2 rfl ?_ (hu := by exact D1 hl2.symm)
 refine sQ (qA rfl) rfl (sD (nS (tT (rB (rB (rS ?_))))))
 refine I1 (rC rfl (A3 rfl rfl (B1 (by repeat first | exact mH | apply mT)) hl2)) (rT rfl) ?_
 (exact R4.yes (by rw [if_neg (by omega), if_pos (by omega)]) hre2)
 refine K0 ?_
 refine I1 (rC rfl (A5 rfl rfl)) (rT rfl) ?_
 (exact R4.no (by rw [if_neg (by omega), if_neg (by omega)]) (L9 _))
theorem A8T (k : Int) (a : Tm) (nm : ByteArray) (num : Int) (ty fr : Ty) (lb : Int) (G : IM) (cells : List Value) (hk1 : k = 11 ∨ k = 12) (hca : cv a) (hr : A9 G (.mk k nm num ty fr lb [a]) cells) : Fn Tryz.prog 143 [.agg ⟨cells⟩] [] G (R4 (X2 k [a])) := by
 obtain ⟨ak, anm, anum, ⟨atk, atks⟩, ⟨afk, afks⟩, alb, aks⟩ := a
 obtain ⟨tk, tks⟩ := ty
 obtain ⟨fk, fks⟩ := fr
 obtain ⟨pt, ct, pf, cf, p, c, es, rfl, hk, hnum, hlb, hty, hfr, hsl, hkl⟩ := hr.open9
 obtain ⟨bx, ox, e0, rfl, hl0, hat0, hre0, hgb0⟩ := hsl.kidTm hkl (i := 0) (by simp) (by simp)
 replace hre0 : A9 G (.mk ak anm anum (.mk atk atks) (.mk afk afks) alb aks) e0 := hre0
 obtain ⟨apt, act, apf, acf, ap, ac, aes, rfl, hak, hanum, halb, haty, hafr, hasl, hakl⟩ := hre0.open9
 obtain ⟨hN, _⟩ := hca.node
 have hops := hN.ops
 have h2 : ak = 10 → aks.length = 2 := fun h => by rw [h] at hops; have : D7 10 = 2 := rfl; omega
 have hL : ([Tm.mk ak anm anum (.mk atk atks) (.mk afk afks) alb aks] : List Tm).length = 1 := rfl
 have hR : X2 k [Tm.mk ak anm anum (.mk atk atks) (.mk afk afks) alb aks] = (if ak = 10 then some (kd aks (k - 11).toNat) else none) := by
  unfold X2; rw [if_neg (by omega), if_neg (by omega), if_neg (by omega), if_pos hk1]; rfl
 rw [hR]
 obtain ⟨i, hi⟩ : ∃ i : Nat, (k - 11).toNat = i := ⟨_, rfl⟩
 rw [hi]
 refine B7 Tryz.func143 rfl Tryz.ntmps143 Tryz.results143 rfl ?_
 intro w0
 refine tS (tR ?_)
 refine sE (C2 rfl rfl) rfl (fun b3 => ?_)
 refine sE (A7 rfl) rfl (fun b4 => ?_)
 refine H6 ?_
 refine sE (A7 rfl) rfl (fun b11 => ?_)
 refine D9 ?_
 refine sP (A3f rfl rfl (by omega)) rfl rfl ?_
 refine H6 ?_
 refine sP (B3 (j := 0) rfl rfl rfl (by simp)) rfl rfl ?_
 refine sL (A3 rfl rfl (hat0 _) rfl) rfl rfl ?_
 refine I5 ?_
 refine B8 ?_
 refine tS (tR ?_)
 refine sP (I4 rfl rfl (by omega)) rfl rfl ?_
 refine sQ (qA rfl) rfl (sD (nS (cF rfl (tS (tS (tR ?_))))))
 refine sP (I4 rfl rfl (by omega)) rfl rfl ?_
 refine sQ (qA rfl) rfl (sD (nS (cF rfl (tR ?_))))
 refine sP (I4 rfl rfl (by omega)) rfl rfl ?_
 refine sQ (qA rfl) rfl (sD (nS (cF rfl (tS (tR ?_)))))
 refine sP (I4 rfl rfl (by omega)) rfl rfl ?_
 refine sQ (qA rfl) rfl (sD (nS (cF rfl (tS (tS (tR ?_))))))
 refine sB (qE rfl rfl) rfl rfl (fun h72 => ?_) (fun h72 => ?_)
 refine J3 ?_
 refine sB (qE rfl rfl) rfl rfl (fun h84 => ?_) (fun h84 => ?_)
 refine sD (nS (qT rfl (tS ?_)))
 (have hq : ak = 10 := (by omega); have hq1 := h2 hq; obtain ⟨bq, oq, e3, rfl, hl3, hat3, hre3, hgb3⟩ := hasl.kidTm hakl (i := i) (by omega) (by omega); have ho3 := hre3.one)
 refine O7 ?_
 refine sP (P1 rfl rfl (by omega) (by omega)) rfl rfl ?_
 (rw [show (k - 11 : Int) = ((i : Nat) : Int) from (by omega)]; refine sP (B3 (j := i) rfl rfl rfl (by omega)) rfl rfl ?_)
 refine sL (A3 rfl rfl (hat3 _) hl3) rfl rfl ?_
 refine sS rfl rfl rfl hl3 ho3 rfl ?_ (hu := by exact D1 hl3.symm)
 refine sQ (qA rfl) rfl (sD (nS (tT (rB (rS ?_)))))
 refine I1 (rC rfl (A3 rfl rfl (B1 (by repeat first | exact mH | apply mT)) hl3)) (rT rfl) ?_
 (exact R4.yes (by rw [if_pos (by omega)]; unfold kd; rw [List.getD_eq_getElem?_getD, List.getElem?_eq_getElem (by omega), Option.getD_some]) hre3)
 refine I6 ?_
 refine I1 (rC rfl (A5 rfl rfl)) (rT rfl) ?_
 (exact R4.no (by rw [if_neg (by omega)]) (L9 _))
 refine sQ (qA rfl) rfl (sD (nS (cF rfl (tR ?_))))
 refine sP (Y9 rfl rfl (by omega)) rfl rfl ?_
 refine D2 ?_
 refine sB (qE rfl rfl) rfl rfl (fun h137 => ?_) (fun h137 => ?_)
 refine sD (nS (qT rfl (tS ?_)))
 (have hq : ak = 10 := (by omega); have hq1 := h2 hq; obtain ⟨bq, oq, e3, rfl, hl3, hat3, hre3, hgb3⟩ := hasl.kidTm hakl (i := i) (by omega) (by omega); have ho3 := hre3.one)
 refine O7 ?_
 refine sP (P1 rfl rfl (by omega) (by omega)) rfl rfl ?_
 (rw [show (k - 11 : Int) = ((i : Nat) : Int) from (by omega)]; refine sP (B3 (j := i) rfl rfl rfl (by omega)) rfl rfl ?_)
 refine sL (A3 rfl rfl (hat3 _) hl3) rfl rfl ?_
 refine sS rfl rfl rfl hl3 ho3 rfl ?_ (hu := by exact D1 hl3.symm)
 refine sQ (qA rfl) rfl (sD (nS (tT (rB (rS ?_)))))
 refine I1 (rC rfl (A3 rfl rfl (B1 (by repeat first | exact mH | apply mT)) hl3)) (rT rfl) ?_
 (exact R4.yes (by rw [if_pos (by omega)]; unfold kd; rw [List.getD_eq_getElem?_getD, List.getElem?_eq_getElem (by omega), Option.getD_some]) hre3)
 refine I6 ?_
 refine I1 (rC rfl (A5 rfl rfl)) (rT rfl) ?_
 (exact R4.no (by rw [if_neg (by omega)]) (L9 _))
section
variable {P : Program} {Γ : M1} {K : Po} {ops : Array Oper} {env : M7} {hp : List A6} {G : IM}
theorem A05 {H : List (Nat × Nat)} {fuel j : Nat} {listed : List Bool} {hp' : List A6} {p : Option Addr} {c el sz n : Nat} {cs : List Value} (hk : Pk hp (.slc p c el sz n cs) hp')
  (h : ∀ G', B9 G G' → Sl G' p n c sz cs → (∀ b ∈ J6 p, G b = none ∧ G' b ≠ none) → V2 P Γ ops K H fuel listed j ⟨env, hp', G'⟩) : V2 P Γ ops K H fuel listed j ⟨env, hp, G⟩ :=
 ⟨fun a w hs => let ⟨G', h1, h2, h3, h4⟩ := hs.freeze hk; (h G' h2 h3 h4).run a w h1⟩
end
theorem B6.kids {G : IM} {t : Ty} {a : Value} {p : Option Addr} {n c : Nat} (h : B6 G t [a, .slice p n c]) : ∃ es, D3 G p t.ks.length c 2 es ∧ C9 G t.ks es := by
 obtain ⟨p', c', es, he, _, h1, h2⟩ := h.open
 simp only [List.cons.injEq, Value.slice.injEq, and_true] at he
 obtain ⟨_, rfl, _, rfl⟩ := he
 exact ⟨es, h1, h2⟩
def Y3 (k : Int) (ty fr : Ty) (lb : Int) (ks : List Tm) : Stp :=
 if k = 6 then
  (if Q6 (kd ks 0) = true ∧ (kd ks 0).ty.k = 4 then (L4 (A0n 6 [kd (kd ks 0).ks 0, L4 (kd ks 1) (kt (kd ks 0).ty.ks 0) (kt (kd ks 0).fr.ks 0) (-(kd ks 0).lb)]) (kt (kd ks 0).fr.ks 1) (kt (kd ks 0).ty.ks 1) (kd ks 0).lb, 1, 0) else Q7)
 else if k = 11 ∨ k = 12 then
  (if Q6 (kd ks 0) = true ∧ (kd ks 0).ty.k = 5 then (L4 (A0n k [kd (kd ks 0).ks 0]) (kt (kd ks 0).fr.ks (k - 11).toNat) (kt (kd ks 0).ty.ks (k - 11).toNat) (kd ks 0).lb, 1, 0) else Q7)
 else if k = 14 then
  (if fr.k = ty.k then (kd ks 0, 1, 0)
   else if ty.k = 1 then (L4 (L4 (kd ks 0) fr (U8 fr) lb) (U8 fr) ty lb, 1, 0)
   else if U2 ty = false then (L4 (L4 (kd ks 0) fr (U8 ty) lb) (U8 ty) ty lb, 1, 0)
   else if inj (kd ks 0) = false then Q7
   else if (kd ks 0).fr.k = ty.k then (kd (kd ks 0).ks 0, 1, 0)
   else (I2, 2, lb))
 else Q7
theorem B3m (k : Int) (ty fr : Ty) (lb : Int) (ks : List Tm) : N8 k ty fr lb ks = match X2 k ks with | some u => (u, 1, 0) | none => Y3 k ty fr lb ks := by
 unfold N8 X2 Y3
 by_cases h6 : k = 6
 ·rw [if_pos h6, if_pos h6, if_pos h6]
  by_cases h : (kd ks 0).k = 5
  ·rw [if_pos h, if_pos h]
  ·rw [if_neg h, if_neg h]
 rw [if_neg h6, if_neg h6, if_neg h6]
 by_cases h7 : k = 7 ∨ k = 8
 ·rw [if_pos h7, if_pos h7]
  by_cases h : (kd ks 0).k = 2 ∧ (kd ks 1).k = 2
  ·rw [if_pos h, if_pos h]
  ·rw [if_neg h, if_neg h]; simp only; rw [if_neg (by omega), if_neg (by omega)]
 rw [if_neg h7, if_neg h7]
 by_cases h9 : k = 9
 ·rw [if_pos h9, if_pos h9]
  by_cases h : (kd ks 0).k = 3
  ·rw [if_pos h, if_pos h]
  ·rw [if_neg h, if_neg h]
   by_cases h' : (kd ks 0).k = 4
   ·rw [if_pos h', if_pos h']
   ·rw [if_neg h', if_neg h']; simp only; rw [if_neg (by omega), if_neg (by omega)]
 rw [if_neg h9, if_neg h9]
 by_cases h11 : k = 11 ∨ k = 12
 ·rw [if_pos h11, if_pos h11, if_pos h11]
  by_cases h : (kd ks 0).k = 10
  ·rw [if_pos h, if_pos h]
  ·rw [if_neg h, if_neg h]
 rw [if_neg h11, if_neg h11, if_neg h11]
def R5 (r : Stp) : IM → Value → List A6 → Prop := M4 fun G' v => ∃ u cells, v = .tuple ⟨[.agg ⟨cells⟩, .int .i64 r.2.1, .int .i64 r.2.2]⟩ ∧ A9 G' u cells ∧ (r.2.1 = 1 → u = r.1)
theorem R5.mk {G : IM} {r : Stp} {u : Tm} {cells : List Value} {c l : Int} (h : r = (u, c, l)) (hr : A9 G u cells) : R5 r G (.tuple ⟨[.agg ⟨cells⟩, .int .i64 c, .int .i64 l]⟩) [] := by
 subst h; exact ⟨rfl, u, cells, rfl, hr, fun _ => rfl⟩
theorem A0p {ks : List Tm} {i : Nat} (h : i < ks.length) : kd ks i = ks[i] := by unfold kd; rw [List.getD_eq_getElem?_getD, List.getElem?_eq_getElem h, Option.getD_some]
theorem O8 {ks : List Ty} {i : Nat} (h : i < ks.length) : kt ks i = ks[i] := by unfold kt; rw [List.getD_eq_getElem?_getD, List.getElem?_eq_getElem h, Option.getD_some]
theorem A8U {t : Ty} (h : U2 t = true) : t = U8 t := by
 unfold U2 at h
 rw [Bool.and_eq_true] at h
 exact (A1d _ _).1 h.2
theorem B3n (a b : Tm) (nm : ByteArray) (num : Int) (ty fr : Ty) (lb : Int) (G : IM) (cells : List Value) (hca : cv a) (hr : A9 G (.mk 6 nm num ty fr lb [a, b]) cells) : Fn Tryz.prog 144 [.agg ⟨cells⟩] [] G (R5 (Y3 6 ty fr lb [a, b])) := by
 obtain ⟨ak, anm, anum, ⟨atk, atks⟩, ⟨afk, afks⟩, alb, aks⟩ := a
 obtain ⟨hN, hkk⟩ := hca.node
 have hops := hN.ops
 have hbl := hN.lbB
 have htyA := hN.tyA
 have hfrA := hN.frA
 rw [E6] at htyA hfrA
 have h14 : ak = 14 → aks.length = 1 := fun h => by rw [h] at hops; have : D7 14 = 1 := rfl; omega
 obtain ⟨tk, tks⟩ := ty
 obtain ⟨fk, fks⟩ := fr
 obtain ⟨pt, ct, pf, cf, p, c, es, rfl, hk, hnum, hlb, hty, hfr, hsl, hkl⟩ := hr.open9
 obtain ⟨bx, ox, e0, rfl, hl0, hat0, hre0, hgb0⟩ := hsl.kidTm hkl (i := 0) (by simp) (by simp)
 replace hre0 : A9 G (Tm.mk ak anm anum (.mk atk atks) (.mk afk afks) alb aks) e0 := hre0
 have hP : Fn Tryz.prog 69 [.agg ⟨e0⟩] [] G (H2 (.bool (decide (ak = 14 ∧ afk = atk ∧ (atk = 4 ∨ atk = 5)))) G) := A2A _ G _ hre0
 obtain ⟨apt, act, apf, acf, ap, ac, aes, rfl, hak, hanum, halb, haty, hafr, hasl, hakl⟩ := hre0.open9
 obtain ⟨tes, htS, htL⟩ := haty.kids
 obtain ⟨fes, hfS, hfL⟩ := hafr.kids
 simp only [Ty.ks] at htS htL hfS hfL
 obtain ⟨_, _, e1, hp1, hl1, hat1, hre1, hgb1⟩ := hsl.kidTm hkl (i := 1) (by simp) (by simp)
 cases hp1
 replace hre1 : A9 G b e1 := hre1
 have ho1 := hre1.one
 have hR : Y3 6 (.mk tk tks) (.mk fk fks) lb [Tm.mk ak anm anum (.mk atk atks) (.mk afk afks) alb aks, b] = (if (ak = 14 ∧ afk = atk ∧ (atk = 4 ∨ atk = 5)) ∧ atk = 4 then (L4 (A0n 6 [kd aks 0, L4 b (kt atks 0) (kt afks 0) (-alb)]) (kt afks 1) (kt atks 1) alb, 1, 0) else Q7) := by
  unfold Y3
  rw [if_pos rfl, show kd [Tm.mk ak anm anum (.mk atk atks) (.mk afk afks) alb aks, b] 0 = Tm.mk ak anm anum (.mk atk atks) (.mk afk afks) alb aks from rfl, A1j]
  simp only [decide_eq_true_eq]
  rfl
 rw [hR]
 refine B7 Tryz.func144 rfl Tryz.ntmps144 Tryz.results144 rfl ?_
 intro w0
 refine tS (tR ?_)
 refine sE (C2 rfl rfl) rfl (fun b3 => ?_)
 refine sE (A7 rfl) rfl (fun b4 => ?_)
 refine D2 ?_
 refine sP (B3 (j := 0) rfl rfl rfl (by simp)) rfl rfl ?_
 refine sL (A3 rfl rfl (hat0 _) rfl) rfl rfl ?_
 refine sE (A7 rfl) rfl (fun b15 => ?_)
 refine F9 ?_
 refine sD (nS (tS ?_))
 refine B8 ?_
 refine tS (tR (sQ (B0 rfl) rfl (sL (B5 rfl rfl) rfl rfl ?_)))
 refine sP (Y9 rfl rfl (by omega)) rfl rfl ?_
 refine sQ (qM rfl) rfl (sL (A5 rfl rfl) rfl rfl ?_)
 focus (by_cases hpx : (ak = 14 ∧ afk = atk ∧ (atk = 4 ∨ atk = 5)); rw [decide_eq_true hpx] at hP; rotate_left; rw [decide_eq_false hpx] at hP; rotate_left; all_goals (refine H8 rfl hP rfl rfl ?_))
 refine O7 ?_
 refine sB (qE rfl rfl) rfl rfl (fun h34 => ?_) (fun h34 => ?_)
 refine H6 ?_
 (have hq : (ak = 14 ∧ afk = atk ∧ (atk = 4 ∨ atk = 5)) ∧ atk = 4 := ⟨hpx, by omega⟩; have hq1 := h14 hq.1.1; have hq2 := htyA.1 (by omega); have hq3 := hfrA.1 (by omega); obtain ⟨bq, oq, e3, rfl, hl3, hat3, hre3, hgb3⟩ := hasl.kidTm hakl (i := 0) (by omega) (by omega); have ho3 := hre3.one; obtain ⟨b5, o5, q5, d5, rfl, hat5, hre5, hgb5⟩ := htS.kidTy htL (i := 0) (by omega) (by omega); obtain ⟨_, _, q6, d6, hp6, hat6, hre6, hgb6⟩ := htS.kidTy htL (i := 1) (by omega) (by omega); cases hp6; obtain ⟨b7, o7, q7, d7, rfl, hat7, hre7, hgb7⟩ := hfS.kidTy hfL (i := 0) (by omega) (by omega); obtain ⟨_, _, q8, d8, hp8, hat8, hre8, hgb8⟩ := hfS.kidTy hfL (i := 1) (by omega) (by omega); cases hp8; obtain ⟨x1, x2, x3, x4, x5, x6, x7, x8, x9, rfl⟩ := nine hl3; obtain ⟨y1, y2, y3, y4, y5, y6, y7, y8, y9, rfl⟩ := nine hl1; refine D4 D5 rfl ?_)
 refine I3 (i := 0) (l' := [tt,ff,ff,ff,ff,ff,ff,ff,ff,ff,ff,ff]) rfl C8 (B0 rfl) rfl (by kernel_rfl) rfl rfl ?_
 refine aL 1 rfl (B5 rfl rfl) rfl ?_
 refine aP 2 rfl (B3 (j := 0) rfl rfl rfl (by omega)) rfl ?_
 refine aL 3 rfl (A3 rfl rfl (hat3 _) rfl) rfl ?_
 refine aP 4 rfl (B0 rfl) rfl ?_
 refine aL 5 rfl (B5 rfl rfl) rfl ?_
 refine aP 6 rfl (B3 (j := 1) rfl rfl rfl (by simp)) rfl ?_
 refine aL 7 rfl (A3 rfl rfl (hat1 _) rfl) rfl ?_
 refine Q2 (j := 8) (j' := 9) (by kernel_rfl) ?_ ?_
 (refine E0 rfl (A7 rfl) rfl rfl ?_; rintro _ ⟨b51, rfl⟩)
 refine A4 9 ?_
 (refine E0 rfl (A7 rfl) rfl rfl ?_; rintro _ ⟨b53, rfl⟩)
 refine A4 10 ?_
 (refine oS rfl rfl rfl rfl rfl ho3 rfl rfl ?_ (hu := by exact D1 rfl.symm))
 refine A4 11 ?_
 (refine oS rfl rfl rfl rfl rfl ho1 rfl rfl ?_ (hu := by exact D1 rfl.symm))
 refine C1 (nS (tS ?_))
 refine D4 D5 rfl ?_
 refine K9 (i := 0) (l' := [tt,ff,ff,ff,ff,ff,ff,ff,ff,ff,ff,ff,ff,ff,ff,ff,ff,ff,ff,ff,ff,ff,ff,ff,ff,ff,ff,ff,ff,ff,ff,ff,ff,ff]) rfl C8 (A3 rfl rfl (B1 (by repeat first | exact mH | apply mT)) rfl) rfl (by kernel_rfl) rfl rfl ?_
 refine aL 1 rfl (A3 rfl rfl (B1 (by repeat first | exact mH | apply mT)) rfl) rfl ?_
 refine aP 2 rfl (B0 rfl) rfl ?_
 refine aP 3 rfl (qF rfl) rfl ?_
 refine aL 4 rfl (B5 rfl rfl) rfl ?_
 refine aP 5 rfl (B3 (j := 0) rfl rfl rfl (by omega)) rfl ?_
 refine aL 6 rfl (A3 rfl rfl (hat5 _) rfl) rfl ?_
 refine aP 7 rfl (B0 rfl) rfl ?_
 refine aP 8 rfl (qF rfl) rfl ?_
 refine aL 9 rfl (B5 rfl rfl) rfl ?_
 refine aP 10 rfl (B3 (j := 0) rfl rfl rfl (by omega)) rfl ?_
 refine aL 11 rfl (A3 rfl rfl (hat7 _) rfl) rfl ?_
 refine aP 12 rfl (B0 rfl) rfl ?_
 refine aL 13 rfl (B5 rfl rfl) rfl ?_
 refine aP 14 rfl (A3W rfl (by omega) (by omega)) rfl ?_
 refine aP 18 rfl (B0 rfl) rfl ?_
 refine aP 19 rfl (qF rfl) rfl ?_
 refine aL 20 rfl (B5 rfl rfl) rfl ?_
 refine aP 21 rfl (B3 (j := 1) rfl rfl rfl (by omega)) rfl ?_
 refine aL 22 rfl (A3 rfl rfl (hat8 _) rfl) rfl ?_
 refine aP 23 rfl (B0 rfl) rfl ?_
 refine aP 24 rfl (qF rfl) rfl ?_
 refine aL 25 rfl (B5 rfl rfl) rfl ?_
 refine aP 26 rfl (B3 (j := 1) rfl rfl rfl (by omega)) rfl ?_
 refine aL 27 rfl (A3 rfl rfl (hat6 _) rfl) rfl ?_
 refine aP 28 rfl (B0 rfl) rfl ?_
 refine aL 29 rfl (B5 rfl rfl) rfl ?_
 refine A4 15 ?_
 (refine H1 rfl rfl (A1k b atks[0] afks[0] (-alb) G _ _ _ ⟨by omega, by omega⟩ hre1 hre5 hre7) rfl rfl rfl (fun u G1 hle1 hh => ?_); obtain ⟨uc, rfl, hru⟩ := hh; have hul := hru.len; have huo := hru.one; obtain ⟨z1, z2, z3, z4, z5, z6, z7, z8, z9, rfl⟩ := nine hul; replace hre3 := hre3.mono hle1; replace hre6 := hre6.mono hle1; replace hre8 := hre8.mono hle1)
 refine A4 16 ?_
 (refine E0 rfl (C7 rfl rfl rfl (by omega) (by unfold maxLen; omega) rfl) rfl rfl ?_; rintro _ ⟨b92, rfl⟩)
 refine A4 17 ?_
 (refine A05 (cs := [x1, x2, x3, x4, x5, x6, x7, x8, x9, z1, z2, z3, z4, z5, z6, z7, z8, z9]) (by repeat (first | exact Pk.here | apply Pk.there)) (fun G2 hle2 hsl2 hno2 => ?_); have hrN := A0P (k := 6) (ks := [aks[0], L4 b atks[0] afks[0] (-alb)]) (es := [[x1, x2, x3, x4, x5, x6, x7, x8, x9], [z1, z2, z3, z4, z5, z6, z7, z8, z9]]) ⟨by decide, by decide⟩ rfl (D3.of hsl2 rfl (by simp) (by intro x hx; rcases List.mem_cons.1 hx with rfl | hx; exact ho3; obtain rfl := List.mem_singleton.1 hx; exact huo)) (by simp only [D6]; exact ⟨_, _, rfl, hre3.mono hle2, _, _, rfl, hru.mono hle2, rfl⟩); replace hre6 := hre6.mono hle2; replace hre8 := hre8.mono hle2; refine N4 rfl rfl (A23 _ _ _ _ _) rfl rfl rfl ?_)
 refine A4 30 ?_
 (refine H1 rfl rfl (A1k _ afks[1] atks[1] alb G2 _ _ _ ⟨by omega, by omega⟩ hrN hre8 hre6) rfl rfl rfl (fun u G3 hle3 hh => ?_); obtain ⟨wc, rfl, hrw⟩ := hh; have hwl := hrw.len; have hwo := hrw.one)
 refine A4 31 ?_
 (refine oS rfl rfl rfl rfl hwl hwo rfl rfl ?_ (hu := by exact D1 hwl.symm))
 refine aP 32 rfl (qA rfl) rfl ?_
 refine aP 33 rfl (qA rfl) rfl ?_
 refine C1 (nS (tT (rB (rS ?_))))
 refine C6 (rC rfl (A3 rfl rfl (B1 (by repeat first | exact mH | apply mT)) hwl)) (rT rfl) (rT rfl) ?_
 (exact R5.mk (by rw [if_pos hq, A0p (by omega), O8 (by omega), O8 (by omega), O8 (by omega), O8 (by omega)]) hrw)
 (refine E0 rfl (A7 rfl) rfl rfl ?_; rintro _ ⟨b108, rfl⟩)
 refine A4 8 ?_
 (refine E0 rfl (A7 rfl) rfl rfl ?_; rintro _ ⟨b110, rfl⟩)
 refine A4 10 ?_
 (refine oS rfl rfl rfl rfl rfl ho3 rfl rfl ?_ (hu := by exact D1 rfl.symm))
 refine A4 11 ?_
 (refine oS rfl rfl rfl rfl rfl ho1 rfl rfl ?_ (hu := by exact D1 rfl.symm))
 refine C1 (nS (tS ?_))
 refine D4 D5 rfl ?_
 refine K9 (i := 0) (l' := [tt,ff,ff,ff,ff,ff,ff,ff,ff,ff,ff,ff,ff,ff,ff,ff,ff,ff,ff,ff,ff,ff,ff,ff,ff,ff,ff,ff,ff,ff,ff,ff,ff,ff]) rfl C8 (A3 rfl rfl (B1 (by repeat first | exact mH | apply mT)) rfl) rfl (by kernel_rfl) rfl rfl ?_
 refine aL 1 rfl (A3 rfl rfl (B1 (by repeat first | exact mH | apply mT)) rfl) rfl ?_
 refine aP 2 rfl (B0 rfl) rfl ?_
 refine aP 3 rfl (qF rfl) rfl ?_
 refine aL 4 rfl (B5 rfl rfl) rfl ?_
 refine aP 5 rfl (B3 (j := 0) rfl rfl rfl (by omega)) rfl ?_
 refine aL 6 rfl (A3 rfl rfl (hat5 _) rfl) rfl ?_
 refine aP 7 rfl (B0 rfl) rfl ?_
 refine aP 8 rfl (qF rfl) rfl ?_
 refine aL 9 rfl (B5 rfl rfl) rfl ?_
 refine aP 10 rfl (B3 (j := 0) rfl rfl rfl (by omega)) rfl ?_
 refine aL 11 rfl (A3 rfl rfl (hat7 _) rfl) rfl ?_
 refine aP 12 rfl (B0 rfl) rfl ?_
 refine aL 13 rfl (B5 rfl rfl) rfl ?_
 refine aP 14 rfl (A3W rfl (by omega) (by omega)) rfl ?_
 refine aP 18 rfl (B0 rfl) rfl ?_
 refine aP 19 rfl (qF rfl) rfl ?_
 refine aL 20 rfl (B5 rfl rfl) rfl ?_
 refine aP 21 rfl (B3 (j := 1) rfl rfl rfl (by omega)) rfl ?_
 refine aL 22 rfl (A3 rfl rfl (hat8 _) rfl) rfl ?_
 refine aP 23 rfl (B0 rfl) rfl ?_
 refine aP 24 rfl (qF rfl) rfl ?_
 refine aL 25 rfl (B5 rfl rfl) rfl ?_
 refine aP 26 rfl (B3 (j := 1) rfl rfl rfl (by omega)) rfl ?_
 refine aL 27 rfl (A3 rfl rfl (hat6 _) rfl) rfl ?_
 refine aP 28 rfl (B0 rfl) rfl ?_
 refine aL 29 rfl (B5 rfl rfl) rfl ?_
 refine A4 15 ?_
 (refine H1 rfl rfl (A1k b atks[0] afks[0] (-alb) G _ _ _ ⟨by omega, by omega⟩ hre1 hre5 hre7) rfl rfl rfl (fun u G1 hle1 hh => ?_); obtain ⟨uc, rfl, hru⟩ := hh; have hul := hru.len; have huo := hru.one; obtain ⟨z1, z2, z3, z4, z5, z6, z7, z8, z9, rfl⟩ := nine hul; replace hre3 := hre3.mono hle1; replace hre6 := hre6.mono hle1; replace hre8 := hre8.mono hle1)
 refine A4 16 ?_
 (refine E0 rfl (C7 rfl rfl rfl (by omega) (by unfold maxLen; omega) rfl) rfl rfl ?_; rintro _ ⟨b149, rfl⟩)
 refine A4 17 ?_
 (refine A05 (cs := [x1, x2, x3, x4, x5, x6, x7, x8, x9, z1, z2, z3, z4, z5, z6, z7, z8, z9]) (by repeat (first | exact Pk.here | apply Pk.there)) (fun G2 hle2 hsl2 hno2 => ?_); have hrN := A0P (k := 6) (ks := [aks[0], L4 b atks[0] afks[0] (-alb)]) (es := [[x1, x2, x3, x4, x5, x6, x7, x8, x9], [z1, z2, z3, z4, z5, z6, z7, z8, z9]]) ⟨by decide, by decide⟩ rfl (D3.of hsl2 rfl (by simp) (by intro x hx; rcases List.mem_cons.1 hx with rfl | hx; exact ho3; obtain rfl := List.mem_singleton.1 hx; exact huo)) (by simp only [D6]; exact ⟨_, _, rfl, hre3.mono hle2, _, _, rfl, hru.mono hle2, rfl⟩); replace hre6 := hre6.mono hle2; replace hre8 := hre8.mono hle2; refine N4 rfl rfl (A23 _ _ _ _ _) rfl rfl rfl ?_)
 refine A4 30 ?_
 (refine H1 rfl rfl (A1k _ afks[1] atks[1] alb G2 _ _ _ ⟨by omega, by omega⟩ hrN hre8 hre6) rfl rfl rfl (fun u G3 hle3 hh => ?_); obtain ⟨wc, rfl, hrw⟩ := hh; have hwl := hrw.len; have hwo := hrw.one)
 refine A4 31 ?_
 (refine oS rfl rfl rfl rfl hwl hwo rfl rfl ?_ (hu := by exact D1 hwl.symm))
 refine aP 32 rfl (qA rfl) rfl ?_
 refine aP 33 rfl (qA rfl) rfl ?_
 refine C1 (nS (tT (rB (rS ?_))))
 refine C6 (rC rfl (A3 rfl rfl (B1 (by repeat first | exact mH | apply mT)) hwl)) (rT rfl) (rT rfl) ?_
 (exact R5.mk (by rw [if_pos hq, A0p (by omega), O8 (by omega), O8 (by omega), O8 (by omega), O8 (by omega)]) hrw)
 refine D9 ?_
 refine sP (I4 rfl rfl (by omega)) rfl rfl ?_
 refine J7 ?_
 refine sP (I4 rfl rfl (by omega)) rfl rfl ?_
 refine Z0 ?_
 refine sP (A0j rfl rfl (by omega)) rfl rfl ?_
 refine H4 ?_
 refine C6 (rC rfl (A5 rfl rfl)) (rT rfl) (rT rfl) ?_
 (exact R5.mk (by rw [if_neg (by omega)]; rfl) (L9 _))
 refine H4 ?_
 refine sP (I4 rfl rfl (by omega)) rfl rfl ?_
 refine J7 ?_
 refine sP (I4 rfl rfl (by omega)) rfl rfl ?_
 refine Z0 ?_
 refine sP (A0j rfl rfl (by omega)) rfl rfl ?_
 refine H4 ?_
 refine C6 (rC rfl (A5 rfl rfl)) (rT rfl) (rT rfl) ?_
 (exact R5.mk (by rw [if_neg (by omega)]; rfl) (L9 _))
theorem A8V (k : Int) (a : Tm) (nm : ByteArray) (num : Int) (ty fr : Ty) (lb : Int) (G : IM) (cells : List Value) (hk1 : k = 11 ∨ k = 12) (hca : cv a) (hr : A9 G (.mk k nm num ty fr lb [a]) cells) : Fn Tryz.prog 144 [.agg ⟨cells⟩] [] G (R5 (Y3 k ty fr lb [a])) := by
 obtain ⟨ak, anm, anum, ⟨atk, atks⟩, ⟨afk, afks⟩, alb, aks⟩ := a
 obtain ⟨hN, hkk⟩ := hca.node
 have hops := hN.ops
 have hbl := hN.lbB
 have htyA := hN.tyA
 have hfrA := hN.frA
 rw [E6] at htyA hfrA
 have h14 : ak = 14 → aks.length = 1 := fun h => by rw [h] at hops; have : D7 14 = 1 := rfl; omega
 obtain ⟨tk, tks⟩ := ty
 obtain ⟨fk, fks⟩ := fr
 obtain ⟨pt, ct, pf, cf, p, c, es, rfl, hk, hnum, hlb, hty, hfr, hsl, hkl⟩ := hr.open9
 obtain ⟨bx, ox, e0, rfl, hl0, hat0, hre0, hgb0⟩ := hsl.kidTm hkl (i := 0) (by simp) (by simp)
 replace hre0 : A9 G (Tm.mk ak anm anum (.mk atk atks) (.mk afk afks) alb aks) e0 := hre0
 have hP : Fn Tryz.prog 69 [.agg ⟨e0⟩] [] G (H2 (.bool (decide (ak = 14 ∧ afk = atk ∧ (atk = 4 ∨ atk = 5)))) G) := A2A _ G _ hre0
 have hI := A3J _ G _ hre0
 have ho0 := hre0.one
 obtain ⟨apt, act, apf, acf, ap, ac, aes, rfl, hak, hanum, halb, haty, hafr, hasl, hakl⟩ := hre0.open9
 have hfk64 : F0 fk := by obtain ⟨_, _, _, _, h, _⟩ := hfr.open; exact h
 have htk64 : F0 tk := by obtain ⟨_, _, _, _, h, _⟩ := hty.open; exact h
 obtain ⟨tes, htS, htL⟩ := haty.kids
 obtain ⟨fes, hfS, hfL⟩ := hafr.kids
 simp only [Ty.ks] at htS htL hfS hfL
 obtain ⟨i, hi⟩ : ∃ i : Nat, (k - 11).toNat = i := ⟨_, rfl⟩
 have hR : Y3 k (.mk tk tks) (.mk fk fks) lb [Tm.mk ak anm anum (.mk atk atks) (.mk afk afks) alb aks] = (if (ak = 14 ∧ afk = atk ∧ (atk = 4 ∨ atk = 5)) ∧ atk = 5 then (L4 (A0n k [kd aks 0]) (kt afks i) (kt atks i) alb, 1, 0) else Q7) := by
  unfold Y3
  rw [if_neg (by omega), if_pos hk1, hi, show kd [Tm.mk ak anm anum (.mk atk atks) (.mk afk afks) alb aks] 0 = Tm.mk ak anm anum (.mk atk atks) (.mk afk afks) alb aks from rfl, A1j]
  simp only [decide_eq_true_eq]
  rfl
 rw [hR]
 refine B7 Tryz.func144 rfl Tryz.ntmps144 Tryz.results144 rfl ?_
 intro w0
 refine tS (tR ?_)
 refine sE (C2 rfl rfl) rfl (fun b3 => ?_)
 refine sE (A7 rfl) rfl (fun b4 => ?_)
 refine D2 ?_
 refine sP (B3 (j := 0) rfl rfl rfl (by simp)) rfl rfl ?_
 refine sL (A3 rfl rfl (hat0 _) rfl) rfl rfl ?_
 refine sE (A7 rfl) rfl (fun b15 => ?_)
 refine F9 ?_
 refine sD (nS (tS ?_))
 refine B8 ?_
 refine tS (tR (sQ (B0 rfl) rfl (sL (B5 rfl rfl) rfl rfl ?_)))
 refine sP (I4 rfl rfl (by omega)) rfl rfl ?_
 refine T2 ?_
 refine sB (qE rfl rfl) rfl rfl (fun h44 => ?_) (fun h44 => ?_)
 refine C4 ?_
 focus (by_cases hpx : (ak = 14 ∧ afk = atk ∧ (atk = 4 ∨ atk = 5)); rw [decide_eq_true hpx] at hP; rotate_left; rw [decide_eq_false hpx] at hP; rotate_left; all_goals (refine H8 rfl hP rfl rfl ?_))
 refine O7 ?_
 refine sB (qE rfl rfl) rfl rfl (fun h58 => ?_) (fun h58 => ?_)
 refine D9 ?_
 refine sP (P1 rfl rfl (by omega) (by omega)) rfl rfl ?_
 refine sQ (qA rfl) rfl (sD (nS (tS ?_)))
 (have hq : (ak = 14 ∧ afk = atk ∧ (atk = 4 ∨ atk = 5)) ∧ atk = 5 := ⟨hpx, by omega⟩; have hq1 := h14 hq.1.1; have hq2 := htyA.1 (by omega); have hq3 := hfrA.1 (by omega); rw [show (k - 11 : Int) = ((i : Nat) : Int) from (by omega)]; obtain ⟨bq, oq, e3, rfl, hl3, hat3, hre3, hgb3⟩ := hasl.kidTm hakl (i := 0) (by omega) (by omega); have ho3 := hre3.one; obtain ⟨b5, o5, q5, d5, rfl, hat5, hre5, hgb5⟩ := htS.kidTy htL (i := i) (by omega) (by omega); obtain ⟨b7, o7, q7, d7, rfl, hat7, hre7, hgb7⟩ := hfS.kidTy hfL (i := i) (by omega) (by omega); obtain ⟨x1, x2, x3, x4, x5, x6, x7, x8, x9, rfl⟩ := nine hl3; refine D4 D5 rfl ?_)
 refine I3 (i := 0) (l' := [tt,ff,ff,ff,ff,ff,ff,ff,ff,ff,ff,ff,ff,ff,ff,ff,ff,ff,ff,ff,ff,ff,ff,ff,ff,ff]) rfl C8 (B0 rfl) rfl (by kernel_rfl) rfl rfl ?_
 refine aL 1 rfl (B5 rfl rfl) rfl ?_
 refine aP 2 rfl (B0 rfl) rfl ?_
 refine aL 3 rfl (B5 rfl rfl) rfl ?_
 refine aP 4 rfl (B3 (j := 0) rfl rfl rfl (by omega)) rfl ?_
 refine aL 5 rfl (A3 rfl rfl (hat3 _) rfl) rfl ?_
 refine aP 8 rfl (B0 rfl) rfl ?_
 refine aP 9 rfl (qF rfl) rfl ?_
 refine aL 10 rfl (B5 rfl rfl) rfl ?_
 refine aP 11 rfl (qM rfl) rfl ?_
 refine aP 12 rfl (B3 (j := i) rfl rfl rfl (by omega)) rfl ?_
 refine aL 13 rfl (A3 rfl rfl (hat7 _) rfl) rfl ?_
 refine aP 14 rfl (B0 rfl) rfl ?_
 refine aP 15 rfl (qF rfl) rfl ?_
 refine aL 16 rfl (B5 rfl rfl) rfl ?_
 refine aP 17 rfl (qM rfl) rfl ?_
 refine aP 18 rfl (B3 (j := i) rfl rfl rfl (by omega)) rfl ?_
 refine aL 19 rfl (A3 rfl rfl (hat5 _) rfl) rfl ?_
 refine aP 20 rfl (B0 rfl) rfl ?_
 refine aL 21 rfl (B5 rfl rfl) rfl ?_
 refine A4 6 ?_
 (refine E0 rfl (C7 rfl rfl rfl (by omega) (by unfold maxLen; omega) rfl) rfl rfl ?_; rintro _ ⟨b95, rfl⟩)
 refine A4 7 ?_
 (refine A05 (cs := [x1, x2, x3, x4, x5, x6, x7, x8, x9]) (by repeat (first | exact Pk.here | apply Pk.there)) (fun G2 hle2 hsl2 hno2 => ?_); have hrN := A0P (k := k) (ks := [aks[0]]) (es := [[x1, x2, x3, x4, x5, x6, x7, x8, x9]]) hk rfl (D3.of hsl2 rfl (by simp) (by intro x hx; obtain rfl := List.mem_singleton.1 hx; exact ho3)) (by simp only [D6]; exact ⟨_, _, rfl, hre3.mono hle2, rfl⟩); replace hre5 := hre5.mono hle2; replace hre7 := hre7.mono hle2; refine N4 rfl rfl (A23 _ _ _ _ _) rfl rfl rfl ?_)
 refine A4 22 ?_
 (refine H1 rfl rfl (A1k _ afks[i] atks[i] alb G2 _ _ _ ⟨by omega, by omega⟩ hrN hre7 hre5) rfl rfl rfl (fun u G3 hle3 hh => ?_); obtain ⟨wc, rfl, hrw⟩ := hh; have hwl := hrw.len; have hwo := hrw.one)
 refine A4 23 ?_
 (refine oS rfl rfl rfl rfl hwl hwo rfl rfl ?_ (hu := by exact D1 hwl.symm))
 refine aP 24 rfl (qA rfl) rfl ?_
 refine aP 25 rfl (qA rfl) rfl ?_
 refine C1 (nS (tT (rB (rS ?_))))
 refine C6 (rC rfl (A3 rfl rfl (B1 (by repeat first | exact mH | apply mT)) hwl)) (rT rfl) (rT rfl) ?_
 (exact R5.mk (by rw [if_pos hq, A0p (by omega), O8 (by omega), O8 (by omega)]) hrw)
 refine D9 ?_
 refine sP (A0j rfl rfl (by omega)) rfl rfl ?_
 refine H4 ?_
 refine C6 (rC rfl (A5 rfl rfl)) (rT rfl) (rT rfl) ?_
 (exact R5.mk (by rw [if_neg (by omega)]; rfl) (L9 _))
 refine H4 ?_
 refine sP (A0j rfl rfl (by omega)) rfl rfl ?_
 refine H4 ?_
 refine C6 (rC rfl (A5 rfl rfl)) (rT rfl) (rT rfl) ?_
 (exact R5.mk (by rw [if_neg (by omega)]; rfl) (L9 _))
 refine J7 ?_
 refine sP (Y9 rfl rfl (by omega)) rfl rfl ?_
 refine J7 ?_
 focus (by_cases hpx : (ak = 14 ∧ afk = atk ∧ (atk = 4 ∨ atk = 5)); rw [decide_eq_true hpx] at hP; rotate_left; rw [decide_eq_false hpx] at hP; rotate_left; all_goals (refine H8 rfl hP rfl rfl ?_))
 refine O7 ?_
 refine sB (qE rfl rfl) rfl rfl (fun h184 => ?_) (fun h184 => ?_)
 refine D9 ?_
 refine sP (P1 rfl rfl (by omega) (by omega)) rfl rfl ?_
 refine sQ (qA rfl) rfl (sD (nS (tS ?_)))
 (have hq : (ak = 14 ∧ afk = atk ∧ (atk = 4 ∨ atk = 5)) ∧ atk = 5 := ⟨hpx, by omega⟩; have hq1 := h14 hq.1.1; have hq2 := htyA.1 (by omega); have hq3 := hfrA.1 (by omega); rw [show (k - 11 : Int) = ((i : Nat) : Int) from (by omega)]; obtain ⟨bq, oq, e3, rfl, hl3, hat3, hre3, hgb3⟩ := hasl.kidTm hakl (i := 0) (by omega) (by omega); have ho3 := hre3.one; obtain ⟨b5, o5, q5, d5, rfl, hat5, hre5, hgb5⟩ := htS.kidTy htL (i := i) (by omega) (by omega); obtain ⟨b7, o7, q7, d7, rfl, hat7, hre7, hgb7⟩ := hfS.kidTy hfL (i := i) (by omega) (by omega); obtain ⟨x1, x2, x3, x4, x5, x6, x7, x8, x9, rfl⟩ := nine hl3; refine D4 D5 rfl ?_)
 refine I3 (i := 0) (l' := [tt,ff,ff,ff,ff,ff,ff,ff,ff,ff,ff,ff,ff,ff,ff,ff,ff,ff,ff,ff,ff,ff,ff,ff,ff,ff]) rfl C8 (B0 rfl) rfl (by kernel_rfl) rfl rfl ?_
 refine aL 1 rfl (B5 rfl rfl) rfl ?_
 refine aP 2 rfl (B0 rfl) rfl ?_
 refine aL 3 rfl (B5 rfl rfl) rfl ?_
 refine aP 4 rfl (B3 (j := 0) rfl rfl rfl (by omega)) rfl ?_
 refine aL 5 rfl (A3 rfl rfl (hat3 _) rfl) rfl ?_
 refine aP 8 rfl (B0 rfl) rfl ?_
 refine aP 9 rfl (qF rfl) rfl ?_
 refine aL 10 rfl (B5 rfl rfl) rfl ?_
 refine aP 11 rfl (qM rfl) rfl ?_
 refine aP 12 rfl (B3 (j := i) rfl rfl rfl (by omega)) rfl ?_
 refine aL 13 rfl (A3 rfl rfl (hat7 _) rfl) rfl ?_
 refine aP 14 rfl (B0 rfl) rfl ?_
 refine aP 15 rfl (qF rfl) rfl ?_
 refine aL 16 rfl (B5 rfl rfl) rfl ?_
 refine aP 17 rfl (qM rfl) rfl ?_
 refine aP 18 rfl (B3 (j := i) rfl rfl rfl (by omega)) rfl ?_
 refine aL 19 rfl (A3 rfl rfl (hat5 _) rfl) rfl ?_
 refine aP 20 rfl (B0 rfl) rfl ?_
 refine aL 21 rfl (B5 rfl rfl) rfl ?_
 refine A4 6 ?_
 (refine E0 rfl (C7 rfl rfl rfl (by omega) (by unfold maxLen; omega) rfl) rfl rfl ?_; rintro _ ⟨b221, rfl⟩)
 refine A4 7 ?_
 (refine A05 (cs := [x1, x2, x3, x4, x5, x6, x7, x8, x9]) (by repeat (first | exact Pk.here | apply Pk.there)) (fun G2 hle2 hsl2 hno2 => ?_); have hrN := A0P (k := k) (ks := [aks[0]]) (es := [[x1, x2, x3, x4, x5, x6, x7, x8, x9]]) hk rfl (D3.of hsl2 rfl (by simp) (by intro x hx; obtain rfl := List.mem_singleton.1 hx; exact ho3)) (by simp only [D6]; exact ⟨_, _, rfl, hre3.mono hle2, rfl⟩); replace hre5 := hre5.mono hle2; replace hre7 := hre7.mono hle2; refine N4 rfl rfl (A23 _ _ _ _ _) rfl rfl rfl ?_)
 refine A4 22 ?_
 (refine H1 rfl rfl (A1k _ afks[i] atks[i] alb G2 _ _ _ ⟨by omega, by omega⟩ hrN hre7 hre5) rfl rfl rfl (fun u G3 hle3 hh => ?_); obtain ⟨wc, rfl, hrw⟩ := hh; have hwl := hrw.len; have hwo := hrw.one)
 refine A4 23 ?_
 (refine oS rfl rfl rfl rfl hwl hwo rfl rfl ?_ (hu := by exact D1 hwl.symm))
 refine aP 24 rfl (qA rfl) rfl ?_
 refine aP 25 rfl (qA rfl) rfl ?_
 refine C1 (nS (tT (rB (rS ?_))))
 refine C6 (rC rfl (A3 rfl rfl (B1 (by repeat first | exact mH | apply mT)) hwl)) (rT rfl) (rT rfl) ?_
 (exact R5.mk (by rw [if_pos hq, A0p (by omega), O8 (by omega), O8 (by omega)]) hrw)
 refine D9 ?_
 refine sP (A0j rfl rfl (by omega)) rfl rfl ?_
 refine H4 ?_
 refine C6 (rC rfl (A5 rfl rfl)) (rT rfl) (rT rfl) ?_
 (exact R5.mk (by rw [if_neg (by omega)]; rfl) (L9 _))
 refine H4 ?_
 refine sP (A0j rfl rfl (by omega)) rfl rfl ?_
 refine H4 ?_
 refine C6 (rC rfl (A5 rfl rfl)) (rT rfl) (rT rfl) ?_
 (exact R5.mk (by rw [if_neg (by omega)]; rfl) (L9 _))
theorem A4F {t : Tm} (h : inj t = true) : t.k = 14 := by
 unfold inj at h
 simp only [Bool.and_eq_true, decide_eq_true_eq] at h
 exact h.1.1
theorem B3o {t u : Ty} (h : U2 t = true) (h' : U2 u = true) : M5 t u = decide (t.k = u.k) := by
 have e1 := A8U h
 have e2 := A8U h'
 by_cases hk : t.k = u.k
 ·rw [decide_eq_true hk, A1d, e1, e2]
  unfold U8; rw [hk]
 ·rw [decide_eq_false hk]
  cases hs : M5 t u with
  | false => rfl
  | true => exact absurd (congrArg Ty.k ((A1d _ _).1 hs)) hk
theorem A8W {t : Tm} (h : inj t = true) : U2 t.fr = true := by
 unfold inj at h
 rw [Bool.and_eq_true] at h
 exact h.2
theorem B3p (a : Tm) (nm : ByteArray) (num : Int) (ty fr : Ty) (lb : Int) (G : IM) (cells : List Value) (hca : cv a) (hlb9 : -99 ≤ lb ∧ lb ≤ 99) (hr : A9 G (.mk 14 nm num ty fr lb [a]) cells) : Fn Tryz.prog 144 [.agg ⟨cells⟩] [] G (R5 (Y3 14 ty fr lb [a])) := by
 have hji := @A8W a
 have hjk := @A4F a
 obtain ⟨ak, anm, anum, ⟨atk, atks⟩, ⟨afk, afks⟩, alb, aks⟩ := a
 obtain ⟨hN, hkk⟩ := hca.node
 have hops := hN.ops
 have hbl := hN.lbB
 have htyA := hN.tyA
 have hfrA := hN.frA
 rw [E6] at htyA hfrA
 have h14 : ak = 14 → aks.length = 1 := fun h => by rw [h] at hops; have : D7 14 = 1 := rfl; omega
 obtain ⟨tk, tks⟩ := ty
 obtain ⟨fk, fks⟩ := fr
 obtain ⟨pt, ct, pf, cf, p, c, es, rfl, hk, hnum, hlb, hty, hfr, hsl, hkl⟩ := hr.open9
 obtain ⟨bx, ox, e0, rfl, hl0, hat0, hre0, hgb0⟩ := hsl.kidTm hkl (i := 0) (by simp) (by simp)
 replace hre0 : A9 G (Tm.mk ak anm anum (.mk atk atks) (.mk afk afks) alb aks) e0 := hre0
 have hP : Fn Tryz.prog 69 [.agg ⟨e0⟩] [] G (H2 (.bool (decide (ak = 14 ∧ afk = atk ∧ (atk = 4 ∨ atk = 5)))) G) := A2A _ G _ hre0
 have hI := A3J _ G _ hre0
 have ho0 := hre0.one
 obtain ⟨apt, act, apf, acf, ap, ac, aes, rfl, hak, hanum, halb, haty, hafr, hasl, hakl⟩ := hre0.open9
 have hfk64 : F0 fk := by obtain ⟨_, _, _, _, h, _⟩ := hfr.open; exact h
 have htk64 : F0 tk := by obtain ⟨_, _, _, _, h, _⟩ := hty.open; exact h
 obtain ⟨tes, htS, htL⟩ := haty.kids
 obtain ⟨fes, hfS, hfL⟩ := hafr.kids
 simp only [Ty.ks] at htS htL hfS hfL
 obtain ⟨J, hJ⟩ : ∃ J, inj (Tm.mk ak anm anum (.mk atk atks) (.mk afk afks) alb aks) = J := ⟨_, rfl⟩
 obtain ⟨D, hD⟩ : ∃ D, U2 (.mk tk tks) = D := ⟨_, rfl⟩
 have hGr := A8N _ G _ hty
 rw [hD] at hGr
 rw [hJ] at hI hji hjk
 have hR : Y3 14 (.mk tk tks) (.mk fk fks) lb [Tm.mk ak anm anum (.mk atk atks) (.mk afk afks) alb aks] = (if fk = tk then (Tm.mk ak anm anum (.mk atk atks) (.mk afk afks) alb aks, 1, 0)
   else if tk = 1 then (L4 (L4 (Tm.mk ak anm anum (.mk atk atks) (.mk afk afks) alb aks) (.mk fk fks) (mGk fk) lb) (mGk fk) (.mk tk tks) lb, 1, 0)
   else if D = false then (L4 (L4 (Tm.mk ak anm anum (.mk atk atks) (.mk afk afks) alb aks) (.mk fk fks) (mGk tk) lb) (mGk tk) (.mk tk tks) lb, 1, 0)
   else if J = false then Q7
   else if afk = tk then (kd aks 0, 1, 0)
   else (I2, 2, lb)) := by
  rw [← hJ, ← hD]; rfl
 rw [hR]
 have hSm : J = true → D = true → M5 (.mk afk afks) (.mk tk tks) = decide (afk = tk) := fun h1 h2 => B3o (hji h1) (hD.trans h2)
 have hTS := A52 (.mk afk afks) (.mk tk tks) G _ _ hafr hty
 refine B7 Tryz.func144 rfl Tryz.ntmps144 Tryz.results144 rfl ?_
 intro w0
 refine tS (tR ?_)
 refine sE (C2 rfl rfl) rfl (fun b3 => ?_)
 refine sE (A7 rfl) rfl (fun b4 => ?_)
 refine D2 ?_
 refine sP (B3 (j := 0) rfl rfl rfl (by simp)) rfl rfl ?_
 refine sL (A3 rfl rfl (hat0 _) rfl) rfl rfl ?_
 refine sE (A7 rfl) rfl (fun b15 => ?_)
 refine F9 ?_
 refine sD (nS (tS ?_))
 refine B8 ?_
 refine tS (tR (sQ (B0 rfl) rfl (sL (B5 rfl rfl) rfl rfl ?_)))
 refine sP (I4 rfl rfl (by omega)) rfl rfl ?_
 refine T2 ?_
 refine sP (I4 rfl rfl (by omega)) rfl rfl ?_
 refine J7 ?_
 refine sP (I4 rfl rfl (by omega)) rfl rfl ?_
 refine Z0 ?_
 refine sP (A3e rfl rfl (by omega)) rfl rfl ?_
 refine N5 ?_
 refine sB (qE rfl rfl) rfl rfl (fun h81 => ?_) (fun h81 => ?_)
 refine H4 ?_
 refine C6 (rC rfl (A5 rfl rfl)) (rT rfl) (rT rfl) ?_
 (exact R5.mk (by rw [if_pos (by omega)]) hre0)
 refine D9 ?_
 refine sB (qE rfl rfl) rfl rfl (fun h108 => ?_) (fun h108 => ?_)
 refine D9 ?_
 (refine E4 rfl (A6a fk G hfk64) rfl rfl (fun u G1 hle1 hh => ?_); obtain ⟨gc, rfl, hrg⟩ := hh; obtain ⟨pg, cg, eg, rfl, _⟩ := hrg.open; have hgk : tk = 1 := (by omega); replace hre0 := hre0.mono hle1; replace hfr := hfr.mono hle1; replace hty := hty.mono hle1)
 refine sE (A7 rfl) rfl (fun b119 => ?_)
 refine F9 ?_
 refine sD (nS (tS ?_))
 refine D4 D5 rfl ?_
 refine K9 (i := 0) (l' := [tt,ff,ff,ff,ff,ff,ff,ff,ff,ff,ff,ff,ff,ff,ff,ff]) rfl C8 (A3 rfl rfl (B1 (by repeat first | exact mH | apply mT)) rfl) rfl (by kernel_rfl) rfl rfl ?_
 refine aL 3 rfl (A3 rfl rfl (B1 (by repeat first | exact mH | apply mT)) rfl) rfl ?_
 refine aL 7 rfl (A3 rfl rfl (B1 (by repeat first | exact mH | apply mT)) rfl) rfl ?_
 refine aP 1 rfl (B0 rfl) rfl ?_
 refine aL 2 rfl (A5 rfl rfl) rfl ?_
 refine aP 4 rfl (B0 rfl) rfl ?_
 refine aL 5 rfl (B5 rfl rfl) rfl ?_
 refine aP 8 rfl (B0 rfl) rfl ?_
 refine aL 9 rfl (A5 rfl rfl) rfl ?_
 refine aP 10 rfl (B0 rfl) rfl ?_
 refine aL 11 rfl (B5 rfl rfl) rfl ?_
 refine A4 6 ?_
 (refine H1 rfl rfl (A1k _ (.mk fk fks) _ lb G1 _ _ _ ⟨by omega, by omega⟩ hre0 hfr hrg) rfl rfl rfl (fun u G3 hle3 hh => ?_); obtain ⟨wc, rfl, hrw⟩ := hh; have hwl := hrw.len; have hwo := hrw.one; replace hrg := hrg.mono hle3; replace hty := hty.mono hle3)
 refine A4 12 ?_
 (refine H1 rfl rfl (A1k _ _ (.mk tk tks) lb G3 _ _ _ ⟨by omega, by omega⟩ hrw hrg hty) rfl rfl rfl (fun u G4 hle4 hh => ?_); obtain ⟨xc, rfl, hrx⟩ := hh; have hxl := hrx.len; have hxo := hrx.one)
 refine A4 13 ?_
 (refine oS rfl rfl rfl rfl hxl hxo rfl rfl ?_ (hu := by exact D1 hxl.symm))
 refine aP 14 rfl (qA rfl) rfl ?_
 refine aP 15 rfl (qA rfl) rfl ?_
 refine C1 (nS (tT (rB (rS ?_))))
 refine C6 (rC rfl (A3 rfl rfl (B1 (by repeat first | exact mH | apply mT)) hxl)) (rT rfl) (rT rfl) ?_
 (exact R5.mk (by rw [if_neg (by omega), if_pos (by omega)]) hrx)
 refine D2 ?_
 focus (cases hDD : D; all_goals (rw [hDD] at hGr; refine H8 rfl hGr rfl rfl ?_))
 refine I5 ?_
 (refine E4 rfl (A6a tk G htk64) rfl rfl (fun u G1 hle1 hh => ?_); obtain ⟨gc, rfl, hrg⟩ := hh; obtain ⟨pg, cg, eg, rfl, _⟩ := hrg.open; replace hre0 := hre0.mono hle1; replace hfr := hfr.mono hle1; replace hty := hty.mono hle1)
 refine sE (A7 rfl) rfl (fun b171 => ?_)
 refine F9 ?_
 refine sD (nS (tS ?_))
 refine D4 D5 rfl ?_
 refine K9 (i := 0) (l' := [tt,ff,ff,ff,ff,ff,ff,ff,ff,ff,ff,ff,ff,ff,ff,ff]) rfl C8 (A3 rfl rfl (B1 (by repeat first | exact mH | apply mT)) rfl) rfl (by kernel_rfl) rfl rfl ?_
 refine aL 3 rfl (A3 rfl rfl (B1 (by repeat first | exact mH | apply mT)) rfl) rfl ?_
 refine aL 7 rfl (A3 rfl rfl (B1 (by repeat first | exact mH | apply mT)) rfl) rfl ?_
 refine aP 1 rfl (B0 rfl) rfl ?_
 refine aL 2 rfl (A5 rfl rfl) rfl ?_
 refine aP 4 rfl (B0 rfl) rfl ?_
 refine aL 5 rfl (B5 rfl rfl) rfl ?_
 refine aP 8 rfl (B0 rfl) rfl ?_
 refine aL 9 rfl (A5 rfl rfl) rfl ?_
 refine aP 10 rfl (B0 rfl) rfl ?_
 refine aL 11 rfl (B5 rfl rfl) rfl ?_
 refine A4 6 ?_
 (refine H1 rfl rfl (A1k _ (.mk fk fks) _ lb G1 _ _ _ ⟨by omega, by omega⟩ hre0 hfr hrg) rfl rfl rfl (fun u G3 hle3 hh => ?_); obtain ⟨wc, rfl, hrw⟩ := hh; have hwl := hrw.len; have hwo := hrw.one; replace hrg := hrg.mono hle3; replace hty := hty.mono hle3)
 refine A4 12 ?_
 (refine H1 rfl rfl (A1k _ _ (.mk tk tks) lb G3 _ _ _ ⟨by omega, by omega⟩ hrw hrg hty) rfl rfl rfl (fun u G4 hle4 hh => ?_); obtain ⟨xc, rfl, hrx⟩ := hh; have hxl := hrx.len; have hxo := hrx.one)
 refine A4 13 ?_
 (refine oS rfl rfl rfl rfl hxl hxo rfl rfl ?_ (hu := by exact D1 hxl.symm))
 refine aP 14 rfl (qA rfl) rfl ?_
 refine aP 15 rfl (qA rfl) rfl ?_
 refine C1 (nS (tT (rB (rS ?_))))
 refine C6 (rC rfl (A3 rfl rfl (B1 (by repeat first | exact mH | apply mT)) hxl)) (rT rfl) (rT rfl) ?_
 (exact R5.mk (by rw [if_neg (by omega), if_neg (by omega), if_pos rfl]) hrx)
 refine D2 ?_
 focus (cases hJJ : J; all_goals (rw [hJJ] at hI; refine H8 rfl hI rfl rfl ?_))
 refine K0 ?_
 refine C6 (rC rfl (A5 rfl rfl)) (rT rfl) (rT rfl) ?_
 (exact R5.mk (by rw [if_neg (by omega), if_neg (by omega), if_neg (by decide), if_pos rfl]; rfl) (L9 _))
 refine J3 ?_
 focus (rw [hSm hJJ hDD] at hTS; by_cases hfk : afk = tk; rw [decide_eq_true hfk] at hTS; rotate_left; rw [decide_eq_false hfk] at hTS; rotate_left; all_goals (refine H8 rfl hTS rfl rfl ?_))
 refine D2 ?_
 (have hq1 := h14 (hjk (by assumption)); obtain ⟨bq, oq, e3, rfl, hl3, hat3, hre3, hgb3⟩ := hasl.kidTm hakl (i := 0) (by omega) (by omega); have ho3 := hre3.one; refine sP (B3 (j := 0) rfl rfl rfl (by omega)) rfl rfl ?_)
 refine sL (A3 rfl rfl (hat3 _) hl3) rfl rfl ?_
 refine sS rfl rfl rfl hl3 ho3 rfl ?_ (hu := by exact D1 hl3.symm)
 refine C4 ?_
 refine C6 (rC rfl (A3 rfl rfl (B1 (by repeat first | exact mH | apply mT)) hl3)) (rT rfl) (rT rfl) ?_
 (exact R5.mk (by rw [if_neg (by omega), if_neg (by omega), if_neg (by decide), if_neg (by decide), if_pos hfk, A0p (by omega)]) hre3)
 refine D2 ?_
 refine D4 D5 rfl ?_
 refine I3 (i := 0) (l' := [tt,ff,ff,ff,ff,ff]) rfl C8 (Q3 rfl rfl) rfl (by kernel_rfl) rfl rfl ?_
 refine aP 1 rfl (B0 rfl) rfl ?_
 refine aL 2 rfl (B5 rfl rfl) rfl ?_
 refine A4 3 ?_
 refine H7 rfl ?_
 refine aP 4 rfl (qA rfl) rfl ?_
 refine aP 5 rfl (qA rfl) rfl ?_
 refine C1 (nS (tT ?_))
 refine C6 (rC rfl (A5 rfl rfl)) (rT rfl) (rT rfl) ?_
 (exact R5.mk (by rw [if_neg (by omega), if_neg (by omega), if_neg (by decide), if_neg (by decide), if_neg hfk]) (L9 _))
theorem A8X (k : Int) (a b : Tm) (nm : ByteArray) (num : Int) (ty fr : Ty) (lb : Int) (G : IM) (cells : List Value) (hk1 : k = 7 ∨ k = 8) (hca : cv a) (hr : A9 G (.mk k nm num ty fr lb [a, b]) cells) : Fn Tryz.prog 144 [.agg ⟨cells⟩] [] G (R5 (Y3 k ty fr lb [a, b])) := by
 have hR : Y3 k ty fr lb [a, b] = Q7 := by unfold Y3; rw [if_neg (by omega), if_neg (by omega), if_neg (by omega)]
 rw [hR]
 obtain ⟨ak, anm, anum, ⟨atk, atks⟩, ⟨afk, afks⟩, alb, aks⟩ := a
 obtain ⟨hN, hkk⟩ := hca.node
 have hops := hN.ops
 have hbl := hN.lbB
 have htyA := hN.tyA
 have hfrA := hN.frA
 rw [E6] at htyA hfrA
 have h14 : ak = 14 → aks.length = 1 := fun h => by rw [h] at hops; have : D7 14 = 1 := rfl; omega
 obtain ⟨tk, tks⟩ := ty
 obtain ⟨fk, fks⟩ := fr
 obtain ⟨pt, ct, pf, cf, p, c, es, rfl, hk, hnum, hlb, hty, hfr, hsl, hkl⟩ := hr.open9
 obtain ⟨bx, ox, e0, rfl, hl0, hat0, hre0, hgb0⟩ := hsl.kidTm hkl (i := 0) (by simp) (by simp)
 replace hre0 : A9 G (Tm.mk ak anm anum (.mk atk atks) (.mk afk afks) alb aks) e0 := hre0
 have hP : Fn Tryz.prog 69 [.agg ⟨e0⟩] [] G (H2 (.bool (decide (ak = 14 ∧ afk = atk ∧ (atk = 4 ∨ atk = 5)))) G) := A2A _ G _ hre0
 have hI := A3J _ G _ hre0
 have ho0 := hre0.one
 obtain ⟨apt, act, apf, acf, ap, ac, aes, rfl, hak, hanum, halb, haty, hafr, hasl, hakl⟩ := hre0.open9
 have hfk64 : F0 fk := by obtain ⟨_, _, _, _, h, _⟩ := hfr.open; exact h
 have htk64 : F0 tk := by obtain ⟨_, _, _, _, h, _⟩ := hty.open; exact h
 obtain ⟨tes, htS, htL⟩ := haty.kids
 obtain ⟨fes, hfS, hfL⟩ := hafr.kids
 simp only [Ty.ks] at htS htL hfS hfL
 refine B7 Tryz.func144 rfl Tryz.ntmps144 Tryz.results144 rfl ?_
 intro w0
 refine tS (tR ?_)
 refine sE (C2 rfl rfl) rfl (fun b3 => ?_)
 refine sE (A7 rfl) rfl (fun b4 => ?_)
 refine D2 ?_
 refine sP (B3 (j := 0) rfl rfl rfl (by simp)) rfl rfl ?_
 refine sL (A3 rfl rfl (hat0 _) rfl) rfl rfl ?_
 refine sE (A7 rfl) rfl (fun b15 => ?_)
 refine F9 ?_
 refine sD (nS (tS ?_))
 refine B8 ?_
 refine tS (tR (sQ (B0 rfl) rfl (sL (B5 rfl rfl) rfl rfl ?_)))
 refine sP (I4 rfl rfl (by omega)) rfl rfl ?_
 refine T2 ?_
 refine sP (I4 rfl rfl (by omega)) rfl rfl ?_
 refine J7 ?_
 refine sP (I4 rfl rfl (by omega)) rfl rfl ?_
 refine Z0 ?_
 refine sP (A0j rfl rfl (by omega)) rfl rfl ?_
 refine H4 ?_
 refine C6 (rC rfl (A5 rfl rfl)) (rT rfl) (rT rfl) ?_
 (exact R5.mk rfl (L9 _))
theorem B3q (a b c0 : Tm) (nm : ByteArray) (num : Int) (ty fr : Ty) (lb : Int) (G : IM) (cells : List Value) (hca : cv a) (hr : A9 G (.mk 9 nm num ty fr lb [a, b, c0]) cells) : Fn Tryz.prog 144 [.agg ⟨cells⟩] [] G (R5 (Y3 9 ty fr lb [a, b, c0])) := by
 have hR : Y3 9 ty fr lb [a, b, c0] = Q7 := by unfold Y3; rw [if_neg (by omega), if_neg (by omega), if_neg (by omega)]
 rw [hR]
 obtain ⟨ak, anm, anum, ⟨atk, atks⟩, ⟨afk, afks⟩, alb, aks⟩ := a
 obtain ⟨hN, hkk⟩ := hca.node
 have hops := hN.ops
 have hbl := hN.lbB
 have htyA := hN.tyA
 have hfrA := hN.frA
 rw [E6] at htyA hfrA
 have h14 : ak = 14 → aks.length = 1 := fun h => by rw [h] at hops; have : D7 14 = 1 := rfl; omega
 obtain ⟨tk, tks⟩ := ty
 obtain ⟨fk, fks⟩ := fr
 obtain ⟨pt, ct, pf, cf, p, c, es, rfl, hk, hnum, hlb, hty, hfr, hsl, hkl⟩ := hr.open9
 obtain ⟨bx, ox, e0, rfl, hl0, hat0, hre0, hgb0⟩ := hsl.kidTm hkl (i := 0) (by simp) (by simp)
 replace hre0 : A9 G (Tm.mk ak anm anum (.mk atk atks) (.mk afk afks) alb aks) e0 := hre0
 have hP : Fn Tryz.prog 69 [.agg ⟨e0⟩] [] G (H2 (.bool (decide (ak = 14 ∧ afk = atk ∧ (atk = 4 ∨ atk = 5)))) G) := A2A _ G _ hre0
 have hI := A3J _ G _ hre0
 have ho0 := hre0.one
 obtain ⟨apt, act, apf, acf, ap, ac, aes, rfl, hak, hanum, halb, haty, hafr, hasl, hakl⟩ := hre0.open9
 have hfk64 : F0 fk := by obtain ⟨_, _, _, _, h, _⟩ := hfr.open; exact h
 have htk64 : F0 tk := by obtain ⟨_, _, _, _, h, _⟩ := hty.open; exact h
 obtain ⟨tes, htS, htL⟩ := haty.kids
 obtain ⟨fes, hfS, hfL⟩ := hafr.kids
 simp only [Ty.ks] at htS htL hfS hfL
 refine B7 Tryz.func144 rfl Tryz.ntmps144 Tryz.results144 rfl ?_
 intro w0
 refine tS (tR ?_)
 refine sE (C2 rfl rfl) rfl (fun b3 => ?_)
 refine sE (A7 rfl) rfl (fun b4 => ?_)
 refine D2 ?_
 refine sP (B3 (j := 0) rfl rfl rfl (by simp)) rfl rfl ?_
 refine sL (A3 rfl rfl (hat0 _) rfl) rfl rfl ?_
 refine sE (A7 rfl) rfl (fun b15 => ?_)
 refine F9 ?_
 refine sD (nS (tS ?_))
 refine B8 ?_
 refine tS (tR (sQ (B0 rfl) rfl (sL (B5 rfl rfl) rfl rfl ?_)))
 refine sP (I4 rfl rfl (by omega)) rfl rfl ?_
 refine T2 ?_
 refine sP (I4 rfl rfl (by omega)) rfl rfl ?_
 refine J7 ?_
 refine sP (I4 rfl rfl (by omega)) rfl rfl ?_
 refine Z0 ?_
 refine sP (A0j rfl rfl (by omega)) rfl rfl ?_
 refine H4 ?_
 refine C6 (rC rfl (A5 rfl rfl)) (rT rfl) (rT rfl) ?_
 (exact R5.mk rfl (L9 _))
theorem B3r (nm : ByteArray) (num : Int) (ty fr : Ty) (lb : Int) (G : IM) (cells : List Value) (hr : A9 G (.mk 1 nm num ty fr lb []) cells) : Fn Tryz.prog 143 [.agg ⟨cells⟩] [] G (R4 (X2 1 [])) := by
 rw [show X2 1 [] = none from rfl]
 obtain ⟨tk, tks⟩ := ty
 obtain ⟨fk, fks⟩ := fr
 obtain ⟨pt, ct, pf, cf, p, c, es, rfl, hk, hnum, hlb, hty, hfr, hsl, hkl⟩ := hr.open9
 have hL : ([] : List Tm).length = 0 := rfl
 refine B7 Tryz.func143 rfl Tryz.ntmps143 Tryz.results143 rfl ?_
 intro w0
 refine tS (tR ?_)
 refine sE (C2 rfl rfl) rfl (fun b3 => ?_)
 refine sE (A7 rfl) rfl (fun b4 => ?_)
 refine H6 ?_
 refine sE (A7 rfl) rfl (fun b11 => ?_)
 refine D9 ?_
 refine sP (B0w rfl rfl (by omega)) rfl rfl ?_
 refine N5 ?_
 refine B8 ?_
 refine tS (tR ?_)
 refine sP (I4 rfl rfl (by omega)) rfl rfl ?_
 refine sQ (qA rfl) rfl (sD (nS (cF rfl (tS (tS (tR ?_))))))
 refine sP (I4 rfl rfl (by omega)) rfl rfl ?_
 refine sQ (qA rfl) rfl (sD (nS (cF rfl (tR ?_))))
 refine sP (I4 rfl rfl (by omega)) rfl rfl ?_
 refine sQ (qA rfl) rfl (sD (nS (cF rfl (tS (tR ?_)))))
 refine sP (I4 rfl rfl (by omega)) rfl rfl ?_
 refine sQ (qA rfl) rfl (sD (nS (cF rfl (tS (tS (tR ?_))))))
 refine sP (I4 rfl rfl (by omega)) rfl rfl ?_
 refine sQ (qA rfl) rfl (sD (nS (cF rfl (tR ?_))))
 refine sP (I4 rfl rfl (by omega)) rfl rfl ?_
 refine H4 ?_
 refine I1 (rC rfl (A5 rfl rfl)) (rT rfl) ?_
 (exact R4.no rfl (L9 _))
theorem B3s (a : Tm) (nm : ByteArray) (num : Int) (ty fr : Ty) (lb : Int) (G : IM) (cells : List Value) (hr : A9 G (.mk 14 nm num ty fr lb [a]) cells) : Fn Tryz.prog 143 [.agg ⟨cells⟩] [] G (R4 (X2 14 [a])) := by
 rw [show X2 14 [a] = none from rfl]
 obtain ⟨tk, tks⟩ := ty
 obtain ⟨fk, fks⟩ := fr
 obtain ⟨pt, ct, pf, cf, p, c, es, rfl, hk, hnum, hlb, hty, hfr, hsl, hkl⟩ := hr.open9
 obtain ⟨bx, ox, e0, rfl, hl0, hat0, hre0, hgb0⟩ := hsl.kidTm hkl (i := 0) (by simp) (by simp)
 have ho0 : e0.all (·.oneCell') = true := (show A9 G a e0 from hre0).one
 refine B7 Tryz.func143 rfl Tryz.ntmps143 Tryz.results143 rfl ?_
 intro w0
 refine tS (tR ?_)
 refine sE (C2 rfl rfl) rfl (fun b3 => ?_)
 refine sE (A7 rfl) rfl (fun b4 => ?_)
 refine H6 ?_
 refine sE (A7 rfl) rfl (fun b11 => ?_)
 refine D9 ?_
 refine sB (Y7 rfl rfl) rfl rfl (fun h21 => ?_) (fun h21 => ?_)
 refine H6 ?_
 refine sP (B3 (j := 0) rfl rfl rfl (by simp)) rfl rfl ?_
 refine sL (A3 rfl rfl (hat0 _) hl0) rfl rfl ?_
 refine sS rfl rfl rfl hl0 ho0 rfl ?_ (hu := by exact D1 hl0.symm)
 refine D9 ?_
 refine B8 ?_
 refine tS (tR ?_)
 refine sP (I4 rfl rfl (by omega)) rfl rfl ?_
 refine sQ (qA rfl) rfl (sD (nS (cF rfl (tS (tS (tR ?_))))))
 refine sP (I4 rfl rfl (by omega)) rfl rfl ?_
 refine sQ (qA rfl) rfl (sD (nS (cF rfl (tR ?_))))
 refine sP (I4 rfl rfl (by omega)) rfl rfl ?_
 refine sQ (qA rfl) rfl (sD (nS (cF rfl (tS (tR ?_)))))
 refine sP (I4 rfl rfl (by omega)) rfl rfl ?_
 refine sQ (qA rfl) rfl (sD (nS (cF rfl (tS (tS (tR ?_))))))
 refine sP (I4 rfl rfl (by omega)) rfl rfl ?_
 refine sQ (qA rfl) rfl (sD (nS (cF rfl (tR ?_))))
 refine sP (I4 rfl rfl (by omega)) rfl rfl ?_
 refine H4 ?_
 refine I1 (rC rfl (A5 rfl rfl)) (rT rfl) ?_
 (exact R4.no rfl (L9 _))
 refine N5 ?_
 refine B8 ?_
 refine tS (tR ?_)
 refine sP (I4 rfl rfl (by omega)) rfl rfl ?_
 refine sQ (qA rfl) rfl (sD (nS (cF rfl (tS (tS (tR ?_))))))
 refine sP (I4 rfl rfl (by omega)) rfl rfl ?_
 refine sQ (qA rfl) rfl (sD (nS (cF rfl (tR ?_))))
 refine sP (I4 rfl rfl (by omega)) rfl rfl ?_
 refine sQ (qA rfl) rfl (sD (nS (cF rfl (tS (tR ?_)))))
 refine sP (I4 rfl rfl (by omega)) rfl rfl ?_
 refine sQ (qA rfl) rfl (sD (nS (cF rfl (tS (tS (tR ?_))))))
 refine sP (I4 rfl rfl (by omega)) rfl rfl ?_
 refine sQ (qA rfl) rfl (sD (nS (cF rfl (tR ?_))))
 refine sP (I4 rfl rfl (by omega)) rfl rfl ?_
 refine H4 ?_
 refine I1 (rC rfl (A5 rfl rfl)) (rT rfl) ?_
 (exact R4.no rfl (L9 _))
theorem ks1 {ks : List Tm} (h : ks.length = 1) : ∃ a, ks = [a] := by
 match ks, h with
 | [a], _ => exact ⟨a, rfl⟩
theorem ks2 {ks : List Tm} (h : ks.length = 2) : ∃ a b, ks = [a, b] := by
 match ks, h with
 | [a, b], _ => exact ⟨a, b, rfl⟩
theorem ks3 {ks : List Tm} (h : ks.length = 3) : ∃ a b c, ks = [a, b, c] := by
 match ks, h with
 | [a, b, c], _ => exact ⟨a, b, c, rfl⟩
theorem B3t {k : Int} {nm : ByteArray} {num : Int} {ty fr : Ty} {lb : Int} {ks : List Tm} {G : IM} {cells : List Value} (hc : cv (.mk k nm num ty fr lb ks)) (hk : k = 1 ∨ k = 6 ∨ k = 7 ∨ k = 8 ∨ k = 9 ∨ k = 11 ∨ k = 12 ∨ k = 14) (hr : A9 G (.mk k nm num ty fr lb ks) cells) :
  Fn Tryz.prog 143 [.agg ⟨cells⟩] [] G (R4 (X2 k ks)) := by
 obtain ⟨hN, hkk⟩ := hc.node
 have hops := hN.ops
 rcases hk with rfl | rfl | rfl | rfl | rfl | rfl | rfl | rfl
 ·obtain rfl : ks = [] := List.length_eq_zero_iff.1 (by have : D7 1 = 0 := rfl; omega)
  exact B3r _ _ _ _ _ _ _ hr
 ·obtain ⟨a, b, rfl⟩ := ks2 (ks := ks) (by have : D7 6 = 2 := rfl; omega)
  exact B3k a b _ _ _ _ _ _ _ (hkk a (by simp)) hr
 ·obtain ⟨a, b, rfl⟩ := ks2 (ks := ks) (by have : D7 7 = 2 := rfl; omega)
  exact A8S 7 a b _ _ _ _ _ _ _ (.inl rfl) (hkk a (by simp)) (hkk b (by simp)) hr
 ·obtain ⟨a, b, rfl⟩ := ks2 (ks := ks) (by have : D7 8 = 2 := rfl; omega)
  exact A8S 8 a b _ _ _ _ _ _ _ (.inr rfl) (hkk a (by simp)) (hkk b (by simp)) hr
 ·obtain ⟨a, b, c, rfl⟩ := ks3 (ks := ks) (by have : D7 9 = 3 := rfl; omega)
  exact B3l a b c _ _ _ _ _ _ _ hr
 ·obtain ⟨a, rfl⟩ := ks1 (ks := ks) (by have : D7 11 = 1 := rfl; omega)
  exact A8T 11 a _ _ _ _ _ _ _ (.inl rfl) (hkk a (by simp)) hr
 ·obtain ⟨a, rfl⟩ := ks1 (ks := ks) (by have : D7 12 = 1 := rfl; omega)
  exact A8T 12 a _ _ _ _ _ _ _ (.inr rfl) (hkk a (by simp)) hr
 ·obtain ⟨a, rfl⟩ := ks1 (ks := ks) (by have : D7 14 = 1 := rfl; omega)
  exact B3s a _ _ _ _ _ _ _ hr
theorem B3u {k : Int} {nm : ByteArray} {num : Int} {ty fr : Ty} {lb : Int} {ks : List Tm} {G : IM} {cells : List Value} (hc : cv (.mk k nm num ty fr lb ks)) (hk : k = 6 ∨ k = 7 ∨ k = 8 ∨ k = 9 ∨ k = 11 ∨ k = 12 ∨ k = 14) (hr : A9 G (.mk k nm num ty fr lb ks) cells) :
  Fn Tryz.prog 144 [.agg ⟨cells⟩] [] G (R5 (Y3 k ty fr lb ks)) := by
 obtain ⟨hN, hkk⟩ := hc.node
 have hops := hN.ops
 rcases hk with rfl | rfl | rfl | rfl | rfl | rfl | rfl
 ·obtain ⟨a, b, rfl⟩ := ks2 (ks := ks) (by have : D7 6 = 2 := rfl; omega)
  exact B3n a b _ _ _ _ _ _ _ (hkk a (by simp)) hr
 ·obtain ⟨a, b, rfl⟩ := ks2 (ks := ks) (by have : D7 7 = 2 := rfl; omega)
  exact A8X 7 a b _ _ _ _ _ _ _ (.inl rfl) (hkk a (by simp)) hr
 ·obtain ⟨a, b, rfl⟩ := ks2 (ks := ks) (by have : D7 8 = 2 := rfl; omega)
  exact A8X 8 a b _ _ _ _ _ _ _ (.inr rfl) (hkk a (by simp)) hr
 ·obtain ⟨a, b, c, rfl⟩ := ks3 (ks := ks) (by have : D7 9 = 3 := rfl; omega)
  exact B3q a b c _ _ _ _ _ _ _ (hkk a (by simp)) hr
 ·obtain ⟨a, rfl⟩ := ks1 (ks := ks) (by have : D7 11 = 1 := rfl; omega)
  exact A8V 11 a _ _ _ _ _ _ _ (.inl rfl) (hkk a (by simp)) hr
 ·obtain ⟨a, rfl⟩ := ks1 (ks := ks) (by have : D7 12 = 1 := rfl; omega)
  exact A8V 12 a _ _ _ _ _ _ _ (.inr rfl) (hkk a (by simp)) hr
 ·obtain ⟨a, rfl⟩ := ks1 (ks := ks) (by have : D7 14 = 1 := rfl; omega)
  exact B3p a _ _ _ _ _ _ _ (hkk a (by simp)) hN.lbB hr
theorem A4G (n : Nat) (t : Tm) (ts : List Tm) : U9 (n + 1) (t :: ts) = if E7 t = true then (match U9 n ts with | some (us, c, l) => some (t :: us, c, l) | none => none) else some ((F8 t).1 :: ts, (F8 t).2.1, (F8 t).2.2) := by
 rw [U9]; rfl
theorem A6b : ∀ (n : Nat) (ks : List Tm), (∀ i, i < n → (h : i < ks.length) → E7 ks[i] = true) → U9 n ks = none
 | n, [], _ => by cases n <;> rfl
 | 0, t :: ts, _ => rfl
 | n + 1, t :: ts, h => by
  rw [A4G, if_pos (show E7 t = true from h 0 (by omega) (by simp)), A6b n ts (fun i hi hl => h (i + 1) (by omega) (by simpa using hl))]
theorem A6c : ∀ (n : Nat) (ks : List Tm) (i : Nat) (hi : i < ks.length), i < n → (∀ j, j < i → (h : j < ks.length) → E7 ks[j] = true) → E7 ks[i] = false → U9 n ks = some (ks.set i (F8 ks[i]).1, (F8 ks[i]).2.1, (F8 ks[i]).2.2)
 | n, [], i, hi, _, _, _ => by simp at hi
 | 0, t :: ts, i, _, hn, _, _ => by omega
 | n + 1, t :: ts, 0, _, _, _, hv => by
  rw [A4G, if_neg (by rw [show E7 t = false from hv]; decide)]; rfl
 | n + 1, t :: ts, i + 1, hi, hn, hj, hv => by
  rw [A4G, if_pos (show E7 t = true from hj 0 (by omega) (by simp)), A6c n ts i (by simpa using hi) (by omega) (fun j hji hl => hj (j + 1) (by omega) (by simpa using hl)) hv]
  rfl
theorem B3v {k : Int} {ty fr : Ty} {lb : Int} {ks : List Tm} (h : (N8 k ty fr lb ks).2.1 = 1) : (N8 k ty fr lb ks).2.2 = 0 := by
 revert h
 unfold N8 Q7
 repeat' split
 all_goals first | (intro _; rfl) | (intro h; exfalso; revert h; simp)
theorem B3w {k : Int} {nm : ByteArray} {num : Int} {ty fr : Ty} {lb : Int} {ks : List Tm} (h : (F8 (.mk k nm num ty fr lb ks)).2.1 = 1) : (F8 (.mk k nm num ty fr lb ks)).2.2 = 0 := by
 rw [F8] at h ⊢
 cases hL : U9 (if k = 9 then 1 else ks.length) ks with
 | none => rw [hL] at h; exact B3v h
 | some p =>
  obtain ⟨us, c, l⟩ := p
  rw [hL] at h
  simp only at h ⊢
  by_cases hc : c = 1
  ·rw [if_pos hc]
  ·rw [if_neg hc] at h; exact absurd h hc
theorem B3x {t : Tm} (h : (F8 t).2.1 = 1) : (F8 t).2.2 = 0 := by cases t; exact B3w h
theorem B3y {k : Int} {nm : ByteArray} {num : Int} {ty fr : Ty} {lb : Int} {ks : List Tm} {i : Nat} (hi : i < ks.length) (hn : i < (if k = 9 then 1 else ks.length)) (hj : ∀ j, j < i → (h : j < ks.length) → E7 ks[j] = true) (hv : E7 ks[i] = false) :
  (F8 (.mk k nm num ty fr lb ks)).2.1 = (F8 ks[i]).2.1 ∧ (F8 (.mk k nm num ty fr lb ks)).2.2 = (F8 ks[i]).2.2 ∧ ((F8 ks[i]).2.1 = 1 → (F8 (.mk k nm num ty fr lb ks)).1 = .mk k nm num ty fr lb (ks.set i (F8 ks[i]).1)) := by
 rw [F8, A6c _ ks i hi hn hj hv]
 simp only
 by_cases hc : (F8 ks[i]).2.1 = 1
 ·rw [if_pos hc]
  exact ⟨hc.symm, (B3x hc).symm, fun _ => rfl⟩
 ·rw [if_neg hc]
  exact ⟨rfl, rfl, fun h => absurd h hc⟩
theorem B3z {k : Int} {nm : ByteArray} {num : Int} {ty fr : Ty} {lb : Int} {ks : List Tm} (h : ∀ i, i < (if k = 9 then 1 else ks.length) → (hl : i < ks.length) → E7 ks[i] = true) : F8 (.mk k nm num ty fr lb ks) = match X2 k ks with | some u => (u, 1, 0) | none => Y3 k ty fr lb ks := by
 rw [F8, A6b _ _ h]
 exact B3m k ty fr lb ks
theorem A3L {k : Int} (h : 0 ≤ D7 k) : 1 ≤ k ∧ k ≤ 14 := by
 by_cases hk : 1 ≤ k ∧ k ≤ 14
 ·exact hk
 ·rw [A39 hk] at h; omega
theorem A8Y {k : Int} {nm : ByteArray} {num : Int} {ty fr : Ty} {lb : Int} {ks : List Tm} (hc : cv (.mk k nm num ty fr lb ks)) (hv : E7 (.mk k nm num ty fr lb ks) = false) (h : ∀ i, i < (if k = 9 then 1 else ks.length) → (hl : i < ks.length) → E7 ks[i] = true) : k = 1 ∨ k = 6 ∨ k = 7 ∨ k = 8 ∨ k = 9 ∨ k = 11 ∨ k = 12 ∨ k = 14 := by
 obtain ⟨hN, _⟩ := hc.node
 have hr := A3L (by rw [hN.ops]; omega : 0 ≤ D7 k)
 have h13 := hN.ne
 have h25 : ¬(k = 2 ∨ k = 3 ∨ k = 4 ∨ k = 5) := by
  intro hk
  rw [E7, if_neg (by omega)] at hv
  rw [decide_eq_true hk] at hv
  cases hv
 have h10 : k ≠ 10 := by
  rintro rfl
  rw [A3K (.inl rfl), List.all_eq_false] at hv
  obtain ⟨t, ht, hn⟩ := hv
  obtain ⟨i, hi, rfl⟩ := List.mem_iff_getElem.1 ht
  exact hn (h i (by rw [if_neg (by decide)]; exact hi) hi)
 omega
theorem B3A (t : Tm) (G : IM) (cells : List Value) (hr : A9 G t cells) : Fn Tryz.prog 141 [.agg ⟨cells⟩] [] G (H2 (.int .i64 ((if t.k = 9 then 1 else t.ks.length : Nat) : Int)) G) := by
 obtain ⟨k, nm, num, ⟨tk, tks⟩, ⟨fk, fks⟩, lb, ks⟩ := t
 obtain ⟨pt, ct, pf, cf, p, c, es, rfl, hk, hnum, hlb, hty, hfr, hsl, hkl⟩ := hr.open9
 rw [show (Tm.mk k nm num (.mk tk tks) (.mk fk fks) lb ks).k = k from rfl, show (Tm.mk k nm num (.mk tk tks) (.mk fk fks) lb ks).ks = ks from rfl]
 refine B7 Tryz.func141 rfl Tryz.ntmps141 Tryz.results141 rfl ?_
 intro w0
 refine tS (tR ?_)
 refine sE (C2 rfl rfl) rfl (fun b3 => ?_)
 refine D2 ?_
 refine sB (qE rfl rfl) rfl rfl (fun h12 => ?_) (fun h12 => ?_)
 refine J3 ?_
 (exact ⟨rfl, by rw [if_pos (by omega)]; rfl, rfl⟩)
 refine H4 ?_
 (exact ⟨rfl, by rw [if_neg (by omega)], rfl⟩)
theorem B3B {k : Int} (h8 : k = 1 ∨ k = 6 ∨ k = 7 ∨ k = 8 ∨ k = 9 ∨ k = 11 ∨ k = 12 ∨ k = 14) (h : D7 k = 0) : k = 1 := by
 rcases h8 with rfl | rfl | rfl | rfl | rfl | rfl | rfl | rfl
 ·rfl
 all_goals exact absurd h (by decide)
theorem A8Z {G : IM} {r r' : Stp} {u : Tm} {cells : List Value} {c l : Int} (h1 : r.2.1 = c) (h2 : r.2.2 = l) (hr : A9 G u cells) (h3 : c = 1 → u = r.1) : R5 r G (.tuple ⟨[.agg ⟨cells⟩, .int .i64 c, .int .i64 l]⟩) [] := by
 subst h1 h2; exact ⟨rfl, u, cells, rfl, hr, h3⟩
theorem B3C : ∀ (t : Tm) (G : IM) (cells : List Value), cv t → E7 t = false → A9 G t cells → Fn Tryz.prog 99 [.agg ⟨cells⟩] [] G (R5 (F8 t)) := by
 refine Tm.ind fun k nm num ty fr lb ks ih G cells hc hv hr => ?_
 have hr0 := hr
 have hN := hc.node.1
 have hkk := hc.node.2
 have hsm := A2s _ hc
 obtain ⟨_, _, _, _, hksm⟩ := A0o.1 hsm
 have hops := hN.ops
 have hle3 := A1f k
 have hkd := @A8Y k nm num ty fr lb ks hc hv
 have hrd := @B3z k nm num ty fr lb ks
 have hkidS := fun (i : Nat) => @B3y k nm num ty fr lb ks i
 have hRA := fun h => @B3t k nm num ty fr lb ks G cells hc h hr
 have hCA := fun h (G1 : IM) (hle : B9 G G1) => @B3u k nm num ty fr lb ks G1 cells hc h (hr.mono hle)
 have hCt := B3A _ G _ hr
 rw [show (Tm.mk k nm num ty fr lb ks).k = k from rfl, show (Tm.mk k nm num ty fr lb ks).ks = ks from rfl] at hCt
 obtain ⟨C, hC⟩ : ∃ C : Nat, (if k = 9 then 1 else ks.length : Nat) = C := ⟨_, rfl⟩
 rw [hC] at hCt hkd hrd
 have hkidS' := fun (i : Nat) (hi : i < ks.length) (hn : i < C) => hkidS i hi (by rw [hC]; exact hn)
 have hC9 : C ≤ ks.length := by rw [← hC]; split; (have : D7 k = 3 := by (rename_i h9; rw [h9]; rfl)); omega; omega
 have hrul := hkd
 obtain ⟨tk, tks⟩ := ty
 obtain ⟨fk, fks⟩ := fr
 obtain ⟨pt, ct, pf, cf, p, c, es, rfl, hk, hnum, hlb, hty, hfr, hsl, hkl⟩ := hr.open9
 have hn := hsl.le
 have hnc := hsl.sl.2.1
 refine B7 Tryz.func99 rfl Tryz.ntmps99 Tryz.results99 rfl ?_
 intro w0
 refine tS (tR ?_)
 refine sE (C2 rfl rfl) rfl (fun b3 => ?_)
 refine sE (A7 rfl) rfl (fun b4 => ?_)
 refine sQ (qA rfl) rfl (sQ (qA rfl) rfl (sD (nS (tS (tS ?_)))))
 refine D4 D5 rfl ?_
 refine I3 (i := 0) (l' := [tt,ff,ff,ff,ff,ff,ff]) rfl C8 (B0 rfl) rfl (by kernel_rfl) rfl rfl ?_
 refine aL 1 rfl (B5 rfl rfl) rfl ?_
 refine aL 2 rfl (A5 rfl rfl) rfl ?_
 refine aP 6 rfl (qM rfl) rfl ?_
 refine A4 3 ?_
 refine N4 rfl rfl (hCt) rfl rfl rfl ?_
 refine aP 4 rfl (A7r (l := C) rfl rfl rfl (by omega)) rfl ?_
 refine aP 5 rfl (pLn rfl rfl) rfl ?_
 refine C1 (nS ?_)
 refine B8 ?_
 (refine J8 (fun (i : Nat) => ⟨[(19, .int .i64 (i : Int)), (18, .int .i64 (C : Int)), (17, .slice p C c), (1, .pointer (some ⟨b3, 0, none⟩)), (2, .pointer (some ⟨b4, 0, none⟩))], [.blk b4 [.int .i64 0, .string ⟨⟨[]⟩⟩, .int .i64 0, .int .i64 0, .slice none 0 0, .int .i64 0, .slice none 0 0, .int .i64 0, .slice none 0 0], .blk b3 [.int .i64 k, .string nm, .int .i64 num, .int .i64 tk, .slice pt tks.length ct, .int .i64 fk, .slice pf fks.length cf, .int .i64 lb, .slice p ks.length c]], G⟩) (fun i => i ≤ C ∧ ∀ j, j < i → (h : j < ks.length) → E7 ks[j] = true) (fun i => C - i) 0 ?_ ?_ ?_)
 exact D8
 (exact ⟨Nat.zero_le _, fun j hj => absurd hj (Nat.not_lt_zero j)⟩)
 (rintro i ⟨hi, hj⟩)
 refine tS (tR ?_)
 refine sB (J4 rfl rfl) rfl rfl (fun h29 => ?_) (fun h29 => ?_)
 refine sD (nS (tS (qT rfl (tK (nS (tS ?_))))))
 refine B8 ?_
 refine tS (tR (sQ (qM rfl) rfl ?_))
 (have hiC : i < C := (by omega); obtain ⟨bx, ox, e, rfl, hl, hat, hre, hgb⟩ := hsl.kidTm hkl (i := i) (by omega) (by omega); have heo := hre.one; have hVi := A8P ks[i] G e hre; refine sP (B3 (j := i) rfl rfl rfl hiC) rfl rfl ?_)
 refine sL (A3 rfl rfl (hat _) hl) rfl rfl ?_
 refine sE (A7 rfl) rfl (fun b43 => ?_)
 refine sQ (qA rfl) rfl ?_
 refine sS rfl rfl rfl hl heo rfl ?_ (hu := by exact D1 hl.symm)
 refine sD (nS (tS (tS (tR ?_))))
 refine sL (A3 rfl rfl (B1 (by repeat first | exact mH | apply mT)) hl) rfl rfl ?_
 refine E2 rfl (hVi) rfl rfl (fun h52 => ?_) (fun h52 => ?_)
 refine D2 ?_
 refine sP (J2 rfl rfl (by omega) (by omega)) rfl rfl ?_
 refine sQ (qM rfl) rfl (sD ?_)
 refine J9 (i + 1) ?_ ?_ ?_
 exact D8
 (exact ⟨by omega, fun j hji hl2 => (by by_cases he : j = i; (subst he; assumption); exact hj j (by omega) hl2)⟩)
 (show C - (i + 1) < C - i; omega)
 refine sD (nS (cF rfl (tK (nS (tS (tR ?_))))))
 refine sL (A3 rfl rfl (B1 (by repeat first | exact mH | apply mT)) hl) rfl rfl ?_
 (have hvF : E7 ks[i] = false := (by assumption); obtain ⟨hs1, hs2, hs3⟩ := hkidS' i (by omega) hiC (fun j hji hl2 => hj j hji hl2) hvF; refine E4 rfl (ih ks[i] (List.getElem_mem (by omega)) G e (hkk _ (List.getElem_mem (by omega))) hvF hre) rfl rfl (fun v G1 hle1 hh => ?_); obtain ⟨u, uc, rfl, hru, hu1⟩ := hh; have hul := hru.len; have huo := hru.one; have hClo := B2A G1 _ ks.length c es (hsl.mono hle1) (by omega) (by omega))
 refine H3 ?_
 refine sE (A7 rfl) rfl (fun b81 => ?_)
 refine sS rfl rfl rfl hul huo rfl ?_ (hu := by exact D1 hul.symm)
 refine C4 ?_
 refine sE (A7 rfl) rfl (fun b90 => ?_)
 refine C4 ?_
 (refine A1w rfl hClo rfl rfl (fun v98 G98 outs98 hle98 h98 => ?_); obtain ⟨hG, p1, c1, rfl, rfl⟩ := h98; replace hG := hG.symm; subst hG; refine A3y (cs := es.flatten) (by repeat (first | exact Pk.here | apply Pk.there)) (by omega) (fun bc Cc hpe hnc1 hcm => ?_); subst hpe)
 replace hru := hru.mono hle98
 refine D9 ?_
 refine sL (A3 rfl rfl (B1 (by repeat first | exact mH | apply mT)) hul) rfl rfl ?_
 refine sP (B3 (j := i) rfl rfl rfl (by omega)) rfl rfl ?_
 refine W7 rfl rfl rfl hul huo rfl (by repeat first | exact Sw.here | apply Sw.there) (by exact A3z (by rw [hkl.len]; omega) (fun e he => (hsl.all e he)) hul) ?_
 refine N5 ?_
 (refine A2e (bs := [(bc, (es.set i uc).flatten ++ Cc)]) (Pk.perm (by repeat (first | exact Pk.here | apply Pk.there))) (fun hn2 hd2 hle2 => ?_))
 refine tT (rB (rS (A3a (rB (rS ?_)))))
 refine C6 (rC rfl (A5 rfl rfl)) (rT rfl) (rT rfl) ?_
 (have hks2 := D6.set (j := i) ((hkl.mono hle1).mono hle2) (hru.mono hle2); refine A8Z (r' := Q7) hs1 hs2 (A9.put (us := ks.set i u) (es := es.set i uc) hk hnum hlb ((hty.mono hle1).mono hle2) ((hfr.mono hle1).mono hle2) (by rw [List.length_set]) (D3.of (Sl.of_blk (A := []) (by rw [A0J hks2.all, hks2.len, List.length_set]) (by omega) hcm (Wi.in hn2 List.mem_cons_self)) (by rw [hks2.len, List.length_set]) hks2.all (fun e he => by obtain ⟨q, hq⟩ := List.getElem?_of_mem he; exact (hks2.inv hq I2).2.one)) hks2) (fun h1 => by rw [hs3 h1, hu1 h1]))
 refine I9 ?_
 focus (have hall : ∀ i, i < C → (hl : i < ks.length) → E7 ks[i] = true := (fun j hjc hl2 => hj j (by omega) hl2); have hk8 := hkd hall; have hrd' := hrd hall; refine E4 rfl (hRA hk8) rfl rfl (fun v G1 hle1 hh => ?_); obtain ⟨u, uc, cc, rfl, hru, hy, hno⟩ := hh; have hul := hru.len; have huo := hru.one; rcases hm : X2 k ks with _ | x; rotate_left; obtain ⟨rfl, rfl⟩ := hy _ hm; rotate_left; obtain rfl := hno hm; rw [hm] at hrd')
 refine J7 ?_
 refine sE (A7 rfl) rfl (fun b149 => ?_)
 refine sS rfl rfl rfl hul huo rfl ?_ (hu := by exact D1 hul.symm)
 refine sQ (qA rfl) rfl (sD (nS (tS (tR (sQ (qM rfl) rfl ?_)))))
 refine sP (I4 rfl rfl (by omega)) rfl rfl ?_
 refine J3 ?_
 refine sB (qE rfl rfl) rfl rfl (fun h169 => ?_) (fun h169 => ?_)
 refine I9 ?_
 refine C6 (rC rfl (A5 rfl rfl)) (rT rfl) (rT rfl) ?_
 (obtain rfl : k = 1 := B3B hk8 (by omega); rw [hrd']; exact R5.mk rfl (L9 _))
 refine D2 ?_
 (have hk7 : k = 6 ∨ k = 7 ∨ k = 8 ∨ k = 9 ∨ k = 11 ∨ k = 12 ∨ k = 14 := (by rcases hk8 with h1 | hh; (rw [h1] at hops; have : D7 1 = 0 := rfl; omega); exact hh); refine E4 rfl (hCA hk7 _ hle1) rfl rfl (fun v G2 hle2 hh => ?_); obtain ⟨w, wc, rfl, hrw, hw1⟩ := hh; have hwl := hrw.len; have hwo := hrw.one)
 refine J7 ?_
 refine sS rfl rfl rfl hwl hwo rfl ?_ (hu := by exact D1 hwl.symm)
 refine sQ (qA rfl) rfl (sQ (qA rfl) rfl (sD (nS (tT ?_))))
 refine C6 (rC rfl (A3 rfl rfl (B1 (by repeat first | exact mH | apply mT)) hwl)) (rT rfl) (rT rfl) ?_
 (rw [hrd']; exact A8Z (r' := Q7) rfl rfl hrw hw1)
 refine J7 ?_
 refine sE (A7 rfl) rfl (fun b208 => ?_)
 refine sS rfl rfl rfl hul huo rfl ?_ (hu := by exact D1 hul.symm)
 refine sQ (qA rfl) rfl (sD (nS (tS (tR (sQ (qM rfl) rfl ?_)))))
 refine sP (Y9 rfl rfl (by omega)) rfl rfl ?_
 refine sD (nS (qT rfl (tS (tR ?_))))
 refine sL (A3 rfl rfl (B1 (by repeat first | exact mH | apply mT)) hul) rfl rfl ?_
 refine sQ (qM rfl) rfl ?_
 refine sS rfl rfl rfl hul huo rfl ?_ (hu := by exact D1 hul.symm)
 refine sQ (qA rfl) rfl (sQ (qA rfl) rfl (sD (nS (tT (rS ?_)))))
 refine C6 (rC rfl (A3 rfl rfl (B1 (by repeat first | exact mH | apply mT)) hul)) (rT rfl) (rT rfl) ?_
 (rw [hrd', hm]; exact R5.mk rfl hru)
def K4 (r : Stp) : IM → Value → List A6 → Prop := M4 fun G' v => ∃ cells, v = .tuple ⟨[.agg ⟨cells⟩, .int .i64 r.2.1, .int .i64 r.2.2]⟩ ∧ A9 G' r.1 cells
theorem K4.mk {G : IM} {r : Stp} {u : Tm} {c l : Int} {cells : List Value} (h : r = (u, c, l)) (hr : A9 G u cells) : K4 r G (.tuple ⟨[.agg ⟨cells⟩, .int .i64 c, .int .i64 l]⟩) [] := by
 subst h; exact ⟨rfl, cells, rfl, hr⟩
theorem A4H {t : Tm} (h : O5 t = true) : t.small := A2s t (A2r h).1
theorem A4I {e : Tm} (h : O5 e = false) : E9 e = (I2, 3, 0) := by unfold E9; rw [if_pos h]; rfl
theorem A4J {e : Tm} (h : O5 e = true) (h2 : E7 e = true) : E9 e = (e, 0, 0) := by unfold E9; rw [if_neg (by rw [h]; decide), if_pos h2]
theorem A4K {e : Tm} (h : O5 e = true) (h2 : E7 e = false) (h3 : (F8 e).2.1 ≠ 1) : E9 e = (I2, (F8 e).2.1, (F8 e).2.2) := by
 unfold E9; rw [if_neg (by rw [h]; decide), if_neg (by rw [h2]; decide), if_pos h3]
theorem A4L {e : Tm} (h : O5 e = true) (h2 : E7 e = false) (h3 : (F8 e).2.1 = 1) (h4 : O5 (F8 e).1 = false) : E9 e = (I2, 4, 0) := by
 unfold E9; rw [if_neg (by rw [h]; decide), if_neg (by rw [h2]; decide), if_neg (by omega), if_pos h4]
theorem A4M {e : Tm} (h : O5 e = true) (h2 : E7 e = false) (h3 : (F8 e).2.1 = 1) (h4 : O5 (F8 e).1 = true) : E9 e = ((F8 e).1, 1, 0) := by
 unfold E9; rw [if_neg (by rw [h]; decide), if_neg (by rw [h2]; decide), if_neg (by omega), if_neg (by rw [h4]; decide)]
theorem B3D {e : Tm} (h : (E9 e).2.1 = 1) : O5 (E9 e).1 = true := by
 cases h1 : O5 e with
 | false => rw [A4I h1] at h; simp at h
 | true =>
  cases h2 : E7 e with
  | true => rw [A4J h1 h2] at h; simp at h
  | false =>
   by_cases h3 : (F8 e).2.1 = 1
   ·cases h4 : O5 (F8 e).1 with
    | false => rw [A4L h1 h2 h3 h4] at h; simp at h
    | true => rw [A4M h1 h2 h3 h4]; exact h4
   ·rw [A4K h1 h2 h3] at h; exact absurd h h3
theorem B3E (t : Tm) (G : IM) (cells : List Value) (hr : A9 G t cells) : Fn Tryz.prog 63 [.agg ⟨cells⟩] [] G (K4 (E9 t)) := by
 have hRl := hr.len
 have hRo := hr.one
 have hV := A7C t G cells hr
 have hI := A8P t G cells hr
 refine B7 Tryz.func63 rfl Tryz.ntmps63 Tryz.results63 rfl ?_
 intro w0
 refine tS (tR ?_)
 refine sE (C2 rfl rfl) rfl (fun b3 => ?_)
 refine sE (A7 rfl) rfl (fun b4 => ?_)
 refine sQ (qA rfl) rfl (sQ (qA rfl) rfl (sD (nS (tS ?_))))
 refine B8 ?_
 refine tS (tR ?_)
 refine sL (A3 rfl rfl (B1 (by repeat first | exact mH | apply mT)) hRl) rfl rfl ?_
 refine E2 rfl (hV) rfl rfl (fun h14 => ?_) (fun h14 => ?_)
 refine C4 ?_
 refine sL (A3 rfl rfl (B1 (by repeat first | exact mH | apply mT)) hRl) rfl rfl ?_
 refine E2 rfl (hI) rfl rfl (fun h23 => ?_) (fun h23 => ?_)
 refine sQ (qA rfl) rfl (sD (nS (qT rfl (tS (tR ?_)))))
 refine sL (A3 rfl rfl (B1 (by repeat first | exact mH | apply mT)) hRl) rfl rfl ?_
 (refine E4 rfl (A5J t G cells (A4H (by assumption)) hr) rfl rfl (fun v G1 hle1 hh => ?_); obtain ⟨cs1, F1, rfl, hs1, hn1⟩ := hh; have hul := hs1.R.len; have huo := hs1.R.one)
 refine sS rfl rfl rfl hul huo rfl ?_ (hu := by exact D1 hul.symm)
 refine C4 ?_
 refine C6 (rC rfl (A3 rfl rfl (B1 (by repeat first | exact mH | apply mT)) hul)) (rT rfl) (rT rfl) ?_
 (exact K4.mk (A4J (by assumption) (by assumption)) (hs1.R.mono (C5.le _ _)))
 refine D9 ?_
 refine sL (A3 rfl rfl (B1 (by repeat first | exact mH | apply mT)) hRl) rfl rfl ?_
 (refine E4 rfl (B3C t G cells (A2r (by assumption)).1 (by assumption) hr) rfl rfl (fun v G1 hle1 hh => ?_); obtain ⟨u, uc, rfl, hru, hu1⟩ := hh; have hul := hru.len; have huo := hru.one; have hVu := A7C u G1 uc hru)
 refine H3 ?_
 refine sE (A7 rfl) rfl (fun b57 => ?_)
 refine sS rfl rfl rfl hul huo rfl ?_ (hu := by exact D1 hul.symm)
 refine sQ (qA rfl) rfl (sQ (qA rfl) rfl (sD (nS (tS ?_))))
 refine B8 ?_
 refine tS (tR (sQ (qM rfl) rfl ?_))
 refine sB (M3 rfl rfl) rfl rfl (fun h68 => ?_) (fun h68 => ?_)
 refine T7 ?_
 refine C6 (rC rfl (A5 rfl rfl)) (rT rfl) (rT rfl) ?_
 (exact K4.mk (A4K (by assumption) (by assumption) (by omega)) (L9 _))
 refine sQ (qA rfl) rfl (sD (nS (cF rfl (tS (tR ?_)))))
 refine sL (A3 rfl rfl (B1 (by repeat first | exact mH | apply mT)) hul) rfl rfl ?_
 refine E2 rfl (hVu) rfl rfl (fun h95 => ?_) (fun h95 => ?_)
 refine I5 ?_
 refine sL (A3 rfl rfl (B1 (by repeat first | exact mH | apply mT)) hul) rfl rfl ?_
 (refine E4 rfl (A5J u G1 uc (A4H (by assumption)) hru) rfl rfl (fun v G2 hle2 hh => ?_); obtain ⟨cs2, F2, rfl, hs2, hn2⟩ := hh; have hwl := hs2.R.len; have hwo := hs2.R.one)
 refine sS rfl rfl rfl hwl hwo rfl ?_ (hu := by exact D1 hwl.symm)
 refine sQ (qA rfl) rfl (sQ (qA rfl) rfl (sD (nS (tT ?_))))
 refine C6 (rC rfl (A3 rfl rfl (B1 (by repeat first | exact mH | apply mT)) hwl)) (rT rfl) (rT rfl) ?_
 (have h9 := hu1 (by omega); subst h9; exact K4.mk (A4M (by assumption) (by assumption) (by omega) (by assumption)) (hs2.R.mono (C5.le _ _)))
 refine K0 ?_
 refine C6 (rC rfl (A5 rfl rfl)) (rT rfl) (rT rfl) ?_
 (have h9 := hu1 (by omega); subst h9; exact K4.mk (A4L (by assumption) (by assumption) (by omega) (by assumption)) (L9 _))
 refine K0 ?_
 refine C6 (rC rfl (A5 rfl rfl)) (rT rfl) (rT rfl) ?_
 (exact K4.mk (A4I (by assumption)) (L9 _))
def O9 : Nat → Tm → Tm × Int × Int × Nat
 | 0, e => ((E9 e).1, (E9 e).2.1, (E9 e).2.2, 0)
 | n + 1, e => if (E9 e).2.1 = 1 then ((O9 n (E9 e).1).1, (O9 n (E9 e).1).2.1, (O9 n (E9 e).1).2.2.1, (O9 n (E9 e).1).2.2.2 + 1)
  else ((E9 e).1, (E9 e).2.1, (E9 e).2.2, 0)
theorem A6d (e : Tm) : O9 0 e = ((E9 e).1, (E9 e).2.1, (E9 e).2.2, 0) := by rw [O9]
theorem A6e {n : Nat} {e : Tm} (h : (E9 e).2.1 = 1) : O9 (n + 1) e = ((O9 n (E9 e).1).1, (O9 n (E9 e).1).2.1, (O9 n (E9 e).1).2.2.1, (O9 n (E9 e).1).2.2.2 + 1) := by rw [O9, if_pos h]
theorem A6f {n : Nat} {e : Tm} (h : (E9 e).2.1 ≠ 1) : O9 (n + 1) e = ((E9 e).1, (E9 e).2.1, (E9 e).2.2, 0) := by rw [O9, if_neg h]
theorem A80 : ∀ (n : Nat) (e : Tm), (O9 n e).2.1 = 1 → K1 n e = (I2, 5, 0, (O9 n e).2.2.2)
 | 0, e, h => by rw [A6d] at h ⊢; rw [K1, if_pos h]
 | n + 1, e, h => by
  by_cases h1 : (E9 e).2.1 = 1
  ·rw [A6e h1] at h ⊢
   rw [K1, if_pos h1, A80 n _ h]
  ·rw [A6f h1] at h; exact absurd h h1
theorem A81 : ∀ (n : Nat) (e : Tm), (O9 n e).2.1 ≠ 1 → K1 n e = O9 n e
 | 0, e, h => by rw [A6d] at h ⊢; rw [K1, if_neg h]
 | n + 1, e, h => by
  by_cases h1 : (E9 e).2.1 = 1
  ·rw [A6e h1] at h ⊢
   rw [K1, if_pos h1, A81 n _ h]
  ·rw [A6f h1]; rw [K1, if_neg h1]
def EvP (r : Tm × Int × Int × Nat) : IM → Value → List A6 → Prop := M4 fun G' v => ∃ cells, v = .tuple ⟨[.agg ⟨cells⟩, .int .i64 r.2.1, .int .i64 r.2.2.1, .int .i64 (r.2.2.2 : Int)]⟩ ∧ A9 G' r.1 cells
def A0g (i : Nat) (r : Tm × Int × Int × Nat) : Tm × Int × Int × Nat := (r.1, r.2.1, r.2.2.1, r.2.2.2 + i)
theorem B3F {m i : Nat} {e : Tm} (h : (E9 e).2.1 ≠ 1 ∨ m = 0) : A0g i (O9 m e) = ((E9 e).1, (E9 e).2.1, (E9 e).2.2, i) := by
 cases m with
 | zero => simp [A0g, O9]
 | succ m =>
  rcases h with h | h
  ·simp only [A0g, O9]; rw [if_neg h]; simp
  ·cases h
theorem B3G {m i : Nat} {e : Tm} (h : (E9 e).2.1 = 1) (hm : 0 < m) : A0g i (O9 m e) = A0g (i + 1) (O9 (m - 1) (E9 e).1) := by
 obtain ⟨k, rfl⟩ : ∃ k, m = k + 1 := ⟨m - 1, by omega⟩
 simp only [A0g, O9]; rw [if_pos h]; simp only [Nat.add_sub_cancel, Nat.add_assoc, Nat.add_comm 1 i]
section fin
variable {P : Program} {Γ : M1} {env : M7} {hp : List A6} {G : IM}
theorem B3H {post : IM → Value → List A6 → Prop} {σ : Sy} (hk : post σ.G (.tuple ⟨[]⟩) []) : A0y P Γ [] post .normal σ := ⟨[], .nil, [], σ.hp, by simp, hk⟩
theorem A4N {r r2 r3 r4 : ResultVar} {post : IM → Value → List A6 → Prop} {v v2 v3 v4 : Value} (h : Y8 P Γ ⟨env, hp, G⟩ r v) (h2 : Y8 P Γ ⟨env, hp, G⟩ r2 v2) (h3 : Y8 P Γ ⟨env, hp, G⟩ r3 v3) (h4 : Y8 P Γ ⟨env, hp, G⟩ r4 v4) (hk : post G (.tuple ⟨[v, v2, v3, v4]⟩) []) :
  A0y P Γ [r, r2, r3, r4] post .ret ⟨env, hp, G⟩ := A30 (.cons h (.cons h2 (.cons h3 (.cons h4 .nil)))) hk
end fin
theorem EvP.mk {G : IM} {r : Tm × Int × Int × Nat} {u : Tm} {c l : Int} {i : Nat} {cells : List Value} (h : r = (u, c, l, i)) (hr : A9 G u cells) : EvP r G (.tuple ⟨[.agg ⟨cells⟩, .int .i64 c, .int .i64 l, .int .i64 (i : Int)]⟩) [] := by
 subst h; exact ⟨rfl, cells, rfl, hr⟩
theorem B3I (e : Tm) (n : Nat) (hn : n ≤ 300) (fid : FuncId) [B4 Tryz.prog fid] (us cs : List Value) (hq : ∀ (G : IM) (u : Tm) (cells : List Value), A9 G u cells → Fn Tryz.prog fid (us ++ [.agg ⟨cells⟩] ++ cs) [] G (H2 (.tuple ⟨[]⟩) G))
  (G : IM) (cells : List Value) (hr : A9 G e cells) : Fn Tryz.prog 29 [.agg ⟨cells⟩, .int .i64 (n : Int), .func (.func fid) ⟨us⟩ ⟨cs⟩] [] G (EvP (O9 n e)) := by
 have hRl := hr.len
 have hRo := hr.one
 have hq0 := hq G e cells hr
 refine B7 Tryz.func29 rfl Tryz.ntmps29 Tryz.results29 rfl ?_
 intro w0
 refine tS (tR ?_)
 refine sE (C2 rfl rfl) rfl (fun b3 => ?_)
 refine sE (A7 rfl) rfl (fun b4 => ?_)
 refine D2 ?_
 refine sL (A3 rfl rfl (B1 (by repeat first | exact mH | apply mT)) hRl) rfl rfl ?_
 (refine A33 rfl rfl hq0 rfl rfl ?_)
 refine sD (nS (tS (tR (sQ (qA rfl) rfl (sD (nS ?_))))))
 refine B8 ?_
 (refine J8 (fun (x : Nat × Tm × List Value × IM) => ⟨[(10, .int .i64 (x.1 : Int)), (1, .int .i64 (n : Int)), (2, .func (.func fid) ⟨us⟩ ⟨cs⟩), (3, .pointer (some ⟨b3, 0, none⟩)), (6, .pointer (some ⟨b4, 0, none⟩))], [.blk b3 x.2.2.1, .blk b4 [.int .i64 0, .string ⟨⟨[]⟩⟩, .int .i64 0, .int .i64 0, .slice none 0 0, .int .i64 0, .slice none 0 0, .int .i64 0, .slice none 0 0]], x.2.2.2⟩) (fun x => x.1 ≤ n ∧ B9 G x.2.2.2 ∧ A9 x.2.2.2 x.2.1 x.2.2.1 ∧ A0g x.1 (O9 (n - x.1) x.2.1) = O9 n e) (fun x => n - x.1) (0, e, cells, G) ?_ ?_ ?_)
 (simp only [J5]; exact D8)
 (exact ⟨Nat.zero_le _, B9.refl _, hr, rfl⟩)
 (rintro ⟨i, u, uc, Gi⟩ ⟨hi, hle, hru, hev⟩; simp only [] at hi hle hru hev ⊢; have hul := hru.len; have huo := hru.one)
 refine tS ?_
 refine B8 ?_
 refine tS (tR ?_)
 refine sL (A3 rfl rfl (B1 (by repeat first | exact mH | apply mT)) hul) rfl rfl ?_
 (refine E4 rfl (B3E u Gi uc hru) rfl rfl (fun v G1 hle1 hh => ?_); obtain ⟨wc, hv, hrw⟩ := hh; have hwl := hrw.len; have hwo := hrw.one; have hend := @B3F (n - i) i u; have hgo := @B3G (n - i) i u; generalize E9 u = r at hv hrw hend hgo; obtain ⟨w, c, l⟩ := r; simp only at hv hrw hend hgo; subst hv)
 refine H3 ?_
 refine sE (A7 rfl) rfl (fun b37 => ?_)
 refine sS rfl rfl rfl hwl hwo rfl ?_ (hu := by exact D1 hwl.symm)
 refine D2 ?_
 refine sB (M3 rfl rfl) rfl rfl (fun h47 => ?_) (fun h47 => ?_)
 refine I5 ?_
 refine sL (A3 rfl rfl (B1 (by repeat first | exact mH | apply mT)) hwl) rfl rfl ?_
 refine sQ (qM rfl) rfl (sQ (qM rfl) rfl (sQ (qM rfl) rfl ?_))
 refine sS rfl rfl rfl hwl hwo rfl ?_ (hu := by exact D1 hwl.symm)
 refine J3 ?_
 refine A4N (rC rfl (A3 rfl rfl (B1 (by repeat first | exact mH | apply mT)) hwl)) (rT rfl) (rT rfl) (rT rfl) ?_
 (exact EvP.mk (by rw [← hev]; exact hend (by omega)) hrw)
 refine sQ (qM rfl) rfl (sQ (qM rfl) rfl (sQ (qM rfl) rfl ?_))
 refine sB (qE rfl rfl) rfl rfl (fun h79 => ?_) (fun h79 => ?_)
 refine sQ (N2 rfl rfl) rfl (sD (nS (qT rfl (tS (tR ?_)))))
 refine sL (A3 rfl rfl (B1 (by repeat first | exact mH | apply mT)) hwl) rfl rfl ?_
 refine sQ (qM rfl) rfl (sQ (qM rfl) rfl (sQ (qM rfl) rfl ?_))
 refine sS rfl rfl rfl hwl hwo rfl ?_ (hu := by exact D1 hwl.symm)
 refine J3 ?_
 refine A4N (rC rfl (A3 rfl rfl (B1 (by repeat first | exact mH | apply mT)) hwl)) (rT rfl) (rT rfl) (rT rfl) ?_
 (exact EvP.mk (by rw [← hev]; exact hend (by omega)) hrw)
 refine D2 ?_
 refine sL (A3 rfl rfl (B1 (by repeat first | exact mH | apply mT)) hwl) rfl rfl ?_
 refine W7 rfl rfl rfl hwl hwo rfl (by repeat first | exact Sw.here | apply Sw.there) (by exact D1 (hul.trans hwl.symm)) ?_
 refine sD (nS (tR (sQ (qM rfl) rfl ?_)))
 refine sL (A3 rfl rfl (B1 (by repeat first | exact mH | apply mT)) hwl) rfl rfl ?_
 (refine A33 rfl rfl (hq G1 w wc hrw) rfl rfl ?_)
 refine sD (N3 (nS (tR (sQ (qM rfl) rfl ?_))))
 refine sP (J2 rfl rfl (by omega) (by omega)) rfl rfl ?_
 refine sQ (qA rfl) rfl (sD ?_)
 refine J9 (i + 1, w, wc, G1) ?_ ?_ ?_
 (simp only [J5]; exact D8)
 (dsimp only; exact ⟨by omega, hle.trans hle1, hrw, by rw [← hev, hgo (by omega) (by omega), show n - (i + 1) = n - i - 1 by omega]⟩)
 (show n - (i + 1) < n - i; omega)
theorem A82 (fuel : Int) (G : IM) : Fn Tryz.prog 28 [.int .i64 fuel] [] G (H2 (.bool (O3 fuel 0 300)) G) := by
 refine B7 Tryz.func28 rfl Tryz.ntmps28 Tryz.results28 rfl ?_
 intro w0
 refine D2 ?_
 refine H8 rfl ((A1a _ _ _ _)) rfl rfl ?_
 refine sQ (qA rfl) rfl (sD (nS (tT (E5 (rT rfl) ?_))))
 (exact ⟨rfl, rfl, rfl⟩)
theorem A6g {e : Tm} {fuel : Int} (h : O3 fuel 0 300 = false) : S6 e fuel = (I2, 3, 0) := by
 unfold S6; rw [if_neg (A65 h)]; rfl
theorem A83 {e : Tm} {fuel : Int} (h : O3 fuel 0 300 = true) (h1 : (O9 fuel.toNat e).2.1 = 1) : S6 e fuel = (I2, 5, 0) := by
 unfold S6; rw [if_pos (A3l h), A80 _ _ h1]
theorem A84 {e : Tm} {fuel : Int} (h : O3 fuel 0 300 = true) (h1 : (O9 fuel.toNat e).2.1 ≠ 1) : S6 e fuel = ((O9 fuel.toNat e).1, (O9 fuel.toNat e).2.1, (O9 fuel.toNat e).2.2.1) := by
 unfold S6; rw [if_pos (A3l h), A81 _ _ h1]
theorem B3J (G : IM) (cells : List Value) (hl : cells.length = 9) (ho : cells.all (·.oneCell') = true) : Fn Tryz.prog 30 [.agg ⟨cells⟩] [] G (H2 (.tuple ⟨[]⟩) G) := by
 refine B7 Tryz.func30 rfl Tryz.ntmps30 Tryz.results30 rfl ?_
 intro w0
 refine tR ?_
 refine sE (C2 rfl rfl) rfl (fun b2 => ?_)
 refine sD ?_
 refine B3H ?_
 (exact ⟨rfl, rfl, rfl⟩)
theorem B3K (e : Tm) (fuel : Int) (G : IM) (cells : List Value) (hr : A9 G e cells) : Fn Tryz.prog 9 [.agg ⟨cells⟩, .int .i64 fuel] [] G (K4 (S6 e fuel)) := by
 have hRl := hr.len
 have hRo := hr.one
 have hno := @A6g e fuel
 have hmu := @A83 e fuel
 have hen := @A84 e fuel
 refine B7 Tryz.func9 rfl Tryz.ntmps9 Tryz.results9 rfl ?_
 intro w0
 refine tS (tR ?_)
 refine sE (C2 rfl rfl) rfl (fun b3 => ?_)
 refine sE (A7 rfl) rfl (fun b4 => ?_)
 refine D2 ?_
 refine E2 rfl ((A82 fuel _)) rfl rfl (fun h13 => ?_) (fun h13 => ?_)
 refine sQ (V8 rfl) rfl (sD (nS (cF rfl (tK (nS (tS (tR ?_)))))))
 refine sL (A3 rfl rfl (B1 (by repeat first | exact mH | apply mT)) hRl) rfl rfl ?_
 refine sQ (qM rfl) rfl ?_
 (have hf : O3 fuel 0 300 = true := (by assumption); have hf2 := A3l hf; have hE := B3I e fuel.toNat (by omega) 30 [] [] (fun G u cells hru => B3J G cells hru.len hru.one) G cells hr; rw [Int.toNat_of_nonneg hf2.1] at hE; refine E4 rfl hE rfl rfl (fun v G1 hle1 hh => ?_); obtain ⟨wc, hv, hrw⟩ := hh; have hwl := hrw.len; have hwo := hrw.one; have hmu := hmu hf; have hen := hen hf; generalize O9 fuel.toNat e = r at hv hrw hmu hen; obtain ⟨w, c, l, i⟩ := r; simp only at hv hrw hmu hen; subst hv)
 refine O7 ?_
 refine sE (A7 rfl) rfl (fun b30 => ?_)
 refine sS rfl rfl rfl hwl hwo rfl ?_ (hu := by exact D1 hwl.symm)
 refine D9 ?_
 refine sB (qE rfl rfl) rfl rfl (fun h41 => ?_) (fun h41 => ?_)
 refine I9 ?_
 refine C6 (rC rfl (A5 rfl rfl)) (rT rfl) (rT rfl) ?_
 (exact K4.mk (hmu (by omega)) (L9 _))
 refine sD (nS (cF rfl (tK (nS (tS (tR ?_))))))
 refine sL (A3 rfl rfl (B1 (by repeat first | exact mH | apply mT)) hwl) rfl rfl ?_
 refine sQ (qM rfl) rfl (sQ (qM rfl) rfl ?_)
 refine sS rfl rfl rfl hwl hwo rfl ?_ (hu := by exact D1 hwl.symm)
 refine sQ (qA rfl) rfl (sQ (qA rfl) rfl (sD (nS (tT ?_))))
 refine C6 (rC rfl (A3 rfl rfl (B1 (by repeat first | exact mH | apply mT)) hwl)) (rT rfl) (rT rfl) ?_
 (exact K4.mk (hen (by omega)) hrw)
 refine I6 ?_
 refine C6 (rC rfl (A5 rfl rfl)) (rT rfl) (rT rfl) ?_
 (exact K4.mk (hno (by assumption)) (L9 _))
mutual
def A85 (L : Int → Prop) : Tm → Prop
 | .mk k nm num ty fr lb ks => (k = 14 → L lb) ∧ A86 L ks
def A86 (L : Int → Prop) : List Tm → Prop
 | [] => True
 | t :: ts => A85 L t ∧ A86 L ts
end
def B5Z (L : Int → Prop) (T : Ty) (r : Stp) : Prop := (r.2.1 = 1 ∧ A0N [] r.1 = some T ∧ A85 L r.1) ∨ (r.2.1 = 2 ∧ L r.2.2)
mutual
theorem A87 : ∀ a b : Ty, K2 a b = true → K2 b a = true
 | .mk k ks, .mk k' ks', h => by
  rw [S2] at h ⊢
  simp only [Bool.or_eq_true, Bool.and_eq_true, decide_eq_true_eq] at h ⊢
  rcases h with (h | h) | h
  ·exact .inl (.inr h)
  ·exact .inl (.inl h)
  ·exact .inr ⟨h.1.symm, A88 ks ks' h.2⟩
theorem A88 : ∀ xs ys : List Ty, N6 xs ys = true → N6 ys xs = true
 | [], [], _ => rfl
 | [], b :: ys, h => by simp [N6] at h
 | a :: xs, [], h => by simp [N6] at h
 | a :: xs, b :: ys, h => by
  simp only [N6, Bool.and_eq_true] at h ⊢
  exact ⟨A87 a b h.1, A88 xs ys h.2⟩
end
mutual
theorem A89 : ∀ a b : Ty, K2 a b = true → K2 a (U1 a b) = true ∧ K2 b (U1 a b) = true
 | .mk k ks, .mk k' ks', h => by
  rw [A02]
  by_cases h1 : k = 1
  ·rw [if_pos h1]
   exact ⟨h, A2y _⟩
  ·rw [if_neg h1]
   by_cases h2 : k' = 1
   ·rw [if_pos h2]
    exact ⟨A2y _, A87 _ _ h⟩
   ·rw [if_neg h2]
    rw [S2] at h
    simp only [Bool.or_eq_true, Bool.and_eq_true, decide_eq_true_eq] at h
    have h3 : k = k' ∧ N6 ks ks' = true := by
     rcases h with (h | h) | h
     ·exact absurd h h1
     ·exact absurd h h2
     ·exact h
    obtain ⟨m1, m2⟩ := A9a ks ks' h3.2
    rw [S2, S2, m1, m2]
    simp [h3.1]
theorem A9a : ∀ xs ys : List Ty, N6 xs ys = true → N6 xs (S4 xs ys) = true ∧ N6 ys (S4 xs ys) = true
 | [], [], _ => ⟨rfl, rfl⟩
 | [], b :: ys, h => by simp [N6] at h
 | a :: xs, [], h => by simp [N6] at h
 | a :: xs, b :: ys, h => by
  simp only [N6, Bool.and_eq_true] at h
  obtain ⟨m1, m2⟩ := A89 a b h.1
  obtain ⟨m3, m4⟩ := A9a xs ys h.2
  simp only [S4, N6, m1, m2, m3, m4]
  exact ⟨rfl, rfl⟩
end
theorem B3L {k : Int} {a b : Ty} (hk : k = 4 ∨ k = 5) (h : E8 (.mk k [a, b]) = true) : E8 a = true ∧ E8 b = true := by
 obtain ⟨x, y, he, h1, h2⟩ := A4x hk h
 cases he
 exact ⟨h1, h2⟩
theorem B3M {k : Int} (hk : k = 4 ∨ k = 5) : E8 (.mk k [P9, P9]) = true := by rcases hk with rfl | rfl <;> decide
theorem A9b {k : Int} {t a b : Ty} (hk : k = 4 ∨ k = 5) (ht : E8 t = true) (h : Q5 k t = some (a, b)) : E8 (.mk k [a, b]) = true ∧ K2 t (.mk k [a, b]) = true := by
 obtain ⟨tk, ks⟩ := t
 rw [A1I] at h
 by_cases he : tk = k
 ·subst he
  rw [if_pos rfl] at h
  obtain ⟨x, y, rfl, _, _⟩ := A4x hk ht
  cases h
  exact ⟨ht, A2y _⟩
 ·rw [if_neg he] at h
  by_cases h1 : tk = 1
  ·rw [if_pos h1] at h
   cases h
   refine ⟨B3M hk, ?_⟩
   rw [S2, h1]; rfl
  ·rw [if_neg h1] at h; cases h
structure Wt (cx : Cx) (k : Int) (nm : ByteArray) (ty : Ty) (h w : List Ty) (t : Ty) : Prop where
 len : w = [] ∨ w.length = h.length
 ok : ∀ i, (hi : i < w.length) → (hh : i < h.length) → K2 h[i] w[i] = true ∧ E8 w[i] = true
 again : k ≠ 13 → L7 cx k nm ty (if w = [] then h else w) = some (w, t)
 asT : k = 13 → w = [t]
theorem A9c {cx : Cx} {k : Int} {nm : ByteArray} {ty : Ty} {h w : List Ty} {t : Ty} (hh : ∀ a ∈ h, E8 a = true) (hty : k = 13 → E8 ty = true) (hn : D7 k = (h.length : Int)) (h14 : k ≠ 14) (hw : L7 cx k nm ty h = some (w, t)) : Wt cx k nm ty h w t := by
 have hkr := A3L (by rw [hn]; omega : 0 ≤ D7 k)
 have hkk : k = 1 ∨ k = 2 ∨ (k = 3 ∨ k = 4) ∨ k = 5 ∨ k = 6 ∨ (k = 7 ∨ k = 8) ∨ k = 9 ∨ k = 10 ∨ (k = 11 ∨ k = 12) ∨ k = 13 := by omega
 have nil : w = [] → k ≠ 13 → Wt cx k nm ty h w t := by
  rintro rfl h13
  exact ⟨.inl rfl, fun i hi => by simp at hi, fun _ => by rw [if_pos rfl]; exact hw, fun h => absurd h h13⟩
 rcases hkk with rfl | rfl | hk | rfl | rfl | hk | rfl | rfl | hk | rfl
 ·refine nil ?_ (by decide)
  rw [mW1] at hw; split at hw <;> cases hw; rfl
 ·refine nil ?_ (by decide)
  rw [mW2] at hw; cases hw; rfl
 ·refine nil ?_ (by omega)
  rw [A3B hk] at hw; cases hw; rfl
 ·refine nil ?_ (by decide)
  rw [mW5] at hw; cases hw; rfl
 ·match h, (show h.length = 2 by have : D7 6 = 2 := rfl; omega) with
  | [x, y], _ =>
  rw [mW6] at hw
  simp only [List.getD_cons_zero, List.getD_cons_succ] at hw
  split at hw
  ·rename_i a b hm
   split at hw
   ·rename_i hc
    cases hw
    obtain ⟨v1, v2⟩ := A9b (.inl rfl) (hh x (by simp)) hm
    obtain ⟨v3, v4⟩ := B3L (.inl rfl) v1
    refine ⟨.inr rfl, fun i hi hi2 => ?_, fun _ => ?_, fun h => absurd h (by decide)⟩
    ·match i, hi with
     | 0, _ => exact ⟨v2, v1⟩
     | 1, _ => exact ⟨hc, v3⟩
    ·rw [if_neg (by simp), mW6]
     simp only [List.getD_cons_zero, List.getD_cons_succ, A1I, if_true, A2y]
   ·cases hw
  ·cases hw
 ·match h, (show h.length = 2 by rcases hk with rfl | rfl <;> (first | (have : D7 7 = 2 := rfl; omega) | (have : D7 8 = 2 := rfl; omega))) with
  | [x, y], _ =>
  rw [V6 hk] at hw
  simp only [List.getD_cons_zero, List.getD_cons_succ] at hw
  split at hw
  ·rename_i hc
   cases hw
   refine ⟨.inr rfl, fun i hi hi2 => ?_, fun _ => ?_, fun h => by omega⟩
   ·match i, hi with
    | 0, _ => exact ⟨hc.1, (show E8 R8 = true by decide)⟩
    | 1, _ => exact ⟨hc.2, (show E8 R8 = true by decide)⟩
   ·rw [if_neg (by simp), V6 hk]
    simp only [List.getD_cons_zero, List.getD_cons_succ, A2y, and_self, if_true]
  ·cases hw
 ·match h, (show h.length = 3 by have : D7 9 = 3 := rfl; omega) with
  | [x, y, z], _ =>
  rw [mW9] at hw
  simp only [List.getD_cons_zero, List.getD_cons_succ] at hw
  split at hw
  ·rename_i hc
   cases hw
   obtain ⟨c1, c2⟩ := A89 y z hc.2
   have vm := A55 y z 1 hc.2 (hh y (by simp)) (hh z (by simp))
   refine ⟨.inr rfl, fun i hi hi2 => ?_, fun _ => ?_, fun h => absurd h (by decide)⟩
   ·match i, hi with
    | 0, _ => exact ⟨hc.1, (show E8 W2 = true by decide)⟩
    | 1, _ => exact ⟨c1, vm⟩
    | 2, _ => exact ⟨c2, vm⟩
   ·rw [if_neg (by simp), mW9]
    simp only [List.getD_cons_zero, List.getD_cons_succ, A2y, and_self, if_true, A8z]
  ·cases hw
 ·refine nil ?_ (by decide)
  rw [A4v] at hw; cases hw; rfl
 ·match h, (show h.length = 1 by rcases hk with rfl | rfl <;> (first | (have : D7 11 = 1 := rfl; omega) | (have : D7 12 = 1 := rfl; omega))) with
  | [x], _ =>
  rw [A2Y hk] at hw
  simp only [List.getD_cons_zero] at hw
  split at hw
  ·rename_i a b hm
   cases hw
   obtain ⟨v1, v2⟩ := A9b (.inr rfl) (hh x (by simp)) hm
   refine ⟨.inr rfl, fun i hi hi2 => ?_, fun _ => ?_, fun h => by omega⟩
   ·match i, hi with
    | 0, _ => exact ⟨v2, v1⟩
   ·rw [if_neg (by simp), A2Y hk]
    simp only [List.getD_cons_zero, List.getD_cons_succ, A1I, if_true]
  ·cases hw
 ·match h, (show h.length = 1 by have : D7 13 = 1 := rfl; omega) with
  | [x], _ =>
  rw [A2x] at hw
  simp only [List.getD_cons_zero] at hw
  split at hw
  ·rename_i hc
   cases hw
   refine ⟨.inr rfl, fun i hi hi2 => ?_, fun h => absurd rfl h, fun _ => rfl⟩
   match i, hi with
   | 0, _ => exact ⟨hc, hty rfl⟩
  ·cases hw
theorem B3N {l : Int} (h1 : 1 ≤ l) (h2 : l ≤ 99) : A0Y l = true := by
 unfold A0Y
 rw [A2q.2 ⟨h1, h2⟩]; rfl
theorem B3O {u : Tm} {a b : Ty} {l D : Int} (hu : M9 40 13 u (D + 1) = true) (hc : K2 a b = true) (ha : E8 a = true) (hb : E8 b = true) (h1 : 1 ≤ l) (h2 : l ≤ 99) (hD : D ≤ 40) : M9 40 13 (L4 u a b l) D = true := by
 unfold L4
 rw [A1c hD (by decide) (T8.2 ⟨rfl, by simp, fun _ => rfl, by simp, fun _ => rfl, fun _ => hb, by simp, fun _ => ⟨by simp [A0X, ha, hb, hc], B3N h1 h2⟩, by simp⟩)]
 simp [N7, hu]
theorem A6h {cx : Cx} : ∀ (us : List Tm) (h w : List Ty) (l D : Int), us.length = h.length → w.length = h.length → (∀ i, (hi : i < w.length) → (hh : i < h.length) → K2 h[i] w[i] = true ∧ E8 w[i] = true) → (∀ a ∈ h, E8 a = true) → Y0 cx us = some h → N7 40 13 us (D + 1) = true → 0 ≤ l → (F4 us h w l).2 ≤ 99 → D ≤ 40 →
  Y0 cx (F4 us h w l).1 = some w ∧ N7 40 13 (F4 us h w l).1 D = true ∧ (E3 (F4 us h w l).1 : Int) = E3 us + ((F4 us h w l).2 - l)
 | [], [], [], l, D, _, _, _, _, ht, _, _, _, _ => by simp [F4, Y0, N7, E3]
 | [], a :: h, w, l, D, hl, _, _, _, _, _, _, _, _ => by simp at hl
 | u :: us, [], w, l, D, hl, _, _, _, _, _, _, _, _ => by simp at hl
 | [], [], b :: w, l, D, _, hl, _, _, _, _, _, _, _ => by simp at hl
 | u :: us, a :: h, [], l, D, _, hl, _, _, _, _, _, _, _ => by simp at hl
 | u :: us, a :: h, b :: w, l, D, h1, h2, hw, hv, ht, hs, hl, h99, hD => by
  rw [Y0] at ht
  split at ht
  ·cases ht
  ·rename_i a' ha
   split at ht
   ·cases ht
   ·rename_i h' hh'
    simp only [Option.some.injEq, List.cons.injEq] at ht
    obtain ⟨rfl, rfl⟩ := ht
    rw [N7, Bool.and_eq_true] at hs
    obtain ⟨c1, c2⟩ := hw 0 (by simp) (by simp)
    have hw' : ∀ i, (hi : i < w.length) → (hh : i < h'.length) → K2 h'[i] w[i] = true ∧ E8 w[i] = true := fun i hi hh => hw (i + 1) (by simpa using hi) (by simpa using hh)
    have hv' : ∀ x ∈ h', E8 x = true := fun x hx => hv x (List.mem_cons_of_mem _ hx)
    simp only [F4] at h99 ⊢
    by_cases he : M5 a' b = true
    ·simp only [if_pos he] at h99 ⊢
     obtain ⟨i1, i2, i3⟩ := A6h us h' w l D (by simpa using h1) (by simpa using h2) hw' hv' hh' hs.2 hl h99 hD
     have hab := (A1d _ _).1 he
     subst hab
     refine ⟨by rw [Y0, ha, i1], ?_, ?_⟩
     ·rw [N7, Bool.and_eq_true]; exact ⟨A54 40 13 u (D + 1) D (by omega) hs.1, i2⟩
     ·simp only [E3]; omega
    ·simp only [if_neg he] at h99 ⊢
     obtain ⟨i1, i2, i3⟩ := A6h us h' w (l + 1) D (by simpa using h1) (by simpa using h2) hw' hv' hh' hs.2 (by omega) h99 hD
     have hlab := A1g us h' w (l + 1)
     refine ⟨by rw [Y0, L4, B2N ha, i1], ?_, ?_⟩
     ·rw [N7, Bool.and_eq_true]
      exact ⟨B3O hs.1 c1 (hv a' List.mem_cons_self) c2 (by omega) (by omega) hD, i2⟩
     ·simp only [E3, A1X]; omega
def A9d (cx : Cx) (t : Tm) (D l : Int) (u : Tm) (a : Ty) (l' : Int) : Prop := M9 40 13 u D = true ∧ A0N cx u = some a ∧ E8 a = true ∧ l ≤ l' ∧ l' + 1 ≤ l + (D0 t : Int) ∧ (D0 u : Int) ≤ D0 t + (l' - l)
theorem A6i (ks : List Tm) (ih : ∀ t ∈ ks, ∀ (d D : Int) (cx : Cx) (l : Int) (u : Tm) (a : Ty) (l' : Int), M9 12 14 t d = true → Z4 cx → 0 ≤ l → M6 cx t l = some (u, a, l') → l' ≤ 99 → D + 2 * (13 - d) ≤ 41 → A9d cx t D l u a l') :
  ∀ (d D : Int) (cx : Cx) (l : Int) (us : List Tm) (h : List Ty) (l' : Int), N7 12 14 ks d = true → Z4 cx → 0 ≤ l → L8 cx ks l = some (us, h, l') → l' ≤ 99 → D + 2 * (13 - d) ≤ 41 →
   N7 40 13 us D = true ∧ Y0 cx us = some h ∧ (∀ a ∈ h, E8 a = true) ∧ l ≤ l' ∧ l' + ks.length ≤ l + (E3 ks : Int) ∧ (E3 us : Int) ≤ E3 ks + (l' - l) ∧ h.length = ks.length ∧ us.length = ks.length := by
 induction ks with
 | nil =>
  intro d D cx l us h l' _ _ _ he _ _
  simp only [L8, Option.some.injEq, Prod.mk.injEq] at he
  obtain ⟨rfl, rfl, rfl⟩ := he
  simp [N7, Y0, E3]
 | cons t ts ihl =>
  intro d D cx l us h l' hs hcx hl he h99 hD
  rw [N7, Bool.and_eq_true] at hs
  rw [L8] at he
  split at he
  ·cases he
  ·rename_i u a l1 h1
   split at he
   ·cases he
   ·rename_i us' h' l2 h2
    simp only [Option.some.injEq, Prod.mk.injEq] at he
    obtain ⟨rfl, rfl, rfl⟩ := he
    have hp := B0W t
    
    have hmono : l1 ≤ l2 := by
     have : ∀ (zs : List Tm) (l : Int) us h l', L8 cx zs l = some (us, h, l') → l ≤ l' := by
      intro zs
      induction zs with
      | nil => intro l us h l' he; simp only [L8, Option.some.injEq, Prod.mk.injEq] at he; omega
      | cons z zs ihz =>
       intro l us h l' he
       rw [L8] at he
       split at he
       ·cases he
       ·rename_i u a l1 hz
        split at he
        ·cases he
        ·rename_i us' h' l2 hzs
         simp only [Option.some.injEq, Prod.mk.injEq] at he
         have := ihz _ _ _ _ hzs
         have := el_mono cx z l _ _ _ hz
         omega
     exact this ts l1 us' h' l2 h2
    obtain ⟨a1, a2, a3, a4, a5, a6⟩ := ih t List.mem_cons_self d D cx l u a l1 hs.1 hcx hl h1 (by omega) hD
    obtain ⟨b1, b2, b3, b4, b5, b6, b7, b8⟩ := ihl (fun x hx => ih x (List.mem_cons_of_mem _ hx)) d D cx l1 us' h' l2 hs.2 hcx (by omega) h2 h99 hD
    refine ⟨by rw [N7, a1, b1]; rfl, by rw [Y0, a2, b2], ?_, by omega, ?_, ?_, by simp [b7], by simp [b8]⟩
    ·intro x hx
     rcases List.mem_cons.1 hx with h | h
     ·rw [h]; exact a3
     ·exact b3 x h
    ·simp only [E3, List.length_cons]; omega
    ·simp only [E3]; omega
where
 el_mono (cx : Cx) : ∀ (z : Tm) (l : Int) (u : Tm) (a : Ty) (l' : Int), M6 cx z l = some (u, a, l') → l ≤ l' := by
  intro z
  revert cx
  refine Tm.ind (C := fun z => ∀ (cx : Cx) (l : Int) (u : Tm) (a : Ty) (l' : Int), M6 cx z l = some (u, a, l') → l ≤ l') ?_ z
  intro k nm num ty fr lb ks ih cx l u a l' he
  rw [M6] at he
  have hL : ∀ (zs : List Tm), (∀ t ∈ zs, t ∈ ks) → ∀ (cx : Cx) (l : Int) us h l', L8 cx zs l = some (us, h, l') → l ≤ l' := by
   intro zs
   induction zs with
   | nil => intro _ cx l us h l' he; simp only [L8, Option.some.injEq, Prod.mk.injEq] at he; omega
   | cons z zs ihz =>
    intro hin cx l us h l' he
    rw [L8] at he
    split at he
    ·cases he
    ·rename_i u a l1 hz
     split at he
     ·cases he
     ·rename_i us' h' l2 hzs
      simp only [Option.some.injEq, Prod.mk.injEq] at he
      have := ihz (fun t ht => hin t (List.mem_cons_of_mem _ ht)) _ _ _ _ _ hzs
      have := ih z (hin z List.mem_cons_self) _ l _ _ _ hz
      omega
  split at he
  ·cases he
  ·rename_i us h l1 hk
   have h1 := hL ks (fun _ h => h) _ _ _ _ _ hk
   unfold Q1 at he
   split at he
   ·cases he
   ·rename_i w t hn
    simp only [Option.some.injEq, Prod.mk.injEq] at he
    have := A1g us h w l1
    omega
theorem B3P : ∀ (t : Tm) (d D : Int) (cx : Cx) (l : Int) (u : Tm) (a : Ty) (l' : Int), M9 12 14 t d = true → Z4 cx → 0 ≤ l → M6 cx t l = some (u, a, l') → l' ≤ 99 → D + 2 * (13 - d) ≤ 41 → A9d cx t D l u a l' := by
 refine Tm.ind fun k nm num ty fr lb ks ih d D cx l u a l' hs hcx hl he h99 hD => ?_
 obtain ⟨hd, h14, h3, h4⟩ := A0t hs
 obtain ⟨n1, n2, n3, n4, n5, n6, n7, n8, n9⟩ := T8.1 h3
 rw [M6] at he
 split at he
 ·cases he
 ·rename_i us h l1 hL
  unfold Q1 at he
  split at he
  ·cases he
  ·rename_i w t hN
   simp only [Option.some.injEq, Prod.mk.injEq] at he
   obtain ⟨hu, rfl, rfl⟩ := he
   have hlab := A1g us h w l1
   obtain ⟨b1, b2, b3, b4, b5, b6, b7, b8⟩ := A6i ks ih (d + 1) (D + 2) (O2 cx k nm ty) l us h l1 h4 (A3E hcx fun hk => n6 (.inl hk)) hl hL (by omega) (by omega)
   obtain ⟨hv, hw⟩ := A53 hN
   have hwt := A9c b3 (fun hk => n6 (.inr (.inl hk))) (by rw [b7]; exact n1) h14 hw
   
   obtain ⟨c1, c2, c3⟩ : Y0 (O2 cx k nm ty) (F4 us h w l1).1 = some (if w = [] then h else w) ∧ N7 40 13 (F4 us h w l1).1 (D + 1) = true ∧ (E3 (F4 us h w l1).1 : Int) = E3 us + ((F4 us h w l1).2 - l1) := by
    rcases hwt.len with hn | hn
    ·subst hn
     rw [V1, if_pos rfl]
     refine ⟨b2, ?_, by simp⟩
     exact A4w 40 13 us (D + 2) (D + 1) (by omega) b1
    ·by_cases hn0 : w = []
     ·subst hn0
      rw [V1, if_pos rfl]
      refine ⟨b2, ?_, by simp⟩
      exact A4w 40 13 us (D + 2) (D + 1) (by omega) b1
     ·rw [if_neg hn0]
      exact A6h us h w l1 (D + 1) (by omega) hn hwt.ok b3 b2 (by rw [show D + 1 + 1 = D + 2 by omega]; exact b1) (by omega) h99 (by omega)
   have hlm := A1J us h w l1
   have hck : D0 (.mk k nm num ty fr lb ks) = E3 ks + 1 := Y1 ..
   refine ⟨?_, ?_, hv, by omega, by rw [hck]; omega, ?_⟩
   ·rw [← hu]
    split
    ·rename_i hk
     have hl1 : ks.length = 1 := by rw [hk] at n1; have : D7 13 = 1 := rfl; omega
     have h0 : 0 < (F4 us h w l1).1.length := by omega
     rw [getD0' h0]
     have := (A0A 40 13 _ _).1 c2 0 h0
     exact A54 40 13 _ (D + 1) D (by omega) this
    ·rename_i hk
     rw [A1c (by omega) hk (by rw [hlm, b8]; exact h3)]
     exact c2
   ·rw [← hu]
    split
    ·rename_i hk
     have hl1 : ks.length = 1 := by rw [hk] at n1; have : D7 13 = 1 := rfl; omega
     have h0 : 0 < (F4 us h w l1).1.length := by omega
     rw [getD0' h0]
     rw [hwt.asT hk, if_neg (by simp)] at c1
     rw [O2, if_neg (by omega)] at c1
     rw [← hwt.asT hk] at c1
     obtain ⟨x, hx⟩ : ∃ x, (F4 us h w l1).1 = [x] := by
      match hm : (F4 us h w l1).1, (show (F4 us h w l1).1.length = 1 by omega) with
      | [x], _ => exact ⟨x, rfl⟩
     simp only [hx, List.getElem_cons_zero] at c1 ⊢
     obtain ⟨y, hy, he⟩ := B2K c1
     rw [hwt.asT hk] at he
     cases he; exact hy
    ·rename_i hk
     refine B2J c1 h14 hv (hwt.again hk) ?_
     by_cases hn0 : w = []
     ·rw [hn0]; rfl
     ·rw [if_neg hn0]; exact A8B w
   ·rw [← hu, hck]
    split
    ·rename_i hk
     have hl1 : ks.length = 1 := by rw [hk] at n1; have : D7 13 = 1 := rfl; omega
     have h0 : 0 < (F4 us h w l1).1.length := by omega
     rw [getD0' h0]
     have := A5k (List.getElem_mem h0)
     omega
    ·rw [Y1]; omega
where
 getD0' {us : List Tm} (h : 0 < us.length) : us.getD 0 I2 = us[0] := by rw [List.getD_eq_getElem?_getD, List.getElem?_eq_getElem h, Option.getD_some]
theorem A9e : ∀ (t : Tm) (d : Int) (cx : Cx) (l : Int) (u : Tm) (a : Ty) (l' : Int), M9 12 14 t d = true → M6 cx t l = some (u, a, l') → l' + 1 ≤ l + (D0 t : Int) := by
 refine Tm.ind fun k nm num ty fr lb ks ih d cx l u a l' hs he => ?_
 obtain ⟨hd, h14, h3, h4⟩ := A0t hs
 obtain ⟨n1, _⟩ := T8.1 h3
 have hL : ∀ (zs : List Tm), (∀ t ∈ zs, t ∈ ks) → N7 12 14 zs (d + 1) = true → ∀ (cx : Cx) (l : Int) us h l', L8 cx zs l = some (us, h, l') → l' + zs.length ≤ l + (E3 zs : Int) ∧ us.length = zs.length := by
  intro zs
  induction zs with
  | nil => intro _ _ cx l us h l' he; simp only [L8, Option.some.injEq, Prod.mk.injEq] at he; obtain ⟨rfl, _, rfl⟩ := he; simp [E3]
  | cons z zs ihz =>
   intro hin hsz cx l us h l' he
   rw [N7, Bool.and_eq_true] at hsz
   rw [L8] at he
   split at he
   ·cases he
   ·rename_i u a l1 hz
    split at he
    ·cases he
    ·rename_i us' h' l2 hzs
     simp only [Option.some.injEq, Prod.mk.injEq] at he
     obtain ⟨rfl, rfl, rfl⟩ := he
     have h5 := ihz (fun t ht => hin t (List.mem_cons_of_mem _ ht)) hsz.2 _ _ _ _ _ hzs
     have h6 := ih z (hin z List.mem_cons_self) (d + 1) _ l _ _ _ hsz.1 hz
     simp only [E3, List.length_cons]
     exact ⟨by omega, by omega⟩
 rw [M6] at he
 split at he
 ·cases he
 ·rename_i us h l1 hk
  obtain ⟨g1, g2⟩ := hL ks (fun _ h => h) h4 _ _ _ _ _ hk
  unfold Q1 at he
  split at he
  ·cases he
  ·rename_i w t hn
   simp only [Option.some.injEq, Prod.mk.injEq] at he
   have := A1g us h w l1
   have hck : D0 (.mk k nm num ty fr lb ks) = E3 ks + 1 := Y1 ..
   rw [hck]; omega
theorem A4O {e u : Tm} {t : Ty} (h : U3 e = some (u, t)) : O5 u = true ∧ A0N [] u = some t ∧ E8 t = true := by
 unfold U3 at h
 split at h
 ·rename_i hv
  obtain ⟨h1, h2⟩ := (A0B e).1 hv
  split at h
  ·rename_i u' t' l' he
   cases h
   have hl : l' ≤ 99 := by
    have := A6i.el_mono [] e 0 _ _ _ he
    have h3 : ∀ (t : Tm) (cx : Cx) (l : Int) (u : Tm) (a : Ty) (l' : Int), M6 cx t l = some (u, a, l') → l' ≤ l + 4 * (D0 t : Int) → True := fun _ _ _ _ _ _ _ _ => trivial
    exact el_lab e 1 h1 (by omega) he
   obtain ⟨g1, g2, g3, g4, g5, g6⟩ := B3P e 1 1 [] 0 u t l' h1 A2Z (by omega) he hl (by omega)
   exact ⟨(A5L u).2 ⟨g1, by omega⟩, g2, g3⟩
  ·cases h
 ·cases h
where
 el_lab (e : Tm) (d : Int) (h1 : M9 12 14 e d = true) (h2 : D0 e ≤ 30) {u : Tm} {t : Ty} {l' : Int} (he : M6 [] e 0 = some (u, t, l')) : l' ≤ 99 := by
  have := A9e e d [] 0 u t l' h1 he
  omega
def A2B (k : Int) : Bool := decide (k = 5 ∨ k = 13)
theorem B3Q (t : Tm) (G : IM) (cells : List Value) (hr : A9 G t cells) : Fn Tryz.prog 90 [.agg ⟨cells⟩] [] G (H2 (.bool (A2B t.k)) G) := by
 obtain ⟨k, nm, num, ⟨tk, tks⟩, ⟨fk, fks⟩, lb, ks⟩ := t
 obtain ⟨pt, ct, pf, cf, p, c, es, rfl, hk, hnum, hlb, hty, hfr, hsl, hkl⟩ := hr.open9
 refine B7 Tryz.func90 rfl Tryz.ntmps90 Tryz.results90 rfl ?_
 intro w0
 refine tS (tR ?_)
 refine sE (C2 rfl rfl) rfl (fun b3 => ?_)
 refine C4 ?_
 refine sB (qE rfl rfl) rfl rfl (fun h11 => ?_) (fun h11 => ?_)
 refine I5 ?_
 exact ⟨rfl, by (show _ = Value.bool (decide (k = 5 ∨ k = 13)); first | rw [decide_eq_true (by omega)] | rw [decide_eq_false (by omega)]), rfl⟩
 refine J7 ?_
 refine sB (qE rfl rfl) rfl rfl (fun h26 => ?_) (fun h26 => ?_)
 refine H6 ?_
 exact ⟨rfl, by (show _ = Value.bool (decide (k = 5 ∨ k = 13)); first | rw [decide_eq_true (by omega)] | rw [decide_eq_false (by omega)]), rfl⟩
 refine H6 ?_
 exact ⟨rfl, by (show _ = Value.bool (decide (k = 5 ∨ k = 13)); first | rw [decide_eq_true (by omega)] | rw [decide_eq_false (by omega)]), rfl⟩
end Gw
end Go.Proofs.YthpdjmbpbdbodaaGreatDoor
