/-
  The program's evaluator: step. The program's evaluator: StepCast, runs of steps, their results. Types are kept by steps; a closed term with a type does not get stuck, and what is blamed is a label of its casts. A term with its casts put in is valid, and has the type that the term has. Terms that hold a type. Precision of terms, on both sides. The text of a value, in plain words. The program's insertion of casts: a cast. The program's insertion of casts. CastTypeOf. The program's InsertCasts, TypeOf. A run of a term, in plain words. A comparison of runs, in plain words. Runs of terms of which one is more precise. Terms with casts that have a type are terms of the calculus; a value stays a value there and back (plain). Failures of terms of the calculus, with their labels (plain). Terms that differ in casts that change nothing, or that go through the unknown type: they run alike (plain). Terms that differ in casts that change nothing: steps, failures, runs (plain). Terms that differ in casts that change nothing: simulation (plain). Simplified terms, casts by way of the unknown type, forgotten types: they run alike (plain). Simplification, casts by way of the unknown type, forgotten types: the laws (plain). All paths of a term, in plain words: they are different, each has a node, none goes on to where no operand is. The first cast with a label. The casts of a term, in plain words: the first one with a label is the node at the first path to such a cast. What is blamed is unsafe: plain. The types that a term's text holds, and terms with other types: the plain words. Own slices and their capacity; data of terms one after the other. The types that a term's text holds: the program's list. Terms with other types: the program's. Shifts and masks of small numbers; writing into an own slice. Terms some of whose types become the unknown type: the program's. The configurations of a term: the program's. A number for each configuration: the program's. Drawn terms that often have a type: one lambda, given the terms below. Drawn terms that often have a type. The reference's typing, exactly. The reference's typing, exactly: meets, the types of nodes. The reference's typing, exactly: types of terms. The reference's insertion of casts, exactly. The types that a term's text holds: the reference's list. TermTypes and CountSlots of the reference. Terms with other types: the reference's. WithTypes of the reference. Drawn terms that are small, terms with blurred types, fuel. Configurations: plain laws (they are valid, ordered by precision; fewer types fail less); `and` and `and not` of masks. The labels of inserted casts: from 1 on, each once; what a run may blame (plain).
-/
import Derived.Test.YtfpgncjeejickaaGreatDoorKb5
import Derived.Test.YtfpgncjeejickaaGreatDoorKb2
import Derived.Test.YtfpgncjeejickaaGreatDoorKb4
import Derived.Test.YtfpgncjeejickaaGreatDoorKb3
import Derived.Test.YtfpgncjeejickaaGreatDoorKb1
import Derived.Lib.ItoaNum
set_option linter.unusedVariables false
set_option linter.unusedSimpArgs false
set_option maxHeartbeats 0
set_option maxRecDepth 100000
set_option synthInstance.maxSize 4000
set_option synthInstance.maxHeartbeats 0
namespace Go.Proofs.YtfpgncjeejickaaGreatDoor
open Go Go.RowKit
namespace Gw
theorem B3y (t : Tm) (G : IM) (cells : List Value) (hr : A7 G t cells) : Fn Tryz.prog 218 [.agg ⟨cells⟩] [] G (I0 (.int .i64 ((if t.k = 9 then 1 else t.ks.length : Nat) : Int)) G) := by
 obtain ⟨k, nm, num, ⟨tk, tks⟩, ⟨fk, fks⟩, lb, ks⟩ := t
 obtain ⟨pt, ct, pf, cf, p, c, es, rfl, hk, hnum, hlb, hty, hfr, hsl, hkl⟩ := hr.open9
 rw [show (Tm.mk k nm num (.mk tk tks) (.mk fk fks) lb ks).k = k from rfl, show (Tm.mk k nm num (.mk tk tks) (.mk fk fks) lb ks).ks = ks from rfl]
 refine B5 Tryz.func218 rfl Tryz.ntmps218 Tryz.results218 rfl ?_
 intro w0
 refine tS (tR ?_)
 refine sE (C0 rfl rfl) rfl (fun b3 => ?_)
 refine D8 ?_
 refine sB (qE rfl rfl) rfl rfl (fun h12 => ?_) (fun h12 => ?_)
 refine J7 ?_
 (exact ⟨rfl, by rw [if_pos (by omega)]; rfl, rfl⟩)
 refine I7 ?_
 (exact ⟨rfl, by rw [if_neg (by omega)], rfl⟩)
theorem B3z {k : Int} (h8 : k = 1 ∨ k = 6 ∨ k = 7 ∨ k = 8 ∨ k = 9 ∨ k = 11 ∨ k = 12 ∨ k = 14) (h : E0 k = 0) : k = 1 := by
 rcases h8 with rfl | rfl | rfl | rfl | rfl | rfl | rfl | rfl
 ·rfl
 all_goals exact absurd h (by decide)
theorem A87 {G : IM} {r r' : Stp} {u : Tm} {cells : List Value} {c l : Int} (h1 : r.2.1 = c) (h2 : r.2.2 = l) (hr : A7 G u cells) (h3 : c = 1 → u = r.1) : R8 r G (.tuple ⟨[.agg ⟨cells⟩, .int .i64 c, .int .i64 l]⟩) [] := by
 subst h1 h2; exact ⟨rfl, u, cells, rfl, hr, h3⟩
theorem B3A : ∀ (t : Tm) (G : IM) (cells : List Value), cv t → E7 t = false → A7 G t cells → Fn Tryz.prog 169 [.agg ⟨cells⟩] [] G (R8 (H0 t)) := by
 refine Tm.ind fun k nm num ty fr lb ks ih G cells hc hv hr => ?_
 have hr0 := hr
 have hN := hc.node.1
 have hkk := hc.node.2
 have hsm := A2l _ hc
 obtain ⟨_, _, _, _, hksm⟩ := A0z.1 hsm
 have hops := hN.ops
 have hle3 := A1e k
 have hkd := @A86 k nm num ty fr lb ks hc hv
 have hrd := @B3x k nm num ty fr lb ks
 have hkidS := fun (i : Nat) => @B3w k nm num ty fr lb ks i
 have hRA := fun h => @B3r k nm num ty fr lb ks G cells hc h hr
 have hCA := fun h (G1 : IM) (hle : B6 G G1) => @B3s k nm num ty fr lb ks G1 cells hc h (hr.mono hle)
 have hCt := B3y _ G _ hr
 rw [show (Tm.mk k nm num ty fr lb ks).k = k from rfl, show (Tm.mk k nm num ty fr lb ks).ks = ks from rfl] at hCt
 obtain ⟨C, hC⟩ : ∃ C : Nat, (if k = 9 then 1 else ks.length : Nat) = C := ⟨_, rfl⟩
 rw [hC] at hCt hkd hrd
 have hkidS' := fun (i : Nat) (hi : i < ks.length) (hn : i < C) => hkidS i hi (by rw [hC]; exact hn)
 have hC9 : C ≤ ks.length := by rw [← hC]; split; (have : E0 k = 3 := by (rename_i h9; rw [h9]; rfl)); omega; omega
 have hrul := hkd
 obtain ⟨tk, tks⟩ := ty
 obtain ⟨fk, fks⟩ := fr
 obtain ⟨pt, ct, pf, cf, p, c, es, rfl, hk, hnum, hlb, hty, hfr, hsl, hkl⟩ := hr.open9
 have hn := hsl.le
 have hnc := hsl.sl.2.1
 refine B5 Tryz.func169 rfl Tryz.ntmps169 Tryz.results169 rfl ?_
 intro w0
 refine tS (tR ?_)
 refine sE (C0 rfl rfl) rfl (fun b3 => ?_)
 refine sE (A5 rfl) rfl (fun b4 => ?_)
 refine sQ (qA rfl) rfl (sQ (qA rfl) rfl (sD (nS (tS (tS ?_)))))
 refine C9 D1 rfl ?_
 refine H6 (i := 0) (l' := [tt,ff,ff,ff,ff,ff,ff]) rfl C4 (A9 rfl) rfl (by kernel_rfl) rfl rfl ?_
 refine aL 1 rfl (B7 rfl rfl) rfl ?_
 refine aL 2 rfl (A3 rfl rfl) rfl ?_
 refine aP 6 rfl (qM rfl) rfl ?_
 refine A1 3 ?_
 refine J0 rfl rfl (hCt) rfl rfl rfl ?_
 refine aP 4 rfl (A7r (l := C) rfl rfl rfl (by omega)) rfl ?_
 refine aP 5 rfl (pLn rfl rfl) rfl ?_
 refine B8 (nS ?_)
 refine B9 ?_
 (refine K3 (fun (i : Nat) => ⟨[(19, .int .i64 (i : Int)), (18, .int .i64 (C : Int)), (17, .slice p C c), (1, .pointer (some ⟨b3, 0, none⟩)), (2, .pointer (some ⟨b4, 0, none⟩))], [.blk b4 [.int .i64 0, .string ⟨⟨[]⟩⟩, .int .i64 0, .int .i64 0, .slice none 0 0, .int .i64 0, .slice none 0 0, .int .i64 0, .slice none 0 0], .blk b3 [.int .i64 k, .string nm, .int .i64 num, .int .i64 tk, .slice pt tks.length ct, .int .i64 fk, .slice pf fks.length cf, .int .i64 lb, .slice p ks.length c]], G⟩) (fun i => i ≤ C ∧ ∀ j, j < i → (h : j < ks.length) → E7 ks[j] = true) (fun i => C - i) 0 ?_ ?_ ?_)
 exact D5
 (exact ⟨Nat.zero_le _, fun j hj => absurd hj (Nat.not_lt_zero j)⟩)
 (rintro i ⟨hi, hj⟩)
 refine tS (tR ?_)
 refine sB (K1 rfl rfl) rfl rfl (fun h29 => ?_) (fun h29 => ?_)
 refine sD (nS (tS (qT rfl (tK (nS (tS ?_))))))
 refine B9 ?_
 refine tS (tR (sQ (qM rfl) rfl ?_))
 (have hiC : i < C := (by omega); obtain ⟨bx, ox, e, rfl, hl, hat, hre, hgb⟩ := hsl.kidTm hkl (i := i) (by omega) (by omega); have heo := hre.one; have hVi := A5M ks[i] G e hre; refine sP (B0 (j := i) rfl rfl rfl hiC) rfl rfl ?_)
 refine sL (A2 rfl rfl (hat _) hl) rfl rfl ?_
 refine sE (A5 rfl) rfl (fun b43 => ?_)
 refine sQ (qA rfl) rfl ?_
 refine sS rfl rfl rfl hl heo rfl ?_ (hu := by exact C2 hl.symm)
 refine sD (nS (tS (tS (tR ?_))))
 refine sL (A2 rfl rfl (A6 (by repeat first | exact mH | apply mT)) hl) rfl rfl ?_
 refine F9 rfl (hVi) rfl rfl (fun h52 => ?_) (fun h52 => ?_)
 refine D8 ?_
 refine sP (J6 rfl rfl (by omega) (by omega)) rfl rfl ?_
 refine sQ (qM rfl) rfl (sD ?_)
 refine K0 (i + 1) ?_ ?_ ?_
 exact D5
 (exact ⟨by omega, fun j hji hl2 => (by by_cases he : j = i; (subst he; assumption); exact hj j (by omega) hl2)⟩)
 (show C - (i + 1) < C - i; omega)
 refine sD (nS (cF rfl (tK (nS (tS (tR ?_))))))
 refine sL (A2 rfl rfl (A6 (by repeat first | exact mH | apply mT)) hl) rfl rfl ?_
 (have hvF : E7 ks[i] = false := (by assumption); obtain ⟨hs1, hs2, hs3⟩ := hkidS' i (by omega) hiC (fun j hji hl2 => hj j hji hl2) hvF; refine D3 rfl (ih ks[i] (List.getElem_mem (by omega)) G e (hkk _ (List.getElem_mem (by omega))) hvF hre) rfl rfl (fun v G1 hle1 hh => ?_); obtain ⟨u, uc, rfl, hru, hu1⟩ := hh; have hul := hru.len; have huo := hru.one; have hClo := B2N G1 _ ks.length c es (hsl.mono hle1) (by omega) (by omega))
 refine I8 ?_
 refine sE (A5 rfl) rfl (fun b81 => ?_)
 refine sS rfl rfl rfl hul huo rfl ?_ (hu := by exact C2 hul.symm)
 refine D0 ?_
 refine sE (A5 rfl) rfl (fun b90 => ?_)
 refine D0 ?_
 (refine A30 rfl hClo rfl rfl (fun v98 G98 outs98 hle98 h98 => ?_); obtain ⟨hG, p1, c1, rfl, rfl⟩ := h98; replace hG := hG.symm; subst hG; refine A4o (cs := es.flatten) (by repeat (first | exact Pk.here | apply Pk.there)) (by omega) (fun bc Cc hpe hnc1 hcm => ?_); subst hpe)
 replace hru := hru.mono hle98
 refine D7 ?_
 refine sL (A2 rfl rfl (A6 (by repeat first | exact mH | apply mT)) hul) rfl rfl ?_
 refine sP (B0 (j := i) rfl rfl rfl (by omega)) rfl rfl ?_
 refine O0 rfl rfl rfl hul huo rfl (by repeat first | exact Sw.here | apply Sw.there) (by exact A4p (by rw [hkl.len]; omega) (fun e he => (hsl.all e he)) hul) ?_
 refine M9 ?_
 (refine A2C (bs := [(bc, (es.set i uc).flatten ++ Cc)]) (Pk.perm (by repeat (first | exact Pk.here | apply Pk.there))) (fun hn2 hd2 hle2 => ?_))
 refine tT (rB (rS (A29 (rB (rS ?_)))))
 refine D2 (rC rfl (A3 rfl rfl)) (rT rfl) (rT rfl) ?_
 (have hks2 := C6.set (j := i) ((hkl.mono hle1).mono hle2) (hru.mono hle2); refine A87 (r' := Q9) hs1 hs2 (A7.put (us := ks.set i u) (es := es.set i uc) hk hnum hlb ((hty.mono hle1).mono hle2) ((hfr.mono hle1).mono hle2) (by rw [List.length_set]) (C5.of (Sl.of_blk (A := []) (by rw [A0U hks2.all, hks2.len, List.length_set]) (by omega) hcm (Wi.in hn2 List.mem_cons_self)) (by rw [hks2.len, List.length_set]) hks2.all (fun e he => by obtain ⟨q, hq⟩ := List.getElem?_of_mem he; exact (hks2.inv hq I3).2.one)) hks2) (fun h1 => by rw [hs3 h1, hu1 h1]))
 refine J4 ?_
 focus (have hall : ∀ i, i < C → (hl : i < ks.length) → E7 ks[i] = true := (fun j hjc hl2 => hj j (by omega) hl2); have hk8 := hkd hall; have hrd' := hrd hall; refine D3 rfl (hRA hk8) rfl rfl (fun v G1 hle1 hh => ?_); obtain ⟨u, uc, cc, rfl, hru, hy, hno⟩ := hh; have hul := hru.len; have huo := hru.one; rcases hm : W8 k ks with _ | x; rotate_left; obtain ⟨rfl, rfl⟩ := hy _ hm; rotate_left; obtain rfl := hno hm; rw [hm] at hrd')
 refine I6 ?_
 refine sE (A5 rfl) rfl (fun b149 => ?_)
 refine sS rfl rfl rfl hul huo rfl ?_ (hu := by exact C2 hul.symm)
 refine sQ (qA rfl) rfl (sD (nS (tS (tR (sQ (qM rfl) rfl ?_)))))
 refine sP (E4 rfl rfl (by omega)) rfl rfl ?_
 refine J7 ?_
 refine sB (qE rfl rfl) rfl rfl (fun h169 => ?_) (fun h169 => ?_)
 refine J4 ?_
 refine D2 (rC rfl (A3 rfl rfl)) (rT rfl) (rT rfl) ?_
 (obtain rfl : k = 1 := B3z hk8 (by omega); rw [hrd']; exact R8.mk rfl (M5 _))
 refine D8 ?_
 (have hk7 : k = 6 ∨ k = 7 ∨ k = 8 ∨ k = 9 ∨ k = 11 ∨ k = 12 ∨ k = 14 := (by rcases hk8 with h1 | hh; (rw [h1] at hops; have : E0 1 = 0 := rfl; omega); exact hh); refine D3 rfl (hCA hk7 _ hle1) rfl rfl (fun v G2 hle2 hh => ?_); obtain ⟨w, wc, rfl, hrw, hw1⟩ := hh; have hwl := hrw.len; have hwo := hrw.one)
 refine I6 ?_
 refine sS rfl rfl rfl hwl hwo rfl ?_ (hu := by exact C2 hwl.symm)
 refine sQ (qA rfl) rfl (sQ (qA rfl) rfl (sD (nS (tT ?_))))
 refine D2 (rC rfl (A2 rfl rfl (A6 (by repeat first | exact mH | apply mT)) hwl)) (rT rfl) (rT rfl) ?_
 (rw [hrd']; exact A87 (r' := Q9) rfl rfl hrw hw1)
 refine I6 ?_
 refine sE (A5 rfl) rfl (fun b208 => ?_)
 refine sS rfl rfl rfl hul huo rfl ?_ (hu := by exact C2 hul.symm)
 refine sQ (qA rfl) rfl (sD (nS (tS (tR (sQ (qM rfl) rfl ?_)))))
 refine sP (Q0 rfl rfl (by omega)) rfl rfl ?_
 refine sD (nS (qT rfl (tS (tR ?_))))
 refine sL (A2 rfl rfl (A6 (by repeat first | exact mH | apply mT)) hul) rfl rfl ?_
 refine sQ (qM rfl) rfl ?_
 refine sS rfl rfl rfl hul huo rfl ?_ (hu := by exact C2 hul.symm)
 refine sQ (qA rfl) rfl (sQ (qA rfl) rfl (sD (nS (tT (rS ?_)))))
 refine D2 (rC rfl (A2 rfl rfl (A6 (by repeat first | exact mH | apply mT)) hul)) (rT rfl) (rT rfl) ?_
 (rw [hrd', hm]; exact R8.mk rfl hru)
def K7 (r : Stp) : IM → Value → List A4 → Prop := K4 fun G' v => ∃ cells, v = .tuple ⟨[.agg ⟨cells⟩, .int .i64 r.2.1, .int .i64 r.2.2]⟩ ∧ A7 G' r.1 cells
theorem K7.mk {G : IM} {r : Stp} {u : Tm} {c l : Int} {cells : List Value} (h : r = (u, c, l)) (hr : A7 G u cells) : K7 r G (.tuple ⟨[.agg ⟨cells⟩, .int .i64 c, .int .i64 l]⟩) [] := by
 subst h; exact ⟨rfl, cells, rfl, hr⟩
theorem A2Y {t : Tm} (h : I2 t = true) : t.small := A2l t (A0m h).1
theorem A3A {e : Tm} (h : I2 e = false) : H5 e = (I3, 3, 0) := by unfold H5; rw [if_pos h]; rfl
theorem A2Z {e : Tm} (h : I2 e = true) (h2 : E7 e = true) : H5 e = (e, 0, 0) := by unfold H5; rw [if_neg (by rw [h]; decide), if_pos h2]
theorem A4A {e : Tm} (h : I2 e = true) (h2 : E7 e = false) (h3 : (H0 e).2.1 ≠ 1) : H5 e = (I3, (H0 e).2.1, (H0 e).2.2) := by
 unfold H5; rw [if_neg (by rw [h]; decide), if_neg (by rw [h2]; decide), if_pos h3]
theorem A3B {e : Tm} (h : I2 e = true) (h2 : E7 e = false) (h3 : (H0 e).2.1 = 1) (h4 : I2 (H0 e).1 = false) : H5 e = (I3, 4, 0) := by
 unfold H5; rw [if_neg (by rw [h]; decide), if_neg (by rw [h2]; decide), if_neg (by omega), if_pos h4]
theorem A3C {e : Tm} (h : I2 e = true) (h2 : E7 e = false) (h3 : (H0 e).2.1 = 1) (h4 : I2 (H0 e).1 = true) : H5 e = ((H0 e).1, 1, 0) := by
 unfold H5; rw [if_neg (by rw [h]; decide), if_neg (by rw [h2]; decide), if_neg (by omega), if_neg (by rw [h4]; decide)]
theorem B3B {e : Tm} (h : (H5 e).2.1 = 1) : I2 (H5 e).1 = true := by
 cases h1 : I2 e with
 | false => rw [A3A h1] at h; simp at h
 | true =>
  cases h2 : E7 e with
  | true => rw [A2Z h1 h2] at h; simp at h
  | false =>
   by_cases h3 : (H0 e).2.1 = 1
   ·cases h4 : I2 (H0 e).1 with
    | false => rw [A3B h1 h2 h3 h4] at h; simp at h
    | true => rw [A3C h1 h2 h3 h4]; exact h4
   ·rw [A4A h1 h2 h3] at h; exact absurd h h3
theorem B3C (t : Tm) (G : IM) (cells : List Value) (hr : A7 G t cells) : Fn Tryz.prog 124 [.agg ⟨cells⟩] [] G (K7 (H5 t)) := by
 have hRl := hr.len
 have hRo := hr.one
 have hV := A1x t G cells hr
 have hI := A5M t G cells hr
 refine B5 Tryz.func124 rfl Tryz.ntmps124 Tryz.results124 rfl ?_
 intro w0
 refine tS (tR ?_)
 refine sE (C0 rfl rfl) rfl (fun b3 => ?_)
 refine sE (A5 rfl) rfl (fun b4 => ?_)
 refine sQ (qA rfl) rfl (sQ (qA rfl) rfl (sD (nS (tS ?_))))
 refine B9 ?_
 refine tS (tR ?_)
 refine sL (A2 rfl rfl (A6 (by repeat first | exact mH | apply mT)) hRl) rfl rfl ?_
 refine F9 rfl (hV) rfl rfl (fun h14 => ?_) (fun h14 => ?_)
 refine D0 ?_
 refine sL (A2 rfl rfl (A6 (by repeat first | exact mH | apply mT)) hRl) rfl rfl ?_
 refine F9 rfl (hI) rfl rfl (fun h23 => ?_) (fun h23 => ?_)
 refine sQ (qA rfl) rfl (sD (nS (qT rfl (tS (tR ?_)))))
 refine sL (A2 rfl rfl (A6 (by repeat first | exact mH | apply mT)) hRl) rfl rfl ?_
 (refine D3 rfl (A7F t G cells (A2Y (by assumption)) hr) rfl rfl (fun v G1 hle1 hh => ?_); obtain ⟨N6, F1, rfl, hs1, hn1⟩ := hh; have hul := hs1.R.len; have huo := hs1.R.one)
 refine sS rfl rfl rfl hul huo rfl ?_ (hu := by exact C2 hul.symm)
 refine D0 ?_
 refine D2 (rC rfl (A2 rfl rfl (A6 (by repeat first | exact mH | apply mT)) hul)) (rT rfl) (rT rfl) ?_
 (exact K7.mk (A2Z (by assumption) (by assumption)) (hs1.R.mono (C1.le _ _)))
 refine D7 ?_
 refine sL (A2 rfl rfl (A6 (by repeat first | exact mH | apply mT)) hRl) rfl rfl ?_
 (refine D3 rfl (B3A t G cells (A0m (by assumption)).1 (by assumption) hr) rfl rfl (fun v G1 hle1 hh => ?_); obtain ⟨u, uc, rfl, hru, hu1⟩ := hh; have hul := hru.len; have huo := hru.one; have hVu := A1x u G1 uc hru)
 refine I8 ?_
 refine sE (A5 rfl) rfl (fun b57 => ?_)
 refine sS rfl rfl rfl hul huo rfl ?_ (hu := by exact C2 hul.symm)
 refine sQ (qA rfl) rfl (sQ (qA rfl) rfl (sD (nS (tS ?_))))
 refine B9 ?_
 refine tS (tR (sQ (qM rfl) rfl ?_))
 refine sB (O5 rfl rfl) rfl rfl (fun h68 => ?_) (fun h68 => ?_)
 refine R2 ?_
 refine D2 (rC rfl (A3 rfl rfl)) (rT rfl) (rT rfl) ?_
 (exact K7.mk (A4A (by assumption) (by assumption) (by omega)) (M5 _))
 refine sQ (qA rfl) rfl (sD (nS (cF rfl (tS (tR ?_)))))
 refine sL (A2 rfl rfl (A6 (by repeat first | exact mH | apply mT)) hul) rfl rfl ?_
 refine F9 rfl (hVu) rfl rfl (fun h95 => ?_) (fun h95 => ?_)
 refine H8 ?_
 refine sL (A2 rfl rfl (A6 (by repeat first | exact mH | apply mT)) hul) rfl rfl ?_
 (refine D3 rfl (A7F u G1 uc (A2Y (by assumption)) hru) rfl rfl (fun v G2 hle2 hh => ?_); obtain ⟨cs2, F2, rfl, hs2, hn2⟩ := hh; have hwl := hs2.R.len; have hwo := hs2.R.one)
 refine sS rfl rfl rfl hwl hwo rfl ?_ (hu := by exact C2 hwl.symm)
 refine sQ (qA rfl) rfl (sQ (qA rfl) rfl (sD (nS (tT ?_))))
 refine D2 (rC rfl (A2 rfl rfl (A6 (by repeat first | exact mH | apply mT)) hwl)) (rT rfl) (rT rfl) ?_
 (have h9 := hu1 (by omega); subst h9; exact K7.mk (A3C (by assumption) (by assumption) (by omega) (by assumption)) (hs2.R.mono (C1.le _ _)))
 refine K5 ?_
 refine D2 (rC rfl (A3 rfl rfl)) (rT rfl) (rT rfl) ?_
 (have h9 := hu1 (by omega); subst h9; exact K7.mk (A3B (by assumption) (by assumption) (by omega) (by assumption)) (M5 _))
 refine K5 ?_
 refine D2 (rC rfl (A3 rfl rfl)) (rT rfl) (rT rfl) ?_
 (exact K7.mk (A3A (by assumption)) (M5 _))
def O2 : Nat → Tm → Tm × Int × Int × Nat
 | 0, e => ((H5 e).1, (H5 e).2.1, (H5 e).2.2, 0)
 | n + 1, e => if (H5 e).2.1 = 1 then ((O2 n (H5 e).1).1, (O2 n (H5 e).1).2.1, (O2 n (H5 e).1).2.2.1, (O2 n (H5 e).1).2.2.2 + 1)
  else ((H5 e).1, (H5 e).2.1, (H5 e).2.2, 0)
theorem A56 (e : Tm) : O2 0 e = ((H5 e).1, (H5 e).2.1, (H5 e).2.2, 0) := by rw [O2]
theorem A57 {n : Nat} {e : Tm} (h : (H5 e).2.1 = 1) : O2 (n + 1) e = ((O2 n (H5 e).1).1, (O2 n (H5 e).1).2.1, (O2 n (H5 e).1).2.2.1, (O2 n (H5 e).1).2.2.2 + 1) := by rw [O2, if_pos h]
theorem A58 {n : Nat} {e : Tm} (h : (H5 e).2.1 ≠ 1) : O2 (n + 1) e = ((H5 e).1, (H5 e).2.1, (H5 e).2.2, 0) := by rw [O2, if_neg h]
theorem A4B : ∀ (n : Nat) (e : Tm), (O2 n e).2.1 = 1 → H3 n e = (I3, 5, 0, (O2 n e).2.2.2)
 | 0, e, h => by rw [A56] at h ⊢; rw [H3, if_pos h]
 | n + 1, e, h => by
  by_cases h1 : (H5 e).2.1 = 1
  ·rw [A57 h1] at h ⊢
   rw [H3, if_pos h1, A4B n _ h]
  ·rw [A58 h1] at h; exact absurd h h1
theorem A4C : ∀ (n : Nat) (e : Tm), (O2 n e).2.1 ≠ 1 → H3 n e = O2 n e
 | 0, e, h => by rw [A56] at h ⊢; rw [H3, if_neg h]
 | n + 1, e, h => by
  by_cases h1 : (H5 e).2.1 = 1
  ·rw [A57 h1] at h ⊢
   rw [H3, if_pos h1, A4C n _ h]
  ·rw [A58 h1]; rw [H3, if_neg h1]
theorem B3D (n : Nat) (e : Tm) : (H3 n e).2.2.2 = (O2 n e).2.2.2 := by
 by_cases h : (O2 n e).2.1 = 1
 ·rw [A4B n e h]
 ·rw [A4C n e h]
def EvP (r : Tm × Int × Int × Nat) : IM → Value → List A4 → Prop := K4 fun G' v => ∃ cells, v = .tuple ⟨[.agg ⟨cells⟩, .int .i64 r.2.1, .int .i64 r.2.2.1, .int .i64 (r.2.2.2 : Int)]⟩ ∧ A7 G' r.1 cells
def Z8 (i : Nat) (r : Tm × Int × Int × Nat) : Tm × Int × Int × Nat := (r.1, r.2.1, r.2.2.1, r.2.2.2 + i)
theorem B3E {m i : Nat} {e : Tm} (h : (H5 e).2.1 ≠ 1 ∨ m = 0) : Z8 i (O2 m e) = ((H5 e).1, (H5 e).2.1, (H5 e).2.2, i) := by
 cases m with
 | zero => simp [Z8, O2]
 | succ m =>
  rcases h with h | h
  ·simp only [Z8, O2]; rw [if_neg h]; simp
  ·cases h
theorem B3F {m i : Nat} {e : Tm} (h : (H5 e).2.1 = 1) (hm : 0 < m) : Z8 i (O2 m e) = Z8 (i + 1) (O2 (m - 1) (H5 e).1) := by
 obtain ⟨k, rfl⟩ : ∃ k, m = k + 1 := ⟨m - 1, by omega⟩
 simp only [Z8, O2]; rw [if_pos h]; simp only [Nat.add_sub_cancel, Nat.add_assoc, Nat.add_comm 1 i]
section fin
variable {P : Program} {Γ : L7} {env : M2} {hp : List A4} {G : IM}
theorem A88 {post : IM → Value → List A4 → Prop} {σ : Sy} (hk : post σ.G (.tuple ⟨[]⟩) []) : A0B P Γ [] post .normal σ := ⟨[], .nil, [], σ.hp, by simp, hk⟩
theorem A4D {r r2 r3 r4 : ResultVar} {post : IM → Value → List A4 → Prop} {v v2 v3 v4 : Value} (h : A0i P Γ ⟨env, hp, G⟩ r v) (h2 : A0i P Γ ⟨env, hp, G⟩ r2 v2) (h3 : A0i P Γ ⟨env, hp, G⟩ r3 v3) (h4 : A0i P Γ ⟨env, hp, G⟩ r4 v4) (hk : post G (.tuple ⟨[v, v2, v3, v4]⟩) []) :
  A0B P Γ [r, r2, r3, r4] post .ret ⟨env, hp, G⟩ := A3V (.cons h (.cons h2 (.cons h3 (.cons h4 .nil)))) hk
end fin
theorem EvP.mk {G : IM} {r : Tm × Int × Int × Nat} {u : Tm} {c l : Int} {i : Nat} {cells : List Value} (h : r = (u, c, l, i)) (hr : A7 G u cells) : EvP r G (.tuple ⟨[.agg ⟨cells⟩, .int .i64 c, .int .i64 l, .int .i64 (i : Int)]⟩) [] := by
 subst h; exact ⟨rfl, cells, rfl, hr⟩
theorem A89 (e : Tm) (n : Nat) (hn : n ≤ 300) (fid : FuncId) [B4 Tryz.prog fid] (us cs : List Value) (hq : ∀ (G : IM) (u : Tm) (cells : List Value), A7 G u cells → Fn Tryz.prog fid (us ++ [.agg ⟨cells⟩] ++ cs) [] G (I0 (.tuple ⟨[]⟩) G))
  (G : IM) (cells : List Value) (hr : A7 G e cells) : Fn Tryz.prog 54 [.agg ⟨cells⟩, .int .i64 (n : Int), .func (.func fid) ⟨us⟩ ⟨cs⟩] [] G (EvP (O2 n e)) := by
 have hRl := hr.len
 have hRo := hr.one
 have hq0 := hq G e cells hr
 refine B5 Tryz.func54 rfl Tryz.ntmps54 Tryz.results54 rfl ?_
 intro w0
 refine tS (tR ?_)
 refine sE (C0 rfl rfl) rfl (fun b3 => ?_)
 refine sE (A5 rfl) rfl (fun b4 => ?_)
 refine D8 ?_
 refine sL (A2 rfl rfl (A6 (by repeat first | exact mH | apply mT)) hRl) rfl rfl ?_
 (refine A6U rfl rfl hq0 rfl rfl ?_)
 refine sD (nS (tS (tR (sQ (qA rfl) rfl (sD (nS ?_))))))
 refine B9 ?_
 (refine K3 (fun (x : Nat × Tm × List Value × IM) => ⟨[(10, .int .i64 (x.1 : Int)), (1, .int .i64 (n : Int)), (2, .func (.func fid) ⟨us⟩ ⟨cs⟩), (3, .pointer (some ⟨b3, 0, none⟩)), (6, .pointer (some ⟨b4, 0, none⟩))], [.blk b3 x.2.2.1, .blk b4 [.int .i64 0, .string ⟨⟨[]⟩⟩, .int .i64 0, .int .i64 0, .slice none 0 0, .int .i64 0, .slice none 0 0, .int .i64 0, .slice none 0 0]], x.2.2.2⟩) (fun x => x.1 ≤ n ∧ B6 G x.2.2.2 ∧ A7 x.2.2.2 x.2.1 x.2.2.1 ∧ Z8 x.1 (O2 (n - x.1) x.2.1) = O2 n e) (fun x => n - x.1) (0, e, cells, G) ?_ ?_ ?_)
 (simp only [I5]; exact D5)
 (exact ⟨Nat.zero_le _, B6.refl _, hr, rfl⟩)
 (rintro ⟨i, u, uc, Gi⟩ ⟨hi, hle, hru, hev⟩; simp only [] at hi hle hru hev ⊢; have hul := hru.len; have huo := hru.one)
 refine tS ?_
 refine B9 ?_
 refine tS (tR ?_)
 refine sL (A2 rfl rfl (A6 (by repeat first | exact mH | apply mT)) hul) rfl rfl ?_
 (refine D3 rfl (B3C u Gi uc hru) rfl rfl (fun v G1 hle1 hh => ?_); obtain ⟨wc, hv, hrw⟩ := hh; have hwl := hrw.len; have hwo := hrw.one; have hend := @B3E (n - i) i u; have hgo := @B3F (n - i) i u; generalize H5 u = r at hv hrw hend hgo; obtain ⟨w, c, l⟩ := r; simp only at hv hrw hend hgo; subst hv)
 refine I8 ?_
 refine sE (A5 rfl) rfl (fun b37 => ?_)
 refine sS rfl rfl rfl hwl hwo rfl ?_ (hu := by exact C2 hwl.symm)
 refine D8 ?_
 refine sB (O5 rfl rfl) rfl rfl (fun h47 => ?_) (fun h47 => ?_)
 refine H8 ?_
 refine sL (A2 rfl rfl (A6 (by repeat first | exact mH | apply mT)) hwl) rfl rfl ?_
 refine sQ (qM rfl) rfl (sQ (qM rfl) rfl (sQ (qM rfl) rfl ?_))
 refine sS rfl rfl rfl hwl hwo rfl ?_ (hu := by exact C2 hwl.symm)
 refine J7 ?_
 refine A4D (rC rfl (A2 rfl rfl (A6 (by repeat first | exact mH | apply mT)) hwl)) (rT rfl) (rT rfl) (rT rfl) ?_
 (exact EvP.mk (by rw [← hev]; exact hend (by omega)) hrw)
 refine sQ (qM rfl) rfl (sQ (qM rfl) rfl (sQ (qM rfl) rfl ?_))
 refine sB (qE rfl rfl) rfl rfl (fun h79 => ?_) (fun h79 => ?_)
 refine sQ (M0 rfl rfl) rfl (sD (nS (qT rfl (tS (tR ?_)))))
 refine sL (A2 rfl rfl (A6 (by repeat first | exact mH | apply mT)) hwl) rfl rfl ?_
 refine sQ (qM rfl) rfl (sQ (qM rfl) rfl (sQ (qM rfl) rfl ?_))
 refine sS rfl rfl rfl hwl hwo rfl ?_ (hu := by exact C2 hwl.symm)
 refine J7 ?_
 refine A4D (rC rfl (A2 rfl rfl (A6 (by repeat first | exact mH | apply mT)) hwl)) (rT rfl) (rT rfl) (rT rfl) ?_
 (exact EvP.mk (by rw [← hev]; exact hend (by omega)) hrw)
 refine D8 ?_
 refine sL (A2 rfl rfl (A6 (by repeat first | exact mH | apply mT)) hwl) rfl rfl ?_
 refine O0 rfl rfl rfl hwl hwo rfl (by repeat first | exact Sw.here | apply Sw.there) (by exact C2 (hul.trans hwl.symm)) ?_
 refine sD (nS (tR (sQ (qM rfl) rfl ?_)))
 refine sL (A2 rfl rfl (A6 (by repeat first | exact mH | apply mT)) hwl) rfl rfl ?_
 (refine A6U rfl rfl (hq G1 w wc hrw) rfl rfl ?_)
 refine sD (M8 (nS (tR (sQ (qM rfl) rfl ?_))))
 refine sP (J6 rfl rfl (by omega) (by omega)) rfl rfl ?_
 refine sQ (qA rfl) rfl (sD ?_)
 refine K0 (i + 1, w, wc, G1) ?_ ?_ ?_
 (simp only [I5]; exact D5)
 (dsimp only; exact ⟨by omega, hle.trans hle1, hrw, by rw [← hev, hgo (by omega) (by omega), show n - (i + 1) = n - i - 1 by omega]⟩)
 (show n - (i + 1) < n - i; omega)
theorem A9a (fuel : Int) (G : IM) : Fn Tryz.prog 53 [.int .i64 fuel] [] G (I0 (.bool (Q3 fuel 0 300)) G) := by
 refine B5 Tryz.func53 rfl Tryz.ntmps53 Tryz.results53 rfl ?_
 intro w0
 refine D8 ?_
 refine E8 rfl ((A1a _ _ _ _)) rfl rfl ?_
 refine sQ (qA rfl) rfl (sD (nS (tT (E2 (rT rfl) ?_))))
 (exact ⟨rfl, rfl, rfl⟩)
theorem A9b {e : Tm} {fuel : Int} (h : Q3 fuel 0 300 = false) : K2 e fuel = (I3, 3, 0) := by
 unfold K2; rw [if_neg (A49 h)]; rfl
theorem B3G {e : Tm} {fuel : Int} (h : Q3 fuel 0 300 = true) (h1 : (O2 fuel.toNat e).2.1 = 1) : K2 e fuel = (I3, 5, 0) := by
 unfold K2; rw [if_pos (A18 h), A4B _ _ h1]
theorem B3H {e : Tm} {fuel : Int} (h : Q3 fuel 0 300 = true) (h1 : (O2 fuel.toNat e).2.1 ≠ 1) : K2 e fuel = ((O2 fuel.toNat e).1, (O2 fuel.toNat e).2.1, (O2 fuel.toNat e).2.2.1) := by
 unfold K2; rw [if_pos (A18 h), A4C _ _ h1]
theorem B3I (G : IM) (cells : List Value) (hl : cells.length = 9) (ho : cells.all (·.oneCell') = true) : Fn Tryz.prog 55 [.agg ⟨cells⟩] [] G (I0 (.tuple ⟨[]⟩) G) := by
 refine B5 Tryz.func55 rfl Tryz.ntmps55 Tryz.results55 rfl ?_
 intro w0
 refine tR ?_
 refine sE (C0 rfl rfl) rfl (fun b2 => ?_)
 refine sD ?_
 refine A88 ?_
 (exact ⟨rfl, rfl, rfl⟩)
theorem A4E (e : Tm) (fuel : Int) (G : IM) (cells : List Value) (hr : A7 G e cells) : Fn Tryz.prog 15 [.agg ⟨cells⟩, .int .i64 fuel] [] G (K7 (K2 e fuel)) := by
 have hRl := hr.len
 have hRo := hr.one
 have hno := @A9b e fuel
 have hmu := @B3G e fuel
 have hen := @B3H e fuel
 refine B5 Tryz.func15 rfl Tryz.ntmps15 Tryz.results15 rfl ?_
 intro w0
 refine tS (tR ?_)
 refine sE (C0 rfl rfl) rfl (fun b3 => ?_)
 refine sE (A5 rfl) rfl (fun b4 => ?_)
 refine D8 ?_
 refine F9 rfl ((A9a fuel _)) rfl rfl (fun h13 => ?_) (fun h13 => ?_)
 refine sQ (S6 rfl) rfl (sD (nS (cF rfl (tK (nS (tS (tR ?_)))))))
 refine sL (A2 rfl rfl (A6 (by repeat first | exact mH | apply mT)) hRl) rfl rfl ?_
 refine sQ (qM rfl) rfl ?_
 (have hf : Q3 fuel 0 300 = true := (by assumption); have hf2 := A18 hf; have hE := A89 e fuel.toNat (by omega) 55 [] [] (fun G u cells hru => B3I G cells hru.len hru.one) G cells hr; rw [Int.toNat_of_nonneg hf2.1] at hE; refine D3 rfl hE rfl rfl (fun v G1 hle1 hh => ?_); obtain ⟨wc, hv, hrw⟩ := hh; have hwl := hrw.len; have hwo := hrw.one; have hmu := hmu hf; have hen := hen hf; generalize O2 fuel.toNat e = r at hv hrw hmu hen; obtain ⟨w, c, l, i⟩ := r; simp only at hv hrw hmu hen; subst hv)
 refine P6 ?_
 refine sE (A5 rfl) rfl (fun b30 => ?_)
 refine sS rfl rfl rfl hwl hwo rfl ?_ (hu := by exact C2 hwl.symm)
 refine D7 ?_
 refine sB (qE rfl rfl) rfl rfl (fun h41 => ?_) (fun h41 => ?_)
 refine J4 ?_
 refine D2 (rC rfl (A3 rfl rfl)) (rT rfl) (rT rfl) ?_
 (exact K7.mk (hmu (by omega)) (M5 _))
 refine sD (nS (cF rfl (tK (nS (tS (tR ?_))))))
 refine sL (A2 rfl rfl (A6 (by repeat first | exact mH | apply mT)) hwl) rfl rfl ?_
 refine sQ (qM rfl) rfl (sQ (qM rfl) rfl ?_)
 refine sS rfl rfl rfl hwl hwo rfl ?_ (hu := by exact C2 hwl.symm)
 refine sQ (qA rfl) rfl (sQ (qA rfl) rfl (sD (nS (tT ?_))))
 refine D2 (rC rfl (A2 rfl rfl (A6 (by repeat first | exact mH | apply mT)) hwl)) (rT rfl) (rT rfl) ?_
 (exact K7.mk (hen (by omega)) hrw)
 refine L1 ?_
 refine D2 (rC rfl (A3 rfl rfl)) (rT rfl) (rT rfl) ?_
 (exact K7.mk (hno (by assumption)) (M5 _))
mutual
def T3 (L : Int → Prop) : Tm → Prop
 | .mk k nm num ty fr lb ks => (k = 14 → L lb) ∧ V5 L ks
def V5 (L : Int → Prop) : List Tm → Prop
 | [] => True
 | t :: ts => T3 L t ∧ V5 L ts
end
theorem A0o {L : Int → Prop} {k : Int} {nm : ByteArray} {num : Int} {ty fr : Ty} {lb : Int} {ks : List Tm} : T3 L (.mk k nm num ty fr lb ks) ↔ (k = 14 → L lb) ∧ V5 L ks := by rw [T3]
theorem A2p {L : Int → Prop} : ∀ {ts : List Tm}, V5 L ts ↔ ∀ t ∈ ts, T3 L t
 | [] => by simp [V5]
 | t :: ts => by rw [V5, A2p (ts := ts)]; simp
theorem A2q {L : Int → Prop} {e : Tm} {a b : Ty} {l : Int} (hl : L l) (h : T3 L e) : T3 L (K8 e a b l) := by
 rw [K8, A0o]; exact ⟨fun _ => hl, by simp [V5, h]⟩
theorem A59 {L : Int → Prop} {k : Int} {ks : List Tm} (hk : k ≠ 14) (h : ∀ t ∈ ks, T3 L t) : T3 L (V4 k ks) := by
 rw [V4, A0o]; exact ⟨fun e => absurd e hk, A2p.2 h⟩
mutual
theorem A9c {L : Int → Prop} {x : ByteArray} {v : Tm} (hv : T3 L v) : ∀ t, T3 L t → T3 L (Q8 x v t)
 | .mk k nm num ty fr lb ks, h => by
  rw [A0o] at h
  rw [Q8]
  split
  ·exact hv
  ·split
   ·rw [A0o]; exact h
   ·rw [A0o]; exact ⟨h.1, A9d hv ks h.2⟩
theorem A9d {L : Int → Prop} {x : ByteArray} {v : Tm} (hv : T3 L v) : ∀ ts, V5 L ts → V5 L (P3 x v ts)
 | [], _ => by rw [P3]; trivial
 | t :: ts, h => by rw [P3, V5]; exact ⟨A9c hv t h.1, A9d hv ts h.2⟩
end
def B6k (L : Int → Prop) (T : Ty) (r : Stp) : Prop := (r.2.1 = 1 ∧ E6 [] r.1 = some T ∧ T3 L r.1) ∨ (r.2.1 = 2 ∧ L r.2.2)
structure Wt (cx : Cx) (k : Int) (nm : ByteArray) (ty : Ty) (h w : List Ty) (t : Ty) : Prop where
 len : w = [] ∨ w.length = h.length
 ok : ∀ i, (hi : i < w.length) → (hh : i < h.length) → O9 h[i] w[i] = true ∧ M1 w[i] = true
 again : k ≠ 13 → Q5 cx k nm ty (if w = [] then h else w) = some (w, t)
 asT : k = 13 → w = [t]
def B6l (cx : Cx) (t : Tm) (D l : Int) (u : Tm) (a : Ty) (l' : Int) : Prop := P2 40 13 u D = true ∧ E6 cx u = some a ∧ M1 a = true ∧ l ≤ l' ∧ l' + 1 ≤ l + (C7 t : Int) ∧ (C7 u : Int) ≤ C7 t + (l' - l)
def B6m (k : Int) : Bool := decide (k = 5 ∨ k = 13)
def A6a : ByteArray := ⟨⟨[112, 97, 105, 114]⟩⟩
def A6b : ByteArray := ⟨⟨[102, 117, 110, 99, 116, 105, 111, 110]⟩⟩
def txT : ByteArray := ⟨⟨[84]⟩⟩
def txF : ByteArray := ⟨⟨[70]⟩⟩
def A9e (n : Int) : ByteArray := ⟨(Lib.decDigits n.toNat).toArray⟩
def A20 (k num : Int) : ByteArray := if k = 2 then A9e num else if k = 3 then txT else txF
mutual
def R0 : Tm → ByteArray
 | .mk k nm num ty fr lb ks => if k = 10 ∨ (Q7 (.mk k nm num ty fr lb []) = true ∧ ty.k = 5) then A6a else if k = 5 ∨ Q7 (.mk k nm num ty fr lb []) = true then A6b else if k = 14 then A3D ks else A20 k num
def A3D : List Tm → ByteArray
 | [] => ⟨⟨[]⟩⟩
 | t :: _ => R0 t
end
section
variable {k : Int} {nm : ByteArray} {num : Int} {ty fr : Ty} {lb : Int} {ks : List Tm}
theorem B3J (h : k = 10 ∨ (Q7 (.mk k nm num ty fr lb ks) = true ∧ ty.k = 5)) : R0 (.mk k nm num ty fr lb ks) = A6a := by
 rw [R0]
 exact if_pos h
theorem B3K (h : ¬(k = 10 ∨ (Q7 (.mk k nm num ty fr lb ks) = true ∧ ty.k = 5))) (h2 : k = 5 ∨ Q7 (.mk k nm num ty fr lb ks) = true) : R0 (.mk k nm num ty fr lb ks) = A6b := by
 rw [R0]
 exact (if_neg h).trans (if_pos h2)
theorem A9f (h : Q7 (.mk k nm num ty fr lb ks) = false) (hk : k = 14) (h0 : 0 < ks.length) : R0 (.mk k nm num ty fr lb ks) = R0 ks[0] := by
 rw [R0, if_neg (by rintro (h1 | h1); omega; exact Bool.noConfusion (h1.1.symm.trans h)), if_neg (by rintro (h1 | h1); omega; exact Bool.noConfusion (h1.symm.trans h)), if_pos hk]
 cases ks with
 | nil => simp at h0
 | cons t ts => rfl
theorem B3L (h : Q7 (.mk k nm num ty fr lb ks) = false) (hk : k ≠ 14) (h10 : k ≠ 10) (h5 : k ≠ 5) : R0 (.mk k nm num ty fr lb ks) = A20 k num := by
 rw [R0, if_neg (by rintro (h1 | h1); omega; exact Bool.noConfusion (h1.1.symm.trans h)), if_neg (by rintro (h1 | h1); omega; exact Bool.noConfusion (h1.symm.trans h)), if_neg hk]
end
section fin
variable {P : Program} {Γ : L7} {env : M2} {hp : List A4} {G : IM}
end fin
def CsP (bx : Nat) (e : Tm) (a b : Ty) (l : Int) : IM → Value → List A4 → Prop := fun G' v outs => ∃ cells, v = .agg ⟨cells⟩ ∧ outs = [.blk bx [.int .i64 (if K9 a b = true then l else l + 1)]] ∧ A7 G' (if K9 a b = true then e else K8 e a b (l + 1)) cells
def ElP (bx : Nat) (cx : Cx) (e : Tm) (l : Int) : IM → Value → List A4 → Prop := fun G' v outs => ∃ u cu t ct l', v = .tuple ⟨[.agg ⟨cu⟩, .agg ⟨ct⟩, .bool (mEl cx e l).isSome]⟩ ∧ outs = [.blk bx [.int .i64 l']] ∧ A7 G' u cu ∧ B3 G' t ct ∧ l ≤ l' ∧ l' + 1 ≤ l + (C7 e : Int) ∧ ∀ r, mEl cx e l = some r → r = (u, t, l')
section
variable {cx : Cx} {k : Int} {nm : ByteArray} {num : Int} {ty fr : Ty} {lb : Int} {ks us : List Tm} {h : List Ty} {l l' : Int}
end
theorem B3M (e : Tm) (G : IM) (cells : List Value) (hr : A7 G e cells) : Fn Tryz.prog 13 [.agg ⟨cells⟩] [] G (V1 (S9 e) G) := by
 have hl := hr.len
 have hone := hr.one
 refine B5 Tryz.func13 rfl Tryz.ntmps13 Tryz.results13 rfl ?_
 intro w0
 refine tS (tR ?_)
 refine sE (C0 rfl rfl) rfl (fun b3 => ?_)
 refine sE (A5 rfl) rfl (fun b4 => ?_)
 refine sQ (qA rfl) rfl (sD (nS (tS (tS (tR ?_)))))
 refine sL (A2 rfl rfl (A6 (by repeat first | exact mH | apply mT)) hl) rfl rfl ?_
 refine F9 rfl ((A1x e _ _ hr)) rfl rfl (fun h12 => ?_) (fun h12 => ?_)
 refine sQ (S6 rfl) rfl (sD (nS (cF rfl (tK (nS (tS (tR ?_)))))))
 refine sL (A2 rfl rfl (A6 (by repeat first | exact mH | apply mT)) hl) rfl rfl ?_
 focus (have hcv : I2 e = true := (by assumption); have hsh := ((A0Z e).1 hcv).1; refine D3 rfl (A8G e 1 [] G none 0 0 _ hsh (by omega) (S1.nil G) hr) rfl rfl (fun v G1 hle1 hh => ?_); obtain ⟨cu, u, rfl, hru, hu⟩ := hh; obtain ⟨p1, c1, e1, rfl, _⟩ := hru.open; rcases hct : E6 [] e with _ | u2; rotate_left; obtain rfl := hu u2 hct; rotate_left)
 refine I6 ?_
 refine sE (A5 rfl) rfl (fun b26 => ?_)
 refine Y1 ?_
 refine D6 (rC rfl (A3 rfl rfl)) (rT rfl) ?_
 (exact V1.no (u := B1) (J8 _ ⟨by omega, by omega⟩) rfl (by rw [S9, if_pos hcv]; exact hct))
 refine I6 ?_
 refine sE (A5 rfl) rfl (fun b53 => ?_)
 refine R2 ?_
 (refine D3 rfl (A1u _ G1 _ (A4v hsh hct).small hru) rfl rfl (fun v G2 hle2 hh => ?_); obtain ⟨cs2, F2, rfl, hs2, hn2⟩ := hh; obtain ⟨p2, c2, rfl, _⟩ := hs2.open; have hr2 := hs2.R.mono (C1.le G2 G1))
 refine F8 ?_
 refine sQ (qA rfl) rfl (sD (nS (tT ?_)))
 refine D6 (rC rfl (A3 rfl rfl)) (rT rfl) ?_
 (exact V1.yes hr2 rfl (by rw [S9, if_pos hcv]; exact hct))
 refine J4 ?_
 refine D6 (rC rfl (A3 rfl rfl)) (rT rfl) ?_
 (exact V1.no (u := B1) (J8 _ ⟨by omega, by omega⟩) rfl (by rw [S9, if_neg (by simp [*])]))
def B6n (r : Option (Tm × Ty)) : IM → Value → List A4 → Prop := K4 fun G' v => ∃ cu ct, v = .tuple ⟨[.agg ⟨cu⟩, .agg ⟨ct⟩, .bool r.isSome]⟩ ∧ A7 G' (r.getD (I3, B1)).1 cu ∧ B3 G' (r.getD (I3, B1)).2 ct
def A9g (e : Tm) : Option Ty := match A8I e with | some (_, t) => some t | none => none
def A9h (e : Tm) (fuel : Int) : ByteArray × Int × Int := match A8I e with
 | none => (⟨⟨[]⟩⟩, 3, 0)
 | some (u, _) => if (K2 u fuel).2.1 = 0 then (R0 (K2 u fuel).1, 0, 0) else (⟨⟨[]⟩⟩, (K2 u fuel).2.1, (K2 u fuel).2.2)
def B6o (r : ByteArray × Int × Int) (G : IM) : IM → Value → List A4 → Prop := K4 fun _ v => v = .tuple ⟨[.string r.1, .int .i64 r.2.1, .int .i64 r.2.2]⟩
theorem A9i : ∀ (n : Nat) (e : Tm), (O2 n e).2.1 = 0 → I2 (O2 n e).1 = true ∧ E7 (O2 n e).1 = true ∧ (O2 n e).2.2.1 = 0
 | 0, e, h => by rw [A56] at h ⊢; exact stepv e h
 | n + 1, e, h => by
  by_cases h1 : (H5 e).2.1 = 1
  ·rw [A57 h1] at h ⊢; exact A9i n _ h
  ·rw [A58 h1] at h ⊢; exact stepv e h
where
 stepv (e : Tm) (h : (H5 e).2.1 = 0) : I2 (H5 e).1 = true ∧ E7 (H5 e).1 = true ∧ (H5 e).2.2 = 0 := by
  cases h1 : I2 e with
  | false => rw [A3A h1] at h; simp at h
  | true =>
   cases h2 : E7 e with
   | true => rw [A2Z h1 h2]; exact ⟨h1, h2, rfl⟩
   | false =>
    by_cases h3 : (H0 e).2.1 = 1
    ·cases h4 : I2 (H0 e).1 with
     | false => rw [A3B h1 h2 h3 h4] at h; simp at h
     | true => rw [A3C h1 h2 h3 h4] at h; simp at h
    ·rw [A4A h1 h2 h3] at h
     exact absurd h (stp_ne0 e)
 stp_ne0 : ∀ (e : Tm), (H0 e).2.1 ≠ 0 := by
  refine Tm.ind fun k nm num ty fr lb ks ih => ?_
  rw [H0]
  cases hL : Q6 (if k = 9 then 1 else ks.length) ks with
  | none => exact red_ne0 k ty fr lb ks
  | some p =>
   obtain ⟨us, c, l⟩ := p
   have := stpL_ne0 ks ih _ us c l hL
   simp only
   by_cases hc : c = 1
   ·rw [if_pos hc]; simp
   ·rw [if_neg hc]; exact this
 red_ne0 (k : Int) (ty fr : Ty) (lb : Int) (ks : List Tm) : (N0 k ty fr lb ks).2.1 ≠ 0 := by
  unfold N0 Q9
  repeat' split
  all_goals simp
 stpL_ne0 (ks : List Tm) (ih : ∀ t ∈ ks, (H0 t).2.1 ≠ 0) : ∀ (n : Nat) us c l, Q6 n ks = some (us, c, l) → c ≠ 0 := by
  induction ks with
  | nil => intro n us c l h; cases n <;> simp [Q6] at h
  | cons t ts iht =>
   intro n us c l h
   cases n with
   | zero => simp [Q6] at h
   | succ n =>
    rw [A2o] at h
    by_cases hv : E7 t = true
    ·rw [if_pos hv] at h
     split at h
     ·rename_i us' c' l' h'
      simp only [Option.some.injEq, Prod.mk.injEq] at h
      obtain ⟨_, rfl, _⟩ := h
      exact iht (fun u hu => ih u (List.mem_cons_of_mem _ hu)) n _ _ _ h'
     ·cases h
    ·rw [if_neg hv] at h
     simp only [Option.some.injEq, Prod.mk.injEq] at h
     obtain ⟨_, rfl, _⟩ := h
     exact ih t List.mem_cons_self
def B3N (r s : ByteArray × Int × Int) : Int := if r.2.1 = 2 then 2 else if r.2.1 ≠ 0 ∨ s.2.1 = 4 ∨ s.2.1 = 5 then 3 else if s.2.1 = 0 ∧ r.1 = s.1 then 1 else 4
def B6p (a b : Tm) (fuel : Int) : Int := if (A9g a).isSome = true ∧ B3c a b = true ∧ Q3 fuel 0 300 = true then B3N (A9h a fuel) (A9h b fuel) else 0
def gxT : GX → ByteArray
 | .n n => A9e n
 | .b b => if b = true then txT else txF
 | .p => A6a
 | .f => A6b
theorem A9j {v : GE} (h : GV v) : R0 v.tm = gxT v.tx := by
 induction h with
 | num => rfl
 | @tru b => cases b <;> rfl
 | lam => rfl
 | pair _ _ _ _ => rfl
 | pf _ _ => rfl
 | pp _ _ => rfl
 | @inj A l e hv hg i =>
  rw [GE.tm, A9f (h0 := by simp)]
  ·exact i
  ·rw [A1C]
   refine decide_eq_false ?_
   rintro ⟨_, _, h | h⟩ <;> simp [GT.ty, Ty.k] at h
  ·rfl
theorem B3O {k : Int} {nm : ByteArray} {num : Int} {ty fr : Ty} {lb : Int} {ks : List Tm} {d : Int} (h : P2 40 13 (.mk k nm num ty fr lb ks) d = true) :
  E0 k = ks.length ∧ k ≠ 13 ∧ (¬(k = 1 ∨ k = 5) → nm = ⟨#[]⟩) ∧ (k ≠ 2 → num = 0) ∧ (k = 5 ∨ k = 14 → M1 ty = true) ∧ (¬(k = 5 ∨ k = 14) → ty = B1) ∧ (k = 14 → A0D fr ty = true ∧ Y3 lb = true) ∧ (k ≠ 14 → fr = B1 ∧ lb = 0) ∧ V3 40 13 ks (d + 1) = true := by
 obtain ⟨_, h2, h3, h4⟩ := A00 h
 obtain ⟨n1, n2, n3, n4, n5, n6, n7, n8, n9⟩ := V7.1 h3
 exact ⟨n1, h2, n3, fun hk => by have := A1B.1 (n5 hk); omega, fun hk => n6 (by omega), fun hk => A2g (n7 (by omega)), n8, fun hk => ⟨A2g (n9 hk).1, (n9 hk).2⟩, h4⟩
theorem A9k {D N d : Int} : ∀ {ks : List Tm}, V3 D N ks d = true → ∀ t ∈ ks, P2 D N t d = true
 | [], _, t, ht => by cases ht
 | u :: us, h, t, ht => by
  rw [V3, Bool.and_eq_true] at h
  rcases List.mem_cons.1 ht with rfl | ht
  ·exact h.1
  ·exact A9k h.2 t ht
theorem kl2 {α : Type} {l : List α} (h : (l.length : Int) = 2) : ∃ a b, l = [a, b] := by
 match l, h with
 | [a, b], _ => exact ⟨a, b, rfl⟩
 | [], h => simp at h
 | [_], h => simp at h
 | _ :: _ :: _ :: _, h => simp only [List.length_cons] at h; omega
theorem kl1 {α : Type} {l : List α} (h : (l.length : Int) = 1) : ∃ a, l = [a] := by
 match l, h with
 | [a], _ => exact ⟨a, rfl⟩
 | [], h => simp at h
 | _ :: _ :: _, h => simp only [List.length_cons] at h; omega
theorem kl3 {α : Type} {l : List α} (h : (l.length : Int) = 3) : ∃ a b c, l = [a, b, c] := by
 match l, h with
 | [a, b, c], _ => exact ⟨a, b, c, rfl⟩
 | [], h => simp at h
 | [_], h => simp at h
 | [_, _], h => simp at h
 | _ :: _ :: _ :: _ :: _, h => simp only [List.length_cons] at h; omega
theorem B3P {A : GT} {x y : Ty} (h : Ty.mk 4 [x, y] = A.ty) : ∃ B C : GT, x = B.ty ∧ y = C.ty ∧ A = .fn B C := by
 cases A <;> simp [GT.ty] at h
 exact ⟨_, _, h.1, h.2, rfl⟩
theorem B3Q {A : GT} {x y : Ty} (h : Ty.mk 5 [x, y] = A.ty) : ∃ B C : GT, x = B.ty ∧ y = C.ty ∧ A = .pr B C := by
 cases A <;> simp [GT.ty] at h
 exact ⟨_, _, h.1, h.2, rfl⟩
theorem B3R : ∀ (t : Tm) (d : Int) (cx : Cx) (Γ : GC) (T : Ty), P2 40 13 t d = true → CxR cx cx Γ → E6 cx t = some T → ∃ (g : GE) (A : GT), t = g.tm ∧ T = A.ty ∧ GP Γ g g A A := by
 refine Tm.ind fun k nm num ty fr lb ks ih d cx Γ T hs hcx hT => ?_
 obtain ⟨n1, n2, n3, n4, n5, n6, n7, n8, n9⟩ := B3O hs
 have hk : 1 ≤ k ∧ k ≤ 14 := by
  apply Classical.byContradiction
  intro hk
  rw [A3i hk] at n1; omega
 have S := A9k n9
 by_cases h5 : k = 5
 ·subst h5
  obtain rfl := n4 (by decide)
  obtain ⟨rfl, rfl⟩ := n8 (by decide)
  obtain ⟨x, rfl⟩ := kl1 (l := ks) (by have : E0 5 = 1 := rfl; omega)
  obtain ⟨A, rfl⟩ := A2W ty (n5 (.inl rfl))
  obtain ⟨B, hB, rfl⟩ := B28 hT
  obtain ⟨g, B', rfl, rfl, hp⟩ := ih x List.mem_cons_self (d + 1) _ _ B (S x List.mem_cons_self) (B3f hcx (Le.refl (a := A)) nm) hB
  exact ⟨.lam nm A g, .fn A B', rfl, rfl, .lam Le.refl hp⟩
 have I : ∀ t ∈ ks, ∀ T, E6 cx t = some T → ∃ (g : GE) (A : GT), t = g.tm ∧ T = A.ty ∧ GP Γ g g A A := fun t ht T h => ih t ht (d + 1) cx Γ T (S t ht) hcx h
 by_cases h14 : k = 14
 ·subst h14
  obtain rfl := n4 (by decide)
  obtain rfl := n3 (by decide)
  obtain ⟨x, rfl⟩ := kl1 (l := ks) (by have : E0 14 = 1 := rfl; omega)
  obtain ⟨B, rfl⟩ := A2W ty (n5 (.inr rfl))
  obtain ⟨h1, rfl⟩ := B27 hT
  obtain ⟨g, A, rfl, rfl, hp⟩ := I x List.mem_cons_self _ h1
  have hc : Co A B := by
   have := (n7 rfl).1
   unfold A0D at this
   simp only [Bool.and_eq_true] at this
   exact (B3d A B).1 this.2
  exact ⟨.cast A B lb g, B, rfl, rfl, .castB hp hc hc Le.refl⟩
 obtain ⟨rfl, rfl⟩ := n8 h14
 obtain rfl := n6 (by omega)
 by_cases h1 : k = 1
 ·subst h1
  obtain rfl := n4 (by decide)
  obtain rfl : ks = [] := List.length_eq_zero_iff.1 (by have : E0 1 = 0 := rfl; omega)
  obtain ⟨A, A', rfl, h2, h3, h4⟩ := hcx _ _ (A51 hT)
  have h5 := A51 hT
  rw [h2] at h5
  obtain rfl := GT.inj (Option.some.inj h5)
  exact ⟨.var nm, A', rfl, rfl, .var h3 h4⟩
 obtain rfl := n3 (by omega)
 by_cases h2 : k = 2
 ·subst h2
  obtain rfl : ks = [] := List.length_eq_zero_iff.1 (by have : E0 2 = 0 := rfl; omega)
  obtain rfl := B29 hT
  exact ⟨.num num, .int, rfl, rfl, .num⟩
 obtain rfl := n4 h2
 by_cases h34 : k = 3 ∨ k = 4
 ·obtain ⟨b, rfl⟩ : ∃ b : Bool, k = if b = true then 3 else 4 := by rcases h34 with h | h; exact ⟨true, h⟩; exact ⟨false, h⟩
  obtain rfl : ks = [] := List.length_eq_zero_iff.1 (by have : E0 (if b = true then 3 else 4) = 0 := (by cases b <;> rfl); omega)
  obtain rfl := B3a h34 hT
  exact ⟨.tru b, .bool, rfl, rfl, .tru⟩
 by_cases h6 : k = 6
 ·subst h6
  obtain ⟨x, y, rfl⟩ := kl2 (l := ks) (by have : E0 6 = 2 := rfl; omega)
  obtain ⟨A, h1, h2⟩ := A8Q hT
  obtain ⟨g, U, rfl, hU, hp⟩ := I x (by simp) _ h1
  obtain ⟨B, C, rfl, rfl, rfl⟩ := B3P hU
  obtain ⟨g2, U, rfl, hU2, hp2⟩ := I y (by simp) _ h2
  obtain rfl := GT.inj hU2
  exact ⟨.app g g2, C, rfl, rfl, .app hp hp2⟩
 by_cases h78 : k = 7 ∨ k = 8
 ·obtain ⟨b, rfl⟩ : ∃ b : Bool, k = if b = true then 8 else 7 := by rcases h78 with h | h; exact ⟨false, h⟩; exact ⟨true, h⟩
  obtain ⟨x, y, rfl⟩ := kl2 (l := ks) (by have : E0 (if b = true then 8 else 7) = 2 := (by cases b <;> rfl); omega)
  obtain ⟨h1, h2, rfl⟩ := A50 h78 hT
  obtain ⟨g, U, rfl, hU, hp⟩ := I x (by simp) _ h1
  obtain rfl : U = .int := GT.inj (b := .int) hU.symm
  obtain ⟨g2, U, rfl, hU2, hp2⟩ := I y (by simp) _ h2
  obtain rfl : U = .int := GT.inj (b := .int) hU2.symm
  exact ⟨.ar b g g2, if b = true then .bool else .int, rfl, by cases b <;> rfl, .ar hp hp2⟩
 by_cases h9 : k = 9
 ·subst h9
  obtain ⟨x, y, z, rfl⟩ := kl3 (l := ks) (by have : E0 9 = 3 := rfl; omega)
  obtain ⟨h1, h2, h3⟩ := A8R hT
  obtain ⟨g, U, rfl, hU, hp⟩ := I x (by simp) _ h1
  obtain rfl : U = .bool := GT.inj (b := .bool) hU.symm
  obtain ⟨g2, U, rfl, rfl, hp2⟩ := I y (by simp) _ h2
  obtain ⟨g3, V, rfl, hV, hp3⟩ := I z (by simp) _ h3
  obtain rfl := GT.inj hV
  exact ⟨.ite g g2 g3, U, rfl, rfl, .ite hp hp2 hp3⟩
 by_cases h10 : k = 10
 ·subst h10
  obtain ⟨x, y, rfl⟩ := kl2 (l := ks) (by have : E0 10 = 2 := rfl; omega)
  obtain ⟨A, B, h1, h2, rfl⟩ := A8S hT
  obtain ⟨g, U, rfl, rfl, hp⟩ := I x (by simp) _ h1
  obtain ⟨g2, V, rfl, rfl, hp2⟩ := I y (by simp) _ h2
  exact ⟨.pair g g2, .pr U V, rfl, rfl, .pair hp hp2⟩
 have h11 : k = 11 ∨ k = 12 := by omega
 obtain ⟨b, rfl⟩ : ∃ b : Bool, k = if b = true then 12 else 11 := by rcases h11 with h | h; exact ⟨false, h⟩; exact ⟨true, h⟩
 obtain ⟨x, rfl⟩ := kl1 (l := ks) (by have : E0 (if b = true then 12 else 11) = 1 := (by cases b <;> rfl); omega)
 obtain ⟨A, B, h1, rfl⟩ := A8T h11 hT
 obtain ⟨g, U, rfl, hU, hp⟩ := I x (by simp) _ h1
 obtain ⟨B', C, rfl, rfl, rfl⟩ := B3Q hU
 exact ⟨.part b g, if b = true then C else B', rfl, by cases b <;> rfl, .part hp⟩
inductive Sm : Nat → GE → GE → Prop
 | refl {e} : Sm 0 e e
 | step {n a b c} : GS a b → Sm n b c → Sm (n + 1) a c
theorem B3S : ∀ {m : Nat} {e w : GE}, Sm m e w → GV w → ∀ (n : Nat), I2 e.tm = true → ((H3 n e.tm).2.1 = 0 ∧ (H3 n e.tm).1 = w.tm) ∨ (H3 n e.tm).2.1 = 4 ∨ ((H3 n e.tm).2.1 = 5 ∧ n < m) := by
 intro m e w h
 induction h with
 | @refl e =>
  intro hv n hc
  have : H5 e.tm = (e.tm, 0, 0) := A2Z hc ((W5 _).2 hv)
  cases n with
  | zero => rw [H3, this]; exact .inl ⟨rfl, rfl⟩
  | succ n => rw [H3, this]; exact .inl ⟨rfl, rfl⟩
 | @step m a b c s _ ih =>
  intro hv n hc
  have hs := B2L s
  cases hcb : I2 b.tm with
  | false =>
   have : H5 a.tm = (I3, 4, 0) := A3B hc (nv s) (by rw [hs]) (by rw [hs]; exact hcb)
   cases n with
   | zero => rw [H3, this]; exact .inr (.inl rfl)
   | succ n => rw [H3, this]; exact .inr (.inl rfl)
  | true =>
   have : H5 a.tm = (b.tm, 1, 0) := by
    have h5 := A3C hc (nv s) (by rw [hs]) (by rw [hs]; exact hcb)
    rw [h5, hs]
   cases n with
   | zero => rw [H3, this]; exact .inr (.inr ⟨rfl, Nat.succ_pos _⟩)
   | succ n =>
    rw [B2M (by rw [this]), this]
    rcases ih hv n hcb with h1 | h1 | ⟨h1, h2⟩
    ·exact .inl h1
    ·exact .inr (.inl h1)
    ·exact .inr (.inr ⟨h1, by omega⟩)
theorem B3T {g g' : GE} {A A' : GT} (hp : GP emp g g' A A') (hv : GV g) (l m : Int) : ∃ n w, n ≤ 3 ∧ Sm n (.cast .any A m (.cast A .any l g)) w ∧ GV w ∧ w.tx = g.tx := by
 cases A with
 | any => exact ⟨2, g, by omega, .step (.cast1 (.cid hv (.inl rfl))) (.step (.cid hv (.inl rfl)) .refl), hv, rfl⟩
 | int => exact ⟨1, g, by omega, .step (.hit hv ⟨(by intro h; cases h), rfl⟩) .refl, hv, rfl⟩
 | bool => exact ⟨1, g, by omega, .step (.hit hv ⟨(by intro h; cases h), rfl⟩) .refl, hv, rfl⟩
 | fn a b =>
  by_cases hg : (GT.fn a b).gr = .fn a b
  ·exact ⟨1, g, by omega, .step (.hit hv ⟨(by intro h; cases h), hg⟩) .refl, hv, rfl⟩
  ·have hne : GT.fn a b ≠ .any := by intro h; cases h
   refine ⟨3, .cast (.fn .any .any) (.fn a b) m (.cast (.fn a b) (.fn .any .any) l g), by omega, .step (.cast1 (.up hv hne hg)) (.step (.down (.inj (.pf hv) ⟨(by intro h; cases h), rfl⟩) hne hg) (.step (.cast1 (.hit (.pf hv) ⟨(by intro h; cases h), rfl⟩)) .refl)), .pf (.pf hv), ?_⟩
   rw [B2F hp rfl rfl hv]; rfl
 | pr a b =>
  by_cases hg : (GT.pr a b).gr = .pr a b
  ·exact ⟨1, g, by omega, .step (.hit hv ⟨(by intro h; cases h), hg⟩) .refl, hv, rfl⟩
  ·have hne : GT.pr a b ≠ .any := by intro h; cases h
   refine ⟨3, .cast (.pr .any .any) (.pr a b) m (.cast (.pr a b) (.pr .any .any) l g), by omega, .step (.cast1 (.up hv hne hg)) (.step (.down (.inj (.pp hv) ⟨(by intro h; cases h), rfl⟩) hne hg) (.step (.cast1 (.hit (.pp hv) ⟨(by intro h; cases h), rfl⟩)) .refl)), .pp (.pp hv), ?_⟩
   rw [B2G hp rfl rfl hv]; rfl
theorem B3U {e : Tm} {t : Ty} (hc : I2 e = true) (hv : E7 e = true) (ht : E6 [] e = some t) (l m : Int) :
  let back : Tm := .mk 14 ⟨#[]⟩ 0 t L9 m [.mk 14 ⟨#[]⟩ 0 L9 t l [e]]
  (K2 back 100).2.1 = 4 ∨ ((K2 back 100).2.1 = 3 ∧ I2 back = false) ∨ ((K2 back 100).2.1 = 0 ∧ R0 (K2 back 100).1 = R0 e) := by
 obtain ⟨g, A, rfl, rfl, hp⟩ := B3R e 1 [] emp t ((A0Z _).1 hc).1 B3e ht
 intro back
 have hb : back = (GE.cast .any A m (.cast A .any l g)).tm := rfl
 have hE : ∀ u, K2 u 100 = ((H3 100 u).1, (H3 100 u).2.1, (H3 100 u).2.2.1) := fun u => by unfold K2; rw [if_pos (by decide)]; rfl
 rw [hE]
 cases hcb : I2 back with
 | false =>
  refine .inr (.inl ⟨?_, rfl⟩)
  show (H3 100 back).2.1 = 3
  rw [H3, A3A hcb]; rfl
 | true =>
  have hvg := (W5 g).1 hv
  obtain ⟨n, w, h1, h2, h3, h4⟩ := B3T hp hvg l m
  rw [hb] at hcb ⊢
  rcases B3S h2 h3 100 hcb with ⟨g1, g2⟩ | g1 | ⟨_, g1⟩
  ·refine .inr (.inr ⟨g1, ?_⟩)
   show R0 (H3 100 _).1 = _
   rw [g2, A9j h3, A9j hvg, h4]
  ·exact .inl g1
  ·omega
inductive Bl : GE → Int → Prop
 | app1 {f a L} : Bl f L → Bl (.app f a) L
 | app2 {f a L} : GV f → Bl a L → Bl (.app f a) L
 | ar1 {s a b L} : Bl a L → Bl (.ar s a b) L
 | ar2 {s a b L} : GV a → Bl b L → Bl (.ar s a b) L
 | ite1 {c a b L} : Bl c L → Bl (.ite c a b) L
 | pair1 {a b L} : Bl a L → Bl (.pair a b) L
 | pair2 {a b L} : GV a → Bl b L → Bl (.pair a b) L
 | part1 {s e L} : Bl e L → Bl (.part s e) L
 | cast1 {A B l e L} : Bl e L → Bl (.cast A B l e) L
 | fail {G H l m w} : GV w → G.Gd → H.Gd → G ≠ H → Bl (.cast .any G l (.cast H .any m w)) l
section
variable {k : Int} {nm : ByteArray} {num : Int} {ty fr : Ty} {lb : Int} {a b : Tm} {l : Int}
end
def GT.cp : GT → Prop
 | .fn _ _ => True
 | .pr _ _ => True
 | _ => False
def A9l : List Int → GE → GE
 | [], y => y
 | k :: ks, y => .cast .any .any k (A9l ks y)
inductive HR : GC → GE → GE → GT → Prop
 | var {Γ x A} : Γ x = some (A, A) → HR Γ (.var x) (.var x) A
 | num {Γ n} : HR Γ (.num n) (.num n) .int
 | tru {Γ b} : HR Γ (.tru b) (.tru b) .bool
 | lam {Γ x A B e e'} : HR (gup Γ x A A) e e' B → HR Γ (.lam x A e) (.lam x A e') (.fn A B)
 | app {Γ f f' a a' A B} : HR Γ f f' (.fn A B) → HR Γ a a' A → HR Γ (.app f a) (.app f' a') B
 | ar {Γ s a a' b b'} : HR Γ a a' .int → HR Γ b b' .int → HR Γ (.ar s a b) (.ar s a' b') (if s = true then .bool else .int)
 | ite {Γ c c' a a' b b' A} : HR Γ c c' .bool → HR Γ a a' A → HR Γ b b' A → HR Γ (.ite c a b) (.ite c' a' b') A
 | pair {Γ a a' b b' A B} : HR Γ a a' A → HR Γ b b' B → HR Γ (.pair a b) (.pair a' b') (.pr A B)
 | part {Γ s e e' A B} : HR Γ e e' (.pr A B) → HR Γ (.part s e) (.part s e') (if s = true then B else A)
 | cast {Γ e x A B l} : HR Γ e x A → Co A B → HR Γ (.cast A B l e) (.cast A B l x) B
 | idR {Γ e x A l} : HR Γ e x A → HR Γ e (.cast A A l x) A
 | idL {Γ e x A l} : HR Γ e x A → HR Γ (.cast A A l e) x A
 | back {Γ e x B l m} (ks : List Int) : HR Γ e x B → HR Γ e (.cast .any B l (A9l ks (.cast B .any m x))) B
 | backG {Γ e x B l m} : HR Γ e x B → B.cp → HR Γ e (.cast B.gr B l (.cast B B.gr m x)) B
 | dyn {Γ e x A B l} : HR Γ e x A → Co A B → HR Γ (.cast A B l e) (.cast .any B l (.cast A .any l x)) B
 | dynG {Γ e x A B l} : HR Γ e x A → Co A B → A.cp → B.cp → HR Γ (.cast A B l e) (.cast B.gr B l (.cast A A.gr l x)) B
 | dynU {Γ e x A B l} : HR Γ e x A → Co A B → A.cp → HR Γ (.cast A B l e) (.cast .any B l (.cast A.gr .any l (.cast A A.gr l x))) B
inductive WT : GC → GE → GT → Prop
 | var {Γ x A} : Γ x = some (A, A) → WT Γ (.var x) A
 | num {Γ n} : WT Γ (.num n) .int
 | tru {Γ b} : WT Γ (.tru b) .bool
 | lam {Γ x A B e} : WT (gup Γ x A A) e B → WT Γ (.lam x A e) (.fn A B)
 | app {Γ f a A B} : WT Γ f (.fn A B) → WT Γ a A → WT Γ (.app f a) B
 | ar {Γ s a b} : WT Γ a .int → WT Γ b .int → WT Γ (.ar s a b) (if s = true then .bool else .int)
 | ite {Γ c a b A} : WT Γ c .bool → WT Γ a A → WT Γ b A → WT Γ (.ite c a b) A
 | pair {Γ a b A B} : WT Γ a A → WT Γ b B → WT Γ (.pair a b) (.pr A B)
 | part {Γ s e A B} : WT Γ e (.pr A B) → WT Γ (.part s e) (if s = true then B else A)
 | cast {Γ e A B l} : WT Γ e A → Co A B → WT Γ (.cast A B l e) B
def gbk (A B : GT) (l : Int) (a : GE) : GE := if K9 A.ty B.ty = true then a else match a with
 | .cast C D m x => if A.ty.k = 1 ∧ D.ty.k = 1 ∧ K9 B.ty C.ty = true then x else .cast A B l (.cast C D m x)
 | a => .cast A B l a
def GE.simp : GE → GE
 | .var x => .var x
 | .num n => .num n
 | .tru b => .tru b
 | .lam x A e => .lam x A e.simp
 | .app f a => .app f.simp a.simp
 | .ar s a b => .ar s a.simp b.simp
 | .ite c a b => .ite c.simp a.simp b.simp
 | .pair a b => .pair a.simp b.simp
 | .part s e => .part s e.simp
 | .cast A B l e => gbk A B l e.simp
def GE.dynm : GE → GE
 | .var x => .var x
 | .num n => .num n
 | .tru b => .tru b
 | .lam x A e => .lam x A e.dynm
 | .app f a => .app f.dynm a.dynm
 | .ar s a b => .ar s a.dynm b.dynm
 | .ite c a b => .ite c.dynm a.dynm b.dynm
 | .pair a b => .pair a.dynm b.dynm
 | .part s e => .part s e.dynm
 | .cast A B l e => if A.ty.k = 1 ∨ B.ty.k = 1 then .cast A B l e.dynm else .cast .any B l (.cast A .any l e.dynm)
def B3V (t : Tm) : Tm := if t.k ≠ 14 then t else if K9 t.fr t.ty = true then kd t.ks 0 else if t.fr.k = 1 ∧ (kd t.ks 0).k = 14 ∧ (kd t.ks 0).ty.k = 1 ∧ K9 t.ty (kd t.ks 0).fr = true then kd (kd t.ks 0).ks 0 else t
def B3W (t : Tm) : Tm := if t.k ≠ 14 ∨ t.fr.k = 1 ∨ t.ty.k = 1 then t else K8 (K8 (kd t.ks 0) t.fr L9 t.lb) L9 t.ty t.lb
section
variable {cx : Cx} {k : Int} {nm : ByteArray} {num : Int} {ty fr : Ty} {lb : Int} {a b c a' b' c' : Tm} {T : Ty}
end
section
variable {D N : Int} {k : Int} {nm : ByteArray} {num : Int} {ty fr : Ty} {lb : Int} {a b c a' b' c' : Tm} {d d' : Int}
end
theorem B3X {n : Nat} {e : Tm} (h : (H3 n e).2.1 = 0) : I2 (H3 n e).1 = true ∧ E7 (H3 n e).1 = true ∧ (H3 n e).2.2.1 = 0 := by
 have hR : (O2 n e).2.1 ≠ 1 := fun h1 => by rw [A4B n e h1] at h; cases h
 rw [A4C n e hR] at h ⊢
 exact A9i n e h
theorem A9m {e : Tm} {n : Int} (h : (K2 e n).2.1 = 0) : I2 (K2 e n).1 = true ∧ E7 (K2 e n).1 = true ∧ (K2 e n).2.2 = 0 := by
 unfold K2 at h ⊢
 split at h
 ·rename_i hn; rw [if_pos hn]; exact B3X h
 ·cases h
def Agr (a b : Tm) (n m : Int) : Prop := (K2 a n).2.1 = 4 ∨ (K2 a n).2.1 = 5 ∨ (K2 b m).2.1 = 4 ∨ (K2 b m).2.1 = 5 ∨
 ((K2 a n).2.1 = 0 ∧ (K2 b m).2.1 = 0 ∧ R0 (K2 a n).1 = R0 (K2 b m).1) ∨
 ((K2 a n).2.1 = 2 ∧ (K2 b m).2.1 = 2 ∧ (K2 a n).2.2 = (K2 b m).2.2)
def B6q (e : Tm) : Tm × Bool := if I2 e = true then (A1v B3V e, true) else (I3, false)
def pAt (t : Tm) (label : Int) (l : List Int) : Bool := match tAt t l with
 | some x => decide (x.k = 14 ∧ x.lb = label)
 | none => false
def A6c (t : Tm) (label : Int) : List Int × Bool := match (B1b t).find? (pAt t label) with
 | some l => (l, true)
 | none => ([], false)
def SP1 (G : IM) (l : List Int) (p : Option Addr) (c : Nat) : Prop := Sl G p l.length c 1 (S4 l) ∧ ∀ b ∈ J2 p, G b ≠ none
def CpP (t : Tm) (label : Int) (G : IM) : IM → Value → List A4 → Prop := K4 fun G' v => ∃ p c, v = .tuple ⟨[.slice p (A6c t label).1.length c, .bool (A6c t label).2]⟩ ∧ SP1 (C1 G' G) (A6c t label).1 p c
mutual
def M6 : Tm → List Tm
 | .mk k nm num ty fr lb ks => (if k = 14 then [.mk k nm num ty fr lb ks] else []) ++ M7 ks
def M7 : List Tm → List Tm
 | [] => []
 | t :: ts => M6 t ++ M7 ts
end
theorem A4F : ∀ (a b : List Tm), M7 (a ++ b) = M7 a ++ M7 b
 | [], b => by rw [M7, List.nil_append, List.nil_append]
 | t :: a, b => by rw [List.cons_append, M7, M7, A4F a b, List.append_assoc]
theorem A4G {ks : List Tm} {i : Nat} (hi : i < ks.length) : M7 (ks.take (i + 1)) = M7 (ks.take i) ++ M6 ks[i] := by
 rw [List.take_succ_eq_append_getElem hi, A4F, M7, M7, List.append_nil]
mutual
theorem A2r : ∀ t : Tm, (M6 t).length ≤ C7 t
 | .mk k nm num ty fr lb ks => by
  have := A1D ks
  rw [M6, C7, List.length_append]
  split <;> simp <;> omega
theorem A1D : ∀ ts : List Tm, (M7 ts).length ≤ E5 ts
 | [] => by rw [M7, E5]; simp
 | t :: ts => by
  have := A2r t
  have := A1D ts
  rw [M7, E5, List.length_append]; omega
end
def A9n (label : Int) (x : Tm) : Bool := decide (x.lb = label)
def B6r (t : Tm) (label : Int) : Prop := ((M6 t).find? (A9n label) = none → (A35 t []).find? (pAt t label) = none) ∧ (∀ x, (M6 t).find? (A9n label) = some x → ∃ l, (A35 t []).find? (pAt t label) = some l ∧ tAt t l = some x)
def A9o (label : Int) : List Tm → List Ty
 | [] => []
 | c :: cs => (if c.lb = label then [c.fr, c.ty] else []) ++ A9o label cs
def B6s (t : Tm) (label : Int) : List Ty := if I2 t = true then A9o label (M6 t) else []
mutual
def A21 : GT → GT → Bool
 | _, .any => true
 | .fn a b, .fn c d => A1U c a && A21 b d
 | .pr a b, .pr c d => A21 a c && A21 b d
 | .int, .int => true
 | .bool, .bool => true
 | _, _ => false
termination_by a b => SizeOf.sizeOf a + SizeOf.sizeOf b
def A1U : GT → GT → Bool
 | .any, _ => true
 | .fn a b, .any => A21 .any a && A1U b .any
 | .pr a b, .any => A1U a .any && A1U b .any
 | .int, .any => true
 | .bool, .any => true
 | .fn a b, .fn c d => A21 c a && A1U b d
 | .pr a b, .pr c d => A1U a c && A1U b d
 | .int, .int => true
 | .bool, .bool => true
 | _, _ => false
termination_by a b => SizeOf.sizeOf a + SizeOf.sizeOf b
end
def GQ (Q : GT → GT → Int → Prop) : GE → Prop
 | .var _ => True
 | .num _ => True
 | .tru _ => True
 | .lam _ _ e => GQ Q e
 | .app f a => GQ Q f ∧ GQ Q a
 | .ar _ a b => GQ Q a ∧ GQ Q b
 | .ite c a b => GQ Q c ∧ GQ Q a ∧ GQ Q b
 | .pair a b => GQ Q a ∧ GQ Q b
 | .part _ e => GQ Q e
 | .cast A B l e => Q A B l ∧ GQ Q e
structure Clo (Q : GT → GT → Int → Prop) : Prop where
 fn : ∀ {a b c d l}, Q (.fn a b) (.fn c d) l → Q c a (-l) ∧ Q b d l
 pr : ∀ {a b c d l}, Q (.pr a b) (.pr c d) l → Q a c l ∧ Q b d l
 up : ∀ {A l}, A ≠ .any → Q A .any l → Q A.gr .any l ∧ Q A A.gr l
 down : ∀ {B l}, B ≠ .any → Q .any B l → Q B.gr B l ∧ Q .any B.gr l
def QL (m : Int) : GT → GT → Int → Prop := fun A B l => (l = m → A21 A B = true) ∧ (l = -m → A1U A B = true)
mutual
def A22 : Tm → List Ty
 | .mk k _ _ ty _ _ ks => (if k = 5 ∨ k = 13 then [ty] else []) ++ A9p ks
def A9p : List Tm → List Ty
 | [] => []
 | t :: ts => A22 t ++ A9p ts
end
mutual
def A6d : Tm → List Ty → Tm
 | .mk k nm num ty fr lb ks, l => .mk k nm num (if k = 5 ∨ k = 13 then l.getD 0 B1 else ty) fr lb (A9q ks (if k = 5 ∨ k = 13 then l.drop 1 else l))
def A9q : List Tm → List Ty → List Tm
 | [], _ => []
 | t :: ts, l => A6d t l :: A9q ts (l.drop (A22 t).length)
end
def A9r (mask : Nat) : Nat → List Ty → List Ty
 | _, [] => []
 | i, t :: ts => (if (mask / 2 ^ i) % 2 = 1 then .mk 1 [] else t) :: A9r mask (i + 1) ts
def B3Y (e : Tm) (mask : Nat) : Tm := A6d e (A9r mask 0 (A22 e))
def B3Z (e : Tm) : List Tm := (List.range (2 ^ (A22 e).length)).map (B3Y e)
section cap
variable {P : Program} {Γ : L7} {env : M2} {hp : List A4} {G : IM} {K : Po} {ops : Array Oper} {rest : List Oper}
theorem St.slc_cap {a : Act} {w : World} {p : Option Addr} {c el sz n : Nat} {cs : List Value} {hp' : List A4} (hs : St Γ ⟨env, hp, G⟩ a w) (hk : Pk hp (.slc p c el sz n cs) hp') : n ≤ c := by
 have hown : S3 [.slc p c el sz n cs] G w := hs.res.own.of_mem hk.perm
 obtain ⟨hl, h⟩ := hown.ok _ List.mem_cons_self
 rcases h with ⟨hv, hn⟩ | ⟨g, cap, cur, hv, _, hg, hnc, hcm, hsz, ht⟩
 ·omega
 ·cases hv; exact hnc
theorem A9s {p : Option Addr} {c el sz n : Nat} {cs : List Value} {hp' : List A4} (hk : Pk hp (.slc p c el sz n cs) hp') (h : n ≤ c → I4 P Γ ops rest K ⟨env, hp, G⟩) : I4 P Γ ops rest K ⟨env, hp, G⟩ :=
 ⟨fun a w hs => (h (hs.slc_cap hk)).run a w hs⟩
end cap
theorem C6.append {G : IM} : ∀ {a b : List Tm} {es fs : List (List Value)}, C6 G a es → C6 G b fs → C6 G (a ++ b) (es ++ fs)
 | [], b, es, fs, h, h2 => by simp only [C6] at h; subst h; simpa using h2
 | t :: a, b, es, fs, h, h2 => by
  simp only [C6] at h
  obtain ⟨x, r, rfl, h3, h4⟩ := h
  simp only [List.cons_append, C6]
  exact ⟨x, r ++ fs, rfl, h3, C6.append h4 h2⟩
theorem C6.ones {G : IM} {ts : List Tm} {es : List (List Value)} (h : C6 G ts es) : ∀ u ∈ es.flatten, u.oneCell' = true := by
 intro u hu
 obtain ⟨e, he, hue⟩ := List.mem_flatten.1 hu
 obtain ⟨q, hq⟩ := List.getElem?_of_mem he
 exact List.all_eq_true.1 ((h.inv hq I3).2.one) u hue
theorem C6.one1 {G : IM} {t : Tm} {c : List Value} (h : A7 G t c) : C6 G [t] [c] := by
 simp only [C6]; exact ⟨c, [], rfl, h, rfl⟩
def B6t (ts : List Ty) : IM → Value → List A4 → Prop := fun G' v outs => ∃ p c es, v = .slice p ts.length c ∧ outs = [.slc p c 25 2 ts.length es.flatten] ∧ E3 G' ts es
def RtP (u : Tm) (l : List Ty) : IM → Value → List A4 → Prop := fun G' v outs => outs = [] ∧ ∃ cu p c el, v = .tuple ⟨[.agg ⟨cu⟩, .slice p l.length c]⟩ ∧ A7 G' u cu ∧ C5 G' p l.length c 2 el ∧ E3 G' l el
section bits
variable {P : Program} {Γ : L7} {env : M2} {hp : List A4} {G : IM} {ty : TypeId}
end bits
section wr
variable {P : Program} {Γ : L7} {env : M2} {hp : List A4} {G : IM} {ty : TypeId} {K : Po} {ops : Array Oper} {rest : List Oper}
variable {pos : String} {af : Array Edge} {gd : Option (Nat × Bool)}
end wr
theorem A1V : (Ty.mk 1 []).small := by simp [Ty.small, Ty.smallL]
theorem A23 (G : IM) : B3 G (.mk 1 []) [.int .i64 1, .slice none 0 0] := by
 simp only [B3]; exact ⟨none, 0, [], rfl, ⟨by decide, by decide⟩, C5.nil G 2, by simp [E3]⟩
def B6u (e : Tm) : Option (List Tm) := if (A9g e).isSome = true ∧ (A22 e).length ≤ 6 then some (B3Z e) else none
def CfP (r : Option (List Tm)) : IM → Value → List A4 → Prop := fun G' v outs => outs = [] ∧ ∃ p c es, v = .tuple ⟨[.slice p (r.getD []).length c, .bool r.isSome]⟩ ∧ C5 G' p (r.getD []).length c 9 es ∧ C6 G' (r.getD []) es
def MsP (r : Option (List Int)) (e : A4) (G : IM) : IM → Value → List A4 → Prop := fun G' v outs => outs = [e] ∧ ∃ p c, v = .tuple ⟨[.slice p (r.getD []).length c, .bool r.isSome]⟩ ∧ SP1 (C1 G' G) (r.getD []) p c
def IsP (l : List Int) (b : Bool) (G : IM) : IM → Value → List A4 → Prop := K4 fun G' v => ∃ p c, v = .tuple ⟨[.slice p l.length c, .bool b]⟩ ∧ SP1 (C1 G' G) l p c
theorem A7.nine {G : IM} {t : Tm} {cells : List Value} (h : A7 G t cells) : ∃ v1 v2 v3 v4 v5 v6 v7 v8 v9, cells = [v1, v2, v3, v4, v5, v6, v7, v8, v9] := by
 obtain ⟨_, _, _, _, _, _, _, _, _, rfl, _⟩ := h.open
 exact ⟨_, _, _, _, _, _, _, _, _, rfl⟩
theorem A3E {G : IM} {e : Tm} {ce : List Value} {k : Int} {nm : ByteArray} {tk : Int} {tks : List Ty} {q p : Option Addr} {d c : Nat} (hk : F4 k) (ht : B3 G (.mk tk tks) [.int .i64 tk, .slice q tks.length d]) (h1 : A7 G e ce) (hs : Sl G p 1 c 9 ce) :
  A7 G (.mk k nm 0 (.mk tk tks) B1 0 [e]) [.int .i64 k, .string nm, .int .i64 0, .int .i64 tk, .slice q tks.length d, .int .i64 0, .slice none 0 0, .int .i64 0, .slice p 1 c] := by
 obtain ⟨a1, a2⟩ := A2j h1 hs
 exact A7.of9 (ks := [e]) hk ⟨by omega, by omega⟩ ⟨by omega, by omega⟩ ht (J8 _ ⟨by omega, by omega⟩) a1 a2
theorem A3F {G : IM} {e f : Tm} {ce cf : List Value} {k : Int} {nm : ByteArray} {p : Option Addr} {c : Nat} (hk : F4 k) (h1 : A7 G e ce) (h2 : A7 G f cf) (hs : Sl G p 2 c 9 (ce ++ cf)) :
  A7 G (.mk k nm 0 B1 B1 0 [e, f]) [.int .i64 k, .string nm, .int .i64 0, .int .i64 0, .slice none 0 0, .int .i64 0, .slice none 0 0, .int .i64 0, .slice p 2 c] := by
 have hL : C6 G [e, f] [ce, cf] := by simp only [C6]; exact ⟨ce, [cf], rfl, h1, cf, [], rfl, h2, rfl⟩
 exact A7.of9 (ks := [e, f]) hk ⟨by omega, by omega⟩ ⟨by omega, by omega⟩ (J8 _ ⟨by omega, by omega⟩) (J8 _ ⟨by omega, by omega⟩)
  (C5.of (by simpa using hs) rfl hL.all (fun x hx => by obtain ⟨q, hq⟩ := List.getElem?_of_mem hx; exact (hL.inv hq I3).2.one)) hL
theorem B30 {G : IM} {e f g : Tm} {ce cf cg : List Value} {k : Int} {nm : ByteArray} {p : Option Addr} {c : Nat} (hk : F4 k) (h1 : A7 G e ce) (h2 : A7 G f cf) (h3 : A7 G g cg) (hs : Sl G p 3 c 9 (ce ++ (cf ++ cg))) :
  A7 G (.mk k nm 0 B1 B1 0 [e, f, g]) [.int .i64 k, .string nm, .int .i64 0, .int .i64 0, .slice none 0 0, .int .i64 0, .slice none 0 0, .int .i64 0, .slice p 3 c] := by
 have hL : C6 G [e, f, g] [ce, cf, cg] := by simp only [C6]; exact ⟨ce, [cf, cg], rfl, h1, cf, [cg], rfl, h2, cg, [], rfl, h3, rfl⟩
 exact A7.of9 (ks := [e, f, g]) hk ⟨by omega, by omega⟩ ⟨by omega, by omega⟩ (J8 _ ⟨by omega, by omega⟩) (J8 _ ⟨by omega, by omega⟩)
  (C5.of (by simpa using hs) rfl hL.all (fun x hx => by obtain ⟨q, hq⟩ := List.getElem?_of_mem hx; exact (hL.inv hq I3).2.one)) hL
def mB : Nat → Nat
 | 0 => 200
 | n + 1 => 3 * mB n + 200
theorem A1k (n : Nat) : 200 ≤ mB n := by cases n <;> simp only [mB] <;> omega
def A1l (n : Nat) (depth : Int) (t : Ty) : Prop := Q4 4 t ∧ (n : Int) - 1000 ≤ depth ∧ depth ≤ 1000 ∧ ((depth ≤ 1 ∧ Q4 n t) ∨ (2 ≤ depth ∧ depth + 3 ≤ n))
theorem A1l.sub {n : Nat} {depth : Int} {t t' : Ty} (h : A1l (n + 1) depth t) (hd : 1 < depth) (h4 : Q4 4 t') : A1l n (depth - 1) t' := by
 obtain ⟨h1, h2, h3, h5⟩ := h
 refine ⟨h4, by omega, by omega, ?_⟩
 rcases h5 with ⟨h5, _⟩ | ⟨h5, h6⟩
 ·omega
 ·by_cases h7 : 3 ≤ depth
  ·exact .inr ⟨by omega, by omega⟩
  ·exact .inl ⟨by omega, h4.le (by omega)⟩
theorem A1l.kid {n : Nat} {depth : Int} {k : Int} {ks : List Ty} {t' : Ty} (h : A1l (n + 1) depth (.mk k ks)) (ht : t' ∈ ks) : A1l n (depth - 1) t' := by
 have h4 : Q4 4 t' := (A5p h.1 ht).up
 by_cases hd : 1 < depth
 ·exact h.sub hd h4
 ·obtain ⟨h1, h2, h3, h5⟩ := h
  refine ⟨h4, by omega, by omega, .inl ⟨by omega, ?_⟩⟩
  rcases h5 with ⟨_, h5⟩ | ⟨h5, _⟩
  ·exact A5p h5 ht
  ·omega
theorem A1l.pos {n : Nat} {depth : Int} {k : Int} {ks : List Ty} (h : A1l n depth (.mk k ks)) (hd : 1 < depth ∨ k = 4 ∨ k = 5) : ∃ m, n = m + 1 := by
 cases n with
 | succ m => exact ⟨m, rfl⟩
 | zero =>
  obtain ⟨h1, h2, h3, h5⟩ := h
  rcases h5 with ⟨h5, h6⟩ | ⟨h5, h6⟩
  ·have := h6.2
   omega
  ·omega
theorem P8 : B1.small := by simp [B1, Ty.small, Ty.smallL]
theorem O3 {k : Int} {nm : ByteArray} {num : Int} (h : nm.size ≤ 1) : (Tm.mk k nm num B1 B1 0 []).small := by
 simp only [Tm.small, Tm.smallL]; exact ⟨by omega, P8, P8, by simp, trivial⟩
theorem L2 {k : Int} {nm : ByteArray} {num : Int} {ty : Ty} {a : Tm} (h : nm.size ≤ 1) (ht : ty.small) (ha : a.small) : (Tm.mk k nm num ty B1 0 [a]).small := by
 simp only [Tm.small, Tm.smallL]; exact ⟨by omega, ht, P8, by simp, ha, trivial⟩
theorem S2 {k : Int} {nm : ByteArray} {num : Int} {a b : Tm} (h : nm.size ≤ 1) (ha : a.small) (hb : b.small) : (Tm.mk k nm num B1 B1 0 [a, b]).small := by
 simp only [Tm.small, Tm.smallL]; exact ⟨by omega, P8, P8, by simp, ha, hb, trivial⟩
theorem A0p {k : Int} {nm : ByteArray} {num : Int} {a b c : Tm} (h : nm.size ≤ 1) (ha : a.small) (hb : b.small) (hc : c.small) : (Tm.mk k nm num B1 B1 0 [a, b, c]).small := by
 simp only [Tm.small, Tm.smallL]; exact ⟨by omega, P8, P8, by simp, ha, hb, hc, trivial⟩
theorem A0q : (Ty.mk 1 []).small := by simp [Ty.small, Ty.smallL]
def A9t (br : Nat) (pb : Option Addr) (nb cb : Nat) (bs : List UInt8) (n : Nat) : Prop := ∀ (depth : Int) (t : Ty) (p : Nat) (G : IM) (pc : Option Addr) (nc cc : Nat) (cells : List Value), A1l n depth t → (n : Int) - 1000 ≤ depth → depth ≤ 1000 → nc + n ≤ 40 → T7 G pc nc cc → B3 G t cells → Sl G pb nb cb 1 (N7 bs) → p + mB n < 1099511627776 →
 Fn Tryz.prog 127 [.pointer (some ⟨br, 0, none⟩), .slice pc nc cc, .agg ⟨cells⟩, .int .i64 depth] [rd br pb nb cb p] G
  (Z2 br pb nb cb p (mB n) (fun G' v => ∃ e cells, v = .agg ⟨cells⟩ ∧ A7 G' e cells ∧ e.small ∧ C7 e ≤ mB n))
theorem A9u (br : Nat) (pb : Option Addr) (nb cb : Nat) (bs : List UInt8) (hnb : nb ≤ 2000) (m : Nat) (hM : A9t br pb nb cb bs m) (depth : Int) (a t : Ty) (p : Nat) (G : IM) (pc : Option Addr) (nc cc : Nat) (ca cells : List Value)
  (hfu : A1l m depth t) (hd0 : (m : Int) - 1000 ≤ depth) (hd1 : depth ≤ 1000) (hnc : nc + 1 + m ≤ 40) (hx : T7 G pc nc cc) (hra : B3 G a ca) (haa : D4 a ∧ H2 a ≤ 30) (hrt : B3 G t cells) (hb : Sl G pb nb cb 1 (N7 bs)) (hp : p + 1 + mB m < 1099511627776) :
  Fn Tryz.prog 181 [.pointer (some ⟨br, 0, none⟩), .slice pc nc cc, .agg ⟨ca⟩, .agg ⟨cells⟩, .int .i64 depth] [rd br pb nb cb p] G
   (Z2 br pb nb cb p (1 + mB m) (fun G' v => ∃ e cells, v = .agg ⟨cells⟩ ∧ A7 G' e cells ∧ e.small ∧ C7 e ≤ 1 + mB m)) := by
 obtain ⟨ak, aks⟩ := a
 obtain ⟨tk, tks⟩ := t
 obtain ⟨pa, cca, ea, rfl, _⟩ := hra.open
 obtain ⟨pt, cct, et, rfl, _⟩ := hrt.open
 simp only [Ty.k, Ty.ks] at hra hrt ⊢
 refine B5 Tryz.func181 rfl Tryz.ntmps181 Tryz.results181 rfl ?_
 intro w0
 refine tS (tR ?_)
 refine sE (C0 rfl rfl) rfl (fun b3 => ?_)
 refine sE (C0 rfl rfl) rfl (fun b4 => ?_)
 refine sE (A5 rfl) rfl (fun b5 => ?_)
 refine sD (nS (tS (tR (sQ (qM rfl) rfl ?_))))
 (refine J5 (C8 rfl rfl rfl (by omega) (by unfold maxLen; omega) rfl) rfl ?_; rintro _ ⟨b11, rfl⟩)
 (refine S7 (by repeat (first | exact Pk.here | apply Pk.there)) (fun G4 hle4 hsl4 _ => ?_); refine H1 rfl (A5t G4 br pb nb cb p bs _ _ _ _ (hb.mono hle4) hnb (by omega) hsl4 (by decide)) (Pk.perm (by repeat (first | exact Pk.here | apply Pk.there))) rfl rfl (fun v G5 outs hle5 hh => ?_); obtain ⟨rfl, rfl, hv⟩ := hh; obtain ⟨nm, rfl, hnm⟩ : ∃ nm : ByteArray, v = .string nm ∧ nm.size ≤ 1 := (by simp only [List.mem_cons, List.not_mem_nil, or_false] at hv; rcases hv with rfl | rfl | rfl | rfl <;> exact ⟨_, rfl, by decide⟩); replace hra := hra.mono hle4; replace hx := hx.mono hle4; replace hb := hb.mono hle4; replace hrt := hrt.mono hle4;)
 refine sQ (qA rfl) rfl (sD (nS (tS ?_)))
 refine C9 D1 rfl ?_
 refine H6 (i := 0) (l' := [tt,ff,ff,ff,ff,ff,ff,ff,ff,ff,ff,ff,ff,ff]) rfl C4 (qM rfl) rfl (by kernel_rfl) rfl rfl ?_
 refine aL 1 rfl (A3 rfl rfl) rfl ?_
 refine aP 3 rfl (qM rfl) rfl ?_
 refine aP 4 rfl (qM rfl) rfl ?_
 refine aP 5 rfl (qM rfl) rfl ?_
 refine aL 6 rfl (A3 rfl rfl) rfl ?_
 refine aL 8 rfl (A3 rfl rfl) rfl ?_
 refine aP 9 rfl (qM rfl) rfl ?_
 refine A1 2 ?_
 (refine E1 rfl rfl (O6 _ _ _ haa.1.small hra) rfl rfl rfl (fun v G6 hle6 hh => ?_); obtain ⟨N6, F1, rfl, hs1, hn1⟩ := hh; obtain ⟨p1, c1, rfl, _⟩ := hs1.open; have hr1 := hs1.R.mono (C1.le G6 _); replace hra := hra.mono hle6; replace hx := hx.mono hle6; replace hb := hb.mono hle6; replace hrt := hrt.mono hle6;)
 refine A1 7 ?_
 (refine E1 rfl rfl (A5E _ pc nc cc nm (.mk ak aks) _ hx (by omega) hra haa.1 haa.2 hnm) rfl rfl rfl (fun v G7 hle7 hh => ?_); obtain ⟨pm, cm, rfl, hxm⟩ := hh; replace hr1 := hr1.mono hle7; replace hx := hx.mono hle7; replace hb := hb.mono hle7; replace hrt := hrt.mono hle7; have hcall := hM depth (.mk tk tks) (p + 1) _ pm (nc + 1) cm _ hfu hd0 hd1 (by omega) hxm hrt hb (by omega))
 refine A1 10 ?_
 (refine Z5 (l' := [tt,tt,tt,tt,tt,tt,tt,tt,tt,tt,tt,ff,ff,ff]) rfl rfl hcall (Pk.perm (by repeat (first | exact Pk.here | apply Pk.there))) rfl rfl rfl (by repeat (first | exact A8.nil | apply A8.dep (by decide +kernel) | apply A8.blk (by decide +kernel) (by repeat (first | exact Pk.here | apply Pk.there)) (by repeat first | exact mH | apply mT))) (fun v G8 outs hle8 hh => ?_); obtain ⟨p8, hp81, hp82, rfl, e8, c8, rfl, hr8, hs8, hc8⟩ := hh; obtain ⟨a1, a2, a3, a4, a5, a6, a7, a8, a9, rfl⟩ := hr8.nine; replace hr1 := hr1.mono hle8)
 refine A1 11 ?_
 (refine D9 rfl (C8 rfl rfl rfl (by omega) (by unfold maxLen; omega) rfl) rfl rfl ?_; rintro _ ⟨b33, rfl⟩)
 refine aP 12 rfl (Q1 rfl rfl) rfl ?_
 refine A1 13 ?_
 refine N4 rfl rfl rfl rfl rfl rfl rfl rfl (by decide +kernel) (by repeat first | exact Sw.here | apply Sw.there) (by rfl) ?_
 refine B8 (nS ?_)
 (refine H7 (cs := [a1, a2, a3, a4, a5, a6, a7, a8, a9]) (by repeat (first | exact Pk.here | apply Pk.there)) (fun G9 hle9 hsl9 hno9 => ?_); have hN := A3E (k := 5) (nm := nm) ⟨by omega, by omega⟩ (hr1.mono hle9) (hr8.mono hle9) hsl9)
 refine tT ?_
 refine H4 (outs := [rd br pb nb cb p8]) (rC rfl (A3 rfl rfl)) (by repeat (first | exact A0.nil | refine A0.cons Pk.here ?_ | refine A0.cons (Pk.there Pk.here) ?_ | refine A0.cons (Pk.there (Pk.there Pk.here)) ?_ | apply A0.drop)) ?_
 (exact ⟨p8, by omega, by omega, rfl, _, _, rfl, hN, L2 hnm haa.1.small hs8, by simp only [C7, E5]; omega⟩)
structure A3G {ι : Type} (S : ι → Sy) (φ : ι → Prop) (K : Po) (e : Exit) (σ : Sy) : Prop where
 run : match e with
  | .normal => ∃ i, φ i ∧ Sub σ (S i)
  | e => K e σ
section cut
variable {P : Program} {Γ : L7} {K : Po} {σ : Sy} {ι : Type}
theorem A9v {c y : Code} (S : ι → Sy) (φ : ι → Prop) (h : I9 P Γ c (A3G S φ K) σ) (k : ∀ i, φ i → I9 P Γ y K (S i)) : I9 P Γ c (A0O P Γ y K) σ := by
 refine A4S h ?_
 rintro e σ ⟨hk⟩
 cases e with
 | normal => obtain ⟨i, hi, hs⟩ := hk; exact ⟨A6D hs (k i hi)⟩
 | _ => exact ⟨hk⟩
theorem A3H {S : ι → Sy} {φ : ι → Prop} {σ : Sy} (i : ι) (hs : Sub σ (S i)) (h : φ i) : A3G S φ K .normal σ := ⟨⟨i, h, hs⟩⟩
theorem A0L {S : ι → Sy} {φ : ι → Prop} {σ : Sy} (h : K .ret σ) : A3G S φ K .ret σ := ⟨h⟩
theorem B31 {S : ι → Sy} {φ : ι → Prop} (h : Y0 K) : Y0 (A3G S φ K) := fun c σ hk => h c σ hk.run
instance npC6 {S : ι → Sy} {φ : ι → Prop} [h : NpC K] : NpC (A3G S φ K) := ⟨B31 h.h⟩
end cut
theorem A1W (G : IM) (nm : ByteArray) (num : Int) {k : Int} (hk : F4 k) (hn : F4 num) : A7 G (.mk k nm num B1 B1 0 []) [.int .i64 k, .string nm, .int .i64 num, .int .i64 0, .slice none 0 0, .int .i64 0, .slice none 0 0, .int .i64 0, .slice none 0 0] := A1d hk hn
theorem B3.kidsM {G : IM} {k : Int} {ks : List Ty} {q : Option Addr} {c : Nat} (h : B3 G (.mk k ks) [.int .i64 k, .slice q ks.length c]) : ∃ es, C5 G q ks.length c 2 es ∧ E3 G ks es := by
 obtain ⟨q', c', es, he, _, h1, h2⟩ := h.open
 cases he
 exact ⟨es, h1, h2⟩
theorem B32 (br : Nat) (pb : Option Addr) (nb cb : Nat) (bs : List UInt8) (hnb : nb ≤ 2000) : ∀ n, A9t br pb nb cb bs n := by
 refine fun n => Nat.strongRecOn n fun n ih depth t p G pc nc cc cells hfu hd0 hd1 hnc hx hrt hb hp => ?_
 have hge := A1k n
 have har := hfu.1.ar
 have hszt := A4c hfu.1
 have hnn := A0d t
 have hncl := hx.le
 obtain ⟨k, ks⟩ := t
 obtain ⟨q, c, es, rfl, hk, _, _⟩ := hrt.open
 simp only [Ty.k, Ty.ks] at hk hrt ⊢
 have hsz30 : H2 (.mk k ks) ≤ 30 := hszt
 have hops : k = 4 ∨ k = 5 → ks.length = 2 := by have h2 := har; rw [D4] at h2; exact h2.1
 refine B5 Tryz.func127 rfl Tryz.ntmps127 Tryz.results127 rfl ?_
 intro w0
 refine tS (tR ?_)
 refine sE (C0 rfl rfl) rfl (fun b3 => ?_)
 refine sE (A5 rfl) rfl (fun b4 => ?_)
 refine D0 ?_
 refine sP (O4 rfl rfl (by omega) (by omega)) rfl rfl ?_
 refine sQ (qA rfl) rfl (sD (nS ?_))
 refine B9 ?_
 (refine K3 (fun (x : Nat × Nat × IM) => ⟨(9, .int .i64 ((x.1 : Int) - 1)) :: [(0, .pointer (some ⟨br, 0, none⟩)), (1, .slice pc nc cc), (3, .int .i64 depth), (6, .pointer (some ⟨b3, 0, none⟩)), (8, .pointer (some ⟨b4, 0, none⟩))], [rd br pb nb cb x.2.1, .blk b4 [.int .i64 0, .string ⟨⟨[]⟩⟩, .int .i64 0, .int .i64 0, .slice none 0 0, .int .i64 0, .slice none 0 0, .int .i64 0, .slice none 0 0], .blk b3 [.int .i64 k, .slice q ks.length c]], x.2.2⟩) (fun x => x.1 ≤ nc ∧ B6 G x.2.2 ∧ p ≤ x.2.1 ∧ x.2.1 + x.1 ≤ p + nc) (fun x => x.1) (nc, p, G) ?_ ?_ ?_)
 (simp only [I5]; exact D5)
 (exact ⟨Nat.le_refl _, B6.refl _, Nat.le_refl _, Nat.le_refl _⟩)
 (rintro ⟨(i : Nat), (p1 : Nat), G1⟩ ⟨hi, hleL, hpL, hpL2⟩; simp only [] at hi hleL hpL hpL2 ⊢; replace hx := hx.mono hleL; replace hb := hb.mono hleL; replace hrt := hrt.mono hleL;)
 refine tS (tS (tR (sQ (qM rfl) rfl ?_)))
 refine sB (A0R rfl rfl) rfl rfl (fun h25 => ?_) (fun h25 => ?_)
 refine sD (nS (qT rfl (tK (nS (tS ?_)))))
 (show I9 _ _ (.block 1 ..) _ _; obtain ⟨j, rfl⟩ : ∃ j, i = j + 1 := ⟨i - 1, by omega⟩; rw [show ((j + 1 : Nat) : Int) - 1 = (j : Int) from by omega]; obtain ⟨b, o, nm1, t1, qq1, dd1, rfl, hat, hr1, ha1, hs1, hgb, hns1⟩ := hx.get (i := j) (by omega); refine B9 ?_)
 refine P6 ?_
 refine sP (B0 (j := j) rfl rfl rfl (by omega)) rfl rfl ?_
 refine sQ (qF rfl) rfl ?_
 refine sL (U5 rfl rfl ((hat _).sub (j := 0) rfl)) rfl rfl ?_
 (refine D3 rfl (A77 _ _ nc cc nm1 hx) rfl rfl (fun v G2 hle2 hh => ?_); obtain ⟨ts, tcs, xs, rfl, hrs, has, hss⟩ := hh; obtain ⟨ps, cs, ess, rfl, _⟩ := hrs.open; obtain ⟨b, o, nm1, t1, qq1, dd1, hpp, hat, hr1, ha1, hs1, hgb, hns1⟩ := (hx.mono hle2).get (i := j) (by omega); cases hpp; replace hx := hx.mono hle2; replace hb := hb.mono hle2; replace hrt := hrt.mono hle2;)
 refine I6 ?_
 refine sE (A5 rfl) rfl (fun b45 => ?_)
 refine D0 ?_
 (have hinloop := hrs; refine H1 rfl (S8 _ br pb nb cb (p1) bs 3 hb hnb (by omega)) (Pk.perm (by repeat (first | exact Pk.here | apply Pk.there))) rfl rfl (fun v Gp outs hle53 hh => ?_); obtain ⟨rfl, rfl, j53, rfl, hj53, hk53⟩ := hh; have hinl := hj53)
 replace hrs := hrs.mono hle53
 replace hr1 := hr1.mono hle53
 replace hb := hb.mono hle53
 replace hrt := hrt.mono hle53
 replace hinloop := hinloop.mono hle53
 refine sB (qE rfl rfl) rfl rfl (fun h54 => ?_) (fun h54 => ?_)
 refine sQ (qM rfl) rfl (sL (A3 rfl rfl) rfl rfl ?_)
 refine F9 rfl ((A0I ts _ _ hrs)) rfl rfl (fun h57 => ?_) (fun h57 => ?_)
 refine I8 ?_
 refine F9 rfl ((A01 ts (.mk k ks) _ _ _ has har hrs hrt)) rfl rfl (fun h62 => ?_) (fun h62 => ?_)
 refine D8 ?_
 refine sP (B0 (j := j) rfl rfl rfl (by omega)) rfl rfl ?_
 refine sQ (qF rfl) rfl ?_
 refine sL (U5 rfl rfl ((hat _).sub (j := 0) rfl)) rfl rfl ?_
 refine H8 ?_
 refine H4 (outs := [rd br pb nb cb (p1 + 1)]) (rC rfl (A3 rfl rfl)) (by repeat (first | exact A0.nil | refine A0.cons Pk.here ?_ | refine A0.cons (Pk.there Pk.here) ?_ | refine A0.cons (Pk.there (Pk.there Pk.here)) ?_ | apply A0.drop)) ?_
 (exact ⟨(p1 + 1), by omega, by omega, rfl, _, _, rfl, A1W _ _ _ ⟨by omega, by omega⟩ (by first | exact ⟨by omega, by omega⟩ | exact hkn), by first | exact O3 (by first | assumption | decide) | exact A0p (by decide) (by assumption) (by assumption) (by assumption) | exact S2 (by decide) (by assumption) (by assumption) | exact L2 (by decide) P8 (by assumption) | exact L2 (by decide) har.small (by assumption) | exact L2 (by decide) P8 (S2 (by decide) (by assumption) (O3 (by decide))) | exact L2 (by decide) A0q (O3 (by decide)) | assumption, by simp only [C7, E5]; omega⟩)
 refine D7 ?_
 refine sP (O4 rfl rfl (by omega) (by omega)) rfl rfl ?_
 refine sQ (qA rfl) rfl (sD ?_)
 (have hinloop := hrs; refine K0 (j, p1 + 1, Gp) ?_ ?_ ?_)
 (simp only [I5]; exact D5)
 (dsimp only; exact ⟨by omega, hleL.trans hle2, by omega, by omega⟩)
 (show _ < _ + 1; omega)
 refine L1 ?_
 refine sP (O4 rfl rfl (by omega) (by omega)) rfl rfl ?_
 refine sQ (qA rfl) rfl (sD ?_)
 (have hinloop := hrs; refine K0 (j, p1 + 1, Gp) ?_ ?_ ?_)
 (simp only [I5]; exact D5)
 (dsimp only; exact ⟨by omega, hleL.trans hle2, by omega, by omega⟩)
 (show _ < _ + 1; omega)
 refine R2 ?_
 refine sP (O4 rfl rfl (by omega) (by omega)) rfl rfl ?_
 refine sQ (qA rfl) rfl (sD ?_)
 (have hinloop := hrs; refine K0 (j, p1 + 1, Gp) ?_ ?_ ?_)
 (simp only [I5]; exact D5)
 (dsimp only; exact ⟨by omega, hleL.trans hle2, by omega, by omega⟩)
 (show _ < _ + 1; omega)
 refine H8 ?_
 (show I9 _ _ (.region 7 ..) _ _; refine Z6 (fun (x : Bool) => ⟨(49, .bool x) :: [(0, .pointer (some ⟨br, 0, none⟩)), (1, .slice pc nc cc), (3, .int .i64 depth), (6, .pointer (some ⟨b3, 0, none⟩)), (8, .pointer (some ⟨b4, 0, none⟩))], [rd br pb nb cb p1, .blk b4 [.int .i64 0, .string ⟨⟨[]⟩⟩, .int .i64 0, .int .i64 0, .slice none 0 0, .int .i64 0, .slice none 0 0, .int .i64 0, .slice none 0 0], .blk b3 [.int .i64 k, .slice q ks.length c]], G1⟩) (fun x => x = true → 1 < depth) ?_ ?_)
 refine tR (sQ (qM rfl) rfl ?_)
 refine sB (W2 rfl rfl) rfl rfl (fun h160 => ?_) (fun h160 => ?_)
 refine sD ?_
 refine P4 true (N3 (by repeat (first | exact E9.nil | refine E9.cons rfl ?_)) (by repeat (first | exact A0.refl | exact A0.nil | refine A0.cons (by repeat (first | exact Pk.here | apply Pk.there)) ?_ | apply A0.drop))) (fun _ => by omega)
 refine sD ?_
 refine P4 false (N3 (by repeat (first | exact E9.nil | refine E9.cons rfl ?_)) (by repeat (first | exact A0.refl | exact A0.nil | refine A0.cons (by repeat (first | exact Pk.here | apply Pk.there)) ?_ | apply A0.drop))) (fun h => absurd h (by decide))
 (rintro (x49 : Bool) hx49)
 (show I9 _ _ (.cond (.tmp 49) _ _) _ _; refine A9v (fun (x : Nat × IM) => ⟨[(0, .pointer (some ⟨br, 0, none⟩)), (1, .slice pc nc cc), (3, .int .i64 depth), (6, .pointer (some ⟨b3, 0, none⟩)), (8, .pointer (some ⟨b4, 0, none⟩))], [rd br pb nb cb x.1, .blk b4 [.int .i64 0, .string ⟨⟨[]⟩⟩, .int .i64 0, .int .i64 0, .slice none 0 0, .int .i64 0, .slice none 0 0, .int .i64 0, .slice none 0 0], .blk b3 [.int .i64 k, .slice q ks.length c]], x.2⟩) (fun x => B6 G1 x.2 ∧ p1 ≤ x.1 ∧ x.1 ≤ p1 + 1) (A28 rfl (fun hxt => ?_) (fun hxf => ?_)) ?_)
 refine tS (tR (sQ (qM rfl) rfl ?_))
 (have hx49b := hx49 hxt; refine H1 rfl (S8 _ br pb nb cb (p1) bs 9 hb hnb (by omega)) (Pk.perm (by repeat (first | exact Pk.here | apply Pk.there))) rfl rfl (fun v Gp outs hle170 hh => ?_); obtain ⟨rfl, rfl, j170, rfl, hj170, hk170⟩ := hh; have hpk9 := hj170)
 replace hb := hb.mono hle170
 replace hrt := hrt.mono hle170
 refine sD (nS ?_)
 refine B9 (tS (tR (sB (qE rfl rfl) rfl rfl (fun h176 => ?_) (fun h176 => ?_))))
 refine sQ (qA rfl) rfl (sD (nS (qT rfl (tS ?_))))
 (obtain ⟨m, rfl⟩ := hfu.pos (.inl (by omega)); have hmB : mB (m + 1) = 3 * mB m + 200 := rfl; have hgm := A1k m; refine C9 D1 rfl ?_)
 refine L0 (i := 0) (l' := [tt,ff,ff,ff,ff,ff,ff,ff,ff,ff,ff,ff,ff]) rfl C4 (A3 rfl rfl) rfl (by kernel_rfl) rfl rfl ?_
 refine aP 2 rfl (qM rfl) rfl ?_
 refine aP 3 rfl (qM rfl) rfl ?_
 refine aP 4 rfl (qM rfl) rfl ?_
 refine aL 5 rfl (A3 rfl rfl) rfl ?_
 refine aP 7 rfl (qM rfl) rfl ?_
 refine aP 8 rfl (O4 rfl rfl (by omega) (by omega)) rfl ?_
 refine A1 1 ?_
 (refine E1 rfl rfl (O6 _ _ _ har.small hrt) rfl rfl rfl (fun v G6 hle6 hh => ?_); obtain ⟨N6, F1, rfl, hs1, hn1⟩ := hh; obtain ⟨pz, cz, rfl, _⟩ := hs1.open; have hrz := hs1.R.mono (C1.le G6 _); replace hx := hx.mono hle6; replace hb := hb.mono hle6; replace hrt := hrt.mono hle6;)
 refine A1 6 ?_
 (have hcall := A4m br pb nb cb bs hnb (.mk k ks) (p1 + 1) _ _ har hrt hb (by omega); refine Z5 (l' := [tt,tt,tt,tt,tt,tt,tt,tt,tt,ff,ff,ff,ff]) rfl rfl hcall (Pk.perm (by repeat (first | exact Pk.here | apply Pk.there))) rfl rfl rfl (by repeat (first | exact A8.nil | apply A8.dep (by decide +kernel) | apply A8.im (by decide +kernel) hg0 (by repeat first | exact mH | apply mT) | apply A8.im (by decide +kernel) hg1 (by repeat first | exact mH | apply mT) | apply A8.blk (by decide +kernel) (by repeat (first | exact Pk.here | apply Pk.there)) (by repeat first | exact mH | apply mT))) (fun v Gn outs hleA hh => ?_); obtain ⟨pA, hpA1, hpA2, rfl, uA, cuA, rfl, hruA, huaA, husA, huhA⟩ := hh; obtain ⟨quA, duA, euA, rfl, _⟩ := hruA.open; replace hrz := hrz.mono hleA; replace hx := hx.mono hleA; replace hb := hb.mono hleA; replace hrt := hrt.mono hleA;)
 refine A1 9 ?_
 (have hcall := ih m (by omega) (depth - 1) uA pA _ pc nc cc _ (hfu.sub (by omega) (huhA 4 hfu.1)) (by omega) (by omega) (by omega) hx hruA hb (by omega); refine Z5 (l' := [tt,tt,tt,tt,tt,tt,tt,tt,tt,tt,ff,ff,ff]) rfl rfl hcall (Pk.perm (by repeat (first | exact Pk.here | apply Pk.there))) rfl rfl rfl (by repeat (first | exact A8.nil | apply A8.dep (by decide +kernel) | apply A8.im (by decide +kernel) hg0 (by repeat first | exact mH | apply mT) | apply A8.im (by decide +kernel) hg1 (by repeat first | exact mH | apply mT) | apply A8.blk (by decide +kernel) (by repeat (first | exact Pk.here | apply Pk.there)) (by repeat first | exact mH | apply mT))) (fun v Gn outs hlea hh => ?_); obtain ⟨pa, hpa1, hpa2, rfl, ea, ca, rfl, hra, hsma, hca⟩ := hh; obtain ⟨a1, a2, a3, a4, a5, a6, a7, a8, a9, rfl⟩ := hra.nine; replace hrz := hrz.mono hlea; replace hx := hx.mono hlea; replace hb := hb.mono hlea; replace hrt := hrt.mono hlea;)
 refine A1 10 ?_
 (refine D9 rfl (C8 rfl rfl rfl (by omega) (by unfold maxLen; omega) rfl) rfl rfl ?_; rintro _ ⟨b197, rfl⟩)
 refine aP 11 rfl (Q1 rfl rfl) rfl ?_
 refine A1 12 ?_
 refine N4 rfl rfl rfl rfl rfl rfl rfl rfl (by decide +kernel) (by repeat first | exact Sw.here | apply Sw.there) (by rfl) ?_
 refine B8 (nS ?_)
 (refine H7 (cs := [a1, a2, a3, a4, a5, a6, a7, a8, a9]) (by repeat (first | exact Pk.here | apply Pk.there)) (fun G9 hle9 hsl9 hno9 => ?_); have hN := A3E (k := 13) (nm := ⟨⟨[]⟩⟩) ⟨by omega, by omega⟩ (hrz.mono hle9) (hra.mono hle9) hsl9)
 refine tT (rB ?_)
 refine A0L ?_
 refine H4 (outs := [rd br pb nb cb pa]) (rC rfl (A3 rfl rfl)) (by repeat (first | exact A0.nil | refine A0.cons Pk.here ?_ | refine A0.cons (Pk.there Pk.here) ?_ | refine A0.cons (Pk.there (Pk.there Pk.here)) ?_ | apply A0.drop)) ?_
 (exact ⟨pa, by omega, by omega, rfl, _, _, rfl, hN, by first | exact O3 (by first | assumption | decide) | exact A0p (by decide) (by assumption) (by assumption) (by assumption) | exact S2 (by decide) (by assumption) (by assumption) | exact L2 (by decide) P8 (by assumption) | exact L2 (by decide) har.small (by assumption) | exact L2 (by decide) P8 (S2 (by decide) (by assumption) (O3 (by decide))) | exact L2 (by decide) A0q (O3 (by decide)) | assumption, by simp only [C7, E5]; omega⟩)
 refine sQ (qA rfl) rfl (sD (nS (cF rfl (tS (tR ?_)))))
 refine sB (qE rfl rfl) rfl rfl (fun h215 => ?_) (fun h215 => ?_)
 refine sQ (qA rfl) rfl (sD (nS (qT rfl (tS ?_))))
 (obtain ⟨m, rfl⟩ := hfu.pos (.inl (by omega)); have hmB : mB (m + 1) = 3 * mB m + 200 := rfl; have hgm := A1k m; refine C9 D1 rfl ?_)
 refine H6 (i := 0) (l' := [tt,ff,ff,ff,ff,ff,ff,ff,ff,ff,ff,ff,ff,ff,ff,ff,ff,ff,ff,ff,ff]) rfl C4 (qM rfl) rfl (by kernel_rfl) rfl rfl ?_
 refine aP 1 rfl (qM rfl) rfl ?_
 refine aP 3 rfl (qM rfl) rfl ?_
 refine aP 4 rfl (O4 rfl rfl (by omega) (by omega)) rfl ?_
 refine aP 6 rfl (qM rfl) rfl ?_
 refine aP 7 rfl (qM rfl) rfl ?_
 refine aL 8 rfl (A3 rfl rfl) rfl ?_
 refine aP 9 rfl (qM rfl) rfl ?_
 refine aP 10 rfl (O4 rfl rfl (by omega) (by omega)) rfl ?_
 refine aP 12 rfl (qM rfl) rfl ?_
 refine aP 13 rfl (qM rfl) rfl ?_
 refine aL 14 rfl (A3 rfl rfl) rfl ?_
 refine aP 15 rfl (qM rfl) rfl ?_
 refine aP 16 rfl (O4 rfl rfl (by omega) (by omega)) rfl ?_
 refine A1 2 ?_
 refine J0 rfl rfl ((A1f _)) rfl rfl rfl ?_
 refine A1 5 ?_
 (have hcall := ih m (by omega) (depth - 1) (.mk 3 []) (p1 + 1) _ pc nc cc _ (hfu.sub (by omega) (A2H 4 (by decide) (by decide))) (by omega) (by omega) (by omega) hx (J8 _ ⟨by omega, by omega⟩) hb (by omega); refine Z5 (l' := [tt,tt,tt,tt,tt,tt,tt,tt,tt,tt,tt,ff,tt,tt,tt,tt,tt,ff,ff,ff,ff]) rfl rfl hcall (Pk.perm (by repeat (first | exact Pk.here | apply Pk.there))) rfl rfl rfl (by repeat (first | exact A8.nil | apply A8.dep (by decide +kernel) | apply A8.im (by decide +kernel) hg0 (by repeat first | exact mH | apply mT) | apply A8.im (by decide +kernel) hg1 (by repeat first | exact mH | apply mT) | apply A8.blk (by decide +kernel) (by repeat (first | exact Pk.here | apply Pk.there)) (by repeat first | exact mH | apply mT))) (fun v Gn outs hlef hh => ?_); obtain ⟨pf, hpf1, hpf2, rfl, ef, cf, rfl, hrf, hsmf, hcf⟩ := hh; obtain ⟨f1, f2, f3, f4, f5, f6, f7, f8, f9, rfl⟩ := hrf.nine; replace hx := hx.mono hlef; replace hb := hb.mono hlef; replace hrt := hrt.mono hlef;)
 refine A1 11 ?_
 (have hcall := ih m (by omega) (depth - 1) (.mk k ks) pf _ pc nc cc _ (hfu.sub (by omega) hfu.1) (by omega) (by omega) (by omega) hx hrt hb (by omega); refine Z5 (l' := [tt,tt,tt,tt,tt,tt,tt,tt,tt,tt,tt,tt,tt,tt,tt,tt,tt,ff,ff,ff,ff]) rfl rfl hcall (Pk.perm (by repeat (first | exact Pk.here | apply Pk.there))) rfl rfl rfl (by repeat (first | exact A8.nil | apply A8.dep (by decide +kernel) | apply A8.im (by decide +kernel) hg0 (by repeat first | exact mH | apply mT) | apply A8.im (by decide +kernel) hg1 (by repeat first | exact mH | apply mT) | apply A8.blk (by decide +kernel) (by repeat (first | exact Pk.here | apply Pk.there)) (by repeat first | exact mH | apply mT))) (fun v Gn outs hleg hh => ?_); obtain ⟨pg, hpg1, hpg2, rfl, eg, cg, rfl, hrg, hsmg, hcg⟩ := hh; obtain ⟨g1, g2, g3, g4, g5, g6, g7, g8, g9, rfl⟩ := hrg.nine; replace hrf := hrf.mono hleg; replace hx := hx.mono hleg; replace hb := hb.mono hleg; replace hrt := hrt.mono hleg;)
 refine A1 17 ?_
 (have hcall := ih m (by omega) (depth - 1) (.mk k ks) pg _ pc nc cc _ (hfu.sub (by omega) hfu.1) (by omega) (by omega) (by omega) hx hrt hb (by omega); refine Z5 (l' := [tt,tt,tt,tt,tt,tt,tt,tt,tt,tt,tt,tt,tt,tt,tt,tt,tt,tt,ff,ff,ff]) rfl rfl hcall (Pk.perm (by repeat (first | exact Pk.here | apply Pk.there))) rfl rfl rfl (by repeat (first | exact A8.nil | apply A8.dep (by decide +kernel) | apply A8.im (by decide +kernel) hg0 (by repeat first | exact mH | apply mT) | apply A8.im (by decide +kernel) hg1 (by repeat first | exact mH | apply mT) | apply A8.blk (by decide +kernel) (by repeat (first | exact Pk.here | apply Pk.there)) (by repeat first | exact mH | apply mT))) (fun v Gn outs hlei hh => ?_); obtain ⟨pi, hpi1, hpi2, rfl, ei, ci, rfl, hri, hsmi, hci⟩ := hh; obtain ⟨i1, i2, i3, i4, i5, i6, i7, i8, i9, rfl⟩ := hri.nine; replace hrf := hrf.mono hlei; replace hrg := hrg.mono hlei; replace hx := hx.mono hlei; replace hb := hb.mono hlei; replace hrt := hrt.mono hlei;)
 refine A1 18 ?_
 (refine D9 rfl (C8 rfl rfl rfl (by omega) (by unfold maxLen; omega) rfl) rfl rfl ?_; rintro _ ⟨b245, rfl⟩)
 refine A1 19 ?_
 refine J0 rfl rfl ((A0l _ _ _ _ _)) rfl rfl rfl ?_
 refine A1 20 ?_
 refine N4 rfl rfl rfl rfl rfl rfl rfl rfl (by decide +kernel) (by repeat first | exact Sw.here | apply Sw.there) (by rfl) ?_
 refine B8 (nS ?_)
 (refine H7 (cs := [f1, f2, f3, f4, f5, f6, f7, f8, f9] ++ ([g1, g2, g3, g4, g5, g6, g7, g8, g9] ++ [i1, i2, i3, i4, i5, i6, i7, i8, i9])) (by repeat (first | exact Pk.here | apply Pk.there)) (fun G9 hle9 hsl9 hno9 => ?_); have hN := B30 (k := 9) (nm := ⟨⟨[]⟩⟩) ⟨by omega, by omega⟩ (hrf.mono hle9) (hrg.mono hle9) (hri.mono hle9) hsl9)
 refine tT (rB ?_)
 refine A0L ?_
 refine H4 (outs := [rd br pb nb cb pi]) (rC rfl (A3 rfl rfl)) (by repeat (first | exact A0.nil | refine A0.cons Pk.here ?_ | refine A0.cons (Pk.there Pk.here) ?_ | refine A0.cons (Pk.there (Pk.there Pk.here)) ?_ | apply A0.drop)) ?_
 (exact ⟨pi, by omega, by omega, rfl, _, _, rfl, hN, by first | exact O3 (by first | assumption | decide) | exact A0p (by decide) (by assumption) (by assumption) (by assumption) | exact S2 (by decide) (by assumption) (by assumption) | exact L2 (by decide) P8 (by assumption) | exact L2 (by decide) har.small (by assumption) | exact L2 (by decide) P8 (S2 (by decide) (by assumption) (O3 (by decide))) | exact L2 (by decide) A0q (O3 (by decide)) | assumption, by simp only [C7, E5]; omega⟩)
 refine sQ (qA rfl) rfl (sD (nS (cF rfl (tS (tR ?_)))))
 refine sB (qE rfl rfl) rfl rfl (fun h264 => ?_) (fun h264 => ?_)
 refine D0 ?_
 (have hcall := A3s br pb nb cb bs hnb 0 (p1 + 1) _ (by omega) hb (by have : dB (0 + 1) ≤ 6 := (by decide); omega); refine H1 rfl hcall (Pk.perm (by repeat (first | exact Pk.here | apply Pk.there))) rfl rfl (fun v Gn outs hleD hh => ?_); obtain ⟨pD, hpD1, hpD2, rfl, uD, cuD, rfl, hruD, husD, huhD⟩ := hh; have huaD := huhD.ar; obtain ⟨quD, duD, euD, rfl, _⟩ := hruD.open; have hdBD : dB (0 + 1) ≤ 6 := (by decide); replace hx := hx.mono hleD; replace hb := hb.mono hleD; replace hrt := hrt.mono hleD;)
 refine sE (A5 rfl) rfl (fun b273 => ?_)
 refine F8 ?_
 refine sD (nS (tS ?_))
 (obtain ⟨m, rfl⟩ := hfu.pos (.inl (by omega)); have hmB : mB (m + 1) = 3 * mB m + 200 := rfl; have hgm := A1k m; refine C9 D1 rfl ?_)
 refine H6 (i := 0) (l' := [tt,ff,ff,ff,ff,ff,ff,ff,ff,ff,ff,ff,ff,ff,ff,ff,ff,ff]) rfl C4 (qM rfl) rfl (by kernel_rfl) rfl rfl ?_
 refine aP 1 rfl (qM rfl) rfl ?_
 refine aL 2 rfl (A3 rfl rfl) rfl ?_
 refine aL 3 rfl (A3 rfl rfl) rfl ?_
 refine aP 4 rfl (qM rfl) rfl ?_
 refine aP 5 rfl (O4 rfl rfl (by omega) (by omega)) rfl ?_
 refine aP 7 rfl (qM rfl) rfl ?_
 refine aP 8 rfl (qM rfl) rfl ?_
 refine aP 9 rfl (qM rfl) rfl ?_
 refine aL 10 rfl (A3 rfl rfl) rfl ?_
 refine aP 12 rfl (qM rfl) rfl ?_
 refine aP 13 rfl (O4 rfl rfl (by omega) (by omega)) rfl ?_
 refine A1 6 ?_
 (have hcall := A9u br pb nb cb bs hnb m (ih m (by omega)) (depth - 1) uD (.mk k ks) (pD) _ pc nc cc _ _ (hfu.sub (by omega) hfu.1) (by omega) (by omega) (by omega) hx hruD ⟨huaD, by omega⟩ hrt hb (by omega); refine Z5 (l' := [tt,tt,tt,tt,tt,tt,tt,tt,tt,tt,tt,ff,tt,tt,ff,ff,ff,ff]) rfl rfl hcall (Pk.perm (by repeat (first | exact Pk.here | apply Pk.there))) rfl rfl rfl (by repeat (first | exact A8.nil | apply A8.dep (by decide +kernel) | apply A8.im (by decide +kernel) hg0 (by repeat first | exact mH | apply mT) | apply A8.im (by decide +kernel) hg1 (by repeat first | exact mH | apply mT) | apply A8.blk (by decide +kernel) (by repeat (first | exact Pk.here | apply Pk.there)) (by repeat first | exact mH | apply mT))) (fun v Gn outs hlel hh => ?_); obtain ⟨pl, hpl1, hpl2, rfl, el, cl, rfl, hrl, hsml, hcl⟩ := hh; obtain ⟨l1, l2, l3, l4, l5, l6, l7, l8, l9, rfl⟩ := hrl.nine; replace hruD := hruD.mono hlel; replace hx := hx.mono hlel; replace hb := hb.mono hlel; replace hrt := hrt.mono hlel;)
 refine A1 11 ?_
 (have hcall := A4m br pb nb cb bs hnb uD (pl) _ _ huaD hruD hb (by omega); refine Z5 (l' := [tt,tt,tt,tt,tt,tt,tt,tt,tt,tt,tt,tt,tt,tt,ff,ff,ff,ff]) rfl rfl hcall (Pk.perm (by repeat (first | exact Pk.here | apply Pk.there))) rfl rfl rfl (by repeat (first | exact A8.nil | apply A8.dep (by decide +kernel) | apply A8.im (by decide +kernel) hg0 (by repeat first | exact mH | apply mT) | apply A8.im (by decide +kernel) hg1 (by repeat first | exact mH | apply mT) | apply A8.blk (by decide +kernel) (by repeat (first | exact Pk.here | apply Pk.there)) (by repeat first | exact mH | apply mT))) (fun v Gn outs hleE hh => ?_); obtain ⟨pE, hpE1, hpE2, rfl, uE, cuE, rfl, hruE, huaE, husE, huhE⟩ := hh; obtain ⟨quE, duE, euE, rfl, _⟩ := hruE.open; replace hrl := hrl.mono hleE; replace hx := hx.mono hleE; replace hb := hb.mono hleE; replace hrt := hrt.mono hleE;)
 refine A1 14 ?_
 (have hcall := ih m (by omega) (depth - 1) uE pE _ pc nc cc _ (hfu.sub (by omega) (huhE 4 (huhD.le (by omega)))) (by omega) (by omega) (by omega) hx hruE hb (by omega); refine Z5 (l' := [tt,tt,tt,tt,tt,tt,tt,tt,tt,tt,tt,tt,tt,tt,tt,ff,ff,ff]) rfl rfl hcall (Pk.perm (by repeat (first | exact Pk.here | apply Pk.there))) rfl rfl rfl (by repeat (first | exact A8.nil | apply A8.dep (by decide +kernel) | apply A8.im (by decide +kernel) hg0 (by repeat first | exact mH | apply mT) | apply A8.im (by decide +kernel) hg1 (by repeat first | exact mH | apply mT) | apply A8.blk (by decide +kernel) (by repeat (first | exact Pk.here | apply Pk.there)) (by repeat first | exact mH | apply mT))) (fun v Gn outs hled hh => ?_); obtain ⟨pd, hpd1, hpd2, rfl, ed, cd, rfl, hrd, hsmd, hcd⟩ := hh; obtain ⟨d1, d2, d3, d4, d5, d6, d7, d8, d9, rfl⟩ := hrd.nine; replace hrl := hrl.mono hled; replace hx := hx.mono hled; replace hb := hb.mono hled; replace hrt := hrt.mono hled;)
 refine A1 15 ?_
 (refine D9 rfl (C8 rfl rfl rfl (by omega) (by unfold maxLen; omega) rfl) rfl rfl ?_; rintro _ ⟨b298, rfl⟩)
 refine A1 16 ?_
 refine J0 rfl rfl ((A0l _ _ _ _ _)) rfl rfl rfl ?_
 refine A1 17 ?_
 refine N4 rfl rfl rfl rfl rfl rfl rfl rfl (by decide +kernel) (by repeat first | exact Sw.here | apply Sw.there) (by rfl) ?_
 refine B8 (nS ?_)
 (refine H7 (cs := [l1, l2, l3, l4, l5, l6, l7, l8, l9] ++ [d1, d2, d3, d4, d5, d6, d7, d8, d9]) (by repeat (first | exact Pk.here | apply Pk.there)) (fun G9 hle9 hsl9 hno9 => ?_); have hN := A3F (k := 6) (nm := ⟨⟨[]⟩⟩) ⟨by omega, by omega⟩ (hrl.mono hle9) (hrd.mono hle9) hsl9)
 refine tT (rB ?_)
 refine A0L ?_
 refine H4 (outs := [rd br pb nb cb pd]) (rC rfl (A3 rfl rfl)) (by repeat (first | exact A0.nil | refine A0.cons Pk.here ?_ | refine A0.cons (Pk.there Pk.here) ?_ | refine A0.cons (Pk.there (Pk.there Pk.here)) ?_ | apply A0.drop)) ?_
 (exact ⟨pd, by omega, by omega, rfl, _, _, rfl, hN, by first | exact O3 (by first | assumption | decide) | exact A0p (by decide) (by assumption) (by assumption) (by assumption) | exact S2 (by decide) (by assumption) (by assumption) | exact L2 (by decide) P8 (by assumption) | exact L2 (by decide) har.small (by assumption) | exact L2 (by decide) P8 (S2 (by decide) (by assumption) (O3 (by decide))) | exact L2 (by decide) A0q (O3 (by decide)) | assumption, by simp only [C7, E5]; omega⟩)
 refine sQ (qA rfl) rfl (sD (nS (cF rfl (tS (tR ?_)))))
 refine sB (qE rfl rfl) rfl rfl (fun h317 => ?_) (fun h317 => ?_)
 refine H8 ?_
 refine sP (O4 rfl rfl (by omega) (by omega)) rfl rfl ?_
 (have hpkq := hpk9; obtain ⟨m, rfl⟩ := hfu.pos (.inl (by omega)); have hmB : mB (m + 1) = 3 * mB m + 200 := rfl; have hgm := A1k m; have hcall := ih m (by omega) (depth - 1) (.mk k ks) (p1 + 1) _ pc nc cc _ (hfu.sub (by omega) hfu.1) (by omega) (by omega) (by omega) hx hrt hb (by omega); refine H1 rfl hcall (Pk.perm (by repeat (first | exact Pk.here | apply Pk.there))) rfl rfl (fun v Gn outs hleh hh => ?_); obtain ⟨ph, hph1, hph2, rfl, eh, ch, rfl, hrh, hsmh, hch⟩ := hh; obtain ⟨h1, h2, h3, h4, h5, h6, h7, h8, h9, rfl⟩ := hrh.nine; replace hx := hx.mono hleh; replace hb := hb.mono hleh; replace hrt := hrt.mono hleh;)
 refine E8 rfl ((A1L _ _)) rfl rfl ?_
 (refine J5 (C8 rfl rfl rfl (by omega) (by unfold maxLen; omega) rfl) rfl ?_; rintro _ ⟨b331, rfl⟩)
 refine E8 rfl ((A0l _ _ _ _ _)) rfl rfl ?_
 (refine J5 (C8 rfl rfl rfl (by omega) (by unfold maxLen; omega) rfl) rfl ?_; rintro _ ⟨b333, rfl⟩)
 refine E8 rfl ((A0l _ _ _ _ _)) rfl rfl ?_
 refine F8 ?_
 refine sD (nS ?_)
 (refine H7 (cs := [h1, h2, h3, h4, h5, h6, h7, h8, h9] ++ [.int .i64 2, .string ⟨⟨[]⟩⟩, .int .i64 1, .int .i64 0, .slice none 0 0, .int .i64 0, .slice none 0 0, .int .i64 0, .slice none 0 0]) (by repeat (first | exact Pk.here | apply Pk.there)) (fun G8 hle8 hsl8 hno8 => ?_); have hNi := A3F (k := 10) (nm := ⟨⟨[]⟩⟩) ⟨by omega, by omega⟩ (hrh.mono hle8) (A1W G8 ⟨⟨[]⟩⟩ 1 (k := 2) ⟨by omega, by omega⟩ ⟨by omega, by omega⟩) hsl8; refine H7 (by repeat (first | exact Pk.here | apply Pk.there)) (fun G9 hle9 hsl9 hno9 => ?_); have hN := A3E (k := 11) (nm := ⟨⟨[]⟩⟩) ⟨by omega, by omega⟩ (J8 G9 (k := 0) ⟨by omega, by omega⟩) (hNi.mono hle9) hsl9)
 refine tT (rB ?_)
 refine A0L ?_
 refine H4 (outs := [rd br pb nb cb ph]) (rC rfl (A3 rfl rfl)) (by repeat (first | exact A0.nil | refine A0.cons Pk.here ?_ | refine A0.cons (Pk.there Pk.here) ?_ | refine A0.cons (Pk.there (Pk.there Pk.here)) ?_ | apply A0.drop)) ?_
 (exact ⟨ph, by omega, by omega, rfl, _, _, rfl, hN, by first | exact O3 (by first | assumption | decide) | exact A0p (by decide) (by assumption) (by assumption) (by assumption) | exact S2 (by decide) (by assumption) (by assumption) | exact L2 (by decide) P8 (by assumption) | exact L2 (by decide) har.small (by assumption) | exact L2 (by decide) P8 (S2 (by decide) (by assumption) (O3 (by decide))) | exact L2 (by decide) A0q (O3 (by decide)) | assumption, by simp only [C7, E5]; omega⟩)
 refine sQ (qA rfl) rfl (sD (nS (cF rfl (tK (M8 ?_)))))
 refine A3H (p1 + 1, Gp) (N3 (by repeat (first | exact E9.nil | refine E9.cons rfl ?_)) (by repeat (first | exact A0.refl | exact A0.nil | refine A0.cons (by repeat (first | exact Pk.here | apply Pk.there)) ?_ | apply A0.drop))) ⟨B6.refl _, by dsimp only; omega, by dsimp only; omega⟩
 refine tK ?_
 refine A3H (p1, G1) (N3 (by repeat (first | exact E9.nil | refine E9.cons rfl ?_)) (by repeat (first | exact A0.refl | exact A0.nil | refine A0.cons (by repeat (first | exact Pk.here | apply Pk.there)) ?_ | apply A0.drop))) ⟨B6.refl _, by dsimp only; omega, by dsimp only; omega⟩
 (rintro ⟨(p2 : Nat), G2⟩ ⟨hle2c, hp2a, hp2b⟩; simp only [] at hle2c hp2a hp2b ⊢; have hcut1 := hp2a; replace hx := hx.mono hle2c; replace hb := hb.mono hle2c; replace hrt := hrt.mono hle2c;)
 refine D0 ?_
 (show I9 _ _ (.block 3 ..) _ _; refine A9v (fun (x : Nat × IM) => ⟨[(0, .pointer (some ⟨br, 0, none⟩)), (1, .slice pc nc cc), (3, .int .i64 depth), (6, .pointer (some ⟨b3, 0, none⟩)), (8, .pointer (some ⟨b4, 0, none⟩))], [rd br pb nb cb x.1, .blk b4 [.int .i64 0, .string ⟨⟨[]⟩⟩, .int .i64 0, .int .i64 0, .slice none 0 0, .int .i64 0, .slice none 0 0, .int .i64 0, .slice none 0 0], .blk b3 [.int .i64 k, .slice q ks.length c]], x.2⟩) (fun x => B6 G2 x.2 ∧ p2 ≤ x.1 ∧ x.1 ≤ p2 + 2) ?_ ?_)
 refine B9 (tS (tR (sB (qE rfl rfl) rfl rfl (fun h365 => ?_) (fun h365 => ?_))))
 refine D8 ?_
 refine sB (W2 rfl rfl) rfl rfl (fun h374 => ?_) (fun h374 => ?_)
 refine sQ (qM rfl) rfl (sQ (qM rfl) rfl ?_)
 (have hkk3 : k = 3 := (by omega); refine H1 rfl (S8 _ br pb nb cb (p2) bs 2 hb hnb (by omega)) (Pk.perm (by repeat (first | exact Pk.here | apply Pk.there))) rfl rfl (fun v Gp outs hle377 hh => ?_); obtain ⟨rfl, rfl, j377, rfl, hj377, hk377⟩ := hh; have hpk22 := hj377)
 replace hb := hb.mono hle377
 replace hrt := hrt.mono hle377
 refine sB (qE rfl rfl) rfl rfl (fun h378 => ?_) (fun h378 => ?_)
 refine D8 ?_
 refine E8 rfl ((V9 _)) rfl rfl ?_
 refine sQ (qM rfl) rfl ?_
 refine sP (O4 rfl rfl (by omega) (by omega)) rfl rfl ?_
 (have hkk3q := hkk3; obtain ⟨m, rfl⟩ := hfu.pos (.inl (by omega)); have hmB : mB (m + 1) = 3 * mB m + 200 := rfl; have hgm := A1k m; have hcall := ih m (by omega) (depth - 1) (.mk 2 []) (p2 + 1) _ pc nc cc _ (hfu.sub (by omega) (A2H 4 (by decide) (by decide))) (by omega) (by omega) (by omega) hx (J8 _ ⟨by omega, by omega⟩) hb (by omega); refine H1 rfl hcall (Pk.perm (by repeat (first | exact Pk.here | apply Pk.there))) rfl rfl (fun v Gn outs hlen hh => ?_); obtain ⟨pn, hpn1, hpn2, rfl, en, cn, rfl, hrn, hsmn, hcn⟩ := hh; obtain ⟨n1, n2, n3, n4, n5, n6, n7, n8, n9, rfl⟩ := hrn.nine; replace hx := hx.mono hlen; replace hb := hb.mono hlen; replace hrt := hrt.mono hlen;)
 refine sQ (qM rfl) rfl (sQ (qM rfl) rfl ?_)
 refine E8 rfl ((V9 _)) rfl rfl ?_
 refine sQ (qM rfl) rfl ?_
 refine sP (O4 rfl rfl (by omega) (by omega)) rfl rfl ?_
 (have hcall := ih m (by omega) (depth - 1) (.mk 2 []) pn _ pc nc cc _ (hfu.sub (by omega) (A2H 4 (by decide) (by decide))) (by omega) (by omega) (by omega) hx (J8 _ ⟨by omega, by omega⟩) hb (by omega); refine H1 rfl hcall (Pk.perm (by repeat (first | exact Pk.here | apply Pk.there))) rfl rfl (fun v Gn outs hleo hh => ?_); obtain ⟨po, hpo1, hpo2, rfl, eo, co, rfl, hro, hsmo, hco⟩ := hh; obtain ⟨o1, o2, o3, o4, o5, o6, o7, o8, o9, rfl⟩ := hro.nine; replace hrn := hrn.mono hleo; replace hx := hx.mono hleo; replace hb := hb.mono hleo; replace hrt := hrt.mono hleo;)
 (refine J5 (C8 rfl rfl rfl (by omega) (by unfold maxLen; omega) rfl) rfl ?_; rintro _ ⟨b397, rfl⟩)
 refine E8 rfl ((A0l _ _ _ _ _)) rfl rfl ?_
 refine F8 ?_
 refine sD (nS ?_)
 (refine H7 (cs := [n1, n2, n3, n4, n5, n6, n7, n8, n9] ++ [o1, o2, o3, o4, o5, o6, o7, o8, o9]) (by repeat (first | exact Pk.here | apply Pk.there)) (fun G9 hle9 hsl9 hno9 => ?_); have hN := A3F (k := 8) (nm := ⟨⟨[]⟩⟩) ⟨by omega, by omega⟩ (hrn.mono hle9) (hro.mono hle9) hsl9)
 refine tT (rS (rB ?_))
 refine A0L ?_
 refine H4 (outs := [rd br pb nb cb po]) (rC rfl (A3 rfl rfl)) (by repeat (first | exact A0.nil | refine A0.cons Pk.here ?_ | refine A0.cons (Pk.there Pk.here) ?_ | refine A0.cons (Pk.there (Pk.there Pk.here)) ?_ | apply A0.drop)) ?_
 (exact ⟨po, by omega, by omega, rfl, _, _, rfl, hN, by first | exact O3 (by first | assumption | decide) | exact A0p (by decide) (by assumption) (by assumption) (by assumption) | exact S2 (by decide) (by assumption) (by assumption) | exact L2 (by decide) P8 (by assumption) | exact L2 (by decide) har.small (by assumption) | exact L2 (by decide) P8 (S2 (by decide) (by assumption) (O3 (by decide))) | exact L2 (by decide) A0q (O3 (by decide)) | assumption, by simp only [C7, E5]; omega⟩)
 refine L1 ?_
 refine A0L ?_
 refine H4 (outs := [rd br pb nb cb (p2 + 1)]) (rC rfl (A3 rfl rfl)) (by repeat (first | exact A0.nil | refine A0.cons Pk.here ?_ | refine A0.cons (Pk.there Pk.here) ?_ | refine A0.cons (Pk.there (Pk.there Pk.here)) ?_ | apply A0.drop)) ?_
 (exact ⟨(p2 + 1), by omega, by omega, rfl, _, _, rfl, A1W _ _ _ ⟨by omega, by omega⟩ (by first | exact ⟨by omega, by omega⟩ | exact hkn), by first | exact O3 (by first | assumption | decide) | exact A0p (by decide) (by assumption) (by assumption) (by assumption) | exact S2 (by decide) (by assumption) (by assumption) | exact L2 (by decide) P8 (by assumption) | exact L2 (by decide) har.small (by assumption) | exact L2 (by decide) P8 (S2 (by decide) (by assumption) (O3 (by decide))) | exact L2 (by decide) A0q (O3 (by decide)) | assumption, by simp only [C7, E5]; omega⟩)
 refine T4 ?_
 refine A0L ?_
 refine H4 (outs := [rd br pb nb cb p2]) (rC rfl (A3 rfl rfl)) (by repeat (first | exact A0.nil | refine A0.cons Pk.here ?_ | refine A0.cons (Pk.there Pk.here) ?_ | refine A0.cons (Pk.there (Pk.there Pk.here)) ?_ | apply A0.drop)) ?_
 (exact ⟨p2, by omega, by omega, rfl, _, _, rfl, A1W _ _ _ ⟨by omega, by omega⟩ (by first | exact ⟨by omega, by omega⟩ | exact hkn), by first | exact O3 (by first | assumption | decide) | exact A0p (by decide) (by assumption) (by assumption) (by assumption) | exact S2 (by decide) (by assumption) (by assumption) | exact L2 (by decide) P8 (by assumption) | exact L2 (by decide) har.small (by assumption) | exact L2 (by decide) P8 (S2 (by decide) (by assumption) (O3 (by decide))) | exact L2 (by decide) A0q (O3 (by decide)) | assumption, by simp only [C7, E5]; omega⟩)
 refine sQ (qA rfl) rfl (sD (nS (cF rfl (tS (tR ?_)))))
 refine sB (qE rfl rfl) rfl rfl (fun h453 => ?_) (fun h453 => ?_)
 refine sQ (qA rfl) rfl (sD (nS (qT rfl (tS ?_))))
 (have hk45 : k = 4 ∨ k = 5 := (by omega); have hl2 := hops hk45; obtain ⟨m, rfl⟩ := hfu.pos (.inr hk45); have hmB : mB (m + 1) = 3 * mB m + 200 := rfl; have hgm := A1k m; obtain ⟨es9, hsl, hkl⟩ := hrt.kidsM; obtain ⟨b0, o0, q0, d0, hp0, hat0, hre0, hg0⟩ := hsl.kidTy hkl (i := 0) (by omega) (by omega); obtain ⟨b1, o1, q1, d1, hp1, hat1, hre1, hg1⟩ := hsl.kidTy hkl (i := 1) (by omega) (by omega); cases hp0; cases hp1; have hmem0 := List.getElem_mem (l := ks) (n := 0) (by omega); have hmem1 := List.getElem_mem (l := ks) (n := 1) (by omega); refine C9 D1 rfl ?_)
 refine H6 (i := 0) (l' := [tt,ff,ff,ff,ff,ff,ff,ff,ff,ff,ff,ff,ff,ff]) rfl C4 (qM rfl) rfl (by kernel_rfl) rfl rfl ?_
 refine aP 1 rfl (qM rfl) rfl ?_
 refine aP 2 rfl (A9 rfl) rfl ?_
 refine aL 3 rfl (B7 rfl rfl) rfl ?_
 refine aP 4 rfl (B0 (j := 0) rfl rfl rfl (by omega)) rfl ?_
 refine aL 5 rfl (A2 rfl rfl (hat0 _) rfl) rfl ?_
 refine aP 6 rfl (A9 rfl) rfl ?_
 refine aL 7 rfl (B7 rfl rfl) rfl ?_
 refine aP 8 rfl (B0 (j := 1) rfl rfl rfl (by omega)) rfl ?_
 refine aL 9 rfl (A2 rfl rfl (hat1 _) rfl) rfl ?_
 refine aP 10 rfl (qM rfl) rfl ?_
 refine aP 11 rfl (O4 rfl rfl (by omega) (by omega)) rfl ?_
 refine A1 12 ?_
 (have hcall := A9u br pb nb cb bs hnb m (ih m (by omega)) (depth - 1) ks[0] ks[1] (p2) _ pc nc cc _ _ (hfu.kid hmem1) (by omega) (by omega) (by omega) hx hre0 ⟨har.kid _ hmem0, by have := A5B (k := k) hmem0; omega⟩ hre1 hb (by omega); refine Z5 (l' := [tt,tt,tt,tt,tt,tt,tt,tt,tt,tt,tt,tt,tt,ff]) rfl rfl hcall (Pk.perm (by repeat (first | exact Pk.here | apply Pk.there))) rfl rfl rfl (by repeat (first | exact A8.nil | apply A8.dep (by decide +kernel) | apply A8.im (by decide +kernel) hg0 (by repeat first | exact mH | apply mT) | apply A8.im (by decide +kernel) hg1 (by repeat first | exact mH | apply mT) | apply A8.blk (by decide +kernel) (by repeat (first | exact Pk.here | apply Pk.there)) (by repeat first | exact mH | apply mT))) (fun v Gn outs hlek hh => ?_); obtain ⟨pk, hpk1, hpk2, rfl, ek, ck, rfl, hrk, hsmk, hck⟩ := hh; obtain ⟨k1, k2, k3, k4, k5, k6, k7, k8, k9, rfl⟩ := hrk.nine; replace hx := hx.mono hlek; replace hb := hb.mono hlek; replace hrt := hrt.mono hlek;)
 refine A1 13 ?_
 refine N4 rfl rfl rfl rfl rfl hrk.one rfl rfl (by kernel_rfl) (by repeat first | exact Sw.here | apply Sw.there) (by rfl) ?_
 refine B8 (nS (tT (rB ?_)))
 refine A0L ?_
 refine H4 (outs := [rd br pb nb cb pk]) (rC rfl (A3 rfl rfl)) (by repeat (first | exact A0.nil | refine A0.cons Pk.here ?_ | refine A0.cons (Pk.there Pk.here) ?_ | refine A0.cons (Pk.there (Pk.there Pk.here)) ?_ | apply A0.drop)) ?_
 (exact ⟨pk, by omega, by omega, rfl, _, _, rfl, hrk, hsmk, by omega⟩)
 refine sQ (qA rfl) rfl (sD (nS (cF rfl (tS (tR ?_)))))
 refine sB (qE rfl rfl) rfl rfl (fun h489 => ?_) (fun h489 => ?_)
 refine sQ (qA rfl) rfl (sD (nS (qT rfl (tS ?_))))
 (have hk45 : k = 4 ∨ k = 5 := (by omega); have hl2 := hops hk45; obtain ⟨m, rfl⟩ := hfu.pos (.inr hk45); have hmB : mB (m + 1) = 3 * mB m + 200 := rfl; have hgm := A1k m; obtain ⟨es9, hsl, hkl⟩ := hrt.kidsM; obtain ⟨b0, o0, q0, d0, hp0, hat0, hre0, hg0⟩ := hsl.kidTy hkl (i := 0) (by omega) (by omega); obtain ⟨b1, o1, q1, d1, hp1, hat1, hre1, hg1⟩ := hsl.kidTy hkl (i := 1) (by omega) (by omega); cases hp0; cases hp1; have hmem0 := List.getElem_mem (l := ks) (n := 0) (by omega); have hmem1 := List.getElem_mem (l := ks) (n := 1) (by omega); refine C9 D1 rfl ?_)
 refine H6 (i := 0) (l' := [tt,ff,ff,ff,ff,ff,ff,ff,ff,ff,ff,ff,ff,ff,ff,ff,ff,ff,ff,ff,ff]) rfl C4 (qM rfl) rfl (by kernel_rfl) rfl rfl ?_
 refine aP 1 rfl (qM rfl) rfl ?_
 refine aP 2 rfl (A9 rfl) rfl ?_
 refine aL 3 rfl (B7 rfl rfl) rfl ?_
 refine aP 4 rfl (B0 (j := 0) rfl rfl rfl (by omega)) rfl ?_
 refine aL 5 rfl (A2 rfl rfl (hat0 _) rfl) rfl ?_
 refine aP 6 rfl (qM rfl) rfl ?_
 refine aP 7 rfl (O4 rfl rfl (by omega) (by omega)) rfl ?_
 refine aP 9 rfl (qM rfl) rfl ?_
 refine aP 10 rfl (qM rfl) rfl ?_
 refine aP 11 rfl (A9 rfl) rfl ?_
 refine aL 12 rfl (B7 rfl rfl) rfl ?_
 refine aP 13 rfl (B0 (j := 1) rfl rfl rfl (by omega)) rfl ?_
 refine aL 14 rfl (A2 rfl rfl (hat1 _) rfl) rfl ?_
 refine aP 15 rfl (qM rfl) rfl ?_
 refine aP 16 rfl (O4 rfl rfl (by omega) (by omega)) rfl ?_
 refine A1 8 ?_
 (have hcall := ih m (by omega) (depth - 1) ks[0] p2 _ pc nc cc _ (hfu.kid hmem0) (by omega) (by omega) (by omega) hx hre0 hb (by omega); refine Z5 (l' := [tt,tt,tt,tt,tt,tt,tt,tt,tt,tt,tt,tt,tt,tt,tt,tt,tt,ff,ff,ff,ff]) rfl rfl hcall (Pk.perm (by repeat (first | exact Pk.here | apply Pk.there))) rfl rfl rfl (by repeat (first | exact A8.nil | apply A8.dep (by decide +kernel) | apply A8.im (by decide +kernel) hg0 (by repeat first | exact mH | apply mT) | apply A8.im (by decide +kernel) hg1 (by repeat first | exact mH | apply mT) | apply A8.blk (by decide +kernel) (by repeat (first | exact Pk.here | apply Pk.there)) (by repeat first | exact mH | apply mT))) (fun v Gn outs hles hh => ?_); obtain ⟨ps, hps1, hps2, rfl, es, cs, rfl, hrs, hsms, hcs⟩ := hh; obtain ⟨s1, s2, s3, s4, s5, s6, s7, s8, s9, rfl⟩ := hrs.nine; replace hre1 := hre1.mono hles; replace hx := hx.mono hles; replace hb := hb.mono hles; replace hrt := hrt.mono hles;)
 refine A1 17 ?_
 (have hcall := ih m (by omega) (depth - 1) ks[1] ps _ pc nc cc _ (hfu.kid hmem1) (by omega) (by omega) (by omega) hx hre1 hb (by omega); refine Z5 (l' := [tt,tt,tt,tt,tt,tt,tt,tt,tt,tt,tt,tt,tt,tt,tt,tt,tt,tt,ff,ff,ff]) rfl rfl hcall (Pk.perm (by repeat (first | exact Pk.here | apply Pk.there))) rfl rfl rfl (by repeat (first | exact A8.nil | apply A8.dep (by decide +kernel) | apply A8.im (by decide +kernel) hg0 (by repeat first | exact mH | apply mT) | apply A8.im (by decide +kernel) hg1 (by repeat first | exact mH | apply mT) | apply A8.blk (by decide +kernel) (by repeat (first | exact Pk.here | apply Pk.there)) (by repeat first | exact mH | apply mT))) (fun v Gn outs hlew hh => ?_); obtain ⟨pw, hpw1, hpw2, rfl, ew, cw, rfl, hrw, hsmw, hcw⟩ := hh; obtain ⟨w1, w2, w3, w4, w5, w6, w7, w8, w9, rfl⟩ := hrw.nine; replace hrs := hrs.mono hlew; replace hx := hx.mono hlew; replace hb := hb.mono hlew; replace hrt := hrt.mono hlew;)
 refine A1 18 ?_
 (refine D9 rfl (C8 rfl rfl rfl (by omega) (by unfold maxLen; omega) rfl) rfl rfl ?_; rintro _ ⟨b517, rfl⟩)
 refine A1 19 ?_
 refine J0 rfl rfl ((A0l _ _ _ _ _)) rfl rfl rfl ?_
 refine A1 20 ?_
 refine N4 rfl rfl rfl rfl rfl rfl rfl rfl (by decide +kernel) (by repeat first | exact Sw.here | apply Sw.there) (by rfl) ?_
 refine B8 (nS ?_)
 (refine H7 (cs := [s1, s2, s3, s4, s5, s6, s7, s8, s9] ++ [w1, w2, w3, w4, w5, w6, w7, w8, w9]) (by repeat (first | exact Pk.here | apply Pk.there)) (fun G9 hle9 hsl9 hno9 => ?_); have hN := A3F (k := 10) (nm := ⟨⟨[]⟩⟩) ⟨by omega, by omega⟩ (hrs.mono hle9) (hrw.mono hle9) hsl9)
 refine tT (rB ?_)
 refine A0L ?_
 refine H4 (outs := [rd br pb nb cb pw]) (rC rfl (A3 rfl rfl)) (by repeat (first | exact A0.nil | refine A0.cons Pk.here ?_ | refine A0.cons (Pk.there Pk.here) ?_ | refine A0.cons (Pk.there (Pk.there Pk.here)) ?_ | apply A0.drop)) ?_
 (exact ⟨pw, by omega, by omega, rfl, _, _, rfl, hN, by first | exact O3 (by first | assumption | decide) | exact A0p (by decide) (by assumption) (by assumption) (by assumption) | exact S2 (by decide) (by assumption) (by assumption) | exact L2 (by decide) P8 (by assumption) | exact L2 (by decide) har.small (by assumption) | exact L2 (by decide) P8 (S2 (by decide) (by assumption) (O3 (by decide))) | exact L2 (by decide) A0q (O3 (by decide)) | assumption, by simp only [C7, E5]; omega⟩)
 refine sQ (qA rfl) rfl (sD (nS (cF rfl (tS (tR ?_)))))
 refine sB (qE rfl rfl) rfl rfl (fun h536 => ?_) (fun h536 => ?_)
 refine D8 ?_
 refine sB (W2 rfl rfl) rfl rfl (fun h545 => ?_) (fun h545 => ?_)
 refine sQ (qM rfl) rfl (sQ (qM rfl) rfl ?_)
 (have hkk1 : k = 1 := (by omega); refine H1 rfl (S8 _ br pb nb cb (p2) bs 3 hb hnb (by omega)) (Pk.perm (by repeat (first | exact Pk.here | apply Pk.there))) rfl rfl (fun v Gp outs hle548 hh => ?_); obtain ⟨rfl, rfl, j548, rfl, hj548, hk548⟩ := hh; have hpk23 := hj548)
 replace hb := hb.mono hle548
 replace hrt := hrt.mono hle548
 refine sB (qE rfl rfl) rfl rfl (fun h549 => ?_) (fun h549 => ?_)
 refine D7 ?_
 (have hcall := A3s br pb nb cb bs hnb 1 (p2 + 1) _ (by omega) hb (by have : dB (1 + 1) ≤ 6 := (by decide); omega); refine H1 rfl hcall (Pk.perm (by repeat (first | exact Pk.here | apply Pk.there))) rfl rfl (fun v Gn outs hleF hh => ?_); obtain ⟨pF, hpF1, hpF2, rfl, uF, cuF, rfl, hruF, husF, huhF⟩ := hh; have huaF := huhF.ar; obtain ⟨quF, duF, euF, rfl, _⟩ := hruF.open; have hdBF : dB (1 + 1) ≤ 6 := (by decide); replace hx := hx.mono hleF; replace hb := hb.mono hleF; replace hrt := hrt.mono hleF;)
 refine sQ (qM rfl) rfl ?_
 refine sP (O4 rfl rfl (by omega) (by omega)) rfl rfl ?_
 (obtain ⟨m, rfl⟩ := hfu.pos (.inl (by omega)); have hmB : mB (m + 1) = 3 * mB m + 200 := rfl; have hgm := A1k m; have hcall := ih m (by omega) (depth - 1) uF pF _ pc nc cc _ (hfu.sub (by omega) (huhF.le (by omega))) (by omega) (by omega) (by omega) hx hruF hb (by omega); refine H1 rfl hcall (Pk.perm (by repeat (first | exact Pk.here | apply Pk.there))) rfl rfl (fun v Gn outs hlex hh => ?_); obtain ⟨px, hpx1, hpx2, rfl, ex, cx, rfl, hrx, hsmx, hcx⟩ := hh; obtain ⟨x1, x2, x3, x4, x5, x6, x7, x8, x9, rfl⟩ := hrx.nine; replace hx := hx.mono hlex; replace hb := hb.mono hlex; replace hrt := hrt.mono hlex;)
 refine sS rfl rfl rfl rfl hrx.one rfl ?_
 refine sD (nS (tT (rS (rB ?_))))
 refine A0L ?_
 refine H4 (outs := [rd br pb nb cb px]) (rC rfl (A3 rfl rfl)) (by repeat (first | exact A0.nil | refine A0.cons Pk.here ?_ | refine A0.cons (Pk.there Pk.here) ?_ | refine A0.cons (Pk.there (Pk.there Pk.here)) ?_ | apply A0.drop)) ?_
 (exact ⟨px, by omega, by omega, rfl, _, _, rfl, hrx, hsmx, by omega⟩)
 refine D7 ?_
 (refine H1 rfl (S8 _ br pb nb cb (p2 + 1) bs 3 hb hnb (by omega)) (Pk.perm (by repeat (first | exact Pk.here | apply Pk.there))) rfl rfl (fun v Gp outs hle581 hh => ?_); obtain ⟨rfl, rfl, j581, rfl, hj581, hk581⟩ := hh; have hpk21 := hj581)
 replace hb := hb.mono hle581
 replace hrt := hrt.mono hle581
 refine sB (qE rfl rfl) rfl rfl (fun h582 => ?_) (fun h582 => ?_)
 refine sD (nS (qT rfl (tS (tR ?_))))
 refine E8 rfl ((A0x _)) rfl rfl ?_
 refine sQ (Q1 rfl rfl) rfl ?_
 (refine J5 (C8 rfl rfl rfl (by omega) (by unfold maxLen; omega) rfl) rfl ?_; rintro _ ⟨b590, rfl⟩)
 refine sQ (Q1 rfl rfl) rfl (F8 ?_)
 refine sD (nS ?_)
 (refine H7 (cs := [.int .i64 4, .string ⟨⟨[]⟩⟩, .int .i64 0, .int .i64 0, .slice none 0 0, .int .i64 0, .slice none 0 0, .int .i64 0, .slice none 0 0]) (by repeat (first | exact Pk.here | apply Pk.there)) (fun G9 hle9 hsl9 hno9 => ?_); have hN := A3E (k := 13) (nm := ⟨⟨[]⟩⟩) ⟨by omega, by omega⟩ (A0y _) (A1W G9 ⟨⟨[]⟩⟩ 0 (k := 4) ⟨by omega, by omega⟩ ⟨by omega, by omega⟩) hsl9)
 refine tT (rB ?_)
 refine A0L ?_
 refine H4 (outs := [rd br pb nb cb (p2 + 1 + 1)]) (rC rfl (A3 rfl rfl)) (by repeat (first | exact A0.nil | refine A0.cons Pk.here ?_ | refine A0.cons (Pk.there Pk.here) ?_ | refine A0.cons (Pk.there (Pk.there Pk.here)) ?_ | apply A0.drop)) ?_
 (exact ⟨(p2 + 1 + 1), by omega, by omega, rfl, _, _, rfl, hN, by first | exact O3 (by first | assumption | decide) | exact A0p (by decide) (by assumption) (by assumption) (by assumption) | exact S2 (by decide) (by assumption) (by assumption) | exact L2 (by decide) P8 (by assumption) | exact L2 (by decide) har.small (by assumption) | exact L2 (by decide) P8 (S2 (by decide) (by assumption) (O3 (by decide))) | exact L2 (by decide) A0q (O3 (by decide)) | assumption, by simp only [C7, E5]; omega⟩)
 refine sD (nS (cF rfl (tK (M8 ?_))))
 refine A3H (p2 + 1 + 1, Gp) (N3 (by repeat (first | exact E9.nil | refine E9.cons rfl ?_)) (by repeat (first | exact A0.refl | exact A0.nil | refine A0.cons (by repeat (first | exact Pk.here | apply Pk.there)) ?_ | apply A0.drop))) ⟨B6.refl _, by dsimp only; omega, by dsimp only; omega⟩
 refine J4 ?_
 (have hkk1 : k = 1 := (by omega); refine H1 rfl (S8 _ br pb nb cb (p2) bs 3 hb hnb (by omega)) (Pk.perm (by repeat (first | exact Pk.here | apply Pk.there))) rfl rfl (fun v Gp outs hle620 hh => ?_); obtain ⟨rfl, rfl, j620, rfl, hj620, hk620⟩ := hh; have hpk23 := hj620)
 replace hb := hb.mono hle620
 replace hrt := hrt.mono hle620
 refine sB (qE rfl rfl) rfl rfl (fun h621 => ?_) (fun h621 => ?_)
 refine sD (nS (qT rfl (tS (tR ?_))))
 refine E8 rfl ((A0x _)) rfl rfl ?_
 refine sQ (Q1 rfl rfl) rfl ?_
 (refine J5 (C8 rfl rfl rfl (by omega) (by unfold maxLen; omega) rfl) rfl ?_; rintro _ ⟨b629, rfl⟩)
 refine sQ (Q1 rfl rfl) rfl (F8 ?_)
 refine sD (nS ?_)
 (refine H7 (cs := [.int .i64 4, .string ⟨⟨[]⟩⟩, .int .i64 0, .int .i64 0, .slice none 0 0, .int .i64 0, .slice none 0 0, .int .i64 0, .slice none 0 0]) (by repeat (first | exact Pk.here | apply Pk.there)) (fun G9 hle9 hsl9 hno9 => ?_); have hN := A3E (k := 13) (nm := ⟨⟨[]⟩⟩) ⟨by omega, by omega⟩ (A0y _) (A1W G9 ⟨⟨[]⟩⟩ 0 (k := 4) ⟨by omega, by omega⟩ ⟨by omega, by omega⟩) hsl9)
 refine tT (rB ?_)
 refine A0L ?_
 refine H4 (outs := [rd br pb nb cb (p2 + 1)]) (rC rfl (A3 rfl rfl)) (by repeat (first | exact A0.nil | refine A0.cons Pk.here ?_ | refine A0.cons (Pk.there Pk.here) ?_ | refine A0.cons (Pk.there (Pk.there Pk.here)) ?_ | apply A0.drop)) ?_
 (exact ⟨(p2 + 1), by omega, by omega, rfl, _, _, rfl, hN, by first | exact O3 (by first | assumption | decide) | exact A0p (by decide) (by assumption) (by assumption) (by assumption) | exact S2 (by decide) (by assumption) (by assumption) | exact L2 (by decide) P8 (by assumption) | exact L2 (by decide) har.small (by assumption) | exact L2 (by decide) P8 (S2 (by decide) (by assumption) (O3 (by decide))) | exact L2 (by decide) A0q (O3 (by decide)) | assumption, by simp only [C7, E5]; omega⟩)
 refine sD (nS (cF rfl (tK (M8 ?_))))
 refine A3H (p2 + 1, Gp) (N3 (by repeat (first | exact E9.nil | refine E9.cons rfl ?_)) (by repeat (first | exact A0.refl | exact A0.nil | refine A0.cons (by repeat (first | exact Pk.here | apply Pk.there)) ?_ | apply A0.drop))) ⟨B6.refl _, by dsimp only; omega, by dsimp only; omega⟩
 refine sQ (qA rfl) rfl (sD (nS (cF rfl (tK (M8 ?_)))))
 refine A3H (p2, G2) (N3 (by repeat (first | exact E9.nil | refine E9.cons rfl ?_)) (by repeat (first | exact A0.refl | exact A0.nil | refine A0.cons (by repeat (first | exact Pk.here | apply Pk.there)) ?_ | apply A0.drop))) ⟨B6.refl _, by dsimp only; omega, by dsimp only; omega⟩
 (have hq := hcut1; rintro ⟨(p5 : Nat), G5⟩ ⟨hle5c, hp5a, hp5b⟩; simp only [] at hle5c hp5a hp5b ⊢; have hcut2 := hp5a; replace hx := hx.mono hle5c; replace hb := hb.mono hle5c; replace hrt := hrt.mono hle5c;)
 refine tS (tS (tR (sQ (qM rfl) rfl ?_)))
 refine sB (W2 rfl rfl) rfl rfl (fun h658 => ?_) (fun h658 => ?_)
 refine sQ (qM rfl) rfl (sQ (qM rfl) rfl ?_)
 (refine H1 rfl (S8 _ br pb nb cb (p5) bs 2 hb hnb (by omega)) (Pk.perm (by repeat (first | exact Pk.here | apply Pk.there))) rfl rfl (fun v Gp outs hle661 hh => ?_); obtain ⟨rfl, rfl, j661, rfl, hj661, hk661⟩ := hh; have hpk5 := hj661)
 replace hb := hb.mono hle661
 replace hrt := hrt.mono hle661
 refine sB (qE rfl rfl) rfl rfl (fun h662 => ?_) (fun h662 => ?_)
 refine D7 ?_
 refine E8 rfl ((V9 _)) rfl rfl ?_
 (have hz2 : H2 (.mk 2 []) = 0 := rfl; have hcall := A4m br pb nb cb bs hnb (.mk 2 []) (p5 + 1) _ _ (M4 (by decide) (by decide)) (J8 _ ⟨by omega, by omega⟩) hb (by omega); refine H1 rfl hcall (Pk.perm (by repeat (first | exact Pk.here | apply Pk.there))) rfl rfl (fun v Gn outs hleG hh => ?_); obtain ⟨pG, hpG1, hpG2, rfl, uG, cuG, rfl, hruG, huaG, husG, huhG⟩ := hh; obtain ⟨quG, duG, euG, rfl, _⟩ := hruG.open; replace hx := hx.mono hleG; replace hb := hb.mono hleG; replace hrt := hrt.mono hleG;)
 refine sQ (qM rfl) rfl ?_
 refine sP (O4 rfl rfl (by omega) (by omega)) rfl rfl ?_
 (obtain ⟨m, rfl⟩ := hfu.pos (.inl (by omega)); have hmB : mB (m + 1) = 3 * mB m + 200 := rfl; have hgm := A1k m; have hcall := ih m (by omega) (depth - 1) uG pG _ pc nc cc _ (hfu.sub (by omega) (huhG 4 (A2H 4 (by decide) (by decide)))) (by omega) (by omega) (by omega) hx hruG hb (by omega); refine H1 rfl hcall (Pk.perm (by repeat (first | exact Pk.here | apply Pk.there))) rfl rfl (fun v Gn outs hley hh => ?_); obtain ⟨py, hpy1, hpy2, rfl, ey, cy, rfl, hry, hsmy, hcy⟩ := hh; obtain ⟨y1, y2, y3, y4, y5, y6, y7, y8, y9, rfl⟩ := hry.nine; replace hx := hx.mono hley; replace hb := hb.mono hley; replace hrt := hrt.mono hley;)
 refine sQ (qM rfl) rfl (sQ (qM rfl) rfl ?_)
 refine E8 rfl ((V9 _)) rfl rfl ?_
 refine sQ (qM rfl) rfl ?_
 refine sP (O4 rfl rfl (by omega) (by omega)) rfl rfl ?_
 (have hcall := ih m (by omega) (depth - 1) (.mk 2 []) py _ pc nc cc _ (hfu.sub (by omega) (A2H 4 (by decide) (by decide))) (by omega) (by omega) (by omega) hx (J8 _ ⟨by omega, by omega⟩) hb (by omega); refine H1 rfl hcall (Pk.perm (by repeat (first | exact Pk.here | apply Pk.there))) rfl rfl (fun v Gn outs hlec hh => ?_); obtain ⟨pc, hpc1, hpc2, rfl, ec, cc, rfl, hrc, hsmc, hcc⟩ := hh; obtain ⟨c1, c2, c3, c4, c5, c6, c7, c8, c9, rfl⟩ := hrc.nine; replace hry := hry.mono hlec; replace hx := hx.mono hlec; replace hb := hb.mono hlec; replace hrt := hrt.mono hlec;)
 (refine J5 (C8 rfl rfl rfl (by omega) (by unfold maxLen; omega) rfl) rfl ?_; rintro _ ⟨b683, rfl⟩)
 refine E8 rfl ((A0l _ _ _ _ _)) rfl rfl ?_
 refine F8 ?_
 refine sD (nS ?_)
 (refine H7 (cs := [y1, y2, y3, y4, y5, y6, y7, y8, y9] ++ [c1, c2, c3, c4, c5, c6, c7, c8, c9]) (by repeat (first | exact Pk.here | apply Pk.there)) (fun G9 hle9 hsl9 hno9 => ?_); have hN := A3F (k := 7) (nm := ⟨⟨[]⟩⟩) ⟨by omega, by omega⟩ (hry.mono hle9) (hrc.mono hle9) hsl9)
 refine tT (rS ?_)
 refine H4 (outs := [rd br pb nb cb pc]) (rC rfl (A3 rfl rfl)) (by repeat (first | exact A0.nil | refine A0.cons Pk.here ?_ | refine A0.cons (Pk.there Pk.here) ?_ | refine A0.cons (Pk.there (Pk.there Pk.here)) ?_ | apply A0.drop)) ?_
 (exact ⟨pc, by omega, by omega, rfl, _, _, rfl, hN, by first | exact O3 (by first | assumption | decide) | exact A0p (by decide) (by assumption) (by assumption) (by assumption) | exact S2 (by decide) (by assumption) (by assumption) | exact L2 (by decide) P8 (by assumption) | exact L2 (by decide) har.small (by assumption) | exact L2 (by decide) P8 (S2 (by decide) (by assumption) (O3 (by decide))) | exact L2 (by decide) A0q (O3 (by decide)) | assumption, by simp only [C7, E5]; omega⟩)
 refine D7 ?_
 (refine J5 (C8 rfl rfl rfl (by omega) (by unfold maxLen; omega) rfl) rfl ?_; rintro _ ⟨b702, rfl⟩)
 (refine S7 (by repeat (first | exact Pk.here | apply Pk.there)) (fun G4 hle4 hsl4 _ => ?_); refine H1 rfl (Z7 G4 br pb nb cb (p5 + 1) bs _ _ _ _ (hb.mono hle4) hnb (by omega) hsl4 (by decide)) (Pk.perm (by repeat (first | exact Pk.here | apply Pk.there))) rfl rfl (fun v G7 outs hle7 hh => ?_); obtain ⟨rfl, rfl, hv⟩ := hh; obtain ⟨kn, rfl, hkn⟩ : ∃ k, v = .int .i64 k ∧ F4 k := (by simp only [List.mem_cons, List.not_mem_nil, or_false] at hv; rcases hv with rfl | rfl | rfl | rfl | rfl <;> exact ⟨_, rfl, by unfold F4; omega⟩))
 refine E8 rfl ((A1L _ _)) rfl rfl ?_
 refine F8 ?_
 refine sD (nS (tT ?_))
 refine H4 (outs := [rd br pb nb cb (p5 + 1 + 1)]) (rC rfl (A3 rfl rfl)) (by repeat (first | exact A0.nil | refine A0.cons Pk.here ?_ | refine A0.cons (Pk.there Pk.here) ?_ | refine A0.cons (Pk.there (Pk.there Pk.here)) ?_ | apply A0.drop)) ?_
 (exact ⟨(p5 + 1 + 1), by omega, by omega, rfl, _, _, rfl, A1W _ _ _ ⟨by omega, by omega⟩ (by first | exact ⟨by omega, by omega⟩ | exact hkn), by first | exact O3 (by first | assumption | decide) | exact A0p (by decide) (by assumption) (by assumption) (by assumption) | exact S2 (by decide) (by assumption) (by assumption) | exact L2 (by decide) P8 (by assumption) | exact L2 (by decide) har.small (by assumption) | exact L2 (by decide) P8 (S2 (by decide) (by assumption) (O3 (by decide))) | exact L2 (by decide) A0q (O3 (by decide)) | assumption, by simp only [C7, E5]; omega⟩)
 refine J4 ?_
 (refine J5 (C8 rfl rfl rfl (by omega) (by unfold maxLen; omega) rfl) rfl ?_; rintro _ ⟨b724, rfl⟩)
 (refine S7 (by repeat (first | exact Pk.here | apply Pk.there)) (fun G4 hle4 hsl4 _ => ?_); refine H1 rfl (Z7 G4 br pb nb cb p5 bs _ _ _ _ (hb.mono hle4) hnb (by omega) hsl4 (by decide)) (Pk.perm (by repeat (first | exact Pk.here | apply Pk.there))) rfl rfl (fun v G7 outs hle7 hh => ?_); obtain ⟨rfl, rfl, hv⟩ := hh; obtain ⟨kn, rfl, hkn⟩ : ∃ k, v = .int .i64 k ∧ F4 k := (by simp only [List.mem_cons, List.not_mem_nil, or_false] at hv; rcases hv with rfl | rfl | rfl | rfl | rfl <;> exact ⟨_, rfl, by unfold F4; omega⟩))
 refine E8 rfl ((A1L _ _)) rfl rfl ?_
 refine F8 ?_
 refine sD (nS (tT ?_))
 refine H4 (outs := [rd br pb nb cb (p5 + 1)]) (rC rfl (A3 rfl rfl)) (by repeat (first | exact A0.nil | refine A0.cons Pk.here ?_ | refine A0.cons (Pk.there Pk.here) ?_ | refine A0.cons (Pk.there (Pk.there Pk.here)) ?_ | apply A0.drop)) ?_
 (exact ⟨(p5 + 1), by omega, by omega, rfl, _, _, rfl, A1W _ _ _ ⟨by omega, by omega⟩ (by first | exact ⟨by omega, by omega⟩ | exact hkn), by first | exact O3 (by first | assumption | decide) | exact A0p (by decide) (by assumption) (by assumption) (by assumption) | exact S2 (by decide) (by assumption) (by assumption) | exact L2 (by decide) P8 (by assumption) | exact L2 (by decide) har.small (by assumption) | exact L2 (by decide) P8 (S2 (by decide) (by assumption) (O3 (by decide))) | exact L2 (by decide) A0q (O3 (by decide)) | assumption, by simp only [C7, E5]; omega⟩)
def N2 (o : Option Ty) (G : IM) : IM → Value → List A4 → Prop := K4 fun G' v => ∃ t cells, v = .tuple ⟨[.agg ⟨cells⟩, .bool o.isSome]⟩ ∧ B3 G' t cells ∧ D4 t ∧ ∀ u, o = some u → u = t
theorem N2.yes {G G' : IM} {o : Option Ty} {t : Ty} {cells : List Value} (h : o = some t) (hr : B3 G' t cells) (ha : D4 t) : N2 o G G' (.tuple ⟨[.agg ⟨cells⟩, .bool true]⟩) [] := by
 subst h; exact ⟨rfl, t, cells, rfl, hr, ha, fun u h => (by cases h; rfl)⟩
theorem N2.no {G G' : IM} {o : Option Ty} {t : Ty} {cells : List Value} (h : o = none) (hr : B3 G' t cells) (ha : D4 t) : N2 o G G' (.tuple ⟨[.agg ⟨cells⟩, .bool false]⟩) [] := by
 subst h; exact ⟨rfl, t, cells, rfl, hr, ha, fun u h => (by cases h)⟩
theorem N2.mk {G G' : IM} {o : Option Ty} {b : Bool} {t : Ty} {cells : List Value} (h : o = if b = true then some t else none) (hr : B3 G' t cells) (ha : D4 t) : N2 o G G' (.tuple ⟨[.agg ⟨cells⟩, .bool b]⟩) [] := by
 cases b
 ·exact N2.no h hr ha
 ·exact N2.yes h hr ha
theorem A6e {t : Ty} (h : M1 t = true) : D4 t := (A4n h).1
theorem A4H (k : Int) (a b : Ty) (G : IM) (ca cb : List Value) (hk : k = 4 ∨ k = 5) (ha : D4 a) (hb : D4 b) (hra : B3 G a ca) (hrb : B3 G b cb) :
  Fn Tryz.prog 198 [.int .i64 k, .agg ⟨ca⟩, .agg ⟨cb⟩] [] G (K4 fun G' v => ∃ cells, v = .tuple ⟨[.agg ⟨cells⟩, .bool (M1 (.mk k [a, b]))]⟩ ∧ B3 G' (.mk k [a, b]) cells) := by
 obtain ⟨ak, aks⟩ := a
 obtain ⟨bk, bks⟩ := b
 obtain ⟨pa, cca, ea, rfl, _⟩ := hra.open
 obtain ⟨pb, ccb, eb, rfl, _⟩ := hrb.open
 have hki : F4 k := ⟨by omega, by omega⟩
 refine B5 Tryz.func198 rfl Tryz.ntmps198 Tryz.results198 rfl ?_
 intro w0
 refine tS (tR ?_)
 refine sE (C0 rfl rfl) rfl (fun b3 => ?_)
 refine sE (C0 rfl rfl) rfl (fun b4 => ?_)
 refine sE (A5 rfl) rfl (fun b5 => ?_)
 refine sQ (qA rfl) rfl (sD (nS (tS ?_)))
 refine C9 D1 rfl ?_
 refine H6 (i := 0) (l' := [tt,ff,ff,ff,ff,ff,ff,ff,ff]) rfl C4 (qM rfl) rfl (by kernel_rfl) rfl rfl ?_
 refine aL 1 rfl (A3 rfl rfl) rfl ?_
 refine aL 3 rfl (A3 rfl rfl) rfl ?_
 refine P5 (j := 2) (j' := 7) (by kernel_rfl) ?_ ?_
 (refine E1 rfl rfl (O6 _ G _ ha.small hra) rfl rfl rfl (fun v G1 hle1 hh => ?_); obtain ⟨N6, F1, rfl, hs1, hn1⟩ := hh; obtain ⟨p1, c1, rfl, _⟩ := hs1.open; have hC2 := O6 _ G1 _ hb.small (hrb.mono hle1))
 refine P5 (j := 4) (j' := 7) (by kernel_rfl) ?_ ?_
 (refine E1 rfl rfl hC2 rfl rfl rfl (fun v G2 hle2 hh => ?_); obtain ⟨cs2, F2, rfl, hs2, hn2⟩ := hh; obtain ⟨p2, c2, rfl, _⟩ := hs2.open; have hr1 := hs1.R.mono ((C1.le G1 G).trans hle2); have hr2 := hs2.R.mono (C1.le G2 G1))
 refine P5 (j := 5) (j' := 7) (by kernel_rfl) ?_ ?_
 (refine D9 rfl (C8 rfl rfl rfl (by omega) (by unfold maxLen; omega) rfl) rfl rfl ?_; rintro _ ⟨b19, rfl⟩)
 refine aP 6 rfl (Q1 rfl rfl) rfl ?_
 refine A1 7 ?_
 (refine D9 rfl (A5 rfl) rfl rfl ?_; rintro _ ⟨b22, rfl⟩)
 refine A1 8 ?_
 refine F0 rfl ?_
 refine B8 (nS (tS ?_))
 (have hr1' := hr1; refine A0j (by repeat (first | exact Pk.here | apply Pk.there)) (fun G5 hle5 hsl5 hno5 => ?_); have hRT : B3 G5 (.mk k [.mk ak aks, .mk bk bks]) _ := E3.ty (ts := [.mk ak aks, .mk bk bks]) (es := [[.int .i64 ak, .slice p1 aks.length c1], [.int .i64 bk, .slice p2 bks.length c2]]) ⟨_, _, rfl, hr1.mono hle5, _, _, rfl, hr2.mono hle5, rfl⟩ rfl hsl5 hki; have hV := A0I _ G5 _ hRT; refine C9 D1 rfl ?_)
 refine L0 (i := 0) (l' := [tt,ff,ff,ff,ff]) rfl C4 (A3 rfl rfl) rfl (by kernel_rfl) rfl rfl ?_
 refine aL 1 rfl (A3 rfl rfl) rfl ?_
 refine A1 2 ?_
 refine J0 rfl rfl (hV) rfl rfl rfl ?_
 refine A1 3 ?_
 refine F0 rfl ?_
 refine aP 4 rfl (qA rfl) rfl ?_
 refine B8 (nS (tT ?_))
 refine D6 (rC rfl (A3 rfl rfl)) (rT rfl) ?_
 (exact ⟨rfl, _, rfl, hRT⟩)
 (refine D9 rfl (A5 rfl) rfl rfl ?_; rintro _ ⟨b41, rfl⟩)
 refine A1 5 ?_
 (refine D9 rfl (C8 rfl rfl rfl (by omega) (by unfold maxLen; omega) rfl) rfl rfl ?_; rintro _ ⟨b43, rfl⟩)
 refine aP 6 rfl (Q1 rfl rfl) rfl ?_
 refine A1 8 ?_
 refine F0 rfl ?_
 refine B8 (nS (tS ?_))
 (have hr1' := hr1; refine A0j (by repeat (first | exact Pk.here | apply Pk.there)) (fun G5 hle5 hsl5 hno5 => ?_); have hRT : B3 G5 (.mk k [.mk ak aks, .mk bk bks]) _ := E3.ty (ts := [.mk ak aks, .mk bk bks]) (es := [[.int .i64 ak, .slice p1 aks.length c1], [.int .i64 bk, .slice p2 bks.length c2]]) ⟨_, _, rfl, hr1.mono hle5, _, _, rfl, hr2.mono hle5, rfl⟩ rfl hsl5 hki; have hV := A0I _ G5 _ hRT; refine C9 D1 rfl ?_)
 refine L0 (i := 0) (l' := [tt,ff,ff,ff,ff]) rfl C4 (A3 rfl rfl) rfl (by kernel_rfl) rfl rfl ?_
 refine aL 1 rfl (A3 rfl rfl) rfl ?_
 refine A1 2 ?_
 refine J0 rfl rfl (hV) rfl rfl rfl ?_
 refine A1 3 ?_
 refine F0 rfl ?_
 refine aP 4 rfl (qA rfl) rfl ?_
 refine B8 (nS (tT ?_))
 refine D6 (rC rfl (A3 rfl rfl)) (rT rfl) ?_
 (exact ⟨rfl, _, rfl, hRT⟩)
 (refine D9 rfl (A5 rfl) rfl rfl ?_; rintro _ ⟨b63, rfl⟩)
 refine A1 4 ?_
 (refine E1 rfl rfl hC2 rfl rfl rfl (fun v G2 hle2 hh => ?_); obtain ⟨cs2, F2, rfl, hs2, hn2⟩ := hh; obtain ⟨p2, c2, rfl, _⟩ := hs2.open; have hr1 := hs1.R.mono ((C1.le G1 G).trans hle2); have hr2 := hs2.R.mono (C1.le G2 G1))
 refine A1 5 ?_
 (refine D9 rfl (C8 rfl rfl rfl (by omega) (by unfold maxLen; omega) rfl) rfl rfl ?_; rintro _ ⟨b67, rfl⟩)
 refine aP 6 rfl (Q1 rfl rfl) rfl ?_
 refine A1 8 ?_
 refine F0 rfl ?_
 refine B8 (nS (tS ?_))
 (have hr1' := hr1; refine A0j (by repeat (first | exact Pk.here | apply Pk.there)) (fun G5 hle5 hsl5 hno5 => ?_); have hRT : B3 G5 (.mk k [.mk ak aks, .mk bk bks]) _ := E3.ty (ts := [.mk ak aks, .mk bk bks]) (es := [[.int .i64 ak, .slice p1 aks.length c1], [.int .i64 bk, .slice p2 bks.length c2]]) ⟨_, _, rfl, hr1.mono hle5, _, _, rfl, hr2.mono hle5, rfl⟩ rfl hsl5 hki; have hV := A0I _ G5 _ hRT; refine C9 D1 rfl ?_)
 refine L0 (i := 0) (l' := [tt,ff,ff,ff,ff]) rfl C4 (A3 rfl rfl) rfl (by kernel_rfl) rfl rfl ?_
 refine aL 1 rfl (A3 rfl rfl) rfl ?_
 refine A1 2 ?_
 refine J0 rfl rfl (hV) rfl rfl rfl ?_
 refine A1 3 ?_
 refine F0 rfl ?_
 refine aP 4 rfl (qA rfl) rfl ?_
 refine B8 (nS (tT ?_))
 refine D6 (rC rfl (A3 rfl rfl)) (rT rfl) ?_
 (exact ⟨rfl, _, rfl, hRT⟩)
 (refine D9 rfl (A5 rfl) rfl rfl ?_; rintro _ ⟨b87, rfl⟩)
 refine A1 2 ?_
 (refine E1 rfl rfl (O6 _ G _ ha.small hra) rfl rfl rfl (fun v G1 hle1 hh => ?_); obtain ⟨N6, F1, rfl, hs1, hn1⟩ := hh; obtain ⟨p1, c1, rfl, _⟩ := hs1.open; have hC2 := O6 _ G1 _ hb.small (hrb.mono hle1))
 refine A1 4 ?_
 (refine E1 rfl rfl hC2 rfl rfl rfl (fun v G2 hle2 hh => ?_); obtain ⟨cs2, F2, rfl, hs2, hn2⟩ := hh; obtain ⟨p2, c2, rfl, _⟩ := hs2.open; have hr1 := hs1.R.mono ((C1.le G1 G).trans hle2); have hr2 := hs2.R.mono (C1.le G2 G1))
 refine A1 5 ?_
 (refine D9 rfl (C8 rfl rfl rfl (by omega) (by unfold maxLen; omega) rfl) rfl rfl ?_; rintro _ ⟨b93, rfl⟩)
 refine aP 6 rfl (Q1 rfl rfl) rfl ?_
 refine A1 8 ?_
 refine F0 rfl ?_
 refine B8 (nS (tS ?_))
 (have hr1' := hr1; refine A0j (by repeat (first | exact Pk.here | apply Pk.there)) (fun G5 hle5 hsl5 hno5 => ?_); have hRT : B3 G5 (.mk k [.mk ak aks, .mk bk bks]) _ := E3.ty (ts := [.mk ak aks, .mk bk bks]) (es := [[.int .i64 ak, .slice p1 aks.length c1], [.int .i64 bk, .slice p2 bks.length c2]]) ⟨_, _, rfl, hr1.mono hle5, _, _, rfl, hr2.mono hle5, rfl⟩ rfl hsl5 hki; have hV := A0I _ G5 _ hRT; refine C9 D1 rfl ?_)
 refine L0 (i := 0) (l' := [tt,ff,ff,ff,ff]) rfl C4 (A3 rfl rfl) rfl (by kernel_rfl) rfl rfl ?_
 refine aL 1 rfl (A3 rfl rfl) rfl ?_
 refine A1 2 ?_
 refine J0 rfl rfl (hV) rfl rfl rfl ?_
 refine A1 3 ?_
 refine F0 rfl ?_
 refine aP 4 rfl (qA rfl) rfl ?_
 refine B8 (nS (tT ?_))
 refine D6 (rC rfl (A3 rfl rfl)) (rT rfl) ?_
 (exact ⟨rfl, _, rfl, hRT⟩)
theorem B33 (G : IM) (cx : Cx) (hv : cxV cx) (p : Option Addr) (n c : Nat) (nm : ByteArray) (hx : S1 G cx p n c) :
  Fn Tryz.prog 177 [.slice p n c, .string nm] [] G (N2 (X4 cx nm) G) := by
 have hn := hx.le
 refine B5 Tryz.func177 rfl Tryz.ntmps177 Tryz.results177 rfl ?_
 intro w0
 refine tS (tR ?_)
 refine sE (A5 rfl) rfl (fun b3 => ?_)
 refine D8 ?_
 refine sP (O4 rfl rfl (by omega) (by omega)) rfl rfl ?_
 refine sQ (qA rfl) rfl (sD (nS ?_))
 refine B9 ?_
 (refine K3 (fun (i : Nat) => ⟨[(6, .int .i64 ((i : Int) - 1)), (0, .slice p n c), (1, .string nm), (4, .pointer (some ⟨b3, 0, none⟩))], [.blk b3 [.int .i64 0, .slice none 0 0]], G⟩) (fun i => i ≤ n ∧ X4 cx nm = W4 cx nm i) (fun i => i) n ?_ ?_ ?_)
 exact D5
 (exact ⟨Nat.le_refl _, by unfold X4; rw [hx.1]⟩)
 (rintro i ⟨hi, hlk⟩)
 refine tS (tS (tR (sQ (qM rfl) rfl ?_)))
 refine sB (A0R rfl rfl) rfl rfl (fun h25 => ?_) (fun h25 => ?_)
 refine sD (nS (qT rfl (tK (nS (tS ?_)))))
 (show I9 _ _ (.block 1 _) _ _; obtain ⟨j, rfl⟩ : ∃ j, i = j + 1 := ⟨i - 1, by omega⟩; rw [show ((j + 1 : Nat) : Int) - 1 = (j : Int) from by omega]; obtain ⟨b, o, nm1, t1, q1, d1, hcx, rfl, hat, hr1, hgb⟩ := hx.get (i := j) (by omega); have ha1 := A6e (hv _ (List.mem_of_getElem? hcx)); refine B9 ?_)
 refine tS (tR (sQ (qM rfl) rfl (sQ (qM rfl) rfl ?_)))
 refine sP (B0 rfl rfl rfl (by omega)) rfl rfl ?_
 refine sQ (qF rfl) rfl ?_
 refine sL (U5 rfl rfl ((hat _).sub (j := 0) rfl)) rfl rfl ?_
 refine sQ (qM rfl) rfl ?_
 refine sB (A05 rfl rfl) rfl rfl (fun h41 => ?_) (fun h41 => ?_)
 refine D0 ?_
 refine sP (B0 rfl rfl rfl (by omega)) rfl rfl ?_
 refine sQ (qF rfl) rfl ?_
 refine sL (A2 rfl rfl (hat _).drop rfl) rfl rfl ?_
 (refine D3 rfl (O6 _ G _ ha1.small hr1) rfl rfl (fun v G1 hle1 hh => ?_); obtain ⟨N6, F1, rfl, hs1', hn1⟩ := hh; obtain ⟨p1, c1, rfl, _⟩ := hs1'.open; have hrr := hs1'.R.mono (C1.le G1 G))
 refine H8 ?_
 refine D6 (rC rfl (A3 rfl rfl)) (rT rfl) ?_
 (exact N2.yes (by rw [hlk]; exact A4g hcx (by assumption)) hrr ha1)
 refine D8 ?_
 refine sP (O4 rfl rfl (by omega) (by omega)) rfl rfl ?_
 refine sQ (qA rfl) rfl (sD ?_)
 refine K0 j ?_ ?_ ?_
 exact D5
 (exact ⟨by omega, by rw [hlk]; exact A4h hcx (by assumption)⟩)
 (show _ < _ + 1; omega)
 refine K5 ?_
 refine D6 (rC rfl (A3 rfl rfl)) (rT rfl) ?_
 (obtain rfl : i = 0 := (by omega); exact N2.no (by rw [hlk]; rfl) (J8 _ ⟨by omega, by omega⟩) (M4 (by omega) (by omega)))
section
variable {cx : Cx} {k : Int} {nm : ByteArray} {ty : Ty} {ts : List Ty}
end
section
variable {ak bk : Int} {aks bks : List Ty}
theorem B34 (h : ak ≠ bk) : K9 (.mk ak aks) (.mk bk bks) = false := by rw [A2f, decide_eq_false h]; rfl
theorem B35 (h : aks.length ≠ bks.length) : K9 (.mk ak aks) (.mk bk bks) = false := by
 rw [A2f]
 cases hl : Z3 aks bks with
 | false => simp
 | true => exact absurd ((A3p _ _).1 hl).1 h
theorem B36 {i : Nat} (hi : i < aks.length) (hi' : i < bks.length) (h : K9 aks[i] bks[i] = false) : K9 (.mk ak aks) (.mk bk bks) = false := by
 rw [A2f]
 cases hl : Z3 aks bks with
 | false => simp
 | true => have := ((A3p _ _).1 hl).2 i hi hi'; rw [h] at this; cases this
theorem B37 (hk : ak = bk) (hl : aks.length = bks.length) (h : ∀ i, (h : i < aks.length) → (h' : i < bks.length) → K9 aks[i] bks[i] = true) : K9 (.mk ak aks) (.mk bk bks) = true := by
 rw [A2f, decide_eq_true hk, (A3p _ _).2 ⟨hl, h⟩]; rfl
end
theorem A2s : ∀ (a b : Ty) (G : IM) (ca cb : List Value), B3 G a ca → B3 G b cb → Fn Tryz.prog 146 [.agg ⟨ca⟩, .agg ⟨cb⟩] [] G (I0 (.bool (K9 a b)) G) := by
 refine Ty.ind fun ak aks ih b G ca cb hra hrb => ?_
 obtain ⟨bk, bks⟩ := b
 obtain ⟨pa, cca, ea, rfl, hak, hsla, hkla⟩ := hra.open
 obtain ⟨pb, ccb, eb, rfl, hbk, hslb, hklb⟩ := hrb.open
 simp only [Ty.k, Ty.ks] at hak hsla hkla hbk hslb hklb ⊢
 have hna := hsla.le
 have hnb := hslb.le
 have e1 := @B34 ak bk aks bks
 have e2 := @B35 ak bk aks bks
 have e3 := fun i => @B36 ak bk aks bks i
 have e4 := @B37 ak bk aks bks
 generalize K9 (.mk ak aks) (.mk bk bks) = R at e1 e2 e3 e4 ⊢
 refine B5 Tryz.func146 rfl Tryz.ntmps146 Tryz.results146 rfl ?_
 intro w0
 refine tS (tR ?_)
 refine sE (C0 rfl rfl) rfl (fun b3 => ?_)
 refine sE (C0 rfl rfl) rfl (fun b4 => ?_)
 refine H8 ?_
 refine sB (O5 rfl rfl) rfl rfl (fun h15 => ?_) (fun h15 => ?_)
 refine Y9 ?_
 (exact ⟨rfl, by rw [e1 (by omega)], rfl⟩)
 refine D0 ?_
 refine sB (O5 rfl rfl) rfl rfl (fun h44 => ?_) (fun h44 => ?_)
 refine M9 ?_
 (exact ⟨rfl, by rw [e2 (by omega)], rfl⟩)
 refine M9 ?_
 refine B9 ?_
 (refine K3 (fun (i : Nat) => ⟨[(5, .int .i64 i), (2, .pointer (some ⟨b3, 0, none⟩)), (3, .pointer (some ⟨b4, 0, none⟩))], [.blk b4 [.int .i64 bk, .slice pb bks.length ccb], .blk b3 [.int .i64 ak, .slice pa aks.length cca]], G⟩) (fun i => i ≤ aks.length ∧ ∀ j, (h : j < aks.length) → (h' : j < bks.length) → j < i → K9 aks[j] bks[j] = true) (fun i => aks.length - i) 0 ?_ ?_ ?_)
 exact D5
 (exact ⟨Nat.zero_le _, fun j _ _ hj => absurd hj (Nat.not_lt_zero j)⟩)
 (rintro i ⟨hi, hall⟩)
 refine D0 ?_
 refine sB (K1 rfl rfl) rfl rfl (fun h82 => ?_) (fun h82 => ?_)
 refine sD (nS (qT rfl (tK (nS (tS ?_)))))
 refine B9 ?_
 refine tS ?_
 (obtain ⟨b, o, q0, d0, hp0, hat0, hre0, hg0⟩ := hsla.kidTy hkla (i := i) (by omega) (by omega); obtain ⟨b', o', q1, d1, hp1, hat1, hre1, hg1⟩ := hslb.kidTy hklb (i := i) (by omega) (by omega); subst hp0; subst hp1; have hih := ih aks[i] (List.getElem_mem (by omega)) bks[i] G _ _ hre0 hre1; refine C9 D1 rfl ?_)
 refine H6 (i := 0) (l' := [tt,ff,ff,ff,ff,ff,ff,ff,ff,ff,ff,ff]) rfl C4 (A9 rfl) rfl (by kernel_rfl) rfl rfl ?_
 refine aL 1 rfl (B7 rfl rfl) rfl ?_
 refine aP 2 rfl (qM rfl) rfl ?_
 refine aP 3 rfl (B0 rfl rfl rfl (by omega)) rfl ?_
 refine aL 4 rfl (A2 rfl rfl (hat0 _) rfl) rfl ?_
 refine aP 5 rfl (A9 rfl) rfl ?_
 refine aL 6 rfl (B7 rfl rfl) rfl ?_
 refine aP 7 rfl (qM rfl) rfl ?_
 refine aP 8 rfl (B0 rfl rfl rfl (by omega)) rfl ?_
 refine aL 9 rfl (A2 rfl rfl (hat1 _) rfl) rfl ?_
 refine A1 10 ?_
 refine R3 rfl rfl (hih) rfl rfl rfl (fun h103 => ?_) (fun h103 => ?_)
 refine aP 11 rfl (S6 rfl) rfl ?_
 refine D8 ?_
 refine sP (J6 rfl rfl (by omega) (by omega)) rfl rfl ?_
 refine sQ (qA rfl) rfl (sD ?_)
 refine K0 (i + 1) ?_ ?_ ?_
 exact D5
 (exact ⟨by omega, fun j h h' hj => by by_cases hji : j = i; (subst hji; assumption); exact hall j h h' (by omega)⟩)
 omega
 refine aP 11 rfl (Z9 rfl) rfl ?_
 refine I7 ?_
 (exact ⟨rfl, by rw [e3 i (by omega) (by omega) (by assumption)], rfl⟩)
 refine I7 ?_
 (exact ⟨rfl, by rw [e4 (by omega) (by omega) (fun j h h' => hall j h h' (by omega))], rfl⟩)
theorem B38 (G : IM) (cx : Cx) (p : Option Addr) (n c : Nat) (nm : ByteArray) (t : Ty) (cells : List Value) (hx : S1 G cx p n c) (hn : n ≤ 1000) (hr : B3 G t cells) :
  Fn Tryz.prog 197 [.slice p n c, .string nm, .agg ⟨cells⟩] [] G (K4 fun G' v => ∃ p' c', v = .slice p' (n + 1) c' ∧ S1 G' (cx ++ [(nm, t)]) p' (n + 1) c') := by
 obtain ⟨k, ks⟩ := t
 obtain ⟨q, d, es0, rfl, _⟩ := hr.open
 simp only [Ty.k, Ty.ks] at hr ⊢
 obtain ⟨hx1, es, h2, h3⟩ := id hx
 have hSl : Sl G p n c 3 es.flatten := h2.1
 have h1c : ∀ u ∈ es.flatten, u.oneCell' = true := by
  intro u hu
  obtain ⟨e, he, hue⟩ := List.mem_flatten.1 hu
  exact List.all_eq_true.1 (h2.one e he) u hue
 refine B5 Tryz.func197 rfl Tryz.ntmps197 Tryz.results197 rfl ?_
 intro w0
 refine tS (tR ?_)
 refine sE (C0 rfl rfl) rfl (fun b3 => ?_)
 refine sQ (qA rfl) rfl (sD (nS (tS ?_)))
 refine C9 D1 rfl ?_
 refine H6 (i := 1) (l' := [ff,tt,ff,ff,ff,ff,ff,ff,ff]) rfl C4 (qM rfl) rfl (by kernel_rfl) rfl rfl ?_
 refine aP 3 rfl (qM rfl) rfl ?_
 refine aL 4 rfl (A3 rfl rfl) rfl ?_
 refine aP 5 rfl (Q1 rfl rfl) rfl ?_
 refine P5 (j := 0) (j' := 6) (by kernel_rfl) ?_ ?_
 (refine D9 rfl (C8 rfl rfl rfl (by omega) (by unfold maxLen; omega) rfl) rfl rfl ?_; rintro _ ⟨b14, rfl⟩)
 refine P5 (j := 2) (j' := 6) (by kernel_rfl) ?_ ?_
 (refine A2I rfl rfl rfl rfl rfl rfl (fun _ _ => by repeat (first | exact Sw.here | apply Sw.there)) hSl h1c (Nat.zero_le _) (by unfold maxLen; omega) (by omega) rfl rfl (by repeat (first | exact A8.nil | apply A8.dep (by decide +kernel) | apply A8.blk (by decide +kernel) (by repeat (first | exact Pk.here | apply Pk.there)) (by repeat first | exact mH | apply mT))) (fun p4 c4 => ?_); simp only [Nat.zero_add, List.nil_append])
 refine A1 6 ?_
 (refine D9 rfl (C8 rfl rfl rfl (by omega) (by unfold maxLen; omega) rfl) rfl rfl ?_; rintro _ ⟨b18, rfl⟩)
 refine A1 7 ?_
 (refine T5 rfl rfl rfl rfl rfl rfl (fun _ _ => by repeat (first | exact Sw.here | apply Sw.there)) (P9 (by repeat first | exact mH | apply mT)) rfl (by simp [Value.oneCell']) (by unfold maxLen; omega) (by omega) rfl rfl (by repeat (first | exact A8.nil | apply A8.dep (by decide +kernel) | apply A8.blk (by decide +kernel) (by repeat (first | exact Pk.here | apply Pk.there)) (by repeat first | exact mH | apply mT))) (fun p5 c5 => ?_))
 refine aP 8 rfl (qA rfl) rfl ?_
 refine B8 (nS ?_)
 (refine H7 (cs := es.flatten ++ [.string nm, .int .i64 k, .slice q ks.length d]) (by repeat (first | exact Pk.here | apply Pk.there)) (fun G5 hle5 hsl5 hno5 => ?_))
 refine tT (E2 (rT rfl) ?_)
 (exact ⟨rfl, _, _, rfl, S1.snoc (nm := nm) (t := .mk k ks) hx1 h2.len h2.all h2.one h3 hle5 ⟨_, _, rfl, hr.mono hle5⟩ hsl5⟩)
 (refine D9 rfl (C8 rfl rfl rfl (by omega) (by unfold maxLen; omega) rfl) rfl rfl ?_; rintro _ ⟨b28, rfl⟩)
 refine A1 2 ?_
 (refine A2I rfl rfl rfl rfl rfl rfl (fun _ _ => by repeat (first | exact Sw.here | apply Sw.there)) hSl h1c (Nat.zero_le _) (by unfold maxLen; omega) (by omega) rfl rfl (by repeat (first | exact A8.nil | apply A8.dep (by decide +kernel) | apply A8.blk (by decide +kernel) (by repeat (first | exact Pk.here | apply Pk.there)) (by repeat first | exact mH | apply mT))) (fun p4 c4 => ?_); simp only [Nat.zero_add, List.nil_append])
 refine A1 7 ?_
 (refine T5 rfl rfl rfl rfl rfl rfl (fun _ _ => by repeat (first | exact Sw.here | apply Sw.there)) (P9 (by repeat first | exact mH | apply mT)) rfl (by simp [Value.oneCell']) (by unfold maxLen; omega) (by omega) rfl rfl (by repeat (first | exact A8.nil | apply A8.dep (by decide +kernel) | apply A8.blk (by decide +kernel) (by repeat (first | exact Pk.here | apply Pk.there)) (by repeat first | exact mH | apply mT))) (fun p5 c5 => ?_))
 refine aP 8 rfl (qA rfl) rfl ?_
 refine B8 (nS ?_)
 (refine H7 (cs := es.flatten ++ [.string nm, .int .i64 k, .slice q ks.length d]) (by repeat (first | exact Pk.here | apply Pk.there)) (fun G5 hle5 hsl5 hno5 => ?_))
 refine tT (E2 (rT rfl) ?_)
 (exact ⟨rfl, _, _, rfl, S1.snoc (nm := nm) (t := .mk k ks) hx1 h2.len h2.all h2.one h3 hle5 ⟨_, _, rfl, hr.mono hle5⟩ hsl5⟩)
 (refine D9 rfl (C8 rfl rfl rfl (by omega) (by unfold maxLen; omega) rfl) rfl rfl ?_; rintro _ ⟨b40, rfl⟩)
 refine A1 0 ?_
 (refine D9 rfl (C8 rfl rfl rfl (by omega) (by unfold maxLen; omega) rfl) rfl rfl ?_; rintro _ ⟨b42, rfl⟩)
 refine A1 2 ?_
 (refine A2I rfl rfl rfl rfl rfl rfl (fun _ _ => by repeat (first | exact Sw.here | apply Sw.there)) hSl h1c (Nat.zero_le _) (by unfold maxLen; omega) (by omega) rfl rfl (by repeat (first | exact A8.nil | apply A8.dep (by decide +kernel) | apply A8.blk (by decide +kernel) (by repeat (first | exact Pk.here | apply Pk.there)) (by repeat first | exact mH | apply mT))) (fun p4 c4 => ?_); simp only [Nat.zero_add, List.nil_append])
 refine A1 7 ?_
 (refine T5 rfl rfl rfl rfl rfl rfl (fun _ _ => by repeat (first | exact Sw.here | apply Sw.there)) (P9 (by repeat first | exact mH | apply mT)) rfl (by simp [Value.oneCell']) (by unfold maxLen; omega) (by omega) rfl rfl (by repeat (first | exact A8.nil | apply A8.dep (by decide +kernel) | apply A8.blk (by decide +kernel) (by repeat (first | exact Pk.here | apply Pk.there)) (by repeat first | exact mH | apply mT))) (fun p5 c5 => ?_))
 refine aP 8 rfl (qA rfl) rfl ?_
 refine B8 (nS ?_)
 (refine H7 (cs := es.flatten ++ [.string nm, .int .i64 k, .slice q ks.length d]) (by repeat (first | exact Pk.here | apply Pk.there)) (fun G5 hle5 hsl5 hno5 => ?_))
 refine tT (E2 (rT rfl) ?_)
 (exact ⟨rfl, _, _, rfl, S1.snoc (nm := nm) (t := .mk k ks) hx1 h2.len h2.all h2.one h3 hle5 ⟨_, _, rfl, hr.mono hle5⟩ hsl5⟩)
section
variable {cx : Cx} {k : Int} {nm : ByteArray} {num : Int} {ty fr : Ty} {lb : Int} {ks : List Tm}
end
def A6f (t : Ty) (x : Bool) (G : IM) : IM → Value → List A4 → Prop := K4 fun G' v => ∃ cells, v = .tuple ⟨[.agg ⟨cells⟩, .bool x]⟩ ∧ B3 G' (if x = true then t else B1) cells
theorem B39 (t : Ty) (G : IM) (cells : List Value) (hr : B3 G t cells) : Fn Tryz.prog 149 [.agg ⟨cells⟩, .bool true] [] G (A6f t true G) := by
 obtain ⟨p, c, e, rfl, _⟩ := hr.open
 refine B5 Tryz.func149 rfl Tryz.ntmps149 Tryz.results149 rfl ?_
 intro w0
 refine tS (tR ?_)
 refine sE (C0 rfl rfl) rfl (fun b3 => ?_)
 refine sE (A5 rfl) rfl (fun b4 => ?_)
 refine Y1 ?_
 refine D6 (rC rfl (A3 rfl rfl)) (rT rfl) ?_
 (exact ⟨rfl, _, rfl, hr⟩)
theorem B4a (t : Ty) (G : IM) (cells : List Value) (hr : B3 G t cells) : Fn Tryz.prog 149 [.agg ⟨cells⟩, .bool false] [] G (A6f t false G) := by
 obtain ⟨p, c, e, rfl, _⟩ := hr.open
 refine B5 Tryz.func149 rfl Tryz.ntmps149 Tryz.results149 rfl ?_
 intro w0
 refine tS (tR ?_)
 refine sE (C0 rfl rfl) rfl (fun b3 => ?_)
 refine sE (A5 rfl) rfl (fun b4 => ?_)
 refine Y9 ?_
 refine D6 (rC rfl (A3 rfl rfl)) (rT rfl) ?_
 (exact ⟨rfl, _, rfl, J8 _ ⟨by omega, by omega⟩⟩)
theorem B4b (t : Ty) (x : Bool) (G : IM) (cells : List Value) (hr : B3 G t cells) : Fn Tryz.prog 149 [.agg ⟨cells⟩, .bool x] [] G (A6f t x G) := by
 cases x
 ·exact B4a t G cells hr
 ·exact B39 t G cells hr
theorem V1.sure {o : Option Ty} {t : Ty} {G G' : IM} {cells : List Value} (h : ∀ u, o = some u → u = t) (hr : B3 G' (if o.isSome = true then t else B1) cells) : V1 o G G' (.tuple ⟨[.agg ⟨cells⟩, .bool o.isSome]⟩) [] := by
 cases o with
 | none => exact ⟨rfl, cells, B1, rfl, hr, by simp⟩
 | some u => exact ⟨rfl, cells, t, rfl, hr, fun x hx => by cases hx; exact (h _ rfl).symm⟩
def B6v (e : Tm) (a b : Ty) (l : Int) : IM → Value → List A4 → Prop := K4 fun G' v => ∃ cells, v = .tuple ⟨[.agg ⟨cells⟩, .int .i64 (if K9 a b = true then l else l + 1)]⟩ ∧ A7 G' (if K9 a b = true then e else K8 e a b l) cells
def B6w (w ts : List Ty) : List Ty := if w = [] then ts else w
def B6x (ws : List Ty) (n : Nat) (G : IM) : IM → Value → List A4 → Prop := K4 fun G' v => ∃ p c es, v = .slice p n c ∧ ws.length = n ∧ C5 G' p n c 2 es ∧ E3 G' ws es
section
variable {cx : Cx} {k : Int} {nm : ByteArray} {ty : Ty} {ts w : List Ty} {t : Ty}
end
def B6y (u : Tm) (t : Ty) (l : Int) (G : IM) : IM → Value → List A4 → Prop := K4 fun G' v => ∃ cu ct, v = .tuple ⟨[.agg ⟨cu⟩, .agg ⟨ct⟩, .int .i64 (l + 1)]⟩ ∧ A7 G' u cu ∧ B3 G' t ct
def B4c (t : Tm) : List Ty := if A0E t = true then A22 t else []
def B6z (u : Tm) (n : Int) : IM → Value → List A4 → Prop := fun G' v outs => outs = [] ∧ ∃ cu, v = .tuple ⟨[.agg ⟨cu⟩, .int .i64 n]⟩ ∧ A7 G' u cu
def B6A (t : Tm) (L : List Ty) : Option Tm := if A0E t = true ∧ (B4c t).length = L.length ∧ ∀ u ∈ L, M1 u = true then some (A6d t L) else none
def TmB (o : Option Tm) : IM → Value → List A4 → Prop := K4 fun G' v => ∃ cu, v = .tuple ⟨[.agg ⟨cu⟩, .bool o.isSome]⟩ ∧ A7 G' (o.getD I3) cu
def PLe (l l' : List Ty) : Prop := ∀ i, A52 (l.getD i B1) (l'.getD i B1) = true
section masks
variable {P : Program} {Γ : L7} {env : M2} {hp : List A4} {G : IM} {ty : TypeId}
end masks
def mLb (t : Tm) : List Int := (M6 t).map Tm.lb
def A1m (ts : List Tm) : List Int := (M7 ts).map Tm.lb
theorem B4d : A1m [] = [] := by unfold A1m; rw [M7]; rfl
theorem B4e (t : Tm) (ts : List Tm) : A1m (t :: ts) = mLb t ++ A1m ts := by unfold A1m mLb; rw [M7, List.map_append]
theorem B4f {k : Int} {nm : ByteArray} {num : Int} {ty fr : Ty} {lb : Int} {ks : List Tm} (hk : k ≠ 14) : mLb (.mk k nm num ty fr lb ks) = A1m ks := by unfold A1m mLb; rw [M6, if_neg hk, List.nil_append]
structure Lbs (ls : List Int) (l l' : Int) : Prop where
 le : l ≤ l'
 nd : ls.Nodup
 len : (ls.length : Int) = l' - l
 mem : ∀ m ∈ ls, l < m ∧ m ≤ l'
theorem Lbs.nil (l : Int) : Lbs [] l l := ⟨Int.le_refl _, List.nodup_nil, by simp, fun m h => by simp at h⟩
theorem Lbs.app {a b : List Int} {l l1 l2 : Int} (h : Lbs a l l1) (h2 : Lbs b l1 l2) : Lbs (a ++ b) l l2 := by
 have e1 := h.le
 have e2 := h2.le
 have e3 := h.len
 have e4 := h2.len
 refine ⟨by omega, ?_, by rw [List.length_append]; omega, ?_⟩
 ·rw [List.nodup_append]
  refine ⟨h.nd, h2.nd, ?_⟩
  rintro x hx y hy rfl
  have g1 := h.mem x hx
  have g2 := h2.mem x hy
  omega
 ·intro m hm
  rcases List.mem_append.1 hm with hm | hm
  ·have := h.mem m hm; omega
  ·have := h2.mem m hm; omega
mutual
theorem A9w {L : Int → Prop} : ∀ (t : Tm), (∀ c ∈ M6 t, L c.lb) → T3 L t
 | .mk k nm num ty fr lb ks, h => by
  rw [A0o]
  refine ⟨fun hk => h (.mk k nm num ty fr lb ks) (by rw [M6, if_pos hk]; simp), A9x ks fun c hc => h c ?_⟩
  rw [M6]; exact List.mem_append_right _ hc
theorem A9x {L : Int → Prop} : ∀ (ts : List Tm), (∀ c ∈ M7 ts, L c.lb) → V5 L ts
 | [], _ => A2p.2 fun t ht => by cases ht
 | t :: ts, h => by
  rw [M7] at h
  have h1 := A9w t fun c hc => h c (List.mem_append_left _ hc)
  have h2 := A9x ts fun c hc => h c (List.mem_append_right _ hc)
  refine A2p.2 fun t' ht => ?_
  rcases List.mem_cons.1 ht with he | ht
  ·rw [he]; exact h1
  ·exact A2p.1 h2 t' ht
end
end Gw
end Go.Proofs.YtfpgncjeejickaaGreatDoor
