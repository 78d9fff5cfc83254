/-
  The reference's evaluator: ground types, values, casts, replacing a name. The reference's evaluator: steps of nodes whose operands are values. The reference's evaluator: a step, runs of steps, RunTerm. The reference's StepCast, EvalCast. A step of a bare term is not much larger (plain). The reference's bare terms: which they are, their steps, runs of steps. BareTerm, CountNodes: the program's and the reference model's. BareTerm, CountNodes: the reference model's, the program's. Values of the stack machine: as trees, and as they lie in memory; what an instruction does, in plain words. The reference's decimal digits of a number. The text of a value: the program's. RunTerm of the program. The reference's value text, RunTerm. Evaluating and running bare terms: EvalBare of the program, RunBare of both sides. Drawn arguments of runs.
-/
import Derived.Test.YtfpgncjeejickaaGreatDoorKc5
import Derived.Test.YtfpgncjeejickaaGreatDoorKc7
import Derived.Test.YtfpgncjeejickaaGreatDoorKc6
import Derived.Test.YtfpgncjeejickaaGreatDoorKc3
import Derived.Test.YtfpgncjeejickaaGreatDoorKc1
import Derived.Lib.ItoaNum
set_option linter.unusedVariables false
set_option linter.unusedSimpArgs false
set_option maxHeartbeats 0
set_option maxRecDepth 100000
set_option synthInstance.maxSize 4000
set_option synthInstance.maxHeartbeats 0
namespace Go.Proofs.YtfpgncjeejickaaGreatDoor
open Go Go.RowKit
namespace Gw
theorem B6C {t : Ty} (ha : E5 t) : Y7 t = .mk t.k (List.replicate t.ks.length O9) := by
 obtain ⟨k, ks⟩ := t
 rw [E5] at ha
 show (if k = 4 ∨ k = 5 then Ty.mk k [O9, O9] else .mk k []) = _
 show _ = Ty.mk k (List.replicate ks.length O9)
 split
 ·rename_i h; rw [ha.1 h]; rfl
 ·rename_i h
  rw [ha.2.1 (fun e => h (.inl e)) (fun e => h (.inr e))]; rfl
theorem B6D (t : Ty) (G : IM) (cells : List Value) (ha : E5 t) (hr : B7 G t cells) : Fn Tryz.prog 217 [.agg ⟨cells⟩] [] G (A6x (Y7 t) G) := by
 rw [B6C ha]
 obtain ⟨tk, tks⟩ := t
 have hsm := ha.small
 rw [Ty.small] at hsm
 obtain ⟨hsm1, _⟩ := hsm
 obtain ⟨p, c, es, rfl, hk, hsl, hkl⟩ := hr.open
 simp only [Ty.k, Ty.ks] at hk hsl hkl ⊢
 have hn := hsl.le
 refine B2 Tryz.func217 rfl Tryz.ntmps217 Tryz.results217 rfl ?_
 intro w0
 refine tS (tR ?_)
 refine sE (B9 rfl rfl) rfl (fun b3 => ?_)
 refine sE (A5 rfl) rfl (fun b4 => ?_)
 refine C2 ?_
 refine sE (A5 rfl) rfl (fun b12 => ?_)
 refine F9 ?_
 refine sD (nS (tS (tS (tR (sQ (qA rfl) rfl (sD (nS ?_)))))))
 refine B4 ?_
 (refine V5 25 2 ?_; refine K9 (fun (x : Nat × Option Addr × Nat × List (List Value)) => ⟨[(4, .int .i64 x.1), (3, .pointer (some ⟨b12, 0, none⟩)), (1, .pointer (some ⟨b3, 0, none⟩)), (2, .pointer (some ⟨b4, 0, none⟩))], [.blk b12 [.int .i64 tk, .slice x.2.1 x.1 x.2.2.1], .slc x.2.1 x.2.2.1 25 2 x.1 x.2.2.2.flatten, .blk b4 [.int .i64 0, .slice none 0 0], .blk b3 [.int .i64 tk, .slice p tks.length c]], G⟩) (fun x => x.1 ≤ tks.length ∧ D2 G (List.replicate x.1 O9) x.2.2.2) (fun x => tks.length - x.1) (0, none, 0, []) ?_ ?_ ?_)
 (simp only [J6]; exact D1)
 (exact ⟨Nat.zero_le _, rfl⟩)
 (rintro ⟨i, pn, cn, es'⟩ ⟨hi, hst⟩; simp only [] at hi hst ⊢; have hsl' := hst.len; rw [List.length_replicate] at hsl')
 refine C2 ?_
 refine sB (K6 rfl rfl) rfl rfl (fun h34 => ?_) (fun h34 => ?_)
 refine sD (nS (qT rfl (tK (nS (tS ?_)))))
 refine B4 ?_
 refine E1 E2 rfl ?_
 refine J5 (i := 0) (l' := [tt,ff,ff,ff,ff,ff,ff]) rfl D5 (B1 rfl) rfl (by kernel_rfl) rfl rfl ?_
 refine aL 1 rfl (C0 rfl rfl) rfl ?_
 refine A3 2 ?_
 refine P6 rfl rfl ((A1k _)) rfl rfl rfl ?_
 refine A3 3 ?_
 (refine E4 rfl (C9 rfl rfl rfl (by omega) (by unfold maxLen; omega) rfl) rfl rfl ?_; rintro _ ⟨b48, rfl⟩)
 refine A3 4 ?_
 refine Q5 rfl rfl rfl rfl rfl rfl (fun _ _ => by repeat (first | exact Sw.here | apply Sw.there)) (P3 (by repeat first | exact mH | apply mT)) rfl (by simp [Value.oneCell']) (by unfold maxLen; omega) (by omega) rfl rfl (by repeat (first | exact A6.nil | apply A6.dep (by decide +kernel) | apply A6.im (by decide +kernel) (by assumption) (by repeat first | exact mH | apply mT) | apply A6.blk (by decide +kernel) (by repeat (first | exact Pk.here | apply Pk.there)) (by repeat first | exact mH | apply mT) | apply A6.slc (by decide +kernel) (by repeat (first | exact Pk.here | apply Pk.there)) (by repeat first | exact mH | apply mT))) (fun pn' cn' => ?_)
 refine aP 5 rfl (B1 rfl) rfl ?_
 refine A3 6 ?_
 refine R2 rfl rfl rfl rfl rfl rfl rfl rfl (by decide +kernel) (by repeat first | exact Sw.here | apply Sw.there) (by rfl) ?_
 refine C5 (M8 (nS (tR (sQ (qM rfl) rfl ?_))))
 refine sP (K2 rfl rfl (by omega) (by omega)) rfl rfl ?_
 refine sQ (qA rfl) rfl (sD ?_)
 refine K7 (i + 1, pn', cn', es' ++ [[.int .i64 1, .slice none 0 0]]) ?_ ?_ ?_
 (simp only [J6]; exact D1)
 (dsimp only; exact ⟨by omega, by rw [List.replicate_succ']; exact D2.snoc hst (A0H _)⟩)
 (show tks.length - (i + 1) < tks.length - i; omega)
 refine J2 ?_
 (refine I5 (cs := es'.flatten) (by repeat (first | exact Pk.here | apply Pk.there)) (fun G2 hle2 hsl2 hno2 => ?_); obtain rfl : i = tks.length := (by omega))
 refine tT ?_
 refine D9 (rC rfl (A2 rfl rfl)) ?_
 (exact ⟨rfl, _, rfl, (hst.mono hle2).ty (by simp) hsl2 hk⟩)
theorem B6E (t : Ty) (G : IM) (cells : List Value) (ha : E5 t) (hr : B7 G t cells) : Fn Tryz.prog 168 [.agg ⟨cells⟩] [] G (H0 (.bool (V1 t)) G) := by
 refine Fn.forget (post := L5 fun _ v => v = .bool (V1 t)) ?_ (fun _ _ _ h => h.2)
 have hr0 := hr
 have hG := B6D t G cells ha hr
 obtain ⟨tk, tks⟩ := t
 obtain ⟨p, c, es, rfl, hk, _⟩ := hr.open
 simp only [Ty.k, Ty.ks] at hk hr0 hG ⊢
 have hd : V1 (.mk tk tks) = (decide (tk ≠ 1) && O2 (.mk tk tks) (Y7 (.mk tk tks))) := rfl
 rw [hd]
 generalize Y7 (.mk tk tks) = g at hG ⊢
 refine B2 Tryz.func168 rfl Tryz.ntmps168 Tryz.results168 rfl ?_
 intro w0
 refine tS (tR ?_)
 refine sE (B9 rfl rfl) rfl (fun b3 => ?_)
 refine sQ (qA rfl) rfl (sD (nS (tS ?_)))
 refine E1 E2 rfl ?_
 refine J5 (i := 0) (l' := [tt,ff,ff,ff,ff,ff,ff,ff,ff,ff]) rfl D5 (B1 rfl) rfl (by kernel_rfl) rfl rfl ?_
 refine aL 1 rfl (C0 rfl rfl) rfl ?_
 refine A0K (i := 2) (l' := [tt,tt,tt,ff,ff,ff,ff,ff,ff,ff]) rfl D5 (M7 rfl rfl) rfl (by kernel_rfl) rfl rfl (fun h11 => ?_) (fun h11 => ?_)
 refine aP 3 rfl (qM rfl) rfl ?_
 refine aL 4 rfl (A2 rfl rfl) rfl ?_
 refine aL 5 rfl (A2 rfl rfl) rfl ?_
 refine A3 6 ?_
 (refine K0 rfl rfl hG rfl rfl rfl (fun v G1 hle1 hh => ?_); obtain ⟨cg, rfl, hrg⟩ := hh; have hT := B5R (.mk tk tks) g G1 _ _ (hr0.mono hle1) hrg; obtain ⟨pg, cgg, eg, rfl, _⟩ := hrg.open)
 refine A3 7 ?_
 refine P6 rfl rfl (hT) rfl rfl rfl ?_
 refine aP 8 rfl (L4 rfl rfl) rfl ?_
 refine aP 9 rfl (qA rfl) rfl ?_
 refine C5 (nS (tT (D9 (rT rfl) ?_)))
 (refine ⟨rfl, ?_⟩; show Value.bool _ = Value.bool _; rw [decide_eq_true (by omega), Bool.true_and])
 refine aP 3 rfl (qM rfl) rfl ?_
 refine B5 4 rfl rfl rfl ?_
 refine B5 5 rfl rfl rfl ?_
 refine B5 6 rfl rfl rfl ?_
 refine B5 7 rfl rfl rfl ?_
 refine aP 8 rfl (O3 rfl rfl) rfl ?_
 refine aP 9 rfl (qA rfl) rfl ?_
 refine C5 (nS (tT (D9 (rT rfl) ?_)))
 (refine ⟨rfl, ?_⟩; show Value.bool _ = Value.bool _; rw [decide_eq_false (by omega), Bool.false_and])
theorem B03 (t : Tm) (G : IM) (cells : List Value) (hr : A8 G t cells) : Fn Tryz.prog 121 [.agg ⟨cells⟩] [] G (H0 (.bool (R4 t)) G) := by
 obtain ⟨k, nm, num, ⟨tk, tks⟩, ⟨fk, fks⟩, lb, ks⟩ := t
 obtain ⟨pt, ct, pf, cf, p, c, es, rfl, hk, hnum, hlb, hty, hfr, hsl, hkl⟩ := hr.open9
 have hd : R4 (.mk k nm num (.mk tk tks) (.mk fk fks) lb ks) = decide (k = 14 ∧ fk = tk ∧ (tk = 4 ∨ tk = 5)) := rfl
 rw [hd]
 refine B2 Tryz.func121 rfl Tryz.ntmps121 Tryz.results121 rfl ?_
 intro w0
 refine tS (tR ?_)
 refine sE (B9 rfl rfl) rfl (fun b3 => ?_)
 refine C2 ?_
 refine sB (qE rfl rfl) rfl rfl (fun h11 => ?_) (fun h11 => ?_)
 refine C2 ?_
 refine sB (qE rfl rfl) rfl rfl (fun h19 => ?_) (fun h19 => ?_)
 refine R1 ?_
 refine sB (qE rfl rfl) rfl rfl (fun h25 => ?_) (fun h25 => ?_)
 refine N6 ?_
 (exact ⟨rfl, by rw [decide_eq_true (by omega)], rfl⟩)
 refine F0 ?_
 refine sB (qE rfl rfl) rfl rfl (fun h43 => ?_) (fun h43 => ?_)
 refine C2 ?_
 (exact ⟨rfl, by rw [decide_eq_true (by omega)], rfl⟩)
 refine C2 ?_
 (exact ⟨rfl, by rw [decide_eq_false (by omega)], rfl⟩)
 refine V6 ?_
 (exact ⟨rfl, by rw [decide_eq_false (by omega)], rfl⟩)
 refine A4r ?_
 (exact ⟨rfl, by rw [decide_eq_false (by omega)], rfl⟩)
theorem B04 (t : Tm) (G : IM) (cells : List Value) (ha : E5 t.fr) (hr : A8 G t cells) : Fn Tryz.prog 122 [.agg ⟨cells⟩] [] G (H0 (.bool (inj t)) G) := by
 obtain ⟨k, nm, num, ⟨tk, tks⟩, ⟨fk, fks⟩, lb, ks⟩ := t
 obtain ⟨pt, ct, pf, cf, p, c, es, rfl, hk, hnum, hlb, hty, hfr, hsl, hkl⟩ := hr.open9
 have hd : inj (.mk k nm num (.mk tk tks) (.mk fk fks) lb ks) = (decide (k = 14 ∧ tk = 1) && V1 (.mk fk fks)) := rfl
 rw [hd]
 have hG := B6E (.mk fk fks) G _ ha hfr
 refine B2 Tryz.func122 rfl Tryz.ntmps122 Tryz.results122 rfl ?_
 intro w0
 refine tS (tR ?_)
 refine sE (B9 rfl rfl) rfl (fun b3 => ?_)
 refine C2 ?_
 refine sB (qE rfl rfl) rfl rfl (fun h11 => ?_) (fun h11 => ?_)
 refine F0 ?_
 refine sB (qE rfl rfl) rfl rfl (fun h16 => ?_) (fun h16 => ?_)
 refine F0 ?_
 refine H3 rfl (hG) rfl rfl ?_
 refine J8 ?_
 (exact ⟨rfl, by rw [decide_eq_true (by omega), Bool.true_and], rfl⟩)
 refine I6 ?_
 (exact ⟨rfl, by rw [decide_eq_false (by omega), Bool.false_and], rfl⟩)
 refine K4 ?_
 (exact ⟨rfl, by rw [decide_eq_false (by omega), Bool.false_and], rfl⟩)
section
variable {k : Int} {nm : ByteArray} {num : Int} {ty fr : Ty} {lb : Int} {ks : List Tm}
theorem B6F (h : k = 2 ∨ k = 3 ∨ k = 4 ∨ k = 5) : C8 (.mk k nm num ty fr lb ks) = true := by
 rw [C8, if_neg (by omega)]; exact decide_eq_true h
theorem B6G (h : k = 10) (hl : ks.length = 2) : C8 (.mk k nm num ty fr lb ks) = (C8 (ks[0]'(by omega)) && C8 (ks[1]'(by omega))) := by
 rw [A34 (.inl h)]
 obtain ⟨a, b, rfl⟩ := ks2 hl
 simp
theorem B05 (h : R4 (.mk k nm num ty fr lb ks) = true ∨ inj (.mk k nm num ty fr lb ks) = true) (hl : ks.length = 1) : C8 (.mk k nm num ty fr lb ks) = C8 (ks[0]'(by omega)) := by
 rw [A34 (.inr h)]
 obtain ⟨a, rfl⟩ := ks1 hl
 simp
theorem B6H (h : ¬(k = 2 ∨ k = 3 ∨ k = 4 ∨ k = 5)) (h10 : k ≠ 10) (h2 : R4 (.mk k nm num ty fr lb ks) = false) (h3 : inj (.mk k nm num ty fr lb ks) = false) : C8 (.mk k nm num ty fr lb ks) = false := by
 rw [A49 h10 h2 h3]; exact decide_eq_false h
theorem B6I (h : R4 (.mk k nm num ty fr lb ks) = true ∨ inj (.mk k nm num ty fr lb ks) = true) : k = 14 := by
 rcases h with h | h
 ·exact (prx_spec' h)
 ·exact A6I h
where
 prx_spec' {k : Int} {nm : ByteArray} {num : Int} {ty fr : Ty} {lb : Int} {ks : List Tm} (h : R4 (.mk k nm num ty fr lb ks) = true) : k = 14 := by rw [A2b] at h; exact (of_decide_eq_true h).1
end
theorem A7h : ∀ (t : Tm) (G : IM) (cells : List Value), cv t → A8 G t cells → Fn Tryz.prog 52 [.agg ⟨cells⟩] [] G (H0 (.bool (C8 t)) G) := by
 refine Tm.ind fun k nm num ty fr lb ks ih G cells hc hr => ?_
 obtain ⟨hN, hkk⟩ := hc.node
 have hop := hN.ops
 have h10 : k = 10 → ks.length = 2 := fun h => by rw [h] at hop; have : C7 10 = 2 := rfl; omega
 have h14 : k = 14 → ks.length = 1 := fun h => by rw [h] at hop; have : C7 14 = 1 := rfl; omega
 have hP := B03 _ G _ hr
 have hI := B04 (.mk k nm num ty fr lb ks) G _ hN.frA hr
 have e1 := @B6F k nm num ty fr lb ks
 have e2 := @B6G k nm num ty fr lb ks
 have e3 := @B05 k nm num ty fr lb ks
 have e4 := @B6H k nm num ty fr lb ks
 have e5 := @B6I k nm num ty fr lb ks
 generalize hpx : R4 (.mk k nm num ty fr lb ks) = bp at hP e3 e4 e5
 generalize hij : inj (.mk k nm num ty fr lb ks) = bi at hI e3 e4 e5
 generalize C8 (.mk k nm num ty fr lb ks) = R at e1 e2 e3 e4 ⊢
 obtain ⟨tk, tks⟩ := ty
 obtain ⟨fk, fks⟩ := fr
 obtain ⟨pt, ct, pf, cf, p, c, es, rfl, hk, hnum, hlb, hty, hfr, hsl, hkl⟩ := hr.open9
 refine B2 Tryz.func52 rfl Tryz.ntmps52 Tryz.results52 rfl ?_
 intro w0
 refine tS (tR ?_)
 refine sE (B9 rfl rfl) rfl (fun b3 => ?_)
 refine I9 ?_
 refine B4 (tS (tS (tR (sB (qE rfl rfl) rfl rfl (fun h18 => ?_) (fun h18 => ?_)))))
 refine K4 ?_
 (exact ⟨rfl, by rw [e1 (by omega)], rfl⟩)
 refine sQ (qA rfl) rfl (sD (nS (cF rfl (tS (tR ?_)))))
 refine sB (qE rfl rfl) rfl rfl (fun h42 => ?_) (fun h42 => ?_)
 refine K4 ?_
 (exact ⟨rfl, by rw [e1 (by omega)], rfl⟩)
 refine sQ (qA rfl) rfl (sD (nS (cF rfl (tS (tR ?_)))))
 refine sB (qE rfl rfl) rfl rfl (fun h66 => ?_) (fun h66 => ?_)
 refine K4 ?_
 (exact ⟨rfl, by rw [e1 (by omega)], rfl⟩)
 refine sQ (qA rfl) rfl (sD (nS (cF rfl (tR ?_))))
 refine sB (qE rfl rfl) rfl rfl (fun h89 => ?_) (fun h89 => ?_)
 refine J9 ?_
 (exact ⟨rfl, by rw [e1 (by omega)], rfl⟩)
 refine sQ (qA rfl) rfl (sD (nS (cF rfl (tS (tR ?_)))))
 refine sB (qE rfl rfl) rfl rfl (fun h110 => ?_) (fun h110 => ?_)
 refine D3 ?_
 (have hl2 := h10 (by omega); obtain ⟨bx, ox, e, rfl, hl, hat, hre, hgb⟩ := hsl.kidTm hkl (i := 0) (by omega) (by omega); have hih := ih ks[0] (List.getElem_mem (by omega)) G e (hkk _ (List.getElem_mem (by omega))) hre; obtain ⟨_, _, e', hp', hl', hat', hre', hgb'⟩ := hsl.kidTm hkl (i := 1) (by omega) (by omega); cases hp'; have hih' := ih ks[1] (List.getElem_mem (by omega)) G e' (hkk _ (List.getElem_mem (by omega))) hre'; refine sP (B3 (j := 0) rfl rfl rfl (by omega)) rfl rfl ?_)
 refine sL (A1 rfl rfl (hat _) hl) rfl rfl ?_
 refine D8 rfl (hih) rfl rfl (fun h121 => ?_) (fun h121 => ?_)
 refine K3 ?_
 refine sP (B3 (j := 1) rfl rfl rfl (by omega)) rfl rfl ?_
 refine sL (A1 rfl rfl (hat' _) hl') rfl rfl ?_
 refine D8 rfl (hih') rfl rfl (fun h127 => ?_) (fun h127 => ?_)
 refine D3 ?_
 (exact ⟨rfl, by rw [e2 (by omega) hl2]; simp [*], rfl⟩)
 refine D3 ?_
 (exact ⟨rfl, by rw [e2 (by omega) hl2]; simp [*], rfl⟩)
 refine J2 ?_
 (exact ⟨rfl, by rw [e2 (by omega) hl2]; simp [*], rfl⟩)
 refine I9 ?_
 refine D8 rfl (hP) rfl rfl (fun h171 => ?_) (fun h171 => ?_)
 refine C2 ?_
 (have hl1 := h14 (by first | exact e5 (.inl (by assumption)) | exact e5 (.inr (by assumption))); obtain ⟨bx, ox, e, rfl, hl, hat, hre, hgb⟩ := hsl.kidTm hkl (i := 0) (by omega) (by omega); have hih := ih ks[0] (List.getElem_mem (by omega)) G e (hkk _ (List.getElem_mem (by omega))) hre; refine sP (B3 (j := 0) rfl rfl rfl (by omega)) rfl rfl ?_)
 refine sL (A1 rfl rfl (hat _) hl) rfl rfl ?_
 refine D8 rfl (hih) rfl rfl (fun h181 => ?_) (fun h181 => ?_)
 refine J8 ?_
 (exact ⟨rfl, by rw [e3 (by first | exact .inl (by assumption) | exact .inr (by assumption)) hl1]; simp [*], rfl⟩)
 refine J8 ?_
 (exact ⟨rfl, by rw [e3 (by first | exact .inl (by assumption) | exact .inr (by assumption)) hl1]; simp [*], rfl⟩)
 refine sQ (qM rfl) rfl (sL (A2 rfl rfl) rfl rfl ?_)
 refine D8 rfl (hI) rfl rfl (fun h198 => ?_) (fun h198 => ?_)
 refine F0 ?_
 (have hl1 := h14 (by first | exact e5 (.inl (by assumption)) | exact e5 (.inr (by assumption))); obtain ⟨bx, ox, e, rfl, hl, hat, hre, hgb⟩ := hsl.kidTm hkl (i := 0) (by omega) (by omega); have hih := ih ks[0] (List.getElem_mem (by omega)) G e (hkk _ (List.getElem_mem (by omega))) hre; refine sP (B3 (j := 0) rfl rfl rfl (by omega)) rfl rfl ?_)
 refine sL (A1 rfl rfl (hat _) hl) rfl rfl ?_
 refine D8 rfl (hih) rfl rfl (fun h205 => ?_) (fun h205 => ?_)
 refine J8 ?_
 (exact ⟨rfl, by rw [e3 (by first | exact .inl (by assumption) | exact .inr (by assumption)) hl1]; simp [*], rfl⟩)
 refine J8 ?_
 (exact ⟨rfl, by rw [e3 (by first | exact .inl (by assumption) | exact .inr (by assumption)) hl1]; simp [*], rfl⟩)
 refine J9 ?_
 (exact ⟨rfl, by rw [e4 (by omega) (by omega) (by assumption) (by assumption)], rfl⟩)
theorem B6J (G : IM) : Fn Tryz.prog 267 [.bool true] [] G (U2 (W8 (true = true))) := by
 refine B2 Tryz.func267 rfl Tryz.ntmps267 Tryz.results267 rfl ?_
 intro w0
 refine tS (tR ?_)
 refine sE (A5 rfl) rfl (fun b3 => ?_)
 refine T0 ?_
 refine D9 (rC rfl (A2 rfl rfl)) ?_
 (exact U2.mk (A5b _ ⟨by decide, by decide⟩))
theorem B6K (G : IM) : Fn Tryz.prog 267 [.bool false] [] G (U2 (W8 (false = true))) := by
 refine B2 Tryz.func267 rfl Tryz.ntmps267 Tryz.results267 rfl ?_
 intro w0
 refine tS (tR ?_)
 refine sE (A5 rfl) rfl (fun b3 => ?_)
 refine V6 ?_
 refine D9 (rC rfl (A2 rfl rfl)) ?_
 (exact U2.mk (A5b _ ⟨by decide, by decide⟩))
theorem B06 (b : Bool) (G : IM) : Fn Tryz.prog 267 [.bool b] [] G (U2 (W8 (b = true))) := by
 cases b
 ·exact B6K G
 ·exact B6J G
theorem B6L (y : ByteArray) (v : Tm) (vc : List Value) (hvs : v.small) : ∀ (t : Tm) (G : IM) (cells : List Value), t.small → A8 G t cells → A8 G v vc → Fn Tryz.prog 262 [.agg ⟨cells⟩, .string y, .agg ⟨vc⟩] [] G (U2 (S2 y v t)) := by
 refine Tm.ind fun k nm num ty fr lb ks ih G cells hts hr hv => ?_
 have hr0 := hr
 have hts0 := hts
 obtain ⟨_, htsm, hfsm, hsm, hks⟩ := A0y.1 hts
 have hvl := hv.len
 have hvo := hv.one
 have hRl := hr.len
 have hRo := hr.one
 rw [S2]
 have hCv := A3K v G vc hvs hv
 have hCt := A3K _ G cells hts0 hr0
 obtain ⟨tk, tks⟩ := ty
 obtain ⟨fk, fks⟩ := fr
 obtain ⟨pt, ct, pf, cf, p, c, es, rfl, hk, hnum, hlb, hty, hfr, hsl, hkl⟩ := hr.open9
 have hn := hsl.le
 refine B2 Tryz.func262 rfl Tryz.ntmps262 Tryz.results262 rfl ?_
 intro w0
 refine tS (tR ?_)
 refine sE (B9 rfl rfl) rfl (fun b3 => ?_)
 refine sE (B9 rfl rfl) rfl (fun b4 => ?_)
 refine sE (A5 rfl) rfl (fun b5 => ?_)
 refine C2 ?_
 refine sB (qE rfl rfl) rfl rfl (fun h13 => ?_) (fun h13 => ?_)
 refine F0 ?_
 refine sB (A1b rfl rfl) rfl rfl (fun h18 => ?_) (fun h18 => ?_)
 refine sQ (L4 rfl rfl) rfl (sD (nS (qT rfl (tS (tR ?_)))))
 refine sL (A1 rfl rfl (A9 (by repeat first | exact mH | apply mT)) hvl) rfl rfl ?_
 (refine E0 rfl hCv rfl rfl (fun v9 G1 hle1 hh => ?_); obtain ⟨uc, F1, rfl, hs1, hn1⟩ := hh; have hru := hs1.R.mono (C1.le G1 G); have hul := hru.len; have huo := hru.one)
 refine sS rfl rfl rfl hul huo rfl ?_ (hu := by exact C3 hul.symm)
 refine sD (nS (tT (rS ?_)))
 refine D9 (rC rfl (A1 rfl rfl (A9 (by repeat first | exact mH | apply mT)) hul)) ?_
 (rw [if_pos (by refine ⟨by omega, by assumption⟩)]; exact U2.mk hru)
 refine I6 ?_
 refine sP (H4 rfl rfl (by omega)) rfl rfl ?_
 refine J2 ?_
 refine sE (A5 rfl) rfl (fun b60 => ?_)
 refine C2 ?_
 (refine E0 rfl (W5 (.mk tk tks) _ _ htsm hty) rfl rfl (fun v9 G1 hle1 hh => ?_); obtain ⟨cs1, F1, rfl, hs1, hn1⟩ := hh; obtain ⟨q1, c1, rfl, _⟩ := hs1.open; have hC2 := W5 (.mk fk fks) G1 _ hfsm (hfr.mono hle1))
 refine D3 ?_
 (refine E0 rfl hC2 rfl rfl (fun v9 G2 hle2 hh => ?_); obtain ⟨cs2, F2, rfl, hs2, hn2⟩ := hh; obtain ⟨q2, c2, rfl, _⟩ := hs2.open; have hty1 := hs1.R.mono ((C1.le G1 _).trans hle2); have hfr1 := hs2.R.mono (C1.le G2 G1); have hle12 := hle1.trans hle2; replace hsl := hsl.mono hle12; replace hkl := hkl.mono hle12; replace hv := hv.mono hle12)
 refine K4 ?_
 refine B4 ?_
 (refine V5 28 9 ?_; refine K9 (fun (x : Nat × Option Addr × Nat × List (List Value) × IM) => ⟨[(8, .int .i64 x.1), (1, .string y), (3, .pointer (some ⟨b3, 0, none⟩)), (5, .pointer (some ⟨b4, 0, none⟩)), (6, .pointer (some ⟨b5, 0, none⟩)), (7, .pointer (some ⟨b60, 0, none⟩))], [.blk b60 [.int .i64 k, .string nm, .int .i64 num, .int .i64 tk, .slice q1 tks.length c1, .int .i64 fk, .slice q2 fks.length c2, .int .i64 lb, .slice x.2.1 x.1 x.2.2.1], .slc x.2.1 x.2.2.1 28 9 x.1 x.2.2.2.1.flatten, .blk b5 [.int .i64 0, .string ⟨⟨[]⟩⟩, .int .i64 0, .int .i64 0, .slice none 0 0, .int .i64 0, .slice none 0 0, .int .i64 0, .slice none 0 0], .blk b4 vc, .blk b3 [.int .i64 k, .string nm, .int .i64 num, .int .i64 tk, .slice pt tks.length ct, .int .i64 fk, .slice pf fks.length cf, .int .i64 lb, .slice p ks.length c]], x.2.2.2.2⟩) (fun x => x.1 ≤ ks.length ∧ B6 G2 x.2.2.2.2 ∧ D7 x.2.2.2.2 ((R5 y v ks).take x.1) x.2.2.2.1) (fun x => ks.length - x.1) (0, none, 0, [], G2) ?_ ?_ ?_)
 (simp only [J6]; exact D1)
 (exact ⟨Nat.zero_le _, B6.refl _, by simp [D7]⟩)
 (rintro ⟨i, pn, cn, es', Gi⟩ ⟨hi, hle, hst⟩; simp only [] at hi hle hst ⊢; replace hsl := hsl.mono hle; replace hkl := hkl.mono hle; replace hv := hv.mono hle; replace hty1 := hty1.mono hle; replace hfr1 := hfr1.mono hle; have hsl' := hst.len; rw [List.length_take, Y8] at hsl')
 refine C2 ?_
 refine sB (K6 rfl rfl) rfl rfl (fun h106 => ?_) (fun h106 => ?_)
 refine sD (nS (qT rfl (tK (nS (tS ?_)))))
 refine B4 ?_
 (have hil : i < ks.length := (by omega); obtain ⟨bx, ox, e, rfl, hl, hat, hre, hgb⟩ := hsl.kidTm hkl (i := i) (by omega) (by omega); have hel := hre.len; have heo := hre.one; refine E1 E2 rfl ?_)
 refine P9 (i := 8) (l' := [ff,ff,ff,ff,ff,ff,ff,ff,tt,ff,ff,ff,ff,ff]) rfl D5 (A1 rfl rfl (A9 (by repeat first | exact mH | apply mT)) hvl) rfl (by kernel_rfl) rfl rfl ?_
 refine aP 0 rfl (B1 rfl) rfl ?_
 refine aL 1 rfl (C0 rfl rfl) rfl ?_
 refine aP 2 rfl (B1 rfl) rfl ?_
 refine aL 3 rfl (C0 rfl rfl) rfl ?_
 refine aP 4 rfl (qM rfl) rfl ?_
 refine aP 5 rfl (B3 (j := i) rfl rfl rfl (by omega)) rfl ?_
 refine aL 6 rfl (A1 rfl rfl (hat _) hl) rfl ?_
 refine aP 7 rfl (qM rfl) rfl ?_
 refine A3 9 ?_
 (refine K0 rfl rfl (ih ks[i] (List.getElem_mem (by omega)) Gi _ (Tm.smallL_mem hks _ (List.getElem_mem (by omega))) hre hv) rfl rfl rfl (fun u G3 hle3 hh => ?_); obtain ⟨uc, rfl, hru⟩ := hh; have hul := hru.len; have huo := hru.one; obtain ⟨v1, v2, v3, v4, v5, v6, v7, v8, v9, rfl⟩ := nine hul)
 refine A3 10 ?_
 (refine E4 rfl (C9 rfl rfl rfl (by omega) (by unfold maxLen; omega) rfl) rfl rfl ?_; rintro _ ⟨b127, rfl⟩)
 refine A3 11 ?_
 (refine Q5 rfl rfl rfl rfl rfl rfl (fun _ _ => by repeat (first | exact Sw.here | apply Sw.there)) (P3 (by repeat first | exact mH | apply mT)) rfl (fun u hu => List.all_eq_true.1 huo u hu) (by unfold maxLen; omega) (by omega) rfl rfl (by repeat (first | exact A6.nil | apply A6.dep (by decide +kernel) | apply A6.im (by decide +kernel) (by assumption) (by repeat first | exact mH | apply mT) | apply A6.blk (by decide +kernel) (by repeat (first | exact Pk.here | apply Pk.there)) (by repeat first | exact mH | apply mT) | apply A6.slc (by decide +kernel) (by repeat (first | exact Pk.here | apply Pk.there)) (by repeat first | exact mH | apply mT))) (fun p7 c7 => ?_))
 refine aP 12 rfl (B1 rfl) rfl ?_
 refine A3 13 ?_
 refine R2 rfl rfl rfl rfl rfl rfl rfl rfl (by decide +kernel) (by repeat first | exact Sw.here | apply Sw.there) (by rfl) ?_
 refine C5 (M8 (nS (tR (sQ (qM rfl) rfl ?_))))
 refine sP (K2 rfl rfl (by omega) (by omega)) rfl rfl ?_
 refine sQ (qA rfl) rfl (sD ?_)
 refine K7 (i + 1, p7, c7, es' ++ [[v1, v2, v3, v4, v5, v6, v7, v8, v9]], G3) ?_ ?_ ?_
 (simp only [J6]; exact D1)
 (dsimp only; exact ⟨by omega, hle.trans hle3, by rw [A26 (by omega)]; exact D7.snoc (hst.mono hle3) hru⟩)
 (show ks.length - (i + 1) < ks.length - i; omega)
 refine J2 ?_
 (refine I5 (cs := es'.flatten) (by repeat (first | exact Pk.here | apply Pk.there)) (fun G4 hle4 hsl4 hno4 => ?_); obtain rfl : i = ks.length := (by omega))
 refine tT ?_
 refine D9 (rC rfl (A2 rfl rfl)) ?_
 (rw [if_neg (by rintro ⟨h1, h2⟩; first | omega | contradiction), if_neg (by rintro ⟨h1, h2⟩; first | omega | contradiction)]; rw [List.take_of_length_le (by rw [Y8]; omega)] at hst; exact U2.mk (A8.put hk hnum hlb (hty1.mono hle4) (hfr1.mono hle4) (by rw [Y8]) (D0.of hsl4 (by omega) hst.all (fun e he => (hst.each e he).2)) (hst.mono hle4)))
 refine K4 ?_
 refine sB (qE rfl rfl) rfl rfl (fun h179 => ?_) (fun h179 => ?_)
 refine F0 ?_
 refine sB (A1b rfl rfl) rfl rfl (fun h184 => ?_) (fun h184 => ?_)
 refine C2 ?_
 (refine E0 rfl hCt rfl rfl (fun v9 G1 hle1 hh => ?_); obtain ⟨uc, F1, rfl, hs1, hn1⟩ := hh; have hru := hs1.R.mono (C1.le G1 G); have hul := hru.len; have huo := hru.one)
 refine sS rfl rfl rfl hul huo rfl ?_ (hu := by exact C3 hul.symm)
 refine sD (nS (tT (rS ?_)))
 refine D9 (rC rfl (A1 rfl rfl (A9 (by repeat first | exact mH | apply mT)) hul)) ?_
 (rw [if_neg (by rintro ⟨h1, h2⟩; first | omega | contradiction), if_pos (by refine ⟨by omega, by assumption⟩)]; exact U2.mk hru)
 refine D4 ?_
 refine sE (A5 rfl) rfl (fun b209 => ?_)
 refine C2 ?_
 (refine E0 rfl (W5 (.mk tk tks) _ _ htsm hty) rfl rfl (fun v9 G1 hle1 hh => ?_); obtain ⟨cs1, F1, rfl, hs1, hn1⟩ := hh; obtain ⟨q1, c1, rfl, _⟩ := hs1.open; have hC2 := W5 (.mk fk fks) G1 _ hfsm (hfr.mono hle1))
 refine D3 ?_
 (refine E0 rfl hC2 rfl rfl (fun v9 G2 hle2 hh => ?_); obtain ⟨cs2, F2, rfl, hs2, hn2⟩ := hh; obtain ⟨q2, c2, rfl, _⟩ := hs2.open; have hty1 := hs1.R.mono ((C1.le G1 _).trans hle2); have hfr1 := hs2.R.mono (C1.le G2 G1); have hle12 := hle1.trans hle2; replace hsl := hsl.mono hle12; replace hkl := hkl.mono hle12; replace hv := hv.mono hle12)
 refine K4 ?_
 refine B4 ?_
 (refine V5 28 9 ?_; refine K9 (fun (x : Nat × Option Addr × Nat × List (List Value) × IM) => ⟨[(8, .int .i64 x.1), (1, .string y), (3, .pointer (some ⟨b3, 0, none⟩)), (5, .pointer (some ⟨b4, 0, none⟩)), (6, .pointer (some ⟨b5, 0, none⟩)), (7, .pointer (some ⟨b209, 0, none⟩))], [.blk b209 [.int .i64 k, .string nm, .int .i64 num, .int .i64 tk, .slice q1 tks.length c1, .int .i64 fk, .slice q2 fks.length c2, .int .i64 lb, .slice x.2.1 x.1 x.2.2.1], .slc x.2.1 x.2.2.1 28 9 x.1 x.2.2.2.1.flatten, .blk b5 [.int .i64 0, .string ⟨⟨[]⟩⟩, .int .i64 0, .int .i64 0, .slice none 0 0, .int .i64 0, .slice none 0 0, .int .i64 0, .slice none 0 0], .blk b4 vc, .blk b3 [.int .i64 k, .string nm, .int .i64 num, .int .i64 tk, .slice pt tks.length ct, .int .i64 fk, .slice pf fks.length cf, .int .i64 lb, .slice p ks.length c]], x.2.2.2.2⟩) (fun x => x.1 ≤ ks.length ∧ B6 G2 x.2.2.2.2 ∧ D7 x.2.2.2.2 ((R5 y v ks).take x.1) x.2.2.2.1) (fun x => ks.length - x.1) (0, none, 0, [], G2) ?_ ?_ ?_)
 (simp only [J6]; exact D1)
 (exact ⟨Nat.zero_le _, B6.refl _, by simp [D7]⟩)
 (rintro ⟨i, pn, cn, es', Gi⟩ ⟨hi, hle, hst⟩; simp only [] at hi hle hst ⊢; replace hsl := hsl.mono hle; replace hkl := hkl.mono hle; replace hv := hv.mono hle; replace hty1 := hty1.mono hle; replace hfr1 := hfr1.mono hle; have hsl' := hst.len; rw [List.length_take, Y8] at hsl')
 refine C2 ?_
 refine sB (K6 rfl rfl) rfl rfl (fun h255 => ?_) (fun h255 => ?_)
 refine sD (nS (qT rfl (tK (nS (tS ?_)))))
 refine B4 ?_
 (have hil : i < ks.length := (by omega); obtain ⟨bx, ox, e, rfl, hl, hat, hre, hgb⟩ := hsl.kidTm hkl (i := i) (by omega) (by omega); have hel := hre.len; have heo := hre.one; refine E1 E2 rfl ?_)
 refine P9 (i := 8) (l' := [ff,ff,ff,ff,ff,ff,ff,ff,tt,ff,ff,ff,ff,ff]) rfl D5 (A1 rfl rfl (A9 (by repeat first | exact mH | apply mT)) hvl) rfl (by kernel_rfl) rfl rfl ?_
 refine aP 0 rfl (B1 rfl) rfl ?_
 refine aL 1 rfl (C0 rfl rfl) rfl ?_
 refine aP 2 rfl (B1 rfl) rfl ?_
 refine aL 3 rfl (C0 rfl rfl) rfl ?_
 refine aP 4 rfl (qM rfl) rfl ?_
 refine aP 5 rfl (B3 (j := i) rfl rfl rfl (by omega)) rfl ?_
 refine aL 6 rfl (A1 rfl rfl (hat _) hl) rfl ?_
 refine aP 7 rfl (qM rfl) rfl ?_
 refine A3 9 ?_
 (refine K0 rfl rfl (ih ks[i] (List.getElem_mem (by omega)) Gi _ (Tm.smallL_mem hks _ (List.getElem_mem (by omega))) hre hv) rfl rfl rfl (fun u G3 hle3 hh => ?_); obtain ⟨uc, rfl, hru⟩ := hh; have hul := hru.len; have huo := hru.one; obtain ⟨v1, v2, v3, v4, v5, v6, v7, v8, v9, rfl⟩ := nine hul)
 refine A3 10 ?_
 (refine E4 rfl (C9 rfl rfl rfl (by omega) (by unfold maxLen; omega) rfl) rfl rfl ?_; rintro _ ⟨b276, rfl⟩)
 refine A3 11 ?_
 (refine Q5 rfl rfl rfl rfl rfl rfl (fun _ _ => by repeat (first | exact Sw.here | apply Sw.there)) (P3 (by repeat first | exact mH | apply mT)) rfl (fun u hu => List.all_eq_true.1 huo u hu) (by unfold maxLen; omega) (by omega) rfl rfl (by repeat (first | exact A6.nil | apply A6.dep (by decide +kernel) | apply A6.im (by decide +kernel) (by assumption) (by repeat first | exact mH | apply mT) | apply A6.blk (by decide +kernel) (by repeat (first | exact Pk.here | apply Pk.there)) (by repeat first | exact mH | apply mT) | apply A6.slc (by decide +kernel) (by repeat (first | exact Pk.here | apply Pk.there)) (by repeat first | exact mH | apply mT))) (fun p7 c7 => ?_))
 refine aP 12 rfl (B1 rfl) rfl ?_
 refine A3 13 ?_
 refine R2 rfl rfl rfl rfl rfl rfl rfl rfl (by decide +kernel) (by repeat first | exact Sw.here | apply Sw.there) (by rfl) ?_
 refine C5 (M8 (nS (tR (sQ (qM rfl) rfl ?_))))
 refine sP (K2 rfl rfl (by omega) (by omega)) rfl rfl ?_
 refine sQ (qA rfl) rfl (sD ?_)
 refine K7 (i + 1, p7, c7, es' ++ [[v1, v2, v3, v4, v5, v6, v7, v8, v9]], G3) ?_ ?_ ?_
 (simp only [J6]; exact D1)
 (dsimp only; exact ⟨by omega, hle.trans hle3, by rw [A26 (by omega)]; exact D7.snoc (hst.mono hle3) hru⟩)
 (show ks.length - (i + 1) < ks.length - i; omega)
 refine J2 ?_
 (refine I5 (cs := es'.flatten) (by repeat (first | exact Pk.here | apply Pk.there)) (fun G4 hle4 hsl4 hno4 => ?_); obtain rfl : i = ks.length := (by omega))
 refine tT ?_
 refine D9 (rC rfl (A2 rfl rfl)) ?_
 (rw [if_neg (by rintro ⟨h1, h2⟩; first | omega | contradiction), if_neg (by rintro ⟨h1, h2⟩; first | omega | contradiction)]; rw [List.take_of_length_le (by rw [Y8]; omega)] at hst; exact U2.mk (A8.put hk hnum hlb (hty1.mono hle4) (hfr1.mono hle4) (by rw [Y8]) (D0.of hsl4 (by omega) hst.all (fun e he => (hst.each e he).2)) (hst.mono hle4)))
 refine J2 ?_
 refine sE (A5 rfl) rfl (fun b326 => ?_)
 refine C2 ?_
 (refine E0 rfl (W5 (.mk tk tks) _ _ htsm hty) rfl rfl (fun v9 G1 hle1 hh => ?_); obtain ⟨cs1, F1, rfl, hs1, hn1⟩ := hh; obtain ⟨q1, c1, rfl, _⟩ := hs1.open; have hC2 := W5 (.mk fk fks) G1 _ hfsm (hfr.mono hle1))
 refine D3 ?_
 (refine E0 rfl hC2 rfl rfl (fun v9 G2 hle2 hh => ?_); obtain ⟨cs2, F2, rfl, hs2, hn2⟩ := hh; obtain ⟨q2, c2, rfl, _⟩ := hs2.open; have hty1 := hs1.R.mono ((C1.le G1 _).trans hle2); have hfr1 := hs2.R.mono (C1.le G2 G1); have hle12 := hle1.trans hle2; replace hsl := hsl.mono hle12; replace hkl := hkl.mono hle12; replace hv := hv.mono hle12)
 refine K4 ?_
 refine B4 ?_
 (refine V5 28 9 ?_; refine K9 (fun (x : Nat × Option Addr × Nat × List (List Value) × IM) => ⟨[(8, .int .i64 x.1), (1, .string y), (3, .pointer (some ⟨b3, 0, none⟩)), (5, .pointer (some ⟨b4, 0, none⟩)), (6, .pointer (some ⟨b5, 0, none⟩)), (7, .pointer (some ⟨b326, 0, none⟩))], [.blk b326 [.int .i64 k, .string nm, .int .i64 num, .int .i64 tk, .slice q1 tks.length c1, .int .i64 fk, .slice q2 fks.length c2, .int .i64 lb, .slice x.2.1 x.1 x.2.2.1], .slc x.2.1 x.2.2.1 28 9 x.1 x.2.2.2.1.flatten, .blk b5 [.int .i64 0, .string ⟨⟨[]⟩⟩, .int .i64 0, .int .i64 0, .slice none 0 0, .int .i64 0, .slice none 0 0, .int .i64 0, .slice none 0 0], .blk b4 vc, .blk b3 [.int .i64 k, .string nm, .int .i64 num, .int .i64 tk, .slice pt tks.length ct, .int .i64 fk, .slice pf fks.length cf, .int .i64 lb, .slice p ks.length c]], x.2.2.2.2⟩) (fun x => x.1 ≤ ks.length ∧ B6 G2 x.2.2.2.2 ∧ D7 x.2.2.2.2 ((R5 y v ks).take x.1) x.2.2.2.1) (fun x => ks.length - x.1) (0, none, 0, [], G2) ?_ ?_ ?_)
 (simp only [J6]; exact D1)
 (exact ⟨Nat.zero_le _, B6.refl _, by simp [D7]⟩)
 (rintro ⟨i, pn, cn, es', Gi⟩ ⟨hi, hle, hst⟩; simp only [] at hi hle hst ⊢; replace hsl := hsl.mono hle; replace hkl := hkl.mono hle; replace hv := hv.mono hle; replace hty1 := hty1.mono hle; replace hfr1 := hfr1.mono hle; have hsl' := hst.len; rw [List.length_take, Y8] at hsl')
 refine C2 ?_
 refine sB (K6 rfl rfl) rfl rfl (fun h372 => ?_) (fun h372 => ?_)
 refine sD (nS (qT rfl (tK (nS (tS ?_)))))
 refine B4 ?_
 (have hil : i < ks.length := (by omega); obtain ⟨bx, ox, e, rfl, hl, hat, hre, hgb⟩ := hsl.kidTm hkl (i := i) (by omega) (by omega); have hel := hre.len; have heo := hre.one; refine E1 E2 rfl ?_)
 refine P9 (i := 8) (l' := [ff,ff,ff,ff,ff,ff,ff,ff,tt,ff,ff,ff,ff,ff]) rfl D5 (A1 rfl rfl (A9 (by repeat first | exact mH | apply mT)) hvl) rfl (by kernel_rfl) rfl rfl ?_
 refine aP 0 rfl (B1 rfl) rfl ?_
 refine aL 1 rfl (C0 rfl rfl) rfl ?_
 refine aP 2 rfl (B1 rfl) rfl ?_
 refine aL 3 rfl (C0 rfl rfl) rfl ?_
 refine aP 4 rfl (qM rfl) rfl ?_
 refine aP 5 rfl (B3 (j := i) rfl rfl rfl (by omega)) rfl ?_
 refine aL 6 rfl (A1 rfl rfl (hat _) hl) rfl ?_
 refine aP 7 rfl (qM rfl) rfl ?_
 refine A3 9 ?_
 (refine K0 rfl rfl (ih ks[i] (List.getElem_mem (by omega)) Gi _ (Tm.smallL_mem hks _ (List.getElem_mem (by omega))) hre hv) rfl rfl rfl (fun u G3 hle3 hh => ?_); obtain ⟨uc, rfl, hru⟩ := hh; have hul := hru.len; have huo := hru.one; obtain ⟨v1, v2, v3, v4, v5, v6, v7, v8, v9, rfl⟩ := nine hul)
 refine A3 10 ?_
 (refine E4 rfl (C9 rfl rfl rfl (by omega) (by unfold maxLen; omega) rfl) rfl rfl ?_; rintro _ ⟨b393, rfl⟩)
 refine A3 11 ?_
 (refine Q5 rfl rfl rfl rfl rfl rfl (fun _ _ => by repeat (first | exact Sw.here | apply Sw.there)) (P3 (by repeat first | exact mH | apply mT)) rfl (fun u hu => List.all_eq_true.1 huo u hu) (by unfold maxLen; omega) (by omega) rfl rfl (by repeat (first | exact A6.nil | apply A6.dep (by decide +kernel) | apply A6.im (by decide +kernel) (by assumption) (by repeat first | exact mH | apply mT) | apply A6.blk (by decide +kernel) (by repeat (first | exact Pk.here | apply Pk.there)) (by repeat first | exact mH | apply mT) | apply A6.slc (by decide +kernel) (by repeat (first | exact Pk.here | apply Pk.there)) (by repeat first | exact mH | apply mT))) (fun p7 c7 => ?_))
 refine aP 12 rfl (B1 rfl) rfl ?_
 refine A3 13 ?_
 refine R2 rfl rfl rfl rfl rfl rfl rfl rfl (by decide +kernel) (by repeat first | exact Sw.here | apply Sw.there) (by rfl) ?_
 refine C5 (M8 (nS (tR (sQ (qM rfl) rfl ?_))))
 refine sP (K2 rfl rfl (by omega) (by omega)) rfl rfl ?_
 refine sQ (qA rfl) rfl (sD ?_)
 refine K7 (i + 1, p7, c7, es' ++ [[v1, v2, v3, v4, v5, v6, v7, v8, v9]], G3) ?_ ?_ ?_
 (simp only [J6]; exact D1)
 (dsimp only; exact ⟨by omega, hle.trans hle3, by rw [A26 (by omega)]; exact D7.snoc (hst.mono hle3) hru⟩)
 (show ks.length - (i + 1) < ks.length - i; omega)
 refine J2 ?_
 (refine I5 (cs := es'.flatten) (by repeat (first | exact Pk.here | apply Pk.there)) (fun G4 hle4 hsl4 hno4 => ?_); obtain rfl : i = ks.length := (by omega))
 refine tT ?_
 refine D9 (rC rfl (A2 rfl rfl)) ?_
 (rw [if_neg (by rintro ⟨h1, h2⟩; first | omega | contradiction), if_neg (by rintro ⟨h1, h2⟩; first | omega | contradiction)]; rw [List.take_of_length_le (by rw [Y8]; omega)] at hst; exact U2.mk (A8.put hk hnum hlb (hty1.mono hle4) (hfr1.mono hle4) (by rw [Y8]) (D0.of hsl4 (by omega) hst.all (fun e he => (hst.each e he).2)) (hst.mono hle4)))
theorem B6M (k : Int) (a b : Tm) (G : IM) (ca cb : List Value) (hk78 : k = 7 ∨ k = 8) (hca : 0 ≤ a.num ∧ a.num ≤ 999) (hcb : 0 ≤ b.num ∧ b.num ≤ 999) (hra : A8 G a ca) (hrb : A8 G b cb) : Fn Tryz.prog 253 [.int .i64 k, .agg ⟨ca⟩, .agg ⟨cb⟩] [] G (K5 (Q7 k A7 A7 0 [a, b])) := by
 obtain ⟨ak, anm, anum, ⟨atk, atks⟩, ⟨afk, afks⟩, alb, aks⟩ := a
 obtain ⟨bk, bnm, bnum, ⟨btk, btks⟩, ⟨bfk, bfks⟩, blb, bks⟩ := b
 obtain ⟨apt, act, apf, acf, ap, ac, aes, rfl, hak, hanum, halb, haty, hafr, hasl, hakl⟩ := hra.open9
 obtain ⟨bpt, bct, bpf, bcf, bp, bc, bes, rfl, hbk, hbnum, hblb, hbty, hbfr, hbsl, hbkl⟩ := hrb.open9
 simp only [Tm.num] at hca hcb
 have hR : Q7 k A7 A7 0 [Tm.mk ak anm anum (.mk atk atks) (.mk afk afks) alb aks, Tm.mk bk bnm bnum (.mk btk btks) (.mk bfk bfks) blb bks] = (if ak = 2 ∧ bk = 2 then (if k = 7 then A1N ((anum + bnum) % 1000) else W8 (anum < bnum), 1, 0) else S8) := by
  unfold Q7; rw [if_neg (by omega), if_pos hk78]; rfl
 rw [hR]
 have htm : (anum + bnum).tmod 1000 = (anum + bnum) % 1000 := A9A hca hcb
 have hb : E6 ((anum + bnum) % 1000) := ⟨by omega, by omega⟩
 refine B2 Tryz.func253 rfl Tryz.ntmps253 Tryz.results253 rfl ?_
 intro w0
 refine tS (tR ?_)
 refine sE (B9 rfl rfl) rfl (fun b3 => ?_)
 refine sE (B9 rfl rfl) rfl (fun b4 => ?_)
 refine sE (A5 rfl) rfl (fun b5 => ?_)
 refine D4 ?_
 refine sB (M7 rfl rfl) rfl rfl (fun h15 => ?_) (fun h15 => ?_)
 refine V6 ?_
 refine C4 (rC rfl (A2 rfl rfl)) (rT rfl) (rT rfl) ?_
 (exact K5.mk (by rw [if_neg (by omega)]; rfl) (L7 _))
 refine K3 ?_
 refine sB (M7 rfl rfl) rfl rfl (fun h39 => ?_) (fun h39 => ?_)
 refine J2 ?_
 refine C4 (rC rfl (A2 rfl rfl)) (rT rfl) (rT rfl) ?_
 (exact K5.mk (by rw [if_neg (by omega)]; rfl) (L7 _))
 refine I9 ?_
 refine sB (qE rfl rfl) rfl rfl (fun h66 => ?_) (fun h66 => ?_)
 refine D4 ?_
 refine sP (K2 rfl rfl (by omega) (by omega)) rfl rfl ?_
 refine sP (A3r rfl rfl (by omega)) rfl rfl ?_
 (rw [htm]; refine H3 rfl (A11 _ _) rfl rfl ?_)
 refine C2 ?_
 refine C4 (rC rfl (A2 rfl rfl)) (rT rfl) (rT rfl) ?_
 (exact K5.mk (u := A1N (HMod.hMod (anum + bnum) 1000)) (by rw [if_pos ⟨by omega, by omega⟩, if_pos (by omega)]) (A8.put (us := []) ⟨by decide, by decide⟩ hb ⟨by decide, by decide⟩ (A1l _) (A1l _) rfl (D0.nil _ _) rfl))
 refine I6 ?_
 (refine sB (K6 rfl rfl) rfl rfl (fun h99 => ?_) (fun h99 => ?_))
 (refine E0 rfl (B06 _ _) rfl rfl (fun u G1 hle1 hh => ?_); obtain ⟨uc, rfl, hru⟩ := hh; have hul := hru.len; have huo := hru.one)
 refine sS rfl rfl rfl hul huo rfl ?_ (hu := by exact C3 hul.symm)
 refine sQ (qA rfl) rfl (sQ (qA rfl) rfl (sD (nS (tT ?_))))
 refine C4 (rC rfl (A1 rfl rfl (A9 (by repeat first | exact mH | apply mT)) hul)) (rT rfl) (rT rfl) ?_
 (exact K5.mk (by rw [if_pos ⟨by omega, by omega⟩, if_neg (by omega)]; unfold W8; rw [if_pos (by omega), if_pos rfl]) hru)
 (refine E0 rfl (B06 _ _) rfl rfl (fun u G1 hle1 hh => ?_); obtain ⟨uc, rfl, hru⟩ := hh; have hul := hru.len; have huo := hru.one)
 refine sS rfl rfl rfl hul huo rfl ?_ (hu := by exact C3 hul.symm)
 refine sQ (qA rfl) rfl (sQ (qA rfl) rfl (sD (nS (tT ?_))))
 refine C4 (rC rfl (A1 rfl rfl (A9 (by repeat first | exact mH | apply mT)) hul)) (rT rfl) (rT rfl) ?_
 (exact K5.mk (by rw [if_pos ⟨by omega, by omega⟩, if_neg (by omega)]; unfold W8; rw [if_neg (by omega), if_neg (by decide)]) hru)
theorem B07 {fuel : Int} (h : fuel < 0 ∨ 300 < fuel) : P8 fuel 0 300 = false := by unfold P8; rw [decide_eq_false (by omega)]
theorem B6N {fuel : Int} (h : 0 ≤ fuel) (h2 : fuel ≤ 300) : P8 fuel 0 300 = true := by unfold P8; rw [decide_eq_true ⟨h, h2⟩]
theorem B6O {k : Int} {ks : List Tm} {u : Tm} {ty fr : Ty} {lb : Int} (h : P2 k ks = some u) : Q7 k ty fr lb ks = (u, 1, 0) := by
 unfold P2 at h
 unfold Q7
 split at h
 ·rename_i h6
  rw [if_pos h6]
  split at h
  ·rename_i h5; cases h; rw [if_pos h5]
  ·cases h
 ·rename_i h6
  rw [if_neg h6]
  split at h
  ·rename_i h7
   rw [if_pos h7]
   split at h
   ·rename_i h5; cases h; rw [if_pos h5]
   ·cases h
  ·rename_i h7
   rw [if_neg h7]
   split at h
   ·rename_i h9
    rw [if_pos h9]
    split at h
    ·rename_i h5; cases h; rw [if_pos h5]
    ·rename_i h5
     rw [if_neg h5]
     split at h
     ·rename_i h4; cases h; rw [if_pos h4]
     ·cases h
   ·rename_i h9
    rw [if_neg h9]
    split at h
    ·rename_i h11
     rw [if_pos h11]
     split at h
     ·rename_i h5; cases h; rw [if_pos h5]
     ·cases h
    ·cases h
theorem B6P {k : Int} {ks : List Tm} (hk : Tm.smallL ks) (hc : D6 ks ≤ 199) : (U5 k ks).1.small ∧ C6 (U5 k ks).1 ≤ 40100 := by
 cases hr : P2 k ks with
 | none => rw [A2f hr]; exact ⟨A3U, by show C6 F4 ≤ _; rw [A9b]; omega⟩
 | some u =>
  have := B3E (k := k) (ty := A7) (fr := A7) (lb := 0) hk hc A13 A13
  rw [B6O hr] at this
  rw [A09 hr]
  exact this
theorem B6Q (ks : List Tm) (ih : ∀ t ∈ ks, t.small → C6 t ≤ 200 → (H1 t).1.small ∧ C6 (H1 t).1 ≤ C6 t + 40100) : ∀ (n : Nat), Tm.smallL ks → D6 ks ≤ 199 → ∀ us c l, V9 n ks = some (us, c, l) → Tm.smallL us ∧ us.length = ks.length ∧ D6 us ≤ D6 ks + 40100 := by
 induction ks with
 | nil => intro n _ _ us c l h; cases n <;> (rw [V9] at h; cases h)
 | cons t ts ihl =>
  intro n hs hc us c l h
  simp only [Tm.smallL] at hs
  simp only [D6] at hc ⊢
  cases n with
  | zero => rw [V9] at h; cases h
  | succ n =>
   rw [A36] at h
   split at h
   ·split at h
    ·rename_i us' c' l' hs'
     cases h
     obtain ⟨l1, l2, l3⟩ := ihl (fun u hu => ih u (List.mem_cons_of_mem _ hu)) n hs.2 (by omega) us' c l hs'
     exact ⟨by simp only [Tm.smallL]; exact ⟨hs.1, l1⟩, by simp [l2], by simp only [D6]; omega⟩
    ·cases h
   ·cases h
    obtain ⟨s1, s2⟩ := ih t List.mem_cons_self hs.1 (by omega)
    exact ⟨by simp only [Tm.smallL]; exact ⟨s1, hs.2⟩, by simp, by simp only [D6]; omega⟩
theorem B6R : ∀ (t : Tm), t.small → C6 t ≤ 200 → (H1 t).1.small ∧ C6 (H1 t).1 ≤ C6 t + 40100 := by
 refine Tm.ind fun k nm num ty fr lb ks ih h hc => ?_
 obtain ⟨h1, h2, h3, h4, h5⟩ := A0y.1 h
 rw [U1] at hc
 have hL := B6Q ks ih (if k = 9 then 1 else ks.length) h5 (by omega)
 rw [H1]
 split
 ·rename_i us c l hs
  obtain ⟨l1, l2, l3⟩ := hL us c l hs
  split
  ·refine ⟨A0y.2 ⟨h1, h2, h3, by omega, l1⟩, ?_⟩
   show C6 (.mk k nm num ty fr lb us) ≤ _
   rw [U1, U1]; omega
  ·exact ⟨A3U, by show C6 F4 ≤ _; rw [A9b]; omega⟩
 ·have := B6P (k := k) h5 (by omega)
  rw [U1]
  exact ⟨this.1, by omega⟩
theorem B6S {t : Tm} (h : M9 t = true) : (H1 t).1.small ∧ C6 (H1 t).1 ≤ 40300 := by
 obtain ⟨h1, h2⟩ := A0Q (A0S h).1
 have := B6R t (A12 t h1) h2
 exact ⟨this.1, by omega⟩
theorem B6T {k : Int} {nm : ByteArray} {num : Int} {ty fr : Ty} {lb : Int} {ks : List Tm} (j : Nat) (hj : j < ks.length) (h : M6 ks[j] = false) : M6 (.mk k nm num ty fr lb ks) = false := by
 cases hb : M6 (.mk k nm num ty fr lb ks) with
 | false => rfl
 | true =>
  have := (X0.1 hb).2 ks[j] (List.getElem_mem hj)
  rw [h] at this; cases this
theorem B6U {a b c : Tm} : U5 9 [a, b, c] = (if a.k = 3 then (b, 1, 0) else if a.k = 4 then (c, 1, 0) else (F4, 2, 3)) := by
 have hm : P2 9 [a, b, c] = if a.k = 3 then some b else if a.k = 4 then some c else none := rfl
 by_cases h3 : a.k = 3
 ·rw [if_pos h3] at hm ⊢; exact A09 hm
 ·rw [if_neg h3] at hm ⊢
  by_cases h4 : a.k = 4
  ·rw [if_pos h4] at hm ⊢; exact A09 hm
  ·rw [if_neg h4] at hm ⊢; exact A2f hm
theorem B6V {a b : Tm} : U5 6 [a, b] = (if a.k = 5 then (S2 a.nm b (kd a.ks 0), 1, 0) else (F4, 2, 1)) := by
 have hm : P2 6 [a, b] = if a.k = 5 then some (S2 a.nm b (kd a.ks 0)) else none := rfl
 by_cases h3 : a.k = 5
 ·rw [if_pos h3] at hm ⊢; exact A09 hm
 ·rw [if_neg h3] at hm ⊢; exact A2f hm
theorem B6W {k : Int} {a : Tm} (h : k = 11 ∨ k = 12) : U5 k [a] = (if a.k = 10 then (kd a.ks (k - 11).toNat, 1, 0) else (F4, 2, 4)) := by
 have hm : P2 k [a] = if a.k = 10 then some (kd a.ks (k - 11).toNat) else none := by
  unfold P2; rw [if_neg (by omega), if_neg (by omega), if_neg (by omega), if_pos h]; rfl
 by_cases h3 : a.k = 10
 ·rw [if_pos h3] at hm ⊢; exact A09 hm
 ·rw [if_neg h3] at hm ⊢
  rw [A2f hm]
  unfold A2e
  rw [if_neg (by omega), if_neg (by omega), if_neg (by omega), if_pos h]
theorem B6X {ks : List Tm} : U5 1 ks = (F4, 2, 5) := A2f rfl
theorem B6Y {k : Int} {a b : Tm} (h : k = 7 ∨ k = 8) : U5 k [a, b] = if (Q7 k A7 A7 0 [a, b]).2.1 = 1 then ((Q7 k A7 A7 0 [a, b]).1, 1, 0) else (F4, 2, 2) := by
 have hr : Q7 k A7 A7 0 [a, b] = if a.k = 2 ∧ b.k = 2 then (if k = 7 then A1N ((a.num + b.num) % 1000) else W8 (a.num < b.num), 1, 0) else S8 := by
  unfold Q7; rw [if_neg (by omega), if_pos h]; rfl
 have hm : P2 k [a, b] = if a.k = 2 ∧ b.k = 2 then some (if k = 7 then A1N ((a.num + b.num) % 1000) else W8 (a.num < b.num)) else none := by
  unfold P2; rw [if_neg (by omega), if_pos h]; rfl
 by_cases hc : a.k = 2 ∧ b.k = 2
 ·rw [if_pos hc] at hr hm
  rw [A09 hm, hr, if_pos rfl]
 ·rw [if_neg hc] at hr hm
  rw [A2f hm, hr, if_neg (by decide)]
  unfold A2e; rw [if_neg (by omega), if_pos h]
theorem B6Z {P : Program} {Γ : M0} {env : M4} {hp : List A4} {G : IM} {ty : TypeId} {x y : Operand} {t e : TypeId} {i : L8} {sz by' : Nat} {zs : List Value} [hI : I1 P t i] (hd : i.desc = .slice e) [hE : X5 P e sz by' zs] {b o n c j : Nat} {k : IntKind} {z : Int}
  (hx : evo env x = some (.slice (some ⟨b, o, none⟩) n c)) (hy : evo env y = some (.int k z)) (hz : z = (j : Int)) (h1 : j < n) :
  I3 P Γ ⟨env, hp, G⟩ (.indexAddr t x y) ty (.pointer (some ⟨b, o + j * sz, none⟩)) := by
 subst hz; exact B3 hd hx hy h1
theorem B60 : ∀ (t : Tm) (G : IM) (cells : List Value), A8 G t cells → Fn Tryz.prog 247 [.agg ⟨cells⟩] [] G (H0 (.bool (M6 t)) G) := by
 refine Tm.ind fun k nm num ty fr lb ks ih G cells hr => ?_
 have hy := fun h => @B00 k nm num ty fr lb ks true h
 have hf := fun (j : Nat) (hj : j < ks.length) => @B6T k nm num ty fr lb ks j hj
 have hn := @B01 k nm num ty fr lb ks
 generalize M6 (.mk k nm num ty fr lb ks) = R at hy hn hf ⊢
 obtain ⟨tk, tks⟩ := ty
 obtain ⟨fk, fks⟩ := fr
 rw [show (Ty.mk tk tks).k = tk from rfl] at hy hn
 obtain ⟨pt, ct, pf, cf, p, c, es, rfl, hk, hnum, hlb, hty, hfr, hsl, hkl⟩ := hr.open9
 have hl := hsl.le
 refine B2 Tryz.func247 rfl Tryz.ntmps247 Tryz.results247 rfl ?_
 intro w0
 refine tS (tR ?_)
 refine sE (B9 rfl rfl) rfl (fun b3 => ?_)
 refine D3 ?_
 refine sB (qE rfl rfl) rfl rfl (fun h12 => ?_) (fun h12 => ?_)
 refine F0 ?_
 refine sB (M7 rfl rfl) rfl rfl (fun h17 => ?_) (fun h17 => ?_)
 refine T0 ?_
 (exact ⟨rfl, by rw [hn (by omega)], rfl⟩)
 refine F0 ?_
 refine sP (H4 rfl rfl (by omega)) rfl rfl ?_
 refine N6 ?_
 refine B4 ?_
 (refine K9 (fun (i : Nat) => ⟨[(3, .int .i64 (i : Int)), (1, .pointer (some ⟨b3, 0, none⟩))], [.blk b3 [.int .i64 k, .string nm, .int .i64 num, .int .i64 tk, .slice pt tks.length ct, .int .i64 fk, .slice pf fks.length cf, .int .i64 lb, .slice p ks.length c]], G⟩) (fun i => i ≤ ks.length ∧ ∀ j, j < i → (h : j < ks.length) → M6 ks[j] = true) (fun i => ks.length - i) 0 ?_ ?_ ?_)
 exact D1
 (exact ⟨Nat.zero_le _, fun j hj => absurd hj (Nat.not_lt_zero j)⟩)
 (rintro i ⟨hi, hj⟩)
 refine C2 ?_
 refine sB (K6 rfl rfl) rfl rfl (fun h65 => ?_) (fun h65 => ?_)
 refine sD (nS (qT rfl (tK (nS (tS ?_)))))
 refine B4 ?_
 refine R1 ?_
 (have hiC : i < ks.length := (by omega); obtain ⟨bx, ox, e, rfl, hl, hat, hre, hgb⟩ := hsl.kidTm hkl (i := i) (by omega) (by omega); have hVi := ih ks[i] (List.getElem_mem hiC) G e hre; refine sP (B3 (j := i) rfl rfl rfl (by omega)) rfl rfl ?_)
 refine sL (A1 rfl rfl (hat _) hl) rfl rfl ?_
 refine D8 rfl (hVi) rfl rfl (fun h80 => ?_) (fun h80 => ?_)
 refine D4 ?_
 refine sP (K2 rfl rfl (by omega) (by omega)) rfl rfl ?_
 refine sQ (qA rfl) rfl (sD ?_)
 refine K7 (i + 1) ?_ ?_ ?_
 exact D1
 (exact ⟨by omega, fun j hji hl2 => (by by_cases he : j = i; (subst he; assumption); exact hj j (by omega) hl2)⟩)
 (show ks.length - (i + 1) < ks.length - i; omega)
 refine K4 ?_
 (exact ⟨rfl, by rw [hf i (by omega) (by assumption)], rfl⟩)
 refine H9 ?_
 (exact ⟨rfl, by rw [hy (List.all_eq_true.2 (fun t ht => by obtain ⟨j, hj2, he⟩ := List.getElem_of_mem ht; rw [← he]; exact hj j (by omega) hj2)) (by omega) (by omega)], rfl⟩)
 refine D4 ?_
 refine sB (qE rfl rfl) rfl rfl (fun h139 => ?_) (fun h139 => ?_)
 refine N6 ?_
 (exact ⟨rfl, by rw [hn (by omega)], rfl⟩)
 refine N6 ?_
 refine B4 ?_
 (refine K9 (fun (i : Nat) => ⟨[(3, .int .i64 (i : Int)), (1, .pointer (some ⟨b3, 0, none⟩))], [.blk b3 [.int .i64 k, .string nm, .int .i64 num, .int .i64 tk, .slice pt tks.length ct, .int .i64 fk, .slice pf fks.length cf, .int .i64 lb, .slice p ks.length c]], G⟩) (fun i => i ≤ ks.length ∧ ∀ j, j < i → (h : j < ks.length) → M6 ks[j] = true) (fun i => ks.length - i) 0 ?_ ?_ ?_)
 exact D1
 (exact ⟨Nat.zero_le _, fun j hj => absurd hj (Nat.not_lt_zero j)⟩)
 (rintro i ⟨hi, hj⟩)
 refine C2 ?_
 refine sB (K6 rfl rfl) rfl rfl (fun h177 => ?_) (fun h177 => ?_)
 refine sD (nS (qT rfl (tK (nS (tS ?_)))))
 refine B4 ?_
 refine R1 ?_
 (have hiC : i < ks.length := (by omega); obtain ⟨bx, ox, e, rfl, hl, hat, hre, hgb⟩ := hsl.kidTm hkl (i := i) (by omega) (by omega); have hVi := ih ks[i] (List.getElem_mem hiC) G e hre; refine sP (B3 (j := i) rfl rfl rfl (by omega)) rfl rfl ?_)
 refine sL (A1 rfl rfl (hat _) hl) rfl rfl ?_
 refine D8 rfl (hVi) rfl rfl (fun h192 => ?_) (fun h192 => ?_)
 refine D4 ?_
 refine sP (K2 rfl rfl (by omega) (by omega)) rfl rfl ?_
 refine sQ (qA rfl) rfl (sD ?_)
 refine K7 (i + 1) ?_ ?_ ?_
 exact D1
 (exact ⟨by omega, fun j hji hl2 => (by by_cases he : j = i; (subst he; assumption); exact hj j (by omega) hl2)⟩)
 (show ks.length - (i + 1) < ks.length - i; omega)
 refine K4 ?_
 (exact ⟨rfl, by rw [hf i (by omega) (by assumption)], rfl⟩)
 refine H9 ?_
 (exact ⟨rfl, by rw [hy (List.all_eq_true.2 (fun t ht => by obtain ⟨j, hj2, he⟩ := List.getElem_of_mem ht; rw [← he]; exact hj j (by omega) hj2)) (by omega) (by omega)], rfl⟩)
theorem B61 (t : Tm) (G : IM) (cells : List Value) (hcnt : C6 t ≤ 4294967296) (hr : A8 G t cells) : Fn Tryz.prog 228 [.agg ⟨cells⟩] [] G (H0 (.bool (M9 t)) G) := by
 have hRl := hr.len
 have hRo := hr.one
 have hV := A6h t G cells hcnt hr
 have hB := B60 t G cells hr
 unfold M9
 generalize J3 t = a at hV ⊢
 generalize M6 t = b at hB ⊢
 refine B2 Tryz.func228 rfl Tryz.ntmps228 Tryz.results228 rfl ?_
 intro w0
 refine tS (tR ?_)
 refine sE (B9 rfl rfl) rfl (fun b3 => ?_)
 refine sQ (qA rfl) rfl (sD (nS (tS (tR ?_))))
 refine sL (A1 rfl rfl (A9 (by repeat first | exact mH | apply mT)) hRl) rfl rfl ?_
 refine D8 rfl (hV) rfl rfl (fun h10 => ?_) (fun h10 => ?_)
 refine sQ (qM rfl) rfl ?_
 refine sL (A1 rfl rfl (A9 (by repeat first | exact mH | apply mT)) hRl) rfl rfl ?_
 refine D8 rfl (hB) rfl rfl (fun h13 => ?_) (fun h13 => ?_)
 refine J8 ?_
 (simp_all; exact ⟨rfl, rfl, rfl⟩)
 refine J8 ?_
 (simp_all; exact ⟨rfl, rfl, rfl⟩)
 refine D4 ?_
 (simp_all; exact ⟨rfl, rfl, rfl⟩)
theorem B62 (k : Int) (a b : Tm) (nm : ByteArray) (num : Int) (ty fr : Ty) (lb : Int) (G : IM) (cells : List Value) (h78 : k = 7 ∨ k = 8) (hc : cv (.mk k nm num ty fr lb [a, b])) (hr : A8 G (.mk k nm num ty fr lb [a, b]) cells) : Fn Tryz.prog 261 [.agg ⟨cells⟩] [] G (K5 (U5 k [a, b])) := by
 obtain ⟨hN, hkk⟩ := hc.node
 rw [B6Y h78]
 obtain ⟨tk, tks⟩ := ty
 obtain ⟨fk, fks⟩ := fr
 obtain ⟨pt, ct, pf, cf, p, c, es, rfl, hk, hnum, hlb, hty, hfr, hsl, hkl⟩ := hr.open9
 obtain ⟨bx, ox, e0, rfl, hl0, hat0, hre0, hgb0⟩ := hsl.kidTm hkl (i := 0) (by simp) (by simp)
 obtain ⟨_, _, e1, hp1, hl1, hat1, hre1, hgb1⟩ := hsl.kidTm hkl (i := 1) (by simp) (by simp)
 cases hp1
 have hF := B6M k a b G e0 e1 h78 (by have := (hkk a (by simp)); cases a; exact this.node.1.num0) (by have := (hkk b (by simp)); cases b; exact this.node.1.num0) hre0 hre1
 refine B2 Tryz.func261 rfl Tryz.ntmps261 Tryz.results261 rfl ?_
 intro w0
 refine tS (tR ?_)
 refine sE (B9 rfl rfl) rfl (fun b3 => ?_)
 refine sE (A5 rfl) rfl (fun b4 => ?_)
 refine sQ (qA rfl) rfl (sQ (qA rfl) rfl (sD (nS (tS ?_))))
 refine E1 E2 rfl ?_
 refine J5 (i := 0) (l' := [tt,ff,ff,ff,ff,ff,ff,ff,ff,ff,ff,ff,ff,ff,ff,ff,ff,ff,ff]) rfl D5 (B1 rfl) rfl (by kernel_rfl) rfl rfl ?_
 refine aL 1 rfl (C0 rfl rfl) rfl ?_
 refine aP 2 rfl (B1 rfl) rfl ?_
 refine aL 3 rfl (C0 rfl rfl) rfl ?_
 refine aP 4 rfl (B3 (j := 0) rfl rfl rfl (by simp)) rfl ?_
 refine aL 5 rfl (A1 rfl rfl (hat0 _) hl0) rfl ?_
 refine aP 6 rfl (B1 rfl) rfl ?_
 refine aL 7 rfl (C0 rfl rfl) rfl ?_
 refine aP 8 rfl (B3 (j := 1) rfl rfl rfl (by simp)) rfl ?_
 refine aL 9 rfl (A1 rfl rfl (hat1 _) hl1) rfl ?_
 refine V3 (j := 10) (j' := 15) (by kernel_rfl) ?_ ?_
 (refine K0 rfl rfl hF rfl rfl rfl (fun v G1 hle1 hh => ?_); obtain ⟨wc, hvv, hrw⟩ := hh; have hwl := hrw.len; have hwo := hrw.one; generalize Q7 k A7 A7 0 [a, b] = r at hvv hrw ⊢; obtain ⟨w, cc, ll⟩ := r; simp only at hvv hrw ⊢; subst hvv)
 refine aP 11 rfl (qM rfl) rfl ?_
 refine aP 12 rfl (pX rfl rfl) rfl ?_
 refine aP 13 rfl (pX rfl rfl) rfl ?_
 refine aP 14 rfl (pX rfl rfl) rfl ?_
 refine A3 15 ?_
 (refine E4 rfl (A5 rfl) rfl rfl ?_; rintro _ ⟨b28, rfl⟩)
 refine A3 16 ?_
 (refine oS rfl rfl rfl rfl hwl hwo rfl rfl ?_ (hu := by exact C3 hwl.symm))
 refine aP 17 rfl (qA rfl) rfl ?_
 refine aP 18 rfl (qA rfl) rfl ?_
 refine C5 (nS (tS (tS (tR (sQ (qM rfl) rfl ?_)))))
 refine sB (M7 rfl rfl) rfl rfl (fun h39 => ?_) (fun h39 => ?_)
 refine J9 ?_
 refine C4 (rC rfl (A2 rfl rfl)) (rT rfl) (rT rfl) ?_
 (rw [if_neg (by omega)]; exact K5.mk rfl (L7 _))
 refine sD (nS (cF rfl (tK (nS (tS (tR ?_))))))
 refine sL (A1 rfl rfl (A9 (by repeat first | exact mH | apply mT)) (by assumption)) rfl rfl ?_
 refine sQ (qM rfl) rfl ?_
 refine sS rfl rfl rfl hwl hwo rfl ?_ (hu := by exact C3 hwl.symm)
 refine sQ (qA rfl) rfl (sQ (qA rfl) rfl (sD (nS (tT ?_))))
 refine C4 (rC rfl (A1 rfl rfl (A9 (by repeat first | exact mH | apply mT)) hwl)) (rT rfl) (rT rfl) ?_
 (rw [if_pos (by omega)]; exact K5.mk (by congr 2; omega) hrw)
 (refine E4 rfl (A5 rfl) rfl rfl ?_; rintro _ ⟨b72, rfl⟩)
 refine A3 10 ?_
 (refine K0 rfl rfl hF rfl rfl rfl (fun v G1 hle1 hh => ?_); obtain ⟨wc, hvv, hrw⟩ := hh; have hwl := hrw.len; have hwo := hrw.one; generalize Q7 k A7 A7 0 [a, b] = r at hvv hrw ⊢; obtain ⟨w, cc, ll⟩ := r; simp only at hvv hrw ⊢; subst hvv)
 refine aP 11 rfl (qM rfl) rfl ?_
 refine aP 12 rfl (pX rfl rfl) rfl ?_
 refine aP 13 rfl (pX rfl rfl) rfl ?_
 refine aP 14 rfl (pX rfl rfl) rfl ?_
 refine A3 16 ?_
 (refine oS rfl rfl rfl rfl hwl hwo rfl rfl ?_ (hu := by exact C3 hwl.symm))
 refine aP 17 rfl (qA rfl) rfl ?_
 refine aP 18 rfl (qA rfl) rfl ?_
 refine C5 (nS (tS (tS (tR (sQ (qM rfl) rfl ?_)))))
 refine sB (M7 rfl rfl) rfl rfl (fun h89 => ?_) (fun h89 => ?_)
 refine J9 ?_
 refine C4 (rC rfl (A2 rfl rfl)) (rT rfl) (rT rfl) ?_
 (rw [if_neg (by omega)]; exact K5.mk rfl (L7 _))
 refine sD (nS (cF rfl (tK (nS (tS (tR ?_))))))
 refine sL (A1 rfl rfl (A9 (by repeat first | exact mH | apply mT)) (by assumption)) rfl rfl ?_
 refine sQ (qM rfl) rfl ?_
 refine sS rfl rfl rfl hwl hwo rfl ?_ (hu := by exact C3 hwl.symm)
 refine sQ (qA rfl) rfl (sQ (qA rfl) rfl (sD (nS (tT ?_))))
 refine C4 (rC rfl (A1 rfl rfl (A9 (by repeat first | exact mH | apply mT)) hwl)) (rT rfl) (rT rfl) ?_
 (rw [if_pos (by omega)]; exact K5.mk (by congr 2; omega) hrw)
theorem B63 {k : Int} {ks : List Tm} (hops : C7 k = ks.length) (h : k = 11 ∨ k = 12) : ∃ a, ks = [a] := ks1 (by
 rcases h with rfl | rfl
 ·have : C7 11 = 1 := rfl; omega
 ·have : C7 12 = 1 := rfl; omega)
theorem B08 {k : Int} {ks : List Tm} (hops : C7 k = ks.length) (h : k = 6 ∨ k = 7 ∨ k = 8) : ∃ a b, ks = [a, b] := ks2 (by
 rcases h with rfl | rfl | rfl
 ·have : C7 6 = 2 := rfl; omega
 ·have : C7 7 = 2 := rfl; omega
 ·have : C7 8 = 2 := rfl; omega)
theorem B64 (nm : ByteArray) (num : Int) (ty fr : Ty) (lb : Int) (ks : List Tm) (G : IM) (cells : List Value) (hr : A8 G (.mk 1 nm num ty fr lb ks) cells) : Fn Tryz.prog 248 [.agg ⟨cells⟩] [] G (K5 (U5 1 ks)) := by
 rw [B6X]
 obtain ⟨tk, tks⟩ := ty
 obtain ⟨fk, fks⟩ := fr
 obtain ⟨pt, ct, pf, cf, p, c, es, rfl, hk, hnum, hlb, hty, hfr, hsl, hkl⟩ := hr.open9
 refine B2 Tryz.func248 rfl Tryz.ntmps248 Tryz.results248 rfl ?_
 intro w0
 refine tS (tR ?_)
 refine sE (B9 rfl rfl) rfl (fun b3 => ?_)
 refine sE (A5 rfl) rfl (fun b4 => ?_)
 refine I6 ?_
 refine B4 ?_
 refine tS (tR ?_)
 refine sP (T5 rfl rfl (by omega)) rfl rfl ?_
 refine H9 ?_
 refine C4 (rC rfl (A2 rfl rfl)) (rT rfl) (rT rfl) ?_
 (exact K5.mk rfl (L7 _))
theorem B65 (k : Int) (a b : Tm) (nm : ByteArray) (num : Int) (ty fr : Ty) (lb : Int) (G : IM) (cells : List Value) (h78 : k = 7 ∨ k = 8) (hc : cv (.mk k nm num ty fr lb [a, b])) (hr : A8 G (.mk k nm num ty fr lb [a, b]) cells) : Fn Tryz.prog 248 [.agg ⟨cells⟩] [] G (K5 (U5 k [a, b])) := by
 have hF := B62 k a b nm num ty fr lb G cells h78 hc hr
 obtain ⟨tk, tks⟩ := ty
 obtain ⟨fk, fks⟩ := fr
 obtain ⟨pt, ct, pf, cf, p, c, es, rfl, hk, hnum, hlb, hty, hfr, hsl, hkl⟩ := hr.open9
 refine B2 Tryz.func248 rfl Tryz.ntmps248 Tryz.results248 rfl ?_
 intro w0
 refine tS (tR ?_)
 refine sE (B9 rfl rfl) rfl (fun b3 => ?_)
 refine sE (A5 rfl) rfl (fun b4 => ?_)
 refine I6 ?_
 refine B4 ?_
 refine tS (tR ?_)
 refine sP (H4 rfl rfl (by omega)) rfl rfl ?_
 refine sQ (qA rfl) rfl (sD (nS (cF rfl (tS (tS (tR ?_))))))
 refine sB (qE rfl rfl) rfl rfl (fun h27 => ?_) (fun h27 => ?_)
 refine I9 ?_
 (refine E0 rfl hF rfl rfl (fun v G1 hle1 hh => ?_); obtain ⟨wc, rfl, hrw⟩ := hh; have hwl := hrw.len; have hwo := hrw.one)
 refine K3 ?_
 refine sS rfl rfl rfl hwl hwo rfl ?_ (hu := by exact C3 hwl.symm)
 refine C2 ?_
 refine C4 (rC rfl (A1 rfl rfl (A9 (by repeat first | exact mH | apply mT)) hwl)) (rT rfl) (rT rfl) ?_
 (exact ⟨rfl, _, rfl, hrw⟩)
 refine sQ (qA rfl) rfl (sD (nS (cF rfl (tR ?_))))
 refine sP (T5 rfl rfl (by omega)) rfl rfl ?_
 refine C2 ?_
 (refine E0 rfl hF rfl rfl (fun v G1 hle1 hh => ?_); obtain ⟨wc, rfl, hrw⟩ := hh; have hwl := hrw.len; have hwo := hrw.one)
 refine K3 ?_
 refine sS rfl rfl rfl hwl hwo rfl ?_ (hu := by exact C3 hwl.symm)
 refine C2 ?_
 refine C4 (rC rfl (A1 rfl rfl (A9 (by repeat first | exact mH | apply mT)) hwl)) (rT rfl) (rT rfl) ?_
 (exact ⟨rfl, _, rfl, hrw⟩)
theorem B66 (a b : Tm) (nm : ByteArray) (num : Int) (ty fr : Ty) (lb : Int) (G : IM) (cells : List Value) (hc : cv (.mk 6 nm num ty fr lb [a, b])) (hr : A8 G (.mk 6 nm num ty fr lb [a, b]) cells) : Fn Tryz.prog 248 [.agg ⟨cells⟩] [] G (K5 (U5 6 [a, b])) := by
 obtain ⟨hN, hkk⟩ := hc.node
 have hca := hkk a (by simp)
 have hsma := A12 a hca
 have hbs := A12 b (hkk b (by simp))
 rw [B6V]
 obtain ⟨tk, tks⟩ := ty
 obtain ⟨fk, fks⟩ := fr
 obtain ⟨pt, ct, pf, cf, p, c, es, rfl, hk, hnum, hlb, hty, hfr, hsl, hkl⟩ := hr.open9
 obtain ⟨bx, ox, e0, rfl, hl0, hat0, hre0, hgb0⟩ := hsl.kidTm hkl (i := 0) (by simp) (by simp)
 obtain ⟨_, _, e1, hp1, hl1, hat1, hre1, hgb1⟩ := hsl.kidTm hkl (i := 1) (by simp) (by simp)
 cases hp1
 have ho0 := hre0.one
 replace hre0 : A8 G a e0 := hre0
 replace hre1 : A8 G b e1 := hre1
 obtain ⟨ak, anm, anum, ⟨atk, atks⟩, ⟨afk, afks⟩, alb, aks⟩ := a
 have hops := hca.node.1.ops
 have h5 : ak = 5 → aks.length = 1 := fun h => by rw [h] at hops; have : C7 5 = 1 := rfl; omega
 obtain ⟨_, _, _, _, hksm⟩ := A0y.1 hsma
 obtain ⟨apt, act, apf, acf, ap, ac, aes, rfl, hak, hanum, halb, haty, hafr, hasl, hakl⟩ := hre0.open9
 rw [show (Tm.mk ak anm anum (.mk atk atks) (.mk afk afks) alb aks).k = ak from rfl, show (Tm.mk ak anm anum (.mk atk atks) (.mk afk afks) alb aks).nm = anm from rfl, show (Tm.mk ak anm anum (.mk atk atks) (.mk afk afks) alb aks).ks = aks from rfl]
 refine B2 Tryz.func248 rfl Tryz.ntmps248 Tryz.results248 rfl ?_
 intro w0
 refine tS (tR ?_)
 refine sE (B9 rfl rfl) rfl (fun b3 => ?_)
 refine sE (A5 rfl) rfl (fun b4 => ?_)
 refine I6 ?_
 refine B4 ?_
 refine tS (tR ?_)
 refine sP (H4 rfl rfl (by omega)) rfl rfl ?_
 refine sQ (qA rfl) rfl (sD (nS (cF rfl (tS (tS (tR ?_))))))
 refine sP (H4 rfl rfl (by omega)) rfl rfl ?_
 refine sQ (qA rfl) rfl (sD (nS (cF rfl (tR ?_))))
 refine sP (H4 rfl rfl (by omega)) rfl rfl ?_
 refine sQ (qA rfl) rfl (sD (nS (cF rfl (tS (tR ?_)))))
 refine sP (T5 rfl rfl (by omega)) rfl rfl ?_
 refine D3 ?_
 refine sP (B3 (j := 0) rfl rfl rfl (by simp)) rfl rfl ?_
 refine sL (A1 rfl rfl (hat0 _) rfl) rfl rfl ?_
 refine sE (A5 rfl) rfl (fun b51 => ?_)
 refine sS rfl rfl rfl rfl ho0 rfl ?_ (hu := by exact C3 rfl)
 refine C2 ?_
 refine sB (M7 rfl rfl) rfl rfl (fun h60 => ?_) (fun h60 => ?_)
 refine sD (nS (qT rfl (tS (tR (sQ (W1 rfl rfl) rfl ?_)))))
 refine sS rfl rfl rfl rfl ho0 rfl ?_ (hu := by exact C3 rfl)
 refine D3 ?_
 refine C4 (rC rfl (A2 rfl rfl)) (rT rfl) (rT rfl) ?_
 (exact K5.mk (by rw [if_neg (by omega)]) (L7 _))
 refine sD (nS (cF rfl (tK (nS (tS ?_)))))
 (have hq : ak = 5 := (by omega); have hq1 := h5 hq; obtain ⟨bq, oq, e3, rfl, hl3, hat3, hre3, hgb3⟩ := hasl.kidTm hakl (i := 0) (by omega) (by omega); have hS := B6L anm b _ hbs aks[0] G e3 (Tm.smallL_mem hksm _ (List.getElem_mem (by omega))) hre3 hre1; refine E1 E2 rfl ?_)
 refine J5 (i := 0) (l' := [tt,ff,ff,ff,ff,ff,ff,ff,ff,ff,ff,ff,ff,ff]) rfl D5 (B1 rfl) rfl (by kernel_rfl) rfl rfl ?_
 refine aL 1 rfl (C0 rfl rfl) rfl ?_
 refine aP 2 rfl (B3 (j := 0) rfl rfl rfl (by omega)) rfl ?_
 refine aL 3 rfl (A1 rfl rfl (hat3 _) hl3) rfl ?_
 refine aP 4 rfl (B1 rfl) rfl ?_
 refine aL 5 rfl (C0 rfl rfl) rfl ?_
 refine aP 6 rfl (B1 rfl) rfl ?_
 refine aL 7 rfl (C0 rfl rfl) rfl ?_
 refine aP 8 rfl (B3 (j := 1) rfl rfl rfl (by simp)) rfl ?_
 refine aL 9 rfl (A1 rfl rfl (hat1 _) hl1) rfl ?_
 refine A3 10 ?_
 (refine K0 rfl rfl hS rfl rfl rfl (fun u G1 hle1 hh => ?_); obtain ⟨uc, rfl, hru⟩ := hh; have hwl := hru.len; have hwo := hru.one)
 refine A3 11 ?_
 (refine oS rfl rfl rfl rfl hwl hwo rfl rfl ?_ (hu := by exact C3 hwl.symm))
 refine aP 12 rfl (qA rfl) rfl ?_
 refine aP 13 rfl (qA rfl) rfl ?_
 refine C5 (nS (tT (rB (rS ?_))))
 refine C4 (rC rfl (A1 rfl rfl (A9 (by repeat first | exact mH | apply mT)) hwl)) (rT rfl) (rT rfl) ?_
 (exact K5.mk (by rw [if_pos (by omega), A2E (by omega)]) hru)
theorem B67 (k : Int) (a : Tm) (nm : ByteArray) (num : Int) (ty fr : Ty) (lb : Int) (G : IM) (cells : List Value) (hk1 : k = 11 ∨ k = 12) (hc : cv (.mk k nm num ty fr lb [a])) (hr : A8 G (.mk k nm num ty fr lb [a]) cells) : Fn Tryz.prog 248 [.agg ⟨cells⟩] [] G (K5 (U5 k [a])) := by
 obtain ⟨hN, hkk⟩ := hc.node
 have hca := hkk a (by simp)
 rw [B6W hk1]
 obtain ⟨i, hi⟩ : ∃ i : Nat, (k - 11).toNat = i := ⟨_, rfl⟩
 rw [hi]
 obtain ⟨tk, tks⟩ := ty
 obtain ⟨fk, fks⟩ := fr
 obtain ⟨pt, ct, pf, cf, p, c, es, rfl, hk, hnum, hlb, hty, hfr, hsl, hkl⟩ := hr.open9
 obtain ⟨bx, ox, e0, rfl, hl0, hat0, hre0, hgb0⟩ := hsl.kidTm hkl (i := 0) (by simp) (by simp)
 replace hre0 : A8 G a e0 := hre0
 obtain ⟨ak, anm, anum, ⟨atk, atks⟩, ⟨afk, afks⟩, alb, aks⟩ := a
 have hops := hca.node.1.ops
 have h10 : ak = 10 → aks.length = 2 := fun h => by rw [h] at hops; have : C7 10 = 2 := rfl; omega
 obtain ⟨apt, act, apf, acf, ap, ac, aes, rfl, hak, hanum, halb, haty, hafr, hasl, hakl⟩ := hre0.open9
 rw [show (Tm.mk ak anm anum (.mk atk atks) (.mk afk afks) alb aks).k = ak from rfl, show (Tm.mk ak anm anum (.mk atk atks) (.mk afk afks) alb aks).ks = aks from rfl]
 refine B2 Tryz.func248 rfl Tryz.ntmps248 Tryz.results248 rfl ?_
 intro w0
 refine tS (tR ?_)
 refine sE (B9 rfl rfl) rfl (fun b3 => ?_)
 refine sE (A5 rfl) rfl (fun b4 => ?_)
 refine I6 ?_
 refine B4 ?_
 refine tS (tR ?_)
 refine sP (H4 rfl rfl (by omega)) rfl rfl ?_
 refine sQ (qA rfl) rfl (sD (nS (cF rfl (tS (tS (tR ?_))))))
 refine sP (H4 rfl rfl (by omega)) rfl rfl ?_
 refine sQ (qA rfl) rfl (sD (nS (cF rfl (tR ?_))))
 refine sP (H4 rfl rfl (by omega)) rfl rfl ?_
 refine sQ (qA rfl) rfl (sD (nS (cF rfl (tS (tR ?_)))))
 refine sP (H4 rfl rfl (by omega)) rfl rfl ?_
 refine N6 ?_
 refine sP (B3 (j := 0) rfl rfl rfl (by simp)) rfl rfl ?_
 refine sQ (qF rfl) rfl ?_
 refine sL (A0p rfl rfl ((hat0 _).sub (j := 0) rfl)) rfl rfl ?_
 refine sB (M7 rfl rfl) rfl rfl (fun h56 => ?_) (fun h56 => ?_)
 refine J9 ?_
 refine C4 (rC rfl (A2 rfl rfl)) (rT rfl) (rT rfl) ?_
 (exact K5.mk (by rw [if_neg (by omega)]) (L7 _))
 refine sD (nS (cF rfl (tK (nS (tS ?_)))))
 (have hq := h10 (by omega); have hki : k - 11 = ((i : Nat) : Int) := (by omega); obtain ⟨bq, oq, e3, rfl, hl3, hat3, hre3, hgb3⟩ := hasl.kidTm hakl (i := i) (by omega) (by omega); have ho3 := hre3.one; refine E1 E2 rfl ?_)
 refine J5 (i := 0) (l' := [tt,ff,ff,ff,ff,ff,ff,ff,ff,ff,ff,ff,ff]) rfl D5 (B1 rfl) rfl (by kernel_rfl) rfl rfl ?_
 refine aL 1 rfl (C0 rfl rfl) rfl ?_
 refine aP 2 rfl (B3 (j := 0) rfl rfl rfl (by simp)) rfl ?_
 refine aP 3 rfl (qF rfl) rfl ?_
 refine aL 4 rfl (A0p rfl rfl ((hat0 _).sub (j := 8) rfl)) rfl ?_
 refine aP 5 rfl (B1 rfl) rfl ?_
 refine aL 6 rfl (C0 rfl rfl) rfl ?_
 refine aP 7 rfl (P5 rfl rfl (by omega) (by omega)) rfl ?_
 refine aP 8 rfl (B6Z (j := i) rfl rfl rfl hki (by omega)) rfl ?_
 refine aL 9 rfl (A1 rfl rfl (hat3 _) hl3) rfl ?_
 refine A3 10 ?_
 (refine oS rfl rfl rfl rfl hl3 ho3 rfl rfl ?_ (hu := by exact C3 hl3.symm))
 refine aP 11 rfl (qA rfl) rfl ?_
 refine aP 12 rfl (qA rfl) rfl ?_
 refine C5 (nS (tT ?_))
 refine C4 (rC rfl (A1 rfl rfl (A9 (by repeat first | exact mH | apply mT)) hl3)) (rT rfl) (rT rfl) ?_
 (exact K5.mk (by rw [if_pos (by omega), A2E (by omega)]) hre3)
theorem B68 (k : Int) (nm : ByteArray) (num : Int) (ty fr : Ty) (lb : Int) (ks : List Tm) (G : IM) (cells : List Value) (h7 : k = 1 ∨ k = 6 ∨ k = 7 ∨ k = 8 ∨ k = 11 ∨ k = 12) (hc : cv (.mk k nm num ty fr lb ks)) (hr : A8 G (.mk k nm num ty fr lb ks) cells) : Fn Tryz.prog 248 [.agg ⟨cells⟩] [] G (K5 (U5 k ks)) := by
 have hops := hc.node.1.ops
 by_cases h1 : k = 1
 ·subst h1; exact B64 nm num ty fr lb ks G cells hr
 by_cases h6 : k = 6
 ·subst h6
  obtain ⟨a, b, rfl⟩ := B08 hops (.inl rfl)
  exact B66 a b nm num ty fr lb G cells hc hr
 by_cases h78 : k = 7 ∨ k = 8
 ·obtain ⟨a, b, rfl⟩ := B08 hops (.inr h78)
  exact B65 k a b nm num ty fr lb G cells h78 hc hr
 obtain ⟨a, rfl⟩ := B63 hops (by omega)
 exact B67 k a nm num ty fr lb G cells (by omega) hc hr
theorem B69 {k : Int} {nm : ByteArray} {num : Int} {ty fr : Ty} {lb : Int} {ks : List Tm} {i : Nat} (hi : i < ks.length) (hn : i < (if k = 9 then 1 else ks.length)) (hj : ∀ j, j < i → (h : j < ks.length) → C8 ks[j] = true) (hv : C8 ks[i] = false) :
  H1 (.mk k nm num ty fr lb ks) = if (H1 ks[i]).2.1 = 1 then (.mk k nm num ty fr lb (ks.set i (H1 ks[i]).1), 1, 0) else (F4, (H1 ks[i]).2.1, (H1 ks[i]).2.2) := by
 rw [H1, A6Z _ ks i hi hn hj hv]
theorem B7a : ∀ (t : Tm) (G : IM) (cells : List Value), cv t → C8 t = false → M6 t = true → A8 G t cells → Fn Tryz.prog 229 [.agg ⟨cells⟩] [] G (K5 (H1 t)) := by
 refine Tm.ind fun k nm num ty fr lb ks ih G cells hc hv hb hr => ?_
 have hr0 := hr
 have hRl := hr.len
 have hN := hc.node.1
 have hkk := hc.node.2
 have hkb := (X0.1 hb).2
 have hk14 := (X0.1 hb).1.1
 have hops := hN.ops
 have hle3 := A1L k
 have hkd := @A6J k nm num ty fr lb ks hc hv
 have hkX := fun (i : Nat) => @B69 k nm num ty fr lb ks i
 have hrX := @B0i k nm num ty fr lb ks
 have hRd := fun h7 => B68 k nm num ty fr lb ks G cells h7 hc hr
 obtain ⟨C, hC⟩ : ∃ C : Nat, (if k = 9 then 1 else ks.length : Nat) = C := ⟨_, rfl⟩
 rw [hC] at hkd hrX
 have hkX' := fun (i : Nat) (hi : i < ks.length) (hn : i < C) => hkX i hi (by rw [hC]; exact hn)
 have h93 : k = 9 → ks.length = 3 := fun h => by rw [h] at hops; have : C7 9 = 3 := rfl; omega
 have hC1 : k = 9 → C = 1 := fun h => by rw [← hC, if_pos h]
 have hC2 : k ≠ 9 → C = ks.length := fun h => by rw [← hC, if_neg h]
 have hC9 : C ≤ ks.length := by by_cases h9 : k = 9; have := h93 h9; have := hC1 h9; omega; have := hC2 h9; omega
 generalize H1 (.mk k nm num ty fr lb ks) = R at hkX hkX' hrX ⊢
 obtain ⟨tk, tks⟩ := ty
 obtain ⟨fk, fks⟩ := fr
 obtain ⟨pt, ct, pf, cf, p, c, es, rfl, hk, hnum, hlb, hty, hfr, hsl, hkl⟩ := hr.open9
 have hn := hsl.le
 have hnc := hsl.sl.2.1
 have hes1 : ∀ u ∈ es.flatten, u.oneCell' = true := by
  intro u hu
  obtain ⟨e, he, hue⟩ := List.mem_flatten.1 hu
  exact List.all_eq_true.1 (hsl.one e he) u hue
 refine B2 Tryz.func229 rfl Tryz.ntmps229 Tryz.results229 rfl ?_
 intro w0
 refine tS (tR ?_)
 refine sE (B9 rfl rfl) rfl (fun b3 => ?_)
 refine sE (A5 rfl) rfl (fun b4 => ?_)
 refine T0 ?_
 refine sB (qE rfl rfl) rfl rfl (fun h22 => ?_) (fun h22 => ?_)
 refine sD (nS ?_)
 (show I8 _ _ (.cond (.tmp 16) _ _) _ _; refine A0k (fun (_ : Unit) => ⟨[(5, .int .i64 (C : Int)), (1, .pointer (some ⟨b3, 0, none⟩)), (2, .pointer (some ⟨b4, 0, none⟩))], [.blk b4 [.int .i64 0, .string ⟨⟨[]⟩⟩, .int .i64 0, .int .i64 0, .slice none 0 0, .int .i64 0, .slice none 0 0, .int .i64 0, .slice none 0 0], .blk b3 [.int .i64 k, .string nm, .int .i64 num, .int .i64 tk, .slice pt tks.length ct, .int .i64 fk, .slice pf fks.length cf, .int .i64 lb, .slice p ks.length c]], G⟩) (fun _ => True) (qT rfl ?_) ?_)
 refine tR (sQ (qA rfl) rfl (sD ?_))
 (have hCC := hC1 (by omega); subst hCC; refine Q2 () (O1 (by repeat (first | exact E3.nil | refine E3.cons rfl ?_)) (by repeat (first | exact A0.refl | exact A0.nil | refine A0.cons (by repeat (first | exact Pk.here | apply Pk.there)) ?_ | apply A0.drop))) trivial)
 (rintro (_ : Unit) _)
 refine tS (tS (tR (sQ (qA rfl) rfl (sD (nS ?_)))))
 refine B4 ?_
 (refine K9 (fun (i : Nat) => ⟨[(6, .int .i64 (i : Int)), (5, .int .i64 (C : Int)), (1, .pointer (some ⟨b3, 0, none⟩)), (2, .pointer (some ⟨b4, 0, none⟩))], [.blk b4 [.int .i64 0, .string ⟨⟨[]⟩⟩, .int .i64 0, .int .i64 0, .slice none 0 0, .int .i64 0, .slice none 0 0, .int .i64 0, .slice none 0 0], .blk b3 [.int .i64 k, .string nm, .int .i64 num, .int .i64 tk, .slice pt tks.length ct, .int .i64 fk, .slice pf fks.length cf, .int .i64 lb, .slice p ks.length c]], G⟩) (fun i => i ≤ C ∧ ∀ j, j < i → (h : j < ks.length) → C8 ks[j] = true) (fun i => C - i) 0 ?_ ?_ ?_)
 exact D1
 (exact ⟨Nat.zero_le _, fun j hj => absurd hj (Nat.not_lt_zero j)⟩)
 (rintro i ⟨hi, hj⟩)
 refine tS (tS (tR (sQ (qM rfl) rfl (sQ (qM rfl) rfl ?_))))
 refine sB (K6 rfl rfl) rfl rfl (fun h47 => ?_) (fun h47 => ?_)
 refine sD (nS (qT rfl (tK (nS (tS ?_)))))
 refine B4 ?_
 refine J8 ?_
 (have hiC : i < C := (by omega); obtain ⟨bx, ox, e, rfl, hl, hat, hre, hgb⟩ := hsl.kidTm hkl (i := i) (by omega) (by omega); have heo := hre.one; have hVi := A7h ks[i] G e (hkk _ (List.getElem_mem (by omega))) hre; refine sP (B3 (j := i) rfl rfl rfl (by omega)) rfl rfl ?_)
 refine sL (A1 rfl rfl (hat _) hl) rfl rfl ?_
 refine D8 rfl (hVi) rfl rfl (fun h63 => ?_) (fun h63 => ?_)
 refine D4 ?_
 refine sP (K2 rfl rfl (by omega) (by omega)) rfl rfl ?_
 refine sQ (qA rfl) rfl (sD ?_)
 refine K7 (i + 1) ?_ ?_ ?_
 exact D1
 (exact ⟨by omega, fun j hji hl2 => (by by_cases he : j = i; (subst he; assumption); exact hj j (by omega) hl2)⟩)
 (show C - (i + 1) < C - i; omega)
 refine I9 ?_
 refine sP (B3 (j := i) rfl rfl rfl (by omega)) rfl rfl ?_
 refine sL (A1 rfl rfl (hat _) hl) rfl rfl ?_
 (have hvF : C8 ks[i] = false := (by assumption); have hst := hkX' i (by omega) hiC (fun j hji hl2 => hj j hji hl2) hvF; refine E0 rfl (ih ks[i] (List.getElem_mem (by omega)) G e (hkk _ (List.getElem_mem (by omega))) hvF (hkb _ (List.getElem_mem (by omega))) hre) rfl rfl (fun v G1 hle1 hh => ?_); obtain ⟨uc, hvv, hru⟩ := hh; have hul := hru.len; have huo := hru.one; generalize H1 ks[i] = r at hvv hru hst; obtain ⟨u, cc, ll⟩ := r; simp only at hvv hru hst; subst hvv)
 refine F0 ?_
 refine sE (A5 rfl) rfl (fun b97 => ?_)
 refine sS rfl rfl rfl hul huo rfl ?_ (hu := by exact C3 hul.symm)
 refine D3 ?_
 refine sB (M7 rfl rfl) rfl rfl (fun h107 => ?_) (fun h107 => ?_)
 refine A0u ?_
 refine C4 (rC rfl (A2 rfl rfl)) (rT rfl) (rT rfl) ?_
 (rw [hst, if_neg (by omega)]; exact K5.mk rfl (L7 _))
 refine D3 ?_
 refine sE (A5 rfl) rfl (fun b138 => ?_)
 refine F9 ?_
 refine sD (nS (tS (tR ?_)))
 (refine L9 (C9 rfl rfl rfl (by omega) (by unfold maxLen; omega) rfl) rfl ?_; rintro _ ⟨b144, rfl⟩)
 refine sQ (B1 rfl) rfl (sL (C0 rfl rfl) rfl rfl ?_)
 (refine A3M rfl rfl rfl rfl rfl (fun _ _ => by repeat (first | exact Sw.here | apply Sw.there)) (hsl.mono hle1).sl hes1 (Nat.zero_le _) (by unfold maxLen; omega) (by omega) rfl (fun p4 c4 => ?_); simp only [Nat.zero_add, List.nil_append]; refine A3R (cs := es.flatten) (by repeat (first | exact Pk.here | apply Pk.there)) (by omega) (fun bc Cc hpe hnc1 hcm => ?_); subst hpe)
 refine D4 ?_
 refine sL (A1 rfl rfl (A9 (by repeat first | exact mH | apply mT)) hul) rfl rfl ?_
 refine sP (B3 (j := i) rfl rfl rfl (by omega)) rfl rfl ?_
 refine X7 rfl rfl rfl hul huo rfl (by repeat first | exact Sw.here | apply Sw.there) (by exact A3S (by rw [hkl.len]; omega) (fun e he => (hsl.all e he)) hul) ?_
 refine I9 ?_
 (refine A2P (bs := [(bc, (es.set i uc).flatten ++ Cc)]) (Pk.perm (by repeat (first | exact Pk.here | apply Pk.there))) (fun hn2 hd2 hle2 => ?_))
 refine tT (rB (rS (A2G (rB (rS ?_)))))
 refine C4 (rC rfl (A2 rfl rfl)) (rT rfl) (rT rfl) ?_
 (have hks2 := D7.set (j := i) ((hkl.mono hle1).mono hle2) (hru.mono hle2); rw [hst, if_pos (by omega)]; exact K5.mk rfl (A8.put (us := ks.set i u) (es := es.set i uc) hk hnum hlb ((hty.mono hle1).mono hle2) ((hfr.mono hle1).mono hle2) (by rw [List.length_set]) (D0.of (Sl.of_blk (A := []) (by rw [A1d hks2.all, hks2.len, List.length_set]) (by omega) hcm (Wi.in hn2 List.mem_cons_self)) (by rw [hks2.len, List.length_set]) hks2.all (fun e he => by obtain ⟨q, hq⟩ := List.getElem?_of_mem he; exact (hks2.inv hq F4).2.one)) hks2))
 refine J9 ?_
 refine sP (A0Y rfl rfl (by omega)) rfl rfl ?_
 refine I9 ?_
 (have hall : ∀ i, i < C → (hl : i < ks.length) → C8 ks[i] = true := (fun j hjc hl2 => hj j (by omega) hl2); have hrd' := hrX hall; have h9 : k = 9 := (by omega); subst h9; obtain ⟨xa, xb, xc, hxs⟩ := ks3 (h93 rfl); subst hxs; rw [B6U] at hrd'; obtain ⟨bx, ox, e0, rfl, hl0, hat0, hre0, hgb0⟩ := hsl.kidTm hkl (i := 0) (by simp) (by simp); obtain ⟨_, _, e1, hp1, hl1, hat1, hre1, hgb1⟩ := hsl.kidTm hkl (i := 1) (by simp) (by simp); cases hp1; obtain ⟨_, _, e2, hp2, hl2, hat2, hre2, hgb2⟩ := hsl.kidTm hkl (i := 2) (by simp) (by simp); cases hp2; replace hre0 : A8 G xa e0 := hre0; replace hre1 : A8 G xb e1 := hre1; replace hre2 : A8 G xc e2 := hre2; have ho1 := hre1.one; have ho2 := hre2.one; obtain ⟨ak, anm, anum, ⟨atk, atks⟩, ⟨afk, afks⟩, alb, aks⟩ := xa; obtain ⟨apt, act, apf, acf, ap, ac, aes, rfl, hak, hanum, halb, haty, hafr, hasl, hakl⟩ := hre0.open9; replace hrd' : R = (if ak = 3 then (xb, 1, 0) else if ak = 4 then (xc, 1, 0) else (F4, 2, 3)) := hrd'; refine sP (B3 (j := 0) rfl rfl rfl (by simp)) rfl rfl ?_)
 refine sQ (qF rfl) rfl ?_
 refine sL (A0p rfl rfl ((hat0 _).sub (j := 0) rfl)) rfl rfl ?_
 refine sD (nS ?_)
 refine B4 (tS (tR (sB (qE rfl rfl) rfl rfl (fun h211 => ?_) (fun h211 => ?_))))
 refine D3 ?_
 refine sP (B3 (j := 1) rfl rfl rfl (by simp)) rfl rfl ?_
 refine sL (A1 rfl rfl (hat1 _) hl1) rfl rfl ?_
 refine sS rfl rfl rfl hl1 ho1 rfl ?_ (hu := by exact C3 hl1.symm)
 refine C2 ?_
 refine C4 (rC rfl (A1 rfl rfl (A9 (by repeat first | exact mH | apply mT)) hl1)) (rT rfl) (rT rfl) ?_
 (rw [hrd', if_pos (by omega)]; exact K5.mk rfl hre1)
 refine sQ (qA rfl) rfl (sD (nS (cF rfl (tS (tR ?_)))))
 refine sB (qE rfl rfl) rfl rfl (fun h238 => ?_) (fun h238 => ?_)
 refine D3 ?_
 refine sP (B3 (j := 2) rfl rfl rfl (by simp)) rfl rfl ?_
 refine sL (A1 rfl rfl (hat2 _) hl2) rfl rfl ?_
 refine sS rfl rfl rfl hl2 ho2 rfl ?_ (hu := by exact C3 hl2.symm)
 refine C2 ?_
 refine C4 (rC rfl (A1 rfl rfl (A9 (by repeat first | exact mH | apply mT)) hl2)) (rT rfl) (rT rfl) ?_
 (rw [hrd', if_neg (by omega), if_pos (by omega)]; exact K5.mk rfl hre2)
 refine K4 ?_
 refine C4 (rC rfl (A2 rfl rfl)) (rT rfl) (rT rfl) ?_
 (rw [hrd', if_neg (by omega), if_neg (by omega)]; exact K5.mk rfl (L7 _))
 refine sD (nS ?_)
 (show I8 _ _ (.cond (.tmp 16) _ _) _ _; refine A0k (fun (_ : Unit) => ⟨[(5, .int .i64 (C : Int)), (1, .pointer (some ⟨b3, 0, none⟩)), (2, .pointer (some ⟨b4, 0, none⟩))], [.blk b4 [.int .i64 0, .string ⟨⟨[]⟩⟩, .int .i64 0, .int .i64 0, .slice none 0 0, .int .i64 0, .slice none 0 0, .int .i64 0, .slice none 0 0], .blk b3 [.int .i64 k, .string nm, .int .i64 num, .int .i64 tk, .slice pt tks.length ct, .int .i64 fk, .slice pf fks.length cf, .int .i64 lb, .slice p ks.length c]], G⟩) (fun _ => True) (cF rfl ?_) ?_)
 refine tK ?_
 (have hCC := hC2 (by omega); subst hCC; refine Q2 () (O1 (by repeat (first | exact E3.nil | refine E3.cons rfl ?_)) (by repeat (first | exact A0.refl | exact A0.nil | refine A0.cons (by repeat (first | exact Pk.here | apply Pk.there)) ?_ | apply A0.drop))) trivial)
 (rintro (_ : Unit) _)
 refine tS (tS (tR (sQ (qA rfl) rfl (sD (nS ?_)))))
 refine B4 ?_
 (refine K9 (fun (i : Nat) => ⟨[(6, .int .i64 (i : Int)), (5, .int .i64 (C : Int)), (1, .pointer (some ⟨b3, 0, none⟩)), (2, .pointer (some ⟨b4, 0, none⟩))], [.blk b4 [.int .i64 0, .string ⟨⟨[]⟩⟩, .int .i64 0, .int .i64 0, .slice none 0 0, .int .i64 0, .slice none 0 0, .int .i64 0, .slice none 0 0], .blk b3 [.int .i64 k, .string nm, .int .i64 num, .int .i64 tk, .slice pt tks.length ct, .int .i64 fk, .slice pf fks.length cf, .int .i64 lb, .slice p ks.length c]], G⟩) (fun i => i ≤ C ∧ ∀ j, j < i → (h : j < ks.length) → C8 ks[j] = true) (fun i => C - i) 0 ?_ ?_ ?_)
 exact D1
 (exact ⟨Nat.zero_le _, fun j hj => absurd hj (Nat.not_lt_zero j)⟩)
 (rintro i ⟨hi, hj⟩)
 refine tS (tS (tR (sQ (qM rfl) rfl (sQ (qM rfl) rfl ?_))))
 refine sB (K6 rfl rfl) rfl rfl (fun h299 => ?_) (fun h299 => ?_)
 refine sD (nS (qT rfl (tK (nS (tS ?_)))))
 refine B4 ?_
 refine J8 ?_
 (have hiC : i < C := (by omega); obtain ⟨bx, ox, e, rfl, hl, hat, hre, hgb⟩ := hsl.kidTm hkl (i := i) (by omega) (by omega); have heo := hre.one; have hVi := A7h ks[i] G e (hkk _ (List.getElem_mem (by omega))) hre; refine sP (B3 (j := i) rfl rfl rfl (by omega)) rfl rfl ?_)
 refine sL (A1 rfl rfl (hat _) hl) rfl rfl ?_
 refine D8 rfl (hVi) rfl rfl (fun h315 => ?_) (fun h315 => ?_)
 refine D4 ?_
 refine sP (K2 rfl rfl (by omega) (by omega)) rfl rfl ?_
 refine sQ (qA rfl) rfl (sD ?_)
 refine K7 (i + 1) ?_ ?_ ?_
 exact D1
 (exact ⟨by omega, fun j hji hl2 => (by by_cases he : j = i; (subst he; assumption); exact hj j (by omega) hl2)⟩)
 (show C - (i + 1) < C - i; omega)
 refine I9 ?_
 refine sP (B3 (j := i) rfl rfl rfl (by omega)) rfl rfl ?_
 refine sL (A1 rfl rfl (hat _) hl) rfl rfl ?_
 (have hvF : C8 ks[i] = false := (by assumption); have hst := hkX' i (by omega) hiC (fun j hji hl2 => hj j hji hl2) hvF; refine E0 rfl (ih ks[i] (List.getElem_mem (by omega)) G e (hkk _ (List.getElem_mem (by omega))) hvF (hkb _ (List.getElem_mem (by omega))) hre) rfl rfl (fun v G1 hle1 hh => ?_); obtain ⟨uc, hvv, hru⟩ := hh; have hul := hru.len; have huo := hru.one; generalize H1 ks[i] = r at hvv hru hst; obtain ⟨u, cc, ll⟩ := r; simp only at hvv hru hst; subst hvv)
 refine F0 ?_
 refine sE (A5 rfl) rfl (fun b349 => ?_)
 refine sS rfl rfl rfl hul huo rfl ?_ (hu := by exact C3 hul.symm)
 refine D3 ?_
 refine sB (M7 rfl rfl) rfl rfl (fun h359 => ?_) (fun h359 => ?_)
 refine A0u ?_
 refine C4 (rC rfl (A2 rfl rfl)) (rT rfl) (rT rfl) ?_
 (rw [hst, if_neg (by omega)]; exact K5.mk rfl (L7 _))
 refine D3 ?_
 refine sE (A5 rfl) rfl (fun b390 => ?_)
 refine F9 ?_
 refine sD (nS (tS (tR ?_)))
 (refine L9 (C9 rfl rfl rfl (by omega) (by unfold maxLen; omega) rfl) rfl ?_; rintro _ ⟨b396, rfl⟩)
 refine sQ (B1 rfl) rfl (sL (C0 rfl rfl) rfl rfl ?_)
 (refine A3M rfl rfl rfl rfl rfl (fun _ _ => by repeat (first | exact Sw.here | apply Sw.there)) (hsl.mono hle1).sl hes1 (Nat.zero_le _) (by unfold maxLen; omega) (by omega) rfl (fun p4 c4 => ?_); simp only [Nat.zero_add, List.nil_append]; refine A3R (cs := es.flatten) (by repeat (first | exact Pk.here | apply Pk.there)) (by omega) (fun bc Cc hpe hnc1 hcm => ?_); subst hpe)
 refine D4 ?_
 refine sL (A1 rfl rfl (A9 (by repeat first | exact mH | apply mT)) hul) rfl rfl ?_
 refine sP (B3 (j := i) rfl rfl rfl (by omega)) rfl rfl ?_
 refine X7 rfl rfl rfl hul huo rfl (by repeat first | exact Sw.here | apply Sw.there) (by exact A3S (by rw [hkl.len]; omega) (fun e he => (hsl.all e he)) hul) ?_
 refine I9 ?_
 (refine A2P (bs := [(bc, (es.set i uc).flatten ++ Cc)]) (Pk.perm (by repeat (first | exact Pk.here | apply Pk.there))) (fun hn2 hd2 hle2 => ?_))
 refine tT (rB (rS (A2G (rB (rS ?_)))))
 refine C4 (rC rfl (A2 rfl rfl)) (rT rfl) (rT rfl) ?_
 (have hks2 := D7.set (j := i) ((hkl.mono hle1).mono hle2) (hru.mono hle2); rw [hst, if_pos (by omega)]; exact K5.mk rfl (A8.put (us := ks.set i u) (es := es.set i uc) hk hnum hlb ((hty.mono hle1).mono hle2) ((hfr.mono hle1).mono hle2) (by rw [List.length_set]) (D0.of (Sl.of_blk (A := []) (by rw [A1d hks2.all, hks2.len, List.length_set]) (by omega) hcm (Wi.in hn2 List.mem_cons_self)) (by rw [hks2.len, List.length_set]) hks2.all (fun e he => by obtain ⟨q, hq⟩ := List.getElem?_of_mem he; exact (hks2.inv hq F4).2.one)) hks2))
 refine J9 ?_
 refine sP (A0f rfl rfl (by omega)) rfl rfl ?_
 refine sD (nS (qT rfl (tS (tR (sL (A2 rfl rfl) rfl rfl ?_)))))
 (have hall : ∀ i, i < C → (hl : i < ks.length) → C8 ks[i] = true := (fun j hjc hl2 => hj j (by omega) hl2); have hk8 := hkd hall; have hrd' := hrX hall; refine E0 rfl (hRd (by omega)) rfl rfl (fun v G1 hle1 hh => ?_); obtain ⟨uc, rfl, hru⟩ := hh; have hul := hru.len; have huo := hru.one)
 refine K3 ?_
 refine sS rfl rfl rfl hul huo rfl ?_ (hu := by exact C3 hul.symm)
 refine sQ (qA rfl) rfl (sQ (qA rfl) rfl (sD (nS (tT (rS ?_)))))
 refine C4 (rC rfl (A1 rfl rfl (A9 (by repeat first | exact mH | apply mT)) hul)) (rT rfl) (rT rfl) ?_
 (rw [hrd']; exact ⟨rfl, _, rfl, hru⟩)
theorem B7b (t : Tm) (G : IM) (cells : List Value) (hcnt : C6 t ≤ 4294967296) (hr : A8 G t cells) : Fn Tryz.prog 190 [.agg ⟨cells⟩] [] G (K5 (H2 t)) := by
 have hRl := hr.len
 have hRo := hr.one
 have hV := B61 t G cells hcnt hr
 have e1 := @A60 t
 have e2 := @A3d t
 have e3 := @A61 t
 have e4 := @A3e t
 have e5 := @A3f t
 have hsc := @B6S t
 refine B2 Tryz.func190 rfl Tryz.ntmps190 Tryz.results190 rfl ?_
 intro w0
 refine tS (tR ?_)
 refine sE (B9 rfl rfl) rfl (fun b3 => ?_)
 refine sE (A5 rfl) rfl (fun b4 => ?_)
 refine C2 ?_
 refine sL (A1 rfl rfl (A9 (by repeat first | exact mH | apply mT)) hRl) rfl rfl ?_
 refine D8 rfl (hV) rfl rfl (fun h13 => ?_) (fun h13 => ?_)
 refine D4 ?_
 refine sL (A1 rfl rfl (A9 (by repeat first | exact mH | apply mT)) hRl) rfl rfl ?_
 refine D8 rfl ((A7h t G cells (A0Q (A0S (by assumption)).1).1 hr)) rfl rfl (fun h24 => ?_) (fun h24 => ?_)
 refine sD (nS (qT rfl (tS (tR ?_))))
 refine sL (A1 rfl rfl (A9 (by repeat first | exact mH | apply mT)) hRl) rfl rfl ?_
 (refine E0 rfl (A3K t G cells (A28 (A0S (by assumption)).1) hr) rfl rfl (fun v G1 hle1 hh => ?_); obtain ⟨cs1, F1, rfl, hs1, hn1⟩ := hh; have hul := hs1.R.len; have huo := hs1.R.one)
 refine sS rfl rfl rfl hul huo rfl ?_ (hu := by exact C3 hul.symm)
 refine sQ (qA rfl) rfl (sQ (qA rfl) rfl (sD (nS (tT (rS ?_)))))
 refine C4 (rC rfl (A1 rfl rfl (A9 (by repeat first | exact mH | apply mT)) hul)) (rT rfl) (rT rfl) ?_
 (exact K5.mk (e2 (by assumption) (by assumption)) (hs1.R.mono (C1.le _ _)))
 refine sD (nS (cF rfl (tK (nS (tS (tR ?_))))))
 refine sL (A1 rfl rfl (A9 (by repeat first | exact mH | apply mT)) hRl) rfl rfl ?_
 (have hcv : M9 t = true := (by assumption); have hnv : C8 t = false := (by assumption); obtain ⟨hsc1, hsc2⟩ := hsc hcv; have e6 := @B5r t hcv; replace e3 := e3 hcv hnv; replace e4 := e4 hcv hnv; replace e5 := e5 hcv hnv; refine E0 rfl (B7a t G cells (A0Q (A0S hcv).1).1 hnv (A0S hcv).2 hr) rfl rfl (fun v G1 hle1 hh => ?_); obtain ⟨uc, hvv, hru⟩ := hh; have hul := hru.len; have huo := hru.one; generalize H1 t = r at hvv hru hsc1 hsc2 e3 e4 e5 e6; obtain ⟨u, cc, ll⟩ := r; simp only at hvv hru hsc1 hsc2 e3 e4 e5 e6; subst hvv; have hVu := A6h u G1 uc (by omega) hru)
 refine F0 ?_
 refine sE (A5 rfl) rfl (fun b54 => ?_)
 refine sS rfl rfl rfl hul huo rfl ?_ (hu := by exact C3 hul.symm)
 refine D3 ?_
 refine sB (M7 rfl rfl) rfl rfl (fun h64 => ?_) (fun h64 => ?_)
 refine H9 ?_
 refine C4 (rC rfl (A2 rfl rfl)) (rT rfl) (rT rfl) ?_
 (exact K5.mk (e3 (by omega)) (L7 _))
 refine sD (nS (cF rfl (tK (nS (tS (tS (tR ?_)))))))
 refine sL (A1 rfl rfl (A9 (by repeat first | exact mH | apply mT)) hul) rfl rfl ?_
 (rw [← e6 (by omega)] at hVu; refine D8 rfl hVu rfl rfl (fun h91 => ?_) (fun h91 => ?_))
 refine sQ (Z3 rfl) rfl (sD (nS (cF rfl (tK (nS (tS (tR ?_)))))))
 refine sL (A1 rfl rfl (A9 (by repeat first | exact mH | apply mT)) hul) rfl rfl ?_
 (refine E0 rfl (A3K u G1 uc hsc1 hru) rfl rfl (fun v G2 hle2 hh => ?_); obtain ⟨cs2, F2, rfl, hs2, hn2⟩ := hh; have hwl := hs2.R.len; have hwo := hs2.R.one)
 refine sS rfl rfl rfl hwl hwo rfl ?_ (hu := by exact C3 hwl.symm)
 refine sQ (qA rfl) rfl (sQ (qA rfl) rfl (sD (nS (tT ?_))))
 refine C4 (rC rfl (A1 rfl rfl (A9 (by repeat first | exact mH | apply mT)) hwl)) (rT rfl) (rT rfl) ?_
 (exact K5.mk (e5 (by omega) (by assumption)) (hs2.R.mono (C1.le _ _)))
 refine J2 ?_
 refine C4 (rC rfl (A2 rfl rfl)) (rT rfl) (rT rfl) ?_
 (exact K5.mk (e4 (by omega) (by assumption)) (L7 _))
 refine J2 ?_
 refine C4 (rC rfl (A2 rfl rfl)) (rT rfl) (rT rfl) ?_
 (exact K5.mk (e1 (by assumption)) (L7 _))
theorem B7c (e : Tm) (n : Nat) (hn : n ≤ 300) (G : IM) (cells : List Value) (hcnt : C6 e ≤ 4294967296) (hr : A8 G e cells) : Fn Tryz.prog 137 [.agg ⟨cells⟩, .int .i64 (n : Int)] [] G (EvP (I4 n e)) := by
 have hRl := hr.len
 have hRo := hr.one
 refine B2 Tryz.func137 rfl Tryz.ntmps137 Tryz.results137 rfl ?_
 intro w0
 refine tS (tR ?_)
 refine sE (B9 rfl rfl) rfl (fun b3 => ?_)
 refine sE (A5 rfl) rfl (fun b4 => ?_)
 refine I9 ?_
 refine B4 ?_
 (refine K9 (fun (x : Nat × Tm × List Value × IM) => ⟨[(8, .int .i64 (x.1 : Int)), (1, .int .i64 (n : Int)), (2, .pointer (some ⟨b3, 0, none⟩)), (4, .pointer (some ⟨b4, 0, none⟩))], [.blk b3 x.2.2.1, .blk b4 [.int .i64 0, .string ⟨⟨[]⟩⟩, .int .i64 0, .int .i64 0, .slice none 0 0, .int .i64 0, .slice none 0 0, .int .i64 0, .slice none 0 0]], x.2.2.2⟩) (fun x => x.1 ≤ n ∧ B6 G x.2.2.2 ∧ A8 x.2.2.2 x.2.1 x.2.2.1 ∧ C6 x.2.1 ≤ 4294967296 ∧ W4 x.1 (I4 (n - x.1) x.2.1) = I4 n e) (fun x => n - x.1) (0, e, cells, G) ?_ ?_ ?_)
 (simp only [J6]; exact D1)
 (exact ⟨Nat.zero_le _, B6.refl _, hr, hcnt, rfl⟩)
 (rintro ⟨i, u, uc, Gi⟩ ⟨hi, hle, hru, hcu, hev⟩; simp only [] at hi hle hru hcu hev ⊢; have hul := hru.len; have huo := hru.one)
 refine tS ?_
 refine B4 ?_
 refine tS (tR ?_)
 refine sL (A1 rfl rfl (A9 (by repeat first | exact mH | apply mT)) hul) rfl rfl ?_
 (refine E0 rfl (B7b u Gi uc hcu hru) rfl rfl (fun v G1 hle1 hh => ?_); obtain ⟨wc, hv, hrw⟩ := hh; have hwl := hrw.len; have hwo := hrw.one; have hend := @B5g (n - i) i u; have hmu := @B5h (n - i) i u; have hgo := @B5i (n - i) i u; have hval := @B5s u; generalize H2 u = r at hv hrw hend hmu hgo hval; obtain ⟨w, c, l⟩ := r; simp only at hv hrw hend hmu hgo hval; subst hv)
 refine F0 ?_
 refine sE (A5 rfl) rfl (fun b30 => ?_)
 refine sS rfl rfl rfl hwl hwo rfl ?_ (hu := by exact C3 hwl.symm)
 refine D3 ?_
 refine sB (M7 rfl rfl) rfl rfl (fun h40 => ?_) (fun h40 => ?_)
 refine sD (nS (qT rfl (tS (tR ?_))))
 refine sL (A1 rfl rfl (A9 (by repeat first | exact mH | apply mT)) hwl) rfl rfl ?_
 refine sQ (qM rfl) rfl (sQ (qM rfl) rfl (sQ (qM rfl) rfl ?_))
 refine sS rfl rfl rfl hwl hwo rfl ?_ (hu := by exact C3 hwl.symm)
 refine I6 ?_
 refine A29 (rC rfl (A1 rfl rfl (A9 (by repeat first | exact mH | apply mT)) hwl)) (rT rfl) (rT rfl) (rT rfl) ?_
 (exact EvP.mk (by rw [← hev]; exact hend (by omega)) hrw)
 refine I9 ?_
 refine sB (qE rfl rfl) rfl rfl (fun h74 => ?_) (fun h74 => ?_)
 refine A0q ?_
 refine A29 (rC rfl (A2 rfl rfl)) (rT rfl) (rT rfl) (rT rfl) ?_
 (exact EvP.mk (by rw [← hev]; exact hmu (by omega) (by omega)) (L7 _))
 refine sD (nS (cF rfl (tK (nS (tR ?_)))))
 refine sL (A1 rfl rfl (A9 (by repeat first | exact mH | apply mT)) hwl) rfl rfl ?_
 refine X7 rfl rfl rfl hwl hwo rfl (by repeat first | exact Sw.here | apply Sw.there) (by exact C3 (hul.trans hwl.symm)) ?_
 refine sD (M8 (nS (tR (sQ (qM rfl) rfl ?_))))
 refine sP (K2 rfl rfl (by omega) (by omega)) rfl rfl ?_
 refine sQ (qA rfl) rfl (sD ?_)
 refine K7 (i + 1, w, wc, G1) ?_ ?_ ?_
 (simp only [J6]; exact D1)
 (dsimp only; exact ⟨by omega, hle.trans hle1, hrw, by have := (A0Q (A0S (hval (by omega))).1).2; omega, by rw [← hev, hgo (by omega) (by omega), show n - (i + 1) = n - i - 1 by omega]⟩)
 (show n - (i + 1) < n - i; omega)
theorem A7i {e : Tm} {fuel : Int} (h : P8 fuel 0 300 = false) : Q4 e fuel = (F4, 3, 0) := by
 unfold Q4; rw [if_neg (A5T h)]
theorem A5v {e : Tm} {fuel : Int} (h : P8 fuel 0 300 = true) : Q4 e fuel = ((I4 fuel.toNat e).1, (I4 fuel.toNat e).2.1, (I4 fuel.toNat e).2.2.1) := by
 unfold Q4; rw [if_pos (A2Q h)]
theorem B7d (e : Tm) (fuel : Int) (G : IM) (cells : List Value) (hcnt : C6 e ≤ 4294967296) (hr : A8 G e cells) : Fn Tryz.prog 66 [.agg ⟨cells⟩, .int .i64 fuel] [] G (K5 (Q4 e fuel)) := by
 have hRl := hr.len
 have hRo := hr.one
 have hno := @A7i e fuel
 have hin := @A5v e fuel
 refine B2 Tryz.func66 rfl Tryz.ntmps66 Tryz.results66 rfl ?_
 intro w0
 refine tS (tR ?_)
 refine sE (B9 rfl rfl) rfl (fun b3 => ?_)
 refine sE (A5 rfl) rfl (fun b4 => ?_)
 refine D3 ?_
 refine sB (K6 rfl rfl) rfl rfl (fun h13 => ?_) (fun h13 => ?_)
 refine T0 ?_
 refine C4 (rC rfl (A2 rfl rfl)) (rT rfl) (rT rfl) ?_
 (exact K5.mk (hno (B07 (by omega))) (L7 _))
 refine sQ (qM rfl) rfl (sQ (qM rfl) rfl ?_)
 refine sB (X6 rfl rfl) rfl rfl (fun h35 => ?_) (fun h35 => ?_)
 refine J2 ?_
 refine C4 (rC rfl (A2 rfl rfl)) (rT rfl) (rT rfl) ?_
 (exact K5.mk (hno (B07 (by omega))) (L7 _))
 refine D3 ?_
 refine sL (A1 rfl rfl (A9 (by repeat first | exact mH | apply mT)) hRl) rfl rfl ?_
 refine sQ (qM rfl) rfl ?_
 (have hE := B7c e fuel.toNat (by omega) G cells hcnt hr; rw [Int.toNat_of_nonneg (by omega)] at hE; have hin := hin (B6N (by omega) (by omega)); refine E0 rfl hE rfl rfl (fun v G1 hle1 hh => ?_); obtain ⟨wc, hv, hrw⟩ := hh; have hwl := hrw.len; have hwo := hrw.one; generalize I4 fuel.toNat e = r at hv hrw hin; obtain ⟨w, c, l, i⟩ := r; simp only at hv hrw hin; subst hv)
 refine R1 ?_
 refine sE (A5 rfl) rfl (fun b68 => ?_)
 refine sS rfl rfl rfl hwl hwo rfl ?_ (hu := by exact C3 hwl.symm)
 refine C2 ?_
 refine sL (A1 rfl rfl (A9 (by repeat first | exact mH | apply mT)) hwl) rfl rfl ?_
 refine sQ (qM rfl) rfl (sQ (qM rfl) rfl ?_)
 refine sS rfl rfl rfl hwl hwo rfl ?_ (hu := by exact C3 hwl.symm)
 refine sQ (qA rfl) rfl (sQ (qA rfl) rfl (sD (nS (tT ?_))))
 refine C4 (rC rfl (A1 rfl rfl (A9 (by repeat first | exact mH | apply mT)) hwl)) (rT rfl) (rT rfl) ?_
 (exact K5.mk hin hrw)
theorem B7e (G : IM) : P1 G O9 [.int .i64 1, .slice none 0 0] [] := by
 simp only [O9, P1, N8]
 exact ⟨none, 0, [], [], rfl, ⟨by omega, by omega⟩, D0.nil _ _, ⟨rfl, rfl⟩, rfl, by simp [J4]⟩
theorem B7f (G : IM) : P1 G A7 [.int .i64 0, .slice none 0 0] [] := by
 simp only [A7, P1, N8]
 exact ⟨none, 0, [], [], rfl, ⟨by omega, by omega⟩, D0.nil _ _, ⟨rfl, rfl⟩, rfl, by simp [J4]⟩
theorem B7g (t : Tm) (G0 G1 : IM) (cells : List Value) (F : List Nat) (hQ : A2u t) (hle : B6 G0 G1) (hs : O5 (C1 G1 G0) t cells F) (hn : F.Nodup) :
  Fn Tryz.prog 188 [.agg ⟨cells⟩] [] G1 (L5 fun G2 v => G2 = G1 ∧ ∃ cells' F', v = .agg ⟨cells'⟩ ∧ O5 (C1 G1 G0) (A0x t) cells' F' ∧ F'.Nodup) := by
 obtain ⟨k, nm, num, ty, fr, lb, ks⟩ := t
 have hs0 := hs
 rw [A2u] at hQ
 have hbA : k = 13 ∨ k = 14 → A0x (.mk k nm num ty fr lb ks) = ks.headD F4 := fun h => by rw [A0x, if_pos h]
 have hbB : k = 5 → A0x (.mk k nm num ty fr lb ks) = .mk k nm num O9 fr lb ks := fun h => by rw [A0x, if_neg (by omega), if_pos h]
 have hbC : ¬(k = 13 ∨ k = 14) → k ≠ 5 → A0x (.mk k nm num ty fr lb ks) = .mk k nm num ty fr lb ks := fun h h' => by rw [A0x, if_neg h, if_neg h']
 simp only [O5] at hs
 obtain ⟨tc, fc, p, c, es, F1, F2, Fs, rfl, hk, hnum, hlb, hty, hfr, hsl, hkl, rfl, hin⟩ := hs
 obtain ⟨pt, ct, rfl, htk, hts⟩ := hty.open
 obtain ⟨pf, cf, rfl, hfk, hfs⟩ := hfr.open
 have hslG := hsl.mono (C1.le G1 G0)
 have hnd := hn
 rw [List.nodup_append, List.nodup_append] at hnd
 obtain ⟨n1, ⟨n2, n3, n4⟩, n5⟩ := hnd
 have hB : O5 (C1 G1 G0) (.mk k nm num O9 fr lb ks) [.int .i64 k, .string nm, .int .i64 num, .int .i64 1, .slice none 0 0, .int .i64 fr.k, .slice pf fr.ks.length cf, .int .i64 lb, .slice p ks.length c] ([] ++ (F2 ++ (J4 p ++ Fs))) := by
  simp only [O5]
  exact ⟨[.int .i64 1, .slice none 0 0], [.int .i64 fr.k, .slice pf fr.ks.length cf], p, c, es, [], F2, Fs, rfl, hk, hnum, hlb, B7e _, hfr, hsl, hkl, rfl, hin⟩
 have hBn : ([] ++ (F2 ++ (J4 p ++ Fs))).Nodup := by
  rw [List.nil_append, List.nodup_append]; exact ⟨n2, n3, n4⟩
 refine B2 Tryz.func188 rfl Tryz.ntmps188 Tryz.results188 rfl ?_
 intro w0
 refine tS (tR ?_)
 refine sE (B9 rfl rfl) rfl (fun b3 => ?_)
 refine sE (A5 rfl) rfl (fun b4 => ?_)
 refine D4 ?_
 refine B4 (tS (tS (tR (sB (qE rfl rfl) rfl rfl (fun h18 => ?_) (fun h18 => ?_)))))
 refine I6 ?_
 (obtain ⟨x, xs, rfl⟩ : ∃ x xs, ks = x :: xs := List.exists_cons_of_ne_nil (hQ (by omega)); simp only [M3] at hkl; obtain ⟨e0, es0, Fa, Fb, rfl, hx, hxs, rfl⟩ := hkl; obtain ⟨e', b, o, he', rfl, hl, _, hat, _⟩ := hslG.get (i := 0) (by simp); simp only [List.getElem?_cons_zero, Option.some.injEq] at he'; subst he'; refine sP (B3 (j := 0) rfl rfl rfl (by simp)) rfl rfl ?_)
 refine sL (A1 rfl rfl (hat _) hl) rfl rfl ?_
 refine sS rfl rfl rfl hl hx.R.one rfl ?_ (hu := by exact C3 hl.symm)
 refine sD (nS (tT (rB (rS ?_))))
 refine D9 (rC rfl (A1 rfl rfl (A9 (by repeat first | exact mH | apply mT)) hl)) ?_
 (rw [hbA (by omega)]; exact ⟨rfl, rfl, _, _, rfl, hx, by rw [List.nodup_append, List.nodup_append] at n3; exact n3.2.1.1⟩)
 refine sQ (qA rfl) rfl (sD (nS (cF rfl (tR ?_))))
 refine sB (qE rfl rfl) rfl rfl (fun h45 => ?_) (fun h45 => ?_)
 refine D3 ?_
 (obtain ⟨x, xs, rfl⟩ : ∃ x xs, ks = x :: xs := List.exists_cons_of_ne_nil (hQ (by omega)); simp only [M3] at hkl; obtain ⟨e0, es0, Fa, Fb, rfl, hx, hxs, rfl⟩ := hkl; obtain ⟨e', b, o, he', rfl, hl, _, hat, _⟩ := hslG.get (i := 0) (by simp); simp only [List.getElem?_cons_zero, Option.some.injEq] at he'; subst he'; refine sP (B3 (j := 0) rfl rfl rfl (by simp)) rfl rfl ?_)
 refine sL (A1 rfl rfl (hat _) hl) rfl rfl ?_
 refine sS rfl rfl rfl hl hx.R.one rfl ?_ (hu := by exact C3 hl.symm)
 refine sD (nS (tT (rB (rS ?_))))
 refine D9 (rC rfl (A1 rfl rfl (A9 (by repeat first | exact mH | apply mT)) hl)) ?_
 (rw [hbA (by omega)]; exact ⟨rfl, rfl, _, _, rfl, hx, by rw [List.nodup_append, List.nodup_append] at n3; exact n3.2.1.1⟩)
 refine sQ (qA rfl) rfl (sD (nS (cF rfl (tS (tR ?_)))))
 refine sB (qE rfl rfl) rfl rfl (fun h70 => ?_) (fun h70 => ?_)
 refine sQ (qA rfl) rfl (sD (nS (qT rfl (tR ?_))))
 refine H3 rfl (A1g _ _) rfl rfl ?_
 refine N6 ?_
 refine D9 (rC rfl (A2 rfl rfl)) ?_
 (rw [hbB (by omega)]; exact ⟨rfl, rfl, _, _, rfl, hB, hBn⟩)
 refine J2 ?_
 refine D9 (rC rfl (A2 rfl rfl)) ?_
 (rw [hbC (by omega) (by omega)]; exact ⟨rfl, rfl, _, _, rfl, hs0, hn⟩)
theorem B7h : A6f A0x A2u 188 [] [] := fun t G0 G1 cells F hQ hle hs hn =>
 (B7g t G0 G1 cells F hQ hle hs hn).mono fun G' v outs _ ⟨h1, h2, c', F', h3, h4, h5⟩ => ⟨h1, c', F', h3, by rw [h2]; exact h4, h5⟩
theorem B09 (t : Tm) (G : IM) (cells : List Value) (D N : Int) (hv : J1 D N t 1 = true) (hts : t.small) (hr : A8 G t cells) : Fn Tryz.prog 134 [.agg ⟨cells⟩] [] G (A3J (H8 t) G) := by
 have hl := hr.len
 have hone := hr.one
 obtain ⟨e1, e2⟩ := A8I D N t 1 hv
 have hM := A8D A0x A2u 188 [] [] B7h t G cells e2 hts hr
 rw [e1] at hM
 refine B2 Tryz.func134 rfl Tryz.ntmps134 Tryz.results134 rfl ?_
 intro w0
 refine tS (tR ?_)
 refine sE (B9 rfl rfl) rfl (fun b3 => ?_)
 refine sE (A5 rfl) rfl (fun b4 => ?_)
 refine sD (nS (tS (tR ?_)))
 refine sL (A1 rfl rfl (A9 (by repeat first | exact mH | apply mT)) (by assumption)) rfl rfl ?_
 (refine E0 rfl hM rfl rfl (fun v G3 hle3 hh => ?_); obtain ⟨cells', F', rfl, hs', hnd'⟩ := hh; have hl' := hs'.R.len; have ho' := hs'.R.one)
 refine sS rfl rfl rfl hl' ho' rfl ?_ (hu := by exact C3 hl'.symm)
 refine sD (nS (tT ?_))
 refine D9 (rC rfl (A1 rfl rfl (A9 (by repeat first | exact mH | apply mT)) hl')) ?_
 exact ⟨rfl, cells', F', rfl, hs', hnd'⟩
def A3l (t : Tm) : Tm × Bool := if N9 t = true ∨ J3 t = true then (H8 t, true) else (F4, false)
theorem B7i (t : Tm) (G : IM) (cells : List Value) (hts : t.small) (hr : A8 G t cells) : Fn Tryz.prog 63 [.agg ⟨cells⟩] [] G (TbP (A3l t) G) := by
 have hl := hr.len
 have hone := hr.one
 have hv := A4F t G cells hr
 have hw := A4G t G cells hr
 have hA1 := fun h : N9 t = true => B09 t G cells 12 14 ((A0a t).1 h).1 hts hr
 have hA2 := fun h : J3 t = true => B09 t G cells 40 13 ((A1I t).1 h).1 hts hr
 refine B2 Tryz.func63 rfl Tryz.ntmps63 Tryz.results63 rfl ?_
 intro w0
 refine tS (tR ?_)
 refine sE (B9 rfl rfl) rfl (fun b3 => ?_)
 refine sE (A5 rfl) rfl (fun b4 => ?_)
 refine sQ (qA rfl) rfl (sD (nS (tS (tS (tR ?_)))))
 refine sL (A1 rfl rfl (A9 (by repeat first | exact mH | apply mT)) (by assumption)) rfl rfl ?_
 refine D8 rfl (hw) rfl rfl (fun h12 => ?_) (fun h12 => ?_)
 refine J9 ?_
 refine sL (A1 rfl rfl (A9 (by repeat first | exact mH | apply mT)) (by assumption)) rfl rfl ?_
 (refine E0 rfl (by first | exact hA1 (by assumption) | exact hA2 (by assumption)) rfl rfl (fun v G3 hle3 hh => ?_); obtain ⟨cells', F', rfl, hs', hnd'⟩ := hh; have hl' := hs'.R.len; have ho' := hs'.R.one)
 refine sS rfl rfl rfl hl' ho' rfl ?_ (hu := by exact C3 hl'.symm)
 refine sQ (qA rfl) rfl (sD (nS (tT ?_)))
 refine I2 (rC rfl (A1 rfl rfl (A9 (by repeat first | exact mH | apply mT)) hl')) (rT rfl) ?_
 exact TbP.mk (if_pos (by simp [*])) hs' hnd'
 refine sQ (pNf rfl) rfl (sQ (qM rfl) rfl ?_)
 refine sL (A1 rfl rfl (A9 (by repeat first | exact mH | apply mT)) (by assumption)) rfl rfl ?_
 refine D8 rfl (hv) rfl rfl (fun h38 => ?_) (fun h38 => ?_)
 refine D4 ?_
 refine sL (A1 rfl rfl (A9 (by repeat first | exact mH | apply mT)) (by assumption)) rfl rfl ?_
 (refine E0 rfl (by first | exact hA1 (by assumption) | exact hA2 (by assumption)) rfl rfl (fun v G3 hle3 hh => ?_); obtain ⟨cells', F', rfl, hs', hnd'⟩ := hh; have hl' := hs'.R.len; have ho' := hs'.R.one)
 refine sS rfl rfl rfl hl' ho' rfl ?_ (hu := by exact C3 hl'.symm)
 refine sQ (qA rfl) rfl (sD (nS (tT ?_)))
 refine I2 (rC rfl (A1 rfl rfl (A9 (by repeat first | exact mH | apply mT)) hl')) (rT rfl) ?_
 exact TbP.mk (if_pos (by simp [*])) hs' hnd'
 refine J2 ?_
 refine I2 (rC rfl (A2 rfl rfl)) (rT rfl) ?_
 exact TbP.mk (if_neg (by simp [*])) (O5.zero _) (by simp)
theorem A01.leaf {G : IM} {k : Int} {nm : ByteArray} {num x : Int} {ks : List Tm} {p : Option Addr} {c : Nat} {F : List Nat} (h : A01 G ks p c F) (hk : E6 k) (hnum : E6 num) (hx : E6 x) :
  O5 G (.mk k nm num (.mk x []) A7 0 ks) [.int .i64 k, .string nm, .int .i64 num, .int .i64 x, .slice none 0 0, .int .i64 0, .slice none 0 0, .int .i64 0, .slice p ks.length c] F := by
 obtain ⟨es, Fs, h1, h2, rfl, h4⟩ := h
 have hT : P1 G (.mk x []) [.int .i64 x, .slice none 0 0] [] := by
  simp only [P1, N8]
  exact ⟨none, 0, [], [], rfl, hx, D0.nil _ _, ⟨rfl, rfl⟩, rfl, by simp [J4]⟩
 simp only [O5]
 exact ⟨[.int .i64 x, .slice none 0 0], [.int .i64 0, .slice none 0 0], p, c, es, [], [], Fs, rfl, hk, hnum, ⟨by omega, by omega⟩, hT, B7f G, h1, h2, rfl, h4⟩
theorem B7j {k : Int} {nm : ByteArray} {num : Int} {ty fr : Ty} {lb : Int} {ks : List Tm} (h : k = 13 ∨ k = 14) (h0 : 0 < ks.length) : H8 (.mk k nm num ty fr lb ks) = H8 ks[0] := by
 cases ks with
 | nil => simp at h0
 | cons x xs => rw [H8, if_pos h, F8]; rfl
theorem B7k {k : Int} {nm : ByteArray} {num : Int} {ty fr : Ty} {lb : Int} {ks : List Tm} {x : Int} (h : ¬(k = 13 ∨ k = 14)) (hx : x = if k = 5 then 1 else 0) : H8 (.mk k nm num ty fr lb ks) = .mk k nm num (.mk x []) A7 0 (F8 ks) := by
 rw [H8, if_neg h, hx]
 by_cases h5 : k = 5
 ·rw [if_pos h5, if_pos h5]; rfl
 ·rw [if_neg h5, if_neg h5]; rfl
theorem B1a (D N : Int) : ∀ (t : Tm) (d : Int) (G : IM) (cells : List Value), J1 D N t d = true → t.small → A8 G t cells →
  Fn Tryz.prog 136 [.agg ⟨cells⟩] [] G (A3J (H8 t) G) := by
 refine Tm.ind fun k nm num ty fr lb ks ih d G cells hv hts hr => ?_
 have hone := hr.one
 obtain ⟨hv1, hv2, hv3, hv4⟩ := W6 hv
 have hvk := (A05 D N ks _).1 hv4
 have har := (U8.1 hv3).1
 have hk0 : k = 13 ∨ k = 14 → 0 < ks.length := by
  rintro (rfl | rfl)
  ·rw [show C7 13 = 1 from rfl] at har; omega
  ·rw [show C7 14 = 1 from rfl] at har; omega
 simp only [Tm.small] at hts
 obtain ⟨hnm, hty', hfr', hsm, hks⟩ := hts
 obtain ⟨tk, tks⟩ := ty
 obtain ⟨fk, fks⟩ := fr
 obtain ⟨pt, ct, pf, cf, p, c, es, rfl, hk, hnum, hlb, hty, hfr, hsl, hkl⟩ := hr.open9
 have hn := hsl.le
 have hlen : (F8 ks).length = ks.length := by rw [A2W, List.length_map]
 have hget : ∀ i (h : i < ks.length) (h' : i < (F8 ks).length), (F8 ks)[i] = H8 ks[i] := fun i h h' => by simp [A2W]
 have hB1 := fun h h0 => @B7j k nm num (.mk tk tks) (.mk fk fks) lb ks h h0
 have hB2 := fun x h hx => @B7k k nm num (.mk tk tks) (.mk fk fks) lb ks x h hx
 refine B2 Tryz.func136 rfl Tryz.ntmps136 Tryz.results136 rfl ?_
 intro w0
 refine tS (tR ?_)
 refine sE (B9 rfl rfl) rfl (fun b3 => ?_)
 refine sE (A5 rfl) rfl (fun b4 => ?_)
 refine C2 ?_
 refine sB (qE rfl rfl) rfl rfl (fun h12 => ?_) (fun h12 => ?_)
 refine N6 ?_
 (have hk00 := hk0 (by omega); obtain ⟨b, o, e, rfl, hl, hat, hre, hgb⟩ := hsl.kidTm hkl (i := 0) hk00 hk00; have hK := ih ks[0] (List.getElem_mem _) _ G _ (hvk 0 hk00) (Tm.smallL_mem hks _ (List.getElem_mem _)) hre; rw [← hB1 (by omega) hk00] at hK; refine sP (B3 (j := 0) rfl rfl rfl (by omega)) rfl rfl ?_)
 refine sL (A1 rfl rfl (hat _) hl) rfl rfl ?_
 (refine E0 rfl hK rfl rfl (fun v G3 hle3 hh => ?_); obtain ⟨cells', F', rfl, hs', hnd'⟩ := hh; have hl' := hs'.R.len; have ho' := hs'.R.one)
 refine sS rfl rfl rfl hl' ho' rfl ?_ (hu := by exact C3 hl'.symm)
 refine sD (nS (tT (rS ?_)))
 refine D9 (rC rfl (A1 rfl rfl (A9 (by repeat first | exact mH | apply mT)) hl')) ?_
 exact ⟨rfl, cells', F', rfl, hs', hnd'⟩
 refine K3 ?_
 refine sB (qE rfl rfl) rfl rfl (fun h38 => ?_) (fun h38 => ?_)
 refine D3 ?_
 (have hk00 := hk0 (by omega); obtain ⟨b, o, e, rfl, hl, hat, hre, hgb⟩ := hsl.kidTm hkl (i := 0) hk00 hk00; have hK := ih ks[0] (List.getElem_mem _) _ G _ (hvk 0 hk00) (Tm.smallL_mem hks _ (List.getElem_mem _)) hre; rw [← hB1 (by omega) hk00] at hK; refine sP (B3 (j := 0) rfl rfl rfl (by omega)) rfl rfl ?_)
 refine sL (A1 rfl rfl (hat _) hl) rfl rfl ?_
 (refine E0 rfl hK rfl rfl (fun v G3 hle3 hh => ?_); obtain ⟨cells', F', rfl, hs', hnd'⟩ := hh; have hl' := hs'.R.len; have ho' := hs'.R.one)
 refine sS rfl rfl rfl hl' ho' rfl ?_ (hu := by exact C3 hl'.symm)
 refine sD (nS (tT (rS ?_)))
 refine D9 (rC rfl (A1 rfl rfl (A9 (by repeat first | exact mH | apply mT)) hl')) ?_
 exact ⟨rfl, cells', F', rfl, hs', hnd'⟩
 refine H9 ?_
 refine sE (A5 rfl) rfl (fun b72 => ?_)
 refine D3 ?_
 refine sB (qE rfl rfl) rfl rfl (fun h81 => ?_) (fun h81 => ?_)
 refine sD (nS ?_)
 (show I8 _ _ (.cond (.tmp 27) _ _) _ _; refine A0k (fun (x : Int) => ⟨[(3, .pointer (some ⟨b72, 0, none⟩)), (1, .pointer (some ⟨b3, 0, none⟩)), (2, .pointer (some ⟨b4, 0, none⟩))], [.blk b72 [.int .i64 k, .string nm, .int .i64 num, .int .i64 x, .slice none 0 0, .int .i64 0, .slice none 0 0, .int .i64 0, .slice none 0 0], .blk b4 [.int .i64 0, .string ⟨⟨[]⟩⟩, .int .i64 0, .int .i64 0, .slice none 0 0, .int .i64 0, .slice none 0 0, .int .i64 0, .slice none 0 0], .blk b3 [.int .i64 k, .string nm, .int .i64 num, .int .i64 tk, .slice pt tks.length ct, .int .i64 fk, .slice pf fks.length cf, .int .i64 lb, .slice p ks.length c]], G⟩) (fun x => x = if k = 5 then 1 else 0) ?_ ?_)
 refine qT rfl (tR ?_)
 refine H3 rfl ((A1k _)) rfl rfl ?_
 refine sQ (B1 rfl) rfl (F9 ?_)
 refine sD ?_
 refine Q2 1 (O1 (by repeat (first | exact E3.nil | refine E3.cons rfl ?_)) (by repeat (first | exact A0.refl | exact A0.nil | refine A0.cons (by repeat (first | exact Pk.here | apply Pk.there)) ?_ | apply A0.drop))) (if_pos (by omega)).symm
 (intro tx htx; have hxi : E6 tx := (by rw [htx]; split <;> exact ⟨by omega, by omega⟩); have hB3 := hB2 tx (by omega) htx)
 refine tS (tS (tR (sQ (qA rfl) rfl (sD (nS ?_)))))
 refine B4 ?_
 (refine V5 28 9 ?_; refine K9 (fun (x : Nat × Option Addr × Nat × List (List Value) × List Nat × IM) => ⟨[(4, .int .i64 x.1), (3, .pointer (some ⟨b72, 0, none⟩)), (1, .pointer (some ⟨b3, 0, none⟩)), (2, .pointer (some ⟨b4, 0, none⟩))], [.blk b72 [.int .i64 k, .string nm, .int .i64 num, .int .i64 tx, .slice none 0 0, .int .i64 0, .slice none 0 0, .int .i64 0, .slice x.2.1 x.1 x.2.2.1], .slc x.2.1 x.2.2.1 28 9 x.1 x.2.2.2.1.flatten, .blk b4 [.int .i64 0, .string ⟨⟨[]⟩⟩, .int .i64 0, .int .i64 0, .slice none 0 0, .int .i64 0, .slice none 0 0, .int .i64 0, .slice none 0 0], .blk b3 [.int .i64 k, .string nm, .int .i64 num, .int .i64 tk, .slice pt tks.length ct, .int .i64 fk, .slice pf fks.length cf, .int .i64 lb, .slice p ks.length c]], x.2.2.2.2.2⟩) (fun x => x.1 ≤ ks.length ∧ B6 G x.2.2.2.2.2 ∧ M3 (C1 x.2.2.2.2.2 G) ((F8 ks).take x.1) x.2.2.2.1 x.2.2.2.2.1 ∧ x.2.2.2.2.1.Nodup) (fun x => ks.length - x.1) (0, none, 0, [], [], G) ?_ ?_ ?_)
 (simp only [J6]; exact D1)
 exact ⟨by simp, B6.refl _, by simp [M3], by simp⟩
 (rintro ⟨i, pn, cn, es', F, Gi⟩ ⟨hi, hle, hst, hnd⟩; simp only [] at hi hle hst hnd ⊢; replace hsl := hsl.mono hle; replace hkl := hkl.mono hle)
 refine C2 ?_
 refine sB (K6 rfl rfl) rfl rfl (fun h111 => ?_) (fun h111 => ?_)
 refine sD (nS (qT rfl (tK (nS (tS ?_)))))
 refine B4 ?_
 (obtain ⟨b, o, e, rfl, hl, hat, hre, hgb⟩ := hsl.kidTm hkl (i := i) (by omega) (by omega); have hone := hre.one; refine E1 E2 rfl ?_)
 refine J5 (i := 0) (l' := [tt,ff,ff,ff,ff,ff,ff,ff,ff,ff,ff,ff]) rfl D5 (B1 rfl) rfl (by kernel_rfl) rfl rfl ?_
 refine aL 1 rfl (C0 rfl rfl) rfl ?_
 refine aP 2 rfl (B1 rfl) rfl ?_
 refine aL 3 rfl (C0 rfl rfl) rfl ?_
 refine aP 4 rfl (qM rfl) rfl ?_
 refine aP 5 rfl (B3 rfl rfl rfl (by omega)) rfl ?_
 refine aL 6 rfl (A1 rfl rfl (hat _) hl) rfl ?_
 refine A3 7 ?_
 (refine K0 rfl rfl (ih ks[i] (List.getElem_mem (by omega)) _ _ _ (hvk i (by omega)) (Tm.smallL_mem hks _ (List.getElem_mem (by omega))) hre) rfl rfl rfl (fun v G3 hle3 hh => ?_); obtain ⟨cells', F', rfl, hs', hnd'⟩ := hh; rw [← hget i (by omega) (by omega)] at hs'; obtain ⟨qt, dt, et', qf, df, ef', q3, d3, es3, rfl, _⟩ := hs'.R.open)
 refine A3 8 ?_
 (refine E4 rfl (C9 rfl rfl rfl (by omega) (by unfold maxLen; omega) rfl) rfl rfl ?_; rintro _ ⟨b130, rfl⟩)
 refine A3 9 ?_
 refine Q5 rfl rfl rfl rfl rfl rfl (fun _ _ => by repeat (first | exact Sw.here | apply Sw.there)) (P3 (by repeat first | exact mH | apply mT)) rfl (by simp [Value.oneCell']) (by unfold maxLen; omega) (by omega) rfl rfl (by repeat (first | exact A6.nil | apply A6.dep (by decide +kernel) | apply A6.blk (by decide +kernel) (by repeat (first | exact Pk.here | apply Pk.there)) (by repeat first | exact mH | apply mT))) (fun pn' cn' => ?_)
 refine aP 10 rfl (B1 rfl) rfl ?_
 refine A3 11 ?_
 refine R2 rfl rfl rfl rfl rfl rfl rfl rfl (by kernel_rfl) (by repeat first | exact Sw.here | apply Sw.there) (by rfl) ?_
 refine C5 (M8 (nS (tR (sQ (qM rfl) rfl ?_))))
 refine sP (K2 rfl rfl (by omega) (by omega)) rfl rfl ?_
 refine sQ (qA rfl) rfl (sD ?_)
 refine K7 (i + 1, pn', cn', es' ++ [[.int .i64 (F8 ks)[i].k, .string (F8 ks)[i].nm, .int .i64 (F8 ks)[i].num, .int .i64 (F8 ks)[i].ty.k, .slice qt (F8 ks)[i].ty.ks.length dt, .int .i64 (F8 ks)[i].fr.k, .slice qf (F8 ks)[i].fr.ks.length df, .int .i64 (F8 ks)[i].lb, .slice q3 (F8 ks)[i].ks.length d3]], F ++ F', G3) ?_ ?_ ?_
 (simp only [J6]; exact D1)
 exact ⟨by omega, hle.trans hle3, M3.step hst hnd hle hle3 (by omega) hs' hnd'⟩
 (show ks.length - (i + 1) < ks.length - i; omega)
 refine J2 ?_
 (refine I5 (by repeat (first | exact Pk.here | apply Pk.there)) (fun G4 hle4 hsl4 hno4 => ?_); obtain rfl : i = ks.length := (by omega))
 refine tT ?_
 refine D9 (rC rfl (A2 rfl rfl)) ?_
 (rw [← hlen, List.take_length] at hst; rw [← hlen] at hsl4 ⊢; obtain ⟨F3, hf1, hf2⟩ := A01.fin hst hnd hle hle4 hsl4 hno4; rw [hB3]; exact ⟨rfl, _, F3, rfl, hf1.leaf hk hnum hxi, hf2⟩)
 refine sD (nS ?_)
 (show I8 _ _ (.cond (.tmp 27) _ _) _ _; refine A0k (fun (x : Int) => ⟨[(3, .pointer (some ⟨b72, 0, none⟩)), (1, .pointer (some ⟨b3, 0, none⟩)), (2, .pointer (some ⟨b4, 0, none⟩))], [.blk b72 [.int .i64 k, .string nm, .int .i64 num, .int .i64 x, .slice none 0 0, .int .i64 0, .slice none 0 0, .int .i64 0, .slice none 0 0], .blk b4 [.int .i64 0, .string ⟨⟨[]⟩⟩, .int .i64 0, .int .i64 0, .slice none 0 0, .int .i64 0, .slice none 0 0, .int .i64 0, .slice none 0 0], .blk b3 [.int .i64 k, .string nm, .int .i64 num, .int .i64 tk, .slice pt tks.length ct, .int .i64 fk, .slice pf fks.length cf, .int .i64 lb, .slice p ks.length c]], G⟩) (fun x => x = if k = 5 then 1 else 0) ?_ ?_)
 refine cF rfl (tK ?_)
 refine Q2 0 (O1 (by repeat (first | exact E3.nil | refine E3.cons rfl ?_)) (by repeat (first | exact A0.refl | exact A0.nil | refine A0.cons (by repeat (first | exact Pk.here | apply Pk.there)) ?_ | apply A0.drop))) (if_neg (by omega)).symm
 (intro tx htx; have hxi : E6 tx := (by rw [htx]; split <;> exact ⟨by omega, by omega⟩); have hB3 := hB2 tx (by omega) htx)
 refine tS (tS (tR (sQ (qA rfl) rfl (sD (nS ?_)))))
 refine B4 ?_
 (refine V5 28 9 ?_; refine K9 (fun (x : Nat × Option Addr × Nat × List (List Value) × List Nat × IM) => ⟨[(4, .int .i64 x.1), (3, .pointer (some ⟨b72, 0, none⟩)), (1, .pointer (some ⟨b3, 0, none⟩)), (2, .pointer (some ⟨b4, 0, none⟩))], [.blk b72 [.int .i64 k, .string nm, .int .i64 num, .int .i64 tx, .slice none 0 0, .int .i64 0, .slice none 0 0, .int .i64 0, .slice x.2.1 x.1 x.2.2.1], .slc x.2.1 x.2.2.1 28 9 x.1 x.2.2.2.1.flatten, .blk b4 [.int .i64 0, .string ⟨⟨[]⟩⟩, .int .i64 0, .int .i64 0, .slice none 0 0, .int .i64 0, .slice none 0 0, .int .i64 0, .slice none 0 0], .blk b3 [.int .i64 k, .string nm, .int .i64 num, .int .i64 tk, .slice pt tks.length ct, .int .i64 fk, .slice pf fks.length cf, .int .i64 lb, .slice p ks.length c]], x.2.2.2.2.2⟩) (fun x => x.1 ≤ ks.length ∧ B6 G x.2.2.2.2.2 ∧ M3 (C1 x.2.2.2.2.2 G) ((F8 ks).take x.1) x.2.2.2.1 x.2.2.2.2.1 ∧ x.2.2.2.2.1.Nodup) (fun x => ks.length - x.1) (0, none, 0, [], [], G) ?_ ?_ ?_)
 (simp only [J6]; exact D1)
 exact ⟨by simp, B6.refl _, by simp [M3], by simp⟩
 (rintro ⟨i, pn, cn, es', F, Gi⟩ ⟨hi, hle, hst, hnd⟩; simp only [] at hi hle hst hnd ⊢; replace hsl := hsl.mono hle; replace hkl := hkl.mono hle)
 refine C2 ?_
 refine sB (K6 rfl rfl) rfl rfl (fun h191 => ?_) (fun h191 => ?_)
 refine sD (nS (qT rfl (tK (nS (tS ?_)))))
 refine B4 ?_
 (obtain ⟨b, o, e, rfl, hl, hat, hre, hgb⟩ := hsl.kidTm hkl (i := i) (by omega) (by omega); have hone := hre.one; refine E1 E2 rfl ?_)
 refine J5 (i := 0) (l' := [tt,ff,ff,ff,ff,ff,ff,ff,ff,ff,ff,ff]) rfl D5 (B1 rfl) rfl (by kernel_rfl) rfl rfl ?_
 refine aL 1 rfl (C0 rfl rfl) rfl ?_
 refine aP 2 rfl (B1 rfl) rfl ?_
 refine aL 3 rfl (C0 rfl rfl) rfl ?_
 refine aP 4 rfl (qM rfl) rfl ?_
 refine aP 5 rfl (B3 rfl rfl rfl (by omega)) rfl ?_
 refine aL 6 rfl (A1 rfl rfl (hat _) hl) rfl ?_
 refine A3 7 ?_
 (refine K0 rfl rfl (ih ks[i] (List.getElem_mem (by omega)) _ _ _ (hvk i (by omega)) (Tm.smallL_mem hks _ (List.getElem_mem (by omega))) hre) rfl rfl rfl (fun v G3 hle3 hh => ?_); obtain ⟨cells', F', rfl, hs', hnd'⟩ := hh; rw [← hget i (by omega) (by omega)] at hs'; obtain ⟨qt, dt, et', qf, df, ef', q3, d3, es3, rfl, _⟩ := hs'.R.open)
 refine A3 8 ?_
 (refine E4 rfl (C9 rfl rfl rfl (by omega) (by unfold maxLen; omega) rfl) rfl rfl ?_; rintro _ ⟨b210, rfl⟩)
 refine A3 9 ?_
 refine Q5 rfl rfl rfl rfl rfl rfl (fun _ _ => by repeat (first | exact Sw.here | apply Sw.there)) (P3 (by repeat first | exact mH | apply mT)) rfl (by simp [Value.oneCell']) (by unfold maxLen; omega) (by omega) rfl rfl (by repeat (first | exact A6.nil | apply A6.dep (by decide +kernel) | apply A6.blk (by decide +kernel) (by repeat (first | exact Pk.here | apply Pk.there)) (by repeat first | exact mH | apply mT))) (fun pn' cn' => ?_)
 refine aP 10 rfl (B1 rfl) rfl ?_
 refine A3 11 ?_
 refine R2 rfl rfl rfl rfl rfl rfl rfl rfl (by kernel_rfl) (by repeat first | exact Sw.here | apply Sw.there) (by rfl) ?_
 refine C5 (M8 (nS (tR (sQ (qM rfl) rfl ?_))))
 refine sP (K2 rfl rfl (by omega) (by omega)) rfl rfl ?_
 refine sQ (qA rfl) rfl (sD ?_)
 refine K7 (i + 1, pn', cn', es' ++ [[.int .i64 (F8 ks)[i].k, .string (F8 ks)[i].nm, .int .i64 (F8 ks)[i].num, .int .i64 (F8 ks)[i].ty.k, .slice qt (F8 ks)[i].ty.ks.length dt, .int .i64 (F8 ks)[i].fr.k, .slice qf (F8 ks)[i].fr.ks.length df, .int .i64 (F8 ks)[i].lb, .slice q3 (F8 ks)[i].ks.length d3]], F ++ F', G3) ?_ ?_ ?_
 (simp only [J6]; exact D1)
 exact ⟨by omega, hle.trans hle3, M3.step hst hnd hle hle3 (by omega) hs' hnd'⟩
 (show ks.length - (i + 1) < ks.length - i; omega)
 refine J2 ?_
 (refine I5 (by repeat (first | exact Pk.here | apply Pk.there)) (fun G4 hle4 hsl4 hno4 => ?_); obtain rfl : i = ks.length := (by omega))
 refine tT ?_
 refine D9 (rC rfl (A2 rfl rfl)) ?_
 (rw [← hlen, List.take_length] at hst; rw [← hlen] at hsl4 ⊢; obtain ⟨F3, hf1, hf2⟩ := A01.fin hst hnd hle hle4 hsl4 hno4; rw [hB3]; exact ⟨rfl, _, F3, rfl, hf1.leaf hk hnum hxi, hf2⟩)
theorem B7l (t : Tm) (G : IM) (cells : List Value) (hts : t.small) (hcnt : C6 t ≤ 4294967296) (hr : A8 G t cells) : Fn Tryz.prog 65 [.agg ⟨cells⟩] [] G (TbP (A3l t) G) := by
 have hl := hr.len
 have hone := hr.one
 have hv := A6h t G cells hcnt hr
 have hw := A4L t G cells hcnt hr
 have hA1 := fun h : N9 t = true => B1a 12 14 t 1 G cells ((A0a t).1 h).1 hts hr
 have hA2 := fun h : J3 t = true => B1a 40 13 t 1 G cells ((A1I t).1 h).1 hts hr
 refine B2 Tryz.func65 rfl Tryz.ntmps65 Tryz.results65 rfl ?_
 intro w0
 refine tS (tR ?_)
 refine sE (B9 rfl rfl) rfl (fun b3 => ?_)
 refine sE (A5 rfl) rfl (fun b4 => ?_)
 refine sQ (qA rfl) rfl (sD (nS (tS (tS (tR ?_)))))
 refine sL (A1 rfl rfl (A9 (by repeat first | exact mH | apply mT)) (by assumption)) rfl rfl ?_
 refine D8 rfl (hw) rfl rfl (fun h12 => ?_) (fun h12 => ?_)
 refine J9 ?_
 refine sL (A1 rfl rfl (A9 (by repeat first | exact mH | apply mT)) (by assumption)) rfl rfl ?_
 (refine E0 rfl (by first | exact hA1 (by assumption) | exact hA2 (by assumption)) rfl rfl (fun v G3 hle3 hh => ?_); obtain ⟨cells', F', rfl, hs', hnd'⟩ := hh; have hl' := hs'.R.len; have ho' := hs'.R.one)
 refine sS rfl rfl rfl hl' ho' rfl ?_ (hu := by exact C3 hl'.symm)
 refine sQ (qA rfl) rfl (sD (nS (tT ?_)))
 refine I2 (rC rfl (A1 rfl rfl (A9 (by repeat first | exact mH | apply mT)) hl')) (rT rfl) ?_
 exact TbP.mk (if_pos (by simp [*])) hs' hnd'
 refine sQ (pNf rfl) rfl (sQ (qM rfl) rfl ?_)
 refine sL (A1 rfl rfl (A9 (by repeat first | exact mH | apply mT)) (by assumption)) rfl rfl ?_
 refine D8 rfl (hv) rfl rfl (fun h38 => ?_) (fun h38 => ?_)
 refine D4 ?_
 refine sL (A1 rfl rfl (A9 (by repeat first | exact mH | apply mT)) (by assumption)) rfl rfl ?_
 (refine E0 rfl (by first | exact hA1 (by assumption) | exact hA2 (by assumption)) rfl rfl (fun v G3 hle3 hh => ?_); obtain ⟨cells', F', rfl, hs', hnd'⟩ := hh; have hl' := hs'.R.len; have ho' := hs'.R.one)
 refine sS rfl rfl rfl hl' ho' rfl ?_ (hu := by exact C3 hl'.symm)
 refine sQ (qA rfl) rfl (sD (nS (tT ?_)))
 refine I2 (rC rfl (A1 rfl rfl (A9 (by repeat first | exact mH | apply mT)) hl')) (rT rfl) ?_
 exact TbP.mk (if_pos (by simp [*])) hs' hnd'
 refine J2 ?_
 refine I2 (rC rfl (A2 rfl rfl)) (rT rfl) ?_
 exact TbP.mk (if_neg (by simp [*])) (O5.zero _) (by simp)
def B78 (t : Tm) : Nat := if N9 t = true then C6 t else 0
inductive MV where
 | mk (k num : Int) (env parts : List MV)
def MV.k : MV → Int | .mk k _ _ _ => k
def MV.num : MV → Int | .mk _ n _ _ => n
def MV.env : MV → List MV | .mk _ _ e _ => e
def MV.parts : MV → List MV | .mk _ _ _ p => p
def mv0 : MV := .mk 0 0 [] []
mutual
def RMv (kc : Int → Int) (G : IM) : MV → List Value → Prop
 | .mk k num env parts, cells => ∃ p c es q d fs, cells = [.int .i64 (kc k), .int .i64 num, .slice p env.length c, .slice q parts.length d] ∧ E6 num ∧ E6 (kc k) ∧ D0 G p env.length c 4 es ∧ A3m kc G env es ∧ D0 G q parts.length d 4 fs ∧ A3m kc G parts fs
def A3m (kc : Int → Int) (G : IM) : List MV → List (List Value) → Prop
 | [], es => es = []
 | t :: ts, es => ∃ a r, es = a :: r ∧ RMv kc G t a ∧ A3m kc G ts r
end
section
variable {kc : Int → Int} {G : IM}
end

def RFr (kc : Int → Int) (G : IM) (f : Int × List MV) (cells : List Value) : Prop := ∃ p c es, cells = [.int .i64 f.1, .slice p f.2.length c] ∧ E6 f.1 ∧ D0 G p f.2.length c 4 es ∧ A3m kc G f.2 es
def B1b (kc : Int → Int) (G : IM) : List (Int × List MV) → List (List Value) → Prop
 | [], es => es = []
 | t :: ts, es => ∃ a r, es = a :: r ∧ RFr kc G t a ∧ B1b kc G ts r
section
variable {kc : Int → Int} {G : IM}
end

structure MSt where
 at' : Int
 st : List MV
 env : List MV
 fr : List (Int × List MV)
def RSs (kc : Int → Int) (G : IM) (s : MSt) (cells : List Value) : Prop := ∃ pe ce ps cs pf cf ee es ef, cells = [.int .i64 s.at', .slice pe s.env.length ce, .slice ps s.st.length cs, .slice pf s.fr.length cf] ∧ E6 s.at' ∧
 D0 G pe s.env.length ce 4 ee ∧ A3m kc G s.env ee ∧ D0 G ps s.st.length cs 4 es ∧ A3m kc G s.st es ∧ D0 G pf s.fr.length cf 2 ef ∧ B1b kc G s.fr ef
def A5w (k : Int) : Nat := if k = 6 ∨ k = 7 ∨ k = 8 ∨ k = 11 then 2 else if k = 9 ∨ k = 12 ∨ k = 13 then 1 else 0
def A7j (k : Int) : Int × Nat × Int := if k = 6 then (2, 1, 1) else if k = 7 ∨ k = 8 then (0, 2, 2) else if k = 9 then (1, 1, 3) else if k = 12 ∨ k = 13 then (3, 1, 4) else (0, 0, 0)
def A2l (s : MSt) (v : MV) : MSt := { s with st := s.st ++ [v] }
def mGo (k a : Int) (s : MSt) (v : List MV) : MSt ⊕ (Int × Int) :=
 if k = 1 then .inl (A2l s (.mk 0 a [] []))
 else if k = 2 then .inl (A2l s (.mk 1 a [] []))
 else if k = 3 then (if (s.env.length : Int) - 1 - a < 0 then .inr (3, 0) else .inl (A2l s (s.env.getD ((s.env.length : Int) - 1 - a).toNat mv0)))
 else if k = 4 then .inl { A2l s (.mk 2 s.at' s.env []) with at' := s.at' + a }
 else if k = 5 then (if s.fr.length = 0 then .inr (3, 0) else .inl { s with at' := (s.fr.getD (s.fr.length - 1) (0, [])).1, env := (s.fr.getD (s.fr.length - 1) (0, [])).2, fr := s.fr.take (s.fr.length - 1) })
 else if k = 6 then .inl { s with at' := (v.getD 0 mv0).num, env := (v.getD 0 mv0).env ++ [v.getD 1 mv0], fr := s.fr ++ [(s.at', s.env)] }
 else if k = 7 then .inl (A2l s (.mk 0 (((v.getD 0 mv0).num + (v.getD 1 mv0).num) % 1000) [] []))
 else if k = 8 then .inl (A2l s (.mk 1 (if (v.getD 0 mv0).num < (v.getD 1 mv0).num then 1 else 0) [] []))
 else if k = 9 then .inl (if (v.getD 0 mv0).num = 0 then { s with at' := s.at' + a } else s)
 else if k = 10 then .inl { s with at' := s.at' + a }
 else if k = 11 then .inl (A2l s (.mk 3 0 [] v))
 else .inl (A2l s ((v.getD 0 mv0).parts.getD (k - 12).toNat mv0))
def B7m (k : Int) (v : List MV) : Bool := (v.take (A7j k).2.1).all fun u => decide (u.k = (A7j k).1)
def B7n (k a : Int) (s : MSt) : MSt ⊕ (Int × Int) :=
 if s.st.length < A5w k then .inr (3, 0)
 else if B7m k (s.st.drop (s.st.length - A5w k)) = true then mGo k a { s with at' := s.at' + 1, st := s.st.take (s.st.length - A5w k) } (s.st.drop (s.st.length - A5w k))
 else .inr (2, (A7j k).2.2)
def B7o (v : MV) : ByteArray := if v.k = 0 then ⟨(Lib.decDigits v.num.toNat).toArray⟩ else if v.k = 1 then (if v.num = 0 then ⟨#[70]⟩ else ⟨#[84]⟩) else if v.k = 2 then ⟨⟨[102, 117, 110, 99, 116, 105, 111, 110]⟩⟩ else ⟨⟨[112, 97, 105, 114]⟩⟩
def B7p (s : MSt) : ByteArray × Int × Int := if s.st.length ≠ 1 ∨ 0 < s.fr.length then (⟨#[]⟩, 3, 0) else (B7o (s.st.getD 0 mv0), 0, 0)
def B1c (ops : List (Int × Int)) : Nat → MSt → ByteArray × Int × Int
 | t, s => if (ops.length : Int) ≤ s.at' then B7p s else match t with
  | 0 => (⟨#[]⟩, 5, 0)
  | t + 1 => match B7n (ops.getD s.at'.toNat (0, 0)).1 (ops.getD s.at'.toNat (0, 0)).2 s with
   | .inl s' => B1c ops t s'
   | .inr (c, e) => (⟨#[]⟩, c, e)
def B7q (k behind : Int) : Int := if k = 1 then 999 else if k = 2 then 1 else if k = 3 then 11 else if k = 4 ∨ k = 9 ∨ k = 10 then behind else 0
def B7r (n : Nat) (i : Nat) (x : Int × Int) : Bool := decide (1 ≤ x.1 ∧ x.1 ≤ 13 ∧ 0 ≤ x.2 ∧ x.2 ≤ B7q x.1 ((n : Int) - 1 - i))
def B7s (ops : List (Int × Int)) : Bool := decide (1 ≤ ops.length ∧ ops.length ≤ 120) && (List.range ops.length).all fun i => B7r ops.length i (ops.getD i (0, 0))
def B79 (ops : List (Int × Int)) (ticks : Int) : ByteArray × Int × Int :=
 if B7s ops = true ∧ 0 ≤ ticks ∧ ticks ≤ 2000 then B1c ops ticks.toNat ⟨0, [], [], []⟩ else (⟨#[]⟩, 3, 0)
theorem B1d (k : Nat) : strOfNums [dgi k] = (⟨[UInt8.ofNat (48 + k % 10)].toArray⟩ : ByteArray) := by
 have : (dgi k).toNat = 48 + k % 10 := by unfold dgi; omega
 simp [strOfNums, this]
theorem B7t (a b : List UInt8) : (⟨a.toArray⟩ : ByteArray) ++ ⟨b.toArray⟩ = ⟨(a ++ b).toArray⟩ := by
 apply ByteArray.ext; simp
theorem B7u {k : Nat} {out : ByteArray} (h : 9 < k) : (⟨(Lib.decDigits (k / 10)).toArray⟩ : ByteArray) ++ (strOfNums [dgi k] ++ out) = ⟨(Lib.decDigits k).toArray⟩ ++ out := by
 have e : (⟨(Lib.decDigits k).toArray⟩ : ByteArray) = ⟨(Lib.decDigits (k / 10)).toArray⟩ ++ ⟨[UInt8.ofNat (48 + k % 10)].toArray⟩ := by
  rw [B7t (Lib.decDigits (k / 10))]
  congr 2
  rw [Lib.decDigits, dif_neg (by omega)]
 rw [e, B1d, ByteArray.append_assoc]
theorem B7v {k : Nat} {out : ByteArray} (h : ¬9 < k) : strOfNums [dgi k] ++ out = ⟨(Lib.decDigits k).toArray⟩ ++ out := by
 rw [B1d, Lib.decDigits, dif_pos (by omega), Nat.mod_eq_of_lt (by omega)]
theorem B7w {k : Nat} (h : ¬9 < k) : dgi k = 48 + (k : Int) := by unfold dgi; omega
theorem B7x (k : Nat) (hk : k < 10000) (G : IM) : Fn Tryz.prog 138 [.int .i64 (k : Int)] [] G (H0 (.string ⟨(Lib.decDigits k).toArray⟩) G) := by
 refine B2 Tryz.func138 rfl Tryz.ntmps138 Tryz.results138 rfl ?_
 intro w0
 refine D4 ?_
 refine sP (A2M rfl rfl (by omega)) rfl rfl ?_
 refine D4 ?_
 refine sP (A2M rfl rfl (by omega)) rfl rfl ?_
 refine I6 ?_
 refine B4 (K9 (fun (x : Nat × ByteArray) => ⟨[(0, .int .i64 (x.1 : Int)), (2, .string ⟨#[]⟩), (3, .string x.2)], [], G⟩) (fun x => x.1 < 10000 ∧ x.1 + x.2.size < 10020 ∧ (⟨(Lib.decDigits x.1).toArray⟩ : ByteArray) ++ x.2 = ⟨(Lib.decDigits k).toArray⟩) (fun x => x.1) (k, ⟨#[]⟩) ?_ ?_ ?_)
 (simp only [J6]; exact D1)
 (dsimp only; exact ⟨hk, by have : (⟨#[]⟩ : ByteArray).size = 0 := rfl; omega, ByteArray.append_empty⟩)
 (rintro ⟨j, out⟩ ⟨hj, hsz, hd⟩; simp only [] at hj hsz hd ⊢)
 refine tS (tS (tR (sQ (qM rfl) rfl ?_)))
 refine sB (X6 rfl rfl) rfl rfl (fun h41 => ?_) (fun h41 => ?_)
 refine sD (nS (qT rfl (tK (nS ?_))))
 refine B4 ?_
 refine tS (tR (sQ (qM rfl) rfl ?_))
 refine sP (A5U (n := 10) rfl rfl (by omega)) rfl rfl ?_
 refine sP (K2 rfl rfl (by omega) (by omega)) rfl rfl ?_
 refine sP (A7Q rfl rfl rfl (by omega) (by omega)) rfl rfl ?_
 (refine L9 (C9 rfl rfl rfl (by omega) (by unfold maxLen; omega) rfl) rfl ?_; rintro _ ⟨b54, rfl⟩)
 refine sL (A7R (xs := [dgi j]) rfl rfl rfl rfl rfl (P3 (by repeat first | exact mH | apply mT))) rfl rfl ?_
 refine sQ (qM rfl) rfl ?_
 (have hs1 := strOfNums_size [dgi j]; have hs2 : [dgi j].length = 1 := rfl; refine sP (A2J rfl rfl (by omega)) rfl rfl ?_)
 refine sQ (qA rfl) rfl (sD (nS (tR (sQ (qM rfl) rfl ?_))))
 refine sP (A5V (n := 10) rfl rfl (by omega) (by omega)) rfl rfl ?_
 refine sQ (qA rfl) rfl (sD (M8 ?_))
 refine K7 (j / 10, strOfNums [dgi j] ++ out) ?_ ?_ ?_
 (simp only [J6]; exact D1)
 (dsimp only; exact ⟨by omega, by (rw [ByteArray.size_append]; omega), by rw [← hd]; exact B7u (by omega)⟩)
 (show j / 10 < j; omega)
 refine I6 ?_
 refine sP (K2 rfl rfl (by omega) (by omega)) rfl rfl ?_
 refine sP (A7Q rfl rfl rfl (by omega) (by omega)) rfl rfl ?_
 (refine L9 (C9 rfl rfl rfl (by omega) (by unfold maxLen; omega) rfl) rfl ?_; rintro _ ⟨b84, rfl⟩)
 (have hs9 := B7w (k := j) (by omega); refine sL (A7R (xs := [48 + (j : Int)]) rfl rfl rfl rfl rfl (P3 (by repeat first | exact mH | apply mT))) rfl rfl ?_; rw [← hs9])
 refine sQ (qM rfl) rfl ?_
 (have hs1 := strOfNums_size [dgi j]; have hs2 : [dgi j].length = 1 := rfl; refine sP (A2J rfl rfl (by omega)) rfl rfl ?_)
 refine sQ (qA rfl) rfl (sD (nS (tT (D9 (rT rfl) ?_))))
 exact ⟨rfl, by rw [B7v (by omega), hd], rfl⟩
theorem B7y (k : Int) (nm : ByteArray) (num : Int) (ty fr : Ty) (lb : Int) (ks : List Tm) (G : IM) (cells : List Value) (hT : A0F G) (hk3 : k = 2 ∨ k = 3 ∨ k = 4) (hn : 0 ≤ num ∧ num ≤ 999) (hr : A8 G (.mk k nm num ty fr lb ks) cells) : Fn Tryz.prog 126 [.agg ⟨cells⟩] [] G (H0 (.string (A1S k num)) G) := by
 obtain ⟨tk, tks⟩ := ty
 obtain ⟨fk, fks⟩ := fr
 obtain ⟨pt, ct, pf, cf, p, c, es, rfl, hk, hnum, hlb, hty, hfr, hsl, hkl⟩ := hr.open9
 have hI := B2t num G hT hn.1 hn.2
 refine B2 Tryz.func126 rfl Tryz.ntmps126 Tryz.results126 rfl ?_
 intro w0
 refine tS (tR ?_)
 refine sE (B9 rfl rfl) rfl (fun b3 => ?_)
 refine sQ (qA rfl) rfl (sD (nS (tS (tR ?_))))
 refine sQ (A2I rfl rfl) rfl ?_
 refine I9 ?_
 refine B4 ?_
 refine tS (tR ?_)
 refine sP (H4 rfl rfl (by omega)) rfl rfl ?_
 refine sQ (qA rfl) rfl (sD (nS (cF rfl (tS (tR ?_)))))
 refine sB (qE rfl rfl) rfl rfl (fun h30 => ?_) (fun h30 => ?_)
 refine D3 ?_
 refine H3 rfl (hI) rfl rfl ?_
 refine sQ (qA rfl) rfl (sD (nS (tT (rB (rS (D9 (rT rfl) ?_))))))
 (exact ⟨rfl, by unfold A1S; rw [if_pos (by omega)]; rfl, rfl⟩)
 refine sQ (qA rfl) rfl (sD (nS (cF rfl (tS (tR ?_)))))
 refine sB (qE rfl rfl) rfl rfl (fun h54 => ?_) (fun h54 => ?_)
 refine J9 ?_
 (exact ⟨rfl, by unfold A1S; rw [if_neg (by omega), if_pos (by omega)]; rfl, rfl⟩)
 refine sQ (qA rfl) rfl (sD (nS (cF rfl (tS (tR ?_)))))
 refine sP (T5 rfl rfl (by omega)) rfl rfl ?_
 refine J9 ?_
 (exact ⟨rfl, by unfold A1S; rw [if_neg (by omega), if_neg (by omega)]; rfl, rfl⟩)
theorem B1e : ∀ (t : Tm) (G : IM) (cells : List Value), A0F G → cv t → C8 t = true → A8 G t cells → Fn Tryz.prog 58 [.agg ⟨cells⟩] [] G (H0 (.string (U3 t)) G) := by
 refine Tm.ind fun k nm num ty fr lb ks ih G cells hT hc hv hr => ?_
 have hr0 := hr
 have hP := A2D _ G _ hr
 obtain ⟨hN, hkk⟩ := hc.node
 have hop := hN.ops
 have h14 : k = 14 → ks.length = 1 := fun h => by rw [h] at hop; have : C7 14 = 1 := rfl; omega
 have hL := fun h => B7y k nm num ty fr lb ks G cells hT h hN.num0 hr
 have hvp := @A91 k nm num ty fr lb ks
 have hvf := @A92 k nm num ty fr lb ks
 have hvc := @A6S k nm num ty fr lb ks
 have hvl := @A93 k nm num ty fr lb ks
 have hvn := @A49 k nm num ty fr lb ks
 have hvy := @A34 k nm num ty fr lb ks
 have hprx := A2b k nm num ty fr lb ks
 have hinj := A48 k nm num ty fr lb ks
 have hleaf : R4 (.mk k nm num ty fr lb ks) = false → k ≠ 14 → k ≠ 10 → k ≠ 5 → k = 2 ∨ k = 3 ∨ k = 4 := by
  intro h1 h2 h3 h4
  have := hvn h3 h1 (by rw [hinj, decide_eq_false (by omega)]; rfl)
  rw [this] at hv
  have := of_decide_eq_true hv
  omega
 have hkv : R4 (.mk k nm num ty fr lb ks) = false → k = 14 → ∀ t ∈ ks, C8 t = true := by
  intro h1 h2 t ht
  cases hi : inj (.mk k nm num ty fr lb ks) with
  | true => have := hvy (.inr (.inr hi)); rw [hv] at this; exact List.all_eq_true.1 this.symm t ht
  | false =>
   have := hvn (by omega) h1 hi
   rw [hv] at this
   have := of_decide_eq_true this.symm
   omega
 generalize hpx : R4 (.mk k nm num ty fr lb ks) = bp at *
 obtain ⟨tk, tks⟩ := ty
 obtain ⟨fk, fks⟩ := fr
 obtain ⟨pt, ct, pf, cf, p, c, es, rfl, hk, hnum, hlb, hty, hfr, hsl, hkl⟩ := hr.open9
 refine B2 Tryz.func58 rfl Tryz.ntmps58 Tryz.results58 rfl ?_
 intro w0
 refine tS (tR ?_)
 refine sE (B9 rfl rfl) rfl (fun b3 => ?_)
 refine sQ (qA rfl) rfl (sD (nS (tS ?_)))
 refine B4 ?_
 refine tS (tR (sQ (B1 rfl) rfl (sL (C0 rfl rfl) rfl rfl ?_)))
 refine sB (qE rfl rfl) rfl rfl (fun h13 => ?_) (fun h13 => ?_)
 refine A1c ?_
 (exact ⟨rfl, congrArg Value.string (hvp (by first | exact .inl (by omega) | exact .inr ⟨by assumption, by assumption⟩)).symm, rfl⟩)
 refine sQ (qM rfl) rfl (sL (A2 rfl rfl) rfl rfl ?_)
 refine D8 rfl (hP) rfl rfl (fun h40 => ?_) (fun h40 => ?_)
 refine F0 ?_
 refine sB (qE rfl rfl) rfl rfl (fun h45 => ?_) (fun h45 => ?_)
 refine H9 ?_
 (exact ⟨rfl, congrArg Value.string (hvp (by first | exact .inl (by omega) | exact .inr ⟨by assumption, by assumption⟩)).symm, rfl⟩)
 refine I9 ?_
 refine sB (qE rfl rfl) rfl rfl (fun h72 => ?_) (fun h72 => ?_)
 refine T0 ?_
 (exact ⟨rfl, congrArg Value.string (hvf (by rintro (h | ⟨h1, h2⟩) <;> first | omega | exact Bool.noConfusion (h1.symm.trans (show bp = false by assumption)) | (simp only [Ty.k] at h2; omega)) (by first | exact .inl (by omega) | exact .inr (by assumption))).symm, rfl⟩)
 refine sQ (qM rfl) rfl (sL (A2 rfl rfl) rfl rfl ?_)
 refine D8 rfl (hP) rfl rfl (fun h93 => ?_) (fun h93 => ?_)
 refine J2 ?_
 (exact ⟨rfl, congrArg Value.string (hvf (by rintro (h | ⟨h1, h2⟩) <;> first | omega | exact Bool.noConfusion (h1.symm.trans (show bp = false by assumption)) | (simp only [Ty.k] at h2; omega)) (by first | exact .inl (by omega) | exact .inr (by assumption))).symm, rfl⟩)
 refine D4 ?_
 refine sB (qE rfl rfl) rfl rfl (fun h118 => ?_) (fun h118 => ?_)
 refine D3 ?_
 (have hl1 := h14 (by omega); obtain ⟨bx, ox, e, rfl, hl, hat, hre, hgb⟩ := hsl.kidTm hkl (i := 0) (by omega) (by omega); have hih := ih ks[0] (List.getElem_mem (by omega)) G e hT (hkk _ (List.getElem_mem (by omega))) (hkv (by assumption) (by omega) _ (List.getElem_mem (by omega))) hre; refine sP (B3 (j := 0) rfl rfl rfl (by omega)) rfl rfl ?_)
 refine sL (A1 rfl rfl (hat _) hl) rfl rfl ?_
 refine H3 rfl (hih) rfl rfl ?_
 refine sQ (qA rfl) rfl (sD (nS (tT (rB (rS (D9 (rT rfl) ?_))))))
 (exfalso; have h1 : bp = true := (by assumption); have h2 : bp = false := (by assumption); rw [h1] at h2; cases h2)
 refine I9 ?_
 refine H3 rfl ((hL (hleaf (by assumption) (by omega) (by omega) (by omega)))) rfl rfl ?_
 refine sQ (qA rfl) rfl (sD (nS (tT (D9 (rT rfl) ?_))))
 (exfalso; have h1 : bp = true := (by assumption); have h2 : bp = false := (by assumption); rw [h1] at h2; cases h2)
 refine H9 ?_
 refine sB (qE rfl rfl) rfl rfl (fun h170 => ?_) (fun h170 => ?_)
 refine T0 ?_
 (exact ⟨rfl, congrArg Value.string (hvf (by rintro (h | ⟨h1, h2⟩) <;> first | omega | exact Bool.noConfusion (h1.symm.trans (show bp = false by assumption)) | (simp only [Ty.k] at h2; omega)) (by first | exact .inl (by omega) | exact .inr (by assumption))).symm, rfl⟩)
 refine sQ (qM rfl) rfl (sL (A2 rfl rfl) rfl rfl ?_)
 refine D8 rfl (hP) rfl rfl (fun h191 => ?_) (fun h191 => ?_)
 refine J2 ?_
 (exfalso; have h1 : bp = true := (by assumption); have h2 : bp = false := (by assumption); rw [h1] at h2; cases h2)
 refine D4 ?_
 refine sB (qE rfl rfl) rfl rfl (fun h216 => ?_) (fun h216 => ?_)
 refine D3 ?_
 (have hl1 := h14 (by omega); obtain ⟨bx, ox, e, rfl, hl, hat, hre, hgb⟩ := hsl.kidTm hkl (i := 0) (by omega) (by omega); have hih := ih ks[0] (List.getElem_mem (by omega)) G e hT (hkk _ (List.getElem_mem (by omega))) (hkv (by assumption) (by omega) _ (List.getElem_mem (by omega))) hre; refine sP (B3 (j := 0) rfl rfl rfl (by omega)) rfl rfl ?_)
 refine sL (A1 rfl rfl (hat _) hl) rfl rfl ?_
 refine H3 rfl (hih) rfl rfl ?_
 refine sQ (qA rfl) rfl (sD (nS (tT (rB (rS (D9 (rT rfl) ?_))))))
 (exact ⟨rfl, congrArg Value.string (hvc (by assumption) (by omega) (by omega)).symm, rfl⟩)
 refine I9 ?_
 refine H3 rfl ((hL (hleaf (by assumption) (by omega) (by omega) (by omega)))) rfl rfl ?_
 refine sQ (qA rfl) rfl (sD (nS (tT (D9 (rT rfl) ?_))))
 (exact ⟨rfl, congrArg Value.string (hvl (by assumption) (by omega) (by omega) (by omega)).symm, rfl⟩)
theorem B1f (e : Tm) (fuel : Int) (G : IM) (cells : List Value) (hT : A0F G) (hr : A8 G e cells) : Fn Tryz.prog 22 [.agg ⟨cells⟩, .int .i64 fuel] [] G (A6W (A0d e fuel) G) := by
 have hRl := hr.len
 have hRo := hr.one
 have hno := @A98 e fuel
 have hyv := fun u t => @A6X e u t fuel
 have hyn := fun u t => @A5j e u t fuel
 refine B2 Tryz.func22 rfl Tryz.ntmps22 Tryz.results22 rfl ?_
 intro w0
 refine tS (tR ?_)
 refine sE (B9 rfl rfl) rfl (fun b3 => ?_)
 refine C2 ?_
 refine sL (A1 rfl rfl (A9 (by repeat first | exact mH | apply mT)) hRl) rfl rfl ?_
 focus (refine E0 rfl (B4Y e G cells hr) rfl rfl (fun v G1 hle1 hh => ?_); obtain ⟨cu, ct, rfl, hru, hrt⟩ := hh; rcases hI : T3 e with _ | ⟨u, t⟩; rotate_left; rw [hI] at hru hrt; simp only [Option.getD_some] at hru hrt; rotate_left; rw [hI] at hru hrt; simp only [Option.getD_none] at hru hrt; simp only [Option.isSome]; rotate_left; simp only [Option.isSome]; rotate_left; all_goals (have hul := hru.len; have huo := hru.one; obtain ⟨p3, c3, e3, rfl, _⟩ := hrt.open))
 refine F0 ?_
 refine sE (A5 rfl) rfl (fun b17 => ?_)
 refine sE (A5 rfl) rfl (fun b18 => ?_)
 refine sS rfl rfl rfl hul huo rfl ?_ (hu := by exact C3 hul.symm)
 refine A0D ?_
 refine C4 (rT rfl) (rT rfl) (rT rfl) ?_
 (exact ⟨rfl, by rw [hno (by first | exact hI | rfl | assumption)]⟩)
 refine F0 ?_
 refine sE (A5 rfl) rfl (fun b47 => ?_)
 refine sE (A5 rfl) rfl (fun b48 => ?_)
 refine sS rfl rfl rfl hul huo rfl ?_ (hu := by exact C3 hul.symm)
 refine K4 ?_
 refine sL (A1 rfl rfl (A9 (by repeat first | exact mH | apply mT)) hul) rfl rfl ?_
 refine sQ (qM rfl) rfl ?_
 (have hyv := hyv u t hI; have hyn := hyn u t hI; have hev := @B46 u fuel; refine E0 rfl (B4L u fuel G1 cu hru) rfl rfl (fun v G2 hle2 hh => ?_); obtain ⟨wc, hvv, hrw⟩ := hh; have hwl := hrw.len; have hwo := hrw.one; generalize S3 u fuel = r at hvv hrw hyv hyn hev; obtain ⟨w, c, l⟩ := r; simp only at hvv hrw hyv hyn hev; subst hvv)
 refine F0 ?_
 refine sE (A5 rfl) rfl (fun b73 => ?_)
 refine sS rfl rfl rfl hwl hwo rfl ?_ (hu := by exact C3 hwl.symm)
 refine D3 ?_
 refine sB (M7 rfl rfl) rfl rfl (fun h83 => ?_) (fun h83 => ?_)
 refine J2 ?_
 refine C4 (rT rfl) (rT rfl) (rT rfl) ?_
 (exact ⟨rfl, by rw [hyn (by omega)]⟩)
 refine sD (nS (cF rfl (tK (nS (tS (tR ?_))))))
 refine sL (A1 rfl rfl (A9 (by repeat first | exact mH | apply mT)) hwl) rfl rfl ?_
 (obtain ⟨he1, he2, he3⟩ := hev (by omega); refine H3 rfl (B1e w G2 wc (hT.mono (hle1.trans hle2)) (A0Q he1).1 he2 hrw) rfl rfl ?_)
 refine D3 ?_
 refine C4 (rT rfl) (rT rfl) (rT rfl) ?_
 (obtain rfl : c = 0 := (by omega); subst he3; exact ⟨rfl, by rw [hyv rfl]⟩)
theorem B7z : ∀ (t : Tm) (G : IM) (cells : List Value), cv t → C8 t = true → A8 G t cells → Fn Tryz.prog 67 [.agg ⟨cells⟩] [] G (H0 (.string (U3 t)) G) := by
 refine Tm.ind fun k nm num ty fr lb ks ih G cells hc hv hr => ?_
 have hr0 := hr
 have hP := B03 _ G _ hr
 obtain ⟨hN, hkk⟩ := hc.node
 have hI := B04 (.mk k nm num ty fr lb ks) G _ hN.frA hr
 have hop := hN.ops
 have hnum0 := hN.num0
 have h14 : k = 14 → ks.length = 1 := fun h => by rw [h] at hop; have : C7 14 = 1 := rfl; omega
 have hvp := @A91 k nm num ty fr lb ks
 have hvf := @A92 k nm num ty fr lb ks
 have hvc := @A6S k nm num ty fr lb ks
 have hvl := @A93 k nm num ty fr lb ks
 have hvn := @A49 k nm num ty fr lb ks
 have hvy := @B05 k nm num ty fr lb ks
 have hprx := A2b k nm num ty fr lb ks
 have hinj := A48 k nm num ty fr lb ks
 have h5 : k ≠ 10 → R4 (.mk k nm num ty fr lb ks) = false → inj (.mk k nm num ty fr lb ks) = false → k = 2 ∨ k = 3 ∨ k = 4 ∨ k = 5 := fun h1 h2 h3 => by
  have := hvn h1 h2 h3; rw [hv] at this; exact of_decide_eq_true this.symm
 have hdis : R4 (.mk k nm num ty fr lb ks) = true → inj (.mk k nm num ty fr lb ks) = false := fun h => by
  rw [hprx] at h; have := of_decide_eq_true h; rw [hinj, decide_eq_false (by omega)]; rfl
 have hik : inj (.mk k nm num ty fr lb ks) = true → k = 14 := fun h => A6I h
 have hpk : R4 (.mk k nm num ty fr lb ks) = true → k = 14 ∧ ty.k = fr.k := fun h => by rw [hprx] at h; have := of_decide_eq_true h; exact ⟨this.1, this.2.1.symm⟩
 have hkv := fun (h : inj (.mk k nm num ty fr lb ks) = true) => (hvy (.inr h) (h14 (hik h))).symm.trans hv
 obtain ⟨j, hj⟩ : ∃ j : Nat, num = j := ⟨num.toNat, by omega⟩
 have hdec := B7x j (by omega) G
 generalize hpx : R4 (.mk k nm num ty fr lb ks) = bp at *
 generalize hij : inj (.mk k nm num ty fr lb ks) = bi at *
 subst hj
 obtain ⟨tk, tks⟩ := ty
 obtain ⟨fk, fks⟩ := fr
 obtain ⟨pt, ct, pf, cf, p, c, es, rfl, hk, hnum, hlb, hty, hfr, hsl, hkl⟩ := hr.open9
 refine B2 Tryz.func67 rfl Tryz.ntmps67 Tryz.results67 rfl ?_
 intro w0
 refine tS (tR ?_)
 refine sE (B9 rfl rfl) rfl (fun b3 => ?_)
 refine sQ (qA rfl) rfl (sD (nS (tS ?_)))
 refine B4 ?_
 refine tS (tR (sQ (B1 rfl) rfl (sL (C0 rfl rfl) rfl rfl ?_)))
 refine sB (qE rfl rfl) rfl rfl (fun h13 => ?_) (fun h13 => ?_)
 refine D3 ?_
 refine H3 rfl (hdec) rfl rfl ?_
 refine sQ (qA rfl) rfl (sD (nS (tT (rB (rS (D9 (rT rfl) ?_))))))
 (have hbp : bp = false := (by cases hb : bp with | false => rfl | true => (have := (hpk hb).1; omega)); refine ⟨rfl, congrArg Value.string ?_, rfl⟩; rw [hvl hbp (by omega) (by omega) (by omega)]; unfold A1S; first | (rw [if_pos (by omega)]; rfl) | (rw [if_neg (by omega), if_pos (by omega)]; rfl) | (rw [if_neg (by omega), if_neg (by omega)]; rfl))
 refine D3 ?_
 refine sB (qE rfl rfl) rfl rfl (fun h39 => ?_) (fun h39 => ?_)
 refine J9 ?_
 (have hbp : bp = false := (by cases hb : bp with | false => rfl | true => (have := (hpk hb).1; omega)); refine ⟨rfl, congrArg Value.string ?_, rfl⟩; rw [hvl hbp (by omega) (by omega) (by omega)]; unfold A1S; first | (rw [if_pos (by omega)]; rfl) | (rw [if_neg (by omega), if_pos (by omega)]; rfl) | (rw [if_neg (by omega), if_neg (by omega)]; rfl))
 refine D3 ?_
 refine sB (qE rfl rfl) rfl rfl (fun h62 => ?_) (fun h62 => ?_)
 refine J9 ?_
 (have hbp : bp = false := (by cases hb : bp with | false => rfl | true => (have := (hpk hb).1; omega)); refine ⟨rfl, congrArg Value.string ?_, rfl⟩; rw [hvl hbp (by omega) (by omega) (by omega)]; unfold A1S; first | (rw [if_pos (by omega)]; rfl) | (rw [if_neg (by omega), if_pos (by omega)]; rfl) | (rw [if_neg (by omega), if_neg (by omega)]; rfl))
 refine D3 ?_
 refine sB (qE rfl rfl) rfl rfl (fun h85 => ?_) (fun h85 => ?_)
 refine A1c ?_
 (refine ⟨rfl, congrArg Value.string ?_, rfl⟩; rw [hvp (by first | exact .inl (by omega) | exact .inr ⟨by assumption, by have := (hpk (by assumption)).2; simp only [Ty.k] at this ⊢; omega⟩)]; rfl)
 refine sQ (qM rfl) rfl (sL (A2 rfl rfl) rfl rfl ?_)
 refine D8 rfl (hP) rfl rfl (fun h112 => ?_) (fun h112 => ?_)
 refine F0 ?_
 refine sB (qE rfl rfl) rfl rfl (fun h117 => ?_) (fun h117 => ?_)
 refine H9 ?_
 (refine ⟨rfl, congrArg Value.string ?_, rfl⟩; rw [hvp (by first | exact .inl (by omega) | exact .inr ⟨by assumption, by have := (hpk (by assumption)).2; simp only [Ty.k] at this ⊢; omega⟩)]; rfl)
 refine D4 ?_
 refine D8 rfl (hI) rfl rfl (fun h143 => ?_) (fun h143 => ?_)
 refine D3 ?_
 (have hl1 := h14 (hik (by assumption)); obtain ⟨bx, ox, e, rfl, hl, hat, hre, hgb⟩ := hsl.kidTm hkl (i := 0) (by omega) (by omega); have hih := ih ks[0] (List.getElem_mem (by omega)) G e (hkk _ (List.getElem_mem (by omega))) (hkv (by assumption)) hre; refine sP (B3 (j := 0) rfl rfl rfl (by omega)) rfl rfl ?_)
 refine sL (A1 rfl rfl (hat _) hl) rfl rfl ?_
 refine H3 rfl (hih) rfl rfl ?_
 refine sQ (qA rfl) rfl (sD (nS (tT (rB (rS (D9 (rT rfl) ?_))))))
 (have hbp : bp = false := (by cases hb : bp with | false => rfl | true => (have := hdis hb; have h9 : bi = true := (by assumption); rw [h9] at this; cases this)); refine ⟨rfl, congrArg Value.string ?_, rfl⟩; rw [hvc hbp (hik (by assumption)) (by omega)])
 refine J2 ?_
 (refine ⟨rfl, congrArg Value.string ?_, rfl⟩; rw [hvf (by rintro (h | ⟨h1, h2⟩) <;> first | omega | exact Bool.noConfusion (h1.symm.trans (show bp = false by assumption)) | (have := (hpk h1).2; simp only [Ty.k] at this h2; omega)) (by cases hb : bp with | true => exact .inr rfl | false => exact .inl (by have := h5 (by omega) hb (by assumption); omega))]; rfl)
 refine J2 ?_
 refine D8 rfl (hI) rfl rfl (fun h192 => ?_) (fun h192 => ?_)
 refine D3 ?_
 (have hl1 := h14 (hik (by assumption)); obtain ⟨bx, ox, e, rfl, hl, hat, hre, hgb⟩ := hsl.kidTm hkl (i := 0) (by omega) (by omega); have hih := ih ks[0] (List.getElem_mem (by omega)) G e (hkk _ (List.getElem_mem (by omega))) (hkv (by assumption)) hre; refine sP (B3 (j := 0) rfl rfl rfl (by omega)) rfl rfl ?_)
 refine sL (A1 rfl rfl (hat _) hl) rfl rfl ?_
 refine H3 rfl (hih) rfl rfl ?_
 refine sQ (qA rfl) rfl (sD (nS (tT (rB (rS (D9 (rT rfl) ?_))))))
 (have hbp : bp = false := (by cases hb : bp with | false => rfl | true => (have := hdis hb; have h9 : bi = true := (by assumption); rw [h9] at this; cases this)); refine ⟨rfl, congrArg Value.string ?_, rfl⟩; rw [hvc hbp (hik (by assumption)) (by omega)])
 refine J2 ?_
 (refine ⟨rfl, congrArg Value.string ?_, rfl⟩; rw [hvf (by rintro (h | ⟨h1, h2⟩) <;> first | omega | exact Bool.noConfusion (h1.symm.trans (show bp = false by assumption)) | (have := (hpk h1).2; simp only [Ty.k] at this h2; omega)) (by cases hb : bp with | true => exact .inr rfl | false => exact .inl (by have := h5 (by omega) hb (by assumption); omega))]; rfl)
theorem B7A (k : Int) (ks : List Tm) : (U5 k ks).2.1 ≠ 0 := by
 unfold U5; split
 ·show (1 : Int) ≠ 0; decide
 ·show (2 : Int) ≠ 0; decide
mutual
theorem B1g : ∀ e : Tm, (H1 e).2.1 ≠ 0
 | .mk k nm num ty fr lb ks => by
  rw [H1]
  split
  ·rename_i h
   split
   ·show (1 : Int) ≠ 0; decide
   ·exact B1h _ ks _ _ _ h
  ·exact B7A _ _
theorem B1h : ∀ (n : Nat) (ks us : List Tm) (c l : Int), V9 n ks = some (us, c, l) → c ≠ 0
 | _, [], us, c, l, h => by rw [V9] at h; cases h
 | 0, t :: ts, us, c, l, h => by rw [V9] at h; cases h
 | n + 1, t :: ts, us, c, l, h => by
  rw [V9] at h
  split at h
  ·split at h
   ·rename_i h1; cases h; exact B1h n ts _ _ _ h1
   ·cases h
  ·cases h; exact B1g t
end
theorem B1i {e : Tm} (h : (H2 e).2.1 = 0) : M9 (H2 e).1 = true ∧ C8 (H2 e).1 = true := by
 unfold H2 at h ⊢
 split at h
 ·simp at h
 ·split at h
  ·rename_i h1 h2; rw [if_neg h1, if_pos h2]; exact ⟨by simpa using h1, h2⟩
  ·split at h
   ·exact absurd h (B1g e)
   ·split at h <;> simp at h
theorem B1j : ∀ (n : Nat) (e : Tm), (I4 n e).2.1 = 0 → M9 (I4 n e).1 = true ∧ C8 (I4 n e).1 = true
 | 0, e, h => by
  rw [I4] at h ⊢
  by_cases h1 : (H2 e).2.1 = 1
  ·rw [if_pos h1] at h; simp at h
  ·rw [if_neg h1] at h ⊢; exact B1i h
 | n + 1, e, h => by
  rw [I4] at h ⊢
  by_cases h1 : (H2 e).2.1 = 1
  ·rw [if_pos h1] at h ⊢; exact B1j n _ h
  ·rw [if_neg h1] at h ⊢; exact B1i h
theorem B1k {e : Tm} {fuel : Int} (h : (Q4 e fuel).2.1 = 0) : M9 (Q4 e fuel).1 = true ∧ C8 (Q4 e fuel).1 = true := by
 cases hf : P8 fuel 0 300 with
 | false => rw [A7i hf] at h; simp at h
 | true => rw [A5v hf] at h ⊢; exact B1j _ _ h
theorem B7B {e : Tm} {fuel : Int} (h : P8 fuel 0 300 = true) (h1 : (R0 fuel.toNat e).2.1 = 1) : Q4 e fuel = (F4, 5, 0) := by
 rw [A5v h, B0f _ _ h1]
theorem B7C {e : Tm} {fuel : Int} (h : P8 fuel 0 300 = true) (h1 : (R0 fuel.toNat e).2.1 ≠ 1) : Q4 e fuel = ((R0 fuel.toNat e).1, (R0 fuel.toNat e).2.1, (R0 fuel.toNat e).2.2.1) := by
 rw [A5v h, B0g _ _ h1]
theorem B1l {e : Tm} (h : (N9 e || J3 e) = true) : A3l e = (H8 e, true) := by
 unfold A3l; rw [if_pos (by simpa using h)]
theorem B1m {e : Tm} (h : (N9 e || J3 e) = false) : A3l e = (F4, false) := by
 unfold A3l; rw [if_neg (by simpa using h)]
theorem B7D (e : Tm) (n : Nat) (hn : n ≤ 300) (G : IM) (cells : List Value) (hr : A8 G e cells) : Fn Tryz.prog 135 [.agg ⟨cells⟩, .int .i64 (n : Int)] [] G (EvP (R0 n e)) := by
 have hRl := hr.len
 have hRo := hr.one
 refine B2 Tryz.func135 rfl Tryz.ntmps135 Tryz.results135 rfl ?_
 intro w0
 refine tS (tR ?_)
 refine sE (B9 rfl rfl) rfl (fun b3 => ?_)
 refine sE (A5 rfl) rfl (fun b4 => ?_)
 refine I9 ?_
 refine B4 ?_
 (refine K9 (fun (x : Nat × Tm × List Value × IM) => ⟨[(8, .int .i64 (x.1 : Int)), (1, .int .i64 (n : Int)), (2, .pointer (some ⟨b3, 0, none⟩)), (4, .pointer (some ⟨b4, 0, none⟩))], [.blk b3 x.2.2.1, .blk b4 [.int .i64 0, .string ⟨⟨[]⟩⟩, .int .i64 0, .int .i64 0, .slice none 0 0, .int .i64 0, .slice none 0 0, .int .i64 0, .slice none 0 0]], x.2.2.2⟩) (fun x => x.1 ≤ n ∧ B6 G x.2.2.2 ∧ A8 x.2.2.2 x.2.1 x.2.2.1 ∧ W4 x.1 (R0 (n - x.1) x.2.1) = R0 n e) (fun x => n - x.1) (0, e, cells, G) ?_ ?_ ?_)
 (simp only [J6]; exact D1)
 (exact ⟨Nat.zero_le _, B6.refl _, hr, rfl⟩)
 (rintro ⟨i, u, uc, Gi⟩ ⟨hi, hle, hru, hev⟩; simp only [] at hi hle hru hev ⊢; have hul := hru.len; have huo := hru.one)
 refine tS ?_
 refine B4 ?_
 refine tS (tR ?_)
 refine sL (A1 rfl rfl (A9 (by repeat first | exact mH | apply mT)) hul) rfl rfl ?_
 (refine E0 rfl (B6B u Gi uc hru) rfl rfl (fun v G1 hle1 hh => ?_); obtain ⟨wc, hv, hrw⟩ := hh; have hwl := hrw.len; have hwo := hrw.one; have hend := @B5e (n - i) i u; have hgo := @B5f (n - i) i u; generalize H2 u = r at hv hrw hend hgo; obtain ⟨w, c, l⟩ := r; simp only at hv hrw hend hgo; subst hv)
 refine F0 ?_
 refine sE (A5 rfl) rfl (fun b30 => ?_)
 refine sS rfl rfl rfl hwl hwo rfl ?_ (hu := by exact C3 hwl.symm)
 refine D3 ?_
 refine sB (M7 rfl rfl) rfl rfl (fun h40 => ?_) (fun h40 => ?_)
 refine I9 ?_
 refine sL (A1 rfl rfl (A9 (by repeat first | exact mH | apply mT)) hwl) rfl rfl ?_
 refine sQ (qM rfl) rfl (sQ (qM rfl) rfl (sQ (qM rfl) rfl ?_))
 refine sS rfl rfl rfl hwl hwo rfl ?_ (hu := by exact C3 hwl.symm)
 refine I6 ?_
 refine A29 (rC rfl (A1 rfl rfl (A9 (by repeat first | exact mH | apply mT)) hwl)) (rT rfl) (rT rfl) (rT rfl) ?_
 (exact EvP.mk (by rw [← hev]; exact hend (by omega)) hrw)
 refine sQ (qM rfl) rfl (sQ (qM rfl) rfl (sQ (qM rfl) rfl ?_))
 refine sB (qE rfl rfl) rfl rfl (fun h72 => ?_) (fun h72 => ?_)
 refine sQ (O3 rfl rfl) rfl (sD (nS (qT rfl (tS (tR ?_)))))
 refine sL (A1 rfl rfl (A9 (by repeat first | exact mH | apply mT)) hwl) rfl rfl ?_
 refine sQ (qM rfl) rfl (sQ (qM rfl) rfl (sQ (qM rfl) rfl ?_))
 refine sS rfl rfl rfl hwl hwo rfl ?_ (hu := by exact C3 hwl.symm)
 refine I6 ?_
 refine A29 (rC rfl (A1 rfl rfl (A9 (by repeat first | exact mH | apply mT)) hwl)) (rT rfl) (rT rfl) (rT rfl) ?_
 (exact EvP.mk (by rw [← hev]; exact hend (by omega)) hrw)
 refine sQ (O3 rfl rfl) rfl (sD (nS (cF rfl (tK (nS (tR ?_))))))
 refine sL (A1 rfl rfl (A9 (by repeat first | exact mH | apply mT)) hwl) rfl rfl ?_
 refine X7 rfl rfl rfl hwl hwo rfl (by repeat first | exact Sw.here | apply Sw.there) (by exact C3 (hul.trans hwl.symm)) ?_
 refine sD (M8 (nS (tR (sQ (qM rfl) rfl ?_))))
 refine sP (K2 rfl rfl (by omega) (by omega)) rfl rfl ?_
 refine sQ (qA rfl) rfl (sD ?_)
 refine K7 (i + 1, w, wc, G1) ?_ ?_ ?_
 (simp only [J6]; exact D1)
 (dsimp only; exact ⟨by omega, hle.trans hle1, hrw, by rw [← hev, hgo (by omega) (by omega), show n - (i + 1) = n - i - 1 by omega]⟩)
 (show n - (i + 1) < n - i; omega)
theorem B7E (e : Tm) (fuel : Int) (G : IM) (cells : List Value) (hr : A8 G e cells) : Fn Tryz.prog 64 [.agg ⟨cells⟩, .int .i64 fuel] [] G (K5 (Q4 e fuel)) := by
 have hRl := hr.len
 have hRo := hr.one
 have hno := @A7i e fuel
 have hmu := @B7B e fuel
 have hen := @B7C e fuel
 refine B2 Tryz.func64 rfl Tryz.ntmps64 Tryz.results64 rfl ?_
 intro w0
 refine tS (tR ?_)
 refine sE (B9 rfl rfl) rfl (fun b3 => ?_)
 refine sE (A5 rfl) rfl (fun b4 => ?_)
 refine D3 ?_
 refine D8 rfl ((A9O fuel _)) rfl rfl (fun h13 => ?_) (fun h13 => ?_)
 refine sQ (Z3 rfl) rfl (sD (nS (cF rfl (tK (nS (tS (tR ?_)))))))
 refine sL (A1 rfl rfl (A9 (by repeat first | exact mH | apply mT)) hRl) rfl rfl ?_
 refine sQ (qM rfl) rfl ?_
 (have hf : P8 fuel 0 300 = true := (by assumption); have hf2 := A2Q hf; have hE := B7D e fuel.toNat (by omega) G cells hr; rw [Int.toNat_of_nonneg hf2.1] at hE; refine E0 rfl hE rfl rfl (fun v G1 hle1 hh => ?_); obtain ⟨wc, hv, hrw⟩ := hh; have hwl := hrw.len; have hwo := hrw.one; have hmu := hmu hf; have hen := hen hf; generalize R0 fuel.toNat e = r at hv hrw hmu hen; obtain ⟨w, c, l, i⟩ := r; simp only at hv hrw hmu hen; subst hv)
 refine R1 ?_
 refine sE (A5 rfl) rfl (fun b30 => ?_)
 refine sS rfl rfl rfl hwl hwo rfl ?_ (hu := by exact C3 hwl.symm)
 refine D4 ?_
 refine sB (qE rfl rfl) rfl rfl (fun h41 => ?_) (fun h41 => ?_)
 refine J9 ?_
 refine C4 (rC rfl (A2 rfl rfl)) (rT rfl) (rT rfl) ?_
 (exact K5.mk (hmu (by omega)) (L7 _))
 refine sD (nS (cF rfl (tK (nS (tS (tR ?_))))))
 refine sL (A1 rfl rfl (A9 (by repeat first | exact mH | apply mT)) hwl) rfl rfl ?_
 refine sQ (qM rfl) rfl (sQ (qM rfl) rfl ?_)
 refine sS rfl rfl rfl hwl hwo rfl ?_ (hu := by exact C3 hwl.symm)
 refine sQ (qA rfl) rfl (sQ (qA rfl) rfl (sD (nS (tT ?_))))
 refine C4 (rC rfl (A1 rfl rfl (A9 (by repeat first | exact mH | apply mT)) hwl)) (rT rfl) (rT rfl) ?_
 (exact K5.mk (hen (by omega)) hrw)
 refine J2 ?_
 refine C4 (rC rfl (A2 rfl rfl)) (rT rfl) (rT rfl) ?_
 (exact K5.mk (hno (by assumption)) (L7 _))
theorem B1n (e : Tm) (fuel : Int) (G : IM) (cells : List Value) (hT : A0F G) (hts : e.small) (hr : A8 G e cells) : Fn Tryz.prog 20 [.agg ⟨cells⟩, .int .i64 fuel] [] G (A6W (A0m e fuel) G) := by
 have hRl := hr.len
 have hRo := hr.one
 have hno := @B0Z e fuel
 have hyv := @A5u e fuel
 have hyn := @A4d e fuel
 have hB := B7i e G cells hts hr
 have hby := @B1l e
 have hbn := @B1m e
 generalize (N9 e || J3 e) = ok at hno hyv hyn hby hbn
 cases ok
 ·have hno := hno rfl
  rw [hbn rfl] at hB
  refine B2 Tryz.func20 rfl Tryz.ntmps20 Tryz.results20 rfl ?_
  intro w0
  refine tS (tR ?_)
  refine sE (B9 rfl rfl) rfl (fun b3 => ?_)
  refine C2 ?_
  refine sL (A1 rfl rfl (A9 (by repeat first | exact mH | apply mT)) hRl) rfl rfl ?_
  (refine E0 rfl hB rfl rfl (fun v G1 hle1 hh => ?_); obtain ⟨bc, F1, rfl, hs1, hn1⟩ := hh; have hul := hs1.R.len; have huo := hs1.R.one)
  refine K3 ?_
  refine sE (A5 rfl) rfl (fun b16 => ?_)
  refine sS rfl rfl rfl hul huo rfl ?_ (hu := by exact C3 hul.symm)
  refine A0u ?_
  refine C4 (rT rfl) (rT rfl) (rT rfl) ?_
  (exact ⟨rfl, by rw [hno]⟩)
 ·have hyv := hyv rfl
  have hyn := hyn rfl
  rw [hby rfl] at hB
  have hev := @B1k (H8 e) fuel
  refine B2 Tryz.func20 rfl Tryz.ntmps20 Tryz.results20 rfl ?_
  intro w0
  refine tS (tR ?_)
  refine sE (B9 rfl rfl) rfl (fun b3 => ?_)
  refine C2 ?_
  refine sL (A1 rfl rfl (A9 (by repeat first | exact mH | apply mT)) hRl) rfl rfl ?_
  (refine E0 rfl hB rfl rfl (fun v G1 hle1 hh => ?_); obtain ⟨bc, F1, rfl, hs1, hn1⟩ := hh; have hul := hs1.R.len; have huo := hs1.R.one)
  refine K3 ?_
  refine sE (A5 rfl) rfl (fun b16 => ?_)
  refine sS rfl rfl rfl hul huo rfl ?_ (hu := by exact C3 hul.symm)
  refine H9 ?_
  refine sL (A1 rfl rfl (A9 (by repeat first | exact mH | apply mT)) hul) rfl rfl ?_
  refine sQ (qM rfl) rfl ?_
  (refine E0 rfl (B7E (H8 e) fuel G1 bc (hs1.R.mono (C1.le _ _))) rfl rfl (fun v G2 hle2 hh => ?_); obtain ⟨wc, hvv, hrw⟩ := hh; have hwl := hrw.len; have hwo := hrw.one; generalize Q4 (H8 e) fuel = r at hvv hrw hyv hyn hev; obtain ⟨w, c, l⟩ := r; simp only at hvv hrw hyv hyn hev; subst hvv)
  refine F0 ?_
  refine sE (A5 rfl) rfl (fun b40 => ?_)
  refine sS rfl rfl rfl hwl hwo rfl ?_ (hu := by exact C3 hwl.symm)
  refine D3 ?_
  refine sB (M7 rfl rfl) rfl rfl (fun h50 => ?_) (fun h50 => ?_)
  refine J2 ?_
  refine C4 (rT rfl) (rT rfl) (rT rfl) ?_
  (exact ⟨rfl, by rw [hyn (by omega)]⟩)
  refine sD (nS (cF rfl (tK (nS (tS (tR ?_))))))
  refine sL (A1 rfl rfl (A9 (by repeat first | exact mH | apply mT)) hwl) rfl rfl ?_
  (obtain ⟨he1, he2⟩ := hev (by omega); refine H3 rfl (B1e w G2 wc (hT.mono (hle1.trans hle2)) (A0Q (A0S he1).1).1 he2 hrw) rfl rfl ?_)
  refine D3 ?_
  refine C4 (rT rfl) (rT rfl) (rT rfl) ?_
  (obtain rfl : c = 0 := (by omega); exact ⟨rfl, by rw [hyv rfl]⟩)
theorem B1o (e : Tm) (fuel : Int) (G : IM) (cells : List Value) (hts : e.small) (hcnt : C6 e ≤ 4294967296) (hr : A8 G e cells) : Fn Tryz.prog 21 [.agg ⟨cells⟩, .int .i64 fuel] [] G (A6W (A0m e fuel) G) := by
 have hRl := hr.len
 have hRo := hr.one
 have hno := @B0Z e fuel
 have hyv := @A5u e fuel
 have hyn := @A4d e fuel
 have hB := B7l e G cells hts hcnt hr
 have hby := @B1l e
 have hbn := @B1m e
 generalize (N9 e || J3 e) = ok at hno hyv hyn hby hbn
 cases ok
 ·have hno := hno rfl
  rw [hbn rfl] at hB
  refine B2 Tryz.func21 rfl Tryz.ntmps21 Tryz.results21 rfl ?_
  intro w0
  refine tS (tR ?_)
  refine sE (B9 rfl rfl) rfl (fun b3 => ?_)
  refine C2 ?_
  refine sL (A1 rfl rfl (A9 (by repeat first | exact mH | apply mT)) hRl) rfl rfl ?_
  (refine E0 rfl hB rfl rfl (fun v G1 hle1 hh => ?_); obtain ⟨bc, F1, rfl, hs1, hn1⟩ := hh; have hul := hs1.R.len; have huo := hs1.R.one)
  refine K3 ?_
  refine sE (A5 rfl) rfl (fun b16 => ?_)
  refine sS rfl rfl rfl hul huo rfl ?_ (hu := by exact C3 hul.symm)
  refine A0u ?_
  refine C4 (rT rfl) (rT rfl) (rT rfl) ?_
  (exact ⟨rfl, by rw [hno]⟩)
 ·have hyv := hyv rfl
  have hyn := hyn rfl
  rw [hby rfl] at hB
  have hev := @B1k (H8 e) fuel
  have hbc := (A4O e hts).2
  refine B2 Tryz.func21 rfl Tryz.ntmps21 Tryz.results21 rfl ?_
  intro w0
  refine tS (tR ?_)
  refine sE (B9 rfl rfl) rfl (fun b3 => ?_)
  refine C2 ?_
  refine sL (A1 rfl rfl (A9 (by repeat first | exact mH | apply mT)) hRl) rfl rfl ?_
  (refine E0 rfl hB rfl rfl (fun v G1 hle1 hh => ?_); obtain ⟨bc, F1, rfl, hs1, hn1⟩ := hh; have hul := hs1.R.len; have huo := hs1.R.one)
  refine K3 ?_
  refine sE (A5 rfl) rfl (fun b16 => ?_)
  refine sS rfl rfl rfl hul huo rfl ?_ (hu := by exact C3 hul.symm)
  refine H9 ?_
  refine sL (A1 rfl rfl (A9 (by repeat first | exact mH | apply mT)) hul) rfl rfl ?_
  refine sQ (qM rfl) rfl ?_
  (refine E0 rfl (B7d (H8 e) fuel G1 bc (by omega) (hs1.R.mono (C1.le _ _))) rfl rfl (fun v G2 hle2 hh => ?_); obtain ⟨wc, hvv, hrw⟩ := hh; have hwl := hrw.len; have hwo := hrw.one; generalize Q4 (H8 e) fuel = r at hvv hrw hyv hyn hev; obtain ⟨w, c, l⟩ := r; simp only at hvv hrw hyv hyn hev; subst hvv)
  refine F0 ?_
  refine sE (A5 rfl) rfl (fun b40 => ?_)
  refine sS rfl rfl rfl hwl hwo rfl ?_ (hu := by exact C3 hwl.symm)
  refine D3 ?_
  refine sB (M7 rfl rfl) rfl rfl (fun h50 => ?_) (fun h50 => ?_)
  refine J2 ?_
  refine C4 (rT rfl) (rT rfl) (rT rfl) ?_
  (exact ⟨rfl, by rw [hyn (by omega)]⟩)
  refine sD (nS (cF rfl (tK (nS (tS (tR ?_))))))
  refine sL (A1 rfl rfl (A9 (by repeat first | exact mH | apply mT)) hwl) rfl rfl ?_
  (obtain ⟨he1, he2⟩ := hev (by omega); refine H3 rfl (B7z w G2 wc (A0Q (A0S he1).1).1 he2 hrw) rfl rfl ?_)
  refine D3 ?_
  refine C4 (rT rfl) (rT rfl) (rT rfl) ?_
  (obtain rfl : c = 0 := (by omega); exact ⟨rfl, by rw [hyv rfl]⟩)
def B8a (G : IM) : IM → Value → List A4 → Prop := L5 fun G' v => ∃ a ca b cb f, v = .tuple ⟨[.agg ⟨ca⟩, .agg ⟨cb⟩, .int .i64 f]⟩ ∧ A8 G' a ca ∧ a.fit 1100 ∧ A8 G' b cb ∧ b.fit 1100 ∧ E6 f
def B8b (G : IM) : IM → Value → List A4 → Prop := L5 fun G' v => ∃ a ca b cb d cd, v = .tuple ⟨[.agg ⟨ca⟩, .agg ⟨cb⟩, .agg ⟨cd⟩]⟩ ∧ A8 G' a ca ∧ a.fit 1100 ∧ A8 G' b cb ∧ b.fit 1100 ∧ A8 G' d cd ∧ d.fit 1100
def B7F (N : Nat) (G : IM) : IM → Value → List A4 → Prop := L5 fun G' v => ∃ a ca f, v = .tuple ⟨[.agg ⟨ca⟩, .int .i64 f]⟩ ∧ A8 G' a ca ∧ a.fit N ∧ E6 f
end Gw
end Go.Proofs.YtfpgncjeejickaaGreatDoor
