/-
  The reference's evaluator: ground types, values, casts, replacing a name. The reference's evaluator: steps of nodes whose operands are values. The reference's evaluator: a step, runs of steps, RunTerm. The reference's StepCast, EvalCast, RunTerm. CompareRuns, on both sides. Runs of terms of which one is more precise. A static term gets no casts, so it does not fail: the plain law. Drawn arguments of runs. The law FnRunStatic.
-/
import Derived.Test.YthpdjmbpbdbodaaGreatDoorKf5
import Derived.Test.YthpdjmbpbdbodaaGreatDoorKf6
import Derived.Test.YthpdjmbpbdbodaaGreatDoorKf7
set_option linter.unusedVariables false
set_option linter.unusedSimpArgs false
set_option maxHeartbeats 0
set_option maxRecDepth 100000
set_option synthInstance.maxSize 4000
set_option synthInstance.maxHeartbeats 0
namespace Go.Proofs.YthpdjmbpbdbodaaGreatDoor
open Go Go.RowKit
namespace Gw
theorem B4m {t : Ty} (ha : E2 t) : R9 t = .mk t.k (List.replicate t.ks.length P3) := by
 obtain ⟨k, ks⟩ := t
 rw [E2] at ha
 show (if k = 4 ∨ k = 5 then Ty.mk k [P3, P3] else .mk k []) = _
 show _ = Ty.mk k (List.replicate ks.length P3)
 split
 ·rename_i h; rw [ha.1 h]; rfl
 ·rename_i h
  rw [ha.2.1 (fun e => h (.inl e)) (fun e => h (.inr e))]; rfl
theorem A6d (t : Ty) (G : IM) (cells : List Value) (ha : E2 t) (hr : B7 G t cells) : Fn Tryz.prog 163 [.agg ⟨cells⟩] [] G (A5F (R9 t) G) := by
 rw [B4m ha]
 obtain ⟨tk, tks⟩ := t
 have hsm := ha.small
 rw [Ty.small] at hsm
 obtain ⟨hsm1, _⟩ := hsm
 obtain ⟨p, c, es, rfl, hk, hsl, hkl⟩ := hr.open
 simp only [Ty.k, Ty.ks] at hk hsl hkl ⊢
 have hn := hsl.le
 refine C0 Tryz.func163 rfl Tryz.ntmps163 Tryz.results163 rfl ?_
 intro w0
 refine tS (tR ?_)
 refine sE (C5 rfl rfl) rfl (fun b3 => ?_)
 refine sE (A7 rfl) rfl (fun b4 => ?_)
 refine sD (nS (tS (tR (sQ (A0 rfl) rfl (sL (A3 rfl rfl) rfl rfl (sQ (H6 rfl rfl) rfl ?_))))))
 refine sE (A7 rfl) rfl (fun b12 => ?_)
 refine B1 ?_
 refine sD (nS (tS (tS (tR (sQ (qA rfl) rfl (sD (nS ?_)))))))
 refine B9 ?_
 (refine S0 25 2 ?_; refine J4 (fun (x : Nat × Option Addr × Nat × List (List Value)) => ⟨[(4, .int .i64 x.1), (3, .pointer (some ⟨b12, 0, none⟩)), (1, .pointer (some ⟨b3, 0, none⟩)), (2, .pointer (some ⟨b4, 0, none⟩))], [.blk b12 [.int .i64 tk, .slice x.2.1 x.1 x.2.2.1], .slc x.2.1 x.2.2.1 25 2 x.1 x.2.2.2.flatten, .blk b4 [.int .i64 0, .slice none 0 0], .blk b3 [.int .i64 tk, .slice p tks.length c]], G⟩) (fun x => x.1 ≤ tks.length ∧ C6 G (List.replicate x.1 P3) x.2.2.2) (fun x => tks.length - x.1) (0, none, 0, []) ?_ ?_ ?_)
 (simp only [I3]; exact D9)
 (exact ⟨Nat.zero_le _, rfl⟩)
 (rintro ⟨i, pn, cn, es'⟩ ⟨hi, hst⟩; simp only [] at hi hst ⊢; have hsl' := hst.len; rw [List.length_replicate] at hsl')
 refine tS (tS (tR (sQ (qM rfl) rfl (sQ (A0 rfl) rfl (sL (A3 rfl rfl) rfl rfl (sQ (H8 rfl rfl) rfl ?_))))))
 refine sB (J1 rfl rfl) rfl rfl (fun h34 => ?_) (fun h34 => ?_)
 refine sD (nS (qT rfl (tK (nS (tS ?_)))))
 refine B9 ?_
 refine D4 D6 rfl ?_
 refine I6 (i := 0) (l' := [tt,ff,ff,ff,ff,ff,ff]) rfl C9 (A0 rfl) rfl (by kernel_rfl) rfl rfl ?_
 refine aL 1 rfl (A3 rfl rfl) rfl ?_
 refine A4 2 ?_
 refine M7 rfl rfl ((A1s _)) rfl rfl rfl ?_
 refine A4 3 ?_
 (refine E0 rfl (C7 rfl rfl rfl (by omega) (by unfold maxLen; omega) rfl) rfl rfl ?_; rintro _ ⟨b48, rfl⟩)
 refine A4 4 ?_
 refine Q2 rfl rfl rfl rfl rfl rfl (fun _ _ => by repeat (first | exact Sw.here | apply Sw.there)) (M9 (by repeat first | exact mH | apply mT)) rfl (by simp [Value.oneCell']) (by unfold maxLen; omega) (by omega) rfl rfl (by repeat (first | exact A8.nil | apply A8.dep (by decide +kernel) | apply A8.im (by decide +kernel) (by assumption) (by repeat first | exact mH | apply mT) | apply A8.blk (by decide +kernel) (by repeat (first | exact Pk.here | apply Pk.there)) (by repeat first | exact mH | apply mT) | apply A8.slc (by decide +kernel) (by repeat (first | exact Pk.here | apply Pk.there)) (by repeat first | exact mH | apply mT))) (fun pn' cn' => ?_)
 refine aP 5 rfl (A0 rfl) rfl ?_
 refine A4 6 ?_
 refine Q6 rfl rfl rfl rfl rfl rfl rfl rfl (by decide +kernel) (by repeat first | exact Sw.here | apply Sw.there) (by rfl) ?_
 refine B5 (E3 (nS (tR (sQ (qM rfl) rfl ?_))))
 refine sP (I7 rfl rfl (by omega) (by omega)) rfl rfl ?_
 refine sQ (qA rfl) rfl (sD ?_)
 refine J3 (i + 1, pn', cn', es' ++ [[.int .i64 1, .slice none 0 0]]) ?_ ?_ ?_
 (simp only [I3]; exact D9)
 (dsimp only; exact ⟨by omega, by rw [List.replicate_succ']; exact C6.snoc hst (A0o _)⟩)
 (show tks.length - (i + 1) < tks.length - i; omega)
 refine sD (nS (cF rfl (M3 (M5 (N7 (M6 (nS (tS (tR (sL (A2 rfl rfl) rfl rfl (B1 ?_)))))))))))
 refine sD (nS ?_)
 (refine E9 (cs := es'.flatten) (by repeat (first | exact Pk.here | apply Pk.there)) (fun G2 hle2 hsl2 hno2 => ?_); obtain rfl : i = tks.length := (by omega))
 refine tT ?_
 refine A9 (rC rfl (A2 rfl rfl)) ?_
 (exact ⟨rfl, _, rfl, (hst.mono hle2).ty (by simp) hsl2 hk⟩)
theorem A9v (t : Ty) (G : IM) (cells : List Value) (ha : E2 t) (hr : B7 G t cells) : Fn Tryz.prog 132 [.agg ⟨cells⟩] [] G (H4 (.bool (S3 t)) G) := by
 refine Fn.forget (post := L8 fun _ v => v = .bool (S3 t)) ?_ (fun _ _ _ h => h.2)
 have hr0 := hr
 have hG := A6d t G cells ha hr
 obtain ⟨tk, tks⟩ := t
 obtain ⟨p, c, es, rfl, hk, _⟩ := hr.open
 simp only [Ty.k, Ty.ks] at hk hr0 hG ⊢
 have hd : S3 (.mk tk tks) = (decide (tk ≠ 1) && N1 (.mk tk tks) (R9 (.mk tk tks))) := rfl
 rw [hd]
 generalize R9 (.mk tk tks) = g at hG ⊢
 refine C0 Tryz.func132 rfl Tryz.ntmps132 Tryz.results132 rfl ?_
 intro w0
 refine tS (tR ?_)
 refine sE (C5 rfl rfl) rfl (fun b3 => ?_)
 refine sQ (qA rfl) rfl (sD (nS (tS ?_)))
 refine D4 D6 rfl ?_
 refine I6 (i := 0) (l' := [tt,ff,ff,ff,ff,ff,ff,ff,ff,ff]) rfl C9 (A0 rfl) rfl (by kernel_rfl) rfl rfl ?_
 refine aL 1 rfl (A3 rfl rfl) rfl ?_
 refine A0t (i := 2) (l' := [tt,tt,tt,ff,ff,ff,ff,ff,ff,ff]) rfl C9 (N9 rfl rfl) rfl (by kernel_rfl) rfl rfl (fun h11 => ?_) (fun h11 => ?_)
 refine aP 3 rfl (qM rfl) rfl ?_
 refine aL 4 rfl (A2 rfl rfl) rfl ?_
 refine aL 5 rfl (A2 rfl rfl) rfl ?_
 refine A4 6 ?_
 (refine F0 rfl rfl hG rfl rfl rfl (fun v G1 hle1 hh => ?_); obtain ⟨cg, rfl, hrg⟩ := hh; have hT := A8Y (.mk tk tks) g G1 _ _ (hr0.mono hle1) hrg; obtain ⟨pg, cgg, eg, rfl, _⟩ := hrg.open)
 refine A4 7 ?_
 refine M7 rfl rfl (hT) rfl rfl rfl ?_
 refine aP 8 rfl (C2 rfl rfl) rfl ?_
 refine aP 9 rfl (qA rfl) rfl ?_
 refine B5 (nS (tT (A9 (rT rfl) ?_)))
 (refine ⟨rfl, ?_⟩; show Value.bool _ = Value.bool _; rw [decide_eq_true (by omega), Bool.true_and])
 refine aP 3 rfl (qM rfl) rfl ?_
 refine C1 4 rfl rfl rfl ?_
 refine C1 5 rfl rfl rfl ?_
 refine C1 6 rfl rfl rfl ?_
 refine C1 7 rfl rfl rfl ?_
 refine aP 8 rfl (D7 rfl rfl) rfl ?_
 refine aP 9 rfl (qA rfl) rfl ?_
 refine B5 (nS (tT (A9 (rT rfl) ?_)))
 (refine ⟨rfl, ?_⟩; show Value.bool _ = Value.bool _; rw [decide_eq_false (by omega), Bool.false_and])
theorem A4D (t : Tm) (G : IM) (cells : List Value) (hr : B0 G t cells) : Fn Tryz.prog 87 [.agg ⟨cells⟩] [] G (H4 (.bool (O4 t)) G) := by
 obtain ⟨k, nm, num, ⟨tk, tks⟩, ⟨fk, fks⟩, lb, ks⟩ := t
 obtain ⟨pt, ct, pf, cf, p, c, es, rfl, hk, hnum, hlb, hty, hfr, hsl, hkl⟩ := hr.open9
 have hd : O4 (.mk k nm num (.mk tk tks) (.mk fk fks) lb ks) = decide (k = 14 ∧ fk = tk ∧ (tk = 4 ∨ tk = 5)) := rfl
 rw [hd]
 refine C0 Tryz.func87 rfl Tryz.ntmps87 Tryz.results87 rfl ?_
 intro w0
 refine tS (tR ?_)
 refine sE (C5 rfl rfl) rfl (fun b3 => ?_)
 refine sQ (qA rfl) rfl (sD (nS (tS (tR (sQ (A0 rfl) rfl (sL (A3 rfl rfl) rfl rfl ?_))))))
 refine sB (qE rfl rfl) rfl rfl (fun h11 => ?_) (fun h11 => ?_)
 refine wk7 ?_
 refine sB (qE rfl rfl) rfl rfl (fun h19 => ?_) (fun h19 => ?_)
 refine sQ (C2 rfl rfl) rfl (sQ (qM rfl) rfl (sQ (A0 rfl) rfl (sQ (qF rfl) rfl (sL (A3 rfl rfl) rfl rfl ?_))))
 refine sB (qE rfl rfl) rfl rfl (fun h25 => ?_) (fun h25 => ?_)
 refine U4 ?_
 (exact ⟨rfl, by rw [decide_eq_true (by omega)], rfl⟩)
 refine sQ (qM rfl) rfl (sQ (A0 rfl) rfl (sQ (qF rfl) rfl (sL (A3 rfl rfl) rfl rfl ?_)))
 refine sB (qE rfl rfl) rfl rfl (fun h43 => ?_) (fun h43 => ?_)
 refine sQ (D7 rfl rfl) rfl (sQ (C2 rfl rfl) rfl (sQ (qA rfl) rfl (sD (nS (tT (A9 (rT rfl) ?_))))))
 (exact ⟨rfl, by rw [decide_eq_true (by omega)], rfl⟩)
 refine sQ (D7 rfl rfl) rfl (sQ (C2 rfl rfl) rfl (sQ (qA rfl) rfl (sD (nS (tT (A9 (rT rfl) ?_))))))
 (exact ⟨rfl, by rw [decide_eq_false (by omega)], rfl⟩)
 refine U5 ?_
 (exact ⟨rfl, by rw [decide_eq_false (by omega)], rfl⟩)
 refine A3V ?_
 (exact ⟨rfl, by rw [decide_eq_false (by omega)], rfl⟩)
theorem A6e (t : Tm) (G : IM) (cells : List Value) (ha : E2 t.fr) (hr : B0 G t cells) : Fn Tryz.prog 88 [.agg ⟨cells⟩] [] G (H4 (.bool (inj t)) G) := by
 obtain ⟨k, nm, num, ⟨tk, tks⟩, ⟨fk, fks⟩, lb, ks⟩ := t
 obtain ⟨pt, ct, pf, cf, p, c, es, rfl, hk, hnum, hlb, hty, hfr, hsl, hkl⟩ := hr.open9
 have hd : inj (.mk k nm num (.mk tk tks) (.mk fk fks) lb ks) = (decide (k = 14 ∧ tk = 1) && S3 (.mk fk fks)) := rfl
 rw [hd]
 have hG := A9v (.mk fk fks) G _ ha hfr
 refine C0 Tryz.func88 rfl Tryz.ntmps88 Tryz.results88 rfl ?_
 intro w0
 refine tS (tR ?_)
 refine sE (C5 rfl rfl) rfl (fun b3 => ?_)
 refine sQ (qA rfl) rfl (sD (nS (tS (tR (sQ (A0 rfl) rfl (sL (A3 rfl rfl) rfl rfl ?_))))))
 refine sB (qE rfl rfl) rfl rfl (fun h11 => ?_) (fun h11 => ?_)
 refine sQ (qM rfl) rfl (sQ (A0 rfl) rfl (sQ (qF rfl) rfl (sL (A3 rfl rfl) rfl rfl ?_)))
 refine sB (qE rfl rfl) rfl rfl (fun h16 => ?_) (fun h16 => ?_)
 refine sQ (C2 rfl rfl) rfl (sQ (qM rfl) rfl (sQ (A0 rfl) rfl (sL (A2 rfl rfl) rfl rfl ?_)))
 refine H0 rfl (hG) rfl rfl ?_
 refine sQ (C2 rfl rfl) rfl (sQ (qA rfl) rfl (sD (nS (tT (A9 (rT rfl) ?_)))))
 (exact ⟨rfl, by rw [decide_eq_true (by omega), Bool.true_and], rfl⟩)
 refine A0l ?_
 (exact ⟨rfl, by rw [decide_eq_false (by omega), Bool.false_and], rfl⟩)
 refine O9 ?_
 (exact ⟨rfl, by rw [decide_eq_false (by omega), Bool.false_and], rfl⟩)
section
variable {k : Int} {nm : ByteArray} {num : Int} {ty fr : Ty} {lb : Int} {ks : List Tm}
theorem B4n (h : k = 2 ∨ k = 3 ∨ k = 4 ∨ k = 5) : E8 (.mk k nm num ty fr lb ks) = true := by
 rw [E8, if_neg (by omega)]; exact decide_eq_true h
theorem B4o (h : k = 10) (hl : ks.length = 2) : E8 (.mk k nm num ty fr lb ks) = (E8 (ks[0]'(by omega)) && E8 (ks[1]'(by omega))) := by
 rw [A2M (.inl h)]
 obtain ⟨a, b, rfl⟩ := ks2 hl
 simp
theorem A9w (h : O4 (.mk k nm num ty fr lb ks) = true ∨ inj (.mk k nm num ty fr lb ks) = true) (hl : ks.length = 1) : E8 (.mk k nm num ty fr lb ks) = E8 (ks[0]'(by omega)) := by
 rw [A2M (.inr h)]
 obtain ⟨a, rfl⟩ := X0 hl
 simp
theorem B4p (h : ¬(k = 2 ∨ k = 3 ∨ k = 4 ∨ k = 5)) (h10 : k ≠ 10) (h2 : O4 (.mk k nm num ty fr lb ks) = false) (h3 : inj (.mk k nm num ty fr lb ks) = false) : E8 (.mk k nm num ty fr lb ks) = false := by
 rw [A4o h10 h2 h3]; exact decide_eq_false h
theorem B4q (h : O4 (.mk k nm num ty fr lb ks) = true ∨ inj (.mk k nm num ty fr lb ks) = true) : k = 14 := by
 rcases h with h | h
 ·exact (prx_spec' h)
 ·exact A3A h
where
 prx_spec' {k : Int} {nm : ByteArray} {num : Int} {ty fr : Ty} {lb : Int} {ks : List Tm} (h : O4 (.mk k nm num ty fr lb ks) = true) : k = 14 := by rw [A0D] at h; exact (of_decide_eq_true h).1
end
theorem A6f : ∀ (t : Tm) (G : IM) (cells : List Value), cv t → B0 G t cells → Fn Tryz.prog 101 [.agg ⟨cells⟩] [] G (H4 (.bool (E8 t)) G) := by
 refine Tm.ind fun k nm num ty fr lb ks ih G cells hc hr => ?_
 obtain ⟨hN, hkk⟩ := hc.node
 have hop := hN.ops
 have h10 : k = 10 → ks.length = 2 := fun h => by rw [h] at hop; have : D0 10 = 2 := rfl; omega
 have h14 : k = 14 → ks.length = 1 := fun h => by rw [h] at hop; have : D0 14 = 1 := rfl; omega
 have hP := A4D _ G _ hr
 have hI := A6e (.mk k nm num ty fr lb ks) G _ hN.frA hr
 have e1 := @B4n k nm num ty fr lb ks
 have e2 := @B4o k nm num ty fr lb ks
 have e3 := @A9w k nm num ty fr lb ks
 have e4 := @B4p k nm num ty fr lb ks
 have e5 := @B4q k nm num ty fr lb ks
 generalize hpx : O4 (.mk k nm num ty fr lb ks) = bp at hP e3 e4 e5
 generalize hij : inj (.mk k nm num ty fr lb ks) = bi at hI e3 e4 e5
 generalize E8 (.mk k nm num ty fr lb ks) = R at e1 e2 e3 e4 ⊢
 obtain ⟨tk, tks⟩ := ty
 obtain ⟨fk, fks⟩ := fr
 obtain ⟨pt, ct, pf, cf, p, c, es, rfl, hk, hnum, hlb, hty, hfr, hsl, hkl⟩ := hr.open9
 refine C0 Tryz.func101 rfl Tryz.ntmps101 Tryz.results101 rfl ?_
 intro w0
 refine tS (tR ?_)
 refine sE (C5 rfl rfl) rfl (fun b3 => ?_)
 refine sQ (qA rfl) rfl (sD (nS (tS (tS (tR (sQ (A0 rfl) rfl (sL (A3 rfl rfl) rfl rfl (sD (nS ?_)))))))))
 refine B9 (tS (tS (tR (sB (qE rfl rfl) rfl rfl (fun h18 => ?_) (fun h18 => ?_)))))
 refine sQ (qA rfl) rfl (sD (nS (qT rfl (tK (nS (qT rfl (tS (tR (sQ (qA rfl) rfl (sD (nS (tT (rB (rS (A9 (rT rfl) ?_)))))))))))))))
 (exact ⟨rfl, by rw [e1 (by omega)], rfl⟩)
 refine sQ (qA rfl) rfl (sD (nS (cF rfl (tS (tR ?_)))))
 refine sB (qE rfl rfl) rfl rfl (fun h42 => ?_) (fun h42 => ?_)
 refine sQ (qA rfl) rfl (sD (nS (qT rfl (tK (nS (qT rfl (tS (tR (sQ (qA rfl) rfl (sD (nS (tT (rB (rS (A9 (rT rfl) ?_)))))))))))))))
 (exact ⟨rfl, by rw [e1 (by omega)], rfl⟩)
 refine sQ (qA rfl) rfl (sD (nS (cF rfl (tS (tR ?_)))))
 refine sB (qE rfl rfl) rfl rfl (fun h66 => ?_) (fun h66 => ?_)
 refine sQ (qA rfl) rfl (sD (nS (qT rfl (tK (nS (qT rfl (tS (tR (sQ (qA rfl) rfl (sD (nS (tT (rB (rS (A9 (rT rfl) ?_)))))))))))))))
 (exact ⟨rfl, by rw [e1 (by omega)], rfl⟩)
 refine sQ (qA rfl) rfl (sD (nS (cF rfl (tR ?_))))
 refine sB (qE rfl rfl) rfl rfl (fun h89 => ?_) (fun h89 => ?_)
 refine sQ (qA rfl) rfl (sD (nS (qT rfl (tS (tR (sQ (qA rfl) rfl (sD (nS (tT (rB (rS (A9 (rT rfl) ?_))))))))))))
 (exact ⟨rfl, by rw [e1 (by omega)], rfl⟩)
 refine sQ (qA rfl) rfl (sD (nS (cF rfl (tS (tR ?_)))))
 refine sB (qE rfl rfl) rfl rfl (fun h110 => ?_) (fun h110 => ?_)
 refine sQ (qA rfl) rfl (sD (nS (qT rfl (tS (tR (sQ (A0 rfl) rfl (sL (A3 rfl rfl) rfl rfl ?_)))))))
 (have hl2 := h10 (by omega); obtain ⟨bx, ox, e, rfl, hl, hat, hre, hgb⟩ := hsl.kidTm hkl (i := 0) (by omega) (by omega); have hih := ih ks[0] (List.getElem_mem (by omega)) G e (hkk _ (List.getElem_mem (by omega))) hre; obtain ⟨_, _, e', hp', hl', hat', hre', hgb'⟩ := hsl.kidTm hkl (i := 1) (by omega) (by omega); cases hp'; have hih' := ih ks[1] (List.getElem_mem (by omega)) G e' (hkk _ (List.getElem_mem (by omega))) hre'; refine sP (B3 (j := 0) rfl rfl rfl (by omega)) rfl rfl ?_)
 refine sL (A5 rfl rfl (hat _) hl) rfl rfl ?_
 refine E7 rfl (hih) rfl rfl (fun h121 => ?_) (fun h121 => ?_)
 refine sQ (qM rfl) rfl (sQ (A0 rfl) rfl (sL (A3 rfl rfl) rfl rfl ?_))
 refine sP (B3 (j := 1) rfl rfl rfl (by omega)) rfl rfl ?_
 refine sL (A5 rfl rfl (hat' _) hl') rfl rfl ?_
 refine E7 rfl (hih') rfl rfl (fun h127 => ?_) (fun h127 => ?_)
 refine sQ (C2 rfl rfl) rfl (sQ (qA rfl) rfl (sD (nS (tT (rB (rS (A9 (rT rfl) ?_)))))))
 (exact ⟨rfl, by rw [e2 (by omega) hl2]; simp [*], rfl⟩)
 refine sQ (C2 rfl rfl) rfl (sQ (qA rfl) rfl (sD (nS (tT (rB (rS (A9 (rT rfl) ?_)))))))
 (exact ⟨rfl, by rw [e2 (by omega) hl2]; simp [*], rfl⟩)
 refine R2 ?_
 (exact ⟨rfl, by rw [e2 (by omega) hl2]; simp [*], rfl⟩)
 refine sQ (qA rfl) rfl (sD (nS (cF rfl (tK (E3 (nS (tS (tR (sL (A2 rfl rfl) rfl rfl ?_)))))))))
 refine E7 rfl (hP) rfl rfl (fun h171 => ?_) (fun h171 => ?_)
 refine wk7 ?_
 (have hl1 := h14 (by first | exact e5 (.inl (by assumption)) | exact e5 (.inr (by assumption))); obtain ⟨bx, ox, e, rfl, hl, hat, hre, hgb⟩ := hsl.kidTm hkl (i := 0) (by omega) (by omega); have hih := ih ks[0] (List.getElem_mem (by omega)) G e (hkk _ (List.getElem_mem (by omega))) hre; refine sP (B3 (j := 0) rfl rfl rfl (by omega)) rfl rfl ?_)
 refine sL (A5 rfl rfl (hat _) hl) rfl rfl ?_
 refine E7 rfl (hih) rfl rfl (fun h181 => ?_) (fun h181 => ?_)
 refine sQ (C2 rfl rfl) rfl (sQ (qA rfl) rfl (sD (nS (tT (A9 (rT rfl) ?_)))))
 (exact ⟨rfl, by rw [e3 (by first | exact .inl (by assumption) | exact .inr (by assumption)) hl1]; simp [*], rfl⟩)
 refine sQ (C2 rfl rfl) rfl (sQ (qA rfl) rfl (sD (nS (tT (A9 (rT rfl) ?_)))))
 (exact ⟨rfl, by rw [e3 (by first | exact .inl (by assumption) | exact .inr (by assumption)) hl1]; simp [*], rfl⟩)
 refine sQ (qM rfl) rfl (sL (A2 rfl rfl) rfl rfl ?_)
 refine E7 rfl (hI) rfl rfl (fun h198 => ?_) (fun h198 => ?_)
 refine sQ (D7 rfl rfl) rfl (sQ (qM rfl) rfl (sQ (A0 rfl) rfl (sL (A3 rfl rfl) rfl rfl ?_)))
 (have hl1 := h14 (by first | exact e5 (.inl (by assumption)) | exact e5 (.inr (by assumption))); obtain ⟨bx, ox, e, rfl, hl, hat, hre, hgb⟩ := hsl.kidTm hkl (i := 0) (by omega) (by omega); have hih := ih ks[0] (List.getElem_mem (by omega)) G e (hkk _ (List.getElem_mem (by omega))) hre; refine sP (B3 (j := 0) rfl rfl rfl (by omega)) rfl rfl ?_)
 refine sL (A5 rfl rfl (hat _) hl) rfl rfl ?_
 refine E7 rfl (hih) rfl rfl (fun h205 => ?_) (fun h205 => ?_)
 refine sQ (C2 rfl rfl) rfl (sQ (qA rfl) rfl (sD (nS (tT (A9 (rT rfl) ?_)))))
 (exact ⟨rfl, by rw [e3 (by first | exact .inl (by assumption) | exact .inr (by assumption)) hl1]; simp [*], rfl⟩)
 refine sQ (C2 rfl rfl) rfl (sQ (qA rfl) rfl (sD (nS (tT (A9 (rT rfl) ?_)))))
 (exact ⟨rfl, by rw [e3 (by first | exact .inl (by assumption) | exact .inr (by assumption)) hl1]; simp [*], rfl⟩)
 refine T6 ?_
 (exact ⟨rfl, by rw [e4 (by omega) (by omega) (by assumption) (by assumption)], rfl⟩)
theorem A0r (e : Tm) (a b : Ty) (l : Int) (G : IM) (ce ca cb : List Value) (hl : E6 l) (he : B0 G e ce) (ha : B7 G a ca) (hb : B7 G b cb) (hsa : a.small) (hsb : b.small) : Fn Tryz.prog 183 [.agg ⟨ce⟩, .agg ⟨ca⟩, .agg ⟨cb⟩, .int .i64 l] [] G (Q8 (J9 e a b l)) := by
 have hel := he.len
 have heo := he.one
 obtain ⟨v1, v2, v3, v4, v5, v6, v7, v8, v9, rfl⟩ := nine hel
 obtain ⟨ak, aks⟩ := a
 obtain ⟨bk, bks⟩ := b
 obtain ⟨pa, cca, ea, rfl, _⟩ := ha.open
 obtain ⟨pb, ccb, eb, rfl, _⟩ := hb.open
 refine C0 Tryz.func183 rfl Tryz.ntmps183 Tryz.results183 rfl ?_
 intro w0
 refine tS (tR ?_)
 refine sE (C5 rfl rfl) rfl (fun b3 => ?_)
 refine sE (C5 rfl rfl) rfl (fun b4 => ?_)
 refine sE (C5 rfl rfl) rfl (fun b5 => ?_)
 refine sE (A7 rfl) rfl (fun b6 => ?_)
 refine sD (nS (tS ?_))
 refine D4 D6 rfl ?_
 refine K2 (i := 0) (l' := [tt,ff,ff,ff,ff,ff,ff,ff,ff]) rfl C9 (A2 rfl rfl) rfl (by kernel_rfl) rfl rfl ?_
 refine aL 2 rfl (A2 rfl rfl) rfl ?_
 refine aP 4 rfl (qM rfl) rfl ?_
 refine aL 5 rfl (A2 rfl rfl) rfl ?_
 refine Q1 (j := 1) (j' := 6) (by kernel_rfl) ?_ ?_
 (refine F0 rfl rfl (P0 (.mk ak aks) _ _ hsa ha) rfl rfl rfl (fun v G1 hle1 hh => ?_); obtain ⟨cs1, F1, rfl, hs1, hn1⟩ := hh; obtain ⟨p1, c1, rfl, _⟩ := hs1.open; have hC2 := P0 _ G1 _ hsb (hb.mono hle1))
 refine Q1 (j := 3) (j' := 6) (by kernel_rfl) ?_ ?_
 (refine F0 rfl rfl hC2 rfl rfl rfl (fun v G2 hle2 hh => ?_); obtain ⟨cs2, F2, rfl, hs2, hn2⟩ := hh; obtain ⟨p2, c2, rfl, _⟩ := hs2.open; have hr1 := hs1.R.mono ((C4.le G1 _).trans hle2); have hr2 := hs2.R.mono (C4.le G2 G1); have hre := he.mono (hle1.trans hle2))
 refine A4 6 ?_
 (refine E0 rfl (C7 rfl rfl rfl (by omega) (by unfold maxLen; omega) rfl) rfl rfl ?_; rintro _ ⟨b20, rfl⟩)
 refine aP 7 rfl (H6 rfl rfl) rfl ?_
 refine A4 8 ?_
 refine F8 rfl ?_
 refine B5 (nS ?_)
 (refine E9 (cs := [v1, v2, v3, v4, v5, v6, v7, v8, v9]) (by repeat (first | exact Pk.here | apply Pk.there)) (fun G5 hle5 hsl5 hno5 => ?_); obtain ⟨hone1, hone2⟩ := A17 (hre.mono hle5) hsl5)
 refine tT ?_
 refine A9 (rC rfl (A2 rfl rfl)) ?_
 (exact Q8.mk (B0.of9 (ks := [e]) ⟨by omega, by omega⟩ ⟨by omega, by omega⟩ hl (hr2.mono hle5) (hr1.mono hle5) hone1 hone2))
 (refine E0 rfl (C7 rfl rfl rfl (by omega) (by unfold maxLen; omega) rfl) rfl rfl ?_; rintro _ ⟨b30, rfl⟩)
 refine A4 3 ?_
 (refine F0 rfl rfl hC2 rfl rfl rfl (fun v G2 hle2 hh => ?_); obtain ⟨cs2, F2, rfl, hs2, hn2⟩ := hh; obtain ⟨p2, c2, rfl, _⟩ := hs2.open; have hr1 := hs1.R.mono ((C4.le G1 _).trans hle2); have hr2 := hs2.R.mono (C4.le G2 G1); have hre := he.mono (hle1.trans hle2))
 refine aP 7 rfl (H6 rfl rfl) rfl ?_
 refine A4 8 ?_
 refine F8 rfl ?_
 refine B5 (nS ?_)
 (refine E9 (cs := [v1, v2, v3, v4, v5, v6, v7, v8, v9]) (by repeat (first | exact Pk.here | apply Pk.there)) (fun G5 hle5 hsl5 hno5 => ?_); obtain ⟨hone1, hone2⟩ := A17 (hre.mono hle5) hsl5)
 refine tT ?_
 refine A9 (rC rfl (A2 rfl rfl)) ?_
 (exact Q8.mk (B0.of9 (ks := [e]) ⟨by omega, by omega⟩ ⟨by omega, by omega⟩ hl (hr2.mono hle5) (hr1.mono hle5) hone1 hone2))
 (refine E0 rfl (C7 rfl rfl rfl (by omega) (by unfold maxLen; omega) rfl) rfl rfl ?_; rintro _ ⟨b42, rfl⟩)
 refine A4 1 ?_
 (refine F0 rfl rfl (P0 (.mk ak aks) _ _ hsa ha) rfl rfl rfl (fun v G1 hle1 hh => ?_); obtain ⟨cs1, F1, rfl, hs1, hn1⟩ := hh; obtain ⟨p1, c1, rfl, _⟩ := hs1.open; have hC2 := P0 _ G1 _ hsb (hb.mono hle1))
 refine A4 3 ?_
 (refine F0 rfl rfl hC2 rfl rfl rfl (fun v G2 hle2 hh => ?_); obtain ⟨cs2, F2, rfl, hs2, hn2⟩ := hh; obtain ⟨p2, c2, rfl, _⟩ := hs2.open; have hr1 := hs1.R.mono ((C4.le G1 _).trans hle2); have hr2 := hs2.R.mono (C4.le G2 G1); have hre := he.mono (hle1.trans hle2))
 refine aP 7 rfl (H6 rfl rfl) rfl ?_
 refine A4 8 ?_
 refine F8 rfl ?_
 refine B5 (nS ?_)
 (refine E9 (cs := [v1, v2, v3, v4, v5, v6, v7, v8, v9]) (by repeat (first | exact Pk.here | apply Pk.there)) (fun G5 hle5 hsl5 hno5 => ?_); obtain ⟨hone1, hone2⟩ := A17 (hre.mono hle5) hsl5)
 refine tT ?_
 refine A9 (rC rfl (A2 rfl rfl)) ?_
 (exact Q8.mk (B0.of9 (ks := [e]) ⟨by omega, by omega⟩ ⟨by omega, by omega⟩ hl (hr2.mono hle5) (hr1.mono hle5) hone1 hone2))
theorem B4r (G : IM) : Fn Tryz.prog 184 [.bool true] [] G (Q8 (X7 (true = true))) := by
 refine C0 Tryz.func184 rfl Tryz.ntmps184 Tryz.results184 rfl ?_
 intro w0
 refine tS (tR ?_)
 refine sE (A7 rfl) rfl (fun b3 => ?_)
 refine sD (nS (tS (tS (tR (sQ (qM rfl) rfl (sD (nS (qT rfl (tS (tR (sQ (H6 rfl rfl) rfl (B1 ?_))))))))))))
 refine sD (nS (tT (rS ?_)))
 refine A9 (rC rfl (A2 rfl rfl)) ?_
 (exact Q8.mk (A4p _ ⟨by decide, by decide⟩))
theorem B4s (G : IM) : Fn Tryz.prog 184 [.bool false] [] G (Q8 (X7 (false = true))) := by
 refine C0 Tryz.func184 rfl Tryz.ntmps184 Tryz.results184 rfl ?_
 intro w0
 refine tS (tR ?_)
 refine sE (A7 rfl) rfl (fun b3 => ?_)
 refine sD (nS (tS (tS (tR (sQ (qM rfl) rfl (sD (nS (cF rfl (tK (nS (tS (tR (sQ (H6 rfl rfl) rfl (B1 ?_))))))))))))))
 refine sD (nS (tT ?_))
 refine A9 (rC rfl (A2 rfl rfl)) ?_
 (exact Q8.mk (A4p _ ⟨by decide, by decide⟩))
theorem A9x (b : Bool) (G : IM) : Fn Tryz.prog 184 [.bool b] [] G (Q8 (X7 (b = true))) := by
 cases b
 ·exact B4s G
 ·exact B4r G
theorem B4t (y : ByteArray) (v : Tm) (vc : List Value) (hvs : v.small) : ∀ (t : Tm) (G : IM) (cells : List Value), t.small → B0 G t cells → B0 G v vc → Fn Tryz.prog 182 [.agg ⟨cells⟩, .string y, .agg ⟨vc⟩] [] G (Q8 (V8 y v t)) := by
 refine Tm.ind fun k nm num ty fr lb ks ih G cells hts hr hv => ?_
 have hr0 := hr
 have hts0 := hts
 obtain ⟨_, htsm, hfsm, hsm, hks⟩ := Z5.1 hts
 have hvl := hv.len
 have hvo := hv.one
 have hRl := hr.len
 have hRo := hr.one
 rw [V8]
 have hCv := A2y v G vc hvs hv
 have hCt := A2y _ G cells hts0 hr0
 obtain ⟨tk, tks⟩ := ty
 obtain ⟨fk, fks⟩ := fr
 obtain ⟨pt, ct, pf, cf, p, c, es, rfl, hk, hnum, hlb, hty, hfr, hsl, hkl⟩ := hr.open9
 have hn := hsl.le
 refine C0 Tryz.func182 rfl Tryz.ntmps182 Tryz.results182 rfl ?_
 intro w0
 refine tS (tR ?_)
 refine sE (C5 rfl rfl) rfl (fun b3 => ?_)
 refine sE (C5 rfl rfl) rfl (fun b4 => ?_)
 refine sE (A7 rfl) rfl (fun b5 => ?_)
 refine sD (nS (tS (tS (tR (sQ (A0 rfl) rfl (sL (A3 rfl rfl) rfl rfl ?_))))))
 refine sB (qE rfl rfl) rfl rfl (fun h13 => ?_) (fun h13 => ?_)
 refine sQ (qM rfl) rfl (sQ (A0 rfl) rfl (sL (A3 rfl rfl) rfl rfl (sQ (qM rfl) rfl ?_)))
 refine sB (A0J rfl rfl) rfl rfl (fun h18 => ?_) (fun h18 => ?_)
 refine sQ (C2 rfl rfl) rfl (sD (nS (qT rfl (tS (tR ?_)))))
 refine sL (A5 rfl rfl (B2 (by repeat first | exact mH | apply mT)) hvl) rfl rfl ?_
 (refine E5 rfl hCv rfl rfl (fun v9 G1 hle1 hh => ?_); obtain ⟨uc, F1, rfl, hs1, hn1⟩ := hh; have hru := hs1.R.mono (C4.le G1 G); have hul := hru.len; have huo := hru.one)
 refine sS rfl rfl rfl hul huo rfl ?_ (hu := by exact D5 hul.symm)
 refine sD (nS (tT (rS ?_)))
 refine A9 (rC rfl (A5 rfl rfl (B2 (by repeat first | exact mH | apply mT)) hul)) ?_
 (rw [if_pos (by refine ⟨by omega, by assumption⟩)]; exact Q8.mk hru)
 refine sQ (C2 rfl rfl) rfl (sD (nS (cF rfl (tK (nS (tS (tS (tR (sQ (A0 rfl) rfl (sL (A3 rfl rfl) rfl rfl ?_))))))))))
 refine sP (I2 rfl rfl (by omega)) rfl rfl ?_
 refine R2 ?_
 refine sE (A7 rfl) rfl (fun b60 => ?_)
 refine B1 ?_
 refine sD (nS (tS (tR (sQ (A0 rfl) rfl (sL (A2 rfl rfl) rfl rfl ?_)))))
 (refine E5 rfl (P0 (.mk tk tks) _ _ htsm hty) rfl rfl (fun v9 G1 hle1 hh => ?_); obtain ⟨cs1, F1, rfl, hs1, hn1⟩ := hh; obtain ⟨q1, c1, rfl, _⟩ := hs1.open; have hC2 := P0 (.mk fk fks) G1 _ hfsm (hfr.mono hle1))
 refine sQ (A0 rfl) rfl (B1 ?_)
 refine sD (nS (tS (tR (sQ (A0 rfl) rfl (sL (A2 rfl rfl) rfl rfl ?_)))))
 (refine E5 rfl hC2 rfl rfl (fun v9 G2 hle2 hh => ?_); obtain ⟨cs2, F2, rfl, hs2, hn2⟩ := hh; obtain ⟨q2, c2, rfl, _⟩ := hs2.open; have hty1 := hs1.R.mono ((C4.le G1 _).trans hle2); have hfr1 := hs2.R.mono (C4.le G2 G1); have hle12 := hle1.trans hle2; replace hsl := hsl.mono hle12; replace hkl := hkl.mono hle12; replace hv := hv.mono hle12)
 refine sQ (A0 rfl) rfl (B1 ?_)
 refine sD (nS (tS (tR (sQ (A0 rfl) rfl (B1 ?_)))))
 refine sD (nS (tS (tS (tR (sQ (qA rfl) rfl (sD (nS ?_)))))))
 refine B9 ?_
 (refine S0 28 9 ?_; refine J4 (fun (x : Nat × Option Addr × Nat × List (List Value) × IM) => ⟨[(8, .int .i64 x.1), (1, .string y), (3, .pointer (some ⟨b3, 0, none⟩)), (5, .pointer (some ⟨b4, 0, none⟩)), (6, .pointer (some ⟨b5, 0, none⟩)), (7, .pointer (some ⟨b60, 0, none⟩))], [.blk b60 [.int .i64 k, .string nm, .int .i64 num, .int .i64 tk, .slice q1 tks.length c1, .int .i64 fk, .slice q2 fks.length c2, .int .i64 lb, .slice x.2.1 x.1 x.2.2.1], .slc x.2.1 x.2.2.1 28 9 x.1 x.2.2.2.1.flatten, .blk b5 [.int .i64 0, .string ⟨⟨[]⟩⟩, .int .i64 0, .int .i64 0, .slice none 0 0, .int .i64 0, .slice none 0 0, .int .i64 0, .slice none 0 0], .blk b4 vc, .blk b3 [.int .i64 k, .string nm, .int .i64 num, .int .i64 tk, .slice pt tks.length ct, .int .i64 fk, .slice pf fks.length cf, .int .i64 lb, .slice p ks.length c]], x.2.2.2.2⟩) (fun x => x.1 ≤ ks.length ∧ B8 G2 x.2.2.2.2 ∧ D3 x.2.2.2.2 ((T3 y v ks).take x.1) x.2.2.2.1) (fun x => ks.length - x.1) (0, none, 0, [], G2) ?_ ?_ ?_)
 (simp only [I3]; exact D9)
 (exact ⟨Nat.zero_le _, B8.refl _, by simp [D3]⟩)
 (rintro ⟨i, pn, cn, es', Gi⟩ ⟨hi, hle, hst⟩; simp only [] at hi hle hst ⊢; replace hsl := hsl.mono hle; replace hkl := hkl.mono hle; replace hv := hv.mono hle; replace hty1 := hty1.mono hle; replace hfr1 := hfr1.mono hle; have hsl' := hst.len; rw [List.length_take, W8] at hsl')
 refine tS (tS (tR (sQ (qM rfl) rfl (sQ (A0 rfl) rfl (sL (A3 rfl rfl) rfl rfl (sQ (H8 rfl rfl) rfl ?_))))))
 refine sB (J1 rfl rfl) rfl rfl (fun h106 => ?_) (fun h106 => ?_)
 refine sD (nS (qT rfl (tK (nS (tS ?_)))))
 refine B9 ?_
 (have hil : i < ks.length := (by omega); obtain ⟨bx, ox, e, rfl, hl, hat, hre, hgb⟩ := hsl.kidTm hkl (i := i) (by omega) (by omega); have hel := hre.len; have heo := hre.one; refine D4 D6 rfl ?_)
 refine K2 (i := 8) (l' := [ff,ff,ff,ff,ff,ff,ff,ff,tt,ff,ff,ff,ff,ff]) rfl C9 (A5 rfl rfl (B2 (by repeat first | exact mH | apply mT)) hvl) rfl (by kernel_rfl) rfl rfl ?_
 refine aP 0 rfl (A0 rfl) rfl ?_
 refine aL 1 rfl (A3 rfl rfl) rfl ?_
 refine aP 2 rfl (A0 rfl) rfl ?_
 refine aL 3 rfl (A3 rfl rfl) rfl ?_
 refine aP 4 rfl (qM rfl) rfl ?_
 refine aP 5 rfl (B3 (j := i) rfl rfl rfl (by omega)) rfl ?_
 refine aL 6 rfl (A5 rfl rfl (hat _) hl) rfl ?_
 refine aP 7 rfl (qM rfl) rfl ?_
 refine A4 9 ?_
 (refine F0 rfl rfl (ih ks[i] (List.getElem_mem (by omega)) Gi _ (Tm.smallL_mem hks _ (List.getElem_mem (by omega))) hre hv) rfl rfl rfl (fun u G3 hle3 hh => ?_); obtain ⟨uc, rfl, hru⟩ := hh; have hul := hru.len; have huo := hru.one; obtain ⟨v1, v2, v3, v4, v5, v6, v7, v8, v9, rfl⟩ := nine hul)
 refine A4 10 ?_
 (refine E0 rfl (C7 rfl rfl rfl (by omega) (by unfold maxLen; omega) rfl) rfl rfl ?_; rintro _ ⟨b127, rfl⟩)
 refine A4 11 ?_
 (refine Q2 rfl rfl rfl rfl rfl rfl (fun _ _ => by repeat (first | exact Sw.here | apply Sw.there)) (M9 (by repeat first | exact mH | apply mT)) rfl (fun u hu => List.all_eq_true.1 huo u hu) (by unfold maxLen; omega) (by omega) rfl rfl (by repeat (first | exact A8.nil | apply A8.dep (by decide +kernel) | apply A8.im (by decide +kernel) (by assumption) (by repeat first | exact mH | apply mT) | apply A8.blk (by decide +kernel) (by repeat (first | exact Pk.here | apply Pk.there)) (by repeat first | exact mH | apply mT) | apply A8.slc (by decide +kernel) (by repeat (first | exact Pk.here | apply Pk.there)) (by repeat first | exact mH | apply mT))) (fun p7 c7 => ?_))
 refine aP 12 rfl (A0 rfl) rfl ?_
 refine A4 13 ?_
 refine Q6 rfl rfl rfl rfl rfl rfl rfl rfl (by decide +kernel) (by repeat first | exact Sw.here | apply Sw.there) (by rfl) ?_
 refine B5 (E3 (nS (tR (sQ (qM rfl) rfl ?_))))
 refine sP (I7 rfl rfl (by omega) (by omega)) rfl rfl ?_
 refine sQ (qA rfl) rfl (sD ?_)
 refine J3 (i + 1, p7, c7, es' ++ [[v1, v2, v3, v4, v5, v6, v7, v8, v9]], G3) ?_ ?_ ?_
 (simp only [I3]; exact D9)
 (dsimp only; exact ⟨by omega, hle.trans hle3, by rw [A2N (by omega)]; exact D3.snoc (hst.mono hle3) hru⟩)
 (show ks.length - (i + 1) < ks.length - i; omega)
 refine sD (nS (cF rfl (M3 (M5 (N7 (M6 (nS (tS (tR (sL (A2 rfl rfl) rfl rfl (B1 ?_)))))))))))
 refine sD (nS ?_)
 (refine E9 (cs := es'.flatten) (by repeat (first | exact Pk.here | apply Pk.there)) (fun G4 hle4 hsl4 hno4 => ?_); obtain rfl : i = ks.length := (by omega))
 refine tT ?_
 refine A9 (rC rfl (A2 rfl rfl)) ?_
 (rw [if_neg (by rintro ⟨h1, h2⟩; first | omega | contradiction), if_neg (by rintro ⟨h1, h2⟩; first | omega | contradiction)]; rw [List.take_of_length_le (by rw [W8]; omega)] at hst; exact Q8.mk (B0.put hk hnum hlb (hty1.mono hle4) (hfr1.mono hle4) (by rw [W8]) (D2.of hsl4 (by omega) hst.all (fun e he => (hst.each e he).2)) (hst.mono hle4)))
 refine O9 ?_
 refine sB (qE rfl rfl) rfl rfl (fun h179 => ?_) (fun h179 => ?_)
 refine sQ (qM rfl) rfl (sQ (A0 rfl) rfl (sL (A3 rfl rfl) rfl rfl (sQ (qM rfl) rfl ?_)))
 refine sB (A0J rfl rfl) rfl rfl (fun h184 => ?_) (fun h184 => ?_)
 refine sQ (C2 rfl rfl) rfl (sD (nS (qT rfl (tS (tR (sL (A2 rfl rfl) rfl rfl ?_))))))
 (refine E5 rfl hCt rfl rfl (fun v9 G1 hle1 hh => ?_); obtain ⟨uc, F1, rfl, hs1, hn1⟩ := hh; have hru := hs1.R.mono (C4.le G1 G); have hul := hru.len; have huo := hru.one)
 refine sS rfl rfl rfl hul huo rfl ?_ (hu := by exact D5 hul.symm)
 refine sD (nS (tT (rS ?_)))
 refine A9 (rC rfl (A5 rfl rfl (B2 (by repeat first | exact mH | apply mT)) hul)) ?_
 (rw [if_neg (by rintro ⟨h1, h2⟩; first | omega | contradiction), if_pos (by refine ⟨by omega, by assumption⟩)]; exact Q8.mk hru)
 refine sQ (C2 rfl rfl) rfl (sD (nS (cF rfl (tK (nS (tS (tR (sL (A2 rfl rfl) rfl rfl ?_))))))))
 refine sE (A7 rfl) rfl (fun b209 => ?_)
 refine B1 ?_
 refine sD (nS (tS (tR (sQ (A0 rfl) rfl (sL (A2 rfl rfl) rfl rfl ?_)))))
 (refine E5 rfl (P0 (.mk tk tks) _ _ htsm hty) rfl rfl (fun v9 G1 hle1 hh => ?_); obtain ⟨cs1, F1, rfl, hs1, hn1⟩ := hh; obtain ⟨q1, c1, rfl, _⟩ := hs1.open; have hC2 := P0 (.mk fk fks) G1 _ hfsm (hfr.mono hle1))
 refine sQ (A0 rfl) rfl (B1 ?_)
 refine sD (nS (tS (tR (sQ (A0 rfl) rfl (sL (A2 rfl rfl) rfl rfl ?_)))))
 (refine E5 rfl hC2 rfl rfl (fun v9 G2 hle2 hh => ?_); obtain ⟨cs2, F2, rfl, hs2, hn2⟩ := hh; obtain ⟨q2, c2, rfl, _⟩ := hs2.open; have hty1 := hs1.R.mono ((C4.le G1 _).trans hle2); have hfr1 := hs2.R.mono (C4.le G2 G1); have hle12 := hle1.trans hle2; replace hsl := hsl.mono hle12; replace hkl := hkl.mono hle12; replace hv := hv.mono hle12)
 refine sQ (A0 rfl) rfl (B1 ?_)
 refine sD (nS (tS (tR (sQ (A0 rfl) rfl (B1 ?_)))))
 refine sD (nS (tS (tS (tR (sQ (qA rfl) rfl (sD (nS ?_)))))))
 refine B9 ?_
 (refine S0 28 9 ?_; refine J4 (fun (x : Nat × Option Addr × Nat × List (List Value) × IM) => ⟨[(8, .int .i64 x.1), (1, .string y), (3, .pointer (some ⟨b3, 0, none⟩)), (5, .pointer (some ⟨b4, 0, none⟩)), (6, .pointer (some ⟨b5, 0, none⟩)), (7, .pointer (some ⟨b209, 0, none⟩))], [.blk b209 [.int .i64 k, .string nm, .int .i64 num, .int .i64 tk, .slice q1 tks.length c1, .int .i64 fk, .slice q2 fks.length c2, .int .i64 lb, .slice x.2.1 x.1 x.2.2.1], .slc x.2.1 x.2.2.1 28 9 x.1 x.2.2.2.1.flatten, .blk b5 [.int .i64 0, .string ⟨⟨[]⟩⟩, .int .i64 0, .int .i64 0, .slice none 0 0, .int .i64 0, .slice none 0 0, .int .i64 0, .slice none 0 0], .blk b4 vc, .blk b3 [.int .i64 k, .string nm, .int .i64 num, .int .i64 tk, .slice pt tks.length ct, .int .i64 fk, .slice pf fks.length cf, .int .i64 lb, .slice p ks.length c]], x.2.2.2.2⟩) (fun x => x.1 ≤ ks.length ∧ B8 G2 x.2.2.2.2 ∧ D3 x.2.2.2.2 ((T3 y v ks).take x.1) x.2.2.2.1) (fun x => ks.length - x.1) (0, none, 0, [], G2) ?_ ?_ ?_)
 (simp only [I3]; exact D9)
 (exact ⟨Nat.zero_le _, B8.refl _, by simp [D3]⟩)
 (rintro ⟨i, pn, cn, es', Gi⟩ ⟨hi, hle, hst⟩; simp only [] at hi hle hst ⊢; replace hsl := hsl.mono hle; replace hkl := hkl.mono hle; replace hv := hv.mono hle; replace hty1 := hty1.mono hle; replace hfr1 := hfr1.mono hle; have hsl' := hst.len; rw [List.length_take, W8] at hsl')
 refine tS (tS (tR (sQ (qM rfl) rfl (sQ (A0 rfl) rfl (sL (A3 rfl rfl) rfl rfl (sQ (H8 rfl rfl) rfl ?_))))))
 refine sB (J1 rfl rfl) rfl rfl (fun h255 => ?_) (fun h255 => ?_)
 refine sD (nS (qT rfl (tK (nS (tS ?_)))))
 refine B9 ?_
 (have hil : i < ks.length := (by omega); obtain ⟨bx, ox, e, rfl, hl, hat, hre, hgb⟩ := hsl.kidTm hkl (i := i) (by omega) (by omega); have hel := hre.len; have heo := hre.one; refine D4 D6 rfl ?_)
 refine K2 (i := 8) (l' := [ff,ff,ff,ff,ff,ff,ff,ff,tt,ff,ff,ff,ff,ff]) rfl C9 (A5 rfl rfl (B2 (by repeat first | exact mH | apply mT)) hvl) rfl (by kernel_rfl) rfl rfl ?_
 refine aP 0 rfl (A0 rfl) rfl ?_
 refine aL 1 rfl (A3 rfl rfl) rfl ?_
 refine aP 2 rfl (A0 rfl) rfl ?_
 refine aL 3 rfl (A3 rfl rfl) rfl ?_
 refine aP 4 rfl (qM rfl) rfl ?_
 refine aP 5 rfl (B3 (j := i) rfl rfl rfl (by omega)) rfl ?_
 refine aL 6 rfl (A5 rfl rfl (hat _) hl) rfl ?_
 refine aP 7 rfl (qM rfl) rfl ?_
 refine A4 9 ?_
 (refine F0 rfl rfl (ih ks[i] (List.getElem_mem (by omega)) Gi _ (Tm.smallL_mem hks _ (List.getElem_mem (by omega))) hre hv) rfl rfl rfl (fun u G3 hle3 hh => ?_); obtain ⟨uc, rfl, hru⟩ := hh; have hul := hru.len; have huo := hru.one; obtain ⟨v1, v2, v3, v4, v5, v6, v7, v8, v9, rfl⟩ := nine hul)
 refine A4 10 ?_
 (refine E0 rfl (C7 rfl rfl rfl (by omega) (by unfold maxLen; omega) rfl) rfl rfl ?_; rintro _ ⟨b276, rfl⟩)
 refine A4 11 ?_
 (refine Q2 rfl rfl rfl rfl rfl rfl (fun _ _ => by repeat (first | exact Sw.here | apply Sw.there)) (M9 (by repeat first | exact mH | apply mT)) rfl (fun u hu => List.all_eq_true.1 huo u hu) (by unfold maxLen; omega) (by omega) rfl rfl (by repeat (first | exact A8.nil | apply A8.dep (by decide +kernel) | apply A8.im (by decide +kernel) (by assumption) (by repeat first | exact mH | apply mT) | apply A8.blk (by decide +kernel) (by repeat (first | exact Pk.here | apply Pk.there)) (by repeat first | exact mH | apply mT) | apply A8.slc (by decide +kernel) (by repeat (first | exact Pk.here | apply Pk.there)) (by repeat first | exact mH | apply mT))) (fun p7 c7 => ?_))
 refine aP 12 rfl (A0 rfl) rfl ?_
 refine A4 13 ?_
 refine Q6 rfl rfl rfl rfl rfl rfl rfl rfl (by decide +kernel) (by repeat first | exact Sw.here | apply Sw.there) (by rfl) ?_
 refine B5 (E3 (nS (tR (sQ (qM rfl) rfl ?_))))
 refine sP (I7 rfl rfl (by omega) (by omega)) rfl rfl ?_
 refine sQ (qA rfl) rfl (sD ?_)
 refine J3 (i + 1, p7, c7, es' ++ [[v1, v2, v3, v4, v5, v6, v7, v8, v9]], G3) ?_ ?_ ?_
 (simp only [I3]; exact D9)
 (dsimp only; exact ⟨by omega, hle.trans hle3, by rw [A2N (by omega)]; exact D3.snoc (hst.mono hle3) hru⟩)
 (show ks.length - (i + 1) < ks.length - i; omega)
 refine sD (nS (cF rfl (M3 (M5 (N7 (M6 (nS (tS (tR (sL (A2 rfl rfl) rfl rfl (B1 ?_)))))))))))
 refine sD (nS ?_)
 (refine E9 (cs := es'.flatten) (by repeat (first | exact Pk.here | apply Pk.there)) (fun G4 hle4 hsl4 hno4 => ?_); obtain rfl : i = ks.length := (by omega))
 refine tT ?_
 refine A9 (rC rfl (A2 rfl rfl)) ?_
 (rw [if_neg (by rintro ⟨h1, h2⟩; first | omega | contradiction), if_neg (by rintro ⟨h1, h2⟩; first | omega | contradiction)]; rw [List.take_of_length_le (by rw [W8]; omega)] at hst; exact Q8.mk (B0.put hk hnum hlb (hty1.mono hle4) (hfr1.mono hle4) (by rw [W8]) (D2.of hsl4 (by omega) hst.all (fun e he => (hst.each e he).2)) (hst.mono hle4)))
 refine R2 ?_
 refine sE (A7 rfl) rfl (fun b326 => ?_)
 refine B1 ?_
 refine sD (nS (tS (tR (sQ (A0 rfl) rfl (sL (A2 rfl rfl) rfl rfl ?_)))))
 (refine E5 rfl (P0 (.mk tk tks) _ _ htsm hty) rfl rfl (fun v9 G1 hle1 hh => ?_); obtain ⟨cs1, F1, rfl, hs1, hn1⟩ := hh; obtain ⟨q1, c1, rfl, _⟩ := hs1.open; have hC2 := P0 (.mk fk fks) G1 _ hfsm (hfr.mono hle1))
 refine sQ (A0 rfl) rfl (B1 ?_)
 refine sD (nS (tS (tR (sQ (A0 rfl) rfl (sL (A2 rfl rfl) rfl rfl ?_)))))
 (refine E5 rfl hC2 rfl rfl (fun v9 G2 hle2 hh => ?_); obtain ⟨cs2, F2, rfl, hs2, hn2⟩ := hh; obtain ⟨q2, c2, rfl, _⟩ := hs2.open; have hty1 := hs1.R.mono ((C4.le G1 _).trans hle2); have hfr1 := hs2.R.mono (C4.le G2 G1); have hle12 := hle1.trans hle2; replace hsl := hsl.mono hle12; replace hkl := hkl.mono hle12; replace hv := hv.mono hle12)
 refine sQ (A0 rfl) rfl (B1 ?_)
 refine sD (nS (tS (tR (sQ (A0 rfl) rfl (B1 ?_)))))
 refine sD (nS (tS (tS (tR (sQ (qA rfl) rfl (sD (nS ?_)))))))
 refine B9 ?_
 (refine S0 28 9 ?_; refine J4 (fun (x : Nat × Option Addr × Nat × List (List Value) × IM) => ⟨[(8, .int .i64 x.1), (1, .string y), (3, .pointer (some ⟨b3, 0, none⟩)), (5, .pointer (some ⟨b4, 0, none⟩)), (6, .pointer (some ⟨b5, 0, none⟩)), (7, .pointer (some ⟨b326, 0, none⟩))], [.blk b326 [.int .i64 k, .string nm, .int .i64 num, .int .i64 tk, .slice q1 tks.length c1, .int .i64 fk, .slice q2 fks.length c2, .int .i64 lb, .slice x.2.1 x.1 x.2.2.1], .slc x.2.1 x.2.2.1 28 9 x.1 x.2.2.2.1.flatten, .blk b5 [.int .i64 0, .string ⟨⟨[]⟩⟩, .int .i64 0, .int .i64 0, .slice none 0 0, .int .i64 0, .slice none 0 0, .int .i64 0, .slice none 0 0], .blk b4 vc, .blk b3 [.int .i64 k, .string nm, .int .i64 num, .int .i64 tk, .slice pt tks.length ct, .int .i64 fk, .slice pf fks.length cf, .int .i64 lb, .slice p ks.length c]], x.2.2.2.2⟩) (fun x => x.1 ≤ ks.length ∧ B8 G2 x.2.2.2.2 ∧ D3 x.2.2.2.2 ((T3 y v ks).take x.1) x.2.2.2.1) (fun x => ks.length - x.1) (0, none, 0, [], G2) ?_ ?_ ?_)
 (simp only [I3]; exact D9)
 (exact ⟨Nat.zero_le _, B8.refl _, by simp [D3]⟩)
 (rintro ⟨i, pn, cn, es', Gi⟩ ⟨hi, hle, hst⟩; simp only [] at hi hle hst ⊢; replace hsl := hsl.mono hle; replace hkl := hkl.mono hle; replace hv := hv.mono hle; replace hty1 := hty1.mono hle; replace hfr1 := hfr1.mono hle; have hsl' := hst.len; rw [List.length_take, W8] at hsl')
 refine tS (tS (tR (sQ (qM rfl) rfl (sQ (A0 rfl) rfl (sL (A3 rfl rfl) rfl rfl (sQ (H8 rfl rfl) rfl ?_))))))
 refine sB (J1 rfl rfl) rfl rfl (fun h372 => ?_) (fun h372 => ?_)
 refine sD (nS (qT rfl (tK (nS (tS ?_)))))
 refine B9 ?_
 (have hil : i < ks.length := (by omega); obtain ⟨bx, ox, e, rfl, hl, hat, hre, hgb⟩ := hsl.kidTm hkl (i := i) (by omega) (by omega); have hel := hre.len; have heo := hre.one; refine D4 D6 rfl ?_)
 refine K2 (i := 8) (l' := [ff,ff,ff,ff,ff,ff,ff,ff,tt,ff,ff,ff,ff,ff]) rfl C9 (A5 rfl rfl (B2 (by repeat first | exact mH | apply mT)) hvl) rfl (by kernel_rfl) rfl rfl ?_
 refine aP 0 rfl (A0 rfl) rfl ?_
 refine aL 1 rfl (A3 rfl rfl) rfl ?_
 refine aP 2 rfl (A0 rfl) rfl ?_
 refine aL 3 rfl (A3 rfl rfl) rfl ?_
 refine aP 4 rfl (qM rfl) rfl ?_
 refine aP 5 rfl (B3 (j := i) rfl rfl rfl (by omega)) rfl ?_
 refine aL 6 rfl (A5 rfl rfl (hat _) hl) rfl ?_
 refine aP 7 rfl (qM rfl) rfl ?_
 refine A4 9 ?_
 (refine F0 rfl rfl (ih ks[i] (List.getElem_mem (by omega)) Gi _ (Tm.smallL_mem hks _ (List.getElem_mem (by omega))) hre hv) rfl rfl rfl (fun u G3 hle3 hh => ?_); obtain ⟨uc, rfl, hru⟩ := hh; have hul := hru.len; have huo := hru.one; obtain ⟨v1, v2, v3, v4, v5, v6, v7, v8, v9, rfl⟩ := nine hul)
 refine A4 10 ?_
 (refine E0 rfl (C7 rfl rfl rfl (by omega) (by unfold maxLen; omega) rfl) rfl rfl ?_; rintro _ ⟨b393, rfl⟩)
 refine A4 11 ?_
 (refine Q2 rfl rfl rfl rfl rfl rfl (fun _ _ => by repeat (first | exact Sw.here | apply Sw.there)) (M9 (by repeat first | exact mH | apply mT)) rfl (fun u hu => List.all_eq_true.1 huo u hu) (by unfold maxLen; omega) (by omega) rfl rfl (by repeat (first | exact A8.nil | apply A8.dep (by decide +kernel) | apply A8.im (by decide +kernel) (by assumption) (by repeat first | exact mH | apply mT) | apply A8.blk (by decide +kernel) (by repeat (first | exact Pk.here | apply Pk.there)) (by repeat first | exact mH | apply mT) | apply A8.slc (by decide +kernel) (by repeat (first | exact Pk.here | apply Pk.there)) (by repeat first | exact mH | apply mT))) (fun p7 c7 => ?_))
 refine aP 12 rfl (A0 rfl) rfl ?_
 refine A4 13 ?_
 refine Q6 rfl rfl rfl rfl rfl rfl rfl rfl (by decide +kernel) (by repeat first | exact Sw.here | apply Sw.there) (by rfl) ?_
 refine B5 (E3 (nS (tR (sQ (qM rfl) rfl ?_))))
 refine sP (I7 rfl rfl (by omega) (by omega)) rfl rfl ?_
 refine sQ (qA rfl) rfl (sD ?_)
 refine J3 (i + 1, p7, c7, es' ++ [[v1, v2, v3, v4, v5, v6, v7, v8, v9]], G3) ?_ ?_ ?_
 (simp only [I3]; exact D9)
 (dsimp only; exact ⟨by omega, hle.trans hle3, by rw [A2N (by omega)]; exact D3.snoc (hst.mono hle3) hru⟩)
 (show ks.length - (i + 1) < ks.length - i; omega)
 refine sD (nS (cF rfl (M3 (M5 (N7 (M6 (nS (tS (tR (sL (A2 rfl rfl) rfl rfl (B1 ?_)))))))))))
 refine sD (nS ?_)
 (refine E9 (cs := es'.flatten) (by repeat (first | exact Pk.here | apply Pk.there)) (fun G4 hle4 hsl4 hno4 => ?_); obtain rfl : i = ks.length := (by omega))
 refine tT ?_
 refine A9 (rC rfl (A2 rfl rfl)) ?_
 (rw [if_neg (by rintro ⟨h1, h2⟩; first | omega | contradiction), if_neg (by rintro ⟨h1, h2⟩; first | omega | contradiction)]; rw [List.take_of_length_le (by rw [W8]; omega)] at hst; exact Q8.mk (B0.put hk hnum hlb (hty1.mono hle4) (hfr1.mono hle4) (by rw [W8]) (D2.of hsl4 (by omega) hst.all (fun e he => (hst.each e he).2)) (hst.mono hle4)))
theorem A9y (k : Int) (a b : Tm) (G : IM) (ca cb : List Value) (hk78 : k = 7 ∨ k = 8) (hca : 0 ≤ a.num ∧ a.num ≤ 999) (hcb : 0 ≤ b.num ∧ b.num ≤ 999) (hra : B0 G a ca) (hrb : B0 G b cb) : Fn Tryz.prog 174 [.int .i64 k, .agg ⟨ca⟩, .agg ⟨cb⟩] [] G (J8 (O2 k B4 B4 0 [a, b])) := by
 obtain ⟨ak, anm, anum, ⟨atk, atks⟩, ⟨afk, afks⟩, alb, aks⟩ := a
 obtain ⟨bk, bnm, bnum, ⟨btk, btks⟩, ⟨bfk, bfks⟩, blb, bks⟩ := b
 obtain ⟨apt, act, apf, acf, ap, ac, aes, rfl, hak, hanum, halb, haty, hafr, hasl, hakl⟩ := hra.open9
 obtain ⟨bpt, bct, bpf, bcf, bp, bc, bes, rfl, hbk, hbnum, hblb, hbty, hbfr, hbsl, hbkl⟩ := hrb.open9
 simp only [Tm.num] at hca hcb
 have hR : O2 k B4 B4 0 [Tm.mk ak anm anum (.mk atk atks) (.mk afk afks) alb aks, Tm.mk bk bnm bnum (.mk btk btks) (.mk bfk bfks) blb bks] = (if ak = 2 ∧ bk = 2 then (if k = 7 then A1I ((anum + bnum) % 1000) else X7 (anum < bnum), 1, 0) else P5) := by
  unfold O2; rw [if_neg (by omega), if_pos hk78]; rfl
 rw [hR]
 have htm : (anum + bnum).tmod 1000 = (anum + bnum) % 1000 := A8d hca hcb
 have hb : E6 ((anum + bnum) % 1000) := ⟨by omega, by omega⟩
 refine C0 Tryz.func174 rfl Tryz.ntmps174 Tryz.results174 rfl ?_
 intro w0
 refine tS (tR ?_)
 refine sE (C5 rfl rfl) rfl (fun b3 => ?_)
 refine sE (C5 rfl rfl) rfl (fun b4 => ?_)
 refine sE (A7 rfl) rfl (fun b5 => ?_)
 refine sQ (qA rfl) rfl (sQ (qA rfl) rfl (sD (nS (tS (tS (tR (sQ (A0 rfl) rfl (sL (A3 rfl rfl) rfl rfl ?_))))))))
 refine sB (N9 rfl rfl) rfl rfl (fun h15 => ?_) (fun h15 => ?_)
 refine U5 ?_
 refine C8 (rC rfl (A2 rfl rfl)) (rT rfl) (rT rfl) ?_
 (exact J8.mk (by rw [if_neg (by omega)]; rfl) (L3 _))
 refine sQ (qM rfl) rfl (sQ (A0 rfl) rfl (sL (A3 rfl rfl) rfl rfl ?_))
 refine sB (N9 rfl rfl) rfl rfl (fun h39 => ?_) (fun h39 => ?_)
 refine R2 ?_
 refine C8 (rC rfl (A2 rfl rfl)) (rT rfl) (rT rfl) ?_
 (exact J8.mk (by rw [if_neg (by omega)]; rfl) (L3 _))
 refine sQ (D7 rfl rfl) rfl (sD (nS (cF rfl (tK (nS (tS (tS (tR (sQ (qM rfl) rfl ?_)))))))))
 refine sB (qE rfl rfl) rfl rfl (fun h66 => ?_) (fun h66 => ?_)
 refine sD (nS (qT rfl (tS (tR (sQ (A0 rfl) rfl (sL (A3 rfl rfl) rfl rfl (sQ (A0 rfl) rfl (sL (A3 rfl rfl) rfl rfl ?_))))))))
 refine sP (I7 rfl rfl (by omega) (by omega)) rfl rfl ?_
 refine sP (A2Y rfl rfl (by omega)) rfl rfl ?_
 (rw [htm]; refine H0 rfl (A15 _ _) rfl rfl ?_)
 refine B1 ?_
 refine sQ (qA rfl) rfl (sQ (qA rfl) rfl (sD (nS (tT (rS ?_)))))
 refine C8 (rC rfl (A2 rfl rfl)) (rT rfl) (rT rfl) ?_
 (exact J8.mk (u := A1I (HMod.hMod (anum + bnum) 1000)) (by rw [if_pos ⟨by omega, by omega⟩, if_pos (by omega)]) (B0.put (us := []) ⟨by decide, by decide⟩ hb ⟨by decide, by decide⟩ (A05 _) (A05 _) rfl (D2.nil _ _) rfl))
 refine A0l ?_
 (refine sB (J1 rfl rfl) rfl rfl (fun h99 => ?_) (fun h99 => ?_))
 (refine E5 rfl (A9x _ _) rfl rfl (fun u G1 hle1 hh => ?_); obtain ⟨uc, rfl, hru⟩ := hh; have hul := hru.len; have huo := hru.one)
 refine sS rfl rfl rfl hul huo rfl ?_ (hu := by exact D5 hul.symm)
 refine sQ (qA rfl) rfl (sQ (qA rfl) rfl (sD (nS (tT ?_))))
 refine C8 (rC rfl (A5 rfl rfl (B2 (by repeat first | exact mH | apply mT)) hul)) (rT rfl) (rT rfl) ?_
 (exact J8.mk (by rw [if_pos ⟨by omega, by omega⟩, if_neg (by omega)]; unfold X7; rw [if_pos (by omega), if_pos rfl]) hru)
 (refine E5 rfl (A9x _ _) rfl rfl (fun u G1 hle1 hh => ?_); obtain ⟨uc, rfl, hru⟩ := hh; have hul := hru.len; have huo := hru.one)
 refine sS rfl rfl rfl hul huo rfl ?_ (hu := by exact D5 hul.symm)
 refine sQ (qA rfl) rfl (sQ (qA rfl) rfl (sD (nS (tT ?_))))
 refine C8 (rC rfl (A5 rfl rfl (B2 (by repeat first | exact mH | apply mT)) hul)) (rT rfl) (rT rfl) ?_
 (exact J8.mk (by rw [if_pos ⟨by omega, by omega⟩, if_neg (by omega)]; unfold X7; rw [if_neg (by omega), if_neg (by decide)]) hru)
theorem B4u (a b : Tm) (G : IM) (ca cb : List Value) (hca : cv a) (hbs : b.small) (hra : B0 G a ca) (hrb : B0 G b cb) : Fn Tryz.prog 173 [.agg ⟨ca⟩, .agg ⟨cb⟩] [] G (J8 (O2 6 B4 B4 0 [a, b])) := by
 have hsma := A19 a hca
 have hP := A4D a G _ hra
 obtain ⟨ak, anm, anum, ⟨atk, atks⟩, ⟨afk, afks⟩, alb, aks⟩ := a
 obtain ⟨hN, hkk⟩ := hca.node
 have hops := hN.ops
 have hbl := hN.lbB
 have htyA := hN.tyA
 have hfrA := hN.frA
 rw [E2] at htyA hfrA
 have htyS := fun t (h : t ∈ atks) => (A1q.1 htyA.2.2 t h).small
 have hfrS := fun t (h : t ∈ afks) => (A1q.1 hfrA.2.2 t h).small
 have h14 : ak = 14 → aks.length = 1 := fun h => by rw [h] at hops; have : D0 14 = 1 := rfl; omega
 have h5 : ak = 5 → aks.length = 1 := fun h => by rw [h] at hops; have : D0 5 = 1 := rfl; omega
 obtain ⟨_, _, _, _, hksm⟩ := Z5.1 hsma
 have hbL := hrb.len
 have hbO := hrb.one
 obtain ⟨apt, act, apf, acf, ap, ac, aes, rfl, hak, hanum, halb, haty, hafr, hasl, hakl⟩ := hra.open9
 obtain ⟨tes, htS, htL⟩ := haty.kids
 obtain ⟨fes, hfS, hfL⟩ := hafr.kids
 simp only [Ty.ks] at htS htL hfS hfL
 obtain ⟨y1, y2, y3, y4, y5, y6, y7, y8, y9, rfl⟩ := nine hbL
 have hR : O2 6 B4 B4 0 [Tm.mk ak anm anum (.mk atk atks) (.mk afk afks) alb aks, b] = (if ak = 5 then (V8 anm b (kd aks 0), 1, 0) else if (ak = 14 ∧ afk = atk ∧ (atk = 4 ∨ atk = 5)) ∧ atk = 4 then (J9 (V9 6 [kd aks 0, J9 b (kt atks 0) (kt afks 0) (-alb)]) (kt afks 1) (kt atks 1) alb, 1, 0) else P5) := by
  unfold O2
  rw [if_pos rfl, show kd [Tm.mk ak anm anum (.mk atk atks) (.mk afk afks) alb aks, b] 0 = Tm.mk ak anm anum (.mk atk atks) (.mk afk afks) alb aks from rfl, A0D]
  simp only [decide_eq_true_eq]
  rfl
 rw [hR]
 replace hP : Fn Tryz.prog 87 _ [] G (H4 (.bool (decide (ak = 14 ∧ afk = atk ∧ (atk = 4 ∨ atk = 5)))) G) := hP
 refine C0 Tryz.func173 rfl Tryz.ntmps173 Tryz.results173 rfl ?_
 intro w0
 refine tS (tR ?_)
 refine sE (C5 rfl rfl) rfl (fun b3 => ?_)
 refine sE (C5 rfl rfl) rfl (fun b4 => ?_)
 refine sE (A7 rfl) rfl (fun b5 => ?_)
 refine sQ (qA rfl) rfl (sQ (qA rfl) rfl (sD (nS (tS (tS (tR (sQ (A0 rfl) rfl (sL (A3 rfl rfl) rfl rfl ?_))))))))
 refine sB (qE rfl rfl) rfl rfl (fun h15 => ?_) (fun h15 => ?_)
 refine sD (nS (qT rfl (tS ?_)))
 (have hq : ak = 5 := (by assumption); have hq1 := h5 hq; obtain ⟨bq, oq, e3, rfl, hl3, hat3, hre3, hgb3⟩ := hasl.kidTm hakl (i := 0) (by omega) (by omega); have hS := B4t anm b _ hbs aks[0] G e3 (Tm.smallL_mem hksm _ (List.getElem_mem (by omega))) hre3 hrb; refine D4 D6 rfl ?_)
 refine K2 (i := 6) (l' := [ff,ff,ff,ff,ff,ff,tt,ff,ff,ff,ff]) rfl C9 (A5 rfl rfl (B2 (by repeat first | exact mH | apply mT)) rfl) rfl (by kernel_rfl) rfl rfl ?_
 refine aP 0 rfl (A0 rfl) rfl ?_
 refine aL 1 rfl (A3 rfl rfl) rfl ?_
 refine aP 2 rfl (B3 (j := 0) rfl rfl rfl (by omega)) rfl ?_
 refine aL 3 rfl (A5 rfl rfl (hat3 _) hl3) rfl ?_
 refine aP 4 rfl (A0 rfl) rfl ?_
 refine aL 5 rfl (A3 rfl rfl) rfl ?_
 refine A4 7 ?_
 (refine F0 rfl rfl hS rfl rfl rfl (fun u G1 hle1 hh => ?_); obtain ⟨uc, rfl, hru⟩ := hh; have hwl := hru.len; have hwo := hru.one)
 refine A4 8 ?_
 (refine oS rfl rfl rfl rfl hwl hwo rfl rfl ?_ (hu := by exact D5 hwl.symm))
 refine aP 9 rfl (qA rfl) rfl ?_
 refine aP 10 rfl (qA rfl) rfl ?_
 refine B5 (nS (tT (rS ?_)))
 refine C8 (rC rfl (A5 rfl rfl (B2 (by repeat first | exact mH | apply mT)) hwl)) (rT rfl) (rT rfl) ?_
 (exact J8.mk (by rw [if_pos hq, Z6 (by omega)]) hru)
 refine sD (nS (cF rfl (tK (nS (tS (tS (tR (sL (A2 rfl rfl) rfl rfl ?_))))))))
 focus (by_cases hpx : (ak = 14 ∧ afk = atk ∧ (atk = 4 ∨ atk = 5)); rw [decide_eq_true hpx] at hP; rotate_left; rw [decide_eq_false hpx] at hP; rotate_left; all_goals (refine H0 rfl hP rfl rfl ?_))
 refine sQ (K4 rfl) rfl (sQ (qM rfl) rfl (sQ (A0 rfl) rfl (sQ (qF rfl) rfl (sL (A3 rfl rfl) rfl rfl ?_))))
 refine sB (N9 rfl rfl) rfl rfl (fun h55 => ?_) (fun h55 => ?_)
 refine R2 ?_
 refine C8 (rC rfl (A2 rfl rfl)) (rT rfl) (rT rfl) ?_
 (exact J8.mk (by rw [if_neg (by omega), if_neg (by omega)]; rfl) (L3 _))
 refine sQ (D7 rfl rfl) rfl (sD (nS (cF rfl (tK (nS (tS ?_))))))
 (have hnd : ¬ak = 5 := (by omega); have hq : (ak = 14 ∧ afk = atk ∧ (atk = 4 ∨ atk = 5)) ∧ atk = 4 := ⟨hpx, by omega⟩; have hq1 := h14 hq.1.1; have hq2 := htyA.1 (by omega); have hq3 := hfrA.1 (by omega); obtain ⟨bq, oq, e3, rfl, hl3, hat3, hre3, hgb3⟩ := hasl.kidTm hakl (i := 0) (by omega) (by omega); have ho3 := hre3.one; obtain ⟨b5, o5, q5, d5, rfl, hat5, hre5, hgb5⟩ := htS.kidTy htL (i := 0) (by omega) (by omega); obtain ⟨_, _, q6, d6, hp6, hat6, hre6, hgb6⟩ := htS.kidTy htL (i := 1) (by omega) (by omega); cases hp6; obtain ⟨b7, o7, q7, d7, rfl, hat7, hre7, hgb7⟩ := hfS.kidTy hfL (i := 0) (by omega) (by omega); obtain ⟨_, _, q8, d8, hp8, hat8, hre8, hgb8⟩ := hfS.kidTy hfL (i := 1) (by omega) (by omega); cases hp8; obtain ⟨x1, x2, x3, x4, x5, x6, x7, x8, x9, rfl⟩ := nine hl3; refine D4 D6 rfl ?_)
 refine K2 (i := 0) (l' := [tt,ff,ff,ff,ff,ff,ff,ff,ff,ff,ff,ff,ff,ff,ff,ff,ff]) rfl C9 (A5 rfl rfl (B2 (by repeat first | exact mH | apply mT)) rfl) rfl (by kernel_rfl) rfl rfl ?_
 refine aP 1 rfl (A0 rfl) rfl ?_
 refine aP 2 rfl (qF rfl) rfl ?_
 refine aL 3 rfl (A3 rfl rfl) rfl ?_
 refine aP 4 rfl (B3 (j := 0) rfl rfl rfl (by omega)) rfl ?_
 refine aL 5 rfl (A5 rfl rfl (hat5 _) rfl) rfl ?_
 refine aP 6 rfl (A0 rfl) rfl ?_
 refine aP 7 rfl (qF rfl) rfl ?_
 refine aL 8 rfl (A3 rfl rfl) rfl ?_
 refine aP 9 rfl (B3 (j := 0) rfl rfl rfl (by omega)) rfl ?_
 refine aL 10 rfl (A5 rfl rfl (hat7 _) rfl) rfl ?_
 refine aP 11 rfl (A0 rfl) rfl ?_
 refine aL 12 rfl (A3 rfl rfl) rfl ?_
 refine aP 13 rfl (A3M rfl (by omega) (by omega)) rfl ?_
 refine Q1 (j := 14) (j' := 15) (by kernel_rfl) ?_ ?_
 (have hcO := hnd; refine F0 rfl rfl (A0r b atks[0] afks[0] (-alb) G _ _ _ ⟨by omega, by omega⟩ hrb hre5 hre7 (htyS _ (List.getElem_mem (by omega))) (hfrS _ (List.getElem_mem (by omega)))) rfl rfl rfl (fun u G1 hle1 hh => ?_); obtain ⟨uc, rfl, hru⟩ := hh; have hul := hru.len; have huo := hru.one; obtain ⟨z1, z2, z3, z4, z5, z6, z7, z8, z9, rfl⟩ := nine hul; replace hre3 := hre3.mono hle1; replace hre6 := hre6.mono hle1; replace hre8 := hre8.mono hle1)
 refine A4 15 ?_
 (refine E0 rfl (A7 rfl) rfl rfl ?_; rintro _ ⟨b97, rfl⟩)
 refine A4 16 ?_
 (refine oS rfl rfl rfl rfl rfl huo rfl rfl ?_ (hu := by exact D5 rfl))
 refine B5 (nS (tS ?_))
 refine D4 D6 rfl ?_
 refine K2 (i := 4) (l' := [ff,ff,ff,ff,tt,ff,ff,ff,ff]) rfl C9 (A5 rfl rfl (B2 (by repeat first | exact mH | apply mT)) rfl) rfl (by kernel_rfl) rfl rfl ?_
 refine aP 0 rfl (A0 rfl) rfl ?_
 refine aL 1 rfl (A3 rfl rfl) rfl ?_
 refine aP 2 rfl (B3 (j := 0) rfl rfl rfl (by omega)) rfl ?_
 refine aL 3 rfl (A5 rfl rfl (At.mono' hle1 (hat3 _)) rfl) rfl ?_
 refine Q1 (j := 5) (j' := 7) (by kernel_rfl) ?_ ?_
 (refine E0 rfl (C7 rfl rfl rfl (by omega) (by unfold maxLen; omega) rfl) rfl rfl ?_; rintro _ ⟨b110, rfl⟩)
 refine Q1 (j := 6) (j' := 7) (by kernel_rfl) ?_ ?_
 (refine A0X (cs := [x1, x2, x3, x4, x5, x6, x7, x8, x9, z1, z2, z3, z4, z5, z6, z7, z8, z9]) (by repeat (first | exact Pk.here | apply Pk.there)) (fun G2 hle2 hsl2 hno2 => ?_); have hrN := A0C (k := 6) (ks := [aks[0], J9 b atks[0] afks[0] (-alb)]) (es := [[x1, x2, x3, x4, x5, x6, x7, x8, x9], [z1, z2, z3, z4, z5, z6, z7, z8, z9]]) ⟨by decide, by decide⟩ rfl (D2.of hsl2 rfl (by simp) (by intro x hx; rcases List.mem_cons.1 hx with rfl | hx; exact ho3; obtain rfl := List.mem_singleton.1 hx; exact huo)) (by simp only [D3]; exact ⟨_, _, rfl, hre3.mono hle2, _, _, rfl, hru.mono hle2, rfl⟩); replace hre6 := hre6.mono hle2; replace hre8 := hre8.mono hle2; refine M7 rfl rfl (A0f _ _ _ _ _) rfl rfl rfl ?_)
 refine A4 7 ?_
 (refine E0 rfl (A7 rfl) rfl rfl ?_; rintro _ ⟨b114, rfl⟩)
 refine A4 8 ?_
 refine F8 rfl ?_
 refine B5 (nS (tS ?_))
 refine D4 D6 rfl ?_
 refine K2 (i := 0) (l' := [tt,ff,ff,ff,ff,ff,ff,ff,ff,ff,ff,ff,ff,ff,ff,ff,ff]) rfl C9 (A5 rfl rfl (B2 (by repeat first | exact mH | apply mT)) rfl) rfl (by kernel_rfl) rfl rfl ?_
 refine aP 1 rfl (A0 rfl) rfl ?_
 refine aP 2 rfl (qF rfl) rfl ?_
 refine aL 3 rfl (A3 rfl rfl) rfl ?_
 refine aP 4 rfl (B3 (j := 1) rfl rfl rfl (by omega)) rfl ?_
 refine aL 5 rfl (A5 rfl rfl (At.mono' (hle1.trans hle2) (hat8 _)) rfl) rfl ?_
 refine aP 6 rfl (A0 rfl) rfl ?_
 refine aP 7 rfl (qF rfl) rfl ?_
 refine aL 8 rfl (A3 rfl rfl) rfl ?_
 refine aP 9 rfl (B3 (j := 1) rfl rfl rfl (by omega)) rfl ?_
 refine aL 10 rfl (A5 rfl rfl (At.mono' (hle1.trans hle2) (hat6 _)) rfl) rfl ?_
 refine aP 11 rfl (A0 rfl) rfl ?_
 refine aL 12 rfl (A3 rfl rfl) rfl ?_
 refine A4 13 ?_
 (refine F0 rfl rfl (A0r _ afks[1] atks[1] alb G2 _ _ _ ⟨by omega, by omega⟩ hrN hre8 hre6 (hfrS _ (List.getElem_mem (by omega))) (htyS _ (List.getElem_mem (by omega)))) rfl rfl rfl (fun u G3 hle3 hh => ?_); obtain ⟨wc, rfl, hrw⟩ := hh; have hwl := hrw.len; have hwo := hrw.one)
 refine A4 14 ?_
 (refine oS rfl rfl rfl rfl hwl hwo rfl rfl ?_ (hu := by exact D5 hwl.symm))
 refine aP 15 rfl (qA rfl) rfl ?_
 refine aP 16 rfl (qA rfl) rfl ?_
 refine B5 (nS (tT ?_))
 refine C8 (rC rfl (A5 rfl rfl (B2 (by repeat first | exact mH | apply mT)) hwl)) (rT rfl) (rT rfl) ?_
 (exact J8.mk (by rw [if_neg hnd, if_pos hq, Z6 (by omega), O5 (by omega), O5 (by omega), O5 (by omega), O5 (by omega)]) hrw)
 (refine E0 rfl (A7 rfl) rfl rfl ?_; rintro _ ⟨b145, rfl⟩)
 refine A4 6 ?_
 (refine A0X (cs := [x1, x2, x3, x4, x5, x6, x7, x8, x9, z1, z2, z3, z4, z5, z6, z7, z8, z9]) (by repeat (first | exact Pk.here | apply Pk.there)) (fun G2 hle2 hsl2 hno2 => ?_); have hrN := A0C (k := 6) (ks := [aks[0], J9 b atks[0] afks[0] (-alb)]) (es := [[x1, x2, x3, x4, x5, x6, x7, x8, x9], [z1, z2, z3, z4, z5, z6, z7, z8, z9]]) ⟨by decide, by decide⟩ rfl (D2.of hsl2 rfl (by simp) (by intro x hx; rcases List.mem_cons.1 hx with rfl | hx; exact ho3; obtain rfl := List.mem_singleton.1 hx; exact huo)) (by simp only [D3]; exact ⟨_, _, rfl, hre3.mono hle2, _, _, rfl, hru.mono hle2, rfl⟩); replace hre6 := hre6.mono hle2; replace hre8 := hre8.mono hle2; refine M7 rfl rfl (A0f _ _ _ _ _) rfl rfl rfl ?_)
 refine A4 8 ?_
 refine F8 rfl ?_
 refine B5 (nS (tS ?_))
 refine D4 D6 rfl ?_
 refine K2 (i := 0) (l' := [tt,ff,ff,ff,ff,ff,ff,ff,ff,ff,ff,ff,ff,ff,ff,ff,ff]) rfl C9 (A5 rfl rfl (B2 (by repeat first | exact mH | apply mT)) rfl) rfl (by kernel_rfl) rfl rfl ?_
 refine aP 1 rfl (A0 rfl) rfl ?_
 refine aP 2 rfl (qF rfl) rfl ?_
 refine aL 3 rfl (A3 rfl rfl) rfl ?_
 refine aP 4 rfl (B3 (j := 1) rfl rfl rfl (by omega)) rfl ?_
 refine aL 5 rfl (A5 rfl rfl (At.mono' (hle1.trans hle2) (hat8 _)) rfl) rfl ?_
 refine aP 6 rfl (A0 rfl) rfl ?_
 refine aP 7 rfl (qF rfl) rfl ?_
 refine aL 8 rfl (A3 rfl rfl) rfl ?_
 refine aP 9 rfl (B3 (j := 1) rfl rfl rfl (by omega)) rfl ?_
 refine aL 10 rfl (A5 rfl rfl (At.mono' (hle1.trans hle2) (hat6 _)) rfl) rfl ?_
 refine aP 11 rfl (A0 rfl) rfl ?_
 refine aL 12 rfl (A3 rfl rfl) rfl ?_
 refine A4 13 ?_
 (refine F0 rfl rfl (A0r _ afks[1] atks[1] alb G2 _ _ _ ⟨by omega, by omega⟩ hrN hre8 hre6 (hfrS _ (List.getElem_mem (by omega))) (htyS _ (List.getElem_mem (by omega)))) rfl rfl rfl (fun u G3 hle3 hh => ?_); obtain ⟨wc, rfl, hrw⟩ := hh; have hwl := hrw.len; have hwo := hrw.one)
 refine A4 14 ?_
 (refine oS rfl rfl rfl rfl hwl hwo rfl rfl ?_ (hu := by exact D5 hwl.symm))
 refine aP 15 rfl (qA rfl) rfl ?_
 refine aP 16 rfl (qA rfl) rfl ?_
 refine B5 (nS (tT ?_))
 refine C8 (rC rfl (A5 rfl rfl (B2 (by repeat first | exact mH | apply mT)) hwl)) (rT rfl) (rT rfl) ?_
 (exact J8.mk (by rw [if_neg hnd, if_pos hq, Z6 (by omega), O5 (by omega), O5 (by omega), O5 (by omega), O5 (by omega)]) hrw)
 (refine E0 rfl (A7 rfl) rfl rfl ?_; rintro _ ⟨b178, rfl⟩)
 refine A4 5 ?_
 (refine E0 rfl (C7 rfl rfl rfl (by omega) (by unfold maxLen; omega) rfl) rfl rfl ?_; rintro _ ⟨b180, rfl⟩)
 refine A4 6 ?_
 (refine A0X (cs := [x1, x2, x3, x4, x5, x6, x7, x8, x9, z1, z2, z3, z4, z5, z6, z7, z8, z9]) (by repeat (first | exact Pk.here | apply Pk.there)) (fun G2 hle2 hsl2 hno2 => ?_); have hrN := A0C (k := 6) (ks := [aks[0], J9 b atks[0] afks[0] (-alb)]) (es := [[x1, x2, x3, x4, x5, x6, x7, x8, x9], [z1, z2, z3, z4, z5, z6, z7, z8, z9]]) ⟨by decide, by decide⟩ rfl (D2.of hsl2 rfl (by simp) (by intro x hx; rcases List.mem_cons.1 hx with rfl | hx; exact ho3; obtain rfl := List.mem_singleton.1 hx; exact huo)) (by simp only [D3]; exact ⟨_, _, rfl, hre3.mono hle2, _, _, rfl, hru.mono hle2, rfl⟩); replace hre6 := hre6.mono hle2; replace hre8 := hre8.mono hle2; refine M7 rfl rfl (A0f _ _ _ _ _) rfl rfl rfl ?_)
 refine A4 8 ?_
 refine F8 rfl ?_
 refine B5 (nS (tS ?_))
 refine D4 D6 rfl ?_
 refine K2 (i := 0) (l' := [tt,ff,ff,ff,ff,ff,ff,ff,ff,ff,ff,ff,ff,ff,ff,ff,ff]) rfl C9 (A5 rfl rfl (B2 (by repeat first | exact mH | apply mT)) rfl) rfl (by kernel_rfl) rfl rfl ?_
 refine aP 1 rfl (A0 rfl) rfl ?_
 refine aP 2 rfl (qF rfl) rfl ?_
 refine aL 3 rfl (A3 rfl rfl) rfl ?_
 refine aP 4 rfl (B3 (j := 1) rfl rfl rfl (by omega)) rfl ?_
 refine aL 5 rfl (A5 rfl rfl (At.mono' (hle1.trans hle2) (hat8 _)) rfl) rfl ?_
 refine aP 6 rfl (A0 rfl) rfl ?_
 refine aP 7 rfl (qF rfl) rfl ?_
 refine aL 8 rfl (A3 rfl rfl) rfl ?_
 refine aP 9 rfl (B3 (j := 1) rfl rfl rfl (by omega)) rfl ?_
 refine aL 10 rfl (A5 rfl rfl (At.mono' (hle1.trans hle2) (hat6 _)) rfl) rfl ?_
 refine aP 11 rfl (A0 rfl) rfl ?_
 refine aL 12 rfl (A3 rfl rfl) rfl ?_
 refine A4 13 ?_
 (refine F0 rfl rfl (A0r _ afks[1] atks[1] alb G2 _ _ _ ⟨by omega, by omega⟩ hrN hre8 hre6 (hfrS _ (List.getElem_mem (by omega))) (htyS _ (List.getElem_mem (by omega)))) rfl rfl rfl (fun u G3 hle3 hh => ?_); obtain ⟨wc, rfl, hrw⟩ := hh; have hwl := hrw.len; have hwo := hrw.one)
 refine A4 14 ?_
 (refine oS rfl rfl rfl rfl hwl hwo rfl rfl ?_ (hu := by exact D5 hwl.symm))
 refine aP 15 rfl (qA rfl) rfl ?_
 refine aP 16 rfl (qA rfl) rfl ?_
 refine B5 (nS (tT ?_))
 refine C8 (rC rfl (A5 rfl rfl (B2 (by repeat first | exact mH | apply mT)) hwl)) (rT rfl) (rT rfl) ?_
 (exact J8.mk (by rw [if_neg hnd, if_pos hq, Z6 (by omega), O5 (by omega), O5 (by omega), O5 (by omega), O5 (by omega)]) hrw)
 (refine E0 rfl (A7 rfl) rfl rfl ?_; rintro _ ⟨b213, rfl⟩)
 refine A4 14 ?_
 (have hcO := hnd; refine F0 rfl rfl (A0r b atks[0] afks[0] (-alb) G _ _ _ ⟨by omega, by omega⟩ hrb hre5 hre7 (htyS _ (List.getElem_mem (by omega))) (hfrS _ (List.getElem_mem (by omega)))) rfl rfl rfl (fun u G1 hle1 hh => ?_); obtain ⟨uc, rfl, hru⟩ := hh; have hul := hru.len; have huo := hru.one; obtain ⟨z1, z2, z3, z4, z5, z6, z7, z8, z9, rfl⟩ := nine hul; replace hre3 := hre3.mono hle1; replace hre6 := hre6.mono hle1; replace hre8 := hre8.mono hle1)
 refine A4 16 ?_
 (refine oS rfl rfl rfl rfl rfl huo rfl rfl ?_ (hu := by exact D5 rfl))
 refine B5 (nS (tS ?_))
 refine D4 D6 rfl ?_
 refine K2 (i := 4) (l' := [ff,ff,ff,ff,tt,ff,ff,ff,ff]) rfl C9 (A5 rfl rfl (B2 (by repeat first | exact mH | apply mT)) rfl) rfl (by kernel_rfl) rfl rfl ?_
 refine aP 0 rfl (A0 rfl) rfl ?_
 refine aL 1 rfl (A3 rfl rfl) rfl ?_
 refine aP 2 rfl (B3 (j := 0) rfl rfl rfl (by omega)) rfl ?_
 refine aL 3 rfl (A5 rfl rfl (At.mono' hle1 (hat3 _)) rfl) rfl ?_
 refine Q1 (j := 5) (j' := 7) (by kernel_rfl) ?_ ?_
 (refine E0 rfl (C7 rfl rfl rfl (by omega) (by unfold maxLen; omega) rfl) rfl rfl ?_; rintro _ ⟨b228, rfl⟩)
 refine Q1 (j := 6) (j' := 7) (by kernel_rfl) ?_ ?_
 (refine A0X (cs := [x1, x2, x3, x4, x5, x6, x7, x8, x9, z1, z2, z3, z4, z5, z6, z7, z8, z9]) (by repeat (first | exact Pk.here | apply Pk.there)) (fun G2 hle2 hsl2 hno2 => ?_); have hrN := A0C (k := 6) (ks := [aks[0], J9 b atks[0] afks[0] (-alb)]) (es := [[x1, x2, x3, x4, x5, x6, x7, x8, x9], [z1, z2, z3, z4, z5, z6, z7, z8, z9]]) ⟨by decide, by decide⟩ rfl (D2.of hsl2 rfl (by simp) (by intro x hx; rcases List.mem_cons.1 hx with rfl | hx; exact ho3; obtain rfl := List.mem_singleton.1 hx; exact huo)) (by simp only [D3]; exact ⟨_, _, rfl, hre3.mono hle2, _, _, rfl, hru.mono hle2, rfl⟩); replace hre6 := hre6.mono hle2; replace hre8 := hre8.mono hle2; refine M7 rfl rfl (A0f _ _ _ _ _) rfl rfl rfl ?_)
 refine A4 7 ?_
 (refine E0 rfl (A7 rfl) rfl rfl ?_; rintro _ ⟨b232, rfl⟩)
 refine A4 8 ?_
 refine F8 rfl ?_
 refine B5 (nS (tS ?_))
 refine D4 D6 rfl ?_
 refine K2 (i := 0) (l' := [tt,ff,ff,ff,ff,ff,ff,ff,ff,ff,ff,ff,ff,ff,ff,ff,ff]) rfl C9 (A5 rfl rfl (B2 (by repeat first | exact mH | apply mT)) rfl) rfl (by kernel_rfl) rfl rfl ?_
 refine aP 1 rfl (A0 rfl) rfl ?_
 refine aP 2 rfl (qF rfl) rfl ?_
 refine aL 3 rfl (A3 rfl rfl) rfl ?_
 refine aP 4 rfl (B3 (j := 1) rfl rfl rfl (by omega)) rfl ?_
 refine aL 5 rfl (A5 rfl rfl (At.mono' (hle1.trans hle2) (hat8 _)) rfl) rfl ?_
 refine aP 6 rfl (A0 rfl) rfl ?_
 refine aP 7 rfl (qF rfl) rfl ?_
 refine aL 8 rfl (A3 rfl rfl) rfl ?_
 refine aP 9 rfl (B3 (j := 1) rfl rfl rfl (by omega)) rfl ?_
 refine aL 10 rfl (A5 rfl rfl (At.mono' (hle1.trans hle2) (hat6 _)) rfl) rfl ?_
 refine aP 11 rfl (A0 rfl) rfl ?_
 refine aL 12 rfl (A3 rfl rfl) rfl ?_
 refine A4 13 ?_
 (refine F0 rfl rfl (A0r _ afks[1] atks[1] alb G2 _ _ _ ⟨by omega, by omega⟩ hrN hre8 hre6 (hfrS _ (List.getElem_mem (by omega))) (htyS _ (List.getElem_mem (by omega)))) rfl rfl rfl (fun u G3 hle3 hh => ?_); obtain ⟨wc, rfl, hrw⟩ := hh; have hwl := hrw.len; have hwo := hrw.one)
 refine A4 14 ?_
 (refine oS rfl rfl rfl rfl hwl hwo rfl rfl ?_ (hu := by exact D5 hwl.symm))
 refine aP 15 rfl (qA rfl) rfl ?_
 refine aP 16 rfl (qA rfl) rfl ?_
 refine B5 (nS (tT ?_))
 refine C8 (rC rfl (A5 rfl rfl (B2 (by repeat first | exact mH | apply mT)) hwl)) (rT rfl) (rT rfl) ?_
 (exact J8.mk (by rw [if_neg hnd, if_pos hq, Z6 (by omega), O5 (by omega), O5 (by omega), O5 (by omega), O5 (by omega)]) hrw)
 (refine E0 rfl (A7 rfl) rfl rfl ?_; rintro _ ⟨b263, rfl⟩)
 refine A4 6 ?_
 (refine A0X (cs := [x1, x2, x3, x4, x5, x6, x7, x8, x9, z1, z2, z3, z4, z5, z6, z7, z8, z9]) (by repeat (first | exact Pk.here | apply Pk.there)) (fun G2 hle2 hsl2 hno2 => ?_); have hrN := A0C (k := 6) (ks := [aks[0], J9 b atks[0] afks[0] (-alb)]) (es := [[x1, x2, x3, x4, x5, x6, x7, x8, x9], [z1, z2, z3, z4, z5, z6, z7, z8, z9]]) ⟨by decide, by decide⟩ rfl (D2.of hsl2 rfl (by simp) (by intro x hx; rcases List.mem_cons.1 hx with rfl | hx; exact ho3; obtain rfl := List.mem_singleton.1 hx; exact huo)) (by simp only [D3]; exact ⟨_, _, rfl, hre3.mono hle2, _, _, rfl, hru.mono hle2, rfl⟩); replace hre6 := hre6.mono hle2; replace hre8 := hre8.mono hle2; refine M7 rfl rfl (A0f _ _ _ _ _) rfl rfl rfl ?_)
 refine A4 8 ?_
 refine F8 rfl ?_
 refine B5 (nS (tS ?_))
 refine D4 D6 rfl ?_
 refine K2 (i := 0) (l' := [tt,ff,ff,ff,ff,ff,ff,ff,ff,ff,ff,ff,ff,ff,ff,ff,ff]) rfl C9 (A5 rfl rfl (B2 (by repeat first | exact mH | apply mT)) rfl) rfl (by kernel_rfl) rfl rfl ?_
 refine aP 1 rfl (A0 rfl) rfl ?_
 refine aP 2 rfl (qF rfl) rfl ?_
 refine aL 3 rfl (A3 rfl rfl) rfl ?_
 refine aP 4 rfl (B3 (j := 1) rfl rfl rfl (by omega)) rfl ?_
 refine aL 5 rfl (A5 rfl rfl (At.mono' (hle1.trans hle2) (hat8 _)) rfl) rfl ?_
 refine aP 6 rfl (A0 rfl) rfl ?_
 refine aP 7 rfl (qF rfl) rfl ?_
 refine aL 8 rfl (A3 rfl rfl) rfl ?_
 refine aP 9 rfl (B3 (j := 1) rfl rfl rfl (by omega)) rfl ?_
 refine aL 10 rfl (A5 rfl rfl (At.mono' (hle1.trans hle2) (hat6 _)) rfl) rfl ?_
 refine aP 11 rfl (A0 rfl) rfl ?_
 refine aL 12 rfl (A3 rfl rfl) rfl ?_
 refine A4 13 ?_
 (refine F0 rfl rfl (A0r _ afks[1] atks[1] alb G2 _ _ _ ⟨by omega, by omega⟩ hrN hre8 hre6 (hfrS _ (List.getElem_mem (by omega))) (htyS _ (List.getElem_mem (by omega)))) rfl rfl rfl (fun u G3 hle3 hh => ?_); obtain ⟨wc, rfl, hrw⟩ := hh; have hwl := hrw.len; have hwo := hrw.one)
 refine A4 14 ?_
 (refine oS rfl rfl rfl rfl hwl hwo rfl rfl ?_ (hu := by exact D5 hwl.symm))
 refine aP 15 rfl (qA rfl) rfl ?_
 refine aP 16 rfl (qA rfl) rfl ?_
 refine B5 (nS (tT ?_))
 refine C8 (rC rfl (A5 rfl rfl (B2 (by repeat first | exact mH | apply mT)) hwl)) (rT rfl) (rT rfl) ?_
 (exact J8.mk (by rw [if_neg hnd, if_pos hq, Z6 (by omega), O5 (by omega), O5 (by omega), O5 (by omega), O5 (by omega)]) hrw)
 (refine E0 rfl (A7 rfl) rfl rfl ?_; rintro _ ⟨b296, rfl⟩)
 refine A4 5 ?_
 (refine E0 rfl (C7 rfl rfl rfl (by omega) (by unfold maxLen; omega) rfl) rfl rfl ?_; rintro _ ⟨b298, rfl⟩)
 refine A4 6 ?_
 (refine A0X (cs := [x1, x2, x3, x4, x5, x6, x7, x8, x9, z1, z2, z3, z4, z5, z6, z7, z8, z9]) (by repeat (first | exact Pk.here | apply Pk.there)) (fun G2 hle2 hsl2 hno2 => ?_); have hrN := A0C (k := 6) (ks := [aks[0], J9 b atks[0] afks[0] (-alb)]) (es := [[x1, x2, x3, x4, x5, x6, x7, x8, x9], [z1, z2, z3, z4, z5, z6, z7, z8, z9]]) ⟨by decide, by decide⟩ rfl (D2.of hsl2 rfl (by simp) (by intro x hx; rcases List.mem_cons.1 hx with rfl | hx; exact ho3; obtain rfl := List.mem_singleton.1 hx; exact huo)) (by simp only [D3]; exact ⟨_, _, rfl, hre3.mono hle2, _, _, rfl, hru.mono hle2, rfl⟩); replace hre6 := hre6.mono hle2; replace hre8 := hre8.mono hle2; refine M7 rfl rfl (A0f _ _ _ _ _) rfl rfl rfl ?_)
 refine A4 8 ?_
 refine F8 rfl ?_
 refine B5 (nS (tS ?_))
 refine D4 D6 rfl ?_
 refine K2 (i := 0) (l' := [tt,ff,ff,ff,ff,ff,ff,ff,ff,ff,ff,ff,ff,ff,ff,ff,ff]) rfl C9 (A5 rfl rfl (B2 (by repeat first | exact mH | apply mT)) rfl) rfl (by kernel_rfl) rfl rfl ?_
 refine aP 1 rfl (A0 rfl) rfl ?_
 refine aP 2 rfl (qF rfl) rfl ?_
 refine aL 3 rfl (A3 rfl rfl) rfl ?_
 refine aP 4 rfl (B3 (j := 1) rfl rfl rfl (by omega)) rfl ?_
 refine aL 5 rfl (A5 rfl rfl (At.mono' (hle1.trans hle2) (hat8 _)) rfl) rfl ?_
 refine aP 6 rfl (A0 rfl) rfl ?_
 refine aP 7 rfl (qF rfl) rfl ?_
 refine aL 8 rfl (A3 rfl rfl) rfl ?_
 refine aP 9 rfl (B3 (j := 1) rfl rfl rfl (by omega)) rfl ?_
 refine aL 10 rfl (A5 rfl rfl (At.mono' (hle1.trans hle2) (hat6 _)) rfl) rfl ?_
 refine aP 11 rfl (A0 rfl) rfl ?_
 refine aL 12 rfl (A3 rfl rfl) rfl ?_
 refine A4 13 ?_
 (refine F0 rfl rfl (A0r _ afks[1] atks[1] alb G2 _ _ _ ⟨by omega, by omega⟩ hrN hre8 hre6 (hfrS _ (List.getElem_mem (by omega))) (htyS _ (List.getElem_mem (by omega)))) rfl rfl rfl (fun u G3 hle3 hh => ?_); obtain ⟨wc, rfl, hrw⟩ := hh; have hwl := hrw.len; have hwo := hrw.one)
 refine A4 14 ?_
 (refine oS rfl rfl rfl rfl hwl hwo rfl rfl ?_ (hu := by exact D5 hwl.symm))
 refine aP 15 rfl (qA rfl) rfl ?_
 refine aP 16 rfl (qA rfl) rfl ?_
 refine B5 (nS (tT ?_))
 refine C8 (rC rfl (A5 rfl rfl (B2 (by repeat first | exact mH | apply mT)) hwl)) (rT rfl) (rT rfl) ?_
 (exact J8.mk (by rw [if_neg hnd, if_pos hq, Z6 (by omega), O5 (by omega), O5 (by omega), O5 (by omega), O5 (by omega)]) hrw)
 refine A0b ?_
 refine C8 (rC rfl (A2 rfl rfl)) (rT rfl) (rT rfl) ?_
 (exact J8.mk (by rw [if_neg (by omega), if_neg (by omega)]; rfl) (L3 _))
theorem A9z (k : Int) (a : Tm) (G : IM) (ca : List Value) (hk1 : k = 11 ∨ k = 12) (hca : cv a) (hra : B0 G a ca) : Fn Tryz.prog 175 [.int .i64 k, .agg ⟨ca⟩] [] G (J8 (O2 k B4 B4 0 [a])) := by
 have hP := A4D a G _ hra
 obtain ⟨ak, anm, anum, ⟨atk, atks⟩, ⟨afk, afks⟩, alb, aks⟩ := a
 obtain ⟨hN, hkk⟩ := hca.node
 have hops := hN.ops
 have hbl := hN.lbB
 have htyA := hN.tyA
 have hfrA := hN.frA
 rw [E2] at htyA hfrA
 have htyS := fun t (h : t ∈ atks) => (A1q.1 htyA.2.2 t h).small
 have hfrS := fun t (h : t ∈ afks) => (A1q.1 hfrA.2.2 t h).small
 have h14 : ak = 14 → aks.length = 1 := fun h => by rw [h] at hops; have : D0 14 = 1 := rfl; omega
 have h10 : ak = 10 → aks.length = 2 := fun h => by rw [h] at hops; have : D0 10 = 2 := rfl; omega
 obtain ⟨apt, act, apf, acf, ap, ac, aes, rfl, hak, hanum, halb, haty, hafr, hasl, hakl⟩ := hra.open9
 obtain ⟨tes, htS, htL⟩ := haty.kids
 obtain ⟨fes, hfS, hfL⟩ := hafr.kids
 simp only [Ty.ks] at htS htL hfS hfL
 obtain ⟨i, hi⟩ : ∃ i : Nat, (k - 11).toNat = i := ⟨_, rfl⟩
 have hR : O2 k B4 B4 0 [Tm.mk ak anm anum (.mk atk atks) (.mk afk afks) alb aks] = (if ak = 10 then (kd aks i, 1, 0) else if (ak = 14 ∧ afk = atk ∧ (atk = 4 ∨ atk = 5)) ∧ atk = 5 then (J9 (V9 k [kd aks 0]) (kt afks i) (kt atks i) alb, 1, 0) else P5) := by
  unfold O2
  rw [if_neg (by omega), if_neg (by omega), if_neg (by omega), if_pos hk1, hi, show kd [Tm.mk ak anm anum (.mk atk atks) (.mk afk afks) alb aks] 0 = Tm.mk ak anm anum (.mk atk atks) (.mk afk afks) alb aks from rfl, A0D]
  simp only [decide_eq_true_eq]
  rfl
 rw [hR]
 replace hP : Fn Tryz.prog 87 _ [] G (H4 (.bool (decide (ak = 14 ∧ afk = atk ∧ (atk = 4 ∨ atk = 5)))) G) := hP
 refine C0 Tryz.func175 rfl Tryz.ntmps175 Tryz.results175 rfl ?_
 intro w0
 refine tS (tR ?_)
 refine sE (C5 rfl rfl) rfl (fun b3 => ?_)
 refine sE (A7 rfl) rfl (fun b4 => ?_)
 refine sQ (qA rfl) rfl (sQ (qA rfl) rfl (sD (nS (tS (tR (sQ (qM rfl) rfl ?_))))))
 refine sP (O7 rfl rfl (by omega) (by omega)) rfl rfl ?_
 (rw [show (k - 11 : Int) = ((i : Nat) : Int) from (by omega)]; refine sQ (qA rfl) rfl ?_)
 refine sD (nS (tS (tS (tR (sQ (A0 rfl) rfl (sL (A3 rfl rfl) rfl rfl ?_))))))
 refine sB (qE rfl rfl) rfl rfl (fun h21 => ?_) (fun h21 => ?_)
 refine sD (nS (qT rfl (tS (tR (sQ (A0 rfl) rfl (sL (A3 rfl rfl) rfl rfl (sQ (qM rfl) rfl ?_)))))))
 (have hq := h10 (by omega); obtain ⟨bq, oq, e3, rfl, hl3, hat3, hre3, hgb3⟩ := hasl.kidTm hakl (i := i) (by omega) (by omega); have ho3 := hre3.one; refine sP (B3 (j := i) rfl rfl rfl (by omega)) rfl rfl ?_)
 refine sL (A5 rfl rfl (hat3 _) hl3) rfl rfl ?_
 refine sS rfl rfl rfl hl3 ho3 rfl ?_ (hu := by exact D5 hl3.symm)
 refine sQ (qA rfl) rfl (sQ (qA rfl) rfl (sD (nS (tT (rS ?_)))))
 refine C8 (rC rfl (A5 rfl rfl (B2 (by repeat first | exact mH | apply mT)) hl3)) (rT rfl) (rT rfl) ?_
 (exact J8.mk (by rw [if_pos (by omega), Z6 (by omega)]) hre3)
 refine sD (nS (cF rfl (tK (nS (tS (tS (tR (sL (A2 rfl rfl) rfl rfl ?_))))))))
 focus (by_cases hpx : (ak = 14 ∧ afk = atk ∧ (atk = 4 ∨ atk = 5)); rw [decide_eq_true hpx] at hP; rotate_left; rw [decide_eq_false hpx] at hP; rotate_left; all_goals (refine H0 rfl hP rfl rfl ?_))
 refine sQ (K4 rfl) rfl (sQ (qM rfl) rfl (sQ (A0 rfl) rfl (sQ (qF rfl) rfl (sL (A3 rfl rfl) rfl rfl ?_))))
 refine sB (N9 rfl rfl) rfl rfl (fun h56 => ?_) (fun h56 => ?_)
 refine R2 ?_
 refine C8 (rC rfl (A2 rfl rfl)) (rT rfl) (rT rfl) ?_
 (exact J8.mk (by rw [if_neg (by omega), if_neg (by omega)]; rfl) (L3 _))
 refine sQ (D7 rfl rfl) rfl (sD (nS (cF rfl (tK (nS (tS ?_))))))
 (have hnd : ¬ak = 10 := (by omega); have hq : (ak = 14 ∧ afk = atk ∧ (atk = 4 ∨ atk = 5)) ∧ atk = 5 := ⟨hpx, by omega⟩; have hq1 := h14 hq.1.1; have hq2 := htyA.1 (by omega); have hq3 := hfrA.1 (by omega); obtain ⟨bq, oq, e3, rfl, hl3, hat3, hre3, hgb3⟩ := hasl.kidTm hakl (i := 0) (by omega) (by omega); have ho3 := hre3.one; obtain ⟨b5, o5, q5, d5, rfl, hat5, hre5, hgb5⟩ := htS.kidTy htL (i := i) (by omega) (by omega); obtain ⟨b7, o7, q7, d7, rfl, hat7, hre7, hgb7⟩ := hfS.kidTy hfL (i := i) (by omega) (by omega); obtain ⟨x1, x2, x3, x4, x5, x6, x7, x8, x9, rfl⟩ := nine hl3; refine D4 D6 rfl ?_)
 refine I6 (i := 0) (l' := [tt,ff,ff,ff,ff,ff,ff,ff,ff,ff,ff,ff,ff,ff,ff,ff,ff,ff,ff,ff,ff,ff,ff,ff,ff]) rfl C9 (qM rfl) rfl (by kernel_rfl) rfl rfl ?_
 refine aP 1 rfl (A0 rfl) rfl ?_
 refine aL 2 rfl (A3 rfl rfl) rfl ?_
 refine aP 3 rfl (B3 (j := 0) rfl rfl rfl (by omega)) rfl ?_
 refine aL 4 rfl (A5 rfl rfl (hat3 _) rfl) rfl ?_
 refine aP 7 rfl (A0 rfl) rfl ?_
 refine aP 8 rfl (qF rfl) rfl ?_
 refine aL 9 rfl (A3 rfl rfl) rfl ?_
 refine aP 10 rfl (qM rfl) rfl ?_
 refine aP 11 rfl (B3 (j := i) rfl rfl rfl (by omega)) rfl ?_
 refine aL 12 rfl (A5 rfl rfl (hat7 _) rfl) rfl ?_
 refine aP 13 rfl (A0 rfl) rfl ?_
 refine aP 14 rfl (qF rfl) rfl ?_
 refine aL 15 rfl (A3 rfl rfl) rfl ?_
 refine aP 16 rfl (qM rfl) rfl ?_
 refine aP 17 rfl (B3 (j := i) rfl rfl rfl (by omega)) rfl ?_
 refine aL 18 rfl (A5 rfl rfl (hat5 _) rfl) rfl ?_
 refine aP 19 rfl (A0 rfl) rfl ?_
 refine aL 20 rfl (A3 rfl rfl) rfl ?_
 refine A4 5 ?_
 (refine E0 rfl (C7 rfl rfl rfl (by omega) (by unfold maxLen; omega) rfl) rfl rfl ?_; rintro _ ⟨b101, rfl⟩)
 refine A4 6 ?_
 (refine A0X (cs := [x1, x2, x3, x4, x5, x6, x7, x8, x9]) (by repeat (first | exact Pk.here | apply Pk.there)) (fun G2 hle2 hsl2 hno2 => ?_); have hrN := A0C (k := k) (ks := [aks[0]]) (es := [[x1, x2, x3, x4, x5, x6, x7, x8, x9]]) ⟨by omega, by omega⟩ rfl (D2.of hsl2 rfl (by simp) (by intro x hx; obtain rfl := List.mem_singleton.1 hx; exact ho3)) (by simp only [D3]; exact ⟨_, _, rfl, hre3.mono hle2, rfl⟩); replace hre5 := hre5.mono hle2; replace hre7 := hre7.mono hle2; refine M7 rfl rfl (A0f _ _ _ _ _) rfl rfl rfl ?_)
 refine A4 21 ?_
 (refine F0 rfl rfl (A0r _ afks[i] atks[i] alb G2 _ _ _ ⟨by omega, by omega⟩ hrN hre7 hre5 (hfrS _ (List.getElem_mem (by omega))) (htyS _ (List.getElem_mem (by omega)))) rfl rfl rfl (fun u G3 hle3 hh => ?_); obtain ⟨wc, rfl, hrw⟩ := hh; have hwl := hrw.len; have hwo := hrw.one)
 refine A4 22 ?_
 (refine oS rfl rfl rfl rfl hwl hwo rfl rfl ?_ (hu := by exact D5 hwl.symm))
 refine aP 23 rfl (qA rfl) rfl ?_
 refine aP 24 rfl (qA rfl) rfl ?_
 refine B5 (nS (tT ?_))
 refine C8 (rC rfl (A5 rfl rfl (B2 (by repeat first | exact mH | apply mT)) hwl)) (rT rfl) (rT rfl) ?_
 (exact J8.mk (by rw [if_neg hnd, if_pos hq, Z6 (by omega), O5 (by omega), O5 (by omega)]) hrw)
 refine A0b ?_
 refine C8 (rC rfl (A2 rfl rfl)) (rT rfl) (rT rfl) ?_
 (exact J8.mk (by rw [if_neg (by omega), if_neg (by omega)]; rfl) (L3 _))
theorem B4v (a : Tm) (nm : ByteArray) (num : Int) (ty fr : Ty) (lb : Int) (G : IM) (cells : List Value) (hc : cv (.mk 14 nm num ty fr lb [a])) (hr : B0 G (.mk 14 nm num ty fr lb [a]) cells) : Fn Tryz.prog 176 [.agg ⟨cells⟩] [] G (J8 (O2 14 ty fr lb [a])) := by
 obtain ⟨hNe, hkk0⟩ := hc.node
 have hca := hkk0 a (by simp)
 have hlb9 := hNe.lbB
 obtain ⟨hcons, htv, hfv⟩ := hNe.c14 rfl
 have hji := @A5N a
 have hjk := @A3A a
 obtain ⟨ak, anm, anum, ⟨atk, atks⟩, ⟨afk, afks⟩, alb, aks⟩ := a
 obtain ⟨hN, hkk⟩ := hca.node
 have hops := hN.ops
 have h14 : ak = 14 → aks.length = 1 := fun h => by rw [h] at hops; have : D0 14 = 1 := rfl; omega
 obtain ⟨tk, tks⟩ := ty
 obtain ⟨fk, fks⟩ := fr
 rw [U9] at hcons
 simp only [Bool.or_eq_true, Bool.and_eq_true, decide_eq_true_eq] at hcons
 have hcc : fk ≠ tk → tk ≠ 1 → fk = 1 := fun h1 h2 => by rcases hcons with (h | h) | h; exact h; exact absurd h h2; exact absurd h.1 h1
 have hta := A5H htv
 have hfa := A5H hfv
 obtain ⟨pt, ct, pf, cf, p, c, es, rfl, hk, hnum, hlb, hty, hfr, hsl, hkl⟩ := hr.open9
 obtain ⟨bx, ox, e0, rfl, hl0, hat0, hre0, hgb0⟩ := hsl.kidTm hkl (i := 0) (by simp) (by simp)
 replace hre0 : B0 G (Tm.mk ak anm anum (.mk atk atks) (.mk afk afks) alb aks) e0 := hre0
 have hI := A6e (Tm.mk ak anm anum (.mk atk atks) (.mk afk afks) alb aks) G _ hN.frA hre0
 have ho0 := hre0.one
 obtain ⟨apt, act, apf, acf, ap, ac, aes, rfl, hak, hanum, halb, haty, hafr, hasl, hakl⟩ := hre0.open9
 obtain ⟨J, hJ⟩ : ∃ J, inj (Tm.mk ak anm anum (.mk atk atks) (.mk afk afks) alb aks) = J := ⟨_, rfl⟩
 obtain ⟨D, hD⟩ : ∃ D, S3 (.mk tk tks) = D := ⟨_, rfl⟩
 have hGr := A9v (.mk tk tks) G _ hta hty
 rw [hD] at hGr
 rw [hJ] at hI hji hjk
 have hR : O2 14 (.mk tk tks) (.mk fk fks) lb [Tm.mk ak anm anum (.mk atk atks) (.mk afk afks) alb aks] = (if fk = tk then (Tm.mk ak anm anum (.mk atk atks) (.mk afk afks) alb aks, 1, 0)
   else if tk = 1 then (J9 (J9 (Tm.mk ak anm anum (.mk atk atks) (.mk afk afks) alb aks) (.mk fk fks) (R9 (.mk fk fks)) lb) (R9 (.mk fk fks)) (.mk tk tks) lb, 1, 0)
   else if D = false then (J9 (J9 (Tm.mk ak anm anum (.mk atk atks) (.mk afk afks) alb aks) (.mk fk fks) (R9 (.mk tk tks)) lb) (R9 (.mk tk tks)) (.mk tk tks) lb, 1, 0)
   else if J = false then P5
   else if afk = tk then (kd aks 0, 1, 0)
   else (J6, 2, lb)) := by
  rw [← hJ, ← hD]; rfl
 rw [hR]
 refine C0 Tryz.func176 rfl Tryz.ntmps176 Tryz.results176 rfl ?_
 intro w0
 refine tS (tR ?_)
 refine sE (C5 rfl rfl) rfl (fun b3 => ?_)
 refine sE (A7 rfl) rfl (fun b4 => ?_)
 refine sQ (qA rfl) rfl (sQ (qA rfl) rfl (sD (nS (tS (tR (sQ (A0 rfl) rfl (sL (A3 rfl rfl) rfl rfl ?_)))))))
 refine sP (B3 (j := 0) rfl rfl rfl (by simp)) rfl rfl ?_
 refine sL (A5 rfl rfl (hat0 _) rfl) rfl rfl ?_
 refine sE (A7 rfl) rfl (fun b15 => ?_)
 refine B1 ?_
 refine sD (nS (tS ?_))
 refine B9 ?_
 refine wk8 ?_
 refine sB (qE rfl rfl) rfl rfl (fun h29 => ?_) (fun h29 => ?_)
 refine L9 ?_
 refine C8 (rC rfl (A2 rfl rfl)) (rT rfl) (rT rfl) ?_
 (exact J8.mk (by rw [if_pos (by omega)]) hre0)
 refine sQ (qA rfl) rfl (sD (nS (cF rfl (tS (tR (sQ (A0 rfl) rfl (sQ (qF rfl) rfl (sL (A3 rfl rfl) rfl rfl ?_))))))))
 refine sB (qE rfl rfl) rfl rfl (fun h56 => ?_) (fun h56 => ?_)
 refine sQ (qA rfl) rfl (sD (nS (qT rfl (tS (tR (sQ (A0 rfl) rfl (sL (A2 rfl rfl) rfl rfl ?_)))))))
 (have hgk : tk = 1 := (by omega); refine E5 rfl (A6d (.mk fk fks) G _ hfa hfr) rfl rfl (fun u G1 hle1 hh => ?_); obtain ⟨gc, rfl, hrg⟩ := hh; have hgs := A2L (.mk fk fks); generalize R9 (.mk fk fks) = g at hrg hgs ⊢; obtain ⟨pg, cg, eg, rfl, _⟩ := hrg.open; replace hre0 := hre0.mono hle1; replace hfr := hfr.mono hle1; replace hty := hty.mono hle1)
 refine sE (A7 rfl) rfl (fun b66 => ?_)
 refine B1 ?_
 refine sD (nS (tS ?_))
 refine D4 D6 rfl ?_
 refine K2 (i := 0) (l' := [tt,ff,ff,ff,ff,ff,ff,ff,ff,ff,ff,ff,ff,ff,ff,ff]) rfl C9 (A5 rfl rfl (B2 (by repeat first | exact mH | apply mT)) rfl) rfl (by kernel_rfl) rfl rfl ?_
 refine aL 3 rfl (A5 rfl rfl (B2 (by repeat first | exact mH | apply mT)) rfl) rfl ?_
 refine aL 7 rfl (A5 rfl rfl (B2 (by repeat first | exact mH | apply mT)) rfl) rfl ?_
 refine aP 1 rfl (A0 rfl) rfl ?_
 refine aL 2 rfl (A2 rfl rfl) rfl ?_
 refine aP 4 rfl (A0 rfl) rfl ?_
 refine aL 5 rfl (A3 rfl rfl) rfl ?_
 refine aP 8 rfl (A0 rfl) rfl ?_
 refine aL 9 rfl (A2 rfl rfl) rfl ?_
 refine aP 10 rfl (A0 rfl) rfl ?_
 refine aL 11 rfl (A3 rfl rfl) rfl ?_
 refine A4 6 ?_
 (refine F0 rfl rfl (A0r _ (.mk fk fks) _ lb G1 _ _ _ ⟨by omega, by omega⟩ hre0 hfr hrg hfa.small hgs) rfl rfl rfl (fun u G3 hle3 hh => ?_); obtain ⟨wc, rfl, hrw⟩ := hh; have hwl := hrw.len; have hwo := hrw.one; replace hrg := hrg.mono hle3; replace hty := hty.mono hle3)
 refine A4 12 ?_
 (refine F0 rfl rfl (A0r _ _ (.mk tk tks) lb G3 _ _ _ ⟨by omega, by omega⟩ hrw hrg hty hgs hta.small) rfl rfl rfl (fun u G4 hle4 hh => ?_); obtain ⟨xc, rfl, hrx⟩ := hh; have hxl := hrx.len; have hxo := hrx.one)
 refine A4 13 ?_
 (refine oS rfl rfl rfl rfl hxl hxo rfl rfl ?_ (hu := by exact D5 hxl.symm))
 refine aP 14 rfl (qA rfl) rfl ?_
 refine aP 15 rfl (qA rfl) rfl ?_
 refine B5 (nS (tT (rB (rS ?_))))
 refine C8 (rC rfl (A5 rfl rfl (B2 (by repeat first | exact mH | apply mT)) hxl)) (rT rfl) (rT rfl) ?_
 (exact J8.mk (by rw [if_neg (by omega), if_pos (by omega)]) hrx)
 refine sQ (qA rfl) rfl (sD (nS (cF rfl (tS (tR (sQ (A0 rfl) rfl (sQ (qF rfl) rfl (sL (A3 rfl rfl) rfl rfl ?_))))))))
 refine sP (A1U rfl rfl (by omega)) rfl rfl ?_
 refine sQ (qA rfl) rfl (sD (nS (cF rfl (tS (tR (sQ (A0 rfl) rfl (sL (A2 rfl rfl) rfl rfl ?_)))))))
 focus (cases hDD : D; all_goals (rw [hDD] at hGr; refine H0 rfl hGr rfl rfl ?_))
 refine sQ (N8 rfl) rfl (sQ (qA rfl) rfl (sD (nS (qT rfl (tS (tR (sQ (A0 rfl) rfl (sL (A2 rfl rfl) rfl rfl ?_))))))))
 (refine E5 rfl (A6d (.mk tk tks) G _ hta hty) rfl rfl (fun u G1 hle1 hh => ?_); obtain ⟨gc, rfl, hrg⟩ := hh; have hgs := A2L (.mk tk tks); generalize R9 (.mk tk tks) = g at hrg hgs ⊢; obtain ⟨pg, cg, eg, rfl, _⟩ := hrg.open; replace hre0 := hre0.mono hle1; replace hfr := hfr.mono hle1; replace hty := hty.mono hle1)
 refine sE (A7 rfl) rfl (fun b127 => ?_)
 refine B1 ?_
 refine sD (nS (tS ?_))
 refine D4 D6 rfl ?_
 refine K2 (i := 0) (l' := [tt,ff,ff,ff,ff,ff,ff,ff,ff,ff,ff,ff,ff,ff,ff,ff]) rfl C9 (A5 rfl rfl (B2 (by repeat first | exact mH | apply mT)) rfl) rfl (by kernel_rfl) rfl rfl ?_
 refine aL 3 rfl (A5 rfl rfl (B2 (by repeat first | exact mH | apply mT)) rfl) rfl ?_
 refine aL 7 rfl (A5 rfl rfl (B2 (by repeat first | exact mH | apply mT)) rfl) rfl ?_
 refine aP 1 rfl (A0 rfl) rfl ?_
 refine aL 2 rfl (A2 rfl rfl) rfl ?_
 refine aP 4 rfl (A0 rfl) rfl ?_
 refine aL 5 rfl (A3 rfl rfl) rfl ?_
 refine aP 8 rfl (A0 rfl) rfl ?_
 refine aL 9 rfl (A2 rfl rfl) rfl ?_
 refine aP 10 rfl (A0 rfl) rfl ?_
 refine aL 11 rfl (A3 rfl rfl) rfl ?_
 refine A4 6 ?_
 (refine F0 rfl rfl (A0r _ (.mk fk fks) _ lb G1 _ _ _ ⟨by omega, by omega⟩ hre0 hfr hrg hfa.small hgs) rfl rfl rfl (fun u G3 hle3 hh => ?_); obtain ⟨wc, rfl, hrw⟩ := hh; have hwl := hrw.len; have hwo := hrw.one; replace hrg := hrg.mono hle3; replace hty := hty.mono hle3)
 refine A4 12 ?_
 (refine F0 rfl rfl (A0r _ _ (.mk tk tks) lb G3 _ _ _ ⟨by omega, by omega⟩ hrw hrg hty hgs hta.small) rfl rfl rfl (fun u G4 hle4 hh => ?_); obtain ⟨xc, rfl, hrx⟩ := hh; have hxl := hrx.len; have hxo := hrx.one)
 refine A4 13 ?_
 (refine oS rfl rfl rfl rfl hxl hxo rfl rfl ?_ (hu := by exact D5 hxl.symm))
 refine aP 14 rfl (qA rfl) rfl ?_
 refine aP 15 rfl (qA rfl) rfl ?_
 refine B5 (nS (tT (rB (rS ?_))))
 refine C8 (rC rfl (A5 rfl rfl (B2 (by repeat first | exact mH | apply mT)) hxl)) (rT rfl) (rT rfl) ?_
 (exact J8.mk (by rw [if_neg (by omega), if_neg (by omega), if_pos rfl]) hrx)
 refine sQ (K4 rfl) rfl (sQ (qA rfl) rfl (sD (nS (cF rfl (tS (tR (sL (A2 rfl rfl) rfl rfl ?_)))))))
 focus (cases hJJ : J; all_goals (rw [hJJ] at hI; refine H0 rfl hI rfl rfl ?_))
 refine O9 ?_
 refine C8 (rC rfl (A2 rfl rfl)) (rT rfl) (rT rfl) ?_
 (exact J8.mk (by rw [if_neg (by omega), if_neg (by omega), if_neg (by decide), if_pos rfl]; rfl) (L3 _))
 refine T6 ?_
 refine sB (qE rfl rfl) rfl rfl (fun h199 => ?_) (fun h199 => ?_)
 refine sQ (qA rfl) rfl (sD (nS (qT rfl (tS (tR (sQ (A0 rfl) rfl (sL (A3 rfl rfl) rfl rfl ?_)))))))
 (have hq1 := h14 (hjk (by assumption)); obtain ⟨bq, oq, e3, rfl, hl3, hat3, hre3, hgb3⟩ := hasl.kidTm hakl (i := 0) (by omega) (by omega); have ho3 := hre3.one; refine sP (B3 (j := 0) rfl rfl rfl (by omega)) rfl rfl ?_)
 refine sL (A5 rfl rfl (hat3 _) hl3) rfl rfl ?_
 refine sS rfl rfl rfl hl3 ho3 rfl ?_ (hu := by exact D5 hl3.symm)
 refine sQ (qA rfl) rfl (sQ (qA rfl) rfl (sD (nS (tT (rB (rS ?_))))))
 refine C8 (rC rfl (A5 rfl rfl (B2 (by repeat first | exact mH | apply mT)) hl3)) (rT rfl) (rT rfl) ?_
 (exact J8.mk (by rw [if_neg (by omega), if_neg (by omega), if_neg (by decide), if_neg (by decide), if_pos (by assumption), Z6 (by omega)]) hre3)
 refine sQ (qA rfl) rfl (sD (nS (cF rfl (tK (E3 (nS (tS ?_)))))))
 refine D4 D6 rfl ?_
 refine I6 (i := 0) (l' := [tt,ff,ff,ff,ff,ff]) rfl C9 (H6 rfl rfl) rfl (by kernel_rfl) rfl rfl ?_
 refine aP 1 rfl (A0 rfl) rfl ?_
 refine aL 2 rfl (A3 rfl rfl) rfl ?_
 refine A4 3 ?_
 refine F8 rfl ?_
 refine aP 4 rfl (qA rfl) rfl ?_
 refine aP 5 rfl (qA rfl) rfl ?_
 refine B5 (nS (tT ?_))
 refine C8 (rC rfl (A2 rfl rfl)) (rT rfl) (rT rfl) ?_
 (exact J8.mk (by rw [if_neg (by omega), if_neg (by omega), if_neg (by decide), if_neg (by decide), if_neg (by assumption)]) (L3 _))
theorem A6g {k : Int} {ty fr ty' fr' : Ty} {lb lb' : Int} {ks : List Tm} (h : k ≠ 14) : O2 k ty fr lb ks = O2 k ty' fr' lb' ks := by
 unfold O2
 rw [if_neg h, if_neg h]
theorem B4w (k : Int) (nm : ByteArray) (num : Int) (ty fr : Ty) (lb : Int) (ks : List Tm) (G : IM) (cells : List Value) (h7 : k = 1 ∨ k = 6 ∨ k = 7 ∨ k = 8 ∨ k = 11 ∨ k = 12 ∨ k = 14) (hc : cv (.mk k nm num ty fr lb ks)) (hr : B0 G (.mk k nm num ty fr lb ks) cells) : Fn Tryz.prog 146 [.agg ⟨cells⟩] [] G (J8 (O2 k ty fr lb ks)) := by
 have hr0 := hr
 obtain ⟨hN, hkk⟩ := hc.node
 have hops := hN.ops
 have hL2 : k = 6 ∨ k = 7 ∨ k = 8 → ∃ a b, ks = [a, b] := fun h => ks2 (by
  rcases h with rfl | rfl | rfl
  ·have : D0 6 = 2 := rfl; omega
  ·have : D0 7 = 2 := rfl; omega
  ·have : D0 8 = 2 := rfl; omega)
 have hL1 : k = 11 ∨ k = 12 ∨ k = 14 → ∃ a, ks = [a] := fun h => X0 (by
  rcases h with rfl | rfl | rfl
  ·have : D0 11 = 1 := rfl; omega
  ·have : D0 12 = 1 := rfl; omega
  ·have : D0 14 = 1 := rfl; omega)
 have hC : k = 14 → Fn Tryz.prog 176 [.agg ⟨cells⟩] [] G (J8 (O2 k ty fr lb ks)) := by
  rintro rfl
  obtain ⟨a, rfl⟩ := hL1 (by omega)
  exact B4v a nm num ty fr lb G cells hc hr
 have hA : k = 6 → ∀ a b, ks = [a, b] → O2 k ty fr lb ks = O2 6 B4 B4 0 [a, b] := by rintro rfl a b rfl; exact A6g (by decide)
 have hB : k = 7 ∨ k = 8 → ∀ a b, ks = [a, b] → O2 k ty fr lb ks = O2 k B4 B4 0 [a, b] := by rintro h a b rfl; exact A6g (by omega)
 have hD : k = 11 ∨ k = 12 → ∀ a, ks = [a] → O2 k ty fr lb ks = O2 k B4 B4 0 [a] := by rintro h a rfl; exact A6g (by omega)
 have hO : k = 1 → O2 k ty fr lb ks = P5 := by rintro rfl; rfl
 generalize O2 k ty fr lb ks = R at hC hA hB hD hO ⊢
 obtain ⟨tk, tks⟩ := ty
 obtain ⟨fk, fks⟩ := fr
 obtain ⟨pt, ct, pf, cf, p, c, es, rfl, hk, hnum, hlb, hty, hfr, hsl, hkl⟩ := hr.open9
 refine C0 Tryz.func146 rfl Tryz.ntmps146 Tryz.results146 rfl ?_
 intro w0
 refine tS (tR ?_)
 refine sE (C5 rfl rfl) rfl (fun b3 => ?_)
 refine sE (A7 rfl) rfl (fun b4 => ?_)
 refine sQ (qA rfl) rfl (sQ (qA rfl) rfl (sD (nS (tS (tS (tR (sQ (A0 rfl) rfl (sL (A3 rfl rfl) rfl rfl (sD (nS ?_))))))))))
 refine B9 (tS (tR (sB (qE rfl rfl) rfl rfl (fun h19 => ?_) (fun h19 => ?_))))
 refine sQ (qA rfl) rfl (sD (nS (qT rfl (tS ?_))))
 (have hq : k = 6 := (by assumption); obtain ⟨x, y, hxy⟩ := hL2 (by omega); have hAq := hA hq x y hxy; subst hxy; obtain ⟨bx, ox, e0, rfl, hl0, hat0, hre0, hgb0⟩ := hsl.kidTm hkl (i := 0) (by simp) (by simp); obtain ⟨_, _, e1, hp1, hl1, hat1, hre1, hgb1⟩ := hsl.kidTm hkl (i := 1) (by simp) (by simp); cases hp1; have hF := B4u x y G e0 e1 (hkk x (by simp)) (A19 y (hkk y (by simp))) hre0 hre1; rw [← hAq] at hF; refine D4 D6 rfl ?_)
 refine I6 (i := 0) (l' := [tt,ff,ff,ff,ff,ff,ff,ff,ff,ff,ff,ff,ff,ff,ff]) rfl C9 (A0 rfl) rfl (by kernel_rfl) rfl rfl ?_
 refine aL 1 rfl (A3 rfl rfl) rfl ?_
 refine aP 2 rfl (B3 (j := 0) rfl rfl rfl (by simp)) rfl ?_
 refine aL 3 rfl (A5 rfl rfl (hat0 _) hl0) rfl ?_
 refine aP 4 rfl (A0 rfl) rfl ?_
 refine aL 5 rfl (A3 rfl rfl) rfl ?_
 refine aP 6 rfl (B3 (j := 1) rfl rfl rfl (by simp)) rfl ?_
 refine aL 7 rfl (A5 rfl rfl (hat1 _) hl1) rfl ?_
 refine A4 8 ?_
 (refine F0 rfl rfl hF rfl rfl rfl (fun v G1 hle1 hh => ?_); obtain ⟨wc, rfl, hrw⟩ := hh; have hwl := hrw.len; have hwo := hrw.one)
 refine aP 9 rfl (pX rfl rfl) rfl ?_
 refine aP 10 rfl (pX rfl rfl) rfl ?_
 refine aP 11 rfl (pX rfl rfl) rfl ?_
 refine A4 12 ?_
 (refine oS rfl rfl rfl rfl hwl hwo rfl rfl ?_ (hu := by exact D5 hwl.symm))
 refine aP 13 rfl (qA rfl) rfl ?_
 refine aP 14 rfl (qA rfl) rfl ?_
 refine B5 (nS (tT (rB (rS ?_))))
 refine C8 (rC rfl (A5 rfl rfl (B2 (by repeat first | exact mH | apply mT)) hwl)) (rT rfl) (rT rfl) ?_
 (exact ⟨rfl, _, rfl, hrw⟩)
 refine sQ (qA rfl) rfl (sD (nS (cF rfl (tS (tS (tR ?_))))))
 refine sB (qE rfl rfl) rfl rfl (fun h57 => ?_) (fun h57 => ?_)
 refine sQ (qA rfl) rfl (sD (nS (qT rfl (tK (nS (qT rfl (tS ?_)))))))
 (have hq : k = 7 ∨ k = 8 := (by omega); obtain ⟨x, y, hxy⟩ := hL2 (by omega); have hBq := hB hq x y hxy; subst hxy; obtain ⟨bx, ox, e0, rfl, hl0, hat0, hre0, hgb0⟩ := hsl.kidTm hkl (i := 0) (by simp) (by simp); obtain ⟨_, _, e1, hp1, hl1, hat1, hre1, hgb1⟩ := hsl.kidTm hkl (i := 1) (by simp) (by simp); cases hp1; have hF := A9y k x y G e0 e1 hq (by have := (hkk x (by simp)); cases x; exact this.node.1.num0) (by have := (hkk y (by simp)); cases y; exact this.node.1.num0) hre0 hre1; rw [← hBq] at hF; refine D4 D6 rfl ?_)
 refine I6 (i := 0) (l' := [tt,ff,ff,ff,ff,ff,ff,ff,ff,ff,ff,ff,ff,ff,ff,ff,ff]) rfl C9 (A0 rfl) rfl (by kernel_rfl) rfl rfl ?_
 refine aL 1 rfl (A3 rfl rfl) rfl ?_
 refine aP 2 rfl (A0 rfl) rfl ?_
 refine aL 3 rfl (A3 rfl rfl) rfl ?_
 refine aP 4 rfl (B3 (j := 0) rfl rfl rfl (by simp)) rfl ?_
 refine aL 5 rfl (A5 rfl rfl (hat0 _) hl0) rfl ?_
 refine aP 6 rfl (A0 rfl) rfl ?_
 refine aL 7 rfl (A3 rfl rfl) rfl ?_
 refine aP 8 rfl (B3 (j := 1) rfl rfl rfl (by simp)) rfl ?_
 refine aL 9 rfl (A5 rfl rfl (hat1 _) hl1) rfl ?_
 refine A4 10 ?_
 (refine F0 rfl rfl hF rfl rfl rfl (fun v G1 hle1 hh => ?_); obtain ⟨wc, rfl, hrw⟩ := hh; have hwl := hrw.len; have hwo := hrw.one)
 refine aP 11 rfl (pX rfl rfl) rfl ?_
 refine aP 12 rfl (pX rfl rfl) rfl ?_
 refine aP 13 rfl (pX rfl rfl) rfl ?_
 refine A4 14 ?_
 (refine oS rfl rfl rfl rfl hwl hwo rfl rfl ?_ (hu := by exact D5 hwl.symm))
 refine aP 15 rfl (qA rfl) rfl ?_
 refine aP 16 rfl (qA rfl) rfl ?_
 refine B5 (nS (tT (rB (rS ?_))))
 refine C8 (rC rfl (A5 rfl rfl (B2 (by repeat first | exact mH | apply mT)) hwl)) (rT rfl) (rT rfl) ?_
 (exact ⟨rfl, _, rfl, hrw⟩)
 refine sQ (qA rfl) rfl (sD (nS (cF rfl (tR ?_))))
 refine sB (qE rfl rfl) rfl rfl (fun h98 => ?_) (fun h98 => ?_)
 refine sQ (qA rfl) rfl (sD (nS (qT rfl (tS ?_))))
 (have hq : k = 7 ∨ k = 8 := (by omega); obtain ⟨x, y, hxy⟩ := hL2 (by omega); have hBq := hB hq x y hxy; subst hxy; obtain ⟨bx, ox, e0, rfl, hl0, hat0, hre0, hgb0⟩ := hsl.kidTm hkl (i := 0) (by simp) (by simp); obtain ⟨_, _, e1, hp1, hl1, hat1, hre1, hgb1⟩ := hsl.kidTm hkl (i := 1) (by simp) (by simp); cases hp1; have hF := A9y k x y G e0 e1 hq (by have := (hkk x (by simp)); cases x; exact this.node.1.num0) (by have := (hkk y (by simp)); cases y; exact this.node.1.num0) hre0 hre1; rw [← hBq] at hF; refine D4 D6 rfl ?_)
 refine I6 (i := 0) (l' := [tt,ff,ff,ff,ff,ff,ff,ff,ff,ff,ff,ff,ff,ff,ff,ff,ff]) rfl C9 (A0 rfl) rfl (by kernel_rfl) rfl rfl ?_
 refine aL 1 rfl (A3 rfl rfl) rfl ?_
 refine aP 2 rfl (A0 rfl) rfl ?_
 refine aL 3 rfl (A3 rfl rfl) rfl ?_
 refine aP 4 rfl (B3 (j := 0) rfl rfl rfl (by simp)) rfl ?_
 refine aL 5 rfl (A5 rfl rfl (hat0 _) hl0) rfl ?_
 refine aP 6 rfl (A0 rfl) rfl ?_
 refine aL 7 rfl (A3 rfl rfl) rfl ?_
 refine aP 8 rfl (B3 (j := 1) rfl rfl rfl (by simp)) rfl ?_
 refine aL 9 rfl (A5 rfl rfl (hat1 _) hl1) rfl ?_
 refine A4 10 ?_
 (refine F0 rfl rfl hF rfl rfl rfl (fun v G1 hle1 hh => ?_); obtain ⟨wc, rfl, hrw⟩ := hh; have hwl := hrw.len; have hwo := hrw.one)
 refine aP 11 rfl (pX rfl rfl) rfl ?_
 refine aP 12 rfl (pX rfl rfl) rfl ?_
 refine aP 13 rfl (pX rfl rfl) rfl ?_
 refine A4 14 ?_
 (refine oS rfl rfl rfl rfl hwl hwo rfl rfl ?_ (hu := by exact D5 hwl.symm))
 refine aP 15 rfl (qA rfl) rfl ?_
 refine aP 16 rfl (qA rfl) rfl ?_
 refine B5 (nS (tT (rB (rS ?_))))
 refine C8 (rC rfl (A5 rfl rfl (B2 (by repeat first | exact mH | apply mT)) hwl)) (rT rfl) (rT rfl) ?_
 (exact ⟨rfl, _, rfl, hrw⟩)
 refine sQ (qA rfl) rfl (sD (nS (cF rfl (tS (tS (tR ?_))))))
 refine sB (qE rfl rfl) rfl rfl (fun h138 => ?_) (fun h138 => ?_)
 refine sQ (qA rfl) rfl (sD (nS (qT rfl (tK (nS (qT rfl (tS ?_)))))))
 (have hq : k = 11 ∨ k = 12 := (by omega); obtain ⟨x, hxy⟩ := hL1 (by omega); have hDq := hD hq x hxy; subst hxy; obtain ⟨bx, ox, e0, rfl, hl0, hat0, hre0, hgb0⟩ := hsl.kidTm hkl (i := 0) (by simp) (by simp); have hF := A9z k x G e0 hq (hkk x (by simp)) hre0; rw [← hDq] at hF; refine D4 D6 rfl ?_)
 refine I6 (i := 0) (l' := [tt,ff,ff,ff,ff,ff,ff,ff,ff,ff,ff,ff,ff]) rfl C9 (A0 rfl) rfl (by kernel_rfl) rfl rfl ?_
 refine aL 1 rfl (A3 rfl rfl) rfl ?_
 refine aP 2 rfl (A0 rfl) rfl ?_
 refine aL 3 rfl (A3 rfl rfl) rfl ?_
 refine aP 4 rfl (B3 (j := 0) rfl rfl rfl (by simp)) rfl ?_
 refine aL 5 rfl (A5 rfl rfl (hat0 _) hl0) rfl ?_
 refine A4 6 ?_
 (refine F0 rfl rfl hF rfl rfl rfl (fun v G1 hle1 hh => ?_); obtain ⟨wc, rfl, hrw⟩ := hh; have hwl := hrw.len; have hwo := hrw.one)
 refine aP 7 rfl (pX rfl rfl) rfl ?_
 refine aP 8 rfl (pX rfl rfl) rfl ?_
 refine aP 9 rfl (pX rfl rfl) rfl ?_
 refine A4 10 ?_
 (refine oS rfl rfl rfl rfl hwl hwo rfl rfl ?_ (hu := by exact D5 hwl.symm))
 refine aP 11 rfl (qA rfl) rfl ?_
 refine aP 12 rfl (qA rfl) rfl ?_
 refine B5 (nS (tT (rB (rS ?_))))
 refine C8 (rC rfl (A5 rfl rfl (B2 (by repeat first | exact mH | apply mT)) hwl)) (rT rfl) (rT rfl) ?_
 (exact ⟨rfl, _, rfl, hrw⟩)
 refine sQ (qA rfl) rfl (sD (nS (cF rfl (tR ?_))))
 refine sB (qE rfl rfl) rfl rfl (fun h175 => ?_) (fun h175 => ?_)
 refine sQ (qA rfl) rfl (sD (nS (qT rfl (tS ?_))))
 (have hq : k = 11 ∨ k = 12 := (by omega); obtain ⟨x, hxy⟩ := hL1 (by omega); have hDq := hD hq x hxy; subst hxy; obtain ⟨bx, ox, e0, rfl, hl0, hat0, hre0, hgb0⟩ := hsl.kidTm hkl (i := 0) (by simp) (by simp); have hF := A9z k x G e0 hq (hkk x (by simp)) hre0; rw [← hDq] at hF; refine D4 D6 rfl ?_)
 refine I6 (i := 0) (l' := [tt,ff,ff,ff,ff,ff,ff,ff,ff,ff,ff,ff,ff]) rfl C9 (A0 rfl) rfl (by kernel_rfl) rfl rfl ?_
 refine aL 1 rfl (A3 rfl rfl) rfl ?_
 refine aP 2 rfl (A0 rfl) rfl ?_
 refine aL 3 rfl (A3 rfl rfl) rfl ?_
 refine aP 4 rfl (B3 (j := 0) rfl rfl rfl (by simp)) rfl ?_
 refine aL 5 rfl (A5 rfl rfl (hat0 _) hl0) rfl ?_
 refine A4 6 ?_
 (refine F0 rfl rfl hF rfl rfl rfl (fun v G1 hle1 hh => ?_); obtain ⟨wc, rfl, hrw⟩ := hh; have hwl := hrw.len; have hwo := hrw.one)
 refine aP 7 rfl (pX rfl rfl) rfl ?_
 refine aP 8 rfl (pX rfl rfl) rfl ?_
 refine aP 9 rfl (pX rfl rfl) rfl ?_
 refine A4 10 ?_
 (refine oS rfl rfl rfl rfl hwl hwo rfl rfl ?_ (hu := by exact D5 hwl.symm))
 refine aP 11 rfl (qA rfl) rfl ?_
 refine aP 12 rfl (qA rfl) rfl ?_
 refine B5 (nS (tT (rB (rS ?_))))
 refine C8 (rC rfl (A5 rfl rfl (B2 (by repeat first | exact mH | apply mT)) hwl)) (rT rfl) (rT rfl) ?_
 (exact ⟨rfl, _, rfl, hrw⟩)
 refine sQ (qA rfl) rfl (sD (nS (cF rfl (tS (tR ?_)))))
 refine sB (qE rfl rfl) rfl rfl (fun h210 => ?_) (fun h210 => ?_)
 refine sQ (qA rfl) rfl (sD (nS (qT rfl (tS (tR (sL (A2 rfl rfl) rfl rfl ?_))))))
 (refine E5 rfl (hC (by omega)) rfl rfl (fun v G1 hle1 hh => ?_); obtain ⟨wc, rfl, hrw⟩ := hh; have hwl := hrw.len; have hwo := hrw.one)
 refine sQ (pX rfl rfl) rfl (sQ (pX rfl rfl) rfl (sQ (pX rfl rfl) rfl ?_))
 refine sS rfl rfl rfl hwl hwo rfl ?_ (hu := by exact D5 hwl.symm)
 refine sQ (qA rfl) rfl (sQ (qA rfl) rfl (sD (nS (tT (rB (rS ?_))))))
 refine C8 (rC rfl (A5 rfl rfl (B2 (by repeat first | exact mH | apply mT)) hwl)) (rT rfl) (rT rfl) ?_
 (exact ⟨rfl, _, rfl, hrw⟩)
 refine O9 ?_
 refine C8 (rC rfl (A2 rfl rfl)) (rT rfl) (rT rfl) ?_
 (rw [hO (by omega)]; exact J8.mk rfl (L3 _))
theorem B4x {k : Int} {nm : ByteArray} {num : Int} {ty fr : Ty} {lb : Int} {ks : List Tm} {i : Nat} (hi : i < ks.length) (hn : i < (if k = 9 then 1 else ks.length)) (hj : ∀ j, j < i → (h : j < ks.length) → E8 ks[j] = true) (hv : E8 ks[i] = false) :
  I0 (.mk k nm num ty fr lb ks) = if (I0 ks[i]).2.1 = 1 then (.mk k nm num ty fr lb (ks.set i (I0 ks[i]).1), 1, 0) else (J6, (I0 ks[i]).2.1, (I0 ks[i]).2.2) := by
 rw [I0, A5O _ ks i hi hn hj hv]
theorem B4y {k : Int} {nm : ByteArray} {num : Int} {ty fr : Ty} {lb : Int} {ks : List Tm} (h : ∀ i, i < (if k = 9 then 1 else ks.length) → (hl : i < ks.length) → E8 ks[i] = true) : I0 (.mk k nm num ty fr lb ks) = O2 k ty fr lb ks := by
 rw [I0, A4r _ _ h]
theorem B4z {ty fr : Ty} {lb : Int} {a b c : Tm} : O2 9 ty fr lb [a, b, c] = (if a.k = 3 then (b, 1, 0) else if a.k = 4 then (c, 1, 0) else P5) := rfl
theorem B4A : ∀ (t : Tm) (G : IM) (cells : List Value), cv t → E8 t = false → B0 G t cells → Fn Tryz.prog 102 [.agg ⟨cells⟩] [] G (J8 (I0 t)) := by
 refine Tm.ind fun k nm num ty fr lb ks ih G cells hc hv hr => ?_
 have hr0 := hr
 have hRl := hr.len
 have hN := hc.node.1
 have hkk := hc.node.2
 have hops := hN.ops
 have hle3 := A06 k
 have hkd := @A5P k nm num ty fr lb ks hc hv
 have hkX := fun (i : Nat) => @B4x k nm num ty fr lb ks i
 have hrX := @B4y k nm num ty fr lb ks
 have hRd := fun h7 => B4w k nm num ty fr lb ks G cells h7 hc hr
 obtain ⟨C, hC⟩ : ∃ C : Nat, (if k = 9 then 1 else ks.length : Nat) = C := ⟨_, rfl⟩
 rw [hC] at hkd hrX
 have hkX' := fun (i : Nat) (hi : i < ks.length) (hn : i < C) => hkX i hi (by rw [hC]; exact hn)
 have h93 : k = 9 → ks.length = 3 := fun h => by rw [h] at hops; have : D0 9 = 3 := rfl; omega
 have hC1 : k = 9 → C = 1 := fun h => by rw [← hC, if_pos h]
 have hC2 : k ≠ 9 → C = ks.length := fun h => by rw [← hC, if_neg h]
 have hC9 : C ≤ ks.length := by by_cases h9 : k = 9; have := h93 h9; have := hC1 h9; omega; have := hC2 h9; omega
 generalize I0 (.mk k nm num ty fr lb ks) = R at hkX hkX' hrX ⊢
 obtain ⟨tk, tks⟩ := ty
 obtain ⟨fk, fks⟩ := fr
 obtain ⟨pt, ct, pf, cf, p, c, es, rfl, hk, hnum, hlb, hty, hfr, hsl, hkl⟩ := hr.open9
 have hn := hsl.le
 have hnc := hsl.sl.2.1
 have hes1 : ∀ u ∈ es.flatten, u.oneCell' = true := by
  intro u hu
  obtain ⟨e, he, hue⟩ := List.mem_flatten.1 hu
  exact List.all_eq_true.1 (hsl.one e he) u hue
 refine C0 Tryz.func102 rfl Tryz.ntmps102 Tryz.results102 rfl ?_
 intro w0
 refine tS (tR ?_)
 refine sE (C5 rfl rfl) rfl (fun b3 => ?_)
 refine sE (A7 rfl) rfl (fun b4 => ?_)
 refine S9 ?_
 refine sB (qE rfl rfl) rfl rfl (fun h22 => ?_) (fun h22 => ?_)
 refine sD (nS ?_)
 (show H9 _ _ (.cond (.tmp 16) _ _) _ _; refine Y4 (fun (_ : Unit) => ⟨[(5, .int .i64 (C : Int)), (1, .pointer (some ⟨b3, 0, none⟩)), (2, .pointer (some ⟨b4, 0, none⟩))], [.blk b4 [.int .i64 0, .string ⟨⟨[]⟩⟩, .int .i64 0, .int .i64 0, .slice none 0 0, .int .i64 0, .slice none 0 0, .int .i64 0, .slice none 0 0], .blk b3 [.int .i64 k, .string nm, .int .i64 num, .int .i64 tk, .slice pt tks.length ct, .int .i64 fk, .slice pf fks.length cf, .int .i64 lb, .slice p ks.length c]], G⟩) (fun _ => True) (qT rfl ?_) ?_)
 refine tR (sQ (qA rfl) rfl (sD ?_))
 (have hCC := hC1 (by omega); subst hCC; refine P1 () (K6 (by repeat (first | exact D8.nil | refine D8.cons rfl ?_)) (by repeat (first | exact A1.refl | exact A1.nil | refine A1.cons (by repeat (first | exact Pk.here | apply Pk.there)) ?_ | apply A1.drop))) trivial)
 (rintro (_ : Unit) _)
 refine tS (tS (tR (sQ (qA rfl) rfl (sD (nS ?_)))))
 refine B9 ?_
 (refine J4 (fun (i : Nat) => ⟨[(6, .int .i64 (i : Int)), (5, .int .i64 (C : Int)), (1, .pointer (some ⟨b3, 0, none⟩)), (2, .pointer (some ⟨b4, 0, none⟩))], [.blk b4 [.int .i64 0, .string ⟨⟨[]⟩⟩, .int .i64 0, .int .i64 0, .slice none 0 0, .int .i64 0, .slice none 0 0, .int .i64 0, .slice none 0 0], .blk b3 [.int .i64 k, .string nm, .int .i64 num, .int .i64 tk, .slice pt tks.length ct, .int .i64 fk, .slice pf fks.length cf, .int .i64 lb, .slice p ks.length c]], G⟩) (fun i => i ≤ C ∧ ∀ j, j < i → (h : j < ks.length) → E8 ks[j] = true) (fun i => C - i) 0 ?_ ?_ ?_)
 exact D9
 (exact ⟨Nat.zero_le _, fun j hj => absurd hj (Nat.not_lt_zero j)⟩)
 (rintro i ⟨hi, hj⟩)
 refine tS (tS (tR (sQ (qM rfl) rfl (sQ (qM rfl) rfl ?_))))
 refine sB (J1 rfl rfl) rfl rfl (fun h47 => ?_) (fun h47 => ?_)
 refine sD (nS (qT rfl (tK (nS (tS ?_)))))
 refine B9 ?_
 refine tS (tS (tR (sQ (A0 rfl) rfl (sL (A3 rfl rfl) rfl rfl (sQ (qM rfl) rfl ?_)))))
 (have hiC : i < C := (by omega); obtain ⟨bx, ox, e, rfl, hl, hat, hre, hgb⟩ := hsl.kidTm hkl (i := i) (by omega) (by omega); have heo := hre.one; have hVi := A6f ks[i] G e (hkk _ (List.getElem_mem (by omega))) hre; refine sP (B3 (j := i) rfl rfl rfl (by omega)) rfl rfl ?_)
 refine sL (A5 rfl rfl (hat _) hl) rfl rfl ?_
 refine E7 rfl (hVi) rfl rfl (fun h63 => ?_) (fun h63 => ?_)
 refine sD (nS (qT rfl (M3 (M5 (M6 (nS (tR (sQ (qM rfl) rfl ?_))))))))
 refine sP (I7 rfl rfl (by omega) (by omega)) rfl rfl ?_
 refine sQ (qA rfl) rfl (sD ?_)
 refine J3 (i + 1) ?_ ?_ ?_
 exact D9
 (exact ⟨by omega, fun j hji hl2 => (by by_cases he : j = i; (subst he; assumption); exact hj j (by omega) hl2)⟩)
 (show C - (i + 1) < C - i; omega)
 refine sD (nS (cF rfl (tK (nS (tS (tR (sQ (A0 rfl) rfl (sL (A3 rfl rfl) rfl rfl (sQ (qM rfl) rfl ?_)))))))))
 refine sP (B3 (j := i) rfl rfl rfl (by omega)) rfl rfl ?_
 refine sL (A5 rfl rfl (hat _) hl) rfl rfl ?_
 (have hvF : E8 ks[i] = false := (by assumption); have hst := hkX' i (by omega) hiC (fun j hji hl2 => hj j hji hl2) hvF; refine E5 rfl (ih ks[i] (List.getElem_mem (by omega)) G e (hkk _ (List.getElem_mem (by omega))) hvF hre) rfl rfl (fun v G1 hle1 hh => ?_); obtain ⟨uc, hvv, hru⟩ := hh; have hul := hru.len; have huo := hru.one; generalize I0 ks[i] = r at hvv hru hst; obtain ⟨u, cc, ll⟩ := r; simp only at hvv hru hst; subst hvv)
 refine sQ (qM rfl) rfl (sQ (pX rfl rfl) rfl (sQ (pX rfl rfl) rfl (sQ (pX rfl rfl) rfl ?_)))
 refine sE (A7 rfl) rfl (fun b97 => ?_)
 refine sS rfl rfl rfl hul huo rfl ?_ (hu := by exact D5 hul.symm)
 refine sQ (qA rfl) rfl (sQ (qA rfl) rfl (sD (nS (tS (tS (tR (sQ (qM rfl) rfl ?_)))))))
 refine sB (N9 rfl rfl) rfl rfl (fun h107 => ?_) (fun h107 => ?_)
 refine A0b ?_
 refine C8 (rC rfl (A2 rfl rfl)) (rT rfl) (rT rfl) ?_
 (rw [hst, if_neg (by omega)]; exact J8.mk rfl (L3 _))
 refine sD (nS (cF rfl (tK (nS (tS (tR (sL (A2 rfl rfl) rfl rfl ?_)))))))
 refine sE (A7 rfl) rfl (fun b138 => ?_)
 refine B1 ?_
 refine sD (nS (tS (tR ?_)))
 (refine I5 (C7 rfl rfl rfl (by omega) (by unfold maxLen; omega) rfl) rfl ?_; rintro _ ⟨b144, rfl⟩)
 refine sQ (A0 rfl) rfl (sL (A3 rfl rfl) rfl rfl ?_)
 (refine A3g rfl rfl rfl rfl rfl (fun _ _ => by repeat (first | exact Sw.here | apply Sw.there)) (hsl.mono hle1).sl hes1 (Nat.zero_le _) (by unfold maxLen; omega) (by omega) rfl (fun p4 c4 => ?_); simp only [Nat.zero_add, List.nil_append]; refine A3j (cs := es.flatten) (by repeat (first | exact Pk.here | apply Pk.there)) (by omega) (fun bc Cc hpe hnc1 hcm => ?_); subst hpe)
 refine sQ (A0 rfl) rfl (B1 ?_)
 refine sD (nS (tS (tR (sQ (A0 rfl) rfl (sL (A3 rfl rfl) rfl rfl (sQ (qM rfl) rfl ?_))))))
 refine sL (A5 rfl rfl (B2 (by repeat first | exact mH | apply mT)) hul) rfl rfl ?_
 refine sP (B3 (j := i) rfl rfl rfl (by omega)) rfl rfl ?_
 refine Y0 rfl rfl rfl hul huo rfl (by repeat first | exact Sw.here | apply Sw.there) (by exact A3k (by rw [hkl.len]; omega) (fun e he => (hsl.all e he)) hul) ?_
 refine sD (nS (tS (tR (sL (A2 rfl rfl) rfl rfl (B1 ?_)))))
 refine sQ (qA rfl) rfl (sQ (qA rfl) rfl (sD (nS ?_)))
 (refine A1Y (bs := [(bc, (es.set i uc).flatten ++ Cc)]) (Pk.perm (by repeat (first | exact Pk.here | apply Pk.there))) (fun hn2 hd2 hle2 => ?_))
 refine tT (rB (rS (T4 (rB (rS ?_)))))
 refine C8 (rC rfl (A2 rfl rfl)) (rT rfl) (rT rfl) ?_
 (have hks2 := D3.set (j := i) ((hkl.mono hle1).mono hle2) (hru.mono hle2); rw [hst, if_pos (by omega)]; exact J8.mk rfl (B0.put (us := ks.set i u) (es := es.set i uc) hk hnum hlb ((hty.mono hle1).mono hle2) ((hfr.mono hle1).mono hle2) (by rw [List.length_set]) (D2.of (Sl.of_blk (A := []) (by rw [A0v hks2.all, hks2.len, List.length_set]) (by omega) hcm (Wi.in hn2 List.mem_cons_self)) (by rw [hks2.len, List.length_set]) hks2.all (fun e he => by obtain ⟨q, hq⟩ := List.getElem?_of_mem he; exact (hks2.inv hq J6).2.one)) hks2))
 refine T6 ?_
 refine sP (A1U rfl rfl (by omega)) rfl rfl ?_
 refine sD (nS (cF rfl (tK (nS (tS (tS (tR (sQ (A0 rfl) rfl (sL (A3 rfl rfl) rfl rfl ?_)))))))))
 (have hall : ∀ i, i < C → (hl : i < ks.length) → E8 ks[i] = true := (fun j hjc hl2 => hj j (by omega) hl2); have hrd' := hrX hall; have h9 : k = 9 := (by omega); subst h9; obtain ⟨xa, xb, xc, hxs⟩ := ks3 (h93 rfl); subst hxs; rw [B4z] at hrd'; obtain ⟨bx, ox, e0, rfl, hl0, hat0, hre0, hgb0⟩ := hsl.kidTm hkl (i := 0) (by simp) (by simp); obtain ⟨_, _, e1, hp1, hl1, hat1, hre1, hgb1⟩ := hsl.kidTm hkl (i := 1) (by simp) (by simp); cases hp1; obtain ⟨_, _, e2, hp2, hl2, hat2, hre2, hgb2⟩ := hsl.kidTm hkl (i := 2) (by simp) (by simp); cases hp2; replace hre0 : B0 G xa e0 := hre0; replace hre1 : B0 G xb e1 := hre1; replace hre2 : B0 G xc e2 := hre2; have ho1 := hre1.one; have ho2 := hre2.one; obtain ⟨ak, anm, anum, ⟨atk, atks⟩, ⟨afk, afks⟩, alb, aks⟩ := xa; obtain ⟨apt, act, apf, acf, ap, ac, aes, rfl, hak, hanum, halb, haty, hafr, hasl, hakl⟩ := hre0.open9; replace hrd' : R = (if ak = 3 then (xb, 1, 0) else if ak = 4 then (xc, 1, 0) else P5) := hrd'; refine sP (B3 (j := 0) rfl rfl rfl (by simp)) rfl rfl ?_)
 refine sQ (qF rfl) rfl ?_
 refine sL (A0j rfl rfl ((hat0 _).sub (j := 0) rfl)) rfl rfl ?_
 refine sD (nS ?_)
 refine B9 (tS (tR (sB (qE rfl rfl) rfl rfl (fun h211 => ?_) (fun h211 => ?_))))
 refine sQ (qA rfl) rfl (sD (nS (qT rfl (tS (tR (sQ (A0 rfl) rfl (sL (A3 rfl rfl) rfl rfl ?_)))))))
 refine sP (B3 (j := 1) rfl rfl rfl (by simp)) rfl rfl ?_
 refine sL (A5 rfl rfl (hat1 _) hl1) rfl rfl ?_
 refine sS rfl rfl rfl hl1 ho1 rfl ?_ (hu := by exact D5 hl1.symm)
 refine sQ (qA rfl) rfl (sQ (qA rfl) rfl (sD (nS (tT (rB (rS ?_))))))
 refine C8 (rC rfl (A5 rfl rfl (B2 (by repeat first | exact mH | apply mT)) hl1)) (rT rfl) (rT rfl) ?_
 (rw [hrd', if_pos (by omega)]; exact J8.mk rfl hre1)
 refine sQ (qA rfl) rfl (sD (nS (cF rfl (tS (tR ?_)))))
 refine sB (qE rfl rfl) rfl rfl (fun h238 => ?_) (fun h238 => ?_)
 refine sQ (qA rfl) rfl (sD (nS (qT rfl (tS (tR (sQ (A0 rfl) rfl (sL (A3 rfl rfl) rfl rfl ?_)))))))
 refine sP (B3 (j := 2) rfl rfl rfl (by simp)) rfl rfl ?_
 refine sL (A5 rfl rfl (hat2 _) hl2) rfl rfl ?_
 refine sS rfl rfl rfl hl2 ho2 rfl ?_ (hu := by exact D5 hl2.symm)
 refine sQ (qA rfl) rfl (sQ (qA rfl) rfl (sD (nS (tT (rB (rS ?_))))))
 refine C8 (rC rfl (A5 rfl rfl (B2 (by repeat first | exact mH | apply mT)) hl2)) (rT rfl) (rT rfl) ?_
 (rw [hrd', if_neg (by omega), if_pos (by omega)]; exact J8.mk rfl hre2)
 refine O9 ?_
 refine C8 (rC rfl (A2 rfl rfl)) (rT rfl) (rT rfl) ?_
 (rw [hrd', if_neg (by omega), if_neg (by omega)]; exact J8.mk rfl (L3 _))
 refine sD (nS ?_)
 (show H9 _ _ (.cond (.tmp 16) _ _) _ _; refine Y4 (fun (_ : Unit) => ⟨[(5, .int .i64 (C : Int)), (1, .pointer (some ⟨b3, 0, none⟩)), (2, .pointer (some ⟨b4, 0, none⟩))], [.blk b4 [.int .i64 0, .string ⟨⟨[]⟩⟩, .int .i64 0, .int .i64 0, .slice none 0 0, .int .i64 0, .slice none 0 0, .int .i64 0, .slice none 0 0], .blk b3 [.int .i64 k, .string nm, .int .i64 num, .int .i64 tk, .slice pt tks.length ct, .int .i64 fk, .slice pf fks.length cf, .int .i64 lb, .slice p ks.length c]], G⟩) (fun _ => True) (cF rfl ?_) ?_)
 refine tK ?_
 (have hCC := hC2 (by omega); subst hCC; refine P1 () (K6 (by repeat (first | exact D8.nil | refine D8.cons rfl ?_)) (by repeat (first | exact A1.refl | exact A1.nil | refine A1.cons (by repeat (first | exact Pk.here | apply Pk.there)) ?_ | apply A1.drop))) trivial)
 (rintro (_ : Unit) _)
 refine tS (tS (tR (sQ (qA rfl) rfl (sD (nS ?_)))))
 refine B9 ?_
 (refine J4 (fun (i : Nat) => ⟨[(6, .int .i64 (i : Int)), (5, .int .i64 (C : Int)), (1, .pointer (some ⟨b3, 0, none⟩)), (2, .pointer (some ⟨b4, 0, none⟩))], [.blk b4 [.int .i64 0, .string ⟨⟨[]⟩⟩, .int .i64 0, .int .i64 0, .slice none 0 0, .int .i64 0, .slice none 0 0, .int .i64 0, .slice none 0 0], .blk b3 [.int .i64 k, .string nm, .int .i64 num, .int .i64 tk, .slice pt tks.length ct, .int .i64 fk, .slice pf fks.length cf, .int .i64 lb, .slice p ks.length c]], G⟩) (fun i => i ≤ C ∧ ∀ j, j < i → (h : j < ks.length) → E8 ks[j] = true) (fun i => C - i) 0 ?_ ?_ ?_)
 exact D9
 (exact ⟨Nat.zero_le _, fun j hj => absurd hj (Nat.not_lt_zero j)⟩)
 (rintro i ⟨hi, hj⟩)
 refine tS (tS (tR (sQ (qM rfl) rfl (sQ (qM rfl) rfl ?_))))
 refine sB (J1 rfl rfl) rfl rfl (fun h299 => ?_) (fun h299 => ?_)
 refine sD (nS (qT rfl (tK (nS (tS ?_)))))
 refine B9 ?_
 refine tS (tS (tR (sQ (A0 rfl) rfl (sL (A3 rfl rfl) rfl rfl (sQ (qM rfl) rfl ?_)))))
 (have hiC : i < C := (by omega); obtain ⟨bx, ox, e, rfl, hl, hat, hre, hgb⟩ := hsl.kidTm hkl (i := i) (by omega) (by omega); have heo := hre.one; have hVi := A6f ks[i] G e (hkk _ (List.getElem_mem (by omega))) hre; refine sP (B3 (j := i) rfl rfl rfl (by omega)) rfl rfl ?_)
 refine sL (A5 rfl rfl (hat _) hl) rfl rfl ?_
 refine E7 rfl (hVi) rfl rfl (fun h315 => ?_) (fun h315 => ?_)
 refine sD (nS (qT rfl (M3 (M5 (M6 (nS (tR (sQ (qM rfl) rfl ?_))))))))
 refine sP (I7 rfl rfl (by omega) (by omega)) rfl rfl ?_
 refine sQ (qA rfl) rfl (sD ?_)
 refine J3 (i + 1) ?_ ?_ ?_
 exact D9
 (exact ⟨by omega, fun j hji hl2 => (by by_cases he : j = i; (subst he; assumption); exact hj j (by omega) hl2)⟩)
 (show C - (i + 1) < C - i; omega)
 refine sD (nS (cF rfl (tK (nS (tS (tR (sQ (A0 rfl) rfl (sL (A3 rfl rfl) rfl rfl (sQ (qM rfl) rfl ?_)))))))))
 refine sP (B3 (j := i) rfl rfl rfl (by omega)) rfl rfl ?_
 refine sL (A5 rfl rfl (hat _) hl) rfl rfl ?_
 (have hvF : E8 ks[i] = false := (by assumption); have hst := hkX' i (by omega) hiC (fun j hji hl2 => hj j hji hl2) hvF; refine E5 rfl (ih ks[i] (List.getElem_mem (by omega)) G e (hkk _ (List.getElem_mem (by omega))) hvF hre) rfl rfl (fun v G1 hle1 hh => ?_); obtain ⟨uc, hvv, hru⟩ := hh; have hul := hru.len; have huo := hru.one; generalize I0 ks[i] = r at hvv hru hst; obtain ⟨u, cc, ll⟩ := r; simp only at hvv hru hst; subst hvv)
 refine sQ (qM rfl) rfl (sQ (pX rfl rfl) rfl (sQ (pX rfl rfl) rfl (sQ (pX rfl rfl) rfl ?_)))
 refine sE (A7 rfl) rfl (fun b349 => ?_)
 refine sS rfl rfl rfl hul huo rfl ?_ (hu := by exact D5 hul.symm)
 refine sQ (qA rfl) rfl (sQ (qA rfl) rfl (sD (nS (tS (tS (tR (sQ (qM rfl) rfl ?_)))))))
 refine sB (N9 rfl rfl) rfl rfl (fun h359 => ?_) (fun h359 => ?_)
 refine A0b ?_
 refine C8 (rC rfl (A2 rfl rfl)) (rT rfl) (rT rfl) ?_
 (rw [hst, if_neg (by omega)]; exact J8.mk rfl (L3 _))
 refine sD (nS (cF rfl (tK (nS (tS (tR (sL (A2 rfl rfl) rfl rfl ?_)))))))
 refine sE (A7 rfl) rfl (fun b390 => ?_)
 refine B1 ?_
 refine sD (nS (tS (tR ?_)))
 (refine I5 (C7 rfl rfl rfl (by omega) (by unfold maxLen; omega) rfl) rfl ?_; rintro _ ⟨b396, rfl⟩)
 refine sQ (A0 rfl) rfl (sL (A3 rfl rfl) rfl rfl ?_)
 (refine A3g rfl rfl rfl rfl rfl (fun _ _ => by repeat (first | exact Sw.here | apply Sw.there)) (hsl.mono hle1).sl hes1 (Nat.zero_le _) (by unfold maxLen; omega) (by omega) rfl (fun p4 c4 => ?_); simp only [Nat.zero_add, List.nil_append]; refine A3j (cs := es.flatten) (by repeat (first | exact Pk.here | apply Pk.there)) (by omega) (fun bc Cc hpe hnc1 hcm => ?_); subst hpe)
 refine sQ (A0 rfl) rfl (B1 ?_)
 refine sD (nS (tS (tR (sQ (A0 rfl) rfl (sL (A3 rfl rfl) rfl rfl (sQ (qM rfl) rfl ?_))))))
 refine sL (A5 rfl rfl (B2 (by repeat first | exact mH | apply mT)) hul) rfl rfl ?_
 refine sP (B3 (j := i) rfl rfl rfl (by omega)) rfl rfl ?_
 refine Y0 rfl rfl rfl hul huo rfl (by repeat first | exact Sw.here | apply Sw.there) (by exact A3k (by rw [hkl.len]; omega) (fun e he => (hsl.all e he)) hul) ?_
 refine sD (nS (tS (tR (sL (A2 rfl rfl) rfl rfl (B1 ?_)))))
 refine sQ (qA rfl) rfl (sQ (qA rfl) rfl (sD (nS ?_)))
 (refine A1Y (bs := [(bc, (es.set i uc).flatten ++ Cc)]) (Pk.perm (by repeat (first | exact Pk.here | apply Pk.there))) (fun hn2 hd2 hle2 => ?_))
 refine tT (rB (rS (T4 (rB (rS ?_)))))
 refine C8 (rC rfl (A2 rfl rfl)) (rT rfl) (rT rfl) ?_
 (have hks2 := D3.set (j := i) ((hkl.mono hle1).mono hle2) (hru.mono hle2); rw [hst, if_pos (by omega)]; exact J8.mk rfl (B0.put (us := ks.set i u) (es := es.set i uc) hk hnum hlb ((hty.mono hle1).mono hle2) ((hfr.mono hle1).mono hle2) (by rw [List.length_set]) (D2.of (Sl.of_blk (A := []) (by rw [A0v hks2.all, hks2.len, List.length_set]) (by omega) hcm (Wi.in hn2 List.mem_cons_self)) (by rw [hks2.len, List.length_set]) hks2.all (fun e he => by obtain ⟨q, hq⟩ := List.getElem?_of_mem he; exact (hks2.inv hq J6).2.one)) hks2))
 refine T6 ?_
 refine sP (A0a rfl rfl (by omega)) rfl rfl ?_
 refine sD (nS (qT rfl (tS (tR (sL (A2 rfl rfl) rfl rfl ?_)))))
 (have hall : ∀ i, i < C → (hl : i < ks.length) → E8 ks[i] = true := (fun j hjc hl2 => hj j (by omega) hl2); have hk8 := hkd hall; have hrd' := hrX hall; refine E5 rfl (hRd (by omega)) rfl rfl (fun v G1 hle1 hh => ?_); obtain ⟨uc, rfl, hru⟩ := hh; have hul := hru.len; have huo := hru.one)
 refine sQ (pX rfl rfl) rfl (sQ (pX rfl rfl) rfl (sQ (pX rfl rfl) rfl ?_))
 refine sS rfl rfl rfl hul huo rfl ?_ (hu := by exact D5 hul.symm)
 refine sQ (qA rfl) rfl (sQ (qA rfl) rfl (sD (nS (tT (rS ?_)))))
 refine C8 (rC rfl (A5 rfl rfl (B2 (by repeat first | exact mH | apply mT)) hul)) (rT rfl) (rT rfl) ?_
 (rw [hrd']; exact ⟨rfl, _, rfl, hru⟩)
theorem B4B {t : Tm} (h : O1 t = true) : (I0 t).1.small ∧ D1 (I0 t).1 ≤ 40300 := by
 obtain ⟨h1, h2⟩ := A1J h
 have := B19 t (A19 t h1) h2
 exact ⟨this.1, by omega⟩
theorem B4C (t : Tm) (G : IM) (cells : List Value) (hcnt : D1 t ≤ 4294967296) (hr : B0 G t cells) : Fn Tryz.prog 64 [.agg ⟨cells⟩] [] G (J8 (H5 t)) := by
 have hRl := hr.len
 have hRo := hr.one
 have hV := A7A t G cells hcnt hr
 have e1 := @A4t t
 have e2 := @A3C t
 have e3 := @A3D t
 have e4 := @A3E t
 have e5 := @A3F t
 have hsc := @B4B t
 refine C0 Tryz.func64 rfl Tryz.ntmps64 Tryz.results64 rfl ?_
 intro w0
 refine tS (tR ?_)
 refine sE (C5 rfl rfl) rfl (fun b3 => ?_)
 refine sE (A7 rfl) rfl (fun b4 => ?_)
 refine sQ (qA rfl) rfl (sQ (qA rfl) rfl (sD (nS (tS (tS (tR ?_))))))
 refine sL (A5 rfl rfl (B2 (by repeat first | exact mH | apply mT)) hRl) rfl rfl ?_
 refine E7 rfl (hV) rfl rfl (fun h13 => ?_) (fun h13 => ?_)
 refine sQ (K4 rfl) rfl (sD (nS (cF rfl (tK (nS (tS (tS (tR ?_))))))))
 refine sL (A5 rfl rfl (B2 (by repeat first | exact mH | apply mT)) hRl) rfl rfl ?_
 refine E7 rfl ((A6f t G cells (A1J (by assumption)).1 hr)) rfl rfl (fun h24 => ?_) (fun h24 => ?_)
 refine sD (nS (qT rfl (tS (tR ?_))))
 refine sL (A5 rfl rfl (B2 (by repeat first | exact mH | apply mT)) hRl) rfl rfl ?_
 (refine E5 rfl (A2y t G cells (A4s (by assumption)) hr) rfl rfl (fun v G1 hle1 hh => ?_); obtain ⟨cs1, F1, rfl, hs1, hn1⟩ := hh; have hul := hs1.R.len; have huo := hs1.R.one)
 refine sS rfl rfl rfl hul huo rfl ?_ (hu := by exact D5 hul.symm)
 refine sQ (qA rfl) rfl (sQ (qA rfl) rfl (sD (nS (tT (rS ?_)))))
 refine C8 (rC rfl (A5 rfl rfl (B2 (by repeat first | exact mH | apply mT)) hul)) (rT rfl) (rT rfl) ?_
 (exact J8.mk (e2 (by assumption) (by assumption)) (hs1.R.mono (C4.le _ _)))
 refine sD (nS (cF rfl (tK (nS (tS (tR ?_))))))
 refine sL (A5 rfl rfl (B2 (by repeat first | exact mH | apply mT)) hRl) rfl rfl ?_
 (have hcv : O1 t = true := (by assumption); have hnv : E8 t = false := (by assumption); obtain ⟨hsc1, hsc2⟩ := hsc hcv; replace e3 := e3 hcv hnv; replace e4 := e4 hcv hnv; replace e5 := e5 hcv hnv; refine E5 rfl (B4A t G cells (A1J hcv).1 hnv hr) rfl rfl (fun v G1 hle1 hh => ?_); obtain ⟨uc, hvv, hru⟩ := hh; have hul := hru.len; have huo := hru.one; generalize I0 t = r at hvv hru hsc1 hsc2 e3 e4 e5; obtain ⟨u, cc, ll⟩ := r; simp only at hvv hru hsc1 hsc2 e3 e4 e5; subst hvv; have hVu := A7A u G1 uc (by omega) hru)
 refine sQ (qM rfl) rfl (sQ (pX rfl rfl) rfl (sQ (pX rfl rfl) rfl (sQ (pX rfl rfl) rfl ?_)))
 refine sE (A7 rfl) rfl (fun b54 => ?_)
 refine sS rfl rfl rfl hul huo rfl ?_ (hu := by exact D5 hul.symm)
 refine sQ (qA rfl) rfl (sQ (qA rfl) rfl (sD (nS (tS (tS (tR (sQ (qM rfl) rfl ?_)))))))
 refine sB (N9 rfl rfl) rfl rfl (fun h64 => ?_) (fun h64 => ?_)
 refine L9 ?_
 refine C8 (rC rfl (A2 rfl rfl)) (rT rfl) (rT rfl) ?_
 (exact J8.mk (e3 (by omega)) (L3 _))
 refine sD (nS (cF rfl (tK (nS (tS (tS (tR ?_)))))))
 refine sL (A5 rfl rfl (B2 (by repeat first | exact mH | apply mT)) hul) rfl rfl ?_
 refine E7 rfl (hVu) rfl rfl (fun h91 => ?_) (fun h91 => ?_)
 refine sQ (K4 rfl) rfl (sD (nS (cF rfl (tK (nS (tS (tR ?_)))))))
 refine sL (A5 rfl rfl (B2 (by repeat first | exact mH | apply mT)) hul) rfl rfl ?_
 (refine E5 rfl (A2y u G1 uc hsc1 hru) rfl rfl (fun v G2 hle2 hh => ?_); obtain ⟨cs2, F2, rfl, hs2, hn2⟩ := hh; have hwl := hs2.R.len; have hwo := hs2.R.one)
 refine sS rfl rfl rfl hwl hwo rfl ?_ (hu := by exact D5 hwl.symm)
 refine sQ (qA rfl) rfl (sQ (qA rfl) rfl (sD (nS (tT ?_))))
 refine C8 (rC rfl (A5 rfl rfl (B2 (by repeat first | exact mH | apply mT)) hwl)) (rT rfl) (rT rfl) ?_
 (exact J8.mk (e5 (by omega) (by assumption)) (hs2.R.mono (C4.le _ _)))
 refine R2 ?_
 refine C8 (rC rfl (A2 rfl rfl)) (rT rfl) (rT rfl) ?_
 (exact J8.mk (e4 (by omega) (by assumption)) (L3 _))
 refine R2 ?_
 refine C8 (rC rfl (A2 rfl rfl)) (rT rfl) (rT rfl) ?_
 (exact J8.mk (e1 (by assumption)) (L3 _))
theorem B4D {m i : Nat} {e : Tm} (h : (H5 e).2.1 ≠ 1) : Y7 i (K7 m e) = ((H5 e).1, (H5 e).2.1, (H5 e).2.2, i) := by
 cases m with
 | zero => rw [K7, if_neg h]; simp [Y7]
 | succ m => rw [K7, if_neg h]; simp [Y7]
theorem B4E {m i : Nat} {e : Tm} (h : (H5 e).2.1 = 1) (hm : m = 0) : Y7 i (K7 m e) = (J6, 5, 0, i) := by
 subst hm; rw [K7, if_pos h]; simp [Y7]
theorem B4F {m i : Nat} {e : Tm} (h : (H5 e).2.1 = 1) (hm : 0 < m) : Y7 i (K7 m e) = Y7 (i + 1) (K7 (m - 1) (H5 e).1) := by
 obtain ⟨k, rfl⟩ : ∃ k, m = k + 1 := ⟨m - 1, by omega⟩
 rw [K7, if_pos h]; simp only [Y7, Nat.add_sub_cancel, Nat.add_assoc, Nat.add_comm 1 i]
theorem B4G (e : Tm) (n : Nat) (hn : n ≤ 300) (G : IM) (cells : List Value) (hcnt : D1 e ≤ 4294967296) (hr : B0 G e cells) : Fn Tryz.prog 31 [.agg ⟨cells⟩, .int .i64 (n : Int)] [] G (EvP (K7 n e)) := by
 have hRl := hr.len
 have hRo := hr.one
 refine C0 Tryz.func31 rfl Tryz.ntmps31 Tryz.results31 rfl ?_
 intro w0
 refine tS (tR ?_)
 refine sE (C5 rfl rfl) rfl (fun b3 => ?_)
 refine sE (A7 rfl) rfl (fun b4 => ?_)
 refine sQ (qA rfl) rfl (sQ (qA rfl) rfl (sQ (qA rfl) rfl (sD (nS (tS (tR (sQ (qA rfl) rfl (sD (nS ?_)))))))))
 refine B9 ?_
 (refine J4 (fun (x : Nat × Tm × List Value × IM) => ⟨[(8, .int .i64 (x.1 : Int)), (1, .int .i64 (n : Int)), (2, .pointer (some ⟨b3, 0, none⟩)), (4, .pointer (some ⟨b4, 0, none⟩))], [.blk b3 x.2.2.1, .blk b4 [.int .i64 0, .string ⟨⟨[]⟩⟩, .int .i64 0, .int .i64 0, .slice none 0 0, .int .i64 0, .slice none 0 0, .int .i64 0, .slice none 0 0]], x.2.2.2⟩) (fun x => x.1 ≤ n ∧ B8 G x.2.2.2 ∧ B0 x.2.2.2 x.2.1 x.2.2.1 ∧ D1 x.2.1 ≤ 4294967296 ∧ Y7 x.1 (K7 (n - x.1) x.2.1) = K7 n e) (fun x => n - x.1) (0, e, cells, G) ?_ ?_ ?_)
 (simp only [I3]; exact D9)
 (exact ⟨Nat.zero_le _, B8.refl _, hr, hcnt, rfl⟩)
 (rintro ⟨i, u, uc, Gi⟩ ⟨hi, hle, hru, hcu, hev⟩; simp only [] at hi hle hru hcu hev ⊢; have hul := hru.len; have huo := hru.one)
 refine tS ?_
 refine B9 ?_
 refine tS (tR ?_)
 refine sL (A5 rfl rfl (B2 (by repeat first | exact mH | apply mT)) hul) rfl rfl ?_
 (refine E5 rfl (B4C u Gi uc hcu hru) rfl rfl (fun v G1 hle1 hh => ?_); obtain ⟨wc, hv, hrw⟩ := hh; have hwl := hrw.len; have hwo := hrw.one; have hend := @B4D (n - i) i u; have hmu := @B4E (n - i) i u; have hgo := @B4F (n - i) i u; have hval := @B2B u; generalize H5 u = r at hv hrw hend hmu hgo hval; obtain ⟨w, c, l⟩ := r; simp only at hv hrw hend hmu hgo hval; subst hv)
 refine sQ (qM rfl) rfl (sQ (pX rfl rfl) rfl (sQ (pX rfl rfl) rfl (sQ (pX rfl rfl) rfl ?_)))
 refine sE (A7 rfl) rfl (fun b30 => ?_)
 refine sS rfl rfl rfl hwl hwo rfl ?_ (hu := by exact D5 hwl.symm)
 refine sQ (qA rfl) rfl (sQ (qA rfl) rfl (sD (nS (tS (tS (tR (sQ (qM rfl) rfl ?_)))))))
 refine sB (N9 rfl rfl) rfl rfl (fun h40 => ?_) (fun h40 => ?_)
 refine sD (nS (qT rfl (tS (tR ?_))))
 refine sL (A5 rfl rfl (B2 (by repeat first | exact mH | apply mT)) hwl) rfl rfl ?_
 refine sQ (qM rfl) rfl (sQ (qM rfl) rfl (sQ (qM rfl) rfl ?_))
 refine sS rfl rfl rfl hwl hwo rfl ?_ (hu := by exact D5 hwl.symm)
 refine sQ (qA rfl) rfl (sQ (qA rfl) rfl (sQ (qA rfl) rfl (sD (nS (tT (rS (rB (rS (T4 (rB ?_))))))))))
 refine A4u (rC rfl (A5 rfl rfl (B2 (by repeat first | exact mH | apply mT)) hwl)) (rT rfl) (rT rfl) (rT rfl) ?_
 (exact EvP.mk (by rw [← hev]; exact hend (by omega)) hrw)
 refine sD (nS (cF rfl (tK (nS (tS (tS (tR (sQ (qM rfl) rfl (sQ (qM rfl) rfl ?_)))))))))
 refine sB (qE rfl rfl) rfl rfl (fun h74 => ?_) (fun h74 => ?_)
 refine Z1 ?_
 refine A4u (rC rfl (A2 rfl rfl)) (rT rfl) (rT rfl) (rT rfl) ?_
 (exact EvP.mk (by rw [← hev]; exact hmu (by omega) (by omega)) (L3 _))
 refine sD (nS (cF rfl (tK (nS (tR ?_)))))
 refine sL (A5 rfl rfl (B2 (by repeat first | exact mH | apply mT)) hwl) rfl rfl ?_
 refine Y0 rfl rfl rfl hwl hwo rfl (by repeat first | exact Sw.here | apply Sw.there) (by exact D5 (hul.trans hwl.symm)) ?_
 refine sD (E3 (nS (tR (sQ (qM rfl) rfl ?_))))
 refine sP (I7 rfl rfl (by omega) (by omega)) rfl rfl ?_
 refine sQ (qA rfl) rfl (sD ?_)
 refine J3 (i + 1, w, wc, G1) ?_ ?_ ?_
 (simp only [I3]; exact D9)
 (dsimp only; exact ⟨by omega, hle.trans hle1, hrw, by have := A6U (hval (by omega)); omega, by rw [← hev, hgo (by omega) (by omega), show n - (i + 1) = n - i - 1 by omega]⟩)
 (show n - (i + 1) < n - i; omega)
theorem B4H {e : Tm} {fuel : Int} (h : P8 fuel 0 300 = true) : Q7 e fuel = ((K7 fuel.toNat e).1, (K7 fuel.toNat e).2.1, (K7 fuel.toNat e).2.2.1) := by
 unfold Q7; rw [if_pos (A25 h)]
theorem A9A {fuel : Int} (h : fuel < 0 ∨ 300 < fuel) : P8 fuel 0 300 = false := by unfold P8; rw [decide_eq_false (by omega)]
theorem B4I {fuel : Int} (h : 0 ≤ fuel) (h2 : fuel ≤ 300) : P8 fuel 0 300 = true := by unfold P8; rw [decide_eq_true ⟨h, h2⟩]
theorem B4J (e : Tm) (fuel : Int) (G : IM) (cells : List Value) (hcnt : D1 e ≤ 4294967296) (hr : B0 G e cells) : Fn Tryz.prog 10 [.agg ⟨cells⟩, .int .i64 fuel] [] G (J8 (Q7 e fuel)) := by
 have hRl := hr.len
 have hRo := hr.one
 have hno := @A5T e fuel
 have hin := @B4H e fuel
 refine C0 Tryz.func10 rfl Tryz.ntmps10 Tryz.results10 rfl ?_
 intro w0
 refine tS (tR ?_)
 refine sE (C5 rfl rfl) rfl (fun b3 => ?_)
 refine sE (A7 rfl) rfl (fun b4 => ?_)
 refine sQ (qA rfl) rfl (sQ (qA rfl) rfl (sD (nS (tS (tS (tR (sQ (qM rfl) rfl ?_)))))))
 refine sB (J1 rfl rfl) rfl rfl (fun h13 => ?_) (fun h13 => ?_)
 refine S9 ?_
 refine C8 (rC rfl (A2 rfl rfl)) (rT rfl) (rT rfl) ?_
 (exact J8.mk (hno (A9A (by omega))) (L3 _))
 refine sQ (qM rfl) rfl (sQ (qM rfl) rfl ?_)
 refine sB (X4 rfl rfl) rfl rfl (fun h35 => ?_) (fun h35 => ?_)
 refine R2 ?_
 refine C8 (rC rfl (A2 rfl rfl)) (rT rfl) (rT rfl) ?_
 (exact J8.mk (hno (A9A (by omega))) (L3 _))
 refine sQ (D7 rfl rfl) rfl (sD (nS (cF rfl (tK (nS (tS (tR ?_)))))))
 refine sL (A5 rfl rfl (B2 (by repeat first | exact mH | apply mT)) hRl) rfl rfl ?_
 refine sQ (qM rfl) rfl ?_
 (have hE := B4G e fuel.toNat (by omega) G cells hcnt hr; rw [Int.toNat_of_nonneg (by omega)] at hE; have hin := hin (B4I (by omega) (by omega)); refine E5 rfl hE rfl rfl (fun v G1 hle1 hh => ?_); obtain ⟨wc, hv, hrw⟩ := hh; have hwl := hrw.len; have hwo := hrw.one; generalize K7 fuel.toNat e = r at hv hrw hin; obtain ⟨w, c, l, i⟩ := r; simp only at hv hrw hin; subst hv)
 refine sQ (qM rfl) rfl (sQ (pX rfl rfl) rfl (sQ (pX rfl rfl) rfl (sQ (pX rfl rfl) rfl (sQ (pX rfl rfl) rfl ?_))))
 refine sE (A7 rfl) rfl (fun b68 => ?_)
 refine sS rfl rfl rfl hwl hwo rfl ?_ (hu := by exact D5 hwl.symm)
 refine sQ (qA rfl) rfl (sQ (qA rfl) rfl (sQ (qA rfl) rfl (sD (nS (tS (tR ?_))))))
 refine sL (A5 rfl rfl (B2 (by repeat first | exact mH | apply mT)) hwl) rfl rfl ?_
 refine sQ (qM rfl) rfl (sQ (qM rfl) rfl ?_)
 refine sS rfl rfl rfl hwl hwo rfl ?_ (hu := by exact D5 hwl.symm)
 refine sQ (qA rfl) rfl (sQ (qA rfl) rfl (sD (nS (tT ?_))))
 refine C8 (rC rfl (A5 rfl rfl (B2 (by repeat first | exact mH | apply mT)) hwl)) (rT rfl) (rT rfl) ?_
 (exact J8.mk hin hrw)
theorem B4K : ∀ (t : Tm) (G : IM) (cells : List Value), cv t → E8 t = true → B0 G t cells → Fn Tryz.prog 45 [.agg ⟨cells⟩] [] G (H4 (.string (A0i t)) G) := by
 refine Tm.ind fun k nm num ty fr lb ks ih G cells hc hv hr => ?_
 have hr0 := hr
 have hP := A4D _ G _ hr
 obtain ⟨hN, hkk⟩ := hc.node
 have hI := A6e (.mk k nm num ty fr lb ks) G _ hN.frA hr
 have hop := hN.ops
 have hnum0 := hN.num0
 have h14 : k = 14 → ks.length = 1 := fun h => by rw [h] at hop; have : D0 14 = 1 := rfl; omega
 have hvp := @A9o k nm num ty fr lb ks
 have hvf := @A9p k nm num ty fr lb ks
 have hvc := @A9q k nm num ty fr lb ks
 have hvl := @A9r k nm num ty fr lb ks
 have hvn := @A4o k nm num ty fr lb ks
 have hvy := @A9w k nm num ty fr lb ks
 have hprx := A0D k nm num ty fr lb ks
 have hinj := A3z k nm num ty fr lb ks
 have h5 : k ≠ 10 → O4 (.mk k nm num ty fr lb ks) = false → inj (.mk k nm num ty fr lb ks) = false → k = 2 ∨ k = 3 ∨ k = 4 ∨ k = 5 := fun h1 h2 h3 => by
  have := hvn h1 h2 h3; rw [hv] at this; exact of_decide_eq_true this.symm
 have hdis : O4 (.mk k nm num ty fr lb ks) = true → inj (.mk k nm num ty fr lb ks) = false := fun h => by
  rw [hprx] at h; have := of_decide_eq_true h; rw [hinj, decide_eq_false (by omega)]; rfl
 have hik : inj (.mk k nm num ty fr lb ks) = true → k = 14 := fun h => A3A h
 have hpk : O4 (.mk k nm num ty fr lb ks) = true → k = 14 ∧ ty.k = fr.k := fun h => by rw [hprx] at h; have := of_decide_eq_true h; exact ⟨this.1, this.2.1.symm⟩
 have hkv := fun (h : inj (.mk k nm num ty fr lb ks) = true) => (hvy (.inr h) (h14 (hik h))).symm.trans hv
 obtain ⟨j, hj⟩ : ∃ j : Nat, num = j := ⟨num.toNat, by omega⟩
 have hdec := B4h j (by omega) G
 generalize hpx : O4 (.mk k nm num ty fr lb ks) = bp at *
 generalize hij : inj (.mk k nm num ty fr lb ks) = bi at *
 subst hj
 obtain ⟨tk, tks⟩ := ty
 obtain ⟨fk, fks⟩ := fr
 obtain ⟨pt, ct, pf, cf, p, c, es, rfl, hk, hnum, hlb, hty, hfr, hsl, hkl⟩ := hr.open9
 refine C0 Tryz.func45 rfl Tryz.ntmps45 Tryz.results45 rfl ?_
 intro w0
 refine tS (tR ?_)
 refine sE (C5 rfl rfl) rfl (fun b3 => ?_)
 refine sQ (qA rfl) rfl (sD (nS (tS ?_)))
 refine B9 ?_
 refine tS (tR (sQ (A0 rfl) rfl (sL (A3 rfl rfl) rfl rfl ?_)))
 refine sB (qE rfl rfl) rfl rfl (fun h13 => ?_) (fun h13 => ?_)
 refine sQ (qA rfl) rfl (sD (nS (qT rfl (tS (tR (sQ (A0 rfl) rfl (sL (A3 rfl rfl) rfl rfl ?_)))))))
 refine H0 rfl (hdec) rfl rfl ?_
 refine sQ (qA rfl) rfl (sD (nS (tT (rB (rS (A9 (rT rfl) ?_))))))
 (have hbp : bp = false := (by cases hb : bp with | false => rfl | true => (have := (hpk hb).1; omega)); refine ⟨rfl, congrArg Value.string ?_, rfl⟩; rw [hvl hbp (by omega) (by omega) (by omega)]; unfold A1B; first | (rw [if_pos (by omega)]; rfl) | (rw [if_neg (by omega), if_pos (by omega)]; rfl) | (rw [if_neg (by omega), if_neg (by omega)]; rfl))
 refine sQ (qA rfl) rfl (sD (nS (cF rfl (tS (tR (sQ (A0 rfl) rfl (sL (A3 rfl rfl) rfl rfl ?_)))))))
 refine sB (qE rfl rfl) rfl rfl (fun h39 => ?_) (fun h39 => ?_)
 refine sQ (qA rfl) rfl (sD (nS (qT rfl (tS (tR (sQ (qA rfl) rfl (sD (nS (tT (rB (rS (A9 (rT rfl) ?_))))))))))))
 (have hbp : bp = false := (by cases hb : bp with | false => rfl | true => (have := (hpk hb).1; omega)); refine ⟨rfl, congrArg Value.string ?_, rfl⟩; rw [hvl hbp (by omega) (by omega) (by omega)]; unfold A1B; first | (rw [if_pos (by omega)]; rfl) | (rw [if_neg (by omega), if_pos (by omega)]; rfl) | (rw [if_neg (by omega), if_neg (by omega)]; rfl))
 refine sQ (qA rfl) rfl (sD (nS (cF rfl (tS (tR (sQ (A0 rfl) rfl (sL (A3 rfl rfl) rfl rfl ?_)))))))
 refine sB (qE rfl rfl) rfl rfl (fun h62 => ?_) (fun h62 => ?_)
 refine sQ (qA rfl) rfl (sD (nS (qT rfl (tS (tR (sQ (qA rfl) rfl (sD (nS (tT (rB (rS (A9 (rT rfl) ?_))))))))))))
 (have hbp : bp = false := (by cases hb : bp with | false => rfl | true => (have := (hpk hb).1; omega)); refine ⟨rfl, congrArg Value.string ?_, rfl⟩; rw [hvl hbp (by omega) (by omega) (by omega)]; unfold A1B; first | (rw [if_pos (by omega)]; rfl) | (rw [if_neg (by omega), if_pos (by omega)]; rfl) | (rw [if_neg (by omega), if_neg (by omega)]; rfl))
 refine sQ (qA rfl) rfl (sD (nS (cF rfl (tS (tR (sQ (A0 rfl) rfl (sL (A3 rfl rfl) rfl rfl ?_)))))))
 refine sB (qE rfl rfl) rfl rfl (fun h85 => ?_) (fun h85 => ?_)
 refine A0L ?_
 (refine ⟨rfl, congrArg Value.string ?_, rfl⟩; rw [hvp (by first | exact .inl (by omega) | exact .inr ⟨by assumption, by have := (hpk (by assumption)).2; simp only [Ty.k] at this ⊢; omega⟩)]; rfl)
 refine sQ (qM rfl) rfl (sL (A2 rfl rfl) rfl rfl ?_)
 refine E7 rfl (hP) rfl rfl (fun h112 => ?_) (fun h112 => ?_)
 refine sQ (qM rfl) rfl (sQ (A0 rfl) rfl (sQ (qF rfl) rfl (sL (A3 rfl rfl) rfl rfl ?_)))
 refine sB (qE rfl rfl) rfl rfl (fun h117 => ?_) (fun h117 => ?_)
 refine L9 ?_
 (refine ⟨rfl, congrArg Value.string ?_, rfl⟩; rw [hvp (by first | exact .inl (by omega) | exact .inr ⟨by assumption, by have := (hpk (by assumption)).2; simp only [Ty.k] at this ⊢; omega⟩)]; rfl)
 refine sQ (C2 rfl rfl) rfl (sQ (D7 rfl rfl) rfl (sQ (qA rfl) rfl (sD (nS (cF rfl (tS (tR (sL (A2 rfl rfl) rfl rfl ?_))))))))
 refine E7 rfl (hI) rfl rfl (fun h143 => ?_) (fun h143 => ?_)
 refine sQ (qA rfl) rfl (sD (nS (qT rfl (tS (tR (sQ (A0 rfl) rfl (sL (A3 rfl rfl) rfl rfl ?_)))))))
 (have hl1 := h14 (hik (by assumption)); obtain ⟨bx, ox, e, rfl, hl, hat, hre, hgb⟩ := hsl.kidTm hkl (i := 0) (by omega) (by omega); have hih := ih ks[0] (List.getElem_mem (by omega)) G e (hkk _ (List.getElem_mem (by omega))) (hkv (by assumption)) hre; refine sP (B3 (j := 0) rfl rfl rfl (by omega)) rfl rfl ?_)
 refine sL (A5 rfl rfl (hat _) hl) rfl rfl ?_
 refine H0 rfl (hih) rfl rfl ?_
 refine sQ (qA rfl) rfl (sD (nS (tT (rB (rS (A9 (rT rfl) ?_))))))
 (have hbp : bp = false := (by cases hb : bp with | false => rfl | true => (have := hdis hb; have h9 : bi = true := (by assumption); rw [h9] at this; cases this)); refine ⟨rfl, congrArg Value.string ?_, rfl⟩; rw [hvc hbp (hik (by assumption)) (by omega)])
 refine sQ (qA rfl) rfl (sD (nS (cF rfl (tK (E3 (nS (tS (tR (sQ (qA rfl) rfl (sD (nS (tT (A9 (rT rfl) ?_)))))))))))))
 (refine ⟨rfl, congrArg Value.string ?_, rfl⟩; rw [hvf (by rintro (h | ⟨h1, h2⟩) <;> first | omega | exact Bool.noConfusion (h1.symm.trans (show bp = false by assumption)) | (have := (hpk h1).2; simp only [Ty.k] at this h2; omega)) (by cases hb : bp with | true => exact .inr rfl | false => exact .inl (by have := h5 (by omega) hb (by assumption); omega))]; rfl)
 refine R2 ?_
 refine E7 rfl (hI) rfl rfl (fun h192 => ?_) (fun h192 => ?_)
 refine sQ (qA rfl) rfl (sD (nS (qT rfl (tS (tR (sQ (A0 rfl) rfl (sL (A3 rfl rfl) rfl rfl ?_)))))))
 (have hl1 := h14 (hik (by assumption)); obtain ⟨bx, ox, e, rfl, hl, hat, hre, hgb⟩ := hsl.kidTm hkl (i := 0) (by omega) (by omega); have hih := ih ks[0] (List.getElem_mem (by omega)) G e (hkk _ (List.getElem_mem (by omega))) (hkv (by assumption)) hre; refine sP (B3 (j := 0) rfl rfl rfl (by omega)) rfl rfl ?_)
 refine sL (A5 rfl rfl (hat _) hl) rfl rfl ?_
 refine H0 rfl (hih) rfl rfl ?_
 refine sQ (qA rfl) rfl (sD (nS (tT (rB (rS (A9 (rT rfl) ?_))))))
 (have hbp : bp = false := (by cases hb : bp with | false => rfl | true => (have := hdis hb; have h9 : bi = true := (by assumption); rw [h9] at this; cases this)); refine ⟨rfl, congrArg Value.string ?_, rfl⟩; rw [hvc hbp (hik (by assumption)) (by omega)])
 refine sQ (qA rfl) rfl (sD (nS (cF rfl (tK (E3 (nS (tS (tR (sQ (qA rfl) rfl (sD (nS (tT (A9 (rT rfl) ?_)))))))))))))
 (refine ⟨rfl, congrArg Value.string ?_, rfl⟩; rw [hvf (by rintro (h | ⟨h1, h2⟩) <;> first | omega | exact Bool.noConfusion (h1.symm.trans (show bp = false by assumption)) | (have := (hpk h1).2; simp only [Ty.k] at this h2; omega)) (by cases hb : bp with | true => exact .inr rfl | false => exact .inl (by have := h5 (by omega) hb (by assumption); omega))]; rfl)
theorem B4L (e : Tm) (fuel : Int) (G : IM) (cells : List Value) (hcnt : D1 e ≤ 4294967296) (hr : B0 G e cells) : Fn Tryz.prog 18 [.agg ⟨cells⟩, .int .i64 fuel] [] G (A9s (A0E e fuel) G) := by
 have hRl := hr.len
 have hRo := hr.one
 have hno := @A6b e fuel
 have hyv := fun u t => @A6c e u t fuel
 have hyn := fun u t => @A4C e u t fuel
 refine C0 Tryz.func18 rfl Tryz.ntmps18 Tryz.results18 rfl ?_
 intro w0
 refine tS (tR ?_)
 refine sE (C5 rfl rfl) rfl (fun b3 => ?_)
 refine sQ (qA rfl) rfl (sQ (qA rfl) rfl (sQ (qA rfl) rfl (sD (nS (tS (tR ?_))))))
 refine sL (A5 rfl rfl (B2 (by repeat first | exact mH | apply mT)) hRl) rfl rfl ?_
 focus (refine E5 rfl (B3G e G cells hcnt hr) rfl rfl (fun v G1 hle1 hh => ?_); obtain ⟨cu, ct, rfl, hru, hrt⟩ := hh; rcases hI : U3 e with _ | ⟨u, t⟩; rotate_left; rw [hI] at hru hrt; simp only [Option.getD_some] at hru hrt; have hgI := A54 hI; rotate_left; rw [hI] at hru hrt; simp only [Option.getD_none] at hru hrt; simp only [Option.isSome]; rotate_left; simp only [Option.isSome]; rotate_left; all_goals (have hul := hru.len; have huo := hru.one; obtain ⟨p3, c3, e3, rfl, _⟩ := hrt.open))
 refine sQ (qM rfl) rfl (sQ (pX rfl rfl) rfl (sQ (pX rfl rfl) rfl (sQ (pX rfl rfl) rfl ?_)))
 refine sE (A7 rfl) rfl (fun b17 => ?_)
 refine sE (A7 rfl) rfl (fun b18 => ?_)
 refine sS rfl rfl rfl hul huo rfl ?_ (hu := by exact D5 hul.symm)
 refine A0m ?_
 refine C8 (rT rfl) (rT rfl) (rT rfl) ?_
 (exact ⟨rfl, by rw [hno (by first | exact hI | rfl | assumption)]⟩)
 refine sQ (qM rfl) rfl (sQ (pX rfl rfl) rfl (sQ (pX rfl rfl) rfl (sQ (pX rfl rfl) rfl ?_)))
 refine sE (A7 rfl) rfl (fun b47 => ?_)
 refine sE (A7 rfl) rfl (fun b48 => ?_)
 refine sS rfl rfl rfl hul huo rfl ?_ (hu := by exact D5 hul.symm)
 refine B1 ?_
 refine sQ (qA rfl) rfl (sD (nS (tS (tS (tR (sQ (qM rfl) rfl (sQ (K4 rfl) rfl (sD (nS (cF rfl (tK (nS (tS (tR ?_))))))))))))))
 refine sL (A5 rfl rfl (B2 (by repeat first | exact mH | apply mT)) hul) rfl rfl ?_
 refine sQ (qM rfl) rfl ?_
 (have hyv := hyv u t hI; have hyn := hyn u t hI; have hev := @A9u u fuel; refine E5 rfl (B4J u fuel G1 cu (by have := A6U hgI.1; omega) hru) rfl rfl (fun v G2 hle2 hh => ?_); obtain ⟨wc, hvv, hrw⟩ := hh; have hwl := hrw.len; have hwo := hrw.one; generalize Q7 u fuel = r at hvv hrw hyv hyn hev; obtain ⟨w, c, l⟩ := r; simp only at hvv hrw hyv hyn hev; subst hvv)
 refine sQ (qM rfl) rfl (sQ (pX rfl rfl) rfl (sQ (pX rfl rfl) rfl (sQ (pX rfl rfl) rfl ?_)))
 refine sE (A7 rfl) rfl (fun b73 => ?_)
 refine sS rfl rfl rfl hwl hwo rfl ?_ (hu := by exact D5 hwl.symm)
 refine sQ (qA rfl) rfl (sQ (qA rfl) rfl (sD (nS (tS (tS (tR (sQ (qM rfl) rfl ?_)))))))
 refine sB (N9 rfl rfl) rfl rfl (fun h83 => ?_) (fun h83 => ?_)
 refine R2 ?_
 refine C8 (rT rfl) (rT rfl) (rT rfl) ?_
 (exact ⟨rfl, by rw [hyn (by omega)]⟩)
 refine sD (nS (cF rfl (tK (nS (tS (tR ?_))))))
 refine sL (A5 rfl rfl (B2 (by repeat first | exact mH | apply mT)) hwl) rfl rfl ?_
 (obtain ⟨he1, he2, he3⟩ := hev (by omega); refine H0 rfl (B4K w G2 wc (A1J he1).1 he2 hrw) rfl rfl ?_)
 refine sQ (qM rfl) rfl (sQ (qA rfl) rfl (sQ (qA rfl) rfl (sQ (qA rfl) rfl (sD (nS (tT ?_))))))
 refine C8 (rT rfl) (rT rfl) (rT rfl) ?_
 (obtain rfl : c = 0 := (by omega); subst he3; exact ⟨rfl, by rw [hyv rfl]⟩)
def B4M (r s : ByteArray × Int × Int) : Int := if r.2.1 = 2 then 2 else if r.2.1 ≠ 0 ∨ s.2.1 = 4 ∨ s.2.1 = 5 then 3 else if s.2.1 = 0 ∧ r.1 = s.1 then 1 else 4
def B5f (a b : Tm) (fuel : Int) : Int := if (A0h a).isSome = true ∧ B33 a b = true ∧ P8 fuel 0 300 = true then B4M (A0E a fuel) (A0E b fuel) else 0
def gxT : GX → ByteArray
 | .n n => A9n n
 | .b b => if b = true then txT else txF
 | .p => A59
 | .f => A6a
theorem B4N {fuel : Int} (hf : P8 fuel 0 300 = true) (u : Tm) : Q7 u fuel = ((K7 fuel.toNat u).1, (K7 fuel.toNat u).2.1, (K7 fuel.toNat u).2.2.1) := by
 unfold Q7
 rw [if_pos (A18.1 hf)]
mutual
theorem A6h : ∀ (a b : Ty), J5 a b = true → L6 a = 0 → L6 b = 0 → a = b
 | .mk k ks, .mk k' ks', h, h1, h2 => by
  rw [U9] at h
  simp only [Bool.or_eq_true, Bool.and_eq_true, decide_eq_true_eq] at h
  rw [L6] at h1 h2
  have hk : k ≠ 1 := by intro hk; rw [if_pos hk] at h1; cases h1
  have hk' : k' ≠ 1 := by intro hk; rw [if_pos hk] at h2; cases h2
  rw [if_neg hk] at h1
  rw [if_neg hk'] at h2
  rcases h with (h | h) | ⟨rfl, h⟩
  ·exact absurd h hk
  ·exact absurd h hk'
  ·rw [A9B ks ks' h h1 h2]
theorem A9B : ∀ (xs ys : List Ty), O3 xs ys = true → Q4 xs = 0 → Q4 ys = 0 → xs = ys
 | [], [], _, _, _ => rfl
 | [], _ :: _, h, _, _ => by simp [O3] at h
 | _ :: _, [], h, _, _ => by simp [O3] at h
 | a :: xs, b :: ys, h, h1, h2 => by
  rw [O3, Bool.and_eq_true] at h
  rw [Q4] at h1 h2
  have p1 := (A2R a).1
  have p2 := (A1P xs).1
  have p3 := (A2R b).1
  have p4 := (A1P ys).1
  rw [A6h a b h.1 (by omega) (by omega), A9B xs ys h.2 (by omega) (by omega)]
end
theorem A6i {h : List Ty} (hh : ∀ a ∈ h, L6 a = 0) (i : Nat) : L6 (h.getD i B4) = 0 := by
 rw [List.getD_eq_getElem?_getD]
 cases hx : h[i]? with
 | none => rfl
 | some t => exact hh t (List.mem_of_getElem? hx)
theorem A9C : ∀ {ks : List Ty}, Q4 ks = 0 → ∀ u ∈ ks, L6 u = 0
 | [], _, u, hu => by simp at hu
 | a :: ks, h, u, hu => by
  rw [Q4] at h
  have p1 := (A2R a).1
  have p2 := (A1P ks).1
  rcases List.mem_cons.1 hu with h1 | h1
  ·rw [h1]; omega
  ·exact A9C (by omega) u h1
theorem A9D {k : Int} {ks : List Ty} (h : L6 (.mk k ks) = 0) : ∀ u ∈ ks, L6 u = 0 := by
 rw [L6] at h
 split at h
 ·cases h
 ·exact A9C h
theorem A4E {k : Int} {a b : Ty} (hk : k ≠ 1) (ha : L6 a = 0) (hb : L6 b = 0) : L6 (.mk k [a, b]) = 0 := by
 rw [L6, if_neg hk, Q4, Q4, Q4]; omega
theorem A9E {k : Int} {t a b : Ty} (ht : L6 t = 0) (h : Q3 k t = some (a, b)) : L6 a = 0 ∧ L6 b = 0 := by
 obtain ⟨tk, ks⟩ := t
 rw [show Q3 k (.mk tk ks) = (if tk = k then some (ks.getD 0 B4, ks.getD 1 B4) else if tk = 1 then some (P3, P3) else none) from rfl] at h
 split at h
 ·cases h; exact ⟨A6i (A9D ht) 0, A6i (A9D ht) 1⟩
 ·split at h
  ·rename_i h1; rw [A9e h1] at ht; cases ht
  ·cases h
theorem B4O {cx : Cx} {k : Int} {nm : ByteArray} {ty : Ty} {h w : List Ty} {t : Ty} (hcx : ∀ x u, N2 cx x = some u → L6 u = 0) (hh : ∀ a ∈ h, L6 a = 0) (hty : k = 5 ∨ k = 13 → L6 ty = 0) (hw : K0 cx k nm ty h = some (w, t)) :
  (∀ a ∈ w, L6 a = 0) ∧ L6 t = 0 := by
 have g := A6i hh
 unfold K0 at hw
 split at hw
 ·split at hw
  ·rename_i u hu; cases hw; exact ⟨by simp, hcx _ _ hu⟩
  ·cases hw
 split at hw
 ·cases hw; exact ⟨by simp, rfl⟩
 split at hw
 ·cases hw; exact ⟨by simp, rfl⟩
 split at hw
 ·rename_i hk; cases hw; exact ⟨by simp, A4E (by decide) (hty (.inl hk)) (g 0)⟩
 split at hw
 ·split at hw
  ·rename_i a b hm
   obtain ⟨h1, h2⟩ := A9E (g 0) hm
   split at hw
   ·cases hw
    exact ⟨by intro x hx; simp only [List.mem_cons, List.not_mem_nil, or_false] at hx; rcases hx with rfl | rfl; exact A4E (by decide) h1 h2; exact h1, h2⟩
   ·cases hw
  ·cases hw
 split at hw
 ·split at hw
  ·cases hw
   refine ⟨by intro x hx; simp only [List.mem_cons, List.not_mem_nil, or_false] at hx; rcases hx with rfl | rfl <;> rfl, ?_⟩
   split <;> rfl
  ·cases hw
 split at hw
 ·split at hw
  ·rename_i hc
   have he := A6h _ _ hc.2 (g 1) (g 2)
   rw [he, A5Y] at hw
   cases hw
   exact ⟨by intro x hx; simp only [List.mem_cons, List.not_mem_nil, or_false] at hx; rcases hx with rfl | rfl | rfl; rfl; exact g 2; exact g 2, g 2⟩
  ·cases hw
 split at hw
 ·cases hw; exact ⟨by simp, A4E (by decide) (g 0) (g 1)⟩
 split at hw
 ·rename_i hk
  split at hw
  ·cases hw; exact ⟨by intro x hx; simp only [List.mem_cons, List.not_mem_nil, or_false] at hx; rw [hx]; exact hty (.inr hk), hty (.inr hk)⟩
  ·cases hw
 ·split at hw
  ·rename_i a b hm
   obtain ⟨h1, h2⟩ := A9E (g 0) hm
   cases hw
   refine ⟨by intro x hx; simp only [List.mem_cons, List.not_mem_nil, or_false] at hx; rw [hx]; exact A4E (by decide) h1 h2, ?_⟩
   split
   ·exact h2
   ·exact h1
  ·cases hw
theorem A9F : ∀ (us : List Tm) (h w : List Ty) (l : Int), (∀ i, (hi : i < w.length) → (hh : i < h.length) → h[i] = w[i]) → F4 us h w l = (us, l)
 | [], h, w, l, _ => by simp [F4]
 | u :: us, [], w, l, _ => by simp [F4]
 | u :: us, a :: h, [], l, _ => by simp [F4]
 | u :: us, a :: h, b :: w, l, hs => by
  have h0 : a = b := hs 0 (by simp) (by simp)
  rw [F4, if_pos (by rw [h0]; exact A37 b), A9F us h w l (fun i hi hh => hs (i + 1) (by simpa using hi) (by simpa using hh))]
theorem B4P {cx : Cx} {k : Int} {nm : ByteArray} {ty : Ty} (hcx : ∀ x u, N2 cx x = some u → L6 u = 0) (hty : k = 5 → L6 ty = 0) : ∀ x u, N2 (J2 cx k nm ty) x = some u → L6 u = 0 := by
 intro x u hu
 unfold J2 at hu
 split at hu
 ·rw [A1c] at hu
  split at hu
  ·cases hu; exact hty (by assumption)
  ·exact hcx x u hu
 ·exact hcx x u hu
abbrev NoC (u : Tm) : Prop := U8 (fun _ => False) u
theorem B4Q (ks : List Tm) (ih : ∀ t ∈ ks, ∀ (d : Int) (cx : Cx) (l : Int) (u : Tm) (a : Ty) (l' : Int), N5 12 14 t d = true → V0 cx → (∀ x u, N2 cx x = some u → L6 u = 0) → (∀ u ∈ K9 t, L6 u = 0) → M8 cx t l = some (u, a, l') → NoC u ∧ L6 a = 0) :
  ∀ (d : Int) (cx : Cx) (l : Int) (us : List Tm) (h : List Ty) (l' : Int), N6 12 14 ks d = true → V0 cx → (∀ x u, N2 cx x = some u → L6 u = 0) → (∀ u ∈ I1 ks, L6 u = 0) → M2 cx ks l = some (us, h, l') → (∀ u ∈ us, NoC u) ∧ (∀ a ∈ h, L6 a = 0) := by
 induction ks with
 | nil => intro d cx l us h l' _ _ _ _ he; rw [M2] at he; cases he; exact ⟨by simp, by simp⟩
 | cons t ts ihl =>
  intro d cx l us h l' hs hv hcx hts he
  rw [N6, Bool.and_eq_true] at hs
  rw [I1] at hts
  rw [M2] at he
  split at he
  ·cases he
  ·rename_i u a l1 h1
   split at he
   ·cases he
   ·rename_i us' h' l2 h2
    cases he
    obtain ⟨a1, a2⟩ := ih t List.mem_cons_self d cx l u a l1 hs.1 hv hcx (fun u hu => hts u (List.mem_append_left _ hu)) h1
    obtain ⟨b1, b2⟩ := ihl (fun x hx => ih x (List.mem_cons_of_mem _ hx)) d cx l1 us' h' _ hs.2 hv hcx (fun u hu => hts u (List.mem_append_right _ hu)) h2
    exact ⟨fun x hx => by rcases List.mem_cons.1 hx with e | e; rw [e]; exact a1; exact b1 x e, fun x hx => by rcases List.mem_cons.1 hx with e | e; rw [e]; exact a2; exact b2 x e⟩
theorem B4R : ∀ (t : Tm) (d : Int) (cx : Cx) (l : Int) (u : Tm) (a : Ty) (l' : Int), N5 12 14 t d = true → V0 cx → (∀ x u, N2 cx x = some u → L6 u = 0) → (∀ u ∈ K9 t, L6 u = 0) → M8 cx t l = some (u, a, l') → NoC u ∧ L6 a = 0 := by
 refine Tm.ind fun k nm num ty fr lb ks ih d cx l u a l' hs hv hcx hts he => ?_
 obtain ⟨n1, n2, n3, n4, n5, n6, n7, n8, n9⟩ := B35 hs
 rw [K9] at hts
 have hty : k = 5 ∨ k = 13 → L6 ty = 0 := fun hk => hts ty (by rw [if_pos hk]; simp)
 have hcv : V0 (J2 cx k nm ty) := A2G hv fun hk => n5 (.inl hk)
 rw [M8] at he
 split at he
 ·cases he
 ·rename_i us h l1 hL
  obtain ⟨e1, e2, e3, e4⟩ := (A5E ks (fun t _ d cx l => A2b t d cx l) (d + 1) (J2 cx k nm ty) l n9 hcv).1 us h l1 hL
  obtain ⟨g1, g2⟩ := B4Q ks ih (d + 1) (J2 cx k nm ty) l us h l1 n9 hcv (B4P hcx fun hk => hty (.inl hk)) (fun u hu => hts u (List.mem_append_right _ hu)) hL
  obtain ⟨w, hw, _, hu⟩ := B34 he
  obtain ⟨w1, w2⟩ := B4O hcx g2 hty hw
  have hwt := A51 e2 (fun hk => n5 (.inr hk)) (by rw [e3]; exact n1) n2 hw
  have hsm : F4 us h w l1 = (us, l1) := A9F us h w l1 fun i hi hh => A6h _ _ (hwt.ok i hi hh).1 (g2 _ (List.getElem_mem hh)) (w1 _ (List.getElem_mem hi))
  refine ⟨?_, w2⟩
  rw [hu, hsm]
  split
  ·show NoC (us.getD 0 J6)
   rw [List.getD_eq_getElem?_getD]
   cases hx : us[0]? with
   | none => exact Z7.2 ⟨fun e => absurd e (by decide), trivial⟩
   | some t => exact g1 t (List.mem_of_getElem? hx)
  ·exact Z7.2 ⟨fun e => absurd e n2, A1y.2 g1⟩
theorem B4S {e : Tm} (h : A1A e = true) (fuel : Int) : (A0E e fuel).2.1 ≠ 2 := by
 unfold A1A at h
 rw [Bool.and_eq_true, List.all_eq_true] at h
 cases hu : U3 e with
 | none => rw [A6b hu]; decide
 | some p =>
  obtain ⟨u, t⟩ := p
  obtain ⟨h1, h2, _⟩ := A54 hu
  have hn : NoC u := by
   unfold U3 at hu
   rw [if_pos h.1] at hu
   split at hu
   ·rename_i u' t' l' he
    cases hu
    exact (B4R e 1 [] 0 u t l' ((A04 e).1 h.1).1 A2F (fun x u hx => by simp [N2, U1] at hx) (fun u hu => of_decide_eq_true (h.2 u hu)) he).1
   ·cases hu
  by_cases hf : P8 fuel 0 300 = true
  ·have hg := A8N (fun _ => False) (fun _ h => h) fuel.toNat u t h1 h2 hn
   have he := B4N hf u
   by_cases h0 : (Q7 u fuel).2.1 = 0
   ·rw [A6c hu h0]; exact (by decide : (0 : Int) ≠ 2)
   ·rw [A4C hu h0, he]
    show (K7 fuel.toNat u).2.1 ≠ 2
    rcases hg with ⟨g, _⟩ | ⟨_, g⟩ | ⟨g, _⟩ | ⟨g, _⟩
    ·omega
    ·exact g.elim
    ·omega
    ·omega
  ·have he : Q7 u fuel = P5 := by
    unfold Q7
    rw [if_neg (fun hc => hf (A18.2 hc))]
   rw [A4C hu (by rw [he]; decide), he]; decide
def B5g (G : IM) : IM → Value → List A6 → Prop := L8 fun G' v => ∃ a ca b cb f, v = .tuple ⟨[.agg ⟨ca⟩, .agg ⟨cb⟩, .int .i64 f]⟩ ∧ B0 G' a ca ∧ a.fit 1100 ∧ B0 G' b cb ∧ b.fit 1100 ∧ E6 f
def B5h (G : IM) : IM → Value → List A6 → Prop := L8 fun G' v => ∃ a ca b cb d cd, v = .tuple ⟨[.agg ⟨ca⟩, .agg ⟨cb⟩, .agg ⟨cd⟩]⟩ ∧ B0 G' a ca ∧ a.fit 1100 ∧ B0 G' b cb ∧ b.fit 1100 ∧ B0 G' d cd ∧ d.fit 1100
def B4T (N : Nat) (G : IM) : IM → Value → List A6 → Prop := L8 fun G' v => ∃ a ca f, v = .tuple ⟨[.agg ⟨ca⟩, .int .i64 f]⟩ ∧ B0 G' a ca ∧ a.fit N ∧ E6 f
theorem B4U (G : IM) (q : Option Addr) (n c : Nat) (bs : List UInt8) (hb : Sl G q n c 1 (O0 bs)) : Fn Tryz.prog 16 [.slice q n c] [] G (B4T 1100 G) := by
 refine C0 Tryz.func16 rfl Tryz.ntmps16 Tryz.results16 rfl ?_
 intro w0
 refine tS (tR ?_)
 refine sE (A7 rfl) rfl (fun b3 => ?_)
 refine sQ (qA rfl) rfl (sD (nS (tS (tR (sQ (qM rfl) rfl ?_)))))
 (refine I8 rfl (B1r G q n c bs hb) (List.Perm.refl _) rfl rfl (fun v G1 outs hle1 hh => ?_); obtain ⟨rfl, br, pb, nb, cb, bs', rfl, rfl, hnb, hb'⟩ := hh)
 refine sQ (qA rfl) rfl (sD (nS (tS (tR (sQ (qM rfl) rfl (sQ (qM rfl) rfl ?_))))))
 (have hcall := B3V br pb nb cb bs' hnb 0 _ hb' (by omega); refine I8 rfl hcall (Pk.perm (by repeat (first | exact Pk.here | apply Pk.there))) rfl rfl (fun v Gn outs hle1 hh => ?_); obtain ⟨p1, hp11, hp12, rfl, e0, ce0, rfl, hr0, hf0⟩ := hh; replace hb' := hb'.mono hle1)
 (have hcall := B1A br pb nb cb bs' hnb p1 _ hb' (by omega) e0 ce0 1100 hf0 hr0; refine I8 rfl hcall (Pk.perm (by repeat (first | exact Pk.here | apply Pk.there))) rfl rfl (fun v Gn outs hle2 hh => ?_); obtain ⟨p2, hp21, hp22, rfl, e, ce, rfl, hre, hfe⟩ := hh; have hl1 := hre.len; have ho1 := hre.one; replace hb' := hb'.mono hle2)
 refine sE (A7 rfl) rfl (fun b20 => ?_)
 refine Y0 rfl rfl rfl hl1 ho1 rfl (by repeat first | exact Sw.here | apply Sw.there) (by exact D5 (by first | exact hl1.symm | omega)) ?_
 refine sD (nS (tS (tS (tR (sQ (qM rfl) rfl ?_)))))
 (refine I8 rfl (W5 _ br pb nb cb (p2) bs' 2 hb' hnb (by omega)) (Pk.perm (by repeat (first | exact Pk.here | apply Pk.there))) rfl rfl (fun v Gp outs hle28 hh => ?_); obtain ⟨rfl, rfl, j28, rfl, hj28, hk28⟩ := hh; skip)
 replace hre := hre.mono hle28
 replace hb' := hb'.mono hle28
 refine sB (qE rfl rfl) rfl rfl (fun h29 => ?_) (fun h29 => ?_)
 refine sD (nS (qT rfl (tR (sQ (qM rfl) rfl ?_))))
 refine sL (A5 rfl rfl (B2 (by repeat first | exact mH | apply mT)) hl1) rfl rfl ?_
 (have hcall := B3W br pb nb cb bs' hnb (p2 + 1) _ hb' (by omega) e ce 1100 hfe (by omega) hre; refine I8 rfl hcall (Pk.perm (by repeat (first | exact Pk.here | apply Pk.there))) rfl rfl (fun v Gn outs hle3 hh => ?_); obtain ⟨p3, hp31, hp32, rfl, b, cb1, rfl, hrb, hfb⟩ := hh; have hl2 := hrb.len; have ho2 := hrb.one; replace hb' := hb'.mono hle3)
 refine Y0 rfl rfl rfl hl2 ho2 rfl (by repeat first | exact Sw.here | apply Sw.there) (by exact D5 (by first | exact (hl2.trans hl1.symm).symm | omega)) ?_
 refine sD (nS (tS ?_))
 refine D4 D6 rfl ?_
 refine K2 (i := 0) (l' := [tt,ff,ff,ff,ff]) rfl C9 (A5 rfl rfl (B2 (by repeat first | exact mH | apply mT)) hl2) rfl (by kernel_rfl) rfl rfl ?_
 refine aP 1 rfl (qM rfl) rfl ?_
 refine A4 2 ?_
 (have hcall := A9d br pb nb cb bs' hnb p3 _ hb' (by omega); refine V7 (l' := [tt,tt,tt,ff,ff]) rfl rfl hcall (Pk.perm (by repeat (first | exact Pk.here | apply Pk.there))) rfl rfl rfl (by repeat (first | exact A8.nil | apply A8.dep (by decide +kernel) | apply A8.blk (by decide +kernel) (by repeat (first | exact Pk.here | apply Pk.there)) (by repeat first | exact mH | apply mT))) (fun v Gn outs hle5 hh => ?_); obtain ⟨p5, hp51, hp52, rfl, fl, rfl, hfl⟩ := hh; replace hrb := hrb.mono hle5)
 refine A4 3 ?_
 refine A23 rfl rfl rfl rfl hl2 ho2 rfl rfl (by repeat first | exact Sw.here | apply Sw.there) (by exact D5 hl2.symm) (by repeat (first | exact A8.nil | apply A8.dep (by decide +kernel) | apply A8.blk (by decide +kernel) (by repeat (first | exact Pk.here | apply Pk.there)) (by repeat first | exact mH | apply mT))) ?_
 refine aP 4 rfl (qA rfl) rfl ?_
 refine B5 (nS (tT ?_))
 refine H7 (rC rfl (A5 rfl rfl (B2 (by repeat first | exact mH | apply mT)) hl2)) (rT rfl) ?_
 (exact ⟨rfl, b, cb1, fl, rfl, hrb, hfb, hfl⟩)
 refine sD (nS (cF rfl (tK (nS (tS ?_)))))
 refine D4 D6 rfl ?_
 refine K2 (i := 0) (l' := [tt,ff,ff,ff,ff]) rfl C9 (A5 rfl rfl (B2 (by repeat first | exact mH | apply mT)) hl1) rfl (by kernel_rfl) rfl rfl ?_
 refine aP 1 rfl (qM rfl) rfl ?_
 refine A4 2 ?_
 (have hcall := A9d br pb nb cb bs' hnb (p2 + 1) _ hb' (by omega); refine V7 (l' := [tt,tt,tt,ff,ff]) rfl rfl hcall (Pk.perm (by repeat (first | exact Pk.here | apply Pk.there))) rfl rfl rfl (by repeat (first | exact A8.nil | apply A8.dep (by decide +kernel) | apply A8.blk (by decide +kernel) (by repeat (first | exact Pk.here | apply Pk.there)) (by repeat first | exact mH | apply mT))) (fun v Gn outs hle5 hh => ?_); obtain ⟨p5, hp51, hp52, rfl, fl, rfl, hfl⟩ := hh; replace hre := hre.mono hle5)
 refine A4 3 ?_
 refine A23 rfl rfl rfl rfl hl1 ho1 rfl rfl (by repeat first | exact Sw.here | apply Sw.there) (by exact D5 hl1.symm) (by repeat (first | exact A8.nil | apply A8.dep (by decide +kernel) | apply A8.blk (by decide +kernel) (by repeat (first | exact Pk.here | apply Pk.there)) (by repeat first | exact mH | apply mT))) ?_
 refine aP 4 rfl (qA rfl) rfl ?_
 refine B5 (nS (tT ?_))
 refine H7 (rC rfl (A5 rfl rfl (B2 (by repeat first | exact mH | apply mT)) hl1)) (rT rfl) ?_
 (exact ⟨rfl, e, ce, fl, rfl, hre, hfe, hfl⟩)
theorem B4V (bs : List UInt8) (G : IM) (p : Option Addr) (n c : Nat) (hT : A00 G) (hb : Sl G p n c 1 (O0 bs)) : Fn Tryz.prog 4 [.slice p n c] [] G (L8 fun _ v => v = .bool true) := by
 have hn := hb.le
 refine C0 Tryz.func4 rfl Tryz.ntmps4 Tryz.results4 rfl ?_
 intro w0
 refine tS (tR (sQ (qA rfl) rfl (sD (nS (tS (tS (tR (sQ (qM rfl) rfl (sQ (H8 rfl rfl) rfl ?_)))))))))
 refine sB (X4 rfl rfl) rfl rfl (fun h11 => ?_) (fun h11 => ?_)
 refine sD (nS (qT rfl (tS (tR (sQ (qA rfl) rfl (sD (nS (tT (rS (A9 (rT rfl) ?_))))))))))
 (exact ⟨rfl, rfl⟩)
 refine sD (nS (cF rfl (tK (nS (tS (tR (sQ (qM rfl) rfl ?_)))))))
 (refine E5 rfl (B4U G _ _ _ bs hb) rfl rfl (fun v G1 hle1 hh => ?_); obtain ⟨a, ca, fl, rfl, hra, hfa, hfl⟩ := hh; replace hT := hT.mono hle1; have hca := hfa.2; have hla := hra.len; have hoa := hra.one; have hA := B4l a fl G1 ca hT hra; have hS := B4L a fl; have hk := fun h => @B4S a h fl; obtain ⟨⟨s1, c1, l1⟩, hr1⟩ : ∃ r, A0E a fl = r := ⟨_, rfl⟩; rw [hr1] at hA hk hS; replace hk : A1A a = true → c1 ≠ 2 := hk)
 refine sQ (qM rfl) rfl (sQ (pX rfl rfl) rfl (sQ (pX rfl rfl) rfl ?_))
 refine sE (A7 rfl) rfl (fun b36 => ?_)
 refine sS rfl rfl rfl hla hoa rfl ?_ (hu := by exact D5 hla.symm)
 refine sQ (qA rfl) rfl (sD (nS (tS (tR ?_))))
 refine sL (A5 rfl rfl (B2 (by repeat first | exact mH | apply mT)) hla) rfl rfl ?_
 refine sQ (qM rfl) rfl ?_
 (refine E5 rfl hA rfl rfl (fun v2 G2 hle2 hh => ?_); replace hh : v2 = .tuple ⟨[.string s1, .int .i64 c1, .int .i64 l1]⟩ := hh; subst hh; replace hra := hra.mono hle2; have hS2 := hS G2 ca (by omega) hra)
 refine A0l ?_
 refine sL (A5 rfl rfl (B2 (by repeat first | exact mH | apply mT)) hla) rfl rfl ?_
 refine sQ (qM rfl) rfl ?_
 (refine E5 rfl hS2 rfl rfl (fun v3 G3 hle3 hh => ?_); replace hh : v3 = .tuple ⟨[.string s1, .int .i64 c1, .int .i64 l1]⟩ := hh; subst hh; replace hra := hra.mono hle3; have hC := B31 a G3 ca hra)
 refine R2 ?_
 refine sB (A1C rfl rfl) rfl rfl (fun h74 => ?_) (fun h74 => ?_)
 refine A4V ?_
 refine sB (A0J rfl rfl) rfl rfl (fun h97 => ?_) (fun h97 => ?_)
 refine sQ (qM rfl) rfl (sQ (qM rfl) rfl (sQ (qM rfl) rfl ?_))
 refine sP (V5 rfl rfl (by omega)) rfl rfl ?_
 refine sQ (C2 rfl rfl) rfl (sQ (qM rfl) rfl (sQ (qM rfl) rfl (sQ (qM rfl) rfl ?_)))
 refine sP (V5 rfl rfl (by omega)) rfl rfl ?_
 refine sQ (C2 rfl rfl) rfl (sQ (qA rfl) rfl (sD (nS (tT (rS (A9 (rT rfl) ?_))))))
 (exact ⟨rfl, rfl⟩)
 refine O9 ?_
 (exfalso; first | omega | contradiction | simp_all)
 refine sQ (qM rfl) rfl (sQ (qM rfl) rfl (sQ (qM rfl) rfl ?_))
 refine sP (A1U rfl rfl (by omega)) rfl rfl ?_
 refine sQ (D7 rfl rfl) rfl (sQ (qM rfl) rfl (sQ (qM rfl) rfl (sQ (qM rfl) rfl ?_)))
 refine sP (A1U rfl rfl (by omega)) rfl rfl ?_
 refine sQ (D7 rfl rfl) rfl (sQ (qM rfl) rfl ?_)
 refine sL (A5 rfl rfl (B2 (by repeat first | exact mH | apply mT)) hla) rfl rfl ?_
 (refine E5 rfl hC rfl rfl (fun v4 G4 hle4 hh => ?_); subst hh; generalize A1A a = bx at *; cases bx)
 refine sQ (N8 rfl) rfl (sQ (D7 rfl rfl) rfl (sD (nS (qT rfl (tS (tR (sQ (qM rfl) rfl (sQ (qM rfl) rfl ?_))))))))
 refine sB (A0J rfl rfl) rfl rfl (fun h154 => ?_) (fun h154 => ?_)
 refine sQ (qM rfl) rfl (sQ (qM rfl) rfl (sQ (qM rfl) rfl ?_))
 refine sP (V5 rfl rfl (by omega)) rfl rfl ?_
 refine sQ (C2 rfl rfl) rfl (sQ (qM rfl) rfl (sQ (qM rfl) rfl (sQ (qM rfl) rfl ?_)))
 refine sP (V5 rfl rfl (by omega)) rfl rfl ?_
 refine sQ (C2 rfl rfl) rfl (sQ (qA rfl) rfl (sD (nS (tT (rS (A9 (rT rfl) ?_))))))
 (exact ⟨rfl, rfl⟩)
 refine O9 ?_
 (exfalso; first | omega | contradiction | simp_all)
 refine sQ (K4 rfl) rfl (sQ (D7 rfl rfl) rfl (sD (nS (cF rfl (tK (nS (tS (tR (sQ (qM rfl) rfl ?_)))))))))
 refine sB (N9 rfl rfl) rfl rfl (fun h199 => ?_) (fun h199 => ?_)
 refine sQ (qA rfl) rfl (sD (nS (tT (A9 (rT rfl) ?_))))
 (exact ⟨rfl, rfl⟩)
 refine sQ (qA rfl) rfl (sD (nS (tT (A9 (rT rfl) ?_))))
 (exfalso; first | omega | contradiction | simp_all)
end Gw
end Go.Proofs.YthpdjmbpbdbodaaGreatDoor
