/-
  The reference's evaluator: ground types, values, casts, replacing a name. The reference's copies whose operands are replaced; l12Simple, SimplifyCasts of the reference. The number of casts: the reference's. SimplifyCasts, DynamicCasts, ForgetCast, RelabelCasts of the reference. ForgetCast, RelabelCasts of the reference; the draws. The draws of terms some of whose casts change nothing. TypeSame, TermSame: the same data is the same. Values of the stack machine: as trees, and as they lie in memory; what an instruction does, in plain words. The reference's decimal digits of a number. The text of a value: the program's. The reference's evaluator: steps of nodes whose operands are values. The reference's evaluator: a step, runs of steps, RunTerm.
-/
import Derived.Test.YtfpgncjeejickaaGreatDoorKb6
import Derived.Test.YtfpgncjeejickaaGreatDoorKb7
import Derived.Test.YtfpgncjeejickaaGreatDoorKb4
import Derived.Test.YtfpgncjeejickaaGreatDoorKb1
import Derived.Test.YtfpgncjeejickaaGreatDoorKb2
import Derived.Test.YtfpgncjeejickaaGreatDoorKb3
import Derived.Lib.ItoaNum
set_option linter.unusedVariables false
set_option linter.unusedSimpArgs false
set_option maxHeartbeats 0
set_option maxRecDepth 100000
set_option synthInstance.maxSize 4000
set_option synthInstance.maxHeartbeats 0
namespace Go.Proofs.YtfpgncjeejickaaGreatDoor
open Go Go.RowKit
namespace Gw
theorem B5c {t : Ty} (ha : D4 t) : U2 t = .mk t.k (List.replicate t.ks.length L9) := by
 obtain ⟨k, ks⟩ := t
 rw [D4] at ha
 show (if k = 4 ∨ k = 5 then Ty.mk k [L9, L9] else .mk k []) = _
 show _ = Ty.mk k (List.replicate ks.length L9)
 split
 ·rename_i h; rw [ha.1 h]; rfl
 ·rename_i h
  rw [ha.2.1 (fun e => h (.inl e)) (fun e => h (.inr e))]; rfl
theorem A6w (t : Ty) (G : IM) (cells : List Value) (ha : D4 t) (hr : B3 G t cells) : Fn Tryz.prog 217 [.agg ⟨cells⟩] [] G (A5I (U2 t) G) := by
 rw [B5c ha]
 obtain ⟨tk, tks⟩ := t
 have hsm := ha.small
 rw [Ty.small] at hsm
 obtain ⟨hsm1, _⟩ := hsm
 obtain ⟨p, c, es, rfl, hk, hsl, hkl⟩ := hr.open
 simp only [Ty.k, Ty.ks] at hk hsl hkl ⊢
 have hn := hsl.le
 refine B5 Tryz.func217 rfl Tryz.ntmps217 Tryz.results217 rfl ?_
 intro w0
 refine tS (tR ?_)
 refine sE (C0 rfl rfl) rfl (fun b3 => ?_)
 refine sE (A5 rfl) rfl (fun b4 => ?_)
 refine D0 ?_
 refine sE (A5 rfl) rfl (fun b12 => ?_)
 refine F8 ?_
 refine sD (nS (tS (tS (tR (sQ (qA rfl) rfl (sD (nS ?_)))))))
 refine B9 ?_
 (refine T9 25 2 ?_; refine K3 (fun (x : Nat × Option Addr × Nat × List (List Value)) => ⟨[(4, .int .i64 x.1), (3, .pointer (some ⟨b12, 0, none⟩)), (1, .pointer (some ⟨b3, 0, none⟩)), (2, .pointer (some ⟨b4, 0, none⟩))], [.blk b12 [.int .i64 tk, .slice x.2.1 x.1 x.2.2.1], .slc x.2.1 x.2.2.1 25 2 x.1 x.2.2.2.flatten, .blk b4 [.int .i64 0, .slice none 0 0], .blk b3 [.int .i64 tk, .slice p tks.length c]], G⟩) (fun x => x.1 ≤ tks.length ∧ E3 G (List.replicate x.1 L9) x.2.2.2) (fun x => tks.length - x.1) (0, none, 0, []) ?_ ?_ ?_)
 (simp only [I5]; exact D5)
 (exact ⟨Nat.zero_le _, rfl⟩)
 (rintro ⟨i, pn, cn, es'⟩ ⟨hi, hst⟩; simp only [] at hi hst ⊢; have hsl' := hst.len; rw [List.length_replicate] at hsl')
 refine D0 ?_
 refine sB (K1 rfl rfl) rfl rfl (fun h34 => ?_) (fun h34 => ?_)
 refine sD (nS (qT rfl (tK (nS (tS ?_)))))
 refine B9 ?_
 refine C9 D1 rfl ?_
 refine H6 (i := 0) (l' := [tt,ff,ff,ff,ff,ff,ff]) rfl C4 (A9 rfl) rfl (by kernel_rfl) rfl rfl ?_
 refine aL 1 rfl (B7 rfl rfl) rfl ?_
 refine A1 2 ?_
 refine J0 rfl rfl ((A0x _)) rfl rfl rfl ?_
 refine A1 3 ?_
 (refine D9 rfl (C8 rfl rfl rfl (by omega) (by unfold maxLen; omega) rfl) rfl rfl ?_; rintro _ ⟨b48, rfl⟩)
 refine A1 4 ?_
 refine T5 rfl rfl rfl rfl rfl rfl (fun _ _ => by repeat (first | exact Sw.here | apply Sw.there)) (P9 (by repeat first | exact mH | apply mT)) rfl (by simp [Value.oneCell']) (by unfold maxLen; omega) (by omega) rfl rfl (by repeat (first | exact A8.nil | apply A8.dep (by decide +kernel) | apply A8.im (by decide +kernel) (by assumption) (by repeat first | exact mH | apply mT) | apply A8.blk (by decide +kernel) (by repeat (first | exact Pk.here | apply Pk.there)) (by repeat first | exact mH | apply mT) | apply A8.slc (by decide +kernel) (by repeat (first | exact Pk.here | apply Pk.there)) (by repeat first | exact mH | apply mT))) (fun pn' cn' => ?_)
 refine aP 5 rfl (A9 rfl) rfl ?_
 refine A1 6 ?_
 refine N4 rfl rfl rfl rfl rfl rfl rfl rfl (by decide +kernel) (by repeat first | exact Sw.here | apply Sw.there) (by rfl) ?_
 refine B8 (M8 (nS (tR (sQ (qM rfl) rfl ?_))))
 refine sP (J6 rfl rfl (by omega) (by omega)) rfl rfl ?_
 refine sQ (qA rfl) rfl (sD ?_)
 refine K0 (i + 1, pn', cn', es' ++ [[.int .i64 1, .slice none 0 0]]) ?_ ?_ ?_
 (simp only [I5]; exact D5)
 (dsimp only; exact ⟨by omega, by rw [List.replicate_succ']; exact E3.snoc hst (A0y _)⟩)
 (show tks.length - (i + 1) < tks.length - i; omega)
 refine L1 ?_
 (refine H7 (cs := es'.flatten) (by repeat (first | exact Pk.here | apply Pk.there)) (fun G2 hle2 hsl2 hno2 => ?_); obtain rfl : i = tks.length := (by omega))
 refine tT ?_
 refine E2 (rC rfl (A3 rfl rfl)) ?_
 (exact ⟨rfl, _, rfl, (hst.mono hle2).ty (by simp) hsl2 hk⟩)
theorem A9Z (t : Ty) (G : IM) (cells : List Value) (ha : D4 t) (hr : B3 G t cells) : Fn Tryz.prog 168 [.agg ⟨cells⟩] [] G (I0 (.bool (T8 t)) G) := by
 refine Fn.forget (post := K4 fun _ v => v = .bool (T8 t)) ?_ (fun _ _ _ h => h.2)
 have hr0 := hr
 have hG := A6w t G cells ha hr
 obtain ⟨tk, tks⟩ := t
 obtain ⟨p, c, es, rfl, hk, _⟩ := hr.open
 simp only [Ty.k, Ty.ks] at hk hr0 hG ⊢
 have hd : T8 (.mk tk tks) = (decide (tk ≠ 1) && K9 (.mk tk tks) (U2 (.mk tk tks))) := rfl
 rw [hd]
 generalize U2 (.mk tk tks) = g at hG ⊢
 refine B5 Tryz.func168 rfl Tryz.ntmps168 Tryz.results168 rfl ?_
 intro w0
 refine tS (tR ?_)
 refine sE (C0 rfl rfl) rfl (fun b3 => ?_)
 refine sQ (qA rfl) rfl (sD (nS (tS ?_)))
 refine C9 D1 rfl ?_
 refine H6 (i := 0) (l' := [tt,ff,ff,ff,ff,ff,ff,ff,ff,ff]) rfl C4 (A9 rfl) rfl (by kernel_rfl) rfl rfl ?_
 refine aL 1 rfl (B7 rfl rfl) rfl ?_
 refine A0A (i := 2) (l' := [tt,tt,tt,ff,ff,ff,ff,ff,ff,ff]) rfl C4 (O5 rfl rfl) rfl (by kernel_rfl) rfl rfl (fun h11 => ?_) (fun h11 => ?_)
 refine aP 3 rfl (qM rfl) rfl ?_
 refine aL 4 rfl (A3 rfl rfl) rfl ?_
 refine aL 5 rfl (A3 rfl rfl) rfl ?_
 refine A1 6 ?_
 (refine E1 rfl rfl hG rfl rfl rfl (fun v G1 hle1 hh => ?_); obtain ⟨cg, rfl, hrg⟩ := hh; have hT := A2s (.mk tk tks) g G1 _ _ (hr0.mono hle1) hrg; obtain ⟨pg, cgg, eg, rfl, _⟩ := hrg.open)
 refine A1 7 ?_
 refine J0 rfl rfl (hT) rfl rfl rfl ?_
 refine aP 8 rfl (H9 rfl rfl) rfl ?_
 refine aP 9 rfl (qA rfl) rfl ?_
 refine B8 (nS (tT (E2 (rT rfl) ?_)))
 (refine ⟨rfl, ?_⟩; show Value.bool _ = Value.bool _; rw [decide_eq_true (by omega), Bool.true_and])
 refine aP 3 rfl (qM rfl) rfl ?_
 refine B2 4 rfl rfl rfl ?_
 refine B2 5 rfl rfl rfl ?_
 refine B2 6 rfl rfl rfl ?_
 refine B2 7 rfl rfl rfl ?_
 refine aP 8 rfl (M0 rfl rfl) rfl ?_
 refine aP 9 rfl (qA rfl) rfl ?_
 refine B8 (nS (tT (E2 (rT rfl) ?_)))
 (refine ⟨rfl, ?_⟩; show Value.bool _ = Value.bool _; rw [decide_eq_false (by omega), Bool.false_and])
theorem A6x (t : Tm) (G : IM) (cells : List Value) (hr : A7 G t cells) : Fn Tryz.prog 121 [.agg ⟨cells⟩] [] G (I0 (.bool (Q7 t)) G) := by
 obtain ⟨k, nm, num, ⟨tk, tks⟩, ⟨fk, fks⟩, lb, ks⟩ := t
 obtain ⟨pt, ct, pf, cf, p, c, es, rfl, hk, hnum, hlb, hty, hfr, hsl, hkl⟩ := hr.open9
 have hd : Q7 (.mk k nm num (.mk tk tks) (.mk fk fks) lb ks) = decide (k = 14 ∧ fk = tk ∧ (tk = 4 ∨ tk = 5)) := rfl
 rw [hd]
 refine B5 Tryz.func121 rfl Tryz.ntmps121 Tryz.results121 rfl ?_
 intro w0
 refine tS (tR ?_)
 refine sE (C0 rfl rfl) rfl (fun b3 => ?_)
 refine D0 ?_
 refine sB (qE rfl rfl) rfl rfl (fun h11 => ?_) (fun h11 => ?_)
 refine D0 ?_
 refine sB (qE rfl rfl) rfl rfl (fun h19 => ?_) (fun h19 => ?_)
 refine P6 ?_
 refine sB (qE rfl rfl) rfl rfl (fun h25 => ?_) (fun h25 => ?_)
 refine M9 ?_
 (exact ⟨rfl, by rw [decide_eq_true (by omega)], rfl⟩)
 refine I8 ?_
 refine sB (qE rfl rfl) rfl rfl (fun h43 => ?_) (fun h43 => ?_)
 refine D0 ?_
 (exact ⟨rfl, by rw [decide_eq_true (by omega)], rfl⟩)
 refine D0 ?_
 (exact ⟨rfl, by rw [decide_eq_false (by omega)], rfl⟩)
 refine T4 ?_
 (exact ⟨rfl, by rw [decide_eq_false (by omega)], rfl⟩)
 refine A2B ?_
 (exact ⟨rfl, by rw [decide_eq_false (by omega)], rfl⟩)
theorem A90 (t : Tm) (G : IM) (cells : List Value) (ha : D4 t.fr) (hr : A7 G t cells) : Fn Tryz.prog 122 [.agg ⟨cells⟩] [] G (I0 (.bool (inj t)) G) := by
 obtain ⟨k, nm, num, ⟨tk, tks⟩, ⟨fk, fks⟩, lb, ks⟩ := t
 obtain ⟨pt, ct, pf, cf, p, c, es, rfl, hk, hnum, hlb, hty, hfr, hsl, hkl⟩ := hr.open9
 have hd : inj (.mk k nm num (.mk tk tks) (.mk fk fks) lb ks) = (decide (k = 14 ∧ tk = 1) && T8 (.mk fk fks)) := rfl
 rw [hd]
 have hG := A9Z (.mk fk fks) G _ ha hfr
 refine B5 Tryz.func122 rfl Tryz.ntmps122 Tryz.results122 rfl ?_
 intro w0
 refine tS (tR ?_)
 refine sE (C0 rfl rfl) rfl (fun b3 => ?_)
 refine D0 ?_
 refine sB (qE rfl rfl) rfl rfl (fun h11 => ?_) (fun h11 => ?_)
 refine I8 ?_
 refine sB (qE rfl rfl) rfl rfl (fun h16 => ?_) (fun h16 => ?_)
 refine I8 ?_
 refine E8 rfl (hG) rfl rfl ?_
 refine I1 ?_
 (exact ⟨rfl, by rw [decide_eq_true (by omega), Bool.true_and], rfl⟩)
 refine J7 ?_
 (exact ⟨rfl, by rw [decide_eq_false (by omega), Bool.false_and], rfl⟩)
 refine K5 ?_
 (exact ⟨rfl, by rw [decide_eq_false (by omega), Bool.false_and], rfl⟩)
section
variable {k : Int} {nm : ByteArray} {num : Int} {ty fr : Ty} {lb : Int} {ks : List Tm}
theorem B5d (h : k = 2 ∨ k = 3 ∨ k = 4 ∨ k = 5) : E7 (.mk k nm num ty fr lb ks) = true := by
 rw [E7, if_neg (by omega)]; exact decide_eq_true h
theorem B5e (h : k = 10) (hl : ks.length = 2) : E7 (.mk k nm num ty fr lb ks) = (E7 (ks[0]'(by omega)) && E7 (ks[1]'(by omega))) := by
 rw [A3y (.inl h)]
 obtain ⟨a, b, rfl⟩ := ks2 hl
 simp
theorem B5f (h : Q7 (.mk k nm num ty fr lb ks) = true ∨ inj (.mk k nm num ty fr lb ks) = true) (hl : ks.length = 1) : E7 (.mk k nm num ty fr lb ks) = E7 (ks[0]'(by omega)) := by
 rw [A3y (.inr h)]
 obtain ⟨a, rfl⟩ := ks1 hl
 simp
theorem B5g (h : ¬(k = 2 ∨ k = 3 ∨ k = 4 ∨ k = 5)) (h10 : k ≠ 10) (h2 : Q7 (.mk k nm num ty fr lb ks) = false) (h3 : inj (.mk k nm num ty fr lb ks) = false) : E7 (.mk k nm num ty fr lb ks) = false := by
 rw [A5L h10 h2 h3]; exact decide_eq_false h
theorem B5h (h : Q7 (.mk k nm num ty fr lb ks) = true ∨ inj (.mk k nm num ty fr lb ks) = true) : k = 14 := by
 rcases h with h | h
 ·exact (prx_spec' h)
 ·exact A53 h
where
 prx_spec' {k : Int} {nm : ByteArray} {num : Int} {ty fr : Ty} {lb : Int} {ks : List Tm} (h : Q7 (.mk k nm num ty fr lb ks) = true) : k = 14 := by rw [A1C] at h; exact (of_decide_eq_true h).1
end
theorem A4N : ∀ (t : Tm) (G : IM) (cells : List Value), cv t → A7 G t cells → Fn Tryz.prog 52 [.agg ⟨cells⟩] [] G (I0 (.bool (E7 t)) G) := by
 refine Tm.ind fun k nm num ty fr lb ks ih G cells hc hr => ?_
 obtain ⟨hN, hkk⟩ := hc.node
 have hop := hN.ops
 have h10 : k = 10 → ks.length = 2 := fun h => by rw [h] at hop; have : E0 10 = 2 := rfl; omega
 have h14 : k = 14 → ks.length = 1 := fun h => by rw [h] at hop; have : E0 14 = 1 := rfl; omega
 have hP := A6x _ G _ hr
 have hI := A90 (.mk k nm num ty fr lb ks) G _ hN.frA hr
 have e1 := @B5d k nm num ty fr lb ks
 have e2 := @B5e k nm num ty fr lb ks
 have e3 := @B5f k nm num ty fr lb ks
 have e4 := @B5g k nm num ty fr lb ks
 have e5 := @B5h k nm num ty fr lb ks
 generalize hpx : Q7 (.mk k nm num ty fr lb ks) = bp at hP e3 e4 e5
 generalize hij : inj (.mk k nm num ty fr lb ks) = bi at hI e3 e4 e5
 generalize E7 (.mk k nm num ty fr lb ks) = R at e1 e2 e3 e4 ⊢
 obtain ⟨tk, tks⟩ := ty
 obtain ⟨fk, fks⟩ := fr
 obtain ⟨pt, ct, pf, cf, p, c, es, rfl, hk, hnum, hlb, hty, hfr, hsl, hkl⟩ := hr.open9
 refine B5 Tryz.func52 rfl Tryz.ntmps52 Tryz.results52 rfl ?_
 intro w0
 refine tS (tR ?_)
 refine sE (C0 rfl rfl) rfl (fun b3 => ?_)
 refine H8 ?_
 refine B9 (tS (tS (tR (sB (qE rfl rfl) rfl rfl (fun h18 => ?_) (fun h18 => ?_)))))
 refine K5 ?_
 (exact ⟨rfl, by rw [e1 (by omega)], rfl⟩)
 refine sQ (qA rfl) rfl (sD (nS (cF rfl (tS (tR ?_)))))
 refine sB (qE rfl rfl) rfl rfl (fun h42 => ?_) (fun h42 => ?_)
 refine K5 ?_
 (exact ⟨rfl, by rw [e1 (by omega)], rfl⟩)
 refine sQ (qA rfl) rfl (sD (nS (cF rfl (tS (tR ?_)))))
 refine sB (qE rfl rfl) rfl rfl (fun h66 => ?_) (fun h66 => ?_)
 refine K5 ?_
 (exact ⟨rfl, by rw [e1 (by omega)], rfl⟩)
 refine sQ (qA rfl) rfl (sD (nS (cF rfl (tR ?_))))
 refine sB (qE rfl rfl) rfl rfl (fun h89 => ?_) (fun h89 => ?_)
 refine J4 ?_
 (exact ⟨rfl, by rw [e1 (by omega)], rfl⟩)
 refine sQ (qA rfl) rfl (sD (nS (cF rfl (tS (tR ?_)))))
 refine sB (qE rfl rfl) rfl rfl (fun h110 => ?_) (fun h110 => ?_)
 refine D8 ?_
 (have hl2 := h10 (by omega); obtain ⟨bx, ox, e, rfl, hl, hat, hre, hgb⟩ := hsl.kidTm hkl (i := 0) (by omega) (by omega); have hih := ih ks[0] (List.getElem_mem (by omega)) G e (hkk _ (List.getElem_mem (by omega))) hre; obtain ⟨_, _, e', hp', hl', hat', hre', hgb'⟩ := hsl.kidTm hkl (i := 1) (by omega) (by omega); cases hp'; have hih' := ih ks[1] (List.getElem_mem (by omega)) G e' (hkk _ (List.getElem_mem (by omega))) hre'; refine sP (B0 (j := 0) rfl rfl rfl (by omega)) rfl rfl ?_)
 refine sL (A2 rfl rfl (hat _) hl) rfl rfl ?_
 refine F9 rfl (hih) rfl rfl (fun h121 => ?_) (fun h121 => ?_)
 refine I6 ?_
 refine sP (B0 (j := 1) rfl rfl rfl (by omega)) rfl rfl ?_
 refine sL (A2 rfl rfl (hat' _) hl') rfl rfl ?_
 refine F9 rfl (hih') rfl rfl (fun h127 => ?_) (fun h127 => ?_)
 refine D8 ?_
 (exact ⟨rfl, by rw [e2 (by omega) hl2]; simp [*], rfl⟩)
 refine D8 ?_
 (exact ⟨rfl, by rw [e2 (by omega) hl2]; simp [*], rfl⟩)
 refine L1 ?_
 (exact ⟨rfl, by rw [e2 (by omega) hl2]; simp [*], rfl⟩)
 refine H8 ?_
 refine F9 rfl (hP) rfl rfl (fun h171 => ?_) (fun h171 => ?_)
 refine D0 ?_
 (have hl1 := h14 (by first | exact e5 (.inl (by assumption)) | exact e5 (.inr (by assumption))); obtain ⟨bx, ox, e, rfl, hl, hat, hre, hgb⟩ := hsl.kidTm hkl (i := 0) (by omega) (by omega); have hih := ih ks[0] (List.getElem_mem (by omega)) G e (hkk _ (List.getElem_mem (by omega))) hre; refine sP (B0 (j := 0) rfl rfl rfl (by omega)) rfl rfl ?_)
 refine sL (A2 rfl rfl (hat _) hl) rfl rfl ?_
 refine F9 rfl (hih) rfl rfl (fun h181 => ?_) (fun h181 => ?_)
 refine I1 ?_
 (exact ⟨rfl, by rw [e3 (by first | exact .inl (by assumption) | exact .inr (by assumption)) hl1]; simp [*], rfl⟩)
 refine I1 ?_
 (exact ⟨rfl, by rw [e3 (by first | exact .inl (by assumption) | exact .inr (by assumption)) hl1]; simp [*], rfl⟩)
 refine sQ (qM rfl) rfl (sL (A3 rfl rfl) rfl rfl ?_)
 refine F9 rfl (hI) rfl rfl (fun h198 => ?_) (fun h198 => ?_)
 refine I8 ?_
 (have hl1 := h14 (by first | exact e5 (.inl (by assumption)) | exact e5 (.inr (by assumption))); obtain ⟨bx, ox, e, rfl, hl, hat, hre, hgb⟩ := hsl.kidTm hkl (i := 0) (by omega) (by omega); have hih := ih ks[0] (List.getElem_mem (by omega)) G e (hkk _ (List.getElem_mem (by omega))) hre; refine sP (B0 (j := 0) rfl rfl rfl (by omega)) rfl rfl ?_)
 refine sL (A2 rfl rfl (hat _) hl) rfl rfl ?_
 refine F9 rfl (hih) rfl rfl (fun h205 => ?_) (fun h205 => ?_)
 refine I1 ?_
 (exact ⟨rfl, by rw [e3 (by first | exact .inl (by assumption) | exact .inr (by assumption)) hl1]; simp [*], rfl⟩)
 refine I1 ?_
 (exact ⟨rfl, by rw [e3 (by first | exact .inl (by assumption) | exact .inr (by assumption)) hl1]; simp [*], rfl⟩)
 refine J4 ?_
 (exact ⟨rfl, by rw [e4 (by omega) (by omega) (by assumption) (by assumption)], rfl⟩)
theorem X9 (e : Tm) (a b : Ty) (l : Int) (G : IM) (ce ca cb : List Value) (hl : F4 l) (he : A7 G e ce) (ha : B3 G a ca) (hb : B3 G b cb) (hsa : a.small) (hsb : b.small) : Fn Tryz.prog 93 [.agg ⟨ce⟩, .agg ⟨ca⟩, .agg ⟨cb⟩, .int .i64 l] [] G (R4 (K8 e a b l)) := by
 have hel := he.len
 have heo := he.one
 obtain ⟨v1, v2, v3, v4, v5, v6, v7, v8, v9, rfl⟩ := nine hel
 obtain ⟨ak, aks⟩ := a
 obtain ⟨bk, bks⟩ := b
 obtain ⟨pa, cca, ea, rfl, _⟩ := ha.open
 obtain ⟨pb, ccb, eb, rfl, _⟩ := hb.open
 refine B5 Tryz.func93 rfl Tryz.ntmps93 Tryz.results93 rfl ?_
 intro w0
 refine tS (tR ?_)
 refine sE (C0 rfl rfl) rfl (fun b3 => ?_)
 refine sE (C0 rfl rfl) rfl (fun b4 => ?_)
 refine sE (C0 rfl rfl) rfl (fun b5 => ?_)
 refine sE (A5 rfl) rfl (fun b6 => ?_)
 refine sD (nS (tS ?_))
 refine C9 D1 rfl ?_
 refine L0 (i := 0) (l' := [tt,ff,ff,ff,ff,ff,ff,ff,ff]) rfl C4 (A3 rfl rfl) rfl (by kernel_rfl) rfl rfl ?_
 refine aL 2 rfl (A3 rfl rfl) rfl ?_
 refine aP 4 rfl (qM rfl) rfl ?_
 refine aL 5 rfl (A3 rfl rfl) rfl ?_
 refine P5 (j := 1) (j' := 6) (by kernel_rfl) ?_ ?_
 (refine E1 rfl rfl (O6 (.mk ak aks) _ _ hsa ha) rfl rfl rfl (fun v G1 hle1 hh => ?_); obtain ⟨N6, F1, rfl, hs1, hn1⟩ := hh; obtain ⟨p1, c1, rfl, _⟩ := hs1.open; have hC2 := O6 _ G1 _ hsb (hb.mono hle1))
 refine P5 (j := 3) (j' := 6) (by kernel_rfl) ?_ ?_
 (refine E1 rfl rfl hC2 rfl rfl rfl (fun v G2 hle2 hh => ?_); obtain ⟨cs2, F2, rfl, hs2, hn2⟩ := hh; obtain ⟨p2, c2, rfl, _⟩ := hs2.open; have hr1 := hs1.R.mono ((C1.le G1 _).trans hle2); have hr2 := hs2.R.mono (C1.le G2 G1); have hre := he.mono (hle1.trans hle2))
 refine A1 6 ?_
 (refine D9 rfl (C8 rfl rfl rfl (by omega) (by unfold maxLen; omega) rfl) rfl rfl ?_; rintro _ ⟨b20, rfl⟩)
 refine aP 7 rfl (Q1 rfl rfl) rfl ?_
 refine A1 8 ?_
 refine F0 rfl ?_
 refine B8 (nS ?_)
 (refine H7 (cs := [v1, v2, v3, v4, v5, v6, v7, v8, v9]) (by repeat (first | exact Pk.here | apply Pk.there)) (fun G5 hle5 hsl5 hno5 => ?_); obtain ⟨hone1, hone2⟩ := A2j (hre.mono hle5) hsl5)
 refine tT ?_
 refine E2 (rC rfl (A3 rfl rfl)) ?_
 (exact R4.mk (A7.of9 (ks := [e]) ⟨by omega, by omega⟩ ⟨by omega, by omega⟩ hl (hr2.mono hle5) (hr1.mono hle5) hone1 hone2))
 (refine D9 rfl (C8 rfl rfl rfl (by omega) (by unfold maxLen; omega) rfl) rfl rfl ?_; rintro _ ⟨b30, rfl⟩)
 refine A1 3 ?_
 (refine E1 rfl rfl hC2 rfl rfl rfl (fun v G2 hle2 hh => ?_); obtain ⟨cs2, F2, rfl, hs2, hn2⟩ := hh; obtain ⟨p2, c2, rfl, _⟩ := hs2.open; have hr1 := hs1.R.mono ((C1.le G1 _).trans hle2); have hr2 := hs2.R.mono (C1.le G2 G1); have hre := he.mono (hle1.trans hle2))
 refine aP 7 rfl (Q1 rfl rfl) rfl ?_
 refine A1 8 ?_
 refine F0 rfl ?_
 refine B8 (nS ?_)
 (refine H7 (cs := [v1, v2, v3, v4, v5, v6, v7, v8, v9]) (by repeat (first | exact Pk.here | apply Pk.there)) (fun G5 hle5 hsl5 hno5 => ?_); obtain ⟨hone1, hone2⟩ := A2j (hre.mono hle5) hsl5)
 refine tT ?_
 refine E2 (rC rfl (A3 rfl rfl)) ?_
 (exact R4.mk (A7.of9 (ks := [e]) ⟨by omega, by omega⟩ ⟨by omega, by omega⟩ hl (hr2.mono hle5) (hr1.mono hle5) hone1 hone2))
 (refine D9 rfl (C8 rfl rfl rfl (by omega) (by unfold maxLen; omega) rfl) rfl rfl ?_; rintro _ ⟨b42, rfl⟩)
 refine A1 1 ?_
 (refine E1 rfl rfl (O6 (.mk ak aks) _ _ hsa ha) rfl rfl rfl (fun v G1 hle1 hh => ?_); obtain ⟨N6, F1, rfl, hs1, hn1⟩ := hh; obtain ⟨p1, c1, rfl, _⟩ := hs1.open; have hC2 := O6 _ G1 _ hsb (hb.mono hle1))
 refine A1 3 ?_
 (refine E1 rfl rfl hC2 rfl rfl rfl (fun v G2 hle2 hh => ?_); obtain ⟨cs2, F2, rfl, hs2, hn2⟩ := hh; obtain ⟨p2, c2, rfl, _⟩ := hs2.open; have hr1 := hs1.R.mono ((C1.le G1 _).trans hle2); have hr2 := hs2.R.mono (C1.le G2 G1); have hre := he.mono (hle1.trans hle2))
 refine aP 7 rfl (Q1 rfl rfl) rfl ?_
 refine A1 8 ?_
 refine F0 rfl ?_
 refine B8 (nS ?_)
 (refine H7 (cs := [v1, v2, v3, v4, v5, v6, v7, v8, v9]) (by repeat (first | exact Pk.here | apply Pk.there)) (fun G5 hle5 hsl5 hno5 => ?_); obtain ⟨hone1, hone2⟩ := A2j (hre.mono hle5) hsl5)
 refine tT ?_
 refine E2 (rC rfl (A3 rfl rfl)) ?_
 (exact R4.mk (A7.of9 (ks := [e]) ⟨by omega, by omega⟩ ⟨by omega, by omega⟩ hl (hr2.mono hle5) (hr1.mono hle5) hone1 hone2))
theorem B5i (G : IM) : Fn Tryz.prog 267 [.bool true] [] G (R4 (X6 (true = true))) := by
 refine B5 Tryz.func267 rfl Tryz.ntmps267 Tryz.results267 rfl ?_
 intro w0
 refine tS (tR ?_)
 refine sE (A5 rfl) rfl (fun b3 => ?_)
 refine R2 ?_
 refine E2 (rC rfl (A3 rfl rfl)) ?_
 (exact R4.mk (A4z _ ⟨by decide, by decide⟩))
theorem B5j (G : IM) : Fn Tryz.prog 267 [.bool false] [] G (R4 (X6 (false = true))) := by
 refine B5 Tryz.func267 rfl Tryz.ntmps267 Tryz.results267 rfl ?_
 intro w0
 refine tS (tR ?_)
 refine sE (A5 rfl) rfl (fun b3 => ?_)
 refine T4 ?_
 refine E2 (rC rfl (A3 rfl rfl)) ?_
 (exact R4.mk (A4z _ ⟨by decide, by decide⟩))
theorem A91 (b : Bool) (G : IM) : Fn Tryz.prog 267 [.bool b] [] G (R4 (X6 (b = true))) := by
 cases b
 ·exact B5j G
 ·exact B5i G
theorem B5k (y : ByteArray) (v : Tm) (vc : List Value) (hvs : v.small) : ∀ (t : Tm) (G : IM) (cells : List Value), t.small → A7 G t cells → A7 G v vc → Fn Tryz.prog 262 [.agg ⟨cells⟩, .string y, .agg ⟨vc⟩] [] G (R4 (Q8 y v t)) := by
 refine Tm.ind fun k nm num ty fr lb ks ih G cells hts hr hv => ?_
 have hr0 := hr
 have hts0 := hts
 obtain ⟨_, htsm, hfsm, hsm, hks⟩ := A0z.1 hts
 have hvl := hv.len
 have hvo := hv.one
 have hRl := hr.len
 have hRo := hr.one
 rw [Q8]
 have hCv := A1J v G vc hvs hv
 have hCt := A1J _ G cells hts0 hr0
 obtain ⟨tk, tks⟩ := ty
 obtain ⟨fk, fks⟩ := fr
 obtain ⟨pt, ct, pf, cf, p, c, es, rfl, hk, hnum, hlb, hty, hfr, hsl, hkl⟩ := hr.open9
 have hn := hsl.le
 refine B5 Tryz.func262 rfl Tryz.ntmps262 Tryz.results262 rfl ?_
 intro w0
 refine tS (tR ?_)
 refine sE (C0 rfl rfl) rfl (fun b3 => ?_)
 refine sE (C0 rfl rfl) rfl (fun b4 => ?_)
 refine sE (A5 rfl) rfl (fun b5 => ?_)
 refine D0 ?_
 refine sB (qE rfl rfl) rfl rfl (fun h13 => ?_) (fun h13 => ?_)
 refine I8 ?_
 refine sB (A05 rfl rfl) rfl rfl (fun h18 => ?_) (fun h18 => ?_)
 refine sQ (H9 rfl rfl) rfl (sD (nS (qT rfl (tS (tR ?_)))))
 refine sL (A2 rfl rfl (A6 (by repeat first | exact mH | apply mT)) hvl) rfl rfl ?_
 (refine D3 rfl hCv rfl rfl (fun v9 G1 hle1 hh => ?_); obtain ⟨uc, F1, rfl, hs1, hn1⟩ := hh; have hru := hs1.R.mono (C1.le G1 G); have hul := hru.len; have huo := hru.one)
 refine sS rfl rfl rfl hul huo rfl ?_ (hu := by exact C2 hul.symm)
 refine sD (nS (tT (rS ?_)))
 refine E2 (rC rfl (A2 rfl rfl (A6 (by repeat first | exact mH | apply mT)) hul)) ?_
 (rw [if_pos (by refine ⟨by omega, by assumption⟩)]; exact R4.mk hru)
 refine J7 ?_
 refine sP (E4 rfl rfl (by omega)) rfl rfl ?_
 refine L1 ?_
 refine sE (A5 rfl) rfl (fun b60 => ?_)
 refine D0 ?_
 (refine D3 rfl (O6 (.mk tk tks) _ _ htsm hty) rfl rfl (fun v9 G1 hle1 hh => ?_); obtain ⟨N6, F1, rfl, hs1, hn1⟩ := hh; obtain ⟨q1, c1, rfl, _⟩ := hs1.open; have hC2 := O6 (.mk fk fks) G1 _ hfsm (hfr.mono hle1))
 refine D8 ?_
 (refine D3 rfl hC2 rfl rfl (fun v9 G2 hle2 hh => ?_); obtain ⟨cs2, F2, rfl, hs2, hn2⟩ := hh; obtain ⟨q2, c2, rfl, _⟩ := hs2.open; have hty1 := hs1.R.mono ((C1.le G1 _).trans hle2); have hfr1 := hs2.R.mono (C1.le G2 G1); have hle12 := hle1.trans hle2; replace hsl := hsl.mono hle12; replace hkl := hkl.mono hle12; replace hv := hv.mono hle12)
 refine K5 ?_
 refine B9 ?_
 (refine T9 28 9 ?_; refine K3 (fun (x : Nat × Option Addr × Nat × List (List Value) × IM) => ⟨[(8, .int .i64 x.1), (1, .string y), (3, .pointer (some ⟨b3, 0, none⟩)), (5, .pointer (some ⟨b4, 0, none⟩)), (6, .pointer (some ⟨b5, 0, none⟩)), (7, .pointer (some ⟨b60, 0, none⟩))], [.blk b60 [.int .i64 k, .string nm, .int .i64 num, .int .i64 tk, .slice q1 tks.length c1, .int .i64 fk, .slice q2 fks.length c2, .int .i64 lb, .slice x.2.1 x.1 x.2.2.1], .slc x.2.1 x.2.2.1 28 9 x.1 x.2.2.2.1.flatten, .blk b5 [.int .i64 0, .string ⟨⟨[]⟩⟩, .int .i64 0, .int .i64 0, .slice none 0 0, .int .i64 0, .slice none 0 0, .int .i64 0, .slice none 0 0], .blk b4 vc, .blk b3 [.int .i64 k, .string nm, .int .i64 num, .int .i64 tk, .slice pt tks.length ct, .int .i64 fk, .slice pf fks.length cf, .int .i64 lb, .slice p ks.length c]], x.2.2.2.2⟩) (fun x => x.1 ≤ ks.length ∧ B6 G2 x.2.2.2.2 ∧ C6 x.2.2.2.2 ((P3 y v ks).take x.1) x.2.2.2.1) (fun x => ks.length - x.1) (0, none, 0, [], G2) ?_ ?_ ?_)
 (simp only [I5]; exact D5)
 (exact ⟨Nat.zero_le _, B6.refl _, by simp [C6]⟩)
 (rintro ⟨i, pn, cn, es', Gi⟩ ⟨hi, hle, hst⟩; simp only [] at hi hle hst ⊢; replace hsl := hsl.mono hle; replace hkl := hkl.mono hle; replace hv := hv.mono hle; replace hty1 := hty1.mono hle; replace hfr1 := hfr1.mono hle; have hsl' := hst.len; rw [List.length_take, X7] at hsl')
 refine D0 ?_
 refine sB (K1 rfl rfl) rfl rfl (fun h106 => ?_) (fun h106 => ?_)
 refine sD (nS (qT rfl (tK (nS (tS ?_)))))
 refine B9 ?_
 (have hil : i < ks.length := (by omega); obtain ⟨bx, ox, e, rfl, hl, hat, hre, hgb⟩ := hsl.kidTm hkl (i := i) (by omega) (by omega); have hel := hre.len; have heo := hre.one; refine C9 D1 rfl ?_)
 refine L0 (i := 8) (l' := [ff,ff,ff,ff,ff,ff,ff,ff,tt,ff,ff,ff,ff,ff]) rfl C4 (A2 rfl rfl (A6 (by repeat first | exact mH | apply mT)) hvl) rfl (by kernel_rfl) rfl rfl ?_
 refine aP 0 rfl (A9 rfl) rfl ?_
 refine aL 1 rfl (B7 rfl rfl) rfl ?_
 refine aP 2 rfl (A9 rfl) rfl ?_
 refine aL 3 rfl (B7 rfl rfl) rfl ?_
 refine aP 4 rfl (qM rfl) rfl ?_
 refine aP 5 rfl (B0 (j := i) rfl rfl rfl (by omega)) rfl ?_
 refine aL 6 rfl (A2 rfl rfl (hat _) hl) rfl ?_
 refine aP 7 rfl (qM rfl) rfl ?_
 refine A1 9 ?_
 (refine E1 rfl rfl (ih ks[i] (List.getElem_mem (by omega)) Gi _ (Tm.smallL_mem hks _ (List.getElem_mem (by omega))) hre hv) rfl rfl rfl (fun u G3 hle3 hh => ?_); obtain ⟨uc, rfl, hru⟩ := hh; have hul := hru.len; have huo := hru.one; obtain ⟨v1, v2, v3, v4, v5, v6, v7, v8, v9, rfl⟩ := nine hul)
 refine A1 10 ?_
 (refine D9 rfl (C8 rfl rfl rfl (by omega) (by unfold maxLen; omega) rfl) rfl rfl ?_; rintro _ ⟨b127, rfl⟩)
 refine A1 11 ?_
 (refine T5 rfl rfl rfl rfl rfl rfl (fun _ _ => by repeat (first | exact Sw.here | apply Sw.there)) (P9 (by repeat first | exact mH | apply mT)) rfl (fun u hu => List.all_eq_true.1 huo u hu) (by unfold maxLen; omega) (by omega) rfl rfl (by repeat (first | exact A8.nil | apply A8.dep (by decide +kernel) | apply A8.im (by decide +kernel) (by assumption) (by repeat first | exact mH | apply mT) | apply A8.blk (by decide +kernel) (by repeat (first | exact Pk.here | apply Pk.there)) (by repeat first | exact mH | apply mT) | apply A8.slc (by decide +kernel) (by repeat (first | exact Pk.here | apply Pk.there)) (by repeat first | exact mH | apply mT))) (fun p7 c7 => ?_))
 refine aP 12 rfl (A9 rfl) rfl ?_
 refine A1 13 ?_
 refine N4 rfl rfl rfl rfl rfl rfl rfl rfl (by decide +kernel) (by repeat first | exact Sw.here | apply Sw.there) (by rfl) ?_
 refine B8 (M8 (nS (tR (sQ (qM rfl) rfl ?_))))
 refine sP (J6 rfl rfl (by omega) (by omega)) rfl rfl ?_
 refine sQ (qA rfl) rfl (sD ?_)
 refine K0 (i + 1, p7, c7, es' ++ [[v1, v2, v3, v4, v5, v6, v7, v8, v9]], G3) ?_ ?_ ?_
 (simp only [I5]; exact D5)
 (dsimp only; exact ⟨by omega, hle.trans hle3, by rw [A2O (by omega)]; exact C6.snoc (hst.mono hle3) hru⟩)
 (show ks.length - (i + 1) < ks.length - i; omega)
 refine L1 ?_
 (refine H7 (cs := es'.flatten) (by repeat (first | exact Pk.here | apply Pk.there)) (fun G4 hle4 hsl4 hno4 => ?_); obtain rfl : i = ks.length := (by omega))
 refine tT ?_
 refine E2 (rC rfl (A3 rfl rfl)) ?_
 (rw [if_neg (by rintro ⟨h1, h2⟩; first | omega | contradiction), if_neg (by rintro ⟨h1, h2⟩; first | omega | contradiction)]; rw [List.take_of_length_le (by rw [X7]; omega)] at hst; exact R4.mk (A7.put hk hnum hlb (hty1.mono hle4) (hfr1.mono hle4) (by rw [X7]) (C5.of hsl4 (by omega) hst.all (fun e he => (hst.each e he).2)) (hst.mono hle4)))
 refine K5 ?_
 refine sB (qE rfl rfl) rfl rfl (fun h179 => ?_) (fun h179 => ?_)
 refine I8 ?_
 refine sB (A05 rfl rfl) rfl rfl (fun h184 => ?_) (fun h184 => ?_)
 refine D0 ?_
 (refine D3 rfl hCt rfl rfl (fun v9 G1 hle1 hh => ?_); obtain ⟨uc, F1, rfl, hs1, hn1⟩ := hh; have hru := hs1.R.mono (C1.le G1 G); have hul := hru.len; have huo := hru.one)
 refine sS rfl rfl rfl hul huo rfl ?_ (hu := by exact C2 hul.symm)
 refine sD (nS (tT (rS ?_)))
 refine E2 (rC rfl (A2 rfl rfl (A6 (by repeat first | exact mH | apply mT)) hul)) ?_
 (rw [if_neg (by rintro ⟨h1, h2⟩; first | omega | contradiction), if_pos (by refine ⟨by omega, by assumption⟩)]; exact R4.mk hru)
 refine D7 ?_
 refine sE (A5 rfl) rfl (fun b209 => ?_)
 refine D0 ?_
 (refine D3 rfl (O6 (.mk tk tks) _ _ htsm hty) rfl rfl (fun v9 G1 hle1 hh => ?_); obtain ⟨N6, F1, rfl, hs1, hn1⟩ := hh; obtain ⟨q1, c1, rfl, _⟩ := hs1.open; have hC2 := O6 (.mk fk fks) G1 _ hfsm (hfr.mono hle1))
 refine D8 ?_
 (refine D3 rfl hC2 rfl rfl (fun v9 G2 hle2 hh => ?_); obtain ⟨cs2, F2, rfl, hs2, hn2⟩ := hh; obtain ⟨q2, c2, rfl, _⟩ := hs2.open; have hty1 := hs1.R.mono ((C1.le G1 _).trans hle2); have hfr1 := hs2.R.mono (C1.le G2 G1); have hle12 := hle1.trans hle2; replace hsl := hsl.mono hle12; replace hkl := hkl.mono hle12; replace hv := hv.mono hle12)
 refine K5 ?_
 refine B9 ?_
 (refine T9 28 9 ?_; refine K3 (fun (x : Nat × Option Addr × Nat × List (List Value) × IM) => ⟨[(8, .int .i64 x.1), (1, .string y), (3, .pointer (some ⟨b3, 0, none⟩)), (5, .pointer (some ⟨b4, 0, none⟩)), (6, .pointer (some ⟨b5, 0, none⟩)), (7, .pointer (some ⟨b209, 0, none⟩))], [.blk b209 [.int .i64 k, .string nm, .int .i64 num, .int .i64 tk, .slice q1 tks.length c1, .int .i64 fk, .slice q2 fks.length c2, .int .i64 lb, .slice x.2.1 x.1 x.2.2.1], .slc x.2.1 x.2.2.1 28 9 x.1 x.2.2.2.1.flatten, .blk b5 [.int .i64 0, .string ⟨⟨[]⟩⟩, .int .i64 0, .int .i64 0, .slice none 0 0, .int .i64 0, .slice none 0 0, .int .i64 0, .slice none 0 0], .blk b4 vc, .blk b3 [.int .i64 k, .string nm, .int .i64 num, .int .i64 tk, .slice pt tks.length ct, .int .i64 fk, .slice pf fks.length cf, .int .i64 lb, .slice p ks.length c]], x.2.2.2.2⟩) (fun x => x.1 ≤ ks.length ∧ B6 G2 x.2.2.2.2 ∧ C6 x.2.2.2.2 ((P3 y v ks).take x.1) x.2.2.2.1) (fun x => ks.length - x.1) (0, none, 0, [], G2) ?_ ?_ ?_)
 (simp only [I5]; exact D5)
 (exact ⟨Nat.zero_le _, B6.refl _, by simp [C6]⟩)
 (rintro ⟨i, pn, cn, es', Gi⟩ ⟨hi, hle, hst⟩; simp only [] at hi hle hst ⊢; replace hsl := hsl.mono hle; replace hkl := hkl.mono hle; replace hv := hv.mono hle; replace hty1 := hty1.mono hle; replace hfr1 := hfr1.mono hle; have hsl' := hst.len; rw [List.length_take, X7] at hsl')
 refine D0 ?_
 refine sB (K1 rfl rfl) rfl rfl (fun h255 => ?_) (fun h255 => ?_)
 refine sD (nS (qT rfl (tK (nS (tS ?_)))))
 refine B9 ?_
 (have hil : i < ks.length := (by omega); obtain ⟨bx, ox, e, rfl, hl, hat, hre, hgb⟩ := hsl.kidTm hkl (i := i) (by omega) (by omega); have hel := hre.len; have heo := hre.one; refine C9 D1 rfl ?_)
 refine L0 (i := 8) (l' := [ff,ff,ff,ff,ff,ff,ff,ff,tt,ff,ff,ff,ff,ff]) rfl C4 (A2 rfl rfl (A6 (by repeat first | exact mH | apply mT)) hvl) rfl (by kernel_rfl) rfl rfl ?_
 refine aP 0 rfl (A9 rfl) rfl ?_
 refine aL 1 rfl (B7 rfl rfl) rfl ?_
 refine aP 2 rfl (A9 rfl) rfl ?_
 refine aL 3 rfl (B7 rfl rfl) rfl ?_
 refine aP 4 rfl (qM rfl) rfl ?_
 refine aP 5 rfl (B0 (j := i) rfl rfl rfl (by omega)) rfl ?_
 refine aL 6 rfl (A2 rfl rfl (hat _) hl) rfl ?_
 refine aP 7 rfl (qM rfl) rfl ?_
 refine A1 9 ?_
 (refine E1 rfl rfl (ih ks[i] (List.getElem_mem (by omega)) Gi _ (Tm.smallL_mem hks _ (List.getElem_mem (by omega))) hre hv) rfl rfl rfl (fun u G3 hle3 hh => ?_); obtain ⟨uc, rfl, hru⟩ := hh; have hul := hru.len; have huo := hru.one; obtain ⟨v1, v2, v3, v4, v5, v6, v7, v8, v9, rfl⟩ := nine hul)
 refine A1 10 ?_
 (refine D9 rfl (C8 rfl rfl rfl (by omega) (by unfold maxLen; omega) rfl) rfl rfl ?_; rintro _ ⟨b276, rfl⟩)
 refine A1 11 ?_
 (refine T5 rfl rfl rfl rfl rfl rfl (fun _ _ => by repeat (first | exact Sw.here | apply Sw.there)) (P9 (by repeat first | exact mH | apply mT)) rfl (fun u hu => List.all_eq_true.1 huo u hu) (by unfold maxLen; omega) (by omega) rfl rfl (by repeat (first | exact A8.nil | apply A8.dep (by decide +kernel) | apply A8.im (by decide +kernel) (by assumption) (by repeat first | exact mH | apply mT) | apply A8.blk (by decide +kernel) (by repeat (first | exact Pk.here | apply Pk.there)) (by repeat first | exact mH | apply mT) | apply A8.slc (by decide +kernel) (by repeat (first | exact Pk.here | apply Pk.there)) (by repeat first | exact mH | apply mT))) (fun p7 c7 => ?_))
 refine aP 12 rfl (A9 rfl) rfl ?_
 refine A1 13 ?_
 refine N4 rfl rfl rfl rfl rfl rfl rfl rfl (by decide +kernel) (by repeat first | exact Sw.here | apply Sw.there) (by rfl) ?_
 refine B8 (M8 (nS (tR (sQ (qM rfl) rfl ?_))))
 refine sP (J6 rfl rfl (by omega) (by omega)) rfl rfl ?_
 refine sQ (qA rfl) rfl (sD ?_)
 refine K0 (i + 1, p7, c7, es' ++ [[v1, v2, v3, v4, v5, v6, v7, v8, v9]], G3) ?_ ?_ ?_
 (simp only [I5]; exact D5)
 (dsimp only; exact ⟨by omega, hle.trans hle3, by rw [A2O (by omega)]; exact C6.snoc (hst.mono hle3) hru⟩)
 (show ks.length - (i + 1) < ks.length - i; omega)
 refine L1 ?_
 (refine H7 (cs := es'.flatten) (by repeat (first | exact Pk.here | apply Pk.there)) (fun G4 hle4 hsl4 hno4 => ?_); obtain rfl : i = ks.length := (by omega))
 refine tT ?_
 refine E2 (rC rfl (A3 rfl rfl)) ?_
 (rw [if_neg (by rintro ⟨h1, h2⟩; first | omega | contradiction), if_neg (by rintro ⟨h1, h2⟩; first | omega | contradiction)]; rw [List.take_of_length_le (by rw [X7]; omega)] at hst; exact R4.mk (A7.put hk hnum hlb (hty1.mono hle4) (hfr1.mono hle4) (by rw [X7]) (C5.of hsl4 (by omega) hst.all (fun e he => (hst.each e he).2)) (hst.mono hle4)))
 refine L1 ?_
 refine sE (A5 rfl) rfl (fun b326 => ?_)
 refine D0 ?_
 (refine D3 rfl (O6 (.mk tk tks) _ _ htsm hty) rfl rfl (fun v9 G1 hle1 hh => ?_); obtain ⟨N6, F1, rfl, hs1, hn1⟩ := hh; obtain ⟨q1, c1, rfl, _⟩ := hs1.open; have hC2 := O6 (.mk fk fks) G1 _ hfsm (hfr.mono hle1))
 refine D8 ?_
 (refine D3 rfl hC2 rfl rfl (fun v9 G2 hle2 hh => ?_); obtain ⟨cs2, F2, rfl, hs2, hn2⟩ := hh; obtain ⟨q2, c2, rfl, _⟩ := hs2.open; have hty1 := hs1.R.mono ((C1.le G1 _).trans hle2); have hfr1 := hs2.R.mono (C1.le G2 G1); have hle12 := hle1.trans hle2; replace hsl := hsl.mono hle12; replace hkl := hkl.mono hle12; replace hv := hv.mono hle12)
 refine K5 ?_
 refine B9 ?_
 (refine T9 28 9 ?_; refine K3 (fun (x : Nat × Option Addr × Nat × List (List Value) × IM) => ⟨[(8, .int .i64 x.1), (1, .string y), (3, .pointer (some ⟨b3, 0, none⟩)), (5, .pointer (some ⟨b4, 0, none⟩)), (6, .pointer (some ⟨b5, 0, none⟩)), (7, .pointer (some ⟨b326, 0, none⟩))], [.blk b326 [.int .i64 k, .string nm, .int .i64 num, .int .i64 tk, .slice q1 tks.length c1, .int .i64 fk, .slice q2 fks.length c2, .int .i64 lb, .slice x.2.1 x.1 x.2.2.1], .slc x.2.1 x.2.2.1 28 9 x.1 x.2.2.2.1.flatten, .blk b5 [.int .i64 0, .string ⟨⟨[]⟩⟩, .int .i64 0, .int .i64 0, .slice none 0 0, .int .i64 0, .slice none 0 0, .int .i64 0, .slice none 0 0], .blk b4 vc, .blk b3 [.int .i64 k, .string nm, .int .i64 num, .int .i64 tk, .slice pt tks.length ct, .int .i64 fk, .slice pf fks.length cf, .int .i64 lb, .slice p ks.length c]], x.2.2.2.2⟩) (fun x => x.1 ≤ ks.length ∧ B6 G2 x.2.2.2.2 ∧ C6 x.2.2.2.2 ((P3 y v ks).take x.1) x.2.2.2.1) (fun x => ks.length - x.1) (0, none, 0, [], G2) ?_ ?_ ?_)
 (simp only [I5]; exact D5)
 (exact ⟨Nat.zero_le _, B6.refl _, by simp [C6]⟩)
 (rintro ⟨i, pn, cn, es', Gi⟩ ⟨hi, hle, hst⟩; simp only [] at hi hle hst ⊢; replace hsl := hsl.mono hle; replace hkl := hkl.mono hle; replace hv := hv.mono hle; replace hty1 := hty1.mono hle; replace hfr1 := hfr1.mono hle; have hsl' := hst.len; rw [List.length_take, X7] at hsl')
 refine D0 ?_
 refine sB (K1 rfl rfl) rfl rfl (fun h372 => ?_) (fun h372 => ?_)
 refine sD (nS (qT rfl (tK (nS (tS ?_)))))
 refine B9 ?_
 (have hil : i < ks.length := (by omega); obtain ⟨bx, ox, e, rfl, hl, hat, hre, hgb⟩ := hsl.kidTm hkl (i := i) (by omega) (by omega); have hel := hre.len; have heo := hre.one; refine C9 D1 rfl ?_)
 refine L0 (i := 8) (l' := [ff,ff,ff,ff,ff,ff,ff,ff,tt,ff,ff,ff,ff,ff]) rfl C4 (A2 rfl rfl (A6 (by repeat first | exact mH | apply mT)) hvl) rfl (by kernel_rfl) rfl rfl ?_
 refine aP 0 rfl (A9 rfl) rfl ?_
 refine aL 1 rfl (B7 rfl rfl) rfl ?_
 refine aP 2 rfl (A9 rfl) rfl ?_
 refine aL 3 rfl (B7 rfl rfl) rfl ?_
 refine aP 4 rfl (qM rfl) rfl ?_
 refine aP 5 rfl (B0 (j := i) rfl rfl rfl (by omega)) rfl ?_
 refine aL 6 rfl (A2 rfl rfl (hat _) hl) rfl ?_
 refine aP 7 rfl (qM rfl) rfl ?_
 refine A1 9 ?_
 (refine E1 rfl rfl (ih ks[i] (List.getElem_mem (by omega)) Gi _ (Tm.smallL_mem hks _ (List.getElem_mem (by omega))) hre hv) rfl rfl rfl (fun u G3 hle3 hh => ?_); obtain ⟨uc, rfl, hru⟩ := hh; have hul := hru.len; have huo := hru.one; obtain ⟨v1, v2, v3, v4, v5, v6, v7, v8, v9, rfl⟩ := nine hul)
 refine A1 10 ?_
 (refine D9 rfl (C8 rfl rfl rfl (by omega) (by unfold maxLen; omega) rfl) rfl rfl ?_; rintro _ ⟨b393, rfl⟩)
 refine A1 11 ?_
 (refine T5 rfl rfl rfl rfl rfl rfl (fun _ _ => by repeat (first | exact Sw.here | apply Sw.there)) (P9 (by repeat first | exact mH | apply mT)) rfl (fun u hu => List.all_eq_true.1 huo u hu) (by unfold maxLen; omega) (by omega) rfl rfl (by repeat (first | exact A8.nil | apply A8.dep (by decide +kernel) | apply A8.im (by decide +kernel) (by assumption) (by repeat first | exact mH | apply mT) | apply A8.blk (by decide +kernel) (by repeat (first | exact Pk.here | apply Pk.there)) (by repeat first | exact mH | apply mT) | apply A8.slc (by decide +kernel) (by repeat (first | exact Pk.here | apply Pk.there)) (by repeat first | exact mH | apply mT))) (fun p7 c7 => ?_))
 refine aP 12 rfl (A9 rfl) rfl ?_
 refine A1 13 ?_
 refine N4 rfl rfl rfl rfl rfl rfl rfl rfl (by decide +kernel) (by repeat first | exact Sw.here | apply Sw.there) (by rfl) ?_
 refine B8 (M8 (nS (tR (sQ (qM rfl) rfl ?_))))
 refine sP (J6 rfl rfl (by omega) (by omega)) rfl rfl ?_
 refine sQ (qA rfl) rfl (sD ?_)
 refine K0 (i + 1, p7, c7, es' ++ [[v1, v2, v3, v4, v5, v6, v7, v8, v9]], G3) ?_ ?_ ?_
 (simp only [I5]; exact D5)
 (dsimp only; exact ⟨by omega, hle.trans hle3, by rw [A2O (by omega)]; exact C6.snoc (hst.mono hle3) hru⟩)
 (show ks.length - (i + 1) < ks.length - i; omega)
 refine L1 ?_
 (refine H7 (cs := es'.flatten) (by repeat (first | exact Pk.here | apply Pk.there)) (fun G4 hle4 hsl4 hno4 => ?_); obtain rfl : i = ks.length := (by omega))
 refine tT ?_
 refine E2 (rC rfl (A3 rfl rfl)) ?_
 (rw [if_neg (by rintro ⟨h1, h2⟩; first | omega | contradiction), if_neg (by rintro ⟨h1, h2⟩; first | omega | contradiction)]; rw [List.take_of_length_le (by rw [X7]; omega)] at hst; exact R4.mk (A7.put hk hnum hlb (hty1.mono hle4) (hfr1.mono hle4) (by rw [X7]) (C5.of hsl4 (by omega) hst.all (fun e he => (hst.each e he).2)) (hst.mono hle4)))
theorem B5l {G G1 : IM} {k : Int} {nm : ByteArray} {num : Int} {ty fr : Ty} {lb : Int} {ks : List Tm} {cells : List Value} {F : List Nat} (hs : P7 (C1 G1 G) (.mk k nm num ty fr lb ks) cells F) (hn : F.Nodup) (hle : B6 G G1) (h0 : 0 < ks.length) :
  ∃ (p7 : Option Addr) (c7 : Nat) (p8 : Option Addr) (c8 bc c1 : Nat) (A C : List Value) (es1 : List (List Value)), cells = [.int .i64 k, .string nm, .int .i64 num, .int .i64 ty.k, .slice p7 ty.ks.length c7, .int .i64 fr.k, .slice p8 fr.ks.length c8, .int .i64 lb, .slice (some ⟨bc, A.length, none⟩) ks.length c1] ∧
   G1 bc = some (A ++ (es1.flatten ++ C)) ∧ G bc = none ∧ es1.length = ks.length ∧ (∀ e ∈ es1, e.length = 9) ∧ ks.length ≤ c1 ∧ c1 ≤ maxLen ∧ B6 G (Wo G1 [bc]) ∧
   B3 (Wo G1 [bc]) ty [.int .i64 ty.k, .slice p7 ty.ks.length c7] ∧ B3 (Wo G1 [bc]) fr [.int .i64 fr.k, .slice p8 fr.ks.length c8] := by
 simp only [P7] at hs
 obtain ⟨tc, fc, p1, c1, es1, Ft, Ff, Fs, rfl, _, _, _, ht1, hf1, hsl1, hkl1, rfl, hg1⟩ := hs
 obtain ⟨p7, c7, rfl, _⟩ := ht1.open
 obtain ⟨p8, c8, rfl, _⟩ := hf1.open
 obtain ⟨bc, A, C, rfl, hgb⟩ := hsl1.sl.blk (fun h1 => by have hq := hsl1.sl.1; rw [h1] at hq; simp at hq; omega)
 have hGb : G bc = none := C1.out (by rw [hgb]; simp)
 rw [List.nodup_append, List.nodup_append] at hn
 obtain ⟨n1, ⟨n2, _, d2⟩, d3⟩ := hn
 have hbt : ∀ x ∈ Ft, x ∉ [bc] := fun x hx hb => d3 x hx x (by simp at hb; subst hb; simp [J2]) rfl
 have hbf : ∀ x ∈ Ff, x ∉ [bc] := fun x hx hb => d2 x hx x (by simp at hb; subst hb; simp [J2]) rfl
 have hm : B6 (Wo (C1 G1 G) [bc]) (Wo G1 [bc]) := by
  intro x l hx
  obtain ⟨h1, h2⟩ := Wo.get hx
  rw [Wo.at h2]
  exact C1.le _ _ _ _ h1
 exact ⟨p7, c7, p8, c8, bc, c1, A, C, es1, rfl, C1.le _ _ _ _ hgb, hGb, hkl1.R.len, hkl1.R.all, hsl1.sl.2.1, hsl1.sl.2.2.1, Wo.keep hle (fun b hb => by simp at hb; subst hb; exact hGb), ((ht1.wo hbt).R).mono hm, ((hf1.wo hbf).R).mono hm⟩
theorem A92 {H G9 : IM} {k : Int} {nm : ByteArray} {num : Int} {ty fr : Ty} {lb : Int} {us : List Tm} {es : List (List Value)} {A C : List Value} {bc c1 n c7 c8 : Nat} {p7 p8 : Option Addr} (hk : F4 k) (hnum : F4 num) (hlb : F4 lb)
  (hty : B3 H ty [.int .i64 ty.k, .slice p7 ty.ks.length c7]) (hfr : B3 H fr [.int .i64 fr.k, .slice p8 fr.ks.length c8]) (hle : B6 H G9) (hb : G9 bc = some (A ++ (es.flatten ++ C))) (hr : C6 G9 us es) (hl : us.length = n) (hc : n ≤ c1) (hm : c1 ≤ maxLen) :
  A7 G9 (.mk k nm num ty fr lb us) [.int .i64 k, .string nm, .int .i64 num, .int .i64 ty.k, .slice p7 ty.ks.length c7, .int .i64 fr.k, .slice p8 fr.ks.length c8, .int .i64 lb, .slice (some ⟨bc, A.length, none⟩) n c1] := by
 subst hl
 obtain ⟨tk, tks⟩ := ty
 obtain ⟨fk, fks⟩ := fr
 exact A7.put hk hnum hlb (hty.mono hle) (hfr.mono hle) rfl (C5.of (Sl.of_blk (by rw [A0U hr.all, hr.len]) hc hm hb) hr.len hr.all (fun e he => by obtain ⟨q, hq⟩ := List.getElem?_of_mem he; exact (hr.inv hq I3).2.one)) hr
theorem B5m {es D : List (List Value)} {i : Nat} {y : List Value} (hl : es.length = i) (hi : i < D.length) : (es ++ D.drop i).set i y = (es ++ [y]) ++ D.drop (i + 1) := by
 rw [List.set_append_right _ _ (by omega), hl, Nat.sub_self, List.drop_eq_getElem_cons hi, List.set_cons_zero, List.append_assoc]
 rfl
theorem B5n {es D : List (List Value)} {i sz : Nat} (h1 : ∀ e ∈ es, e.length = sz) (h2 : ∀ e ∈ D, e.length = sz) : ∀ e ∈ es ++ D.drop i, e.length = sz := by
 intro e he
 rcases List.mem_append.1 he with he | he
 ·exact h1 e he
 ·exact h2 e (List.mem_of_mem_drop he)
theorem B5o {A C : List Value} {es D : List (List Value)} {vs : List Value} {i sz : Nat} (hl : es.length = i) (hi : i < D.length) (h1 : ∀ e ∈ es, e.length = sz) (h2 : ∀ e ∈ D, e.length = sz) (hv : vs.length = sz) :
  R1 (A ++ ((es ++ D.drop i).flatten ++ C)) (A.length + i * sz) vs = some (A ++ (((es ++ [vs]) ++ D.drop (i + 1)).flatten ++ C)) := by
 rw [B2O (by rw [List.length_append, List.length_drop]; omega) (B5n h1 h2) hv, B5m hl hi]
theorem A6y {ks : List Tm} {i : Nat} (h : i < ks.length) : (M7 (ks.take (i + 1))).length = (M7 (ks.take i)).length + (M6 ks[i]).length := by
 rw [List.take_succ_eq_append_getElem h, A4F, List.length_append, M7, M7, List.append_nil]
theorem B5p : ∀ (t : Tm) (G : IM) (cells : List Value), C7 t ≤ 4294967296 → A7 G t cells → Fn Tryz.prog 98 [.agg ⟨cells⟩] [] G (I0 (.int .i64 ((M6 t).length : Int)) G) := by
 refine Tm.ind fun k nm num ty fr lb ks ih G cells hcnt hr => ?_
 have hone := hr.one
 have hl9 := hr.len
 have hc14 : k = 14 → ((M6 (.mk k nm num ty fr lb ks)).length : Int) = 1 + ((M7 ks).length : Int) := fun h => by rw [M6, if_pos h, List.length_append]; simp
 have hcne : k ≠ 14 → ((M6 (.mk k nm num ty fr lb ks)).length : Int) = 0 + ((M7 ks).length : Int) := fun h => by rw [M6, if_neg h, List.length_append]; simp
 have hmx := A1D ks
 rw [C7] at hcnt
 obtain ⟨tk, tks⟩ := ty
 obtain ⟨fk, fks⟩ := fr
 obtain ⟨pt, ct, pf, cf, q, cq, ek, rfl, hk, hnum, hlb, hty, hfr, hsl, hkl⟩ := hr.open9
 have hn := hsl.le
 refine B5 Tryz.func98 rfl Tryz.ntmps98 Tryz.results98 rfl ?_
 intro w0
 refine tS (tR ?_)
 refine sE (C0 rfl rfl) rfl (fun b3 => ?_)
 refine J4 ?_
 refine sB (qE rfl rfl) rfl rfl (fun h17 => ?_) (fun h17 => ?_)
 refine J4 ?_
 refine B9 ?_
 (have h14 := hc14 (by omega); refine K3 (fun (i : Nat) => ⟨[(4, .int .i64 i), (3, .int .i64 ((1 + (M7 (ks.take i)).length : Nat) : Int)), (1, .pointer (some ⟨b3, 0, none⟩))], [.blk b3 [.int .i64 k, .string nm, .int .i64 num, .int .i64 tk, .slice pt tks.length ct, .int .i64 fk, .slice pf fks.length cf, .int .i64 lb, .slice q ks.length cq]], G⟩) (fun i => i ≤ ks.length) (fun i => ks.length - i) 0 ?_ ?_ ?_)
 exact D5
 exact Nat.zero_le _
 (rintro (i : Nat) hi; replace hi : i ≤ ks.length := hi; have hb1 := A1D (ks.take i); have hb2 := A2c (ks := ks) (i := i))
 refine D0 ?_
 refine sB (K1 rfl rfl) rfl rfl (fun h43 => ?_) (fun h43 => ?_)
 refine sD (nS (qT rfl (tK (nS (tS ?_)))))
 refine B9 ?_
 refine P6 ?_
 (have hiK : i < ks.length := (by omega); obtain ⟨b, o, e, rfl, hl, hat, hre, hgb⟩ := hsl.kidTm hkl (i := i) hiK hiK; have hih := ih ks[i] (List.getElem_mem hiK) G e (by have := hb2 hiK; omega) hre; have hsu := A6y (ks := ks) (i := i) hiK; have hb3 := A2r ks[i]; have hb4 := hb2 hiK; have hb5 := hmx; refine sP (B0 rfl rfl rfl hiK) rfl rfl ?_)
 refine sL (A2 rfl rfl (hat _) hl) rfl rfl ?_
 refine E8 rfl (hih) rfl rfl ?_
 refine sP (J6 rfl rfl (by omega) (by omega)) rfl rfl ?_
 refine I1 ?_
 refine sP (J6 rfl rfl (by omega) (by omega)) rfl rfl ?_
 refine sQ (qA rfl) rfl (sD ?_)
 refine K0 (i + 1) (by rw [hsu, ← Nat.add_assoc]; exact (N3 (by repeat (first | exact E9.nil | refine E9.cons rfl ?_)) (by repeat (first | exact A0.refl | exact A0.nil | refine A0.cons (by repeat (first | exact Pk.here | apply Pk.there)) ?_ | apply A0.drop)))) ?_ ?_
 (show i + 1 ≤ ks.length; omega)
 (show ks.length - (i + 1) < ks.length - i; omega)
 refine K5 ?_
 (obtain rfl : i = ks.length := (by omega); rw [List.take_length]; exact ⟨rfl, by rw [h14]; rfl, rfl⟩)
 refine J7 ?_
 refine B9 ?_
 (have h14 := hcne (by omega); refine K3 (fun (i : Nat) => ⟨[(4, .int .i64 i), (3, .int .i64 ((0 + (M7 (ks.take i)).length : Nat) : Int)), (1, .pointer (some ⟨b3, 0, none⟩))], [.blk b3 [.int .i64 k, .string nm, .int .i64 num, .int .i64 tk, .slice pt tks.length ct, .int .i64 fk, .slice pf fks.length cf, .int .i64 lb, .slice q ks.length cq]], G⟩) (fun i => i ≤ ks.length) (fun i => ks.length - i) 0 ?_ ?_ ?_)
 exact D5
 exact Nat.zero_le _
 (rintro (i : Nat) hi; replace hi : i ≤ ks.length := hi; have hb1 := A1D (ks.take i); have hb2 := A2c (ks := ks) (i := i))
 refine D0 ?_
 refine sB (K1 rfl rfl) rfl rfl (fun h112 => ?_) (fun h112 => ?_)
 refine sD (nS (qT rfl (tK (nS (tS ?_)))))
 refine B9 ?_
 refine P6 ?_
 (have hiK : i < ks.length := (by omega); obtain ⟨b, o, e, rfl, hl, hat, hre, hgb⟩ := hsl.kidTm hkl (i := i) hiK hiK; have hih := ih ks[i] (List.getElem_mem hiK) G e (by have := hb2 hiK; omega) hre; have hsu := A6y (ks := ks) (i := i) hiK; have hb3 := A2r ks[i]; have hb4 := hb2 hiK; have hb5 := hmx; refine sP (B0 rfl rfl rfl hiK) rfl rfl ?_)
 refine sL (A2 rfl rfl (hat _) hl) rfl rfl ?_
 refine E8 rfl (hih) rfl rfl ?_
 refine sP (J6 rfl rfl (by omega) (by omega)) rfl rfl ?_
 refine I1 ?_
 refine sP (J6 rfl rfl (by omega) (by omega)) rfl rfl ?_
 refine sQ (qA rfl) rfl (sD ?_)
 refine K0 (i + 1) (by rw [hsu, ← Nat.add_assoc]; exact (N3 (by repeat (first | exact E9.nil | refine E9.cons rfl ?_)) (by repeat (first | exact A0.refl | exact A0.nil | refine A0.cons (by repeat (first | exact Pk.here | apply Pk.there)) ?_ | apply A0.drop)))) ?_ ?_
 (show i + 1 ≤ ks.length; omega)
 (show ks.length - (i + 1) < ks.length - i; omega)
 refine K5 ?_
 (obtain rfl : i = ks.length := (by omega); rw [List.take_length]; exact ⟨rfl, by rw [h14]; rfl, rfl⟩)
theorem A93 : ∀ (ts : List Tm) (n : Int), (Q2 ts n).1.length = ts.length
 | [], n => by rw [Q2]
 | t :: ts, n => by rw [Q2]; simp only [List.length_cons]; rw [A93 ts]
theorem B5q (ks : List Tm) (n : Int) (i : Nat) (h : i < ks.length) : Q2 (ks.take (i + 1)) n = ((Q2 (ks.take i) n).1 ++ [(N9 ks[i] (Q2 (ks.take i) n).2).1], (N9 ks[i] (Q2 (ks.take i) n).2).2) := by
 have := A5N rlG ks n i h
 rw [A3K, A3K, A4M] at this
 exact this
def RlP (r : Tm × Int) : IM → Value → List A4 → Prop := K4 fun G' v => ∃ cells, v = .tuple ⟨[.agg ⟨cells⟩, .int .i64 r.2]⟩ ∧ A7 G' r.1 cells
theorem RlP.mk {r : Tm × Int} {G : IM} {u : Tm} {n : Int} {cells : List Value} (h : r = (u, n)) (hr : A7 G u cells) : RlP r G (.tuple ⟨[.agg ⟨cells⟩, .int .i64 n]⟩) [] := by subst h; exact ⟨rfl, cells, rfl, hr⟩
theorem B5r (k : Int) (nm : ByteArray) (num : Int) (ty fr : Ty) (lb : Int) (hk14 : k ≠ 14) (n : Int) (G : IM) (cells : List Value) (hts : (Tm.mk k nm num ty fr lb []).small) (hr : A7 G (.mk k nm num ty fr lb []) cells) :
  Fn Tryz.prog 99 [.agg ⟨cells⟩, .int .i64 n] [] G (RlP (.mk k nm num ty fr lb [], n)) := by
 have hone := hr.one
 have hl9 := hr.len
 have hC := A1J _ G cells hts hr
 obtain ⟨tk, tks⟩ := ty
 obtain ⟨fk, fks⟩ := fr
 obtain ⟨pt, ct, pf, cf, p, c, es, rfl, hk, hnum, hlb, hty, hfr, hsl, hkl⟩ := hr.open9
 refine B5 Tryz.func99 rfl Tryz.ntmps99 Tryz.results99 rfl ?_
 intro w0
 refine tS (tR ?_)
 refine sE (C0 rfl rfl) rfl (fun b3 => ?_)
 refine sE (A5 rfl) rfl (fun b4 => ?_)
 refine I1 ?_
 (refine D3 rfl hC rfl rfl (fun v G1 hle1 hh => ?_); obtain ⟨cells1, F1, rfl, hs1, hn1⟩ := hh; have hru := hs1.R.mono (C1.le _ _); have hul := hru.len; have huo := hru.one)
 refine sE (A5 rfl) rfl (fun b12 => ?_)
 refine sS rfl rfl rfl hul huo rfl ?_ (hu := by exact C2 hul.symm)
 refine sD (nS (tS (tS (tR (sQ (qA rfl) rfl (sD (nS ?_)))))))
 refine B9 ?_
 (refine K3 (fun (_ : Nat) => ⟨[(7, .int .i64 0), (1, .int .i64 n), (2, .pointer (some ⟨b3, 0, none⟩)), (4, .pointer (some ⟨b4, 0, none⟩)), (6, .pointer (some ⟨b12, 0, none⟩))], [.blk b12 cells1, .blk b4 [.int .i64 0, .string ⟨⟨[]⟩⟩, .int .i64 0, .int .i64 0, .slice none 0 0, .int .i64 0, .slice none 0 0, .int .i64 0, .slice none 0 0], .blk b3 [.int .i64 k, .string nm, .int .i64 num, .int .i64 tk, .slice pt tks.length ct, .int .i64 fk, .slice pf fks.length cf, .int .i64 lb, .slice p 0 c]], G1⟩) (fun _ => True) (fun _ => 0) 0 ?_ ?_ ?_)
 ·exact D5
 ·trivial
 ·(rintro (_ : Nat) _)
  refine D0 ?_
  refine sP (A3W rfl rfl (by omega)) rfl rfl ?_
  refine J4 ?_
  refine sP (E4 rfl rfl (by omega)) rfl rfl ?_
  refine sD (nS (cF rfl (tK (nS (tS (tR ?_))))))
  refine sL (A2 rfl rfl (A6 (by repeat first | exact mH | apply mT)) hul) rfl rfl ?_
  refine sQ (qM rfl) rfl ?_
  refine sS rfl rfl rfl hul huo rfl ?_ (hu := by exact C2 hul.symm)
  refine sQ (qA rfl) rfl (sD (nS (tT ?_)))
  refine D6 (rC rfl (A2 rfl rfl (A6 (by repeat first | exact mH | apply mT)) hul)) (rT rfl) ?_
  (exact ⟨rfl, cells1, rfl, hru⟩)
theorem A94 (k : Int) (nm : ByteArray) (num : Int) (ty fr : Ty) (lb : Int) (ks : List Tm) (n : Int) (us : List Tm) (m : Int) (h : Q2 ks n = (us, m)) : (k = 14 → N9 (.mk k nm num ty fr lb ks) n = (.mk k nm num ty fr (m + 1) us, m + 1)) ∧ (k ≠ 14 → N9 (.mk k nm num ty fr lb ks) n = (.mk k nm num ty fr lb us, m)) := by
 rw [N9, h]
 exact ⟨fun hk => by rw [if_pos hk, if_pos hk], fun hk => by rw [if_neg hk, if_neg hk]⟩
theorem B5s : ∀ (t : Tm) (n : Int) (G : IM) (cells : List Value), N6 t → t.small → 0 ≤ n → n + ((M6 t).length : Int) ≤ 1000 → A7 G t cells → Fn Tryz.prog 99 [.agg ⟨cells⟩, .int .i64 n] [] G (RlP (N9 t n)) := by
 refine Tm.ind fun k nm num ty fr lb ks ih n G cells hq hts hn0 hn1 hr => ?_
 by_cases hk0 : ks = []
 ·subst hk0
  have hk14 : k ≠ 14 := fun h => by obtain ⟨a, h1, _⟩ := B4N hq h; cases h1
  rw [(A94 k nm num ty fr lb [] n [] n rfl).2 hk14]
  exact B5r k nm num ty fr lb hk14 n G cells hts hr
 have h0 : 0 < ks.length := List.length_pos_iff.2 hk0
 have hone := hr.one
 have hC := A1J _ G cells hts hr
 have hqL : A1Y ks := by rw [N6] at hq; exact hq.2
 have hks : Tm.smallL ks := by rw [Tm.small] at hts; exact hts.2.2.2.2
 have hcL : n + ((M7 ks).length : Int) ≤ 1000 := by rw [M6, List.length_append] at hn1; omega
 have hML := A94 k nm num ty fr lb ks n
 have hstep := B5q ks n
 have hsnd := fun i => A6s (ks.take i) n
 have hcs := fun i h => A6y (ks := ks) (i := i) h
 have hct : ∀ i, (M7 (ks.take i)).length ≤ (M7 ks).length := fun i => by
  have h9 := A4F (ks.take i) (ks.drop i)
  rw [List.take_append_drop] at h9
  rw [h9, List.length_append]; omega
 have hml : ∀ i, (Q2 (ks.take i) n).1.length = (ks.take i).length := fun i => A93 _ _
 generalize N9 (.mk k nm num ty fr lb ks) n = R at hML ⊢
 obtain ⟨tk, tks⟩ := ty
 obtain ⟨fk, fks⟩ := fr
 obtain ⟨pt, ct, pf, cf, p, c, es, rfl, hk, hnum, hlb, hty, hfr, hsl, hkl⟩ := hr.open9
 have hn := hsl.le
 refine B5 Tryz.func99 rfl Tryz.ntmps99 Tryz.results99 rfl ?_
 intro w0
 refine tS (tR ?_)
 refine sE (C0 rfl rfl) rfl (fun b3 => ?_)
 refine sE (A5 rfl) rfl (fun b4 => ?_)
 refine I1 ?_
 (refine D3 rfl hC rfl rfl (fun v G1 hle1 hh => ?_); obtain ⟨cells1, F1, rfl, hs1, hn1⟩ := hh; obtain ⟨p7, c7, p8, c8, bc, c1, A, C, es1, rfl, hgb, hGb, hel, hea, hc1, hm1, hGle, hrt, hrf⟩ := B5l hs1 hn1 hle1 h0; simp only [Ty.k, Ty.ks] at hrt hrf ⊢)
 refine sE (A5 rfl) rfl (fun b12 => ?_)
 refine F8 ?_
 refine sD (nS (tS (tS (tR (sQ (qA rfl) rfl (sD (nS ?_)))))))
 refine B9 ?_
 (refine B0Y [(bc, A ++ (es1.flatten ++ C))] (by simp) (by simp only [List.mem_singleton, forall_eq]; exact ⟨hgb, hGb⟩) ?_; refine K3 (fun (x : Nat × List (List Value) × List Tm × Int × IM) => ⟨[(7, .int .i64 x.1), (1, .int .i64 x.2.2.2.1), (2, .pointer (some ⟨b3, 0, none⟩)), (4, .pointer (some ⟨b4, 0, none⟩)), (6, .pointer (some ⟨b12, 0, none⟩))], [.blk bc (A ++ ((x.2.1 ++ es1.drop x.1).flatten ++ C)), .blk b12 [.int .i64 k, .string nm, .int .i64 num, .int .i64 tk, .slice p7 tks.length c7, .int .i64 fk, .slice p8 fks.length c8, .int .i64 lb, .slice (some ⟨bc, A.length, none⟩) ks.length c1], .blk b4 [.int .i64 0, .string ⟨⟨[]⟩⟩, .int .i64 0, .int .i64 0, .slice none 0 0, .int .i64 0, .slice none 0 0, .int .i64 0, .slice none 0 0], .blk b3 [.int .i64 k, .string nm, .int .i64 num, .int .i64 tk, .slice pt tks.length ct, .int .i64 fk, .slice pf fks.length cf, .int .i64 lb, .slice p ks.length c]], x.2.2.2.2⟩) (fun x => x.1 ≤ ks.length ∧ B6 (Wo G1 [bc]) x.2.2.2.2 ∧ Q2 (ks.take x.1) n = (x.2.2.1, x.2.2.2.1) ∧ C6 x.2.2.2.2 x.2.2.1 x.2.1) (fun x => ks.length - x.1) (0, [], [], n, Wo G1 [bc]) ?_ ?_ ?_)
 (simp only [I5]; exact D5)
 (exact ⟨Nat.zero_le _, B6.refl _, rfl, by simp only [C6]⟩)
 (rintro ⟨(i : Nat), es', ms, (m : Int), Gi⟩ ⟨hi, hle, hmm, hst⟩; simp only [] at hi hle hmm hst ⊢; have hsm := hsnd i; have hmli := hml i; rw [hmm] at hsm hmli; simp only [] at hsm hmli; have hcti := hct i; have hsL : es'.length = i := (by rw [hst.len, hmli, List.length_take]; omega))
 refine D0 ?_
 refine sB (K1 rfl rfl) rfl rfl (fun h34 => ?_) (fun h34 => ?_)
 refine sD (nS (qT rfl (tK (nS (tS ?_)))))
 refine B9 ?_
 refine P6 ?_
 (have hiK : i < ks.length := (by omega); have hst9 := hstep i hiK; rw [hmm] at hst9; have hcsi := hcs i hiK; have hct2 := hct (i + 1); obtain ⟨b0, o0, e0, hp0, hl0, hat0, hre0, hgb0⟩ := (hsl.mono (hGle.trans hle)).kidTm (hkl.mono (hGle.trans hle)) (i := i) hiK hiK; subst hp0; have hih := ih ks[i] (List.getElem_mem hiK) m Gi e0 (A9T hqL _ (List.getElem_mem hiK)) (Tm.smallL_mem hks _ (List.getElem_mem hiK)) (by omega) (by omega) hre0; refine sP (B0 rfl rfl rfl hiK) rfl rfl ?_)
 refine sL (A2 rfl rfl (hat0 _) hl0) rfl rfl ?_
 refine sQ (qM rfl) rfl ?_
 (refine D3 rfl hih rfl rfl (fun v G2 hle2 hh => ?_); obtain ⟨yc, rfl, hry⟩ := hh; have hly := hry.len; have hoy := hry.one; have hsn := C6.snoc (hst.mono hle2) hry)
 refine I6 ?_
 refine sE (A5 rfl) rfl (fun b54 => ?_)
 refine sS rfl rfl rfl hly hoy rfl ?_ (hu := by exact C2 hly.symm)
 refine D8 ?_
 refine sL (A2 rfl rfl (A6 (by repeat first | exact mH | apply mT)) hly) rfl rfl ?_
 refine sP (B0 (j := i) rfl rfl rfl (by omega)) rfl rfl ?_
 refine O0 rfl rfl rfl hly hoy rfl (by repeat first | exact Sw.here | apply Sw.there) (B5o hsL (by rw [hel]; omega) hst.all hea hly) ?_
 refine H8 ?_
 refine sP (J6 rfl rfl (by omega) (by omega)) rfl rfl ?_
 refine sQ (qA rfl) rfl (sD ?_)
 refine K0 (i + 1, es' ++ [yc], ms ++ [(N9 ks[i] m).1], (N9 ks[i] m).2, G2) ?_ ?_ ?_
 (simp only [I5]; exact D5)
 (dsimp only; exact ⟨by omega, hle.trans hle2, hst9, hsn⟩)
 (show ks.length - (i + 1) < ks.length - i; omega)
 refine H8 ?_
 (have hik : i = ks.length := (by omega); subst hik; rw [List.drop_of_length_le (Nat.le_of_eq hel), List.append_nil]; rw [List.take_length] at hmm hmli; have hML2 := hML _ _ hmm; refine A2C (bs := [(bc, A ++ (es'.flatten ++ C))]) (Pk.perm (by repeat (first | exact Pk.here | apply Pk.there))) (fun hn9 hd9 hle9 => ?_); have hro := A92 (nm := nm) hk hnum hlb hrt hrf (hle.trans hle9) (Wi.in hn9 List.mem_cons_self) (hst.mono hle9) hmli hc1 hm1; have hro2 := fun (hl1 : F4 (m + 1)) => A92 (nm := nm) hk hnum hl1 hrt hrf (hle.trans hle9) (Wi.in hn9 List.mem_cons_self) (hst.mono hle9) hmli hc1 hm1; simp only [Ty.k, Ty.ks] at hro hro2)
 refine tR (sQ (A9 rfl) rfl (sL (B7 rfl rfl) rfl rfl ?_))
 refine sB (qE rfl rfl) rfl rfl (fun h98 => ?_) (fun h98 => ?_)
 refine sD (nS (qT rfl (tS (tR (sQ (qM rfl) rfl ?_)))))
 refine sP (J6 rfl rfl (by omega) (by omega)) rfl rfl ?_
 refine T4 ?_
 refine D6 (rC rfl (A3 rfl rfl)) (rT rfl) ?_
 (exact RlP.mk (hML2.1 (by omega)) (hro2 ⟨by omega, by omega⟩))
 refine L1 ?_
 refine D6 (rC rfl (A3 rfl rfl)) (rT rfl) ?_
 (exact RlP.mk (hML2.2 (by omega)) hro)
theorem B5t (t : Tm) (G : IM) (cells : List Value) (hcnt : C7 t ≤ 4294967296) (hr : A7 G t cells) : Fn Tryz.prog 39 [.agg ⟨cells⟩] [] G (TbR (A0N t)) := by
 have hl := hr.len
 have hone := hr.one
 have hV := A3q t G cells hcnt hr
 have hC := B5p t G cells hcnt hr
 have hR := fun (h : I2 t = true) (h2 : (M6 t).length ≤ 99) => B5s t 0 G cells (B4O t (A0m h).1) (A2Y h) (Int.le_refl _) (by omega) hr
 have hy := @A6t t
 have hn := @A6u t
 have hm := @A6v t
 generalize A0N t = R at hy hn hm ⊢
 refine B5 Tryz.func39 rfl Tryz.ntmps39 Tryz.results39 rfl ?_
 intro w0
 refine tS (tR ?_)
 refine sE (C0 rfl rfl) rfl (fun b3 => ?_)
 refine sE (A5 rfl) rfl (fun b4 => ?_)
 refine sQ (qA rfl) rfl (sD (nS (tS (tS (tR ?_)))))
 refine sL (A2 rfl rfl (A6 (by repeat first | exact mH | apply mT)) hl) rfl rfl ?_
 refine F9 rfl (hV) rfl rfl (fun h12 => ?_) (fun h12 => ?_)
 refine sQ (S6 rfl) rfl (sQ (qM rfl) rfl ?_)
 refine sL (A2 rfl rfl (A6 (by repeat first | exact mH | apply mT)) hl) rfl rfl ?_
 refine E8 rfl (hC) rfl rfl ?_
 refine sB (W2 rfl rfl) rfl rfl (fun h17 => ?_) (fun h17 => ?_)
 refine J4 ?_
 refine D6 (rC rfl (A3 rfl rfl)) (rT rfl) ?_
 (exact TbR.mk (hm (by omega)) (M5 _))
 refine D8 ?_
 refine sL (A2 rfl rfl (A6 (by repeat first | exact mH | apply mT)) hl) rfl rfl ?_
 (refine D3 rfl (hR (by assumption) (by omega)) rfl rfl (fun v3 G3 hle3 hh => ?_); obtain ⟨cu, rfl, hru⟩ := hh; have hul := hru.len; have huo := hru.one)
 refine I6 ?_
 refine sE (A5 rfl) rfl (fun b46 => ?_)
 refine sS rfl rfl rfl hul huo rfl ?_ (hu := by exact C2 hul.symm)
 refine sQ (qA rfl) rfl (sD (nS (tS (tR ?_))))
 refine sL (A2 rfl rfl (A6 (by repeat first | exact mH | apply mT)) hul) rfl rfl ?_
 refine sS rfl rfl rfl hul huo rfl ?_ (hu := by exact C2 hul.symm)
 refine sQ (qA rfl) rfl (sD (nS (tT ?_)))
 refine D6 (rC rfl (A2 rfl rfl (A6 (by repeat first | exact mH | apply mT)) hul)) (rT rfl) ?_
 (exact TbR.mk (hy (by assumption) (by omega)) hru)
 refine T4 ?_
 refine D6 (rC rfl (A3 rfl rfl)) (rT rfl) ?_
 (exact TbR.mk (hn (by assumption)) (M5 _))
theorem A3L {e : Tm} {a b : Ty} {l : Int} {N : Nat} (h : e.fit N) (ha : a.small) (hb : b.small) : (K8 e a b l).fit (N + 1) := ⟨A1P h.1 ha hb, by rw [A1Q]; exact Nat.succ_le_succ h.2⟩
theorem A1E {e : Tm} {N M : Nat} (h : e.fit N) (hm : N ≤ M) : e.fit M := ⟨h.1, Nat.le_trans h.2 hm⟩
theorem B5u (br : Nat) (pb : Option Addr) (nb cb : Nat) (bs : List UInt8) (hnb : nb ≤ 2000) (p : Nat) (G : IM) (hb : Sl G pb nb cb 1 (N7 bs)) (hp : p + 9200000 < 1099511627776) :
  Fn Tryz.prog 81 [.pointer (some ⟨br, 0, none⟩)] [rd br pb nb cb p] G
   (Z2 br pb nb cb p 9200000 (fun G' v => ∃ e cells, v = .agg ⟨cells⟩ ∧ A7 G' e cells ∧ e.fit 103)) := by
 refine B5 Tryz.func81 rfl Tryz.ntmps81 Tryz.results81 rfl ?_
 intro w0
 refine tS (tR ?_)
 refine sE (A5 rfl) rfl (fun b3 => ?_)
 refine sD (nS (tS (tR (sQ (qM rfl) rfl ?_))))
 (have hcall := A9O br pb nb cb bs hnb p _ hb (by omega); refine H1 rfl hcall (Pk.perm (by repeat (first | exact Pk.here | apply Pk.there))) rfl rfl (fun v G1 outs hle1 hh => ?_); obtain ⟨p1, hp11, hp12, rfl, e0, ce0, rfl, hr0, hf0⟩ := hh; replace hb := hb.mono hle1; have hl0 := hr0.len; have ho0 := hr0.one; have hT0 := B5b e0 _ ce0 (by have := hf0.2; omega) hr0)
 refine sE (A5 rfl) rfl (fun b10 => ?_)
 refine sS rfl rfl rfl hl0 ho0 rfl ?_ (hu := by exact C2 hl0.symm)
 refine sD (nS (tS (tR ?_)))
 refine sL (A2 rfl rfl (A6 (by repeat first | exact mH | apply mT)) hl0) rfl rfl ?_
 focus (refine D3 rfl hT0 rfl rfl (fun v G2 hle2 hh => ?_); obtain ⟨cT, T, rfl, hrT, hTT⟩ := hh; obtain ⟨pT, dT, eT, rfl, _⟩ := hrT.open; replace hb := hb.mono hle2; replace hr0 := hr0.mono hle2; have hsT := @B4P e0; rcases hTY : S9 e0 with _ | T2; rotate_left; obtain rfl := hTT _ hTY; replace hsT := hsT hTY; rotate_left)
 refine I6 ?_
 refine sE (A5 rfl) rfl (fun b21 => ?_)
 refine Y2 ?_
 refine tK (nS (tS (tR (sQ (qM rfl) rfl ?_))))
 refine sL (A2 rfl rfl (A6 (by repeat first | exact mH | apply mT)) hl0) rfl rfl ?_
 (have hcall := A1X br pb nb cb bs hnb p1 _ hb (by omega) _ ce0 103 (A1E hf0 (by omega)) hr0; refine H1 rfl hcall (Pk.perm (by repeat (first | exact Pk.here | apply Pk.there))) rfl rfl (fun v Gn outs hle9 hh => ?_); obtain ⟨p9, hp91, hp92, rfl, e, ce, rfl, hre, hfe⟩ := hh; have hl9 := hre.len; have ho9 := hre.one)
 refine O0 rfl rfl rfl (by assumption) (by assumption) rfl (by repeat first | exact Sw.here | apply Sw.there) (by exact C2 (by symm; assumption)) ?_
 refine sD (nS (tT ?_))
 refine H4 (outs := [rd br pb nb cb p9]) (rC rfl (A2 rfl rfl (A6 (by repeat first | exact mH | apply mT)) hl9)) (by repeat (first | exact A0.nil | refine A0.cons Pk.here ?_ | refine A0.cons (Pk.there Pk.here) ?_ | refine A0.cons (Pk.there (Pk.there Pk.here)) ?_ | apply A0.drop)) ?_
 (exact ⟨p9, by omega, by omega, rfl, e, ce, rfl, hre, hfe⟩)
 refine I6 ?_
 refine sE (A5 rfl) rfl (fun b68 => ?_)
 refine H8 ?_
 (refine H1 rfl (S8 _ br pb nb cb p1 bs 2 hb hnb (by omega)) (Pk.perm (by repeat (first | exact Pk.here | apply Pk.there))) rfl rfl (fun v G3 outs hle3 hh => ?_); obtain ⟨rfl, rfl, j1, rfl, hj1, hk1⟩ := hh)
 refine sB (qE rfl rfl) rfl rfl (fun h80 => ?_) (fun h80 => ?_)
 refine sQ (H9 rfl rfl) rfl (sD (nS (qT rfl (tR ?_))))
 refine sL (A2 rfl rfl (A6 (by repeat first | exact mH | apply mT)) hl0) rfl rfl ?_
 refine sL (A3 rfl rfl) rfl rfl (sL (A3 rfl rfl) rfl rfl ?_)
 (refine D3 rfl (X9 e0 T T 61 _ ce0 _ _ ⟨by decide, by decide⟩ hr0 hrT hrT hsT hsT) rfl rfl (fun v G4 hle4 hh => ?_); obtain ⟨ce1, rfl, hr1⟩ := hh; have hl1 := hr1.len; have ho1 := hr1.one; replace hb := hb.mono hle4; replace hrT := hrT.mono hle4; have hf1 := A3L (l := 61) hf0 hsT hsT)
 refine O0 rfl rfl rfl hl1 ho1 rfl (by repeat first | exact Sw.here | apply Sw.there) (by exact C2 (by omega)) ?_
 refine D8 ?_
 (refine H1 rfl (S8 _ br pb nb cb (p1 + 1) bs 2 hb hnb (by omega)) (Pk.perm (by repeat (first | exact Pk.here | apply Pk.there))) rfl rfl (fun v G5 outs hle5 hh => ?_); obtain ⟨rfl, rfl, j2, rfl, hj2, hk2⟩ := hh)
 refine sB (qE rfl rfl) rfl rfl (fun h100 => ?_) (fun h100 => ?_)
 refine sQ (H9 rfl rfl) rfl (sD (nS (qT rfl ?_)))
 refine C9 D1 rfl ?_
 refine L0 (i := 0) (l' := [tt,ff,ff,ff,ff,ff,ff,ff]) rfl C4 (A2 rfl rfl (A6 (by repeat first | exact mH | apply mT)) hl1) rfl (by kernel_rfl) rfl rfl ?_
 refine aL 1 rfl (A3 rfl rfl) rfl ?_
 refine aL 5 rfl (A3 rfl rfl) rfl ?_
 refine A1 2 ?_
 refine J0 rfl rfl ((A0x _)) rfl rfl rfl ?_
 refine A1 3 ?_
 (refine E1 rfl rfl (X9 _ T L9 62 _ ce1 _ _ ⟨by decide, by decide⟩ hr1 hrT (A23 _) hsT A1V) rfl rfl rfl (fun v G6 hle6 hh => ?_); obtain ⟨ce2, rfl, hr2⟩ := hh; have hl2 := hr2.len; have ho2 := hr2.one; replace hb := hb.mono hle6; replace hrT := hrT.mono hle6; have hf2 := A1E (M := 102) (A3L (l := 62) hf1 hsT A1V) (by omega))
 refine A1 4 ?_
 refine J0 rfl rfl ((A0x _)) rfl rfl rfl ?_
 refine A1 6 ?_
 (refine E1 rfl rfl (X9 _ L9 T 63 _ ce2 _ _ ⟨by decide, by decide⟩ hr2 (A23 _) hrT A1V hsT) rfl rfl rfl (fun v G7 hle7 hh => ?_); obtain ⟨ce3, rfl, hr3⟩ := hh; have hl3 := hr3.len; have ho3 := hr3.one; replace hb := hb.mono hle7; have hf3 := A3L (l := 63) hf2 A1V hsT)
 refine A1 7 ?_
 refine N4 rfl rfl rfl rfl hl3 ho3 rfl rfl (by kernel_rfl) (by repeat first | exact Sw.here | apply Sw.there) (by exact C2 (by omega)) ?_
 refine B8 (nS (tS (tR (sQ (qM rfl) rfl ?_))))
 refine sL (A2 rfl rfl (A6 (by repeat first | exact mH | apply mT)) hl3) rfl rfl ?_
 (have hcall := A1X br pb nb cb bs hnb (p1 + 1 + 1) _ hb (by omega) _ ce3 103 (A1E hf3 (by omega)) hr3; refine H1 rfl hcall (Pk.perm (by repeat (first | exact Pk.here | apply Pk.there))) rfl rfl (fun v Gn outs hle9 hh => ?_); obtain ⟨p9, hp91, hp92, rfl, e, ce, rfl, hre, hfe⟩ := hh; have hl9 := hre.len; have ho9 := hre.one)
 refine O0 rfl rfl rfl (by assumption) (by assumption) rfl (by repeat first | exact Sw.here | apply Sw.there) (by exact C2 (by symm; assumption)) ?_
 refine sD (nS (tT ?_))
 refine H4 (outs := [rd br pb nb cb p9]) (rC rfl (A2 rfl rfl (A6 (by repeat first | exact mH | apply mT)) hl9)) (by repeat (first | exact A0.nil | refine A0.cons Pk.here ?_ | refine A0.cons (Pk.there Pk.here) ?_ | refine A0.cons (Pk.there (Pk.there Pk.here)) ?_ | apply A0.drop)) ?_
 (exact ⟨p9, by omega, by omega, rfl, e, ce, rfl, hre, hfe⟩)
 refine D7 ?_
 refine sL (A2 rfl rfl (A6 (by repeat first | exact mH | apply mT)) hl1) rfl rfl ?_
 (have hcall := A1X br pb nb cb bs hnb (p1 + 1 + 1) _ hb (by omega) _ ce1 103 (A1E hf1 (by omega)) hr1; refine H1 rfl hcall (Pk.perm (by repeat (first | exact Pk.here | apply Pk.there))) rfl rfl (fun v Gn outs hle9 hh => ?_); obtain ⟨p9, hp91, hp92, rfl, e, ce, rfl, hre, hfe⟩ := hh; have hl9 := hre.len; have ho9 := hre.one)
 refine O0 rfl rfl rfl (by assumption) (by assumption) rfl (by repeat first | exact Sw.here | apply Sw.there) (by exact C2 (by symm; assumption)) ?_
 refine sD (nS (tT ?_))
 refine H4 (outs := [rd br pb nb cb p9]) (rC rfl (A2 rfl rfl (A6 (by repeat first | exact mH | apply mT)) hl9)) (by repeat (first | exact A0.nil | refine A0.cons Pk.here ?_ | refine A0.cons (Pk.there Pk.here) ?_ | refine A0.cons (Pk.there (Pk.there Pk.here)) ?_ | apply A0.drop)) ?_
 (exact ⟨p9, by omega, by omega, rfl, e, ce, rfl, hre, hfe⟩)
 refine M9 ?_
 (refine H1 rfl (S8 _ br pb nb cb (p1 + 1) bs 2 hb hnb (by omega)) (Pk.perm (by repeat (first | exact Pk.here | apply Pk.there))) rfl rfl (fun v G5 outs hle5 hh => ?_); obtain ⟨rfl, rfl, j2, rfl, hj2, hk2⟩ := hh)
 refine sB (qE rfl rfl) rfl rfl (fun h162 => ?_) (fun h162 => ?_)
 refine sQ (H9 rfl rfl) rfl (sD (nS (qT rfl ?_)))
 refine C9 D1 rfl ?_
 refine L0 (i := 0) (l' := [tt,ff,ff,ff,ff,ff,ff,ff]) rfl C4 (A2 rfl rfl (A6 (by repeat first | exact mH | apply mT)) hl0) rfl (by kernel_rfl) rfl rfl ?_
 refine aL 1 rfl (A3 rfl rfl) rfl ?_
 refine aL 5 rfl (A3 rfl rfl) rfl ?_
 refine A1 2 ?_
 refine J0 rfl rfl ((A0x _)) rfl rfl rfl ?_
 refine A1 3 ?_
 (refine E1 rfl rfl (X9 e0 T L9 62 _ ce0 _ _ ⟨by decide, by decide⟩ hr0 hrT (A23 _) hsT A1V) rfl rfl rfl (fun v G6 hle6 hh => ?_); obtain ⟨ce2, rfl, hr2⟩ := hh; have hl2 := hr2.len; have ho2 := hr2.one; replace hb := hb.mono hle6; replace hrT := hrT.mono hle6; have hf2 := A1E (M := 102) (A3L (l := 62) hf0 hsT A1V) (by omega))
 refine A1 4 ?_
 refine J0 rfl rfl ((A0x _)) rfl rfl rfl ?_
 refine A1 6 ?_
 (refine E1 rfl rfl (X9 _ L9 T 63 _ ce2 _ _ ⟨by decide, by decide⟩ hr2 (A23 _) hrT A1V hsT) rfl rfl rfl (fun v G7 hle7 hh => ?_); obtain ⟨ce3, rfl, hr3⟩ := hh; have hl3 := hr3.len; have ho3 := hr3.one; replace hb := hb.mono hle7; have hf3 := A3L (l := 63) hf2 A1V hsT)
 refine A1 7 ?_
 refine N4 rfl rfl rfl rfl hl3 ho3 rfl rfl (by kernel_rfl) (by repeat first | exact Sw.here | apply Sw.there) (by exact C2 (by omega)) ?_
 refine B8 (nS (tS (tR (sQ (qM rfl) rfl ?_))))
 refine sL (A2 rfl rfl (A6 (by repeat first | exact mH | apply mT)) hl3) rfl rfl ?_
 (have hcall := A1X br pb nb cb bs hnb (p1 + 1 + 1) _ hb (by omega) _ ce3 103 (A1E hf3 (by omega)) hr3; refine H1 rfl hcall (Pk.perm (by repeat (first | exact Pk.here | apply Pk.there))) rfl rfl (fun v Gn outs hle9 hh => ?_); obtain ⟨p9, hp91, hp92, rfl, e, ce, rfl, hre, hfe⟩ := hh; have hl9 := hre.len; have ho9 := hre.one)
 refine O0 rfl rfl rfl (by assumption) (by assumption) rfl (by repeat first | exact Sw.here | apply Sw.there) (by exact C2 (by symm; assumption)) ?_
 refine sD (nS (tT ?_))
 refine H4 (outs := [rd br pb nb cb p9]) (rC rfl (A2 rfl rfl (A6 (by repeat first | exact mH | apply mT)) hl9)) (by repeat (first | exact A0.nil | refine A0.cons Pk.here ?_ | refine A0.cons (Pk.there Pk.here) ?_ | refine A0.cons (Pk.there (Pk.there Pk.here)) ?_ | apply A0.drop)) ?_
 (exact ⟨p9, by omega, by omega, rfl, e, ce, rfl, hre, hfe⟩)
 refine D7 ?_
 refine sL (A2 rfl rfl (A6 (by repeat first | exact mH | apply mT)) hl0) rfl rfl ?_
 (have hcall := A1X br pb nb cb bs hnb (p1 + 1 + 1) _ hb (by omega) _ ce0 103 (A1E hf0 (by omega)) hr0; refine H1 rfl hcall (Pk.perm (by repeat (first | exact Pk.here | apply Pk.there))) rfl rfl (fun v Gn outs hle9 hh => ?_); obtain ⟨p9, hp91, hp92, rfl, e, ce, rfl, hre, hfe⟩ := hh; have hl9 := hre.len; have ho9 := hre.one)
 refine O0 rfl rfl rfl (by assumption) (by assumption) rfl (by repeat first | exact Sw.here | apply Sw.there) (by exact C2 (by symm; assumption)) ?_
 refine sD (nS (tT ?_))
 refine H4 (outs := [rd br pb nb cb p9]) (rC rfl (A2 rfl rfl (A6 (by repeat first | exact mH | apply mT)) hl9)) (by repeat (first | exact A0.nil | refine A0.cons Pk.here ?_ | refine A0.cons (Pk.there Pk.here) ?_ | refine A0.cons (Pk.there (Pk.there Pk.here)) ?_ | apply A0.drop)) ?_
 (exact ⟨p9, by omega, by omega, rfl, e, ce, rfl, hre, hfe⟩)
def A95 (N : Nat) : IM → Value → List A4 → Prop := K4 fun G' v => ∃ e cells, v = .agg ⟨cells⟩ ∧ A7 G' e cells ∧ e.fit N
theorem B5v (G : IM) (q : Option Addr) (n c : Nat) (bs : List UInt8) (hb : Sl G q n c 1 (N7 bs)) : Fn Tryz.prog 37 [.slice q n c] [] G (A95 103) := by
 refine B5 Tryz.func37 rfl Tryz.ntmps37 Tryz.results37 rfl ?_
 intro w0
 refine tS (tR ?_)
 refine sE (A5 rfl) rfl (fun b3 => ?_)
 refine sD (nS (tS (tR (sQ (qM rfl) rfl ?_))))
 (refine H1 rfl (A75 G q n c bs hb) (List.Perm.refl _) rfl rfl (fun v G1 outs hle1 hh => ?_); obtain ⟨rfl, br, pb, nb, cb, bs', rfl, rfl, hnb, hb'⟩ := hh)
 (have hcall := B5u br pb nb cb bs' hnb 0 _ hb' (by omega); refine H1 rfl hcall (Pk.perm (by repeat (first | exact Pk.here | apply Pk.there))) rfl rfl (fun v Gn outs hle1 hh => ?_); obtain ⟨p1, hp11, hp12, rfl, e, ce, rfl, hre, hfe⟩ := hh; have hl1 := hre.len; have ho1 := hre.one)
 refine O0 rfl rfl rfl (by assumption) (by assumption) rfl (by repeat first | exact Sw.here | apply Sw.there) (by exact C2 (by symm; assumption)) ?_
 refine sD (nS (tT ?_))
 refine E2 (rC rfl (A2 rfl rfl (A6 (by repeat first | exact mH | apply mT)) hl1)) ?_
 (exact ⟨rfl, e, ce, rfl, hre, hfe⟩)
def B6F (N : Nat) : IM → Value → List A4 → Prop := K4 fun G' v => ∃ e cells l, v = .tuple ⟨[.agg ⟨cells⟩, .int .i64 l]⟩ ∧ A7 G' e cells ∧ e.fit N ∧ F4 l
theorem A6z {P : Program} {Γ : L7} {env : M2} {hp : List A4} {G : IM} {ty : TypeId} {x y : Operand} {t t' : TypeId} {r : ByteArray} (hx : evo env x = some (.string r)) (hy : evo env y = some (.string r)) :
  J1 P Γ ⟨env, hp, G⟩ (.binOp .eql t x y t') ty (.bool true) := by
 have h := A05 (P := P) (Γ := Γ) (hp := hp) (G := G) (t := t) (t' := t') (ty := ty) hx hy
 simpa using h
theorem A3M {P : Program} {Γ : L7} {env : M2} {hp : List A4} {G : IM} {ty : TypeId} {x y : Operand} {t t' : TypeId} {i : L5} [hI : J3 P t i] (hd : i.desc = .bool) {r : Bool} (hx : evo env x = some (.bool r)) (hy : evo env y = some (.bool r)) :
  J1 P Γ ⟨env, hp, G⟩ (.binOp .eql t x y t') ty (.bool true) := by
 have h := B0w (P := P) (Γ := Γ) (hp := hp) (G := G) (t := t) (t' := t') (ty := ty) (i := i) hd hx hy
 simpa using h
theorem A6A : ∀ (t : Ty) (G : IM) (cells cells' : List Value), B3 G t cells → B3 G t cells' → Fn Tryz.prog 30 [.agg ⟨cells⟩, .agg ⟨cells'⟩] [] G (I0 (.bool true) G) := by
 refine Ty.ind fun k ks ih G cells cells' hr hr' => ?_
 obtain ⟨p, c, es, rfl, hk, hsl, hkl⟩ := hr.open
 obtain ⟨p', c', es', rfl, hk', hsl', hkl'⟩ := hr'.open
 simp only [Ty.k, Ty.ks] at hk hsl hkl hk' hsl' hkl' ⊢
 refine B5 Tryz.func30 rfl Tryz.ntmps30 Tryz.results30 rfl ?_
 intro w0
 refine tS (tR ?_)
 refine sE (C0 rfl rfl) rfl (fun b3 => ?_)
 refine sE (C0 rfl rfl) rfl (fun b4 => ?_)
 refine D7 ?_
 refine sP (Q0 rfl rfl (by omega)) rfl rfl ?_
 refine P6 ?_
 refine E8 rfl (A5o _ _ _ _ _ _ _ _ _ hsl hsl' _ [] [] [] (fun _ => true) true (by simp) (fun i e e' he he' => ih (ks.getD i B1) (hkl.inv he B1).1 _ _ _ (hkl.inv he B1).2 (hkl'.inv he' B1).2)) rfl rfl ?_
 refine I1 ?_
 exact ⟨rfl, rfl, rfl⟩
theorem B5w (G : IM) (p p' : Option Addr) (n c c' : Nat) (es es' : List (List Value)) (hsl : C5 G p n c 9 es) (hsl' : C5 G p' n c' 9 es') (fid : FuncId) [B4 Tryz.prog fid]
  (hq : ∀ (i : Nat) (e e' : List Value), es[i]? = some e → es'[i]? = some e' → Fn Tryz.prog fid [.agg ⟨e⟩, .agg ⟨e'⟩] [] G (U0 (.bool true) [] G)) :
  Fn Tryz.prog 56 [.slice p n c, .slice p' n c', .func (.func fid) ⟨[]⟩ ⟨[]⟩] [] G (I0 (.bool true) G) := by
 have hn := hsl.le
 refine B5 Tryz.func56 rfl Tryz.ntmps56 Tryz.results56 rfl ?_
 intro w0
 refine M9 ?_
 refine sP (A06 rfl rfl (by omega)) rfl rfl ?_
 refine J4 ?_
 refine B9 (K3 (fun i : Nat => ⟨[(17, .int .i64 i), (16, .int .i64 n), (15, .slice p n c), (2, .func (.func fid) ⟨[]⟩ ⟨[]⟩), (1, .slice p' n c'), (0, .slice p n c)], [], G⟩) (fun i => i ≤ n) (fun i => n - i) 0 ?_ ?_ ?_)
 exact D5
 exact Nat.zero_le _
 rintro i hi
 refine tS (tR ?_)
 refine sB (K1 rfl rfl) rfl rfl (fun h34 => ?_) (fun h34 => ?_)
 refine sD (nS (tS (qT rfl (tK (nS (tS ?_))))))
 refine B9 ?_
 refine tS (tR (sQ (qM rfl) rfl ?_))
 (obtain ⟨e, b, o, he, rfl, hl, _, hat, _⟩ := hsl.get (i := i) (by omega); refine sP (B0 rfl rfl rfl (by omega)) rfl rfl ?_)
 refine sL (A2 rfl rfl (hat _) hl) rfl rfl ?_
 refine sE (A5 rfl) rfl (fun b48 => ?_)
 refine sQ (qA rfl) rfl ?_
 refine O0 rfl rfl rfl (by assumption) (by assumption) rfl (by repeat first | exact Sw.here | apply Sw.there) (by exact C2 (by symm; assumption)) ?_
 refine sD (nS (tS (tR (sQ (qM rfl) rfl (sQ (qM rfl) rfl ?_)))))
 (obtain ⟨e', b', o', he', rfl, hl', _, hat', _⟩ := hsl'.get (i := i) (by omega); refine sP (B0 rfl rfl rfl (by omega)) rfl rfl ?_)
 refine sL (A2 rfl rfl (hat' _) hl') rfl rfl ?_
 refine sE (A5 rfl) rfl (fun b59 => ?_)
 refine O0 rfl rfl rfl (by assumption) (by assumption) rfl (by repeat first | exact Sw.here | apply Sw.there) (by exact C2 (by symm; assumption)) ?_
 refine sD (nS (tS (tR (sQ (qM rfl) rfl ?_))))
 refine sL (A2 rfl rfl (A6 (by repeat first | exact mH | apply mT)) (by assumption)) rfl rfl ?_
 refine sL (A2 rfl rfl (A6 (by repeat first | exact mH | apply mT)) (by assumption)) rfl rfl ?_
 refine A31 rfl rfl (hq i e e' he he') A6X rfl rfl (fun h68 => ?_) (fun h68 => ?_)
 simp only [Bool.not_eq_true', Bool.not_eq_false'] at h68
 refine D8 ?_
 refine sP (J6 rfl rfl (by omega) (by omega)) rfl rfl ?_
 refine sQ (qM rfl) rfl (sD ?_)
 refine K0 (i + 1) ?_ ?_ ?_
 exact D5
 omega
 omega
 refine K5 ?_
 (exact absurd (by assumption) (by decide))
 refine K5 ?_
 exact ⟨rfl, rfl, rfl⟩
theorem A96 : ∀ (t : Tm) (G : IM) (cells cells' : List Value), A7 G t cells → A7 G t cells' → Fn Tryz.prog 16 [.agg ⟨cells⟩, .agg ⟨cells'⟩] [] G (I0 (.bool true) G) := by
 refine Tm.ind fun k nm num ty fr lb ks ih G cells cells' hr hr' => ?_
 obtain ⟨tk, tks⟩ := ty
 obtain ⟨fk, fks⟩ := fr
 obtain ⟨pt, ct, pf, cf, p, c, es, rfl, hk, hnum, hlb, hty, hfr, hsl, hkl⟩ := hr.open9
 obtain ⟨pt', ct', pf', cf', p', c', es', rfl, _, _, _, hty', hfr', hsl', hkl'⟩ := hr'.open9
 have h1 := A6A (.mk tk tks) G _ _ hty hty'
 have h2 := A6A (.mk fk fks) G _ _ hfr hfr'
 refine B5 Tryz.func16 rfl Tryz.ntmps16 Tryz.results16 rfl ?_
 intro w0
 refine tS (tR ?_)
 refine sE (C0 rfl rfl) rfl (fun b3 => ?_)
 refine sE (C0 rfl rfl) rfl (fun b4 => ?_)
 refine D7 ?_
 refine sP (Q0 rfl rfl (by omega)) rfl rfl ?_
 refine P6 ?_
 refine sQ (A6z rfl rfl) rfl ?_
 refine I1 ?_
 refine sP (Q0 rfl rfl (by omega)) rfl rfl ?_
 refine I1 ?_
 refine E8 rfl (h1) rfl rfl ?_
 refine I1 ?_
 refine E8 rfl (h2) rfl rfl ?_
 refine I1 ?_
 refine sP (Q0 rfl rfl (by omega)) rfl rfl ?_
 refine I1 ?_
 refine E8 rfl (B5w _ _ _ _ _ _ _ _ hsl hsl' _ (fun i e e' he he' => ih (ks.getD i I3) (hkl.inv he I3).1 _ _ _ (hkl.inv he I3).2 (hkl'.inv he' I3).2)) rfl rfl ?_
 refine I1 ?_
 exact ⟨rfl, rfl, rfl⟩
inductive MV where
 | mk (k num : Int) (env parts : List MV)
def MV.k : MV → Int | .mk k _ _ _ => k
def MV.num : MV → Int | .mk _ n _ _ => n
def MV.env : MV → List MV | .mk _ _ e _ => e
def MV.parts : MV → List MV | .mk _ _ _ p => p
def mv0 : MV := .mk 0 0 [] []
mutual
def RMv (kc : Int → Int) (G : IM) : MV → List Value → Prop
 | .mk k num env parts, cells => ∃ p c es q d fs, cells = [.int .i64 (kc k), .int .i64 num, .slice p env.length c, .slice q parts.length d] ∧ F4 num ∧ F4 (kc k) ∧ C5 G p env.length c 4 es ∧ A25 kc G env es ∧ C5 G q parts.length d 4 fs ∧ A25 kc G parts fs
def A25 (kc : Int → Int) (G : IM) : List MV → List (List Value) → Prop
 | [], es => es = []
 | t :: ts, es => ∃ a r, es = a :: r ∧ RMv kc G t a ∧ A25 kc G ts r
end
section
variable {kc : Int → Int} {G : IM}
end

def RFr (kc : Int → Int) (G : IM) (f : Int × List MV) (cells : List Value) : Prop := ∃ p c es, cells = [.int .i64 f.1, .slice p f.2.length c] ∧ F4 f.1 ∧ C5 G p f.2.length c 4 es ∧ A25 kc G f.2 es
def A97 (kc : Int → Int) (G : IM) : List (Int × List MV) → List (List Value) → Prop
 | [], es => es = []
 | t :: ts, es => ∃ a r, es = a :: r ∧ RFr kc G t a ∧ A97 kc G ts r
section
variable {kc : Int → Int} {G : IM}
end

structure MSt where
 at' : Int
 st : List MV
 env : List MV
 fr : List (Int × List MV)
def RSs (kc : Int → Int) (G : IM) (s : MSt) (cells : List Value) : Prop := ∃ pe ce ps cs pf cf ee es ef, cells = [.int .i64 s.at', .slice pe s.env.length ce, .slice ps s.st.length cs, .slice pf s.fr.length cf] ∧ F4 s.at' ∧
 C5 G pe s.env.length ce 4 ee ∧ A25 kc G s.env ee ∧ C5 G ps s.st.length cs 4 es ∧ A25 kc G s.st es ∧ C5 G pf s.fr.length cf 2 ef ∧ A97 kc G s.fr ef
def A4O (k : Int) : Nat := if k = 6 ∨ k = 7 ∨ k = 8 ∨ k = 11 then 2 else if k = 9 ∨ k = 12 ∨ k = 13 then 1 else 0
def A6B (k : Int) : Int × Nat × Int := if k = 6 then (2, 1, 1) else if k = 7 ∨ k = 8 then (0, 2, 2) else if k = 9 then (1, 1, 3) else if k = 12 ∨ k = 13 then (3, 1, 4) else (0, 0, 0)
def A1Z (s : MSt) (v : MV) : MSt := { s with st := s.st ++ [v] }
def mGo (k a : Int) (s : MSt) (v : List MV) : MSt ⊕ (Int × Int) :=
 if k = 1 then .inl (A1Z s (.mk 0 a [] []))
 else if k = 2 then .inl (A1Z s (.mk 1 a [] []))
 else if k = 3 then (if (s.env.length : Int) - 1 - a < 0 then .inr (3, 0) else .inl (A1Z s (s.env.getD ((s.env.length : Int) - 1 - a).toNat mv0)))
 else if k = 4 then .inl { A1Z s (.mk 2 s.at' s.env []) with at' := s.at' + a }
 else if k = 5 then (if s.fr.length = 0 then .inr (3, 0) else .inl { s with at' := (s.fr.getD (s.fr.length - 1) (0, [])).1, env := (s.fr.getD (s.fr.length - 1) (0, [])).2, fr := s.fr.take (s.fr.length - 1) })
 else if k = 6 then .inl { s with at' := (v.getD 0 mv0).num, env := (v.getD 0 mv0).env ++ [v.getD 1 mv0], fr := s.fr ++ [(s.at', s.env)] }
 else if k = 7 then .inl (A1Z s (.mk 0 (((v.getD 0 mv0).num + (v.getD 1 mv0).num) % 1000) [] []))
 else if k = 8 then .inl (A1Z s (.mk 1 (if (v.getD 0 mv0).num < (v.getD 1 mv0).num then 1 else 0) [] []))
 else if k = 9 then .inl (if (v.getD 0 mv0).num = 0 then { s with at' := s.at' + a } else s)
 else if k = 10 then .inl { s with at' := s.at' + a }
 else if k = 11 then .inl (A1Z s (.mk 3 0 [] v))
 else .inl (A1Z s ((v.getD 0 mv0).parts.getD (k - 12).toNat mv0))
def B5x (k : Int) (v : List MV) : Bool := (v.take (A6B k).2.1).all fun u => decide (u.k = (A6B k).1)
def B5y (k a : Int) (s : MSt) : MSt ⊕ (Int × Int) :=
 if s.st.length < A4O k then .inr (3, 0)
 else if B5x k (s.st.drop (s.st.length - A4O k)) = true then mGo k a { s with at' := s.at' + 1, st := s.st.take (s.st.length - A4O k) } (s.st.drop (s.st.length - A4O k))
 else .inr (2, (A6B k).2.2)
def B5z (v : MV) : ByteArray := if v.k = 0 then ⟨(Lib.decDigits v.num.toNat).toArray⟩ else if v.k = 1 then (if v.num = 0 then ⟨#[70]⟩ else ⟨#[84]⟩) else if v.k = 2 then ⟨⟨[102, 117, 110, 99, 116, 105, 111, 110]⟩⟩ else ⟨⟨[112, 97, 105, 114]⟩⟩
def B5A (s : MSt) : ByteArray × Int × Int := if s.st.length ≠ 1 ∨ 0 < s.fr.length then (⟨#[]⟩, 3, 0) else (B5z (s.st.getD 0 mv0), 0, 0)
def A98 (ops : List (Int × Int)) : Nat → MSt → ByteArray × Int × Int
 | t, s => if (ops.length : Int) ≤ s.at' then B5A s else match t with
  | 0 => (⟨#[]⟩, 5, 0)
  | t + 1 => match B5y (ops.getD s.at'.toNat (0, 0)).1 (ops.getD s.at'.toNat (0, 0)).2 s with
   | .inl s' => A98 ops t s'
   | .inr (c, e) => (⟨#[]⟩, c, e)
def B5B (k behind : Int) : Int := if k = 1 then 999 else if k = 2 then 1 else if k = 3 then 11 else if k = 4 ∨ k = 9 ∨ k = 10 then behind else 0
def B5C (n : Nat) (i : Nat) (x : Int × Int) : Bool := decide (1 ≤ x.1 ∧ x.1 ≤ 13 ∧ 0 ≤ x.2 ∧ x.2 ≤ B5B x.1 ((n : Int) - 1 - i))
def B5D (ops : List (Int × Int)) : Bool := decide (1 ≤ ops.length ∧ ops.length ≤ 120) && (List.range ops.length).all fun i => B5C ops.length i (ops.getD i (0, 0))
def B6G (ops : List (Int × Int)) (ticks : Int) : ByteArray × Int × Int :=
 if B5D ops = true ∧ 0 ≤ ticks ∧ ticks ≤ 2000 then A98 ops ticks.toNat ⟨0, [], [], []⟩ else (⟨#[]⟩, 3, 0)
theorem B5E (k : Int) (nm : ByteArray) (num : Int) (ty fr : Ty) (lb : Int) (ks : List Tm) (G : IM) (cells : List Value) (hT : A0F G) (hk3 : k = 2 ∨ k = 3 ∨ k = 4) (hn : 0 ≤ num ∧ num ≤ 999) (hr : A7 G (.mk k nm num ty fr lb ks) cells) : Fn Tryz.prog 126 [.agg ⟨cells⟩] [] G (I0 (.string (A20 k num)) G) := by
 obtain ⟨tk, tks⟩ := ty
 obtain ⟨fk, fks⟩ := fr
 obtain ⟨pt, ct, pf, cf, p, c, es, rfl, hk, hnum, hlb, hty, hfr, hsl, hkl⟩ := hr.open9
 have hI := B1k num G hT hn.1 hn.2
 refine B5 Tryz.func126 rfl Tryz.ntmps126 Tryz.results126 rfl ?_
 intro w0
 refine tS (tR ?_)
 refine sE (C0 rfl rfl) rfl (fun b3 => ?_)
 refine sQ (qA rfl) rfl (sD (nS (tS (tR ?_))))
 refine sQ (A13 rfl rfl) rfl ?_
 refine H8 ?_
 refine B9 ?_
 refine tS (tR ?_)
 refine sP (E4 rfl rfl (by omega)) rfl rfl ?_
 refine sQ (qA rfl) rfl (sD (nS (cF rfl (tS (tR ?_)))))
 refine sB (qE rfl rfl) rfl rfl (fun h30 => ?_) (fun h30 => ?_)
 refine D8 ?_
 refine E8 rfl (hI) rfl rfl ?_
 refine sQ (qA rfl) rfl (sD (nS (tT (rB (rS (E2 (rT rfl) ?_))))))
 (exact ⟨rfl, by unfold A20; rw [if_pos (by omega)]; rfl, rfl⟩)
 refine sQ (qA rfl) rfl (sD (nS (cF rfl (tS (tR ?_)))))
 refine sB (qE rfl rfl) rfl rfl (fun h54 => ?_) (fun h54 => ?_)
 refine J4 ?_
 (exact ⟨rfl, by unfold A20; rw [if_neg (by omega), if_pos (by omega)]; rfl, rfl⟩)
 refine sQ (qA rfl) rfl (sD (nS (cF rfl (tS (tR ?_)))))
 refine sP (Q0 rfl rfl (by omega)) rfl rfl ?_
 refine J4 ?_
 (exact ⟨rfl, by unfold A20; rw [if_neg (by omega), if_neg (by omega)]; rfl, rfl⟩)
theorem B5F : ∀ (t : Tm) (G : IM) (cells : List Value), A0F G → cv t → E7 t = true → A7 G t cells → Fn Tryz.prog 58 [.agg ⟨cells⟩] [] G (I0 (.string (R0 t)) G) := by
 refine Tm.ind fun k nm num ty fr lb ks ih G cells hT hc hv hr => ?_
 have hr0 := hr
 have hP := A2m _ G _ hr
 obtain ⟨hN, hkk⟩ := hc.node
 have hop := hN.ops
 have h14 : k = 14 → ks.length = 1 := fun h => by rw [h] at hop; have : E0 14 = 1 := rfl; omega
 have hL := fun h => B5E k nm num ty fr lb ks G cells hT h hN.num0 hr
 have hvp := @B3J k nm num ty fr lb ks
 have hvf := @B3K k nm num ty fr lb ks
 have hvc := @A9f k nm num ty fr lb ks
 have hvl := @B3L k nm num ty fr lb ks
 have hvn := @A5L k nm num ty fr lb ks
 have hvy := @A3y k nm num ty fr lb ks
 have hprx := A1C k nm num ty fr lb ks
 have hinj := A5K k nm num ty fr lb ks
 have hleaf : Q7 (.mk k nm num ty fr lb ks) = false → k ≠ 14 → k ≠ 10 → k ≠ 5 → k = 2 ∨ k = 3 ∨ k = 4 := by
  intro h1 h2 h3 h4
  have := hvn h3 h1 (by rw [hinj, decide_eq_false (by omega)]; rfl)
  rw [this] at hv
  have := of_decide_eq_true hv
  omega
 have hkv : Q7 (.mk k nm num ty fr lb ks) = false → k = 14 → ∀ t ∈ ks, E7 t = true := by
  intro h1 h2 t ht
  cases hi : inj (.mk k nm num ty fr lb ks) with
  | true => have := hvy (.inr (.inr hi)); rw [hv] at this; exact List.all_eq_true.1 this.symm t ht
  | false =>
   have := hvn (by omega) h1 hi
   rw [hv] at this
   have := of_decide_eq_true this.symm
   omega
 generalize hpx : Q7 (.mk k nm num ty fr lb ks) = bp at *
 obtain ⟨tk, tks⟩ := ty
 obtain ⟨fk, fks⟩ := fr
 obtain ⟨pt, ct, pf, cf, p, c, es, rfl, hk, hnum, hlb, hty, hfr, hsl, hkl⟩ := hr.open9
 refine B5 Tryz.func58 rfl Tryz.ntmps58 Tryz.results58 rfl ?_
 intro w0
 refine tS (tR ?_)
 refine sE (C0 rfl rfl) rfl (fun b3 => ?_)
 refine sQ (qA rfl) rfl (sD (nS (tS ?_)))
 refine B9 ?_
 refine tS (tR (sQ (A9 rfl) rfl (sL (B7 rfl rfl) rfl rfl ?_)))
 refine sB (qE rfl rfl) rfl rfl (fun h13 => ?_) (fun h13 => ?_)
 refine A1G ?_
 (exact ⟨rfl, congrArg Value.string (hvp (by first | exact .inl (by omega) | exact .inr ⟨by assumption, by assumption⟩)).symm, rfl⟩)
 refine sQ (qM rfl) rfl (sL (A3 rfl rfl) rfl rfl ?_)
 refine F9 rfl (hP) rfl rfl (fun h40 => ?_) (fun h40 => ?_)
 refine I8 ?_
 refine sB (qE rfl rfl) rfl rfl (fun h45 => ?_) (fun h45 => ?_)
 refine I7 ?_
 (exact ⟨rfl, congrArg Value.string (hvp (by first | exact .inl (by omega) | exact .inr ⟨by assumption, by assumption⟩)).symm, rfl⟩)
 refine H8 ?_
 refine sB (qE rfl rfl) rfl rfl (fun h72 => ?_) (fun h72 => ?_)
 refine R2 ?_
 (exact ⟨rfl, congrArg Value.string (hvf (by rintro (h | ⟨h1, h2⟩) <;> first | omega | exact Bool.noConfusion (h1.symm.trans (show bp = false by assumption)) | (simp only [Ty.k] at h2; omega)) (by first | exact .inl (by omega) | exact .inr (by assumption))).symm, rfl⟩)
 refine sQ (qM rfl) rfl (sL (A3 rfl rfl) rfl rfl ?_)
 refine F9 rfl (hP) rfl rfl (fun h93 => ?_) (fun h93 => ?_)
 refine L1 ?_
 (exact ⟨rfl, congrArg Value.string (hvf (by rintro (h | ⟨h1, h2⟩) <;> first | omega | exact Bool.noConfusion (h1.symm.trans (show bp = false by assumption)) | (simp only [Ty.k] at h2; omega)) (by first | exact .inl (by omega) | exact .inr (by assumption))).symm, rfl⟩)
 refine D7 ?_
 refine sB (qE rfl rfl) rfl rfl (fun h118 => ?_) (fun h118 => ?_)
 refine D8 ?_
 (have hl1 := h14 (by omega); obtain ⟨bx, ox, e, rfl, hl, hat, hre, hgb⟩ := hsl.kidTm hkl (i := 0) (by omega) (by omega); have hih := ih ks[0] (List.getElem_mem (by omega)) G e hT (hkk _ (List.getElem_mem (by omega))) (hkv (by assumption) (by omega) _ (List.getElem_mem (by omega))) hre; refine sP (B0 (j := 0) rfl rfl rfl (by omega)) rfl rfl ?_)
 refine sL (A2 rfl rfl (hat _) hl) rfl rfl ?_
 refine E8 rfl (hih) rfl rfl ?_
 refine sQ (qA rfl) rfl (sD (nS (tT (rB (rS (E2 (rT rfl) ?_))))))
 (exfalso; have h1 : bp = true := (by assumption); have h2 : bp = false := (by assumption); rw [h1] at h2; cases h2)
 refine H8 ?_
 refine E8 rfl ((hL (hleaf (by assumption) (by omega) (by omega) (by omega)))) rfl rfl ?_
 refine sQ (qA rfl) rfl (sD (nS (tT (E2 (rT rfl) ?_))))
 (exfalso; have h1 : bp = true := (by assumption); have h2 : bp = false := (by assumption); rw [h1] at h2; cases h2)
 refine I7 ?_
 refine sB (qE rfl rfl) rfl rfl (fun h170 => ?_) (fun h170 => ?_)
 refine R2 ?_
 (exact ⟨rfl, congrArg Value.string (hvf (by rintro (h | ⟨h1, h2⟩) <;> first | omega | exact Bool.noConfusion (h1.symm.trans (show bp = false by assumption)) | (simp only [Ty.k] at h2; omega)) (by first | exact .inl (by omega) | exact .inr (by assumption))).symm, rfl⟩)
 refine sQ (qM rfl) rfl (sL (A3 rfl rfl) rfl rfl ?_)
 refine F9 rfl (hP) rfl rfl (fun h191 => ?_) (fun h191 => ?_)
 refine L1 ?_
 (exfalso; have h1 : bp = true := (by assumption); have h2 : bp = false := (by assumption); rw [h1] at h2; cases h2)
 refine D7 ?_
 refine sB (qE rfl rfl) rfl rfl (fun h216 => ?_) (fun h216 => ?_)
 refine D8 ?_
 (have hl1 := h14 (by omega); obtain ⟨bx, ox, e, rfl, hl, hat, hre, hgb⟩ := hsl.kidTm hkl (i := 0) (by omega) (by omega); have hih := ih ks[0] (List.getElem_mem (by omega)) G e hT (hkk _ (List.getElem_mem (by omega))) (hkv (by assumption) (by omega) _ (List.getElem_mem (by omega))) hre; refine sP (B0 (j := 0) rfl rfl rfl (by omega)) rfl rfl ?_)
 refine sL (A2 rfl rfl (hat _) hl) rfl rfl ?_
 refine E8 rfl (hih) rfl rfl ?_
 refine sQ (qA rfl) rfl (sD (nS (tT (rB (rS (E2 (rT rfl) ?_))))))
 (exact ⟨rfl, congrArg Value.string (hvc (by assumption) (by omega) (by omega)).symm, rfl⟩)
 refine H8 ?_
 refine E8 rfl ((hL (hleaf (by assumption) (by omega) (by omega) (by omega)))) rfl rfl ?_
 refine sQ (qA rfl) rfl (sD (nS (tT (E2 (rT rfl) ?_))))
 (exact ⟨rfl, congrArg Value.string (hvl (by assumption) (by omega) (by omega) (by omega)).symm, rfl⟩)
theorem A99 (k : Int) (a b : Tm) (G : IM) (ca cb : List Value) (hk78 : k = 7 ∨ k = 8) (hca : 0 ≤ a.num ∧ a.num ≤ 999) (hcb : 0 ≤ b.num ∧ b.num ≤ 999) (hra : A7 G a ca) (hrb : A7 G b cb) : Fn Tryz.prog 253 [.int .i64 k, .agg ⟨ca⟩, .agg ⟨cb⟩] [] G (K7 (N0 k B1 B1 0 [a, b])) := by
 obtain ⟨ak, anm, anum, ⟨atk, atks⟩, ⟨afk, afks⟩, alb, aks⟩ := a
 obtain ⟨bk, bnm, bnum, ⟨btk, btks⟩, ⟨bfk, bfks⟩, blb, bks⟩ := b
 obtain ⟨apt, act, apf, acf, ap, ac, aes, rfl, hak, hanum, halb, haty, hafr, hasl, hakl⟩ := hra.open9
 obtain ⟨bpt, bct, bpf, bcf, bp, bc, bes, rfl, hbk, hbnum, hblb, hbty, hbfr, hbsl, hbkl⟩ := hrb.open9
 simp only [Tm.num] at hca hcb
 have hR : N0 k B1 B1 0 [Tm.mk ak anm anum (.mk atk atks) (.mk afk afks) alb aks, Tm.mk bk bnm bnum (.mk btk btks) (.mk bfk bfks) blb bks] = (if ak = 2 ∧ bk = 2 then (if k = 7 then A2k ((anum + bnum) % 1000) else X6 (anum < bnum), 1, 0) else Q9) := by
  unfold N0; rw [if_neg (by omega), if_pos hk78]; rfl
 rw [hR]
 have htm : (anum + bnum).tmod 1000 = (anum + bnum) % 1000 := A8Y hca hcb
 have hb : F4 ((anum + bnum) % 1000) := ⟨by omega, by omega⟩
 refine B5 Tryz.func253 rfl Tryz.ntmps253 Tryz.results253 rfl ?_
 intro w0
 refine tS (tR ?_)
 refine sE (C0 rfl rfl) rfl (fun b3 => ?_)
 refine sE (C0 rfl rfl) rfl (fun b4 => ?_)
 refine sE (A5 rfl) rfl (fun b5 => ?_)
 refine D7 ?_
 refine sB (O5 rfl rfl) rfl rfl (fun h15 => ?_) (fun h15 => ?_)
 refine T4 ?_
 refine D2 (rC rfl (A3 rfl rfl)) (rT rfl) (rT rfl) ?_
 (exact K7.mk (by rw [if_neg (by omega)]; rfl) (M5 _))
 refine I6 ?_
 refine sB (O5 rfl rfl) rfl rfl (fun h39 => ?_) (fun h39 => ?_)
 refine L1 ?_
 refine D2 (rC rfl (A3 rfl rfl)) (rT rfl) (rT rfl) ?_
 (exact K7.mk (by rw [if_neg (by omega)]; rfl) (M5 _))
 refine H8 ?_
 refine sB (qE rfl rfl) rfl rfl (fun h66 => ?_) (fun h66 => ?_)
 refine D7 ?_
 refine sP (J6 rfl rfl (by omega) (by omega)) rfl rfl ?_
 refine sP (A3c rfl rfl (by omega)) rfl rfl ?_
 (rw [htm]; refine E8 rfl (A1L _ _) rfl rfl ?_)
 refine D0 ?_
 refine D2 (rC rfl (A3 rfl rfl)) (rT rfl) (rT rfl) ?_
 (exact K7.mk (u := A2k (HMod.hMod (anum + bnum) 1000)) (by rw [if_pos ⟨by omega, by omega⟩, if_pos (by omega)]) (A7.put (us := []) ⟨by decide, by decide⟩ hb ⟨by decide, by decide⟩ (A1c _) (A1c _) rfl (C5.nil _ _) rfl))
 refine J7 ?_
 (refine sB (K1 rfl rfl) rfl rfl (fun h99 => ?_) (fun h99 => ?_))
 (refine D3 rfl (A91 _ _) rfl rfl (fun u G1 hle1 hh => ?_); obtain ⟨uc, rfl, hru⟩ := hh; have hul := hru.len; have huo := hru.one)
 refine sS rfl rfl rfl hul huo rfl ?_ (hu := by exact C2 hul.symm)
 refine sQ (qA rfl) rfl (sQ (qA rfl) rfl (sD (nS (tT ?_))))
 refine D2 (rC rfl (A2 rfl rfl (A6 (by repeat first | exact mH | apply mT)) hul)) (rT rfl) (rT rfl) ?_
 (exact K7.mk (by rw [if_pos ⟨by omega, by omega⟩, if_neg (by omega)]; unfold X6; rw [if_pos (by omega), if_pos rfl]) hru)
 (refine D3 rfl (A91 _ _) rfl rfl (fun u G1 hle1 hh => ?_); obtain ⟨uc, rfl, hru⟩ := hh; have hul := hru.len; have huo := hru.one)
 refine sS rfl rfl rfl hul huo rfl ?_ (hu := by exact C2 hul.symm)
 refine sQ (qA rfl) rfl (sQ (qA rfl) rfl (sD (nS (tT ?_))))
 refine D2 (rC rfl (A2 rfl rfl (A6 (by repeat first | exact mH | apply mT)) hul)) (rT rfl) (rT rfl) ?_
 (exact K7.mk (by rw [if_pos ⟨by omega, by omega⟩, if_neg (by omega)]; unfold X6; rw [if_neg (by omega), if_neg (by decide)]) hru)
theorem B5G (a b : Tm) (G : IM) (ca cb : List Value) (hca : cv a) (hbs : b.small) (hra : A7 G a ca) (hrb : A7 G b cb) : Fn Tryz.prog 252 [.agg ⟨ca⟩, .agg ⟨cb⟩] [] G (K7 (N0 6 B1 B1 0 [a, b])) := by
 have hsma := A2l a hca
 have hP := A6x a G _ hra
 obtain ⟨ak, anm, anum, ⟨atk, atks⟩, ⟨afk, afks⟩, alb, aks⟩ := a
 obtain ⟨hN, hkk⟩ := hca.node
 have hops := hN.ops
 have hbl := hN.lbB
 have htyA := hN.tyA
 have hfrA := hN.frA
 rw [D4] at htyA hfrA
 have htyS := fun t (h : t ∈ atks) => (A1y.1 htyA.2.2 t h).small
 have hfrS := fun t (h : t ∈ afks) => (A1y.1 hfrA.2.2 t h).small
 have h14 : ak = 14 → aks.length = 1 := fun h => by rw [h] at hops; have : E0 14 = 1 := rfl; omega
 have h5 : ak = 5 → aks.length = 1 := fun h => by rw [h] at hops; have : E0 5 = 1 := rfl; omega
 obtain ⟨_, _, _, _, hksm⟩ := A0z.1 hsma
 have hbL := hrb.len
 have hbO := hrb.one
 obtain ⟨apt, act, apf, acf, ap, ac, aes, rfl, hak, hanum, halb, haty, hafr, hasl, hakl⟩ := hra.open9
 obtain ⟨tes, htS, htL⟩ := haty.kids
 obtain ⟨fes, hfS, hfL⟩ := hafr.kids
 simp only [Ty.ks] at htS htL hfS hfL
 obtain ⟨y1, y2, y3, y4, y5, y6, y7, y8, y9, rfl⟩ := nine hbL
 have hR : N0 6 B1 B1 0 [Tm.mk ak anm anum (.mk atk atks) (.mk afk afks) alb aks, b] = (if ak = 5 then (Q8 anm b (kd aks 0), 1, 0) else if (ak = 14 ∧ afk = atk ∧ (atk = 4 ∨ atk = 5)) ∧ atk = 4 then (K8 (V4 6 [kd aks 0, K8 b (kt atks 0) (kt afks 0) (-alb)]) (kt afks 1) (kt atks 1) alb, 1, 0) else Q9) := by
  unfold N0
  rw [if_pos rfl, show kd [Tm.mk ak anm anum (.mk atk atks) (.mk afk afks) alb aks, b] 0 = Tm.mk ak anm anum (.mk atk atks) (.mk afk afks) alb aks from rfl, A1C]
  simp only [decide_eq_true_eq]
  rfl
 rw [hR]
 replace hP : Fn Tryz.prog 121 _ [] G (I0 (.bool (decide (ak = 14 ∧ afk = atk ∧ (atk = 4 ∨ atk = 5)))) G) := hP
 refine B5 Tryz.func252 rfl Tryz.ntmps252 Tryz.results252 rfl ?_
 intro w0
 refine tS (tR ?_)
 refine sE (C0 rfl rfl) rfl (fun b3 => ?_)
 refine sE (C0 rfl rfl) rfl (fun b4 => ?_)
 refine sE (A5 rfl) rfl (fun b5 => ?_)
 refine D7 ?_
 refine sB (qE rfl rfl) rfl rfl (fun h15 => ?_) (fun h15 => ?_)
 refine sD (nS (qT rfl (tS ?_)))
 (have hq : ak = 5 := (by assumption); have hq1 := h5 hq; obtain ⟨bq, oq, e3, rfl, hl3, hat3, hre3, hgb3⟩ := hasl.kidTm hakl (i := 0) (by omega) (by omega); have hS := B5k anm b _ hbs aks[0] G e3 (Tm.smallL_mem hksm _ (List.getElem_mem (by omega))) hre3 hrb; refine C9 D1 rfl ?_)
 refine L0 (i := 6) (l' := [ff,ff,ff,ff,ff,ff,tt,ff,ff,ff,ff]) rfl C4 (A2 rfl rfl (A6 (by repeat first | exact mH | apply mT)) rfl) rfl (by kernel_rfl) rfl rfl ?_
 refine aP 0 rfl (A9 rfl) rfl ?_
 refine aL 1 rfl (B7 rfl rfl) rfl ?_
 refine aP 2 rfl (B0 (j := 0) rfl rfl rfl (by omega)) rfl ?_
 refine aL 3 rfl (A2 rfl rfl (hat3 _) hl3) rfl ?_
 refine aP 4 rfl (A9 rfl) rfl ?_
 refine aL 5 rfl (B7 rfl rfl) rfl ?_
 refine A1 7 ?_
 (refine E1 rfl rfl hS rfl rfl rfl (fun u G1 hle1 hh => ?_); obtain ⟨uc, rfl, hru⟩ := hh; have hwl := hru.len; have hwo := hru.one)
 refine A1 8 ?_
 (refine oS rfl rfl rfl rfl hwl hwo rfl rfl ?_ (hu := by exact C2 hwl.symm))
 refine aP 9 rfl (qA rfl) rfl ?_
 refine aP 10 rfl (qA rfl) rfl ?_
 refine B8 (nS (tT (rS ?_)))
 refine D2 (rC rfl (A2 rfl rfl (A6 (by repeat first | exact mH | apply mT)) hwl)) (rT rfl) (rT rfl) ?_
 (exact K7.mk (by rw [if_pos hq, A0f (by omega)]) hru)
 refine D7 ?_
 focus (by_cases hpx : (ak = 14 ∧ afk = atk ∧ (atk = 4 ∨ atk = 5)); rw [decide_eq_true hpx] at hP; rotate_left; rw [decide_eq_false hpx] at hP; rotate_left; all_goals (refine E8 rfl hP rfl rfl ?_))
 refine P6 ?_
 refine sB (O5 rfl rfl) rfl rfl (fun h55 => ?_) (fun h55 => ?_)
 refine L1 ?_
 refine D2 (rC rfl (A3 rfl rfl)) (rT rfl) (rT rfl) ?_
 (exact K7.mk (by rw [if_neg (by omega), if_neg (by omega)]; rfl) (M5 _))
 refine sQ (M0 rfl rfl) rfl (sD (nS (cF rfl (tK (nS (tS ?_))))))
 (have hnd : ¬ak = 5 := (by omega); have hq : (ak = 14 ∧ afk = atk ∧ (atk = 4 ∨ atk = 5)) ∧ atk = 4 := ⟨hpx, by omega⟩; have hq1 := h14 hq.1.1; have hq2 := htyA.1 (by omega); have hq3 := hfrA.1 (by omega); obtain ⟨bq, oq, e3, rfl, hl3, hat3, hre3, hgb3⟩ := hasl.kidTm hakl (i := 0) (by omega) (by omega); have ho3 := hre3.one; obtain ⟨b5, o5, q5, d5, rfl, hat5, hre5, hgb5⟩ := htS.kidTy htL (i := 0) (by omega) (by omega); obtain ⟨_, _, q6, d6, hp6, hat6, hre6, hgb6⟩ := htS.kidTy htL (i := 1) (by omega) (by omega); cases hp6; obtain ⟨b7, o7, q7, d7, rfl, hat7, hre7, hgb7⟩ := hfS.kidTy hfL (i := 0) (by omega) (by omega); obtain ⟨_, _, q8, d8, hp8, hat8, hre8, hgb8⟩ := hfS.kidTy hfL (i := 1) (by omega) (by omega); cases hp8; obtain ⟨x1, x2, x3, x4, x5, x6, x7, x8, x9, rfl⟩ := nine hl3; refine C9 D1 rfl ?_)
 refine L0 (i := 0) (l' := [tt,ff,ff,ff,ff,ff,ff,ff,ff,ff,ff,ff,ff,ff,ff,ff,ff]) rfl C4 (A2 rfl rfl (A6 (by repeat first | exact mH | apply mT)) rfl) rfl (by kernel_rfl) rfl rfl ?_
 refine aP 1 rfl (A9 rfl) rfl ?_
 refine aP 2 rfl (qF rfl) rfl ?_
 refine aL 3 rfl (B7 rfl rfl) rfl ?_
 refine aP 4 rfl (B0 (j := 0) rfl rfl rfl (by omega)) rfl ?_
 refine aL 5 rfl (A2 rfl rfl (hat5 _) rfl) rfl ?_
 refine aP 6 rfl (A9 rfl) rfl ?_
 refine aP 7 rfl (qF rfl) rfl ?_
 refine aL 8 rfl (B7 rfl rfl) rfl ?_
 refine aP 9 rfl (B0 (j := 0) rfl rfl rfl (by omega)) rfl ?_
 refine aL 10 rfl (A2 rfl rfl (hat7 _) rfl) rfl ?_
 refine aP 11 rfl (A9 rfl) rfl ?_
 refine aL 12 rfl (B7 rfl rfl) rfl ?_
 refine aP 13 rfl (A2w rfl (by omega) (by omega)) rfl ?_
 refine P5 (j := 14) (j' := 15) (by kernel_rfl) ?_ ?_
 (have hcO := hnd; refine E1 rfl rfl (X9 b atks[0] afks[0] (-alb) G _ _ _ ⟨by omega, by omega⟩ hrb hre5 hre7 (htyS _ (List.getElem_mem (by omega))) (hfrS _ (List.getElem_mem (by omega)))) rfl rfl rfl (fun u G1 hle1 hh => ?_); obtain ⟨uc, rfl, hru⟩ := hh; have hul := hru.len; have huo := hru.one; obtain ⟨z1, z2, z3, z4, z5, z6, z7, z8, z9, rfl⟩ := nine hul; replace hre3 := hre3.mono hle1; replace hre6 := hre6.mono hle1; replace hre8 := hre8.mono hle1)
 refine A1 15 ?_
 (refine D9 rfl (A5 rfl) rfl rfl ?_; rintro _ ⟨b97, rfl⟩)
 refine A1 16 ?_
 (refine oS rfl rfl rfl rfl rfl huo rfl rfl ?_ (hu := by exact C2 rfl))
 refine B8 (nS (tS ?_))
 refine C9 D1 rfl ?_
 refine L0 (i := 4) (l' := [ff,ff,ff,ff,tt,ff,ff,ff,ff]) rfl C4 (A2 rfl rfl (A6 (by repeat first | exact mH | apply mT)) rfl) rfl (by kernel_rfl) rfl rfl ?_
 refine aP 0 rfl (A9 rfl) rfl ?_
 refine aL 1 rfl (B7 rfl rfl) rfl ?_
 refine aP 2 rfl (B0 (j := 0) rfl rfl rfl (by omega)) rfl ?_
 refine aL 3 rfl (A2 rfl rfl (At.mono' hle1 (hat3 _)) rfl) rfl ?_
 refine P5 (j := 5) (j' := 7) (by kernel_rfl) ?_ ?_
 (refine D9 rfl (C8 rfl rfl rfl (by omega) (by unfold maxLen; omega) rfl) rfl rfl ?_; rintro _ ⟨b110, rfl⟩)
 refine P5 (j := 6) (j' := 7) (by kernel_rfl) ?_ ?_
 (refine A03 (cs := [x1, x2, x3, x4, x5, x6, x7, x8, x9, z1, z2, z3, z4, z5, z6, z7, z8, z9]) (by repeat (first | exact Pk.here | apply Pk.there)) (fun G2 hle2 hsl2 hno2 => ?_); have hrN := A0K (k := 6) (ks := [aks[0], K8 b atks[0] afks[0] (-alb)]) (es := [[x1, x2, x3, x4, x5, x6, x7, x8, x9], [z1, z2, z3, z4, z5, z6, z7, z8, z9]]) ⟨by decide, by decide⟩ rfl (C5.of hsl2 rfl (by simp) (by intro x hx; rcases List.mem_cons.1 hx with rfl | hx; exact ho3; obtain rfl := List.mem_singleton.1 hx; exact huo)) (by simp only [C6]; exact ⟨_, _, rfl, hre3.mono hle2, _, _, rfl, hru.mono hle2, rfl⟩); replace hre6 := hre6.mono hle2; replace hre8 := hre8.mono hle2; refine J0 rfl rfl (A0l _ _ _ _ _) rfl rfl rfl ?_)
 refine A1 7 ?_
 (refine D9 rfl (A5 rfl) rfl rfl ?_; rintro _ ⟨b114, rfl⟩)
 refine A1 8 ?_
 refine F0 rfl ?_
 refine B8 (nS (tS ?_))
 refine C9 D1 rfl ?_
 refine L0 (i := 0) (l' := [tt,ff,ff,ff,ff,ff,ff,ff,ff,ff,ff,ff,ff,ff,ff,ff,ff]) rfl C4 (A2 rfl rfl (A6 (by repeat first | exact mH | apply mT)) rfl) rfl (by kernel_rfl) rfl rfl ?_
 refine aP 1 rfl (A9 rfl) rfl ?_
 refine aP 2 rfl (qF rfl) rfl ?_
 refine aL 3 rfl (B7 rfl rfl) rfl ?_
 refine aP 4 rfl (B0 (j := 1) rfl rfl rfl (by omega)) rfl ?_
 refine aL 5 rfl (A2 rfl rfl (At.mono' (hle1.trans hle2) (hat8 _)) rfl) rfl ?_
 refine aP 6 rfl (A9 rfl) rfl ?_
 refine aP 7 rfl (qF rfl) rfl ?_
 refine aL 8 rfl (B7 rfl rfl) rfl ?_
 refine aP 9 rfl (B0 (j := 1) rfl rfl rfl (by omega)) rfl ?_
 refine aL 10 rfl (A2 rfl rfl (At.mono' (hle1.trans hle2) (hat6 _)) rfl) rfl ?_
 refine aP 11 rfl (A9 rfl) rfl ?_
 refine aL 12 rfl (B7 rfl rfl) rfl ?_
 refine A1 13 ?_
 (refine E1 rfl rfl (X9 _ afks[1] atks[1] alb G2 _ _ _ ⟨by omega, by omega⟩ hrN hre8 hre6 (hfrS _ (List.getElem_mem (by omega))) (htyS _ (List.getElem_mem (by omega)))) rfl rfl rfl (fun u G3 hle3 hh => ?_); obtain ⟨wc, rfl, hrw⟩ := hh; have hwl := hrw.len; have hwo := hrw.one)
 refine A1 14 ?_
 (refine oS rfl rfl rfl rfl hwl hwo rfl rfl ?_ (hu := by exact C2 hwl.symm))
 refine aP 15 rfl (qA rfl) rfl ?_
 refine aP 16 rfl (qA rfl) rfl ?_
 refine B8 (nS (tT ?_))
 refine D2 (rC rfl (A2 rfl rfl (A6 (by repeat first | exact mH | apply mT)) hwl)) (rT rfl) (rT rfl) ?_
 (exact K7.mk (by rw [if_neg hnd, if_pos hq, A0f (by omega), P0 (by omega), P0 (by omega), P0 (by omega), P0 (by omega)]) hrw)
 (refine D9 rfl (A5 rfl) rfl rfl ?_; rintro _ ⟨b145, rfl⟩)
 refine A1 6 ?_
 (refine A03 (cs := [x1, x2, x3, x4, x5, x6, x7, x8, x9, z1, z2, z3, z4, z5, z6, z7, z8, z9]) (by repeat (first | exact Pk.here | apply Pk.there)) (fun G2 hle2 hsl2 hno2 => ?_); have hrN := A0K (k := 6) (ks := [aks[0], K8 b atks[0] afks[0] (-alb)]) (es := [[x1, x2, x3, x4, x5, x6, x7, x8, x9], [z1, z2, z3, z4, z5, z6, z7, z8, z9]]) ⟨by decide, by decide⟩ rfl (C5.of hsl2 rfl (by simp) (by intro x hx; rcases List.mem_cons.1 hx with rfl | hx; exact ho3; obtain rfl := List.mem_singleton.1 hx; exact huo)) (by simp only [C6]; exact ⟨_, _, rfl, hre3.mono hle2, _, _, rfl, hru.mono hle2, rfl⟩); replace hre6 := hre6.mono hle2; replace hre8 := hre8.mono hle2; refine J0 rfl rfl (A0l _ _ _ _ _) rfl rfl rfl ?_)
 refine A1 8 ?_
 refine F0 rfl ?_
 refine B8 (nS (tS ?_))
 refine C9 D1 rfl ?_
 refine L0 (i := 0) (l' := [tt,ff,ff,ff,ff,ff,ff,ff,ff,ff,ff,ff,ff,ff,ff,ff,ff]) rfl C4 (A2 rfl rfl (A6 (by repeat first | exact mH | apply mT)) rfl) rfl (by kernel_rfl) rfl rfl ?_
 refine aP 1 rfl (A9 rfl) rfl ?_
 refine aP 2 rfl (qF rfl) rfl ?_
 refine aL 3 rfl (B7 rfl rfl) rfl ?_
 refine aP 4 rfl (B0 (j := 1) rfl rfl rfl (by omega)) rfl ?_
 refine aL 5 rfl (A2 rfl rfl (At.mono' (hle1.trans hle2) (hat8 _)) rfl) rfl ?_
 refine aP 6 rfl (A9 rfl) rfl ?_
 refine aP 7 rfl (qF rfl) rfl ?_
 refine aL 8 rfl (B7 rfl rfl) rfl ?_
 refine aP 9 rfl (B0 (j := 1) rfl rfl rfl (by omega)) rfl ?_
 refine aL 10 rfl (A2 rfl rfl (At.mono' (hle1.trans hle2) (hat6 _)) rfl) rfl ?_
 refine aP 11 rfl (A9 rfl) rfl ?_
 refine aL 12 rfl (B7 rfl rfl) rfl ?_
 refine A1 13 ?_
 (refine E1 rfl rfl (X9 _ afks[1] atks[1] alb G2 _ _ _ ⟨by omega, by omega⟩ hrN hre8 hre6 (hfrS _ (List.getElem_mem (by omega))) (htyS _ (List.getElem_mem (by omega)))) rfl rfl rfl (fun u G3 hle3 hh => ?_); obtain ⟨wc, rfl, hrw⟩ := hh; have hwl := hrw.len; have hwo := hrw.one)
 refine A1 14 ?_
 (refine oS rfl rfl rfl rfl hwl hwo rfl rfl ?_ (hu := by exact C2 hwl.symm))
 refine aP 15 rfl (qA rfl) rfl ?_
 refine aP 16 rfl (qA rfl) rfl ?_
 refine B8 (nS (tT ?_))
 refine D2 (rC rfl (A2 rfl rfl (A6 (by repeat first | exact mH | apply mT)) hwl)) (rT rfl) (rT rfl) ?_
 (exact K7.mk (by rw [if_neg hnd, if_pos hq, A0f (by omega), P0 (by omega), P0 (by omega), P0 (by omega), P0 (by omega)]) hrw)
 (refine D9 rfl (A5 rfl) rfl rfl ?_; rintro _ ⟨b178, rfl⟩)
 refine A1 5 ?_
 (refine D9 rfl (C8 rfl rfl rfl (by omega) (by unfold maxLen; omega) rfl) rfl rfl ?_; rintro _ ⟨b180, rfl⟩)
 refine A1 6 ?_
 (refine A03 (cs := [x1, x2, x3, x4, x5, x6, x7, x8, x9, z1, z2, z3, z4, z5, z6, z7, z8, z9]) (by repeat (first | exact Pk.here | apply Pk.there)) (fun G2 hle2 hsl2 hno2 => ?_); have hrN := A0K (k := 6) (ks := [aks[0], K8 b atks[0] afks[0] (-alb)]) (es := [[x1, x2, x3, x4, x5, x6, x7, x8, x9], [z1, z2, z3, z4, z5, z6, z7, z8, z9]]) ⟨by decide, by decide⟩ rfl (C5.of hsl2 rfl (by simp) (by intro x hx; rcases List.mem_cons.1 hx with rfl | hx; exact ho3; obtain rfl := List.mem_singleton.1 hx; exact huo)) (by simp only [C6]; exact ⟨_, _, rfl, hre3.mono hle2, _, _, rfl, hru.mono hle2, rfl⟩); replace hre6 := hre6.mono hle2; replace hre8 := hre8.mono hle2; refine J0 rfl rfl (A0l _ _ _ _ _) rfl rfl rfl ?_)
 refine A1 8 ?_
 refine F0 rfl ?_
 refine B8 (nS (tS ?_))
 refine C9 D1 rfl ?_
 refine L0 (i := 0) (l' := [tt,ff,ff,ff,ff,ff,ff,ff,ff,ff,ff,ff,ff,ff,ff,ff,ff]) rfl C4 (A2 rfl rfl (A6 (by repeat first | exact mH | apply mT)) rfl) rfl (by kernel_rfl) rfl rfl ?_
 refine aP 1 rfl (A9 rfl) rfl ?_
 refine aP 2 rfl (qF rfl) rfl ?_
 refine aL 3 rfl (B7 rfl rfl) rfl ?_
 refine aP 4 rfl (B0 (j := 1) rfl rfl rfl (by omega)) rfl ?_
 refine aL 5 rfl (A2 rfl rfl (At.mono' (hle1.trans hle2) (hat8 _)) rfl) rfl ?_
 refine aP 6 rfl (A9 rfl) rfl ?_
 refine aP 7 rfl (qF rfl) rfl ?_
 refine aL 8 rfl (B7 rfl rfl) rfl ?_
 refine aP 9 rfl (B0 (j := 1) rfl rfl rfl (by omega)) rfl ?_
 refine aL 10 rfl (A2 rfl rfl (At.mono' (hle1.trans hle2) (hat6 _)) rfl) rfl ?_
 refine aP 11 rfl (A9 rfl) rfl ?_
 refine aL 12 rfl (B7 rfl rfl) rfl ?_
 refine A1 13 ?_
 (refine E1 rfl rfl (X9 _ afks[1] atks[1] alb G2 _ _ _ ⟨by omega, by omega⟩ hrN hre8 hre6 (hfrS _ (List.getElem_mem (by omega))) (htyS _ (List.getElem_mem (by omega)))) rfl rfl rfl (fun u G3 hle3 hh => ?_); obtain ⟨wc, rfl, hrw⟩ := hh; have hwl := hrw.len; have hwo := hrw.one)
 refine A1 14 ?_
 (refine oS rfl rfl rfl rfl hwl hwo rfl rfl ?_ (hu := by exact C2 hwl.symm))
 refine aP 15 rfl (qA rfl) rfl ?_
 refine aP 16 rfl (qA rfl) rfl ?_
 refine B8 (nS (tT ?_))
 refine D2 (rC rfl (A2 rfl rfl (A6 (by repeat first | exact mH | apply mT)) hwl)) (rT rfl) (rT rfl) ?_
 (exact K7.mk (by rw [if_neg hnd, if_pos hq, A0f (by omega), P0 (by omega), P0 (by omega), P0 (by omega), P0 (by omega)]) hrw)
 (refine D9 rfl (A5 rfl) rfl rfl ?_; rintro _ ⟨b213, rfl⟩)
 refine A1 14 ?_
 (have hcO := hnd; refine E1 rfl rfl (X9 b atks[0] afks[0] (-alb) G _ _ _ ⟨by omega, by omega⟩ hrb hre5 hre7 (htyS _ (List.getElem_mem (by omega))) (hfrS _ (List.getElem_mem (by omega)))) rfl rfl rfl (fun u G1 hle1 hh => ?_); obtain ⟨uc, rfl, hru⟩ := hh; have hul := hru.len; have huo := hru.one; obtain ⟨z1, z2, z3, z4, z5, z6, z7, z8, z9, rfl⟩ := nine hul; replace hre3 := hre3.mono hle1; replace hre6 := hre6.mono hle1; replace hre8 := hre8.mono hle1)
 refine A1 16 ?_
 (refine oS rfl rfl rfl rfl rfl huo rfl rfl ?_ (hu := by exact C2 rfl))
 refine B8 (nS (tS ?_))
 refine C9 D1 rfl ?_
 refine L0 (i := 4) (l' := [ff,ff,ff,ff,tt,ff,ff,ff,ff]) rfl C4 (A2 rfl rfl (A6 (by repeat first | exact mH | apply mT)) rfl) rfl (by kernel_rfl) rfl rfl ?_
 refine aP 0 rfl (A9 rfl) rfl ?_
 refine aL 1 rfl (B7 rfl rfl) rfl ?_
 refine aP 2 rfl (B0 (j := 0) rfl rfl rfl (by omega)) rfl ?_
 refine aL 3 rfl (A2 rfl rfl (At.mono' hle1 (hat3 _)) rfl) rfl ?_
 refine P5 (j := 5) (j' := 7) (by kernel_rfl) ?_ ?_
 (refine D9 rfl (C8 rfl rfl rfl (by omega) (by unfold maxLen; omega) rfl) rfl rfl ?_; rintro _ ⟨b228, rfl⟩)
 refine P5 (j := 6) (j' := 7) (by kernel_rfl) ?_ ?_
 (refine A03 (cs := [x1, x2, x3, x4, x5, x6, x7, x8, x9, z1, z2, z3, z4, z5, z6, z7, z8, z9]) (by repeat (first | exact Pk.here | apply Pk.there)) (fun G2 hle2 hsl2 hno2 => ?_); have hrN := A0K (k := 6) (ks := [aks[0], K8 b atks[0] afks[0] (-alb)]) (es := [[x1, x2, x3, x4, x5, x6, x7, x8, x9], [z1, z2, z3, z4, z5, z6, z7, z8, z9]]) ⟨by decide, by decide⟩ rfl (C5.of hsl2 rfl (by simp) (by intro x hx; rcases List.mem_cons.1 hx with rfl | hx; exact ho3; obtain rfl := List.mem_singleton.1 hx; exact huo)) (by simp only [C6]; exact ⟨_, _, rfl, hre3.mono hle2, _, _, rfl, hru.mono hle2, rfl⟩); replace hre6 := hre6.mono hle2; replace hre8 := hre8.mono hle2; refine J0 rfl rfl (A0l _ _ _ _ _) rfl rfl rfl ?_)
 refine A1 7 ?_
 (refine D9 rfl (A5 rfl) rfl rfl ?_; rintro _ ⟨b232, rfl⟩)
 refine A1 8 ?_
 refine F0 rfl ?_
 refine B8 (nS (tS ?_))
 refine C9 D1 rfl ?_
 refine L0 (i := 0) (l' := [tt,ff,ff,ff,ff,ff,ff,ff,ff,ff,ff,ff,ff,ff,ff,ff,ff]) rfl C4 (A2 rfl rfl (A6 (by repeat first | exact mH | apply mT)) rfl) rfl (by kernel_rfl) rfl rfl ?_
 refine aP 1 rfl (A9 rfl) rfl ?_
 refine aP 2 rfl (qF rfl) rfl ?_
 refine aL 3 rfl (B7 rfl rfl) rfl ?_
 refine aP 4 rfl (B0 (j := 1) rfl rfl rfl (by omega)) rfl ?_
 refine aL 5 rfl (A2 rfl rfl (At.mono' (hle1.trans hle2) (hat8 _)) rfl) rfl ?_
 refine aP 6 rfl (A9 rfl) rfl ?_
 refine aP 7 rfl (qF rfl) rfl ?_
 refine aL 8 rfl (B7 rfl rfl) rfl ?_
 refine aP 9 rfl (B0 (j := 1) rfl rfl rfl (by omega)) rfl ?_
 refine aL 10 rfl (A2 rfl rfl (At.mono' (hle1.trans hle2) (hat6 _)) rfl) rfl ?_
 refine aP 11 rfl (A9 rfl) rfl ?_
 refine aL 12 rfl (B7 rfl rfl) rfl ?_
 refine A1 13 ?_
 (refine E1 rfl rfl (X9 _ afks[1] atks[1] alb G2 _ _ _ ⟨by omega, by omega⟩ hrN hre8 hre6 (hfrS _ (List.getElem_mem (by omega))) (htyS _ (List.getElem_mem (by omega)))) rfl rfl rfl (fun u G3 hle3 hh => ?_); obtain ⟨wc, rfl, hrw⟩ := hh; have hwl := hrw.len; have hwo := hrw.one)
 refine A1 14 ?_
 (refine oS rfl rfl rfl rfl hwl hwo rfl rfl ?_ (hu := by exact C2 hwl.symm))
 refine aP 15 rfl (qA rfl) rfl ?_
 refine aP 16 rfl (qA rfl) rfl ?_
 refine B8 (nS (tT ?_))
 refine D2 (rC rfl (A2 rfl rfl (A6 (by repeat first | exact mH | apply mT)) hwl)) (rT rfl) (rT rfl) ?_
 (exact K7.mk (by rw [if_neg hnd, if_pos hq, A0f (by omega), P0 (by omega), P0 (by omega), P0 (by omega), P0 (by omega)]) hrw)
 (refine D9 rfl (A5 rfl) rfl rfl ?_; rintro _ ⟨b263, rfl⟩)
 refine A1 6 ?_
 (refine A03 (cs := [x1, x2, x3, x4, x5, x6, x7, x8, x9, z1, z2, z3, z4, z5, z6, z7, z8, z9]) (by repeat (first | exact Pk.here | apply Pk.there)) (fun G2 hle2 hsl2 hno2 => ?_); have hrN := A0K (k := 6) (ks := [aks[0], K8 b atks[0] afks[0] (-alb)]) (es := [[x1, x2, x3, x4, x5, x6, x7, x8, x9], [z1, z2, z3, z4, z5, z6, z7, z8, z9]]) ⟨by decide, by decide⟩ rfl (C5.of hsl2 rfl (by simp) (by intro x hx; rcases List.mem_cons.1 hx with rfl | hx; exact ho3; obtain rfl := List.mem_singleton.1 hx; exact huo)) (by simp only [C6]; exact ⟨_, _, rfl, hre3.mono hle2, _, _, rfl, hru.mono hle2, rfl⟩); replace hre6 := hre6.mono hle2; replace hre8 := hre8.mono hle2; refine J0 rfl rfl (A0l _ _ _ _ _) rfl rfl rfl ?_)
 refine A1 8 ?_
 refine F0 rfl ?_
 refine B8 (nS (tS ?_))
 refine C9 D1 rfl ?_
 refine L0 (i := 0) (l' := [tt,ff,ff,ff,ff,ff,ff,ff,ff,ff,ff,ff,ff,ff,ff,ff,ff]) rfl C4 (A2 rfl rfl (A6 (by repeat first | exact mH | apply mT)) rfl) rfl (by kernel_rfl) rfl rfl ?_
 refine aP 1 rfl (A9 rfl) rfl ?_
 refine aP 2 rfl (qF rfl) rfl ?_
 refine aL 3 rfl (B7 rfl rfl) rfl ?_
 refine aP 4 rfl (B0 (j := 1) rfl rfl rfl (by omega)) rfl ?_
 refine aL 5 rfl (A2 rfl rfl (At.mono' (hle1.trans hle2) (hat8 _)) rfl) rfl ?_
 refine aP 6 rfl (A9 rfl) rfl ?_
 refine aP 7 rfl (qF rfl) rfl ?_
 refine aL 8 rfl (B7 rfl rfl) rfl ?_
 refine aP 9 rfl (B0 (j := 1) rfl rfl rfl (by omega)) rfl ?_
 refine aL 10 rfl (A2 rfl rfl (At.mono' (hle1.trans hle2) (hat6 _)) rfl) rfl ?_
 refine aP 11 rfl (A9 rfl) rfl ?_
 refine aL 12 rfl (B7 rfl rfl) rfl ?_
 refine A1 13 ?_
 (refine E1 rfl rfl (X9 _ afks[1] atks[1] alb G2 _ _ _ ⟨by omega, by omega⟩ hrN hre8 hre6 (hfrS _ (List.getElem_mem (by omega))) (htyS _ (List.getElem_mem (by omega)))) rfl rfl rfl (fun u G3 hle3 hh => ?_); obtain ⟨wc, rfl, hrw⟩ := hh; have hwl := hrw.len; have hwo := hrw.one)
 refine A1 14 ?_
 (refine oS rfl rfl rfl rfl hwl hwo rfl rfl ?_ (hu := by exact C2 hwl.symm))
 refine aP 15 rfl (qA rfl) rfl ?_
 refine aP 16 rfl (qA rfl) rfl ?_
 refine B8 (nS (tT ?_))
 refine D2 (rC rfl (A2 rfl rfl (A6 (by repeat first | exact mH | apply mT)) hwl)) (rT rfl) (rT rfl) ?_
 (exact K7.mk (by rw [if_neg hnd, if_pos hq, A0f (by omega), P0 (by omega), P0 (by omega), P0 (by omega), P0 (by omega)]) hrw)
 (refine D9 rfl (A5 rfl) rfl rfl ?_; rintro _ ⟨b296, rfl⟩)
 refine A1 5 ?_
 (refine D9 rfl (C8 rfl rfl rfl (by omega) (by unfold maxLen; omega) rfl) rfl rfl ?_; rintro _ ⟨b298, rfl⟩)
 refine A1 6 ?_
 (refine A03 (cs := [x1, x2, x3, x4, x5, x6, x7, x8, x9, z1, z2, z3, z4, z5, z6, z7, z8, z9]) (by repeat (first | exact Pk.here | apply Pk.there)) (fun G2 hle2 hsl2 hno2 => ?_); have hrN := A0K (k := 6) (ks := [aks[0], K8 b atks[0] afks[0] (-alb)]) (es := [[x1, x2, x3, x4, x5, x6, x7, x8, x9], [z1, z2, z3, z4, z5, z6, z7, z8, z9]]) ⟨by decide, by decide⟩ rfl (C5.of hsl2 rfl (by simp) (by intro x hx; rcases List.mem_cons.1 hx with rfl | hx; exact ho3; obtain rfl := List.mem_singleton.1 hx; exact huo)) (by simp only [C6]; exact ⟨_, _, rfl, hre3.mono hle2, _, _, rfl, hru.mono hle2, rfl⟩); replace hre6 := hre6.mono hle2; replace hre8 := hre8.mono hle2; refine J0 rfl rfl (A0l _ _ _ _ _) rfl rfl rfl ?_)
 refine A1 8 ?_
 refine F0 rfl ?_
 refine B8 (nS (tS ?_))
 refine C9 D1 rfl ?_
 refine L0 (i := 0) (l' := [tt,ff,ff,ff,ff,ff,ff,ff,ff,ff,ff,ff,ff,ff,ff,ff,ff]) rfl C4 (A2 rfl rfl (A6 (by repeat first | exact mH | apply mT)) rfl) rfl (by kernel_rfl) rfl rfl ?_
 refine aP 1 rfl (A9 rfl) rfl ?_
 refine aP 2 rfl (qF rfl) rfl ?_
 refine aL 3 rfl (B7 rfl rfl) rfl ?_
 refine aP 4 rfl (B0 (j := 1) rfl rfl rfl (by omega)) rfl ?_
 refine aL 5 rfl (A2 rfl rfl (At.mono' (hle1.trans hle2) (hat8 _)) rfl) rfl ?_
 refine aP 6 rfl (A9 rfl) rfl ?_
 refine aP 7 rfl (qF rfl) rfl ?_
 refine aL 8 rfl (B7 rfl rfl) rfl ?_
 refine aP 9 rfl (B0 (j := 1) rfl rfl rfl (by omega)) rfl ?_
 refine aL 10 rfl (A2 rfl rfl (At.mono' (hle1.trans hle2) (hat6 _)) rfl) rfl ?_
 refine aP 11 rfl (A9 rfl) rfl ?_
 refine aL 12 rfl (B7 rfl rfl) rfl ?_
 refine A1 13 ?_
 (refine E1 rfl rfl (X9 _ afks[1] atks[1] alb G2 _ _ _ ⟨by omega, by omega⟩ hrN hre8 hre6 (hfrS _ (List.getElem_mem (by omega))) (htyS _ (List.getElem_mem (by omega)))) rfl rfl rfl (fun u G3 hle3 hh => ?_); obtain ⟨wc, rfl, hrw⟩ := hh; have hwl := hrw.len; have hwo := hrw.one)
 refine A1 14 ?_
 (refine oS rfl rfl rfl rfl hwl hwo rfl rfl ?_ (hu := by exact C2 hwl.symm))
 refine aP 15 rfl (qA rfl) rfl ?_
 refine aP 16 rfl (qA rfl) rfl ?_
 refine B8 (nS (tT ?_))
 refine D2 (rC rfl (A2 rfl rfl (A6 (by repeat first | exact mH | apply mT)) hwl)) (rT rfl) (rT rfl) ?_
 (exact K7.mk (by rw [if_neg hnd, if_pos hq, A0f (by omega), P0 (by omega), P0 (by omega), P0 (by omega), P0 (by omega)]) hrw)
 refine Y9 ?_
 refine D2 (rC rfl (A3 rfl rfl)) (rT rfl) (rT rfl) ?_
 (exact K7.mk (by rw [if_neg (by omega), if_neg (by omega)]; rfl) (M5 _))
theorem B0a (k : Int) (a : Tm) (G : IM) (ca : List Value) (hk1 : k = 11 ∨ k = 12) (hca : cv a) (hra : A7 G a ca) : Fn Tryz.prog 254 [.int .i64 k, .agg ⟨ca⟩] [] G (K7 (N0 k B1 B1 0 [a])) := by
 have hP := A6x a G _ hra
 obtain ⟨ak, anm, anum, ⟨atk, atks⟩, ⟨afk, afks⟩, alb, aks⟩ := a
 obtain ⟨hN, hkk⟩ := hca.node
 have hops := hN.ops
 have hbl := hN.lbB
 have htyA := hN.tyA
 have hfrA := hN.frA
 rw [D4] at htyA hfrA
 have htyS := fun t (h : t ∈ atks) => (A1y.1 htyA.2.2 t h).small
 have hfrS := fun t (h : t ∈ afks) => (A1y.1 hfrA.2.2 t h).small
 have h14 : ak = 14 → aks.length = 1 := fun h => by rw [h] at hops; have : E0 14 = 1 := rfl; omega
 have h10 : ak = 10 → aks.length = 2 := fun h => by rw [h] at hops; have : E0 10 = 2 := rfl; omega
 obtain ⟨apt, act, apf, acf, ap, ac, aes, rfl, hak, hanum, halb, haty, hafr, hasl, hakl⟩ := hra.open9
 obtain ⟨tes, htS, htL⟩ := haty.kids
 obtain ⟨fes, hfS, hfL⟩ := hafr.kids
 simp only [Ty.ks] at htS htL hfS hfL
 obtain ⟨i, hi⟩ : ∃ i : Nat, (k - 11).toNat = i := ⟨_, rfl⟩
 have hR : N0 k B1 B1 0 [Tm.mk ak anm anum (.mk atk atks) (.mk afk afks) alb aks] = (if ak = 10 then (kd aks i, 1, 0) else if (ak = 14 ∧ afk = atk ∧ (atk = 4 ∨ atk = 5)) ∧ atk = 5 then (K8 (V4 k [kd aks 0]) (kt afks i) (kt atks i) alb, 1, 0) else Q9) := by
  unfold N0
  rw [if_neg (by omega), if_neg (by omega), if_neg (by omega), if_pos hk1, hi, show kd [Tm.mk ak anm anum (.mk atk atks) (.mk afk afks) alb aks] 0 = Tm.mk ak anm anum (.mk atk atks) (.mk afk afks) alb aks from rfl, A1C]
  simp only [decide_eq_true_eq]
  rfl
 rw [hR]
 replace hP : Fn Tryz.prog 121 _ [] G (I0 (.bool (decide (ak = 14 ∧ afk = atk ∧ (atk = 4 ∨ atk = 5)))) G) := hP
 refine B5 Tryz.func254 rfl Tryz.ntmps254 Tryz.results254 rfl ?_
 intro w0
 refine tS (tR ?_)
 refine sE (C0 rfl rfl) rfl (fun b3 => ?_)
 refine sE (A5 rfl) rfl (fun b4 => ?_)
 refine D0 ?_
 refine sP (O4 rfl rfl (by omega) (by omega)) rfl rfl ?_
 (rw [show (k - 11 : Int) = ((i : Nat) : Int) from (by omega)]; refine sQ (qA rfl) rfl ?_)
 refine D0 ?_
 refine sB (qE rfl rfl) rfl rfl (fun h21 => ?_) (fun h21 => ?_)
 refine D8 ?_
 (have hq := h10 (by omega); obtain ⟨bq, oq, e3, rfl, hl3, hat3, hre3, hgb3⟩ := hasl.kidTm hakl (i := i) (by omega) (by omega); have ho3 := hre3.one; refine sP (B0 (j := i) rfl rfl rfl (by omega)) rfl rfl ?_)
 refine sL (A2 rfl rfl (hat3 _) hl3) rfl rfl ?_
 refine sS rfl rfl rfl hl3 ho3 rfl ?_ (hu := by exact C2 hl3.symm)
 refine sQ (qA rfl) rfl (sQ (qA rfl) rfl (sD (nS (tT (rS ?_)))))
 refine D2 (rC rfl (A2 rfl rfl (A6 (by repeat first | exact mH | apply mT)) hl3)) (rT rfl) (rT rfl) ?_
 (exact K7.mk (by rw [if_pos (by omega), A0f (by omega)]) hre3)
 refine D7 ?_
 focus (by_cases hpx : (ak = 14 ∧ afk = atk ∧ (atk = 4 ∨ atk = 5)); rw [decide_eq_true hpx] at hP; rotate_left; rw [decide_eq_false hpx] at hP; rotate_left; all_goals (refine E8 rfl hP rfl rfl ?_))
 refine P6 ?_
 refine sB (O5 rfl rfl) rfl rfl (fun h56 => ?_) (fun h56 => ?_)
 refine L1 ?_
 refine D2 (rC rfl (A3 rfl rfl)) (rT rfl) (rT rfl) ?_
 (exact K7.mk (by rw [if_neg (by omega), if_neg (by omega)]; rfl) (M5 _))
 refine sQ (M0 rfl rfl) rfl (sD (nS (cF rfl (tK (nS (tS ?_))))))
 (have hnd : ¬ak = 10 := (by omega); have hq : (ak = 14 ∧ afk = atk ∧ (atk = 4 ∨ atk = 5)) ∧ atk = 5 := ⟨hpx, by omega⟩; have hq1 := h14 hq.1.1; have hq2 := htyA.1 (by omega); have hq3 := hfrA.1 (by omega); obtain ⟨bq, oq, e3, rfl, hl3, hat3, hre3, hgb3⟩ := hasl.kidTm hakl (i := 0) (by omega) (by omega); have ho3 := hre3.one; obtain ⟨b5, o5, q5, d5, rfl, hat5, hre5, hgb5⟩ := htS.kidTy htL (i := i) (by omega) (by omega); obtain ⟨b7, o7, q7, d7, rfl, hat7, hre7, hgb7⟩ := hfS.kidTy hfL (i := i) (by omega) (by omega); obtain ⟨x1, x2, x3, x4, x5, x6, x7, x8, x9, rfl⟩ := nine hl3; refine C9 D1 rfl ?_)
 refine H6 (i := 0) (l' := [tt,ff,ff,ff,ff,ff,ff,ff,ff,ff,ff,ff,ff,ff,ff,ff,ff,ff,ff,ff,ff,ff,ff,ff,ff]) rfl C4 (qM rfl) rfl (by kernel_rfl) rfl rfl ?_
 refine aP 1 rfl (A9 rfl) rfl ?_
 refine aL 2 rfl (B7 rfl rfl) rfl ?_
 refine aP 3 rfl (B0 (j := 0) rfl rfl rfl (by omega)) rfl ?_
 refine aL 4 rfl (A2 rfl rfl (hat3 _) rfl) rfl ?_
 refine aP 7 rfl (A9 rfl) rfl ?_
 refine aP 8 rfl (qF rfl) rfl ?_
 refine aL 9 rfl (B7 rfl rfl) rfl ?_
 refine aP 10 rfl (qM rfl) rfl ?_
 refine aP 11 rfl (B0 (j := i) rfl rfl rfl (by omega)) rfl ?_
 refine aL 12 rfl (A2 rfl rfl (hat7 _) rfl) rfl ?_
 refine aP 13 rfl (A9 rfl) rfl ?_
 refine aP 14 rfl (qF rfl) rfl ?_
 refine aL 15 rfl (B7 rfl rfl) rfl ?_
 refine aP 16 rfl (qM rfl) rfl ?_
 refine aP 17 rfl (B0 (j := i) rfl rfl rfl (by omega)) rfl ?_
 refine aL 18 rfl (A2 rfl rfl (hat5 _) rfl) rfl ?_
 refine aP 19 rfl (A9 rfl) rfl ?_
 refine aL 20 rfl (B7 rfl rfl) rfl ?_
 refine A1 5 ?_
 (refine D9 rfl (C8 rfl rfl rfl (by omega) (by unfold maxLen; omega) rfl) rfl rfl ?_; rintro _ ⟨b101, rfl⟩)
 refine A1 6 ?_
 (refine A03 (cs := [x1, x2, x3, x4, x5, x6, x7, x8, x9]) (by repeat (first | exact Pk.here | apply Pk.there)) (fun G2 hle2 hsl2 hno2 => ?_); have hrN := A0K (k := k) (ks := [aks[0]]) (es := [[x1, x2, x3, x4, x5, x6, x7, x8, x9]]) ⟨by omega, by omega⟩ rfl (C5.of hsl2 rfl (by simp) (by intro x hx; obtain rfl := List.mem_singleton.1 hx; exact ho3)) (by simp only [C6]; exact ⟨_, _, rfl, hre3.mono hle2, rfl⟩); replace hre5 := hre5.mono hle2; replace hre7 := hre7.mono hle2; refine J0 rfl rfl (A0l _ _ _ _ _) rfl rfl rfl ?_)
 refine A1 21 ?_
 (refine E1 rfl rfl (X9 _ afks[i] atks[i] alb G2 _ _ _ ⟨by omega, by omega⟩ hrN hre7 hre5 (hfrS _ (List.getElem_mem (by omega))) (htyS _ (List.getElem_mem (by omega)))) rfl rfl rfl (fun u G3 hle3 hh => ?_); obtain ⟨wc, rfl, hrw⟩ := hh; have hwl := hrw.len; have hwo := hrw.one)
 refine A1 22 ?_
 (refine oS rfl rfl rfl rfl hwl hwo rfl rfl ?_ (hu := by exact C2 hwl.symm))
 refine aP 23 rfl (qA rfl) rfl ?_
 refine aP 24 rfl (qA rfl) rfl ?_
 refine B8 (nS (tT ?_))
 refine D2 (rC rfl (A2 rfl rfl (A6 (by repeat first | exact mH | apply mT)) hwl)) (rT rfl) (rT rfl) ?_
 (exact K7.mk (by rw [if_neg hnd, if_pos hq, A0f (by omega), P0 (by omega), P0 (by omega)]) hrw)
 refine Y9 ?_
 refine D2 (rC rfl (A3 rfl rfl)) (rT rfl) (rT rfl) ?_
 (exact K7.mk (by rw [if_neg (by omega), if_neg (by omega)]; rfl) (M5 _))
theorem B5H (a : Tm) (nm : ByteArray) (num : Int) (ty fr : Ty) (lb : Int) (G : IM) (cells : List Value) (hc : cv (.mk 14 nm num ty fr lb [a])) (hr : A7 G (.mk 14 nm num ty fr lb [a]) cells) : Fn Tryz.prog 255 [.agg ⟨cells⟩] [] G (K7 (N0 14 ty fr lb [a])) := by
 obtain ⟨hNe, hkk0⟩ := hc.node
 have hca := hkk0 a (by simp)
 have hlb9 := hNe.lbB
 obtain ⟨hcons, htv, hfv⟩ := hNe.c14 rfl
 have hji := @A83 a
 have hjk := @A53 a
 obtain ⟨ak, anm, anum, ⟨atk, atks⟩, ⟨afk, afks⟩, alb, aks⟩ := a
 obtain ⟨hN, hkk⟩ := hca.node
 have hops := hN.ops
 have h14 : ak = 14 → aks.length = 1 := fun h => by rw [h] at hops; have : E0 14 = 1 := rfl; omega
 obtain ⟨tk, tks⟩ := ty
 obtain ⟨fk, fks⟩ := fr
 rw [V2] at hcons
 simp only [Bool.or_eq_true, Bool.and_eq_true, decide_eq_true_eq] at hcons
 have hcc : fk ≠ tk → tk ≠ 1 → fk = 1 := fun h1 h2 => by rcases hcons with (h | h) | h; exact h; exact absurd h h2; exact absurd h.1 h1
 have hta := A6e htv
 have hfa := A6e hfv
 obtain ⟨pt, ct, pf, cf, p, c, es, rfl, hk, hnum, hlb, hty, hfr, hsl, hkl⟩ := hr.open9
 obtain ⟨bx, ox, e0, rfl, hl0, hat0, hre0, hgb0⟩ := hsl.kidTm hkl (i := 0) (by simp) (by simp)
 replace hre0 : A7 G (Tm.mk ak anm anum (.mk atk atks) (.mk afk afks) alb aks) e0 := hre0
 have hI := A90 (Tm.mk ak anm anum (.mk atk atks) (.mk afk afks) alb aks) G _ hN.frA hre0
 have ho0 := hre0.one
 obtain ⟨apt, act, apf, acf, ap, ac, aes, rfl, hak, hanum, halb, haty, hafr, hasl, hakl⟩ := hre0.open9
 obtain ⟨J, hJ⟩ : ∃ J, inj (Tm.mk ak anm anum (.mk atk atks) (.mk afk afks) alb aks) = J := ⟨_, rfl⟩
 obtain ⟨D, hD⟩ : ∃ D, T8 (.mk tk tks) = D := ⟨_, rfl⟩
 have hGr := A9Z (.mk tk tks) G _ hta hty
 rw [hD] at hGr
 rw [hJ] at hI hji hjk
 have hR : N0 14 (.mk tk tks) (.mk fk fks) lb [Tm.mk ak anm anum (.mk atk atks) (.mk afk afks) alb aks] = (if fk = tk then (Tm.mk ak anm anum (.mk atk atks) (.mk afk afks) alb aks, 1, 0)
   else if tk = 1 then (K8 (K8 (Tm.mk ak anm anum (.mk atk atks) (.mk afk afks) alb aks) (.mk fk fks) (U2 (.mk fk fks)) lb) (U2 (.mk fk fks)) (.mk tk tks) lb, 1, 0)
   else if D = false then (K8 (K8 (Tm.mk ak anm anum (.mk atk atks) (.mk afk afks) alb aks) (.mk fk fks) (U2 (.mk tk tks)) lb) (U2 (.mk tk tks)) (.mk tk tks) lb, 1, 0)
   else if J = false then Q9
   else if afk = tk then (kd aks 0, 1, 0)
   else (I3, 2, lb)) := by
  rw [← hJ, ← hD]; rfl
 rw [hR]
 refine B5 Tryz.func255 rfl Tryz.ntmps255 Tryz.results255 rfl ?_
 intro w0
 refine tS (tR ?_)
 refine sE (C0 rfl rfl) rfl (fun b3 => ?_)
 refine sE (A5 rfl) rfl (fun b4 => ?_)
 refine D8 ?_
 refine sP (B0 (j := 0) rfl rfl rfl (by simp)) rfl rfl ?_
 refine sL (A2 rfl rfl (hat0 _) rfl) rfl rfl ?_
 refine sE (A5 rfl) rfl (fun b15 => ?_)
 refine F8 ?_
 refine sD (nS (tS ?_))
 refine B9 ?_
 refine D8 ?_
 refine sB (qE rfl rfl) rfl rfl (fun h29 => ?_) (fun h29 => ?_)
 refine I7 ?_
 refine D2 (rC rfl (A3 rfl rfl)) (rT rfl) (rT rfl) ?_
 (exact K7.mk (by rw [if_pos (by omega)]) hre0)
 refine D7 ?_
 refine sB (qE rfl rfl) rfl rfl (fun h56 => ?_) (fun h56 => ?_)
 refine D8 ?_
 (have hgk : tk = 1 := (by omega); refine D3 rfl (A6w (.mk fk fks) G _ hfa hfr) rfl rfl (fun u G1 hle1 hh => ?_); obtain ⟨gc, rfl, hrg⟩ := hh; have hgs := A2M (.mk fk fks); generalize U2 (.mk fk fks) = g at hrg hgs ⊢; obtain ⟨pg, cg, eg, rfl, _⟩ := hrg.open; replace hre0 := hre0.mono hle1; replace hfr := hfr.mono hle1; replace hty := hty.mono hle1)
 refine sE (A5 rfl) rfl (fun b66 => ?_)
 refine F8 ?_
 refine sD (nS (tS ?_))
 refine C9 D1 rfl ?_
 refine L0 (i := 0) (l' := [tt,ff,ff,ff,ff,ff,ff,ff,ff,ff,ff,ff,ff,ff,ff,ff]) rfl C4 (A2 rfl rfl (A6 (by repeat first | exact mH | apply mT)) rfl) rfl (by kernel_rfl) rfl rfl ?_
 refine aL 3 rfl (A2 rfl rfl (A6 (by repeat first | exact mH | apply mT)) rfl) rfl ?_
 refine aL 7 rfl (A2 rfl rfl (A6 (by repeat first | exact mH | apply mT)) rfl) rfl ?_
 refine aP 1 rfl (A9 rfl) rfl ?_
 refine aL 2 rfl (A3 rfl rfl) rfl ?_
 refine aP 4 rfl (A9 rfl) rfl ?_
 refine aL 5 rfl (B7 rfl rfl) rfl ?_
 refine aP 8 rfl (A9 rfl) rfl ?_
 refine aL 9 rfl (A3 rfl rfl) rfl ?_
 refine aP 10 rfl (A9 rfl) rfl ?_
 refine aL 11 rfl (B7 rfl rfl) rfl ?_
 refine A1 6 ?_
 (refine E1 rfl rfl (X9 _ (.mk fk fks) _ lb G1 _ _ _ ⟨by omega, by omega⟩ hre0 hfr hrg hfa.small hgs) rfl rfl rfl (fun u G3 hle3 hh => ?_); obtain ⟨wc, rfl, hrw⟩ := hh; have hwl := hrw.len; have hwo := hrw.one; replace hrg := hrg.mono hle3; replace hty := hty.mono hle3)
 refine A1 12 ?_
 (refine E1 rfl rfl (X9 _ _ (.mk tk tks) lb G3 _ _ _ ⟨by omega, by omega⟩ hrw hrg hty hgs hta.small) rfl rfl rfl (fun u G4 hle4 hh => ?_); obtain ⟨xc, rfl, hrx⟩ := hh; have hxl := hrx.len; have hxo := hrx.one)
 refine A1 13 ?_
 (refine oS rfl rfl rfl rfl hxl hxo rfl rfl ?_ (hu := by exact C2 hxl.symm))
 refine aP 14 rfl (qA rfl) rfl ?_
 refine aP 15 rfl (qA rfl) rfl ?_
 refine B8 (nS (tT (rB (rS ?_))))
 refine D2 (rC rfl (A2 rfl rfl (A6 (by repeat first | exact mH | apply mT)) hxl)) (rT rfl) (rT rfl) ?_
 (exact K7.mk (by rw [if_neg (by omega), if_pos (by omega)]) hrx)
 refine D7 ?_
 refine sP (A06 rfl rfl (by omega)) rfl rfl ?_
 refine D8 ?_
 focus (cases hDD : D; all_goals (rw [hDD] at hGr; refine E8 rfl hGr rfl rfl ?_))
 refine D7 ?_
 (refine D3 rfl (A6w (.mk tk tks) G _ hta hty) rfl rfl (fun u G1 hle1 hh => ?_); obtain ⟨gc, rfl, hrg⟩ := hh; have hgs := A2M (.mk tk tks); generalize U2 (.mk tk tks) = g at hrg hgs ⊢; obtain ⟨pg, cg, eg, rfl, _⟩ := hrg.open; replace hre0 := hre0.mono hle1; replace hfr := hfr.mono hle1; replace hty := hty.mono hle1)
 refine sE (A5 rfl) rfl (fun b127 => ?_)
 refine F8 ?_
 refine sD (nS (tS ?_))
 refine C9 D1 rfl ?_
 refine L0 (i := 0) (l' := [tt,ff,ff,ff,ff,ff,ff,ff,ff,ff,ff,ff,ff,ff,ff,ff]) rfl C4 (A2 rfl rfl (A6 (by repeat first | exact mH | apply mT)) rfl) rfl (by kernel_rfl) rfl rfl ?_
 refine aL 3 rfl (A2 rfl rfl (A6 (by repeat first | exact mH | apply mT)) rfl) rfl ?_
 refine aL 7 rfl (A2 rfl rfl (A6 (by repeat first | exact mH | apply mT)) rfl) rfl ?_
 refine aP 1 rfl (A9 rfl) rfl ?_
 refine aL 2 rfl (A3 rfl rfl) rfl ?_
 refine aP 4 rfl (A9 rfl) rfl ?_
 refine aL 5 rfl (B7 rfl rfl) rfl ?_
 refine aP 8 rfl (A9 rfl) rfl ?_
 refine aL 9 rfl (A3 rfl rfl) rfl ?_
 refine aP 10 rfl (A9 rfl) rfl ?_
 refine aL 11 rfl (B7 rfl rfl) rfl ?_
 refine A1 6 ?_
 (refine E1 rfl rfl (X9 _ (.mk fk fks) _ lb G1 _ _ _ ⟨by omega, by omega⟩ hre0 hfr hrg hfa.small hgs) rfl rfl rfl (fun u G3 hle3 hh => ?_); obtain ⟨wc, rfl, hrw⟩ := hh; have hwl := hrw.len; have hwo := hrw.one; replace hrg := hrg.mono hle3; replace hty := hty.mono hle3)
 refine A1 12 ?_
 (refine E1 rfl rfl (X9 _ _ (.mk tk tks) lb G3 _ _ _ ⟨by omega, by omega⟩ hrw hrg hty hgs hta.small) rfl rfl rfl (fun u G4 hle4 hh => ?_); obtain ⟨xc, rfl, hrx⟩ := hh; have hxl := hrx.len; have hxo := hrx.one)
 refine A1 13 ?_
 (refine oS rfl rfl rfl rfl hxl hxo rfl rfl ?_ (hu := by exact C2 hxl.symm))
 refine aP 14 rfl (qA rfl) rfl ?_
 refine aP 15 rfl (qA rfl) rfl ?_
 refine B8 (nS (tT (rB (rS ?_))))
 refine D2 (rC rfl (A2 rfl rfl (A6 (by repeat first | exact mH | apply mT)) hxl)) (rT rfl) (rT rfl) ?_
 (exact K7.mk (by rw [if_neg (by omega), if_neg (by omega), if_pos rfl]) hrx)
 refine D8 ?_
 focus (cases hJJ : J; all_goals (rw [hJJ] at hI; refine E8 rfl hI rfl rfl ?_))
 refine K5 ?_
 refine D2 (rC rfl (A3 rfl rfl)) (rT rfl) (rT rfl) ?_
 (exact K7.mk (by rw [if_neg (by omega), if_neg (by omega), if_neg (by decide), if_pos rfl]; rfl) (M5 _))
 refine J4 ?_
 refine sB (qE rfl rfl) rfl rfl (fun h199 => ?_) (fun h199 => ?_)
 refine D8 ?_
 (have hq1 := h14 (hjk (by assumption)); obtain ⟨bq, oq, e3, rfl, hl3, hat3, hre3, hgb3⟩ := hasl.kidTm hakl (i := 0) (by omega) (by omega); have ho3 := hre3.one; refine sP (B0 (j := 0) rfl rfl rfl (by omega)) rfl rfl ?_)
 refine sL (A2 rfl rfl (hat3 _) hl3) rfl rfl ?_
 refine sS rfl rfl rfl hl3 ho3 rfl ?_ (hu := by exact C2 hl3.symm)
 refine D0 ?_
 refine D2 (rC rfl (A2 rfl rfl (A6 (by repeat first | exact mH | apply mT)) hl3)) (rT rfl) (rT rfl) ?_
 (exact K7.mk (by rw [if_neg (by omega), if_neg (by omega), if_neg (by decide), if_neg (by decide), if_pos (by assumption), A0f (by omega)]) hre3)
 refine D8 ?_
 refine C9 D1 rfl ?_
 refine H6 (i := 0) (l' := [tt,ff,ff,ff,ff,ff]) rfl C4 (Q1 rfl rfl) rfl (by kernel_rfl) rfl rfl ?_
 refine aP 1 rfl (A9 rfl) rfl ?_
 refine aL 2 rfl (B7 rfl rfl) rfl ?_
 refine A1 3 ?_
 refine F0 rfl ?_
 refine aP 4 rfl (qA rfl) rfl ?_
 refine aP 5 rfl (qA rfl) rfl ?_
 refine B8 (nS (tT ?_))
 refine D2 (rC rfl (A3 rfl rfl)) (rT rfl) (rT rfl) ?_
 (exact K7.mk (by rw [if_neg (by omega), if_neg (by omega), if_neg (by decide), if_neg (by decide), if_neg (by assumption)]) (M5 _))
theorem A6C {k : Int} {ty fr ty' fr' : Ty} {lb lb' : Int} {ks : List Tm} (h : k ≠ 14) : N0 k ty fr lb ks = N0 k ty' fr' lb' ks := by
 unfold N0
 rw [if_neg h, if_neg h]
theorem B5I (k : Int) (nm : ByteArray) (num : Int) (ty fr : Ty) (lb : Int) (ks : List Tm) (G : IM) (cells : List Value) (h7 : k = 1 ∨ k = 6 ∨ k = 7 ∨ k = 8 ∨ k = 11 ∨ k = 12 ∨ k = 14) (hc : cv (.mk k nm num ty fr lb ks)) (hr : A7 G (.mk k nm num ty fr lb ks) cells) : Fn Tryz.prog 240 [.agg ⟨cells⟩] [] G (K7 (N0 k ty fr lb ks)) := by
 have hr0 := hr
 obtain ⟨hN, hkk⟩ := hc.node
 have hops := hN.ops
 have hL2 : k = 6 ∨ k = 7 ∨ k = 8 → ∃ a b, ks = [a, b] := fun h => ks2 (by
  rcases h with rfl | rfl | rfl
  ·have : E0 6 = 2 := rfl; omega
  ·have : E0 7 = 2 := rfl; omega
  ·have : E0 8 = 2 := rfl; omega)
 have hL1 : k = 11 ∨ k = 12 ∨ k = 14 → ∃ a, ks = [a] := fun h => ks1 (by
  rcases h with rfl | rfl | rfl
  ·have : E0 11 = 1 := rfl; omega
  ·have : E0 12 = 1 := rfl; omega
  ·have : E0 14 = 1 := rfl; omega)
 have hC : k = 14 → Fn Tryz.prog 255 [.agg ⟨cells⟩] [] G (K7 (N0 k ty fr lb ks)) := by
  rintro rfl
  obtain ⟨a, rfl⟩ := hL1 (by omega)
  exact B5H a nm num ty fr lb G cells hc hr
 have hA : k = 6 → ∀ a b, ks = [a, b] → N0 k ty fr lb ks = N0 6 B1 B1 0 [a, b] := by rintro rfl a b rfl; exact A6C (by decide)
 have hB : k = 7 ∨ k = 8 → ∀ a b, ks = [a, b] → N0 k ty fr lb ks = N0 k B1 B1 0 [a, b] := by rintro h a b rfl; exact A6C (by omega)
 have hD : k = 11 ∨ k = 12 → ∀ a, ks = [a] → N0 k ty fr lb ks = N0 k B1 B1 0 [a] := by rintro h a rfl; exact A6C (by omega)
 have hO : k = 1 → N0 k ty fr lb ks = Q9 := by rintro rfl; rfl
 generalize N0 k ty fr lb ks = R at hC hA hB hD hO ⊢
 obtain ⟨tk, tks⟩ := ty
 obtain ⟨fk, fks⟩ := fr
 obtain ⟨pt, ct, pf, cf, p, c, es, rfl, hk, hnum, hlb, hty, hfr, hsl, hkl⟩ := hr.open9
 refine B5 Tryz.func240 rfl Tryz.ntmps240 Tryz.results240 rfl ?_
 intro w0
 refine tS (tR ?_)
 refine sE (C0 rfl rfl) rfl (fun b3 => ?_)
 refine sE (A5 rfl) rfl (fun b4 => ?_)
 refine J7 ?_
 refine B9 (tS (tR (sB (qE rfl rfl) rfl rfl (fun h19 => ?_) (fun h19 => ?_))))
 refine sQ (qA rfl) rfl (sD (nS (qT rfl (tS ?_))))
 (have hq : k = 6 := (by assumption); obtain ⟨x, y, hxy⟩ := hL2 (by omega); have hAq := hA hq x y hxy; subst hxy; obtain ⟨bx, ox, e0, rfl, hl0, hat0, hre0, hgb0⟩ := hsl.kidTm hkl (i := 0) (by simp) (by simp); obtain ⟨_, _, e1, hp1, hl1, hat1, hre1, hgb1⟩ := hsl.kidTm hkl (i := 1) (by simp) (by simp); cases hp1; have hF := B5G x y G e0 e1 (hkk x (by simp)) (A2l y (hkk y (by simp))) hre0 hre1; rw [← hAq] at hF; refine C9 D1 rfl ?_)
 refine H6 (i := 0) (l' := [tt,ff,ff,ff,ff,ff,ff,ff,ff,ff,ff,ff,ff,ff,ff]) rfl C4 (A9 rfl) rfl (by kernel_rfl) rfl rfl ?_
 refine aL 1 rfl (B7 rfl rfl) rfl ?_
 refine aP 2 rfl (B0 (j := 0) rfl rfl rfl (by simp)) rfl ?_
 refine aL 3 rfl (A2 rfl rfl (hat0 _) hl0) rfl ?_
 refine aP 4 rfl (A9 rfl) rfl ?_
 refine aL 5 rfl (B7 rfl rfl) rfl ?_
 refine aP 6 rfl (B0 (j := 1) rfl rfl rfl (by simp)) rfl ?_
 refine aL 7 rfl (A2 rfl rfl (hat1 _) hl1) rfl ?_
 refine A1 8 ?_
 (refine E1 rfl rfl hF rfl rfl rfl (fun v G1 hle1 hh => ?_); obtain ⟨wc, rfl, hrw⟩ := hh; have hwl := hrw.len; have hwo := hrw.one)
 refine aP 9 rfl (pX rfl rfl) rfl ?_
 refine aP 10 rfl (pX rfl rfl) rfl ?_
 refine aP 11 rfl (pX rfl rfl) rfl ?_
 refine A1 12 ?_
 (refine oS rfl rfl rfl rfl hwl hwo rfl rfl ?_ (hu := by exact C2 hwl.symm))
 refine aP 13 rfl (qA rfl) rfl ?_
 refine aP 14 rfl (qA rfl) rfl ?_
 refine B8 (nS (tT (rB (rS ?_))))
 refine D2 (rC rfl (A2 rfl rfl (A6 (by repeat first | exact mH | apply mT)) hwl)) (rT rfl) (rT rfl) ?_
 (exact ⟨rfl, _, rfl, hrw⟩)
 refine sQ (qA rfl) rfl (sD (nS (cF rfl (tS (tS (tR ?_))))))
 refine sB (qE rfl rfl) rfl rfl (fun h57 => ?_) (fun h57 => ?_)
 refine D8 ?_
 (have hq : k = 7 ∨ k = 8 := (by omega); obtain ⟨x, y, hxy⟩ := hL2 (by omega); have hBq := hB hq x y hxy; subst hxy; obtain ⟨bx, ox, e0, rfl, hl0, hat0, hre0, hgb0⟩ := hsl.kidTm hkl (i := 0) (by simp) (by simp); obtain ⟨_, _, e1, hp1, hl1, hat1, hre1, hgb1⟩ := hsl.kidTm hkl (i := 1) (by simp) (by simp); cases hp1; have hF := A99 k x y G e0 e1 hq (by have := (hkk x (by simp)); cases x; exact this.node.1.num0) (by have := (hkk y (by simp)); cases y; exact this.node.1.num0) hre0 hre1; rw [← hBq] at hF; refine C9 D1 rfl ?_)
 refine H6 (i := 0) (l' := [tt,ff,ff,ff,ff,ff,ff,ff,ff,ff,ff,ff,ff,ff,ff,ff,ff]) rfl C4 (A9 rfl) rfl (by kernel_rfl) rfl rfl ?_
 refine aL 1 rfl (B7 rfl rfl) rfl ?_
 refine aP 2 rfl (A9 rfl) rfl ?_
 refine aL 3 rfl (B7 rfl rfl) rfl ?_
 refine aP 4 rfl (B0 (j := 0) rfl rfl rfl (by simp)) rfl ?_
 refine aL 5 rfl (A2 rfl rfl (hat0 _) hl0) rfl ?_
 refine aP 6 rfl (A9 rfl) rfl ?_
 refine aL 7 rfl (B7 rfl rfl) rfl ?_
 refine aP 8 rfl (B0 (j := 1) rfl rfl rfl (by simp)) rfl ?_
 refine aL 9 rfl (A2 rfl rfl (hat1 _) hl1) rfl ?_
 refine A1 10 ?_
 (refine E1 rfl rfl hF rfl rfl rfl (fun v G1 hle1 hh => ?_); obtain ⟨wc, rfl, hrw⟩ := hh; have hwl := hrw.len; have hwo := hrw.one)
 refine aP 11 rfl (pX rfl rfl) rfl ?_
 refine aP 12 rfl (pX rfl rfl) rfl ?_
 refine aP 13 rfl (pX rfl rfl) rfl ?_
 refine A1 14 ?_
 (refine oS rfl rfl rfl rfl hwl hwo rfl rfl ?_ (hu := by exact C2 hwl.symm))
 refine aP 15 rfl (qA rfl) rfl ?_
 refine aP 16 rfl (qA rfl) rfl ?_
 refine B8 (nS (tT (rB (rS ?_))))
 refine D2 (rC rfl (A2 rfl rfl (A6 (by repeat first | exact mH | apply mT)) hwl)) (rT rfl) (rT rfl) ?_
 (exact ⟨rfl, _, rfl, hrw⟩)
 refine sQ (qA rfl) rfl (sD (nS (cF rfl (tR ?_))))
 refine sB (qE rfl rfl) rfl rfl (fun h98 => ?_) (fun h98 => ?_)
 refine sQ (qA rfl) rfl (sD (nS (qT rfl (tS ?_))))
 (have hq : k = 7 ∨ k = 8 := (by omega); obtain ⟨x, y, hxy⟩ := hL2 (by omega); have hBq := hB hq x y hxy; subst hxy; obtain ⟨bx, ox, e0, rfl, hl0, hat0, hre0, hgb0⟩ := hsl.kidTm hkl (i := 0) (by simp) (by simp); obtain ⟨_, _, e1, hp1, hl1, hat1, hre1, hgb1⟩ := hsl.kidTm hkl (i := 1) (by simp) (by simp); cases hp1; have hF := A99 k x y G e0 e1 hq (by have := (hkk x (by simp)); cases x; exact this.node.1.num0) (by have := (hkk y (by simp)); cases y; exact this.node.1.num0) hre0 hre1; rw [← hBq] at hF; refine C9 D1 rfl ?_)
 refine H6 (i := 0) (l' := [tt,ff,ff,ff,ff,ff,ff,ff,ff,ff,ff,ff,ff,ff,ff,ff,ff]) rfl C4 (A9 rfl) rfl (by kernel_rfl) rfl rfl ?_
 refine aL 1 rfl (B7 rfl rfl) rfl ?_
 refine aP 2 rfl (A9 rfl) rfl ?_
 refine aL 3 rfl (B7 rfl rfl) rfl ?_
 refine aP 4 rfl (B0 (j := 0) rfl rfl rfl (by simp)) rfl ?_
 refine aL 5 rfl (A2 rfl rfl (hat0 _) hl0) rfl ?_
 refine aP 6 rfl (A9 rfl) rfl ?_
 refine aL 7 rfl (B7 rfl rfl) rfl ?_
 refine aP 8 rfl (B0 (j := 1) rfl rfl rfl (by simp)) rfl ?_
 refine aL 9 rfl (A2 rfl rfl (hat1 _) hl1) rfl ?_
 refine A1 10 ?_
 (refine E1 rfl rfl hF rfl rfl rfl (fun v G1 hle1 hh => ?_); obtain ⟨wc, rfl, hrw⟩ := hh; have hwl := hrw.len; have hwo := hrw.one)
 refine aP 11 rfl (pX rfl rfl) rfl ?_
 refine aP 12 rfl (pX rfl rfl) rfl ?_
 refine aP 13 rfl (pX rfl rfl) rfl ?_
 refine A1 14 ?_
 (refine oS rfl rfl rfl rfl hwl hwo rfl rfl ?_ (hu := by exact C2 hwl.symm))
 refine aP 15 rfl (qA rfl) rfl ?_
 refine aP 16 rfl (qA rfl) rfl ?_
 refine B8 (nS (tT (rB (rS ?_))))
 refine D2 (rC rfl (A2 rfl rfl (A6 (by repeat first | exact mH | apply mT)) hwl)) (rT rfl) (rT rfl) ?_
 (exact ⟨rfl, _, rfl, hrw⟩)
 refine sQ (qA rfl) rfl (sD (nS (cF rfl (tS (tS (tR ?_))))))
 refine sB (qE rfl rfl) rfl rfl (fun h138 => ?_) (fun h138 => ?_)
 refine D8 ?_
 (have hq : k = 11 ∨ k = 12 := (by omega); obtain ⟨x, hxy⟩ := hL1 (by omega); have hDq := hD hq x hxy; subst hxy; obtain ⟨bx, ox, e0, rfl, hl0, hat0, hre0, hgb0⟩ := hsl.kidTm hkl (i := 0) (by simp) (by simp); have hF := B0a k x G e0 hq (hkk x (by simp)) hre0; rw [← hDq] at hF; refine C9 D1 rfl ?_)
 refine H6 (i := 0) (l' := [tt,ff,ff,ff,ff,ff,ff,ff,ff,ff,ff,ff,ff]) rfl C4 (A9 rfl) rfl (by kernel_rfl) rfl rfl ?_
 refine aL 1 rfl (B7 rfl rfl) rfl ?_
 refine aP 2 rfl (A9 rfl) rfl ?_
 refine aL 3 rfl (B7 rfl rfl) rfl ?_
 refine aP 4 rfl (B0 (j := 0) rfl rfl rfl (by simp)) rfl ?_
 refine aL 5 rfl (A2 rfl rfl (hat0 _) hl0) rfl ?_
 refine A1 6 ?_
 (refine E1 rfl rfl hF rfl rfl rfl (fun v G1 hle1 hh => ?_); obtain ⟨wc, rfl, hrw⟩ := hh; have hwl := hrw.len; have hwo := hrw.one)
 refine aP 7 rfl (pX rfl rfl) rfl ?_
 refine aP 8 rfl (pX rfl rfl) rfl ?_
 refine aP 9 rfl (pX rfl rfl) rfl ?_
 refine A1 10 ?_
 (refine oS rfl rfl rfl rfl hwl hwo rfl rfl ?_ (hu := by exact C2 hwl.symm))
 refine aP 11 rfl (qA rfl) rfl ?_
 refine aP 12 rfl (qA rfl) rfl ?_
 refine B8 (nS (tT (rB (rS ?_))))
 refine D2 (rC rfl (A2 rfl rfl (A6 (by repeat first | exact mH | apply mT)) hwl)) (rT rfl) (rT rfl) ?_
 (exact ⟨rfl, _, rfl, hrw⟩)
 refine sQ (qA rfl) rfl (sD (nS (cF rfl (tR ?_))))
 refine sB (qE rfl rfl) rfl rfl (fun h175 => ?_) (fun h175 => ?_)
 refine sQ (qA rfl) rfl (sD (nS (qT rfl (tS ?_))))
 (have hq : k = 11 ∨ k = 12 := (by omega); obtain ⟨x, hxy⟩ := hL1 (by omega); have hDq := hD hq x hxy; subst hxy; obtain ⟨bx, ox, e0, rfl, hl0, hat0, hre0, hgb0⟩ := hsl.kidTm hkl (i := 0) (by simp) (by simp); have hF := B0a k x G e0 hq (hkk x (by simp)) hre0; rw [← hDq] at hF; refine C9 D1 rfl ?_)
 refine H6 (i := 0) (l' := [tt,ff,ff,ff,ff,ff,ff,ff,ff,ff,ff,ff,ff]) rfl C4 (A9 rfl) rfl (by kernel_rfl) rfl rfl ?_
 refine aL 1 rfl (B7 rfl rfl) rfl ?_
 refine aP 2 rfl (A9 rfl) rfl ?_
 refine aL 3 rfl (B7 rfl rfl) rfl ?_
 refine aP 4 rfl (B0 (j := 0) rfl rfl rfl (by simp)) rfl ?_
 refine aL 5 rfl (A2 rfl rfl (hat0 _) hl0) rfl ?_
 refine A1 6 ?_
 (refine E1 rfl rfl hF rfl rfl rfl (fun v G1 hle1 hh => ?_); obtain ⟨wc, rfl, hrw⟩ := hh; have hwl := hrw.len; have hwo := hrw.one)
 refine aP 7 rfl (pX rfl rfl) rfl ?_
 refine aP 8 rfl (pX rfl rfl) rfl ?_
 refine aP 9 rfl (pX rfl rfl) rfl ?_
 refine A1 10 ?_
 (refine oS rfl rfl rfl rfl hwl hwo rfl rfl ?_ (hu := by exact C2 hwl.symm))
 refine aP 11 rfl (qA rfl) rfl ?_
 refine aP 12 rfl (qA rfl) rfl ?_
 refine B8 (nS (tT (rB (rS ?_))))
 refine D2 (rC rfl (A2 rfl rfl (A6 (by repeat first | exact mH | apply mT)) hwl)) (rT rfl) (rT rfl) ?_
 (exact ⟨rfl, _, rfl, hrw⟩)
 refine sQ (qA rfl) rfl (sD (nS (cF rfl (tS (tR ?_)))))
 refine sB (qE rfl rfl) rfl rfl (fun h210 => ?_) (fun h210 => ?_)
 refine D0 ?_
 (refine D3 rfl (hC (by omega)) rfl rfl (fun v G1 hle1 hh => ?_); obtain ⟨wc, rfl, hrw⟩ := hh; have hwl := hrw.len; have hwo := hrw.one)
 refine I6 ?_
 refine sS rfl rfl rfl hwl hwo rfl ?_ (hu := by exact C2 hwl.symm)
 refine D0 ?_
 refine D2 (rC rfl (A2 rfl rfl (A6 (by repeat first | exact mH | apply mT)) hwl)) (rT rfl) (rT rfl) ?_
 (exact ⟨rfl, _, rfl, hrw⟩)
 refine K5 ?_
 refine D2 (rC rfl (A3 rfl rfl)) (rT rfl) (rT rfl) ?_
 (rw [hO (by omega)]; exact K7.mk rfl (M5 _))
theorem B5J {k : Int} {nm : ByteArray} {num : Int} {ty fr : Ty} {lb : Int} {ks : List Tm} {i : Nat} (hi : i < ks.length) (hn : i < (if k = 9 then 1 else ks.length)) (hj : ∀ j, j < i → (h : j < ks.length) → E7 ks[j] = true) (hv : E7 ks[i] = false) :
  H0 (.mk k nm num ty fr lb ks) = if (H0 ks[i]).2.1 = 1 then (.mk k nm num ty fr lb (ks.set i (H0 ks[i]).1), 1, 0) else (I3, (H0 ks[i]).2.1, (H0 ks[i]).2.2) := by
 rw [H0, A55 _ ks i hi hn hj hv]
theorem B5K {k : Int} {nm : ByteArray} {num : Int} {ty fr : Ty} {lb : Int} {ks : List Tm} (h : ∀ i, i < (if k = 9 then 1 else ks.length) → (hl : i < ks.length) → E7 ks[i] = true) : H0 (.mk k nm num ty fr lb ks) = N0 k ty fr lb ks := by
 rw [H0, A54 _ _ h]
theorem B5L {ty fr : Ty} {lb : Int} {a b c : Tm} : N0 9 ty fr lb [a, b, c] = (if a.k = 3 then (b, 1, 0) else if a.k = 4 then (c, 1, 0) else Q9) := rfl
theorem B5M : ∀ (t : Tm) (G : IM) (cells : List Value), cv t → E7 t = false → A7 G t cells → Fn Tryz.prog 212 [.agg ⟨cells⟩] [] G (K7 (H0 t)) := by
 refine Tm.ind fun k nm num ty fr lb ks ih G cells hc hv hr => ?_
 have hr0 := hr
 have hRl := hr.len
 have hN := hc.node.1
 have hkk := hc.node.2
 have hops := hN.ops
 have hle3 := A1e k
 have hkd := @A86 k nm num ty fr lb ks hc hv
 have hkX := fun (i : Nat) => @B5J k nm num ty fr lb ks i
 have hrX := @B5K k nm num ty fr lb ks
 have hRd := fun h7 => B5I k nm num ty fr lb ks G cells h7 hc hr
 obtain ⟨C, hC⟩ : ∃ C : Nat, (if k = 9 then 1 else ks.length : Nat) = C := ⟨_, rfl⟩
 rw [hC] at hkd hrX
 have hkX' := fun (i : Nat) (hi : i < ks.length) (hn : i < C) => hkX i hi (by rw [hC]; exact hn)
 have h93 : k = 9 → ks.length = 3 := fun h => by rw [h] at hops; have : E0 9 = 3 := rfl; omega
 have hC1 : k = 9 → C = 1 := fun h => by rw [← hC, if_pos h]
 have hC2 : k ≠ 9 → C = ks.length := fun h => by rw [← hC, if_neg h]
 have hC9 : C ≤ ks.length := by by_cases h9 : k = 9; have := h93 h9; have := hC1 h9; omega; have := hC2 h9; omega
 generalize H0 (.mk k nm num ty fr lb ks) = R at hkX hkX' hrX ⊢
 obtain ⟨tk, tks⟩ := ty
 obtain ⟨fk, fks⟩ := fr
 obtain ⟨pt, ct, pf, cf, p, c, es, rfl, hk, hnum, hlb, hty, hfr, hsl, hkl⟩ := hr.open9
 have hn := hsl.le
 have hnc := hsl.sl.2.1
 have hes1 : ∀ u ∈ es.flatten, u.oneCell' = true := by
  intro u hu
  obtain ⟨e, he, hue⟩ := List.mem_flatten.1 hu
  exact List.all_eq_true.1 (hsl.one e he) u hue
 refine B5 Tryz.func212 rfl Tryz.ntmps212 Tryz.results212 rfl ?_
 intro w0
 refine tS (tR ?_)
 refine sE (C0 rfl rfl) rfl (fun b3 => ?_)
 refine sE (A5 rfl) rfl (fun b4 => ?_)
 refine R2 ?_
 refine sB (qE rfl rfl) rfl rfl (fun h22 => ?_) (fun h22 => ?_)
 refine sD (nS ?_)
 (show I9 _ _ (.cond (.tmp 16) _ _) _ _; refine Z6 (fun (_ : Unit) => ⟨[(5, .int .i64 (C : Int)), (1, .pointer (some ⟨b3, 0, none⟩)), (2, .pointer (some ⟨b4, 0, none⟩))], [.blk b4 [.int .i64 0, .string ⟨⟨[]⟩⟩, .int .i64 0, .int .i64 0, .slice none 0 0, .int .i64 0, .slice none 0 0, .int .i64 0, .slice none 0 0], .blk b3 [.int .i64 k, .string nm, .int .i64 num, .int .i64 tk, .slice pt tks.length ct, .int .i64 fk, .slice pf fks.length cf, .int .i64 lb, .slice p ks.length c]], G⟩) (fun _ => True) (qT rfl ?_) ?_)
 refine tR (sQ (qA rfl) rfl (sD ?_))
 (have hCC := hC1 (by omega); subst hCC; refine P4 () (N3 (by repeat (first | exact E9.nil | refine E9.cons rfl ?_)) (by repeat (first | exact A0.refl | exact A0.nil | refine A0.cons (by repeat (first | exact Pk.here | apply Pk.there)) ?_ | apply A0.drop))) trivial)
 (rintro (_ : Unit) _)
 refine tS (tS (tR (sQ (qA rfl) rfl (sD (nS ?_)))))
 refine B9 ?_
 (refine K3 (fun (i : Nat) => ⟨[(6, .int .i64 (i : Int)), (5, .int .i64 (C : Int)), (1, .pointer (some ⟨b3, 0, none⟩)), (2, .pointer (some ⟨b4, 0, none⟩))], [.blk b4 [.int .i64 0, .string ⟨⟨[]⟩⟩, .int .i64 0, .int .i64 0, .slice none 0 0, .int .i64 0, .slice none 0 0, .int .i64 0, .slice none 0 0], .blk b3 [.int .i64 k, .string nm, .int .i64 num, .int .i64 tk, .slice pt tks.length ct, .int .i64 fk, .slice pf fks.length cf, .int .i64 lb, .slice p ks.length c]], G⟩) (fun i => i ≤ C ∧ ∀ j, j < i → (h : j < ks.length) → E7 ks[j] = true) (fun i => C - i) 0 ?_ ?_ ?_)
 exact D5
 (exact ⟨Nat.zero_le _, fun j hj => absurd hj (Nat.not_lt_zero j)⟩)
 (rintro i ⟨hi, hj⟩)
 refine tS (tS (tR (sQ (qM rfl) rfl (sQ (qM rfl) rfl ?_))))
 refine sB (K1 rfl rfl) rfl rfl (fun h47 => ?_) (fun h47 => ?_)
 refine sD (nS (qT rfl (tK (nS (tS ?_)))))
 refine B9 ?_
 refine I1 ?_
 (have hiC : i < C := (by omega); obtain ⟨bx, ox, e, rfl, hl, hat, hre, hgb⟩ := hsl.kidTm hkl (i := i) (by omega) (by omega); have heo := hre.one; have hVi := A4N ks[i] G e (hkk _ (List.getElem_mem (by omega))) hre; refine sP (B0 (j := i) rfl rfl rfl (by omega)) rfl rfl ?_)
 refine sL (A2 rfl rfl (hat _) hl) rfl rfl ?_
 refine F9 rfl (hVi) rfl rfl (fun h63 => ?_) (fun h63 => ?_)
 refine D7 ?_
 refine sP (J6 rfl rfl (by omega) (by omega)) rfl rfl ?_
 refine sQ (qA rfl) rfl (sD ?_)
 refine K0 (i + 1) ?_ ?_ ?_
 exact D5
 (exact ⟨by omega, fun j hji hl2 => (by by_cases he : j = i; (subst he; assumption); exact hj j (by omega) hl2)⟩)
 (show C - (i + 1) < C - i; omega)
 refine H8 ?_
 refine sP (B0 (j := i) rfl rfl rfl (by omega)) rfl rfl ?_
 refine sL (A2 rfl rfl (hat _) hl) rfl rfl ?_
 (have hvF : E7 ks[i] = false := (by assumption); have hst := hkX' i (by omega) hiC (fun j hji hl2 => hj j hji hl2) hvF; refine D3 rfl (ih ks[i] (List.getElem_mem (by omega)) G e (hkk _ (List.getElem_mem (by omega))) hvF hre) rfl rfl (fun v G1 hle1 hh => ?_); obtain ⟨uc, hvv, hru⟩ := hh; have hul := hru.len; have huo := hru.one; generalize H0 ks[i] = r at hvv hru hst; obtain ⟨u, cc, ll⟩ := r; simp only at hvv hru hst; subst hvv)
 refine I8 ?_
 refine sE (A5 rfl) rfl (fun b97 => ?_)
 refine sS rfl rfl rfl hul huo rfl ?_ (hu := by exact C2 hul.symm)
 refine D8 ?_
 refine sB (O5 rfl rfl) rfl rfl (fun h107 => ?_) (fun h107 => ?_)
 refine Y9 ?_
 refine D2 (rC rfl (A3 rfl rfl)) (rT rfl) (rT rfl) ?_
 (rw [hst, if_neg (by omega)]; exact K7.mk rfl (M5 _))
 refine D8 ?_
 refine sE (A5 rfl) rfl (fun b138 => ?_)
 refine F8 ?_
 refine sD (nS (tS (tR ?_)))
 (refine J5 (C8 rfl rfl rfl (by omega) (by unfold maxLen; omega) rfl) rfl ?_; rintro _ ⟨b144, rfl⟩)
 refine sQ (A9 rfl) rfl (sL (B7 rfl rfl) rfl rfl ?_)
 (refine A3r rfl rfl rfl rfl rfl (fun _ _ => by repeat (first | exact Sw.here | apply Sw.there)) (hsl.mono hle1).sl hes1 (Nat.zero_le _) (by unfold maxLen; omega) (by omega) rfl (fun p4 c4 => ?_); simp only [Nat.zero_add, List.nil_append]; refine A4o (cs := es.flatten) (by repeat (first | exact Pk.here | apply Pk.there)) (by omega) (fun bc Cc hpe hnc1 hcm => ?_); subst hpe)
 refine D7 ?_
 refine sL (A2 rfl rfl (A6 (by repeat first | exact mH | apply mT)) hul) rfl rfl ?_
 refine sP (B0 (j := i) rfl rfl rfl (by omega)) rfl rfl ?_
 refine O0 rfl rfl rfl hul huo rfl (by repeat first | exact Sw.here | apply Sw.there) (by exact A4p (by rw [hkl.len]; omega) (fun e he => (hsl.all e he)) hul) ?_
 refine H8 ?_
 (refine A2C (bs := [(bc, (es.set i uc).flatten ++ Cc)]) (Pk.perm (by repeat (first | exact Pk.here | apply Pk.there))) (fun hn2 hd2 hle2 => ?_))
 refine tT (rB (rS (A29 (rB (rS ?_)))))
 refine D2 (rC rfl (A3 rfl rfl)) (rT rfl) (rT rfl) ?_
 (have hks2 := C6.set (j := i) ((hkl.mono hle1).mono hle2) (hru.mono hle2); rw [hst, if_pos (by omega)]; exact K7.mk rfl (A7.put (us := ks.set i u) (es := es.set i uc) hk hnum hlb ((hty.mono hle1).mono hle2) ((hfr.mono hle1).mono hle2) (by rw [List.length_set]) (C5.of (Sl.of_blk (A := []) (by rw [A0U hks2.all, hks2.len, List.length_set]) (by omega) hcm (Wi.in hn2 List.mem_cons_self)) (by rw [hks2.len, List.length_set]) hks2.all (fun e he => by obtain ⟨q, hq⟩ := List.getElem?_of_mem he; exact (hks2.inv hq I3).2.one)) hks2))
 refine J4 ?_
 refine sP (A06 rfl rfl (by omega)) rfl rfl ?_
 refine H8 ?_
 (have hall : ∀ i, i < C → (hl : i < ks.length) → E7 ks[i] = true := (fun j hjc hl2 => hj j (by omega) hl2); have hrd' := hrX hall; have h9 : k = 9 := (by omega); subst h9; obtain ⟨xa, xb, xc, hxs⟩ := ks3 (h93 rfl); subst hxs; rw [B5L] at hrd'; obtain ⟨bx, ox, e0, rfl, hl0, hat0, hre0, hgb0⟩ := hsl.kidTm hkl (i := 0) (by simp) (by simp); obtain ⟨_, _, e1, hp1, hl1, hat1, hre1, hgb1⟩ := hsl.kidTm hkl (i := 1) (by simp) (by simp); cases hp1; obtain ⟨_, _, e2, hp2, hl2, hat2, hre2, hgb2⟩ := hsl.kidTm hkl (i := 2) (by simp) (by simp); cases hp2; replace hre0 : A7 G xa e0 := hre0; replace hre1 : A7 G xb e1 := hre1; replace hre2 : A7 G xc e2 := hre2; have ho1 := hre1.one; have ho2 := hre2.one; obtain ⟨ak, anm, anum, ⟨atk, atks⟩, ⟨afk, afks⟩, alb, aks⟩ := xa; obtain ⟨apt, act, apf, acf, ap, ac, aes, rfl, hak, hanum, halb, haty, hafr, hasl, hakl⟩ := hre0.open9; replace hrd' : R = (if ak = 3 then (xb, 1, 0) else if ak = 4 then (xc, 1, 0) else Q9) := hrd'; refine sP (B0 (j := 0) rfl rfl rfl (by simp)) rfl rfl ?_)
 refine sQ (qF rfl) rfl ?_
 refine sL (U5 rfl rfl ((hat0 _).sub (j := 0) rfl)) rfl rfl ?_
 refine sD (nS ?_)
 refine B9 (tS (tR (sB (qE rfl rfl) rfl rfl (fun h211 => ?_) (fun h211 => ?_))))
 refine D8 ?_
 refine sP (B0 (j := 1) rfl rfl rfl (by simp)) rfl rfl ?_
 refine sL (A2 rfl rfl (hat1 _) hl1) rfl rfl ?_
 refine sS rfl rfl rfl hl1 ho1 rfl ?_ (hu := by exact C2 hl1.symm)
 refine D0 ?_
 refine D2 (rC rfl (A2 rfl rfl (A6 (by repeat first | exact mH | apply mT)) hl1)) (rT rfl) (rT rfl) ?_
 (rw [hrd', if_pos (by omega)]; exact K7.mk rfl hre1)
 refine sQ (qA rfl) rfl (sD (nS (cF rfl (tS (tR ?_)))))
 refine sB (qE rfl rfl) rfl rfl (fun h238 => ?_) (fun h238 => ?_)
 refine D8 ?_
 refine sP (B0 (j := 2) rfl rfl rfl (by simp)) rfl rfl ?_
 refine sL (A2 rfl rfl (hat2 _) hl2) rfl rfl ?_
 refine sS rfl rfl rfl hl2 ho2 rfl ?_ (hu := by exact C2 hl2.symm)
 refine D0 ?_
 refine D2 (rC rfl (A2 rfl rfl (A6 (by repeat first | exact mH | apply mT)) hl2)) (rT rfl) (rT rfl) ?_
 (rw [hrd', if_neg (by omega), if_pos (by omega)]; exact K7.mk rfl hre2)
 refine K5 ?_
 refine D2 (rC rfl (A3 rfl rfl)) (rT rfl) (rT rfl) ?_
 (rw [hrd', if_neg (by omega), if_neg (by omega)]; exact K7.mk rfl (M5 _))
 refine sD (nS ?_)
 (show I9 _ _ (.cond (.tmp 16) _ _) _ _; refine Z6 (fun (_ : Unit) => ⟨[(5, .int .i64 (C : Int)), (1, .pointer (some ⟨b3, 0, none⟩)), (2, .pointer (some ⟨b4, 0, none⟩))], [.blk b4 [.int .i64 0, .string ⟨⟨[]⟩⟩, .int .i64 0, .int .i64 0, .slice none 0 0, .int .i64 0, .slice none 0 0, .int .i64 0, .slice none 0 0], .blk b3 [.int .i64 k, .string nm, .int .i64 num, .int .i64 tk, .slice pt tks.length ct, .int .i64 fk, .slice pf fks.length cf, .int .i64 lb, .slice p ks.length c]], G⟩) (fun _ => True) (cF rfl ?_) ?_)
 refine tK ?_
 (have hCC := hC2 (by omega); subst hCC; refine P4 () (N3 (by repeat (first | exact E9.nil | refine E9.cons rfl ?_)) (by repeat (first | exact A0.refl | exact A0.nil | refine A0.cons (by repeat (first | exact Pk.here | apply Pk.there)) ?_ | apply A0.drop))) trivial)
 (rintro (_ : Unit) _)
 refine tS (tS (tR (sQ (qA rfl) rfl (sD (nS ?_)))))
 refine B9 ?_
 (refine K3 (fun (i : Nat) => ⟨[(6, .int .i64 (i : Int)), (5, .int .i64 (C : Int)), (1, .pointer (some ⟨b3, 0, none⟩)), (2, .pointer (some ⟨b4, 0, none⟩))], [.blk b4 [.int .i64 0, .string ⟨⟨[]⟩⟩, .int .i64 0, .int .i64 0, .slice none 0 0, .int .i64 0, .slice none 0 0, .int .i64 0, .slice none 0 0], .blk b3 [.int .i64 k, .string nm, .int .i64 num, .int .i64 tk, .slice pt tks.length ct, .int .i64 fk, .slice pf fks.length cf, .int .i64 lb, .slice p ks.length c]], G⟩) (fun i => i ≤ C ∧ ∀ j, j < i → (h : j < ks.length) → E7 ks[j] = true) (fun i => C - i) 0 ?_ ?_ ?_)
 exact D5
 (exact ⟨Nat.zero_le _, fun j hj => absurd hj (Nat.not_lt_zero j)⟩)
 (rintro i ⟨hi, hj⟩)
 refine tS (tS (tR (sQ (qM rfl) rfl (sQ (qM rfl) rfl ?_))))
 refine sB (K1 rfl rfl) rfl rfl (fun h299 => ?_) (fun h299 => ?_)
 refine sD (nS (qT rfl (tK (nS (tS ?_)))))
 refine B9 ?_
 refine I1 ?_
 (have hiC : i < C := (by omega); obtain ⟨bx, ox, e, rfl, hl, hat, hre, hgb⟩ := hsl.kidTm hkl (i := i) (by omega) (by omega); have heo := hre.one; have hVi := A4N ks[i] G e (hkk _ (List.getElem_mem (by omega))) hre; refine sP (B0 (j := i) rfl rfl rfl (by omega)) rfl rfl ?_)
 refine sL (A2 rfl rfl (hat _) hl) rfl rfl ?_
 refine F9 rfl (hVi) rfl rfl (fun h315 => ?_) (fun h315 => ?_)
 refine D7 ?_
 refine sP (J6 rfl rfl (by omega) (by omega)) rfl rfl ?_
 refine sQ (qA rfl) rfl (sD ?_)
 refine K0 (i + 1) ?_ ?_ ?_
 exact D5
 (exact ⟨by omega, fun j hji hl2 => (by by_cases he : j = i; (subst he; assumption); exact hj j (by omega) hl2)⟩)
 (show C - (i + 1) < C - i; omega)
 refine H8 ?_
 refine sP (B0 (j := i) rfl rfl rfl (by omega)) rfl rfl ?_
 refine sL (A2 rfl rfl (hat _) hl) rfl rfl ?_
 (have hvF : E7 ks[i] = false := (by assumption); have hst := hkX' i (by omega) hiC (fun j hji hl2 => hj j hji hl2) hvF; refine D3 rfl (ih ks[i] (List.getElem_mem (by omega)) G e (hkk _ (List.getElem_mem (by omega))) hvF hre) rfl rfl (fun v G1 hle1 hh => ?_); obtain ⟨uc, hvv, hru⟩ := hh; have hul := hru.len; have huo := hru.one; generalize H0 ks[i] = r at hvv hru hst; obtain ⟨u, cc, ll⟩ := r; simp only at hvv hru hst; subst hvv)
 refine I8 ?_
 refine sE (A5 rfl) rfl (fun b349 => ?_)
 refine sS rfl rfl rfl hul huo rfl ?_ (hu := by exact C2 hul.symm)
 refine D8 ?_
 refine sB (O5 rfl rfl) rfl rfl (fun h359 => ?_) (fun h359 => ?_)
 refine Y9 ?_
 refine D2 (rC rfl (A3 rfl rfl)) (rT rfl) (rT rfl) ?_
 (rw [hst, if_neg (by omega)]; exact K7.mk rfl (M5 _))
 refine D8 ?_
 refine sE (A5 rfl) rfl (fun b390 => ?_)
 refine F8 ?_
 refine sD (nS (tS (tR ?_)))
 (refine J5 (C8 rfl rfl rfl (by omega) (by unfold maxLen; omega) rfl) rfl ?_; rintro _ ⟨b396, rfl⟩)
 refine sQ (A9 rfl) rfl (sL (B7 rfl rfl) rfl rfl ?_)
 (refine A3r rfl rfl rfl rfl rfl (fun _ _ => by repeat (first | exact Sw.here | apply Sw.there)) (hsl.mono hle1).sl hes1 (Nat.zero_le _) (by unfold maxLen; omega) (by omega) rfl (fun p4 c4 => ?_); simp only [Nat.zero_add, List.nil_append]; refine A4o (cs := es.flatten) (by repeat (first | exact Pk.here | apply Pk.there)) (by omega) (fun bc Cc hpe hnc1 hcm => ?_); subst hpe)
 refine D7 ?_
 refine sL (A2 rfl rfl (A6 (by repeat first | exact mH | apply mT)) hul) rfl rfl ?_
 refine sP (B0 (j := i) rfl rfl rfl (by omega)) rfl rfl ?_
 refine O0 rfl rfl rfl hul huo rfl (by repeat first | exact Sw.here | apply Sw.there) (by exact A4p (by rw [hkl.len]; omega) (fun e he => (hsl.all e he)) hul) ?_
 refine H8 ?_
 (refine A2C (bs := [(bc, (es.set i uc).flatten ++ Cc)]) (Pk.perm (by repeat (first | exact Pk.here | apply Pk.there))) (fun hn2 hd2 hle2 => ?_))
 refine tT (rB (rS (A29 (rB (rS ?_)))))
 refine D2 (rC rfl (A3 rfl rfl)) (rT rfl) (rT rfl) ?_
 (have hks2 := C6.set (j := i) ((hkl.mono hle1).mono hle2) (hru.mono hle2); rw [hst, if_pos (by omega)]; exact K7.mk rfl (A7.put (us := ks.set i u) (es := es.set i uc) hk hnum hlb ((hty.mono hle1).mono hle2) ((hfr.mono hle1).mono hle2) (by rw [List.length_set]) (C5.of (Sl.of_blk (A := []) (by rw [A0U hks2.all, hks2.len, List.length_set]) (by omega) hcm (Wi.in hn2 List.mem_cons_self)) (by rw [hks2.len, List.length_set]) hks2.all (fun e he => by obtain ⟨q, hq⟩ := List.getElem?_of_mem he; exact (hks2.inv hq I3).2.one)) hks2))
 refine J4 ?_
 refine sP (Y8 rfl rfl (by omega)) rfl rfl ?_
 refine sD (nS (qT rfl (tS (tR (sL (A3 rfl rfl) rfl rfl ?_)))))
 (have hall : ∀ i, i < C → (hl : i < ks.length) → E7 ks[i] = true := (fun j hjc hl2 => hj j (by omega) hl2); have hk8 := hkd hall; have hrd' := hrX hall; refine D3 rfl (hRd (by omega)) rfl rfl (fun v G1 hle1 hh => ?_); obtain ⟨uc, rfl, hru⟩ := hh; have hul := hru.len; have huo := hru.one)
 refine I6 ?_
 refine sS rfl rfl rfl hul huo rfl ?_ (hu := by exact C2 hul.symm)
 refine sQ (qA rfl) rfl (sQ (qA rfl) rfl (sD (nS (tT (rS ?_)))))
 refine D2 (rC rfl (A2 rfl rfl (A6 (by repeat first | exact mH | apply mT)) hul)) (rT rfl) (rT rfl) ?_
 (rw [hrd']; exact ⟨rfl, _, rfl, hru⟩)
end Gw
end Go.Proofs.YtfpgncjeejickaaGreatDoor
