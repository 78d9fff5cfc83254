/-
  The reference's evaluator: ground types, values, casts, replacing a name. The reference's evaluator: steps of nodes whose operands are values. The reference's evaluator: a step, runs of steps, RunTerm. The reference's StepCast, EvalCast, RunTerm. Configurations in the reference: BlurTerm, ConfigRuns. The law FnExactConfigRuns: its walk. A calculus of casts, with types as trees: what is more precise stays so (the gradual guarantee). The calculus of casts is that of the evaluation. Precision of types and terms, on both sides. Casts put into terms of which one is more precise: the results are so, too. Precision of terms, on both sides. CompareRuns, on both sides. Runs of terms of which one is more precise. Configurations: plain laws (they are valid, ordered by precision; fewer types fail less); `and` and `and not` of masks.
-/
import Derived.Test.YtebfignffjhnhaaGreatDoorKi5
import Derived.Test.YtebfignffjhnhaaGreatDoorKi6
import Derived.Test.YtebfignffjhnhaaGreatDoorKi3
import Derived.Test.YtebfignffjhnhaaGreatDoorKi2
import Init
import Derived.Test.YtebfignffjhnhaaGreatDoorKi4
set_option linter.unusedVariables false
set_option linter.unusedSimpArgs false
set_option maxHeartbeats 0
set_option maxRecDepth 100000
set_option synthInstance.maxSize 4000
set_option synthInstance.maxHeartbeats 0
namespace Go.Proofs.YtebfignffjhnhaaGreatDoor
open Go Go.RowKit
namespace Gw
theorem B5L {t : Ty} (ha : F8 t) : T5 t = .mk t.k (List.replicate t.ks.length R7) := by
 obtain ⟨k, ks⟩ := t
 rw [F8] at ha
 show (if k = 4 ∨ k = 5 then Ty.mk k [R7, R7] else .mk k []) = _
 show _ = Ty.mk k (List.replicate ks.length R7)
 split
 ·rename_i h; rw [ha.1 h]; rfl
 ·rename_i h
  rw [ha.2.1 (fun e => h (.inl e)) (fun e => h (.inr e))]; rfl
theorem A6H (t : Ty) (G : IM) (cells : List Value) (ha : F8 t) (hr : C2 G t cells) : Fn Tryz.prog 212 [.agg ⟨cells⟩] [] G (A57 (T5 t) G) := by
 rw [B5L ha]
 obtain ⟨tk, tks⟩ := t
 have hsm := ha.small
 rw [Ty.small] at hsm
 obtain ⟨hsm1, _⟩ := hsm
 obtain ⟨p, c, es, rfl, hk, hsl, hkl⟩ := hr.open
 simp only [Ty.k, Ty.ks] at hk hsl hkl ⊢
 have hn := hsl.le
 refine B8 Tryz.func212 rfl Tryz.ntmps212 Tryz.results212 rfl ?_
 intro w0
 refine A2 ?_
 refine sE (C6 rfl rfl) rfl (fun b3 => ?_)
 refine sE (A6 rfl) rfl (fun b4 => ?_)
 refine A9 ?_
 refine sE (A6 rfl) rfl (fun b12 => ?_)
 refine D9 ?_
 refine B7 ?_
 (refine R5 34 2 ?_; refine I3 (fun (x : Nat × Option Addr × Nat × List (List Value)) => ⟨[(4, .int .i64 x.1), (3, .pointer (some ⟨b12, 0, none⟩)), (1, .pointer (some ⟨b3, 0, none⟩)), (2, .pointer (some ⟨b4, 0, none⟩))], [.blk b12 [.int .i64 tk, .slice x.2.1 x.1 x.2.2.1], .slc x.2.1 x.2.2.1 34 2 x.1 x.2.2.2.flatten, .blk b4 [.int .i64 0, .slice none 0 0], .blk b3 [.int .i64 tk, .slice p tks.length c]], G⟩) (fun x => x.1 ≤ tks.length ∧ C7 G (List.replicate x.1 R7) x.2.2.2) (fun x => tks.length - x.1) (0, none, 0, []) ?_ ?_ ?_)
 (simp only [H9]; exact D3)
 (exact ⟨Nat.zero_le _, rfl⟩)
 (rintro ⟨i, pn, cn, es'⟩ ⟨hi, hst⟩; simp only [] at hi hst ⊢; have hsl' := hst.len; rw [List.length_replicate] at hsl')
 refine A9 ?_
 refine sB (I8 rfl rfl) rfl rfl (fun h34 => ?_) (fun h34 => ?_)
 refine A7 ?_
 refine B7 ?_
 refine E1 E3 rfl ?_
 refine K2 (i := 0) (l' := [tt,ff,ff,ff,ff,ff,ff]) rfl D5 (C0 rfl) rfl (by kernel_rfl) rfl rfl ?_
 refine aL 1 rfl (C9 rfl rfl) rfl ?_
 refine A3 2 ?_
 refine M5 rfl rfl ((A4o _)) rfl rfl rfl ?_
 refine A3 3 ?_
 (refine E6 rfl (E2 rfl rfl rfl (by omega) (by unfold maxLen; omega) rfl) rfl rfl ?_; rintro _ ⟨b48, rfl⟩)
 refine A3 4 ?_
 refine T9 rfl rfl rfl rfl rfl rfl (fun _ _ => by repeat (first | exact Sw.here | apply Sw.there)) (M4 (by repeat first | exact mH | apply mT)) rfl (by simp [Value.oneCell']) (by unfold maxLen; omega) (by omega) rfl rfl (by repeat (first | exact D1.nil | apply D1.dep (by decide +kernel) | apply D1.im (by decide +kernel) (by assumption) (by repeat first | exact mH | apply mT) | apply D1.blk (by decide +kernel) (by repeat (first | exact Pk.here | apply Pk.there)) (by repeat first | exact mH | apply mT) | apply D1.slc (by decide +kernel) (by repeat (first | exact Pk.here | apply Pk.there)) (by repeat first | exact mH | apply mT))) (fun pn' cn' => ?_)
 refine aP 5 rfl (C0 rfl) rfl ?_
 refine A3 6 ?_
 refine X8 rfl rfl rfl rfl rfl rfl rfl rfl (by decide +kernel) (by repeat first | exact Sw.here | apply Sw.there) (by rfl) ?_
 refine B0 ?_
 refine sP (E7 rfl rfl (by omega) (by omega)) rfl rfl ?_
 refine A2 ?_
 refine I7 (i + 1, pn', cn', es' ++ [[.int .i64 1, .slice none 0 0]]) ?_ ?_ ?_
 (simp only [H9]; exact D3)
 (dsimp only; exact ⟨by omega, by rw [List.replicate_succ']; exact C7.snoc hst (A2h _)⟩)
 (show tks.length - (i + 1) < tks.length - i; omega)
 refine J7 ?_
 (refine H8 (cs := es'.flatten) (by repeat (first | exact Pk.here | apply Pk.there)) (fun G2 hle2 hsl2 hno2 => ?_); obtain rfl : i = tks.length := (by omega))
 refine tT ?_
 refine L9 (rC rfl (A4 rfl rfl)) ?_
 (exact ⟨rfl, _, rfl, (hst.mono hle2).ty (by simp) hsl2 hk⟩)
theorem B0O (t : Ty) (G : IM) (cells : List Value) (ha : F8 t) (hr : C2 G t cells) : Fn Tryz.prog 171 [.agg ⟨cells⟩] [] G (E5 (.bool (V5 t)) G) := by
 refine Fn.forget (post := L5 fun _ v => v = .bool (V5 t)) ?_ (fun _ _ _ h => h.2)
 have hr0 := hr
 have hG := A6H t G cells ha hr
 obtain ⟨tk, tks⟩ := t
 obtain ⟨p, c, es, rfl, hk, _⟩ := hr.open
 simp only [Ty.k, Ty.ks] at hk hr0 hG ⊢
 have hd : V5 (.mk tk tks) = (decide (tk ≠ 1) && M2 (.mk tk tks) (T5 (.mk tk tks))) := rfl
 rw [hd]
 generalize T5 (.mk tk tks) = g at hG ⊢
 refine B8 Tryz.func171 rfl Tryz.ntmps171 Tryz.results171 rfl ?_
 intro w0
 refine A2 ?_
 refine sE (C6 rfl rfl) rfl (fun b3 => ?_)
 refine B6 ?_
 refine E1 E3 rfl ?_
 refine K2 (i := 0) (l' := [tt,ff,ff,ff,ff,ff,ff,ff,ff,ff]) rfl D5 (C0 rfl) rfl (by kernel_rfl) rfl rfl ?_
 refine aL 1 rfl (C9 rfl rfl) rfl ?_
 refine A0D (i := 2) (l' := [tt,tt,tt,ff,ff,ff,ff,ff,ff,ff]) rfl D5 (M7 rfl rfl) rfl (by kernel_rfl) rfl rfl (fun h11 => ?_) (fun h11 => ?_)
 refine aP 3 rfl (qM rfl) rfl ?_
 refine aL 4 rfl (A4 rfl rfl) rfl ?_
 refine aL 5 rfl (A4 rfl rfl) rfl ?_
 refine A3 6 ?_
 (refine H2 rfl rfl hG rfl rfl rfl (fun v G1 hle1 hh => ?_); obtain ⟨cg, rfl, hrg⟩ := hh; have hT := B0y (.mk tk tks) g G1 _ _ (hr0.mono hle1) hrg; obtain ⟨pg, cgg, eg, rfl, _⟩ := hrg.open)
 refine A3 7 ?_
 refine M5 rfl rfl (hT) rfl rfl rfl ?_
 refine aP 8 rfl (M1 rfl rfl) rfl ?_
 refine aP 9 rfl (qA rfl) rfl ?_
 refine B6 ?_
 (refine ⟨rfl, ?_⟩; show Value.bool _ = Value.bool _; rw [decide_eq_true (by omega), Bool.true_and])
 refine aP 3 rfl (qM rfl) rfl ?_
 refine C4 4 rfl rfl rfl ?_
 refine C4 5 rfl rfl rfl ?_
 refine C4 6 rfl rfl rfl ?_
 refine C4 7 rfl rfl rfl ?_
 refine aP 8 rfl (O1 rfl rfl) rfl ?_
 refine aP 9 rfl (qA rfl) rfl ?_
 refine B6 ?_
 (refine ⟨rfl, ?_⟩; show Value.bool _ = Value.bool _; rw [decide_eq_false (by omega), Bool.false_and])
theorem A4U (t : Tm) (G : IM) (cells : List Value) (hr : B3 G t cells) : Fn Tryz.prog 130 [.agg ⟨cells⟩] [] G (E5 (.bool (P6 t)) G) := by
 obtain ⟨k, nm, num, ⟨tk, tks⟩, ⟨fk, fks⟩, lb, ks⟩ := t
 obtain ⟨pt, ct, pf, cf, p, c, es, rfl, hk, hnum, hlb, hty, hfr, hsl, hkl⟩ := hr.open9
 have hd : P6 (.mk k nm num (.mk tk tks) (.mk fk fks) lb ks) = decide (k = 14 ∧ fk = tk ∧ (tk = 4 ∨ tk = 5)) := rfl
 rw [hd]
 refine B8 Tryz.func130 rfl Tryz.ntmps130 Tryz.results130 rfl ?_
 intro w0
 refine A2 ?_
 refine sE (C6 rfl rfl) rfl (fun b3 => ?_)
 refine A9 ?_
 refine sB (qE rfl rfl) rfl rfl (fun h11 => ?_) (fun h11 => ?_)
 refine A9 ?_
 refine sB (qE rfl rfl) rfl rfl (fun h19 => ?_) (fun h19 => ?_)
 refine B0 ?_
 refine sB (qE rfl rfl) rfl rfl (fun h25 => ?_) (fun h25 => ?_)
 refine J8 ?_
 exact A1S
 refine B6 ?_
 refine sB (qE rfl rfl) rfl rfl (fun h43 => ?_) (fun h43 => ?_)
 refine A9 ?_
 exact A1S
 refine A9 ?_
 exact A2t
 refine U6 ?_
 exact A2t
 refine A35 ?_
 exact A2t
theorem A6I (t : Tm) (G : IM) (cells : List Value) (ha : F8 t.fr) (hr : B3 G t cells) : Fn Tryz.prog 131 [.agg ⟨cells⟩] [] G (E5 (.bool (inj t)) G) := by
 obtain ⟨k, nm, num, ⟨tk, tks⟩, ⟨fk, fks⟩, lb, ks⟩ := t
 obtain ⟨pt, ct, pf, cf, p, c, es, rfl, hk, hnum, hlb, hty, hfr, hsl, hkl⟩ := hr.open9
 have hd : inj (.mk k nm num (.mk tk tks) (.mk fk fks) lb ks) = (decide (k = 14 ∧ tk = 1) && V5 (.mk fk fks)) := rfl
 rw [hd]
 have hG := B0O (.mk fk fks) G _ ha hfr
 refine B8 Tryz.func131 rfl Tryz.ntmps131 Tryz.results131 rfl ?_
 intro w0
 refine A2 ?_
 refine sE (C6 rfl rfl) rfl (fun b3 => ?_)
 refine A9 ?_
 refine sB (qE rfl rfl) rfl rfl (fun h11 => ?_) (fun h11 => ?_)
 refine B6 ?_
 refine sB (qE rfl rfl) rfl rfl (fun h16 => ?_) (fun h16 => ?_)
 refine B6 ?_
 refine H4 rfl (hG) rfl rfl ?_
 refine A7 ?_
 (exact ⟨rfl, by rw [decide_eq_true (by omega), Bool.true_and], rfl⟩)
 refine H0 ?_
 exact A4C
 refine J3 ?_
 exact A4C
section
variable {k : Int} {nm : ByteArray} {num : Int} {ty fr : Ty} {lb : Int} {ks : List Tm}
theorem B5M (h : k = 2 ∨ k = 3 ∨ k = 4 ∨ k = 5) : J4 (.mk k nm num ty fr lb ks) = true := by
 rw [J4, if_neg (by omega)]; exact decide_eq_true h
theorem B5N (h : k = 10) (hl : ks.length = 2) : J4 (.mk k nm num ty fr lb ks) = (J4 (ks[0]'(by omega)) && J4 (ks[1]'(by omega))) := by
 rw [A3P (.inl h)]
 obtain ⟨a, b, rfl⟩ := ks2 hl
 simp
theorem B0P (h : P6 (.mk k nm num ty fr lb ks) = true ∨ inj (.mk k nm num ty fr lb ks) = true) (hl : ks.length = 1) : J4 (.mk k nm num ty fr lb ks) = J4 (ks[0]'(by omega)) := by
 rw [A3P (.inr h)]
 obtain ⟨a, rfl⟩ := ks1 hl
 simp
theorem B5O (h : ¬(k = 2 ∨ k = 3 ∨ k = 4 ∨ k = 5)) (h10 : k ≠ 10) (h2 : P6 (.mk k nm num ty fr lb ks) = false) (h3 : inj (.mk k nm num ty fr lb ks) = false) : J4 (.mk k nm num ty fr lb ks) = false := by
 rw [A4E h10 h2 h3]; exact decide_eq_false h
theorem B5P (h : P6 (.mk k nm num ty fr lb ks) = true ∨ inj (.mk k nm num ty fr lb ks) = true) : k = 14 := by
 rcases h with h | h
 ·exact (prx_spec' h)
 ·exact A4G h
where
 prx_spec' {k : Int} {nm : ByteArray} {num : Int} {ty fr : Ty} {lb : Int} {ks : List Tm} (h : P6 (.mk k nm num ty fr lb ks) = true) : k = 14 := by rw [A1w] at h; exact (of_decide_eq_true h).1
end
theorem A6J {Q : Prop} (h : Q := by (exact ⟨rfl, by rw [e2 (by omega) hl2]; simp [*], rfl⟩)) : Q := h
theorem A4V {Q : Prop} (h : Q := by (exact ⟨rfl, by rw [e3 (by first | exact .inl (by assumption) | exact .inr (by assumption)) hl1]; simp [*], rfl⟩)) : Q := h
theorem A6K : ∀ (t : Tm) (G : IM) (cells : List Value), cv t → B3 G t cells → Fn Tryz.prog 210 [.agg ⟨cells⟩] [] G (E5 (.bool (J4 t)) G) := by
 refine Tm.ind fun k nm num ty fr lb ks ih G cells hc hr => ?_
 obtain ⟨hN, hkk⟩ := hc.node
 have hop := hN.ops
 have h10 : k = 10 → ks.length = 2 := fun h => by rw [h] at hop; have : F0 10 = 2 := rfl; omega
 have h14 : k = 14 → ks.length = 1 := fun h => by rw [h] at hop; have : F0 14 = 1 := rfl; omega
 have hP := A4U _ G _ hr
 have hI := A6I (.mk k nm num ty fr lb ks) G _ hN.frA hr
 have e1 := @B5M k nm num ty fr lb ks
 have e2 := @B5N k nm num ty fr lb ks
 have e3 := @B0P k nm num ty fr lb ks
 have e4 := @B5O k nm num ty fr lb ks
 have e5 := @B5P k nm num ty fr lb ks
 generalize hpx : P6 (.mk k nm num ty fr lb ks) = bp at hP e3 e4 e5
 generalize hij : inj (.mk k nm num ty fr lb ks) = bi at hI e3 e4 e5
 generalize J4 (.mk k nm num ty fr lb ks) = R at e1 e2 e3 e4 ⊢
 obtain ⟨tk, tks⟩ := ty
 obtain ⟨fk, fks⟩ := fr
 obtain ⟨pt, ct, pf, cf, p, c, es, rfl, hk, hnum, hlb, hty, hfr, hsl, hkl⟩ := hr.open9
 refine B8 Tryz.func210 rfl Tryz.ntmps210 Tryz.results210 rfl ?_
 intro w0
 refine A2 ?_
 refine sE (C6 rfl rfl) rfl (fun b3 => ?_)
 refine I9 ?_
 refine B7 (tS (tS (tR (sB (qE rfl rfl) rfl rfl (fun h18 => ?_) (fun h18 => ?_)))))
 refine J3 ?_
 (exact ⟨rfl, by rw [e1 (by omega)], rfl⟩)
 refine A7 ?_
 refine sB (qE rfl rfl) rfl rfl (fun h42 => ?_) (fun h42 => ?_)
 refine J3 ?_
 (exact ⟨rfl, by rw [e1 (by omega)], rfl⟩)
 refine A7 ?_
 refine sB (qE rfl rfl) rfl rfl (fun h66 => ?_) (fun h66 => ?_)
 refine J3 ?_
 (exact ⟨rfl, by rw [e1 (by omega)], rfl⟩)
 refine B0 ?_
 refine sB (qE rfl rfl) rfl rfl (fun h89 => ?_) (fun h89 => ?_)
 refine J6 ?_
 (exact ⟨rfl, by rw [e1 (by omega)], rfl⟩)
 refine A7 ?_
 refine sB (qE rfl rfl) rfl rfl (fun h110 => ?_) (fun h110 => ?_)
 refine D0 ?_
 (have hl2 := h10 (by omega); obtain ⟨bx, ox, e, rfl, hl, hat, hre, hgb⟩ := hsl.kidTm hkl (i := 0) (by omega) (by omega); have hih := ih ks[0] (List.getElem_mem (by omega)) G e (hkk _ (List.getElem_mem (by omega))) hre; obtain ⟨_, _, e', hp', hl', hat', hre', hgb'⟩ := hsl.kidTm hkl (i := 1) (by omega) (by omega); cases hp'; have hih' := ih ks[1] (List.getElem_mem (by omega)) G e' (hkk _ (List.getElem_mem (by omega))) hre'; refine sP (B2 (j := 0) rfl rfl rfl (by omega)) rfl rfl ?_)
 refine sL (A0 rfl rfl (hat _) hl) rfl rfl ?_
 refine E8 rfl (hih) rfl rfl (fun h121 => ?_) (fun h121 => ?_)
 refine B9 ?_
 refine sP (B2 (j := 1) rfl rfl rfl (by omega)) rfl rfl ?_
 refine sL (A0 rfl rfl (hat' _) hl') rfl rfl ?_
 refine E8 rfl (hih') rfl rfl (fun h127 => ?_) (fun h127 => ?_)
 refine D0 ?_
 exact A6J
 refine D0 ?_
 exact A6J
 refine J7 ?_
 exact A6J
 refine I9 ?_
 refine E8 rfl (hP) rfl rfl (fun h171 => ?_) (fun h171 => ?_)
 refine A9 ?_
 (have hl1 := h14 (by first | exact e5 (.inl (by assumption)) | exact e5 (.inr (by assumption))); obtain ⟨bx, ox, e, rfl, hl, hat, hre, hgb⟩ := hsl.kidTm hkl (i := 0) (by omega) (by omega); have hih := ih ks[0] (List.getElem_mem (by omega)) G e (hkk _ (List.getElem_mem (by omega))) hre; refine sP (B2 (j := 0) rfl rfl rfl (by omega)) rfl rfl ?_)
 refine sL (A0 rfl rfl (hat _) hl) rfl rfl ?_
 refine E8 rfl (hih) rfl rfl (fun h181 => ?_) (fun h181 => ?_)
 refine A7 ?_
 exact A4V
 refine A7 ?_
 exact A4V
 refine A2 ?_
 refine E8 rfl (hI) rfl rfl (fun h198 => ?_) (fun h198 => ?_)
 refine B6 ?_
 (have hl1 := h14 (by first | exact e5 (.inl (by assumption)) | exact e5 (.inr (by assumption))); obtain ⟨bx, ox, e, rfl, hl, hat, hre, hgb⟩ := hsl.kidTm hkl (i := 0) (by omega) (by omega); have hih := ih ks[0] (List.getElem_mem (by omega)) G e (hkk _ (List.getElem_mem (by omega))) hre; refine sP (B2 (j := 0) rfl rfl rfl (by omega)) rfl rfl ?_)
 refine sL (A0 rfl rfl (hat _) hl) rfl rfl ?_
 refine E8 rfl (hih) rfl rfl (fun h205 => ?_) (fun h205 => ?_)
 refine A7 ?_
 exact A4V
 refine A7 ?_
 exact A4V
 refine J6 ?_
 (exact ⟨rfl, by rw [e4 (by omega) (by omega) (by assumption) (by assumption)], rfl⟩)
theorem A6L {Q : Prop} (h : Q := by (exact V3.mk (B3.of9 (ks := [e]) ⟨by omega, by omega⟩ ⟨by omega, by omega⟩ hl (hr2.mono hle5) (hr1.mono hle5) hone1 hone2))) : Q := h
theorem A0B (e : Tm) (a b : Ty) (l : Int) (G : IM) (ce ca cb : List Value) (hl : H3 l) (he : B3 G e ce) (ha : C2 G a ca) (hb : C2 G b cb) (hsa : a.small) (hsb : b.small) : Fn Tryz.prog 257 [.agg ⟨ce⟩, .agg ⟨ca⟩, .agg ⟨cb⟩, .int .i64 l] [] G (V3 (K6 e a b l)) := by
 have hel := he.len
 have heo := he.one
 obtain ⟨v1, v2, v3, v4, v5, v6, v7, v8, v9, rfl⟩ := T6 hel
 obtain ⟨ak, aks⟩ := a
 obtain ⟨bk, bks⟩ := b
 obtain ⟨pa, cca, ea, rfl, _⟩ := ha.open
 obtain ⟨pb, ccb, eb, rfl, _⟩ := hb.open
 refine B8 Tryz.func257 rfl Tryz.ntmps257 Tryz.results257 rfl ?_
 intro w0
 refine A2 ?_
 refine sE (C6 rfl rfl) rfl (fun b3 => ?_)
 refine sE (C6 rfl rfl) rfl (fun b4 => ?_)
 refine sE (C6 rfl rfl) rfl (fun b5 => ?_)
 refine sE (A6 rfl) rfl (fun b6 => ?_)
 refine B9 ?_
 refine E1 E3 rfl ?_
 refine K9 (i := 0) (l' := [tt,ff,ff,ff,ff,ff,ff,ff,ff]) rfl D5 (A4 rfl rfl) rfl (by kernel_rfl) rfl rfl ?_
 refine aL 2 rfl (A4 rfl rfl) rfl ?_
 refine aP 4 rfl (qM rfl) rfl ?_
 refine aL 5 rfl (A4 rfl rfl) rfl ?_
 refine P9 (j := 1) (j' := 6) (by kernel_rfl) ?_ ?_
 (refine H2 rfl rfl (P4 (.mk ak aks) _ _ hsa ha) rfl rfl rfl (fun v G1 hle1 hh => ?_); obtain ⟨cs1, F1, rfl, hs1, hn1⟩ := hh; obtain ⟨p1, c1, rfl, _⟩ := hs1.open; have hC2 := P4 _ G1 _ hsb (hb.mono hle1))
 refine P9 (j := 3) (j' := 6) (by kernel_rfl) ?_ ?_
 (refine H2 rfl rfl hC2 rfl rfl rfl (fun v G2 hle2 hh => ?_); obtain ⟨cs2, F2, rfl, hs2, hn2⟩ := hh; obtain ⟨p2, c2, rfl, _⟩ := hs2.open; have hr1 := hs1.R.mono ((B5.le G1 _).trans hle2); have hr2 := hs2.R.mono (B5.le G2 G1); have hre := he.mono (hle1.trans hle2))
 refine A3 6 ?_
 (refine E6 rfl (E2 rfl rfl rfl (by omega) (by unfold maxLen; omega) rfl) rfl rfl ?_; rintro _ ⟨b20, rfl⟩)
 refine aP 7 rfl (Z3 rfl rfl) rfl ?_
 refine A3 8 ?_
 refine H6 rfl ?_
 refine A2 ?_
 (refine H8 (cs := [v1, v2, v3, v4, v5, v6, v7, v8, v9]) (by repeat (first | exact Pk.here | apply Pk.there)) (fun G5 hle5 hsl5 hno5 => ?_); obtain ⟨hone1, hone2⟩ := A2Z (hre.mono hle5) hsl5)
 refine tT ?_
 refine L9 (rC rfl (A4 rfl rfl)) ?_
 exact A6L
 (refine E6 rfl (E2 rfl rfl rfl (by omega) (by unfold maxLen; omega) rfl) rfl rfl ?_; rintro _ ⟨b30, rfl⟩)
 refine A3 3 ?_
 (refine H2 rfl rfl hC2 rfl rfl rfl (fun v G2 hle2 hh => ?_); obtain ⟨cs2, F2, rfl, hs2, hn2⟩ := hh; obtain ⟨p2, c2, rfl, _⟩ := hs2.open; have hr1 := hs1.R.mono ((B5.le G1 _).trans hle2); have hr2 := hs2.R.mono (B5.le G2 G1); have hre := he.mono (hle1.trans hle2))
 refine aP 7 rfl (Z3 rfl rfl) rfl ?_
 refine A3 8 ?_
 refine H6 rfl ?_
 refine A2 ?_
 (refine H8 (cs := [v1, v2, v3, v4, v5, v6, v7, v8, v9]) (by repeat (first | exact Pk.here | apply Pk.there)) (fun G5 hle5 hsl5 hno5 => ?_); obtain ⟨hone1, hone2⟩ := A2Z (hre.mono hle5) hsl5)
 refine tT ?_
 refine L9 (rC rfl (A4 rfl rfl)) ?_
 exact A6L
 (refine E6 rfl (E2 rfl rfl rfl (by omega) (by unfold maxLen; omega) rfl) rfl rfl ?_; rintro _ ⟨b42, rfl⟩)
 refine A3 1 ?_
 (refine H2 rfl rfl (P4 (.mk ak aks) _ _ hsa ha) rfl rfl rfl (fun v G1 hle1 hh => ?_); obtain ⟨cs1, F1, rfl, hs1, hn1⟩ := hh; obtain ⟨p1, c1, rfl, _⟩ := hs1.open; have hC2 := P4 _ G1 _ hsb (hb.mono hle1))
 refine A3 3 ?_
 (refine H2 rfl rfl hC2 rfl rfl rfl (fun v G2 hle2 hh => ?_); obtain ⟨cs2, F2, rfl, hs2, hn2⟩ := hh; obtain ⟨p2, c2, rfl, _⟩ := hs2.open; have hr1 := hs1.R.mono ((B5.le G1 _).trans hle2); have hr2 := hs2.R.mono (B5.le G2 G1); have hre := he.mono (hle1.trans hle2))
 refine aP 7 rfl (Z3 rfl rfl) rfl ?_
 refine A3 8 ?_
 refine H6 rfl ?_
 refine A2 ?_
 (refine H8 (cs := [v1, v2, v3, v4, v5, v6, v7, v8, v9]) (by repeat (first | exact Pk.here | apply Pk.there)) (fun G5 hle5 hsl5 hno5 => ?_); obtain ⟨hone1, hone2⟩ := A2Z (hre.mono hle5) hsl5)
 refine tT ?_
 refine L9 (rC rfl (A4 rfl rfl)) ?_
 exact A6L
theorem B5Q (G : IM) : Fn Tryz.prog 258 [.bool true] [] G (V3 (A0g (true = true))) := by
 refine B8 Tryz.func258 rfl Tryz.ntmps258 Tryz.results258 rfl ?_
 intro w0
 refine A2 ?_
 refine sE (A6 rfl) rfl (fun b3 => ?_)
 refine Q0 ?_
 refine L9 (rC rfl (A4 rfl rfl)) ?_
 exact A4F
theorem B5R (G : IM) : Fn Tryz.prog 258 [.bool false] [] G (V3 (A0g (false = true))) := by
 refine B8 Tryz.func258 rfl Tryz.ntmps258 Tryz.results258 rfl ?_
 intro w0
 refine A2 ?_
 refine sE (A6 rfl) rfl (fun b3 => ?_)
 refine U6 ?_
 refine L9 (rC rfl (A4 rfl rfl)) ?_
 exact A4F
theorem B0Q (b : Bool) (G : IM) : Fn Tryz.prog 258 [.bool b] [] G (V3 (A0g (b = true))) := by
 cases b
 ·exact B5R G
 ·exact B5Q G
theorem A6M {Q : Prop} (h : Q := by (dsimp only; exact ⟨by omega, hle.trans hle3, by rw [A9v (by omega)]; exact D7.snoc (hst.mono hle3) hru⟩)) : Q := h
theorem A6N {Q : Prop} (h : Q := by (rw [if_neg (by rintro ⟨h1, h2⟩; first | omega | contradiction), if_neg (by rintro ⟨h1, h2⟩; first | omega | contradiction)]; rw [List.take_of_length_le (by rw [A08]; omega)] at hst; exact V3.mk (B3.put hk hnum hlb (hty1.mono hle4) (hfr1.mono hle4) (by rw [A08]) (C8.of hsl4 (by omega) hst.all (fun e he => (hst.each e he).2)) (hst.mono hle4)))) : Q := h
theorem B5S (y : ByteArray) (v : Tm) (vc : List Value) (hvs : v.small) : ∀ (t : Tm) (G : IM) (cells : List Value), t.small → B3 G t cells → B3 G v vc → Fn Tryz.prog 256 [.agg ⟨cells⟩, .string y, .agg ⟨vc⟩] [] G (V3 (A0s y v t)) := by
 refine Tm.ind fun k nm num ty fr lb ks ih G cells hts hr hv => ?_
 have hr0 := hr
 have hts0 := hts
 obtain ⟨_, htsm, hfsm, hsm, hks⟩ := A0h.1 hts
 have hvl := hv.len
 have hvo := hv.one
 have hRl := hr.len
 have hRo := hr.one
 rw [A0s]
 have hCv := A3B v G vc hvs hv
 have hCt := A3B _ G cells hts0 hr0
 obtain ⟨tk, tks⟩ := ty
 obtain ⟨fk, fks⟩ := fr
 obtain ⟨pt, ct, pf, cf, p, c, es, rfl, hk, hnum, hlb, hty, hfr, hsl, hkl⟩ := hr.open9
 have hn := hsl.le
 refine B8 Tryz.func256 rfl Tryz.ntmps256 Tryz.results256 rfl ?_
 intro w0
 refine A2 ?_
 refine sE (C6 rfl rfl) rfl (fun b3 => ?_)
 refine sE (C6 rfl rfl) rfl (fun b4 => ?_)
 refine sE (A6 rfl) rfl (fun b5 => ?_)
 refine A9 ?_
 refine sB (qE rfl rfl) rfl rfl (fun h13 => ?_) (fun h13 => ?_)
 refine B6 ?_
 refine sB (A1Y rfl rfl) rfl rfl (fun h18 => ?_) (fun h18 => ?_)
 refine A7 ?_
 refine sL (A0 rfl rfl (B1 (by repeat first | exact mH | apply mT)) hvl) rfl rfl ?_
 (refine D4 rfl hCv rfl rfl (fun v9 G1 hle1 hh => ?_); obtain ⟨uc, F1, rfl, hs1, hn1⟩ := hh; have hru := hs1.R.mono (B5.le G1 G); have hul := hru.len; have huo := hru.one)
 refine sS rfl rfl rfl hul huo rfl ?_ (hu := by exact D8 hul.symm)
 refine B6 ?_
 refine L9 (rC rfl (A0 rfl rfl (B1 (by repeat first | exact mH | apply mT)) hul)) ?_
 (rw [if_pos (by refine ⟨by omega, by assumption⟩)]; exact V3.mk hru)
 refine H0 ?_
 refine sP (J1 rfl rfl (by omega)) rfl rfl ?_
 refine J7 ?_
 refine sE (A6 rfl) rfl (fun b60 => ?_)
 refine A9 ?_
 (refine D4 rfl (P4 (.mk tk tks) _ _ htsm hty) rfl rfl (fun v9 G1 hle1 hh => ?_); obtain ⟨cs1, F1, rfl, hs1, hn1⟩ := hh; obtain ⟨q1, c1, rfl, _⟩ := hs1.open; have hC2 := P4 (.mk fk fks) G1 _ hfsm (hfr.mono hle1))
 refine D0 ?_
 (refine D4 rfl hC2 rfl rfl (fun v9 G2 hle2 hh => ?_); obtain ⟨cs2, F2, rfl, hs2, hn2⟩ := hh; obtain ⟨q2, c2, rfl, _⟩ := hs2.open; have hty1 := hs1.R.mono ((B5.le G1 _).trans hle2); have hfr1 := hs2.R.mono (B5.le G2 G1); have hle12 := hle1.trans hle2; replace hsl := hsl.mono hle12; replace hkl := hkl.mono hle12; replace hv := hv.mono hle12)
 refine J3 ?_
 refine B7 ?_
 (refine R5 37 9 ?_; refine I3 (fun (x : Nat × Option Addr × Nat × List (List Value) × IM) => ⟨[(8, .int .i64 x.1), (1, .string y), (3, .pointer (some ⟨b3, 0, none⟩)), (5, .pointer (some ⟨b4, 0, none⟩)), (6, .pointer (some ⟨b5, 0, none⟩)), (7, .pointer (some ⟨b60, 0, none⟩))], [.blk b60 [.int .i64 k, .string nm, .int .i64 num, .int .i64 tk, .slice q1 tks.length c1, .int .i64 fk, .slice q2 fks.length c2, .int .i64 lb, .slice x.2.1 x.1 x.2.2.1], .slc x.2.1 x.2.2.1 37 9 x.1 x.2.2.2.1.flatten, .blk b5 [.int .i64 0, .string ⟨⟨[]⟩⟩, .int .i64 0, .int .i64 0, .slice none 0 0, .int .i64 0, .slice none 0 0, .int .i64 0, .slice none 0 0], .blk b4 vc, .blk b3 [.int .i64 k, .string nm, .int .i64 num, .int .i64 tk, .slice pt tks.length ct, .int .i64 fk, .slice pf fks.length cf, .int .i64 lb, .slice p ks.length c]], x.2.2.2.2⟩) (fun x => x.1 ≤ ks.length ∧ C5 G2 x.2.2.2.2 ∧ D7 x.2.2.2.2 ((Y7 y v ks).take x.1) x.2.2.2.1) (fun x => ks.length - x.1) (0, none, 0, [], G2) ?_ ?_ ?_)
 (simp only [H9]; exact D3)
 exact A2v
 (rintro ⟨i, pn, cn, es', Gi⟩ ⟨hi, hle, hst⟩; simp only [] at hi hle hst ⊢; replace hsl := hsl.mono hle; replace hkl := hkl.mono hle; replace hv := hv.mono hle; replace hty1 := hty1.mono hle; replace hfr1 := hfr1.mono hle; have hsl' := hst.len; rw [List.length_take, A08] at hsl')
 refine A9 ?_
 refine sB (I8 rfl rfl) rfl rfl (fun h106 => ?_) (fun h106 => ?_)
 refine A7 ?_
 refine B7 ?_
 (have hil : i < ks.length := (by omega); obtain ⟨bx, ox, e, rfl, hl, hat, hre, hgb⟩ := hsl.kidTm hkl (i := i) (by omega) (by omega); have hel := hre.len; have heo := hre.one; refine E1 E3 rfl ?_)
 refine K9 (i := 8) (l' := [ff,ff,ff,ff,ff,ff,ff,ff,tt,ff,ff,ff,ff,ff]) rfl D5 (A0 rfl rfl (B1 (by repeat first | exact mH | apply mT)) hvl) rfl (by kernel_rfl) rfl rfl ?_
 refine aP 0 rfl (C0 rfl) rfl ?_
 refine aL 1 rfl (C9 rfl rfl) rfl ?_
 refine aP 2 rfl (C0 rfl) rfl ?_
 refine aL 3 rfl (C9 rfl rfl) rfl ?_
 refine aP 4 rfl (qM rfl) rfl ?_
 refine aP 5 rfl (B2 (j := i) rfl rfl rfl (by omega)) rfl ?_
 refine aL 6 rfl (A0 rfl rfl (hat _) hl) rfl ?_
 refine aP 7 rfl (qM rfl) rfl ?_
 refine A3 9 ?_
 (refine H2 rfl rfl (ih ks[i] (List.getElem_mem (by omega)) Gi _ (Tm.smallL_mem hks _ (List.getElem_mem (by omega))) hre hv) rfl rfl rfl (fun u G3 hle3 hh => ?_); obtain ⟨uc, rfl, hru⟩ := hh; have hul := hru.len; have huo := hru.one; obtain ⟨v1, v2, v3, v4, v5, v6, v7, v8, v9, rfl⟩ := T6 hul)
 refine A3 10 ?_
 (refine E6 rfl (E2 rfl rfl rfl (by omega) (by unfold maxLen; omega) rfl) rfl rfl ?_; rintro _ ⟨b127, rfl⟩)
 refine A3 11 ?_
 (refine T9 rfl rfl rfl rfl rfl rfl (fun _ _ => by repeat (first | exact Sw.here | apply Sw.there)) (M4 (by repeat first | exact mH | apply mT)) rfl (fun u hu => List.all_eq_true.1 huo u hu) (by unfold maxLen; omega) (by omega) rfl rfl (by repeat (first | exact D1.nil | apply D1.dep (by decide +kernel) | apply D1.im (by decide +kernel) (by assumption) (by repeat first | exact mH | apply mT) | apply D1.blk (by decide +kernel) (by repeat (first | exact Pk.here | apply Pk.there)) (by repeat first | exact mH | apply mT) | apply D1.slc (by decide +kernel) (by repeat (first | exact Pk.here | apply Pk.there)) (by repeat first | exact mH | apply mT))) (fun p7 c7 => ?_))
 refine aP 12 rfl (C0 rfl) rfl ?_
 refine A3 13 ?_
 refine X8 rfl rfl rfl rfl rfl rfl rfl rfl (by decide +kernel) (by repeat first | exact Sw.here | apply Sw.there) (by rfl) ?_
 refine B0 ?_
 refine sP (E7 rfl rfl (by omega) (by omega)) rfl rfl ?_
 refine A2 ?_
 refine I7 (i + 1, p7, c7, es' ++ [[v1, v2, v3, v4, v5, v6, v7, v8, v9]], G3) ?_ ?_ ?_
 (simp only [H9]; exact D3)
 exact A6M
 exact R6
 refine J7 ?_
 (refine H8 (cs := es'.flatten) (by repeat (first | exact Pk.here | apply Pk.there)) (fun G4 hle4 hsl4 hno4 => ?_); obtain rfl : i = ks.length := (by omega))
 refine tT ?_
 refine L9 (rC rfl (A4 rfl rfl)) ?_
 exact A6N
 refine J3 ?_
 refine sB (qE rfl rfl) rfl rfl (fun h179 => ?_) (fun h179 => ?_)
 refine B6 ?_
 refine sB (A1Y rfl rfl) rfl rfl (fun h184 => ?_) (fun h184 => ?_)
 refine A9 ?_
 (refine D4 rfl hCt rfl rfl (fun v9 G1 hle1 hh => ?_); obtain ⟨uc, F1, rfl, hs1, hn1⟩ := hh; have hru := hs1.R.mono (B5.le G1 G); have hul := hru.len; have huo := hru.one)
 refine sS rfl rfl rfl hul huo rfl ?_ (hu := by exact D8 hul.symm)
 refine B6 ?_
 refine L9 (rC rfl (A0 rfl rfl (B1 (by repeat first | exact mH | apply mT)) hul)) ?_
 (rw [if_neg (by rintro ⟨h1, h2⟩; first | omega | contradiction), if_pos (by refine ⟨by omega, by assumption⟩)]; exact V3.mk hru)
 refine D9 ?_
 refine sE (A6 rfl) rfl (fun b209 => ?_)
 refine A9 ?_
 (refine D4 rfl (P4 (.mk tk tks) _ _ htsm hty) rfl rfl (fun v9 G1 hle1 hh => ?_); obtain ⟨cs1, F1, rfl, hs1, hn1⟩ := hh; obtain ⟨q1, c1, rfl, _⟩ := hs1.open; have hC2 := P4 (.mk fk fks) G1 _ hfsm (hfr.mono hle1))
 refine D0 ?_
 (refine D4 rfl hC2 rfl rfl (fun v9 G2 hle2 hh => ?_); obtain ⟨cs2, F2, rfl, hs2, hn2⟩ := hh; obtain ⟨q2, c2, rfl, _⟩ := hs2.open; have hty1 := hs1.R.mono ((B5.le G1 _).trans hle2); have hfr1 := hs2.R.mono (B5.le G2 G1); have hle12 := hle1.trans hle2; replace hsl := hsl.mono hle12; replace hkl := hkl.mono hle12; replace hv := hv.mono hle12)
 refine J3 ?_
 refine B7 ?_
 (refine R5 37 9 ?_; refine I3 (fun (x : Nat × Option Addr × Nat × List (List Value) × IM) => ⟨[(8, .int .i64 x.1), (1, .string y), (3, .pointer (some ⟨b3, 0, none⟩)), (5, .pointer (some ⟨b4, 0, none⟩)), (6, .pointer (some ⟨b5, 0, none⟩)), (7, .pointer (some ⟨b209, 0, none⟩))], [.blk b209 [.int .i64 k, .string nm, .int .i64 num, .int .i64 tk, .slice q1 tks.length c1, .int .i64 fk, .slice q2 fks.length c2, .int .i64 lb, .slice x.2.1 x.1 x.2.2.1], .slc x.2.1 x.2.2.1 37 9 x.1 x.2.2.2.1.flatten, .blk b5 [.int .i64 0, .string ⟨⟨[]⟩⟩, .int .i64 0, .int .i64 0, .slice none 0 0, .int .i64 0, .slice none 0 0, .int .i64 0, .slice none 0 0], .blk b4 vc, .blk b3 [.int .i64 k, .string nm, .int .i64 num, .int .i64 tk, .slice pt tks.length ct, .int .i64 fk, .slice pf fks.length cf, .int .i64 lb, .slice p ks.length c]], x.2.2.2.2⟩) (fun x => x.1 ≤ ks.length ∧ C5 G2 x.2.2.2.2 ∧ D7 x.2.2.2.2 ((Y7 y v ks).take x.1) x.2.2.2.1) (fun x => ks.length - x.1) (0, none, 0, [], G2) ?_ ?_ ?_)
 (simp only [H9]; exact D3)
 exact A2v
 (rintro ⟨i, pn, cn, es', Gi⟩ ⟨hi, hle, hst⟩; simp only [] at hi hle hst ⊢; replace hsl := hsl.mono hle; replace hkl := hkl.mono hle; replace hv := hv.mono hle; replace hty1 := hty1.mono hle; replace hfr1 := hfr1.mono hle; have hsl' := hst.len; rw [List.length_take, A08] at hsl')
 refine A9 ?_
 refine sB (I8 rfl rfl) rfl rfl (fun h255 => ?_) (fun h255 => ?_)
 refine A7 ?_
 refine B7 ?_
 (have hil : i < ks.length := (by omega); obtain ⟨bx, ox, e, rfl, hl, hat, hre, hgb⟩ := hsl.kidTm hkl (i := i) (by omega) (by omega); have hel := hre.len; have heo := hre.one; refine E1 E3 rfl ?_)
 refine K9 (i := 8) (l' := [ff,ff,ff,ff,ff,ff,ff,ff,tt,ff,ff,ff,ff,ff]) rfl D5 (A0 rfl rfl (B1 (by repeat first | exact mH | apply mT)) hvl) rfl (by kernel_rfl) rfl rfl ?_
 refine aP 0 rfl (C0 rfl) rfl ?_
 refine aL 1 rfl (C9 rfl rfl) rfl ?_
 refine aP 2 rfl (C0 rfl) rfl ?_
 refine aL 3 rfl (C9 rfl rfl) rfl ?_
 refine aP 4 rfl (qM rfl) rfl ?_
 refine aP 5 rfl (B2 (j := i) rfl rfl rfl (by omega)) rfl ?_
 refine aL 6 rfl (A0 rfl rfl (hat _) hl) rfl ?_
 refine aP 7 rfl (qM rfl) rfl ?_
 refine A3 9 ?_
 (refine H2 rfl rfl (ih ks[i] (List.getElem_mem (by omega)) Gi _ (Tm.smallL_mem hks _ (List.getElem_mem (by omega))) hre hv) rfl rfl rfl (fun u G3 hle3 hh => ?_); obtain ⟨uc, rfl, hru⟩ := hh; have hul := hru.len; have huo := hru.one; obtain ⟨v1, v2, v3, v4, v5, v6, v7, v8, v9, rfl⟩ := T6 hul)
 refine A3 10 ?_
 (refine E6 rfl (E2 rfl rfl rfl (by omega) (by unfold maxLen; omega) rfl) rfl rfl ?_; rintro _ ⟨b276, rfl⟩)
 refine A3 11 ?_
 (refine T9 rfl rfl rfl rfl rfl rfl (fun _ _ => by repeat (first | exact Sw.here | apply Sw.there)) (M4 (by repeat first | exact mH | apply mT)) rfl (fun u hu => List.all_eq_true.1 huo u hu) (by unfold maxLen; omega) (by omega) rfl rfl (by repeat (first | exact D1.nil | apply D1.dep (by decide +kernel) | apply D1.im (by decide +kernel) (by assumption) (by repeat first | exact mH | apply mT) | apply D1.blk (by decide +kernel) (by repeat (first | exact Pk.here | apply Pk.there)) (by repeat first | exact mH | apply mT) | apply D1.slc (by decide +kernel) (by repeat (first | exact Pk.here | apply Pk.there)) (by repeat first | exact mH | apply mT))) (fun p7 c7 => ?_))
 refine aP 12 rfl (C0 rfl) rfl ?_
 refine A3 13 ?_
 refine X8 rfl rfl rfl rfl rfl rfl rfl rfl (by decide +kernel) (by repeat first | exact Sw.here | apply Sw.there) (by rfl) ?_
 refine B0 ?_
 refine sP (E7 rfl rfl (by omega) (by omega)) rfl rfl ?_
 refine A2 ?_
 refine I7 (i + 1, p7, c7, es' ++ [[v1, v2, v3, v4, v5, v6, v7, v8, v9]], G3) ?_ ?_ ?_
 (simp only [H9]; exact D3)
 exact A6M
 exact R6
 refine J7 ?_
 (refine H8 (cs := es'.flatten) (by repeat (first | exact Pk.here | apply Pk.there)) (fun G4 hle4 hsl4 hno4 => ?_); obtain rfl : i = ks.length := (by omega))
 refine tT ?_
 refine L9 (rC rfl (A4 rfl rfl)) ?_
 exact A6N
 refine J7 ?_
 refine sE (A6 rfl) rfl (fun b326 => ?_)
 refine A9 ?_
 (refine D4 rfl (P4 (.mk tk tks) _ _ htsm hty) rfl rfl (fun v9 G1 hle1 hh => ?_); obtain ⟨cs1, F1, rfl, hs1, hn1⟩ := hh; obtain ⟨q1, c1, rfl, _⟩ := hs1.open; have hC2 := P4 (.mk fk fks) G1 _ hfsm (hfr.mono hle1))
 refine D0 ?_
 (refine D4 rfl hC2 rfl rfl (fun v9 G2 hle2 hh => ?_); obtain ⟨cs2, F2, rfl, hs2, hn2⟩ := hh; obtain ⟨q2, c2, rfl, _⟩ := hs2.open; have hty1 := hs1.R.mono ((B5.le G1 _).trans hle2); have hfr1 := hs2.R.mono (B5.le G2 G1); have hle12 := hle1.trans hle2; replace hsl := hsl.mono hle12; replace hkl := hkl.mono hle12; replace hv := hv.mono hle12)
 refine J3 ?_
 refine B7 ?_
 (refine R5 37 9 ?_; refine I3 (fun (x : Nat × Option Addr × Nat × List (List Value) × IM) => ⟨[(8, .int .i64 x.1), (1, .string y), (3, .pointer (some ⟨b3, 0, none⟩)), (5, .pointer (some ⟨b4, 0, none⟩)), (6, .pointer (some ⟨b5, 0, none⟩)), (7, .pointer (some ⟨b326, 0, none⟩))], [.blk b326 [.int .i64 k, .string nm, .int .i64 num, .int .i64 tk, .slice q1 tks.length c1, .int .i64 fk, .slice q2 fks.length c2, .int .i64 lb, .slice x.2.1 x.1 x.2.2.1], .slc x.2.1 x.2.2.1 37 9 x.1 x.2.2.2.1.flatten, .blk b5 [.int .i64 0, .string ⟨⟨[]⟩⟩, .int .i64 0, .int .i64 0, .slice none 0 0, .int .i64 0, .slice none 0 0, .int .i64 0, .slice none 0 0], .blk b4 vc, .blk b3 [.int .i64 k, .string nm, .int .i64 num, .int .i64 tk, .slice pt tks.length ct, .int .i64 fk, .slice pf fks.length cf, .int .i64 lb, .slice p ks.length c]], x.2.2.2.2⟩) (fun x => x.1 ≤ ks.length ∧ C5 G2 x.2.2.2.2 ∧ D7 x.2.2.2.2 ((Y7 y v ks).take x.1) x.2.2.2.1) (fun x => ks.length - x.1) (0, none, 0, [], G2) ?_ ?_ ?_)
 (simp only [H9]; exact D3)
 exact A2v
 (rintro ⟨i, pn, cn, es', Gi⟩ ⟨hi, hle, hst⟩; simp only [] at hi hle hst ⊢; replace hsl := hsl.mono hle; replace hkl := hkl.mono hle; replace hv := hv.mono hle; replace hty1 := hty1.mono hle; replace hfr1 := hfr1.mono hle; have hsl' := hst.len; rw [List.length_take, A08] at hsl')
 refine A9 ?_
 refine sB (I8 rfl rfl) rfl rfl (fun h372 => ?_) (fun h372 => ?_)
 refine A7 ?_
 refine B7 ?_
 (have hil : i < ks.length := (by omega); obtain ⟨bx, ox, e, rfl, hl, hat, hre, hgb⟩ := hsl.kidTm hkl (i := i) (by omega) (by omega); have hel := hre.len; have heo := hre.one; refine E1 E3 rfl ?_)
 refine K9 (i := 8) (l' := [ff,ff,ff,ff,ff,ff,ff,ff,tt,ff,ff,ff,ff,ff]) rfl D5 (A0 rfl rfl (B1 (by repeat first | exact mH | apply mT)) hvl) rfl (by kernel_rfl) rfl rfl ?_
 refine aP 0 rfl (C0 rfl) rfl ?_
 refine aL 1 rfl (C9 rfl rfl) rfl ?_
 refine aP 2 rfl (C0 rfl) rfl ?_
 refine aL 3 rfl (C9 rfl rfl) rfl ?_
 refine aP 4 rfl (qM rfl) rfl ?_
 refine aP 5 rfl (B2 (j := i) rfl rfl rfl (by omega)) rfl ?_
 refine aL 6 rfl (A0 rfl rfl (hat _) hl) rfl ?_
 refine aP 7 rfl (qM rfl) rfl ?_
 refine A3 9 ?_
 (refine H2 rfl rfl (ih ks[i] (List.getElem_mem (by omega)) Gi _ (Tm.smallL_mem hks _ (List.getElem_mem (by omega))) hre hv) rfl rfl rfl (fun u G3 hle3 hh => ?_); obtain ⟨uc, rfl, hru⟩ := hh; have hul := hru.len; have huo := hru.one; obtain ⟨v1, v2, v3, v4, v5, v6, v7, v8, v9, rfl⟩ := T6 hul)
 refine A3 10 ?_
 (refine E6 rfl (E2 rfl rfl rfl (by omega) (by unfold maxLen; omega) rfl) rfl rfl ?_; rintro _ ⟨b393, rfl⟩)
 refine A3 11 ?_
 (refine T9 rfl rfl rfl rfl rfl rfl (fun _ _ => by repeat (first | exact Sw.here | apply Sw.there)) (M4 (by repeat first | exact mH | apply mT)) rfl (fun u hu => List.all_eq_true.1 huo u hu) (by unfold maxLen; omega) (by omega) rfl rfl (by repeat (first | exact D1.nil | apply D1.dep (by decide +kernel) | apply D1.im (by decide +kernel) (by assumption) (by repeat first | exact mH | apply mT) | apply D1.blk (by decide +kernel) (by repeat (first | exact Pk.here | apply Pk.there)) (by repeat first | exact mH | apply mT) | apply D1.slc (by decide +kernel) (by repeat (first | exact Pk.here | apply Pk.there)) (by repeat first | exact mH | apply mT))) (fun p7 c7 => ?_))
 refine aP 12 rfl (C0 rfl) rfl ?_
 refine A3 13 ?_
 refine X8 rfl rfl rfl rfl rfl rfl rfl rfl (by decide +kernel) (by repeat first | exact Sw.here | apply Sw.there) (by rfl) ?_
 refine B0 ?_
 refine sP (E7 rfl rfl (by omega) (by omega)) rfl rfl ?_
 refine A2 ?_
 refine I7 (i + 1, p7, c7, es' ++ [[v1, v2, v3, v4, v5, v6, v7, v8, v9]], G3) ?_ ?_ ?_
 (simp only [H9]; exact D3)
 exact A6M
 exact R6
 refine J7 ?_
 (refine H8 (cs := es'.flatten) (by repeat (first | exact Pk.here | apply Pk.there)) (fun G4 hle4 hsl4 hno4 => ?_); obtain rfl : i = ks.length := (by omega))
 refine tT ?_
 refine L9 (rC rfl (A4 rfl rfl)) ?_
 exact A6N
theorem B0R (k : Int) (a b : Tm) (G : IM) (ca cb : List Value) (hk78 : k = 7 ∨ k = 8) (hca : 0 ≤ a.num ∧ a.num ≤ 999) (hcb : 0 ≤ b.num ∧ b.num ≤ 999) (hra : B3 G a ca) (hrb : B3 G b cb) : Fn Tryz.prog 249 [.int .i64 k, .agg ⟨ca⟩, .agg ⟨cb⟩] [] G (L4 (N9 k C1 C1 0 [a, b])) := by
 obtain ⟨ak, anm, anum, ⟨atk, atks⟩, ⟨afk, afks⟩, alb, aks⟩ := a
 obtain ⟨bk, bnm, bnum, ⟨btk, btks⟩, ⟨bfk, bfks⟩, blb, bks⟩ := b
 obtain ⟨apt, act, apf, acf, ap, ac, aes, rfl, hak, hanum, halb, haty, hafr, hasl, hakl⟩ := hra.open9
 obtain ⟨bpt, bct, bpf, bcf, bp, bc, bes, rfl, hbk, hbnum, hblb, hbty, hbfr, hbsl, hbkl⟩ := hrb.open9
 simp only [Tm.num] at hca hcb
 have hR : N9 k C1 C1 0 [Tm.mk ak anm anum (.mk atk atks) (.mk afk afks) alb aks, Tm.mk bk bnm bnum (.mk btk btks) (.mk bfk bfks) blb bks] = (if ak = 2 ∧ bk = 2 then (if k = 7 then A2j ((anum + bnum) % 1000) else A0g (anum < bnum), 1, 0) else P7) := by
  unfold N9; rw [if_neg (by omega), if_pos hk78]; rfl
 rw [hR]
 have htm : (anum + bnum).tmod 1000 = (anum + bnum) % 1000 := A9x hca hcb
 have hb : H3 ((anum + bnum) % 1000) := ⟨by omega, by omega⟩
 refine B8 Tryz.func249 rfl Tryz.ntmps249 Tryz.results249 rfl ?_
 intro w0
 refine A2 ?_
 refine sE (C6 rfl rfl) rfl (fun b3 => ?_)
 refine sE (C6 rfl rfl) rfl (fun b4 => ?_)
 refine sE (A6 rfl) rfl (fun b5 => ?_)
 refine D9 ?_
 refine sB (M7 rfl rfl) rfl rfl (fun h15 => ?_) (fun h15 => ?_)
 refine U6 ?_
 refine D2 (rC rfl (A4 rfl rfl)) (rT rfl) (rT rfl) ?_
 (exact L4.mk (by rw [if_neg (by omega)]; rfl) (O0 _))
 refine B9 ?_
 refine sB (M7 rfl rfl) rfl rfl (fun h39 => ?_) (fun h39 => ?_)
 refine J7 ?_
 refine D2 (rC rfl (A4 rfl rfl)) (rT rfl) (rT rfl) ?_
 (exact L4.mk (by rw [if_neg (by omega)]; rfl) (O0 _))
 refine I9 ?_
 refine sB (qE rfl rfl) rfl rfl (fun h66 => ?_) (fun h66 => ?_)
 refine D9 ?_
 refine sP (E7 rfl rfl (by omega) (by omega)) rfl rfl ?_
 refine sP (A45 rfl rfl (by omega)) rfl rfl ?_
 (rw [htm]; refine H4 rfl (B3j _ _) rfl rfl ?_)
 refine A9 ?_
 refine D2 (rC rfl (A4 rfl rfl)) (rT rfl) (rT rfl) ?_
 (exact L4.mk (u := A2j (HMod.hMod (anum + bnum) 1000)) (by rw [if_pos ⟨by omega, by omega⟩, if_pos (by omega)]) (B3.put (us := []) ⟨by decide, by decide⟩ hb ⟨by decide, by decide⟩ (A2W _) (A2W _) rfl (C8.nil _ _) rfl))
 refine H0 ?_
 (refine sB (I8 rfl rfl) rfl rfl (fun h99 => ?_) (fun h99 => ?_))
 (refine D4 rfl (B0Q _ _) rfl rfl (fun u G1 hle1 hh => ?_); obtain ⟨uc, rfl, hru⟩ := hh; have hul := hru.len; have huo := hru.one)
 refine sS rfl rfl rfl hul huo rfl ?_ (hu := by exact D8 hul.symm)
 refine B0 ?_
 refine D2 (rC rfl (A0 rfl rfl (B1 (by repeat first | exact mH | apply mT)) hul)) (rT rfl) (rT rfl) ?_
 (exact L4.mk (by rw [if_pos ⟨by omega, by omega⟩, if_neg (by omega)]; unfold A0g; rw [if_pos (by omega), if_pos rfl]) hru)
 (refine D4 rfl (B0Q _ _) rfl rfl (fun u G1 hle1 hh => ?_); obtain ⟨uc, rfl, hru⟩ := hh; have hul := hru.len; have huo := hru.one)
 refine sS rfl rfl rfl hul huo rfl ?_ (hu := by exact D8 hul.symm)
 refine B0 ?_
 refine D2 (rC rfl (A0 rfl rfl (B1 (by repeat first | exact mH | apply mT)) hul)) (rT rfl) (rT rfl) ?_
 (exact L4.mk (by rw [if_pos ⟨by omega, by omega⟩, if_neg (by omega)]; unfold A0g; rw [if_neg (by omega), if_neg (by decide)]) hru)
theorem A4W {Q : Prop} (h : Q := by (exact L4.mk (by rw [if_neg (by omega), if_neg (by omega)]; rfl) (O0 _))) : Q := h
theorem A3d {Q : Prop} (h : Q := by (exact L4.mk (by rw [if_neg hnd, if_pos hq, A1T (by omega), A0K (by omega), A0K (by omega), A0K (by omega), A0K (by omega)]) hrw)) : Q := h
theorem B5T (a b : Tm) (G : IM) (ca cb : List Value) (hca : cv a) (hbs : b.small) (hra : B3 G a ca) (hrb : B3 G b cb) : Fn Tryz.prog 248 [.agg ⟨ca⟩, .agg ⟨cb⟩] [] G (L4 (N9 6 C1 C1 0 [a, b])) := by
 have hsma := A2l a hca
 have hP := A4U a G _ hra
 obtain ⟨ak, anm, anum, ⟨atk, atks⟩, ⟨afk, afks⟩, alb, aks⟩ := a
 obtain ⟨hN, hkk⟩ := hca.node
 have hops := hN.ops
 have hbl := hN.lbB
 have htyA := hN.tyA
 have hfrA := hN.frA
 rw [F8] at htyA hfrA
 have htyS := fun t (h : t ∈ atks) => (A1o.1 htyA.2.2 t h).small
 have hfrS := fun t (h : t ∈ afks) => (A1o.1 hfrA.2.2 t h).small
 have h14 : ak = 14 → aks.length = 1 := fun h => by rw [h] at hops; have : F0 14 = 1 := rfl; omega
 have h5 : ak = 5 → aks.length = 1 := fun h => by rw [h] at hops; have : F0 5 = 1 := rfl; omega
 obtain ⟨_, _, _, _, hksm⟩ := A0h.1 hsma
 have hbL := hrb.len
 have hbO := hrb.one
 obtain ⟨apt, act, apf, acf, ap, ac, aes, rfl, hak, hanum, halb, haty, hafr, hasl, hakl⟩ := hra.open9
 obtain ⟨tes, htS, htL⟩ := haty.kids
 obtain ⟨fes, hfS, hfL⟩ := hafr.kids
 simp only [Ty.ks] at htS htL hfS hfL
 obtain ⟨y1, y2, y3, y4, y5, y6, y7, y8, y9, rfl⟩ := T6 hbL
 have hR : N9 6 C1 C1 0 [Tm.mk ak anm anum (.mk atk atks) (.mk afk afks) alb aks, b] = (if ak = 5 then (A0s anm b (kd aks 0), 1, 0) else if (ak = 14 ∧ afk = atk ∧ (atk = 4 ∨ atk = 5)) ∧ atk = 4 then (K6 (A0f 6 [kd aks 0, K6 b (kt atks 0) (kt afks 0) (-alb)]) (kt afks 1) (kt atks 1) alb, 1, 0) else P7) := by
  unfold N9
  rw [if_pos rfl, show kd [Tm.mk ak anm anum (.mk atk atks) (.mk afk afks) alb aks, b] 0 = Tm.mk ak anm anum (.mk atk atks) (.mk afk afks) alb aks from rfl, A1w]
  simp only [decide_eq_true_eq]
  rfl
 rw [hR]
 replace hP : Fn Tryz.prog 130 _ [] G (E5 (.bool (decide (ak = 14 ∧ afk = atk ∧ (atk = 4 ∨ atk = 5)))) G) := hP
 refine B8 Tryz.func248 rfl Tryz.ntmps248 Tryz.results248 rfl ?_
 intro w0
 refine A2 ?_
 refine sE (C6 rfl rfl) rfl (fun b3 => ?_)
 refine sE (C6 rfl rfl) rfl (fun b4 => ?_)
 refine sE (A6 rfl) rfl (fun b5 => ?_)
 refine D9 ?_
 refine sB (qE rfl rfl) rfl rfl (fun h15 => ?_) (fun h15 => ?_)
 refine B6 ?_
 (have hq : ak = 5 := (by assumption); have hq1 := h5 hq; obtain ⟨bq, oq, e3, rfl, hl3, hat3, hre3, hgb3⟩ := hasl.kidTm hakl (i := 0) (by omega) (by omega); have hS := B5S anm b _ hbs aks[0] G e3 (Tm.smallL_mem hksm _ (List.getElem_mem (by omega))) hre3 hrb; refine E1 E3 rfl ?_)
 refine K9 (i := 6) (l' := [ff,ff,ff,ff,ff,ff,tt,ff,ff,ff,ff]) rfl D5 (A0 rfl rfl (B1 (by repeat first | exact mH | apply mT)) rfl) rfl (by kernel_rfl) rfl rfl ?_
 refine aP 0 rfl (C0 rfl) rfl ?_
 refine aL 1 rfl (C9 rfl rfl) rfl ?_
 refine aP 2 rfl (B2 (j := 0) rfl rfl rfl (by omega)) rfl ?_
 refine aL 3 rfl (A0 rfl rfl (hat3 _) hl3) rfl ?_
 refine aP 4 rfl (C0 rfl) rfl ?_
 refine aL 5 rfl (C9 rfl rfl) rfl ?_
 refine A3 7 ?_
 (refine H2 rfl rfl hS rfl rfl rfl (fun u G1 hle1 hh => ?_); obtain ⟨uc, rfl, hru⟩ := hh; have hwl := hru.len; have hwo := hru.one)
 refine A3 8 ?_
 (refine oS rfl rfl rfl rfl hwl hwo rfl rfl ?_ (hu := by exact D8 hwl.symm))
 refine aP 9 rfl (qA rfl) rfl ?_
 refine aP 10 rfl (qA rfl) rfl ?_
 refine B6 ?_
 refine D2 (rC rfl (A0 rfl rfl (B1 (by repeat first | exact mH | apply mT)) hwl)) (rT rfl) (rT rfl) ?_
 (exact L4.mk (by rw [if_pos hq, A1T (by omega)]) hru)
 refine D9 ?_
 focus (by_cases hpx : (ak = 14 ∧ afk = atk ∧ (atk = 4 ∨ atk = 5)); rw [decide_eq_true hpx] at hP; rotate_left; rw [decide_eq_false hpx] at hP; rotate_left; all_goals (refine H4 rfl hP rfl rfl ?_))
 refine B0 ?_
 refine sB (M7 rfl rfl) rfl rfl (fun h55 => ?_) (fun h55 => ?_)
 refine J7 ?_
 refine D2 (rC rfl (A4 rfl rfl)) (rT rfl) (rT rfl) ?_
 exact A4W
 refine A9 ?_
 (have hnd : ¬ak = 5 := (by omega); have hq : (ak = 14 ∧ afk = atk ∧ (atk = 4 ∨ atk = 5)) ∧ atk = 4 := ⟨hpx, by omega⟩; have hq1 := h14 hq.1.1; have hq2 := htyA.1 (by omega); have hq3 := hfrA.1 (by omega); obtain ⟨bq, oq, e3, rfl, hl3, hat3, hre3, hgb3⟩ := hasl.kidTm hakl (i := 0) (by omega) (by omega); have ho3 := hre3.one; obtain ⟨b5, o5, q5, d5, rfl, hat5, hre5, hgb5⟩ := htS.kidTy htL (i := 0) (by omega) (by omega); obtain ⟨_, _, q6, d6, hp6, hat6, hre6, hgb6⟩ := htS.kidTy htL (i := 1) (by omega) (by omega); cases hp6; obtain ⟨b7, o7, q7, d7, rfl, hat7, hre7, hgb7⟩ := hfS.kidTy hfL (i := 0) (by omega) (by omega); obtain ⟨_, _, q8, d8, hp8, hat8, hre8, hgb8⟩ := hfS.kidTy hfL (i := 1) (by omega) (by omega); cases hp8; obtain ⟨x1, x2, x3, x4, x5, x6, x7, x8, x9, rfl⟩ := T6 hl3; refine E1 E3 rfl ?_)
 refine K9 (i := 0) (l' := [tt,ff,ff,ff,ff,ff,ff,ff,ff,ff,ff,ff,ff,ff,ff,ff,ff]) rfl D5 (A0 rfl rfl (B1 (by repeat first | exact mH | apply mT)) rfl) rfl (by kernel_rfl) rfl rfl ?_
 refine aP 1 rfl (C0 rfl) rfl ?_
 refine aP 2 rfl (qF rfl) rfl ?_
 refine aL 3 rfl (C9 rfl rfl) rfl ?_
 refine aP 4 rfl (B2 (j := 0) rfl rfl rfl (by omega)) rfl ?_
 refine aL 5 rfl (A0 rfl rfl (hat5 _) rfl) rfl ?_
 refine aP 6 rfl (C0 rfl) rfl ?_
 refine aP 7 rfl (qF rfl) rfl ?_
 refine aL 8 rfl (C9 rfl rfl) rfl ?_
 refine aP 9 rfl (B2 (j := 0) rfl rfl rfl (by omega)) rfl ?_
 refine aL 10 rfl (A0 rfl rfl (hat7 _) rfl) rfl ?_
 refine aP 11 rfl (C0 rfl) rfl ?_
 refine aL 12 rfl (C9 rfl rfl) rfl ?_
 refine aP 13 rfl (A3V rfl (by omega) (by omega)) rfl ?_
 refine P9 (j := 14) (j' := 15) (by kernel_rfl) ?_ ?_
 (have hcO := hnd; refine H2 rfl rfl (A0B b atks[0] afks[0] (-alb) G _ _ _ ⟨by omega, by omega⟩ hrb hre5 hre7 (htyS _ (List.getElem_mem (by omega))) (hfrS _ (List.getElem_mem (by omega)))) rfl rfl rfl (fun u G1 hle1 hh => ?_); obtain ⟨uc, rfl, hru⟩ := hh; have hul := hru.len; have huo := hru.one; obtain ⟨z1, z2, z3, z4, z5, z6, z7, z8, z9, rfl⟩ := T6 hul; replace hre3 := hre3.mono hle1; replace hre6 := hre6.mono hle1; replace hre8 := hre8.mono hle1)
 refine A3 15 ?_
 (refine E6 rfl (A6 rfl) rfl rfl ?_; rintro _ ⟨b97, rfl⟩)
 refine A3 16 ?_
 (refine oS rfl rfl rfl rfl rfl huo rfl rfl ?_ (hu := by exact D8 rfl))
 refine B9 ?_
 refine E1 E3 rfl ?_
 refine K9 (i := 4) (l' := [ff,ff,ff,ff,tt,ff,ff,ff,ff]) rfl D5 (A0 rfl rfl (B1 (by repeat first | exact mH | apply mT)) rfl) rfl (by kernel_rfl) rfl rfl ?_
 refine aP 0 rfl (C0 rfl) rfl ?_
 refine aL 1 rfl (C9 rfl rfl) rfl ?_
 refine aP 2 rfl (B2 (j := 0) rfl rfl rfl (by omega)) rfl ?_
 refine aL 3 rfl (A0 rfl rfl (At.mono' hle1 (hat3 _)) rfl) rfl ?_
 refine P9 (j := 5) (j' := 7) (by kernel_rfl) ?_ ?_
 (refine E6 rfl (E2 rfl rfl rfl (by omega) (by unfold maxLen; omega) rfl) rfl rfl ?_; rintro _ ⟨b110, rfl⟩)
 refine P9 (j := 6) (j' := 7) (by kernel_rfl) ?_ ?_
 (refine A0W (cs := [x1, x2, x3, x4, x5, x6, x7, x8, x9, z1, z2, z3, z4, z5, z6, z7, z8, z9]) (by repeat (first | exact Pk.here | apply Pk.there)) (fun G2 hle2 hsl2 hno2 => ?_); have hrN := A0J (k := 6) (ks := [aks[0], K6 b atks[0] afks[0] (-alb)]) (es := [[x1, x2, x3, x4, x5, x6, x7, x8, x9], [z1, z2, z3, z4, z5, z6, z7, z8, z9]]) ⟨by decide, by decide⟩ rfl (C8.of hsl2 rfl (by simp) (by intro x hx; rcases List.mem_cons.1 hx with rfl | hx; exact ho3; obtain rfl := List.mem_singleton.1 hx; exact huo)) (by simp only [D7]; exact ⟨_, _, rfl, hre3.mono hle2, _, _, rfl, hru.mono hle2, rfl⟩); replace hre6 := hre6.mono hle2; replace hre8 := hre8.mono hle2; refine M5 rfl rfl (A2i _ _ _ _ _) rfl rfl rfl ?_)
 refine A3 7 ?_
 (refine E6 rfl (A6 rfl) rfl rfl ?_; rintro _ ⟨b114, rfl⟩)
 refine A3 8 ?_
 refine H6 rfl ?_
 refine B9 ?_
 refine E1 E3 rfl ?_
 refine K9 (i := 0) (l' := [tt,ff,ff,ff,ff,ff,ff,ff,ff,ff,ff,ff,ff,ff,ff,ff,ff]) rfl D5 (A0 rfl rfl (B1 (by repeat first | exact mH | apply mT)) rfl) rfl (by kernel_rfl) rfl rfl ?_
 refine aP 1 rfl (C0 rfl) rfl ?_
 refine aP 2 rfl (qF rfl) rfl ?_
 refine aL 3 rfl (C9 rfl rfl) rfl ?_
 refine aP 4 rfl (B2 (j := 1) rfl rfl rfl (by omega)) rfl ?_
 refine aL 5 rfl (A0 rfl rfl (At.mono' (hle1.trans hle2) (hat8 _)) rfl) rfl ?_
 refine aP 6 rfl (C0 rfl) rfl ?_
 refine aP 7 rfl (qF rfl) rfl ?_
 refine aL 8 rfl (C9 rfl rfl) rfl ?_
 refine aP 9 rfl (B2 (j := 1) rfl rfl rfl (by omega)) rfl ?_
 refine aL 10 rfl (A0 rfl rfl (At.mono' (hle1.trans hle2) (hat6 _)) rfl) rfl ?_
 refine aP 11 rfl (C0 rfl) rfl ?_
 refine aL 12 rfl (C9 rfl rfl) rfl ?_
 refine A3 13 ?_
 (refine H2 rfl rfl (A0B _ afks[1] atks[1] alb G2 _ _ _ ⟨by omega, by omega⟩ hrN hre8 hre6 (hfrS _ (List.getElem_mem (by omega))) (htyS _ (List.getElem_mem (by omega)))) rfl rfl rfl (fun u G3 hle3 hh => ?_); obtain ⟨wc, rfl, hrw⟩ := hh; have hwl := hrw.len; have hwo := hrw.one)
 refine A3 14 ?_
 (refine oS rfl rfl rfl rfl hwl hwo rfl rfl ?_ (hu := by exact D8 hwl.symm))
 refine aP 15 rfl (qA rfl) rfl ?_
 refine aP 16 rfl (qA rfl) rfl ?_
 refine B9 ?_
 refine D2 (rC rfl (A0 rfl rfl (B1 (by repeat first | exact mH | apply mT)) hwl)) (rT rfl) (rT rfl) ?_
 exact A3d
 (refine E6 rfl (A6 rfl) rfl rfl ?_; rintro _ ⟨b145, rfl⟩)
 refine A3 6 ?_
 (refine A0W (cs := [x1, x2, x3, x4, x5, x6, x7, x8, x9, z1, z2, z3, z4, z5, z6, z7, z8, z9]) (by repeat (first | exact Pk.here | apply Pk.there)) (fun G2 hle2 hsl2 hno2 => ?_); have hrN := A0J (k := 6) (ks := [aks[0], K6 b atks[0] afks[0] (-alb)]) (es := [[x1, x2, x3, x4, x5, x6, x7, x8, x9], [z1, z2, z3, z4, z5, z6, z7, z8, z9]]) ⟨by decide, by decide⟩ rfl (C8.of hsl2 rfl (by simp) (by intro x hx; rcases List.mem_cons.1 hx with rfl | hx; exact ho3; obtain rfl := List.mem_singleton.1 hx; exact huo)) (by simp only [D7]; exact ⟨_, _, rfl, hre3.mono hle2, _, _, rfl, hru.mono hle2, rfl⟩); replace hre6 := hre6.mono hle2; replace hre8 := hre8.mono hle2; refine M5 rfl rfl (A2i _ _ _ _ _) rfl rfl rfl ?_)
 refine A3 8 ?_
 refine H6 rfl ?_
 refine B9 ?_
 refine E1 E3 rfl ?_
 refine K9 (i := 0) (l' := [tt,ff,ff,ff,ff,ff,ff,ff,ff,ff,ff,ff,ff,ff,ff,ff,ff]) rfl D5 (A0 rfl rfl (B1 (by repeat first | exact mH | apply mT)) rfl) rfl (by kernel_rfl) rfl rfl ?_
 refine aP 1 rfl (C0 rfl) rfl ?_
 refine aP 2 rfl (qF rfl) rfl ?_
 refine aL 3 rfl (C9 rfl rfl) rfl ?_
 refine aP 4 rfl (B2 (j := 1) rfl rfl rfl (by omega)) rfl ?_
 refine aL 5 rfl (A0 rfl rfl (At.mono' (hle1.trans hle2) (hat8 _)) rfl) rfl ?_
 refine aP 6 rfl (C0 rfl) rfl ?_
 refine aP 7 rfl (qF rfl) rfl ?_
 refine aL 8 rfl (C9 rfl rfl) rfl ?_
 refine aP 9 rfl (B2 (j := 1) rfl rfl rfl (by omega)) rfl ?_
 refine aL 10 rfl (A0 rfl rfl (At.mono' (hle1.trans hle2) (hat6 _)) rfl) rfl ?_
 refine aP 11 rfl (C0 rfl) rfl ?_
 refine aL 12 rfl (C9 rfl rfl) rfl ?_
 refine A3 13 ?_
 (refine H2 rfl rfl (A0B _ afks[1] atks[1] alb G2 _ _ _ ⟨by omega, by omega⟩ hrN hre8 hre6 (hfrS _ (List.getElem_mem (by omega))) (htyS _ (List.getElem_mem (by omega)))) rfl rfl rfl (fun u G3 hle3 hh => ?_); obtain ⟨wc, rfl, hrw⟩ := hh; have hwl := hrw.len; have hwo := hrw.one)
 refine A3 14 ?_
 (refine oS rfl rfl rfl rfl hwl hwo rfl rfl ?_ (hu := by exact D8 hwl.symm))
 refine aP 15 rfl (qA rfl) rfl ?_
 refine aP 16 rfl (qA rfl) rfl ?_
 refine B9 ?_
 refine D2 (rC rfl (A0 rfl rfl (B1 (by repeat first | exact mH | apply mT)) hwl)) (rT rfl) (rT rfl) ?_
 exact A3d
 (refine E6 rfl (A6 rfl) rfl rfl ?_; rintro _ ⟨b178, rfl⟩)
 refine A3 5 ?_
 (refine E6 rfl (E2 rfl rfl rfl (by omega) (by unfold maxLen; omega) rfl) rfl rfl ?_; rintro _ ⟨b180, rfl⟩)
 refine A3 6 ?_
 (refine A0W (cs := [x1, x2, x3, x4, x5, x6, x7, x8, x9, z1, z2, z3, z4, z5, z6, z7, z8, z9]) (by repeat (first | exact Pk.here | apply Pk.there)) (fun G2 hle2 hsl2 hno2 => ?_); have hrN := A0J (k := 6) (ks := [aks[0], K6 b atks[0] afks[0] (-alb)]) (es := [[x1, x2, x3, x4, x5, x6, x7, x8, x9], [z1, z2, z3, z4, z5, z6, z7, z8, z9]]) ⟨by decide, by decide⟩ rfl (C8.of hsl2 rfl (by simp) (by intro x hx; rcases List.mem_cons.1 hx with rfl | hx; exact ho3; obtain rfl := List.mem_singleton.1 hx; exact huo)) (by simp only [D7]; exact ⟨_, _, rfl, hre3.mono hle2, _, _, rfl, hru.mono hle2, rfl⟩); replace hre6 := hre6.mono hle2; replace hre8 := hre8.mono hle2; refine M5 rfl rfl (A2i _ _ _ _ _) rfl rfl rfl ?_)
 refine A3 8 ?_
 refine H6 rfl ?_
 refine B9 ?_
 refine E1 E3 rfl ?_
 refine K9 (i := 0) (l' := [tt,ff,ff,ff,ff,ff,ff,ff,ff,ff,ff,ff,ff,ff,ff,ff,ff]) rfl D5 (A0 rfl rfl (B1 (by repeat first | exact mH | apply mT)) rfl) rfl (by kernel_rfl) rfl rfl ?_
 refine aP 1 rfl (C0 rfl) rfl ?_
 refine aP 2 rfl (qF rfl) rfl ?_
 refine aL 3 rfl (C9 rfl rfl) rfl ?_
 refine aP 4 rfl (B2 (j := 1) rfl rfl rfl (by omega)) rfl ?_
 refine aL 5 rfl (A0 rfl rfl (At.mono' (hle1.trans hle2) (hat8 _)) rfl) rfl ?_
 refine aP 6 rfl (C0 rfl) rfl ?_
 refine aP 7 rfl (qF rfl) rfl ?_
 refine aL 8 rfl (C9 rfl rfl) rfl ?_
 refine aP 9 rfl (B2 (j := 1) rfl rfl rfl (by omega)) rfl ?_
 refine aL 10 rfl (A0 rfl rfl (At.mono' (hle1.trans hle2) (hat6 _)) rfl) rfl ?_
 refine aP 11 rfl (C0 rfl) rfl ?_
 refine aL 12 rfl (C9 rfl rfl) rfl ?_
 refine A3 13 ?_
 (refine H2 rfl rfl (A0B _ afks[1] atks[1] alb G2 _ _ _ ⟨by omega, by omega⟩ hrN hre8 hre6 (hfrS _ (List.getElem_mem (by omega))) (htyS _ (List.getElem_mem (by omega)))) rfl rfl rfl (fun u G3 hle3 hh => ?_); obtain ⟨wc, rfl, hrw⟩ := hh; have hwl := hrw.len; have hwo := hrw.one)
 refine A3 14 ?_
 (refine oS rfl rfl rfl rfl hwl hwo rfl rfl ?_ (hu := by exact D8 hwl.symm))
 refine aP 15 rfl (qA rfl) rfl ?_
 refine aP 16 rfl (qA rfl) rfl ?_
 refine B9 ?_
 refine D2 (rC rfl (A0 rfl rfl (B1 (by repeat first | exact mH | apply mT)) hwl)) (rT rfl) (rT rfl) ?_
 exact A3d
 (refine E6 rfl (A6 rfl) rfl rfl ?_; rintro _ ⟨b213, rfl⟩)
 refine A3 14 ?_
 (have hcO := hnd; refine H2 rfl rfl (A0B b atks[0] afks[0] (-alb) G _ _ _ ⟨by omega, by omega⟩ hrb hre5 hre7 (htyS _ (List.getElem_mem (by omega))) (hfrS _ (List.getElem_mem (by omega)))) rfl rfl rfl (fun u G1 hle1 hh => ?_); obtain ⟨uc, rfl, hru⟩ := hh; have hul := hru.len; have huo := hru.one; obtain ⟨z1, z2, z3, z4, z5, z6, z7, z8, z9, rfl⟩ := T6 hul; replace hre3 := hre3.mono hle1; replace hre6 := hre6.mono hle1; replace hre8 := hre8.mono hle1)
 refine A3 16 ?_
 (refine oS rfl rfl rfl rfl rfl huo rfl rfl ?_ (hu := by exact D8 rfl))
 refine B9 ?_
 refine E1 E3 rfl ?_
 refine K9 (i := 4) (l' := [ff,ff,ff,ff,tt,ff,ff,ff,ff]) rfl D5 (A0 rfl rfl (B1 (by repeat first | exact mH | apply mT)) rfl) rfl (by kernel_rfl) rfl rfl ?_
 refine aP 0 rfl (C0 rfl) rfl ?_
 refine aL 1 rfl (C9 rfl rfl) rfl ?_
 refine aP 2 rfl (B2 (j := 0) rfl rfl rfl (by omega)) rfl ?_
 refine aL 3 rfl (A0 rfl rfl (At.mono' hle1 (hat3 _)) rfl) rfl ?_
 refine P9 (j := 5) (j' := 7) (by kernel_rfl) ?_ ?_
 (refine E6 rfl (E2 rfl rfl rfl (by omega) (by unfold maxLen; omega) rfl) rfl rfl ?_; rintro _ ⟨b228, rfl⟩)
 refine P9 (j := 6) (j' := 7) (by kernel_rfl) ?_ ?_
 (refine A0W (cs := [x1, x2, x3, x4, x5, x6, x7, x8, x9, z1, z2, z3, z4, z5, z6, z7, z8, z9]) (by repeat (first | exact Pk.here | apply Pk.there)) (fun G2 hle2 hsl2 hno2 => ?_); have hrN := A0J (k := 6) (ks := [aks[0], K6 b atks[0] afks[0] (-alb)]) (es := [[x1, x2, x3, x4, x5, x6, x7, x8, x9], [z1, z2, z3, z4, z5, z6, z7, z8, z9]]) ⟨by decide, by decide⟩ rfl (C8.of hsl2 rfl (by simp) (by intro x hx; rcases List.mem_cons.1 hx with rfl | hx; exact ho3; obtain rfl := List.mem_singleton.1 hx; exact huo)) (by simp only [D7]; exact ⟨_, _, rfl, hre3.mono hle2, _, _, rfl, hru.mono hle2, rfl⟩); replace hre6 := hre6.mono hle2; replace hre8 := hre8.mono hle2; refine M5 rfl rfl (A2i _ _ _ _ _) rfl rfl rfl ?_)
 refine A3 7 ?_
 (refine E6 rfl (A6 rfl) rfl rfl ?_; rintro _ ⟨b232, rfl⟩)
 refine A3 8 ?_
 refine H6 rfl ?_
 refine B9 ?_
 refine E1 E3 rfl ?_
 refine K9 (i := 0) (l' := [tt,ff,ff,ff,ff,ff,ff,ff,ff,ff,ff,ff,ff,ff,ff,ff,ff]) rfl D5 (A0 rfl rfl (B1 (by repeat first | exact mH | apply mT)) rfl) rfl (by kernel_rfl) rfl rfl ?_
 refine aP 1 rfl (C0 rfl) rfl ?_
 refine aP 2 rfl (qF rfl) rfl ?_
 refine aL 3 rfl (C9 rfl rfl) rfl ?_
 refine aP 4 rfl (B2 (j := 1) rfl rfl rfl (by omega)) rfl ?_
 refine aL 5 rfl (A0 rfl rfl (At.mono' (hle1.trans hle2) (hat8 _)) rfl) rfl ?_
 refine aP 6 rfl (C0 rfl) rfl ?_
 refine aP 7 rfl (qF rfl) rfl ?_
 refine aL 8 rfl (C9 rfl rfl) rfl ?_
 refine aP 9 rfl (B2 (j := 1) rfl rfl rfl (by omega)) rfl ?_
 refine aL 10 rfl (A0 rfl rfl (At.mono' (hle1.trans hle2) (hat6 _)) rfl) rfl ?_
 refine aP 11 rfl (C0 rfl) rfl ?_
 refine aL 12 rfl (C9 rfl rfl) rfl ?_
 refine A3 13 ?_
 (refine H2 rfl rfl (A0B _ afks[1] atks[1] alb G2 _ _ _ ⟨by omega, by omega⟩ hrN hre8 hre6 (hfrS _ (List.getElem_mem (by omega))) (htyS _ (List.getElem_mem (by omega)))) rfl rfl rfl (fun u G3 hle3 hh => ?_); obtain ⟨wc, rfl, hrw⟩ := hh; have hwl := hrw.len; have hwo := hrw.one)
 refine A3 14 ?_
 (refine oS rfl rfl rfl rfl hwl hwo rfl rfl ?_ (hu := by exact D8 hwl.symm))
 refine aP 15 rfl (qA rfl) rfl ?_
 refine aP 16 rfl (qA rfl) rfl ?_
 refine B9 ?_
 refine D2 (rC rfl (A0 rfl rfl (B1 (by repeat first | exact mH | apply mT)) hwl)) (rT rfl) (rT rfl) ?_
 exact A3d
 (refine E6 rfl (A6 rfl) rfl rfl ?_; rintro _ ⟨b263, rfl⟩)
 refine A3 6 ?_
 (refine A0W (cs := [x1, x2, x3, x4, x5, x6, x7, x8, x9, z1, z2, z3, z4, z5, z6, z7, z8, z9]) (by repeat (first | exact Pk.here | apply Pk.there)) (fun G2 hle2 hsl2 hno2 => ?_); have hrN := A0J (k := 6) (ks := [aks[0], K6 b atks[0] afks[0] (-alb)]) (es := [[x1, x2, x3, x4, x5, x6, x7, x8, x9], [z1, z2, z3, z4, z5, z6, z7, z8, z9]]) ⟨by decide, by decide⟩ rfl (C8.of hsl2 rfl (by simp) (by intro x hx; rcases List.mem_cons.1 hx with rfl | hx; exact ho3; obtain rfl := List.mem_singleton.1 hx; exact huo)) (by simp only [D7]; exact ⟨_, _, rfl, hre3.mono hle2, _, _, rfl, hru.mono hle2, rfl⟩); replace hre6 := hre6.mono hle2; replace hre8 := hre8.mono hle2; refine M5 rfl rfl (A2i _ _ _ _ _) rfl rfl rfl ?_)
 refine A3 8 ?_
 refine H6 rfl ?_
 refine B9 ?_
 refine E1 E3 rfl ?_
 refine K9 (i := 0) (l' := [tt,ff,ff,ff,ff,ff,ff,ff,ff,ff,ff,ff,ff,ff,ff,ff,ff]) rfl D5 (A0 rfl rfl (B1 (by repeat first | exact mH | apply mT)) rfl) rfl (by kernel_rfl) rfl rfl ?_
 refine aP 1 rfl (C0 rfl) rfl ?_
 refine aP 2 rfl (qF rfl) rfl ?_
 refine aL 3 rfl (C9 rfl rfl) rfl ?_
 refine aP 4 rfl (B2 (j := 1) rfl rfl rfl (by omega)) rfl ?_
 refine aL 5 rfl (A0 rfl rfl (At.mono' (hle1.trans hle2) (hat8 _)) rfl) rfl ?_
 refine aP 6 rfl (C0 rfl) rfl ?_
 refine aP 7 rfl (qF rfl) rfl ?_
 refine aL 8 rfl (C9 rfl rfl) rfl ?_
 refine aP 9 rfl (B2 (j := 1) rfl rfl rfl (by omega)) rfl ?_
 refine aL 10 rfl (A0 rfl rfl (At.mono' (hle1.trans hle2) (hat6 _)) rfl) rfl ?_
 refine aP 11 rfl (C0 rfl) rfl ?_
 refine aL 12 rfl (C9 rfl rfl) rfl ?_
 refine A3 13 ?_
 (refine H2 rfl rfl (A0B _ afks[1] atks[1] alb G2 _ _ _ ⟨by omega, by omega⟩ hrN hre8 hre6 (hfrS _ (List.getElem_mem (by omega))) (htyS _ (List.getElem_mem (by omega)))) rfl rfl rfl (fun u G3 hle3 hh => ?_); obtain ⟨wc, rfl, hrw⟩ := hh; have hwl := hrw.len; have hwo := hrw.one)
 refine A3 14 ?_
 (refine oS rfl rfl rfl rfl hwl hwo rfl rfl ?_ (hu := by exact D8 hwl.symm))
 refine aP 15 rfl (qA rfl) rfl ?_
 refine aP 16 rfl (qA rfl) rfl ?_
 refine B9 ?_
 refine D2 (rC rfl (A0 rfl rfl (B1 (by repeat first | exact mH | apply mT)) hwl)) (rT rfl) (rT rfl) ?_
 exact A3d
 (refine E6 rfl (A6 rfl) rfl rfl ?_; rintro _ ⟨b296, rfl⟩)
 refine A3 5 ?_
 (refine E6 rfl (E2 rfl rfl rfl (by omega) (by unfold maxLen; omega) rfl) rfl rfl ?_; rintro _ ⟨b298, rfl⟩)
 refine A3 6 ?_
 (refine A0W (cs := [x1, x2, x3, x4, x5, x6, x7, x8, x9, z1, z2, z3, z4, z5, z6, z7, z8, z9]) (by repeat (first | exact Pk.here | apply Pk.there)) (fun G2 hle2 hsl2 hno2 => ?_); have hrN := A0J (k := 6) (ks := [aks[0], K6 b atks[0] afks[0] (-alb)]) (es := [[x1, x2, x3, x4, x5, x6, x7, x8, x9], [z1, z2, z3, z4, z5, z6, z7, z8, z9]]) ⟨by decide, by decide⟩ rfl (C8.of hsl2 rfl (by simp) (by intro x hx; rcases List.mem_cons.1 hx with rfl | hx; exact ho3; obtain rfl := List.mem_singleton.1 hx; exact huo)) (by simp only [D7]; exact ⟨_, _, rfl, hre3.mono hle2, _, _, rfl, hru.mono hle2, rfl⟩); replace hre6 := hre6.mono hle2; replace hre8 := hre8.mono hle2; refine M5 rfl rfl (A2i _ _ _ _ _) rfl rfl rfl ?_)
 refine A3 8 ?_
 refine H6 rfl ?_
 refine B9 ?_
 refine E1 E3 rfl ?_
 refine K9 (i := 0) (l' := [tt,ff,ff,ff,ff,ff,ff,ff,ff,ff,ff,ff,ff,ff,ff,ff,ff]) rfl D5 (A0 rfl rfl (B1 (by repeat first | exact mH | apply mT)) rfl) rfl (by kernel_rfl) rfl rfl ?_
 refine aP 1 rfl (C0 rfl) rfl ?_
 refine aP 2 rfl (qF rfl) rfl ?_
 refine aL 3 rfl (C9 rfl rfl) rfl ?_
 refine aP 4 rfl (B2 (j := 1) rfl rfl rfl (by omega)) rfl ?_
 refine aL 5 rfl (A0 rfl rfl (At.mono' (hle1.trans hle2) (hat8 _)) rfl) rfl ?_
 refine aP 6 rfl (C0 rfl) rfl ?_
 refine aP 7 rfl (qF rfl) rfl ?_
 refine aL 8 rfl (C9 rfl rfl) rfl ?_
 refine aP 9 rfl (B2 (j := 1) rfl rfl rfl (by omega)) rfl ?_
 refine aL 10 rfl (A0 rfl rfl (At.mono' (hle1.trans hle2) (hat6 _)) rfl) rfl ?_
 refine aP 11 rfl (C0 rfl) rfl ?_
 refine aL 12 rfl (C9 rfl rfl) rfl ?_
 refine A3 13 ?_
 (refine H2 rfl rfl (A0B _ afks[1] atks[1] alb G2 _ _ _ ⟨by omega, by omega⟩ hrN hre8 hre6 (hfrS _ (List.getElem_mem (by omega))) (htyS _ (List.getElem_mem (by omega)))) rfl rfl rfl (fun u G3 hle3 hh => ?_); obtain ⟨wc, rfl, hrw⟩ := hh; have hwl := hrw.len; have hwo := hrw.one)
 refine A3 14 ?_
 (refine oS rfl rfl rfl rfl hwl hwo rfl rfl ?_ (hu := by exact D8 hwl.symm))
 refine aP 15 rfl (qA rfl) rfl ?_
 refine aP 16 rfl (qA rfl) rfl ?_
 refine B9 ?_
 refine D2 (rC rfl (A0 rfl rfl (B1 (by repeat first | exact mH | apply mT)) hwl)) (rT rfl) (rT rfl) ?_
 exact A3d
 refine A0b ?_
 refine D2 (rC rfl (A4 rfl rfl)) (rT rfl) (rT rfl) ?_
 exact A4W
theorem B0S (k : Int) (a : Tm) (G : IM) (ca : List Value) (hk1 : k = 11 ∨ k = 12) (hca : cv a) (hra : B3 G a ca) : Fn Tryz.prog 250 [.int .i64 k, .agg ⟨ca⟩] [] G (L4 (N9 k C1 C1 0 [a])) := by
 have hP := A4U a G _ hra
 obtain ⟨ak, anm, anum, ⟨atk, atks⟩, ⟨afk, afks⟩, alb, aks⟩ := a
 obtain ⟨hN, hkk⟩ := hca.node
 have hops := hN.ops
 have hbl := hN.lbB
 have htyA := hN.tyA
 have hfrA := hN.frA
 rw [F8] at htyA hfrA
 have htyS := fun t (h : t ∈ atks) => (A1o.1 htyA.2.2 t h).small
 have hfrS := fun t (h : t ∈ afks) => (A1o.1 hfrA.2.2 t h).small
 have h14 : ak = 14 → aks.length = 1 := fun h => by rw [h] at hops; have : F0 14 = 1 := rfl; omega
 have h10 : ak = 10 → aks.length = 2 := fun h => by rw [h] at hops; have : F0 10 = 2 := rfl; omega
 obtain ⟨apt, act, apf, acf, ap, ac, aes, rfl, hak, hanum, halb, haty, hafr, hasl, hakl⟩ := hra.open9
 obtain ⟨tes, htS, htL⟩ := haty.kids
 obtain ⟨fes, hfS, hfL⟩ := hafr.kids
 simp only [Ty.ks] at htS htL hfS hfL
 obtain ⟨i, hi⟩ : ∃ i : Nat, (k - 11).toNat = i := ⟨_, rfl⟩
 have hR : N9 k C1 C1 0 [Tm.mk ak anm anum (.mk atk atks) (.mk afk afks) alb aks] = (if ak = 10 then (kd aks i, 1, 0) else if (ak = 14 ∧ afk = atk ∧ (atk = 4 ∨ atk = 5)) ∧ atk = 5 then (K6 (A0f k [kd aks 0]) (kt afks i) (kt atks i) alb, 1, 0) else P7) := by
  unfold N9
  rw [if_neg (by omega), if_neg (by omega), if_neg (by omega), if_pos hk1, hi, show kd [Tm.mk ak anm anum (.mk atk atks) (.mk afk afks) alb aks] 0 = Tm.mk ak anm anum (.mk atk atks) (.mk afk afks) alb aks from rfl, A1w]
  simp only [decide_eq_true_eq]
  rfl
 rw [hR]
 replace hP : Fn Tryz.prog 130 _ [] G (E5 (.bool (decide (ak = 14 ∧ afk = atk ∧ (atk = 4 ∨ atk = 5)))) G) := hP
 refine B8 Tryz.func250 rfl Tryz.ntmps250 Tryz.results250 rfl ?_
 intro w0
 refine A2 ?_
 refine sE (C6 rfl rfl) rfl (fun b3 => ?_)
 refine sE (A6 rfl) rfl (fun b4 => ?_)
 refine A9 ?_
 refine sP (V9 rfl rfl (by omega) (by omega)) rfl rfl ?_
 (rw [show (k - 11 : Int) = ((i : Nat) : Int) from (by omega)]; refine sQ (qA rfl) rfl ?_)
 refine A9 ?_
 refine sB (qE rfl rfl) rfl rfl (fun h21 => ?_) (fun h21 => ?_)
 refine D0 ?_
 (have hq := h10 (by omega); obtain ⟨bq, oq, e3, rfl, hl3, hat3, hre3, hgb3⟩ := hasl.kidTm hakl (i := i) (by omega) (by omega); have ho3 := hre3.one; refine sP (B2 (j := i) rfl rfl rfl (by omega)) rfl rfl ?_)
 refine sL (A0 rfl rfl (hat3 _) hl3) rfl rfl ?_
 refine sS rfl rfl rfl hl3 ho3 rfl ?_ (hu := by exact D8 hl3.symm)
 refine A7 ?_
 refine D2 (rC rfl (A0 rfl rfl (B1 (by repeat first | exact mH | apply mT)) hl3)) (rT rfl) (rT rfl) ?_
 (exact L4.mk (by rw [if_pos (by omega), A1T (by omega)]) hre3)
 refine D9 ?_
 focus (by_cases hpx : (ak = 14 ∧ afk = atk ∧ (atk = 4 ∨ atk = 5)); rw [decide_eq_true hpx] at hP; rotate_left; rw [decide_eq_false hpx] at hP; rotate_left; all_goals (refine H4 rfl hP rfl rfl ?_))
 refine B0 ?_
 refine sB (M7 rfl rfl) rfl rfl (fun h56 => ?_) (fun h56 => ?_)
 refine J7 ?_
 refine D2 (rC rfl (A4 rfl rfl)) (rT rfl) (rT rfl) ?_
 exact A4W
 refine A9 ?_
 (have hnd : ¬ak = 10 := (by omega); have hq : (ak = 14 ∧ afk = atk ∧ (atk = 4 ∨ atk = 5)) ∧ atk = 5 := ⟨hpx, by omega⟩; have hq1 := h14 hq.1.1; have hq2 := htyA.1 (by omega); have hq3 := hfrA.1 (by omega); obtain ⟨bq, oq, e3, rfl, hl3, hat3, hre3, hgb3⟩ := hasl.kidTm hakl (i := 0) (by omega) (by omega); have ho3 := hre3.one; obtain ⟨b5, o5, q5, d5, rfl, hat5, hre5, hgb5⟩ := htS.kidTy htL (i := i) (by omega) (by omega); obtain ⟨b7, o7, q7, d7, rfl, hat7, hre7, hgb7⟩ := hfS.kidTy hfL (i := i) (by omega) (by omega); obtain ⟨x1, x2, x3, x4, x5, x6, x7, x8, x9, rfl⟩ := T6 hl3; refine E1 E3 rfl ?_)
 refine K2 (i := 0) (l' := [tt,ff,ff,ff,ff,ff,ff,ff,ff,ff,ff,ff,ff,ff,ff,ff,ff,ff,ff,ff,ff,ff,ff,ff,ff]) rfl D5 (qM rfl) rfl (by kernel_rfl) rfl rfl ?_
 refine aP 1 rfl (C0 rfl) rfl ?_
 refine aL 2 rfl (C9 rfl rfl) rfl ?_
 refine aP 3 rfl (B2 (j := 0) rfl rfl rfl (by omega)) rfl ?_
 refine aL 4 rfl (A0 rfl rfl (hat3 _) rfl) rfl ?_
 refine aP 7 rfl (C0 rfl) rfl ?_
 refine aP 8 rfl (qF rfl) rfl ?_
 refine aL 9 rfl (C9 rfl rfl) rfl ?_
 refine aP 10 rfl (qM rfl) rfl ?_
 refine aP 11 rfl (B2 (j := i) rfl rfl rfl (by omega)) rfl ?_
 refine aL 12 rfl (A0 rfl rfl (hat7 _) rfl) rfl ?_
 refine aP 13 rfl (C0 rfl) rfl ?_
 refine aP 14 rfl (qF rfl) rfl ?_
 refine aL 15 rfl (C9 rfl rfl) rfl ?_
 refine aP 16 rfl (qM rfl) rfl ?_
 refine aP 17 rfl (B2 (j := i) rfl rfl rfl (by omega)) rfl ?_
 refine aL 18 rfl (A0 rfl rfl (hat5 _) rfl) rfl ?_
 refine aP 19 rfl (C0 rfl) rfl ?_
 refine aL 20 rfl (C9 rfl rfl) rfl ?_
 refine A3 5 ?_
 (refine E6 rfl (E2 rfl rfl rfl (by omega) (by unfold maxLen; omega) rfl) rfl rfl ?_; rintro _ ⟨b101, rfl⟩)
 refine A3 6 ?_
 (refine A0W (cs := [x1, x2, x3, x4, x5, x6, x7, x8, x9]) (by repeat (first | exact Pk.here | apply Pk.there)) (fun G2 hle2 hsl2 hno2 => ?_); have hrN := A0J (k := k) (ks := [aks[0]]) (es := [[x1, x2, x3, x4, x5, x6, x7, x8, x9]]) ⟨by omega, by omega⟩ rfl (C8.of hsl2 rfl (by simp) (by intro x hx; obtain rfl := List.mem_singleton.1 hx; exact ho3)) (by simp only [D7]; exact ⟨_, _, rfl, hre3.mono hle2, rfl⟩); replace hre5 := hre5.mono hle2; replace hre7 := hre7.mono hle2; refine M5 rfl rfl (A2i _ _ _ _ _) rfl rfl rfl ?_)
 refine A3 21 ?_
 (refine H2 rfl rfl (A0B _ afks[i] atks[i] alb G2 _ _ _ ⟨by omega, by omega⟩ hrN hre7 hre5 (hfrS _ (List.getElem_mem (by omega))) (htyS _ (List.getElem_mem (by omega)))) rfl rfl rfl (fun u G3 hle3 hh => ?_); obtain ⟨wc, rfl, hrw⟩ := hh; have hwl := hrw.len; have hwo := hrw.one)
 refine A3 22 ?_
 (refine oS rfl rfl rfl rfl hwl hwo rfl rfl ?_ (hu := by exact D8 hwl.symm))
 refine aP 23 rfl (qA rfl) rfl ?_
 refine aP 24 rfl (qA rfl) rfl ?_
 refine B9 ?_
 refine D2 (rC rfl (A0 rfl rfl (B1 (by repeat first | exact mH | apply mT)) hwl)) (rT rfl) (rT rfl) ?_
 (exact L4.mk (by rw [if_neg hnd, if_pos hq, A1T (by omega), A0K (by omega), A0K (by omega)]) hrw)
 refine A0b ?_
 refine D2 (rC rfl (A4 rfl rfl)) (rT rfl) (rT rfl) ?_
 exact A4W
theorem B5U (a : Tm) (nm : ByteArray) (num : Int) (ty fr : Ty) (lb : Int) (G : IM) (cells : List Value) (hc : cv (.mk 14 nm num ty fr lb [a])) (hr : B3 G (.mk 14 nm num ty fr lb [a]) cells) : Fn Tryz.prog 251 [.agg ⟨cells⟩] [] G (L4 (N9 14 ty fr lb [a])) := by
 obtain ⟨hNe, hkk0⟩ := hc.node
 have hca := hkk0 a (by simp)
 have hlb9 := hNe.lbB
 obtain ⟨hcons, htv, hfv⟩ := hNe.c14 rfl
 have hji := @A9E a
 have hjk := @A4G a
 obtain ⟨ak, anm, anum, ⟨atk, atks⟩, ⟨afk, afks⟩, alb, aks⟩ := a
 obtain ⟨hN, hkk⟩ := hca.node
 have hops := hN.ops
 have h14 : ak = 14 → aks.length = 1 := fun h => by rw [h] at hops; have : F0 14 = 1 := rfl; omega
 obtain ⟨tk, tks⟩ := ty
 obtain ⟨fk, fks⟩ := fr
 rw [A0c] at hcons
 simp only [Bool.or_eq_true, Bool.and_eq_true, decide_eq_true_eq] at hcons
 have hcc : fk ≠ tk → tk ≠ 1 → fk = 1 := fun h1 h2 => by rcases hcons with (h | h) | h; exact h; exact absurd h h2; exact absurd h.1 h1
 have hta := A6A htv
 have hfa := A6A hfv
 obtain ⟨pt, ct, pf, cf, p, c, es, rfl, hk, hnum, hlb, hty, hfr, hsl, hkl⟩ := hr.open9
 obtain ⟨bx, ox, e0, rfl, hl0, hat0, hre0, hgb0⟩ := hsl.kidTm hkl (i := 0) (by simp) (by simp)
 replace hre0 : B3 G (Tm.mk ak anm anum (.mk atk atks) (.mk afk afks) alb aks) e0 := hre0
 have hI := A6I (Tm.mk ak anm anum (.mk atk atks) (.mk afk afks) alb aks) G _ hN.frA hre0
 have ho0 := hre0.one
 obtain ⟨apt, act, apf, acf, ap, ac, aes, rfl, hak, hanum, halb, haty, hafr, hasl, hakl⟩ := hre0.open9
 obtain ⟨J, hJ⟩ : ∃ J, inj (Tm.mk ak anm anum (.mk atk atks) (.mk afk afks) alb aks) = J := ⟨_, rfl⟩
 obtain ⟨D, hD⟩ : ∃ D, V5 (.mk tk tks) = D := ⟨_, rfl⟩
 have hGr := B0O (.mk tk tks) G _ hta hty
 rw [hD] at hGr
 rw [hJ] at hI hji hjk
 have hR : N9 14 (.mk tk tks) (.mk fk fks) lb [Tm.mk ak anm anum (.mk atk atks) (.mk afk afks) alb aks] = (if fk = tk then (Tm.mk ak anm anum (.mk atk atks) (.mk afk afks) alb aks, 1, 0)
   else if tk = 1 then (K6 (K6 (Tm.mk ak anm anum (.mk atk atks) (.mk afk afks) alb aks) (.mk fk fks) (T5 (.mk fk fks)) lb) (T5 (.mk fk fks)) (.mk tk tks) lb, 1, 0)
   else if D = false then (K6 (K6 (Tm.mk ak anm anum (.mk atk atks) (.mk afk afks) alb aks) (.mk fk fks) (T5 (.mk tk tks)) lb) (T5 (.mk tk tks)) (.mk tk tks) lb, 1, 0)
   else if J = false then P7
   else if afk = tk then (kd aks 0, 1, 0)
   else (L0, 2, lb)) := by
  rw [← hJ, ← hD]; rfl
 rw [hR]
 refine B8 Tryz.func251 rfl Tryz.ntmps251 Tryz.results251 rfl ?_
 intro w0
 refine A2 ?_
 refine sE (C6 rfl rfl) rfl (fun b3 => ?_)
 refine sE (A6 rfl) rfl (fun b4 => ?_)
 refine D0 ?_
 refine sP (B2 (j := 0) rfl rfl rfl (by simp)) rfl rfl ?_
 refine sL (A0 rfl rfl (hat0 _) rfl) rfl rfl ?_
 refine sE (A6 rfl) rfl (fun b15 => ?_)
 refine B6 ?_
 refine B7 ?_
 refine D0 ?_
 refine sB (qE rfl rfl) rfl rfl (fun h29 => ?_) (fun h29 => ?_)
 refine H1 ?_
 refine D2 (rC rfl (A4 rfl rfl)) (rT rfl) (rT rfl) ?_
 (exact L4.mk (by rw [if_pos (by omega)]) hre0)
 refine D9 ?_
 refine sB (qE rfl rfl) rfl rfl (fun h56 => ?_) (fun h56 => ?_)
 refine D0 ?_
 (have hgk : tk = 1 := (by omega); refine D4 rfl (A6H (.mk fk fks) G _ hfa hfr) rfl rfl (fun u G1 hle1 hh => ?_); obtain ⟨gc, rfl, hrg⟩ := hh; have hgs := A28 (.mk fk fks); generalize T5 (.mk fk fks) = g at hrg hgs ⊢; obtain ⟨pg, cg, eg, rfl, _⟩ := hrg.open; replace hre0 := hre0.mono hle1; replace hfr := hfr.mono hle1; replace hty := hty.mono hle1)
 refine sE (A6 rfl) rfl (fun b66 => ?_)
 refine B6 ?_
 refine E1 E3 rfl ?_
 refine K9 (i := 0) (l' := [tt,ff,ff,ff,ff,ff,ff,ff,ff,ff,ff,ff,ff,ff,ff,ff]) rfl D5 (A0 rfl rfl (B1 (by repeat first | exact mH | apply mT)) rfl) rfl (by kernel_rfl) rfl rfl ?_
 refine aL 3 rfl (A0 rfl rfl (B1 (by repeat first | exact mH | apply mT)) rfl) rfl ?_
 refine aL 7 rfl (A0 rfl rfl (B1 (by repeat first | exact mH | apply mT)) rfl) rfl ?_
 refine aP 1 rfl (C0 rfl) rfl ?_
 refine aL 2 rfl (A4 rfl rfl) rfl ?_
 refine aP 4 rfl (C0 rfl) rfl ?_
 refine aL 5 rfl (C9 rfl rfl) rfl ?_
 refine aP 8 rfl (C0 rfl) rfl ?_
 refine aL 9 rfl (A4 rfl rfl) rfl ?_
 refine aP 10 rfl (C0 rfl) rfl ?_
 refine aL 11 rfl (C9 rfl rfl) rfl ?_
 refine A3 6 ?_
 (refine H2 rfl rfl (A0B _ (.mk fk fks) _ lb G1 _ _ _ ⟨by omega, by omega⟩ hre0 hfr hrg hfa.small hgs) rfl rfl rfl (fun u G3 hle3 hh => ?_); obtain ⟨wc, rfl, hrw⟩ := hh; have hwl := hrw.len; have hwo := hrw.one; replace hrg := hrg.mono hle3; replace hty := hty.mono hle3)
 refine A3 12 ?_
 (refine H2 rfl rfl (A0B _ _ (.mk tk tks) lb G3 _ _ _ ⟨by omega, by omega⟩ hrw hrg hty hgs hta.small) rfl rfl rfl (fun u G4 hle4 hh => ?_); obtain ⟨xc, rfl, hrx⟩ := hh; have hxl := hrx.len; have hxo := hrx.one)
 refine A3 13 ?_
 (refine oS rfl rfl rfl rfl hxl hxo rfl rfl ?_ (hu := by exact D8 hxl.symm))
 refine aP 14 rfl (qA rfl) rfl ?_
 refine aP 15 rfl (qA rfl) rfl ?_
 refine B0 ?_
 refine D2 (rC rfl (A0 rfl rfl (B1 (by repeat first | exact mH | apply mT)) hxl)) (rT rfl) (rT rfl) ?_
 (exact L4.mk (by rw [if_neg (by omega), if_pos (by omega)]) hrx)
 refine D9 ?_
 refine sP (X0 rfl rfl (by omega)) rfl rfl ?_
 refine D0 ?_
 focus (cases hDD : D; all_goals (rw [hDD] at hGr; refine H4 rfl hGr rfl rfl ?_))
 refine D9 ?_
 (refine D4 rfl (A6H (.mk tk tks) G _ hta hty) rfl rfl (fun u G1 hle1 hh => ?_); obtain ⟨gc, rfl, hrg⟩ := hh; have hgs := A28 (.mk tk tks); generalize T5 (.mk tk tks) = g at hrg hgs ⊢; obtain ⟨pg, cg, eg, rfl, _⟩ := hrg.open; replace hre0 := hre0.mono hle1; replace hfr := hfr.mono hle1; replace hty := hty.mono hle1)
 refine sE (A6 rfl) rfl (fun b127 => ?_)
 refine B6 ?_
 refine E1 E3 rfl ?_
 refine K9 (i := 0) (l' := [tt,ff,ff,ff,ff,ff,ff,ff,ff,ff,ff,ff,ff,ff,ff,ff]) rfl D5 (A0 rfl rfl (B1 (by repeat first | exact mH | apply mT)) rfl) rfl (by kernel_rfl) rfl rfl ?_
 refine aL 3 rfl (A0 rfl rfl (B1 (by repeat first | exact mH | apply mT)) rfl) rfl ?_
 refine aL 7 rfl (A0 rfl rfl (B1 (by repeat first | exact mH | apply mT)) rfl) rfl ?_
 refine aP 1 rfl (C0 rfl) rfl ?_
 refine aL 2 rfl (A4 rfl rfl) rfl ?_
 refine aP 4 rfl (C0 rfl) rfl ?_
 refine aL 5 rfl (C9 rfl rfl) rfl ?_
 refine aP 8 rfl (C0 rfl) rfl ?_
 refine aL 9 rfl (A4 rfl rfl) rfl ?_
 refine aP 10 rfl (C0 rfl) rfl ?_
 refine aL 11 rfl (C9 rfl rfl) rfl ?_
 refine A3 6 ?_
 (refine H2 rfl rfl (A0B _ (.mk fk fks) _ lb G1 _ _ _ ⟨by omega, by omega⟩ hre0 hfr hrg hfa.small hgs) rfl rfl rfl (fun u G3 hle3 hh => ?_); obtain ⟨wc, rfl, hrw⟩ := hh; have hwl := hrw.len; have hwo := hrw.one; replace hrg := hrg.mono hle3; replace hty := hty.mono hle3)
 refine A3 12 ?_
 (refine H2 rfl rfl (A0B _ _ (.mk tk tks) lb G3 _ _ _ ⟨by omega, by omega⟩ hrw hrg hty hgs hta.small) rfl rfl rfl (fun u G4 hle4 hh => ?_); obtain ⟨xc, rfl, hrx⟩ := hh; have hxl := hrx.len; have hxo := hrx.one)
 refine A3 13 ?_
 (refine oS rfl rfl rfl rfl hxl hxo rfl rfl ?_ (hu := by exact D8 hxl.symm))
 refine aP 14 rfl (qA rfl) rfl ?_
 refine aP 15 rfl (qA rfl) rfl ?_
 refine B0 ?_
 refine D2 (rC rfl (A0 rfl rfl (B1 (by repeat first | exact mH | apply mT)) hxl)) (rT rfl) (rT rfl) ?_
 (exact L4.mk (by rw [if_neg (by omega), if_neg (by omega), if_pos rfl]) hrx)
 refine D0 ?_
 focus (cases hJJ : J; all_goals (rw [hJJ] at hI; refine H4 rfl hI rfl rfl ?_))
 refine J3 ?_
 refine D2 (rC rfl (A4 rfl rfl)) (rT rfl) (rT rfl) ?_
 (exact L4.mk (by rw [if_neg (by omega), if_neg (by omega), if_neg (by decide), if_pos rfl]; rfl) (O0 _))
 refine J6 ?_
 refine sB (qE rfl rfl) rfl rfl (fun h199 => ?_) (fun h199 => ?_)
 refine D0 ?_
 (have hq1 := h14 (hjk (by assumption)); obtain ⟨bq, oq, e3, rfl, hl3, hat3, hre3, hgb3⟩ := hasl.kidTm hakl (i := 0) (by omega) (by omega); have ho3 := hre3.one; refine sP (B2 (j := 0) rfl rfl rfl (by omega)) rfl rfl ?_)
 refine sL (A0 rfl rfl (hat3 _) hl3) rfl rfl ?_
 refine sS rfl rfl rfl hl3 ho3 rfl ?_ (hu := by exact D8 hl3.symm)
 refine A9 ?_
 refine D2 (rC rfl (A0 rfl rfl (B1 (by repeat first | exact mH | apply mT)) hl3)) (rT rfl) (rT rfl) ?_
 (exact L4.mk (by rw [if_neg (by omega), if_neg (by omega), if_neg (by decide), if_neg (by decide), if_pos (by assumption), A1T (by omega)]) hre3)
 refine D0 ?_
 refine E1 E3 rfl ?_
 refine K2 (i := 0) (l' := [tt,ff,ff,ff,ff,ff]) rfl D5 (Z3 rfl rfl) rfl (by kernel_rfl) rfl rfl ?_
 refine aP 1 rfl (C0 rfl) rfl ?_
 refine aL 2 rfl (C9 rfl rfl) rfl ?_
 refine A3 3 ?_
 refine H6 rfl ?_
 refine aP 4 rfl (qA rfl) rfl ?_
 refine aP 5 rfl (qA rfl) rfl ?_
 refine B9 ?_
 refine D2 (rC rfl (A4 rfl rfl)) (rT rfl) (rT rfl) ?_
 (exact L4.mk (by rw [if_neg (by omega), if_neg (by omega), if_neg (by decide), if_neg (by decide), if_neg (by assumption)]) (O0 _))
theorem A6O {k : Int} {ty fr ty' fr' : Ty} {lb lb' : Int} {ks : List Tm} (h : k ≠ 14) : N9 k ty fr lb ks = N9 k ty' fr' lb' ks := by
 unfold N9
 rw [if_neg h, if_neg h]
theorem B5V (k : Int) (nm : ByteArray) (num : Int) (ty fr : Ty) (lb : Int) (ks : List Tm) (G : IM) (cells : List Value) (h7 : k = 1 ∨ k = 6 ∨ k = 7 ∨ k = 8 ∨ k = 11 ∨ k = 12 ∨ k = 14) (hc : cv (.mk k nm num ty fr lb ks)) (hr : B3 G (.mk k nm num ty fr lb ks) cells) : Fn Tryz.prog 234 [.agg ⟨cells⟩] [] G (L4 (N9 k ty fr lb ks)) := by
 have hr0 := hr
 obtain ⟨hN, hkk⟩ := hc.node
 have hops := hN.ops
 have hL2 : k = 6 ∨ k = 7 ∨ k = 8 → ∃ a b, ks = [a, b] := fun h => ks2 (by
  rcases h with rfl | rfl | rfl
  ·have : F0 6 = 2 := rfl; omega
  ·have : F0 7 = 2 := rfl; omega
  ·have : F0 8 = 2 := rfl; omega)
 have hL1 : k = 11 ∨ k = 12 ∨ k = 14 → ∃ a, ks = [a] := fun h => ks1 (by
  rcases h with rfl | rfl | rfl
  ·have : F0 11 = 1 := rfl; omega
  ·have : F0 12 = 1 := rfl; omega
  ·have : F0 14 = 1 := rfl; omega)
 have hC : k = 14 → Fn Tryz.prog 251 [.agg ⟨cells⟩] [] G (L4 (N9 k ty fr lb ks)) := by
  rintro rfl
  obtain ⟨a, rfl⟩ := hL1 (by omega)
  exact B5U a nm num ty fr lb G cells hc hr
 have hA : k = 6 → ∀ a b, ks = [a, b] → N9 k ty fr lb ks = N9 6 C1 C1 0 [a, b] := by rintro rfl a b rfl; exact A6O (by decide)
 have hB : k = 7 ∨ k = 8 → ∀ a b, ks = [a, b] → N9 k ty fr lb ks = N9 k C1 C1 0 [a, b] := by rintro h a b rfl; exact A6O (by omega)
 have hD : k = 11 ∨ k = 12 → ∀ a, ks = [a] → N9 k ty fr lb ks = N9 k C1 C1 0 [a] := by rintro h a rfl; exact A6O (by omega)
 have hO : k = 1 → N9 k ty fr lb ks = P7 := by rintro rfl; rfl
 generalize N9 k ty fr lb ks = R at hC hA hB hD hO ⊢
 obtain ⟨tk, tks⟩ := ty
 obtain ⟨fk, fks⟩ := fr
 obtain ⟨pt, ct, pf, cf, p, c, es, rfl, hk, hnum, hlb, hty, hfr, hsl, hkl⟩ := hr.open9
 refine B8 Tryz.func234 rfl Tryz.ntmps234 Tryz.results234 rfl ?_
 intro w0
 refine A2 ?_
 refine sE (C6 rfl rfl) rfl (fun b3 => ?_)
 refine sE (A6 rfl) rfl (fun b4 => ?_)
 refine H0 ?_
 refine B7 (tS (tR (sB (qE rfl rfl) rfl rfl (fun h19 => ?_) (fun h19 => ?_))))
 refine B0 ?_
 (have hq : k = 6 := (by assumption); obtain ⟨x, y, hxy⟩ := hL2 (by omega); have hAq := hA hq x y hxy; subst hxy; obtain ⟨bx, ox, e0, rfl, hl0, hat0, hre0, hgb0⟩ := hsl.kidTm hkl (i := 0) (by simp) (by simp); obtain ⟨_, _, e1, hp1, hl1, hat1, hre1, hgb1⟩ := hsl.kidTm hkl (i := 1) (by simp) (by simp); cases hp1; have hF := B5T x y G e0 e1 (hkk x (by simp)) (A2l y (hkk y (by simp))) hre0 hre1; rw [← hAq] at hF; refine E1 E3 rfl ?_)
 refine K2 (i := 0) (l' := [tt,ff,ff,ff,ff,ff,ff,ff,ff,ff,ff,ff,ff,ff,ff]) rfl D5 (C0 rfl) rfl (by kernel_rfl) rfl rfl ?_
 refine aL 1 rfl (C9 rfl rfl) rfl ?_
 refine aP 2 rfl (B2 (j := 0) rfl rfl rfl (by simp)) rfl ?_
 refine aL 3 rfl (A0 rfl rfl (hat0 _) hl0) rfl ?_
 refine aP 4 rfl (C0 rfl) rfl ?_
 refine aL 5 rfl (C9 rfl rfl) rfl ?_
 refine aP 6 rfl (B2 (j := 1) rfl rfl rfl (by simp)) rfl ?_
 refine aL 7 rfl (A0 rfl rfl (hat1 _) hl1) rfl ?_
 refine A3 8 ?_
 (refine H2 rfl rfl hF rfl rfl rfl (fun v G1 hle1 hh => ?_); obtain ⟨wc, rfl, hrw⟩ := hh; have hwl := hrw.len; have hwo := hrw.one)
 refine aP 9 rfl (pX rfl rfl) rfl ?_
 refine aP 10 rfl (pX rfl rfl) rfl ?_
 refine aP 11 rfl (pX rfl rfl) rfl ?_
 refine A3 12 ?_
 (refine oS rfl rfl rfl rfl hwl hwo rfl rfl ?_ (hu := by exact D8 hwl.symm))
 refine aP 13 rfl (qA rfl) rfl ?_
 refine aP 14 rfl (qA rfl) rfl ?_
 refine B0 ?_
 refine D2 (rC rfl (A0 rfl rfl (B1 (by repeat first | exact mH | apply mT)) hwl)) (rT rfl) (rT rfl) ?_
 (exact ⟨rfl, _, rfl, hrw⟩)
 refine A9 ?_
 refine sB (qE rfl rfl) rfl rfl (fun h57 => ?_) (fun h57 => ?_)
 refine D0 ?_
 (have hq : k = 7 ∨ k = 8 := (by omega); obtain ⟨x, y, hxy⟩ := hL2 (by omega); have hBq := hB hq x y hxy; subst hxy; obtain ⟨bx, ox, e0, rfl, hl0, hat0, hre0, hgb0⟩ := hsl.kidTm hkl (i := 0) (by simp) (by simp); obtain ⟨_, _, e1, hp1, hl1, hat1, hre1, hgb1⟩ := hsl.kidTm hkl (i := 1) (by simp) (by simp); cases hp1; have hF := B0R k x y G e0 e1 hq (by have := (hkk x (by simp)); cases x; exact this.node.1.num0) (by have := (hkk y (by simp)); cases y; exact this.node.1.num0) hre0 hre1; rw [← hBq] at hF; refine E1 E3 rfl ?_)
 refine K2 (i := 0) (l' := [tt,ff,ff,ff,ff,ff,ff,ff,ff,ff,ff,ff,ff,ff,ff,ff,ff]) rfl D5 (C0 rfl) rfl (by kernel_rfl) rfl rfl ?_
 refine aL 1 rfl (C9 rfl rfl) rfl ?_
 refine aP 2 rfl (C0 rfl) rfl ?_
 refine aL 3 rfl (C9 rfl rfl) rfl ?_
 refine aP 4 rfl (B2 (j := 0) rfl rfl rfl (by simp)) rfl ?_
 refine aL 5 rfl (A0 rfl rfl (hat0 _) hl0) rfl ?_
 refine aP 6 rfl (C0 rfl) rfl ?_
 refine aL 7 rfl (C9 rfl rfl) rfl ?_
 refine aP 8 rfl (B2 (j := 1) rfl rfl rfl (by simp)) rfl ?_
 refine aL 9 rfl (A0 rfl rfl (hat1 _) hl1) rfl ?_
 refine A3 10 ?_
 (refine H2 rfl rfl hF rfl rfl rfl (fun v G1 hle1 hh => ?_); obtain ⟨wc, rfl, hrw⟩ := hh; have hwl := hrw.len; have hwo := hrw.one)
 refine aP 11 rfl (pX rfl rfl) rfl ?_
 refine aP 12 rfl (pX rfl rfl) rfl ?_
 refine aP 13 rfl (pX rfl rfl) rfl ?_
 refine A3 14 ?_
 (refine oS rfl rfl rfl rfl hwl hwo rfl rfl ?_ (hu := by exact D8 hwl.symm))
 refine aP 15 rfl (qA rfl) rfl ?_
 refine aP 16 rfl (qA rfl) rfl ?_
 refine B0 ?_
 refine D2 (rC rfl (A0 rfl rfl (B1 (by repeat first | exact mH | apply mT)) hwl)) (rT rfl) (rT rfl) ?_
 (exact ⟨rfl, _, rfl, hrw⟩)
 refine B0 ?_
 refine sB (qE rfl rfl) rfl rfl (fun h98 => ?_) (fun h98 => ?_)
 refine B0 ?_
 (have hq : k = 7 ∨ k = 8 := (by omega); obtain ⟨x, y, hxy⟩ := hL2 (by omega); have hBq := hB hq x y hxy; subst hxy; obtain ⟨bx, ox, e0, rfl, hl0, hat0, hre0, hgb0⟩ := hsl.kidTm hkl (i := 0) (by simp) (by simp); obtain ⟨_, _, e1, hp1, hl1, hat1, hre1, hgb1⟩ := hsl.kidTm hkl (i := 1) (by simp) (by simp); cases hp1; have hF := B0R k x y G e0 e1 hq (by have := (hkk x (by simp)); cases x; exact this.node.1.num0) (by have := (hkk y (by simp)); cases y; exact this.node.1.num0) hre0 hre1; rw [← hBq] at hF; refine E1 E3 rfl ?_)
 refine K2 (i := 0) (l' := [tt,ff,ff,ff,ff,ff,ff,ff,ff,ff,ff,ff,ff,ff,ff,ff,ff]) rfl D5 (C0 rfl) rfl (by kernel_rfl) rfl rfl ?_
 refine aL 1 rfl (C9 rfl rfl) rfl ?_
 refine aP 2 rfl (C0 rfl) rfl ?_
 refine aL 3 rfl (C9 rfl rfl) rfl ?_
 refine aP 4 rfl (B2 (j := 0) rfl rfl rfl (by simp)) rfl ?_
 refine aL 5 rfl (A0 rfl rfl (hat0 _) hl0) rfl ?_
 refine aP 6 rfl (C0 rfl) rfl ?_
 refine aL 7 rfl (C9 rfl rfl) rfl ?_
 refine aP 8 rfl (B2 (j := 1) rfl rfl rfl (by simp)) rfl ?_
 refine aL 9 rfl (A0 rfl rfl (hat1 _) hl1) rfl ?_
 refine A3 10 ?_
 (refine H2 rfl rfl hF rfl rfl rfl (fun v G1 hle1 hh => ?_); obtain ⟨wc, rfl, hrw⟩ := hh; have hwl := hrw.len; have hwo := hrw.one)
 refine aP 11 rfl (pX rfl rfl) rfl ?_
 refine aP 12 rfl (pX rfl rfl) rfl ?_
 refine aP 13 rfl (pX rfl rfl) rfl ?_
 refine A3 14 ?_
 (refine oS rfl rfl rfl rfl hwl hwo rfl rfl ?_ (hu := by exact D8 hwl.symm))
 refine aP 15 rfl (qA rfl) rfl ?_
 refine aP 16 rfl (qA rfl) rfl ?_
 refine B0 ?_
 refine D2 (rC rfl (A0 rfl rfl (B1 (by repeat first | exact mH | apply mT)) hwl)) (rT rfl) (rT rfl) ?_
 (exact ⟨rfl, _, rfl, hrw⟩)
 refine A9 ?_
 refine sB (qE rfl rfl) rfl rfl (fun h138 => ?_) (fun h138 => ?_)
 refine D0 ?_
 (have hq : k = 11 ∨ k = 12 := (by omega); obtain ⟨x, hxy⟩ := hL1 (by omega); have hDq := hD hq x hxy; subst hxy; obtain ⟨bx, ox, e0, rfl, hl0, hat0, hre0, hgb0⟩ := hsl.kidTm hkl (i := 0) (by simp) (by simp); have hF := B0S k x G e0 hq (hkk x (by simp)) hre0; rw [← hDq] at hF; refine E1 E3 rfl ?_)
 refine K2 (i := 0) (l' := [tt,ff,ff,ff,ff,ff,ff,ff,ff,ff,ff,ff,ff]) rfl D5 (C0 rfl) rfl (by kernel_rfl) rfl rfl ?_
 refine aL 1 rfl (C9 rfl rfl) rfl ?_
 refine aP 2 rfl (C0 rfl) rfl ?_
 refine aL 3 rfl (C9 rfl rfl) rfl ?_
 refine aP 4 rfl (B2 (j := 0) rfl rfl rfl (by simp)) rfl ?_
 refine aL 5 rfl (A0 rfl rfl (hat0 _) hl0) rfl ?_
 refine A3 6 ?_
 (refine H2 rfl rfl hF rfl rfl rfl (fun v G1 hle1 hh => ?_); obtain ⟨wc, rfl, hrw⟩ := hh; have hwl := hrw.len; have hwo := hrw.one)
 refine aP 7 rfl (pX rfl rfl) rfl ?_
 refine aP 8 rfl (pX rfl rfl) rfl ?_
 refine aP 9 rfl (pX rfl rfl) rfl ?_
 refine A3 10 ?_
 (refine oS rfl rfl rfl rfl hwl hwo rfl rfl ?_ (hu := by exact D8 hwl.symm))
 refine aP 11 rfl (qA rfl) rfl ?_
 refine aP 12 rfl (qA rfl) rfl ?_
 refine B0 ?_
 refine D2 (rC rfl (A0 rfl rfl (B1 (by repeat first | exact mH | apply mT)) hwl)) (rT rfl) (rT rfl) ?_
 (exact ⟨rfl, _, rfl, hrw⟩)
 refine B0 ?_
 refine sB (qE rfl rfl) rfl rfl (fun h175 => ?_) (fun h175 => ?_)
 refine B0 ?_
 (have hq : k = 11 ∨ k = 12 := (by omega); obtain ⟨x, hxy⟩ := hL1 (by omega); have hDq := hD hq x hxy; subst hxy; obtain ⟨bx, ox, e0, rfl, hl0, hat0, hre0, hgb0⟩ := hsl.kidTm hkl (i := 0) (by simp) (by simp); have hF := B0S k x G e0 hq (hkk x (by simp)) hre0; rw [← hDq] at hF; refine E1 E3 rfl ?_)
 refine K2 (i := 0) (l' := [tt,ff,ff,ff,ff,ff,ff,ff,ff,ff,ff,ff,ff]) rfl D5 (C0 rfl) rfl (by kernel_rfl) rfl rfl ?_
 refine aL 1 rfl (C9 rfl rfl) rfl ?_
 refine aP 2 rfl (C0 rfl) rfl ?_
 refine aL 3 rfl (C9 rfl rfl) rfl ?_
 refine aP 4 rfl (B2 (j := 0) rfl rfl rfl (by simp)) rfl ?_
 refine aL 5 rfl (A0 rfl rfl (hat0 _) hl0) rfl ?_
 refine A3 6 ?_
 (refine H2 rfl rfl hF rfl rfl rfl (fun v G1 hle1 hh => ?_); obtain ⟨wc, rfl, hrw⟩ := hh; have hwl := hrw.len; have hwo := hrw.one)
 refine aP 7 rfl (pX rfl rfl) rfl ?_
 refine aP 8 rfl (pX rfl rfl) rfl ?_
 refine aP 9 rfl (pX rfl rfl) rfl ?_
 refine A3 10 ?_
 (refine oS rfl rfl rfl rfl hwl hwo rfl rfl ?_ (hu := by exact D8 hwl.symm))
 refine aP 11 rfl (qA rfl) rfl ?_
 refine aP 12 rfl (qA rfl) rfl ?_
 refine B0 ?_
 refine D2 (rC rfl (A0 rfl rfl (B1 (by repeat first | exact mH | apply mT)) hwl)) (rT rfl) (rT rfl) ?_
 (exact ⟨rfl, _, rfl, hrw⟩)
 refine A7 ?_
 refine sB (qE rfl rfl) rfl rfl (fun h210 => ?_) (fun h210 => ?_)
 refine A9 ?_
 (refine D4 rfl (hC (by omega)) rfl rfl (fun v G1 hle1 hh => ?_); obtain ⟨wc, rfl, hrw⟩ := hh; have hwl := hrw.len; have hwo := hrw.one)
 refine B9 ?_
 refine sS rfl rfl rfl hwl hwo rfl ?_ (hu := by exact D8 hwl.symm)
 refine A9 ?_
 refine D2 (rC rfl (A0 rfl rfl (B1 (by repeat first | exact mH | apply mT)) hwl)) (rT rfl) (rT rfl) ?_
 (exact ⟨rfl, _, rfl, hrw⟩)
 refine J3 ?_
 refine D2 (rC rfl (A4 rfl rfl)) (rT rfl) (rT rfl) ?_
 (rw [hO (by omega)]; exact L4.mk rfl (O0 _))
theorem B5W {k : Int} {nm : ByteArray} {num : Int} {ty fr : Ty} {lb : Int} {ks : List Tm} {i : Nat} (hi : i < ks.length) (hn : i < (if k = 9 then 1 else ks.length)) (hj : ∀ j, j < i → (h : j < ks.length) → J4 ks[j] = true) (hv : J4 ks[i] = false) :
  J5 (.mk k nm num ty fr lb ks) = if (J5 ks[i]).2.1 = 1 then (.mk k nm num ty fr lb (ks.set i (J5 ks[i]).1), 1, 0) else (L0, (J5 ks[i]).2.1, (J5 ks[i]).2.2) := by
 rw [J5, A6g _ ks i hi hn hj hv]
theorem B5X {k : Int} {nm : ByteArray} {num : Int} {ty fr : Ty} {lb : Int} {ks : List Tm} (h : ∀ i, i < (if k = 9 then 1 else ks.length) → (hl : i < ks.length) → J4 ks[i] = true) : J5 (.mk k nm num ty fr lb ks) = N9 k ty fr lb ks := by
 rw [J5, A6f _ _ h]
theorem B5Y {ty fr : Ty} {lb : Int} {a b c : Tm} : N9 9 ty fr lb [a, b, c] = (if a.k = 3 then (b, 1, 0) else if a.k = 4 then (c, 1, 0) else P7) := rfl
theorem B5Z : ∀ (t : Tm) (G : IM) (cells : List Value), cv t → J4 t = false → B3 G t cells → Fn Tryz.prog 211 [.agg ⟨cells⟩] [] G (L4 (J5 t)) := by
 refine Tm.ind fun k nm num ty fr lb ks ih G cells hc hv hr => ?_
 have hr0 := hr
 have hRl := hr.len
 have hN := hc.node.1
 have hkk := hc.node.2
 have hops := hN.ops
 have hle3 := A1N k
 have hkd := @A9G k nm num ty fr lb ks hc hv
 have hkX := fun (i : Nat) => @B5W k nm num ty fr lb ks i
 have hrX := @B5X k nm num ty fr lb ks
 have hRd := fun h7 => B5V k nm num ty fr lb ks G cells h7 hc hr
 obtain ⟨C, hC⟩ : ∃ C : Nat, (if k = 9 then 1 else ks.length : Nat) = C := ⟨_, rfl⟩
 rw [hC] at hkd hrX
 have hkX' := fun (i : Nat) (hi : i < ks.length) (hn : i < C) => hkX i hi (by rw [hC]; exact hn)
 have h93 : k = 9 → ks.length = 3 := fun h => by rw [h] at hops; have : F0 9 = 3 := rfl; omega
 have hC1 : k = 9 → C = 1 := fun h => by rw [← hC, if_pos h]
 have hC2 : k ≠ 9 → C = ks.length := fun h => by rw [← hC, if_neg h]
 have hC9 : C ≤ ks.length := by by_cases h9 : k = 9; have := h93 h9; have := hC1 h9; omega; have := hC2 h9; omega
 generalize J5 (.mk k nm num ty fr lb ks) = R at hkX hkX' hrX ⊢
 obtain ⟨tk, tks⟩ := ty
 obtain ⟨fk, fks⟩ := fr
 obtain ⟨pt, ct, pf, cf, p, c, es, rfl, hk, hnum, hlb, hty, hfr, hsl, hkl⟩ := hr.open9
 have hn := hsl.le
 have hnc := hsl.sl.2.1
 have hes1 : ∀ u ∈ es.flatten, u.oneCell' = true := by
  intro u hu
  obtain ⟨e, he, hue⟩ := List.mem_flatten.1 hu
  exact List.all_eq_true.1 (hsl.one e he) u hue
 refine B8 Tryz.func211 rfl Tryz.ntmps211 Tryz.results211 rfl ?_
 intro w0
 refine A2 ?_
 refine sE (C6 rfl rfl) rfl (fun b3 => ?_)
 refine sE (A6 rfl) rfl (fun b4 => ?_)
 refine Q0 ?_
 refine sB (qE rfl rfl) rfl rfl (fun h22 => ?_) (fun h22 => ?_)
 refine A2 ?_
 (show K3 _ _ (.cond (.tmp 16) _ _) _ _; refine A3C (fun (_ : Unit) => ⟨[(5, .int .i64 (C : Int)), (1, .pointer (some ⟨b3, 0, none⟩)), (2, .pointer (some ⟨b4, 0, none⟩))], [.blk b4 [.int .i64 0, .string ⟨⟨[]⟩⟩, .int .i64 0, .int .i64 0, .slice none 0 0, .int .i64 0, .slice none 0 0, .int .i64 0, .slice none 0 0], .blk b3 [.int .i64 k, .string nm, .int .i64 num, .int .i64 tk, .slice pt tks.length ct, .int .i64 fk, .slice pf fks.length cf, .int .i64 lb, .slice p ks.length c]], G⟩) (fun _ => True) (qT rfl ?_) ?_)
 refine B9 ?_
 (have hCC := hC1 (by omega); subst hCC; refine A1r () (O5 (by repeat (first | exact I1.nil | refine I1.cons rfl ?_)) (by repeat (first | exact A8.refl | exact A8.nil | refine A8.cons (by repeat (first | exact Pk.here | apply Pk.there)) ?_ | apply A8.drop))) trivial)
 (rintro (_ : Unit) _)
 refine A7 ?_
 refine B7 ?_
 (refine I3 (fun (i : Nat) => ⟨[(6, .int .i64 (i : Int)), (5, .int .i64 (C : Int)), (1, .pointer (some ⟨b3, 0, none⟩)), (2, .pointer (some ⟨b4, 0, none⟩))], [.blk b4 [.int .i64 0, .string ⟨⟨[]⟩⟩, .int .i64 0, .int .i64 0, .slice none 0 0, .int .i64 0, .slice none 0 0, .int .i64 0, .slice none 0 0], .blk b3 [.int .i64 k, .string nm, .int .i64 num, .int .i64 tk, .slice pt tks.length ct, .int .i64 fk, .slice pf fks.length cf, .int .i64 lb, .slice p ks.length c]], G⟩) (fun i => i ≤ C ∧ ∀ j, j < i → (h : j < ks.length) → J4 ks[j] = true) (fun i => C - i) 0 ?_ ?_ ?_)
 exact D3
 exact A6h
 (rintro i ⟨hi, hj⟩)
 refine B0 ?_
 refine sB (I8 rfl rfl) rfl rfl (fun h47 => ?_) (fun h47 => ?_)
 refine A7 ?_
 refine B7 ?_
 refine A7 ?_
 (have hiC : i < C := (by omega); obtain ⟨bx, ox, e, rfl, hl, hat, hre, hgb⟩ := hsl.kidTm hkl (i := i) (by omega) (by omega); have heo := hre.one; have hVi := A6K ks[i] G e (hkk _ (List.getElem_mem (by omega))) hre; refine sP (B2 (j := i) rfl rfl rfl (by omega)) rfl rfl ?_)
 refine sL (A0 rfl rfl (hat _) hl) rfl rfl ?_
 refine E8 rfl (hVi) rfl rfl (fun h63 => ?_) (fun h63 => ?_)
 refine D9 ?_
 refine sP (E7 rfl rfl (by omega) (by omega)) rfl rfl ?_
 refine A2 ?_
 refine I7 (i + 1) ?_ ?_ ?_
 exact D3
 exact A6i
 (show C - (i + 1) < C - i; omega)
 refine I9 ?_
 refine sP (B2 (j := i) rfl rfl rfl (by omega)) rfl rfl ?_
 refine sL (A0 rfl rfl (hat _) hl) rfl rfl ?_
 (have hvF : J4 ks[i] = false := (by assumption); have hst := hkX' i (by omega) hiC (fun j hji hl2 => hj j hji hl2) hvF; refine D4 rfl (ih ks[i] (List.getElem_mem (by omega)) G e (hkk _ (List.getElem_mem (by omega))) hvF hre) rfl rfl (fun v G1 hle1 hh => ?_); obtain ⟨uc, hvv, hru⟩ := hh; have hul := hru.len; have huo := hru.one; generalize J5 ks[i] = r at hvv hru hst; obtain ⟨u, cc, ll⟩ := r; simp only at hvv hru hst; subst hvv)
 refine B6 ?_
 refine sE (A6 rfl) rfl (fun b97 => ?_)
 refine sS rfl rfl rfl hul huo rfl ?_ (hu := by exact D8 hul.symm)
 refine D0 ?_
 refine sB (M7 rfl rfl) rfl rfl (fun h107 => ?_) (fun h107 => ?_)
 refine A0b ?_
 refine D2 (rC rfl (A4 rfl rfl)) (rT rfl) (rT rfl) ?_
 (rw [hst, if_neg (by omega)]; exact L4.mk rfl (O0 _))
 refine D0 ?_
 refine sE (A6 rfl) rfl (fun b138 => ?_)
 refine B0 ?_
 (refine J9 (E2 rfl rfl rfl (by omega) (by unfold maxLen; omega) rfl) rfl ?_; rintro _ ⟨b144, rfl⟩)
 refine A2 ?_
 (refine A3y rfl rfl rfl rfl rfl (fun _ _ => by repeat (first | exact Sw.here | apply Sw.there)) (hsl.mono hle1).sl hes1 (Nat.zero_le _) (by unfold maxLen; omega) (by omega) rfl (fun p4 c4 => ?_); simp only [Nat.zero_add, List.nil_append]; refine A3E (cs := es.flatten) (by repeat (first | exact Pk.here | apply Pk.there)) (by omega) (fun bc Cc hpe hnc1 hcm => ?_); subst hpe)
 refine D9 ?_
 refine sL (A0 rfl rfl (B1 (by repeat first | exact mH | apply mT)) hul) rfl rfl ?_
 refine sP (B2 (j := i) rfl rfl rfl (by omega)) rfl rfl ?_
 refine S9 rfl rfl rfl hul huo rfl (by repeat first | exact Sw.here | apply Sw.there) (by exact A3F (by rw [hkl.len]; omega) (fun e he => (hsl.all e he)) hul) ?_
 refine I9 ?_
 (refine A1g (bs := [(bc, (es.set i uc).flatten ++ Cc)]) (Pk.perm (by repeat (first | exact Pk.here | apply Pk.there))) (fun hn2 hd2 hle2 => ?_))
 refine A7 ?_
 refine D2 (rC rfl (A4 rfl rfl)) (rT rfl) (rT rfl) ?_
 (have hks2 := D7.set (j := i) ((hkl.mono hle1).mono hle2) (hru.mono hle2); rw [hst, if_pos (by omega)]; exact L4.mk rfl (B3.put (us := ks.set i u) (es := es.set i uc) hk hnum hlb ((hty.mono hle1).mono hle2) ((hfr.mono hle1).mono hle2) (by rw [List.length_set]) (C8.of (Sl.of_blk (A := []) (by rw [Z4 hks2.all, hks2.len, List.length_set]) (by omega) hcm (Wi.in hn2 List.mem_cons_self)) (by rw [hks2.len, List.length_set]) hks2.all (fun e he => by obtain ⟨q, hq⟩ := List.getElem?_of_mem he; exact (hks2.inv hq L0).2.one)) hks2))
 refine J6 ?_
 refine sP (X0 rfl rfl (by omega)) rfl rfl ?_
 refine I9 ?_
 (have hall : ∀ i, i < C → (hl : i < ks.length) → J4 ks[i] = true := (fun j hjc hl2 => hj j (by omega) hl2); have hrd' := hrX hall; have h9 : k = 9 := (by omega); subst h9; obtain ⟨xa, xb, xc, hxs⟩ := ks3 (h93 rfl); subst hxs; rw [B5Y] at hrd'; obtain ⟨bx, ox, e0, rfl, hl0, hat0, hre0, hgb0⟩ := hsl.kidTm hkl (i := 0) (by simp) (by simp); obtain ⟨_, _, e1, hp1, hl1, hat1, hre1, hgb1⟩ := hsl.kidTm hkl (i := 1) (by simp) (by simp); cases hp1; obtain ⟨_, _, e2, hp2, hl2, hat2, hre2, hgb2⟩ := hsl.kidTm hkl (i := 2) (by simp) (by simp); cases hp2; replace hre0 : B3 G xa e0 := hre0; replace hre1 : B3 G xb e1 := hre1; replace hre2 : B3 G xc e2 := hre2; have ho1 := hre1.one; have ho2 := hre2.one; obtain ⟨ak, anm, anum, ⟨atk, atks⟩, ⟨afk, afks⟩, alb, aks⟩ := xa; obtain ⟨apt, act, apf, acf, ap, ac, aes, rfl, hak, hanum, halb, haty, hafr, hasl, hakl⟩ := hre0.open9; replace hrd' : R = (if ak = 3 then (xb, 1, 0) else if ak = 4 then (xc, 1, 0) else P7) := hrd'; refine sP (B2 (j := 0) rfl rfl rfl (by simp)) rfl rfl ?_)
 refine E0 ?_
 refine sL (A0j rfl rfl ((hat0 _).sub (j := 0) rfl)) rfl rfl ?_
 refine A2 ?_
 refine B7 (tS (tR (sB (qE rfl rfl) rfl rfl (fun h211 => ?_) (fun h211 => ?_))))
 refine D0 ?_
 refine sP (B2 (j := 1) rfl rfl rfl (by simp)) rfl rfl ?_
 refine sL (A0 rfl rfl (hat1 _) hl1) rfl rfl ?_
 refine sS rfl rfl rfl hl1 ho1 rfl ?_ (hu := by exact D8 hl1.symm)
 refine A9 ?_
 refine D2 (rC rfl (A0 rfl rfl (B1 (by repeat first | exact mH | apply mT)) hl1)) (rT rfl) (rT rfl) ?_
 (rw [hrd', if_pos (by omega)]; exact L4.mk rfl hre1)
 refine A7 ?_
 refine sB (qE rfl rfl) rfl rfl (fun h238 => ?_) (fun h238 => ?_)
 refine D0 ?_
 refine sP (B2 (j := 2) rfl rfl rfl (by simp)) rfl rfl ?_
 refine sL (A0 rfl rfl (hat2 _) hl2) rfl rfl ?_
 refine sS rfl rfl rfl hl2 ho2 rfl ?_ (hu := by exact D8 hl2.symm)
 refine A9 ?_
 refine D2 (rC rfl (A0 rfl rfl (B1 (by repeat first | exact mH | apply mT)) hl2)) (rT rfl) (rT rfl) ?_
 (rw [hrd', if_neg (by omega), if_pos (by omega)]; exact L4.mk rfl hre2)
 refine J3 ?_
 refine D2 (rC rfl (A4 rfl rfl)) (rT rfl) (rT rfl) ?_
 (rw [hrd', if_neg (by omega), if_neg (by omega)]; exact L4.mk rfl (O0 _))
 refine A2 ?_
 (show K3 _ _ (.cond (.tmp 16) _ _) _ _; refine A3C (fun (_ : Unit) => ⟨[(5, .int .i64 (C : Int)), (1, .pointer (some ⟨b3, 0, none⟩)), (2, .pointer (some ⟨b4, 0, none⟩))], [.blk b4 [.int .i64 0, .string ⟨⟨[]⟩⟩, .int .i64 0, .int .i64 0, .slice none 0 0, .int .i64 0, .slice none 0 0, .int .i64 0, .slice none 0 0], .blk b3 [.int .i64 k, .string nm, .int .i64 num, .int .i64 tk, .slice pt tks.length ct, .int .i64 fk, .slice pf fks.length cf, .int .i64 lb, .slice p ks.length c]], G⟩) (fun _ => True) (cF rfl ?_) ?_)
 refine tK ?_
 (have hCC := hC2 (by omega); subst hCC; refine A1r () (O5 (by repeat (first | exact I1.nil | refine I1.cons rfl ?_)) (by repeat (first | exact A8.refl | exact A8.nil | refine A8.cons (by repeat (first | exact Pk.here | apply Pk.there)) ?_ | apply A8.drop))) trivial)
 (rintro (_ : Unit) _)
 refine A7 ?_
 refine B7 ?_
 (refine I3 (fun (i : Nat) => ⟨[(6, .int .i64 (i : Int)), (5, .int .i64 (C : Int)), (1, .pointer (some ⟨b3, 0, none⟩)), (2, .pointer (some ⟨b4, 0, none⟩))], [.blk b4 [.int .i64 0, .string ⟨⟨[]⟩⟩, .int .i64 0, .int .i64 0, .slice none 0 0, .int .i64 0, .slice none 0 0, .int .i64 0, .slice none 0 0], .blk b3 [.int .i64 k, .string nm, .int .i64 num, .int .i64 tk, .slice pt tks.length ct, .int .i64 fk, .slice pf fks.length cf, .int .i64 lb, .slice p ks.length c]], G⟩) (fun i => i ≤ C ∧ ∀ j, j < i → (h : j < ks.length) → J4 ks[j] = true) (fun i => C - i) 0 ?_ ?_ ?_)
 exact D3
 exact A6h
 (rintro i ⟨hi, hj⟩)
 refine B0 ?_
 refine sB (I8 rfl rfl) rfl rfl (fun h299 => ?_) (fun h299 => ?_)
 refine A7 ?_
 refine B7 ?_
 refine A7 ?_
 (have hiC : i < C := (by omega); obtain ⟨bx, ox, e, rfl, hl, hat, hre, hgb⟩ := hsl.kidTm hkl (i := i) (by omega) (by omega); have heo := hre.one; have hVi := A6K ks[i] G e (hkk _ (List.getElem_mem (by omega))) hre; refine sP (B2 (j := i) rfl rfl rfl (by omega)) rfl rfl ?_)
 refine sL (A0 rfl rfl (hat _) hl) rfl rfl ?_
 refine E8 rfl (hVi) rfl rfl (fun h315 => ?_) (fun h315 => ?_)
 refine D9 ?_
 refine sP (E7 rfl rfl (by omega) (by omega)) rfl rfl ?_
 refine A2 ?_
 refine I7 (i + 1) ?_ ?_ ?_
 exact D3
 exact A6i
 (show C - (i + 1) < C - i; omega)
 refine I9 ?_
 refine sP (B2 (j := i) rfl rfl rfl (by omega)) rfl rfl ?_
 refine sL (A0 rfl rfl (hat _) hl) rfl rfl ?_
 (have hvF : J4 ks[i] = false := (by assumption); have hst := hkX' i (by omega) hiC (fun j hji hl2 => hj j hji hl2) hvF; refine D4 rfl (ih ks[i] (List.getElem_mem (by omega)) G e (hkk _ (List.getElem_mem (by omega))) hvF hre) rfl rfl (fun v G1 hle1 hh => ?_); obtain ⟨uc, hvv, hru⟩ := hh; have hul := hru.len; have huo := hru.one; generalize J5 ks[i] = r at hvv hru hst; obtain ⟨u, cc, ll⟩ := r; simp only at hvv hru hst; subst hvv)
 refine B6 ?_
 refine sE (A6 rfl) rfl (fun b349 => ?_)
 refine sS rfl rfl rfl hul huo rfl ?_ (hu := by exact D8 hul.symm)
 refine D0 ?_
 refine sB (M7 rfl rfl) rfl rfl (fun h359 => ?_) (fun h359 => ?_)
 refine A0b ?_
 refine D2 (rC rfl (A4 rfl rfl)) (rT rfl) (rT rfl) ?_
 (rw [hst, if_neg (by omega)]; exact L4.mk rfl (O0 _))
 refine D0 ?_
 refine sE (A6 rfl) rfl (fun b390 => ?_)
 refine B0 ?_
 (refine J9 (E2 rfl rfl rfl (by omega) (by unfold maxLen; omega) rfl) rfl ?_; rintro _ ⟨b396, rfl⟩)
 refine A2 ?_
 (refine A3y rfl rfl rfl rfl rfl (fun _ _ => by repeat (first | exact Sw.here | apply Sw.there)) (hsl.mono hle1).sl hes1 (Nat.zero_le _) (by unfold maxLen; omega) (by omega) rfl (fun p4 c4 => ?_); simp only [Nat.zero_add, List.nil_append]; refine A3E (cs := es.flatten) (by repeat (first | exact Pk.here | apply Pk.there)) (by omega) (fun bc Cc hpe hnc1 hcm => ?_); subst hpe)
 refine D9 ?_
 refine sL (A0 rfl rfl (B1 (by repeat first | exact mH | apply mT)) hul) rfl rfl ?_
 refine sP (B2 (j := i) rfl rfl rfl (by omega)) rfl rfl ?_
 refine S9 rfl rfl rfl hul huo rfl (by repeat first | exact Sw.here | apply Sw.there) (by exact A3F (by rw [hkl.len]; omega) (fun e he => (hsl.all e he)) hul) ?_
 refine I9 ?_
 (refine A1g (bs := [(bc, (es.set i uc).flatten ++ Cc)]) (Pk.perm (by repeat (first | exact Pk.here | apply Pk.there))) (fun hn2 hd2 hle2 => ?_))
 refine A7 ?_
 refine D2 (rC rfl (A4 rfl rfl)) (rT rfl) (rT rfl) ?_
 (have hks2 := D7.set (j := i) ((hkl.mono hle1).mono hle2) (hru.mono hle2); rw [hst, if_pos (by omega)]; exact L4.mk rfl (B3.put (us := ks.set i u) (es := es.set i uc) hk hnum hlb ((hty.mono hle1).mono hle2) ((hfr.mono hle1).mono hle2) (by rw [List.length_set]) (C8.of (Sl.of_blk (A := []) (by rw [Z4 hks2.all, hks2.len, List.length_set]) (by omega) hcm (Wi.in hn2 List.mem_cons_self)) (by rw [hks2.len, List.length_set]) hks2.all (fun e he => by obtain ⟨q, hq⟩ := List.getElem?_of_mem he; exact (hks2.inv hq L0).2.one)) hks2))
 refine J6 ?_
 refine sP (A0m rfl rfl (by omega)) rfl rfl ?_
 refine A7 ?_
 (have hall : ∀ i, i < C → (hl : i < ks.length) → J4 ks[i] = true := (fun j hjc hl2 => hj j (by omega) hl2); have hk8 := hkd hall; have hrd' := hrX hall; refine D4 rfl (hRd (by omega)) rfl rfl (fun v G1 hle1 hh => ?_); obtain ⟨uc, rfl, hru⟩ := hh; have hul := hru.len; have huo := hru.one)
 refine B9 ?_
 refine sS rfl rfl rfl hul huo rfl ?_ (hu := by exact D8 hul.symm)
 refine A7 ?_
 refine D2 (rC rfl (A0 rfl rfl (B1 (by repeat first | exact mH | apply mT)) hul)) (rT rfl) (rT rfl) ?_
 (rw [hrd']; exact ⟨rfl, _, rfl, hru⟩)
theorem B50 {t : Tm} (h : O9 t = true) : (J5 t).1.small ∧ D6 (J5 t).1 ≤ 40300 := by
 obtain ⟨h1, h2⟩ := A2k h
 have := B3V t (A2l t h1) h2
 exact ⟨this.1, by omega⟩
theorem B51 (t : Tm) (G : IM) (cells : List Value) (hcnt : D6 t ≤ 4294967296) (hr : B3 G t cells) : Fn Tryz.prog 170 [.agg ⟨cells⟩] [] G (L4 (J0 t)) := by
 have hRl := hr.len
 have hRo := hr.one
 have hV := A8w t G cells hcnt hr
 have e1 := @A4J t
 have e2 := @A4K t
 have e3 := @A4L t
 have e4 := @A4M t
 have e5 := @A4N t
 have hsc := @B50 t
 refine B8 Tryz.func170 rfl Tryz.ntmps170 Tryz.results170 rfl ?_
 intro w0
 refine A2 ?_
 refine sE (C6 rfl rfl) rfl (fun b3 => ?_)
 refine sE (A6 rfl) rfl (fun b4 => ?_)
 refine A9 ?_
 refine sL (A0 rfl rfl (B1 (by repeat first | exact mH | apply mT)) hRl) rfl rfl ?_
 refine E8 rfl (hV) rfl rfl (fun h13 => ?_) (fun h13 => ?_)
 refine D9 ?_
 refine sL (A0 rfl rfl (B1 (by repeat first | exact mH | apply mT)) hRl) rfl rfl ?_
 refine E8 rfl ((A6K t G cells (A2k (by assumption)).1 hr)) rfl rfl (fun h24 => ?_) (fun h24 => ?_)
 refine B0 ?_
 refine sL (A0 rfl rfl (B1 (by repeat first | exact mH | apply mT)) hRl) rfl rfl ?_
 (refine D4 rfl (A3B t G cells (A4I (by assumption)) hr) rfl rfl (fun v G1 hle1 hh => ?_); obtain ⟨cs1, F1, rfl, hs1, hn1⟩ := hh; have hul := hs1.R.len; have huo := hs1.R.one)
 refine sS rfl rfl rfl hul huo rfl ?_ (hu := by exact D8 hul.symm)
 refine A7 ?_
 refine D2 (rC rfl (A0 rfl rfl (B1 (by repeat first | exact mH | apply mT)) hul)) (rT rfl) (rT rfl) ?_
 (exact L4.mk (e2 (by assumption) (by assumption)) (hs1.R.mono (B5.le _ _)))
 refine A9 ?_
 refine sL (A0 rfl rfl (B1 (by repeat first | exact mH | apply mT)) hRl) rfl rfl ?_
 (have hcv : O9 t = true := (by assumption); have hnv : J4 t = false := (by assumption); obtain ⟨hsc1, hsc2⟩ := hsc hcv; replace e3 := e3 hcv hnv; replace e4 := e4 hcv hnv; replace e5 := e5 hcv hnv; refine D4 rfl (B5Z t G cells (A2k hcv).1 hnv hr) rfl rfl (fun v G1 hle1 hh => ?_); obtain ⟨uc, hvv, hru⟩ := hh; have hul := hru.len; have huo := hru.one; generalize J5 t = r at hvv hru hsc1 hsc2 e3 e4 e5; obtain ⟨u, cc, ll⟩ := r; simp only at hvv hru hsc1 hsc2 e3 e4 e5; subst hvv; have hVu := A8w u G1 uc (by omega) hru)
 refine B6 ?_
 refine sE (A6 rfl) rfl (fun b54 => ?_)
 refine sS rfl rfl rfl hul huo rfl ?_ (hu := by exact D8 hul.symm)
 refine D0 ?_
 refine sB (M7 rfl rfl) rfl rfl (fun h64 => ?_) (fun h64 => ?_)
 refine H1 ?_
 refine D2 (rC rfl (A4 rfl rfl)) (rT rfl) (rT rfl) ?_
 (exact L4.mk (e3 (by omega)) (O0 _))
 refine D0 ?_
 refine sL (A0 rfl rfl (B1 (by repeat first | exact mH | apply mT)) hul) rfl rfl ?_
 refine E8 rfl (hVu) rfl rfl (fun h91 => ?_) (fun h91 => ?_)
 refine D0 ?_
 refine sL (A0 rfl rfl (B1 (by repeat first | exact mH | apply mT)) hul) rfl rfl ?_
 (refine D4 rfl (A3B u G1 uc hsc1 hru) rfl rfl (fun v G2 hle2 hh => ?_); obtain ⟨cs2, F2, rfl, hs2, hn2⟩ := hh; have hwl := hs2.R.len; have hwo := hs2.R.one)
 refine sS rfl rfl rfl hwl hwo rfl ?_ (hu := by exact D8 hwl.symm)
 refine B0 ?_
 refine D2 (rC rfl (A0 rfl rfl (B1 (by repeat first | exact mH | apply mT)) hwl)) (rT rfl) (rT rfl) ?_
 (exact L4.mk (e5 (by omega) (by assumption)) (hs2.R.mono (B5.le _ _)))
 refine J7 ?_
 refine D2 (rC rfl (A4 rfl rfl)) (rT rfl) (rT rfl) ?_
 (exact L4.mk (e4 (by omega) (by assumption)) (O0 _))
 refine J7 ?_
 refine D2 (rC rfl (A4 rfl rfl)) (rT rfl) (rT rfl) ?_
 (exact L4.mk (e1 (by assumption)) (O0 _))
theorem B52 {m i : Nat} {e : Tm} (h : (J0 e).2.1 ≠ 1) : Z8 i (Q4 m e) = ((J0 e).1, (J0 e).2.1, (J0 e).2.2, i) := by
 cases m with
 | zero => rw [Q4, if_neg h]; simp [Z8]
 | succ m => rw [Q4, if_neg h]; simp [Z8]
theorem B53 {m i : Nat} {e : Tm} (h : (J0 e).2.1 = 1) (hm : m = 0) : Z8 i (Q4 m e) = (L0, 5, 0, i) := by
 subst hm; rw [Q4, if_pos h]; simp [Z8]
theorem B54 {m i : Nat} {e : Tm} (h : (J0 e).2.1 = 1) (hm : 0 < m) : Z8 i (Q4 m e) = Z8 (i + 1) (Q4 (m - 1) (J0 e).1) := by
 obtain ⟨k, rfl⟩ : ∃ k, m = k + 1 := ⟨m - 1, by omega⟩
 rw [Q4, if_pos h]; simp only [Z8, Nat.add_sub_cancel, Nat.add_assoc, Nat.add_comm 1 i]
theorem B55 (e : Tm) (n : Nat) (hn : n ≤ 300) (G : IM) (cells : List Value) (hcnt : D6 e ≤ 4294967296) (hr : B3 G e cells) : Fn Tryz.prog 128 [.agg ⟨cells⟩, .int .i64 (n : Int)] [] G (EvP (Q4 n e)) := by
 have hRl := hr.len
 have hRo := hr.one
 refine B8 Tryz.func128 rfl Tryz.ntmps128 Tryz.results128 rfl ?_
 intro w0
 refine A2 ?_
 refine sE (C6 rfl rfl) rfl (fun b3 => ?_)
 refine sE (A6 rfl) rfl (fun b4 => ?_)
 refine I9 ?_
 refine B7 ?_
 (refine I3 (fun (x : Nat × Tm × List Value × IM) => ⟨[(8, .int .i64 (x.1 : Int)), (1, .int .i64 (n : Int)), (2, .pointer (some ⟨b3, 0, none⟩)), (4, .pointer (some ⟨b4, 0, none⟩))], [.blk b3 x.2.2.1, .blk b4 [.int .i64 0, .string ⟨⟨[]⟩⟩, .int .i64 0, .int .i64 0, .slice none 0 0, .int .i64 0, .slice none 0 0, .int .i64 0, .slice none 0 0]], x.2.2.2⟩) (fun x => x.1 ≤ n ∧ C5 G x.2.2.2 ∧ B3 x.2.2.2 x.2.1 x.2.2.1 ∧ D6 x.2.1 ≤ 4294967296 ∧ Z8 x.1 (Q4 (n - x.1) x.2.1) = Q4 n e) (fun x => n - x.1) (0, e, cells, G) ?_ ?_ ?_)
 (simp only [H9]; exact D3)
 (exact ⟨Nat.zero_le _, C5.refl _, hr, hcnt, rfl⟩)
 (rintro ⟨i, u, uc, Gi⟩ ⟨hi, hle, hru, hcu, hev⟩; simp only [] at hi hle hru hcu hev ⊢; have hul := hru.len; have huo := hru.one)
 refine tS ?_
 refine B7 ?_
 refine A2 ?_
 refine sL (A0 rfl rfl (B1 (by repeat first | exact mH | apply mT)) hul) rfl rfl ?_
 (refine D4 rfl (B51 u Gi uc hcu hru) rfl rfl (fun v G1 hle1 hh => ?_); obtain ⟨wc, hv, hrw⟩ := hh; have hwl := hrw.len; have hwo := hrw.one; have hend := @B52 (n - i) i u; have hmu := @B53 (n - i) i u; have hgo := @B54 (n - i) i u; have hval := @B4p u; generalize J0 u = r at hv hrw hend hmu hgo hval; obtain ⟨w, c, l⟩ := r; simp only at hv hrw hend hmu hgo hval; subst hv)
 refine B6 ?_
 refine sE (A6 rfl) rfl (fun b30 => ?_)
 refine sS rfl rfl rfl hwl hwo rfl ?_ (hu := by exact D8 hwl.symm)
 refine D0 ?_
 refine sB (M7 rfl rfl) rfl rfl (fun h40 => ?_) (fun h40 => ?_)
 refine B0 ?_
 refine sL (A0 rfl rfl (B1 (by repeat first | exact mH | apply mT)) hwl) rfl rfl ?_
 refine B9 ?_
 refine sS rfl rfl rfl hwl hwo rfl ?_ (hu := by exact D8 hwl.symm)
 refine H0 ?_
 refine A4O (rC rfl (A0 rfl rfl (B1 (by repeat first | exact mH | apply mT)) hwl)) (rT rfl) (rT rfl) (rT rfl) ?_
 exact A6m
 refine I9 ?_
 refine sB (qE rfl rfl) rfl rfl (fun h74 => ?_) (fun h74 => ?_)
 refine A0o ?_
 refine A4O (rC rfl (A4 rfl rfl)) (rT rfl) (rT rfl) (rT rfl) ?_
 (exact EvP.mk (by rw [← hev]; exact hmu (by omega) (by omega)) (O0 _))
 refine A7 ?_
 refine sL (A0 rfl rfl (B1 (by repeat first | exact mH | apply mT)) hwl) rfl rfl ?_
 refine S9 rfl rfl rfl hwl hwo rfl (by repeat first | exact Sw.here | apply Sw.there) (by exact D8 (hul.trans hwl.symm)) ?_
 refine B0 ?_
 refine sP (E7 rfl rfl (by omega) (by omega)) rfl rfl ?_
 refine A2 ?_
 refine I7 (i + 1, w, wc, G1) ?_ ?_ ?_
 (simp only [H9]; exact D3)
 (dsimp only; exact ⟨by omega, hle.trans hle1, hrw, by have := A7z (hval (by omega)); omega, by rw [← hev, hgo (by omega) (by omega), show n - (i + 1) = n - i - 1 by omega]⟩)
 (show n - (i + 1) < n - i; omega)
theorem B56 {e : Tm} {fuel : Int} (h : O2 fuel 0 300 = true) : S2 e fuel = ((Q4 fuel.toNat e).1, (Q4 fuel.toNat e).2.1, (Q4 fuel.toNat e).2.2.1) := by
 unfold S2; rw [if_pos (A3o h)]
theorem B0T {fuel : Int} (h : fuel < 0 ∨ 300 < fuel) : O2 fuel 0 300 = false := by unfold O2; rw [decide_eq_false (by omega)]
theorem B57 {fuel : Int} (h : 0 ≤ fuel) (h2 : fuel ≤ 300) : O2 fuel 0 300 = true := by unfold O2; rw [decide_eq_true ⟨h, h2⟩]
theorem B58 (e : Tm) (fuel : Int) (G : IM) (cells : List Value) (hcnt : D6 e ≤ 4294967296) (hr : B3 G e cells) : Fn Tryz.prog 86 [.agg ⟨cells⟩, .int .i64 fuel] [] G (L4 (S2 e fuel)) := by
 have hRl := hr.len
 have hRo := hr.one
 have hno := @A6o e fuel
 have hin := @B56 e fuel
 refine B8 Tryz.func86 rfl Tryz.ntmps86 Tryz.results86 rfl ?_
 intro w0
 refine A2 ?_
 refine sE (C6 rfl rfl) rfl (fun b3 => ?_)
 refine sE (A6 rfl) rfl (fun b4 => ?_)
 refine D0 ?_
 refine sB (I8 rfl rfl) rfl rfl (fun h13 => ?_) (fun h13 => ?_)
 refine Q0 ?_
 refine D2 (rC rfl (A4 rfl rfl)) (rT rfl) (rT rfl) ?_
 (exact L4.mk (hno (B0T (by omega))) (O0 _))
 refine A2 ?_
 refine sB (A00 rfl rfl) rfl rfl (fun h35 => ?_) (fun h35 => ?_)
 refine J7 ?_
 refine D2 (rC rfl (A4 rfl rfl)) (rT rfl) (rT rfl) ?_
 (exact L4.mk (hno (B0T (by omega))) (O0 _))
 refine D0 ?_
 refine sL (A0 rfl rfl (B1 (by repeat first | exact mH | apply mT)) hRl) rfl rfl ?_
 refine E0 ?_
 (have hE := B55 e fuel.toNat (by omega) G cells hcnt hr; rw [Int.toNat_of_nonneg (by omega)] at hE; have hin := hin (B57 (by omega) (by omega)); refine D4 rfl hE rfl rfl (fun v G1 hle1 hh => ?_); obtain ⟨wc, hv, hrw⟩ := hh; have hwl := hrw.len; have hwo := hrw.one; generalize Q4 fuel.toNat e = r at hv hrw hin; obtain ⟨w, c, l, i⟩ := r; simp only at hv hrw hin; subst hv)
 refine B0 ?_
 refine sE (A6 rfl) rfl (fun b68 => ?_)
 refine sS rfl rfl rfl hwl hwo rfl ?_ (hu := by exact D8 hwl.symm)
 refine A9 ?_
 refine sL (A0 rfl rfl (B1 (by repeat first | exact mH | apply mT)) hwl) rfl rfl ?_
 refine A2 ?_
 refine sS rfl rfl rfl hwl hwo rfl ?_ (hu := by exact D8 hwl.symm)
 refine B0 ?_
 refine D2 (rC rfl (A0 rfl rfl (B1 (by repeat first | exact mH | apply mT)) hwl)) (rT rfl) (rT rfl) ?_
 (exact L4.mk hin hrw)
theorem B59 : ∀ (t : Tm) (G : IM) (cells : List Value), cv t → J4 t = true → B3 G t cells → Fn Tryz.prog 87 [.agg ⟨cells⟩] [] G (E5 (.string (A0t t)) G) := by
 refine Tm.ind fun k nm num ty fr lb ks ih G cells hc hv hr => ?_
 have hr0 := hr
 have hP := A4U _ G _ hr
 obtain ⟨hN, hkk⟩ := hc.node
 have hI := A6I (.mk k nm num ty fr lb ks) G _ hN.frA hr
 have hop := hN.ops
 have hnum0 := hN.num0
 have h14 : k = 14 → ks.length = 1 := fun h => by rw [h] at hop; have : F0 14 = 1 := rfl; omega
 have hvp := @B0g k nm num ty fr lb ks
 have hvf := @B0h k nm num ty fr lb ks
 have hvc := @B0i k nm num ty fr lb ks
 have hvl := @B0j k nm num ty fr lb ks
 have hvn := @A4E k nm num ty fr lb ks
 have hvy := @B0P k nm num ty fr lb ks
 have hprx := A1w k nm num ty fr lb ks
 have hinj := A4D k nm num ty fr lb ks
 have h5 : k ≠ 10 → P6 (.mk k nm num ty fr lb ks) = false → inj (.mk k nm num ty fr lb ks) = false → k = 2 ∨ k = 3 ∨ k = 4 ∨ k = 5 := fun h1 h2 h3 => by
  have := hvn h1 h2 h3; rw [hv] at this; exact of_decide_eq_true this.symm
 have hdis : P6 (.mk k nm num ty fr lb ks) = true → inj (.mk k nm num ty fr lb ks) = false := fun h => by
  rw [hprx] at h; have := of_decide_eq_true h; rw [hinj, decide_eq_false (by omega)]; rfl
 have hik : inj (.mk k nm num ty fr lb ks) = true → k = 14 := fun h => A4G h
 have hpk : P6 (.mk k nm num ty fr lb ks) = true → k = 14 ∧ ty.k = fr.k := fun h => by rw [hprx] at h; have := of_decide_eq_true h; exact ⟨this.1, this.2.1.symm⟩
 have hkv := fun (h : inj (.mk k nm num ty fr lb ks) = true) => (hvy (.inr h) (h14 (hik h))).symm.trans hv
 obtain ⟨j, hj⟩ : ∃ j : Nat, num = j := ⟨num.toNat, by omega⟩
 have hdec := B45 j (by omega) G
 generalize hpx : P6 (.mk k nm num ty fr lb ks) = bp at *
 generalize hij : inj (.mk k nm num ty fr lb ks) = bi at *
 subst hj
 obtain ⟨tk, tks⟩ := ty
 obtain ⟨fk, fks⟩ := fr
 obtain ⟨pt, ct, pf, cf, p, c, es, rfl, hk, hnum, hlb, hty, hfr, hsl, hkl⟩ := hr.open9
 refine B8 Tryz.func87 rfl Tryz.ntmps87 Tryz.results87 rfl ?_
 intro w0
 refine A2 ?_
 refine sE (C6 rfl rfl) rfl (fun b3 => ?_)
 refine B6 ?_
 refine B7 ?_
 refine B6 ?_
 refine sB (qE rfl rfl) rfl rfl (fun h13 => ?_) (fun h13 => ?_)
 refine D0 ?_
 refine H4 rfl (hdec) rfl rfl ?_
 refine A9 ?_
 (have hbp : bp = false := (by cases hb : bp with | false => rfl | true => (have := (hpk hb).1; omega)); refine ⟨rfl, congrArg Value.string ?_, rfl⟩; rw [hvl hbp (by omega) (by omega) (by omega)]; unfold A1x; first | (rw [if_pos (by omega)]; rfl) | (rw [if_neg (by omega), if_pos (by omega)]; rfl) | (rw [if_neg (by omega), if_neg (by omega)]; rfl))
 refine D0 ?_
 refine sB (qE rfl rfl) rfl rfl (fun h39 => ?_) (fun h39 => ?_)
 refine J6 ?_
 (have hbp : bp = false := (by cases hb : bp with | false => rfl | true => (have := (hpk hb).1; omega)); refine ⟨rfl, congrArg Value.string ?_, rfl⟩; rw [hvl hbp (by omega) (by omega) (by omega)]; unfold A1x; first | (rw [if_pos (by omega)]; rfl) | (rw [if_neg (by omega), if_pos (by omega)]; rfl) | (rw [if_neg (by omega), if_neg (by omega)]; rfl))
 refine D0 ?_
 refine sB (qE rfl rfl) rfl rfl (fun h62 => ?_) (fun h62 => ?_)
 refine J6 ?_
 (have hbp : bp = false := (by cases hb : bp with | false => rfl | true => (have := (hpk hb).1; omega)); refine ⟨rfl, congrArg Value.string ?_, rfl⟩; rw [hvl hbp (by omega) (by omega) (by omega)]; unfold A1x; first | (rw [if_pos (by omega)]; rfl) | (rw [if_neg (by omega), if_pos (by omega)]; rfl) | (rw [if_neg (by omega), if_neg (by omega)]; rfl))
 refine D0 ?_
 refine sB (qE rfl rfl) rfl rfl (fun h85 => ?_) (fun h85 => ?_)
 refine A0O ?_
 (refine ⟨rfl, congrArg Value.string ?_, rfl⟩; rw [hvp (by first | exact .inl (by omega) | exact .inr ⟨by assumption, by have := (hpk (by assumption)).2; simp only [Ty.k] at this ⊢; omega⟩)]; rfl)
 refine A2 ?_
 refine E8 rfl (hP) rfl rfl (fun h112 => ?_) (fun h112 => ?_)
 refine B6 ?_
 refine sB (qE rfl rfl) rfl rfl (fun h117 => ?_) (fun h117 => ?_)
 refine H1 ?_
 (refine ⟨rfl, congrArg Value.string ?_, rfl⟩; rw [hvp (by first | exact .inl (by omega) | exact .inr ⟨by assumption, by have := (hpk (by assumption)).2; simp only [Ty.k] at this ⊢; omega⟩)]; rfl)
 refine D9 ?_
 refine E8 rfl (hI) rfl rfl (fun h143 => ?_) (fun h143 => ?_)
 refine D0 ?_
 (have hl1 := h14 (hik (by assumption)); obtain ⟨bx, ox, e, rfl, hl, hat, hre, hgb⟩ := hsl.kidTm hkl (i := 0) (by omega) (by omega); have hih := ih ks[0] (List.getElem_mem (by omega)) G e (hkk _ (List.getElem_mem (by omega))) (hkv (by assumption)) hre; refine sP (B2 (j := 0) rfl rfl rfl (by omega)) rfl rfl ?_)
 refine sL (A0 rfl rfl (hat _) hl) rfl rfl ?_
 refine H4 rfl (hih) rfl rfl ?_
 refine A9 ?_
 (have hbp : bp = false := (by cases hb : bp with | false => rfl | true => (have := hdis hb; have h9 : bi = true := (by assumption); rw [h9] at this; cases this)); refine ⟨rfl, congrArg Value.string ?_, rfl⟩; rw [hvc hbp (hik (by assumption)) (by omega)])
 refine J7 ?_
 (refine ⟨rfl, congrArg Value.string ?_, rfl⟩; rw [hvf (by rintro (h | ⟨h1, h2⟩) <;> first | omega | exact Bool.noConfusion (h1.symm.trans (show bp = false by assumption)) | (have := (hpk h1).2; simp only [Ty.k] at this h2; omega)) (by cases hb : bp with | true => exact .inr rfl | false => exact .inl (by have := h5 (by omega) hb (by assumption); omega))]; rfl)
 refine J7 ?_
 refine E8 rfl (hI) rfl rfl (fun h192 => ?_) (fun h192 => ?_)
 refine D0 ?_
 (have hl1 := h14 (hik (by assumption)); obtain ⟨bx, ox, e, rfl, hl, hat, hre, hgb⟩ := hsl.kidTm hkl (i := 0) (by omega) (by omega); have hih := ih ks[0] (List.getElem_mem (by omega)) G e (hkk _ (List.getElem_mem (by omega))) (hkv (by assumption)) hre; refine sP (B2 (j := 0) rfl rfl rfl (by omega)) rfl rfl ?_)
 refine sL (A0 rfl rfl (hat _) hl) rfl rfl ?_
 refine H4 rfl (hih) rfl rfl ?_
 refine A9 ?_
 (have hbp : bp = false := (by cases hb : bp with | false => rfl | true => (have := hdis hb; have h9 : bi = true := (by assumption); rw [h9] at this; cases this)); refine ⟨rfl, congrArg Value.string ?_, rfl⟩; rw [hvc hbp (hik (by assumption)) (by omega)])
 refine J7 ?_
 (refine ⟨rfl, congrArg Value.string ?_, rfl⟩; rw [hvf (by rintro (h | ⟨h1, h2⟩) <;> first | omega | exact Bool.noConfusion (h1.symm.trans (show bp = false by assumption)) | (have := (hpk h1).2; simp only [Ty.k] at this h2; omega)) (by cases hb : bp with | true => exact .inr rfl | false => exact .inl (by have := h5 (by omega) hb (by assumption); omega))]; rfl)
theorem B6a (e : Tm) (fuel : Int) (G : IM) (cells : List Value) (hcnt : D6 e ≤ 4294967296) (hr : B3 G e cells) : Fn Tryz.prog 37 [.agg ⟨cells⟩, .int .i64 fuel] [] G (B0l (S3 e fuel) G) := by
 have hRl := hr.len
 have hRo := hr.one
 have hno := @B0m e fuel
 have hyv := fun u t => @B0n e u t fuel
 have hyn := fun u t => @B0o e u t fuel
 refine B8 Tryz.func37 rfl Tryz.ntmps37 Tryz.results37 rfl ?_
 intro w0
 refine A2 ?_
 refine sE (C6 rfl rfl) rfl (fun b3 => ?_)
 refine A9 ?_
 refine sL (A0 rfl rfl (B1 (by repeat first | exact mH | apply mT)) hRl) rfl rfl ?_
 focus (refine D4 rfl (B5I e G cells hcnt hr) rfl rfl (fun v G1 hle1 hh => ?_); obtain ⟨cu, ct, rfl, hru, hrt⟩ := hh; rcases hI : V2 e with _ | ⟨u, t⟩; rotate_left; rw [hI] at hru hrt; simp only [Option.getD_some] at hru hrt; have hgI := A6s hI; rotate_left; rw [hI] at hru hrt; simp only [Option.getD_none] at hru hrt; simp only [Option.isSome]; rotate_left; simp only [Option.isSome]; rotate_left; all_goals (have hul := hru.len; have huo := hru.one; obtain ⟨p3, c3, e3, rfl, _⟩ := hrt.open))
 refine B6 ?_
 refine sE (A6 rfl) rfl (fun b17 => ?_)
 refine sE (A6 rfl) rfl (fun b18 => ?_)
 refine sS rfl rfl rfl hul huo rfl ?_ (hu := by exact D8 hul.symm)
 refine A0p ?_
 refine D2 (rT rfl) (rT rfl) (rT rfl) ?_
 (exact ⟨rfl, by rw [hno (by first | exact hI | rfl | assumption)]⟩)
 refine B6 ?_
 refine sE (A6 rfl) rfl (fun b47 => ?_)
 refine sE (A6 rfl) rfl (fun b48 => ?_)
 refine sS rfl rfl rfl hul huo rfl ?_ (hu := by exact D8 hul.symm)
 refine J3 ?_
 refine sL (A0 rfl rfl (B1 (by repeat first | exact mH | apply mT)) hul) rfl rfl ?_
 refine E0 ?_
 (have hyv := hyv u t hI; have hyn := hyn u t hI; have hev := @B0q u fuel; refine D4 rfl (B58 u fuel G1 cu (by have := A7z hgI.1; omega) hru) rfl rfl (fun v G2 hle2 hh => ?_); obtain ⟨wc, hvv, hrw⟩ := hh; have hwl := hrw.len; have hwo := hrw.one; generalize S2 u fuel = r at hvv hrw hyv hyn hev; obtain ⟨w, c, l⟩ := r; simp only at hvv hrw hyv hyn hev; subst hvv)
 refine B6 ?_
 refine sE (A6 rfl) rfl (fun b73 => ?_)
 refine sS rfl rfl rfl hwl hwo rfl ?_ (hu := by exact D8 hwl.symm)
 refine D0 ?_
 refine sB (M7 rfl rfl) rfl rfl (fun h83 => ?_) (fun h83 => ?_)
 refine J7 ?_
 refine D2 (rT rfl) (rT rfl) (rT rfl) ?_
 (exact ⟨rfl, by rw [hyn (by omega)]⟩)
 refine A9 ?_
 refine sL (A0 rfl rfl (B1 (by repeat first | exact mH | apply mT)) hwl) rfl rfl ?_
 (obtain ⟨he1, he2, he3⟩ := hev (by omega); refine H4 rfl (B59 w G2 wc (A2k he1).1 he2 hrw) rfl rfl ?_)
 refine A9 ?_
 refine D2 (rT rfl) (rT rfl) (rT rfl) ?_
 exact B0r
theorem B6b {e : Tm} {m : Nat} (h : Q1 e = true) : A2p e (R3 m 0 (I5 e)) = some (V1 e m) := by
 unfold V1
 refine A88 h (by rw [A2q h, A2o]) fun j hj _ => ?_
 rcases A3H m (I5 e) 0 _ (List.getElem_mem hj) with h1 | h1
 ·rw [h1]; decide
 ·exact B0K e 1 ((A1q e).1 h).1 _ h1
theorem B6c (t : Tm) (m : Nat) (G : IM) (cells : List Value) (hv : Q1 t = true) (h6 : (I5 t).length ≤ 60) (hm : m < 2 ^ (I5 t).length) (hm2 : m ≤ 4294967296) (hr : B3 G t cells) :
  Fn Tryz.prog 43 [.agg ⟨cells⟩, .int .i64 (m : Int)] [] G (L5 fun G' v => ∃ cu, v = .tuple ⟨[.agg ⟨cu⟩, .bool true]⟩ ∧ B3 G' (V1 t m) cu) := by
 have hl := hr.len
 have hone := hr.one
 have hf := B5K hv
 have hcnt := hf.2
 have hT := A5Z t G cells hf.1 (by omega) hr
 rw [A2q hv] at hT
 have hst0 := A4x t hf.1
 have hbw := @B6b t m hv
 obtain ⟨L, hL⟩ : ∃ L, I5 t = L := ⟨_, rfl⟩
 have hml := A2o m L 0
 rw [hL] at hT h6 hm hst0 hbw
 have hWt := fun G cells p c es => B3x t (R3 m 0 L) G cells p c es hf.1 (by omega) (by rw [hml]; omega) (fun u hu => by rcases A3H m L 0 u hu with rfl | hu; exact A53; exact hst0 u hu)
 rw [hml, hbw] at hWt
 refine B8 Tryz.func43 rfl Tryz.ntmps43 Tryz.results43 rfl ?_
 intro w0
 refine A2 ?_
 refine sE (C6 rfl rfl) rfl (fun b3 => ?_)
 refine sE (A6 rfl) rfl (fun b4 => ?_)
 refine B0 ?_
 refine sL (A0 rfl rfl (B1 (by repeat first | exact mH | apply mT)) hl) rfl rfl ?_
 (refine W1 rfl hT rfl rfl (fun v G1 outs hle1 hh => ?_); obtain ⟨p, c, es0, rfl, rfl, hr1⟩ := hh; replace hr := hr.mono hle1; obtain ⟨M, hM⟩ : ∃ M, 2 ^ L.length = M := ⟨_, rfl⟩; rw [hM] at hm)
 refine A9 ?_
 refine sP (S5 rfl rfl (by omega)) rfl rfl ?_
 refine B6 ?_
 (refine sP (A22 rfl rfl (by omega)) rfl rfl ?_; rw [hM])
 refine sP (A65 rfl rfl (by omega)) rfl rfl ?_
 refine J8 ?_
 refine B7 ?_
 (refine A7b (fun a w hs => hs.slc_ptT (p := p) (c := c) (el := 34) (sz := 2) (n := L.length) (cs := es0.flatten) (by repeat first | exact mH | apply mT)) (fun hq => ?_); refine I3 (fun (x : Nat × List (List Value)) => ⟨[(7, .int .i64 x.1), (6, .slice p L.length c), (1, .int .i64 (m : Int)), (2, .pointer (some ⟨b3, 0, none⟩)), (4, .pointer (some ⟨b4, 0, none⟩))], [.slc p c 34 2 L.length x.2.flatten, .blk b4 [.int .i64 0, .string ⟨⟨[]⟩⟩, .int .i64 0, .int .i64 0, .slice none 0 0, .int .i64 0, .slice none 0 0, .int .i64 0, .slice none 0 0], .blk b3 cells], G1⟩) (fun x => x.1 ≤ L.length ∧ C7 G1 (R3 m 0 (L.take x.1) ++ L.drop x.1) x.2) (fun x => L.length - x.1) (0, es0) ?_ ?_ ?_)
 (simp only [H9]; exact D3)
 (exact ⟨Nat.zero_le _, by simpa [R3] using hr1⟩)
 (rintro ⟨(i : Nat), es⟩ ⟨hi, hst⟩; simp only [] at hi hst ⊢; have hesl : es.length = L.length := (by have h0 := hst.len; simp only [List.length_append, A2o, List.length_take, List.length_drop] at h0; omega); have hstep := A8Z m L i)
 refine A7 ?_
 refine sB (I8 rfl rfl) rfl rfl (fun h49 => ?_) (fun h49 => ?_)
 refine A7 ?_
 refine B7 ?_
 refine B6 ?_
 refine sP (A89 rfl rfl (by omega)) rfl rfl ?_
 refine sQ (A9a rfl rfl) rfl (sB (qE rfl rfl) rfl rfl (fun h63 => ?_) (fun h63 => ?_))
 refine A7 ?_
 refine H4 rfl (A4o _) rfl rfl ?_
 (obtain ⟨g, rfl, hgc⟩ := hq.resolve_left (by omega); refine sP (B2 (j := i) rfl rfl rfl (by omega)) rfl rfl ?_)
 refine A9b rfl rfl rfl rfl rfl rfl (by repeat first | exact Sw.here | apply Sw.there) (A9c (by omega) (fun e he => (hst.each e he).1) rfl) ?_
 refine B0 ?_
 refine sP (E7 rfl rfl (by omega) (by omega)) rfl rfl ?_
 refine A2 ?_
 (rw [if_pos (by omega)] at hstep; refine I7 (i + 1, es.set i [.int .i64 1, .slice none 0 0]) ?_ ?_ ?_)
 (simp only [H9]; exact D3)
 exact A4y
 (show L.length - (i + 1) < L.length - i; omega)
 refine D0 ?_
 refine sP (E7 rfl rfl (by omega) (by omega)) rfl rfl ?_
 refine A2 ?_
 (rw [if_neg (by omega)] at hstep; refine I7 (i + 1, es) ?_ ?_ ?_)
 (simp only [H9]; exact D3)
 exact A4y
 (show L.length - (i + 1) < L.length - i; omega)
 refine I9 ?_
 refine sL (A0 rfl rfl (B1 (by repeat first | exact mH | apply mT)) hl) rfl rfl ?_
 refine E0 ?_
 (obtain rfl : i = L.length := (by omega); rw [List.take_length, List.drop_length, List.append_nil] at hst; refine A14 (cs := es.flatten) (by repeat (first | exact Pk.here | apply Pk.there)) (fun G2 hle2 hsl2 hno2 => ?_); refine D4 rfl (hWt G2 cells p c es (hr.mono hle2) (C8.of hsl2 hesl hst.all (fun e he => (hst.each e he).2)) (hst.mono hle2)) rfl rfl (fun v G3 hle3 hh => ?_); obtain ⟨cu, rfl, hru⟩ := hh; have hul := hru.len; have huo := hru.one)
 refine A2 ?_
 refine sS rfl rfl rfl hul huo rfl ?_ (hu := by exact D8 hul.symm)
 refine B6 ?_
 refine E9 (rC rfl (A0 rfl rfl (B1 (by repeat first | exact mH | apply mT)) hul)) (rT rfl) ?_
 (exact ⟨rfl, cu, rfl, hru⟩)
theorem A4X {Q : Prop} (h : Q := by (exact ⟨rfl, by rw [decide_eq_false (fun hc => by first | exact Bool.noConfusion hc.1 | omega)]⟩)) : Q := h
theorem B6d (e : Tm) (fuel : Int) (G : IM) (cells : List Value) (hts : e.small) (hcnt : D6 e ≤ 4000000) (hr : B3 G e cells) :
  Fn Tryz.prog 41 [.agg ⟨cells⟩, .int .i64 fuel] [] G (L5 fun _ v => v = .bool (decide ((P8 e).isSome = true ∧ (V6 e).length ≤ 6 ∧ 0 ≤ fuel ∧ fuel ≤ 300))) := by
 have hl := hr.len
 have hone := hr.one
 refine B8 Tryz.func41 rfl Tryz.ntmps41 Tryz.results41 rfl ?_
 intro w0
 refine A2 ?_
 refine sE (C6 rfl rfl) rfl (fun b3 => ?_)
 refine B0 ?_
 refine sL (A0 rfl rfl (B1 (by repeat first | exact mH | apply mT)) hl) rfl rfl ?_
 (refine D4 rfl (B0E e G cells (by omega) hr) rfl rfl (fun v1 G1 hle1 hh => ?_); obtain ⟨mc, mt, rfl, hmr, hmu⟩ := hh; obtain ⟨qt, dt, et2, rfl, _⟩ := hmr.open; replace hr := hr.mono hle1; have hC := A85 e G1 cells hts hcnt hr; generalize (P8 e).isSome = A1 at *; generalize (V6 e).length = n1 at *; cases A1)
 refine B9 ?_
 refine sE (A6 rfl) rfl (fun b14 => ?_)
 refine A3m ?_
 exact A4X
 refine B9 ?_
 refine sE (A6 rfl) rfl (fun b44 => ?_)
 refine D0 ?_
 refine sL (A0 rfl rfl (B1 (by repeat first | exact mH | apply mT)) hl) rfl rfl ?_
 (refine D4 rfl hC rfl rfl (fun v2 G2 hle2 hh => ?_); subst hh)
 refine sB (W9 rfl rfl) rfl rfl (fun h55 => ?_) (fun h55 => ?_)
 refine B9 ?_
 refine sB (A01 rfl rfl) rfl rfl (fun h59 => ?_) (fun h59 => ?_)
 refine B9 ?_
 refine sB (W9 rfl rfl) rfl rfl (fun h63 => ?_) (fun h63 => ?_)
 refine A7 ?_
 (exact ⟨rfl, by rw [decide_eq_true ⟨rfl, by omega, by omega, by omega⟩]⟩)
 refine A7 ?_
 exact A4X
 refine I9 ?_
 exact A4X
 refine J7 ?_
 exact A4X
theorem B0U (t : Tm) (fuel : Int) (G : IM) (cells : List Value) (hts : t.small) (hcnt : D6 t ≤ 4000000) (hr : B3 G t cells) :
  Fn Tryz.prog 12 [.agg ⟨cells⟩, .int .i64 fuel] [] G (IsP ((R8 t fuel).getD []) (R8 t fuel).isSome G) := by
 have hl := hr.len
 have hone := hr.one
 have hvv := @B5J t
 have hno : ¬ ((P8 t).isSome = true ∧ (V6 t).length ≤ 6 ∧ 0 ≤ fuel ∧ fuel ≤ 300) → R8 t fuel = none := fun h => by
  unfold R8
  split
  ·rename_i hw
   unfold U4
   rw [if_neg (fun hc => h ⟨hc.1, by rw [A2q (hvv hc.1)]; exact hc.2, A20.1 hw⟩)]; rfl
  ·rfl
 have hyes : (P8 t).isSome = true ∧ (V6 t).length ≤ 6 ∧ 0 ≤ fuel ∧ fuel ≤ 300 → R8 t fuel = some ((List.range (2 ^ (V6 t).length)).map fun m => (S3 (V1 t m) fuel).2.1) := fun h => by
  unfold R8 U4
  rw [if_pos (A20.2 h.2.2), if_pos ⟨h.1, by rw [← A2q (hvv h.1)]; exact h.2.1⟩, A2q (hvv h.1)]
  simp [Y9, Function.comp_def]
 have hF := B6d t fuel G cells hts hcnt hr
 obtain ⟨Q, hQ⟩ : ∃ Q, decide ((P8 t).isSome = true ∧ (V6 t).length ≤ 6 ∧ 0 ≤ fuel ∧ fuel ≤ 300) = Q := ⟨_, rfl⟩
 rw [hQ] at hF
 have hBl : Q = true → ∀ (m : Nat) (G : IM) (cells : List Value), m < 2 ^ (V6 t).length → B3 G t cells → Fn Tryz.prog 43 [.agg ⟨cells⟩, .int .i64 (m : Int)] [] G (L5 fun G' v => ∃ cu, v = .tuple ⟨[.agg ⟨cu⟩, .bool true]⟩ ∧ B3 G' (V1 t m) cu) := fun h m G cells hm hr => by
  have hc := of_decide_eq_true (hQ.trans h)
  have hv := hvv hc.1
  have h6 := hc.2.1
  rw [A2q hv] at hm h6
  have : 2 ^ (I5 t).length ≤ 2 ^ 6 := Nat.pow_le_pow_right (by decide) h6
  exact B6c t m G cells hv (by omega) hm (by omega) hr
 have hbc : ∀ m, D6 (V1 t m) ≤ 4294967296 := fun m => by
  have h0 := (B0M t (R3 m 0 (I5 t)) hts (fun u hu => by rcases A3H m (I5 t) 0 u hu with rfl | hu; exact A53; exact A4x t hts u hu)).2
  unfold V1; omega
 have hS : ∀ m, ∃ s c l, S3 (V1 t m) fuel = (s, c, l) := fun m => ⟨_, _, _, rfl⟩
 generalize R8 t fuel = R at *
 refine B8 Tryz.func12 rfl Tryz.ntmps12 Tryz.results12 rfl ?_
 intro w0
 refine A2 ?_
 refine sE (C6 rfl rfl) rfl (fun b3 => ?_)
 refine A7 ?_
 (refine J9 (E2 rfl rfl rfl (by omega) (by unfold maxLen; omega) rfl) rfl ?_; rintro _ ⟨b10, rfl⟩)
 refine A7 ?_
 refine sL (A0 rfl rfl (B1 (by repeat first | exact mH | apply mT)) hl) rfl rfl ?_
 refine E0 ?_
 (refine D4 rfl hF rfl rfl (fun v1 G1 hle1 hh => ?_); subst hh; replace hr := hr.mono hle1; cases Q)
 refine H0 ?_
 (have hno2 := hno (of_decide_eq_false hQ); refine H8 (by repeat (first | exact Pk.here | apply Pk.there)) (fun G5 hle5 hsl5 hno5 => ?_))
 refine A2 ?_
 refine E9 (rT rfl) (rT rfl) ?_
 (exact IsP.mk (l := []) (by rw [hno2]; rfl) (by rw [hno2]; rfl) rfl ⟨by simpa [N6] using hsl5.dif (fun b hb => (hno5 b hb).1) hle1, fun b hb => A2J hle1 (hno5 b hb)⟩)
 refine J8 ?_
 refine B7 ?_
 (have hc := of_decide_eq_true hQ; have hy2 := hyes hc; have hBt := hBl rfl; have hlen6 := hc.2.1; have hC := fun G cells hr => A85 t G cells hts hcnt hr; generalize (V6 t).length = N1 at *; have hp64 : 2 ^ N1 ≤ 2 ^ 6 := Nat.pow_le_pow_right (by decide) hlen6; refine I3 (fun (x : Nat × Option Addr × Nat × IM) => ⟨[(7, .int .i64 x.1), (6, .slice x.2.1 x.1 x.2.2.1), (1, .int .i64 fuel), (2, .pointer (some ⟨b3, 0, none⟩))], [.slc x.2.1 x.2.2.1 3 1 x.1 (N6 ((List.range x.1).map fun m => (S3 (V1 t m) fuel).2.1)), .blk b3 cells], x.2.2.2⟩) (fun x => x.1 ≤ 2 ^ N1 ∧ C5 G1 x.2.2.2) (fun x => 2 ^ N1 - x.1) (0, some ⟨b10, 0, none⟩, 0, G1) ?_ ?_ ?_)
 (simp only [H9]; exact D3)
 (exact ⟨Nat.zero_le _, C5.refl _⟩)
 (rintro ⟨(i : Nat), pn, cn, Gi⟩ ⟨hi, hle⟩; simp only [] at hi hle ⊢; replace hr := hr.mono hle)
 refine B6 ?_
 refine sL (A0 rfl rfl (B1 (by repeat first | exact mH | apply mT)) hl) rfl rfl ?_
 (refine D4 rfl (hC _ cells hr) rfl rfl (fun v2 G2 hle2 hh => ?_); subst hh; replace hr := hr.mono hle2)
 refine sP (A22 rfl rfl (by omega)) rfl rfl ?_
 refine sB (I8 rfl rfl) rfl rfl (fun h60 => ?_) (fun h60 => ?_)
 refine A7 ?_
 refine B7 ?_
 refine A2 ?_
 refine sL (A0 rfl rfl (B1 (by repeat first | exact mH | apply mT)) hl) rfl rfl ?_
 refine E0 ?_
 (refine D4 rfl (hBt i _ cells (by omega) hr) rfl rfl (fun v3 G3 hle3 hh => ?_); obtain ⟨cu, rfl, hru⟩ := hh; have hul := hru.len; have huo := hru.one; obtain ⟨s, cd, lb, hRu⟩ := hS i; have hI := B6a (V1 t i) fuel G3 cu (hbc i) hru; rw [hRu] at hI)
 refine B9 ?_
 refine sE (A6 rfl) rfl (fun b76 => ?_)
 refine sS rfl rfl rfl hul huo rfl ?_ (hu := by exact D8 hul.symm)
 refine B0 ?_
 refine sL (A0 rfl rfl (B1 (by repeat first | exact mH | apply mT)) hul) rfl rfl ?_
 refine E0 ?_
 (refine D4 rfl hI rfl rfl (fun v4 G4 hle4 hh => ?_); replace hh : v4 = .tuple ⟨[.string s, .int .i64 cd, .int .i64 lb]⟩ := hh; subst hh)
 refine J8 ?_
 (refine J9 (E2 rfl rfl rfl (by omega) (by unfold maxLen; omega) rfl) rfl ?_; rintro _ ⟨b98, rfl⟩)
 (refine X1 rfl rfl rfl rfl rfl (fun _ _ => by repeat (first | exact Sw.here | apply Sw.there)) (M4 (by repeat first | exact mH | apply mT)) rfl (by simp [Value.oneCell']) (by unfold maxLen; omega) (by omega) rfl (fun p8 c8 => ?_))
 refine A7 ?_
 refine sP (E7 rfl rfl (by omega) (by omega)) rfl rfl ?_
 refine A2 ?_
 (refine I7 (i + 1, p8, c8, G4) (by rw [A98, hRu, A38]; exact (O5 (by repeat (first | exact I1.nil | refine I1.cons rfl ?_)) (by repeat (first | exact A8.refl | exact A8.nil | refine A8.cons (by repeat (first | exact Pk.here | apply Pk.there)) ?_ | apply A8.drop)))) ?_ ?_)
 (dsimp only; exact ⟨by omega, hle.trans (hle2.trans (hle3.trans hle4))⟩)
 (show 2 ^ N1 - (i + 1) < 2 ^ N1 - i; omega)
 refine H1 ?_
 (obtain rfl : i = 2 ^ N1 := (by omega); refine H8 (cs := N6 ((List.range (2 ^ N1)).map fun m => (S3 (V1 t m) fuel).2.1)) (by repeat (first | exact Pk.here | apply Pk.there)) (fun G9 hle9 hsl9 hno9 => ?_))
 refine tT ?_
 refine E9 (rT rfl) (rT rfl) ?_
 (exact IsP.mk (l := (List.range (2 ^ N1)).map fun m => (S3 (V1 t m) fuel).2.1) (by rw [hy2]; rfl) (by rw [hy2]; rfl) (by simp) ⟨by rw [List.length_map, List.length_range]; exact hsl9.dif (fun b hb => (hno9 b hb).1) (hle1.trans (hle.trans hle2)), fun b hb => A2J (hle1.trans (hle.trans hle2)) (hno9 b hb)⟩)
theorem B6e (t : Tm) (fuel : Int) : ((R8 t fuel).getD []).length ≤ 64 := by
 unfold R8
 split
 ·unfold U4
  split
  ·rename_i h
   have : 2 ^ (I5 t).length ≤ 2 ^ 6 := Nat.pow_le_pow_right (by decide) h.2
   simp only [Option.map_some, Option.getD_some, Y9, List.length_map, List.length_range]; omega
  ·simp
 ·simp
theorem A3e {l l' : List Int} {b b' : Bool} {G G' : IM} {v : Value} (hl : l = l') (hb : b = b')
  (hh : ∃ p c, v = .tuple ⟨[.slice p l.length c, .bool b]⟩ ∧ SP1 (B5 G' G) l p c) :
  ∃ p c, v = .tuple ⟨[.slice p l'.length c, .bool b']⟩ ∧ SP1 (B5 G' G) l' p c := by subst hl hb; exact hh
theorem B6f (t : Tm) (fuel : Int) (G : IM) (cells : List Value) (hT : Z5 G) (hno : t.nok) (hr : B3 G t cells) (hf : H3 fuel) :
  Fn Tryz.prog 3 [.agg ⟨cells⟩, .int .i64 fuel] [] G (L5 fun _ v => v = .bool true) := by
 have hl := hr.len
 have hone := hr.one
 have hz := A7Q t 1048576 G cells (by omega) (by omega) hno hr
 have hzn := A4d t
 have hcs := A5H t
 have hms := A79 t
 have hm1 := A0q t.ty.ks
 have hm2 := A0q t.fr.ks
 have hm3 := A1E t.ks
 have hmc := B6e t fuel
 obtain ⟨l, hL⟩ : ∃ l, (R8 t fuel).getD [] = l := ⟨_, rfl⟩
 obtain ⟨b, hB⟩ : ∃ b, (R8 t fuel).isSome = b := ⟨_, rfl⟩
 rw [hL] at hmc
 refine B8 Tryz.func3 rfl Tryz.ntmps3 Tryz.results3 rfl ?_
 intro w0
 refine A2 ?_
 refine sE (C6 rfl rfl) rfl (fun b3 => ?_)
 refine I9 ?_
 refine sL (A0 rfl rfl (B1 (by repeat first | exact mH | apply mT)) (by assumption)) rfl rfl ?_
 refine E0 ?_
 (rcases A1I 1048576 (X3 t) with ⟨hc, hrs⟩ | ⟨hc, hrs⟩ <;> (rw [hrs] at hz; refine H4 rfl hz rfl rfl ?_))
 refine A9 ?_
 refine sP (S5 rfl rfl (by omega)) rfl rfl ?_
 refine A9 ?_
 refine sL (A0 rfl rfl (B1 (by repeat first | exact mH | apply mT)) (by assumption)) rfl rfl ?_
 (refine D4 rfl (A1K t G cells (A0d t (by omega)) hr) rfl rfl (fun v1 G1 hle1 hh => ?_); obtain ⟨cells1, F1, rfl, hs1, hn1⟩ := hh; have hA := B0U t fuel G1 cells1 (A0d t (by omega)) (by omega) (hs1.R.mono (B5.le _ _)))
 refine E0 ?_
 (refine D4 rfl hA rfl rfl (fun v2 G2 hle2 hh => ?_); obtain ⟨p2, c2, rfl, hp2⟩ := A3e hL hB hh; have hle02 := hle1.trans hle2; have hr2 := hr.mono hle02)
 refine D9 ?_
 refine sL (A0 rfl rfl (B1 (by repeat first | exact mH | apply mT)) (by assumption)) rfl rfl ?_
 (refine D4 rfl (A1K t G2 cells (A0d t (by omega)) hr2) rfl rfl (fun v3 G3 hle3 hh => ?_); obtain ⟨cells3, F3, rfl, hs3, hn3⟩ := hh; have hl3 := hs3.R.len; have ho3 := hs3.R.one; have hI := B0s t fuel G3 cells3 (A0d t (by omega)) (by omega) (((hT.mono hle1).mono hle2).mono hle3) (hs3.R.mono (B5.le _ _)))
 refine sE (A6 rfl) rfl (fun b47 => ?_)
 refine S9 rfl rfl rfl (by assumption) (by assumption) rfl (by repeat first | exact Sw.here | apply Sw.there) (by exact D8 (by symm; assumption)) ?_
 refine B6 ?_
 refine sL (A0 rfl rfl (B1 (by repeat first | exact mH | apply mT)) (by assumption)) rfl rfl ?_
 refine E0 ?_
 (refine D4 rfl hI rfl rfl (fun v4 G4 hle4 hh => ?_); obtain ⟨p4, c4, rfl, hp4⟩ := A3e hL hB hh; have hle24 := hle3.trans hle4; have m2 : C5 (B5 G2 G1) G4 := (B5.le G2 G1).trans hle24; have hr4 := hr2.mono hle24)
 refine J8 ?_
 refine H4 rfl (A2K l G4 p4 p2 c4 c2 (hp4.1.mono (B5.le _ _)) (hp2.1.mono m2)) rfl rfl ?_
 refine B6 ?_
 refine sQ (A0S rfl rfl rfl) rfl ?_
 refine D0 ?_
 refine E1 E3 rfl ?_
 refine K9 (i := 0) (l' := [tt,ff,ff,ff,ff]) rfl D5 (A0 rfl rfl (B1 (by repeat first | exact mH | apply mT)) (by assumption)) rfl (by kernel_rfl) rfl rfl ?_
 refine aL 1 rfl (A0 rfl rfl (B1 (by repeat first | exact mH | apply mT)) (by assumption)) rfl ?_
 refine A3 2 ?_
 (refine H2 rfl rfl (A1K t G4 cells (A0d t (by omega)) hr4) rfl rfl rfl (fun v5 G5 hle5 hh => ?_); obtain ⟨cells5, F5, rfl, hs5, hn5⟩ := hh)
 refine A3 3 ?_
 refine M5 rfl rfl (A7B t G5 cells3 cells5 (hs3.R.mono ((B5.le _ _).trans (hle4.trans hle5))) (hs5.R.mono (B5.le _ _))) rfl rfl rfl ?_
 refine aP 4 rfl (pNt rfl) rfl ?_
 refine J8 ?_
 refine sL (A0 rfl rfl (B1 (by repeat first | exact mH | apply mT)) (by assumption)) rfl rfl ?_
 refine E0 ?_
 (obtain ⟨bs3, ob3, ib3⟩ := hs3.blks; obtain ⟨nb3, gb3, kb3⟩ := A4l (Gc := G5) ib3 hn3 hle02 ((B5.le G3 G2).trans (hle4.trans hle5)); refine A8z nb3 gb3 rfl (A7K t 1 _ cells3 bs3 ob3 (by omega) (by omega)) rfl rfl ?_; have h46 : C5 (B5 G4 G3) (Wo G5 (bs3.map Prod.fst)) := Wo.keep ((B5.le G4 G3).trans hle5) (fun b hb => A8y (kb3 b hb).2); have h26 : C5 (B5 G2 G1) (Wo G5 (bs3.map Prod.fst)) := Wo.keep (m2.trans hle5) (fun b hb => A0z (B5.le G2 G1) (kb3 b hb).1); have h06 : C5 G (Wo G5 (bs3.map Prod.fst)) := Wo.keep (hle02.trans (hle24.trans hle5)) (fun b hb => A0z hle02 (kb3 b hb).1); generalize Wo G5 (bs3.map Prod.fst) = G6 at *)
 refine A9 ?_
 refine sP (S5 rfl rfl (by omega)) rfl rfl ?_
 refine B9 ?_
 refine H4 rfl (A2K l G6 p4 p2 c4 c2 (hp4.1.mono h46) (hp2.1.mono h26)) rfl rfl ?_
 refine B0 ?_
 refine sQ (A0S rfl rfl rfl) rfl ?_
 refine H1 ?_
 (obtain ⟨bs4, ob4, ib4⟩ := hp4.blks; obtain ⟨nb4, gb4, kb4⟩ := A4l (Gc := G6) ib4 (A5p p4) (hle02.trans hle3) h46; refine A8A nb4 gb4 rfl (A7N l 1 _ p4 c4 bs4 ob4 (by omega) (by omega)) rfl rfl (fun bs5 G8 hb5 hle8 hg5 => ?_); have h28 : C5 (B5 G2 G1) G8 := (Wo.keep h26 (fun b hb => A0z (B5.le G2 G1) (A0z hle3 (kb4 b hb).1))).trans hle8; have h08 : C5 G G8 := (Wo.keep h06 (fun b hb => A0z hle02 (A0z hle3 (kb4 b hb).1))).trans hle8; have hq8 := hb5.sl hg5; rw [A2M] at hq8; have hr8 := hr.mono h08)
 refine J8 ?_
 refine H4 rfl (A4c l.length 1 G8 p4 c4 hq8 (by omega) (by omega)) rfl rfl ?_
 refine A9 ?_
 refine sP (S5 rfl rfl (by omega)) rfl rfl ?_
 refine I9 ?_
 refine sP (X0 rfl rfl (by omega)) rfl rfl ?_
 refine A9 ?_
 refine sL (A0 rfl rfl (B1 (by repeat first | exact mH | apply mT)) (by assumption)) rfl rfl ?_
 (refine D4 rfl (A1K t G8 cells (A0d t (by omega)) hr8) rfl rfl (fun v9 G9 hle9 hh => ?_); obtain ⟨A2N, F9, rfl, hs9, hn9⟩ := hh; have hI9 := B0s t fuel G9 A2N (A0d t (by omega)) (by omega) ((hT.mono h08).mono hle9) (hs9.R.mono (B5.le _ _)))
 refine E0 ?_
 (refine D4 rfl hI9 rfl rfl (fun v10 G10 hle10 hh => ?_); obtain ⟨p10, c10, rfl, hp10⟩ := A3e hL hB hh; have h210 := h28.trans (hle9.trans hle10))
 refine J8 ?_
 refine H4 rfl (A2K l G10 p10 p2 c10 c2 (hp10.1.mono (B5.le _ _)) (hp2.1.mono h210)) rfl rfl ?_
 refine B6 ?_
 refine sQ (A0S rfl rfl rfl) rfl ?_
 refine H1 ?_
 refine H4 rfl (A4c l.length 1 G10 p4 c4 (hq8.mono (hle9.trans hle10)) (by omega) (by omega)) rfl rfl ?_
 refine A9 ?_
 refine sP (S5 rfl rfl (by omega)) rfl rfl ?_
 refine I9 ?_
 refine sP (X0 rfl rfl (by omega)) rfl rfl ?_
 refine J8 ?_
 exact ⟨rfl, rfl⟩
 refine A9 ?_
 refine sP (A1A rfl rfl (by omega)) rfl rfl ?_
 refine H0 ?_
 exact ⟨rfl, rfl⟩
end Gw
end Go.Proofs.YtebfignffjhnhaaGreatDoor
namespace Go.Proofs.YtebfignffjhnhaaGreatDoor
namespace Gw
inductive GT where
 | any | int | bool
 | fn (a b : GT)
 | pr (a b : GT)
inductive GE where
 | var (x : ByteArray)
 | num (n : Int)
 | tru (b : Bool)
 | lam (x : ByteArray) (A : GT) (e : GE)
 | app (f a : GE)
 | ar (s : Bool) (a b : GE)
 | ite (c a b : GE)
 | pair (a b : GE)
 | part (s : Bool) (e : GE)
 | cast (A B : GT) (l : Int) (e : GE)
def GT.gr : GT → GT
 | .any => .any
 | .int => .int
 | .bool => .bool
 | .fn _ _ => .fn .any .any
 | .pr _ _ => .pr .any .any
def GT.Gd (t : GT) : Prop := t ≠ .any ∧ t.gr = t
inductive Co : GT → GT → Prop
 | l {b} : Co .any b
 | r {a} : Co a .any
 | int : Co .int .int
 | bool : Co .bool .bool
 | fn {a b a' b'} : Co a a' → Co b b' → Co (.fn a b) (.fn a' b')
 | pr {a b a' b'} : Co a a' → Co b b' → Co (.pr a b) (.pr a' b')
inductive Le : GT → GT → Prop
 | any {a} : Le a .any
 | int : Le .int .int
 | bool : Le .bool .bool
 | fn {a b a' b'} : Le a a' → Le b b' → Le (.fn a b) (.fn a' b')
 | pr {a b a' b'} : Le a a' → Le b b' → Le (.pr a b) (.pr a' b')
def GE.sub : GE → ByteArray → GE → GE
 | .var y, x, v => if y = x then v else .var y
 | .num n, _, _ => .num n
 | .tru b, _, _ => .tru b
 | .lam y A e, x, v => if y = x then .lam y A e else .lam y A (e.sub x v)
 | .app f a, x, v => .app (f.sub x v) (a.sub x v)
 | .ar s a b, x, v => .ar s (a.sub x v) (b.sub x v)
 | .ite c a b, x, v => .ite (c.sub x v) (a.sub x v) (b.sub x v)
 | .pair a b, x, v => .pair (a.sub x v) (b.sub x v)
 | .part s e, x, v => .part s (e.sub x v)
 | .cast A B l e, x, v => .cast A B l (e.sub x v)
inductive GV : GE → Prop
 | num {n} : GV (.num n)
 | tru {b} : GV (.tru b)
 | lam {x A e} : GV (.lam x A e)
 | pair {a b} : GV a → GV b → GV (.pair a b)
 | pf {a b c d l e} : GV e → GV (.cast (.fn a b) (.fn c d) l e)
 | pp {a b c d l e} : GV e → GV (.cast (.pr a b) (.pr c d) l e)
 | inj {A l e} : GV e → A.Gd → GV (.cast A .any l e)
def B6g (s : Bool) (m n : Int) : GE := if s = true then .tru (decide (m < n)) else .num ((m + n) % 1000)
inductive GS : GE → GE → Prop
 | app1 {f f' a} : GS f f' → GS (.app f a) (.app f' a)
 | app2 {f a a'} : GV f → GS a a' → GS (.app f a) (.app f a')
 | ar1 {s a a' b} : GS a a' → GS (.ar s a b) (.ar s a' b)
 | ar2 {s a b b'} : GV a → GS b b' → GS (.ar s a b) (.ar s a b')
 | ite1 {c c' a b} : GS c c' → GS (.ite c a b) (.ite c' a b)
 | pair1 {a a' b} : GS a a' → GS (.pair a b) (.pair a' b)
 | pair2 {a b b'} : GV a → GS b b' → GS (.pair a b) (.pair a b')
 | part1 {s e e'} : GS e e' → GS (.part s e) (.part s e')
 | cast1 {A B l e e'} : GS e e' → GS (.cast A B l e) (.cast A B l e')
 | beta {x A b v} : GV v → GS (.app (.lam x A b) v) (b.sub x v)
 | appx {a b c d l f v} : GV f → GV v → GS (.app (.cast (.fn a b) (.fn c d) l f) v) (.cast b d l (.app f (.cast c a (-l) v)))
 | ar {s m n} : GS (.ar s (.num m) (.num n)) (B6g s m n)
 | ite {b x y} : GS (.ite (.tru b) x y) (if b = true then x else y)
 | part {s a b} : GV a → GV b → GS (.part s (.pair a b)) (if s = true then b else a)
 | partx {s a b c d l e} : GV e → GS (.part s (.cast (.pr a b) (.pr c d) l e)) (.cast (if s = true then b else a) (if s = true then d else c) l (.part s e))
 | cid {A l v} : GV v → (A = .any ∨ A = .int ∨ A = .bool) → GS (.cast A A l v) v
 | up {A l v} : GV v → A ≠ .any → A.gr ≠ A → GS (.cast A .any l v) (.cast A.gr .any l (.cast A A.gr l v))
 | down {B l v} : GV v → B ≠ .any → B.gr ≠ B → GS (.cast .any B l v) (.cast B.gr B l (.cast .any B.gr l v))
 | hit {G l m w} : GV w → G.Gd → GS (.cast .any G l (.cast G .any m w)) w
inductive Ss : GE → GE → Prop
 | refl {e} : Ss e e
 | step {a b c} : GS a b → Ss b c → Ss a c
abbrev GC := ByteArray → Option (GT × GT)
def emp : GC := fun _ => none
def gup (Γ : GC) (x : ByteArray) (A A' : GT) : GC := fun y => if x = y then some (A, A') else Γ y
inductive GP : GC → GE → GE → GT → GT → Prop
 | var {Γ x A A'} : Γ x = some (A, A') → Le A A' → GP Γ (.var x) (.var x) A A'
 | num {Γ n} : GP Γ (.num n) (.num n) .int .int
 | tru {Γ b} : GP Γ (.tru b) (.tru b) .bool .bool
 | lam {Γ x A A' B B' e e'} : Le A A' → GP (gup Γ x A A') e e' B B' → GP Γ (.lam x A e) (.lam x A' e') (.fn A B) (.fn A' B')
 | app {Γ f f' a a' A A' B B'} : GP Γ f f' (.fn A B) (.fn A' B') → GP Γ a a' A A' → GP Γ (.app f a) (.app f' a') B B'
 | ar {Γ s a a' b b'} : GP Γ a a' .int .int → GP Γ b b' .int .int → GP Γ (.ar s a b) (.ar s a' b') (if s = true then .bool else .int) (if s = true then .bool else .int)
 | ite {Γ c c' a a' b b' A A'} : GP Γ c c' .bool .bool → GP Γ a a' A A' → GP Γ b b' A A' → GP Γ (.ite c a b) (.ite c' a' b') A A'
 | pair {Γ a a' b b' A A' B B'} : GP Γ a a' A A' → GP Γ b b' B B' → GP Γ (.pair a b) (.pair a' b') (.pr A B) (.pr A' B')
 | part {Γ s e e' A A' B B'} : GP Γ e e' (.pr A B) (.pr A' B') → GP Γ (.part s e) (.part s e') (if s = true then B else A) (if s = true then B' else A')
 | castL {Γ e e' A B A' l} : GP Γ e e' A A' → Co A B → Le B A' → GP Γ (.cast A B l e) e' B A'
 | castR {Γ e e' A A' B' l} : GP Γ e e' A A' → Co A' B' → Le A B' → GP Γ e (.cast A' B' l e') A B'
 | castB {Γ e e' A B A' B' l l'} : GP Γ e e' A A' → Co A B → Co A' B' → Le B B' → GP Γ (.cast A B l e) (.cast A' B' l' e') B B'
inductive GX where
 | n (n : Int) | b (b : Bool) | p | f
def GE.tx : GE → GX
 | .num n => .n n
 | .tru b => .b b
 | .pair _ _ => .p
 | .cast _ (.fn _ _) _ _ => .f
 | .cast _ (.pr _ _) _ _ => .p
 | .cast _ _ _ e => e.tx
 | _ => .f
def GT.ty : GT → Ty
 | .any => .mk 1 []
 | .int => .mk 2 []
 | .bool => .mk 3 []
 | .fn a b => .mk 4 [a.ty, b.ty]
 | .pr a b => .mk 5 [a.ty, b.ty]
def GE.tm : GE → Tm
 | .var x => .mk 1 x 0 C1 C1 0 []
 | .num n => .mk 2 ⟨#[]⟩ n C1 C1 0 []
 | .tru b => .mk (if b = true then 3 else 4) ⟨#[]⟩ 0 C1 C1 0 []
 | .lam x A e => .mk 5 x 0 A.ty C1 0 [e.tm]
 | .app f a => .mk 6 ⟨#[]⟩ 0 C1 C1 0 [f.tm, a.tm]
 | .ar s a b => .mk (if s = true then 8 else 7) ⟨#[]⟩ 0 C1 C1 0 [a.tm, b.tm]
 | .ite c a b => .mk 9 ⟨#[]⟩ 0 C1 C1 0 [c.tm, a.tm, b.tm]
 | .pair a b => .mk 10 ⟨#[]⟩ 0 C1 C1 0 [a.tm, b.tm]
 | .part s e => .mk (if s = true then 12 else 11) ⟨#[]⟩ 0 C1 C1 0 [e.tm]
 | .cast A B l e => .mk 14 ⟨#[]⟩ 0 B.ty A.ty l [e.tm]
section
variable {k : Int} {nm : ByteArray} {num : Int} {ty fr : Ty} {lb : Int} {a b c : Tm} {t : Tm} {l : Int}
end
def Bd (e : GE) : Prop := J4 e.tm = false ∧ (J5 e.tm).2.1 = 2
mutual
def A6P : Ty → Ty → Bool
 | .mk k ks, t => decide (t.k = 1) || (decide (k = t.k) && B0V ks t.ks)
def B0V : List Ty → List Ty → Bool
 | [], [] => true
 | a :: xs, b :: ys => A6P a b && B0V xs ys
 | _, _ => false
end
mutual
def B0W : Tm → Tm → Bool
 | .mk k nm num ty _ _ ks, u => decide (k = u.k ∧ nm = u.nm ∧ num = u.num) && (decide (k ≠ 5 ∧ k ≠ 13) || A6P ty u.ty) && B0X ks u.ks
def B0X : List Tm → List Tm → Bool
 | [], [] => true
 | a :: xs, b :: ys => B0W a b && B0X xs ys
 | _, _ => false
end
def B6h (a b : Tm) : Bool := Q1 a && (Q1 b && B0W a b)
def A4Y : GT → GT → GT
 | .any, b => b
 | .fn a b, .fn c d => .fn (A4Y a c) (A4Y b d)
 | .pr a b, .pr c d => .pr (A4Y a c) (A4Y b d)
 | a, _ => a
def gmF : GT → Option (GT × GT)
 | .fn a b => some (a, b)
 | .any => some (.any, .any)
 | _ => none
def gmP : GT → Option (GT × GT)
 | .pr a b => some (a, b)
 | .any => some (.any, .any)
 | _ => none
def CxR (cx cx' : Cx) (Γ : GC) : Prop := ∀ x a, A0G cx x = some a → ∃ A A', a = A.ty ∧ A0G cx' x = some A'.ty ∧ Γ x = some (A, A') ∧ Le A A'
def B6F (A B : GT) (l : Int) (e : GE) : GE := if M2 A.ty B.ty = true then e else .cast A B l e
inductive GPL (Γ : GC) : List GE → List GE → List GT → List GT → Prop
 | nil : GPL Γ [] [] [] []
 | cons {e e' A A' es es' As As'} : GP Γ e e' A A' → GPL Γ es es' As As' → GPL Γ (e :: es) (e' :: es') (A :: As) (A' :: As')
abbrev ElR (Γ : GC) (u : Tm) (a : Ty) (r : Option (Tm × Ty × Int)) : Prop := ∃ e A e' A' l2, u = e.tm ∧ a = A.ty ∧ r = some (e'.tm, A'.ty, l2) ∧ GP Γ e e' A A'
section
variable {cx cx' : Cx} {Γ : GC} {es es' : List GE} {As As' : List GT} {l l' : Int} {u : Tm} {a : Ty} {l2 : Int} {nm : ByteArray} {num : Int}
end
def B6i (r s : ByteArray × Int × Int) : Int := if r.2.1 = 2 then 2 else if r.2.1 ≠ 0 ∨ s.2.1 = 4 ∨ s.2.1 = 5 then 3 else if s.2.1 = 0 ∧ r.1 = s.1 then 1 else 4
def B6G (a b : Tm) (fuel : Int) : Int := if (P8 a).isSome = true ∧ B6h a b = true ∧ O2 fuel 0 300 = true then B6i (S3 a fuel) (S3 b fuel) else 0
def gxT : GX → ByteArray
 | .n n => B0f n
 | .b b => if b = true then txT else txF
 | .p => A6w
 | .f => A6x
def PLe (l l' : List Ty) : Prop := ∀ i, A6P (l.getD i C1) (l'.getD i C1) = true
section masks
variable {P : Program} {Γ : K8} {env : L6} {hp : List A5} {G : IM} {ty : TypeId}
end masks
end Gw
end Go.Proofs.YtebfignffjhnhaaGreatDoor
