/-
  The reference's typing, exactly: types of terms. The reference's evaluator: ground types, values, casts, replacing a name. The reference's evaluator: steps of nodes whose operands are values. The reference's insertion of casts, exactly.
-/
import Derived.Test.YtebfignffjhnhaaGreatDoorKk6
import Derived.Test.YtebfignffjhnhaaGreatDoorKk4
import Derived.Test.YtebfignffjhnhaaGreatDoorKk5
set_option linter.unusedVariables false
set_option linter.unusedSimpArgs false
set_option maxHeartbeats 0
set_option maxRecDepth 100000
set_option synthInstance.maxSize 4000
set_option synthInstance.maxHeartbeats 0
namespace Go.Proofs.YtebfignffjhnhaaGreatDoor
open Go Go.RowKit
namespace Gw
section
variable {ak bk : Int} {aks bks : List Ty}
theorem B7l (h : ak ≠ bk) : N3 (.mk ak aks) (.mk bk bks) = false := by rw [A3B, decide_eq_false h]; rfl
theorem B7m (h : aks.length ≠ bks.length) : N3 (.mk ak aks) (.mk bk bks) = false := by
 rw [A3B]
 cases hl : A0k aks bks with
 | false => simp
 | true => exact absurd ((A4q _ _).1 hl).1 h
theorem B7n {i : Nat} (hi : i < aks.length) (hi' : i < bks.length) (h : N3 aks[i] bks[i] = false) : N3 (.mk ak aks) (.mk bk bks) = false := by
 rw [A3B]
 cases hl : A0k aks bks with
 | false => simp
 | true => have := ((A4q _ _).1 hl).2 i hi hi'; rw [h] at this; cases this
theorem B7o (hk : ak = bk) (hl : aks.length = bks.length) (h : ∀ i, (h : i < aks.length) → (h' : i < bks.length) → N3 aks[i] bks[i] = true) : N3 (.mk ak aks) (.mk bk bks) = true := by
 rw [A3B, decide_eq_true hk, (A4q _ _).2 ⟨hl, h⟩]; rfl
end
theorem B1K : ∀ (a b : Ty) (G : IM) (ca cb : List Value), C3 G a ca → C3 G b cb → Fn Tryz.prog 192 [.agg ⟨ca⟩, .agg ⟨cb⟩] [] G (J0 (.bool (N3 a b)) G) := by
 refine Ty.ind fun ak aks ih b G ca cb hra hrb => ?_
 obtain ⟨bk, bks⟩ := b
 obtain ⟨pa, cca, ea, rfl, hak, hsla, hkla⟩ := hra.open
 obtain ⟨pb, ccb, eb, rfl, hbk, hslb, hklb⟩ := hrb.open
 simp only [Ty.k, Ty.ks] at hak hsla hkla hbk hslb hklb ⊢
 have hna := hsla.le
 have hnb := hslb.le
 have e1 := @B7l ak bk aks bks
 have e2 := @B7m ak bk aks bks
 have e3 := fun i => @B7n ak bk aks bks i
 have e4 := @B7o ak bk aks bks
 generalize N3 (.mk ak aks) (.mk bk bks) = R at e1 e2 e3 e4 ⊢
 refine C6 Tryz.func192 rfl Tryz.ntmps192 Tryz.results192 rfl ?_
 intro w0
 refine A4 ?_
 refine sE (C9 rfl rfl) rfl (fun b3 => ?_)
 refine sE (C9 rfl rfl) rfl (fun b4 => ?_)
 refine J2 ?_
 refine sB (N2 rfl rfl) rfl rfl (fun h15 => ?_) (fun h15 => ?_)
 refine A0D ?_
 (exact ⟨rfl, by rw [e1 (by omega)], rfl⟩)
 refine B7 ?_
 refine sB (N2 rfl rfl) rfl rfl (fun h44 => ?_) (fun h44 => ?_)
 refine N4 ?_
 (exact ⟨rfl, by rw [e2 (by omega)], rfl⟩)
 refine N4 ?_
 refine C5 ?_
 (refine K2 (fun (i : Nat) => ⟨[(5, .int .i64 i), (2, .pointer (some ⟨b3, 0, none⟩)), (3, .pointer (some ⟨b4, 0, none⟩))], [.blk b4 [.int .i64 bk, .slice pb bks.length ccb], .blk b3 [.int .i64 ak, .slice pa aks.length cca]], G⟩) (fun i => i ≤ aks.length ∧ ∀ j, (h : j < aks.length) → (h' : j < bks.length) → j < i → N3 aks[j] bks[j] = true) (fun i => aks.length - i) 0 ?_ ?_ ?_)
 exact D6
 (exact ⟨Nat.zero_le _, fun j _ _ hj => absurd hj (Nat.not_lt_zero j)⟩)
 (rintro i ⟨hi, hall⟩)
 refine B7 ?_
 refine sB (J4 rfl rfl) rfl rfl (fun h82 => ?_) (fun h82 => ?_)
 refine A8 ?_
 refine C5 ?_
 refine tS ?_
 (obtain ⟨b, o, q0, d0, hp0, hat0, hre0, hg0⟩ := hsla.kidTy hkla (i := i) (by omega) (by omega); obtain ⟨b', o', q1, d1, hp1, hat1, hre1, hg1⟩ := hslb.kidTy hklb (i := i) (by omega) (by omega); subst hp0; subst hp1; have hih := ih aks[i] (List.getElem_mem (by omega)) bks[i] G _ _ hre0 hre1; refine D7 D8 rfl ?_)
 refine I6 (i := 0) (l' := [tt,ff,ff,ff,ff,ff,ff,ff,ff,ff,ff,ff]) rfl D2 (B8 rfl) rfl (by kernel_rfl) rfl rfl ?_
 refine aL 1 rfl (C7 rfl rfl) rfl ?_
 refine aP 2 rfl (qM rfl) rfl ?_
 refine aP 3 rfl (B5 rfl rfl rfl (by omega)) rfl ?_
 refine aL 4 rfl (A3 rfl rfl (hat0 _) rfl) rfl ?_
 refine aP 5 rfl (B8 rfl) rfl ?_
 refine aL 6 rfl (C7 rfl rfl) rfl ?_
 refine aP 7 rfl (qM rfl) rfl ?_
 refine aP 8 rfl (B5 rfl rfl rfl (by omega)) rfl ?_
 refine aL 9 rfl (A3 rfl rfl (hat1 _) rfl) rfl ?_
 refine A2 10 ?_
 refine V2 rfl rfl (hih) rfl rfl rfl (fun h103 => ?_) (fun h103 => ?_)
 refine aP 11 rfl (pNt rfl) rfl ?_
 refine D4 ?_
 refine sP (H9 rfl rfl (by omega) (by omega)) rfl rfl ?_
 refine A4 ?_
 refine I5 (i + 1) ?_ ?_ ?_
 exact D6
 (exact ⟨by omega, fun j h h' hj => by by_cases hji : j = i; (subst hji; assumption); exact hall j h h' (by omega)⟩)
 omega
 refine aP 11 rfl (pNf rfl) rfl ?_
 refine I7 ?_
 (exact ⟨rfl, by rw [e3 i (by omega) (by omega) (by assumption)], rfl⟩)
 refine I7 ?_
 (exact ⟨rfl, by rw [e4 (by omega) (by omega) (fun j h h' => hall j h h' (by omega))], rfl⟩)
theorem A7I {Q : Prop} (h : Q := by (exact ⟨rfl, _, _, rfl, U4.snoc (nm := nm) (t := .mk k ks) hx1 h2.len h2.all h2.one h3 hle5 ⟨_, _, rfl, hr.mono hle5⟩ hsl5⟩)) : Q := h
theorem B1L (G : IM) (cx : Cx) (p : Option Addr) (n c : Nat) (nm : ByteArray) (t : Ty) (cells : List Value) (hx : U4 G cx p n c) (hn : n ≤ 1000) (hr : C3 G t cells) :
  Fn Tryz.prog 141 [.slice p n c, .string nm, .agg ⟨cells⟩] [] G (K8 fun G' v => ∃ p' c', v = .slice p' (n + 1) c' ∧ U4 G' (cx ++ [(nm, t)]) p' (n + 1) c') := by
 obtain ⟨k, ks⟩ := t
 obtain ⟨q, d, es0, rfl, _⟩ := hr.open
 simp only [Ty.k, Ty.ks] at hr ⊢
 obtain ⟨hx1, es, h2, h3⟩ := id hx
 have hSl : Sl G p n c 3 es.flatten := h2.1
 have h1c : ∀ u ∈ es.flatten, u.oneCell' = true := by
  intro u hu
  obtain ⟨e, he, hue⟩ := List.mem_flatten.1 hu
  exact List.all_eq_true.1 (h2.one e he) u hue
 refine C6 Tryz.func141 rfl Tryz.ntmps141 Tryz.results141 rfl ?_
 intro w0
 refine A4 ?_
 refine sE (C9 rfl rfl) rfl (fun b3 => ?_)
 refine B4 ?_
 refine D7 D8 rfl ?_
 refine I6 (i := 1) (l' := [ff,tt,ff,ff,ff,ff,ff,ff,ff]) rfl D2 (qM rfl) rfl (by kernel_rfl) rfl rfl ?_
 refine aP 3 rfl (qM rfl) rfl ?_
 refine aL 4 rfl (A5 rfl rfl) rfl ?_
 refine aP 5 rfl (Y0 rfl rfl) rfl ?_
 refine Q3 (j := 0) (j' := 6) (by kernel_rfl) ?_ ?_
 (refine E2 rfl (D0 rfl rfl rfl (by omega) (by unfold maxLen; omega) rfl) rfl rfl ?_; rintro _ ⟨b14, rfl⟩)
 refine Q3 (j := 2) (j' := 6) (by kernel_rfl) ?_ ?_
 (refine A16 rfl rfl rfl rfl rfl rfl (fun _ _ => by repeat (first | exact Sw.here | apply Sw.there)) hSl h1c (Nat.zero_le _) (by unfold maxLen; omega) (by omega) rfl rfl (by repeat (first | exact A7.nil | apply A7.dep (by decide +kernel) | apply A7.blk (by decide +kernel) (by repeat (first | exact Pk.here | apply Pk.there)) (by repeat first | exact mH | apply mT))) (fun p4 c4 => ?_); simp only [Nat.zero_add, List.nil_append])
 refine A2 6 ?_
 (refine E2 rfl (D0 rfl rfl rfl (by omega) (by unfold maxLen; omega) rfl) rfl rfl ?_; rintro _ ⟨b18, rfl⟩)
 refine A2 7 ?_
 (refine P5 rfl rfl rfl rfl rfl rfl (fun _ _ => by repeat (first | exact Sw.here | apply Sw.there)) (M9 (by repeat first | exact mH | apply mT)) rfl (by simp [Value.oneCell']) (by unfold maxLen; omega) (by omega) rfl rfl (by repeat (first | exact A7.nil | apply A7.dep (by decide +kernel) | apply A7.blk (by decide +kernel) (by repeat (first | exact Pk.here | apply Pk.there)) (by repeat first | exact mH | apply mT))) (fun p5 c5 => ?_))
 refine aP 8 rfl (qA rfl) rfl ?_
 refine A4 ?_
 (refine H2 (cs := es.flatten ++ [.string nm, .int .i64 k, .slice q ks.length d]) (by repeat (first | exact Pk.here | apply Pk.there)) (fun G5 hle5 hsl5 hno5 => ?_))
 refine A4 ?_
 exact A7I
 (refine E2 rfl (D0 rfl rfl rfl (by omega) (by unfold maxLen; omega) rfl) rfl rfl ?_; rintro _ ⟨b28, rfl⟩)
 refine A2 2 ?_
 (refine A16 rfl rfl rfl rfl rfl rfl (fun _ _ => by repeat (first | exact Sw.here | apply Sw.there)) hSl h1c (Nat.zero_le _) (by unfold maxLen; omega) (by omega) rfl rfl (by repeat (first | exact A7.nil | apply A7.dep (by decide +kernel) | apply A7.blk (by decide +kernel) (by repeat (first | exact Pk.here | apply Pk.there)) (by repeat first | exact mH | apply mT))) (fun p4 c4 => ?_); simp only [Nat.zero_add, List.nil_append])
 refine A2 7 ?_
 (refine P5 rfl rfl rfl rfl rfl rfl (fun _ _ => by repeat (first | exact Sw.here | apply Sw.there)) (M9 (by repeat first | exact mH | apply mT)) rfl (by simp [Value.oneCell']) (by unfold maxLen; omega) (by omega) rfl rfl (by repeat (first | exact A7.nil | apply A7.dep (by decide +kernel) | apply A7.blk (by decide +kernel) (by repeat (first | exact Pk.here | apply Pk.there)) (by repeat first | exact mH | apply mT))) (fun p5 c5 => ?_))
 refine aP 8 rfl (qA rfl) rfl ?_
 refine A4 ?_
 (refine H2 (cs := es.flatten ++ [.string nm, .int .i64 k, .slice q ks.length d]) (by repeat (first | exact Pk.here | apply Pk.there)) (fun G5 hle5 hsl5 hno5 => ?_))
 refine A4 ?_
 exact A7I
 (refine E2 rfl (D0 rfl rfl rfl (by omega) (by unfold maxLen; omega) rfl) rfl rfl ?_; rintro _ ⟨b40, rfl⟩)
 refine A2 0 ?_
 (refine E2 rfl (D0 rfl rfl rfl (by omega) (by unfold maxLen; omega) rfl) rfl rfl ?_; rintro _ ⟨b42, rfl⟩)
 refine A2 2 ?_
 (refine A16 rfl rfl rfl rfl rfl rfl (fun _ _ => by repeat (first | exact Sw.here | apply Sw.there)) hSl h1c (Nat.zero_le _) (by unfold maxLen; omega) (by omega) rfl rfl (by repeat (first | exact A7.nil | apply A7.dep (by decide +kernel) | apply A7.blk (by decide +kernel) (by repeat (first | exact Pk.here | apply Pk.there)) (by repeat first | exact mH | apply mT))) (fun p4 c4 => ?_); simp only [Nat.zero_add, List.nil_append])
 refine A2 7 ?_
 (refine P5 rfl rfl rfl rfl rfl rfl (fun _ _ => by repeat (first | exact Sw.here | apply Sw.there)) (M9 (by repeat first | exact mH | apply mT)) rfl (by simp [Value.oneCell']) (by unfold maxLen; omega) (by omega) rfl rfl (by repeat (first | exact A7.nil | apply A7.dep (by decide +kernel) | apply A7.blk (by decide +kernel) (by repeat (first | exact Pk.here | apply Pk.there)) (by repeat first | exact mH | apply mT))) (fun p5 c5 => ?_))
 refine aP 8 rfl (qA rfl) rfl ?_
 refine A4 ?_
 (refine H2 (cs := es.flatten ++ [.string nm, .int .i64 k, .slice q ks.length d]) (by repeat (first | exact Pk.here | apply Pk.there)) (fun G5 hle5 hsl5 hno5 => ?_))
 refine A4 ?_
 exact A7I
theorem B1M {cx : Cx} : ∀ {ks : List Tm} {i : Nat} {us : List Ty} {u : Ty} (hi : i < ks.length), X4 cx (ks.take i) = some us → R3 cx ks[i] = some u → X4 cx (ks.take (i + 1)) = some (us ++ [u])
 | [], i, us, u, hi, _, _ => by simp at hi
 | t :: ts, 0, us, u, _, h1, h2 => by
  simp only [List.take_zero, X4, Option.some.injEq] at h1
  subst h1
  simp only [List.getElem_cons_zero] at h2
  simp [X4, h2]
 | t :: ts, i + 1, us, u, hi, h1, h2 => by
  simp only [List.take_succ_cons, X4] at h1 ⊢
  split at h1
  ·cases h1
  ·rename_i a ha
   split at h1
   ·cases h1
   ·rename_i bs has
    simp only [Option.some.injEq] at h1
    subst h1
    simp only [List.getElem_cons_succ] at h2
    have := B1M (ks := ts) (i := i) (by simpa using hi) has h2
    simp only [this, List.cons_append]
theorem B1N {cx : Cx} : ∀ {ks : List Tm} {i : Nat} (hi : i < ks.length), R3 cx ks[i] = none → X4 cx ks = none
 | [], i, hi, _ => by simp at hi
 | t :: ts, 0, _, h => by simp only [List.getElem_cons_zero] at h; rw [X4, h]
 | t :: ts, i + 1, hi, h => by
  simp only [List.getElem_cons_succ] at h
  have := B1N (ks := ts) (i := i) (by simpa using hi) h
  rw [X4, this]
  cases R3 cx t <;> rfl
section
variable {cx : Cx} {k : Int} {nm : ByteArray} {num : Int} {ty fr : Ty} {lb : Int} {ks : List Tm}
theorem B7p (hk : k = 1) (h0 : ks = []) : R3 cx (.mk k nm num ty fr lb ks) = Q1 cx nm := by
 subst hk h0
 rw [R3, X4]
 simp only [Y1, mW1]
 cases Q1 cx nm with
 | none => rfl
 | some t => simp
theorem B7q (hk : k = 2) (h0 : ks = []) : R3 cx (.mk k nm num ty fr lb ks) = some Q9 := by subst hk h0; rfl
theorem B7r (hk : k = 3 ∨ k = 4) (h0 : ks = []) : R3 cx (.mk k nm num ty fr lb ks) = some U9 := by subst h0; rcases hk with rfl | rfl <;> rfl
theorem B7s {b : Tm} (hk : k = 5) (h : R3 (cx ++ [(nm, ty)]) b = none) : R3 cx (.mk k nm num ty fr lb [b]) = none := by
 subst hk; rw [R3, K1, if_pos rfl, X4, h]
theorem B7t {b : Tm} {t : Ty} (hk : k = 5) (h : R3 (cx ++ [(nm, ty)]) b = some t) : R3 cx (.mk k nm num ty fr lb [b]) = if F4 (.mk 4 [ty, t]) = true then some (.mk 4 [ty, t]) else none := by
 subst hk
 rw [R3, K1, if_pos rfl, X4, h]
 simp only [X4, Y1, mW5, List.getD_cons_zero]
 cases F4 (.mk 4 [ty, t]) <;> simp
theorem B7u (hk : k ≠ 5) (h : X4 cx ks = none) : R3 cx (.mk k nm num ty fr lb ks) = none := by rw [R3, K1, if_neg hk, h]
theorem B7v {ts : List Ty} (hk : k ≠ 5) (h : X4 cx ks = some ts) : R3 cx (.mk k nm num ty fr lb ks) = Y1 cx k nm ty ts := by rw [R3, K1, if_neg hk, h]
end
theorem B1O {Q : Prop} (h : Q := by (rw [f3 (by omega)]; exact S8.yes rfl (A0w _) (X6 (by omega) (by omega)))) : Q := h
theorem A7J {Q : Prop} (h : Q := by (rw [f4 (by omega) (by omega) (by first | exact hE | assumption)]; exact S8.no rfl (P1 _ ⟨by omega, by omega⟩) (X6 (by omega) (by omega)))) : Q := h
theorem A7K {Q : Prop} (h : Q := by (rw [f5 _ (by omega) (by omega) (by first | exact hE | assumption)]; exact S8.mk rfl hmr2 (A9Y (.inl rfl) hta hma))) : Q := h
theorem B1P : ∀ (e : Tm) (d : Int) (cx : Cx) (G : IM) (p : Option Addr) (n c : Nat) (cells : List Value), N5 12 14 e d = true → (n : Int) ≤ d → cxV cx → U4 G cx p n c → B1 G e cells →
  Fn Tryz.prog 140 [.slice p n c, .agg ⟨cells⟩] [] G (S8 (R3 cx e) G) := by
 refine Tm.ind fun k nm num ty fr lb ks ih d cx G p n c cells hv hnd hcv hx hr => ?_
 have hr0 := hr
 have hone := hr.one
 obtain ⟨hv1, hv2, hv3, hv4⟩ := A0R hv
 have hvk := (A1A 12 14 ks _).1 hv4
 have har := (V8.1 hv3).1
 have hop := A3G har
 obtain ⟨hta, hts⟩ := A3H hv3
 have hkr : 1 ≤ k ∧ k ≤ 14 := A4Q (by rw [har]; omega)
 have hcv5 : k = 5 → cxV (cx ++ [(nm, ty)]) := fun hk => by have := A4G (k := k) (nm := nm) (ty := ty) hcv fun hk => (V8.1 hv3).2.2.2.2.2.1 (.inl hk); rwa [K1, if_pos hk] at this
 have h0 : k ≤ 4 → ks = [] := fun h => List.length_eq_zero_iff.1 (by
  have hk : k = 1 ∨ k = 2 ∨ k = 3 ∨ k = 4 := by omega
  rcases hk with rfl | rfl | rfl | rfl
  ·have : D9 1 = 0 := rfl; omega
  ·have : D9 2 = 0 := rfl; omega
  ·have : D9 3 = 0 := rfl; omega
  ·have : D9 4 = 0 := rfl; omega)
 have f1 := fun hk => @B7p cx k nm num ty fr lb ks hk (h0 (by omega))
 have f2 := fun hk => @B7q cx k nm num ty fr lb ks hk (h0 (by omega))
 have f3 := fun hk => @B7r cx k nm num ty fr lb ks hk (h0 (by omega))
 have f4 : ∀ (hk : k = 5) (hl : 0 < ks.length), R3 (cx ++ [(nm, ty)]) ks[0] = none → R3 cx (.mk k nm num ty fr lb ks) = none := fun hk hl h => by
  obtain ⟨b, rfl⟩ := Z6 (hop.2.2 (.inl hk)); exact B7s hk h
 have f5 : ∀ (t : Ty) (hk : k = 5) (hl : 0 < ks.length), R3 (cx ++ [(nm, ty)]) ks[0] = some t → R3 cx (.mk k nm num ty fr lb ks) = if F4 (.mk 4 [ty, t]) = true then some (.mk 4 [ty, t]) else none := fun t hk hl h => by
  obtain ⟨b, rfl⟩ := Z6 (hop.2.2 (.inl hk)); exact B7t hk h
 have f6 := @B7u cx k nm num ty fr lb ks
 have f7 := fun ts => @B7v cx k nm num ty fr lb ks ts
 generalize R3 cx (.mk k nm num ty fr lb ks) = R at f1 f2 f3 f4 f5 f6 f7 ⊢
 obtain ⟨tk, tks⟩ := ty
 obtain ⟨fk, fks⟩ := fr
 obtain ⟨pt, ct, pf, cf, q, cq, es, rfl, hk, hnum, hlb, hty, hfr, hsl, hkl⟩ := hr.open9
 have hlen : ks.length ≤ 3 := by have := A1B k; omega
 refine C6 Tryz.func140 rfl Tryz.ntmps140 Tryz.results140 rfl ?_
 intro w0
 refine A4 ?_
 refine sE (C9 rfl rfl) rfl (fun b3 => ?_)
 refine sE (A9 rfl) rfl (fun b4 => ?_)
 refine J2 ?_
 refine C5 (tS (tR (sB (qE rfl rfl) rfl rfl (fun h18 => ?_) (fun h18 => ?_))))
 refine E1 ?_
 (refine E6 rfl (B7e G cx hcv p n c nm hx) rfl rfl (fun v G1 hle1 hh => ?_); obtain ⟨mt, mc, rfl, hmr, hma, hmu⟩ := hh; obtain ⟨p1, c1, e1, rfl, _⟩ := hmr.open)
 refine E1 ?_
 refine H5 (rC rfl (A5 rfl rfl)) (rT rfl) ?_
 (rw [f1 (by omega)]; exact ⟨rfl, _, _, rfl, hmr, hma, hmu⟩)
 refine A8 ?_
 refine sB (qE rfl rfl) rfl rfl (fun h46 => ?_) (fun h46 => ?_)
 refine A8 ?_
 refine H6 rfl ((A0H _)) rfl rfl ?_
 refine B7 ?_
 refine H5 (rC rfl (A5 rfl rfl)) (rT rfl) ?_
 (rw [f2 (by omega)]; exact S8.yes rfl (K9 _) (X6 (by omega) (by omega)))
 refine B7 ?_
 refine sB (qE rfl rfl) rfl rfl (fun h70 => ?_) (fun h70 => ?_)
 refine E1 ?_
 refine H6 rfl ((A3E _)) rfl rfl ?_
 refine B7 ?_
 refine H5 (rC rfl (A5 rfl rfl)) (rT rfl) ?_
 exact B1O
 refine B0 ?_
 refine sB (qE rfl rfl) rfl rfl (fun h95 => ?_) (fun h95 => ?_)
 refine A8 ?_
 refine H6 rfl ((A3E _)) rfl rfl ?_
 refine B7 ?_
 refine H5 (rC rfl (A5 rfl rfl)) (rT rfl) ?_
 exact B1O
 refine A8 ?_
 refine sB (qE rfl rfl) rfl rfl (fun h118 => ?_) (fun h118 => ?_)
 refine B0 ?_
 (have hl1 : ks.length = 1 := hop.2.2 (by omega); obtain ⟨b, o, e, rfl, hl, hat, hre, hgb⟩ := hsl.kidTm hkl (i := 0) (by omega) (by omega); have hMore := B1L G cx p n c nm (.mk tk tks) _ hx (by omega) hty; refine D7 D8 rfl ?_)
 refine I6 (i := 0) (l' := [tt,ff,ff,ff,ff,ff,ff,ff,ff,ff,ff,ff,ff,ff,ff,ff,ff]) rfl D2 (qM rfl) rfl (by kernel_rfl) rfl rfl ?_
 refine aP 1 rfl (B8 rfl) rfl ?_
 refine aL 2 rfl (C7 rfl rfl) rfl ?_
 refine aP 3 rfl (B8 rfl) rfl ?_
 refine aL 4 rfl (A5 rfl rfl) rfl ?_
 refine aP 6 rfl (B8 rfl) rfl ?_
 refine aL 7 rfl (C7 rfl rfl) rfl ?_
 refine aP 8 rfl (B5 (j := 0) rfl rfl rfl (by omega)) rfl ?_
 refine aL 9 rfl (A3 rfl rfl (hat _) hl) rfl ?_
 refine Q3 (j := 5) (j' := 14) (by kernel_rfl) ?_ ?_
 (refine H3 rfl rfl hMore rfl rfl rfl (fun v G1 hle1 hh => ?_); obtain ⟨pm, cm, rfl, hxm⟩ := hh; have hreM := hre.mono hle1; have hLam := ih ks[0] (List.getElem_mem (by omega)) (d + 1) _ G1 pm (n + 1) cm _ (hvk 0 (by omega)) (by omega) (hcv5 (by omega)) hxm hreM; have htyM := hty.mono hle1)
 refine Q3 (j := 10) (j' := 14) (by kernel_rfl) ?_ ?_
 focus (refine H3 rfl rfl hLam rfl rfl rfl (fun v G2 hle2 hh => ?_); obtain ⟨mt, mc, rfl, hmr, hma, hmu⟩ := hh; obtain ⟨p1, c1, e1, rfl, _⟩ := hmr.open; have htyN := htyM.mono hle2; rcases hE : R3 (cx ++ [(nm, Ty.mk tk tks)]) ks[0] with _ | mt2; rotate_left; obtain rfl := hmu _ hE; rotate_left; all_goals simp only [Option.isSome])
 refine aP 11 rfl (qM rfl) rfl ?_
 refine aP 12 rfl (pX rfl rfl) rfl ?_
 refine aP 13 rfl (pX rfl rfl) rfl ?_
 refine A2 14 ?_
 (refine E2 rfl (A9 rfl) rfl rfl ?_; rintro _ ⟨b142, rfl⟩)
 refine A2 15 ?_
 refine H8 rfl ?_
 refine aP 16 rfl (qA rfl) rfl ?_
 refine A0E ?_
 refine H5 (rC rfl (A5 rfl rfl)) (rT rfl) ?_
 exact A7J
 refine aP 11 rfl (qM rfl) rfl ?_
 refine aP 12 rfl (pX rfl rfl) rfl ?_
 refine aP 13 rfl (pX rfl rfl) rfl ?_
 refine A2 14 ?_
 (refine E2 rfl (A9 rfl) rfl rfl ?_; rintro _ ⟨b173, rfl⟩)
 refine A2 15 ?_
 refine H8 rfl ?_
 refine aP 16 rfl (qA rfl) rfl ?_
 refine S4 ?_
 (refine E6 rfl (A3i 4 (.mk tk tks) _ _ _ _ (.inl rfl) hta hma htyN hmr) rfl rfl (fun v G3 hle3 hh => ?_); obtain ⟨mc2, rfl, hmr2⟩ := hh; obtain ⟨p2, c2, e2, rfl, _⟩ := hmr2.open)
 refine E1 ?_
 refine H5 (rC rfl (A5 rfl rfl)) (rT rfl) ?_
 exact A7K
 (refine E2 rfl (A9 rfl) rfl rfl ?_; rintro _ ⟨b206, rfl⟩)
 refine A2 10 ?_
 focus (refine H3 rfl rfl hLam rfl rfl rfl (fun v G2 hle2 hh => ?_); obtain ⟨mt, mc, rfl, hmr, hma, hmu⟩ := hh; obtain ⟨p1, c1, e1, rfl, _⟩ := hmr.open; have htyN := htyM.mono hle2; rcases hE : R3 (cx ++ [(nm, Ty.mk tk tks)]) ks[0] with _ | mt2; rotate_left; obtain rfl := hmu _ hE; rotate_left; all_goals simp only [Option.isSome])
 refine aP 11 rfl (qM rfl) rfl ?_
 refine aP 12 rfl (pX rfl rfl) rfl ?_
 refine aP 13 rfl (pX rfl rfl) rfl ?_
 refine A2 15 ?_
 refine H8 rfl ?_
 refine aP 16 rfl (qA rfl) rfl ?_
 refine A0E ?_
 refine H5 (rC rfl (A5 rfl rfl)) (rT rfl) ?_
 exact A7J
 refine aP 11 rfl (qM rfl) rfl ?_
 refine aP 12 rfl (pX rfl rfl) rfl ?_
 refine aP 13 rfl (pX rfl rfl) rfl ?_
 refine A2 15 ?_
 refine H8 rfl ?_
 refine aP 16 rfl (qA rfl) rfl ?_
 refine S4 ?_
 (refine E6 rfl (A3i 4 (.mk tk tks) _ _ _ _ (.inl rfl) hta hma htyN hmr) rfl rfl (fun v G3 hle3 hh => ?_); obtain ⟨mc2, rfl, hmr2⟩ := hh; obtain ⟨p2, c2, e2, rfl, _⟩ := hmr2.open)
 refine E1 ?_
 refine H5 (rC rfl (A5 rfl rfl)) (rT rfl) ?_
 exact A7K
 (refine E2 rfl (A9 rfl) rfl rfl ?_; rintro _ ⟨b273, rfl⟩)
 refine A2 5 ?_
 (refine H3 rfl rfl hMore rfl rfl rfl (fun v G1 hle1 hh => ?_); obtain ⟨pm, cm, rfl, hxm⟩ := hh; have hreM := hre.mono hle1; have hLam := ih ks[0] (List.getElem_mem (by omega)) (d + 1) _ G1 pm (n + 1) cm _ (hvk 0 (by omega)) (by omega) (hcv5 (by omega)) hxm hreM; have htyM := hty.mono hle1)
 refine A2 10 ?_
 focus (refine H3 rfl rfl hLam rfl rfl rfl (fun v G2 hle2 hh => ?_); obtain ⟨mt, mc, rfl, hmr, hma, hmu⟩ := hh; obtain ⟨p1, c1, e1, rfl, _⟩ := hmr.open; have htyN := htyM.mono hle2; rcases hE : R3 (cx ++ [(nm, Ty.mk tk tks)]) ks[0] with _ | mt2; rotate_left; obtain rfl := hmu _ hE; rotate_left; all_goals simp only [Option.isSome])
 refine aP 11 rfl (qM rfl) rfl ?_
 refine aP 12 rfl (pX rfl rfl) rfl ?_
 refine aP 13 rfl (pX rfl rfl) rfl ?_
 refine A2 15 ?_
 refine H8 rfl ?_
 refine aP 16 rfl (qA rfl) rfl ?_
 refine A0E ?_
 refine H5 (rC rfl (A5 rfl rfl)) (rT rfl) ?_
 exact A7J
 refine aP 11 rfl (qM rfl) rfl ?_
 refine aP 12 rfl (pX rfl rfl) rfl ?_
 refine aP 13 rfl (pX rfl rfl) rfl ?_
 refine A2 15 ?_
 refine H8 rfl ?_
 refine aP 16 rfl (qA rfl) rfl ?_
 refine S4 ?_
 (refine E6 rfl (A3i 4 (.mk tk tks) _ _ _ _ (.inl rfl) hta hma htyN hmr) rfl rfl (fun v G3 hle3 hh => ?_); obtain ⟨mc2, rfl, hmr2⟩ := hh; obtain ⟨p2, c2, e2, rfl, _⟩ := hmr2.open)
 refine E1 ?_
 refine H5 (rC rfl (A5 rfl rfl)) (rT rfl) ?_
 exact A7K
 refine E1 ?_
 (refine I3 (D0 rfl rfl rfl (by omega) (by unfold maxLen; omega) rfl) rfl ?_; rintro _ ⟨b351, rfl⟩)
 refine E1 ?_
 refine C5 ?_
 (refine K2 (fun (x : Nat × Option Addr × Nat × List Ty × List (List Value) × IM) => ⟨[(9, .int .i64 x.1), (8, .slice x.2.1 x.1 x.2.2.1), (3, .pointer (some ⟨b3, 0, none⟩)), (4, .pointer (some ⟨b4, 0, none⟩)), (0, .slice p n c)], [.slc x.2.1 x.2.2.1 34 2 x.1 x.2.2.2.2.1.flatten, .blk b4 [.int .i64 0, .slice none 0 0], .blk b3 [.int .i64 k, .string nm, .int .i64 num, .int .i64 tk, .slice pt tks.length ct, .int .i64 fk, .slice pf fks.length cf, .int .i64 lb, .slice q ks.length cq]], x.2.2.2.2.2⟩) (fun x => x.1 ≤ ks.length ∧ C4 G x.2.2.2.2.2 ∧ x.2.2.2.1.length = x.1 ∧ D5 x.2.2.2.2.2 x.2.2.2.1 x.2.2.2.2.1 ∧ (∀ u ∈ x.2.2.2.1, F9 u) ∧ X4 cx (ks.take x.1) = some x.2.2.2.1) (fun x => ks.length - x.1) (0, some ⟨b351, 0, none⟩, 0, [], [], G) ?_ ?_ ?_)
 (simp only [I1]; exact D6)
 (exact ⟨by simp, C4.refl _, rfl, by simp [D5], by simp, by simp [X4]⟩)
 (rintro ⟨i, pn, cn, us, es', Gi⟩ ⟨hi, hle, hlu, hst, hau, hsu⟩; simp only [] at hi hle hlu hst hau hsu ⊢; replace hsl := hsl.mono hle; replace hkl := hkl.mono hle; replace hx := hx.mono hle; replace hr0 := hr0.mono hle)
 refine B7 ?_
 refine sB (J4 rfl rfl) rfl rfl (fun h373 => ?_) (fun h373 => ?_)
 refine A8 ?_
 refine C5 ?_
 refine A8 ?_
 (obtain ⟨b, o, e, rfl, hl, hat, hre, hgb⟩ := hsl.kidTm hkl (i := i) (by omega) (by omega); refine sP (B5 rfl rfl rfl (by omega)) rfl rfl ?_)
 refine sL (A3 rfl rfl (hat _) hl) rfl rfl ?_
 focus (refine E6 rfl (ih ks[i] (List.getElem_mem (by omega)) (d + 1) cx Gi p n c _ (hvk i (by omega)) (by omega) hcv hx hre) rfl rfl (fun v G2 hle2 hh => ?_); obtain ⟨u, uc, rfl, hru, hua, huu⟩ := hh; obtain ⟨p3, c3, e3, rfl, _⟩ := hru.open; rcases hE : R3 cx ks[i] with _ | u2; rotate_left; obtain rfl := huu _ hE; rotate_left; all_goals simp only [Option.isSome])
 refine B9 ?_
 refine sE (A9 rfl) rfl (fun b393 => ?_)
 refine A4d ?_
 refine H5 (rC rfl (A5 rfl rfl)) (rT rfl) ?_
 (rw [f6 (by omega) (B1N (by omega) hE)]; exact S8.no rfl (P1 _ ⟨by omega, by omega⟩) (X6 (by omega) (by omega)))
 refine B9 ?_
 refine sE (A9 rfl) rfl (fun b425 => ?_)
 refine S4 ?_
 (refine I3 (D0 rfl rfl rfl (by omega) (by unfold maxLen; omega) rfl) rfl ?_; rintro _ ⟨b443, rfl⟩)
 refine A0Z rfl rfl rfl rfl rfl (fun _ _ => by repeat (first | exact Sw.here | apply Sw.there)) (M9 (by repeat first | exact mH | apply mT)) rfl (by simp [Value.oneCell']) (by unfold maxLen; omega) (by omega) rfl (fun pn' cn' => ?_)
 refine A8 ?_
 refine sP (H9 rfl rfl (by omega) (by omega)) rfl rfl ?_
 refine A4 ?_
 refine I5 (i + 1, pn', cn', us ++ [u2], es' ++ [[.int .i64 u2.k, .slice p3 u2.ks.length c3]], G2) ?_ ?_ ?_
 (simp only [I1]; exact D6)
 (dsimp only; exact ⟨by omega, hle.trans hle2, by simp [hlu], D5.snoc (hst.mono hle2) hru, A3F hau hua, B1M (by omega) hsu hE⟩)
 exact V5
 refine N4 ?_
 (obtain rfl : i = ks.length := (by omega); rw [List.take_length] at hsu; refine U6 (cs := es'.flatten) (by repeat (first | exact Pk.here | apply Pk.there)) (fun G3 hle3 hsl3 hno3 => ?_); have hst3 := hst.mono hle3; have hRes := B7k cx k nm num (.mk tk tks) (.mk fk fks) lb ks us G3 _ pn cn es' (by rw [hlu]; exact har) (by omega) hta (hr0.mono hle3) (by rw [hlu]; exact E3.of hsl3 (by rw [hst3.len, hlu]) hst3.all (fun e he => (hst3.each e he).2)) hst3 hau; rw [hlu] at hRes; refine E6 rfl hRes rfl rfl (fun v G4 hle4 hh => ?_); obtain ⟨mt, mc, rfl, hmr, hma, hmu⟩ := hh; obtain ⟨p1, c1, e1, rfl, _⟩ := hmr.open)
 refine B7 ?_
 refine H5 (rC rfl (A5 rfl rfl)) (rT rfl) ?_
 (rw [f7 us (by omega) hsu]; exact ⟨rfl, _, _, rfl, hmr, hma, hmu⟩)
theorem B7w {t : Ty} (ha : F9 t) : T8 t = .mk t.k (List.replicate t.ks.length R4) := by
 obtain ⟨k, ks⟩ := t
 rw [F9] at ha
 show (if k = 4 ∨ k = 5 then Ty.mk k [R4, R4] else .mk k []) = _
 show _ = Ty.mk k (List.replicate ks.length R4)
 split
 ·rename_i h; rw [ha.1 h]; rfl
 ·rename_i h
  rw [ha.2.1 (fun e => h (.inl e)) (fun e => h (.inr e))]; rfl
theorem A7L (t : Ty) (G : IM) (cells : List Value) (ha : F9 t) (hr : C3 G t cells) : Fn Tryz.prog 212 [.agg ⟨cells⟩] [] G (A68 (T8 t) G) := by
 rw [B7w ha]
 obtain ⟨tk, tks⟩ := t
 have hsm := ha.small
 rw [Ty.small] at hsm
 obtain ⟨hsm1, _⟩ := hsm
 obtain ⟨p, c, es, rfl, hk, hsl, hkl⟩ := hr.open
 simp only [Ty.k, Ty.ks] at hk hsl hkl ⊢
 have hn := hsl.le
 refine C6 Tryz.func212 rfl Tryz.ntmps212 Tryz.results212 rfl ?_
 intro w0
 refine A4 ?_
 refine sE (C9 rfl rfl) rfl (fun b3 => ?_)
 refine sE (A9 rfl) rfl (fun b4 => ?_)
 refine B7 ?_
 refine sE (A9 rfl) rfl (fun b12 => ?_)
 refine E1 ?_
 refine C5 ?_
 (refine V0 34 2 ?_; refine K2 (fun (x : Nat × Option Addr × Nat × List (List Value)) => ⟨[(4, .int .i64 x.1), (3, .pointer (some ⟨b12, 0, none⟩)), (1, .pointer (some ⟨b3, 0, none⟩)), (2, .pointer (some ⟨b4, 0, none⟩))], [.blk b12 [.int .i64 tk, .slice x.2.1 x.1 x.2.2.1], .slc x.2.1 x.2.2.1 34 2 x.1 x.2.2.2.flatten, .blk b4 [.int .i64 0, .slice none 0 0], .blk b3 [.int .i64 tk, .slice p tks.length c]], G⟩) (fun x => x.1 ≤ tks.length ∧ D5 G (List.replicate x.1 R4) x.2.2.2) (fun x => tks.length - x.1) (0, none, 0, []) ?_ ?_ ?_)
 (simp only [I1]; exact D6)
 (exact ⟨Nat.zero_le _, rfl⟩)
 (rintro ⟨i, pn, cn, es'⟩ ⟨hi, hst⟩; simp only [] at hi hst ⊢; have hsl' := hst.len; rw [List.length_replicate] at hsl')
 refine B7 ?_
 refine sB (J4 rfl rfl) rfl rfl (fun h34 => ?_) (fun h34 => ?_)
 refine A8 ?_
 refine C5 ?_
 refine D7 D8 rfl ?_
 refine I6 (i := 0) (l' := [tt,ff,ff,ff,ff,ff,ff]) rfl D2 (B8 rfl) rfl (by kernel_rfl) rfl rfl ?_
 refine aL 1 rfl (C7 rfl rfl) rfl ?_
 refine A2 2 ?_
 refine N6 rfl rfl ((A17 _)) rfl rfl rfl ?_
 refine A2 3 ?_
 (refine E2 rfl (D0 rfl rfl rfl (by omega) (by unfold maxLen; omega) rfl) rfl rfl ?_; rintro _ ⟨b48, rfl⟩)
 refine A2 4 ?_
 refine P5 rfl rfl rfl rfl rfl rfl (fun _ _ => by repeat (first | exact Sw.here | apply Sw.there)) (M9 (by repeat first | exact mH | apply mT)) rfl (by simp [Value.oneCell']) (by unfold maxLen; omega) (by omega) rfl rfl (by repeat (first | exact A7.nil | apply A7.dep (by decide +kernel) | apply A7.im (by decide +kernel) (by assumption) (by repeat first | exact mH | apply mT) | apply A7.blk (by decide +kernel) (by repeat (first | exact Pk.here | apply Pk.there)) (by repeat first | exact mH | apply mT) | apply A7.slc (by decide +kernel) (by repeat (first | exact Pk.here | apply Pk.there)) (by repeat first | exact mH | apply mT))) (fun pn' cn' => ?_)
 refine aP 5 rfl (B8 rfl) rfl ?_
 refine A2 6 ?_
 refine Q8 rfl rfl rfl rfl rfl rfl rfl rfl (by decide +kernel) (by repeat first | exact Sw.here | apply Sw.there) (by rfl) ?_
 refine B0 ?_
 refine sP (H9 rfl rfl (by omega) (by omega)) rfl rfl ?_
 refine A4 ?_
 refine I5 (i + 1, pn', cn', es' ++ [[.int .i64 1, .slice none 0 0]]) ?_ ?_ ?_
 (simp only [I1]; exact D6)
 (dsimp only; exact ⟨by omega, by rw [List.replicate_succ']; exact D5.snoc hst (A0Q _)⟩)
 (show tks.length - (i + 1) < tks.length - i; omega)
 refine J5 ?_
 (refine H2 (cs := es'.flatten) (by repeat (first | exact Pk.here | apply Pk.there)) (fun G2 hle2 hsl2 hno2 => ?_); obtain rfl : i = tks.length := (by omega))
 refine tT ?_
 refine N9 (rC rfl (A5 rfl rfl)) ?_
 (exact ⟨rfl, _, rfl, (hst.mono hle2).ty (by simp) hsl2 hk⟩)
theorem B1Q (t : Ty) (G : IM) (cells : List Value) (ha : F9 t) (hr : C3 G t cells) : Fn Tryz.prog 171 [.agg ⟨cells⟩] [] G (J0 (.bool (R9 t)) G) := by
 refine Fn.forget (post := K8 fun _ v => v = .bool (R9 t)) ?_ (fun _ _ _ h => h.2)
 have hr0 := hr
 have hG := A7L t G cells ha hr
 obtain ⟨tk, tks⟩ := t
 obtain ⟨p, c, es, rfl, hk, _⟩ := hr.open
 simp only [Ty.k, Ty.ks] at hk hr0 hG ⊢
 have hd : R9 (.mk tk tks) = (decide (tk ≠ 1) && N3 (.mk tk tks) (T8 (.mk tk tks))) := rfl
 rw [hd]
 generalize T8 (.mk tk tks) = g at hG ⊢
 refine C6 Tryz.func171 rfl Tryz.ntmps171 Tryz.results171 rfl ?_
 intro w0
 refine A4 ?_
 refine sE (C9 rfl rfl) rfl (fun b3 => ?_)
 refine B4 ?_
 refine D7 D8 rfl ?_
 refine I6 (i := 0) (l' := [tt,ff,ff,ff,ff,ff,ff,ff,ff,ff]) rfl D2 (B8 rfl) rfl (by kernel_rfl) rfl rfl ?_
 refine aL 1 rfl (C7 rfl rfl) rfl ?_
 refine A0q (i := 2) (l' := [tt,tt,tt,ff,ff,ff,ff,ff,ff,ff]) rfl D2 (N2 rfl rfl) rfl (by kernel_rfl) rfl rfl (fun h11 => ?_) (fun h11 => ?_)
 refine aP 3 rfl (qM rfl) rfl ?_
 refine aL 4 rfl (A5 rfl rfl) rfl ?_
 refine aL 5 rfl (A5 rfl rfl) rfl ?_
 refine A2 6 ?_
 (refine H3 rfl rfl hG rfl rfl rfl (fun v G1 hle1 hh => ?_); obtain ⟨cg, rfl, hrg⟩ := hh; have hT := B1K (.mk tk tks) g G1 _ _ (hr0.mono hle1) hrg; obtain ⟨pg, cgg, eg, rfl, _⟩ := hrg.open)
 refine A2 7 ?_
 refine N6 rfl rfl (hT) rfl rfl rfl ?_
 refine aP 8 rfl (N1 rfl rfl) rfl ?_
 refine aP 9 rfl (qA rfl) rfl ?_
 refine B4 ?_
 (refine ⟨rfl, ?_⟩; show Value.bool _ = Value.bool _; rw [decide_eq_true (by omega), Bool.true_and])
 refine aP 3 rfl (qM rfl) rfl ?_
 refine C1 4 rfl rfl rfl ?_
 refine C1 5 rfl rfl rfl ?_
 refine C1 6 rfl rfl rfl ?_
 refine C1 7 rfl rfl rfl ?_
 refine aP 8 rfl (P0 rfl rfl) rfl ?_
 refine aP 9 rfl (qA rfl) rfl ?_
 refine B4 ?_
 (refine ⟨rfl, ?_⟩; show Value.bool _ = Value.bool _; rw [decide_eq_false (by omega), Bool.false_and])
theorem A50 (t : Tm) (G : IM) (cells : List Value) (hr : B1 G t cells) : Fn Tryz.prog 130 [.agg ⟨cells⟩] [] G (J0 (.bool (P6 t)) G) := by
 obtain ⟨k, nm, num, ⟨tk, tks⟩, ⟨fk, fks⟩, lb, ks⟩ := t
 obtain ⟨pt, ct, pf, cf, p, c, es, rfl, hk, hnum, hlb, hty, hfr, hsl, hkl⟩ := hr.open9
 have hd : P6 (.mk k nm num (.mk tk tks) (.mk fk fks) lb ks) = decide (k = 14 ∧ fk = tk ∧ (tk = 4 ∨ tk = 5)) := rfl
 rw [hd]
 refine C6 Tryz.func130 rfl Tryz.ntmps130 Tryz.results130 rfl ?_
 intro w0
 refine A4 ?_
 refine sE (C9 rfl rfl) rfl (fun b3 => ?_)
 refine B7 ?_
 refine sB (qE rfl rfl) rfl rfl (fun h11 => ?_) (fun h11 => ?_)
 refine B7 ?_
 refine sB (qE rfl rfl) rfl rfl (fun h19 => ?_) (fun h19 => ?_)
 refine B0 ?_
 refine sB (qE rfl rfl) rfl rfl (fun h25 => ?_) (fun h25 => ?_)
 refine N4 ?_
 exact A2x
 refine B4 ?_
 refine sB (qE rfl rfl) rfl rfl (fun h43 => ?_) (fun h43 => ?_)
 refine B7 ?_
 exact A2x
 refine B7 ?_
 exact A3b
 refine V1 ?_
 exact A3b
 refine A4d ?_
 exact A3b
theorem A7M (t : Tm) (G : IM) (cells : List Value) (ha : F9 t.fr) (hr : B1 G t cells) : Fn Tryz.prog 131 [.agg ⟨cells⟩] [] G (J0 (.bool (inj t)) G) := by
 obtain ⟨k, nm, num, ⟨tk, tks⟩, ⟨fk, fks⟩, lb, ks⟩ := t
 obtain ⟨pt, ct, pf, cf, p, c, es, rfl, hk, hnum, hlb, hty, hfr, hsl, hkl⟩ := hr.open9
 have hd : inj (.mk k nm num (.mk tk tks) (.mk fk fks) lb ks) = (decide (k = 14 ∧ tk = 1) && R9 (.mk fk fks)) := rfl
 rw [hd]
 have hG := B1Q (.mk fk fks) G _ ha hfr
 refine C6 Tryz.func131 rfl Tryz.ntmps131 Tryz.results131 rfl ?_
 intro w0
 refine A4 ?_
 refine sE (C9 rfl rfl) rfl (fun b3 => ?_)
 refine B7 ?_
 refine sB (qE rfl rfl) rfl rfl (fun h11 => ?_) (fun h11 => ?_)
 refine B4 ?_
 refine sB (qE rfl rfl) rfl rfl (fun h16 => ?_) (fun h16 => ?_)
 refine B4 ?_
 refine H6 rfl (hG) rfl rfl ?_
 refine A8 ?_
 (exact ⟨rfl, by rw [decide_eq_true (by omega), Bool.true_and], rfl⟩)
 refine J8 ?_
 exact A5M
 refine K0 ?_
 exact A5M
section
variable {k : Int} {nm : ByteArray} {num : Int} {ty fr : Ty} {lb : Int} {ks : List Tm}
theorem B7x (h : k = 2 ∨ k = 3 ∨ k = 4 ∨ k = 5) : E4 (.mk k nm num ty fr lb ks) = true := by
 rw [E4, if_neg (by omega)]; exact decide_eq_true h
theorem B7y (h : k = 10) (hl : ks.length = 2) : E4 (.mk k nm num ty fr lb ks) = (E4 (ks[0]'(by omega)) && E4 (ks[1]'(by omega))) := by
 rw [A3R (.inl h)]
 obtain ⟨a, b, rfl⟩ := ks2 hl
 simp
theorem B1R (h : P6 (.mk k nm num ty fr lb ks) = true ∨ inj (.mk k nm num ty fr lb ks) = true) (hl : ks.length = 1) : E4 (.mk k nm num ty fr lb ks) = E4 (ks[0]'(by omega)) := by
 rw [A3R (.inr h)]
 obtain ⟨a, rfl⟩ := Z6 hl
 simp
theorem B7z (h : ¬(k = 2 ∨ k = 3 ∨ k = 4 ∨ k = 5)) (h10 : k ≠ 10) (h2 : P6 (.mk k nm num ty fr lb ks) = false) (h3 : inj (.mk k nm num ty fr lb ks) = false) : E4 (.mk k nm num ty fr lb ks) = false := by
 rw [A5N h10 h2 h3]; exact decide_eq_false h
theorem B7A (h : P6 (.mk k nm num ty fr lb ks) = true ∨ inj (.mk k nm num ty fr lb ks) = true) : k = 14 := by
 rcases h with h | h
 ·exact (prx_spec' h)
 ·exact A4P h
where
 prx_spec' {k : Int} {nm : ByteArray} {num : Int} {ty fr : Ty} {lb : Int} {ks : List Tm} (h : P6 (.mk k nm num ty fr lb ks) = true) : k = 14 := by rw [A05] at h; exact (of_decide_eq_true h).1
end
theorem A7N {Q : Prop} (h : Q := by (exact ⟨rfl, by rw [e2 (by omega) hl2]; simp [*], rfl⟩)) : Q := h
theorem A51 {Q : Prop} (h : Q := by (exact ⟨rfl, by rw [e3 (by first | exact .inl (by assumption) | exact .inr (by assumption)) hl1]; simp [*], rfl⟩)) : Q := h
theorem A7O : ∀ (t : Tm) (G : IM) (cells : List Value), cv t → B1 G t cells → Fn Tryz.prog 210 [.agg ⟨cells⟩] [] G (J0 (.bool (E4 t)) G) := by
 refine Tm.ind fun k nm num ty fr lb ks ih G cells hc hr => ?_
 obtain ⟨hN, hkk⟩ := hc.node
 have hop := hN.ops
 have h10 : k = 10 → ks.length = 2 := fun h => by rw [h] at hop; have : D9 10 = 2 := rfl; omega
 have h14 : k = 14 → ks.length = 1 := fun h => by rw [h] at hop; have : D9 14 = 1 := rfl; omega
 have hP := A50 _ G _ hr
 have hI := A7M (.mk k nm num ty fr lb ks) G _ hN.frA hr
 have e1 := @B7x k nm num ty fr lb ks
 have e2 := @B7y k nm num ty fr lb ks
 have e3 := @B1R k nm num ty fr lb ks
 have e4 := @B7z k nm num ty fr lb ks
 have e5 := @B7A k nm num ty fr lb ks
 generalize hpx : P6 (.mk k nm num ty fr lb ks) = bp at hP e3 e4 e5
 generalize hij : inj (.mk k nm num ty fr lb ks) = bi at hI e3 e4 e5
 generalize E4 (.mk k nm num ty fr lb ks) = R at e1 e2 e3 e4 ⊢
 obtain ⟨tk, tks⟩ := ty
 obtain ⟨fk, fks⟩ := fr
 obtain ⟨pt, ct, pf, cf, p, c, es, rfl, hk, hnum, hlb, hty, hfr, hsl, hkl⟩ := hr.open9
 refine C6 Tryz.func210 rfl Tryz.ntmps210 Tryz.results210 rfl ?_
 intro w0
 refine A4 ?_
 refine sE (C9 rfl rfl) rfl (fun b3 => ?_)
 refine J2 ?_
 refine C5 (tS (tS (tR (sB (qE rfl rfl) rfl rfl (fun h18 => ?_) (fun h18 => ?_)))))
 refine K0 ?_
 (exact ⟨rfl, by rw [e1 (by omega)], rfl⟩)
 refine A8 ?_
 refine sB (qE rfl rfl) rfl rfl (fun h42 => ?_) (fun h42 => ?_)
 refine K0 ?_
 (exact ⟨rfl, by rw [e1 (by omega)], rfl⟩)
 refine A8 ?_
 refine sB (qE rfl rfl) rfl rfl (fun h66 => ?_) (fun h66 => ?_)
 refine K0 ?_
 (exact ⟨rfl, by rw [e1 (by omega)], rfl⟩)
 refine B0 ?_
 refine sB (qE rfl rfl) rfl rfl (fun h89 => ?_) (fun h89 => ?_)
 refine K4 ?_
 (exact ⟨rfl, by rw [e1 (by omega)], rfl⟩)
 refine A8 ?_
 refine sB (qE rfl rfl) rfl rfl (fun h110 => ?_) (fun h110 => ?_)
 refine D4 ?_
 (have hl2 := h10 (by omega); obtain ⟨bx, ox, e, rfl, hl, hat, hre, hgb⟩ := hsl.kidTm hkl (i := 0) (by omega) (by omega); have hih := ih ks[0] (List.getElem_mem (by omega)) G e (hkk _ (List.getElem_mem (by omega))) hre; obtain ⟨_, _, e', hp', hl', hat', hre', hgb'⟩ := hsl.kidTm hkl (i := 1) (by omega) (by omega); cases hp'; have hih' := ih ks[1] (List.getElem_mem (by omega)) G e' (hkk _ (List.getElem_mem (by omega))) hre'; refine sP (B5 (j := 0) rfl rfl rfl (by omega)) rfl rfl ?_)
 refine sL (A3 rfl rfl (hat _) hl) rfl rfl ?_
 refine H1 rfl (hih) rfl rfl (fun h121 => ?_) (fun h121 => ?_)
 refine B9 ?_
 refine sP (B5 (j := 1) rfl rfl rfl (by omega)) rfl rfl ?_
 refine sL (A3 rfl rfl (hat' _) hl') rfl rfl ?_
 refine H1 rfl (hih') rfl rfl (fun h127 => ?_) (fun h127 => ?_)
 refine D4 ?_
 exact A7N
 refine D4 ?_
 exact A7N
 refine J5 ?_
 exact A7N
 refine J2 ?_
 refine H1 rfl (hP) rfl rfl (fun h171 => ?_) (fun h171 => ?_)
 refine B7 ?_
 (have hl1 := h14 (by first | exact e5 (.inl (by assumption)) | exact e5 (.inr (by assumption))); obtain ⟨bx, ox, e, rfl, hl, hat, hre, hgb⟩ := hsl.kidTm hkl (i := 0) (by omega) (by omega); have hih := ih ks[0] (List.getElem_mem (by omega)) G e (hkk _ (List.getElem_mem (by omega))) hre; refine sP (B5 (j := 0) rfl rfl rfl (by omega)) rfl rfl ?_)
 refine sL (A3 rfl rfl (hat _) hl) rfl rfl ?_
 refine H1 rfl (hih) rfl rfl (fun h181 => ?_) (fun h181 => ?_)
 refine A8 ?_
 exact A51
 refine A8 ?_
 exact A51
 refine A4 ?_
 refine H1 rfl (hI) rfl rfl (fun h198 => ?_) (fun h198 => ?_)
 refine B4 ?_
 (have hl1 := h14 (by first | exact e5 (.inl (by assumption)) | exact e5 (.inr (by assumption))); obtain ⟨bx, ox, e, rfl, hl, hat, hre, hgb⟩ := hsl.kidTm hkl (i := 0) (by omega) (by omega); have hih := ih ks[0] (List.getElem_mem (by omega)) G e (hkk _ (List.getElem_mem (by omega))) hre; refine sP (B5 (j := 0) rfl rfl rfl (by omega)) rfl rfl ?_)
 refine sL (A3 rfl rfl (hat _) hl) rfl rfl ?_
 refine H1 rfl (hih) rfl rfl (fun h205 => ?_) (fun h205 => ?_)
 refine A8 ?_
 exact A51
 refine A8 ?_
 exact A51
 refine K4 ?_
 (exact ⟨rfl, by rw [e4 (by omega) (by omega) (by assumption) (by assumption)], rfl⟩)
theorem A7P {Q : Prop} (h : Q := by (exact X8.mk (B1.of9 (ks := [e]) ⟨by omega, by omega⟩ ⟨by omega, by omega⟩ hl (hr2.mono hle5) (hr1.mono hle5) hone1 hone2))) : Q := h
theorem A0T (e : Tm) (a b : Ty) (l : Int) (G : IM) (ce ca cb : List Value) (hl : H0 l) (he : B1 G e ce) (ha : C3 G a ca) (hb : C3 G b cb) (hsa : a.small) (hsb : b.small) : Fn Tryz.prog 257 [.agg ⟨ce⟩, .agg ⟨ca⟩, .agg ⟨cb⟩, .int .i64 l] [] G (X8 (K5 e a b l)) := by
 have hel := he.len
 have heo := he.one
 obtain ⟨v1, v2, v3, v4, v5, v6, v7, v8, v9, rfl⟩ := nine hel
 obtain ⟨ak, aks⟩ := a
 obtain ⟨bk, bks⟩ := b
 obtain ⟨pa, cca, ea, rfl, _⟩ := ha.open
 obtain ⟨pb, ccb, eb, rfl, _⟩ := hb.open
 refine C6 Tryz.func257 rfl Tryz.ntmps257 Tryz.results257 rfl ?_
 intro w0
 refine A4 ?_
 refine sE (C9 rfl rfl) rfl (fun b3 => ?_)
 refine sE (C9 rfl rfl) rfl (fun b4 => ?_)
 refine sE (C9 rfl rfl) rfl (fun b5 => ?_)
 refine sE (A9 rfl) rfl (fun b6 => ?_)
 refine B9 ?_
 refine D7 D8 rfl ?_
 refine L3 (i := 0) (l' := [tt,ff,ff,ff,ff,ff,ff,ff,ff]) rfl D2 (A5 rfl rfl) rfl (by kernel_rfl) rfl rfl ?_
 refine aL 2 rfl (A5 rfl rfl) rfl ?_
 refine aP 4 rfl (qM rfl) rfl ?_
 refine aL 5 rfl (A5 rfl rfl) rfl ?_
 refine Q3 (j := 1) (j' := 6) (by kernel_rfl) ?_ ?_
 (refine H3 rfl rfl (Q5 (.mk ak aks) _ _ hsa ha) rfl rfl rfl (fun v G1 hle1 hh => ?_); obtain ⟨cs1, F1, rfl, hs1, hn1⟩ := hh; obtain ⟨p1, c1, rfl, _⟩ := hs1.open; have hC2 := Q5 _ G1 _ hsb (hb.mono hle1))
 refine Q3 (j := 3) (j' := 6) (by kernel_rfl) ?_ ?_
 (refine H3 rfl rfl hC2 rfl rfl rfl (fun v G2 hle2 hh => ?_); obtain ⟨cs2, F2, rfl, hs2, hn2⟩ := hh; obtain ⟨p2, c2, rfl, _⟩ := hs2.open; have hr1 := hs1.R.mono ((C2.le G1 _).trans hle2); have hr2 := hs2.R.mono (C2.le G2 G1); have hre := he.mono (hle1.trans hle2))
 refine A2 6 ?_
 (refine E2 rfl (D0 rfl rfl rfl (by omega) (by unfold maxLen; omega) rfl) rfl rfl ?_; rintro _ ⟨b20, rfl⟩)
 refine aP 7 rfl (Y0 rfl rfl) rfl ?_
 refine A2 8 ?_
 refine H8 rfl ?_
 refine A4 ?_
 (refine H2 (cs := [v1, v2, v3, v4, v5, v6, v7, v8, v9]) (by repeat (first | exact Pk.here | apply Pk.there)) (fun G5 hle5 hsl5 hno5 => ?_); obtain ⟨hone1, hone2⟩ := A23 (hre.mono hle5) hsl5)
 refine tT ?_
 refine N9 (rC rfl (A5 rfl rfl)) ?_
 exact A7P
 (refine E2 rfl (D0 rfl rfl rfl (by omega) (by unfold maxLen; omega) rfl) rfl rfl ?_; rintro _ ⟨b30, rfl⟩)
 refine A2 3 ?_
 (refine H3 rfl rfl hC2 rfl rfl rfl (fun v G2 hle2 hh => ?_); obtain ⟨cs2, F2, rfl, hs2, hn2⟩ := hh; obtain ⟨p2, c2, rfl, _⟩ := hs2.open; have hr1 := hs1.R.mono ((C2.le G1 _).trans hle2); have hr2 := hs2.R.mono (C2.le G2 G1); have hre := he.mono (hle1.trans hle2))
 refine aP 7 rfl (Y0 rfl rfl) rfl ?_
 refine A2 8 ?_
 refine H8 rfl ?_
 refine A4 ?_
 (refine H2 (cs := [v1, v2, v3, v4, v5, v6, v7, v8, v9]) (by repeat (first | exact Pk.here | apply Pk.there)) (fun G5 hle5 hsl5 hno5 => ?_); obtain ⟨hone1, hone2⟩ := A23 (hre.mono hle5) hsl5)
 refine tT ?_
 refine N9 (rC rfl (A5 rfl rfl)) ?_
 exact A7P
 (refine E2 rfl (D0 rfl rfl rfl (by omega) (by unfold maxLen; omega) rfl) rfl rfl ?_; rintro _ ⟨b42, rfl⟩)
 refine A2 1 ?_
 (refine H3 rfl rfl (Q5 (.mk ak aks) _ _ hsa ha) rfl rfl rfl (fun v G1 hle1 hh => ?_); obtain ⟨cs1, F1, rfl, hs1, hn1⟩ := hh; obtain ⟨p1, c1, rfl, _⟩ := hs1.open; have hC2 := Q5 _ G1 _ hsb (hb.mono hle1))
 refine A2 3 ?_
 (refine H3 rfl rfl hC2 rfl rfl rfl (fun v G2 hle2 hh => ?_); obtain ⟨cs2, F2, rfl, hs2, hn2⟩ := hh; obtain ⟨p2, c2, rfl, _⟩ := hs2.open; have hr1 := hs1.R.mono ((C2.le G1 _).trans hle2); have hr2 := hs2.R.mono (C2.le G2 G1); have hre := he.mono (hle1.trans hle2))
 refine aP 7 rfl (Y0 rfl rfl) rfl ?_
 refine A2 8 ?_
 refine H8 rfl ?_
 refine A4 ?_
 (refine H2 (cs := [v1, v2, v3, v4, v5, v6, v7, v8, v9]) (by repeat (first | exact Pk.here | apply Pk.there)) (fun G5 hle5 hsl5 hno5 => ?_); obtain ⟨hone1, hone2⟩ := A23 (hre.mono hle5) hsl5)
 refine tT ?_
 refine N9 (rC rfl (A5 rfl rfl)) ?_
 exact A7P
theorem B7B (G : IM) : Fn Tryz.prog 258 [.bool true] [] G (X8 (Y6 (true = true))) := by
 refine C6 Tryz.func258 rfl Tryz.ntmps258 Tryz.results258 rfl ?_
 intro w0
 refine A4 ?_
 refine sE (A9 rfl) rfl (fun b3 => ?_)
 refine S4 ?_
 refine N9 (rC rfl (A5 rfl rfl)) ?_
 exact A5O
theorem B7C (G : IM) : Fn Tryz.prog 258 [.bool false] [] G (X8 (Y6 (false = true))) := by
 refine C6 Tryz.func258 rfl Tryz.ntmps258 Tryz.results258 rfl ?_
 intro w0
 refine A4 ?_
 refine sE (A9 rfl) rfl (fun b3 => ?_)
 refine V1 ?_
 refine N9 (rC rfl (A5 rfl rfl)) ?_
 exact A5O
theorem B1S (b : Bool) (G : IM) : Fn Tryz.prog 258 [.bool b] [] G (X8 (Y6 (b = true))) := by
 cases b
 ·exact B7C G
 ·exact B7B G
theorem A7Q {Q : Prop} (h : Q := by (dsimp only; exact ⟨by omega, hle.trans hle3, by rw [B0R (by omega)]; exact E5.snoc (hst.mono hle3) hru⟩)) : Q := h
theorem A7R {Q : Prop} (h : Q := by (rw [if_neg (by rintro ⟨h1, h2⟩; first | omega | contradiction), if_neg (by rintro ⟨h1, h2⟩; first | omega | contradiction)]; rw [List.take_of_length_le (by rw [A1I]; omega)] at hst; exact X8.mk (B1.put hk hnum hlb (hty1.mono hle4) (hfr1.mono hle4) (by rw [A1I]) (E3.of hsl4 (by omega) hst.all (fun e he => (hst.each e he).2)) (hst.mono hle4)))) : Q := h
theorem B7D (y : ByteArray) (v : Tm) (vc : List Value) (hvs : v.small) : ∀ (t : Tm) (G : IM) (cells : List Value), t.small → B1 G t cells → B1 G v vc → Fn Tryz.prog 256 [.agg ⟨cells⟩, .string y, .agg ⟨vc⟩] [] G (X8 (S2 y v t)) := by
 refine Tm.ind fun k nm num ty fr lb ks ih G cells hts hr hv => ?_
 have hr0 := hr
 have hts0 := hts
 obtain ⟨_, htsm, hfsm, hsm, hks⟩ := A0v.1 hts
 have hvl := hv.len
 have hvo := hv.one
 have hRl := hr.len
 have hRo := hr.one
 rw [S2]
 have hCv := A3D v G vc hvs hv
 have hCt := A3D _ G cells hts0 hr0
 obtain ⟨tk, tks⟩ := ty
 obtain ⟨fk, fks⟩ := fr
 obtain ⟨pt, ct, pf, cf, p, c, es, rfl, hk, hnum, hlb, hty, hfr, hsl, hkl⟩ := hr.open9
 have hn := hsl.le
 refine C6 Tryz.func256 rfl Tryz.ntmps256 Tryz.results256 rfl ?_
 intro w0
 refine A4 ?_
 refine sE (C9 rfl rfl) rfl (fun b3 => ?_)
 refine sE (C9 rfl rfl) rfl (fun b4 => ?_)
 refine sE (A9 rfl) rfl (fun b5 => ?_)
 refine B7 ?_
 refine sB (qE rfl rfl) rfl rfl (fun h13 => ?_) (fun h13 => ?_)
 refine B4 ?_
 refine sB (A1T rfl rfl) rfl rfl (fun h18 => ?_) (fun h18 => ?_)
 refine A8 ?_
 refine sL (A3 rfl rfl (B6 (by repeat first | exact mH | apply mT)) hvl) rfl rfl ?_
 (refine E6 rfl hCv rfl rfl (fun v9 G1 hle1 hh => ?_); obtain ⟨uc, F1, rfl, hs1, hn1⟩ := hh; have hru := hs1.R.mono (C2.le G1 G); have hul := hru.len; have huo := hru.one)
 refine sS rfl rfl rfl hul huo rfl ?_ (hu := by exact E0 hul.symm)
 refine B4 ?_
 refine N9 (rC rfl (A3 rfl rfl (B6 (by repeat first | exact mH | apply mT)) hul)) ?_
 (rw [if_pos (by refine ⟨by omega, by assumption⟩)]; exact X8.mk hru)
 refine J8 ?_
 refine sP (I9 rfl rfl (by omega)) rfl rfl ?_
 refine J5 ?_
 refine sE (A9 rfl) rfl (fun b60 => ?_)
 refine B7 ?_
 (refine E6 rfl (Q5 (.mk tk tks) _ _ htsm hty) rfl rfl (fun v9 G1 hle1 hh => ?_); obtain ⟨cs1, F1, rfl, hs1, hn1⟩ := hh; obtain ⟨q1, c1, rfl, _⟩ := hs1.open; have hC2 := Q5 (.mk fk fks) G1 _ hfsm (hfr.mono hle1))
 refine D4 ?_
 (refine E6 rfl hC2 rfl rfl (fun v9 G2 hle2 hh => ?_); obtain ⟨cs2, F2, rfl, hs2, hn2⟩ := hh; obtain ⟨q2, c2, rfl, _⟩ := hs2.open; have hty1 := hs1.R.mono ((C2.le G1 _).trans hle2); have hfr1 := hs2.R.mono (C2.le G2 G1); have hle12 := hle1.trans hle2; replace hsl := hsl.mono hle12; replace hkl := hkl.mono hle12; replace hv := hv.mono hle12)
 refine K0 ?_
 refine C5 ?_
 (refine V0 37 9 ?_; refine K2 (fun (x : Nat × Option Addr × Nat × List (List Value) × IM) => ⟨[(8, .int .i64 x.1), (1, .string y), (3, .pointer (some ⟨b3, 0, none⟩)), (5, .pointer (some ⟨b4, 0, none⟩)), (6, .pointer (some ⟨b5, 0, none⟩)), (7, .pointer (some ⟨b60, 0, none⟩))], [.blk b60 [.int .i64 k, .string nm, .int .i64 num, .int .i64 tk, .slice q1 tks.length c1, .int .i64 fk, .slice q2 fks.length c2, .int .i64 lb, .slice x.2.1 x.1 x.2.2.1], .slc x.2.1 x.2.2.1 37 9 x.1 x.2.2.2.1.flatten, .blk b5 [.int .i64 0, .string ⟨⟨[]⟩⟩, .int .i64 0, .int .i64 0, .slice none 0 0, .int .i64 0, .slice none 0 0, .int .i64 0, .slice none 0 0], .blk b4 vc, .blk b3 [.int .i64 k, .string nm, .int .i64 num, .int .i64 tk, .slice pt tks.length ct, .int .i64 fk, .slice pf fks.length cf, .int .i64 lb, .slice p ks.length c]], x.2.2.2.2⟩) (fun x => x.1 ≤ ks.length ∧ C4 G2 x.2.2.2.2 ∧ E5 x.2.2.2.2 ((R0 y v ks).take x.1) x.2.2.2.1) (fun x => ks.length - x.1) (0, none, 0, [], G2) ?_ ?_ ?_)
 (simp only [I1]; exact D6)
 exact A3S
 (rintro ⟨i, pn, cn, es', Gi⟩ ⟨hi, hle, hst⟩; simp only [] at hi hle hst ⊢; replace hsl := hsl.mono hle; replace hkl := hkl.mono hle; replace hv := hv.mono hle; replace hty1 := hty1.mono hle; replace hfr1 := hfr1.mono hle; have hsl' := hst.len; rw [List.length_take, A1I] at hsl')
 refine B7 ?_
 refine sB (J4 rfl rfl) rfl rfl (fun h106 => ?_) (fun h106 => ?_)
 refine A8 ?_
 refine C5 ?_
 (have hil : i < ks.length := (by omega); obtain ⟨bx, ox, e, rfl, hl, hat, hre, hgb⟩ := hsl.kidTm hkl (i := i) (by omega) (by omega); have hel := hre.len; have heo := hre.one; refine D7 D8 rfl ?_)
 refine L3 (i := 8) (l' := [ff,ff,ff,ff,ff,ff,ff,ff,tt,ff,ff,ff,ff,ff]) rfl D2 (A3 rfl rfl (B6 (by repeat first | exact mH | apply mT)) hvl) rfl (by kernel_rfl) rfl rfl ?_
 refine aP 0 rfl (B8 rfl) rfl ?_
 refine aL 1 rfl (C7 rfl rfl) rfl ?_
 refine aP 2 rfl (B8 rfl) rfl ?_
 refine aL 3 rfl (C7 rfl rfl) rfl ?_
 refine aP 4 rfl (qM rfl) rfl ?_
 refine aP 5 rfl (B5 (j := i) rfl rfl rfl (by omega)) rfl ?_
 refine aL 6 rfl (A3 rfl rfl (hat _) hl) rfl ?_
 refine aP 7 rfl (qM rfl) rfl ?_
 refine A2 9 ?_
 (refine H3 rfl rfl (ih ks[i] (List.getElem_mem (by omega)) Gi _ (Tm.smallL_mem hks _ (List.getElem_mem (by omega))) hre hv) rfl rfl rfl (fun u G3 hle3 hh => ?_); obtain ⟨uc, rfl, hru⟩ := hh; have hul := hru.len; have huo := hru.one; obtain ⟨v1, v2, v3, v4, v5, v6, v7, v8, v9, rfl⟩ := nine hul)
 refine A2 10 ?_
 (refine E2 rfl (D0 rfl rfl rfl (by omega) (by unfold maxLen; omega) rfl) rfl rfl ?_; rintro _ ⟨b127, rfl⟩)
 refine A2 11 ?_
 (refine P5 rfl rfl rfl rfl rfl rfl (fun _ _ => by repeat (first | exact Sw.here | apply Sw.there)) (M9 (by repeat first | exact mH | apply mT)) rfl (fun u hu => List.all_eq_true.1 huo u hu) (by unfold maxLen; omega) (by omega) rfl rfl (by repeat (first | exact A7.nil | apply A7.dep (by decide +kernel) | apply A7.im (by decide +kernel) (by assumption) (by repeat first | exact mH | apply mT) | apply A7.blk (by decide +kernel) (by repeat (first | exact Pk.here | apply Pk.there)) (by repeat first | exact mH | apply mT) | apply A7.slc (by decide +kernel) (by repeat (first | exact Pk.here | apply Pk.there)) (by repeat first | exact mH | apply mT))) (fun p7 c7 => ?_))
 refine aP 12 rfl (B8 rfl) rfl ?_
 refine A2 13 ?_
 refine Q8 rfl rfl rfl rfl rfl rfl rfl rfl (by decide +kernel) (by repeat first | exact Sw.here | apply Sw.there) (by rfl) ?_
 refine B0 ?_
 refine sP (H9 rfl rfl (by omega) (by omega)) rfl rfl ?_
 refine A4 ?_
 refine I5 (i + 1, p7, c7, es' ++ [[v1, v2, v3, v4, v5, v6, v7, v8, v9]], G3) ?_ ?_ ?_
 (simp only [I1]; exact D6)
 exact A7Q
 exact V5
 refine J5 ?_
 (refine H2 (cs := es'.flatten) (by repeat (first | exact Pk.here | apply Pk.there)) (fun G4 hle4 hsl4 hno4 => ?_); obtain rfl : i = ks.length := (by omega))
 refine tT ?_
 refine N9 (rC rfl (A5 rfl rfl)) ?_
 exact A7R
 refine K0 ?_
 refine sB (qE rfl rfl) rfl rfl (fun h179 => ?_) (fun h179 => ?_)
 refine B4 ?_
 refine sB (A1T rfl rfl) rfl rfl (fun h184 => ?_) (fun h184 => ?_)
 refine B7 ?_
 (refine E6 rfl hCt rfl rfl (fun v9 G1 hle1 hh => ?_); obtain ⟨uc, F1, rfl, hs1, hn1⟩ := hh; have hru := hs1.R.mono (C2.le G1 G); have hul := hru.len; have huo := hru.one)
 refine sS rfl rfl rfl hul huo rfl ?_ (hu := by exact E0 hul.symm)
 refine B4 ?_
 refine N9 (rC rfl (A3 rfl rfl (B6 (by repeat first | exact mH | apply mT)) hul)) ?_
 (rw [if_neg (by rintro ⟨h1, h2⟩; first | omega | contradiction), if_pos (by refine ⟨by omega, by assumption⟩)]; exact X8.mk hru)
 refine E1 ?_
 refine sE (A9 rfl) rfl (fun b209 => ?_)
 refine B7 ?_
 (refine E6 rfl (Q5 (.mk tk tks) _ _ htsm hty) rfl rfl (fun v9 G1 hle1 hh => ?_); obtain ⟨cs1, F1, rfl, hs1, hn1⟩ := hh; obtain ⟨q1, c1, rfl, _⟩ := hs1.open; have hC2 := Q5 (.mk fk fks) G1 _ hfsm (hfr.mono hle1))
 refine D4 ?_
 (refine E6 rfl hC2 rfl rfl (fun v9 G2 hle2 hh => ?_); obtain ⟨cs2, F2, rfl, hs2, hn2⟩ := hh; obtain ⟨q2, c2, rfl, _⟩ := hs2.open; have hty1 := hs1.R.mono ((C2.le G1 _).trans hle2); have hfr1 := hs2.R.mono (C2.le G2 G1); have hle12 := hle1.trans hle2; replace hsl := hsl.mono hle12; replace hkl := hkl.mono hle12; replace hv := hv.mono hle12)
 refine K0 ?_
 refine C5 ?_
 (refine V0 37 9 ?_; refine K2 (fun (x : Nat × Option Addr × Nat × List (List Value) × IM) => ⟨[(8, .int .i64 x.1), (1, .string y), (3, .pointer (some ⟨b3, 0, none⟩)), (5, .pointer (some ⟨b4, 0, none⟩)), (6, .pointer (some ⟨b5, 0, none⟩)), (7, .pointer (some ⟨b209, 0, none⟩))], [.blk b209 [.int .i64 k, .string nm, .int .i64 num, .int .i64 tk, .slice q1 tks.length c1, .int .i64 fk, .slice q2 fks.length c2, .int .i64 lb, .slice x.2.1 x.1 x.2.2.1], .slc x.2.1 x.2.2.1 37 9 x.1 x.2.2.2.1.flatten, .blk b5 [.int .i64 0, .string ⟨⟨[]⟩⟩, .int .i64 0, .int .i64 0, .slice none 0 0, .int .i64 0, .slice none 0 0, .int .i64 0, .slice none 0 0], .blk b4 vc, .blk b3 [.int .i64 k, .string nm, .int .i64 num, .int .i64 tk, .slice pt tks.length ct, .int .i64 fk, .slice pf fks.length cf, .int .i64 lb, .slice p ks.length c]], x.2.2.2.2⟩) (fun x => x.1 ≤ ks.length ∧ C4 G2 x.2.2.2.2 ∧ E5 x.2.2.2.2 ((R0 y v ks).take x.1) x.2.2.2.1) (fun x => ks.length - x.1) (0, none, 0, [], G2) ?_ ?_ ?_)
 (simp only [I1]; exact D6)
 exact A3S
 (rintro ⟨i, pn, cn, es', Gi⟩ ⟨hi, hle, hst⟩; simp only [] at hi hle hst ⊢; replace hsl := hsl.mono hle; replace hkl := hkl.mono hle; replace hv := hv.mono hle; replace hty1 := hty1.mono hle; replace hfr1 := hfr1.mono hle; have hsl' := hst.len; rw [List.length_take, A1I] at hsl')
 refine B7 ?_
 refine sB (J4 rfl rfl) rfl rfl (fun h255 => ?_) (fun h255 => ?_)
 refine A8 ?_
 refine C5 ?_
 (have hil : i < ks.length := (by omega); obtain ⟨bx, ox, e, rfl, hl, hat, hre, hgb⟩ := hsl.kidTm hkl (i := i) (by omega) (by omega); have hel := hre.len; have heo := hre.one; refine D7 D8 rfl ?_)
 refine L3 (i := 8) (l' := [ff,ff,ff,ff,ff,ff,ff,ff,tt,ff,ff,ff,ff,ff]) rfl D2 (A3 rfl rfl (B6 (by repeat first | exact mH | apply mT)) hvl) rfl (by kernel_rfl) rfl rfl ?_
 refine aP 0 rfl (B8 rfl) rfl ?_
 refine aL 1 rfl (C7 rfl rfl) rfl ?_
 refine aP 2 rfl (B8 rfl) rfl ?_
 refine aL 3 rfl (C7 rfl rfl) rfl ?_
 refine aP 4 rfl (qM rfl) rfl ?_
 refine aP 5 rfl (B5 (j := i) rfl rfl rfl (by omega)) rfl ?_
 refine aL 6 rfl (A3 rfl rfl (hat _) hl) rfl ?_
 refine aP 7 rfl (qM rfl) rfl ?_
 refine A2 9 ?_
 (refine H3 rfl rfl (ih ks[i] (List.getElem_mem (by omega)) Gi _ (Tm.smallL_mem hks _ (List.getElem_mem (by omega))) hre hv) rfl rfl rfl (fun u G3 hle3 hh => ?_); obtain ⟨uc, rfl, hru⟩ := hh; have hul := hru.len; have huo := hru.one; obtain ⟨v1, v2, v3, v4, v5, v6, v7, v8, v9, rfl⟩ := nine hul)
 refine A2 10 ?_
 (refine E2 rfl (D0 rfl rfl rfl (by omega) (by unfold maxLen; omega) rfl) rfl rfl ?_; rintro _ ⟨b276, rfl⟩)
 refine A2 11 ?_
 (refine P5 rfl rfl rfl rfl rfl rfl (fun _ _ => by repeat (first | exact Sw.here | apply Sw.there)) (M9 (by repeat first | exact mH | apply mT)) rfl (fun u hu => List.all_eq_true.1 huo u hu) (by unfold maxLen; omega) (by omega) rfl rfl (by repeat (first | exact A7.nil | apply A7.dep (by decide +kernel) | apply A7.im (by decide +kernel) (by assumption) (by repeat first | exact mH | apply mT) | apply A7.blk (by decide +kernel) (by repeat (first | exact Pk.here | apply Pk.there)) (by repeat first | exact mH | apply mT) | apply A7.slc (by decide +kernel) (by repeat (first | exact Pk.here | apply Pk.there)) (by repeat first | exact mH | apply mT))) (fun p7 c7 => ?_))
 refine aP 12 rfl (B8 rfl) rfl ?_
 refine A2 13 ?_
 refine Q8 rfl rfl rfl rfl rfl rfl rfl rfl (by decide +kernel) (by repeat first | exact Sw.here | apply Sw.there) (by rfl) ?_
 refine B0 ?_
 refine sP (H9 rfl rfl (by omega) (by omega)) rfl rfl ?_
 refine A4 ?_
 refine I5 (i + 1, p7, c7, es' ++ [[v1, v2, v3, v4, v5, v6, v7, v8, v9]], G3) ?_ ?_ ?_
 (simp only [I1]; exact D6)
 exact A7Q
 exact V5
 refine J5 ?_
 (refine H2 (cs := es'.flatten) (by repeat (first | exact Pk.here | apply Pk.there)) (fun G4 hle4 hsl4 hno4 => ?_); obtain rfl : i = ks.length := (by omega))
 refine tT ?_
 refine N9 (rC rfl (A5 rfl rfl)) ?_
 exact A7R
 refine J5 ?_
 refine sE (A9 rfl) rfl (fun b326 => ?_)
 refine B7 ?_
 (refine E6 rfl (Q5 (.mk tk tks) _ _ htsm hty) rfl rfl (fun v9 G1 hle1 hh => ?_); obtain ⟨cs1, F1, rfl, hs1, hn1⟩ := hh; obtain ⟨q1, c1, rfl, _⟩ := hs1.open; have hC2 := Q5 (.mk fk fks) G1 _ hfsm (hfr.mono hle1))
 refine D4 ?_
 (refine E6 rfl hC2 rfl rfl (fun v9 G2 hle2 hh => ?_); obtain ⟨cs2, F2, rfl, hs2, hn2⟩ := hh; obtain ⟨q2, c2, rfl, _⟩ := hs2.open; have hty1 := hs1.R.mono ((C2.le G1 _).trans hle2); have hfr1 := hs2.R.mono (C2.le G2 G1); have hle12 := hle1.trans hle2; replace hsl := hsl.mono hle12; replace hkl := hkl.mono hle12; replace hv := hv.mono hle12)
 refine K0 ?_
 refine C5 ?_
 (refine V0 37 9 ?_; refine K2 (fun (x : Nat × Option Addr × Nat × List (List Value) × IM) => ⟨[(8, .int .i64 x.1), (1, .string y), (3, .pointer (some ⟨b3, 0, none⟩)), (5, .pointer (some ⟨b4, 0, none⟩)), (6, .pointer (some ⟨b5, 0, none⟩)), (7, .pointer (some ⟨b326, 0, none⟩))], [.blk b326 [.int .i64 k, .string nm, .int .i64 num, .int .i64 tk, .slice q1 tks.length c1, .int .i64 fk, .slice q2 fks.length c2, .int .i64 lb, .slice x.2.1 x.1 x.2.2.1], .slc x.2.1 x.2.2.1 37 9 x.1 x.2.2.2.1.flatten, .blk b5 [.int .i64 0, .string ⟨⟨[]⟩⟩, .int .i64 0, .int .i64 0, .slice none 0 0, .int .i64 0, .slice none 0 0, .int .i64 0, .slice none 0 0], .blk b4 vc, .blk b3 [.int .i64 k, .string nm, .int .i64 num, .int .i64 tk, .slice pt tks.length ct, .int .i64 fk, .slice pf fks.length cf, .int .i64 lb, .slice p ks.length c]], x.2.2.2.2⟩) (fun x => x.1 ≤ ks.length ∧ C4 G2 x.2.2.2.2 ∧ E5 x.2.2.2.2 ((R0 y v ks).take x.1) x.2.2.2.1) (fun x => ks.length - x.1) (0, none, 0, [], G2) ?_ ?_ ?_)
 (simp only [I1]; exact D6)
 exact A3S
 (rintro ⟨i, pn, cn, es', Gi⟩ ⟨hi, hle, hst⟩; simp only [] at hi hle hst ⊢; replace hsl := hsl.mono hle; replace hkl := hkl.mono hle; replace hv := hv.mono hle; replace hty1 := hty1.mono hle; replace hfr1 := hfr1.mono hle; have hsl' := hst.len; rw [List.length_take, A1I] at hsl')
 refine B7 ?_
 refine sB (J4 rfl rfl) rfl rfl (fun h372 => ?_) (fun h372 => ?_)
 refine A8 ?_
 refine C5 ?_
 (have hil : i < ks.length := (by omega); obtain ⟨bx, ox, e, rfl, hl, hat, hre, hgb⟩ := hsl.kidTm hkl (i := i) (by omega) (by omega); have hel := hre.len; have heo := hre.one; refine D7 D8 rfl ?_)
 refine L3 (i := 8) (l' := [ff,ff,ff,ff,ff,ff,ff,ff,tt,ff,ff,ff,ff,ff]) rfl D2 (A3 rfl rfl (B6 (by repeat first | exact mH | apply mT)) hvl) rfl (by kernel_rfl) rfl rfl ?_
 refine aP 0 rfl (B8 rfl) rfl ?_
 refine aL 1 rfl (C7 rfl rfl) rfl ?_
 refine aP 2 rfl (B8 rfl) rfl ?_
 refine aL 3 rfl (C7 rfl rfl) rfl ?_
 refine aP 4 rfl (qM rfl) rfl ?_
 refine aP 5 rfl (B5 (j := i) rfl rfl rfl (by omega)) rfl ?_
 refine aL 6 rfl (A3 rfl rfl (hat _) hl) rfl ?_
 refine aP 7 rfl (qM rfl) rfl ?_
 refine A2 9 ?_
 (refine H3 rfl rfl (ih ks[i] (List.getElem_mem (by omega)) Gi _ (Tm.smallL_mem hks _ (List.getElem_mem (by omega))) hre hv) rfl rfl rfl (fun u G3 hle3 hh => ?_); obtain ⟨uc, rfl, hru⟩ := hh; have hul := hru.len; have huo := hru.one; obtain ⟨v1, v2, v3, v4, v5, v6, v7, v8, v9, rfl⟩ := nine hul)
 refine A2 10 ?_
 (refine E2 rfl (D0 rfl rfl rfl (by omega) (by unfold maxLen; omega) rfl) rfl rfl ?_; rintro _ ⟨b393, rfl⟩)
 refine A2 11 ?_
 (refine P5 rfl rfl rfl rfl rfl rfl (fun _ _ => by repeat (first | exact Sw.here | apply Sw.there)) (M9 (by repeat first | exact mH | apply mT)) rfl (fun u hu => List.all_eq_true.1 huo u hu) (by unfold maxLen; omega) (by omega) rfl rfl (by repeat (first | exact A7.nil | apply A7.dep (by decide +kernel) | apply A7.im (by decide +kernel) (by assumption) (by repeat first | exact mH | apply mT) | apply A7.blk (by decide +kernel) (by repeat (first | exact Pk.here | apply Pk.there)) (by repeat first | exact mH | apply mT) | apply A7.slc (by decide +kernel) (by repeat (first | exact Pk.here | apply Pk.there)) (by repeat first | exact mH | apply mT))) (fun p7 c7 => ?_))
 refine aP 12 rfl (B8 rfl) rfl ?_
 refine A2 13 ?_
 refine Q8 rfl rfl rfl rfl rfl rfl rfl rfl (by decide +kernel) (by repeat first | exact Sw.here | apply Sw.there) (by rfl) ?_
 refine B0 ?_
 refine sP (H9 rfl rfl (by omega) (by omega)) rfl rfl ?_
 refine A4 ?_
 refine I5 (i + 1, p7, c7, es' ++ [[v1, v2, v3, v4, v5, v6, v7, v8, v9]], G3) ?_ ?_ ?_
 (simp only [I1]; exact D6)
 exact A7Q
 exact V5
 refine J5 ?_
 (refine H2 (cs := es'.flatten) (by repeat (first | exact Pk.here | apply Pk.there)) (fun G4 hle4 hsl4 hno4 => ?_); obtain rfl : i = ks.length := (by omega))
 refine tT ?_
 refine N9 (rC rfl (A5 rfl rfl)) ?_
 exact A7R
theorem B1T (k : Int) (a b : Tm) (G : IM) (ca cb : List Value) (hk78 : k = 7 ∨ k = 8) (hca : 0 ≤ a.num ∧ a.num ≤ 999) (hcb : 0 ≤ b.num ∧ b.num ≤ 999) (hra : B1 G a ca) (hrb : B1 G b cb) : Fn Tryz.prog 249 [.int .i64 k, .agg ⟨ca⟩, .agg ⟨cb⟩] [] G (M2 (M7 k B3 B3 0 [a, b])) := by
 obtain ⟨ak, anm, anum, ⟨atk, atks⟩, ⟨afk, afks⟩, alb, aks⟩ := a
 obtain ⟨bk, bnm, bnum, ⟨btk, btks⟩, ⟨bfk, bfks⟩, blb, bks⟩ := b
 obtain ⟨apt, act, apf, acf, ap, ac, aes, rfl, hak, hanum, halb, haty, hafr, hasl, hakl⟩ := hra.open9
 obtain ⟨bpt, bct, bpf, bcf, bp, bc, bes, rfl, hbk, hbnum, hblb, hbty, hbfr, hbsl, hbkl⟩ := hrb.open9
 simp only [Tm.num] at hca hcb
 have hR : M7 k B3 B3 0 [Tm.mk ak anm anum (.mk atk atks) (.mk afk afks) alb aks, Tm.mk bk bnm bnum (.mk btk btks) (.mk bfk bfks) blb bks] = (if ak = 2 ∧ bk = 2 then (if k = 7 then A2o ((anum + bnum) % 1000) else Y6 (anum < bnum), 1, 0) else Q7) := by
  unfold M7; rw [if_neg (by omega), if_pos hk78]; rfl
 rw [hR]
 have htm : (anum + bnum).tmod 1000 = (anum + bnum) % 1000 := B0T hca hcb
 have hb : H0 ((anum + bnum) % 1000) := ⟨by omega, by omega⟩
 refine C6 Tryz.func249 rfl Tryz.ntmps249 Tryz.results249 rfl ?_
 intro w0
 refine A4 ?_
 refine sE (C9 rfl rfl) rfl (fun b3 => ?_)
 refine sE (C9 rfl rfl) rfl (fun b4 => ?_)
 refine sE (A9 rfl) rfl (fun b5 => ?_)
 refine E1 ?_
 refine sB (N2 rfl rfl) rfl rfl (fun h15 => ?_) (fun h15 => ?_)
 refine V1 ?_
 refine D3 (rC rfl (A5 rfl rfl)) (rT rfl) (rT rfl) ?_
 (exact M2.mk (by rw [if_neg (by omega)]; rfl) (Q2 _))
 refine B9 ?_
 refine sB (N2 rfl rfl) rfl rfl (fun h39 => ?_) (fun h39 => ?_)
 refine J5 ?_
 refine D3 (rC rfl (A5 rfl rfl)) (rT rfl) (rT rfl) ?_
 (exact M2.mk (by rw [if_neg (by omega)]; rfl) (Q2 _))
 refine J2 ?_
 refine sB (qE rfl rfl) rfl rfl (fun h66 => ?_) (fun h66 => ?_)
 refine E1 ?_
 refine sP (H9 rfl rfl (by omega) (by omega)) rfl rfl ?_
 refine sP (A38 rfl rfl (by omega)) rfl rfl ?_
 (rw [htm]; refine H6 rfl (A21 _ _) rfl rfl ?_)
 refine B7 ?_
 refine D3 (rC rfl (A5 rfl rfl)) (rT rfl) (rT rfl) ?_
 (exact M2.mk (u := A2o (HMod.hMod (anum + bnum) 1000)) (by rw [if_pos ⟨by omega, by omega⟩, if_pos (by omega)]) (B1.put (us := []) ⟨by decide, by decide⟩ hb ⟨by decide, by decide⟩ (A18 _) (A18 _) rfl (E3.nil _ _) rfl))
 refine J8 ?_
 (refine sB (J4 rfl rfl) rfl rfl (fun h99 => ?_) (fun h99 => ?_))
 (refine E6 rfl (B1S _ _) rfl rfl (fun u G1 hle1 hh => ?_); obtain ⟨uc, rfl, hru⟩ := hh; have hul := hru.len; have huo := hru.one)
 refine sS rfl rfl rfl hul huo rfl ?_ (hu := by exact E0 hul.symm)
 refine B0 ?_
 refine D3 (rC rfl (A3 rfl rfl (B6 (by repeat first | exact mH | apply mT)) hul)) (rT rfl) (rT rfl) ?_
 (exact M2.mk (by rw [if_pos ⟨by omega, by omega⟩, if_neg (by omega)]; unfold Y6; rw [if_pos (by omega), if_pos rfl]) hru)
 (refine E6 rfl (B1S _ _) rfl rfl (fun u G1 hle1 hh => ?_); obtain ⟨uc, rfl, hru⟩ := hh; have hul := hru.len; have huo := hru.one)
 refine sS rfl rfl rfl hul huo rfl ?_ (hu := by exact E0 hul.symm)
 refine B0 ?_
 refine D3 (rC rfl (A3 rfl rfl (B6 (by repeat first | exact mH | apply mT)) hul)) (rT rfl) (rT rfl) ?_
 (exact M2.mk (by rw [if_pos ⟨by omega, by omega⟩, if_neg (by omega)]; unfold Y6; rw [if_neg (by omega), if_neg (by decide)]) hru)
theorem A52 {Q : Prop} (h : Q := by (exact M2.mk (by rw [if_neg (by omega), if_neg (by omega)]; rfl) (Q2 _))) : Q := h
theorem A3Y {Q : Prop} (h : Q := by (exact M2.mk (by rw [if_neg hnd, if_pos hq, A2y (by omega), A06 (by omega), A06 (by omega), A06 (by omega), A06 (by omega)]) hrw)) : Q := h
theorem B7E (a b : Tm) (G : IM) (ca cb : List Value) (hca : cv a) (hbs : b.small) (hra : B1 G a ca) (hrb : B1 G b cb) : Fn Tryz.prog 248 [.agg ⟨ca⟩, .agg ⟨cb⟩] [] G (M2 (M7 6 B3 B3 0 [a, b])) := by
 have hsma := A2p a hca
 have hP := A50 a G _ hra
 obtain ⟨ak, anm, anum, ⟨atk, atks⟩, ⟨afk, afks⟩, alb, aks⟩ := a
 obtain ⟨hN, hkk⟩ := hca.node
 have hops := hN.ops
 have hbl := hN.lbB
 have htyA := hN.tyA
 have hfrA := hN.frA
 rw [F9] at htyA hfrA
 have htyS := fun t (h : t ∈ atks) => (A12.1 htyA.2.2 t h).small
 have hfrS := fun t (h : t ∈ afks) => (A12.1 hfrA.2.2 t h).small
 have h14 : ak = 14 → aks.length = 1 := fun h => by rw [h] at hops; have : D9 14 = 1 := rfl; omega
 have h5 : ak = 5 → aks.length = 1 := fun h => by rw [h] at hops; have : D9 5 = 1 := rfl; omega
 obtain ⟨_, _, _, _, hksm⟩ := A0v.1 hsma
 have hbL := hrb.len
 have hbO := hrb.one
 obtain ⟨apt, act, apf, acf, ap, ac, aes, rfl, hak, hanum, halb, haty, hafr, hasl, hakl⟩ := hra.open9
 obtain ⟨tes, htS, htL⟩ := haty.kids
 obtain ⟨fes, hfS, hfL⟩ := hafr.kids
 simp only [Ty.ks] at htS htL hfS hfL
 obtain ⟨y1, y2, y3, y4, y5, y6, y7, y8, y9, rfl⟩ := nine hbL
 have hR : M7 6 B3 B3 0 [Tm.mk ak anm anum (.mk atk atks) (.mk afk afks) alb aks, b] = (if ak = 5 then (S2 anm b (kd aks 0), 1, 0) else if (ak = 14 ∧ afk = atk ∧ (atk = 4 ∨ atk = 5)) ∧ atk = 4 then (K5 (Y5 6 [kd aks 0, K5 b (kt atks 0) (kt afks 0) (-alb)]) (kt afks 1) (kt atks 1) alb, 1, 0) else Q7) := by
  unfold M7
  rw [if_pos rfl, show kd [Tm.mk ak anm anum (.mk atk atks) (.mk afk afks) alb aks, b] 0 = Tm.mk ak anm anum (.mk atk atks) (.mk afk afks) alb aks from rfl, A05]
  simp only [decide_eq_true_eq]
  rfl
 rw [hR]
 replace hP : Fn Tryz.prog 130 _ [] G (J0 (.bool (decide (ak = 14 ∧ afk = atk ∧ (atk = 4 ∨ atk = 5)))) G) := hP
 refine C6 Tryz.func248 rfl Tryz.ntmps248 Tryz.results248 rfl ?_
 intro w0
 refine A4 ?_
 refine sE (C9 rfl rfl) rfl (fun b3 => ?_)
 refine sE (C9 rfl rfl) rfl (fun b4 => ?_)
 refine sE (A9 rfl) rfl (fun b5 => ?_)
 refine E1 ?_
 refine sB (qE rfl rfl) rfl rfl (fun h15 => ?_) (fun h15 => ?_)
 refine B4 ?_
 (have hq : ak = 5 := (by assumption); have hq1 := h5 hq; obtain ⟨bq, oq, e3, rfl, hl3, hat3, hre3, hgb3⟩ := hasl.kidTm hakl (i := 0) (by omega) (by omega); have hS := B7D anm b _ hbs aks[0] G e3 (Tm.smallL_mem hksm _ (List.getElem_mem (by omega))) hre3 hrb; refine D7 D8 rfl ?_)
 refine L3 (i := 6) (l' := [ff,ff,ff,ff,ff,ff,tt,ff,ff,ff,ff]) rfl D2 (A3 rfl rfl (B6 (by repeat first | exact mH | apply mT)) rfl) rfl (by kernel_rfl) rfl rfl ?_
 refine aP 0 rfl (B8 rfl) rfl ?_
 refine aL 1 rfl (C7 rfl rfl) rfl ?_
 refine aP 2 rfl (B5 (j := 0) rfl rfl rfl (by omega)) rfl ?_
 refine aL 3 rfl (A3 rfl rfl (hat3 _) hl3) rfl ?_
 refine aP 4 rfl (B8 rfl) rfl ?_
 refine aL 5 rfl (C7 rfl rfl) rfl ?_
 refine A2 7 ?_
 (refine H3 rfl rfl hS rfl rfl rfl (fun u G1 hle1 hh => ?_); obtain ⟨uc, rfl, hru⟩ := hh; have hwl := hru.len; have hwo := hru.one)
 refine A2 8 ?_
 (refine oS rfl rfl rfl rfl hwl hwo rfl rfl ?_ (hu := by exact E0 hwl.symm))
 refine aP 9 rfl (qA rfl) rfl ?_
 refine aP 10 rfl (qA rfl) rfl ?_
 refine B4 ?_
 refine D3 (rC rfl (A3 rfl rfl (B6 (by repeat first | exact mH | apply mT)) hwl)) (rT rfl) (rT rfl) ?_
 (exact M2.mk (by rw [if_pos hq, A2y (by omega)]) hru)
 refine E1 ?_
 focus (by_cases hpx : (ak = 14 ∧ afk = atk ∧ (atk = 4 ∨ atk = 5)); rw [decide_eq_true hpx] at hP; rotate_left; rw [decide_eq_false hpx] at hP; rotate_left; all_goals (refine H6 rfl hP rfl rfl ?_))
 refine B0 ?_
 refine sB (N2 rfl rfl) rfl rfl (fun h55 => ?_) (fun h55 => ?_)
 refine J5 ?_
 refine D3 (rC rfl (A5 rfl rfl)) (rT rfl) (rT rfl) ?_
 exact A52
 refine B7 ?_
 (have hnd : ¬ak = 5 := (by omega); have hq : (ak = 14 ∧ afk = atk ∧ (atk = 4 ∨ atk = 5)) ∧ atk = 4 := ⟨hpx, by omega⟩; have hq1 := h14 hq.1.1; have hq2 := htyA.1 (by omega); have hq3 := hfrA.1 (by omega); obtain ⟨bq, oq, e3, rfl, hl3, hat3, hre3, hgb3⟩ := hasl.kidTm hakl (i := 0) (by omega) (by omega); have ho3 := hre3.one; obtain ⟨b5, o5, q5, d5, rfl, hat5, hre5, hgb5⟩ := htS.kidTy htL (i := 0) (by omega) (by omega); obtain ⟨_, _, q6, d6, hp6, hat6, hre6, hgb6⟩ := htS.kidTy htL (i := 1) (by omega) (by omega); cases hp6; obtain ⟨b7, o7, q7, d7, rfl, hat7, hre7, hgb7⟩ := hfS.kidTy hfL (i := 0) (by omega) (by omega); obtain ⟨_, _, q8, d8, hp8, hat8, hre8, hgb8⟩ := hfS.kidTy hfL (i := 1) (by omega) (by omega); cases hp8; obtain ⟨x1, x2, x3, x4, x5, x6, x7, x8, x9, rfl⟩ := nine hl3; refine D7 D8 rfl ?_)
 refine L3 (i := 0) (l' := [tt,ff,ff,ff,ff,ff,ff,ff,ff,ff,ff,ff,ff,ff,ff,ff,ff]) rfl D2 (A3 rfl rfl (B6 (by repeat first | exact mH | apply mT)) rfl) rfl (by kernel_rfl) rfl rfl ?_
 refine aP 1 rfl (B8 rfl) rfl ?_
 refine aP 2 rfl (qF rfl) rfl ?_
 refine aL 3 rfl (C7 rfl rfl) rfl ?_
 refine aP 4 rfl (B5 (j := 0) rfl rfl rfl (by omega)) rfl ?_
 refine aL 5 rfl (A3 rfl rfl (hat5 _) rfl) rfl ?_
 refine aP 6 rfl (B8 rfl) rfl ?_
 refine aP 7 rfl (qF rfl) rfl ?_
 refine aL 8 rfl (C7 rfl rfl) rfl ?_
 refine aP 9 rfl (B5 (j := 0) rfl rfl rfl (by omega)) rfl ?_
 refine aL 10 rfl (A3 rfl rfl (hat7 _) rfl) rfl ?_
 refine aP 11 rfl (B8 rfl) rfl ?_
 refine aL 12 rfl (C7 rfl rfl) rfl ?_
 refine aP 13 rfl (A3m rfl (by omega) (by omega)) rfl ?_
 refine Q3 (j := 14) (j' := 15) (by kernel_rfl) ?_ ?_
 (have hcO := hnd; refine H3 rfl rfl (A0T b atks[0] afks[0] (-alb) G _ _ _ ⟨by omega, by omega⟩ hrb hre5 hre7 (htyS _ (List.getElem_mem (by omega))) (hfrS _ (List.getElem_mem (by omega)))) rfl rfl rfl (fun u G1 hle1 hh => ?_); obtain ⟨uc, rfl, hru⟩ := hh; have hul := hru.len; have huo := hru.one; obtain ⟨z1, z2, z3, z4, z5, z6, z7, z8, z9, rfl⟩ := nine hul; replace hre3 := hre3.mono hle1; replace hre6 := hre6.mono hle1; replace hre8 := hre8.mono hle1)
 refine A2 15 ?_
 (refine E2 rfl (A9 rfl) rfl rfl ?_; rintro _ ⟨b97, rfl⟩)
 refine A2 16 ?_
 (refine oS rfl rfl rfl rfl rfl huo rfl rfl ?_ (hu := by exact E0 rfl))
 refine B9 ?_
 refine D7 D8 rfl ?_
 refine L3 (i := 4) (l' := [ff,ff,ff,ff,tt,ff,ff,ff,ff]) rfl D2 (A3 rfl rfl (B6 (by repeat first | exact mH | apply mT)) rfl) rfl (by kernel_rfl) rfl rfl ?_
 refine aP 0 rfl (B8 rfl) rfl ?_
 refine aL 1 rfl (C7 rfl rfl) rfl ?_
 refine aP 2 rfl (B5 (j := 0) rfl rfl rfl (by omega)) rfl ?_
 refine aL 3 rfl (A3 rfl rfl (At.mono' hle1 (hat3 _)) rfl) rfl ?_
 refine Q3 (j := 5) (j' := 7) (by kernel_rfl) ?_ ?_
 (refine E2 rfl (D0 rfl rfl rfl (by omega) (by unfold maxLen; omega) rfl) rfl rfl ?_; rintro _ ⟨b110, rfl⟩)
 refine Q3 (j := 6) (j' := 7) (by kernel_rfl) ?_ ?_
 (refine A1t (cs := [x1, x2, x3, x4, x5, x6, x7, x8, x9, z1, z2, z3, z4, z5, z6, z7, z8, z9]) (by repeat (first | exact Pk.here | apply Pk.there)) (fun G2 hle2 hsl2 hno2 => ?_); have hrN := A04 (k := 6) (ks := [aks[0], K5 b atks[0] afks[0] (-alb)]) (es := [[x1, x2, x3, x4, x5, x6, x7, x8, x9], [z1, z2, z3, z4, z5, z6, z7, z8, z9]]) ⟨by decide, by decide⟩ rfl (E3.of hsl2 rfl (by simp) (by intro x hx; rcases List.mem_cons.1 hx with rfl | hx; exact ho3; obtain rfl := List.mem_singleton.1 hx; exact huo)) (by simp only [E5]; exact ⟨_, _, rfl, hre3.mono hle2, _, _, rfl, hru.mono hle2, rfl⟩); replace hre6 := hre6.mono hle2; replace hre8 := hre8.mono hle2; refine N6 rfl rfl (A0I _ _ _ _ _) rfl rfl rfl ?_)
 refine A2 7 ?_
 (refine E2 rfl (A9 rfl) rfl rfl ?_; rintro _ ⟨b114, rfl⟩)
 refine A2 8 ?_
 refine H8 rfl ?_
 refine B9 ?_
 refine D7 D8 rfl ?_
 refine L3 (i := 0) (l' := [tt,ff,ff,ff,ff,ff,ff,ff,ff,ff,ff,ff,ff,ff,ff,ff,ff]) rfl D2 (A3 rfl rfl (B6 (by repeat first | exact mH | apply mT)) rfl) rfl (by kernel_rfl) rfl rfl ?_
 refine aP 1 rfl (B8 rfl) rfl ?_
 refine aP 2 rfl (qF rfl) rfl ?_
 refine aL 3 rfl (C7 rfl rfl) rfl ?_
 refine aP 4 rfl (B5 (j := 1) rfl rfl rfl (by omega)) rfl ?_
 refine aL 5 rfl (A3 rfl rfl (At.mono' (hle1.trans hle2) (hat8 _)) rfl) rfl ?_
 refine aP 6 rfl (B8 rfl) rfl ?_
 refine aP 7 rfl (qF rfl) rfl ?_
 refine aL 8 rfl (C7 rfl rfl) rfl ?_
 refine aP 9 rfl (B5 (j := 1) rfl rfl rfl (by omega)) rfl ?_
 refine aL 10 rfl (A3 rfl rfl (At.mono' (hle1.trans hle2) (hat6 _)) rfl) rfl ?_
 refine aP 11 rfl (B8 rfl) rfl ?_
 refine aL 12 rfl (C7 rfl rfl) rfl ?_
 refine A2 13 ?_
 (refine H3 rfl rfl (A0T _ afks[1] atks[1] alb G2 _ _ _ ⟨by omega, by omega⟩ hrN hre8 hre6 (hfrS _ (List.getElem_mem (by omega))) (htyS _ (List.getElem_mem (by omega)))) rfl rfl rfl (fun u G3 hle3 hh => ?_); obtain ⟨wc, rfl, hrw⟩ := hh; have hwl := hrw.len; have hwo := hrw.one)
 refine A2 14 ?_
 (refine oS rfl rfl rfl rfl hwl hwo rfl rfl ?_ (hu := by exact E0 hwl.symm))
 refine aP 15 rfl (qA rfl) rfl ?_
 refine aP 16 rfl (qA rfl) rfl ?_
 refine B9 ?_
 refine D3 (rC rfl (A3 rfl rfl (B6 (by repeat first | exact mH | apply mT)) hwl)) (rT rfl) (rT rfl) ?_
 exact A3Y
 (refine E2 rfl (A9 rfl) rfl rfl ?_; rintro _ ⟨b145, rfl⟩)
 refine A2 6 ?_
 (refine A1t (cs := [x1, x2, x3, x4, x5, x6, x7, x8, x9, z1, z2, z3, z4, z5, z6, z7, z8, z9]) (by repeat (first | exact Pk.here | apply Pk.there)) (fun G2 hle2 hsl2 hno2 => ?_); have hrN := A04 (k := 6) (ks := [aks[0], K5 b atks[0] afks[0] (-alb)]) (es := [[x1, x2, x3, x4, x5, x6, x7, x8, x9], [z1, z2, z3, z4, z5, z6, z7, z8, z9]]) ⟨by decide, by decide⟩ rfl (E3.of hsl2 rfl (by simp) (by intro x hx; rcases List.mem_cons.1 hx with rfl | hx; exact ho3; obtain rfl := List.mem_singleton.1 hx; exact huo)) (by simp only [E5]; exact ⟨_, _, rfl, hre3.mono hle2, _, _, rfl, hru.mono hle2, rfl⟩); replace hre6 := hre6.mono hle2; replace hre8 := hre8.mono hle2; refine N6 rfl rfl (A0I _ _ _ _ _) rfl rfl rfl ?_)
 refine A2 8 ?_
 refine H8 rfl ?_
 refine B9 ?_
 refine D7 D8 rfl ?_
 refine L3 (i := 0) (l' := [tt,ff,ff,ff,ff,ff,ff,ff,ff,ff,ff,ff,ff,ff,ff,ff,ff]) rfl D2 (A3 rfl rfl (B6 (by repeat first | exact mH | apply mT)) rfl) rfl (by kernel_rfl) rfl rfl ?_
 refine aP 1 rfl (B8 rfl) rfl ?_
 refine aP 2 rfl (qF rfl) rfl ?_
 refine aL 3 rfl (C7 rfl rfl) rfl ?_
 refine aP 4 rfl (B5 (j := 1) rfl rfl rfl (by omega)) rfl ?_
 refine aL 5 rfl (A3 rfl rfl (At.mono' (hle1.trans hle2) (hat8 _)) rfl) rfl ?_
 refine aP 6 rfl (B8 rfl) rfl ?_
 refine aP 7 rfl (qF rfl) rfl ?_
 refine aL 8 rfl (C7 rfl rfl) rfl ?_
 refine aP 9 rfl (B5 (j := 1) rfl rfl rfl (by omega)) rfl ?_
 refine aL 10 rfl (A3 rfl rfl (At.mono' (hle1.trans hle2) (hat6 _)) rfl) rfl ?_
 refine aP 11 rfl (B8 rfl) rfl ?_
 refine aL 12 rfl (C7 rfl rfl) rfl ?_
 refine A2 13 ?_
 (refine H3 rfl rfl (A0T _ afks[1] atks[1] alb G2 _ _ _ ⟨by omega, by omega⟩ hrN hre8 hre6 (hfrS _ (List.getElem_mem (by omega))) (htyS _ (List.getElem_mem (by omega)))) rfl rfl rfl (fun u G3 hle3 hh => ?_); obtain ⟨wc, rfl, hrw⟩ := hh; have hwl := hrw.len; have hwo := hrw.one)
 refine A2 14 ?_
 (refine oS rfl rfl rfl rfl hwl hwo rfl rfl ?_ (hu := by exact E0 hwl.symm))
 refine aP 15 rfl (qA rfl) rfl ?_
 refine aP 16 rfl (qA rfl) rfl ?_
 refine B9 ?_
 refine D3 (rC rfl (A3 rfl rfl (B6 (by repeat first | exact mH | apply mT)) hwl)) (rT rfl) (rT rfl) ?_
 exact A3Y
 (refine E2 rfl (A9 rfl) rfl rfl ?_; rintro _ ⟨b178, rfl⟩)
 refine A2 5 ?_
 (refine E2 rfl (D0 rfl rfl rfl (by omega) (by unfold maxLen; omega) rfl) rfl rfl ?_; rintro _ ⟨b180, rfl⟩)
 refine A2 6 ?_
 (refine A1t (cs := [x1, x2, x3, x4, x5, x6, x7, x8, x9, z1, z2, z3, z4, z5, z6, z7, z8, z9]) (by repeat (first | exact Pk.here | apply Pk.there)) (fun G2 hle2 hsl2 hno2 => ?_); have hrN := A04 (k := 6) (ks := [aks[0], K5 b atks[0] afks[0] (-alb)]) (es := [[x1, x2, x3, x4, x5, x6, x7, x8, x9], [z1, z2, z3, z4, z5, z6, z7, z8, z9]]) ⟨by decide, by decide⟩ rfl (E3.of hsl2 rfl (by simp) (by intro x hx; rcases List.mem_cons.1 hx with rfl | hx; exact ho3; obtain rfl := List.mem_singleton.1 hx; exact huo)) (by simp only [E5]; exact ⟨_, _, rfl, hre3.mono hle2, _, _, rfl, hru.mono hle2, rfl⟩); replace hre6 := hre6.mono hle2; replace hre8 := hre8.mono hle2; refine N6 rfl rfl (A0I _ _ _ _ _) rfl rfl rfl ?_)
 refine A2 8 ?_
 refine H8 rfl ?_
 refine B9 ?_
 refine D7 D8 rfl ?_
 refine L3 (i := 0) (l' := [tt,ff,ff,ff,ff,ff,ff,ff,ff,ff,ff,ff,ff,ff,ff,ff,ff]) rfl D2 (A3 rfl rfl (B6 (by repeat first | exact mH | apply mT)) rfl) rfl (by kernel_rfl) rfl rfl ?_
 refine aP 1 rfl (B8 rfl) rfl ?_
 refine aP 2 rfl (qF rfl) rfl ?_
 refine aL 3 rfl (C7 rfl rfl) rfl ?_
 refine aP 4 rfl (B5 (j := 1) rfl rfl rfl (by omega)) rfl ?_
 refine aL 5 rfl (A3 rfl rfl (At.mono' (hle1.trans hle2) (hat8 _)) rfl) rfl ?_
 refine aP 6 rfl (B8 rfl) rfl ?_
 refine aP 7 rfl (qF rfl) rfl ?_
 refine aL 8 rfl (C7 rfl rfl) rfl ?_
 refine aP 9 rfl (B5 (j := 1) rfl rfl rfl (by omega)) rfl ?_
 refine aL 10 rfl (A3 rfl rfl (At.mono' (hle1.trans hle2) (hat6 _)) rfl) rfl ?_
 refine aP 11 rfl (B8 rfl) rfl ?_
 refine aL 12 rfl (C7 rfl rfl) rfl ?_
 refine A2 13 ?_
 (refine H3 rfl rfl (A0T _ afks[1] atks[1] alb G2 _ _ _ ⟨by omega, by omega⟩ hrN hre8 hre6 (hfrS _ (List.getElem_mem (by omega))) (htyS _ (List.getElem_mem (by omega)))) rfl rfl rfl (fun u G3 hle3 hh => ?_); obtain ⟨wc, rfl, hrw⟩ := hh; have hwl := hrw.len; have hwo := hrw.one)
 refine A2 14 ?_
 (refine oS rfl rfl rfl rfl hwl hwo rfl rfl ?_ (hu := by exact E0 hwl.symm))
 refine aP 15 rfl (qA rfl) rfl ?_
 refine aP 16 rfl (qA rfl) rfl ?_
 refine B9 ?_
 refine D3 (rC rfl (A3 rfl rfl (B6 (by repeat first | exact mH | apply mT)) hwl)) (rT rfl) (rT rfl) ?_
 exact A3Y
 (refine E2 rfl (A9 rfl) rfl rfl ?_; rintro _ ⟨b213, rfl⟩)
 refine A2 14 ?_
 (have hcO := hnd; refine H3 rfl rfl (A0T b atks[0] afks[0] (-alb) G _ _ _ ⟨by omega, by omega⟩ hrb hre5 hre7 (htyS _ (List.getElem_mem (by omega))) (hfrS _ (List.getElem_mem (by omega)))) rfl rfl rfl (fun u G1 hle1 hh => ?_); obtain ⟨uc, rfl, hru⟩ := hh; have hul := hru.len; have huo := hru.one; obtain ⟨z1, z2, z3, z4, z5, z6, z7, z8, z9, rfl⟩ := nine hul; replace hre3 := hre3.mono hle1; replace hre6 := hre6.mono hle1; replace hre8 := hre8.mono hle1)
 refine A2 16 ?_
 (refine oS rfl rfl rfl rfl rfl huo rfl rfl ?_ (hu := by exact E0 rfl))
 refine B9 ?_
 refine D7 D8 rfl ?_
 refine L3 (i := 4) (l' := [ff,ff,ff,ff,tt,ff,ff,ff,ff]) rfl D2 (A3 rfl rfl (B6 (by repeat first | exact mH | apply mT)) rfl) rfl (by kernel_rfl) rfl rfl ?_
 refine aP 0 rfl (B8 rfl) rfl ?_
 refine aL 1 rfl (C7 rfl rfl) rfl ?_
 refine aP 2 rfl (B5 (j := 0) rfl rfl rfl (by omega)) rfl ?_
 refine aL 3 rfl (A3 rfl rfl (At.mono' hle1 (hat3 _)) rfl) rfl ?_
 refine Q3 (j := 5) (j' := 7) (by kernel_rfl) ?_ ?_
 (refine E2 rfl (D0 rfl rfl rfl (by omega) (by unfold maxLen; omega) rfl) rfl rfl ?_; rintro _ ⟨b228, rfl⟩)
 refine Q3 (j := 6) (j' := 7) (by kernel_rfl) ?_ ?_
 (refine A1t (cs := [x1, x2, x3, x4, x5, x6, x7, x8, x9, z1, z2, z3, z4, z5, z6, z7, z8, z9]) (by repeat (first | exact Pk.here | apply Pk.there)) (fun G2 hle2 hsl2 hno2 => ?_); have hrN := A04 (k := 6) (ks := [aks[0], K5 b atks[0] afks[0] (-alb)]) (es := [[x1, x2, x3, x4, x5, x6, x7, x8, x9], [z1, z2, z3, z4, z5, z6, z7, z8, z9]]) ⟨by decide, by decide⟩ rfl (E3.of hsl2 rfl (by simp) (by intro x hx; rcases List.mem_cons.1 hx with rfl | hx; exact ho3; obtain rfl := List.mem_singleton.1 hx; exact huo)) (by simp only [E5]; exact ⟨_, _, rfl, hre3.mono hle2, _, _, rfl, hru.mono hle2, rfl⟩); replace hre6 := hre6.mono hle2; replace hre8 := hre8.mono hle2; refine N6 rfl rfl (A0I _ _ _ _ _) rfl rfl rfl ?_)
 refine A2 7 ?_
 (refine E2 rfl (A9 rfl) rfl rfl ?_; rintro _ ⟨b232, rfl⟩)
 refine A2 8 ?_
 refine H8 rfl ?_
 refine B9 ?_
 refine D7 D8 rfl ?_
 refine L3 (i := 0) (l' := [tt,ff,ff,ff,ff,ff,ff,ff,ff,ff,ff,ff,ff,ff,ff,ff,ff]) rfl D2 (A3 rfl rfl (B6 (by repeat first | exact mH | apply mT)) rfl) rfl (by kernel_rfl) rfl rfl ?_
 refine aP 1 rfl (B8 rfl) rfl ?_
 refine aP 2 rfl (qF rfl) rfl ?_
 refine aL 3 rfl (C7 rfl rfl) rfl ?_
 refine aP 4 rfl (B5 (j := 1) rfl rfl rfl (by omega)) rfl ?_
 refine aL 5 rfl (A3 rfl rfl (At.mono' (hle1.trans hle2) (hat8 _)) rfl) rfl ?_
 refine aP 6 rfl (B8 rfl) rfl ?_
 refine aP 7 rfl (qF rfl) rfl ?_
 refine aL 8 rfl (C7 rfl rfl) rfl ?_
 refine aP 9 rfl (B5 (j := 1) rfl rfl rfl (by omega)) rfl ?_
 refine aL 10 rfl (A3 rfl rfl (At.mono' (hle1.trans hle2) (hat6 _)) rfl) rfl ?_
 refine aP 11 rfl (B8 rfl) rfl ?_
 refine aL 12 rfl (C7 rfl rfl) rfl ?_
 refine A2 13 ?_
 (refine H3 rfl rfl (A0T _ afks[1] atks[1] alb G2 _ _ _ ⟨by omega, by omega⟩ hrN hre8 hre6 (hfrS _ (List.getElem_mem (by omega))) (htyS _ (List.getElem_mem (by omega)))) rfl rfl rfl (fun u G3 hle3 hh => ?_); obtain ⟨wc, rfl, hrw⟩ := hh; have hwl := hrw.len; have hwo := hrw.one)
 refine A2 14 ?_
 (refine oS rfl rfl rfl rfl hwl hwo rfl rfl ?_ (hu := by exact E0 hwl.symm))
 refine aP 15 rfl (qA rfl) rfl ?_
 refine aP 16 rfl (qA rfl) rfl ?_
 refine B9 ?_
 refine D3 (rC rfl (A3 rfl rfl (B6 (by repeat first | exact mH | apply mT)) hwl)) (rT rfl) (rT rfl) ?_
 exact A3Y
 (refine E2 rfl (A9 rfl) rfl rfl ?_; rintro _ ⟨b263, rfl⟩)
 refine A2 6 ?_
 (refine A1t (cs := [x1, x2, x3, x4, x5, x6, x7, x8, x9, z1, z2, z3, z4, z5, z6, z7, z8, z9]) (by repeat (first | exact Pk.here | apply Pk.there)) (fun G2 hle2 hsl2 hno2 => ?_); have hrN := A04 (k := 6) (ks := [aks[0], K5 b atks[0] afks[0] (-alb)]) (es := [[x1, x2, x3, x4, x5, x6, x7, x8, x9], [z1, z2, z3, z4, z5, z6, z7, z8, z9]]) ⟨by decide, by decide⟩ rfl (E3.of hsl2 rfl (by simp) (by intro x hx; rcases List.mem_cons.1 hx with rfl | hx; exact ho3; obtain rfl := List.mem_singleton.1 hx; exact huo)) (by simp only [E5]; exact ⟨_, _, rfl, hre3.mono hle2, _, _, rfl, hru.mono hle2, rfl⟩); replace hre6 := hre6.mono hle2; replace hre8 := hre8.mono hle2; refine N6 rfl rfl (A0I _ _ _ _ _) rfl rfl rfl ?_)
 refine A2 8 ?_
 refine H8 rfl ?_
 refine B9 ?_
 refine D7 D8 rfl ?_
 refine L3 (i := 0) (l' := [tt,ff,ff,ff,ff,ff,ff,ff,ff,ff,ff,ff,ff,ff,ff,ff,ff]) rfl D2 (A3 rfl rfl (B6 (by repeat first | exact mH | apply mT)) rfl) rfl (by kernel_rfl) rfl rfl ?_
 refine aP 1 rfl (B8 rfl) rfl ?_
 refine aP 2 rfl (qF rfl) rfl ?_
 refine aL 3 rfl (C7 rfl rfl) rfl ?_
 refine aP 4 rfl (B5 (j := 1) rfl rfl rfl (by omega)) rfl ?_
 refine aL 5 rfl (A3 rfl rfl (At.mono' (hle1.trans hle2) (hat8 _)) rfl) rfl ?_
 refine aP 6 rfl (B8 rfl) rfl ?_
 refine aP 7 rfl (qF rfl) rfl ?_
 refine aL 8 rfl (C7 rfl rfl) rfl ?_
 refine aP 9 rfl (B5 (j := 1) rfl rfl rfl (by omega)) rfl ?_
 refine aL 10 rfl (A3 rfl rfl (At.mono' (hle1.trans hle2) (hat6 _)) rfl) rfl ?_
 refine aP 11 rfl (B8 rfl) rfl ?_
 refine aL 12 rfl (C7 rfl rfl) rfl ?_
 refine A2 13 ?_
 (refine H3 rfl rfl (A0T _ afks[1] atks[1] alb G2 _ _ _ ⟨by omega, by omega⟩ hrN hre8 hre6 (hfrS _ (List.getElem_mem (by omega))) (htyS _ (List.getElem_mem (by omega)))) rfl rfl rfl (fun u G3 hle3 hh => ?_); obtain ⟨wc, rfl, hrw⟩ := hh; have hwl := hrw.len; have hwo := hrw.one)
 refine A2 14 ?_
 (refine oS rfl rfl rfl rfl hwl hwo rfl rfl ?_ (hu := by exact E0 hwl.symm))
 refine aP 15 rfl (qA rfl) rfl ?_
 refine aP 16 rfl (qA rfl) rfl ?_
 refine B9 ?_
 refine D3 (rC rfl (A3 rfl rfl (B6 (by repeat first | exact mH | apply mT)) hwl)) (rT rfl) (rT rfl) ?_
 exact A3Y
 (refine E2 rfl (A9 rfl) rfl rfl ?_; rintro _ ⟨b296, rfl⟩)
 refine A2 5 ?_
 (refine E2 rfl (D0 rfl rfl rfl (by omega) (by unfold maxLen; omega) rfl) rfl rfl ?_; rintro _ ⟨b298, rfl⟩)
 refine A2 6 ?_
 (refine A1t (cs := [x1, x2, x3, x4, x5, x6, x7, x8, x9, z1, z2, z3, z4, z5, z6, z7, z8, z9]) (by repeat (first | exact Pk.here | apply Pk.there)) (fun G2 hle2 hsl2 hno2 => ?_); have hrN := A04 (k := 6) (ks := [aks[0], K5 b atks[0] afks[0] (-alb)]) (es := [[x1, x2, x3, x4, x5, x6, x7, x8, x9], [z1, z2, z3, z4, z5, z6, z7, z8, z9]]) ⟨by decide, by decide⟩ rfl (E3.of hsl2 rfl (by simp) (by intro x hx; rcases List.mem_cons.1 hx with rfl | hx; exact ho3; obtain rfl := List.mem_singleton.1 hx; exact huo)) (by simp only [E5]; exact ⟨_, _, rfl, hre3.mono hle2, _, _, rfl, hru.mono hle2, rfl⟩); replace hre6 := hre6.mono hle2; replace hre8 := hre8.mono hle2; refine N6 rfl rfl (A0I _ _ _ _ _) rfl rfl rfl ?_)
 refine A2 8 ?_
 refine H8 rfl ?_
 refine B9 ?_
 refine D7 D8 rfl ?_
 refine L3 (i := 0) (l' := [tt,ff,ff,ff,ff,ff,ff,ff,ff,ff,ff,ff,ff,ff,ff,ff,ff]) rfl D2 (A3 rfl rfl (B6 (by repeat first | exact mH | apply mT)) rfl) rfl (by kernel_rfl) rfl rfl ?_
 refine aP 1 rfl (B8 rfl) rfl ?_
 refine aP 2 rfl (qF rfl) rfl ?_
 refine aL 3 rfl (C7 rfl rfl) rfl ?_
 refine aP 4 rfl (B5 (j := 1) rfl rfl rfl (by omega)) rfl ?_
 refine aL 5 rfl (A3 rfl rfl (At.mono' (hle1.trans hle2) (hat8 _)) rfl) rfl ?_
 refine aP 6 rfl (B8 rfl) rfl ?_
 refine aP 7 rfl (qF rfl) rfl ?_
 refine aL 8 rfl (C7 rfl rfl) rfl ?_
 refine aP 9 rfl (B5 (j := 1) rfl rfl rfl (by omega)) rfl ?_
 refine aL 10 rfl (A3 rfl rfl (At.mono' (hle1.trans hle2) (hat6 _)) rfl) rfl ?_
 refine aP 11 rfl (B8 rfl) rfl ?_
 refine aL 12 rfl (C7 rfl rfl) rfl ?_
 refine A2 13 ?_
 (refine H3 rfl rfl (A0T _ afks[1] atks[1] alb G2 _ _ _ ⟨by omega, by omega⟩ hrN hre8 hre6 (hfrS _ (List.getElem_mem (by omega))) (htyS _ (List.getElem_mem (by omega)))) rfl rfl rfl (fun u G3 hle3 hh => ?_); obtain ⟨wc, rfl, hrw⟩ := hh; have hwl := hrw.len; have hwo := hrw.one)
 refine A2 14 ?_
 (refine oS rfl rfl rfl rfl hwl hwo rfl rfl ?_ (hu := by exact E0 hwl.symm))
 refine aP 15 rfl (qA rfl) rfl ?_
 refine aP 16 rfl (qA rfl) rfl ?_
 refine B9 ?_
 refine D3 (rC rfl (A3 rfl rfl (B6 (by repeat first | exact mH | apply mT)) hwl)) (rT rfl) (rT rfl) ?_
 exact A3Y
 refine A0D ?_
 refine D3 (rC rfl (A5 rfl rfl)) (rT rfl) (rT rfl) ?_
 exact A52
theorem B1U (k : Int) (a : Tm) (G : IM) (ca : List Value) (hk1 : k = 11 ∨ k = 12) (hca : cv a) (hra : B1 G a ca) : Fn Tryz.prog 250 [.int .i64 k, .agg ⟨ca⟩] [] G (M2 (M7 k B3 B3 0 [a])) := by
 have hP := A50 a G _ hra
 obtain ⟨ak, anm, anum, ⟨atk, atks⟩, ⟨afk, afks⟩, alb, aks⟩ := a
 obtain ⟨hN, hkk⟩ := hca.node
 have hops := hN.ops
 have hbl := hN.lbB
 have htyA := hN.tyA
 have hfrA := hN.frA
 rw [F9] at htyA hfrA
 have htyS := fun t (h : t ∈ atks) => (A12.1 htyA.2.2 t h).small
 have hfrS := fun t (h : t ∈ afks) => (A12.1 hfrA.2.2 t h).small
 have h14 : ak = 14 → aks.length = 1 := fun h => by rw [h] at hops; have : D9 14 = 1 := rfl; omega
 have h10 : ak = 10 → aks.length = 2 := fun h => by rw [h] at hops; have : D9 10 = 2 := rfl; omega
 obtain ⟨apt, act, apf, acf, ap, ac, aes, rfl, hak, hanum, halb, haty, hafr, hasl, hakl⟩ := hra.open9
 obtain ⟨tes, htS, htL⟩ := haty.kids
 obtain ⟨fes, hfS, hfL⟩ := hafr.kids
 simp only [Ty.ks] at htS htL hfS hfL
 obtain ⟨i, hi⟩ : ∃ i : Nat, (k - 11).toNat = i := ⟨_, rfl⟩
 have hR : M7 k B3 B3 0 [Tm.mk ak anm anum (.mk atk atks) (.mk afk afks) alb aks] = (if ak = 10 then (kd aks i, 1, 0) else if (ak = 14 ∧ afk = atk ∧ (atk = 4 ∨ atk = 5)) ∧ atk = 5 then (K5 (Y5 k [kd aks 0]) (kt afks i) (kt atks i) alb, 1, 0) else Q7) := by
  unfold M7
  rw [if_neg (by omega), if_neg (by omega), if_neg (by omega), if_pos hk1, hi, show kd [Tm.mk ak anm anum (.mk atk atks) (.mk afk afks) alb aks] 0 = Tm.mk ak anm anum (.mk atk atks) (.mk afk afks) alb aks from rfl, A05]
  simp only [decide_eq_true_eq]
  rfl
 rw [hR]
 replace hP : Fn Tryz.prog 130 _ [] G (J0 (.bool (decide (ak = 14 ∧ afk = atk ∧ (atk = 4 ∨ atk = 5)))) G) := hP
 refine C6 Tryz.func250 rfl Tryz.ntmps250 Tryz.results250 rfl ?_
 intro w0
 refine A4 ?_
 refine sE (C9 rfl rfl) rfl (fun b3 => ?_)
 refine sE (A9 rfl) rfl (fun b4 => ?_)
 refine B7 ?_
 refine sP (P4 rfl rfl (by omega) (by omega)) rfl rfl ?_
 (rw [show (k - 11 : Int) = ((i : Nat) : Int) from (by omega)]; refine sQ (qA rfl) rfl ?_)
 refine B7 ?_
 refine sB (qE rfl rfl) rfl rfl (fun h21 => ?_) (fun h21 => ?_)
 refine D4 ?_
 (have hq := h10 (by omega); obtain ⟨bq, oq, e3, rfl, hl3, hat3, hre3, hgb3⟩ := hasl.kidTm hakl (i := i) (by omega) (by omega); have ho3 := hre3.one; refine sP (B5 (j := i) rfl rfl rfl (by omega)) rfl rfl ?_)
 refine sL (A3 rfl rfl (hat3 _) hl3) rfl rfl ?_
 refine sS rfl rfl rfl hl3 ho3 rfl ?_ (hu := by exact E0 hl3.symm)
 refine A8 ?_
 refine D3 (rC rfl (A3 rfl rfl (B6 (by repeat first | exact mH | apply mT)) hl3)) (rT rfl) (rT rfl) ?_
 (exact M2.mk (by rw [if_pos (by omega), A2y (by omega)]) hre3)
 refine E1 ?_
 focus (by_cases hpx : (ak = 14 ∧ afk = atk ∧ (atk = 4 ∨ atk = 5)); rw [decide_eq_true hpx] at hP; rotate_left; rw [decide_eq_false hpx] at hP; rotate_left; all_goals (refine H6 rfl hP rfl rfl ?_))
 refine B0 ?_
 refine sB (N2 rfl rfl) rfl rfl (fun h56 => ?_) (fun h56 => ?_)
 refine J5 ?_
 refine D3 (rC rfl (A5 rfl rfl)) (rT rfl) (rT rfl) ?_
 exact A52
 refine B7 ?_
 (have hnd : ¬ak = 10 := (by omega); have hq : (ak = 14 ∧ afk = atk ∧ (atk = 4 ∨ atk = 5)) ∧ atk = 5 := ⟨hpx, by omega⟩; have hq1 := h14 hq.1.1; have hq2 := htyA.1 (by omega); have hq3 := hfrA.1 (by omega); obtain ⟨bq, oq, e3, rfl, hl3, hat3, hre3, hgb3⟩ := hasl.kidTm hakl (i := 0) (by omega) (by omega); have ho3 := hre3.one; obtain ⟨b5, o5, q5, d5, rfl, hat5, hre5, hgb5⟩ := htS.kidTy htL (i := i) (by omega) (by omega); obtain ⟨b7, o7, q7, d7, rfl, hat7, hre7, hgb7⟩ := hfS.kidTy hfL (i := i) (by omega) (by omega); obtain ⟨x1, x2, x3, x4, x5, x6, x7, x8, x9, rfl⟩ := nine hl3; refine D7 D8 rfl ?_)
 refine I6 (i := 0) (l' := [tt,ff,ff,ff,ff,ff,ff,ff,ff,ff,ff,ff,ff,ff,ff,ff,ff,ff,ff,ff,ff,ff,ff,ff,ff]) rfl D2 (qM rfl) rfl (by kernel_rfl) rfl rfl ?_
 refine aP 1 rfl (B8 rfl) rfl ?_
 refine aL 2 rfl (C7 rfl rfl) rfl ?_
 refine aP 3 rfl (B5 (j := 0) rfl rfl rfl (by omega)) rfl ?_
 refine aL 4 rfl (A3 rfl rfl (hat3 _) rfl) rfl ?_
 refine aP 7 rfl (B8 rfl) rfl ?_
 refine aP 8 rfl (qF rfl) rfl ?_
 refine aL 9 rfl (C7 rfl rfl) rfl ?_
 refine aP 10 rfl (qM rfl) rfl ?_
 refine aP 11 rfl (B5 (j := i) rfl rfl rfl (by omega)) rfl ?_
 refine aL 12 rfl (A3 rfl rfl (hat7 _) rfl) rfl ?_
 refine aP 13 rfl (B8 rfl) rfl ?_
 refine aP 14 rfl (qF rfl) rfl ?_
 refine aL 15 rfl (C7 rfl rfl) rfl ?_
 refine aP 16 rfl (qM rfl) rfl ?_
 refine aP 17 rfl (B5 (j := i) rfl rfl rfl (by omega)) rfl ?_
 refine aL 18 rfl (A3 rfl rfl (hat5 _) rfl) rfl ?_
 refine aP 19 rfl (B8 rfl) rfl ?_
 refine aL 20 rfl (C7 rfl rfl) rfl ?_
 refine A2 5 ?_
 (refine E2 rfl (D0 rfl rfl rfl (by omega) (by unfold maxLen; omega) rfl) rfl rfl ?_; rintro _ ⟨b101, rfl⟩)
 refine A2 6 ?_
 (refine A1t (cs := [x1, x2, x3, x4, x5, x6, x7, x8, x9]) (by repeat (first | exact Pk.here | apply Pk.there)) (fun G2 hle2 hsl2 hno2 => ?_); have hrN := A04 (k := k) (ks := [aks[0]]) (es := [[x1, x2, x3, x4, x5, x6, x7, x8, x9]]) ⟨by omega, by omega⟩ rfl (E3.of hsl2 rfl (by simp) (by intro x hx; obtain rfl := List.mem_singleton.1 hx; exact ho3)) (by simp only [E5]; exact ⟨_, _, rfl, hre3.mono hle2, rfl⟩); replace hre5 := hre5.mono hle2; replace hre7 := hre7.mono hle2; refine N6 rfl rfl (A0I _ _ _ _ _) rfl rfl rfl ?_)
 refine A2 21 ?_
 (refine H3 rfl rfl (A0T _ afks[i] atks[i] alb G2 _ _ _ ⟨by omega, by omega⟩ hrN hre7 hre5 (hfrS _ (List.getElem_mem (by omega))) (htyS _ (List.getElem_mem (by omega)))) rfl rfl rfl (fun u G3 hle3 hh => ?_); obtain ⟨wc, rfl, hrw⟩ := hh; have hwl := hrw.len; have hwo := hrw.one)
 refine A2 22 ?_
 (refine oS rfl rfl rfl rfl hwl hwo rfl rfl ?_ (hu := by exact E0 hwl.symm))
 refine aP 23 rfl (qA rfl) rfl ?_
 refine aP 24 rfl (qA rfl) rfl ?_
 refine B9 ?_
 refine D3 (rC rfl (A3 rfl rfl (B6 (by repeat first | exact mH | apply mT)) hwl)) (rT rfl) (rT rfl) ?_
 (exact M2.mk (by rw [if_neg hnd, if_pos hq, A2y (by omega), A06 (by omega), A06 (by omega)]) hrw)
 refine A0D ?_
 refine D3 (rC rfl (A5 rfl rfl)) (rT rfl) (rT rfl) ?_
 exact A52
theorem B7F (a : Tm) (nm : ByteArray) (num : Int) (ty fr : Ty) (lb : Int) (G : IM) (cells : List Value) (hc : cv (.mk 14 nm num ty fr lb [a])) (hr : B1 G (.mk 14 nm num ty fr lb [a]) cells) : Fn Tryz.prog 251 [.agg ⟨cells⟩] [] G (M2 (M7 14 ty fr lb [a])) := by
 obtain ⟨hNe, hkk0⟩ := hc.node
 have hca := hkk0 a (by simp)
 have hlb9 := hNe.lbB
 obtain ⟨hcons, htv, hfv⟩ := hNe.c14 rfl
 have hji := @A7n a
 have hjk := @A4P a
 obtain ⟨ak, anm, anum, ⟨atk, atks⟩, ⟨afk, afks⟩, alb, aks⟩ := a
 obtain ⟨hN, hkk⟩ := hca.node
 have hops := hN.ops
 have h14 : ak = 14 → aks.length = 1 := fun h => by rw [h] at hops; have : D9 14 = 1 := rfl; omega
 obtain ⟨tk, tks⟩ := ty
 obtain ⟨fk, fks⟩ := fr
 rw [V3] at hcons
 simp only [Bool.or_eq_true, Bool.and_eq_true, decide_eq_true_eq] at hcons
 have hcc : fk ≠ tk → tk ≠ 1 → fk = 1 := fun h1 h2 => by rcases hcons with (h | h) | h; exact h; exact absurd h h2; exact absurd h.1 h1
 have hta := A7G htv
 have hfa := A7G hfv
 obtain ⟨pt, ct, pf, cf, p, c, es, rfl, hk, hnum, hlb, hty, hfr, hsl, hkl⟩ := hr.open9
 obtain ⟨bx, ox, e0, rfl, hl0, hat0, hre0, hgb0⟩ := hsl.kidTm hkl (i := 0) (by simp) (by simp)
 replace hre0 : B1 G (Tm.mk ak anm anum (.mk atk atks) (.mk afk afks) alb aks) e0 := hre0
 have hI := A7M (Tm.mk ak anm anum (.mk atk atks) (.mk afk afks) alb aks) G _ hN.frA hre0
 have ho0 := hre0.one
 obtain ⟨apt, act, apf, acf, ap, ac, aes, rfl, hak, hanum, halb, haty, hafr, hasl, hakl⟩ := hre0.open9
 obtain ⟨J, hJ⟩ : ∃ J, inj (Tm.mk ak anm anum (.mk atk atks) (.mk afk afks) alb aks) = J := ⟨_, rfl⟩
 obtain ⟨D, hD⟩ : ∃ D, R9 (.mk tk tks) = D := ⟨_, rfl⟩
 have hGr := B1Q (.mk tk tks) G _ hta hty
 rw [hD] at hGr
 rw [hJ] at hI hji hjk
 have hR : M7 14 (.mk tk tks) (.mk fk fks) lb [Tm.mk ak anm anum (.mk atk atks) (.mk afk afks) alb aks] = (if fk = tk then (Tm.mk ak anm anum (.mk atk atks) (.mk afk afks) alb aks, 1, 0)
   else if tk = 1 then (K5 (K5 (Tm.mk ak anm anum (.mk atk atks) (.mk afk afks) alb aks) (.mk fk fks) (T8 (.mk fk fks)) lb) (T8 (.mk fk fks)) (.mk tk tks) lb, 1, 0)
   else if D = false then (K5 (K5 (Tm.mk ak anm anum (.mk atk atks) (.mk afk afks) alb aks) (.mk fk fks) (T8 (.mk tk tks)) lb) (T8 (.mk tk tks)) (.mk tk tks) lb, 1, 0)
   else if J = false then Q7
   else if afk = tk then (kd aks 0, 1, 0)
   else (J7, 2, lb)) := by
  rw [← hJ, ← hD]; rfl
 rw [hR]
 refine C6 Tryz.func251 rfl Tryz.ntmps251 Tryz.results251 rfl ?_
 intro w0
 refine A4 ?_
 refine sE (C9 rfl rfl) rfl (fun b3 => ?_)
 refine sE (A9 rfl) rfl (fun b4 => ?_)
 refine D4 ?_
 refine sP (B5 (j := 0) rfl rfl rfl (by simp)) rfl rfl ?_
 refine sL (A3 rfl rfl (hat0 _) rfl) rfl rfl ?_
 refine sE (A9 rfl) rfl (fun b15 => ?_)
 refine B4 ?_
 refine C5 ?_
 refine D4 ?_
 refine sB (qE rfl rfl) rfl rfl (fun h29 => ?_) (fun h29 => ?_)
 refine I7 ?_
 refine D3 (rC rfl (A5 rfl rfl)) (rT rfl) (rT rfl) ?_
 (exact M2.mk (by rw [if_pos (by omega)]) hre0)
 refine E1 ?_
 refine sB (qE rfl rfl) rfl rfl (fun h56 => ?_) (fun h56 => ?_)
 refine D4 ?_
 (have hgk : tk = 1 := (by omega); refine E6 rfl (A7L (.mk fk fks) G _ hfa hfr) rfl rfl (fun u G1 hle1 hh => ?_); obtain ⟨gc, rfl, hrg⟩ := hh; have hgs := A3K (.mk fk fks); generalize T8 (.mk fk fks) = g at hrg hgs ⊢; obtain ⟨pg, cg, eg, rfl, _⟩ := hrg.open; replace hre0 := hre0.mono hle1; replace hfr := hfr.mono hle1; replace hty := hty.mono hle1)
 refine sE (A9 rfl) rfl (fun b66 => ?_)
 refine B4 ?_
 refine D7 D8 rfl ?_
 refine L3 (i := 0) (l' := [tt,ff,ff,ff,ff,ff,ff,ff,ff,ff,ff,ff,ff,ff,ff,ff]) rfl D2 (A3 rfl rfl (B6 (by repeat first | exact mH | apply mT)) rfl) rfl (by kernel_rfl) rfl rfl ?_
 refine aL 3 rfl (A3 rfl rfl (B6 (by repeat first | exact mH | apply mT)) rfl) rfl ?_
 refine aL 7 rfl (A3 rfl rfl (B6 (by repeat first | exact mH | apply mT)) rfl) rfl ?_
 refine aP 1 rfl (B8 rfl) rfl ?_
 refine aL 2 rfl (A5 rfl rfl) rfl ?_
 refine aP 4 rfl (B8 rfl) rfl ?_
 refine aL 5 rfl (C7 rfl rfl) rfl ?_
 refine aP 8 rfl (B8 rfl) rfl ?_
 refine aL 9 rfl (A5 rfl rfl) rfl ?_
 refine aP 10 rfl (B8 rfl) rfl ?_
 refine aL 11 rfl (C7 rfl rfl) rfl ?_
 refine A2 6 ?_
 (refine H3 rfl rfl (A0T _ (.mk fk fks) _ lb G1 _ _ _ ⟨by omega, by omega⟩ hre0 hfr hrg hfa.small hgs) rfl rfl rfl (fun u G3 hle3 hh => ?_); obtain ⟨wc, rfl, hrw⟩ := hh; have hwl := hrw.len; have hwo := hrw.one; replace hrg := hrg.mono hle3; replace hty := hty.mono hle3)
 refine A2 12 ?_
 (refine H3 rfl rfl (A0T _ _ (.mk tk tks) lb G3 _ _ _ ⟨by omega, by omega⟩ hrw hrg hty hgs hta.small) rfl rfl rfl (fun u G4 hle4 hh => ?_); obtain ⟨xc, rfl, hrx⟩ := hh; have hxl := hrx.len; have hxo := hrx.one)
 refine A2 13 ?_
 (refine oS rfl rfl rfl rfl hxl hxo rfl rfl ?_ (hu := by exact E0 hxl.symm))
 refine aP 14 rfl (qA rfl) rfl ?_
 refine aP 15 rfl (qA rfl) rfl ?_
 refine B0 ?_
 refine D3 (rC rfl (A3 rfl rfl (B6 (by repeat first | exact mH | apply mT)) hxl)) (rT rfl) (rT rfl) ?_
 (exact M2.mk (by rw [if_neg (by omega), if_pos (by omega)]) hrx)
 refine E1 ?_
 refine sP (A1V rfl rfl (by omega)) rfl rfl ?_
 refine D4 ?_
 focus (cases hDD : D; all_goals (rw [hDD] at hGr; refine H6 rfl hGr rfl rfl ?_))
 refine E1 ?_
 (refine E6 rfl (A7L (.mk tk tks) G _ hta hty) rfl rfl (fun u G1 hle1 hh => ?_); obtain ⟨gc, rfl, hrg⟩ := hh; have hgs := A3K (.mk tk tks); generalize T8 (.mk tk tks) = g at hrg hgs ⊢; obtain ⟨pg, cg, eg, rfl, _⟩ := hrg.open; replace hre0 := hre0.mono hle1; replace hfr := hfr.mono hle1; replace hty := hty.mono hle1)
 refine sE (A9 rfl) rfl (fun b127 => ?_)
 refine B4 ?_
 refine D7 D8 rfl ?_
 refine L3 (i := 0) (l' := [tt,ff,ff,ff,ff,ff,ff,ff,ff,ff,ff,ff,ff,ff,ff,ff]) rfl D2 (A3 rfl rfl (B6 (by repeat first | exact mH | apply mT)) rfl) rfl (by kernel_rfl) rfl rfl ?_
 refine aL 3 rfl (A3 rfl rfl (B6 (by repeat first | exact mH | apply mT)) rfl) rfl ?_
 refine aL 7 rfl (A3 rfl rfl (B6 (by repeat first | exact mH | apply mT)) rfl) rfl ?_
 refine aP 1 rfl (B8 rfl) rfl ?_
 refine aL 2 rfl (A5 rfl rfl) rfl ?_
 refine aP 4 rfl (B8 rfl) rfl ?_
 refine aL 5 rfl (C7 rfl rfl) rfl ?_
 refine aP 8 rfl (B8 rfl) rfl ?_
 refine aL 9 rfl (A5 rfl rfl) rfl ?_
 refine aP 10 rfl (B8 rfl) rfl ?_
 refine aL 11 rfl (C7 rfl rfl) rfl ?_
 refine A2 6 ?_
 (refine H3 rfl rfl (A0T _ (.mk fk fks) _ lb G1 _ _ _ ⟨by omega, by omega⟩ hre0 hfr hrg hfa.small hgs) rfl rfl rfl (fun u G3 hle3 hh => ?_); obtain ⟨wc, rfl, hrw⟩ := hh; have hwl := hrw.len; have hwo := hrw.one; replace hrg := hrg.mono hle3; replace hty := hty.mono hle3)
 refine A2 12 ?_
 (refine H3 rfl rfl (A0T _ _ (.mk tk tks) lb G3 _ _ _ ⟨by omega, by omega⟩ hrw hrg hty hgs hta.small) rfl rfl rfl (fun u G4 hle4 hh => ?_); obtain ⟨xc, rfl, hrx⟩ := hh; have hxl := hrx.len; have hxo := hrx.one)
 refine A2 13 ?_
 (refine oS rfl rfl rfl rfl hxl hxo rfl rfl ?_ (hu := by exact E0 hxl.symm))
 refine aP 14 rfl (qA rfl) rfl ?_
 refine aP 15 rfl (qA rfl) rfl ?_
 refine B0 ?_
 refine D3 (rC rfl (A3 rfl rfl (B6 (by repeat first | exact mH | apply mT)) hxl)) (rT rfl) (rT rfl) ?_
 (exact M2.mk (by rw [if_neg (by omega), if_neg (by omega), if_pos rfl]) hrx)
 refine D4 ?_
 focus (cases hJJ : J; all_goals (rw [hJJ] at hI; refine H6 rfl hI rfl rfl ?_))
 refine K0 ?_
 refine D3 (rC rfl (A5 rfl rfl)) (rT rfl) (rT rfl) ?_
 (exact M2.mk (by rw [if_neg (by omega), if_neg (by omega), if_neg (by decide), if_pos rfl]; rfl) (Q2 _))
 refine K4 ?_
 refine sB (qE rfl rfl) rfl rfl (fun h199 => ?_) (fun h199 => ?_)
 refine D4 ?_
 (have hq1 := h14 (hjk (by assumption)); obtain ⟨bq, oq, e3, rfl, hl3, hat3, hre3, hgb3⟩ := hasl.kidTm hakl (i := 0) (by omega) (by omega); have ho3 := hre3.one; refine sP (B5 (j := 0) rfl rfl rfl (by omega)) rfl rfl ?_)
 refine sL (A3 rfl rfl (hat3 _) hl3) rfl rfl ?_
 refine sS rfl rfl rfl hl3 ho3 rfl ?_ (hu := by exact E0 hl3.symm)
 refine B7 ?_
 refine D3 (rC rfl (A3 rfl rfl (B6 (by repeat first | exact mH | apply mT)) hl3)) (rT rfl) (rT rfl) ?_
 (exact M2.mk (by rw [if_neg (by omega), if_neg (by omega), if_neg (by decide), if_neg (by decide), if_pos (by assumption), A2y (by omega)]) hre3)
 refine D4 ?_
 refine D7 D8 rfl ?_
 refine I6 (i := 0) (l' := [tt,ff,ff,ff,ff,ff]) rfl D2 (Y0 rfl rfl) rfl (by kernel_rfl) rfl rfl ?_
 refine aP 1 rfl (B8 rfl) rfl ?_
 refine aL 2 rfl (C7 rfl rfl) rfl ?_
 refine A2 3 ?_
 refine H8 rfl ?_
 refine aP 4 rfl (qA rfl) rfl ?_
 refine aP 5 rfl (qA rfl) rfl ?_
 refine B9 ?_
 refine D3 (rC rfl (A5 rfl rfl)) (rT rfl) (rT rfl) ?_
 (exact M2.mk (by rw [if_neg (by omega), if_neg (by omega), if_neg (by decide), if_neg (by decide), if_neg (by assumption)]) (Q2 _))
theorem B7G {e : Tm} (h : T5 e = true) : A0d e = R3 [] e := by
 have hs := ((A1p e).1 h).1
 obtain ⟨h1, h2⟩ := A3O e 1 [] 0 hs A4F
 unfold A0d
 cases hE : M8 [] e 0 with
 | none => rw [B1y h hE, h2 hE]
 | some r =>
  obtain ⟨u, a, l⟩ := r
  rw [B1z h hE, (h1 u a l hE).1]
theorem B7H {e u : Tm} {t : Ty} (h : O8 e = some (u, t)) : T5 e = true ∧ ∃ l, M8 [] e 0 = some (u, t, l) := by
 unfold O8 at h
 split at h
 ·rename_i hv
  refine ⟨hv, ?_⟩
  split at h
  ·rename_i u' t' l' he; cases h; exact ⟨l', he⟩
  ·cases h
 ·cases h
def A7S (t : Ty) (x : Bool) (G : IM) : IM → Value → List A6 → Prop := K8 fun G' v => ∃ cells, v = .tuple ⟨[.agg ⟨cells⟩, .bool x]⟩ ∧ C3 G' (if x = true then t else B3) cells
theorem B7I (t : Ty) (G : IM) (cells : List Value) (hr : C3 G t cells) : Fn Tryz.prog 184 [.agg ⟨cells⟩, .bool true] [] G (A7S t true G) := by
 obtain ⟨p, c, e, rfl, _⟩ := hr.open
 refine C6 Tryz.func184 rfl Tryz.ntmps184 Tryz.results184 rfl ?_
 intro w0
 refine A4 ?_
 refine sE (C9 rfl rfl) rfl (fun b3 => ?_)
 refine sE (A9 rfl) rfl (fun b4 => ?_)
 refine A0E ?_
 refine H5 (rC rfl (A5 rfl rfl)) (rT rfl) ?_
 (exact ⟨rfl, _, rfl, hr⟩)
theorem B7J (t : Ty) (G : IM) (cells : List Value) (hr : C3 G t cells) : Fn Tryz.prog 184 [.agg ⟨cells⟩, .bool false] [] G (A7S t false G) := by
 obtain ⟨p, c, e, rfl, _⟩ := hr.open
 refine C6 Tryz.func184 rfl Tryz.ntmps184 Tryz.results184 rfl ?_
 intro w0
 refine A4 ?_
 refine sE (C9 rfl rfl) rfl (fun b3 => ?_)
 refine sE (A9 rfl) rfl (fun b4 => ?_)
 refine A0D ?_
 refine H5 (rC rfl (A5 rfl rfl)) (rT rfl) ?_
 (exact ⟨rfl, _, rfl, P1 _ ⟨by omega, by omega⟩⟩)
theorem B7K (t : Ty) (x : Bool) (G : IM) (cells : List Value) (hr : C3 G t cells) : Fn Tryz.prog 184 [.agg ⟨cells⟩, .bool x] [] G (A7S t x G) := by
 cases x
 ·exact B7J t G cells hr
 ·exact B7I t G cells hr
theorem A2b.sure {o : Option Ty} {t : Ty} {G G' : IM} {cells : List Value} (h : ∀ u, o = some u → u = t) (hr : C3 G' (if o.isSome = true then t else B3) cells) : A2b o G G' (.tuple ⟨[.agg ⟨cells⟩, .bool o.isSome]⟩) [] := by
 cases o with
 | none => exact ⟨rfl, cells, B3, rfl, hr, by simp⟩
 | some u => exact ⟨rfl, cells, t, rfl, hr, fun x hx => by cases hx; exact (h _ rfl).symm⟩
theorem B7L (e : Tm) (G : IM) (cells : List Value) (hcnt : D1 e ≤ 4294967296) (hr : B1 G e cells) :
  Fn Tryz.prog 134 [.slice none 0 0, .agg ⟨cells⟩] [] G (A2b (A0d e) G) := by
 have hl := hr.len
 have hone := hr.one
 have hw := A5s e G cells hcnt hr
 have hT := fun h : T5 e = true => B1P e 1 [] G none 0 0 cells ((A1p e).1 h).1 (by omega) A4F (U4.nil G) hr
 have hts := fun h => @B7G e h
 have hno := @B7d e
 refine C6 Tryz.func134 rfl Tryz.ntmps134 Tryz.results134 rfl ?_
 intro w0
 refine A4 ?_
 refine sE (C9 rfl rfl) rfl (fun b3 => ?_)
 refine sE (A9 rfl) rfl (fun b4 => ?_)
 refine B7 ?_
 refine H6 rfl ((B4W _)) rfl rfl ?_
 refine A4 ?_
 refine sL (A3 rfl rfl (B6 (by repeat first | exact mH | apply mT)) (by assumption)) rfl rfl ?_
 refine H1 rfl (hw) rfl rfl (fun h16 => ?_) (fun h16 => ?_)
 refine J2 ?_
 refine sL (A3 rfl rfl (B6 (by repeat first | exact mH | apply mT)) (by assumption)) rfl rfl ?_
 (refine E6 rfl (hT (by assumption)) rfl rfl (fun v G1 hle1 hh => ?_); obtain ⟨mt, mc, rfl, hmr, hma, hmu⟩ := hh; obtain ⟨p1, c1, e1, rfl, _⟩ := hmr.open; have hmo := hts (by assumption))
 refine A4 ?_
 (refine E6 rfl (B7K mt _ _ _ hmr) rfl rfl (fun v G2 hle2 hh => ?_); obtain ⟨mc2, rfl, hmr2⟩ := hh; obtain ⟨p2, c2, e2, rfl, _⟩ := hmr2.open)
 refine B7 ?_
 refine H5 (rC rfl (A5 rfl rfl)) (rT rfl) ?_
 (rw [hmo]; exact A2b.sure hmu hmr2)
 refine J5 ?_
 refine H5 (rC rfl (A5 rfl rfl)) (rT rfl) ?_
 (exact A2b.no (u := B3) (P1 _ ⟨by omega, by omega⟩) rfl (hno (by assumption)))
theorem B1V (e : Tm) (G : IM) (cells : List Value) (hcnt : D1 e ≤ 4294967296) (hr : B1 G e cells) :
  Fn Tryz.prog 92 [.agg ⟨cells⟩] [] G (A2b (A0d e) G) := by
 have hl := hr.len
 have hone := hr.one
 refine C6 Tryz.func92 rfl Tryz.ntmps92 Tryz.results92 rfl ?_
 intro w0
 refine A4 ?_
 refine sE (C9 rfl rfl) rfl (fun b3 => ?_)
 refine sE (A9 rfl) rfl (fun b4 => ?_)
 refine B0 ?_
 refine sL (A3 rfl rfl (B6 (by repeat first | exact mH | apply mT)) (by assumption)) rfl rfl ?_
 (refine E6 rfl (B7L e G cells hcnt hr) rfl rfl (fun v G1 hle1 hh => ?_); obtain ⟨cu, u, rfl, hru, hu⟩ := hh; obtain ⟨p1, c1, e1, rfl, _⟩ := hru.open)
 refine B7 ?_
 refine H5 (rC rfl (A5 rfl rfl)) (rT rfl) ?_
 (exact ⟨rfl, _, u, rfl, hru, hu⟩)
def A3j (e : Tm) (a b : Ty) (l : Int) : IM → Value → List A6 → Prop := K8 fun G' v => ∃ cells, v = .tuple ⟨[.agg ⟨cells⟩, .int .i64 (if N3 a b = true then l else l + 1)]⟩ ∧ B1 G' (if N3 a b = true then e else K5 e a b l) cells
theorem A3j.yes {G : IM} {e : Tm} {a b : Ty} {l : Int} {cells : List Value} (h : N3 a b = true) (hr : B1 G e cells) : A3j e a b l G (.tuple ⟨[.agg ⟨cells⟩, .int .i64 l]⟩) [] := ⟨rfl, cells, by rw [if_pos h], by rw [if_pos h]; exact hr⟩
theorem A3j.no {G : IM} {e : Tm} {a b : Ty} {l : Int} {cells : List Value} (h : N3 a b = false) (hr : B1 G (K5 e a b l) cells) : A3j e a b l G (.tuple ⟨[.agg ⟨cells⟩, .int .i64 (l + 1)]⟩) [] := ⟨rfl, cells, by rw [if_neg (by rw [h]; decide)], by rw [if_neg (by rw [h]; decide)]; exact hr⟩
theorem A7T {Q : Prop} (h : Q := by (exact A3j.no (by assumption) (B1.of9 (ks := [e]) ⟨by omega, by omega⟩ ⟨by omega, by omega⟩ ⟨by omega, by omega⟩ (hr2.mono hle5) (hr1.mono hle5) hone1 hone2))) : Q := h
theorem B7M (e : Tm) (a b : Ty) (label : Int) (G : IM) (ce ca cb : List Value) (hlab : -1099511627776 ≤ label ∧ label ≤ 1099511627776) (hr : B1 G e ce) (hra : C3 G a ca) (hrb : C3 G b cb) (hsa : a.small) (hsb : b.small) :
  Fn Tryz.prog 143 [.agg ⟨ce⟩, .agg ⟨ca⟩, .agg ⟨cb⟩, .int .i64 label] [] G (A3j e a b label) := by
 have hl := hr.len
 have hone := hr.one
 obtain ⟨hlab1, hlab2⟩ := hlab
 have hSame := B1K a b G ca cb hra hrb
 obtain ⟨ak, aks⟩ := a
 obtain ⟨bk, bks⟩ := b
 obtain ⟨pa, cca, ea, rfl, _⟩ := hra.open
 obtain ⟨pb, ccb, eb, rfl, _⟩ := hrb.open
 simp only [Ty.k, Ty.ks] at hra hrb hSame ⊢
 obtain ⟨v1, v2, v3, v4, v5, v6, v7, v8, v9, rfl⟩ := nine hl
 refine C6 Tryz.func143 rfl Tryz.ntmps143 Tryz.results143 rfl ?_
 intro w0
 refine A4 ?_
 refine sE (C9 rfl rfl) rfl (fun b3 => ?_)
 refine sE (C9 rfl rfl) rfl (fun b4 => ?_)
 refine sE (C9 rfl rfl) rfl (fun b5 => ?_)
 refine sE (A9 rfl) rfl (fun b6 => ?_)
 refine D4 ?_
 refine H1 rfl (hSame) rfl rfl (fun h15 => ?_) (fun h15 => ?_)
 refine B0 ?_
 refine sL (A3 rfl rfl (B6 (by repeat first | exact mH | apply mT)) hl) rfl rfl ?_
 refine F8 ?_
 refine sS rfl rfl rfl hl hone rfl ?_ (hu := by exact E0 hl.symm)
 refine B0 ?_
 refine H5 (rC rfl (A3 rfl rfl (B6 (by repeat first | exact mH | apply mT)) hl)) (rT rfl) ?_
 (exact A3j.yes (by assumption) hr)
 refine A8 ?_
 refine D7 D8 rfl ?_
 refine L3 (i := 5) (l' := [ff,ff,ff,ff,ff,tt,ff,ff,ff,ff,ff,ff]) rfl D2 (A3 rfl rfl (B6 (by repeat first | exact mH | apply mT)) hl) rfl (by kernel_rfl) rfl rfl ?_
 refine aL 0 rfl (A5 rfl rfl) rfl ?_
 refine aL 2 rfl (A5 rfl rfl) rfl ?_
 refine aP 4 rfl (qM rfl) rfl ?_
 refine aP 8 rfl (qM rfl) rfl ?_
 refine aP 9 rfl (H9 rfl rfl (by omega) (by omega)) rfl ?_
 refine Q3 (j := 1) (j' := 6) (by kernel_rfl) ?_ ?_
 (refine H3 rfl rfl (Q5 _ _ _ hsa hra) rfl rfl rfl (fun v G1 hle1 hh => ?_); obtain ⟨cs1, F1, rfl, hs1, hn1⟩ := hh; obtain ⟨p1, c1, rfl, _⟩ := hs1.open; have hC2 := Q5 _ G1 _ hsb (hrb.mono hle1))
 refine Q3 (j := 3) (j' := 6) (by kernel_rfl) ?_ ?_
 (refine H3 rfl rfl hC2 rfl rfl rfl (fun v G2 hle2 hh => ?_); obtain ⟨cs2, F2, rfl, hs2, hn2⟩ := hh; obtain ⟨p2, c2, rfl, _⟩ := hs2.open; have hr1 := hs1.R.mono ((C2.le G1 _).trans hle2); have hr2 := hs2.R.mono (C2.le G2 G1); have hre := hr.mono (hle1.trans hle2))
 refine A2 6 ?_
 (refine E2 rfl (D0 rfl rfl rfl (by omega) (by unfold maxLen; omega) rfl) rfl rfl ?_; rintro _ ⟨b49, rfl⟩)
 refine aP 7 rfl (Y0 rfl rfl) rfl ?_
 refine A2 10 ?_
 refine H8 rfl ?_
 refine aP 11 rfl (qA rfl) rfl ?_
 refine A4 ?_
 (refine H2 (cs := [v1, v2, v3, v4, v5, v6, v7, v8, v9]) (by repeat (first | exact Pk.here | apply Pk.there)) (fun G5 hle5 hsl5 hno5 => ?_); obtain ⟨hone1, hone2⟩ := A23 (hre.mono hle5) hsl5)
 refine tT ?_
 refine H5 (rC rfl (A5 rfl rfl)) (rT rfl) ?_
 exact A7T
 (refine E2 rfl (D0 rfl rfl rfl (by omega) (by unfold maxLen; omega) rfl) rfl rfl ?_; rintro _ ⟨b60, rfl⟩)
 refine A2 3 ?_
 (refine H3 rfl rfl hC2 rfl rfl rfl (fun v G2 hle2 hh => ?_); obtain ⟨cs2, F2, rfl, hs2, hn2⟩ := hh; obtain ⟨p2, c2, rfl, _⟩ := hs2.open; have hr1 := hs1.R.mono ((C2.le G1 _).trans hle2); have hr2 := hs2.R.mono (C2.le G2 G1); have hre := hr.mono (hle1.trans hle2))
 refine aP 7 rfl (Y0 rfl rfl) rfl ?_
 refine A2 10 ?_
 refine H8 rfl ?_
 refine aP 11 rfl (qA rfl) rfl ?_
 refine A4 ?_
 (refine H2 (cs := [v1, v2, v3, v4, v5, v6, v7, v8, v9]) (by repeat (first | exact Pk.here | apply Pk.there)) (fun G5 hle5 hsl5 hno5 => ?_); obtain ⟨hone1, hone2⟩ := A23 (hre.mono hle5) hsl5)
 refine tT ?_
 refine H5 (rC rfl (A5 rfl rfl)) (rT rfl) ?_
 exact A7T
 (refine E2 rfl (D0 rfl rfl rfl (by omega) (by unfold maxLen; omega) rfl) rfl rfl ?_; rintro _ ⟨b73, rfl⟩)
 refine A2 1 ?_
 (refine H3 rfl rfl (Q5 _ _ _ hsa hra) rfl rfl rfl (fun v G1 hle1 hh => ?_); obtain ⟨cs1, F1, rfl, hs1, hn1⟩ := hh; obtain ⟨p1, c1, rfl, _⟩ := hs1.open; have hC2 := Q5 _ G1 _ hsb (hrb.mono hle1))
 refine A2 3 ?_
 (refine H3 rfl rfl hC2 rfl rfl rfl (fun v G2 hle2 hh => ?_); obtain ⟨cs2, F2, rfl, hs2, hn2⟩ := hh; obtain ⟨p2, c2, rfl, _⟩ := hs2.open; have hr1 := hs1.R.mono ((C2.le G1 _).trans hle2); have hr2 := hs2.R.mono (C2.le G2 G1); have hre := hr.mono (hle1.trans hle2))
 refine aP 7 rfl (Y0 rfl rfl) rfl ?_
 refine A2 10 ?_
 refine H8 rfl ?_
 refine aP 11 rfl (qA rfl) rfl ?_
 refine A4 ?_
 (refine H2 (cs := [v1, v2, v3, v4, v5, v6, v7, v8, v9]) (by repeat (first | exact Pk.here | apply Pk.there)) (fun G5 hle5 hsl5 hno5 => ?_); obtain ⟨hone1, hone2⟩ := A23 (hre.mono hle5) hsl5)
 refine tT ?_
 refine H5 (rC rfl (A5 rfl rfl)) (rT rfl) ?_
 exact A7T
def T2 (w ts : List Ty) : List Ty := if w = [] then ts else w
theorem A4V {a : Ty} {w ts : List Ty} : T2 (a :: w) ts = a :: w := by unfold T2; rw [if_neg (by simp)]
def Y8 (ws : List Ty) (n : Nat) (G : IM) : IM → Value → List A6 → Prop := K8 fun G' v => ∃ p c es, v = .slice p n c ∧ ws.length = n ∧ E3 G' p n c 2 es ∧ D5 G' ws es
theorem Y8.mk {G G' : IM} {p : Option Addr} {n c : Nat} {ws ws' : List Ty} {es : List (List Value)} (he : ws = ws') (hl : ws'.length = n) (hs : Sl G' p n c 2 es.flatten) (hst : D5 G' ws' es) : Y8 ws n G G' (.slice p n c) [] := by
 subst he
 exact ⟨rfl, p, c, es, rfl, hl, E3.of hs (by rw [hst.len, hl]) hst.all (fun e he => (hst.each e he).2), hst⟩
theorem Y8.mk1 {G G' : IM} {p : Option Addr} {n c : Nat} {ws : List Ty} {a : Ty} {ca : List Value} (he : ws = [a]) (hn : n = 1) (hs : Sl G' p 1 c 2 ca) (ha : C3 G' a ca) : Y8 ws n G G' (.slice p 1 c) [] := by
 subst hn
 exact Y8.mk (ws' := [a]) (es := [ca]) he rfl (by simpa using hs) ⟨_, _, rfl, ha, rfl⟩
theorem Y8.mk2 {G G' : IM} {p : Option Addr} {n c : Nat} {ws : List Ty} {a b : Ty} {ca cb : List Value} (he : ws = [a, b]) (hn : n = 2) (hs : Sl G' p 2 c 2 (ca ++ cb)) (ha : C3 G' a ca) (hb : C3 G' b cb) : Y8 ws n G G' (.slice p 2 c) [] := by
 subst hn
 exact Y8.mk (ws' := [a, b]) (es := [ca, cb]) he rfl (by simpa using hs) ⟨_, _, rfl, ha, _, _, rfl, hb, rfl⟩
theorem Y8.mk3 {G G' : IM} {p : Option Addr} {n c : Nat} {ws : List Ty} {a b d : Ty} {ca cb cd : List Value} (he : ws = [a, b, d]) (hn : n = 3) (hs : Sl G' p 3 c 2 (ca ++ (cb ++ cd))) (ha : C3 G' a ca) (hb : C3 G' b cb) (hd : C3 G' d cd) : Y8 ws n G G' (.slice p 3 c) [] := by
 subst hn
 exact Y8.mk (ws' := [a, b, d]) (es := [ca, cb, cd]) he rfl (by simpa using hs) ⟨_, _, rfl, ha, _, _, rfl, hb, _, _, rfl, hd, rfl⟩
section
variable {cx : Cx} {k : Int} {nm : ByteArray} {ty : Ty} {ts w : List Ty} {t : Ty}
theorem wo6 (hk : k = 6) (h : J6 cx k nm ty ts = some (w, t)) (hl : 0 < ts.length) : ∃ a b, S1 4 ts[0] = some (a, b) ∧ T2 w ts = [.mk 4 [a, b], a] := by
 subst hk
 rw [mW6, gD hl] at h
 split at h
 ·rename_i a b hm
  split at h
  ·cases h; exact ⟨a, _, hm, A4V⟩
  ·cases h
 ·cases h
theorem B7N (hk : k = 7 ∨ k = 8) (h : J6 cx k nm ty ts = some (w, t)) : T2 w ts = [Q9, Q9] := by
 rw [X3 hk] at h
 split at h
 ·cases h; exact A4V
 ·cases h
theorem wo9 (hk : k = 9) (h : J6 cx k nm ty ts = some (w, t)) : T2 w ts = [U9, t, t] := by
 subst hk
 rw [mW9] at h
 split at h
 ·cases h; exact A4V
 ·cases h
theorem B7O (hk : k = 11 ∨ k = 12) (h : J6 cx k nm ty ts = some (w, t)) (hl : 0 < ts.length) : ∃ a b, S1 5 ts[0] = some (a, b) ∧ T2 w ts = [.mk 5 [a, b]] := by
 rw [A3N hk, gD hl] at h
 split at h
 ·rename_i a b hm; cases h; exact ⟨a, b, hm, A4V⟩
 ·cases h
theorem B7P (hk : k = 13) (h : J6 cx k nm ty ts = some (w, t)) : T2 w ts = [t] := by
 subst hk
 rw [A28] at h
 split at h
 ·cases h; exact A4V
 ·cases h
theorem wo0 (hk : 1 ≤ k ∧ k ≤ 5 ∨ k = 10) (h : J6 cx k nm ty ts = some (w, t)) : T2 w ts = ts := by
 have : w = [] := by
  have hk' : k = 1 ∨ k = 2 ∨ (k = 3 ∨ k = 4) ∨ k = 5 ∨ k = 10 := by omega
  rcases hk' with rfl | rfl | hk | rfl | rfl
  ·rw [mW1] at h; split at h <;> cases h; rfl
  ·rw [mW2] at h; cases h; rfl
  ·rw [A4C hk] at h; cases h; rfl
  ·rw [mW5] at h; cases h; rfl
  ·rw [A5D] at h; cases h; rfl
 subst this; rfl
end
theorem B1W {Q : Prop} (h : Q := by (exact Y8.mk2 (o78 (by omega)) (hop.1 (by omega)) hsl5 (K9 _) (K9 _))) : Q := h
theorem B7Q (cx : Cx) (k : Int) (nm : ByteArray) (num : Int) (ty fr : Ty) (lb : Int) (ks : List Tm) (ts w : List Ty) (t : Ty) (G : IM) (cells tcells : List Value) (p : Option Addr) (c : Nat) (es : List (List Value))
  (hw : J6 cx k nm ty ts = some (w, t)) (hk14 : k ≠ 14) (hops : D9 k = ts.length) (hr : B1 G (.mk k nm num ty fr lb ks) cells) (hsl : E3 G p ts.length c 2 es) (hkl : D5 G ts es) (har : ∀ t ∈ ts, F9 t) (hrt : C3 G t tcells) :
  Fn Tryz.prog 142 [.agg ⟨cells⟩, .slice p ts.length c, .agg ⟨tcells⟩] [] G (Y8 (T2 w ts) ts.length G) := by
 have hone := hr.one
 have hop := A3G hops
 have hkr : 1 ≤ k ∧ k ≤ 14 := A4Q (by rw [hops]; omega)
 have ha0 := fun h : 0 < ts.length => har _ (List.getElem_mem h)
 obtain ⟨tyk, tyks⟩ := ty
 obtain ⟨fk, fks⟩ := fr
 obtain ⟨tk, tks⟩ := t
 obtain ⟨q9, d9, e9, rfl, _⟩ := hrt.open
 obtain ⟨pt, ct, pf, cf, pk, ck, ek, rfl, hk, hnum, hlb, hrty, hrfr, _, _⟩ := hr.open9
 have o6 := fun h hl => wo6 h hw hl
 have o78 := fun h => B7N h hw
 have o9 := fun h => wo9 h hw
 have o11 := fun h hl => B7O h hw hl
 have o13 := fun h => B7P h hw
 have o0 := fun h => wo0 h hw
 refine C6 Tryz.func142 rfl Tryz.ntmps142 Tryz.results142 rfl ?_
 intro w0
 refine A4 ?_
 refine sE (C9 rfl rfl) rfl (fun b3 => ?_)
 refine sE (C9 rfl rfl) rfl (fun b4 => ?_)
 refine J2 ?_
 refine C5 (tS (tR (sB (qE rfl rfl) rfl rfl (fun h18 => ?_) (fun h18 => ?_))))
 refine B7 ?_
 (have hl2 : ts.length = 2 := hop.1 (by omega); obtain ⟨b0, o0', q0, d0, hp0, hat0, hre0, hg0⟩ := hsl.kidTy hkl (i := 0) (by omega) (by omega); cases hp0; refine sP (B5 (j := 0) rfl rfl rfl (by omega)) rfl rfl ?_)
 refine sL (A3 rfl rfl (hat0 _) rfl) rfl rfl ?_
 (obtain ⟨ma', mb', hm, hwo⟩ := o6 (by omega) (by omega); refine E6 rfl (A3X 4 ts[0] G _ (.inl rfl) (ha0 (by omega)) hre0) rfl rfl (fun v G1 hle1 hh => ?_); obtain ⟨ma, mca, mb, mcb, rfl, hma, hmb, hma2, hmb2, hpp⟩ := hh; have hpe := hpp _ hm; simp only [Prod.mk.injEq] at hpe; obtain ⟨rfl, rfl⟩ := hpe; obtain ⟨p1, c1, e1, rfl, _⟩ := hma.open; obtain ⟨p2, c2, e2, rfl, _⟩ := hmb.open; have hTwo := A3i 4 _ _ G1 _ _ (.inl rfl) hma2 hmb2 hma hmb)
 refine B4 ?_
 refine sE (A9 rfl) rfl (fun b33 => ?_)
 refine sE (A9 rfl) rfl (fun b34 => ?_)
 refine E1 ?_
 (refine E6 rfl hTwo rfl rfl (fun v G2 hle2 hh => ?_); obtain ⟨mc, rfl, hmr⟩ := hh; obtain ⟨p3, c3, e3, rfl, _⟩ := hmr.open; have hma4 := hma.mono hle2)
 refine B9 ?_
 refine sE (A9 rfl) rfl (fun b48 => ?_)
 refine D4 ?_
 (refine I3 (D0 rfl rfl rfl (by omega) (by unfold maxLen; omega) rfl) rfl ?_; rintro _ ⟨b57, rfl⟩)
 refine B9 ?_
 (refine H2 (by repeat (first | exact Pk.here | apply Pk.there)) (fun G5 hle5 hsl5 hno5 => ?_))
 refine B4 ?_
 (exact Y8.mk2 hwo (hop.1 (by omega)) hsl5 (hmr.mono hle5) (hma4.mono hle5))
 refine B7 ?_
 refine sB (qE rfl rfl) rfl rfl (fun h74 => ?_) (fun h74 => ?_)
 refine E1 ?_
 refine H6 rfl ((A0H _)) rfl rfl ?_
 refine H6 rfl ((A0H _)) rfl rfl ?_
 (refine I3 (D0 rfl rfl rfl (by omega) (by unfold maxLen; omega) rfl) rfl ?_; rintro _ ⟨b86, rfl⟩)
 refine B9 ?_
 (refine H2 (by repeat (first | exact Pk.here | apply Pk.there)) (fun G5 hle5 hsl5 hno5 => ?_))
 refine B4 ?_
 exact B1W
 refine B0 ?_
 refine sB (qE rfl rfl) rfl rfl (fun h101 => ?_) (fun h101 => ?_)
 refine A8 ?_
 refine H6 rfl ((A0H _)) rfl rfl ?_
 refine H6 rfl ((A0H _)) rfl rfl ?_
 (refine I3 (D0 rfl rfl rfl (by omega) (by unfold maxLen; omega) rfl) rfl ?_; rintro _ ⟨b110, rfl⟩)
 refine B9 ?_
 (refine H2 (by repeat (first | exact Pk.here | apply Pk.there)) (fun G5 hle5 hsl5 hno5 => ?_))
 refine B4 ?_
 exact B1W
 refine A8 ?_
 refine sB (qE rfl rfl) rfl rfl (fun h126 => ?_) (fun h126 => ?_)
 refine B0 ?_
 refine D7 D8 rfl ?_
 refine L3 (i := 1) (l' := [ff,tt,ff,ff,ff]) rfl D2 (A5 rfl rfl) rfl (by kernel_rfl) rfl rfl ?_
 refine aL 2 rfl (A5 rfl rfl) rfl ?_
 refine A2 0 ?_
 refine N6 rfl rfl ((A3E _)) rfl rfl rfl ?_
 refine A2 3 ?_
 (refine E2 rfl (D0 rfl rfl rfl (by omega) (by unfold maxLen; omega) rfl) rfl rfl ?_; rintro _ ⟨b138, rfl⟩)
 refine aP 4 rfl (qA rfl) rfl ?_
 refine A4 ?_
 (refine H2 (by repeat (first | exact Pk.here | apply Pk.there)) (fun G5 hle5 hsl5 hno5 => ?_))
 refine B4 ?_
 (exact Y8.mk3 (o9 (by omega)) (hop.2.1 (by omega)) hsl5 (A0w _) (hrt.mono hle5) (hrt.mono hle5))
 refine B7 ?_
 refine sB (qE rfl rfl) rfl rfl (fun h155 => ?_) (fun h155 => ?_)
 refine J2 ?_
 (have hl1 : ts.length = 1 := hop.2.2 (by omega); obtain ⟨b0, o0', q0, d0, hp0, hat0, hre0, hg0⟩ := hsl.kidTy hkl (i := 0) (by omega) (by omega); cases hp0; refine sP (B5 (j := 0) rfl rfl rfl (by omega)) rfl rfl ?_)
 refine sL (A3 rfl rfl (hat0 _) rfl) rfl rfl ?_
 (obtain ⟨ma', mb', hm, hwo⟩ := o11 (by omega) (by omega); refine E6 rfl (A3X 5 ts[0] G _ (.inr rfl) (ha0 (by omega)) hre0) rfl rfl (fun v G1 hle1 hh => ?_); obtain ⟨ma, mca, mb, mcb, rfl, hma, hmb, hma2, hmb2, hpp⟩ := hh; have hpe := hpp _ hm; simp only [Prod.mk.injEq] at hpe; obtain ⟨rfl, rfl⟩ := hpe; obtain ⟨p1, c1, e1, rfl, _⟩ := hma.open; obtain ⟨p2, c2, e2, rfl, _⟩ := hmb.open; have hTwo := A3i 5 _ _ G1 _ _ (.inr rfl) hma2 hmb2 hma hmb)
 refine B4 ?_
 refine sE (A9 rfl) rfl (fun b173 => ?_)
 refine sE (A9 rfl) rfl (fun b174 => ?_)
 refine E1 ?_
 (refine E6 rfl hTwo rfl rfl (fun v G2 hle2 hh => ?_); obtain ⟨mc, rfl, hmr⟩ := hh; obtain ⟨p3, c3, e3, rfl, _⟩ := hmr.open; have hma4 := hma.mono hle2)
 refine B9 ?_
 refine sE (A9 rfl) rfl (fun b188 => ?_)
 refine B7 ?_
 (refine I3 (D0 rfl rfl rfl (by omega) (by unfold maxLen; omega) rfl) rfl ?_; rintro _ ⟨b196, rfl⟩)
 refine B9 ?_
 (refine H2 (by repeat (first | exact Pk.here | apply Pk.there)) (fun G5 hle5 hsl5 hno5 => ?_))
 refine B4 ?_
 (exact Y8.mk1 hwo (hop.2.2 (by omega)) hsl5 (hmr.mono hle5))
 refine B0 ?_
 refine sB (qE rfl rfl) rfl rfl (fun h211 => ?_) (fun h211 => ?_)
 refine B7 ?_
 (have hl1 : ts.length = 1 := hop.2.2 (by omega); obtain ⟨b0, o0', q0, d0, hp0, hat0, hre0, hg0⟩ := hsl.kidTy hkl (i := 0) (by omega) (by omega); cases hp0; refine sP (B5 (j := 0) rfl rfl rfl (by omega)) rfl rfl ?_)
 refine sL (A3 rfl rfl (hat0 _) rfl) rfl rfl ?_
 (obtain ⟨ma', mb', hm, hwo⟩ := o11 (by omega) (by omega); refine E6 rfl (A3X 5 ts[0] G _ (.inr rfl) (ha0 (by omega)) hre0) rfl rfl (fun v G1 hle1 hh => ?_); obtain ⟨ma, mca, mb, mcb, rfl, hma, hmb, hma2, hmb2, hpp⟩ := hh; have hpe := hpp _ hm; simp only [Prod.mk.injEq] at hpe; obtain ⟨rfl, rfl⟩ := hpe; obtain ⟨p1, c1, e1, rfl, _⟩ := hma.open; obtain ⟨p2, c2, e2, rfl, _⟩ := hmb.open; have hTwo := A3i 5 _ _ G1 _ _ (.inr rfl) hma2 hmb2 hma hmb)
 refine B4 ?_
 refine sE (A9 rfl) rfl (fun b226 => ?_)
 refine sE (A9 rfl) rfl (fun b227 => ?_)
 refine E1 ?_
 (refine E6 rfl hTwo rfl rfl (fun v G2 hle2 hh => ?_); obtain ⟨mc, rfl, hmr⟩ := hh; obtain ⟨p3, c3, e3, rfl, _⟩ := hmr.open; have hma4 := hma.mono hle2)
 refine B9 ?_
 refine sE (A9 rfl) rfl (fun b241 => ?_)
 refine B7 ?_
 (refine I3 (D0 rfl rfl rfl (by omega) (by unfold maxLen; omega) rfl) rfl ?_; rintro _ ⟨b249, rfl⟩)
 refine B9 ?_
 (refine H2 (by repeat (first | exact Pk.here | apply Pk.there)) (fun G5 hle5 hsl5 hno5 => ?_))
 refine B4 ?_
 (exact Y8.mk1 hwo (hop.2.2 (by omega)) hsl5 (hmr.mono hle5))
 refine A8 ?_
 refine sB (qE rfl rfl) rfl rfl (fun h265 => ?_) (fun h265 => ?_)
 refine B7 ?_
 (refine I3 (D0 rfl rfl rfl (by omega) (by unfold maxLen; omega) rfl) rfl ?_; rintro _ ⟨b273, rfl⟩)
 refine B9 ?_
 (refine H2 (by repeat (first | exact Pk.here | apply Pk.there)) (fun G5 hle5 hsl5 hno5 => ?_))
 refine B4 ?_
 (exact Y8.mk1 (o13 (by omega)) (hop.2.2 (by omega)) hsl5 (hrt.mono hle5))
 refine I7 ?_
 (exact Y8.mk (o0 (by omega)) rfl hsl.sl hkl)
theorem B1X : ∀ (us : List Tm) (h : List Ty) (l : Int), E9 us h h l = (us, l)
 | [], h, l => by simp [E9]
 | u :: us, [], l => by simp [E9]
 | u :: us, a :: h, l => by simp only [E9, A6M, if_true, B1X us h l]
theorem A53 {us : List Tm} {h w : List Ty} {l : Int} : E9 us h (T2 w h) l = E9 us h w l := by
 unfold T2
 split
 ·rename_i hw; subst hw; rw [B1X, W1]
 ·rfl
theorem B7R {cx : Cx} {k : Int} {nm : ByteArray} {ty : Ty} {h w : List Ty} {t : Ty} (hh : ∀ a ∈ h, F4 a = true) (hw : Wt cx k nm ty h w t) : ∀ a ∈ T2 w h, F4 a = true := by
 intro a ha
 unfold T2 at ha
 split at ha
 ·exact hh a ha
 ·rename_i hne
  obtain ⟨i, hi, rfl⟩ := List.mem_iff_getElem.1 ha
  exact (hw.ok i hi (by rcases hw.len with h1 | h1; exact absurd h1 hne; omega)).2
def B7S (u : Tm) (t : Ty) (l : Int) (G : IM) : IM → Value → List A6 → Prop := K8 fun G' v => ∃ cu ct, v = .tuple ⟨[.agg ⟨cu⟩, .agg ⟨ct⟩, .int .i64 (l + 1)]⟩ ∧ B1 G' u cu ∧ C3 G' t ct
theorem B1Y {cx : Cx} : ∀ {ks : List Tm} {l : Int} {us : List Tm} {h : List Ty} {l' : Int}, L6 cx ks l = some (us, h, l') → us.length = ks.length ∧ h.length = ks.length
 | [], l, us, h, l', he => by simp only [L6, Option.some.injEq, Prod.mk.injEq] at he; obtain ⟨rfl, rfl, _⟩ := he; exact ⟨rfl, rfl⟩
 | t :: ts, l, us, h, l', he => by
  rw [L6] at he
  split at he
  ·cases he
  ·split at he
   ·cases he
   ·rename_i hz
    simp only [Option.some.injEq, Prod.mk.injEq] at he
    obtain ⟨rfl, rfl, _⟩ := he
    have := B1Y hz
    simp [this.1, this.2]
theorem B7T : ∀ (e : Tm) (d : Int) (cx : Cx) (l0 : Int) (u0 : Tm) (t0 : Ty) (l1 : Int) (G : IM) (p : Option Addr) (n c : Nat) (cells : List Value), M8 cx e l0 = some (u0, t0, l1) → N5 12 14 e d = true → (n : Int) ≤ d → cxV cx → U4 G cx p n c → B1 G e cells → 0 ≤ l0 → l0 + (D1 e : Int) ≤ 1000000000 →
  Fn Tryz.prog 101 [.slice p n c, .agg ⟨cells⟩, .int .i64 (l0 + 1)] [] G (B7S u0 t0 l1 G) := by
 refine Tm.ind fun k nm num ty fr lb ks ih d cx l0 u0 t0 l1 G p n c cells hel hv hnd hcv hx hr hl0 hlc => ?_
 have hr0 := hr
 have hone := hr.one
 have hT := B1P _ d cx G p n c cells hv hnd hcv hx hr
 obtain ⟨hts1, hts2⟩ := (A3O _ d cx l0 hv hcv).1 u0 t0 l1 hel
 rw [hts1] at hT
 have hsm := A94 _ d hv
 obtain ⟨hv1, hv2, hv3, hv4⟩ := A0R hv
 have hvk := (A1A 12 14 ks _).1 hv4
 have har := (V8.1 hv3).1
 have hop := A3G har
 obtain ⟨hta, hts⟩ := A3H hv3
 have hcvX : cxV (K1 cx k nm ty) := A4G hcv fun hk => (V8.1 hv3).2.2.2.2.2.1 (.inl hk)
 have hck : D1 (.mk k nm num ty fr lb ks) = E8 ks + 1 := Z4 ..
 rw [hck] at hlc
 rw [M8] at hel
 rcases hEL : L6 (K1 cx k nm ty) ks l0 with _ | ⟨usA, tsA, lA⟩
 ·rw [hEL] at hel; cases hel
 rw [hEL] at hel
 unfold R2 at hel
 rcases hNT : U3 cx k nm ty tsA with _ | ⟨w, t9⟩
 ·simp only [hNT] at hel; cases hel
 simp only [hNT, Option.some.injEq, Prod.mk.injEq] at hel
 obtain ⟨hu0, rfl, rfl⟩ := hel
 obtain ⟨hlA1, hlA2⟩ := B1Y hEL
 have hmw := (A4D hNT).2
 obtain ⟨_, htv, _⟩ := (B0s ks (fun t ht d' cx' l' h1 h2 => A3O t d' cx' l' h1 h2) (d + 1) _ l0 hv4 hcvX).1 usA tsA lA hEL
 have hcAll := A1E usA tsA w lA
 have hWV : ∀ a ∈ T2 w tsA, F4 a = true := B7R htv (B1h htv (fun hk => (V8.1 hv3).2.2.2.2.2.1 (.inr (.inl hk))) (by rw [hlA2]; exact har) hv2 hmw)
 obtain ⟨tk, tks⟩ := ty
 obtain ⟨fk, fks⟩ := fr
 obtain ⟨pt, ct, pf, cf, q, cq, es, rfl, hk, hnum, hlb, hty, hfr, hsl, hkl⟩ := hr.open9
 have hlen : ks.length ≤ 3 := by have := A1B k; omega
 have hk13 : k = 13 → ks.length = 1 := fun h => hop.2.2 (by omega)
 refine C6 Tryz.func101 rfl Tryz.ntmps101 Tryz.results101 rfl ?_
 intro w0
 refine A4 ?_
 refine sE (C9 rfl rfl) rfl (fun b3 => ?_)
 refine sE (A9 rfl) rfl (fun b4 => ?_)
 refine sE (A9 rfl) rfl (fun b5 => ?_)
 refine B7 ?_
 (refine E6 rfl hT rfl rfl (fun v G1 hle1 hh => ?_); obtain ⟨mt, mc, rfl, hmr, hma, hmu⟩ := hh; obtain rfl := hmu _ rfl; obtain ⟨p1, d1, e1, rfl, _⟩ := hmr.open; have hC := A3D _ G1 _ hsm (hr0.mono hle1))
 refine B9 ?_
 refine sE (A9 rfl) rfl (fun b17 => ?_)
 refine B7 ?_
 (refine E6 rfl hC rfl rfl (fun v G2 hle2 hh => ?_); obtain ⟨cs1, F1, rfl, hs1, hn1⟩ := hh; have hr1 := hs1.R.mono (C2.le G2 G1); obtain ⟨q1, c1, q2, c2, q3, c3, es1, rfl, _, _, _, hty1, hfr1, _, _⟩ := hr1.open9; have hle02 := hle1.trans hle2; replace hx := hx.mono hle02; replace hty := hty.mono hle02; replace hsl := hsl.mono hle02; replace hkl := hkl.mono hle02; replace hmr := hmr.mono hle2; replace hr0 := hr0.mono hle02)
 refine sE (A9 rfl) rfl (fun b26 => ?_)
 refine J8 ?_
 (show J3 _ _ (.region 4 ..) _ _; refine A0l (fun (x : Bool) => ⟨[(30, .bool x), (0, .slice p n c), (2, .int .i64 (l0 + 1)), (4, .pointer (some ⟨b3, 0, none⟩)), (6, .pointer (some ⟨b4, 0, none⟩)), (7, .pointer (some ⟨b5, 0, none⟩)), (9, .pointer (some ⟨b17, 0, none⟩)), (11, .pointer (some ⟨b26, 0, none⟩))], [.blk b26 [.int .i64 k, .string nm, .int .i64 num, .int .i64 tk, .slice q1 tks.length c1, .int .i64 fk, .slice q2 fks.length c2, .int .i64 lb, .slice none 0 0], .blk b17 [.int .i64 t9.k, .slice p1 t9.ks.length d1], .blk b5 [.int .i64 0, .slice none 0 0], .blk b4 [.int .i64 0, .string ⟨⟨[]⟩⟩, .int .i64 0, .int .i64 0, .slice none 0 0, .int .i64 0, .slice none 0 0, .int .i64 0, .slice none 0 0], .blk b3 [.int .i64 k, .string nm, .int .i64 num, .int .i64 tk, .slice pt tks.length ct, .int .i64 fk, .slice pf fks.length cf, .int .i64 lb, .slice q ks.length cq]], G2⟩) (fun x => x = true ↔ k = 5) ?_ ?_)
 ·refine B9 ?_
  refine sB (qE rfl rfl) rfl rfl (fun h42 => ?_) (fun h42 => ?_)
  ·refine sD ?_
   refine Q6 true (M4 (by repeat (first | exact E7.nil | refine E7.cons rfl ?_)) (by repeat (first | exact A1.refl | exact A1.nil | refine A1.cons (by repeat (first | exact Pk.here | apply Pk.there)) ?_ | apply A1.drop))) ⟨fun _ => (by omega), fun _ => rfl⟩
  ·refine sD ?_
   refine Q6 false (M4 (by repeat (first | exact E7.nil | refine E7.cons rfl ?_)) (by repeat (first | exact A1.refl | exact A1.nil | refine A1.cons (by repeat (first | exact Pk.here | apply Pk.there)) ?_ | apply A1.drop))) ⟨fun h => (by cases h), fun _ => (by omega)⟩
 ·(rintro (x : Bool) hx5)
  (show J3 _ _ (.cond (.tmp 30) _ _) _ _; refine A0l (fun (x : Option Addr × Nat × Nat × IM) => ⟨[(0, .slice x.1 x.2.1 x.2.2.1), (2, .int .i64 (l0 + 1)), (4, .pointer (some ⟨b3, 0, none⟩)), (6, .pointer (some ⟨b4, 0, none⟩)), (7, .pointer (some ⟨b5, 0, none⟩)), (9, .pointer (some ⟨b17, 0, none⟩)), (11, .pointer (some ⟨b26, 0, none⟩))], [.blk b26 [.int .i64 k, .string nm, .int .i64 num, .int .i64 tk, .slice q1 tks.length c1, .int .i64 fk, .slice q2 fks.length c2, .int .i64 lb, .slice none 0 0], .blk b17 [.int .i64 t9.k, .slice p1 t9.ks.length d1], .blk b5 [.int .i64 0, .slice none 0 0], .blk b4 [.int .i64 0, .string ⟨⟨[]⟩⟩, .int .i64 0, .int .i64 0, .slice none 0 0, .int .i64 0, .slice none 0 0, .int .i64 0, .slice none 0 0], .blk b3 [.int .i64 k, .string nm, .int .i64 num, .int .i64 tk, .slice pt tks.length ct, .int .i64 fk, .slice pf fks.length cf, .int .i64 lb, .slice q ks.length cq]], x.2.2.2⟩) (fun x => C4 G2 x.2.2.2 ∧ U4 x.2.2.2 (K1 cx k nm (.mk tk tks)) x.1 x.2.1 x.2.2.1 ∧ (x.2.1 : Int) ≤ d + 1) (A35 rfl (fun hxt => ?_) (fun hxf => ?_)) ?_)
  ·refine A8 ?_
   (refine E6 rfl (B1L G2 cx p n c nm (.mk tk tks) _ hx (by omega) hty) rfl rfl (fun v G3 hle3 hh => ?_); obtain ⟨pm0, cm0, rfl, hxm⟩ := hh)
   refine A4 ?_
   refine Q6 (pm0, n + 1, cm0, G3) (M4 (by repeat (first | exact E7.nil | refine E7.cons rfl ?_)) (by repeat (first | exact A1.refl | exact A1.nil | refine A1.cons (by repeat (first | exact Pk.here | apply Pk.there)) ?_ | apply A1.drop))) ?_
   (dsimp only; exact ⟨hle3, by rw [K1, if_pos (hx5.1 (by assumption))]; exact hxm, by omega⟩)
  ·refine tK ?_
   refine Q6 (p, n, c, G2) (M4 (by repeat (first | exact E7.nil | refine E7.cons rfl ?_)) (by repeat (first | exact A1.refl | exact A1.nil | refine A1.cons (by repeat (first | exact Pk.here | apply Pk.there)) ?_ | apply A1.drop))) ?_
   (dsimp only; exact ⟨C4.refl _, by rw [K1, if_neg (fun h => by have := hx5.2 h; rw [this] at hxf; cases hxf)]; exact hx, by omega⟩)
  ·(rintro ⟨(px : Option Addr), nx, cxx, Gx⟩ ⟨hleX, hxX, hnX⟩; simp only [] at hleX hxX hnX ⊢; replace hty1 := hty1.mono hleX; replace hfr1 := hfr1.mono hleX; replace hsl := hsl.mono hleX; replace hkl := hkl.mono hleX; replace hmr := hmr.mono hleX; replace hr0 := hr0.mono hleX)
   refine A4 ?_
   (refine I3 (D0 rfl rfl rfl (by omega) (by unfold maxLen; omega) rfl) rfl ?_; rintro _ ⟨b66, rfl⟩)
   refine E1 ?_
   refine C5 ?_
   (refine V0 37 9 ?_; refine K2 (fun (x : Nat × (Option Addr × Nat × List Tm × List (List Value)) × (Option Addr × Nat × List Ty × List (List Value)) × Int × IM) => ⟨[(13, .int .i64 x.1), (12, .slice x.2.2.1.1 x.1 x.2.2.1.2.1), (0, .slice px nx cxx), (2, .int .i64 (x.2.2.2.1 + 1)), (4, .pointer (some ⟨b3, 0, none⟩)), (6, .pointer (some ⟨b4, 0, none⟩)), (7, .pointer (some ⟨b5, 0, none⟩)), (9, .pointer (some ⟨b17, 0, none⟩)), (11, .pointer (some ⟨b26, 0, none⟩))], [.blk b26 [.int .i64 k, .string nm, .int .i64 num, .int .i64 tk, .slice q1 tks.length c1, .int .i64 fk, .slice q2 fks.length c2, .int .i64 lb, .slice x.2.1.1 x.1 x.2.1.2.1], .slc x.2.1.1 x.2.1.2.1 37 9 x.1 x.2.1.2.2.2.flatten, .slc x.2.2.1.1 x.2.2.1.2.1 34 2 x.1 x.2.2.1.2.2.2.flatten, .blk b17 [.int .i64 t9.k, .slice p1 t9.ks.length d1], .blk b5 [.int .i64 0, .slice none 0 0], .blk b4 [.int .i64 0, .string ⟨⟨[]⟩⟩, .int .i64 0, .int .i64 0, .slice none 0 0, .int .i64 0, .slice none 0 0, .int .i64 0, .slice none 0 0], .blk b3 [.int .i64 k, .string nm, .int .i64 num, .int .i64 tk, .slice pt tks.length ct, .int .i64 fk, .slice pf fks.length cf, .int .i64 lb, .slice q ks.length cq]], x.2.2.2.2⟩) (fun x => x.1 ≤ ks.length ∧ C4 Gx x.2.2.2.2 ∧ x.2.1.2.2.1.length = x.1 ∧ E5 x.2.2.2.2 x.2.1.2.2.1 x.2.1.2.2.2 ∧ x.2.2.1.2.2.1.length = x.1 ∧ D5 x.2.2.2.2 x.2.2.1.2.2.1 x.2.2.1.2.2.2 ∧ L6 (K1 cx k nm (.mk tk tks)) (ks.take x.1) l0 = some (x.2.1.2.2.1, x.2.2.1.2.2.1, x.2.2.2.1) ∧ l0 ≤ x.2.2.2.1 ∧ x.2.2.2.1 + x.1 ≤ l0 + (E8 (ks.take x.1) : Int)) (fun x => ks.length - x.1) (0, (none, 0, [], []), (some ⟨b66, 0, none⟩, 0, [], []), l0, Gx) ?_ ?_ ?_)
   ·(simp only [List.take_zero, W1]; exact (M4 (by repeat (first | exact E7.nil | refine E7.cons rfl ?_)) (by repeat (first | exact A1.refl | exact A1.nil | refine A1.cons (by repeat (first | exact Pk.here | apply Pk.there)) ?_ | apply A1.drop))))
   ·(exact ⟨by simp, C4.refl _, rfl, by simp [E5], rfl, by simp [D5], by simp [L6], Int.le_refl _, by simp [E8]⟩)
   ·(rintro ⟨i, ⟨pn, cn, us, es'⟩, ⟨pm, cm, ts, ess⟩, l, Gi⟩ ⟨hi, hle, hlu, hst, hlt, hstt, hml, hl1, hl2⟩; simp only [] at hi hle hlu hst hlt hstt hml hl1 hl2 ⊢; replace hty1 := hty1.mono hle; replace hfr1 := hfr1.mono hle; replace hsl := hsl.mono hle; replace hkl := hkl.mono hle; replace hmr := hmr.mono hle; replace hr0 := hr0.mono hle; replace hxX := hxX.mono hle)
    refine B7 ?_
    refine sB (J4 rfl rfl) rfl rfl (fun h88 => ?_) (fun h88 => ?_)
    ·refine A8 ?_
     refine C5 ?_
     refine A8 ?_
     (obtain ⟨b, o, e, rfl, hl, hate, hre, hgb⟩ := hsl.kidTm hkl (i := i) (by omega) (by omega); have hsc := A0G (ks := ks) (i := i) (by omega); have hsk := A1h (ks := ks) (i := i) (by omega); rcases hE : M8 (K1 cx k nm (Ty.mk tk tks)) ks[i] l with _ | ⟨u, t, l3⟩; (have hno := A7h (by omega) hml hE; rw [hEL] at hno; cases hno); have hlm := A7A.el_mono _ _ _ _ _ _ hE; have hlx := B1j ks[i] (d + 1) _ l u t l3 (hvk i (by omega)) hE; refine sP (B5 rfl rfl rfl (by omega)) rfl rfl ?_)
     refine sL (A3 rfl rfl (hate _) hl) rfl rfl ?_
     refine F8 ?_
     (refine E6 rfl (ih ks[i] (List.getElem_mem (by omega)) (d + 1) _ l u t l3 Gi px nx cxx _ hE (hvk i (by omega)) (by omega) hcvX hxX hre (by omega) (by omega)) rfl rfl (fun v G3 hle3 hh => ?_); obtain ⟨uc, tc, rfl, hru, hrt⟩ := hh; obtain ⟨v1, v2, v3, v4, v5, v6, v7, v8, v9, rfl⟩ := nine hru.len; obtain ⟨p3, c3, e3, rfl, _⟩ := hrt.open; have hlu9 := hru.len; have hou9 := hru.one)
     refine B4 ?_
     refine sE (A9 rfl) rfl (fun b110 => ?_)
     refine sE (A9 rfl) rfl (fun b111 => ?_)
     refine sS rfl rfl rfl hlu9 hou9 rfl ?_ (hu := by exact E0 hlu9.symm)
     refine E1 ?_
     (refine I3 (D0 rfl rfl rfl (by omega) (by unfold maxLen; omega) rfl) rfl ?_; rintro _ ⟨b122, rfl⟩)
     refine A0Z rfl rfl rfl rfl rfl (fun _ _ => by repeat (first | exact Sw.here | apply Sw.there)) (M9 (by repeat first | exact mH | apply mT)) rfl (fun u hu => List.all_eq_true.1 hou9 u hu) (by unfold maxLen; omega) (by omega) rfl (fun pn' cn' => ?_)
     refine D4 ?_
     (refine I3 (D0 rfl rfl rfl (by omega) (by unfold maxLen; omega) rfl) rfl ?_; rintro _ ⟨b132, rfl⟩)
     refine A0Z rfl rfl rfl rfl rfl (fun _ _ => by repeat (first | exact Sw.here | apply Sw.there)) (M9 (by repeat first | exact mH | apply mT)) rfl (by simp [Value.oneCell']) (by unfold maxLen; omega) (by omega) rfl (fun pm' cm' => ?_)
     refine J8 ?_
     refine sP (H9 rfl rfl (by omega) (by omega)) rfl rfl ?_
     refine A4 ?_
     refine I5 (i + 1, (pn', cn', us ++ [u], es' ++ [[v1, v2, v3, v4, v5, v6, v7, v8, v9]]), (pm', cm', ts ++ [t], ess ++ [[.int .i64 t.k, .slice p3 t.ks.length c3]]), l3, G3) ?_ ?_ ?_
     ·(simp only [I1]; exact D6)
     ·(dsimp only; exact ⟨by omega, hle.trans hle3, by simp [hlu], E5.snoc (hst.mono hle3) hru, by simp [hlt], D5.snoc (hstt.mono hle3) hrt, A4J (by omega) hml hE, by omega, by omega⟩)
     ·(show ks.length - (i + 1) < ks.length - i; omega)
    ·refine K4 ?_
     (obtain rfl : i = ks.length := (by omega); rw [List.take_length] at hml hl2; rw [hEL] at hml; simp only [Option.some.injEq, Prod.mk.injEq] at hml; obtain ⟨rfl, rfl, rfl⟩ := hml; refine U6 (cs := ess.flatten) (by repeat (first | exact Pk.here | apply Pk.there)) (fun G4 hle4 hsl4 hno4 => ?_); have hstt4 := hstt.mono hle4; have hslT : E3 G4 pm ks.length cm 2 ess := E3.of hsl4 (by rw [hstt4.len, hlt]) hstt4.all (fun e he => (hstt4.each e he).2); have hW := B7Q cx k nm num (.mk tk tks) (.mk fk fks) lb ks _ w _ G4 _ _ pm cm ess hmw hv2 (by rw [hlt]; exact har) (hr0.mono hle4) (by rw [hlt]; exact hslT) hstt4 (fun t ht => A3h (htv t ht)) (hmr.mono hle4); rw [hlt] at hW; refine E6 rfl hW rfl rfl (fun v G5 hle5 hh => ?_); obtain ⟨pw, cw, esw, rfl, hlw, hsw, hstw⟩ := hh; have hle45 := hle4.trans hle5; replace hty1 := hty1.mono hle45; replace hfr1 := hfr1.mono hle45; replace hmr := hmr.mono hle45; replace hst := hst.mono hle45; replace hslT := hslT.mono hle5; replace hstt := hstt.mono hle45; rcases Nat.eq_zero_or_pos ks.length with h0 | h0)
     ·refine E1 ?_
      refine C5 ?_
      (have h0' : ks.length = 0 := h0; refine K2 (fun (_ : Nat) => ⟨[(18, .int .i64 0), (17, .slice pw ks.length cw), (12, .slice pm ks.length cm), (2, .int .i64 (lA + 1)), (4, .pointer (some ⟨b3, 0, none⟩)), (6, .pointer (some ⟨b4, 0, none⟩)), (7, .pointer (some ⟨b5, 0, none⟩)), (9, .pointer (some ⟨b17, 0, none⟩)), (11, .pointer (some ⟨b26, 0, none⟩))], [.blk b26 [.int .i64 k, .string nm, .int .i64 num, .int .i64 tk, .slice q1 tks.length c1, .int .i64 fk, .slice q2 fks.length c2, .int .i64 lb, .slice pn ks.length cn], .slc pn cn 37 9 ks.length es'.flatten, .blk b17 [.int .i64 t9.k, .slice p1 t9.ks.length d1], .blk b5 [.int .i64 0, .slice none 0 0], .blk b4 [.int .i64 0, .string ⟨⟨[]⟩⟩, .int .i64 0, .int .i64 0, .slice none 0 0, .int .i64 0, .slice none 0 0, .int .i64 0, .slice none 0 0], .blk b3 [.int .i64 k, .string nm, .int .i64 num, .int .i64 tk, .slice pt tks.length ct, .int .i64 fk, .slice pf fks.length cf, .int .i64 lb, .slice q ks.length cq]], G5⟩) (fun _ => True) (fun i => i) 0 ?_ ?_ ?_)
      ·exact D6
      ·trivial
      ·(rintro (i0 : Nat) _)
       refine A8 ?_
       refine sP (A3s rfl rfl (by omega)) rfl rfl ?_
       refine K4 ?_
       refine sP (I9 rfl rfl (by omega)) rfl rfl ?_
       refine A8 ?_
       refine D7 D8 rfl ?_
       refine L3 (i := 0) (l' := [tt,ff,ff,ff,ff,ff]) rfl D2 (A5 rfl rfl) rfl (by kernel_rfl) rfl rfl ?_
       refine aL 1 rfl (A5 rfl rfl) rfl ?_
       refine aP 2 rfl (qM rfl) rfl ?_
       refine A2 3 ?_
       refine oS rfl rfl rfl rfl rfl rfl rfl rfl ?_
       refine A2 4 ?_
       refine oS rfl rfl rfl rfl rfl rfl rfl rfl ?_
       refine aP 5 rfl (qA rfl) rfl ?_
       refine A4 ?_
       (refine H2 (cs := es'.flatten) (by repeat (first | exact Pk.here | apply Pk.there)) (fun G8 hle8 hsl8 hno8 => ?_); have hst8 := hst.mono hle8)
       refine tT ?_
       refine D3 (rC rfl (A5 rfl rfl)) (rC rfl (A5 rfl rfl)) (rT rfl) ?_
       (have hu9 : usA = [] := List.length_eq_zero_iff.1 (by omega); have hne : k ≠ 13 := (fun h => by have := hk13 h; omega); have hz : E9 usA tsA w lA = (usA, lA) := (by rw [hu9]; simp [E9]); rw [if_neg hne, hz] at hu0; subst hu0; rw [hz]; exact ⟨rfl, _, _, rfl, B1.put hk hnum hlb (hty1.mono hle8) (hfr1.mono hle8) hlA1.symm (E3.of hsl8 (by rw [hst8.len, hlA1]) hst8.all (fun e he => (hst8.each e he).2)) hst8, hmr.mono hle8⟩)
     ·(refine A4y (cs := es'.flatten) (by repeat (first | exact Pk.here | apply Pk.there)) h0 (fun bc C hpe hnc hcm => ?_); subst hpe; refine sQ (qA rfl) rfl ?_)
      refine D4 ?_
      refine C5 ?_
      (have hLoop2 := hlw; refine K2 (fun (x : Nat × List (List Value) × IM) => ⟨[(18, .int .i64 x.1), (17, .slice pw ks.length cw), (12, .slice pm ks.length cm), (2, .int .i64 ((E9 usA tsA ((T2 w tsA).take x.1) lA).2 + 1)), (4, .pointer (some ⟨b3, 0, none⟩)), (6, .pointer (some ⟨b4, 0, none⟩)), (7, .pointer (some ⟨b5, 0, none⟩)), (9, .pointer (some ⟨b17, 0, none⟩)), (11, .pointer (some ⟨b26, 0, none⟩))], [.blk b26 [.int .i64 k, .string nm, .int .i64 num, .int .i64 tk, .slice q1 tks.length c1, .int .i64 fk, .slice q2 fks.length c2, .int .i64 lb, .slice (some ⟨bc, 0, none⟩) ks.length cn], .blk bc (x.2.1.flatten ++ C), .blk b17 [.int .i64 t9.k, .slice p1 t9.ks.length d1], .blk b5 [.int .i64 0, .slice none 0 0], .blk b4 [.int .i64 0, .string ⟨⟨[]⟩⟩, .int .i64 0, .int .i64 0, .slice none 0 0, .int .i64 0, .slice none 0 0, .int .i64 0, .slice none 0 0], .blk b3 [.int .i64 k, .string nm, .int .i64 num, .int .i64 tk, .slice pt tks.length ct, .int .i64 fk, .slice pf fks.length cf, .int .i64 lb, .slice q ks.length cq]], x.2.2⟩) (fun x => x.1 ≤ ks.length ∧ C4 G5 x.2.2 ∧ E5 x.2.2 (E9 usA tsA ((T2 w tsA).take x.1) lA).1 x.2.1) (fun x => ks.length - x.1) (0, es', G5) ?_ ?_ ?_)
      ·(simp only [List.take_zero, W1]; exact (M4 (by repeat (first | exact E7.nil | refine E7.cons rfl ?_)) (by repeat (first | exact A1.refl | exact A1.nil | refine A1.cons (by repeat (first | exact Pk.here | apply Pk.there)) ?_ | apply A1.drop))))
      ·(exact ⟨Nat.zero_le _, C4.refl _, by simp only [List.take_zero, W1]; exact hst⟩)
      ·(rintro ⟨j, es2, G6⟩ ⟨hj, hle6, hst2⟩; simp only [] at hj hle6 hst2 ⊢; replace hty1 := hty1.mono hle6; replace hfr1 := hfr1.mono hle6; replace hmr := hmr.mono hle6; replace hslT := hslT.mono hle6; replace hstt := hstt.mono hle6; replace hsw := hsw.mono hle6; replace hstw := hstw.mono hle6; have hle2s := hst2.len; rw [A2d] at hle2s; have hall2 := hst2.all)
       refine A8 ?_
       refine sB (J4 rfl rfl) rfl rfl (fun h242 => ?_) (fun h242 => ?_)
       ·refine A8 ?_
        refine C5 ?_
        (have hjw : j < (T2 w tsA).length := (by omega); obtain ⟨bt, ot, qt, dt, hpt, hatt, hrtt, hgt⟩ := hslT.kidTy hstt (i := j) (by omega) (by omega); obtain ⟨bw, ow, qw, dw, hpw, hatw, hrtw, hgw⟩ := (show E3 G6 pw (T2 w tsA).length cw 2 esw from by rw [hlw]; exact hsw).kidTy hstw (i := j) (by omega) (by omega); cases hpt; cases hpw; obtain ⟨m1, m2, _⟩ := A4K usA tsA (T2 w tsA) lA j hjw (by omega) (by omega); obtain ⟨m3, m4⟩ := B0G (us := usA) (h := tsA) (w := T2 w tsA) (l := lA) hjw (by omega) (by omega); obtain ⟨hE1, hE2⟩ := hst2.at2 (i := j) (by omega) (by omega); rw [m2] at hE2; have hE3 := hE2.len; have hcj := A1E usA tsA ((T2 w tsA).take j) lA; refine D7 D8 rfl ?_)
        refine I6 (i := 0) (l' := [tt,ff,ff,ff,ff,ff,ff,ff,ff,ff,ff,ff,ff,ff,ff,ff,ff,ff,ff,ff,ff,ff,ff,ff]) rfl D2 (B8 rfl) rfl (by kernel_rfl) rfl rfl ?_
        refine aL 1 rfl (C7 rfl rfl) rfl ?_
        refine aP 2 rfl (qM rfl) rfl ?_
        refine aP 3 rfl (B8 rfl) rfl ?_
        refine aL 4 rfl (C7 rfl rfl) rfl ?_
        refine aP 5 rfl (qM rfl) rfl ?_
        refine aP 6 rfl (B5 (j := j) rfl rfl rfl (by omega)) rfl ?_
        refine aL 7 rfl (A3 rfl rfl (A5y (es := es2) (by repeat first | exact mH | apply mT) (by omega) hall2) hE3) rfl ?_
        refine aP 8 rfl (qM rfl) rfl ?_
        refine aP 9 rfl (qM rfl) rfl ?_
        refine aP 10 rfl (B5 (j := j) rfl rfl rfl (by omega)) rfl ?_
        refine aL 11 rfl (A3 rfl rfl (hatt _) rfl) rfl ?_
        refine aP 12 rfl (qM rfl) rfl ?_
        refine aP 13 rfl (qM rfl) rfl ?_
        refine aP 14 rfl (B5 (j := j) rfl rfl rfl (by omega)) rfl ?_
        refine aL 15 rfl (A3 rfl rfl (hatw _) rfl) rfl ?_
        refine aP 16 rfl (qM rfl) rfl ?_
        refine A2 17 ?_
        (have hwsm := (A3h (hWV _ (List.getElem_mem (show j < (T2 w tsA).length by omega)))).small; refine H3 rfl rfl (B7M usA[j] tsA[j] (T2 w tsA)[j] _ _ _ _ _ (by omega) hE2 hrtt hrtw (A3h (htv _ (List.getElem_mem (by omega)))).small hwsm) rfl rfl rfl (fun v G7 hle7 hh => ?_); obtain ⟨uc, rfl, hru⟩ := hh; rw [show (if N3 tsA[j] (T2 w tsA)[j] = true then (E9 usA tsA ((T2 w tsA).take j) lA).2 + 1 else (E9 usA tsA ((T2 w tsA).take j) lA).2 + 1 + 1) = (E9 usA tsA ((T2 w tsA).take (j + 1)) lA).2 + 1 from by rw [m4]; split <;> rfl]; have hlu9 := hru.len; have hou9 := hru.one)
        refine aP 18 rfl (qM rfl) rfl ?_
        refine aP 19 rfl (pX rfl rfl) rfl ?_
        refine aP 21 rfl (B5 (j := j) rfl rfl rfl (by omega)) rfl ?_
        refine aP 20 rfl (pX rfl rfl) rfl ?_
        refine A2 22 ?_
        refine Q8 rfl rfl rfl rfl hlu9 hou9 rfl rfl (by kernel_rfl) (by repeat first | exact Sw.here | apply Sw.there) (by exact A4z (by omega) hall2 hlu9) ?_
        refine aP 23 rfl (qA rfl) rfl ?_
        refine B0 ?_
        refine sP (H9 rfl rfl (by omega) (by omega)) rfl rfl ?_
        refine A4 ?_
        refine I5 (j + 1, es2.set j uc, G7) ?_ ?_ ?_
        ·(simp only [List.take_zero, W1]; exact (M4 (by repeat (first | exact E7.nil | refine E7.cons rfl ?_)) (by repeat (first | exact A1.refl | exact A1.nil | refine A1.cons (by repeat (first | exact Pk.here | apply Pk.there)) ?_ | apply A1.drop))))
        ·(dsimp only; exact ⟨by omega, hle6.trans hle7, by rw [m3]; exact E5.set (hst2.mono hle7) hru⟩)
        ·(show ks.length - (j + 1) < ks.length - j; omega)
       ·refine K4 ?_
        refine sB (qE rfl rfl) rfl rfl (fun h302 => ?_) (fun h302 => ?_)
        ·refine B4 ?_
         (have hq13 : k = 13 := (by omega); have hl13 := hk13 hq13; have hjw : j = (T2 w tsA).length := (by omega); rw [hjw, List.take_length, A53] at hst2; have hm0 := A2d usA tsA w lA; obtain ⟨hE1, hE2⟩ := hst2.at2 (i := 0) (by omega) (by omega); have hE3 := hE2.len; have hE4 := hE2.one; refine D7 D8 rfl ?_)
         refine I6 (i := 0) (l' := [tt,ff,ff,ff,ff,ff,ff,ff,ff]) rfl D2 (B8 rfl) rfl (by kernel_rfl) rfl rfl ?_
         refine aL 1 rfl (C7 rfl rfl) rfl ?_
         refine aP 2 rfl (B5 (j := 0) rfl rfl rfl (by omega)) rfl ?_
         refine aL 3 rfl (A3 rfl rfl (A5y (es := es2) (by repeat first | exact mH | apply mT) (by omega) hall2) hE3) rfl ?_
         refine aL 4 rfl (A5 rfl rfl) rfl ?_
         refine aP 5 rfl (qM rfl) rfl ?_
         refine A2 6 ?_
         refine oS rfl rfl rfl rfl hE3 hE4 rfl rfl ?_ (hu := by exact E0 hE3.symm)
         refine A2 7 ?_
         refine oS rfl rfl rfl rfl rfl rfl rfl rfl ?_
         refine aP 8 rfl (qA rfl) rfl ?_
         refine A4 ?_
         (refine A2R (bs := [(bc, es2.flatten ++ C)]) (Pk.perm (by repeat (first | exact Pk.here | apply Pk.there))) (fun hn9 hd9 hle9 => ?_))
         refine A4 ?_
         refine D3 (rC rfl (A3 rfl rfl (B6 (by repeat first | exact mH | apply mT)) hE3)) (rC rfl (A5 rfl rfl)) (rT rfl) ?_
         (rw [if_pos hq13, B1v (by omega)] at hu0; subst hu0; rw [hjw, List.take_length, A53]; exact ⟨rfl, _, _, rfl, hE2.mono hle9, hmr.mono hle9⟩)
        ·refine A8 ?_
         refine D7 D8 rfl ?_
         refine L3 (i := 0) (l' := [tt,ff,ff,ff,ff,ff]) rfl D2 (A5 rfl rfl) rfl (by kernel_rfl) rfl rfl ?_
         refine aL 1 rfl (A5 rfl rfl) rfl ?_
         refine aP 2 rfl (qM rfl) rfl ?_
         refine A2 3 ?_
         refine oS rfl rfl rfl rfl rfl rfl rfl rfl ?_
         refine A2 4 ?_
         refine oS rfl rfl rfl rfl rfl rfl rfl rfl ?_
         refine aP 5 rfl (qA rfl) rfl ?_
         refine A4 ?_
         (refine A2R (bs := [(bc, es2.flatten ++ C)]) (Pk.perm (by repeat (first | exact Pk.here | apply Pk.there))) (fun hn9 hd9 hle9 => ?_))
         refine tT ?_
         refine D3 (rC rfl (A5 rfl rfl)) (rC rfl (A5 rfl rfl)) (rT rfl) ?_
         (have hjw : j = (T2 w tsA).length := (by omega); rw [hjw, List.take_length, A53] at hst2; have hst9 := hst2.mono hle9; have hm0 := A2d usA tsA w lA; rw [if_neg (by omega)] at hu0; subst hu0; rw [hjw, List.take_length, A53]; exact ⟨rfl, _, _, rfl, B1.put hk hnum hlb (hty1.mono hle9) (hfr1.mono hle9) (by rw [hm0, hlA1]) (E3.of (Sl.of_blk (A := []) (by rw [A00 hst9.all, hst9.len, hm0, hlA1]) (by omega) hcm (Wi.in hn9 List.mem_cons_self)) (by rw [hst9.len, hm0, hlA1]) hst9.all (fun e he => (hst9.each e he).2)) hst9, hmr.mono hle9⟩)
theorem B1Z (e : Tm) (G : IM) (cells : List Value) (hcnt : D1 e ≤ 4294967296) (hr : B1 G e cells) : Fn Tryz.prog 55 [.agg ⟨cells⟩] [] G (A1v (O8 e)) := by
 have hl := hr.len
 have hone := hr.one
 refine C6 Tryz.func55 rfl Tryz.ntmps55 Tryz.results55 rfl ?_
 intro w0
 refine A4 ?_
 refine sE (C9 rfl rfl) rfl (fun b3 => ?_)
 refine sE (A9 rfl) rfl (fun b4 => ?_)
 refine sE (A9 rfl) rfl (fun b5 => ?_)
 refine B0 ?_
 refine sL (A3 rfl rfl (B6 (by repeat first | exact mH | apply mT)) (by assumption)) rfl rfl ?_
 focus (refine E6 rfl (B1V e _ _ (by omega) hr) rfl rfl (fun v G1 hle1 hh => ?_); obtain ⟨mc, mt, rfl, hmr, hmu⟩ := hh; obtain ⟨pt, ct, et, rfl, _⟩ := hmr.open; obtain ⟨r, hI⟩ : ∃ r, O8 e = r := ⟨_, rfl⟩; rcases r with _ | ⟨u, t⟩; (have hto : A0d e = none := by unfold A0d; rw [hI]); rotate_left; (have hto : A0d e = some t := by unfold A0d; rw [hI]); obtain ⟨hv, l3, hE⟩ := B7H hI; obtain ⟨hv1, hv2⟩ := (A1p e).1 hv; rotate_left; all_goals rw [hto]; all_goals simp only [Option.isSome])
 refine B9 ?_
 refine sE (A9 rfl) rfl (fun b16 => ?_)
 refine A1e ?_
 refine D3 (rC rfl (A5 rfl rfl)) (rC rfl (A5 rfl rfl)) (rT rfl) ?_
 (exact A1v.no (by first | exact hI | rfl) (Q2 _) (P1 _ ⟨by omega, by omega⟩))
 refine B9 ?_
 refine sE (A9 rfl) rfl (fun b45 => ?_)
 refine K0 ?_
 refine sL (A3 rfl rfl (B6 (by repeat first | exact mH | apply mT)) (by assumption)) rfl rfl ?_
 (have hIn := B7T e 1 [] 0 u t l3 G1 none 0 0 cells hE hv1 (by omega) A4F (U4.nil _) (hr.mono hle1) (by omega) (by omega); refine E6 rfl hIn rfl rfl (fun v G2 hle2 hh => ?_); obtain ⟨cu, tc, rfl, hru, hrt⟩ := hh; obtain ⟨qt, dt, et2, rfl, _⟩ := hrt.open; have hlu := hru.len; have hou := hru.one)
 refine B4 ?_
 refine sE (A9 rfl) rfl (fun b68 => ?_)
 refine sE (A9 rfl) rfl (fun b69 => ?_)
 refine X5 rfl rfl rfl hlu hou rfl (by repeat first | exact Sw.here | apply Sw.there) (by exact E0 (by first | exact hlu.symm | omega)) ?_
 refine B0 ?_
 refine D7 D8 rfl ?_
 refine L3 (i := 0) (l' := [tt,ff,ff,ff,ff]) rfl D2 (A3 rfl rfl (B6 (by repeat first | exact mH | apply mT)) hlu) rfl (by kernel_rfl) rfl rfl ?_
 refine aL 1 rfl (A5 rfl rfl) rfl ?_
 refine A2 2 ?_
 refine oS rfl rfl rfl rfl hlu hou rfl rfl ?_ (hu := by exact E0 hlu.symm)
 refine A2 3 ?_
 refine oS rfl rfl rfl rfl rfl rfl rfl rfl ?_
 refine aP 4 rfl (qA rfl) rfl ?_
 refine B9 ?_
 refine D3 (rC rfl (A3 rfl rfl (B6 (by repeat first | exact mH | apply mT)) hlu)) (rC rfl (A5 rfl rfl)) (rT rfl) ?_
 (exact A1v.yes (by first | exact hI | rfl) hru hrt)
end Gw
end Go.Proofs.YtebfignffjhnhaaGreatDoor
