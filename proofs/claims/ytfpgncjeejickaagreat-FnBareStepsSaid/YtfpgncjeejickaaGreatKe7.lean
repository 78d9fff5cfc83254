/-
  The reference's typing, exactly: types of terms.
-/
import Derived.Test.YtfpgncjeejickaaGreatKe6
import Derived.Test.YtfpgncjeejickaaGreatKe4
import Derived.Test.YtfpgncjeejickaaGreatKe3
import Derived.Test.YtfpgncjeejickaaGreatKe2
import Derived.Test.YtfpgncjeejickaaGreatKe1
import Derived.Test.YtfpgncjeejickaaGreatKe5
set_option linter.unusedVariables false
set_option linter.unusedSimpArgs false
set_option maxHeartbeats 0
set_option maxRecDepth 100000
set_option synthInstance.maxSize 4000
set_option synthInstance.maxHeartbeats 0
namespace Go.Proofs.YtfpgncjeejickaaGreat
open Go Go.RowKit
namespace Gw
section
variable {ak bk : Int} {aks bks : List Ty}
theorem B4K (h : ak ≠ bk) : M5 (.mk ak aks) (.mk bk bks) = false := by rw [A2j, decide_eq_false h]; rfl
theorem B4L (h : aks.length ≠ bks.length) : M5 (.mk ak aks) (.mk bk bks) = false := by
 rw [A2j]
 cases hl : Z8 aks bks with
 | false => simp
 | true => exact absurd ((A3t _ _).1 hl).1 h
theorem B4M {i : Nat} (hi : i < aks.length) (hi' : i < bks.length) (h : M5 aks[i] bks[i] = false) : M5 (.mk ak aks) (.mk bk bks) = false := by
 rw [A2j]
 cases hl : Z8 aks bks with
 | false => simp
 | true => have := ((A3t _ _).1 hl).2 i hi hi'; rw [h] at this; cases this
theorem B4N (hk : ak = bk) (hl : aks.length = bks.length) (h : ∀ i, (h : i < aks.length) → (h' : i < bks.length) → M5 aks[i] bks[i] = true) : M5 (.mk ak aks) (.mk bk bks) = true := by
 rw [A2j, decide_eq_true hk, (A3t _ _).2 ⟨hl, h⟩]; rfl
end
theorem B4O : ∀ (a b : Ty) (G : IM) (ca cb : List Value), B5 G a ca → B5 G b cb → Fn Tryz.prog 203 [.agg ⟨ca⟩, .agg ⟨cb⟩] [] G (H6 (.bool (M5 a b)) G) := by
 refine Ty.ind fun ak aks ih b G ca cb hra hrb => ?_
 obtain ⟨bk, bks⟩ := b
 obtain ⟨pa, cca, ea, rfl, hak, hsla, hkla⟩ := hra.open
 obtain ⟨pb, ccb, eb, rfl, hbk, hslb, hklb⟩ := hrb.open
 simp only [Ty.k, Ty.ks] at hak hsla hkla hbk hslb hklb ⊢
 have hna := hsla.le
 have hnb := hslb.le
 have e1 := @B4K ak bk aks bks
 have e2 := @B4L ak bk aks bks
 have e3 := fun i => @B4M ak bk aks bks i
 have e4 := @B4N ak bk aks bks
 generalize M5 (.mk ak aks) (.mk bk bks) = R at e1 e2 e3 e4 ⊢
 refine B3 Tryz.func203 rfl Tryz.ntmps203 Tryz.results203 rfl ?_
 intro w0
 refine tS (tR ?_)
 refine sE (C0 rfl rfl) rfl (fun b3 => ?_)
 refine sE (C0 rfl rfl) rfl (fun b4 => ?_)
 refine I7 ?_
 refine sB (M8 rfl rfl) rfl rfl (fun h15 => ?_) (fun h15 => ?_)
 refine A0D ?_
 (exact ⟨rfl, by rw [e1 (by omega)], rfl⟩)
 refine C4 ?_
 refine sB (M8 rfl rfl) rfl rfl (fun h44 => ?_) (fun h44 => ?_)
 refine M6 ?_
 (exact ⟨rfl, by rw [e2 (by omega)], rfl⟩)
 refine M6 ?_
 refine B7 ?_
 (refine L3 (fun (i : Nat) => ⟨[(5, .int .i64 i), (2, .pointer (some ⟨b3, 0, none⟩)), (3, .pointer (some ⟨b4, 0, none⟩))], [.blk b4 [.int .i64 bk, .slice pb bks.length ccb], .blk b3 [.int .i64 ak, .slice pa aks.length cca]], G⟩) (fun i => i ≤ aks.length ∧ ∀ j, (h : j < aks.length) → (h' : j < bks.length) → j < i → M5 aks[j] bks[j] = true) (fun i => aks.length - i) 0 ?_ ?_ ?_)
 exact D3
 (exact ⟨Nat.zero_le _, fun j _ _ hj => absurd hj (Nat.not_lt_zero j)⟩)
 (rintro i ⟨hi, hall⟩)
 refine C4 ?_
 refine sB (J9 rfl rfl) rfl rfl (fun h82 => ?_) (fun h82 => ?_)
 refine sD (nS (qT rfl (tK (nS (tS ?_)))))
 refine B7 ?_
 refine tS ?_
 (obtain ⟨b, o, q0, d0, hp0, hat0, hre0, hg0⟩ := hsla.kidTy hkla (i := i) (by omega) (by omega); obtain ⟨b', o', q1, d1, hp1, hat1, hre1, hg1⟩ := hslb.kidTy hklb (i := i) (by omega) (by omega); subst hp0; subst hp1; have hih := ih aks[i] (List.getElem_mem (by omega)) bks[i] G _ _ hre0 hre1; refine D5 D6 rfl ?_)
 refine I3 (i := 0) (l' := [tt,ff,ff,ff,ff,ff,ff,ff,ff,ff,ff,ff]) rfl D1 (B0 rfl) rfl (by kernel_rfl) rfl rfl ?_
 refine aL 1 rfl (B9 rfl rfl) rfl ?_
 refine aP 2 rfl (qM rfl) rfl ?_
 refine aP 3 rfl (B2 rfl rfl rfl (by omega)) rfl ?_
 refine aL 4 rfl (A3 rfl rfl (hat0 _) rfl) rfl ?_
 refine aP 5 rfl (B0 rfl) rfl ?_
 refine aL 6 rfl (B9 rfl rfl) rfl ?_
 refine aP 7 rfl (qM rfl) rfl ?_
 refine aP 8 rfl (B2 rfl rfl rfl (by omega)) rfl ?_
 refine aL 9 rfl (A3 rfl rfl (hat1 _) rfl) rfl ?_
 refine A2 10 ?_
 refine T4 rfl rfl (hih) rfl rfl rfl (fun h103 => ?_) (fun h103 => ?_)
 refine aP 11 rfl (W0 rfl) rfl ?_
 refine D8 ?_
 refine sP (K4 rfl rfl (by omega) (by omega)) rfl rfl ?_
 refine sQ (qA rfl) rfl (sD ?_)
 refine K7 (i + 1) ?_ ?_ ?_
 exact D3
 (exact ⟨by omega, fun j h h' hj => by by_cases hji : j = i; (subst hji; assumption); exact hall j h h' (by omega)⟩)
 omega
 refine aP 11 rfl (pNf rfl) rfl ?_
 refine I0 ?_
 (exact ⟨rfl, by rw [e3 i (by omega) (by omega) (by assumption)], rfl⟩)
 refine I0 ?_
 (exact ⟨rfl, by rw [e4 (by omega) (by omega) (fun j h h' => hall j h h' (by omega))], rfl⟩)
theorem B4P (G : IM) (cx : Cx) (p : Option Addr) (n c : Nat) (nm : ByteArray) (t : Ty) (cells : List Value) (hx : T1 G cx p n c) (hn : n ≤ 1000) (hr : B5 G t cells) :
  Fn Tryz.prog 146 [.slice p n c, .string nm, .agg ⟨cells⟩] [] G (K5 fun G' v => ∃ p' c', v = .slice p' (n + 1) c' ∧ T1 G' (cx ++ [(nm, t)]) p' (n + 1) c') := by
 obtain ⟨k, ks⟩ := t
 obtain ⟨q, d, es0, rfl, _⟩ := hr.open
 simp only [Ty.k, Ty.ks] at hr ⊢
 obtain ⟨hx1, es, h2, h3⟩ := id hx
 have hSl : Sl G p n c 3 es.flatten := h2.1
 have h1c : ∀ u ∈ es.flatten, u.oneCell' = true := by
  intro u hu
  obtain ⟨e, he, hue⟩ := List.mem_flatten.1 hu
  exact List.all_eq_true.1 (h2.one e he) u hue
 refine B3 Tryz.func146 rfl Tryz.ntmps146 Tryz.results146 rfl ?_
 intro w0
 refine tS (tR ?_)
 refine sE (C0 rfl rfl) rfl (fun b3 => ?_)
 refine sQ (qA rfl) rfl (sD (nS (tS ?_)))
 refine D5 D6 rfl ?_
 refine I3 (i := 1) (l' := [ff,tt,ff,ff,ff,ff,ff,ff,ff]) rfl D1 (qM rfl) rfl (by kernel_rfl) rfl rfl ?_
 refine aP 3 rfl (qM rfl) rfl ?_
 refine aL 4 rfl (A1 rfl rfl) rfl ?_
 refine aP 5 rfl (T3 rfl rfl) rfl ?_
 refine T2 (j := 0) (j' := 6) (by kernel_rfl) ?_ ?_
 (refine E1 rfl (C8 rfl rfl rfl (by omega) (by unfold maxLen; omega) rfl) rfl rfl ?_; rintro _ ⟨b14, rfl⟩)
 refine T2 (j := 2) (j' := 6) (by kernel_rfl) ?_ ?_
 (refine A2L rfl rfl rfl rfl rfl rfl (fun _ _ => by repeat (first | exact Sw.here | apply Sw.there)) hSl h1c (Nat.zero_le _) (by unfold maxLen; omega) (by omega) rfl rfl (by repeat (first | exact A5.nil | apply A5.dep (by decide +kernel) | apply A5.blk (by decide +kernel) (by repeat (first | exact Pk.here | apply Pk.there)) (by repeat first | exact mH | apply mT))) (fun p4 c4 => ?_); simp only [Nat.zero_add, List.nil_append])
 refine A2 6 ?_
 (refine E1 rfl (C8 rfl rfl rfl (by omega) (by unfold maxLen; omega) rfl) rfl rfl ?_; rintro _ ⟨b18, rfl⟩)
 refine A2 7 ?_
 (refine Q5 rfl rfl rfl rfl rfl rfl (fun _ _ => by repeat (first | exact Sw.here | apply Sw.there)) (P5 (by repeat first | exact mH | apply mT)) rfl (by simp [Value.oneCell']) (by unfold maxLen; omega) (by omega) rfl rfl (by repeat (first | exact A5.nil | apply A5.dep (by decide +kernel) | apply A5.blk (by decide +kernel) (by repeat (first | exact Pk.here | apply Pk.there)) (by repeat first | exact mH | apply mT))) (fun p5 c5 => ?_))
 refine aP 8 rfl (qA rfl) rfl ?_
 refine C2 (nS ?_)
 (refine H5 (cs := es.flatten ++ [.string nm, .int .i64 k, .slice q ks.length d]) (by repeat (first | exact Pk.here | apply Pk.there)) (fun G5 hle5 hsl5 hno5 => ?_))
 refine tT (E0 (rT rfl) ?_)
 (exact ⟨rfl, _, _, rfl, T1.snoc (nm := nm) (t := .mk k ks) hx1 h2.len h2.all h2.one h3 hle5 ⟨_, _, rfl, hr.mono hle5⟩ hsl5⟩)
 (refine E1 rfl (C8 rfl rfl rfl (by omega) (by unfold maxLen; omega) rfl) rfl rfl ?_; rintro _ ⟨b28, rfl⟩)
 refine A2 2 ?_
 (refine A2L rfl rfl rfl rfl rfl rfl (fun _ _ => by repeat (first | exact Sw.here | apply Sw.there)) hSl h1c (Nat.zero_le _) (by unfold maxLen; omega) (by omega) rfl rfl (by repeat (first | exact A5.nil | apply A5.dep (by decide +kernel) | apply A5.blk (by decide +kernel) (by repeat (first | exact Pk.here | apply Pk.there)) (by repeat first | exact mH | apply mT))) (fun p4 c4 => ?_); simp only [Nat.zero_add, List.nil_append])
 refine A2 7 ?_
 (refine Q5 rfl rfl rfl rfl rfl rfl (fun _ _ => by repeat (first | exact Sw.here | apply Sw.there)) (P5 (by repeat first | exact mH | apply mT)) rfl (by simp [Value.oneCell']) (by unfold maxLen; omega) (by omega) rfl rfl (by repeat (first | exact A5.nil | apply A5.dep (by decide +kernel) | apply A5.blk (by decide +kernel) (by repeat (first | exact Pk.here | apply Pk.there)) (by repeat first | exact mH | apply mT))) (fun p5 c5 => ?_))
 refine aP 8 rfl (qA rfl) rfl ?_
 refine C2 (nS ?_)
 (refine H5 (cs := es.flatten ++ [.string nm, .int .i64 k, .slice q ks.length d]) (by repeat (first | exact Pk.here | apply Pk.there)) (fun G5 hle5 hsl5 hno5 => ?_))
 refine tT (E0 (rT rfl) ?_)
 (exact ⟨rfl, _, _, rfl, T1.snoc (nm := nm) (t := .mk k ks) hx1 h2.len h2.all h2.one h3 hle5 ⟨_, _, rfl, hr.mono hle5⟩ hsl5⟩)
 (refine E1 rfl (C8 rfl rfl rfl (by omega) (by unfold maxLen; omega) rfl) rfl rfl ?_; rintro _ ⟨b40, rfl⟩)
 refine A2 0 ?_
 (refine E1 rfl (C8 rfl rfl rfl (by omega) (by unfold maxLen; omega) rfl) rfl rfl ?_; rintro _ ⟨b42, rfl⟩)
 refine A2 2 ?_
 (refine A2L rfl rfl rfl rfl rfl rfl (fun _ _ => by repeat (first | exact Sw.here | apply Sw.there)) hSl h1c (Nat.zero_le _) (by unfold maxLen; omega) (by omega) rfl rfl (by repeat (first | exact A5.nil | apply A5.dep (by decide +kernel) | apply A5.blk (by decide +kernel) (by repeat (first | exact Pk.here | apply Pk.there)) (by repeat first | exact mH | apply mT))) (fun p4 c4 => ?_); simp only [Nat.zero_add, List.nil_append])
 refine A2 7 ?_
 (refine Q5 rfl rfl rfl rfl rfl rfl (fun _ _ => by repeat (first | exact Sw.here | apply Sw.there)) (P5 (by repeat first | exact mH | apply mT)) rfl (by simp [Value.oneCell']) (by unfold maxLen; omega) (by omega) rfl rfl (by repeat (first | exact A5.nil | apply A5.dep (by decide +kernel) | apply A5.blk (by decide +kernel) (by repeat (first | exact Pk.here | apply Pk.there)) (by repeat first | exact mH | apply mT))) (fun p5 c5 => ?_))
 refine aP 8 rfl (qA rfl) rfl ?_
 refine C2 (nS ?_)
 (refine H5 (cs := es.flatten ++ [.string nm, .int .i64 k, .slice q ks.length d]) (by repeat (first | exact Pk.here | apply Pk.there)) (fun G5 hle5 hsl5 hno5 => ?_))
 refine tT (E0 (rT rfl) ?_)
 (exact ⟨rfl, _, _, rfl, T1.snoc (nm := nm) (t := .mk k ks) hx1 h2.len h2.all h2.one h3 hle5 ⟨_, _, rfl, hr.mono hle5⟩ hsl5⟩)
theorem A9D {cx : Cx} : ∀ {ks : List Tm} {i : Nat} {us : List Ty} {u : Ty} (hi : i < ks.length), V5 cx (ks.take i) = some us → Q2 cx ks[i] = some u → V5 cx (ks.take (i + 1)) = some (us ++ [u])
 | [], i, us, u, hi, _, _ => by simp at hi
 | t :: ts, 0, us, u, _, h1, h2 => by
  simp only [List.take_zero, V5, Option.some.injEq] at h1
  subst h1
  simp only [List.getElem_cons_zero] at h2
  simp [V5, h2]
 | t :: ts, i + 1, us, u, hi, h1, h2 => by
  simp only [List.take_succ_cons, V5] at h1 ⊢
  split at h1
  ·cases h1
  ·rename_i a ha
   split at h1
   ·cases h1
   ·rename_i bs has
    simp only [Option.some.injEq] at h1
    subst h1
    simp only [List.getElem_cons_succ] at h2
    have := A9D (ks := ts) (i := i) (by simpa using hi) has h2
    simp only [this, List.cons_append]
theorem A9E {cx : Cx} : ∀ {ks : List Tm} {i : Nat} (hi : i < ks.length), Q2 cx ks[i] = none → V5 cx ks = none
 | [], i, hi, _ => by simp at hi
 | t :: ts, 0, _, h => by simp only [List.getElem_cons_zero] at h; rw [V5, h]
 | t :: ts, i + 1, hi, h => by
  simp only [List.getElem_cons_succ] at h
  have := A9E (ks := ts) (i := i) (by simpa using hi) h
  rw [V5, this]
  cases Q2 cx t <;> rfl
section
variable {cx : Cx} {k : Int} {nm : ByteArray} {num : Int} {ty fr : Ty} {lb : Int} {ks : List Tm}
theorem B4Q (hk : k = 1) (h0 : ks = []) : Q2 cx (.mk k nm num ty fr lb ks) = Z9 cx nm := by
 subst hk h0
 rw [Q2, V5]
 simp only [W6, mW1]
 cases Z9 cx nm with
 | none => rfl
 | some t => simp
theorem B4R (hk : k = 2) (h0 : ks = []) : Q2 cx (.mk k nm num ty fr lb ks) = some S3 := by subst hk h0; rfl
theorem B4S (hk : k = 3 ∨ k = 4) (h0 : ks = []) : Q2 cx (.mk k nm num ty fr lb ks) = some X1 := by subst h0; rcases hk with rfl | rfl <;> rfl
theorem B4T {b : Tm} (hk : k = 5) (h : Q2 (cx ++ [(nm, ty)]) b = none) : Q2 cx (.mk k nm num ty fr lb [b]) = none := by
 subst hk; rw [Q2, P7, if_pos rfl, V5, h]
theorem B4U {b : Tm} {t : Ty} (hk : k = 5) (h : Q2 (cx ++ [(nm, ty)]) b = some t) : Q2 cx (.mk k nm num ty fr lb [b]) = if E8 (.mk 4 [ty, t]) = true then some (.mk 4 [ty, t]) else none := by
 subst hk
 rw [Q2, P7, if_pos rfl, V5, h]
 simp only [V5, W6, mW5, List.getD_cons_zero]
 cases E8 (.mk 4 [ty, t]) <;> simp
theorem B4V (hk : k ≠ 5) (h : V5 cx ks = none) : Q2 cx (.mk k nm num ty fr lb ks) = none := by rw [Q2, P7, if_neg hk, h]
theorem B4W {ts : List Ty} (hk : k ≠ 5) (h : V5 cx ks = some ts) : Q2 cx (.mk k nm num ty fr lb ks) = W6 cx k nm ty ts := by rw [Q2, P7, if_neg hk, h]
end
theorem B4X : ∀ (e : Tm) (d : Int) (cx : Cx) (G : IM) (p : Option Addr) (n c : Nat) (cells : List Value), M3 12 14 e d = true → (n : Int) ≤ d → cxV cx → T1 G cx p n c → A6 G e cells →
  Fn Tryz.prog 145 [.slice p n c, .agg ⟨cells⟩] [] G (P4 (Q2 cx e) G) := by
 refine Tm.ind fun k nm num ty fr lb ks ih d cx G p n c cells hv hnd hcv hx hr => ?_
 have hr0 := hr
 have hone := hr.one
 obtain ⟨hv1, hv2, hv3, hv4⟩ := A0r hv
 have hvk := (A0Z 12 14 ks _).1 hv4
 have har := (V3.1 hv3).1
 have hop := A4v har
 obtain ⟨hta, hts⟩ := A3z hv3
 have hkr : 1 ≤ k ∧ k ≤ 14 := A4R (by rw [har]; omega)
 have hcv5 : k = 5 → cxV (cx ++ [(nm, ty)]) := fun hk => by have := A4F (k := k) (nm := nm) (ty := ty) hcv fun hk => (V3.1 hv3).2.2.2.2.2.1 (.inl hk); rwa [P7, if_pos hk] at this
 have h0 : k ≤ 4 → ks = [] := fun h => List.length_eq_zero_iff.1 (by
  have hk : k = 1 ∨ k = 2 ∨ k = 3 ∨ k = 4 := by omega
  rcases hk with rfl | rfl | rfl | rfl
  ·have : C5 1 = 0 := rfl; omega
  ·have : C5 2 = 0 := rfl; omega
  ·have : C5 3 = 0 := rfl; omega
  ·have : C5 4 = 0 := rfl; omega)
 have f1 := fun hk => @B4Q cx k nm num ty fr lb ks hk (h0 (by omega))
 have f2 := fun hk => @B4R cx k nm num ty fr lb ks hk (h0 (by omega))
 have f3 := fun hk => @B4S cx k nm num ty fr lb ks hk (h0 (by omega))
 have f4 : ∀ (hk : k = 5) (hl : 0 < ks.length), Q2 (cx ++ [(nm, ty)]) ks[0] = none → Q2 cx (.mk k nm num ty fr lb ks) = none := fun hk hl h => by
  obtain ⟨b, rfl⟩ := ks1 (hop.2.2 (.inl hk)); exact B4T hk h
 have f5 : ∀ (t : Ty) (hk : k = 5) (hl : 0 < ks.length), Q2 (cx ++ [(nm, ty)]) ks[0] = some t → Q2 cx (.mk k nm num ty fr lb ks) = if E8 (.mk 4 [ty, t]) = true then some (.mk 4 [ty, t]) else none := fun t hk hl h => by
  obtain ⟨b, rfl⟩ := ks1 (hop.2.2 (.inl hk)); exact B4U hk h
 have f6 := @B4V cx k nm num ty fr lb ks
 have f7 := fun ts => @B4W cx k nm num ty fr lb ks ts
 generalize Q2 cx (.mk k nm num ty fr lb ks) = R at f1 f2 f3 f4 f5 f6 f7 ⊢
 obtain ⟨tk, tks⟩ := ty
 obtain ⟨fk, fks⟩ := fr
 obtain ⟨pt, ct, pf, cf, q, cq, es, rfl, hk, hnum, hlb, hty, hfr, hsl, hkl⟩ := hr.open9
 have hlen : ks.length ≤ 3 := by have := A1h k; omega
 refine B3 Tryz.func145 rfl Tryz.ntmps145 Tryz.results145 rfl ?_
 intro w0
 refine tS (tR ?_)
 refine sE (C0 rfl rfl) rfl (fun b3 => ?_)
 refine sE (A7 rfl) rfl (fun b4 => ?_)
 refine I7 ?_
 refine B7 (tS (tR (sB (qE rfl rfl) rfl rfl (fun h18 => ?_) (fun h18 => ?_))))
 refine D9 ?_
 (refine E5 rfl (B4D G cx hcv p n c nm hx) rfl rfl (fun v G1 hle1 hh => ?_); obtain ⟨mt, mc, rfl, hmr, hma, hmu⟩ := hh; obtain ⟨p1, c1, e1, rfl, _⟩ := hmr.open)
 refine D9 ?_
 refine I4 (rC rfl (A1 rfl rfl)) (rT rfl) ?_
 (rw [f1 (by omega)]; exact ⟨rfl, _, _, rfl, hmr, hma, hmu⟩)
 refine sQ (qA rfl) rfl (sD (nS (cF rfl (tS (tR ?_)))))
 refine sB (qE rfl rfl) rfl rfl (fun h46 => ?_) (fun h46 => ?_)
 refine sQ (qA rfl) rfl (sD (nS (qT rfl (tS (tR ?_)))))
 refine I5 rfl ((A1i _)) rfl rfl ?_
 refine F4 ?_
 refine sQ (qA rfl) rfl (sD (nS (tT (rB (rS ?_)))))
 refine I4 (rC rfl (A1 rfl rfl)) (rT rfl) ?_
 (rw [f2 (by omega)]; exact P4.yes rfl (K1 _) (S8 (by omega) (by omega)))
 refine sQ (qA rfl) rfl (sD (nS (cF rfl (tS (tS (tR ?_))))))
 refine sB (qE rfl rfl) rfl rfl (fun h70 => ?_) (fun h70 => ?_)
 refine D9 ?_
 refine I5 rfl ((A3y _)) rfl rfl ?_
 refine F4 ?_
 refine sQ (qA rfl) rfl (sD (nS (tT (rB (rS ?_)))))
 refine I4 (rC rfl (A1 rfl rfl)) (rT rfl) ?_
 (rw [f3 (by omega)]; exact P4.yes rfl (A0e _) (S8 (by omega) (by omega)))
 refine sQ (qA rfl) rfl (sD (nS (cF rfl (tR ?_))))
 refine sB (qE rfl rfl) rfl rfl (fun h95 => ?_) (fun h95 => ?_)
 refine sQ (qA rfl) rfl (sD (nS (qT rfl (tS (tR ?_)))))
 refine I5 rfl ((A3y _)) rfl rfl ?_
 refine F4 ?_
 refine sQ (qA rfl) rfl (sD (nS (tT (rB (rS ?_)))))
 refine I4 (rC rfl (A1 rfl rfl)) (rT rfl) ?_
 (rw [f3 (by omega)]; exact P4.yes rfl (A0e _) (S8 (by omega) (by omega)))
 refine sQ (qA rfl) rfl (sD (nS (cF rfl (tS (tR ?_)))))
 refine sB (qE rfl rfl) rfl rfl (fun h118 => ?_) (fun h118 => ?_)
 refine sQ (qA rfl) rfl (sD (nS (qT rfl (tS ?_))))
 (have hl1 : ks.length = 1 := hop.2.2 (by omega); obtain ⟨b, o, e, rfl, hl, hat, hre, hgb⟩ := hsl.kidTm hkl (i := 0) (by omega) (by omega); have hMore := B4P G cx p n c nm (.mk tk tks) _ hx (by omega) hty; refine D5 D6 rfl ?_)
 refine I3 (i := 0) (l' := [tt,ff,ff,ff,ff,ff,ff,ff,ff,ff,ff,ff,ff,ff,ff,ff,ff]) rfl D1 (qM rfl) rfl (by kernel_rfl) rfl rfl ?_
 refine aP 1 rfl (B0 rfl) rfl ?_
 refine aL 2 rfl (B9 rfl rfl) rfl ?_
 refine aP 3 rfl (B0 rfl) rfl ?_
 refine aL 4 rfl (A1 rfl rfl) rfl ?_
 refine aP 6 rfl (B0 rfl) rfl ?_
 refine aL 7 rfl (B9 rfl rfl) rfl ?_
 refine aP 8 rfl (B2 (j := 0) rfl rfl rfl (by omega)) rfl ?_
 refine aL 9 rfl (A3 rfl rfl (hat _) hl) rfl ?_
 refine T2 (j := 5) (j' := 14) (by kernel_rfl) ?_ ?_
 (refine I9 rfl rfl hMore rfl rfl rfl (fun v G1 hle1 hh => ?_); obtain ⟨pm, cm, rfl, hxm⟩ := hh; have hreM := hre.mono hle1; have hLam := ih ks[0] (List.getElem_mem (by omega)) (d + 1) _ G1 pm (n + 1) cm _ (hvk 0 (by omega)) (by omega) (hcv5 (by omega)) hxm hreM; have htyM := hty.mono hle1)
 refine T2 (j := 10) (j' := 14) (by kernel_rfl) ?_ ?_
 focus (refine I9 rfl rfl hLam rfl rfl rfl (fun v G2 hle2 hh => ?_); obtain ⟨mt, mc, rfl, hmr, hma, hmu⟩ := hh; obtain ⟨p1, c1, e1, rfl, _⟩ := hmr.open; have htyN := htyM.mono hle2; rcases hE : Q2 (cx ++ [(nm, Ty.mk tk tks)]) ks[0] with _ | mt2; rotate_left; obtain rfl := hmu _ hE; rotate_left; all_goals simp only [Option.isSome])
 refine aP 11 rfl (qM rfl) rfl ?_
 refine aP 12 rfl (pX rfl rfl) rfl ?_
 refine aP 13 rfl (pX rfl rfl) rfl ?_
 refine A2 14 ?_
 (refine E1 rfl (A7 rfl) rfl rfl ?_; rintro _ ⟨b142, rfl⟩)
 refine A2 15 ?_
 refine H7 rfl ?_
 refine aP 16 rfl (qA rfl) rfl ?_
 refine A0T ?_
 refine I4 (rC rfl (A1 rfl rfl)) (rT rfl) ?_
 (rw [f4 (by omega) (by omega) (by first | exact hE | assumption)]; exact P4.no rfl (N6 _ ⟨by omega, by omega⟩) (S8 (by omega) (by omega)))
 refine aP 11 rfl (qM rfl) rfl ?_
 refine aP 12 rfl (pX rfl rfl) rfl ?_
 refine aP 13 rfl (pX rfl rfl) rfl ?_
 refine A2 14 ?_
 (refine E1 rfl (A7 rfl) rfl rfl ?_; rintro _ ⟨b173, rfl⟩)
 refine A2 15 ?_
 refine H7 rfl ?_
 refine aP 16 rfl (qA rfl) rfl ?_
 refine V2 ?_
 (refine E5 rfl (A41 4 (.mk tk tks) _ _ _ _ (.inl rfl) hta hma htyN hmr) rfl rfl (fun v G3 hle3 hh => ?_); obtain ⟨mc2, rfl, hmr2⟩ := hh; obtain ⟨p2, c2, e2, rfl, _⟩ := hmr2.open)
 refine D9 ?_
 refine I4 (rC rfl (A1 rfl rfl)) (rT rfl) ?_
 (rw [f5 _ (by omega) (by omega) (by first | exact hE | assumption)]; exact P4.mk rfl hmr2 (A4u (.inl rfl) hta hma))
 (refine E1 rfl (A7 rfl) rfl rfl ?_; rintro _ ⟨b206, rfl⟩)
 refine A2 10 ?_
 focus (refine I9 rfl rfl hLam rfl rfl rfl (fun v G2 hle2 hh => ?_); obtain ⟨mt, mc, rfl, hmr, hma, hmu⟩ := hh; obtain ⟨p1, c1, e1, rfl, _⟩ := hmr.open; have htyN := htyM.mono hle2; rcases hE : Q2 (cx ++ [(nm, Ty.mk tk tks)]) ks[0] with _ | mt2; rotate_left; obtain rfl := hmu _ hE; rotate_left; all_goals simp only [Option.isSome])
 refine aP 11 rfl (qM rfl) rfl ?_
 refine aP 12 rfl (pX rfl rfl) rfl ?_
 refine aP 13 rfl (pX rfl rfl) rfl ?_
 refine A2 15 ?_
 refine H7 rfl ?_
 refine aP 16 rfl (qA rfl) rfl ?_
 refine A0T ?_
 refine I4 (rC rfl (A1 rfl rfl)) (rT rfl) ?_
 (rw [f4 (by omega) (by omega) (by first | exact hE | assumption)]; exact P4.no rfl (N6 _ ⟨by omega, by omega⟩) (S8 (by omega) (by omega)))
 refine aP 11 rfl (qM rfl) rfl ?_
 refine aP 12 rfl (pX rfl rfl) rfl ?_
 refine aP 13 rfl (pX rfl rfl) rfl ?_
 refine A2 15 ?_
 refine H7 rfl ?_
 refine aP 16 rfl (qA rfl) rfl ?_
 refine V2 ?_
 (refine E5 rfl (A41 4 (.mk tk tks) _ _ _ _ (.inl rfl) hta hma htyN hmr) rfl rfl (fun v G3 hle3 hh => ?_); obtain ⟨mc2, rfl, hmr2⟩ := hh; obtain ⟨p2, c2, e2, rfl, _⟩ := hmr2.open)
 refine D9 ?_
 refine I4 (rC rfl (A1 rfl rfl)) (rT rfl) ?_
 (rw [f5 _ (by omega) (by omega) (by first | exact hE | assumption)]; exact P4.mk rfl hmr2 (A4u (.inl rfl) hta hma))
 (refine E1 rfl (A7 rfl) rfl rfl ?_; rintro _ ⟨b273, rfl⟩)
 refine A2 5 ?_
 (refine I9 rfl rfl hMore rfl rfl rfl (fun v G1 hle1 hh => ?_); obtain ⟨pm, cm, rfl, hxm⟩ := hh; have hreM := hre.mono hle1; have hLam := ih ks[0] (List.getElem_mem (by omega)) (d + 1) _ G1 pm (n + 1) cm _ (hvk 0 (by omega)) (by omega) (hcv5 (by omega)) hxm hreM; have htyM := hty.mono hle1)
 refine A2 10 ?_
 focus (refine I9 rfl rfl hLam rfl rfl rfl (fun v G2 hle2 hh => ?_); obtain ⟨mt, mc, rfl, hmr, hma, hmu⟩ := hh; obtain ⟨p1, c1, e1, rfl, _⟩ := hmr.open; have htyN := htyM.mono hle2; rcases hE : Q2 (cx ++ [(nm, Ty.mk tk tks)]) ks[0] with _ | mt2; rotate_left; obtain rfl := hmu _ hE; rotate_left; all_goals simp only [Option.isSome])
 refine aP 11 rfl (qM rfl) rfl ?_
 refine aP 12 rfl (pX rfl rfl) rfl ?_
 refine aP 13 rfl (pX rfl rfl) rfl ?_
 refine A2 15 ?_
 refine H7 rfl ?_
 refine aP 16 rfl (qA rfl) rfl ?_
 refine A0T ?_
 refine I4 (rC rfl (A1 rfl rfl)) (rT rfl) ?_
 (rw [f4 (by omega) (by omega) (by first | exact hE | assumption)]; exact P4.no rfl (N6 _ ⟨by omega, by omega⟩) (S8 (by omega) (by omega)))
 refine aP 11 rfl (qM rfl) rfl ?_
 refine aP 12 rfl (pX rfl rfl) rfl ?_
 refine aP 13 rfl (pX rfl rfl) rfl ?_
 refine A2 15 ?_
 refine H7 rfl ?_
 refine aP 16 rfl (qA rfl) rfl ?_
 refine V2 ?_
 (refine E5 rfl (A41 4 (.mk tk tks) _ _ _ _ (.inl rfl) hta hma htyN hmr) rfl rfl (fun v G3 hle3 hh => ?_); obtain ⟨mc2, rfl, hmr2⟩ := hh; obtain ⟨p2, c2, e2, rfl, _⟩ := hmr2.open)
 refine D9 ?_
 refine I4 (rC rfl (A1 rfl rfl)) (rT rfl) ?_
 (rw [f5 _ (by omega) (by omega) (by first | exact hE | assumption)]; exact P4.mk rfl hmr2 (A4u (.inl rfl) hta hma))
 refine D9 ?_
 (refine L4 (C8 rfl rfl rfl (by omega) (by unfold maxLen; omega) rfl) rfl ?_; rintro _ ⟨b351, rfl⟩)
 refine D9 ?_
 refine B7 ?_
 (refine L3 (fun (x : Nat × Option Addr × Nat × List Ty × List (List Value) × IM) => ⟨[(9, .int .i64 x.1), (8, .slice x.2.1 x.1 x.2.2.1), (3, .pointer (some ⟨b3, 0, none⟩)), (4, .pointer (some ⟨b4, 0, none⟩)), (0, .slice p n c)], [.slc x.2.1 x.2.2.1 25 2 x.1 x.2.2.2.2.1.flatten, .blk b4 [.int .i64 0, .slice none 0 0], .blk b3 [.int .i64 k, .string nm, .int .i64 num, .int .i64 tk, .slice pt tks.length ct, .int .i64 fk, .slice pf fks.length cf, .int .i64 lb, .slice q ks.length cq]], x.2.2.2.2.2⟩) (fun x => x.1 ≤ ks.length ∧ B6 G x.2.2.2.2.2 ∧ x.2.2.2.1.length = x.1 ∧ E6 x.2.2.2.2.2 x.2.2.2.1 x.2.2.2.2.1 ∧ (∀ u ∈ x.2.2.2.1, E4 u) ∧ V5 cx (ks.take x.1) = some x.2.2.2.1) (fun x => ks.length - x.1) (0, some ⟨b351, 0, none⟩, 0, [], [], G) ?_ ?_ ?_)
 (simp only [I6]; exact D3)
 (exact ⟨by simp, B6.refl _, rfl, by simp [E6], by simp, by simp [V5]⟩)
 (rintro ⟨i, pn, cn, us, es', Gi⟩ ⟨hi, hle, hlu, hst, hau, hsu⟩; simp only [] at hi hle hlu hst hau hsu ⊢; replace hsl := hsl.mono hle; replace hkl := hkl.mono hle; replace hx := hx.mono hle; replace hr0 := hr0.mono hle)
 refine C4 ?_
 refine sB (J9 rfl rfl) rfl rfl (fun h373 => ?_) (fun h373 => ?_)
 refine sD (nS (qT rfl (tK (nS (tS ?_)))))
 refine B7 ?_
 refine J7 ?_
 (obtain ⟨b, o, e, rfl, hl, hat, hre, hgb⟩ := hsl.kidTm hkl (i := i) (by omega) (by omega); refine sP (B2 rfl rfl rfl (by omega)) rfl rfl ?_)
 refine sL (A3 rfl rfl (hat _) hl) rfl rfl ?_
 focus (refine E5 rfl (ih ks[i] (List.getElem_mem (by omega)) (d + 1) cx Gi p n c _ (hvk i (by omega)) (by omega) hcv hx hre) rfl rfl (fun v G2 hle2 hh => ?_); obtain ⟨u, uc, rfl, hru, hua, huu⟩ := hh; obtain ⟨p3, c3, e3, rfl, _⟩ := hru.open; rcases hE : Q2 cx ks[i] with _ | u2; rotate_left; obtain rfl := huu _ hE; rotate_left; all_goals simp only [Option.isSome])
 refine L9 ?_
 refine sE (A7 rfl) rfl (fun b393 => ?_)
 refine A36 ?_
 refine I4 (rC rfl (A1 rfl rfl)) (rT rfl) ?_
 (rw [f6 (by omega) (A9E (by omega) hE)]; exact P4.no rfl (N6 _ ⟨by omega, by omega⟩) (S8 (by omega) (by omega)))
 refine L9 ?_
 refine sE (A7 rfl) rfl (fun b425 => ?_)
 refine V2 ?_
 (refine L4 (C8 rfl rfl rfl (by omega) (by unfold maxLen; omega) rfl) rfl ?_; rintro _ ⟨b443, rfl⟩)
 refine A37 rfl rfl rfl rfl rfl (fun _ _ => by repeat (first | exact Sw.here | apply Sw.there)) (P5 (by repeat first | exact mH | apply mT)) rfl (by simp [Value.oneCell']) (by unfold maxLen; omega) (by omega) rfl (fun pn' cn' => ?_)
 refine J7 ?_
 refine sP (K4 rfl rfl (by omega) (by omega)) rfl rfl ?_
 refine sQ (qA rfl) rfl (sD ?_)
 refine K7 (i + 1, pn', cn', us ++ [u2], es' ++ [[.int .i64 u2.k, .slice p3 u2.ks.length c3]], G2) ?_ ?_ ?_
 (simp only [I6]; exact D3)
 (dsimp only; exact ⟨by omega, hle.trans hle2, by simp [hlu], E6.snoc (hst.mono hle2) hru, A2M hau hua, A9D (by omega) hsu hE⟩)
 (show ks.length - (i + 1) < ks.length - i; omega)
 refine M6 ?_
 (obtain rfl : i = ks.length := (by omega); rw [List.take_length] at hsu; refine T8 (cs := es'.flatten) (by repeat (first | exact Pk.here | apply Pk.there)) (fun G3 hle3 hsl3 hno3 => ?_); have hst3 := hst.mono hle3; have hRes := B4J cx k nm num (.mk tk tks) (.mk fk fks) lb ks us G3 _ pn cn es' (by rw [hlu]; exact har) (by omega) hta (hr0.mono hle3) (by rw [hlu]; exact C9.of hsl3 (by rw [hst3.len, hlu]) hst3.all (fun e he => (hst3.each e he).2)) hst3 hau; rw [hlu] at hRes; refine E5 rfl hRes rfl rfl (fun v G4 hle4 hh => ?_); obtain ⟨mt, mc, rfl, hmr, hma, hmu⟩ := hh; obtain ⟨p1, c1, e1, rfl, _⟩ := hmr.open)
 refine C4 ?_
 refine I4 (rC rfl (A1 rfl rfl)) (rT rfl) ?_
 (rw [f7 us (by omega) hsu]; exact ⟨rfl, _, _, rfl, hmr, hma, hmu⟩)
theorem B4Y {e : Tm} (h : O4 e = true) : A0B e = Q2 [] e := by
 have hs := ((A0b e).1 h).1
 obtain ⟨h1, h2⟩ := A4G e 1 [] 0 hs A4E
 unfold A0B
 cases hE : M7 [] e 0 with
 | none => rw [A9h h hE, h2 hE]
 | some r =>
  obtain ⟨u, a, l⟩ := r
  rw [A9i h hE, (h1 u a l hE).1]
def A6t (t : Ty) (x : Bool) (G : IM) : IM → Value → List A4 → Prop := K5 fun G' v => ∃ cells, v = .tuple ⟨[.agg ⟨cells⟩, .bool x]⟩ ∧ B5 G' (if x = true then t else A8) cells
theorem B4Z (t : Ty) (G : IM) (cells : List Value) (hr : B5 G t cells) : Fn Tryz.prog 194 [.agg ⟨cells⟩, .bool true] [] G (A6t t true G) := by
 obtain ⟨p, c, e, rfl, _⟩ := hr.open
 refine B3 Tryz.func194 rfl Tryz.ntmps194 Tryz.results194 rfl ?_
 intro w0
 refine tS (tR ?_)
 refine sE (C0 rfl rfl) rfl (fun b3 => ?_)
 refine sE (A7 rfl) rfl (fun b4 => ?_)
 refine A0T ?_
 refine I4 (rC rfl (A1 rfl rfl)) (rT rfl) ?_
 (exact ⟨rfl, _, rfl, hr⟩)
theorem B40 (t : Ty) (G : IM) (cells : List Value) (hr : B5 G t cells) : Fn Tryz.prog 194 [.agg ⟨cells⟩, .bool false] [] G (A6t t false G) := by
 obtain ⟨p, c, e, rfl, _⟩ := hr.open
 refine B3 Tryz.func194 rfl Tryz.ntmps194 Tryz.results194 rfl ?_
 intro w0
 refine tS (tR ?_)
 refine sE (C0 rfl rfl) rfl (fun b3 => ?_)
 refine sE (A7 rfl) rfl (fun b4 => ?_)
 refine A0D ?_
 refine I4 (rC rfl (A1 rfl rfl)) (rT rfl) ?_
 (exact ⟨rfl, _, rfl, N6 _ ⟨by omega, by omega⟩⟩)
theorem B41 (t : Ty) (x : Bool) (G : IM) (cells : List Value) (hr : B5 G t cells) : Fn Tryz.prog 194 [.agg ⟨cells⟩, .bool x] [] G (A6t t x G) := by
 cases x
 ·exact B40 t G cells hr
 ·exact B4Z t G cells hr
theorem A1H.sure {o : Option Ty} {t : Ty} {G G' : IM} {cells : List Value} (h : ∀ u, o = some u → u = t) (hr : B5 G' (if o.isSome = true then t else A8) cells) : A1H o G G' (.tuple ⟨[.agg ⟨cells⟩, .bool o.isSome]⟩) [] := by
 cases o with
 | none => exact ⟨rfl, cells, A8, rfl, hr, by simp⟩
 | some u => exact ⟨rfl, cells, t, rfl, hr, fun x hx => by cases hx; exact (h _ rfl).symm⟩
theorem B42 (e : Tm) (G : IM) (cells : List Value) (hcnt : C6 e ≤ 4294967296) (hr : A6 G e cells) :
  Fn Tryz.prog 140 [.slice none 0 0, .agg ⟨cells⟩] [] G (A1H (A0B e) G) := by
 have hl := hr.len
 have hone := hr.one
 have hw := A5I e G cells hcnt hr
 have hT := fun h : O4 e = true => B4X e 1 [] G none 0 0 cells ((A0b e).1 h).1 (by omega) A4E (T1.nil G) hr
 have hts := fun h => @B4Y e h
 have hno := @B30 e
 refine B3 Tryz.func140 rfl Tryz.ntmps140 Tryz.results140 rfl ?_
 intro w0
 refine tS (tR ?_)
 refine sE (C0 rfl rfl) rfl (fun b3 => ?_)
 refine sE (A7 rfl) rfl (fun b4 => ?_)
 refine C4 ?_
 refine I5 rfl ((B18 _)) rfl rfl ?_
 refine sQ (W0 rfl) rfl (sQ (qM rfl) rfl ?_)
 refine sL (A3 rfl rfl (A9 (by repeat first | exact mH | apply mT)) (by assumption)) rfl rfl ?_
 refine E2 rfl (hw) rfl rfl (fun h16 => ?_) (fun h16 => ?_)
 refine I7 ?_
 refine sL (A3 rfl rfl (A9 (by repeat first | exact mH | apply mT)) (by assumption)) rfl rfl ?_
 (refine E5 rfl (hT (by assumption)) rfl rfl (fun v G1 hle1 hh => ?_); obtain ⟨mt, mc, rfl, hmr, hma, hmu⟩ := hh; obtain ⟨p1, c1, e1, rfl, _⟩ := hmr.open; have hmo := hts (by assumption))
 refine sQ (pX rfl rfl) rfl (sQ (pX rfl rfl) rfl ?_)
 (refine E5 rfl (B41 mt _ _ _ hmr) rfl rfl (fun v G2 hle2 hh => ?_); obtain ⟨mc2, rfl, hmr2⟩ := hh; obtain ⟨p2, c2, e2, rfl, _⟩ := hmr2.open)
 refine C4 ?_
 refine I4 (rC rfl (A1 rfl rfl)) (rT rfl) ?_
 (rw [hmo]; exact A1H.sure hmu hmr2)
 refine L5 ?_
 refine I4 (rC rfl (A1 rfl rfl)) (rT rfl) ?_
 (exact A1H.no (u := A8) (N6 _ ⟨by omega, by omega⟩) rfl (hno (by assumption)))
theorem B43 (e : Tm) (G : IM) (cells : List Value) (hcnt : C6 e ≤ 4294967296) (hr : A6 G e cells) :
  Fn Tryz.prog 99 [.agg ⟨cells⟩] [] G (A1H (A0B e) G) := by
 have hl := hr.len
 have hone := hr.one
 refine B3 Tryz.func99 rfl Tryz.ntmps99 Tryz.results99 rfl ?_
 intro w0
 refine tS (tR ?_)
 refine sE (C0 rfl rfl) rfl (fun b3 => ?_)
 refine sE (A7 rfl) rfl (fun b4 => ?_)
 refine sQ (qA rfl) rfl (sD (nS (tS (tR ?_))))
 refine sL (A3 rfl rfl (A9 (by repeat first | exact mH | apply mT)) (by assumption)) rfl rfl ?_
 (refine E5 rfl (B42 e G cells hcnt hr) rfl rfl (fun v G1 hle1 hh => ?_); obtain ⟨cu, u, rfl, hru, hu⟩ := hh; obtain ⟨p1, c1, e1, rfl, _⟩ := hru.open)
 refine C4 ?_
 refine I4 (rC rfl (A1 rfl rfl)) (rT rfl) ?_
 (exact ⟨rfl, _, u, rfl, hru, hu⟩)
def B7b (e : Tm) (a b : Ty) (l : Int) : IM → Value → List A4 → Prop := K5 fun G' v => ∃ cells, v = .tuple ⟨[.agg ⟨cells⟩, .int .i64 (if M5 a b = true then l else l + 1)]⟩ ∧ A6 G' (if M5 a b = true then e else N1 e a b l) cells
def B7c (w ts : List Ty) : List Ty := if w = [] then ts else w
def B7d (ws : List Ty) (n : Nat) (G : IM) : IM → Value → List A4 → Prop := K5 fun G' v => ∃ p c es, v = .slice p n c ∧ ws.length = n ∧ C9 G' p n c 2 es ∧ E6 G' ws es
section
variable {cx : Cx} {k : Int} {nm : ByteArray} {ty : Ty} {ts w : List Ty} {t : Ty}
end
def B7e (u : Tm) (t : Ty) (l : Int) (G : IM) : IM → Value → List A4 → Prop := K5 fun G' v => ∃ cu ct, v = .tuple ⟨[.agg ⟨cu⟩, .agg ⟨ct⟩, .int .i64 (l + 1)]⟩ ∧ A6 G' u cu ∧ B5 G' t ct
def B44 (t : Tm) : List Ty := if O4 t = true then A2w t else []
def B7f (u : Tm) (n : Int) : IM → Value → List A4 → Prop := fun G' v outs => outs = [] ∧ ∃ cu, v = .tuple ⟨[.agg ⟨cu⟩, .int .i64 n]⟩ ∧ A6 G' u cu
def B7g (t : Tm) (L : List Ty) : Option Tm := if O4 t = true ∧ (B44 t).length = L.length ∧ ∀ u ∈ L, E8 u = true then some (A6p t L) else none
def TmB (o : Option Tm) : IM → Value → List A4 → Prop := K5 fun G' v => ∃ cu, v = .tuple ⟨[.agg ⟨cu⟩, .bool o.isSome]⟩ ∧ A6 G' (o.getD D7) cu
theorem A9F {e : Tm} (h : (A0B e).isSome = true) : O4 e = true := by
 unfold A0B U9 at h
 split at h
 ·rename_i u t hx
  split at hx
  ·assumption
  ·cases hx
 ·cases h
mutual
theorem A9G : ∀ (t : Tm) (d : Int), M3 12 14 t d = true → t.small
 | .mk k nm num ty fr lb ks, d, h => by
  obtain ⟨_, h2, h3, h4⟩ := A0r h
  obtain ⟨n1, n2, n3, n4, n5, n6, n7, n8, n9⟩ := V3.1 h3
  rw [Tm.small]
  refine ⟨by have := A77 h3; omega, (A3z h3).1.small, by rw [A1f (n9 h2).1]; exact A1X, ?_, A9H ks _ h4⟩
  have := A1h k; omega
theorem A9H : ∀ (ts : List Tm) (d : Int), M4 12 14 ts d = true → Tm.smallL ts
 | [], _, _ => by rw [Tm.smallL]; trivial
 | t :: ts, d, h => by
  rw [M4, Bool.and_eq_true] at h
  rw [Tm.smallL]
  exact ⟨A9G t d h.1, A9H ts d h.2⟩
end
theorem B45 {e : Tm} (h : O4 e = true) : e.fit 30 := by
 obtain ⟨h1, h2⟩ := (A0b e).1 h
 exact ⟨A9G e 1 h1, h2⟩
theorem Tm.fit.le {e : Tm} {n m : Nat} (h : e.fit n) (hm : n ≤ m) : e.fit m := ⟨h.1, Nat.le_trans h.2 hm⟩
theorem B46 (br : Nat) (pb : Option Addr) (nb cb : Nat) (bs : List UInt8) (hnb : nb ≤ 2000) (p : Nat) (G : IM) (hb : Sl G pb nb cb 1 (N9 bs)) (hp : p < 1099511627776) :
  Fn Tryz.prog 86 [.pointer (some ⟨br, 0, none⟩)] [rd br pb nb cb p] G
   (Y7 br pb nb cb p 1 (fun _ v => ∃ k, v = .int .i64 k ∧ E3 k)) := by
 refine B3 Tryz.func86 rfl Tryz.ntmps86 Tryz.results86 rfl ?_
 intro w0
 refine D8 ?_
 (refine L4 (C8 rfl rfl rfl (by omega) (by unfold maxLen; omega) rfl) rfl ?_; rintro _ ⟨b9, rfl⟩)
 (refine T8 (by repeat (first | exact Pk.here | apply Pk.there)) (fun Gf hlef hslf _ => ?_); refine H4 rfl (X9 Gf br pb nb cb p bs _ _ _ _ (hb.mono hlef) hnb (by omega) hslf (by decide)) (Pk.perm (by repeat (first | exact Pk.here | apply Pk.there))) rfl rfl (fun v Gm outs hlen hh => ?_); obtain ⟨rfl, rfl, hv⟩ := hh; obtain ⟨kn, rfl, hkn⟩ : ∃ k, v = .int .i64 k ∧ E3 k := (by simp only [List.mem_cons, List.not_mem_nil, or_false] at hv; rcases hv with rfl | rfl | rfl | rfl | rfl | rfl | rfl | rfl <;> exact ⟨_, rfl, by unfold E3; omega⟩))
 refine sQ (qA rfl) rfl (sD (nS (tT ?_)))
 refine F8 (outs := [rd br pb nb cb (p + 1)]) (rT rfl) (by repeat (first | exact A0.nil | refine A0.cons Pk.here ?_ | refine A0.cons (Pk.there Pk.here) ?_ | refine A0.cons (Pk.there (Pk.there Pk.here)) ?_ | apply A0.drop)) ?_
 (exact ⟨p + 1, by omega, by omega, rfl, kn, rfl, hkn⟩)
mutual
theorem A9I : ∀ a : Ty, A1J a a = true
 | .mk k ks => by rw [A1k, A9J ks]; simp
theorem A9J : ∀ xs : List Ty, A0u xs xs = true
 | [] => rfl
 | a :: xs => by rw [A0u, A9I a, A9J xs]; rfl
end
def PLe (l l' : List Ty) : Prop := ∀ i, A1J (l.getD i A8) (l'.getD i A8) = true
section masks
variable {P : Program} {Γ : K6} {env : L6} {hp : List A4} {G : IM} {ty : TypeId}
end masks
def mLb (t : Tm) : List Int := (A2v t).map Tm.lb
def B7h (ts : List Tm) : List Int := (A6o ts).map Tm.lb
structure Lbs (ls : List Int) (l l' : Int) : Prop where
 le : l ≤ l'
 nd : ls.Nodup
 len : (ls.length : Int) = l' - l
 mem : ∀ m ∈ ls, l < m ∧ m ≤ l'
theorem A6u {us : List Tm} {h w : List Ty} {l : Int} (hn : us = [] ∨ h = [] ∨ w = []) : F0 us h w l = (us, l) := by
 rcases hn with rfl | rfl | rfl
 ·simp [F0]
 ·simp [F0]
 ·simp [F0]
mutual
theorem A9K : ∀ a : Tm, A2q a a = true
 | .mk k nm num ty fr lb ks => A8C.2 ⟨rfl, rfl, rfl, fun _ => A9I ty, A9L ks⟩
theorem A9L : ∀ xs : List Tm, A13 xs xs = true
 | [] => rfl
 | a :: xs => by rw [A13, A9K a, A9L xs]; rfl
end
theorem B47 {e u : Tm} {t : Ty} (h : U9 e = some (u, t)) : ∃ g A g' A', u = g.tm ∧ t = A.ty ∧ GP N0 g g' A A' := by
 have hv : O4 e = true := A9F (by rw [B32 h]; rfl)
 obtain ⟨g, g', A, A', h1, h2, _, h4⟩ := B25 h (b := e) (by unfold A4K; rw [hv, A9K]; rfl)
 exact ⟨g, A, g', A', h1, h2, h4⟩
theorem B48 : ∀ g : GE, J4 g.tm = g.er.tm := by
 intro g
 induction g with
 | var x => rw [GE.er, GE.tm, J4, E9]; simp
 | num n => rw [GE.er, GE.tm, J4, E9]; simp
 | tru b => rw [GE.er, GE.tm, J4, E9]; cases b <;> simp
 | lam x A e i => rw [GE.er, GE.tm, GE.tm, J4, E9, E9, i]; rfl
 | app f a i j => rw [GE.er, GE.tm, GE.tm, J4, E9, E9, E9, i, j]; rfl
 | ar s a b i j => rw [GE.er, GE.tm, GE.tm, J4, E9, E9, E9, i, j]; cases s <;> rfl
 | ite c a b i j k => rw [GE.er, GE.tm, GE.tm, J4, E9, E9, E9, E9, i, j, k]; rfl
 | pair a b i j => rw [GE.er, GE.tm, GE.tm, J4, E9, E9, E9, i, j]; rfl
 | part s e i => rw [GE.er, GE.tm, GE.tm, J4, E9, E9, i]; cases s <;> rfl
 | cast A B l e i => rw [GE.er, GE.tm, J4, E9, E9, i]; rfl
theorem B49 (u : Tm) (a b : Ty) (l : Int) : J4 (N1 u a b l) = J4 u := by rw [N1, J4, E9, E9]; rfl
theorem A45 : ∀ (us : List Tm) (h w : List Ty) (l : Int), E9 (F0 us h w l).1 = E9 us
 | [], h, w, l => by rw [A6u (by simp)]
 | u :: us, [], w, l => by rw [A6u (by simp)]
 | u :: us, a :: h, [], l => by rw [A6u (by simp)]
 | u :: us, a :: h, b :: w, l => by
  rw [F0]
  split
  ·rw [E9, E9, A45 us h w l]
  ·rw [E9, E9, B49, A45 us h w (l + 1)]
theorem B5a : ∀ (us : List Tm), J4 (us.getD 0 D7) = (E9 us).headD (J4 D7)
 | [] => rfl
 | u :: us => by rw [E9]; rfl
theorem B5b (ks : List Tm) (ih : ∀ t ∈ ks, ∀ (d : Int) (cx : Cx) (l : Int) (u : Tm) (a : Ty) (l' : Int), M3 12 14 t d = true → M7 cx t l = some (u, a, l') → J4 u = J4 t) :
  ∀ (d : Int) (cx : Cx) (l : Int) (us : List Tm) (h : List Ty) (l' : Int), M4 12 14 ks d = true → M1 cx ks l = some (us, h, l') → E9 us = E9 ks := by
 induction ks with
 | nil =>
  intro d cx l us h l' _ hE
  rw [M1] at hE
  cases hE
  rfl
 | cons t ts ihl =>
  intro d cx l us h l' hs hE
  rw [M4, Bool.and_eq_true] at hs
  rw [M1] at hE
  split at hE
  ·cases hE
  ·rename_i u a l1 h1
   split at hE
   ·cases hE
   ·rename_i us2 h2 l2 hE2
    cases hE
    rw [E9, E9, ih t List.mem_cons_self d cx l u a l1 hs.1 h1, ihl (fun t ht => ih t (List.mem_cons_of_mem _ ht)) d cx l1 us2 h2 _ hs.2 hE2]
theorem B5c : ∀ (t : Tm) (d : Int) (cx : Cx) (l : Int) (u : Tm) (a : Ty) (l' : Int), M3 12 14 t d = true → M7 cx t l = some (u, a, l') → J4 u = J4 t := by
 refine Tm.ind fun k nm num ty fr lb ks ih d cx l u a l' hs hE => ?_
 obtain ⟨_, h2, h3, h4⟩ := A0r hs
 have hops := (V3.1 h3).1
 rw [M7] at hE
 split at hE
 ·cases hE
 ·rename_i us h l1 hL
  have g1 := B5b ks ih _ _ _ _ _ _ h4 hL
  rw [Q7] at hE
  split at hE
  ·cases hE
  ·rename_i w t' hN
   cases hE
   split
   ·rename_i hk
    subst hk
    rw [B5a, A45, g1, J4, if_pos (.inl rfl)]
    have hl : ks.length = 1 := by rw [show C5 13 = 1 from rfl] at hops; omega
    obtain ⟨x, hx⟩ : ∃ x, ks = [x] := List.length_eq_one_iff.1 hl
    rw [hx, E9]; rfl
   ·rename_i hk
    have hE : ∀ vs, J4 (.mk k nm num ty fr lb vs) = .mk k nm num (if k = 5 then N4 else A8) A8 0 (E9 vs) := fun vs => by rw [J4, if_neg (by omega)]
    rw [hE, hE, A45, g1]
theorem B5d {e u : Tm} {t : Ty} (h : U9 e = some (u, t)) : J4 u = J4 e := by
 unfold U9 at h
 split at h
 ·rename_i hv
  split at h
  ·rename_i u' t' l' he
   cases h
   exact B5c e 1 [] 0 u t l' ((A0b e).1 hv).1 he
  ·cases h
 ·cases h
def GE.lt : GE → Prop
 | .var _ => True
 | .num _ => True
 | .tru _ => True
 | .lam _ A e => E8 A.ty = true ∧ e.lt
 | .app f a => f.lt ∧ a.lt
 | .ar _ a b => a.lt ∧ b.lt
 | .ite c a b => c.lt ∧ a.lt ∧ b.lt
 | .pair a b => a.lt ∧ b.lt
 | .part _ e => e.lt
 | .cast _ _ _ _ => False
mutual
def A9M : Ty → Int
 | .mk k ks => if k = 1 then 1 else A9N ks
def A9N : List Ty → Int
 | [] => 0
 | t :: ts => A9M t + A9N ts
end
def tSt (t : Ty) : Bool := decide (A9M t = 0)
def B7i (e : Tm) : Bool := O4 e && (A2w e).all tSt
abbrev NoC (u : Tm) : Prop := A4T (fun _ => False) u
def B7j (e : Tm) (fuel : Int) : ByteArray × Int × Int := if (O4 e || O3 e) = true then (if (A0l (J4 e) fuel).2.1 = 0 then (A02 (A0l (J4 e) fuel).1, 0, (A0l (J4 e) fuel).2.2) else (⟨⟨[]⟩⟩, (A0l (J4 e) fuel).2.1, (A0l (J4 e) fuel).2.2)) else (⟨⟨[]⟩⟩, 3, 0)
theorem A9O : ∀ (n : Nat) (e : Tm), (J0 n e).2.2.2 ≤ n
 | 0, e => by rw [J0]; split <;> exact Nat.le_refl _
 | n + 1, e => by
  have := A9O n (H2 e).1
  rw [J0]
  split
  ·show (J0 n (H2 e).1).2.2.2 + 1 ≤ n + 1; omega
  ·exact Nat.zero_le _
theorem B5e (t : Tm) (G : IM) (cells : List Value) (hl : cells.length = 9) (ho : cells.all (·.oneCell') = true) (h : Fn Tryz.prog 169 [.agg ⟨cells⟩] [] G (H6 (.bool (M0 t)) G)) :
  Fn Tryz.prog 220 [.agg ⟨cells⟩] [] G (T9 (.bool (!M0 t)) [] G) := by
 refine B3 Tryz.func220 rfl Tryz.ntmps220 Tryz.results220 rfl ?_
 intro w0
 refine tS (tR ?_)
 refine sE (C0 rfl rfl) rfl (fun b3 => ?_)
 refine sQ (qA rfl) rfl (sD (nS (tS (tR ?_))))
 refine sL (A3 rfl rfl (A9 (by repeat first | exact mH | apply mT)) hl) rfl rfl ?_
 refine I5 rfl (h) rfl rfl ?_
 refine sQ (A1u rfl) rfl ?_
 refine sQ (qA rfl) rfl (sD (nS (tT (E0 (rT rfl) ?_))))
 (exact ⟨rfl, rfl, rfl⟩)
theorem A9P {k : Int} {nm : ByteArray} {num : Int} {ty fr : Ty} {lb : Int} {ks : List Tm} {A : Bool} (h : ks.all M0 = A) (h1 : k ≠ 14) (h2 : k ≠ 5 ∨ ty.k = 1) : M0 (.mk k nm num ty fr lb ks) = A := by
 rw [M0, decide_eq_true ⟨h1, h2⟩, A6g, h, Bool.true_and]
theorem A9Q {k : Int} {nm : ByteArray} {num : Int} {ty fr : Ty} {lb : Int} {ks : List Tm} (h : ¬(k ≠ 14 ∧ (k ≠ 5 ∨ ty.k = 1))) : M0 (.mk k nm num ty fr lb ks) = false := by
 rw [M0, decide_eq_false h, Bool.false_and]
theorem B5f : ∀ (t : Tm) (G : IM) (cells : List Value), A6 G t cells → Fn Tryz.prog 169 [.agg ⟨cells⟩] [] G (H6 (.bool (M0 t)) G) := by
 refine Tm.ind fun k nm num ty fr lb ks ih G cells hr => ?_
 obtain ⟨A, hA⟩ : ∃ A, ks.all M0 = A := ⟨_, rfl⟩
 have hy := @A9P k nm num ty fr lb ks A hA
 have hn := @A9Q k nm num ty fr lb ks
 generalize M0 (.mk k nm num ty fr lb ks) = R at hy hn ⊢
 obtain ⟨tk, tks⟩ := ty
 obtain ⟨fk, fks⟩ := fr
 rw [show (Ty.mk tk tks).k = tk from rfl] at hy hn
 obtain ⟨pt, ct, pf, cf, p, c, es, rfl, hk, hnum, hlb, hty, hfr, hsl, hkl⟩ := hr.open9
 have hC := A8J G p ks.length c es hsl 220 [] [] [] M0 ks rfl hA (fun i e he => by
  have hx := hkl.inv he D7
  exact B5e _ G e hx.2.len hx.2.one (ih _ hx.1 G e hx.2))
 refine B3 Tryz.func169 rfl Tryz.ntmps169 Tryz.results169 rfl ?_
 intro w0
 refine tS (tR ?_)
 refine sE (C0 rfl rfl) rfl (fun b3 => ?_)
 refine C4 ?_
 refine sB (M8 rfl rfl) rfl rfl (fun h11 => ?_) (fun h11 => ?_)
 refine L9 ?_
 refine sB (M8 rfl rfl) rfl rfl (fun h15 => ?_) (fun h15 => ?_)
 refine I7 ?_
 refine A1z rfl hC Z4 rfl rfl ?_
 refine sQ (A1u rfl) rfl ?_
 refine J7 ?_
 (exact ⟨rfl, by rw [hy (by omega) (by omega)]; cases A <;> rfl, rfl⟩)
 refine H1 ?_
 refine sB (qE rfl rfl) rfl rfl (fun h39 => ?_) (fun h39 => ?_)
 refine Q3 ?_
 refine A1z rfl hC Z4 rfl rfl ?_
 refine sQ (A1u rfl) rfl ?_
 refine J7 ?_
 (exact ⟨rfl, by rw [hy (by omega) (by omega)]; cases A <;> rfl, rfl⟩)
 refine J3 ?_
 (exact ⟨rfl, by rw [hn (by omega)], rfl⟩)
 refine A5n ?_
 (exact ⟨rfl, by rw [hn (by omega)], rfl⟩)
theorem A9R (t : Tm) (G : IM) (cells : List Value) (hr : A6 G t cells) : Fn Tryz.prog 123 [.agg ⟨cells⟩] [] G (H6 (.bool (Q9 t)) G) := by
 have hRl := hr.len
 have hRo := hr.one
 have hV := A5y t G cells hr
 have hB := B5f t G cells hr
 unfold Q9
 generalize O3 t = a at hV ⊢
 generalize M0 t = b at hB ⊢
 refine B3 Tryz.func123 rfl Tryz.ntmps123 Tryz.results123 rfl ?_
 intro w0
 refine tS (tR ?_)
 refine sE (C0 rfl rfl) rfl (fun b3 => ?_)
 refine sQ (qA rfl) rfl (sD (nS (tS (tR ?_))))
 refine sL (A3 rfl rfl (A9 (by repeat first | exact mH | apply mT)) hRl) rfl rfl ?_
 refine E2 rfl (hV) rfl rfl (fun h10 => ?_) (fun h10 => ?_)
 refine sQ (qM rfl) rfl ?_
 refine sL (A3 rfl rfl (A9 (by repeat first | exact mH | apply mT)) hRl) rfl rfl ?_
 refine E2 rfl (hB) rfl rfl (fun h13 => ?_) (fun h13 => ?_)
 refine J7 ?_
 (simp_all; exact ⟨rfl, rfl, rfl⟩)
 refine J7 ?_
 (simp_all; exact ⟨rfl, rfl, rfl⟩)
 refine D9 ?_
 (simp_all; exact ⟨rfl, rfl, rfl⟩)
theorem B5g (t : Tm) (G : IM) (cells : List Value) (hr : A6 G t cells) : Fn Tryz.prog 178 [.agg ⟨cells⟩] [] G (H6 (.int .i64 (A16 t.k)) G) := by
 obtain ⟨k, nm, num, ⟨tk, tks⟩, ⟨fk, fks⟩, lb, ks⟩ := t
 obtain ⟨pt, ct, pf, cf, p, c, es, rfl, hk, hnum, hlb, hty, hfr, hsl, hkl⟩ := hr.open9
 rw [show (Tm.mk k nm num (.mk tk tks) (.mk fk fks) lb ks).k = k from rfl]
 have hw : ∀ v : Int, (k = 6 → v = 1) → (k = 7 ∨ k = 8 → v = 2) → (k = 9 → v = 3) → (k = 11 ∨ k = 12 → v = 4) → (k ≠ 6 → k ≠ 7 → k ≠ 8 → k ≠ 9 → k ≠ 11 → k ≠ 12 → v = 5) → A16 k = v := by
  intro v h1 h2 h3 h4 h5
  unfold A16
  repeat' split
  all_goals first | exact (h1 (by assumption)).symm | exact (h2 (by assumption)).symm | exact (h3 (by assumption)).symm | exact (h4 (by assumption)).symm | exact (h5 (by omega) (by omega) (by omega) (by omega) (by omega) (by omega)).symm
 refine B3 Tryz.func178 rfl Tryz.ntmps178 Tryz.results178 rfl ?_
 intro w0
 refine tS (tR ?_)
 refine sE (C0 rfl rfl) rfl (fun b3 => ?_)
 refine I7 ?_
 refine B7 (tS (tR (sB (qE rfl rfl) rfl rfl (fun h17 => ?_) (fun h17 => ?_))))
 refine J3 ?_
 (exact ⟨rfl, congrArg (Value.int .i64) (Eq.symm (hw _ (by omega) (by omega) (by omega) (by omega) (by omega))), rfl⟩)
 refine sQ (qA rfl) rfl (sD (nS (cF rfl (tS (tS (tR ?_))))))
 refine sB (qE rfl rfl) rfl rfl (fun h39 => ?_) (fun h39 => ?_)
 refine I8 ?_
 (exact ⟨rfl, congrArg (Value.int .i64) (Eq.symm (hw _ (by omega) (by omega) (by omega) (by omega) (by omega))), rfl⟩)
 refine sQ (qA rfl) rfl (sD (nS (cF rfl (tR ?_))))
 refine sB (qE rfl rfl) rfl rfl (fun h62 => ?_) (fun h62 => ?_)
 refine J3 ?_
 (exact ⟨rfl, congrArg (Value.int .i64) (Eq.symm (hw _ (by omega) (by omega) (by omega) (by omega) (by omega))), rfl⟩)
 refine sQ (qA rfl) rfl (sD (nS (cF rfl (tS (tR ?_)))))
 refine sB (qE rfl rfl) rfl rfl (fun h83 => ?_) (fun h83 => ?_)
 refine J3 ?_
 (exact ⟨rfl, congrArg (Value.int .i64) (Eq.symm (hw _ (by omega) (by omega) (by omega) (by omega) (by omega))), rfl⟩)
 refine sQ (qA rfl) rfl (sD (nS (cF rfl (tS (tS (tR ?_))))))
 refine sB (qE rfl rfl) rfl rfl (fun h105 => ?_) (fun h105 => ?_)
 refine I8 ?_
 (exact ⟨rfl, congrArg (Value.int .i64) (Eq.symm (hw _ (by omega) (by omega) (by omega) (by omega) (by omega))), rfl⟩)
 refine sQ (qA rfl) rfl (sD (nS (cF rfl (tR ?_))))
 refine sB (qE rfl rfl) rfl rfl (fun h128 => ?_) (fun h128 => ?_)
 refine J3 ?_
 (exact ⟨rfl, congrArg (Value.int .i64) (Eq.symm (hw _ (by omega) (by omega) (by omega) (by omega) (by omega))), rfl⟩)
 refine L5 ?_
 (exact ⟨rfl, congrArg (Value.int .i64) (Eq.symm (hw _ (by omega) (by omega) (by omega) (by omega) (by omega))), rfl⟩)
theorem B5h {k : Int} {ks : List Tm} (h : O8 k ks = none) : U3 k ks = (D7, 2, A16 k) := A17 h
theorem B5i : ∀ (t : Tm) (G : IM) (cells : List Value), cv t → D0 t = false → M0 t = true → A6 G t cells → Fn Tryz.prog 125 [.agg ⟨cells⟩] [] G (Q8 (F9 t)) := by
 refine Tm.ind fun k nm num ty fr lb ks ih G cells hc hv hb hr => ?_
 have hr0 := hr
 have hN := hc.node.1
 have hkk := hc.node.2
 have hkb := (V6.1 hb).2
 have hsm := A1W _ hc
 obtain ⟨_, _, _, _, hksm⟩ := A0t.1 hsm
 have hops := hN.ops
 have hle3 := A1h k
 have hkd := @A6a k nm num ty fr lb ks hc hv
 have hrd := @A9p k nm num ty fr lb ks
 have hkidS := fun (i : Nat) => @B4i k nm num ty fr lb ks i
 have hRA := fun h => @A8V k nm num ty fr lb ks G cells hc h hr
 have hW := fun (G1 : IM) (hle : B6 G G1) => B5g _ G1 cells (hr.mono hle)
 have hCt := A8Y _ G _ hr
 rw [show (Tm.mk k nm num ty fr lb ks).k = k from rfl] at hW
 rw [show (Tm.mk k nm num ty fr lb ks).k = k from rfl, show (Tm.mk k nm num ty fr lb ks).ks = ks from rfl] at hCt
 obtain ⟨C, hC⟩ : ∃ C : Nat, (if k = 9 then 1 else ks.length : Nat) = C := ⟨_, rfl⟩
 rw [hC] at hCt hkd hrd
 have hkidS' := fun (i : Nat) (hi : i < ks.length) (hn : i < C) => hkidS i hi (by rw [hC]; exact hn)
 have hC9 : C ≤ ks.length := by rw [← hC]; split; (have : C5 k = 3 := by (rename_i h9; rw [h9]; rfl)); omega; omega
 obtain ⟨tk, tks⟩ := ty
 obtain ⟨fk, fks⟩ := fr
 obtain ⟨pt, ct, pf, cf, p, c, es, rfl, hk, hnum, hlb, hty, hfr, hsl, hkl⟩ := hr.open9
 have hn := hsl.le
 have hnc := hsl.sl.2.1
 refine B3 Tryz.func125 rfl Tryz.ntmps125 Tryz.results125 rfl ?_
 intro w0
 refine tS (tR ?_)
 refine sE (C0 rfl rfl) rfl (fun b3 => ?_)
 refine sE (A7 rfl) rfl (fun b4 => ?_)
 refine sQ (qA rfl) rfl (sQ (qA rfl) rfl (sD (nS (tS (tS ?_)))))
 refine D5 D6 rfl ?_
 refine I3 (i := 0) (l' := [tt,ff,ff,ff,ff,ff,ff]) rfl D1 (B0 rfl) rfl (by kernel_rfl) rfl rfl ?_
 refine aL 1 rfl (B9 rfl rfl) rfl ?_
 refine aL 2 rfl (A1 rfl rfl) rfl ?_
 refine aP 6 rfl (qM rfl) rfl ?_
 refine A2 3 ?_
 refine O5 rfl rfl (hCt) rfl rfl rfl ?_
 refine aP 4 rfl (A5w (l := C) rfl rfl rfl (by omega)) rfl ?_
 refine aP 5 rfl (pLn rfl rfl) rfl ?_
 refine C2 (nS ?_)
 refine B7 ?_
 (refine L3 (fun (i : Nat) => ⟨[(19, .int .i64 (i : Int)), (18, .int .i64 (C : Int)), (17, .slice p C c), (1, .pointer (some ⟨b3, 0, none⟩)), (2, .pointer (some ⟨b4, 0, none⟩))], [.blk b4 [.int .i64 0, .string ⟨⟨[]⟩⟩, .int .i64 0, .int .i64 0, .slice none 0 0, .int .i64 0, .slice none 0 0, .int .i64 0, .slice none 0 0], .blk b3 [.int .i64 k, .string nm, .int .i64 num, .int .i64 tk, .slice pt tks.length ct, .int .i64 fk, .slice pf fks.length cf, .int .i64 lb, .slice p ks.length c]], G⟩) (fun i => i ≤ C ∧ ∀ j, j < i → (h : j < ks.length) → D0 ks[j] = true) (fun i => C - i) 0 ?_ ?_ ?_)
 exact D3
 (exact ⟨Nat.zero_le _, fun j hj => absurd hj (Nat.not_lt_zero j)⟩)
 (rintro i ⟨hi, hj⟩)
 refine tS (tR ?_)
 refine sB (J9 rfl rfl) rfl rfl (fun h29 => ?_) (fun h29 => ?_)
 refine sD (nS (tS (qT rfl (tK (nS (tS ?_))))))
 refine B7 ?_
 refine tS (tR (sQ (qM rfl) rfl ?_))
 (have hiC : i < C := (by omega); obtain ⟨bx, ox, e, rfl, hl, hat, hre, hgb⟩ := hsl.kidTm hkl (i := i) (by omega) (by omega); have heo := hre.one; have hVi := A4O ks[i] G e hre; refine sP (B2 (j := i) rfl rfl rfl hiC) rfl rfl ?_)
 refine sL (A3 rfl rfl (hat _) hl) rfl rfl ?_
 refine sE (A7 rfl) rfl (fun b43 => ?_)
 refine sQ (qA rfl) rfl ?_
 refine sS rfl rfl rfl hl heo rfl ?_ (hu := by exact C3 hl.symm)
 refine sD (nS (tS (tS (tR ?_))))
 refine sL (A3 rfl rfl (A9 (by repeat first | exact mH | apply mT)) hl) rfl rfl ?_
 refine E2 rfl (hVi) rfl rfl (fun h52 => ?_) (fun h52 => ?_)
 refine D8 ?_
 refine sP (K4 rfl rfl (by omega) (by omega)) rfl rfl ?_
 refine sQ (qM rfl) rfl (sD ?_)
 refine K7 (i + 1) ?_ ?_ ?_
 exact D3
 (exact ⟨by omega, fun j hji hl2 => (by by_cases he : j = i; (subst he; assumption); exact hj j (by omega) hl2)⟩)
 (show C - (i + 1) < C - i; omega)
 refine sD (nS (cF rfl (tK (nS (tS (tR ?_))))))
 refine sL (A3 rfl rfl (A9 (by repeat first | exact mH | apply mT)) hl) rfl rfl ?_
 (have hvF : D0 ks[i] = false := (by assumption); obtain ⟨hs1, hs2, hs3⟩ := hkidS' i (by omega) hiC (fun j hji hl2 => hj j hji hl2) hvF; refine E5 rfl (ih ks[i] (List.getElem_mem (by omega)) G e (hkk _ (List.getElem_mem (by omega))) hvF (hkb _ (List.getElem_mem (by omega))) hre) rfl rfl (fun v G1 hle1 hh => ?_); obtain ⟨u, uc, rfl, hru, hu1⟩ := hh; have hul := hru.len; have huo := hru.one; have hClo := A8s G1 _ ks.length c es (hsl.mono hle1) (by omega) (by omega))
 refine H1 ?_
 refine sE (A7 rfl) rfl (fun b81 => ?_)
 refine sS rfl rfl rfl hul huo rfl ?_ (hu := by exact C3 hul.symm)
 refine C4 ?_
 refine sE (A7 rfl) rfl (fun b90 => ?_)
 refine C4 ?_
 (refine A34 rfl hClo rfl rfl (fun v98 G98 outs98 hle98 h98 => ?_); obtain ⟨hG, p1, c1, rfl, rfl⟩ := h98; replace hG := hG.symm; subst hG; refine A3A (cs := es.flatten) (by repeat (first | exact Pk.here | apply Pk.there)) (by omega) (fun bc Cc hpe hnc1 hcm => ?_); subst hpe)
 replace hru := hru.mono hle98
 refine D9 ?_
 refine sL (A3 rfl rfl (A9 (by repeat first | exact mH | apply mT)) hul) rfl rfl ?_
 refine sP (B2 (j := i) rfl rfl rfl (by omega)) rfl rfl ?_
 refine W1 rfl rfl rfl hul huo rfl (by repeat first | exact Sw.here | apply Sw.there) (by exact A3B (by rw [hkl.len]; omega) (fun e he => (hsl.all e he)) hul) ?_
 refine M6 ?_
 (refine A2G (bs := [(bc, (es.set i uc).flatten ++ Cc)]) (Pk.perm (by repeat (first | exact Pk.here | apply Pk.there))) (fun hn2 hd2 hle2 => ?_))
 refine tT (rB (rS (A2z (rB (rS ?_)))))
 refine C7 (rC rfl (A1 rfl rfl)) (rT rfl) (rT rfl) ?_
 (have hks2 := D2.set (j := i) ((hkl.mono hle1).mono hle2) (hru.mono hle2); refine A6b (r' := S9) hs1 hs2 (A6.put (us := ks.set i u) (es := es.set i uc) hk hnum hlb ((hty.mono hle1).mono hle2) ((hfr.mono hle1).mono hle2) (by rw [List.length_set]) (C9.of (Sl.of_blk (A := []) (by rw [A08 hks2.all, hks2.len, List.length_set]) (by omega) hcm (Wi.in hn2 List.mem_cons_self)) (by rw [hks2.len, List.length_set]) hks2.all (fun e he => by obtain ⟨q, hq⟩ := List.getElem?_of_mem he; exact (hks2.inv hq D7).2.one)) hks2) (fun h1 => by rw [hs3 h1, hu1 h1]))
 refine M6 ?_
 focus (have hall : ∀ i, i < C → (hl : i < ks.length) → D0 ks[i] = true := (fun j hjc hl2 => hj j (by omega) hl2); have hk8 := hkd hall; have hrd' := hrd hall; refine E5 rfl (hRA hk8) rfl rfl (fun v G1 hle1 hh => ?_); obtain ⟨u, uc, cc, rfl, hru, hy, hno⟩ := hh; have hul := hru.len; have huo := hru.one; rcases hm : O8 k ks with _ | x; rotate_left; obtain ⟨rfl, rfl⟩ := hy _ hm; rotate_left; obtain rfl := hno hm)
 refine L9 ?_
 refine sE (A7 rfl) rfl (fun b148 => ?_)
 refine sS rfl rfl rfl hul huo rfl ?_ (hu := by exact C3 hul.symm)
 refine C4 ?_
 refine sP (A0i rfl rfl (by omega)) rfl rfl ?_
 refine C4 ?_
 refine I5 rfl ((hW _ hle1)) rfl rfl ?_
 refine C4 ?_
 refine C7 (rC rfl (A1 rfl rfl)) (rT rfl) (rT rfl) ?_
 (rw [hrd', B5h hm]; exact Q8.mk rfl (L0 _))
 refine L9 ?_
 refine sE (A7 rfl) rfl (fun b178 => ?_)
 refine sS rfl rfl rfl hul huo rfl ?_ (hu := by exact C3 hul.symm)
 refine C4 ?_
 refine sP (A2D rfl rfl (by omega)) rfl rfl ?_
 refine sD (nS (cF rfl (tK (nS (tS (tR ?_))))))
 refine sL (A3 rfl rfl (A9 (by repeat first | exact mH | apply mT)) hul) rfl rfl ?_
 refine sQ (qM rfl) rfl ?_
 refine sS rfl rfl rfl hul huo rfl ?_ (hu := by exact C3 hul.symm)
 refine sQ (qA rfl) rfl (sQ (qA rfl) rfl (sD (nS (tT ?_))))
 refine C7 (rC rfl (A3 rfl rfl (A9 (by repeat first | exact mH | apply mT)) hul)) (rT rfl) (rT rfl) ?_
 (rw [hrd', A03 hm]; exact Q8.mk rfl hru)
theorem B5j (t : Tm) (G : IM) (cells : List Value) (hr : A6 G t cells) : Fn Tryz.prog 87 [.agg ⟨cells⟩] [] G (K2 (H2 t)) := by
 have hRl := hr.len
 have hRo := hr.one
 have hV := A9R t G cells hr
 have hI := A4O t G cells hr
 refine B3 Tryz.func87 rfl Tryz.ntmps87 Tryz.results87 rfl ?_
 intro w0
 refine tS (tR ?_)
 refine sE (C0 rfl rfl) rfl (fun b3 => ?_)
 refine sE (A7 rfl) rfl (fun b4 => ?_)
 refine sQ (qA rfl) rfl (sQ (qA rfl) rfl (sD (nS (tS ?_))))
 refine B7 ?_
 refine tS (tR ?_)
 refine sL (A3 rfl rfl (A9 (by repeat first | exact mH | apply mT)) hRl) rfl rfl ?_
 refine E2 rfl (hV) rfl rfl (fun h14 => ?_) (fun h14 => ?_)
 refine C4 ?_
 refine sL (A3 rfl rfl (A9 (by repeat first | exact mH | apply mT)) hRl) rfl rfl ?_
 refine E2 rfl (hI) rfl rfl (fun h23 => ?_) (fun h23 => ?_)
 refine sQ (qA rfl) rfl (sD (nS (qT rfl (tS (tR ?_)))))
 refine sL (A3 rfl rfl (A9 (by repeat first | exact mH | apply mT)) hRl) rfl rfl ?_
 (refine E5 rfl (A2K t G cells (A2Y (A04 (by assumption)).1) hr) rfl rfl (fun v G1 hle1 hh => ?_); obtain ⟨S6, F1, rfl, hs1, hn1⟩ := hh; have hul := hs1.R.len; have huo := hs1.R.one)
 refine sS rfl rfl rfl hul huo rfl ?_ (hu := by exact C3 hul.symm)
 refine C4 ?_
 refine C7 (rC rfl (A3 rfl rfl (A9 (by repeat first | exact mH | apply mT)) hul)) (rT rfl) (rT rfl) ?_
 (exact K2.mk (A4X (by assumption) (by assumption)) (hs1.R.mono (C1.le _ _)))
 refine D9 ?_
 refine sL (A3 rfl rfl (A9 (by repeat first | exact mH | apply mT)) hRl) rfl rfl ?_
 (have hbv := A04 (e := t) (by assumption); refine E5 rfl (B5i t G cells (A2l hbv.1).1 (by assumption) hbv.2 hr) rfl rfl (fun v G1 hle1 hh => ?_); obtain ⟨u, uc, rfl, hru, hu1⟩ := hh; have hul := hru.len; have huo := hru.one; have hVu := A9R u G1 uc hru)
 refine H1 ?_
 refine sE (A7 rfl) rfl (fun b57 => ?_)
 refine sS rfl rfl rfl hul huo rfl ?_ (hu := by exact C3 hul.symm)
 refine sQ (qA rfl) rfl (sQ (qA rfl) rfl (sD (nS (tS ?_))))
 refine B7 ?_
 refine tS (tR (sQ (qM rfl) rfl ?_))
 refine sB (M8 rfl rfl) rfl rfl (fun h68 => ?_) (fun h68 => ?_)
 refine V2 ?_
 refine C7 (rC rfl (A1 rfl rfl)) (rT rfl) (rT rfl) ?_
 (exact K2.mk (A6k (by assumption) (by assumption) (by omega)) (L0 _))
 refine sQ (qA rfl) rfl (sD (nS (cF rfl (tS (tR ?_)))))
 refine sL (A3 rfl rfl (A9 (by repeat first | exact mH | apply mT)) hul) rfl rfl ?_
 refine E2 rfl (hVu) rfl rfl (fun h95 => ?_) (fun h95 => ?_)
 refine I7 ?_
 refine sL (A3 rfl rfl (A9 (by repeat first | exact mH | apply mT)) hul) rfl rfl ?_
 (refine E5 rfl (A2K u G1 uc (A2Y (A04 (by assumption)).1) hru) rfl rfl (fun v G2 hle2 hh => ?_); obtain ⟨cs2, F2, rfl, hs2, hn2⟩ := hh; have hwl := hs2.R.len; have hwo := hs2.R.one)
 refine sS rfl rfl rfl hwl hwo rfl ?_ (hu := by exact C3 hwl.symm)
 refine sQ (qA rfl) rfl (sQ (qA rfl) rfl (sD (nS (tT ?_))))
 refine C7 (rC rfl (A3 rfl rfl (A9 (by repeat first | exact mH | apply mT)) hwl)) (rT rfl) (rT rfl) ?_
 (have h9 := hu1 (by omega); subst h9; exact K2.mk (A4Z (by assumption) (by assumption) (by omega) (by assumption)) (hs2.R.mono (C1.le _ _)))
 refine I8 ?_
 refine C7 (rC rfl (A1 rfl rfl)) (rT rfl) (rT rfl) ?_
 (have h9 := hu1 (by omega); subst h9; exact K2.mk (A4Y (by assumption) (by assumption) (by omega) (by assumption)) (L0 _))
 refine I8 ?_
 refine C7 (rC rfl (A1 rfl rfl)) (rT rfl) (rT rfl) ?_
 (exact K2.mk (A4W (by assumption)) (L0 _))
theorem B5k {t : Ty} (ha : E4 t) : Y0 t = .mk t.k (List.replicate t.ks.length N4) := by
 obtain ⟨k, ks⟩ := t
 rw [E4] at ha
 show (if k = 4 ∨ k = 5 then Ty.mk k [N4, N4] else .mk k []) = _
 show _ = Ty.mk k (List.replicate ks.length N4)
 split
 ·rename_i h; rw [ha.1 h]; rfl
 ·rename_i h
  rw [ha.2.1 (fun e => h (.inl e)) (fun e => h (.inr e))]; rfl
theorem B5l (t : Ty) (G : IM) (cells : List Value) (ha : E4 t) (hr : B5 G t cells) : Fn Tryz.prog 239 [.agg ⟨cells⟩] [] G (A5Y (Y0 t) G) := by
 rw [B5k ha]
 obtain ⟨tk, tks⟩ := t
 have hsm := ha.small
 rw [Ty.small] at hsm
 obtain ⟨hsm1, _⟩ := hsm
 obtain ⟨p, c, es, rfl, hk, hsl, hkl⟩ := hr.open
 simp only [Ty.k, Ty.ks] at hk hsl hkl ⊢
 have hn := hsl.le
 refine B3 Tryz.func239 rfl Tryz.ntmps239 Tryz.results239 rfl ?_
 intro w0
 refine tS (tR ?_)
 refine sE (C0 rfl rfl) rfl (fun b3 => ?_)
 refine sE (A7 rfl) rfl (fun b4 => ?_)
 refine C4 ?_
 refine sE (A7 rfl) rfl (fun b12 => ?_)
 refine F4 ?_
 refine sD (nS (tS (tS (tR (sQ (qA rfl) rfl (sD (nS ?_)))))))
 refine B7 ?_
 (refine U5 25 2 ?_; refine L3 (fun (x : Nat × Option Addr × Nat × List (List Value)) => ⟨[(4, .int .i64 x.1), (3, .pointer (some ⟨b12, 0, none⟩)), (1, .pointer (some ⟨b3, 0, none⟩)), (2, .pointer (some ⟨b4, 0, none⟩))], [.blk b12 [.int .i64 tk, .slice x.2.1 x.1 x.2.2.1], .slc x.2.1 x.2.2.1 25 2 x.1 x.2.2.2.flatten, .blk b4 [.int .i64 0, .slice none 0 0], .blk b3 [.int .i64 tk, .slice p tks.length c]], G⟩) (fun x => x.1 ≤ tks.length ∧ E6 G (List.replicate x.1 N4) x.2.2.2) (fun x => tks.length - x.1) (0, none, 0, []) ?_ ?_ ?_)
 (simp only [I6]; exact D3)
 (exact ⟨Nat.zero_le _, rfl⟩)
 (rintro ⟨i, pn, cn, es'⟩ ⟨hi, hst⟩; simp only [] at hi hst ⊢; have hsl' := hst.len; rw [List.length_replicate] at hsl')
 refine C4 ?_
 refine sB (J9 rfl rfl) rfl rfl (fun h34 => ?_) (fun h34 => ?_)
 refine sD (nS (qT rfl (tK (nS (tS ?_)))))
 refine B7 ?_
 refine D5 D6 rfl ?_
 refine I3 (i := 0) (l' := [tt,ff,ff,ff,ff,ff,ff]) rfl D1 (B0 rfl) rfl (by kernel_rfl) rfl rfl ?_
 refine aL 1 rfl (B9 rfl rfl) rfl ?_
 refine A2 2 ?_
 refine O5 rfl rfl ((A1e _)) rfl rfl rfl ?_
 refine A2 3 ?_
 (refine E1 rfl (C8 rfl rfl rfl (by omega) (by unfold maxLen; omega) rfl) rfl rfl ?_; rintro _ ⟨b48, rfl⟩)
 refine A2 4 ?_
 refine Q5 rfl rfl rfl rfl rfl rfl (fun _ _ => by repeat (first | exact Sw.here | apply Sw.there)) (P5 (by repeat first | exact mH | apply mT)) rfl (by simp [Value.oneCell']) (by unfold maxLen; omega) (by omega) rfl rfl (by repeat (first | exact A5.nil | apply A5.dep (by decide +kernel) | apply A5.im (by decide +kernel) (by assumption) (by repeat first | exact mH | apply mT) | apply A5.blk (by decide +kernel) (by repeat (first | exact Pk.here | apply Pk.there)) (by repeat first | exact mH | apply mT) | apply A5.slc (by decide +kernel) (by repeat (first | exact Pk.here | apply Pk.there)) (by repeat first | exact mH | apply mT))) (fun pn' cn' => ?_)
 refine aP 5 rfl (B0 rfl) rfl ?_
 refine A2 6 ?_
 refine Q4 rfl rfl rfl rfl rfl rfl rfl rfl (by decide +kernel) (by repeat first | exact Sw.here | apply Sw.there) (by rfl) ?_
 refine C2 (N3 (nS (tR (sQ (qM rfl) rfl ?_))))
 refine sP (K4 rfl rfl (by omega) (by omega)) rfl rfl ?_
 refine sQ (qA rfl) rfl (sD ?_)
 refine K7 (i + 1, pn', cn', es' ++ [[.int .i64 1, .slice none 0 0]]) ?_ ?_ ?_
 (simp only [I6]; exact D3)
 (dsimp only; exact ⟨by omega, by rw [List.replicate_succ']; exact E6.snoc hst (A0A _)⟩)
 (show tks.length - (i + 1) < tks.length - i; omega)
 refine L5 ?_
 (refine H5 (cs := es'.flatten) (by repeat (first | exact Pk.here | apply Pk.there)) (fun G2 hle2 hsl2 hno2 => ?_); obtain rfl : i = tks.length := (by omega))
 refine tT ?_
 refine E0 (rC rfl (A1 rfl rfl)) ?_
 (exact ⟨rfl, _, rfl, (hst.mono hle2).ty (by simp) hsl2 hk⟩)
theorem B5m (t : Ty) (G : IM) (cells : List Value) (ha : E4 t) (hr : B5 G t cells) : Fn Tryz.prog 225 [.agg ⟨cells⟩] [] G (H6 (.bool (U2 t)) G) := by
 refine Fn.forget (post := K5 fun _ v => v = .bool (U2 t)) ?_ (fun _ _ _ h => h.2)
 have hr0 := hr
 have hG := B5l t G cells ha hr
 obtain ⟨tk, tks⟩ := t
 obtain ⟨p, c, es, rfl, hk, _⟩ := hr.open
 simp only [Ty.k, Ty.ks] at hk hr0 hG ⊢
 have hd : U2 (.mk tk tks) = (decide (tk ≠ 1) && M5 (.mk tk tks) (Y0 (.mk tk tks))) := rfl
 rw [hd]
 generalize Y0 (.mk tk tks) = g at hG ⊢
 refine B3 Tryz.func225 rfl Tryz.ntmps225 Tryz.results225 rfl ?_
 intro w0
 refine tS (tR ?_)
 refine sE (C0 rfl rfl) rfl (fun b3 => ?_)
 refine sQ (qA rfl) rfl (sD (nS (tS ?_)))
 refine D5 D6 rfl ?_
 refine I3 (i := 0) (l' := [tt,ff,ff,ff,ff,ff,ff,ff,ff,ff]) rfl D1 (B0 rfl) rfl (by kernel_rfl) rfl rfl ?_
 refine aL 1 rfl (B9 rfl rfl) rfl ?_
 refine A0C (i := 2) (l' := [tt,tt,tt,ff,ff,ff,ff,ff,ff,ff]) rfl D1 (M8 rfl rfl) rfl (by kernel_rfl) rfl rfl (fun h11 => ?_) (fun h11 => ?_)
 refine aP 3 rfl (qM rfl) rfl ?_
 refine aL 4 rfl (A1 rfl rfl) rfl ?_
 refine aL 5 rfl (A1 rfl rfl) rfl ?_
 refine A2 6 ?_
 (refine I9 rfl rfl hG rfl rfl rfl (fun v G1 hle1 hh => ?_); obtain ⟨cg, rfl, hrg⟩ := hh; have hT := B4O (.mk tk tks) g G1 _ _ (hr0.mono hle1) hrg; obtain ⟨pg, cgg, eg, rfl, _⟩ := hrg.open)
 refine A2 7 ?_
 refine O5 rfl rfl (hT) rfl rfl rfl ?_
 refine aP 8 rfl (K8 rfl rfl) rfl ?_
 refine aP 9 rfl (qA rfl) rfl ?_
 refine C2 (nS (tT (E0 (rT rfl) ?_)))
 (refine ⟨rfl, ?_⟩; show Value.bool _ = Value.bool _; rw [decide_eq_true (by omega), Bool.true_and])
 refine aP 3 rfl (qM rfl) rfl ?_
 refine B4 4 rfl rfl rfl ?_
 refine B4 5 rfl rfl rfl ?_
 refine B4 6 rfl rfl rfl ?_
 refine B4 7 rfl rfl rfl ?_
 refine aP 8 rfl (N2 rfl rfl) rfl ?_
 refine aP 9 rfl (qA rfl) rfl ?_
 refine C2 (nS (tT (E0 (rT rfl) ?_)))
 (refine ⟨rfl, ?_⟩; show Value.bool _ = Value.bool _; rw [decide_eq_false (by omega), Bool.false_and])
theorem B5n (t : Tm) (G : IM) (cells : List Value) (hr : A6 G t cells) : Fn Tryz.prog 180 [.agg ⟨cells⟩] [] G (H6 (.bool (W5 t)) G) := by
 obtain ⟨k, nm, num, ⟨tk, tks⟩, ⟨fk, fks⟩, lb, ks⟩ := t
 obtain ⟨pt, ct, pf, cf, p, c, es, rfl, hk, hnum, hlb, hty, hfr, hsl, hkl⟩ := hr.open9
 have hd : W5 (.mk k nm num (.mk tk tks) (.mk fk fks) lb ks) = decide (k = 14 ∧ fk = tk ∧ (tk = 4 ∨ tk = 5)) := rfl
 rw [hd]
 refine B3 Tryz.func180 rfl Tryz.ntmps180 Tryz.results180 rfl ?_
 intro w0
 refine tS (tR ?_)
 refine sE (C0 rfl rfl) rfl (fun b3 => ?_)
 refine C4 ?_
 refine sB (qE rfl rfl) rfl rfl (fun h11 => ?_) (fun h11 => ?_)
 refine C4 ?_
 refine sB (qE rfl rfl) rfl rfl (fun h19 => ?_) (fun h19 => ?_)
 refine Q3 ?_
 refine sB (qE rfl rfl) rfl rfl (fun h25 => ?_) (fun h25 => ?_)
 refine M6 ?_
 (exact ⟨rfl, by rw [decide_eq_true (by omega)], rfl⟩)
 refine H1 ?_
 refine sB (qE rfl rfl) rfl rfl (fun h43 => ?_) (fun h43 => ?_)
 refine C4 ?_
 (exact ⟨rfl, by rw [decide_eq_true (by omega)], rfl⟩)
 refine C4 ?_
 (exact ⟨rfl, by rw [decide_eq_false (by omega)], rfl⟩)
 refine U6 ?_
 (exact ⟨rfl, by rw [decide_eq_false (by omega)], rfl⟩)
 refine A36 ?_
 (exact ⟨rfl, by rw [decide_eq_false (by omega)], rfl⟩)
theorem B5o (t : Tm) (G : IM) (cells : List Value) (ha : E4 t.fr) (hr : A6 G t cells) : Fn Tryz.prog 181 [.agg ⟨cells⟩] [] G (H6 (.bool (inj t)) G) := by
 obtain ⟨k, nm, num, ⟨tk, tks⟩, ⟨fk, fks⟩, lb, ks⟩ := t
 obtain ⟨pt, ct, pf, cf, p, c, es, rfl, hk, hnum, hlb, hty, hfr, hsl, hkl⟩ := hr.open9
 have hd : inj (.mk k nm num (.mk tk tks) (.mk fk fks) lb ks) = (decide (k = 14 ∧ tk = 1) && U2 (.mk fk fks)) := rfl
 rw [hd]
 have hG := B5m (.mk fk fks) G _ ha hfr
 refine B3 Tryz.func181 rfl Tryz.ntmps181 Tryz.results181 rfl ?_
 intro w0
 refine tS (tR ?_)
 refine sE (C0 rfl rfl) rfl (fun b3 => ?_)
 refine C4 ?_
 refine sB (qE rfl rfl) rfl rfl (fun h11 => ?_) (fun h11 => ?_)
 refine H1 ?_
 refine sB (qE rfl rfl) rfl rfl (fun h16 => ?_) (fun h16 => ?_)
 refine H1 ?_
 refine I5 rfl (hG) rfl rfl ?_
 refine J7 ?_
 (exact ⟨rfl, by rw [decide_eq_true (by omega), Bool.true_and], rfl⟩)
 refine J2 ?_
 (exact ⟨rfl, by rw [decide_eq_false (by omega), Bool.false_and], rfl⟩)
 refine I8 ?_
 (exact ⟨rfl, by rw [decide_eq_false (by omega), Bool.false_and], rfl⟩)
section
variable {k : Int} {nm : ByteArray} {num : Int} {ty fr : Ty} {lb : Int} {ks : List Tm}
theorem B5p (h : k = 2 ∨ k = 3 ∨ k = 4 ∨ k = 5) : D0 (.mk k nm num ty fr lb ks) = true := by
 rw [D0, if_neg (by omega)]; exact decide_eq_true h
theorem B5q (h : k = 10) (hl : ks.length = 2) : D0 (.mk k nm num ty fr lb ks) = (D0 (ks[0]'(by omega)) && D0 (ks[1]'(by omega))) := by
 rw [A4N (.inl h)]
 obtain ⟨a, b, rfl⟩ := ks2 hl
 simp
theorem B5r (h : W5 (.mk k nm num ty fr lb ks) = true ∨ inj (.mk k nm num ty fr lb ks) = true) (hl : ks.length = 1) : D0 (.mk k nm num ty fr lb ks) = D0 (ks[0]'(by omega)) := by
 rw [A4N (.inr h)]
 obtain ⟨a, rfl⟩ := ks1 hl
 simp
theorem B5s (h : ¬(k = 2 ∨ k = 3 ∨ k = 4 ∨ k = 5)) (h10 : k ≠ 10) (h2 : W5 (.mk k nm num ty fr lb ks) = false) (h3 : inj (.mk k nm num ty fr lb ks) = false) : D0 (.mk k nm num ty fr lb ks) = false := by
 rw [A8M h10 h2 h3]; exact decide_eq_false h
theorem B5t (h : W5 (.mk k nm num ty fr lb ks) = true ∨ inj (.mk k nm num ty fr lb ks) = true) : k = 14 := by
 rcases h with h | h
 ·exact (prx_spec' h)
 ·exact A8T h
where
 prx_spec' {k : Int} {nm : ByteArray} {num : Int} {ty fr : Ty} {lb : Int} {ks : List Tm} (h : W5 (.mk k nm num ty fr lb ks) = true) : k = 14 := by rw [A2V] at h; exact (of_decide_eq_true h).1
end
theorem A6v : ∀ (t : Tm) (G : IM) (cells : List Value), cv t → A6 G t cells → Fn Tryz.prog 127 [.agg ⟨cells⟩] [] G (H6 (.bool (D0 t)) G) := by
 refine Tm.ind fun k nm num ty fr lb ks ih G cells hc hr => ?_
 obtain ⟨hN, hkk⟩ := hc.node
 have hop := hN.ops
 have h10 : k = 10 → ks.length = 2 := fun h => by rw [h] at hop; have : C5 10 = 2 := rfl; omega
 have h14 : k = 14 → ks.length = 1 := fun h => by rw [h] at hop; have : C5 14 = 1 := rfl; omega
 have hP := B5n _ G _ hr
 have hI := B5o (.mk k nm num ty fr lb ks) G _ hN.frA hr
 have e1 := @B5p k nm num ty fr lb ks
 have e2 := @B5q k nm num ty fr lb ks
 have e3 := @B5r k nm num ty fr lb ks
 have e4 := @B5s k nm num ty fr lb ks
 have e5 := @B5t k nm num ty fr lb ks
 generalize hpx : W5 (.mk k nm num ty fr lb ks) = bp at hP e3 e4 e5
 generalize hij : inj (.mk k nm num ty fr lb ks) = bi at hI e3 e4 e5
 generalize D0 (.mk k nm num ty fr lb ks) = R at e1 e2 e3 e4 ⊢
 obtain ⟨tk, tks⟩ := ty
 obtain ⟨fk, fks⟩ := fr
 obtain ⟨pt, ct, pf, cf, p, c, es, rfl, hk, hnum, hlb, hty, hfr, hsl, hkl⟩ := hr.open9
 refine B3 Tryz.func127 rfl Tryz.ntmps127 Tryz.results127 rfl ?_
 intro w0
 refine tS (tR ?_)
 refine sE (C0 rfl rfl) rfl (fun b3 => ?_)
 refine I7 ?_
 refine B7 (tS (tS (tR (sB (qE rfl rfl) rfl rfl (fun h18 => ?_) (fun h18 => ?_)))))
 refine I8 ?_
 (exact ⟨rfl, by rw [e1 (by omega)], rfl⟩)
 refine sQ (qA rfl) rfl (sD (nS (cF rfl (tS (tR ?_)))))
 refine sB (qE rfl rfl) rfl rfl (fun h42 => ?_) (fun h42 => ?_)
 refine I8 ?_
 (exact ⟨rfl, by rw [e1 (by omega)], rfl⟩)
 refine sQ (qA rfl) rfl (sD (nS (cF rfl (tS (tR ?_)))))
 refine sB (qE rfl rfl) rfl rfl (fun h66 => ?_) (fun h66 => ?_)
 refine I8 ?_
 (exact ⟨rfl, by rw [e1 (by omega)], rfl⟩)
 refine sQ (qA rfl) rfl (sD (nS (cF rfl (tR ?_))))
 refine sB (qE rfl rfl) rfl rfl (fun h89 => ?_) (fun h89 => ?_)
 refine J3 ?_
 (exact ⟨rfl, by rw [e1 (by omega)], rfl⟩)
 refine sQ (qA rfl) rfl (sD (nS (cF rfl (tS (tR ?_)))))
 refine sB (qE rfl rfl) rfl rfl (fun h110 => ?_) (fun h110 => ?_)
 refine D8 ?_
 (have hl2 := h10 (by omega); obtain ⟨bx, ox, e, rfl, hl, hat, hre, hgb⟩ := hsl.kidTm hkl (i := 0) (by omega) (by omega); have hih := ih ks[0] (List.getElem_mem (by omega)) G e (hkk _ (List.getElem_mem (by omega))) hre; obtain ⟨_, _, e', hp', hl', hat', hre', hgb'⟩ := hsl.kidTm hkl (i := 1) (by omega) (by omega); cases hp'; have hih' := ih ks[1] (List.getElem_mem (by omega)) G e' (hkk _ (List.getElem_mem (by omega))) hre'; refine sP (B2 (j := 0) rfl rfl rfl (by omega)) rfl rfl ?_)
 refine sL (A3 rfl rfl (hat _) hl) rfl rfl ?_
 refine E2 rfl (hih) rfl rfl (fun h121 => ?_) (fun h121 => ?_)
 refine L9 ?_
 refine sP (B2 (j := 1) rfl rfl rfl (by omega)) rfl rfl ?_
 refine sL (A3 rfl rfl (hat' _) hl') rfl rfl ?_
 refine E2 rfl (hih') rfl rfl (fun h127 => ?_) (fun h127 => ?_)
 refine D8 ?_
 (exact ⟨rfl, by rw [e2 (by omega) hl2]; simp [*], rfl⟩)
 refine D8 ?_
 (exact ⟨rfl, by rw [e2 (by omega) hl2]; simp [*], rfl⟩)
 refine L5 ?_
 (exact ⟨rfl, by rw [e2 (by omega) hl2]; simp [*], rfl⟩)
 refine I7 ?_
 refine E2 rfl (hP) rfl rfl (fun h171 => ?_) (fun h171 => ?_)
 refine C4 ?_
 (have hl1 := h14 (by first | exact e5 (.inl (by assumption)) | exact e5 (.inr (by assumption))); obtain ⟨bx, ox, e, rfl, hl, hat, hre, hgb⟩ := hsl.kidTm hkl (i := 0) (by omega) (by omega); have hih := ih ks[0] (List.getElem_mem (by omega)) G e (hkk _ (List.getElem_mem (by omega))) hre; refine sP (B2 (j := 0) rfl rfl rfl (by omega)) rfl rfl ?_)
 refine sL (A3 rfl rfl (hat _) hl) rfl rfl ?_
 refine E2 rfl (hih) rfl rfl (fun h181 => ?_) (fun h181 => ?_)
 refine J7 ?_
 (exact ⟨rfl, by rw [e3 (by first | exact .inl (by assumption) | exact .inr (by assumption)) hl1]; simp [*], rfl⟩)
 refine J7 ?_
 (exact ⟨rfl, by rw [e3 (by first | exact .inl (by assumption) | exact .inr (by assumption)) hl1]; simp [*], rfl⟩)
 refine sQ (qM rfl) rfl (sL (A1 rfl rfl) rfl rfl ?_)
 refine E2 rfl (hI) rfl rfl (fun h198 => ?_) (fun h198 => ?_)
 refine H1 ?_
 (have hl1 := h14 (by first | exact e5 (.inl (by assumption)) | exact e5 (.inr (by assumption))); obtain ⟨bx, ox, e, rfl, hl, hat, hre, hgb⟩ := hsl.kidTm hkl (i := 0) (by omega) (by omega); have hih := ih ks[0] (List.getElem_mem (by omega)) G e (hkk _ (List.getElem_mem (by omega))) hre; refine sP (B2 (j := 0) rfl rfl rfl (by omega)) rfl rfl ?_)
 refine sL (A3 rfl rfl (hat _) hl) rfl rfl ?_
 refine E2 rfl (hih) rfl rfl (fun h205 => ?_) (fun h205 => ?_)
 refine J7 ?_
 (exact ⟨rfl, by rw [e3 (by first | exact .inl (by assumption) | exact .inr (by assumption)) hl1]; simp [*], rfl⟩)
 refine J7 ?_
 (exact ⟨rfl, by rw [e3 (by first | exact .inl (by assumption) | exact .inr (by assumption)) hl1]; simp [*], rfl⟩)
 refine J3 ?_
 (exact ⟨rfl, by rw [e4 (by omega) (by omega) (by assumption) (by assumption)], rfl⟩)
theorem B5u (G : IM) : Fn Tryz.prog 248 [.bool true] [] G (O7 (V8 (true = true))) := by
 refine B3 Tryz.func248 rfl Tryz.ntmps248 Tryz.results248 rfl ?_
 intro w0
 refine tS (tR ?_)
 refine sE (A7 rfl) rfl (fun b3 => ?_)
 refine V2 ?_
 refine E0 (rC rfl (A1 rfl rfl)) ?_
 (exact O7.mk (A4P _ ⟨by decide, by decide⟩))
theorem B5v (G : IM) : Fn Tryz.prog 248 [.bool false] [] G (O7 (V8 (false = true))) := by
 refine B3 Tryz.func248 rfl Tryz.ntmps248 Tryz.results248 rfl ?_
 intro w0
 refine tS (tR ?_)
 refine sE (A7 rfl) rfl (fun b3 => ?_)
 refine U6 ?_
 refine E0 (rC rfl (A1 rfl rfl)) ?_
 (exact O7.mk (A4P _ ⟨by decide, by decide⟩))
theorem A9S (b : Bool) (G : IM) : Fn Tryz.prog 248 [.bool b] [] G (O7 (V8 (b = true))) := by
 cases b
 ·exact B5v G
 ·exact B5u G
theorem B5w (y : ByteArray) (v : Tm) (vc : List Value) (hvs : v.small) : ∀ (t : Tm) (G : IM) (cells : List Value), t.small → A6 G t cells → A6 G v vc → Fn Tryz.prog 227 [.agg ⟨cells⟩, .string y, .agg ⟨vc⟩] [] G (O7 (R7 y v t)) := by
 refine Tm.ind fun k nm num ty fr lb ks ih G cells hts hr hv => ?_
 have hr0 := hr
 have hts0 := hts
 obtain ⟨_, htsm, hfsm, hsm, hks⟩ := A0t.1 hts
 have hvl := hv.len
 have hvo := hv.one
 have hRl := hr.len
 have hRo := hr.one
 rw [R7]
 have hCv := A3v v G vc hvs hv
 have hCt := A3v _ G cells hts0 hr0
 obtain ⟨tk, tks⟩ := ty
 obtain ⟨fk, fks⟩ := fr
 obtain ⟨pt, ct, pf, cf, p, c, es, rfl, hk, hnum, hlb, hty, hfr, hsl, hkl⟩ := hr.open9
 have hn := hsl.le
 refine B3 Tryz.func227 rfl Tryz.ntmps227 Tryz.results227 rfl ?_
 intro w0
 refine tS (tR ?_)
 refine sE (C0 rfl rfl) rfl (fun b3 => ?_)
 refine sE (C0 rfl rfl) rfl (fun b4 => ?_)
 refine sE (A7 rfl) rfl (fun b5 => ?_)
 refine C4 ?_
 refine sB (qE rfl rfl) rfl rfl (fun h13 => ?_) (fun h13 => ?_)
 refine H1 ?_
 refine sB (A1v rfl rfl) rfl rfl (fun h18 => ?_) (fun h18 => ?_)
 refine sQ (K8 rfl rfl) rfl (sD (nS (qT rfl (tS (tR ?_)))))
 refine sL (A3 rfl rfl (A9 (by repeat first | exact mH | apply mT)) hvl) rfl rfl ?_
 (refine E5 rfl hCv rfl rfl (fun v9 G1 hle1 hh => ?_); obtain ⟨uc, F1, rfl, hs1, hn1⟩ := hh; have hru := hs1.R.mono (C1.le G1 G); have hul := hru.len; have huo := hru.one)
 refine sS rfl rfl rfl hul huo rfl ?_ (hu := by exact C3 hul.symm)
 refine sD (nS (tT (rS ?_)))
 refine E0 (rC rfl (A3 rfl rfl (A9 (by repeat first | exact mH | apply mT)) hul)) ?_
 (rw [if_pos (by refine ⟨by omega, by assumption⟩)]; exact O7.mk hru)
 refine J2 ?_
 refine sP (H0 rfl rfl (by omega)) rfl rfl ?_
 refine L5 ?_
 refine sE (A7 rfl) rfl (fun b60 => ?_)
 refine C4 ?_
 (refine E5 rfl (V4 (.mk tk tks) _ _ htsm hty) rfl rfl (fun v9 G1 hle1 hh => ?_); obtain ⟨S6, F1, rfl, hs1, hn1⟩ := hh; obtain ⟨q1, c1, rfl, _⟩ := hs1.open; have hC2 := V4 (.mk fk fks) G1 _ hfsm (hfr.mono hle1))
 refine D8 ?_
 (refine E5 rfl hC2 rfl rfl (fun v9 G2 hle2 hh => ?_); obtain ⟨cs2, F2, rfl, hs2, hn2⟩ := hh; obtain ⟨q2, c2, rfl, _⟩ := hs2.open; have hty1 := hs1.R.mono ((C1.le G1 _).trans hle2); have hfr1 := hs2.R.mono (C1.le G2 G1); have hle12 := hle1.trans hle2; replace hsl := hsl.mono hle12; replace hkl := hkl.mono hle12; replace hv := hv.mono hle12)
 refine I8 ?_
 refine B7 ?_
 (refine U5 28 9 ?_; refine L3 (fun (x : Nat × Option Addr × Nat × List (List Value) × IM) => ⟨[(8, .int .i64 x.1), (1, .string y), (3, .pointer (some ⟨b3, 0, none⟩)), (5, .pointer (some ⟨b4, 0, none⟩)), (6, .pointer (some ⟨b5, 0, none⟩)), (7, .pointer (some ⟨b60, 0, none⟩))], [.blk b60 [.int .i64 k, .string nm, .int .i64 num, .int .i64 tk, .slice q1 tks.length c1, .int .i64 fk, .slice q2 fks.length c2, .int .i64 lb, .slice x.2.1 x.1 x.2.2.1], .slc x.2.1 x.2.2.1 28 9 x.1 x.2.2.2.1.flatten, .blk b5 [.int .i64 0, .string ⟨⟨[]⟩⟩, .int .i64 0, .int .i64 0, .slice none 0 0, .int .i64 0, .slice none 0 0, .int .i64 0, .slice none 0 0], .blk b4 vc, .blk b3 [.int .i64 k, .string nm, .int .i64 num, .int .i64 tk, .slice pt tks.length ct, .int .i64 fk, .slice pf fks.length cf, .int .i64 lb, .slice p ks.length c]], x.2.2.2.2⟩) (fun x => x.1 ≤ ks.length ∧ B6 G2 x.2.2.2.2 ∧ D2 x.2.2.2.2 ((R0 y v ks).take x.1) x.2.2.2.1) (fun x => ks.length - x.1) (0, none, 0, [], G2) ?_ ?_ ?_)
 (simp only [I6]; exact D3)
 (exact ⟨Nat.zero_le _, B6.refl _, by simp [D2]⟩)
 (rintro ⟨i, pn, cn, es', Gi⟩ ⟨hi, hle, hst⟩; simp only [] at hi hle hst ⊢; replace hsl := hsl.mono hle; replace hkl := hkl.mono hle; replace hv := hv.mono hle; replace hty1 := hty1.mono hle; replace hfr1 := hfr1.mono hle; have hsl' := hst.len; rw [List.length_take, Y1] at hsl')
 refine C4 ?_
 refine sB (J9 rfl rfl) rfl rfl (fun h106 => ?_) (fun h106 => ?_)
 refine sD (nS (qT rfl (tK (nS (tS ?_)))))
 refine B7 ?_
 (have hil : i < ks.length := (by omega); obtain ⟨bx, ox, e, rfl, hl, hat, hre, hgb⟩ := hsl.kidTm hkl (i := i) (by omega) (by omega); have hel := hre.len; have heo := hre.one; refine D5 D6 rfl ?_)
 refine O9 (i := 8) (l' := [ff,ff,ff,ff,ff,ff,ff,ff,tt,ff,ff,ff,ff,ff]) rfl D1 (A3 rfl rfl (A9 (by repeat first | exact mH | apply mT)) hvl) rfl (by kernel_rfl) rfl rfl ?_
 refine aP 0 rfl (B0 rfl) rfl ?_
 refine aL 1 rfl (B9 rfl rfl) rfl ?_
 refine aP 2 rfl (B0 rfl) rfl ?_
 refine aL 3 rfl (B9 rfl rfl) rfl ?_
 refine aP 4 rfl (qM rfl) rfl ?_
 refine aP 5 rfl (B2 (j := i) rfl rfl rfl (by omega)) rfl ?_
 refine aL 6 rfl (A3 rfl rfl (hat _) hl) rfl ?_
 refine aP 7 rfl (qM rfl) rfl ?_
 refine A2 9 ?_
 (refine I9 rfl rfl (ih ks[i] (List.getElem_mem (by omega)) Gi _ (Tm.smallL_mem hks _ (List.getElem_mem (by omega))) hre hv) rfl rfl rfl (fun u G3 hle3 hh => ?_); obtain ⟨uc, rfl, hru⟩ := hh; have hul := hru.len; have huo := hru.one; obtain ⟨v1, v2, v3, v4, v5, v6, v7, v8, v9, rfl⟩ := nine hul)
 refine A2 10 ?_
 (refine E1 rfl (C8 rfl rfl rfl (by omega) (by unfold maxLen; omega) rfl) rfl rfl ?_; rintro _ ⟨b127, rfl⟩)
 refine A2 11 ?_
 (refine Q5 rfl rfl rfl rfl rfl rfl (fun _ _ => by repeat (first | exact Sw.here | apply Sw.there)) (P5 (by repeat first | exact mH | apply mT)) rfl (fun u hu => List.all_eq_true.1 huo u hu) (by unfold maxLen; omega) (by omega) rfl rfl (by repeat (first | exact A5.nil | apply A5.dep (by decide +kernel) | apply A5.im (by decide +kernel) (by assumption) (by repeat first | exact mH | apply mT) | apply A5.blk (by decide +kernel) (by repeat (first | exact Pk.here | apply Pk.there)) (by repeat first | exact mH | apply mT) | apply A5.slc (by decide +kernel) (by repeat (first | exact Pk.here | apply Pk.there)) (by repeat first | exact mH | apply mT))) (fun p7 c7 => ?_))
 refine aP 12 rfl (B0 rfl) rfl ?_
 refine A2 13 ?_
 refine Q4 rfl rfl rfl rfl rfl rfl rfl rfl (by decide +kernel) (by repeat first | exact Sw.here | apply Sw.there) (by rfl) ?_
 refine C2 (N3 (nS (tR (sQ (qM rfl) rfl ?_))))
 refine sP (K4 rfl rfl (by omega) (by omega)) rfl rfl ?_
 refine sQ (qA rfl) rfl (sD ?_)
 refine K7 (i + 1, p7, c7, es' ++ [[v1, v2, v3, v4, v5, v6, v7, v8, v9]], G3) ?_ ?_ ?_
 (simp only [I6]; exact D3)
 (dsimp only; exact ⟨by omega, hle.trans hle3, by rw [A2W (by omega)]; exact D2.snoc (hst.mono hle3) hru⟩)
 (show ks.length - (i + 1) < ks.length - i; omega)
 refine L5 ?_
 (refine H5 (cs := es'.flatten) (by repeat (first | exact Pk.here | apply Pk.there)) (fun G4 hle4 hsl4 hno4 => ?_); obtain rfl : i = ks.length := (by omega))
 refine tT ?_
 refine E0 (rC rfl (A1 rfl rfl)) ?_
 (rw [if_neg (by rintro ⟨h1, h2⟩; first | omega | contradiction), if_neg (by rintro ⟨h1, h2⟩; first | omega | contradiction)]; rw [List.take_of_length_le (by rw [Y1]; omega)] at hst; exact O7.mk (A6.put hk hnum hlb (hty1.mono hle4) (hfr1.mono hle4) (by rw [Y1]) (C9.of hsl4 (by omega) hst.all (fun e he => (hst.each e he).2)) (hst.mono hle4)))
 refine I8 ?_
 refine sB (qE rfl rfl) rfl rfl (fun h179 => ?_) (fun h179 => ?_)
 refine H1 ?_
 refine sB (A1v rfl rfl) rfl rfl (fun h184 => ?_) (fun h184 => ?_)
 refine C4 ?_
 (refine E5 rfl hCt rfl rfl (fun v9 G1 hle1 hh => ?_); obtain ⟨uc, F1, rfl, hs1, hn1⟩ := hh; have hru := hs1.R.mono (C1.le G1 G); have hul := hru.len; have huo := hru.one)
 refine sS rfl rfl rfl hul huo rfl ?_ (hu := by exact C3 hul.symm)
 refine sD (nS (tT (rS ?_)))
 refine E0 (rC rfl (A3 rfl rfl (A9 (by repeat first | exact mH | apply mT)) hul)) ?_
 (rw [if_neg (by rintro ⟨h1, h2⟩; first | omega | contradiction), if_pos (by refine ⟨by omega, by assumption⟩)]; exact O7.mk hru)
 refine D9 ?_
 refine sE (A7 rfl) rfl (fun b209 => ?_)
 refine C4 ?_
 (refine E5 rfl (V4 (.mk tk tks) _ _ htsm hty) rfl rfl (fun v9 G1 hle1 hh => ?_); obtain ⟨S6, F1, rfl, hs1, hn1⟩ := hh; obtain ⟨q1, c1, rfl, _⟩ := hs1.open; have hC2 := V4 (.mk fk fks) G1 _ hfsm (hfr.mono hle1))
 refine D8 ?_
 (refine E5 rfl hC2 rfl rfl (fun v9 G2 hle2 hh => ?_); obtain ⟨cs2, F2, rfl, hs2, hn2⟩ := hh; obtain ⟨q2, c2, rfl, _⟩ := hs2.open; have hty1 := hs1.R.mono ((C1.le G1 _).trans hle2); have hfr1 := hs2.R.mono (C1.le G2 G1); have hle12 := hle1.trans hle2; replace hsl := hsl.mono hle12; replace hkl := hkl.mono hle12; replace hv := hv.mono hle12)
 refine I8 ?_
 refine B7 ?_
 (refine U5 28 9 ?_; refine L3 (fun (x : Nat × Option Addr × Nat × List (List Value) × IM) => ⟨[(8, .int .i64 x.1), (1, .string y), (3, .pointer (some ⟨b3, 0, none⟩)), (5, .pointer (some ⟨b4, 0, none⟩)), (6, .pointer (some ⟨b5, 0, none⟩)), (7, .pointer (some ⟨b209, 0, none⟩))], [.blk b209 [.int .i64 k, .string nm, .int .i64 num, .int .i64 tk, .slice q1 tks.length c1, .int .i64 fk, .slice q2 fks.length c2, .int .i64 lb, .slice x.2.1 x.1 x.2.2.1], .slc x.2.1 x.2.2.1 28 9 x.1 x.2.2.2.1.flatten, .blk b5 [.int .i64 0, .string ⟨⟨[]⟩⟩, .int .i64 0, .int .i64 0, .slice none 0 0, .int .i64 0, .slice none 0 0, .int .i64 0, .slice none 0 0], .blk b4 vc, .blk b3 [.int .i64 k, .string nm, .int .i64 num, .int .i64 tk, .slice pt tks.length ct, .int .i64 fk, .slice pf fks.length cf, .int .i64 lb, .slice p ks.length c]], x.2.2.2.2⟩) (fun x => x.1 ≤ ks.length ∧ B6 G2 x.2.2.2.2 ∧ D2 x.2.2.2.2 ((R0 y v ks).take x.1) x.2.2.2.1) (fun x => ks.length - x.1) (0, none, 0, [], G2) ?_ ?_ ?_)
 (simp only [I6]; exact D3)
 (exact ⟨Nat.zero_le _, B6.refl _, by simp [D2]⟩)
 (rintro ⟨i, pn, cn, es', Gi⟩ ⟨hi, hle, hst⟩; simp only [] at hi hle hst ⊢; replace hsl := hsl.mono hle; replace hkl := hkl.mono hle; replace hv := hv.mono hle; replace hty1 := hty1.mono hle; replace hfr1 := hfr1.mono hle; have hsl' := hst.len; rw [List.length_take, Y1] at hsl')
 refine C4 ?_
 refine sB (J9 rfl rfl) rfl rfl (fun h255 => ?_) (fun h255 => ?_)
 refine sD (nS (qT rfl (tK (nS (tS ?_)))))
 refine B7 ?_
 (have hil : i < ks.length := (by omega); obtain ⟨bx, ox, e, rfl, hl, hat, hre, hgb⟩ := hsl.kidTm hkl (i := i) (by omega) (by omega); have hel := hre.len; have heo := hre.one; refine D5 D6 rfl ?_)
 refine O9 (i := 8) (l' := [ff,ff,ff,ff,ff,ff,ff,ff,tt,ff,ff,ff,ff,ff]) rfl D1 (A3 rfl rfl (A9 (by repeat first | exact mH | apply mT)) hvl) rfl (by kernel_rfl) rfl rfl ?_
 refine aP 0 rfl (B0 rfl) rfl ?_
 refine aL 1 rfl (B9 rfl rfl) rfl ?_
 refine aP 2 rfl (B0 rfl) rfl ?_
 refine aL 3 rfl (B9 rfl rfl) rfl ?_
 refine aP 4 rfl (qM rfl) rfl ?_
 refine aP 5 rfl (B2 (j := i) rfl rfl rfl (by omega)) rfl ?_
 refine aL 6 rfl (A3 rfl rfl (hat _) hl) rfl ?_
 refine aP 7 rfl (qM rfl) rfl ?_
 refine A2 9 ?_
 (refine I9 rfl rfl (ih ks[i] (List.getElem_mem (by omega)) Gi _ (Tm.smallL_mem hks _ (List.getElem_mem (by omega))) hre hv) rfl rfl rfl (fun u G3 hle3 hh => ?_); obtain ⟨uc, rfl, hru⟩ := hh; have hul := hru.len; have huo := hru.one; obtain ⟨v1, v2, v3, v4, v5, v6, v7, v8, v9, rfl⟩ := nine hul)
 refine A2 10 ?_
 (refine E1 rfl (C8 rfl rfl rfl (by omega) (by unfold maxLen; omega) rfl) rfl rfl ?_; rintro _ ⟨b276, rfl⟩)
 refine A2 11 ?_
 (refine Q5 rfl rfl rfl rfl rfl rfl (fun _ _ => by repeat (first | exact Sw.here | apply Sw.there)) (P5 (by repeat first | exact mH | apply mT)) rfl (fun u hu => List.all_eq_true.1 huo u hu) (by unfold maxLen; omega) (by omega) rfl rfl (by repeat (first | exact A5.nil | apply A5.dep (by decide +kernel) | apply A5.im (by decide +kernel) (by assumption) (by repeat first | exact mH | apply mT) | apply A5.blk (by decide +kernel) (by repeat (first | exact Pk.here | apply Pk.there)) (by repeat first | exact mH | apply mT) | apply A5.slc (by decide +kernel) (by repeat (first | exact Pk.here | apply Pk.there)) (by repeat first | exact mH | apply mT))) (fun p7 c7 => ?_))
 refine aP 12 rfl (B0 rfl) rfl ?_
 refine A2 13 ?_
 refine Q4 rfl rfl rfl rfl rfl rfl rfl rfl (by decide +kernel) (by repeat first | exact Sw.here | apply Sw.there) (by rfl) ?_
 refine C2 (N3 (nS (tR (sQ (qM rfl) rfl ?_))))
 refine sP (K4 rfl rfl (by omega) (by omega)) rfl rfl ?_
 refine sQ (qA rfl) rfl (sD ?_)
 refine K7 (i + 1, p7, c7, es' ++ [[v1, v2, v3, v4, v5, v6, v7, v8, v9]], G3) ?_ ?_ ?_
 (simp only [I6]; exact D3)
 (dsimp only; exact ⟨by omega, hle.trans hle3, by rw [A2W (by omega)]; exact D2.snoc (hst.mono hle3) hru⟩)
 (show ks.length - (i + 1) < ks.length - i; omega)
 refine L5 ?_
 (refine H5 (cs := es'.flatten) (by repeat (first | exact Pk.here | apply Pk.there)) (fun G4 hle4 hsl4 hno4 => ?_); obtain rfl : i = ks.length := (by omega))
 refine tT ?_
 refine E0 (rC rfl (A1 rfl rfl)) ?_
 (rw [if_neg (by rintro ⟨h1, h2⟩; first | omega | contradiction), if_neg (by rintro ⟨h1, h2⟩; first | omega | contradiction)]; rw [List.take_of_length_le (by rw [Y1]; omega)] at hst; exact O7.mk (A6.put hk hnum hlb (hty1.mono hle4) (hfr1.mono hle4) (by rw [Y1]) (C9.of hsl4 (by omega) hst.all (fun e he => (hst.each e he).2)) (hst.mono hle4)))
 refine L5 ?_
 refine sE (A7 rfl) rfl (fun b326 => ?_)
 refine C4 ?_
 (refine E5 rfl (V4 (.mk tk tks) _ _ htsm hty) rfl rfl (fun v9 G1 hle1 hh => ?_); obtain ⟨S6, F1, rfl, hs1, hn1⟩ := hh; obtain ⟨q1, c1, rfl, _⟩ := hs1.open; have hC2 := V4 (.mk fk fks) G1 _ hfsm (hfr.mono hle1))
 refine D8 ?_
 (refine E5 rfl hC2 rfl rfl (fun v9 G2 hle2 hh => ?_); obtain ⟨cs2, F2, rfl, hs2, hn2⟩ := hh; obtain ⟨q2, c2, rfl, _⟩ := hs2.open; have hty1 := hs1.R.mono ((C1.le G1 _).trans hle2); have hfr1 := hs2.R.mono (C1.le G2 G1); have hle12 := hle1.trans hle2; replace hsl := hsl.mono hle12; replace hkl := hkl.mono hle12; replace hv := hv.mono hle12)
 refine I8 ?_
 refine B7 ?_
 (refine U5 28 9 ?_; refine L3 (fun (x : Nat × Option Addr × Nat × List (List Value) × IM) => ⟨[(8, .int .i64 x.1), (1, .string y), (3, .pointer (some ⟨b3, 0, none⟩)), (5, .pointer (some ⟨b4, 0, none⟩)), (6, .pointer (some ⟨b5, 0, none⟩)), (7, .pointer (some ⟨b326, 0, none⟩))], [.blk b326 [.int .i64 k, .string nm, .int .i64 num, .int .i64 tk, .slice q1 tks.length c1, .int .i64 fk, .slice q2 fks.length c2, .int .i64 lb, .slice x.2.1 x.1 x.2.2.1], .slc x.2.1 x.2.2.1 28 9 x.1 x.2.2.2.1.flatten, .blk b5 [.int .i64 0, .string ⟨⟨[]⟩⟩, .int .i64 0, .int .i64 0, .slice none 0 0, .int .i64 0, .slice none 0 0, .int .i64 0, .slice none 0 0], .blk b4 vc, .blk b3 [.int .i64 k, .string nm, .int .i64 num, .int .i64 tk, .slice pt tks.length ct, .int .i64 fk, .slice pf fks.length cf, .int .i64 lb, .slice p ks.length c]], x.2.2.2.2⟩) (fun x => x.1 ≤ ks.length ∧ B6 G2 x.2.2.2.2 ∧ D2 x.2.2.2.2 ((R0 y v ks).take x.1) x.2.2.2.1) (fun x => ks.length - x.1) (0, none, 0, [], G2) ?_ ?_ ?_)
 (simp only [I6]; exact D3)
 (exact ⟨Nat.zero_le _, B6.refl _, by simp [D2]⟩)
 (rintro ⟨i, pn, cn, es', Gi⟩ ⟨hi, hle, hst⟩; simp only [] at hi hle hst ⊢; replace hsl := hsl.mono hle; replace hkl := hkl.mono hle; replace hv := hv.mono hle; replace hty1 := hty1.mono hle; replace hfr1 := hfr1.mono hle; have hsl' := hst.len; rw [List.length_take, Y1] at hsl')
 refine C4 ?_
 refine sB (J9 rfl rfl) rfl rfl (fun h372 => ?_) (fun h372 => ?_)
 refine sD (nS (qT rfl (tK (nS (tS ?_)))))
 refine B7 ?_
 (have hil : i < ks.length := (by omega); obtain ⟨bx, ox, e, rfl, hl, hat, hre, hgb⟩ := hsl.kidTm hkl (i := i) (by omega) (by omega); have hel := hre.len; have heo := hre.one; refine D5 D6 rfl ?_)
 refine O9 (i := 8) (l' := [ff,ff,ff,ff,ff,ff,ff,ff,tt,ff,ff,ff,ff,ff]) rfl D1 (A3 rfl rfl (A9 (by repeat first | exact mH | apply mT)) hvl) rfl (by kernel_rfl) rfl rfl ?_
 refine aP 0 rfl (B0 rfl) rfl ?_
 refine aL 1 rfl (B9 rfl rfl) rfl ?_
 refine aP 2 rfl (B0 rfl) rfl ?_
 refine aL 3 rfl (B9 rfl rfl) rfl ?_
 refine aP 4 rfl (qM rfl) rfl ?_
 refine aP 5 rfl (B2 (j := i) rfl rfl rfl (by omega)) rfl ?_
 refine aL 6 rfl (A3 rfl rfl (hat _) hl) rfl ?_
 refine aP 7 rfl (qM rfl) rfl ?_
 refine A2 9 ?_
 (refine I9 rfl rfl (ih ks[i] (List.getElem_mem (by omega)) Gi _ (Tm.smallL_mem hks _ (List.getElem_mem (by omega))) hre hv) rfl rfl rfl (fun u G3 hle3 hh => ?_); obtain ⟨uc, rfl, hru⟩ := hh; have hul := hru.len; have huo := hru.one; obtain ⟨v1, v2, v3, v4, v5, v6, v7, v8, v9, rfl⟩ := nine hul)
 refine A2 10 ?_
 (refine E1 rfl (C8 rfl rfl rfl (by omega) (by unfold maxLen; omega) rfl) rfl rfl ?_; rintro _ ⟨b393, rfl⟩)
 refine A2 11 ?_
 (refine Q5 rfl rfl rfl rfl rfl rfl (fun _ _ => by repeat (first | exact Sw.here | apply Sw.there)) (P5 (by repeat first | exact mH | apply mT)) rfl (fun u hu => List.all_eq_true.1 huo u hu) (by unfold maxLen; omega) (by omega) rfl rfl (by repeat (first | exact A5.nil | apply A5.dep (by decide +kernel) | apply A5.im (by decide +kernel) (by assumption) (by repeat first | exact mH | apply mT) | apply A5.blk (by decide +kernel) (by repeat (first | exact Pk.here | apply Pk.there)) (by repeat first | exact mH | apply mT) | apply A5.slc (by decide +kernel) (by repeat (first | exact Pk.here | apply Pk.there)) (by repeat first | exact mH | apply mT))) (fun p7 c7 => ?_))
 refine aP 12 rfl (B0 rfl) rfl ?_
 refine A2 13 ?_
 refine Q4 rfl rfl rfl rfl rfl rfl rfl rfl (by decide +kernel) (by repeat first | exact Sw.here | apply Sw.there) (by rfl) ?_
 refine C2 (N3 (nS (tR (sQ (qM rfl) rfl ?_))))
 refine sP (K4 rfl rfl (by omega) (by omega)) rfl rfl ?_
 refine sQ (qA rfl) rfl (sD ?_)
 refine K7 (i + 1, p7, c7, es' ++ [[v1, v2, v3, v4, v5, v6, v7, v8, v9]], G3) ?_ ?_ ?_
 (simp only [I6]; exact D3)
 (dsimp only; exact ⟨by omega, hle.trans hle3, by rw [A2W (by omega)]; exact D2.snoc (hst.mono hle3) hru⟩)
 (show ks.length - (i + 1) < ks.length - i; omega)
 refine L5 ?_
 (refine H5 (cs := es'.flatten) (by repeat (first | exact Pk.here | apply Pk.there)) (fun G4 hle4 hsl4 hno4 => ?_); obtain rfl : i = ks.length := (by omega))
 refine tT ?_
 refine E0 (rC rfl (A1 rfl rfl)) ?_
 (rw [if_neg (by rintro ⟨h1, h2⟩; first | omega | contradiction), if_neg (by rintro ⟨h1, h2⟩; first | omega | contradiction)]; rw [List.take_of_length_le (by rw [Y1]; omega)] at hst; exact O7.mk (A6.put hk hnum hlb (hty1.mono hle4) (hfr1.mono hle4) (by rw [Y1]) (C9.of hsl4 (by omega) hst.all (fun e he => (hst.each e he).2)) (hst.mono hle4)))
theorem B5x (k : Int) (a b : Tm) (G : IM) (ca cb : List Value) (hk78 : k = 7 ∨ k = 8) (hca : 0 ≤ a.num ∧ a.num ≤ 999) (hcb : 0 ≤ b.num ∧ b.num ≤ 999) (hra : A6 G a ca) (hrb : A6 G b cb) : Fn Tryz.prog 240 [.int .i64 k, .agg ⟨ca⟩, .agg ⟨cb⟩] [] G (K2 (T0 k A8 A8 0 [a, b])) := by
 obtain ⟨ak, anm, anum, ⟨atk, atks⟩, ⟨afk, afks⟩, alb, aks⟩ := a
 obtain ⟨bk, bnm, bnum, ⟨btk, btks⟩, ⟨bfk, bfks⟩, blb, bks⟩ := b
 obtain ⟨apt, act, apf, acf, ap, ac, aes, rfl, hak, hanum, halb, haty, hafr, hasl, hakl⟩ := hra.open9
 obtain ⟨bpt, bct, bpf, bcf, bp, bc, bes, rfl, hbk, hbnum, hblb, hbty, hbfr, hbsl, hbkl⟩ := hrb.open9
 simp only [Tm.num] at hca hcb
 have hR : T0 k A8 A8 0 [Tm.mk ak anm anum (.mk atk atks) (.mk afk afks) alb aks, Tm.mk bk bnm bnum (.mk btk btks) (.mk bfk bfks) blb bks] = (if ak = 2 ∧ bk = 2 then (if k = 7 then A1G ((anum + bnum) % 1000) else V8 (anum < bnum), 1, 0) else S9) := by
  unfold T0; rw [if_neg (by omega), if_pos hk78]; rfl
 rw [hR]
 have htm : (anum + bnum).tmod 1000 = (anum + bnum) % 1000 := A8O hca hcb
 have hb : E3 ((anum + bnum) % 1000) := ⟨by omega, by omega⟩
 refine B3 Tryz.func240 rfl Tryz.ntmps240 Tryz.results240 rfl ?_
 intro w0
 refine tS (tR ?_)
 refine sE (C0 rfl rfl) rfl (fun b3 => ?_)
 refine sE (C0 rfl rfl) rfl (fun b4 => ?_)
 refine sE (A7 rfl) rfl (fun b5 => ?_)
 refine D9 ?_
 refine sB (M8 rfl rfl) rfl rfl (fun h15 => ?_) (fun h15 => ?_)
 refine U6 ?_
 refine C7 (rC rfl (A1 rfl rfl)) (rT rfl) (rT rfl) ?_
 (exact K2.mk (by rw [if_neg (by omega)]; rfl) (L0 _))
 refine L9 ?_
 refine sB (M8 rfl rfl) rfl rfl (fun h39 => ?_) (fun h39 => ?_)
 refine L5 ?_
 refine C7 (rC rfl (A1 rfl rfl)) (rT rfl) (rT rfl) ?_
 (exact K2.mk (by rw [if_neg (by omega)]; rfl) (L0 _))
 refine I7 ?_
 refine sB (qE rfl rfl) rfl rfl (fun h66 => ?_) (fun h66 => ?_)
 refine D9 ?_
 refine sP (K4 rfl rfl (by omega) (by omega)) rfl rfl ?_
 refine sP (A28 rfl rfl (by omega)) rfl rfl ?_
 (rw [htm]; refine I5 rfl (A1U _ _) rfl rfl ?_)
 refine C4 ?_
 refine C7 (rC rfl (A1 rfl rfl)) (rT rfl) (rT rfl) ?_
 (exact K2.mk (u := A1G (HMod.hMod (anum + bnum) 1000)) (by rw [if_pos ⟨by omega, by omega⟩, if_pos (by omega)]) (A6.put (us := []) ⟨by decide, by decide⟩ hb ⟨by decide, by decide⟩ (A0J _) (A0J _) rfl (C9.nil _ _) rfl))
 refine J2 ?_
 (refine sB (J9 rfl rfl) rfl rfl (fun h99 => ?_) (fun h99 => ?_))
 (refine E5 rfl (A9S _ _) rfl rfl (fun u G1 hle1 hh => ?_); obtain ⟨uc, rfl, hru⟩ := hh; have hul := hru.len; have huo := hru.one)
 refine sS rfl rfl rfl hul huo rfl ?_ (hu := by exact C3 hul.symm)
 refine sQ (qA rfl) rfl (sQ (qA rfl) rfl (sD (nS (tT ?_))))
 refine C7 (rC rfl (A3 rfl rfl (A9 (by repeat first | exact mH | apply mT)) hul)) (rT rfl) (rT rfl) ?_
 (exact K2.mk (by rw [if_pos ⟨by omega, by omega⟩, if_neg (by omega)]; unfold V8; rw [if_pos (by omega), if_pos rfl]) hru)
 (refine E5 rfl (A9S _ _) rfl rfl (fun u G1 hle1 hh => ?_); obtain ⟨uc, rfl, hru⟩ := hh; have hul := hru.len; have huo := hru.one)
 refine sS rfl rfl rfl hul huo rfl ?_ (hu := by exact C3 hul.symm)
 refine sQ (qA rfl) rfl (sQ (qA rfl) rfl (sD (nS (tT ?_))))
 refine C7 (rC rfl (A3 rfl rfl (A9 (by repeat first | exact mH | apply mT)) hul)) (rT rfl) (rT rfl) ?_
 (exact K2.mk (by rw [if_pos ⟨by omega, by omega⟩, if_neg (by omega)]; unfold V8; rw [if_neg (by omega), if_neg (by decide)]) hru)
theorem B5y {k : Int} {ks : List Tm} {u : Tm} {ty fr : Ty} {lb : Int} (h : O8 k ks = some u) : T0 k ty fr lb ks = (u, 1, 0) := by
 unfold O8 at h
 unfold T0
 split at h
 ·rename_i h6
  rw [if_pos h6]
  split at h
  ·rename_i h5; cases h; rw [if_pos h5]
  ·cases h
 ·rename_i h6
  rw [if_neg h6]
  split at h
  ·rename_i h7
   rw [if_pos h7]
   split at h
   ·rename_i h5; cases h; rw [if_pos h5]
   ·cases h
  ·rename_i h7
   rw [if_neg h7]
   split at h
   ·rename_i h9
    rw [if_pos h9]
    split at h
    ·rename_i h5; cases h; rw [if_pos h5]
    ·rename_i h5
     rw [if_neg h5]
     split at h
     ·rename_i h4; cases h; rw [if_pos h4]
     ·cases h
   ·rename_i h9
    rw [if_neg h9]
    split at h
    ·rename_i h11
     rw [if_pos h11]
     split at h
     ·rename_i h5; cases h; rw [if_pos h5]
     ·cases h
    ·cases h
theorem B5z {k : Int} {ks : List Tm} (hk : Tm.smallL ks) (hc : D4 ks ≤ 199) : (U3 k ks).1.small ∧ C6 (U3 k ks).1 ≤ 40100 := by
 cases hr : O8 k ks with
 | none => rw [A17 hr]; exact ⟨A3D, by show C6 D7 ≤ _; rw [A8o]; omega⟩
 | some u =>
  have := B2t (k := k) (ty := A8) (fr := A8) (lb := 0) hk hc A1X A1X
  rw [B5y hr] at this
  rw [A03 hr]
  exact this
theorem B5A (ks : List Tm) (ih : ∀ t ∈ ks, t.small → C6 t ≤ 200 → (F9 t).1.small ∧ C6 (F9 t).1 ≤ C6 t + 40100) : ∀ (n : Nat), Tm.smallL ks → D4 ks ≤ 199 → ∀ us c l, W7 n ks = some (us, c, l) → Tm.smallL us ∧ us.length = ks.length ∧ D4 us ≤ D4 ks + 40100 := by
 induction ks with
 | nil => intro n _ _ us c l h; cases n <;> (rw [W7] at h; cases h)
 | cons t ts ihl =>
  intro n hs hc us c l h
  simp only [Tm.smallL] at hs
  simp only [D4] at hc ⊢
  cases n with
  | zero => rw [W7] at h; cases h
  | succ n =>
   rw [A3L] at h
   split at h
   ·split at h
    ·rename_i us' c' l' hs'
     cases h
     obtain ⟨l1, l2, l3⟩ := ihl (fun u hu => ih u (List.mem_cons_of_mem _ hu)) n hs.2 (by omega) us' c l hs'
     exact ⟨by simp only [Tm.smallL]; exact ⟨hs.1, l1⟩, by simp [l2], by simp only [D4]; omega⟩
    ·cases h
   ·cases h
    obtain ⟨s1, s2⟩ := ih t List.mem_cons_self hs.1 (by omega)
    exact ⟨by simp only [Tm.smallL]; exact ⟨s1, hs.2⟩, by simp, by simp only [D4]; omega⟩
theorem B5B : ∀ (t : Tm), t.small → C6 t ≤ 200 → (F9 t).1.small ∧ C6 (F9 t).1 ≤ C6 t + 40100 := by
 refine Tm.ind fun k nm num ty fr lb ks ih h hc => ?_
 obtain ⟨h1, h2, h3, h4, h5⟩ := A0t.1 h
 rw [A0s] at hc
 have hL := B5A ks ih (if k = 9 then 1 else ks.length) h5 (by omega)
 rw [F9]
 split
 ·rename_i us c l hs
  obtain ⟨l1, l2, l3⟩ := hL us c l hs
  split
  ·refine ⟨A0t.2 ⟨h1, h2, h3, by omega, l1⟩, ?_⟩
   show C6 (.mk k nm num ty fr lb us) ≤ _
   rw [A0s, A0s]; omega
  ·exact ⟨A3D, by show C6 D7 ≤ _; rw [A8o]; omega⟩
 ·have := B5z (k := k) h5 (by omega)
  rw [A0s]
  exact ⟨this.1, by omega⟩
theorem B5C {t : Tm} (h : Q9 t = true) : (F9 t).1.small ∧ C6 (F9 t).1 ≤ 40300 := by
 obtain ⟨h1, h2⟩ := A2l (A04 h).1
 have := B5B t (A1W t h1) h2
 exact ⟨this.1, by omega⟩
theorem B5D {k : Int} {nm : ByteArray} {num : Int} {ty fr : Ty} {lb : Int} {ks : List Tm} (j : Nat) (hj : j < ks.length) (h : M0 ks[j] = false) : M0 (.mk k nm num ty fr lb ks) = false := by
 cases hb : M0 (.mk k nm num ty fr lb ks) with
 | false => rfl
 | true =>
  have := (V6.1 hb).2 ks[j] (List.getElem_mem hj)
  rw [h] at this; cases this
theorem B5E {a b c : Tm} : U3 9 [a, b, c] = (if a.k = 3 then (b, 1, 0) else if a.k = 4 then (c, 1, 0) else (D7, 2, 3)) := by
 have hm : O8 9 [a, b, c] = if a.k = 3 then some b else if a.k = 4 then some c else none := rfl
 by_cases h3 : a.k = 3
 ·rw [if_pos h3] at hm ⊢; exact A03 hm
 ·rw [if_neg h3] at hm ⊢
  by_cases h4 : a.k = 4
  ·rw [if_pos h4] at hm ⊢; exact A03 hm
  ·rw [if_neg h4] at hm ⊢; exact A17 hm
theorem B5F {a b : Tm} : U3 6 [a, b] = (if a.k = 5 then (R7 a.nm b (kd a.ks 0), 1, 0) else (D7, 2, 1)) := by
 have hm : O8 6 [a, b] = if a.k = 5 then some (R7 a.nm b (kd a.ks 0)) else none := rfl
 by_cases h3 : a.k = 5
 ·rw [if_pos h3] at hm ⊢; exact A03 hm
 ·rw [if_neg h3] at hm ⊢; exact A17 hm
theorem B5G {k : Int} {a : Tm} (h : k = 11 ∨ k = 12) : U3 k [a] = (if a.k = 10 then (kd a.ks (k - 11).toNat, 1, 0) else (D7, 2, 4)) := by
 have hm : O8 k [a] = if a.k = 10 then some (kd a.ks (k - 11).toNat) else none := by
  unfold O8; rw [if_neg (by omega), if_neg (by omega), if_neg (by omega), if_pos h]; rfl
 by_cases h3 : a.k = 10
 ·rw [if_pos h3] at hm ⊢; exact A03 hm
 ·rw [if_neg h3] at hm ⊢
  rw [A17 hm]
  unfold A16
  rw [if_neg (by omega), if_neg (by omega), if_neg (by omega), if_pos h]
theorem B5H {ks : List Tm} : U3 1 ks = (D7, 2, 5) := A17 rfl
theorem B5I {k : Int} {a b : Tm} (h : k = 7 ∨ k = 8) : U3 k [a, b] = if (T0 k A8 A8 0 [a, b]).2.1 = 1 then ((T0 k A8 A8 0 [a, b]).1, 1, 0) else (D7, 2, 2) := by
 have hr : T0 k A8 A8 0 [a, b] = if a.k = 2 ∧ b.k = 2 then (if k = 7 then A1G ((a.num + b.num) % 1000) else V8 (a.num < b.num), 1, 0) else S9 := by
  unfold T0; rw [if_neg (by omega), if_pos h]; rfl
 have hm : O8 k [a, b] = if a.k = 2 ∧ b.k = 2 then some (if k = 7 then A1G ((a.num + b.num) % 1000) else V8 (a.num < b.num)) else none := by
  unfold O8; rw [if_neg (by omega), if_pos h]; rfl
 by_cases hc : a.k = 2 ∧ b.k = 2
 ·rw [if_pos hc] at hr hm
  rw [A03 hm, hr, if_pos rfl]
 ·rw [if_neg hc] at hr hm
  rw [A17 hm, hr, if_neg (by decide)]
  unfold A16; rw [if_neg (by omega), if_pos h]
theorem B5J {P : Program} {Γ : K6} {env : L6} {hp : List A4} {G : IM} {ty : TypeId} {x y : Operand} {t e : TypeId} {i : L7} {sz by' : Nat} {zs : List Value} [hI : H9 P t i] (hd : i.desc = .slice e) [hE : W9 P e sz by' zs] {b o n c j : Nat} {k : IntKind} {z : Int}
  (hx : evo env x = some (.slice (some ⟨b, o, none⟩) n c)) (hy : evo env y = some (.int k z)) (hz : z = (j : Int)) (h1 : j < n) :
  I1 P Γ ⟨env, hp, G⟩ (.indexAddr t x y) ty (.pointer (some ⟨b, o + j * sz, none⟩)) := by
 subst hz; exact B2 hd hx hy h1
theorem B5K : ∀ (t : Tm) (G : IM) (cells : List Value), A6 G t cells → Fn Tryz.prog 179 [.agg ⟨cells⟩] [] G (H6 (.bool (M0 t)) G) := by
 refine Tm.ind fun k nm num ty fr lb ks ih G cells hr => ?_
 have hy := fun h => @A9P k nm num ty fr lb ks true h
 have hf := fun (j : Nat) (hj : j < ks.length) => @B5D k nm num ty fr lb ks j hj
 have hn := @A9Q k nm num ty fr lb ks
 generalize M0 (.mk k nm num ty fr lb ks) = R at hy hn hf ⊢
 obtain ⟨tk, tks⟩ := ty
 obtain ⟨fk, fks⟩ := fr
 rw [show (Ty.mk tk tks).k = tk from rfl] at hy hn
 obtain ⟨pt, ct, pf, cf, p, c, es, rfl, hk, hnum, hlb, hty, hfr, hsl, hkl⟩ := hr.open9
 have hl := hsl.le
 refine B3 Tryz.func179 rfl Tryz.ntmps179 Tryz.results179 rfl ?_
 intro w0
 refine tS (tR ?_)
 refine sE (C0 rfl rfl) rfl (fun b3 => ?_)
 refine D8 ?_
 refine sB (qE rfl rfl) rfl rfl (fun h12 => ?_) (fun h12 => ?_)
 refine H1 ?_
 refine sB (M8 rfl rfl) rfl rfl (fun h17 => ?_) (fun h17 => ?_)
 refine V2 ?_
 (exact ⟨rfl, by rw [hn (by omega)], rfl⟩)
 refine H1 ?_
 refine sP (H0 rfl rfl (by omega)) rfl rfl ?_
 refine M6 ?_
 refine B7 ?_
 (refine L3 (fun (i : Nat) => ⟨[(3, .int .i64 (i : Int)), (1, .pointer (some ⟨b3, 0, none⟩))], [.blk b3 [.int .i64 k, .string nm, .int .i64 num, .int .i64 tk, .slice pt tks.length ct, .int .i64 fk, .slice pf fks.length cf, .int .i64 lb, .slice p ks.length c]], G⟩) (fun i => i ≤ ks.length ∧ ∀ j, j < i → (h : j < ks.length) → M0 ks[j] = true) (fun i => ks.length - i) 0 ?_ ?_ ?_)
 exact D3
 (exact ⟨Nat.zero_le _, fun j hj => absurd hj (Nat.not_lt_zero j)⟩)
 (rintro i ⟨hi, hj⟩)
 refine C4 ?_
 refine sB (J9 rfl rfl) rfl rfl (fun h65 => ?_) (fun h65 => ?_)
 refine sD (nS (qT rfl (tK (nS (tS ?_)))))
 refine B7 ?_
 refine Q3 ?_
 (have hiC : i < ks.length := (by omega); obtain ⟨bx, ox, e, rfl, hl, hat, hre, hgb⟩ := hsl.kidTm hkl (i := i) (by omega) (by omega); have hVi := ih ks[i] (List.getElem_mem hiC) G e hre; refine sP (B2 (j := i) rfl rfl rfl (by omega)) rfl rfl ?_)
 refine sL (A3 rfl rfl (hat _) hl) rfl rfl ?_
 refine E2 rfl (hVi) rfl rfl (fun h80 => ?_) (fun h80 => ?_)
 refine D9 ?_
 refine sP (K4 rfl rfl (by omega) (by omega)) rfl rfl ?_
 refine sQ (qA rfl) rfl (sD ?_)
 refine K7 (i + 1) ?_ ?_ ?_
 exact D3
 (exact ⟨by omega, fun j hji hl2 => (by by_cases he : j = i; (subst he; assumption); exact hj j (by omega) hl2)⟩)
 (show ks.length - (i + 1) < ks.length - i; omega)
 refine I8 ?_
 (exact ⟨rfl, by rw [hf i (by omega) (by assumption)], rfl⟩)
 refine I0 ?_
 (exact ⟨rfl, by rw [hy (List.all_eq_true.2 (fun t ht => by obtain ⟨j, hj2, he⟩ := List.getElem_of_mem ht; rw [← he]; exact hj j (by omega) hj2)) (by omega) (by omega)], rfl⟩)
 refine D9 ?_
 refine sB (qE rfl rfl) rfl rfl (fun h139 => ?_) (fun h139 => ?_)
 refine M6 ?_
 (exact ⟨rfl, by rw [hn (by omega)], rfl⟩)
 refine M6 ?_
 refine B7 ?_
 (refine L3 (fun (i : Nat) => ⟨[(3, .int .i64 (i : Int)), (1, .pointer (some ⟨b3, 0, none⟩))], [.blk b3 [.int .i64 k, .string nm, .int .i64 num, .int .i64 tk, .slice pt tks.length ct, .int .i64 fk, .slice pf fks.length cf, .int .i64 lb, .slice p ks.length c]], G⟩) (fun i => i ≤ ks.length ∧ ∀ j, j < i → (h : j < ks.length) → M0 ks[j] = true) (fun i => ks.length - i) 0 ?_ ?_ ?_)
 exact D3
 (exact ⟨Nat.zero_le _, fun j hj => absurd hj (Nat.not_lt_zero j)⟩)
 (rintro i ⟨hi, hj⟩)
 refine C4 ?_
 refine sB (J9 rfl rfl) rfl rfl (fun h177 => ?_) (fun h177 => ?_)
 refine sD (nS (qT rfl (tK (nS (tS ?_)))))
 refine B7 ?_
 refine Q3 ?_
 (have hiC : i < ks.length := (by omega); obtain ⟨bx, ox, e, rfl, hl, hat, hre, hgb⟩ := hsl.kidTm hkl (i := i) (by omega) (by omega); have hVi := ih ks[i] (List.getElem_mem hiC) G e hre; refine sP (B2 (j := i) rfl rfl rfl (by omega)) rfl rfl ?_)
 refine sL (A3 rfl rfl (hat _) hl) rfl rfl ?_
 refine E2 rfl (hVi) rfl rfl (fun h192 => ?_) (fun h192 => ?_)
 refine D9 ?_
 refine sP (K4 rfl rfl (by omega) (by omega)) rfl rfl ?_
 refine sQ (qA rfl) rfl (sD ?_)
 refine K7 (i + 1) ?_ ?_ ?_
 exact D3
 (exact ⟨by omega, fun j hji hl2 => (by by_cases he : j = i; (subst he; assumption); exact hj j (by omega) hl2)⟩)
 (show ks.length - (i + 1) < ks.length - i; omega)
 refine I8 ?_
 (exact ⟨rfl, by rw [hf i (by omega) (by assumption)], rfl⟩)
 refine I0 ?_
 (exact ⟨rfl, by rw [hy (List.all_eq_true.2 (fun t ht => by obtain ⟨j, hj2, he⟩ := List.getElem_of_mem ht; rw [← he]; exact hj j (by omega) hj2)) (by omega) (by omega)], rfl⟩)
theorem B5L (t : Tm) (G : IM) (cells : List Value) (hcnt : C6 t ≤ 4294967296) (hr : A6 G t cells) : Fn Tryz.prog 126 [.agg ⟨cells⟩] [] G (H6 (.bool (Q9 t)) G) := by
 have hRl := hr.len
 have hRo := hr.one
 have hV := A7S t G cells hcnt hr
 have hB := B5K t G cells hr
 unfold Q9
 generalize O3 t = a at hV ⊢
 generalize M0 t = b at hB ⊢
 refine B3 Tryz.func126 rfl Tryz.ntmps126 Tryz.results126 rfl ?_
 intro w0
 refine tS (tR ?_)
 refine sE (C0 rfl rfl) rfl (fun b3 => ?_)
 refine sQ (qA rfl) rfl (sD (nS (tS (tR ?_))))
 refine sL (A3 rfl rfl (A9 (by repeat first | exact mH | apply mT)) hRl) rfl rfl ?_
 refine E2 rfl (hV) rfl rfl (fun h10 => ?_) (fun h10 => ?_)
 refine sQ (qM rfl) rfl ?_
 refine sL (A3 rfl rfl (A9 (by repeat first | exact mH | apply mT)) hRl) rfl rfl ?_
 refine E2 rfl (hB) rfl rfl (fun h13 => ?_) (fun h13 => ?_)
 refine J7 ?_
 (simp_all; exact ⟨rfl, rfl, rfl⟩)
 refine J7 ?_
 (simp_all; exact ⟨rfl, rfl, rfl⟩)
 refine D9 ?_
 (simp_all; exact ⟨rfl, rfl, rfl⟩)
theorem B5M (k : Int) (a b : Tm) (nm : ByteArray) (num : Int) (ty fr : Ty) (lb : Int) (G : IM) (cells : List Value) (h78 : k = 7 ∨ k = 8) (hc : cv (.mk k nm num ty fr lb [a, b])) (hr : A6 G (.mk k nm num ty fr lb [a, b]) cells) : Fn Tryz.prog 226 [.agg ⟨cells⟩] [] G (K2 (U3 k [a, b])) := by
 obtain ⟨hN, hkk⟩ := hc.node
 rw [B5I h78]
 obtain ⟨tk, tks⟩ := ty
 obtain ⟨fk, fks⟩ := fr
 obtain ⟨pt, ct, pf, cf, p, c, es, rfl, hk, hnum, hlb, hty, hfr, hsl, hkl⟩ := hr.open9
 obtain ⟨bx, ox, e0, rfl, hl0, hat0, hre0, hgb0⟩ := hsl.kidTm hkl (i := 0) (by simp) (by simp)
 obtain ⟨_, _, e1, hp1, hl1, hat1, hre1, hgb1⟩ := hsl.kidTm hkl (i := 1) (by simp) (by simp)
 cases hp1
 have hF := B5x k a b G e0 e1 h78 (by have := (hkk a (by simp)); cases a; exact this.node.1.num0) (by have := (hkk b (by simp)); cases b; exact this.node.1.num0) hre0 hre1
 refine B3 Tryz.func226 rfl Tryz.ntmps226 Tryz.results226 rfl ?_
 intro w0
 refine tS (tR ?_)
 refine sE (C0 rfl rfl) rfl (fun b3 => ?_)
 refine sE (A7 rfl) rfl (fun b4 => ?_)
 refine sQ (qA rfl) rfl (sQ (qA rfl) rfl (sD (nS (tS ?_))))
 refine D5 D6 rfl ?_
 refine I3 (i := 0) (l' := [tt,ff,ff,ff,ff,ff,ff,ff,ff,ff,ff,ff,ff,ff,ff,ff,ff,ff,ff]) rfl D1 (B0 rfl) rfl (by kernel_rfl) rfl rfl ?_
 refine aL 1 rfl (B9 rfl rfl) rfl ?_
 refine aP 2 rfl (B0 rfl) rfl ?_
 refine aL 3 rfl (B9 rfl rfl) rfl ?_
 refine aP 4 rfl (B2 (j := 0) rfl rfl rfl (by simp)) rfl ?_
 refine aL 5 rfl (A3 rfl rfl (hat0 _) hl0) rfl ?_
 refine aP 6 rfl (B0 rfl) rfl ?_
 refine aL 7 rfl (B9 rfl rfl) rfl ?_
 refine aP 8 rfl (B2 (j := 1) rfl rfl rfl (by simp)) rfl ?_
 refine aL 9 rfl (A3 rfl rfl (hat1 _) hl1) rfl ?_
 refine T2 (j := 10) (j' := 15) (by kernel_rfl) ?_ ?_
 (refine I9 rfl rfl hF rfl rfl rfl (fun v G1 hle1 hh => ?_); obtain ⟨wc, hvv, hrw⟩ := hh; have hwl := hrw.len; have hwo := hrw.one; generalize T0 k A8 A8 0 [a, b] = r at hvv hrw ⊢; obtain ⟨w, cc, ll⟩ := r; simp only at hvv hrw ⊢; subst hvv)
 refine aP 11 rfl (qM rfl) rfl ?_
 refine aP 12 rfl (pX rfl rfl) rfl ?_
 refine aP 13 rfl (pX rfl rfl) rfl ?_
 refine aP 14 rfl (pX rfl rfl) rfl ?_
 refine A2 15 ?_
 (refine E1 rfl (A7 rfl) rfl rfl ?_; rintro _ ⟨b28, rfl⟩)
 refine A2 16 ?_
 (refine oS rfl rfl rfl rfl hwl hwo rfl rfl ?_ (hu := by exact C3 hwl.symm))
 refine aP 17 rfl (qA rfl) rfl ?_
 refine aP 18 rfl (qA rfl) rfl ?_
 refine C2 (nS (tS (tS (tR (sQ (qM rfl) rfl ?_)))))
 refine sB (M8 rfl rfl) rfl rfl (fun h39 => ?_) (fun h39 => ?_)
 refine J3 ?_
 refine C7 (rC rfl (A1 rfl rfl)) (rT rfl) (rT rfl) ?_
 (rw [if_neg (by omega)]; exact K2.mk rfl (L0 _))
 refine sD (nS (cF rfl (tK (nS (tS (tR ?_))))))
 refine sL (A3 rfl rfl (A9 (by repeat first | exact mH | apply mT)) (by assumption)) rfl rfl ?_
 refine sQ (qM rfl) rfl ?_
 refine sS rfl rfl rfl hwl hwo rfl ?_ (hu := by exact C3 hwl.symm)
 refine sQ (qA rfl) rfl (sQ (qA rfl) rfl (sD (nS (tT ?_))))
 refine C7 (rC rfl (A3 rfl rfl (A9 (by repeat first | exact mH | apply mT)) hwl)) (rT rfl) (rT rfl) ?_
 (rw [if_pos (by omega)]; exact K2.mk (by congr 2; omega) hrw)
 (refine E1 rfl (A7 rfl) rfl rfl ?_; rintro _ ⟨b72, rfl⟩)
 refine A2 10 ?_
 (refine I9 rfl rfl hF rfl rfl rfl (fun v G1 hle1 hh => ?_); obtain ⟨wc, hvv, hrw⟩ := hh; have hwl := hrw.len; have hwo := hrw.one; generalize T0 k A8 A8 0 [a, b] = r at hvv hrw ⊢; obtain ⟨w, cc, ll⟩ := r; simp only at hvv hrw ⊢; subst hvv)
 refine aP 11 rfl (qM rfl) rfl ?_
 refine aP 12 rfl (pX rfl rfl) rfl ?_
 refine aP 13 rfl (pX rfl rfl) rfl ?_
 refine aP 14 rfl (pX rfl rfl) rfl ?_
 refine A2 16 ?_
 (refine oS rfl rfl rfl rfl hwl hwo rfl rfl ?_ (hu := by exact C3 hwl.symm))
 refine aP 17 rfl (qA rfl) rfl ?_
 refine aP 18 rfl (qA rfl) rfl ?_
 refine C2 (nS (tS (tS (tR (sQ (qM rfl) rfl ?_)))))
 refine sB (M8 rfl rfl) rfl rfl (fun h89 => ?_) (fun h89 => ?_)
 refine J3 ?_
 refine C7 (rC rfl (A1 rfl rfl)) (rT rfl) (rT rfl) ?_
 (rw [if_neg (by omega)]; exact K2.mk rfl (L0 _))
 refine sD (nS (cF rfl (tK (nS (tS (tR ?_))))))
 refine sL (A3 rfl rfl (A9 (by repeat first | exact mH | apply mT)) (by assumption)) rfl rfl ?_
 refine sQ (qM rfl) rfl ?_
 refine sS rfl rfl rfl hwl hwo rfl ?_ (hu := by exact C3 hwl.symm)
 refine sQ (qA rfl) rfl (sQ (qA rfl) rfl (sD (nS (tT ?_))))
 refine C7 (rC rfl (A3 rfl rfl (A9 (by repeat first | exact mH | apply mT)) hwl)) (rT rfl) (rT rfl) ?_
 (rw [if_pos (by omega)]; exact K2.mk (by congr 2; omega) hrw)
theorem B5N {k : Int} {ks : List Tm} (hops : C5 k = ks.length) (h : k = 11 ∨ k = 12) : ∃ a, ks = [a] := ks1 (by
 rcases h with rfl | rfl
 ·have : C5 11 = 1 := rfl; omega
 ·have : C5 12 = 1 := rfl; omega)
theorem A9T {k : Int} {ks : List Tm} (hops : C5 k = ks.length) (h : k = 6 ∨ k = 7 ∨ k = 8) : ∃ a b, ks = [a, b] := ks2 (by
 rcases h with rfl | rfl | rfl
 ·have : C5 6 = 2 := rfl; omega
 ·have : C5 7 = 2 := rfl; omega
 ·have : C5 8 = 2 := rfl; omega)
theorem B5O (nm : ByteArray) (num : Int) (ty fr : Ty) (lb : Int) (ks : List Tm) (G : IM) (cells : List Value) (hr : A6 G (.mk 1 nm num ty fr lb ks) cells) : Fn Tryz.prog 182 [.agg ⟨cells⟩] [] G (K2 (U3 1 ks)) := by
 rw [B5H]
 obtain ⟨tk, tks⟩ := ty
 obtain ⟨fk, fks⟩ := fr
 obtain ⟨pt, ct, pf, cf, p, c, es, rfl, hk, hnum, hlb, hty, hfr, hsl, hkl⟩ := hr.open9
 refine B3 Tryz.func182 rfl Tryz.ntmps182 Tryz.results182 rfl ?_
 intro w0
 refine tS (tR ?_)
 refine sE (C0 rfl rfl) rfl (fun b3 => ?_)
 refine sE (A7 rfl) rfl (fun b4 => ?_)
 refine J2 ?_
 refine B7 ?_
 refine tS (tR ?_)
 refine sP (W2 rfl rfl (by omega)) rfl rfl ?_
 refine I0 ?_
 refine C7 (rC rfl (A1 rfl rfl)) (rT rfl) (rT rfl) ?_
 (exact K2.mk rfl (L0 _))
theorem B5P (k : Int) (a b : Tm) (nm : ByteArray) (num : Int) (ty fr : Ty) (lb : Int) (G : IM) (cells : List Value) (h78 : k = 7 ∨ k = 8) (hc : cv (.mk k nm num ty fr lb [a, b])) (hr : A6 G (.mk k nm num ty fr lb [a, b]) cells) : Fn Tryz.prog 182 [.agg ⟨cells⟩] [] G (K2 (U3 k [a, b])) := by
 have hF := B5M k a b nm num ty fr lb G cells h78 hc hr
 obtain ⟨tk, tks⟩ := ty
 obtain ⟨fk, fks⟩ := fr
 obtain ⟨pt, ct, pf, cf, p, c, es, rfl, hk, hnum, hlb, hty, hfr, hsl, hkl⟩ := hr.open9
 refine B3 Tryz.func182 rfl Tryz.ntmps182 Tryz.results182 rfl ?_
 intro w0
 refine tS (tR ?_)
 refine sE (C0 rfl rfl) rfl (fun b3 => ?_)
 refine sE (A7 rfl) rfl (fun b4 => ?_)
 refine J2 ?_
 refine B7 ?_
 refine tS (tR ?_)
 refine sP (H0 rfl rfl (by omega)) rfl rfl ?_
 refine sQ (qA rfl) rfl (sD (nS (cF rfl (tS (tS (tR ?_))))))
 refine sB (qE rfl rfl) rfl rfl (fun h27 => ?_) (fun h27 => ?_)
 refine I7 ?_
 (refine E5 rfl hF rfl rfl (fun v G1 hle1 hh => ?_); obtain ⟨wc, rfl, hrw⟩ := hh; have hwl := hrw.len; have hwo := hrw.one)
 refine L9 ?_
 refine sS rfl rfl rfl hwl hwo rfl ?_ (hu := by exact C3 hwl.symm)
 refine C4 ?_
 refine C7 (rC rfl (A3 rfl rfl (A9 (by repeat first | exact mH | apply mT)) hwl)) (rT rfl) (rT rfl) ?_
 (exact ⟨rfl, _, rfl, hrw⟩)
 refine sQ (qA rfl) rfl (sD (nS (cF rfl (tR ?_))))
 refine sP (W2 rfl rfl (by omega)) rfl rfl ?_
 refine C4 ?_
 (refine E5 rfl hF rfl rfl (fun v G1 hle1 hh => ?_); obtain ⟨wc, rfl, hrw⟩ := hh; have hwl := hrw.len; have hwo := hrw.one)
 refine L9 ?_
 refine sS rfl rfl rfl hwl hwo rfl ?_ (hu := by exact C3 hwl.symm)
 refine C4 ?_
 refine C7 (rC rfl (A3 rfl rfl (A9 (by repeat first | exact mH | apply mT)) hwl)) (rT rfl) (rT rfl) ?_
 (exact ⟨rfl, _, rfl, hrw⟩)
theorem B5Q (a b : Tm) (nm : ByteArray) (num : Int) (ty fr : Ty) (lb : Int) (G : IM) (cells : List Value) (hc : cv (.mk 6 nm num ty fr lb [a, b])) (hr : A6 G (.mk 6 nm num ty fr lb [a, b]) cells) : Fn Tryz.prog 182 [.agg ⟨cells⟩] [] G (K2 (U3 6 [a, b])) := by
 obtain ⟨hN, hkk⟩ := hc.node
 have hca := hkk a (by simp)
 have hsma := A1W a hca
 have hbs := A1W b (hkk b (by simp))
 rw [B5F]
 obtain ⟨tk, tks⟩ := ty
 obtain ⟨fk, fks⟩ := fr
 obtain ⟨pt, ct, pf, cf, p, c, es, rfl, hk, hnum, hlb, hty, hfr, hsl, hkl⟩ := hr.open9
 obtain ⟨bx, ox, e0, rfl, hl0, hat0, hre0, hgb0⟩ := hsl.kidTm hkl (i := 0) (by simp) (by simp)
 obtain ⟨_, _, e1, hp1, hl1, hat1, hre1, hgb1⟩ := hsl.kidTm hkl (i := 1) (by simp) (by simp)
 cases hp1
 have ho0 := hre0.one
 replace hre0 : A6 G a e0 := hre0
 replace hre1 : A6 G b e1 := hre1
 obtain ⟨ak, anm, anum, ⟨atk, atks⟩, ⟨afk, afks⟩, alb, aks⟩ := a
 have hops := hca.node.1.ops
 have h5 : ak = 5 → aks.length = 1 := fun h => by rw [h] at hops; have : C5 5 = 1 := rfl; omega
 obtain ⟨_, _, _, _, hksm⟩ := A0t.1 hsma
 obtain ⟨apt, act, apf, acf, ap, ac, aes, rfl, hak, hanum, halb, haty, hafr, hasl, hakl⟩ := hre0.open9
 rw [show (Tm.mk ak anm anum (.mk atk atks) (.mk afk afks) alb aks).k = ak from rfl, show (Tm.mk ak anm anum (.mk atk atks) (.mk afk afks) alb aks).nm = anm from rfl, show (Tm.mk ak anm anum (.mk atk atks) (.mk afk afks) alb aks).ks = aks from rfl]
 refine B3 Tryz.func182 rfl Tryz.ntmps182 Tryz.results182 rfl ?_
 intro w0
 refine tS (tR ?_)
 refine sE (C0 rfl rfl) rfl (fun b3 => ?_)
 refine sE (A7 rfl) rfl (fun b4 => ?_)
 refine J2 ?_
 refine B7 ?_
 refine tS (tR ?_)
 refine sP (H0 rfl rfl (by omega)) rfl rfl ?_
 refine sQ (qA rfl) rfl (sD (nS (cF rfl (tS (tS (tR ?_))))))
 refine sP (H0 rfl rfl (by omega)) rfl rfl ?_
 refine sQ (qA rfl) rfl (sD (nS (cF rfl (tR ?_))))
 refine sP (H0 rfl rfl (by omega)) rfl rfl ?_
 refine sQ (qA rfl) rfl (sD (nS (cF rfl (tS (tR ?_)))))
 refine sP (W2 rfl rfl (by omega)) rfl rfl ?_
 refine D8 ?_
 refine sP (B2 (j := 0) rfl rfl rfl (by simp)) rfl rfl ?_
 refine sL (A3 rfl rfl (hat0 _) rfl) rfl rfl ?_
 refine sE (A7 rfl) rfl (fun b51 => ?_)
 refine sS rfl rfl rfl rfl ho0 rfl ?_ (hu := by exact C3 rfl)
 refine C4 ?_
 refine sB (M8 rfl rfl) rfl rfl (fun h60 => ?_) (fun h60 => ?_)
 refine sD (nS (qT rfl (tS (tR (sQ (T3 rfl rfl) rfl ?_)))))
 refine sS rfl rfl rfl rfl ho0 rfl ?_ (hu := by exact C3 rfl)
 refine D8 ?_
 refine C7 (rC rfl (A1 rfl rfl)) (rT rfl) (rT rfl) ?_
 (exact K2.mk (by rw [if_neg (by omega)]) (L0 _))
 refine sD (nS (cF rfl (tK (nS (tS ?_)))))
 (have hq : ak = 5 := (by omega); have hq1 := h5 hq; obtain ⟨bq, oq, e3, rfl, hl3, hat3, hre3, hgb3⟩ := hasl.kidTm hakl (i := 0) (by omega) (by omega); have hS := B5w anm b _ hbs aks[0] G e3 (Tm.smallL_mem hksm _ (List.getElem_mem (by omega))) hre3 hre1; refine D5 D6 rfl ?_)
 refine I3 (i := 0) (l' := [tt,ff,ff,ff,ff,ff,ff,ff,ff,ff,ff,ff,ff,ff]) rfl D1 (B0 rfl) rfl (by kernel_rfl) rfl rfl ?_
 refine aL 1 rfl (B9 rfl rfl) rfl ?_
 refine aP 2 rfl (B2 (j := 0) rfl rfl rfl (by omega)) rfl ?_
 refine aL 3 rfl (A3 rfl rfl (hat3 _) hl3) rfl ?_
 refine aP 4 rfl (B0 rfl) rfl ?_
 refine aL 5 rfl (B9 rfl rfl) rfl ?_
 refine aP 6 rfl (B0 rfl) rfl ?_
 refine aL 7 rfl (B9 rfl rfl) rfl ?_
 refine aP 8 rfl (B2 (j := 1) rfl rfl rfl (by simp)) rfl ?_
 refine aL 9 rfl (A3 rfl rfl (hat1 _) hl1) rfl ?_
 refine A2 10 ?_
 (refine I9 rfl rfl hS rfl rfl rfl (fun u G1 hle1 hh => ?_); obtain ⟨uc, rfl, hru⟩ := hh; have hwl := hru.len; have hwo := hru.one)
 refine A2 11 ?_
 (refine oS rfl rfl rfl rfl hwl hwo rfl rfl ?_ (hu := by exact C3 hwl.symm))
 refine aP 12 rfl (qA rfl) rfl ?_
 refine aP 13 rfl (qA rfl) rfl ?_
 refine C2 (nS (tT (rB (rS ?_))))
 refine C7 (rC rfl (A3 rfl rfl (A9 (by repeat first | exact mH | apply mT)) hwl)) (rT rfl) (rT rfl) ?_
 (exact K2.mk (by rw [if_pos (by omega), A2s (by omega)]) hru)
theorem B5R (k : Int) (a : Tm) (nm : ByteArray) (num : Int) (ty fr : Ty) (lb : Int) (G : IM) (cells : List Value) (hk1 : k = 11 ∨ k = 12) (hc : cv (.mk k nm num ty fr lb [a])) (hr : A6 G (.mk k nm num ty fr lb [a]) cells) : Fn Tryz.prog 182 [.agg ⟨cells⟩] [] G (K2 (U3 k [a])) := by
 obtain ⟨hN, hkk⟩ := hc.node
 have hca := hkk a (by simp)
 rw [B5G hk1]
 obtain ⟨i, hi⟩ : ∃ i : Nat, (k - 11).toNat = i := ⟨_, rfl⟩
 rw [hi]
 obtain ⟨tk, tks⟩ := ty
 obtain ⟨fk, fks⟩ := fr
 obtain ⟨pt, ct, pf, cf, p, c, es, rfl, hk, hnum, hlb, hty, hfr, hsl, hkl⟩ := hr.open9
 obtain ⟨bx, ox, e0, rfl, hl0, hat0, hre0, hgb0⟩ := hsl.kidTm hkl (i := 0) (by simp) (by simp)
 replace hre0 : A6 G a e0 := hre0
 obtain ⟨ak, anm, anum, ⟨atk, atks⟩, ⟨afk, afks⟩, alb, aks⟩ := a
 have hops := hca.node.1.ops
 have h10 : ak = 10 → aks.length = 2 := fun h => by rw [h] at hops; have : C5 10 = 2 := rfl; omega
 obtain ⟨apt, act, apf, acf, ap, ac, aes, rfl, hak, hanum, halb, haty, hafr, hasl, hakl⟩ := hre0.open9
 rw [show (Tm.mk ak anm anum (.mk atk atks) (.mk afk afks) alb aks).k = ak from rfl, show (Tm.mk ak anm anum (.mk atk atks) (.mk afk afks) alb aks).ks = aks from rfl]
 refine B3 Tryz.func182 rfl Tryz.ntmps182 Tryz.results182 rfl ?_
 intro w0
 refine tS (tR ?_)
 refine sE (C0 rfl rfl) rfl (fun b3 => ?_)
 refine sE (A7 rfl) rfl (fun b4 => ?_)
 refine J2 ?_
 refine B7 ?_
 refine tS (tR ?_)
 refine sP (H0 rfl rfl (by omega)) rfl rfl ?_
 refine sQ (qA rfl) rfl (sD (nS (cF rfl (tS (tS (tR ?_))))))
 refine sP (H0 rfl rfl (by omega)) rfl rfl ?_
 refine sQ (qA rfl) rfl (sD (nS (cF rfl (tR ?_))))
 refine sP (H0 rfl rfl (by omega)) rfl rfl ?_
 refine sQ (qA rfl) rfl (sD (nS (cF rfl (tS (tR ?_)))))
 refine sP (H0 rfl rfl (by omega)) rfl rfl ?_
 refine M6 ?_
 refine sP (B2 (j := 0) rfl rfl rfl (by simp)) rfl rfl ?_
 refine sQ (qF rfl) rfl ?_
 refine sL (A0h rfl rfl ((hat0 _).sub (j := 0) rfl)) rfl rfl ?_
 refine sB (M8 rfl rfl) rfl rfl (fun h56 => ?_) (fun h56 => ?_)
 refine J3 ?_
 refine C7 (rC rfl (A1 rfl rfl)) (rT rfl) (rT rfl) ?_
 (exact K2.mk (by rw [if_neg (by omega)]) (L0 _))
 refine sD (nS (cF rfl (tK (nS (tS ?_)))))
 (have hq := h10 (by omega); have hki : k - 11 = ((i : Nat) : Int) := (by omega); obtain ⟨bq, oq, e3, rfl, hl3, hat3, hre3, hgb3⟩ := hasl.kidTm hakl (i := i) (by omega) (by omega); have ho3 := hre3.one; refine D5 D6 rfl ?_)
 refine I3 (i := 0) (l' := [tt,ff,ff,ff,ff,ff,ff,ff,ff,ff,ff,ff,ff]) rfl D1 (B0 rfl) rfl (by kernel_rfl) rfl rfl ?_
 refine aL 1 rfl (B9 rfl rfl) rfl ?_
 refine aP 2 rfl (B2 (j := 0) rfl rfl rfl (by simp)) rfl ?_
 refine aP 3 rfl (qF rfl) rfl ?_
 refine aL 4 rfl (A0h rfl rfl ((hat0 _).sub (j := 8) rfl)) rfl ?_
 refine aP 5 rfl (B0 rfl) rfl ?_
 refine aL 6 rfl (B9 rfl rfl) rfl ?_
 refine aP 7 rfl (P0 rfl rfl (by omega) (by omega)) rfl ?_
 refine aP 8 rfl (B5J (j := i) rfl rfl rfl hki (by omega)) rfl ?_
 refine aL 9 rfl (A3 rfl rfl (hat3 _) hl3) rfl ?_
 refine A2 10 ?_
 (refine oS rfl rfl rfl rfl hl3 ho3 rfl rfl ?_ (hu := by exact C3 hl3.symm))
 refine aP 11 rfl (qA rfl) rfl ?_
 refine aP 12 rfl (qA rfl) rfl ?_
 refine C2 (nS (tT ?_))
 refine C7 (rC rfl (A3 rfl rfl (A9 (by repeat first | exact mH | apply mT)) hl3)) (rT rfl) (rT rfl) ?_
 (exact K2.mk (by rw [if_pos (by omega), A2s (by omega)]) hre3)
theorem B5S (k : Int) (nm : ByteArray) (num : Int) (ty fr : Ty) (lb : Int) (ks : List Tm) (G : IM) (cells : List Value) (h7 : k = 1 ∨ k = 6 ∨ k = 7 ∨ k = 8 ∨ k = 11 ∨ k = 12) (hc : cv (.mk k nm num ty fr lb ks)) (hr : A6 G (.mk k nm num ty fr lb ks) cells) : Fn Tryz.prog 182 [.agg ⟨cells⟩] [] G (K2 (U3 k ks)) := by
 have hops := hc.node.1.ops
 by_cases h1 : k = 1
 ·subst h1; exact B5O nm num ty fr lb ks G cells hr
 by_cases h6 : k = 6
 ·subst h6
  obtain ⟨a, b, rfl⟩ := A9T hops (.inl rfl)
  exact B5Q a b nm num ty fr lb G cells hc hr
 by_cases h78 : k = 7 ∨ k = 8
 ·obtain ⟨a, b, rfl⟩ := A9T hops (.inr h78)
  exact B5P k a b nm num ty fr lb G cells h78 hc hr
 obtain ⟨a, rfl⟩ := B5N hops (by omega)
 exact B5R k a nm num ty fr lb G cells (by omega) hc hr
theorem B5T {k : Int} {nm : ByteArray} {num : Int} {ty fr : Ty} {lb : Int} {ks : List Tm} {i : Nat} (hi : i < ks.length) (hn : i < (if k = 9 then 1 else ks.length)) (hj : ∀ j, j < i → (h : j < ks.length) → D0 ks[j] = true) (hv : D0 ks[i] = false) :
  F9 (.mk k nm num ty fr lb ks) = if (F9 ks[i]).2.1 = 1 then (.mk k nm num ty fr lb (ks.set i (F9 ks[i]).1), 1, 0) else (D7, (F9 ks[i]).2.1, (F9 ks[i]).2.2) := by
 rw [F9, A6j _ ks i hi hn hj hv]
theorem B5U : ∀ (t : Tm) (G : IM) (cells : List Value), cv t → D0 t = false → M0 t = true → A6 G t cells → Fn Tryz.prog 129 [.agg ⟨cells⟩] [] G (K2 (F9 t)) := by
 refine Tm.ind fun k nm num ty fr lb ks ih G cells hc hv hb hr => ?_
 have hr0 := hr
 have hRl := hr.len
 have hN := hc.node.1
 have hkk := hc.node.2
 have hkb := (V6.1 hb).2
 have hk14 := (V6.1 hb).1.1
 have hops := hN.ops
 have hle3 := A1h k
 have hkd := @A6a k nm num ty fr lb ks hc hv
 have hkX := fun (i : Nat) => @B5T k nm num ty fr lb ks i
 have hrX := @A9p k nm num ty fr lb ks
 have hRd := fun h7 => B5S k nm num ty fr lb ks G cells h7 hc hr
 obtain ⟨C, hC⟩ : ∃ C : Nat, (if k = 9 then 1 else ks.length : Nat) = C := ⟨_, rfl⟩
 rw [hC] at hkd hrX
 have hkX' := fun (i : Nat) (hi : i < ks.length) (hn : i < C) => hkX i hi (by rw [hC]; exact hn)
 have h93 : k = 9 → ks.length = 3 := fun h => by rw [h] at hops; have : C5 9 = 3 := rfl; omega
 have hC1 : k = 9 → C = 1 := fun h => by rw [← hC, if_pos h]
 have hC2 : k ≠ 9 → C = ks.length := fun h => by rw [← hC, if_neg h]
 have hC9 : C ≤ ks.length := by by_cases h9 : k = 9; have := h93 h9; have := hC1 h9; omega; have := hC2 h9; omega
 generalize F9 (.mk k nm num ty fr lb ks) = R at hkX hkX' hrX ⊢
 obtain ⟨tk, tks⟩ := ty
 obtain ⟨fk, fks⟩ := fr
 obtain ⟨pt, ct, pf, cf, p, c, es, rfl, hk, hnum, hlb, hty, hfr, hsl, hkl⟩ := hr.open9
 have hn := hsl.le
 have hnc := hsl.sl.2.1
 have hes1 : ∀ u ∈ es.flatten, u.oneCell' = true := by
  intro u hu
  obtain ⟨e, he, hue⟩ := List.mem_flatten.1 hu
  exact List.all_eq_true.1 (hsl.one e he) u hue
 refine B3 Tryz.func129 rfl Tryz.ntmps129 Tryz.results129 rfl ?_
 intro w0
 refine tS (tR ?_)
 refine sE (C0 rfl rfl) rfl (fun b3 => ?_)
 refine sE (A7 rfl) rfl (fun b4 => ?_)
 refine V2 ?_
 refine sB (qE rfl rfl) rfl rfl (fun h22 => ?_) (fun h22 => ?_)
 refine sD (nS ?_)
 (show I2 _ _ (.cond (.tmp 16) _ _) _ _; refine A0c (fun (_ : Unit) => ⟨[(5, .int .i64 (C : Int)), (1, .pointer (some ⟨b3, 0, none⟩)), (2, .pointer (some ⟨b4, 0, none⟩))], [.blk b4 [.int .i64 0, .string ⟨⟨[]⟩⟩, .int .i64 0, .int .i64 0, .slice none 0 0, .int .i64 0, .slice none 0 0, .int .i64 0, .slice none 0 0], .blk b3 [.int .i64 k, .string nm, .int .i64 num, .int .i64 tk, .slice pt tks.length ct, .int .i64 fk, .slice pf fks.length cf, .int .i64 lb, .slice p ks.length c]], G⟩) (fun _ => True) (qT rfl ?_) ?_)
 refine tR (sQ (qA rfl) rfl (sD ?_))
 (have hCC := hC1 (by omega); subst hCC; refine Q0 () (O2 (by repeat (first | exact E7.nil | refine E7.cons rfl ?_)) (by repeat (first | exact A0.refl | exact A0.nil | refine A0.cons (by repeat (first | exact Pk.here | apply Pk.there)) ?_ | apply A0.drop))) trivial)
 (rintro (_ : Unit) _)
 refine tS (tS (tR (sQ (qA rfl) rfl (sD (nS ?_)))))
 refine B7 ?_
 (refine L3 (fun (i : Nat) => ⟨[(6, .int .i64 (i : Int)), (5, .int .i64 (C : Int)), (1, .pointer (some ⟨b3, 0, none⟩)), (2, .pointer (some ⟨b4, 0, none⟩))], [.blk b4 [.int .i64 0, .string ⟨⟨[]⟩⟩, .int .i64 0, .int .i64 0, .slice none 0 0, .int .i64 0, .slice none 0 0, .int .i64 0, .slice none 0 0], .blk b3 [.int .i64 k, .string nm, .int .i64 num, .int .i64 tk, .slice pt tks.length ct, .int .i64 fk, .slice pf fks.length cf, .int .i64 lb, .slice p ks.length c]], G⟩) (fun i => i ≤ C ∧ ∀ j, j < i → (h : j < ks.length) → D0 ks[j] = true) (fun i => C - i) 0 ?_ ?_ ?_)
 exact D3
 (exact ⟨Nat.zero_le _, fun j hj => absurd hj (Nat.not_lt_zero j)⟩)
 (rintro i ⟨hi, hj⟩)
 refine tS (tS (tR (sQ (qM rfl) rfl (sQ (qM rfl) rfl ?_))))
 refine sB (J9 rfl rfl) rfl rfl (fun h47 => ?_) (fun h47 => ?_)
 refine sD (nS (qT rfl (tK (nS (tS ?_)))))
 refine B7 ?_
 refine J7 ?_
 (have hiC : i < C := (by omega); obtain ⟨bx, ox, e, rfl, hl, hat, hre, hgb⟩ := hsl.kidTm hkl (i := i) (by omega) (by omega); have heo := hre.one; have hVi := A6v ks[i] G e (hkk _ (List.getElem_mem (by omega))) hre; refine sP (B2 (j := i) rfl rfl rfl (by omega)) rfl rfl ?_)
 refine sL (A3 rfl rfl (hat _) hl) rfl rfl ?_
 refine E2 rfl (hVi) rfl rfl (fun h63 => ?_) (fun h63 => ?_)
 refine D9 ?_
 refine sP (K4 rfl rfl (by omega) (by omega)) rfl rfl ?_
 refine sQ (qA rfl) rfl (sD ?_)
 refine K7 (i + 1) ?_ ?_ ?_
 exact D3
 (exact ⟨by omega, fun j hji hl2 => (by by_cases he : j = i; (subst he; assumption); exact hj j (by omega) hl2)⟩)
 (show C - (i + 1) < C - i; omega)
 refine I7 ?_
 refine sP (B2 (j := i) rfl rfl rfl (by omega)) rfl rfl ?_
 refine sL (A3 rfl rfl (hat _) hl) rfl rfl ?_
 (have hvF : D0 ks[i] = false := (by assumption); have hst := hkX' i (by omega) hiC (fun j hji hl2 => hj j hji hl2) hvF; refine E5 rfl (ih ks[i] (List.getElem_mem (by omega)) G e (hkk _ (List.getElem_mem (by omega))) hvF (hkb _ (List.getElem_mem (by omega))) hre) rfl rfl (fun v G1 hle1 hh => ?_); obtain ⟨uc, hvv, hru⟩ := hh; have hul := hru.len; have huo := hru.one; generalize F9 ks[i] = r at hvv hru hst; obtain ⟨u, cc, ll⟩ := r; simp only at hvv hru hst; subst hvv)
 refine H1 ?_
 refine sE (A7 rfl) rfl (fun b97 => ?_)
 refine sS rfl rfl rfl hul huo rfl ?_ (hu := by exact C3 hul.symm)
 refine D8 ?_
 refine sB (M8 rfl rfl) rfl rfl (fun h107 => ?_) (fun h107 => ?_)
 refine A0D ?_
 refine C7 (rC rfl (A1 rfl rfl)) (rT rfl) (rT rfl) ?_
 (rw [hst, if_neg (by omega)]; exact K2.mk rfl (L0 _))
 refine D8 ?_
 refine sE (A7 rfl) rfl (fun b138 => ?_)
 refine F4 ?_
 refine sD (nS (tS (tR ?_)))
 (refine L4 (C8 rfl rfl rfl (by omega) (by unfold maxLen; omega) rfl) rfl ?_; rintro _ ⟨b144, rfl⟩)
 refine sQ (B0 rfl) rfl (sL (B9 rfl rfl) rfl rfl ?_)
 (refine A5J rfl rfl rfl rfl rfl (fun _ _ => by repeat (first | exact Sw.here | apply Sw.there)) (hsl.mono hle1).sl hes1 (Nat.zero_le _) (by unfold maxLen; omega) (by omega) rfl (fun p4 c4 => ?_); simp only [Nat.zero_add, List.nil_append]; refine A3A (cs := es.flatten) (by repeat (first | exact Pk.here | apply Pk.there)) (by omega) (fun bc Cc hpe hnc1 hcm => ?_); subst hpe)
 refine D9 ?_
 refine sL (A3 rfl rfl (A9 (by repeat first | exact mH | apply mT)) hul) rfl rfl ?_
 refine sP (B2 (j := i) rfl rfl rfl (by omega)) rfl rfl ?_
 refine W1 rfl rfl rfl hul huo rfl (by repeat first | exact Sw.here | apply Sw.there) (by exact A3B (by rw [hkl.len]; omega) (fun e he => (hsl.all e he)) hul) ?_
 refine I7 ?_
 (refine A2G (bs := [(bc, (es.set i uc).flatten ++ Cc)]) (Pk.perm (by repeat (first | exact Pk.here | apply Pk.there))) (fun hn2 hd2 hle2 => ?_))
 refine tT (rB (rS (A2z (rB (rS ?_)))))
 refine C7 (rC rfl (A1 rfl rfl)) (rT rfl) (rT rfl) ?_
 (have hks2 := D2.set (j := i) ((hkl.mono hle1).mono hle2) (hru.mono hle2); rw [hst, if_pos (by omega)]; exact K2.mk rfl (A6.put (us := ks.set i u) (es := es.set i uc) hk hnum hlb ((hty.mono hle1).mono hle2) ((hfr.mono hle1).mono hle2) (by rw [List.length_set]) (C9.of (Sl.of_blk (A := []) (by rw [A08 hks2.all, hks2.len, List.length_set]) (by omega) hcm (Wi.in hn2 List.mem_cons_self)) (by rw [hks2.len, List.length_set]) hks2.all (fun e he => by obtain ⟨q, hq⟩ := List.getElem?_of_mem he; exact (hks2.inv hq D7).2.one)) hks2))
 refine J3 ?_
 refine sP (A2D rfl rfl (by omega)) rfl rfl ?_
 refine I7 ?_
 (have hall : ∀ i, i < C → (hl : i < ks.length) → D0 ks[i] = true := (fun j hjc hl2 => hj j (by omega) hl2); have hrd' := hrX hall; have h9 : k = 9 := (by omega); subst h9; obtain ⟨xa, xb, xc, hxs⟩ := ks3 (h93 rfl); subst hxs; rw [B5E] at hrd'; obtain ⟨bx, ox, e0, rfl, hl0, hat0, hre0, hgb0⟩ := hsl.kidTm hkl (i := 0) (by simp) (by simp); obtain ⟨_, _, e1, hp1, hl1, hat1, hre1, hgb1⟩ := hsl.kidTm hkl (i := 1) (by simp) (by simp); cases hp1; obtain ⟨_, _, e2, hp2, hl2, hat2, hre2, hgb2⟩ := hsl.kidTm hkl (i := 2) (by simp) (by simp); cases hp2; replace hre0 : A6 G xa e0 := hre0; replace hre1 : A6 G xb e1 := hre1; replace hre2 : A6 G xc e2 := hre2; have ho1 := hre1.one; have ho2 := hre2.one; obtain ⟨ak, anm, anum, ⟨atk, atks⟩, ⟨afk, afks⟩, alb, aks⟩ := xa; obtain ⟨apt, act, apf, acf, ap, ac, aes, rfl, hak, hanum, halb, haty, hafr, hasl, hakl⟩ := hre0.open9; replace hrd' : R = (if ak = 3 then (xb, 1, 0) else if ak = 4 then (xc, 1, 0) else (D7, 2, 3)) := hrd'; refine sP (B2 (j := 0) rfl rfl rfl (by simp)) rfl rfl ?_)
 refine sQ (qF rfl) rfl ?_
 refine sL (A0h rfl rfl ((hat0 _).sub (j := 0) rfl)) rfl rfl ?_
 refine sD (nS ?_)
 refine B7 (tS (tR (sB (qE rfl rfl) rfl rfl (fun h211 => ?_) (fun h211 => ?_))))
 refine D8 ?_
 refine sP (B2 (j := 1) rfl rfl rfl (by simp)) rfl rfl ?_
 refine sL (A3 rfl rfl (hat1 _) hl1) rfl rfl ?_
 refine sS rfl rfl rfl hl1 ho1 rfl ?_ (hu := by exact C3 hl1.symm)
 refine C4 ?_
 refine C7 (rC rfl (A3 rfl rfl (A9 (by repeat first | exact mH | apply mT)) hl1)) (rT rfl) (rT rfl) ?_
 (rw [hrd', if_pos (by omega)]; exact K2.mk rfl hre1)
 refine sQ (qA rfl) rfl (sD (nS (cF rfl (tS (tR ?_)))))
 refine sB (qE rfl rfl) rfl rfl (fun h238 => ?_) (fun h238 => ?_)
 refine D8 ?_
 refine sP (B2 (j := 2) rfl rfl rfl (by simp)) rfl rfl ?_
 refine sL (A3 rfl rfl (hat2 _) hl2) rfl rfl ?_
 refine sS rfl rfl rfl hl2 ho2 rfl ?_ (hu := by exact C3 hl2.symm)
 refine C4 ?_
 refine C7 (rC rfl (A3 rfl rfl (A9 (by repeat first | exact mH | apply mT)) hl2)) (rT rfl) (rT rfl) ?_
 (rw [hrd', if_neg (by omega), if_pos (by omega)]; exact K2.mk rfl hre2)
 refine I8 ?_
 refine C7 (rC rfl (A1 rfl rfl)) (rT rfl) (rT rfl) ?_
 (rw [hrd', if_neg (by omega), if_neg (by omega)]; exact K2.mk rfl (L0 _))
 refine sD (nS ?_)
 (show I2 _ _ (.cond (.tmp 16) _ _) _ _; refine A0c (fun (_ : Unit) => ⟨[(5, .int .i64 (C : Int)), (1, .pointer (some ⟨b3, 0, none⟩)), (2, .pointer (some ⟨b4, 0, none⟩))], [.blk b4 [.int .i64 0, .string ⟨⟨[]⟩⟩, .int .i64 0, .int .i64 0, .slice none 0 0, .int .i64 0, .slice none 0 0, .int .i64 0, .slice none 0 0], .blk b3 [.int .i64 k, .string nm, .int .i64 num, .int .i64 tk, .slice pt tks.length ct, .int .i64 fk, .slice pf fks.length cf, .int .i64 lb, .slice p ks.length c]], G⟩) (fun _ => True) (cF rfl ?_) ?_)
 refine tK ?_
 (have hCC := hC2 (by omega); subst hCC; refine Q0 () (O2 (by repeat (first | exact E7.nil | refine E7.cons rfl ?_)) (by repeat (first | exact A0.refl | exact A0.nil | refine A0.cons (by repeat (first | exact Pk.here | apply Pk.there)) ?_ | apply A0.drop))) trivial)
 (rintro (_ : Unit) _)
 refine tS (tS (tR (sQ (qA rfl) rfl (sD (nS ?_)))))
 refine B7 ?_
 (refine L3 (fun (i : Nat) => ⟨[(6, .int .i64 (i : Int)), (5, .int .i64 (C : Int)), (1, .pointer (some ⟨b3, 0, none⟩)), (2, .pointer (some ⟨b4, 0, none⟩))], [.blk b4 [.int .i64 0, .string ⟨⟨[]⟩⟩, .int .i64 0, .int .i64 0, .slice none 0 0, .int .i64 0, .slice none 0 0, .int .i64 0, .slice none 0 0], .blk b3 [.int .i64 k, .string nm, .int .i64 num, .int .i64 tk, .slice pt tks.length ct, .int .i64 fk, .slice pf fks.length cf, .int .i64 lb, .slice p ks.length c]], G⟩) (fun i => i ≤ C ∧ ∀ j, j < i → (h : j < ks.length) → D0 ks[j] = true) (fun i => C - i) 0 ?_ ?_ ?_)
 exact D3
 (exact ⟨Nat.zero_le _, fun j hj => absurd hj (Nat.not_lt_zero j)⟩)
 (rintro i ⟨hi, hj⟩)
 refine tS (tS (tR (sQ (qM rfl) rfl (sQ (qM rfl) rfl ?_))))
 refine sB (J9 rfl rfl) rfl rfl (fun h299 => ?_) (fun h299 => ?_)
 refine sD (nS (qT rfl (tK (nS (tS ?_)))))
 refine B7 ?_
 refine J7 ?_
 (have hiC : i < C := (by omega); obtain ⟨bx, ox, e, rfl, hl, hat, hre, hgb⟩ := hsl.kidTm hkl (i := i) (by omega) (by omega); have heo := hre.one; have hVi := A6v ks[i] G e (hkk _ (List.getElem_mem (by omega))) hre; refine sP (B2 (j := i) rfl rfl rfl (by omega)) rfl rfl ?_)
 refine sL (A3 rfl rfl (hat _) hl) rfl rfl ?_
 refine E2 rfl (hVi) rfl rfl (fun h315 => ?_) (fun h315 => ?_)
 refine D9 ?_
 refine sP (K4 rfl rfl (by omega) (by omega)) rfl rfl ?_
 refine sQ (qA rfl) rfl (sD ?_)
 refine K7 (i + 1) ?_ ?_ ?_
 exact D3
 (exact ⟨by omega, fun j hji hl2 => (by by_cases he : j = i; (subst he; assumption); exact hj j (by omega) hl2)⟩)
 (show C - (i + 1) < C - i; omega)
 refine I7 ?_
 refine sP (B2 (j := i) rfl rfl rfl (by omega)) rfl rfl ?_
 refine sL (A3 rfl rfl (hat _) hl) rfl rfl ?_
 (have hvF : D0 ks[i] = false := (by assumption); have hst := hkX' i (by omega) hiC (fun j hji hl2 => hj j hji hl2) hvF; refine E5 rfl (ih ks[i] (List.getElem_mem (by omega)) G e (hkk _ (List.getElem_mem (by omega))) hvF (hkb _ (List.getElem_mem (by omega))) hre) rfl rfl (fun v G1 hle1 hh => ?_); obtain ⟨uc, hvv, hru⟩ := hh; have hul := hru.len; have huo := hru.one; generalize F9 ks[i] = r at hvv hru hst; obtain ⟨u, cc, ll⟩ := r; simp only at hvv hru hst; subst hvv)
 refine H1 ?_
 refine sE (A7 rfl) rfl (fun b349 => ?_)
 refine sS rfl rfl rfl hul huo rfl ?_ (hu := by exact C3 hul.symm)
 refine D8 ?_
 refine sB (M8 rfl rfl) rfl rfl (fun h359 => ?_) (fun h359 => ?_)
 refine A0D ?_
 refine C7 (rC rfl (A1 rfl rfl)) (rT rfl) (rT rfl) ?_
 (rw [hst, if_neg (by omega)]; exact K2.mk rfl (L0 _))
 refine D8 ?_
 refine sE (A7 rfl) rfl (fun b390 => ?_)
 refine F4 ?_
 refine sD (nS (tS (tR ?_)))
 (refine L4 (C8 rfl rfl rfl (by omega) (by unfold maxLen; omega) rfl) rfl ?_; rintro _ ⟨b396, rfl⟩)
 refine sQ (B0 rfl) rfl (sL (B9 rfl rfl) rfl rfl ?_)
 (refine A5J rfl rfl rfl rfl rfl (fun _ _ => by repeat (first | exact Sw.here | apply Sw.there)) (hsl.mono hle1).sl hes1 (Nat.zero_le _) (by unfold maxLen; omega) (by omega) rfl (fun p4 c4 => ?_); simp only [Nat.zero_add, List.nil_append]; refine A3A (cs := es.flatten) (by repeat (first | exact Pk.here | apply Pk.there)) (by omega) (fun bc Cc hpe hnc1 hcm => ?_); subst hpe)
 refine D9 ?_
 refine sL (A3 rfl rfl (A9 (by repeat first | exact mH | apply mT)) hul) rfl rfl ?_
 refine sP (B2 (j := i) rfl rfl rfl (by omega)) rfl rfl ?_
 refine W1 rfl rfl rfl hul huo rfl (by repeat first | exact Sw.here | apply Sw.there) (by exact A3B (by rw [hkl.len]; omega) (fun e he => (hsl.all e he)) hul) ?_
 refine I7 ?_
 (refine A2G (bs := [(bc, (es.set i uc).flatten ++ Cc)]) (Pk.perm (by repeat (first | exact Pk.here | apply Pk.there))) (fun hn2 hd2 hle2 => ?_))
 refine tT (rB (rS (A2z (rB (rS ?_)))))
 refine C7 (rC rfl (A1 rfl rfl)) (rT rfl) (rT rfl) ?_
 (have hks2 := D2.set (j := i) ((hkl.mono hle1).mono hle2) (hru.mono hle2); rw [hst, if_pos (by omega)]; exact K2.mk rfl (A6.put (us := ks.set i u) (es := es.set i uc) hk hnum hlb ((hty.mono hle1).mono hle2) ((hfr.mono hle1).mono hle2) (by rw [List.length_set]) (C9.of (Sl.of_blk (A := []) (by rw [A08 hks2.all, hks2.len, List.length_set]) (by omega) hcm (Wi.in hn2 List.mem_cons_self)) (by rw [hks2.len, List.length_set]) hks2.all (fun e he => by obtain ⟨q, hq⟩ := List.getElem?_of_mem he; exact (hks2.inv hq D7).2.one)) hks2))
 refine J3 ?_
 refine sP (A0i rfl rfl (by omega)) rfl rfl ?_
 refine sD (nS (qT rfl (tS (tR (sL (A1 rfl rfl) rfl rfl ?_)))))
 (have hall : ∀ i, i < C → (hl : i < ks.length) → D0 ks[i] = true := (fun j hjc hl2 => hj j (by omega) hl2); have hk8 := hkd hall; have hrd' := hrX hall; refine E5 rfl (hRd (by omega)) rfl rfl (fun v G1 hle1 hh => ?_); obtain ⟨uc, rfl, hru⟩ := hh; have hul := hru.len; have huo := hru.one)
 refine L9 ?_
 refine sS rfl rfl rfl hul huo rfl ?_ (hu := by exact C3 hul.symm)
 refine sQ (qA rfl) rfl (sQ (qA rfl) rfl (sD (nS (tT (rS ?_)))))
 refine C7 (rC rfl (A3 rfl rfl (A9 (by repeat first | exact mH | apply mT)) hul)) (rT rfl) (rT rfl) ?_
 (rw [hrd']; exact ⟨rfl, _, rfl, hru⟩)
theorem B5V (t : Tm) (G : IM) (cells : List Value) (hcnt : C6 t ≤ 4294967296) (hr : A6 G t cells) : Fn Tryz.prog 88 [.agg ⟨cells⟩] [] G (K2 (H2 t)) := by
 have hRl := hr.len
 have hRo := hr.one
 have hV := B5L t G cells hcnt hr
 have e1 := @A4W t
 have e2 := @A4X t
 have e3 := @A6k t
 have e4 := @A4Y t
 have e5 := @A4Z t
 have hsc := @B5C t
 refine B3 Tryz.func88 rfl Tryz.ntmps88 Tryz.results88 rfl ?_
 intro w0
 refine tS (tR ?_)
 refine sE (C0 rfl rfl) rfl (fun b3 => ?_)
 refine sE (A7 rfl) rfl (fun b4 => ?_)
 refine C4 ?_
 refine sL (A3 rfl rfl (A9 (by repeat first | exact mH | apply mT)) hRl) rfl rfl ?_
 refine E2 rfl (hV) rfl rfl (fun h13 => ?_) (fun h13 => ?_)
 refine D9 ?_
 refine sL (A3 rfl rfl (A9 (by repeat first | exact mH | apply mT)) hRl) rfl rfl ?_
 refine E2 rfl ((A6v t G cells (A2l (A04 (by assumption)).1).1 hr)) rfl rfl (fun h24 => ?_) (fun h24 => ?_)
 refine sD (nS (qT rfl (tS (tR ?_))))
 refine sL (A3 rfl rfl (A9 (by repeat first | exact mH | apply mT)) hRl) rfl rfl ?_
 (refine E5 rfl (A3v t G cells (A2Y (A04 (by assumption)).1) hr) rfl rfl (fun v G1 hle1 hh => ?_); obtain ⟨S6, F1, rfl, hs1, hn1⟩ := hh; have hul := hs1.R.len; have huo := hs1.R.one)
 refine sS rfl rfl rfl hul huo rfl ?_ (hu := by exact C3 hul.symm)
 refine sQ (qA rfl) rfl (sQ (qA rfl) rfl (sD (nS (tT (rS ?_)))))
 refine C7 (rC rfl (A3 rfl rfl (A9 (by repeat first | exact mH | apply mT)) hul)) (rT rfl) (rT rfl) ?_
 (exact K2.mk (e2 (by assumption) (by assumption)) (hs1.R.mono (C1.le _ _)))
 refine sD (nS (cF rfl (tK (nS (tS (tR ?_))))))
 refine sL (A3 rfl rfl (A9 (by repeat first | exact mH | apply mT)) hRl) rfl rfl ?_
 (have hcv : Q9 t = true := (by assumption); have hnv : D0 t = false := (by assumption); obtain ⟨hsc1, hsc2⟩ := hsc hcv; have e6 := @B4o t hcv; replace e3 := e3 hcv hnv; replace e4 := e4 hcv hnv; replace e5 := e5 hcv hnv; refine E5 rfl (B5U t G cells (A2l (A04 hcv).1).1 hnv (A04 hcv).2 hr) rfl rfl (fun v G1 hle1 hh => ?_); obtain ⟨uc, hvv, hru⟩ := hh; have hul := hru.len; have huo := hru.one; generalize F9 t = r at hvv hru hsc1 hsc2 e3 e4 e5 e6; obtain ⟨u, cc, ll⟩ := r; simp only at hvv hru hsc1 hsc2 e3 e4 e5 e6; subst hvv; have hVu := A7S u G1 uc (by omega) hru)
 refine H1 ?_
 refine sE (A7 rfl) rfl (fun b54 => ?_)
 refine sS rfl rfl rfl hul huo rfl ?_ (hu := by exact C3 hul.symm)
 refine D8 ?_
 refine sB (M8 rfl rfl) rfl rfl (fun h64 => ?_) (fun h64 => ?_)
 refine I0 ?_
 refine C7 (rC rfl (A1 rfl rfl)) (rT rfl) (rT rfl) ?_
 (exact K2.mk (e3 (by omega)) (L0 _))
 refine sD (nS (cF rfl (tK (nS (tS (tS (tR ?_)))))))
 refine sL (A3 rfl rfl (A9 (by repeat first | exact mH | apply mT)) hul) rfl rfl ?_
 (rw [← e6 (by omega)] at hVu; refine E2 rfl hVu rfl rfl (fun h91 => ?_) (fun h91 => ?_))
 refine sQ (W0 rfl) rfl (sD (nS (cF rfl (tK (nS (tS (tR ?_)))))))
 refine sL (A3 rfl rfl (A9 (by repeat first | exact mH | apply mT)) hul) rfl rfl ?_
 (refine E5 rfl (A3v u G1 uc hsc1 hru) rfl rfl (fun v G2 hle2 hh => ?_); obtain ⟨cs2, F2, rfl, hs2, hn2⟩ := hh; have hwl := hs2.R.len; have hwo := hs2.R.one)
 refine sS rfl rfl rfl hwl hwo rfl ?_ (hu := by exact C3 hwl.symm)
 refine sQ (qA rfl) rfl (sQ (qA rfl) rfl (sD (nS (tT ?_))))
 refine C7 (rC rfl (A3 rfl rfl (A9 (by repeat first | exact mH | apply mT)) hwl)) (rT rfl) (rT rfl) ?_
 (exact K2.mk (e5 (by omega) (by assumption)) (hs2.R.mono (C1.le _ _)))
 refine L5 ?_
 refine C7 (rC rfl (A1 rfl rfl)) (rT rfl) (rT rfl) ?_
 (exact K2.mk (e4 (by omega) (by assumption)) (L0 _))
 refine L5 ?_
 refine C7 (rC rfl (A1 rfl rfl)) (rT rfl) (rT rfl) ?_
 (exact K2.mk (e1 (by assumption)) (L0 _))
theorem B5W (e : Tm) (n : Nat) (hn : n ≤ 300) (G : IM) (cells : List Value) (hcnt : C6 e ≤ 4294967296) (hr : A6 G e cells) : Fn Tryz.prog 39 [.agg ⟨cells⟩, .int .i64 (n : Int)] [] G (EvP (J0 n e)) := by
 have hRl := hr.len
 have hRo := hr.one
 refine B3 Tryz.func39 rfl Tryz.ntmps39 Tryz.results39 rfl ?_
 intro w0
 refine tS (tR ?_)
 refine sE (C0 rfl rfl) rfl (fun b3 => ?_)
 refine sE (A7 rfl) rfl (fun b4 => ?_)
 refine I7 ?_
 refine B7 ?_
 (refine L3 (fun (x : Nat × Tm × List Value × IM) => ⟨[(8, .int .i64 (x.1 : Int)), (1, .int .i64 (n : Int)), (2, .pointer (some ⟨b3, 0, none⟩)), (4, .pointer (some ⟨b4, 0, none⟩))], [.blk b3 x.2.2.1, .blk b4 [.int .i64 0, .string ⟨⟨[]⟩⟩, .int .i64 0, .int .i64 0, .slice none 0 0, .int .i64 0, .slice none 0 0, .int .i64 0, .slice none 0 0]], x.2.2.2⟩) (fun x => x.1 ≤ n ∧ B6 G x.2.2.2 ∧ A6 x.2.2.2 x.2.1 x.2.2.1 ∧ C6 x.2.1 ≤ 4294967296 ∧ V0 x.1 (J0 (n - x.1) x.2.1) = J0 n e) (fun x => n - x.1) (0, e, cells, G) ?_ ?_ ?_)
 (simp only [I6]; exact D3)
 (exact ⟨Nat.zero_le _, B6.refl _, hr, hcnt, rfl⟩)
 (rintro ⟨i, u, uc, Gi⟩ ⟨hi, hle, hru, hcu, hev⟩; simp only [] at hi hle hru hcu hev ⊢; have hul := hru.len; have huo := hru.one)
 refine tS ?_
 refine B7 ?_
 refine tS (tR ?_)
 refine sL (A3 rfl rfl (A9 (by repeat first | exact mH | apply mT)) hul) rfl rfl ?_
 (refine E5 rfl (B5V u Gi uc hcu hru) rfl rfl (fun v G1 hle1 hh => ?_); obtain ⟨wc, hv, hrw⟩ := hh; have hwl := hrw.len; have hwo := hrw.one; have hend := @B4d (n - i) i u; have hmu := @B4e (n - i) i u; have hgo := @B4f (n - i) i u; have hval := @B4p u; generalize H2 u = r at hv hrw hend hmu hgo hval; obtain ⟨w, c, l⟩ := r; simp only at hv hrw hend hmu hgo hval; subst hv)
 refine H1 ?_
 refine sE (A7 rfl) rfl (fun b30 => ?_)
 refine sS rfl rfl rfl hwl hwo rfl ?_ (hu := by exact C3 hwl.symm)
 refine D8 ?_
 refine sB (M8 rfl rfl) rfl rfl (fun h40 => ?_) (fun h40 => ?_)
 refine sD (nS (qT rfl (tS (tR ?_))))
 refine sL (A3 rfl rfl (A9 (by repeat first | exact mH | apply mT)) hwl) rfl rfl ?_
 refine sQ (qM rfl) rfl (sQ (qM rfl) rfl (sQ (qM rfl) rfl ?_))
 refine sS rfl rfl rfl hwl hwo rfl ?_ (hu := by exact C3 hwl.symm)
 refine J2 ?_
 refine A2t (rC rfl (A3 rfl rfl (A9 (by repeat first | exact mH | apply mT)) hwl)) (rT rfl) (rT rfl) (rT rfl) ?_
 (exact EvP.mk (by rw [← hev]; exact hend (by omega)) hrw)
 refine I7 ?_
 refine sB (qE rfl rfl) rfl rfl (fun h74 => ?_) (fun h74 => ?_)
 refine A0o ?_
 refine A2t (rC rfl (A1 rfl rfl)) (rT rfl) (rT rfl) (rT rfl) ?_
 (exact EvP.mk (by rw [← hev]; exact hmu (by omega) (by omega)) (L0 _))
 refine sD (nS (cF rfl (tK (nS (tR ?_)))))
 refine sL (A3 rfl rfl (A9 (by repeat first | exact mH | apply mT)) hwl) rfl rfl ?_
 refine W1 rfl rfl rfl hwl hwo rfl (by repeat first | exact Sw.here | apply Sw.there) (by exact C3 (hul.trans hwl.symm)) ?_
 refine sD (N3 (nS (tR (sQ (qM rfl) rfl ?_))))
 refine sP (K4 rfl rfl (by omega) (by omega)) rfl rfl ?_
 refine sQ (qA rfl) rfl (sD ?_)
 refine K7 (i + 1, w, wc, G1) ?_ ?_ ?_
 (simp only [I6]; exact D3)
 (dsimp only; exact ⟨by omega, hle.trans hle1, hrw, by have := (A2l (A04 (hval (by omega))).1).2; omega, by rw [← hev, hgo (by omega) (by omega), show n - (i + 1) = n - i - 1 by omega]⟩)
 (show n - (i + 1) < n - i; omega)
theorem B5X {e : Tm} {fuel : Int} (h : P6 fuel 0 300 = false) : A0l e fuel = (D7, 3, 0) := by
 unfold A0l; rw [if_neg (A3i h)]
theorem A9U {e : Tm} {fuel : Int} (h : P6 fuel 0 300 = true) : A0l e fuel = ((J0 fuel.toNat e).1, (J0 fuel.toNat e).2.1, (J0 fuel.toNat e).2.2.1) := by
 unfold A0l; rw [if_pos (A07 h)]
theorem B5Y (G : IM) : P1 G A8 [.int .i64 0, .slice none 0 0] [] := by
 simp only [A8, P1, N8]
 exact ⟨none, 0, [], [], rfl, ⟨by omega, by omega⟩, C9.nil _ _, ⟨rfl, rfl⟩, rfl, by simp [J1]⟩
def B7k (t : Tm) : Tm × Bool := if O4 t = true ∨ O3 t = true then (J4 t, true) else (D7, false)
end Gw
end Go.Proofs.YtfpgncjeejickaaGreat
