/-
  The reference's typing, exactly: types of terms.
-/
import Derived.Test.YtfpgncjeejickaaGreatKg6
import Derived.Test.YtfpgncjeejickaaGreatKg4
import Derived.Test.YtfpgncjeejickaaGreatKg5
import Derived.Test.YtfpgncjeejickaaGreatKg3
import Derived.Test.YtfpgncjeejickaaGreatKg2
import Derived.Test.YtfpgncjeejickaaGreatKg1
set_option linter.unusedVariables false
set_option linter.unusedSimpArgs false
set_option maxHeartbeats 0
set_option maxRecDepth 100000
set_option synthInstance.maxSize 4000
set_option synthInstance.maxHeartbeats 0
namespace Go.Proofs.YtfpgncjeejickaaGreat
open Go Go.RowKit
namespace Gw
section
variable {ak bk : Int} {aks bks : List Ty}
theorem B4I (h : ak ≠ bk) : N0 (.mk ak aks) (.mk bk bks) = false := by rw [A2t, decide_eq_false h]; rfl
theorem B4J (h : aks.length ≠ bks.length) : N0 (.mk ak aks) (.mk bk bks) = false := by
 rw [A2t]
 cases hl : A0f aks bks with
 | false => simp
 | true => exact absurd ((A3K _ _).1 hl).1 h
theorem B4K {i : Nat} (hi : i < aks.length) (hi' : i < bks.length) (h : N0 aks[i] bks[i] = false) : N0 (.mk ak aks) (.mk bk bks) = false := by
 rw [A2t]
 cases hl : A0f aks bks with
 | false => simp
 | true => have := ((A3K _ _).1 hl).2 i hi hi'; rw [h] at this; cases this
theorem B4L (hk : ak = bk) (hl : aks.length = bks.length) (h : ∀ i, (h : i < aks.length) → (h' : i < bks.length) → N0 aks[i] bks[i] = true) : N0 (.mk ak aks) (.mk bk bks) = true := by
 rw [A2t, decide_eq_true hk, (A3K _ _).2 ⟨hl, h⟩]; rfl
end
theorem A95 : ∀ (a b : Ty) (G : IM) (ca cb : List Value), C1 G a ca → C1 G b cb → Fn Tryz.prog 203 [.agg ⟨ca⟩, .agg ⟨cb⟩] [] G (I5 (.bool (N0 a b)) G) := by
 refine Ty.ind fun ak aks ih b G ca cb hra hrb => ?_
 obtain ⟨bk, bks⟩ := b
 obtain ⟨pa, cca, ea, rfl, hak, hsla, hkla⟩ := hra.open
 obtain ⟨pb, ccb, eb, rfl, hbk, hslb, hklb⟩ := hrb.open
 simp only [Ty.k, Ty.ks] at hak hsla hkla hbk hslb hklb ⊢
 have hna := hsla.le
 have hnb := hslb.le
 have e1 := @B4I ak bk aks bks
 have e2 := @B4J ak bk aks bks
 have e3 := fun i => @B4K ak bk aks bks i
 have e4 := @B4L ak bk aks bks
 generalize N0 (.mk ak aks) (.mk bk bks) = R at e1 e2 e3 e4 ⊢
 refine C0 Tryz.func203 rfl Tryz.ntmps203 Tryz.results203 rfl ?_
 intro w0
 refine tS (tR ?_)
 refine sE (C5 rfl rfl) rfl (fun b3 => ?_)
 refine sE (C5 rfl rfl) rfl (fun b4 => ?_)
 refine J5 ?_
 refine sB (O9 rfl rfl) rfl rfl (fun h15 => ?_) (fun h15 => ?_)
 refine A0n ?_
 (exact ⟨rfl, by rw [e1 (by omega)], rfl⟩)
 refine B4 ?_
 refine sB (O9 rfl rfl) rfl rfl (fun h44 => ?_) (fun h44 => ?_)
 refine K8 ?_
 (exact ⟨rfl, by rw [e2 (by omega)], rfl⟩)
 refine K8 ?_
 refine B8 ?_
 (refine I2 (fun (i : Nat) => ⟨[(5, .int .i64 i), (2, .pointer (some ⟨b3, 0, none⟩)), (3, .pointer (some ⟨b4, 0, none⟩))], [.blk b4 [.int .i64 bk, .slice pb bks.length ccb], .blk b3 [.int .i64 ak, .slice pa aks.length cca]], G⟩) (fun i => i ≤ aks.length ∧ ∀ j, (h : j < aks.length) → (h' : j < bks.length) → j < i → N0 aks[j] bks[j] = true) (fun i => aks.length - i) 0 ?_ ?_ ?_)
 exact D3
 (exact ⟨Nat.zero_le _, fun j _ _ hj => absurd hj (Nat.not_lt_zero j)⟩)
 (rintro i ⟨hi, hall⟩)
 refine B4 ?_
 refine sB (I0 rfl rfl) rfl rfl (fun h82 => ?_) (fun h82 => ?_)
 refine A7 ?_
 refine B8 ?_
 refine tS ?_
 (obtain ⟨b, o, q0, d0, hp0, hat0, hre0, hg0⟩ := hsla.kidTy hkla (i := i) (by omega) (by omega); obtain ⟨b', o', q1, d1, hp1, hat1, hre1, hg1⟩ := hslb.kidTy hklb (i := i) (by omega) (by omega); subst hp0; subst hp1; have hih := ih aks[i] (List.getElem_mem (by omega)) bks[i] G _ _ hre0 hre1; refine E0 E1 rfl ?_)
 refine I8 (i := 0) (l' := [tt,ff,ff,ff,ff,ff,ff,ff,ff,ff,ff,ff]) rfl D2 (B7 rfl) rfl (by kernel_rfl) rfl rfl ?_
 refine aL 1 rfl (C7 rfl rfl) rfl ?_
 refine aP 2 rfl (qM rfl) rfl ?_
 refine aP 3 rfl (B3 rfl rfl rfl (by omega)) rfl ?_
 refine aL 4 rfl (A2 rfl rfl (hat0 _) rfl) rfl ?_
 refine aP 5 rfl (B7 rfl) rfl ?_
 refine aL 6 rfl (C7 rfl rfl) rfl ?_
 refine aP 7 rfl (qM rfl) rfl ?_
 refine aP 8 rfl (B3 rfl rfl rfl (by omega)) rfl ?_
 refine aL 9 rfl (A2 rfl rfl (hat1 _) rfl) rfl ?_
 refine A3 10 ?_
 refine U5 rfl rfl (hih) rfl rfl rfl (fun h103 => ?_) (fun h103 => ?_)
 refine aP 11 rfl (pNt rfl) rfl ?_
 refine D6 ?_
 refine sP (H2 rfl rfl (by omega) (by omega)) rfl rfl ?_
 refine D7 ?_
 refine H9 (i + 1) ?_ ?_ ?_
 exact D3
 (exact ⟨by omega, fun j h h' hj => by by_cases hji : j = i; (subst hji; assumption); exact hall j h h' (by omega)⟩)
 omega
 refine aP 11 rfl (pNf rfl) rfl ?_
 refine I6 ?_
 (exact ⟨rfl, by rw [e3 i (by omega) (by omega) (by assumption)], rfl⟩)
 refine I6 ?_
 (exact ⟨rfl, by rw [e4 (by omega) (by omega) (fun j h h' => hall j h h' (by omega))], rfl⟩)
theorem A96 (G : IM) (cx : Cx) (p : Option Addr) (n c : Nat) (nm : ByteArray) (t : Ty) (cells : List Value) (hx : S0 G cx p n c) (hn : n ≤ 1000) (hr : C1 G t cells) :
  Fn Tryz.prog 146 [.slice p n c, .string nm, .agg ⟨cells⟩] [] G (J4 fun G' v => ∃ p' c', v = .slice p' (n + 1) c' ∧ S0 G' (cx ++ [(nm, t)]) p' (n + 1) c') := by
 obtain ⟨k, ks⟩ := t
 obtain ⟨q, d, es0, rfl, _⟩ := hr.open
 simp only [Ty.k, Ty.ks] at hr ⊢
 obtain ⟨hx1, es, h2, h3⟩ := id hx
 have hSl : Sl G p n c 3 es.flatten := h2.1
 have h1c : ∀ u ∈ es.flatten, u.oneCell' = true := by
  intro u hu
  obtain ⟨e, he, hue⟩ := List.mem_flatten.1 hu
  exact List.all_eq_true.1 (h2.one e he) u hue
 refine C0 Tryz.func146 rfl Tryz.ntmps146 Tryz.results146 rfl ?_
 intro w0
 refine tS (tR ?_)
 refine sE (C5 rfl rfl) rfl (fun b3 => ?_)
 refine B6 ?_
 refine E0 E1 rfl ?_
 refine I8 (i := 1) (l' := [ff,tt,ff,ff,ff,ff,ff,ff,ff]) rfl D2 (qM rfl) rfl (by kernel_rfl) rfl rfl ?_
 refine aP 3 rfl (qM rfl) rfl ?_
 refine aL 4 rfl (A4 rfl rfl) rfl ?_
 refine aP 5 rfl (W4 rfl rfl) rfl ?_
 refine R2 (j := 0) (j' := 6) (by kernel_rfl) ?_ ?_
 (refine E6 rfl (C9 rfl rfl rfl (by omega) (by unfold maxLen; omega) rfl) rfl rfl ?_; rintro _ ⟨b14, rfl⟩)
 refine R2 (j := 2) (j' := 6) (by kernel_rfl) ?_ ?_
 (refine A21 rfl rfl rfl rfl rfl rfl (fun _ _ => by repeat (first | exact Sw.here | apply Sw.there)) hSl h1c (Nat.zero_le _) (by unfold maxLen; omega) (by omega) rfl rfl (by repeat (first | exact B1.nil | apply B1.dep (by decide +kernel) | apply B1.blk (by decide +kernel) (by repeat (first | exact Pk.here | apply Pk.there)) (by repeat first | exact mH | apply mT))) (fun p4 c4 => ?_); simp only [Nat.zero_add, List.nil_append])
 refine A3 6 ?_
 (refine E6 rfl (C9 rfl rfl rfl (by omega) (by unfold maxLen; omega) rfl) rfl rfl ?_; rintro _ ⟨b18, rfl⟩)
 refine A3 7 ?_
 (refine R4 rfl rfl rfl rfl rfl rfl (fun _ _ => by repeat (first | exact Sw.here | apply Sw.there)) (M6 (by repeat first | exact mH | apply mT)) rfl (by simp [Value.oneCell']) (by unfold maxLen; omega) (by omega) rfl rfl (by repeat (first | exact B1.nil | apply B1.dep (by decide +kernel) | apply B1.blk (by decide +kernel) (by repeat (first | exact Pk.here | apply Pk.there)) (by repeat first | exact mH | apply mT))) (fun p5 c5 => ?_))
 refine aP 8 rfl (qA rfl) rfl ?_
 refine E8 (nS ?_)
 (refine E9 (cs := es.flatten ++ [.string nm, .int .i64 k, .slice q ks.length d]) (by repeat (first | exact Pk.here | apply Pk.there)) (fun G5 hle5 hsl5 hno5 => ?_))
 refine tT (K7 (rT rfl) ?_)
 (exact ⟨rfl, _, _, rfl, S0.snoc (nm := nm) (t := .mk k ks) hx1 h2.len h2.all h2.one h3 hle5 ⟨_, _, rfl, hr.mono hle5⟩ hsl5⟩)
 (refine E6 rfl (C9 rfl rfl rfl (by omega) (by unfold maxLen; omega) rfl) rfl rfl ?_; rintro _ ⟨b28, rfl⟩)
 refine A3 2 ?_
 (refine A21 rfl rfl rfl rfl rfl rfl (fun _ _ => by repeat (first | exact Sw.here | apply Sw.there)) hSl h1c (Nat.zero_le _) (by unfold maxLen; omega) (by omega) rfl rfl (by repeat (first | exact B1.nil | apply B1.dep (by decide +kernel) | apply B1.blk (by decide +kernel) (by repeat (first | exact Pk.here | apply Pk.there)) (by repeat first | exact mH | apply mT))) (fun p4 c4 => ?_); simp only [Nat.zero_add, List.nil_append])
 refine A3 7 ?_
 (refine R4 rfl rfl rfl rfl rfl rfl (fun _ _ => by repeat (first | exact Sw.here | apply Sw.there)) (M6 (by repeat first | exact mH | apply mT)) rfl (by simp [Value.oneCell']) (by unfold maxLen; omega) (by omega) rfl rfl (by repeat (first | exact B1.nil | apply B1.dep (by decide +kernel) | apply B1.blk (by decide +kernel) (by repeat (first | exact Pk.here | apply Pk.there)) (by repeat first | exact mH | apply mT))) (fun p5 c5 => ?_))
 refine aP 8 rfl (qA rfl) rfl ?_
 refine E8 (nS ?_)
 (refine E9 (cs := es.flatten ++ [.string nm, .int .i64 k, .slice q ks.length d]) (by repeat (first | exact Pk.here | apply Pk.there)) (fun G5 hle5 hsl5 hno5 => ?_))
 refine tT (K7 (rT rfl) ?_)
 (exact ⟨rfl, _, _, rfl, S0.snoc (nm := nm) (t := .mk k ks) hx1 h2.len h2.all h2.one h3 hle5 ⟨_, _, rfl, hr.mono hle5⟩ hsl5⟩)
 (refine E6 rfl (C9 rfl rfl rfl (by omega) (by unfold maxLen; omega) rfl) rfl rfl ?_; rintro _ ⟨b40, rfl⟩)
 refine A3 0 ?_
 (refine E6 rfl (C9 rfl rfl rfl (by omega) (by unfold maxLen; omega) rfl) rfl rfl ?_; rintro _ ⟨b42, rfl⟩)
 refine A3 2 ?_
 (refine A21 rfl rfl rfl rfl rfl rfl (fun _ _ => by repeat (first | exact Sw.here | apply Sw.there)) hSl h1c (Nat.zero_le _) (by unfold maxLen; omega) (by omega) rfl rfl (by repeat (first | exact B1.nil | apply B1.dep (by decide +kernel) | apply B1.blk (by decide +kernel) (by repeat (first | exact Pk.here | apply Pk.there)) (by repeat first | exact mH | apply mT))) (fun p4 c4 => ?_); simp only [Nat.zero_add, List.nil_append])
 refine A3 7 ?_
 (refine R4 rfl rfl rfl rfl rfl rfl (fun _ _ => by repeat (first | exact Sw.here | apply Sw.there)) (M6 (by repeat first | exact mH | apply mT)) rfl (by simp [Value.oneCell']) (by unfold maxLen; omega) (by omega) rfl rfl (by repeat (first | exact B1.nil | apply B1.dep (by decide +kernel) | apply B1.blk (by decide +kernel) (by repeat (first | exact Pk.here | apply Pk.there)) (by repeat first | exact mH | apply mT))) (fun p5 c5 => ?_))
 refine aP 8 rfl (qA rfl) rfl ?_
 refine E8 (nS ?_)
 (refine E9 (cs := es.flatten ++ [.string nm, .int .i64 k, .slice q ks.length d]) (by repeat (first | exact Pk.here | apply Pk.there)) (fun G5 hle5 hsl5 hno5 => ?_))
 refine tT (K7 (rT rfl) ?_)
 (exact ⟨rfl, _, _, rfl, S0.snoc (nm := nm) (t := .mk k ks) hx1 h2.len h2.all h2.one h3 hle5 ⟨_, _, rfl, hr.mono hle5⟩ hsl5⟩)
theorem A97 {cx : Cx} : ∀ {ks : List Tm} {i : Nat} {us : List Ty} {u : Ty} (hi : i < ks.length), V9 cx (ks.take i) = some us → Q6 cx ks[i] = some u → V9 cx (ks.take (i + 1)) = some (us ++ [u])
 | [], i, us, u, hi, _, _ => by simp at hi
 | t :: ts, 0, us, u, _, h1, h2 => by
  simp only [List.take_zero, V9, Option.some.injEq] at h1
  subst h1
  simp only [List.getElem_cons_zero] at h2
  simp [V9, h2]
 | t :: ts, i + 1, us, u, hi, h1, h2 => by
  simp only [List.take_succ_cons, V9] at h1 ⊢
  split at h1
  ·cases h1
  ·rename_i a ha
   split at h1
   ·cases h1
   ·rename_i bs has
    simp only [Option.some.injEq] at h1
    subst h1
    simp only [List.getElem_cons_succ] at h2
    have := A97 (ks := ts) (i := i) (by simpa using hi) has h2
    simp only [this, List.cons_append]
theorem A98 {cx : Cx} : ∀ {ks : List Tm} {i : Nat} (hi : i < ks.length), Q6 cx ks[i] = none → V9 cx ks = none
 | [], i, hi, _ => by simp at hi
 | t :: ts, 0, _, h => by simp only [List.getElem_cons_zero] at h; rw [V9, h]
 | t :: ts, i + 1, hi, h => by
  simp only [List.getElem_cons_succ] at h
  have := A98 (ks := ts) (i := i) (by simpa using hi) h
  rw [V9, this]
  cases Q6 cx t <;> rfl
section
variable {cx : Cx} {k : Int} {nm : ByteArray} {num : Int} {ty fr : Ty} {lb : Int} {ks : List Tm}
theorem B4M (hk : k = 1) (h0 : ks = []) : Q6 cx (.mk k nm num ty fr lb ks) = V6 cx nm := by
 subst hk h0
 rw [Q6, V9]
 simp only [W8, mW1]
 cases V6 cx nm with
 | none => rfl
 | some t => simp
theorem B4N (hk : k = 2) (h0 : ks = []) : Q6 cx (.mk k nm num ty fr lb ks) = some S8 := by subst hk h0; rfl
theorem B4O (hk : k = 3 ∨ k = 4) (h0 : ks = []) : Q6 cx (.mk k nm num ty fr lb ks) = some W5 := by subst h0; rcases hk with rfl | rfl <;> rfl
theorem B4P {b : Tm} (hk : k = 5) (h : Q6 (cx ++ [(nm, ty)]) b = none) : Q6 cx (.mk k nm num ty fr lb [b]) = none := by
 subst hk; rw [Q6, N2, if_pos rfl, V9, h]
theorem B4Q {b : Tm} {t : Ty} (hk : k = 5) (h : Q6 (cx ++ [(nm, ty)]) b = some t) : Q6 cx (.mk k nm num ty fr lb [b]) = if F9 (.mk 4 [ty, t]) = true then some (.mk 4 [ty, t]) else none := by
 subst hk
 rw [Q6, N2, if_pos rfl, V9, h]
 simp only [V9, W8, mW5, List.getD_cons_zero]
 cases F9 (.mk 4 [ty, t]) <;> simp
theorem B4R (hk : k ≠ 5) (h : V9 cx ks = none) : Q6 cx (.mk k nm num ty fr lb ks) = none := by rw [Q6, N2, if_neg hk, h]
theorem B4S {ts : List Ty} (hk : k ≠ 5) (h : V9 cx ks = some ts) : Q6 cx (.mk k nm num ty fr lb ks) = W8 cx k nm ty ts := by rw [Q6, N2, if_neg hk, h]
end
theorem A99 : ∀ (e : Tm) (d : Int) (cx : Cx) (G : IM) (p : Option Addr) (n c : Nat) (cells : List Value), M5 12 14 e d = true → (n : Int) ≤ d → W2 cx → S0 G cx p n c → A8 G e cells →
  Fn Tryz.prog 145 [.slice p n c, .agg ⟨cells⟩] [] G (P6 (Q6 cx e) G) := by
 refine Tm.ind fun k nm num ty fr lb ks ih d cx G p n c cells hv hnd hcv hx hr => ?_
 have hr0 := hr
 have hone := hr.one
 obtain ⟨hv1, hv2, hv3, hv4⟩ := A0A hv
 have hvk := (A07 12 14 ks _).1 hv4
 have har := (U2.1 hv3).1
 have hop := A25 har
 obtain ⟨hta, hts⟩ := A27 hv3
 have hkr : 1 ≤ k ∧ k ≤ 14 := A3X (by rw [har]; omega)
 have hcv5 : k = 5 → W2 (cx ++ [(nm, ty)]) := fun hk => by have := A3c (k := k) (nm := nm) (ty := ty) hcv fun hk => (U2.1 hv3).2.2.2.2.2.1 (.inl hk); rwa [N2, if_pos hk] at this
 have h0 : k ≤ 4 → ks = [] := fun h => List.length_eq_zero_iff.1 (by
  have hk : k = 1 ∨ k = 2 ∨ k = 3 ∨ k = 4 := by omega
  rcases hk with rfl | rfl | rfl | rfl
  ·have : E2 1 = 0 := rfl; omega
  ·have : E2 2 = 0 := rfl; omega
  ·have : E2 3 = 0 := rfl; omega
  ·have : E2 4 = 0 := rfl; omega)
 have f1 := fun hk => @B4M cx k nm num ty fr lb ks hk (h0 (by omega))
 have f2 := fun hk => @B4N cx k nm num ty fr lb ks hk (h0 (by omega))
 have f3 := fun hk => @B4O cx k nm num ty fr lb ks hk (h0 (by omega))
 have f4 : ∀ (hk : k = 5) (hl : 0 < ks.length), Q6 (cx ++ [(nm, ty)]) ks[0] = none → Q6 cx (.mk k nm num ty fr lb ks) = none := fun hk hl h => by
  obtain ⟨b, rfl⟩ := ks1 (hop.2.2 (.inl hk)); exact B4P hk h
 have f5 : ∀ (t : Ty) (hk : k = 5) (hl : 0 < ks.length), Q6 (cx ++ [(nm, ty)]) ks[0] = some t → Q6 cx (.mk k nm num ty fr lb ks) = if F9 (.mk 4 [ty, t]) = true then some (.mk 4 [ty, t]) else none := fun t hk hl h => by
  obtain ⟨b, rfl⟩ := ks1 (hop.2.2 (.inl hk)); exact B4Q hk h
 have f6 := @B4R cx k nm num ty fr lb ks
 have f7 := fun ts => @B4S cx k nm num ty fr lb ks ts
 generalize Q6 cx (.mk k nm num ty fr lb ks) = R at f1 f2 f3 f4 f5 f6 f7 ⊢
 obtain ⟨tk, tks⟩ := ty
 obtain ⟨fk, fks⟩ := fr
 obtain ⟨pt, ct, pf, cf, q, cq, es, rfl, hk, hnum, hlb, hty, hfr, hsl, hkl⟩ := hr.open9
 have hlen : ks.length ≤ 3 := by have := A1o k; omega
 refine C0 Tryz.func145 rfl Tryz.ntmps145 Tryz.results145 rfl ?_
 intro w0
 refine tS (tR ?_)
 refine sE (C5 rfl rfl) rfl (fun b3 => ?_)
 refine sE (A6 rfl) rfl (fun b4 => ?_)
 refine J5 ?_
 refine B8 (tS (tR (sB (qE rfl rfl) rfl rfl (fun h18 => ?_) (fun h18 => ?_))))
 refine E4 ?_
 (refine D8 rfl (B4B G cx hcv p n c nm hx) rfl rfl (fun v G1 hle1 hh => ?_); obtain ⟨mt, mc, rfl, hmr, hma, hmu⟩ := hh; obtain ⟨p1, c1, e1, rfl, _⟩ := hmr.open)
 refine E4 ?_
 refine F0 (rC rfl (A4 rfl rfl)) (rT rfl) ?_
 (rw [f1 (by omega)]; exact ⟨rfl, _, _, rfl, hmr, hma, hmu⟩)
 refine A7 ?_
 refine sB (qE rfl rfl) rfl rfl (fun h46 => ?_) (fun h46 => ?_)
 refine A7 ?_
 refine H3 rfl ((A0B _)) rfl rfl ?_
 refine B4 ?_
 refine F0 (rC rfl (A4 rfl rfl)) (rT rfl) ?_
 (rw [f2 (by omega)]; exact P6.yes rfl (K4 _) (U3 (by omega) (by omega)))
 refine B4 ?_
 refine sB (qE rfl rfl) rfl rfl (fun h70 => ?_) (fun h70 => ?_)
 refine E4 ?_
 refine H3 rfl ((A23 _)) rfl rfl ?_
 refine B4 ?_
 refine F0 (rC rfl (A4 rfl rfl)) (rT rfl) ?_
 (rw [f3 (by omega)]; exact P6.yes rfl (A0a _) (U3 (by omega) (by omega)))
 refine B0 ?_
 refine sB (qE rfl rfl) rfl rfl (fun h95 => ?_) (fun h95 => ?_)
 refine A7 ?_
 refine H3 rfl ((A23 _)) rfl rfl ?_
 refine B4 ?_
 refine F0 (rC rfl (A4 rfl rfl)) (rT rfl) ?_
 (rw [f3 (by omega)]; exact P6.yes rfl (A0a _) (U3 (by omega) (by omega)))
 refine A7 ?_
 refine sB (qE rfl rfl) rfl rfl (fun h118 => ?_) (fun h118 => ?_)
 refine B0 ?_
 (have hl1 : ks.length = 1 := hop.2.2 (by omega); obtain ⟨b, o, e, rfl, hl, hat, hre, hgb⟩ := hsl.kidTm hkl (i := 0) (by omega) (by omega); have hMore := A96 G cx p n c nm (.mk tk tks) _ hx (by omega) hty; refine E0 E1 rfl ?_)
 refine I8 (i := 0) (l' := [tt,ff,ff,ff,ff,ff,ff,ff,ff,ff,ff,ff,ff,ff,ff,ff,ff]) rfl D2 (qM rfl) rfl (by kernel_rfl) rfl rfl ?_
 refine aP 1 rfl (B7 rfl) rfl ?_
 refine aL 2 rfl (C7 rfl rfl) rfl ?_
 refine aP 3 rfl (B7 rfl) rfl ?_
 refine aL 4 rfl (A4 rfl rfl) rfl ?_
 refine aP 6 rfl (B7 rfl) rfl ?_
 refine aL 7 rfl (C7 rfl rfl) rfl ?_
 refine aP 8 rfl (B3 (j := 0) rfl rfl rfl (by omega)) rfl ?_
 refine aL 9 rfl (A2 rfl rfl (hat _) hl) rfl ?_
 refine R2 (j := 5) (j' := 14) (by kernel_rfl) ?_ ?_
 (refine H1 rfl rfl hMore rfl rfl rfl (fun v G1 hle1 hh => ?_); obtain ⟨pm, cm, rfl, hxm⟩ := hh; have hreM := hre.mono hle1; have hLam := ih ks[0] (List.getElem_mem (by omega)) (d + 1) _ G1 pm (n + 1) cm _ (hvk 0 (by omega)) (by omega) (hcv5 (by omega)) hxm hreM; have htyM := hty.mono hle1)
 refine R2 (j := 10) (j' := 14) (by kernel_rfl) ?_ ?_
 focus (refine H1 rfl rfl hLam rfl rfl rfl (fun v G2 hle2 hh => ?_); obtain ⟨mt, mc, rfl, hmr, hma, hmu⟩ := hh; obtain ⟨p1, c1, e1, rfl, _⟩ := hmr.open; have htyN := htyM.mono hle2; rcases hE : Q6 (cx ++ [(nm, Ty.mk tk tks)]) ks[0] with _ | mt2; rotate_left; obtain rfl := hmu _ hE; rotate_left; all_goals simp only [Option.isSome])
 refine aP 11 rfl (qM rfl) rfl ?_
 refine aP 12 rfl (pX rfl rfl) rfl ?_
 refine aP 13 rfl (pX rfl rfl) rfl ?_
 refine A3 14 ?_
 (refine E6 rfl (A6 rfl) rfl rfl ?_; rintro _ ⟨b142, rfl⟩)
 refine A3 15 ?_
 refine H8 rfl ?_
 refine aP 16 rfl (qA rfl) rfl ?_
 refine A0K ?_
 refine F0 (rC rfl (A4 rfl rfl)) (rT rfl) ?_
 (rw [f4 (by omega) (by omega) (by first | exact hE | assumption)]; exact P6.no rfl (M7 _ ⟨by omega, by omega⟩) (U3 (by omega) (by omega)))
 refine aP 11 rfl (qM rfl) rfl ?_
 refine aP 12 rfl (pX rfl rfl) rfl ?_
 refine aP 13 rfl (pX rfl rfl) rfl ?_
 refine A3 14 ?_
 (refine E6 rfl (A6 rfl) rfl rfl ?_; rintro _ ⟨b173, rfl⟩)
 refine A3 15 ?_
 refine H8 rfl ?_
 refine aP 16 rfl (qA rfl) rfl ?_
 refine S6 ?_
 (refine D8 rfl (A2L 4 (.mk tk tks) _ _ _ _ (.inl rfl) hta hma htyN hmr) rfl rfl (fun v G3 hle3 hh => ?_); obtain ⟨mc2, rfl, hmr2⟩ := hh; obtain ⟨p2, c2, e2, rfl, _⟩ := hmr2.open)
 refine E4 ?_
 refine F0 (rC rfl (A4 rfl rfl)) (rT rfl) ?_
 (rw [f5 _ (by omega) (by omega) (by first | exact hE | assumption)]; exact P6.mk rfl hmr2 (A4P (.inl rfl) hta hma))
 (refine E6 rfl (A6 rfl) rfl rfl ?_; rintro _ ⟨b206, rfl⟩)
 refine A3 10 ?_
 focus (refine H1 rfl rfl hLam rfl rfl rfl (fun v G2 hle2 hh => ?_); obtain ⟨mt, mc, rfl, hmr, hma, hmu⟩ := hh; obtain ⟨p1, c1, e1, rfl, _⟩ := hmr.open; have htyN := htyM.mono hle2; rcases hE : Q6 (cx ++ [(nm, Ty.mk tk tks)]) ks[0] with _ | mt2; rotate_left; obtain rfl := hmu _ hE; rotate_left; all_goals simp only [Option.isSome])
 refine aP 11 rfl (qM rfl) rfl ?_
 refine aP 12 rfl (pX rfl rfl) rfl ?_
 refine aP 13 rfl (pX rfl rfl) rfl ?_
 refine A3 15 ?_
 refine H8 rfl ?_
 refine aP 16 rfl (qA rfl) rfl ?_
 refine A0K ?_
 refine F0 (rC rfl (A4 rfl rfl)) (rT rfl) ?_
 (rw [f4 (by omega) (by omega) (by first | exact hE | assumption)]; exact P6.no rfl (M7 _ ⟨by omega, by omega⟩) (U3 (by omega) (by omega)))
 refine aP 11 rfl (qM rfl) rfl ?_
 refine aP 12 rfl (pX rfl rfl) rfl ?_
 refine aP 13 rfl (pX rfl rfl) rfl ?_
 refine A3 15 ?_
 refine H8 rfl ?_
 refine aP 16 rfl (qA rfl) rfl ?_
 refine S6 ?_
 (refine D8 rfl (A2L 4 (.mk tk tks) _ _ _ _ (.inl rfl) hta hma htyN hmr) rfl rfl (fun v G3 hle3 hh => ?_); obtain ⟨mc2, rfl, hmr2⟩ := hh; obtain ⟨p2, c2, e2, rfl, _⟩ := hmr2.open)
 refine E4 ?_
 refine F0 (rC rfl (A4 rfl rfl)) (rT rfl) ?_
 (rw [f5 _ (by omega) (by omega) (by first | exact hE | assumption)]; exact P6.mk rfl hmr2 (A4P (.inl rfl) hta hma))
 (refine E6 rfl (A6 rfl) rfl rfl ?_; rintro _ ⟨b273, rfl⟩)
 refine A3 5 ?_
 (refine H1 rfl rfl hMore rfl rfl rfl (fun v G1 hle1 hh => ?_); obtain ⟨pm, cm, rfl, hxm⟩ := hh; have hreM := hre.mono hle1; have hLam := ih ks[0] (List.getElem_mem (by omega)) (d + 1) _ G1 pm (n + 1) cm _ (hvk 0 (by omega)) (by omega) (hcv5 (by omega)) hxm hreM; have htyM := hty.mono hle1)
 refine A3 10 ?_
 focus (refine H1 rfl rfl hLam rfl rfl rfl (fun v G2 hle2 hh => ?_); obtain ⟨mt, mc, rfl, hmr, hma, hmu⟩ := hh; obtain ⟨p1, c1, e1, rfl, _⟩ := hmr.open; have htyN := htyM.mono hle2; rcases hE : Q6 (cx ++ [(nm, Ty.mk tk tks)]) ks[0] with _ | mt2; rotate_left; obtain rfl := hmu _ hE; rotate_left; all_goals simp only [Option.isSome])
 refine aP 11 rfl (qM rfl) rfl ?_
 refine aP 12 rfl (pX rfl rfl) rfl ?_
 refine aP 13 rfl (pX rfl rfl) rfl ?_
 refine A3 15 ?_
 refine H8 rfl ?_
 refine aP 16 rfl (qA rfl) rfl ?_
 refine A0K ?_
 refine F0 (rC rfl (A4 rfl rfl)) (rT rfl) ?_
 (rw [f4 (by omega) (by omega) (by first | exact hE | assumption)]; exact P6.no rfl (M7 _ ⟨by omega, by omega⟩) (U3 (by omega) (by omega)))
 refine aP 11 rfl (qM rfl) rfl ?_
 refine aP 12 rfl (pX rfl rfl) rfl ?_
 refine aP 13 rfl (pX rfl rfl) rfl ?_
 refine A3 15 ?_
 refine H8 rfl ?_
 refine aP 16 rfl (qA rfl) rfl ?_
 refine S6 ?_
 (refine D8 rfl (A2L 4 (.mk tk tks) _ _ _ _ (.inl rfl) hta hma htyN hmr) rfl rfl (fun v G3 hle3 hh => ?_); obtain ⟨mc2, rfl, hmr2⟩ := hh; obtain ⟨p2, c2, e2, rfl, _⟩ := hmr2.open)
 refine E4 ?_
 refine F0 (rC rfl (A4 rfl rfl)) (rT rfl) ?_
 (rw [f5 _ (by omega) (by omega) (by first | exact hE | assumption)]; exact P6.mk rfl hmr2 (A4P (.inl rfl) hta hma))
 refine E4 ?_
 (refine I1 (C9 rfl rfl rfl (by omega) (by unfold maxLen; omega) rfl) rfl ?_; rintro _ ⟨b351, rfl⟩)
 refine E4 ?_
 refine B8 ?_
 (refine I2 (fun (x : Nat × Option Addr × Nat × List Ty × List (List Value) × IM) => ⟨[(9, .int .i64 x.1), (8, .slice x.2.1 x.1 x.2.2.1), (3, .pointer (some ⟨b3, 0, none⟩)), (4, .pointer (some ⟨b4, 0, none⟩)), (0, .slice p n c)], [.slc x.2.1 x.2.2.1 25 2 x.1 x.2.2.2.2.1.flatten, .blk b4 [.int .i64 0, .slice none 0 0], .blk b3 [.int .i64 k, .string nm, .int .i64 num, .int .i64 tk, .slice pt tks.length ct, .int .i64 fk, .slice pf fks.length cf, .int .i64 lb, .slice q ks.length cq]], x.2.2.2.2.2⟩) (fun x => x.1 ≤ ks.length ∧ B9 G x.2.2.2.2.2 ∧ x.2.2.2.1.length = x.1 ∧ C8 x.2.2.2.2.2 x.2.2.2.1 x.2.2.2.2.1 ∧ (∀ u ∈ x.2.2.2.1, F4 u) ∧ V9 cx (ks.take x.1) = some x.2.2.2.1) (fun x => ks.length - x.1) (0, some ⟨b351, 0, none⟩, 0, [], [], G) ?_ ?_ ?_)
 (simp only [H6]; exact D3)
 (exact ⟨by simp, B9.refl _, rfl, by simp [C8], by simp, by simp [V9]⟩)
 (rintro ⟨i, pn, cn, us, es', Gi⟩ ⟨hi, hle, hlu, hst, hau, hsu⟩; simp only [] at hi hle hlu hst hau hsu ⊢; replace hsl := hsl.mono hle; replace hkl := hkl.mono hle; replace hx := hx.mono hle; replace hr0 := hr0.mono hle)
 refine B4 ?_
 refine sB (I0 rfl rfl) rfl rfl (fun h373 => ?_) (fun h373 => ?_)
 refine A7 ?_
 refine B8 ?_
 refine A7 ?_
 (obtain ⟨b, o, e, rfl, hl, hat, hre, hgb⟩ := hsl.kidTm hkl (i := i) (by omega) (by omega); refine sP (B3 rfl rfl rfl (by omega)) rfl rfl ?_)
 refine sL (A2 rfl rfl (hat _) hl) rfl rfl ?_
 focus (refine D8 rfl (ih ks[i] (List.getElem_mem (by omega)) (d + 1) cx Gi p n c _ (hvk i (by omega)) (by omega) hcv hx hre) rfl rfl (fun v G2 hle2 hh => ?_); obtain ⟨u, uc, rfl, hru, hua, huu⟩ := hh; obtain ⟨p3, c3, e3, rfl, _⟩ := hru.open; rcases hE : Q6 cx ks[i] with _ | u2; rotate_left; obtain rfl := huu _ hE; rotate_left; all_goals simp only [Option.isSome])
 refine E3 ?_
 refine sE (A6 rfl) rfl (fun b393 => ?_)
 refine A4p ?_
 refine F0 (rC rfl (A4 rfl rfl)) (rT rfl) ?_
 (rw [f6 (by omega) (A98 (by omega) hE)]; exact P6.no rfl (M7 _ ⟨by omega, by omega⟩) (U3 (by omega) (by omega)))
 refine E3 ?_
 refine sE (A6 rfl) rfl (fun b425 => ?_)
 refine S6 ?_
 (refine I1 (C9 rfl rfl rfl (by omega) (by unfold maxLen; omega) rfl) rfl ?_; rintro _ ⟨b443, rfl⟩)
 refine X4 rfl rfl rfl rfl rfl (fun _ _ => by repeat (first | exact Sw.here | apply Sw.there)) (M6 (by repeat first | exact mH | apply mT)) rfl (by simp [Value.oneCell']) (by unfold maxLen; omega) (by omega) rfl (fun pn' cn' => ?_)
 refine A7 ?_
 refine sP (H2 rfl rfl (by omega) (by omega)) rfl rfl ?_
 refine D7 ?_
 refine H9 (i + 1, pn', cn', us ++ [u2], es' ++ [[.int .i64 u2.k, .slice p3 u2.ks.length c3]], G2) ?_ ?_ ?_
 (simp only [H6]; exact D3)
 (dsimp only; exact ⟨by omega, hle.trans hle2, by simp [hlu], C8.snoc (hst.mono hle2) hru, A24 hau hua, A97 (by omega) hsu hE⟩)
 (show ks.length - (i + 1) < ks.length - i; omega)
 refine K8 ?_
 (obtain rfl : i = ks.length := (by omega); rw [List.take_length] at hsu; refine R6 (cs := es'.flatten) (by repeat (first | exact Pk.here | apply Pk.there)) (fun G3 hle3 hsl3 hno3 => ?_); have hst3 := hst.mono hle3; have hRes := B4H cx k nm num (.mk tk tks) (.mk fk fks) lb ks us G3 _ pn cn es' (by rw [hlu]; exact har) (by omega) hta (hr0.mono hle3) (by rw [hlu]; exact D1.of hsl3 (by rw [hst3.len, hlu]) hst3.all (fun e he => (hst3.each e he).2)) hst3 hau; rw [hlu] at hRes; refine D8 rfl hRes rfl rfl (fun v G4 hle4 hh => ?_); obtain ⟨mt, mc, rfl, hmr, hma, hmu⟩ := hh; obtain ⟨p1, c1, e1, rfl, _⟩ := hmr.open)
 refine B4 ?_
 refine F0 (rC rfl (A4 rfl rfl)) (rT rfl) ?_
 (rw [f7 us (by omega) hsu]; exact ⟨rfl, _, _, rfl, hmr, hma, hmu⟩)
theorem B4T {e : Tm} (h : N8 e = true) : O0 e = Q6 [] e := by
 have hs := ((Z8 e).1 h).1
 obtain ⟨h1, h2⟩ := A2E e 1 [] 0 hs A2D
 unfold O0
 cases hE : M0 [] e 0 with
 | none => rw [A6H h hE, h2 hE]
 | some r =>
  obtain ⟨u, a, l⟩ := r
  rw [A6I h hE, (h1 u a l hE).1]
theorem B4U {e u : Tm} {t : Ty} (h : S1 e = some (u, t)) : N8 e = true ∧ ∃ l, M0 [] e 0 = some (u, t, l) := by
 unfold S1 at h
 split at h
 ·rename_i hv
  refine ⟨hv, ?_⟩
  split at h
  ·rename_i u' t' l' he; cases h; exact ⟨l', he⟩
  ·cases h
 ·cases h
def A6P (t : Ty) (x : Bool) (G : IM) : IM → Value → List A5 → Prop := J4 fun G' v => ∃ cells, v = .tuple ⟨[.agg ⟨cells⟩, .bool x]⟩ ∧ C1 G' (if x = true then t else B2) cells
theorem B4V (t : Ty) (G : IM) (cells : List Value) (hr : C1 G t cells) : Fn Tryz.prog 194 [.agg ⟨cells⟩, .bool true] [] G (A6P t true G) := by
 obtain ⟨p, c, e, rfl, _⟩ := hr.open
 refine C0 Tryz.func194 rfl Tryz.ntmps194 Tryz.results194 rfl ?_
 intro w0
 refine tS (tR ?_)
 refine sE (C5 rfl rfl) rfl (fun b3 => ?_)
 refine sE (A6 rfl) rfl (fun b4 => ?_)
 refine A0K ?_
 refine F0 (rC rfl (A4 rfl rfl)) (rT rfl) ?_
 (exact ⟨rfl, _, rfl, hr⟩)
theorem B4W (t : Ty) (G : IM) (cells : List Value) (hr : C1 G t cells) : Fn Tryz.prog 194 [.agg ⟨cells⟩, .bool false] [] G (A6P t false G) := by
 obtain ⟨p, c, e, rfl, _⟩ := hr.open
 refine C0 Tryz.func194 rfl Tryz.ntmps194 Tryz.results194 rfl ?_
 intro w0
 refine tS (tR ?_)
 refine sE (C5 rfl rfl) rfl (fun b3 => ?_)
 refine sE (A6 rfl) rfl (fun b4 => ?_)
 refine A0n ?_
 refine F0 (rC rfl (A4 rfl rfl)) (rT rfl) ?_
 (exact ⟨rfl, _, rfl, M7 _ ⟨by omega, by omega⟩⟩)
theorem B4X (t : Ty) (x : Bool) (G : IM) (cells : List Value) (hr : C1 G t cells) : Fn Tryz.prog 194 [.agg ⟨cells⟩, .bool x] [] G (A6P t x G) := by
 cases x
 ·exact B4W t G cells hr
 ·exact B4V t G cells hr
theorem X7.sure {o : Option Ty} {t : Ty} {G G' : IM} {cells : List Value} (h : ∀ u, o = some u → u = t) (hr : C1 G' (if o.isSome = true then t else B2) cells) : X7 o G G' (.tuple ⟨[.agg ⟨cells⟩, .bool o.isSome]⟩) [] := by
 cases o with
 | none => exact ⟨rfl, cells, B2, rfl, hr, by simp⟩
 | some u => exact ⟨rfl, cells, t, rfl, hr, fun x hx => by cases hx; exact (h _ rfl).symm⟩
theorem B4Y (e : Tm) (G : IM) (cells : List Value) (hcnt : D0 e ≤ 4294967296) (hr : A8 G e cells) :
  Fn Tryz.prog 140 [.slice none 0 0, .agg ⟨cells⟩] [] G (X7 (O0 e) G) := by
 have hl := hr.len
 have hone := hr.one
 have hw := A4K e G cells hcnt hr
 have hT := fun h : N8 e = true => A99 e 1 [] G none 0 0 cells ((Z8 e).1 h).1 (by omega) A2D (S0.nil G) hr
 have hts := fun h => @B4T e h
 have hno := @A9K e
 refine C0 Tryz.func140 rfl Tryz.ntmps140 Tryz.results140 rfl ?_
 intro w0
 refine tS (tR ?_)
 refine sE (C5 rfl rfl) rfl (fun b3 => ?_)
 refine sE (A6 rfl) rfl (fun b4 => ?_)
 refine B4 ?_
 refine H3 rfl ((B2N _)) rfl rfl ?_
 refine D7 ?_
 refine sL (A2 rfl rfl (A9 (by repeat first | exact mH | apply mT)) (by assumption)) rfl rfl ?_
 refine H4 rfl (hw) rfl rfl (fun h16 => ?_) (fun h16 => ?_)
 refine J5 ?_
 refine sL (A2 rfl rfl (A9 (by repeat first | exact mH | apply mT)) (by assumption)) rfl rfl ?_
 (refine D8 rfl (hT (by assumption)) rfl rfl (fun v G1 hle1 hh => ?_); obtain ⟨mt, mc, rfl, hmr, hma, hmu⟩ := hh; obtain ⟨p1, c1, e1, rfl, _⟩ := hmr.open; have hmo := hts (by assumption))
 refine D7 ?_
 (refine D8 rfl (B4X mt _ _ _ hmr) rfl rfl (fun v G2 hle2 hh => ?_); obtain ⟨mc2, rfl, hmr2⟩ := hh; obtain ⟨p2, c2, e2, rfl, _⟩ := hmr2.open)
 refine B4 ?_
 refine F0 (rC rfl (A4 rfl rfl)) (rT rfl) ?_
 (rw [hmo]; exact X7.sure hmu hmr2)
 refine K5 ?_
 refine F0 (rC rfl (A4 rfl rfl)) (rT rfl) ?_
 (exact X7.no (u := B2) (M7 _ ⟨by omega, by omega⟩) rfl (hno (by assumption)))
theorem A6Q (e : Tm) (G : IM) (cells : List Value) (hcnt : D0 e ≤ 4294967296) (hr : A8 G e cells) :
  Fn Tryz.prog 99 [.agg ⟨cells⟩] [] G (X7 (O0 e) G) := by
 have hl := hr.len
 have hone := hr.one
 refine C0 Tryz.func99 rfl Tryz.ntmps99 Tryz.results99 rfl ?_
 intro w0
 refine tS (tR ?_)
 refine sE (C5 rfl rfl) rfl (fun b3 => ?_)
 refine sE (A6 rfl) rfl (fun b4 => ?_)
 refine B0 ?_
 refine sL (A2 rfl rfl (A9 (by repeat first | exact mH | apply mT)) (by assumption)) rfl rfl ?_
 (refine D8 rfl (B4Y e G cells hcnt hr) rfl rfl (fun v G1 hle1 hh => ?_); obtain ⟨cu, u, rfl, hru, hu⟩ := hh; obtain ⟨p1, c1, e1, rfl, _⟩ := hru.open)
 refine B4 ?_
 refine F0 (rC rfl (A4 rfl rfl)) (rT rfl) ?_
 (exact ⟨rfl, _, u, rfl, hru, hu⟩)
def A1T (e : Tm) (a b : Ty) (l : Int) : IM → Value → List A5 → Prop := J4 fun G' v => ∃ cells, v = .tuple ⟨[.agg ⟨cells⟩, .int .i64 (if N0 a b = true then l else l + 1)]⟩ ∧ A8 G' (if N0 a b = true then e else L3 e a b l) cells
theorem A1T.yes {G : IM} {e : Tm} {a b : Ty} {l : Int} {cells : List Value} (h : N0 a b = true) (hr : A8 G e cells) : A1T e a b l G (.tuple ⟨[.agg ⟨cells⟩, .int .i64 l]⟩) [] := ⟨rfl, cells, by rw [if_pos h], by rw [if_pos h]; exact hr⟩
theorem A1T.no {G : IM} {e : Tm} {a b : Ty} {l : Int} {cells : List Value} (h : N0 a b = false) (hr : A8 G (L3 e a b l) cells) : A1T e a b l G (.tuple ⟨[.agg ⟨cells⟩, .int .i64 (l + 1)]⟩) [] := ⟨rfl, cells, by rw [if_neg (by rw [h]; decide)], by rw [if_neg (by rw [h]; decide)]; exact hr⟩
theorem B4Z (e : Tm) (a b : Ty) (label : Int) (G : IM) (ce ca cb : List Value) (hlab : -1099511627776 ≤ label ∧ label ≤ 1099511627776) (hr : A8 G e ce) (hra : C1 G a ca) (hrb : C1 G b cb) (hsa : a.small) (hsb : b.small) :
  Fn Tryz.prog 148 [.agg ⟨ce⟩, .agg ⟨ca⟩, .agg ⟨cb⟩, .int .i64 label] [] G (A1T e a b label) := by
 have hl := hr.len
 have hone := hr.one
 obtain ⟨hlab1, hlab2⟩ := hlab
 have hSame := A95 a b G ca cb hra hrb
 obtain ⟨ak, aks⟩ := a
 obtain ⟨bk, bks⟩ := b
 obtain ⟨pa, cca, ea, rfl, _⟩ := hra.open
 obtain ⟨pb, ccb, eb, rfl, _⟩ := hrb.open
 simp only [Ty.k, Ty.ks] at hra hrb hSame ⊢
 obtain ⟨v1, v2, v3, v4, v5, v6, v7, v8, v9, rfl⟩ := nine hl
 refine C0 Tryz.func148 rfl Tryz.ntmps148 Tryz.results148 rfl ?_
 intro w0
 refine tS (tR ?_)
 refine sE (C5 rfl rfl) rfl (fun b3 => ?_)
 refine sE (C5 rfl rfl) rfl (fun b4 => ?_)
 refine sE (C5 rfl rfl) rfl (fun b5 => ?_)
 refine sE (A6 rfl) rfl (fun b6 => ?_)
 refine D6 ?_
 refine H4 rfl (hSame) rfl rfl (fun h15 => ?_) (fun h15 => ?_)
 refine B0 ?_
 refine sL (A2 rfl rfl (A9 (by repeat first | exact mH | apply mT)) hl) rfl rfl ?_
 refine sQ (qM rfl) rfl ?_
 refine sS rfl rfl rfl hl hone rfl ?_ (hu := by exact D5 hl.symm)
 refine B0 ?_
 refine F0 (rC rfl (A2 rfl rfl (A9 (by repeat first | exact mH | apply mT)) hl)) (rT rfl) ?_
 (exact A1T.yes (by assumption) hr)
 refine A7 ?_
 refine E0 E1 rfl ?_
 refine L7 (i := 5) (l' := [ff,ff,ff,ff,ff,tt,ff,ff,ff,ff,ff,ff]) rfl D2 (A2 rfl rfl (A9 (by repeat first | exact mH | apply mT)) hl) rfl (by kernel_rfl) rfl rfl ?_
 refine aL 0 rfl (A4 rfl rfl) rfl ?_
 refine aL 2 rfl (A4 rfl rfl) rfl ?_
 refine aP 4 rfl (qM rfl) rfl ?_
 refine aP 8 rfl (qM rfl) rfl ?_
 refine aP 9 rfl (H2 rfl rfl (by omega) (by omega)) rfl ?_
 refine R2 (j := 1) (j' := 6) (by kernel_rfl) ?_ ?_
 (refine H1 rfl rfl (P9 _ _ _ hsa hra) rfl rfl rfl (fun v G1 hle1 hh => ?_); obtain ⟨cs1, F1, rfl, hs1, hn1⟩ := hh; obtain ⟨p1, c1, rfl, _⟩ := hs1.open; have hC2 := P9 _ G1 _ hsb (hrb.mono hle1))
 refine R2 (j := 3) (j' := 6) (by kernel_rfl) ?_ ?_
 (refine H1 rfl rfl hC2 rfl rfl rfl (fun v G2 hle2 hh => ?_); obtain ⟨cs2, F2, rfl, hs2, hn2⟩ := hh; obtain ⟨p2, c2, rfl, _⟩ := hs2.open; have hr1 := hs1.R.mono ((C4.le G1 _).trans hle2); have hr2 := hs2.R.mono (C4.le G2 G1); have hre := hr.mono (hle1.trans hle2))
 refine A3 6 ?_
 (refine E6 rfl (C9 rfl rfl rfl (by omega) (by unfold maxLen; omega) rfl) rfl rfl ?_; rintro _ ⟨b49, rfl⟩)
 refine aP 7 rfl (W4 rfl rfl) rfl ?_
 refine A3 10 ?_
 refine H8 rfl ?_
 refine aP 11 rfl (qA rfl) rfl ?_
 refine E8 (nS ?_)
 (refine E9 (cs := [v1, v2, v3, v4, v5, v6, v7, v8, v9]) (by repeat (first | exact Pk.here | apply Pk.there)) (fun G5 hle5 hsl5 hno5 => ?_); obtain ⟨hone1, hone2⟩ := A2x (hre.mono hle5) hsl5)
 refine tT ?_
 refine F0 (rC rfl (A4 rfl rfl)) (rT rfl) ?_
 (exact A1T.no (by assumption) (A8.of9 (ks := [e]) ⟨by omega, by omega⟩ ⟨by omega, by omega⟩ ⟨by omega, by omega⟩ (hr2.mono hle5) (hr1.mono hle5) hone1 hone2))
 (refine E6 rfl (C9 rfl rfl rfl (by omega) (by unfold maxLen; omega) rfl) rfl rfl ?_; rintro _ ⟨b60, rfl⟩)
 refine A3 3 ?_
 (refine H1 rfl rfl hC2 rfl rfl rfl (fun v G2 hle2 hh => ?_); obtain ⟨cs2, F2, rfl, hs2, hn2⟩ := hh; obtain ⟨p2, c2, rfl, _⟩ := hs2.open; have hr1 := hs1.R.mono ((C4.le G1 _).trans hle2); have hr2 := hs2.R.mono (C4.le G2 G1); have hre := hr.mono (hle1.trans hle2))
 refine aP 7 rfl (W4 rfl rfl) rfl ?_
 refine A3 10 ?_
 refine H8 rfl ?_
 refine aP 11 rfl (qA rfl) rfl ?_
 refine E8 (nS ?_)
 (refine E9 (cs := [v1, v2, v3, v4, v5, v6, v7, v8, v9]) (by repeat (first | exact Pk.here | apply Pk.there)) (fun G5 hle5 hsl5 hno5 => ?_); obtain ⟨hone1, hone2⟩ := A2x (hre.mono hle5) hsl5)
 refine tT ?_
 refine F0 (rC rfl (A4 rfl rfl)) (rT rfl) ?_
 (exact A1T.no (by assumption) (A8.of9 (ks := [e]) ⟨by omega, by omega⟩ ⟨by omega, by omega⟩ ⟨by omega, by omega⟩ (hr2.mono hle5) (hr1.mono hle5) hone1 hone2))
 (refine E6 rfl (C9 rfl rfl rfl (by omega) (by unfold maxLen; omega) rfl) rfl rfl ?_; rintro _ ⟨b73, rfl⟩)
 refine A3 1 ?_
 (refine H1 rfl rfl (P9 _ _ _ hsa hra) rfl rfl rfl (fun v G1 hle1 hh => ?_); obtain ⟨cs1, F1, rfl, hs1, hn1⟩ := hh; obtain ⟨p1, c1, rfl, _⟩ := hs1.open; have hC2 := P9 _ G1 _ hsb (hrb.mono hle1))
 refine A3 3 ?_
 (refine H1 rfl rfl hC2 rfl rfl rfl (fun v G2 hle2 hh => ?_); obtain ⟨cs2, F2, rfl, hs2, hn2⟩ := hh; obtain ⟨p2, c2, rfl, _⟩ := hs2.open; have hr1 := hs1.R.mono ((C4.le G1 _).trans hle2); have hr2 := hs2.R.mono (C4.le G2 G1); have hre := hr.mono (hle1.trans hle2))
 refine aP 7 rfl (W4 rfl rfl) rfl ?_
 refine A3 10 ?_
 refine H8 rfl ?_
 refine aP 11 rfl (qA rfl) rfl ?_
 refine E8 (nS ?_)
 (refine E9 (cs := [v1, v2, v3, v4, v5, v6, v7, v8, v9]) (by repeat (first | exact Pk.here | apply Pk.there)) (fun G5 hle5 hsl5 hno5 => ?_); obtain ⟨hone1, hone2⟩ := A2x (hre.mono hle5) hsl5)
 refine tT ?_
 refine F0 (rC rfl (A4 rfl rfl)) (rT rfl) ?_
 (exact A1T.no (by assumption) (A8.of9 (ks := [e]) ⟨by omega, by omega⟩ ⟨by omega, by omega⟩ ⟨by omega, by omega⟩ (hr2.mono hle5) (hr1.mono hle5) hone1 hone2))
def T2 (w ts : List Ty) : List Ty := if w = [] then ts else w
theorem A37 {a : Ty} {w ts : List Ty} : T2 (a :: w) ts = a :: w := by unfold T2; rw [if_neg (by simp)]
def X0 (ws : List Ty) (n : Nat) (G : IM) : IM → Value → List A5 → Prop := J4 fun G' v => ∃ p c es, v = .slice p n c ∧ ws.length = n ∧ D1 G' p n c 2 es ∧ C8 G' ws es
theorem X0.mk {G G' : IM} {p : Option Addr} {n c : Nat} {ws ws' : List Ty} {es : List (List Value)} (he : ws = ws') (hl : ws'.length = n) (hs : Sl G' p n c 2 es.flatten) (hst : C8 G' ws' es) : X0 ws n G G' (.slice p n c) [] := by
 subst he
 exact ⟨rfl, p, c, es, rfl, hl, D1.of hs (by rw [hst.len, hl]) hst.all (fun e he => (hst.each e he).2), hst⟩
theorem X0.mk1 {G G' : IM} {p : Option Addr} {n c : Nat} {ws : List Ty} {a : Ty} {ca : List Value} (he : ws = [a]) (hn : n = 1) (hs : Sl G' p 1 c 2 ca) (ha : C1 G' a ca) : X0 ws n G G' (.slice p 1 c) [] := by
 subst hn
 exact X0.mk (ws' := [a]) (es := [ca]) he rfl (by simpa using hs) ⟨_, _, rfl, ha, rfl⟩
theorem X0.mk2 {G G' : IM} {p : Option Addr} {n c : Nat} {ws : List Ty} {a b : Ty} {ca cb : List Value} (he : ws = [a, b]) (hn : n = 2) (hs : Sl G' p 2 c 2 (ca ++ cb)) (ha : C1 G' a ca) (hb : C1 G' b cb) : X0 ws n G G' (.slice p 2 c) [] := by
 subst hn
 exact X0.mk (ws' := [a, b]) (es := [ca, cb]) he rfl (by simpa using hs) ⟨_, _, rfl, ha, _, _, rfl, hb, rfl⟩
theorem X0.mk3 {G G' : IM} {p : Option Addr} {n c : Nat} {ws : List Ty} {a b d : Ty} {ca cb cd : List Value} (he : ws = [a, b, d]) (hn : n = 3) (hs : Sl G' p 3 c 2 (ca ++ (cb ++ cd))) (ha : C1 G' a ca) (hb : C1 G' b cb) (hd : C1 G' d cd) : X0 ws n G G' (.slice p 3 c) [] := by
 subst hn
 exact X0.mk (ws' := [a, b, d]) (es := [ca, cb, cd]) he rfl (by simpa using hs) ⟨_, _, rfl, ha, _, _, rfl, hb, _, _, rfl, hd, rfl⟩
section
variable {cx : Cx} {k : Int} {nm : ByteArray} {ty : Ty} {ts w : List Ty} {t : Ty}
theorem wo6 (hk : k = 6) (h : L8 cx k nm ty ts = some (w, t)) (hl : 0 < ts.length) : ∃ a b, R0 4 ts[0] = some (a, b) ∧ T2 w ts = [.mk 4 [a, b], a] := by
 subst hk
 rw [mW6, gD hl] at h
 split at h
 ·rename_i a b hm
  split at h
  ·cases h; exact ⟨a, _, hm, A37⟩
  ·cases h
 ·cases h
theorem B40 (hk : k = 7 ∨ k = 8) (h : L8 cx k nm ty ts = some (w, t)) : T2 w ts = [S8, S8] := by
 rw [V8 hk] at h
 split at h
 ·cases h; exact A37
 ·cases h
theorem wo9 (hk : k = 9) (h : L8 cx k nm ty ts = some (w, t)) : T2 w ts = [W5, t, t] := by
 subst hk
 rw [mW9] at h
 split at h
 ·cases h; exact A37
 ·cases h
theorem B41 (hk : k = 11 ∨ k = 12) (h : L8 cx k nm ty ts = some (w, t)) (hl : 0 < ts.length) : ∃ a b, R0 5 ts[0] = some (a, b) ∧ T2 w ts = [.mk 5 [a, b]] := by
 rw [A3b hk, gD hl] at h
 split at h
 ·rename_i a b hm; cases h; exact ⟨a, b, hm, A37⟩
 ·cases h
theorem B42 (hk : k = 13) (h : L8 cx k nm ty ts = some (w, t)) : T2 w ts = [t] := by
 subst hk
 rw [A2C] at h
 split at h
 ·cases h; exact A37
 ·cases h
theorem wo0 (hk : 1 ≤ k ∧ k ≤ 5 ∨ k = 10) (h : L8 cx k nm ty ts = some (w, t)) : T2 w ts = ts := by
 have : w = [] := by
  have hk' : k = 1 ∨ k = 2 ∨ (k = 3 ∨ k = 4) ∨ k = 5 ∨ k = 10 := by omega
  rcases hk' with rfl | rfl | hk | rfl | rfl
  ·rw [mW1] at h; split at h <;> cases h; rfl
  ·rw [mW2] at h; cases h; rfl
  ·rw [A3P hk] at h; cases h; rfl
  ·rw [mW5] at h; cases h; rfl
  ·rw [A4W] at h; cases h; rfl
 subst this; rfl
end
theorem B43 (cx : Cx) (k : Int) (nm : ByteArray) (num : Int) (ty fr : Ty) (lb : Int) (ks : List Tm) (ts w : List Ty) (t : Ty) (G : IM) (cells tcells : List Value) (p : Option Addr) (c : Nat) (es : List (List Value))
  (hw : L8 cx k nm ty ts = some (w, t)) (hk14 : k ≠ 14) (hops : E2 k = ts.length) (hr : A8 G (.mk k nm num ty fr lb ks) cells) (hsl : D1 G p ts.length c 2 es) (hkl : C8 G ts es) (har : ∀ t ∈ ts, F4 t) (hrt : C1 G t tcells) :
  Fn Tryz.prog 147 [.agg ⟨cells⟩, .slice p ts.length c, .agg ⟨tcells⟩] [] G (X0 (T2 w ts) ts.length G) := by
 have hone := hr.one
 have hop := A25 hops
 have hkr : 1 ≤ k ∧ k ≤ 14 := A3X (by rw [hops]; omega)
 have ha0 := fun h : 0 < ts.length => har _ (List.getElem_mem h)
 obtain ⟨tyk, tyks⟩ := ty
 obtain ⟨fk, fks⟩ := fr
 obtain ⟨tk, tks⟩ := t
 obtain ⟨q9, d9, e9, rfl, _⟩ := hrt.open
 obtain ⟨pt, ct, pf, cf, pk, ck, ek, rfl, hk, hnum, hlb, hrty, hrfr, _, _⟩ := hr.open9
 have o6 := fun h hl => wo6 h hw hl
 have o78 := fun h => B40 h hw
 have o9 := fun h => wo9 h hw
 have o11 := fun h hl => B41 h hw hl
 have o13 := fun h => B42 h hw
 have o0 := fun h => wo0 h hw
 refine C0 Tryz.func147 rfl Tryz.ntmps147 Tryz.results147 rfl ?_
 intro w0
 refine tS (tR ?_)
 refine sE (C5 rfl rfl) rfl (fun b3 => ?_)
 refine sE (C5 rfl rfl) rfl (fun b4 => ?_)
 refine J5 ?_
 refine B8 (tS (tR (sB (qE rfl rfl) rfl rfl (fun h18 => ?_) (fun h18 => ?_))))
 refine B4 ?_
 (have hl2 : ts.length = 2 := hop.1 (by omega); obtain ⟨b0, o0', q0, d0, hp0, hat0, hre0, hg0⟩ := hsl.kidTy hkl (i := 0) (by omega) (by omega); cases hp0; refine sP (B3 (j := 0) rfl rfl rfl (by omega)) rfl rfl ?_)
 refine sL (A2 rfl rfl (hat0 _) rfl) rfl rfl ?_
 (obtain ⟨ma', mb', hm, hwo⟩ := o6 (by omega) (by omega); refine D8 rfl (A3k 4 ts[0] G _ (.inl rfl) (ha0 (by omega)) hre0) rfl rfl (fun v G1 hle1 hh => ?_); obtain ⟨ma, mca, mb, mcb, rfl, hma, hmb, hma2, hmb2, hpp⟩ := hh; have hpe := hpp _ hm; simp only [Prod.mk.injEq] at hpe; obtain ⟨rfl, rfl⟩ := hpe; obtain ⟨p1, c1, e1, rfl, _⟩ := hma.open; obtain ⟨p2, c2, e2, rfl, _⟩ := hmb.open; have hTwo := A2L 4 _ _ G1 _ _ (.inl rfl) hma2 hmb2 hma hmb)
 refine B6 ?_
 refine sE (A6 rfl) rfl (fun b33 => ?_)
 refine sE (A6 rfl) rfl (fun b34 => ?_)
 refine E4 ?_
 (refine D8 rfl hTwo rfl rfl (fun v G2 hle2 hh => ?_); obtain ⟨mc, rfl, hmr⟩ := hh; obtain ⟨p3, c3, e3, rfl, _⟩ := hmr.open; have hma4 := hma.mono hle2)
 refine E3 ?_
 refine sE (A6 rfl) rfl (fun b48 => ?_)
 refine D6 ?_
 (refine I1 (C9 rfl rfl rfl (by omega) (by unfold maxLen; omega) rfl) rfl ?_; rintro _ ⟨b57, rfl⟩)
 refine E3 ?_
 (refine E9 (by repeat (first | exact Pk.here | apply Pk.there)) (fun G5 hle5 hsl5 hno5 => ?_))
 refine B6 ?_
 (exact X0.mk2 hwo (hop.1 (by omega)) hsl5 (hmr.mono hle5) (hma4.mono hle5))
 refine B4 ?_
 refine sB (qE rfl rfl) rfl rfl (fun h74 => ?_) (fun h74 => ?_)
 refine E4 ?_
 refine H3 rfl ((A0B _)) rfl rfl ?_
 refine H3 rfl ((A0B _)) rfl rfl ?_
 (refine I1 (C9 rfl rfl rfl (by omega) (by unfold maxLen; omega) rfl) rfl ?_; rintro _ ⟨b86, rfl⟩)
 refine E3 ?_
 (refine E9 (by repeat (first | exact Pk.here | apply Pk.there)) (fun G5 hle5 hsl5 hno5 => ?_))
 refine B6 ?_
 (exact X0.mk2 (o78 (by omega)) (hop.1 (by omega)) hsl5 (K4 _) (K4 _))
 refine B0 ?_
 refine sB (qE rfl rfl) rfl rfl (fun h101 => ?_) (fun h101 => ?_)
 refine A7 ?_
 refine H3 rfl ((A0B _)) rfl rfl ?_
 refine H3 rfl ((A0B _)) rfl rfl ?_
 (refine I1 (C9 rfl rfl rfl (by omega) (by unfold maxLen; omega) rfl) rfl ?_; rintro _ ⟨b110, rfl⟩)
 refine E3 ?_
 (refine E9 (by repeat (first | exact Pk.here | apply Pk.there)) (fun G5 hle5 hsl5 hno5 => ?_))
 refine B6 ?_
 (exact X0.mk2 (o78 (by omega)) (hop.1 (by omega)) hsl5 (K4 _) (K4 _))
 refine A7 ?_
 refine sB (qE rfl rfl) rfl rfl (fun h126 => ?_) (fun h126 => ?_)
 refine B0 ?_
 refine E0 E1 rfl ?_
 refine L7 (i := 1) (l' := [ff,tt,ff,ff,ff]) rfl D2 (A4 rfl rfl) rfl (by kernel_rfl) rfl rfl ?_
 refine aL 2 rfl (A4 rfl rfl) rfl ?_
 refine A3 0 ?_
 refine O2 rfl rfl ((A23 _)) rfl rfl rfl ?_
 refine A3 3 ?_
 (refine E6 rfl (C9 rfl rfl rfl (by omega) (by unfold maxLen; omega) rfl) rfl rfl ?_; rintro _ ⟨b138, rfl⟩)
 refine aP 4 rfl (qA rfl) rfl ?_
 refine E8 (nS ?_)
 (refine E9 (by repeat (first | exact Pk.here | apply Pk.there)) (fun G5 hle5 hsl5 hno5 => ?_))
 refine B6 ?_
 (exact X0.mk3 (o9 (by omega)) (hop.2.1 (by omega)) hsl5 (A0a _) (hrt.mono hle5) (hrt.mono hle5))
 refine B4 ?_
 refine sB (qE rfl rfl) rfl rfl (fun h155 => ?_) (fun h155 => ?_)
 refine J5 ?_
 (have hl1 : ts.length = 1 := hop.2.2 (by omega); obtain ⟨b0, o0', q0, d0, hp0, hat0, hre0, hg0⟩ := hsl.kidTy hkl (i := 0) (by omega) (by omega); cases hp0; refine sP (B3 (j := 0) rfl rfl rfl (by omega)) rfl rfl ?_)
 refine sL (A2 rfl rfl (hat0 _) rfl) rfl rfl ?_
 (obtain ⟨ma', mb', hm, hwo⟩ := o11 (by omega) (by omega); refine D8 rfl (A3k 5 ts[0] G _ (.inr rfl) (ha0 (by omega)) hre0) rfl rfl (fun v G1 hle1 hh => ?_); obtain ⟨ma, mca, mb, mcb, rfl, hma, hmb, hma2, hmb2, hpp⟩ := hh; have hpe := hpp _ hm; simp only [Prod.mk.injEq] at hpe; obtain ⟨rfl, rfl⟩ := hpe; obtain ⟨p1, c1, e1, rfl, _⟩ := hma.open; obtain ⟨p2, c2, e2, rfl, _⟩ := hmb.open; have hTwo := A2L 5 _ _ G1 _ _ (.inr rfl) hma2 hmb2 hma hmb)
 refine B6 ?_
 refine sE (A6 rfl) rfl (fun b173 => ?_)
 refine sE (A6 rfl) rfl (fun b174 => ?_)
 refine E4 ?_
 (refine D8 rfl hTwo rfl rfl (fun v G2 hle2 hh => ?_); obtain ⟨mc, rfl, hmr⟩ := hh; obtain ⟨p3, c3, e3, rfl, _⟩ := hmr.open; have hma4 := hma.mono hle2)
 refine E3 ?_
 refine sE (A6 rfl) rfl (fun b188 => ?_)
 refine B4 ?_
 (refine I1 (C9 rfl rfl rfl (by omega) (by unfold maxLen; omega) rfl) rfl ?_; rintro _ ⟨b196, rfl⟩)
 refine E3 ?_
 (refine E9 (by repeat (first | exact Pk.here | apply Pk.there)) (fun G5 hle5 hsl5 hno5 => ?_))
 refine B6 ?_
 (exact X0.mk1 hwo (hop.2.2 (by omega)) hsl5 (hmr.mono hle5))
 refine B0 ?_
 refine sB (qE rfl rfl) rfl rfl (fun h211 => ?_) (fun h211 => ?_)
 refine B4 ?_
 (have hl1 : ts.length = 1 := hop.2.2 (by omega); obtain ⟨b0, o0', q0, d0, hp0, hat0, hre0, hg0⟩ := hsl.kidTy hkl (i := 0) (by omega) (by omega); cases hp0; refine sP (B3 (j := 0) rfl rfl rfl (by omega)) rfl rfl ?_)
 refine sL (A2 rfl rfl (hat0 _) rfl) rfl rfl ?_
 (obtain ⟨ma', mb', hm, hwo⟩ := o11 (by omega) (by omega); refine D8 rfl (A3k 5 ts[0] G _ (.inr rfl) (ha0 (by omega)) hre0) rfl rfl (fun v G1 hle1 hh => ?_); obtain ⟨ma, mca, mb, mcb, rfl, hma, hmb, hma2, hmb2, hpp⟩ := hh; have hpe := hpp _ hm; simp only [Prod.mk.injEq] at hpe; obtain ⟨rfl, rfl⟩ := hpe; obtain ⟨p1, c1, e1, rfl, _⟩ := hma.open; obtain ⟨p2, c2, e2, rfl, _⟩ := hmb.open; have hTwo := A2L 5 _ _ G1 _ _ (.inr rfl) hma2 hmb2 hma hmb)
 refine B6 ?_
 refine sE (A6 rfl) rfl (fun b226 => ?_)
 refine sE (A6 rfl) rfl (fun b227 => ?_)
 refine E4 ?_
 (refine D8 rfl hTwo rfl rfl (fun v G2 hle2 hh => ?_); obtain ⟨mc, rfl, hmr⟩ := hh; obtain ⟨p3, c3, e3, rfl, _⟩ := hmr.open; have hma4 := hma.mono hle2)
 refine E3 ?_
 refine sE (A6 rfl) rfl (fun b241 => ?_)
 refine B4 ?_
 (refine I1 (C9 rfl rfl rfl (by omega) (by unfold maxLen; omega) rfl) rfl ?_; rintro _ ⟨b249, rfl⟩)
 refine E3 ?_
 (refine E9 (by repeat (first | exact Pk.here | apply Pk.there)) (fun G5 hle5 hsl5 hno5 => ?_))
 refine B6 ?_
 (exact X0.mk1 hwo (hop.2.2 (by omega)) hsl5 (hmr.mono hle5))
 refine A7 ?_
 refine sB (qE rfl rfl) rfl rfl (fun h265 => ?_) (fun h265 => ?_)
 refine B4 ?_
 (refine I1 (C9 rfl rfl rfl (by omega) (by unfold maxLen; omega) rfl) rfl ?_; rintro _ ⟨b273, rfl⟩)
 refine E3 ?_
 (refine E9 (by repeat (first | exact Pk.here | apply Pk.there)) (fun G5 hle5 hsl5 hno5 => ?_))
 refine B6 ?_
 (exact X0.mk1 (o13 (by omega)) (hop.2.2 (by omega)) hsl5 (hrt.mono hle5))
 refine I6 ?_
 (exact X0.mk (o0 (by omega)) rfl hsl.sl hkl)
theorem B0a : ∀ (us : List Tm) (h : List Ty) (l : Int), E5 us h h l = (us, l)
 | [], h, l => by simp [E5]
 | u :: us, [], l => by simp [E5]
 | u :: us, a :: h, l => by simp only [E5, A4J, if_true, B0a us h l]
theorem A5f {us : List Tm} {h w : List Ty} {l : Int} : E5 us h (T2 w h) l = E5 us h w l := by
 unfold T2
 split
 ·rename_i hw; subst hw; rw [B0a, V1]
 ·rfl
theorem B44 {cx : Cx} {k : Int} {nm : ByteArray} {ty : Ty} {h w : List Ty} {t : Ty} (hh : ∀ a ∈ h, F9 a = true) (hw : Wt cx k nm ty h w t) : ∀ a ∈ T2 w h, F9 a = true := by
 intro a ha
 unfold T2 at ha
 split at ha
 ·exact hh a ha
 ·rename_i hne
  obtain ⟨i, hi, rfl⟩ := List.mem_iff_getElem.1 ha
  exact (hw.ok i hi (by rcases hw.len with h1 | h1; exact absurd h1 hne; omega)).2
def B45 (u : Tm) (t : Ty) (l : Int) (G : IM) : IM → Value → List A5 → Prop := J4 fun G' v => ∃ cu ct, v = .tuple ⟨[.agg ⟨cu⟩, .agg ⟨ct⟩, .int .i64 (l + 1)]⟩ ∧ A8 G' u cu ∧ C1 G' t ct
theorem B0b {cx : Cx} : ∀ {ks : List Tm} {l : Int} {us : List Tm} {h : List Ty} {l' : Int}, L0 cx ks l = some (us, h, l') → us.length = ks.length ∧ h.length = ks.length
 | [], l, us, h, l', he => by simp only [L0, Option.some.injEq, Prod.mk.injEq] at he; obtain ⟨rfl, rfl, _⟩ := he; exact ⟨rfl, rfl⟩
 | t :: ts, l, us, h, l', he => by
  rw [L0] at he
  split at he
  ·cases he
  ·split at he
   ·cases he
   ·rename_i hz
    simp only [Option.some.injEq, Prod.mk.injEq] at he
    obtain ⟨rfl, rfl, _⟩ := he
    have := B0b hz
    simp [this.1, this.2]
theorem B46 : ∀ (e : Tm) (d : Int) (cx : Cx) (l0 : Int) (u0 : Tm) (t0 : Ty) (l1 : Int) (G : IM) (p : Option Addr) (n c : Nat) (cells : List Value), M0 cx e l0 = some (u0, t0, l1) → M5 12 14 e d = true → (n : Int) ≤ d → W2 cx → S0 G cx p n c → A8 G e cells → 0 ≤ l0 → l0 + (D0 e : Int) ≤ 1000000000 →
  Fn Tryz.prog 103 [.slice p n c, .agg ⟨cells⟩, .int .i64 (l0 + 1)] [] G (B45 u0 t0 l1 G) := by
 refine Tm.ind fun k nm num ty fr lb ks ih d cx l0 u0 t0 l1 G p n c cells hel hv hnd hcv hx hr hl0 hlc => ?_
 have hr0 := hr
 have hone := hr.one
 have hT := A99 _ d cx G p n c cells hv hnd hcv hx hr
 obtain ⟨hts1, hts2⟩ := (A2E _ d cx l0 hv hcv).1 u0 t0 l1 hel
 rw [hts1] at hT
 have hsm := A8J _ d hv
 obtain ⟨hv1, hv2, hv3, hv4⟩ := A0A hv
 have hvk := (A07 12 14 ks _).1 hv4
 have har := (U2.1 hv3).1
 have hop := A25 har
 obtain ⟨hta, hts⟩ := A27 hv3
 have hcvX : W2 (N2 cx k nm ty) := A3c hcv fun hk => (U2.1 hv3).2.2.2.2.2.1 (.inl hk)
 have hck : D0 (.mk k nm num ty fr lb ks) = E7 ks + 1 := Y8 ..
 rw [hck] at hlc
 rw [M0] at hel
 rcases hEL : L0 (N2 cx k nm ty) ks l0 with _ | ⟨usA, tsA, lA⟩
 ·rw [hEL] at hel; cases hel
 rw [hEL] at hel
 unfold Q5 at hel
 rcases hNT : Y4 cx k nm ty tsA with _ | ⟨w, t9⟩
 ·simp only [hNT] at hel; cases hel
 simp only [hNT, Option.some.injEq, Prod.mk.injEq] at hel
 obtain ⟨hu0, rfl, rfl⟩ := hel
 obtain ⟨hlA1, hlA2⟩ := B0b hEL
 have hmw := (A6h hNT).2
 obtain ⟨_, htv, _⟩ := (A6l ks (fun t ht d' cx' l' h1 h2 => A2E t d' cx' l' h1 h2) (d + 1) _ l0 hv4 hcvX).1 usA tsA lA hEL
 have hcAll := A1p usA tsA w lA
 have hWV : ∀ a ∈ T2 w tsA, F9 a = true := B44 htv (A6D htv (fun hk => (U2.1 hv3).2.2.2.2.2.1 (.inr (.inl hk))) (by rw [hlA2]; exact har) hv2 hmw)
 obtain ⟨tk, tks⟩ := ty
 obtain ⟨fk, fks⟩ := fr
 obtain ⟨pt, ct, pf, cf, q, cq, es, rfl, hk, hnum, hlb, hty, hfr, hsl, hkl⟩ := hr.open9
 have hlen : ks.length ≤ 3 := by have := A1o k; omega
 have hk13 : k = 13 → ks.length = 1 := fun h => hop.2.2 (by omega)
 refine C0 Tryz.func103 rfl Tryz.ntmps103 Tryz.results103 rfl ?_
 intro w0
 refine tS (tR ?_)
 refine sE (C5 rfl rfl) rfl (fun b3 => ?_)
 refine sE (A6 rfl) rfl (fun b4 => ?_)
 refine sE (A6 rfl) rfl (fun b5 => ?_)
 refine B4 ?_
 (refine D8 rfl hT rfl rfl (fun v G1 hle1 hh => ?_); obtain ⟨mt, mc, rfl, hmr, hma, hmu⟩ := hh; obtain rfl := hmu _ rfl; obtain ⟨p1, d1, e1, rfl, _⟩ := hmr.open; have hC := A20 _ G1 _ hsm (hr0.mono hle1))
 refine E3 ?_
 refine sE (A6 rfl) rfl (fun b17 => ?_)
 refine B4 ?_
 (refine D8 rfl hC rfl rfl (fun v G2 hle2 hh => ?_); obtain ⟨cs1, F1, rfl, hs1, hn1⟩ := hh; have hr1 := hs1.R.mono (C4.le G2 G1); obtain ⟨q1, c1, q2, c2, q3, c3, es1, rfl, _, _, _, hty1, hfr1, _, _⟩ := hr1.open9; have hle02 := hle1.trans hle2; replace hx := hx.mono hle02; replace hty := hty.mono hle02; replace hsl := hsl.mono hle02; replace hkl := hkl.mono hle02; replace hmr := hmr.mono hle2; replace hr0 := hr0.mono hle02)
 refine sE (A6 rfl) rfl (fun b26 => ?_)
 refine J2 ?_
 (show J1 _ _ (.region 4 ..) _ _; refine A0g (fun (x : Bool) => ⟨[(30, .bool x), (0, .slice p n c), (2, .int .i64 (l0 + 1)), (4, .pointer (some ⟨b3, 0, none⟩)), (6, .pointer (some ⟨b4, 0, none⟩)), (7, .pointer (some ⟨b5, 0, none⟩)), (9, .pointer (some ⟨b17, 0, none⟩)), (11, .pointer (some ⟨b26, 0, none⟩))], [.blk b26 [.int .i64 k, .string nm, .int .i64 num, .int .i64 tk, .slice q1 tks.length c1, .int .i64 fk, .slice q2 fks.length c2, .int .i64 lb, .slice none 0 0], .blk b17 [.int .i64 t9.k, .slice p1 t9.ks.length d1], .blk b5 [.int .i64 0, .slice none 0 0], .blk b4 [.int .i64 0, .string ⟨⟨[]⟩⟩, .int .i64 0, .int .i64 0, .slice none 0 0, .int .i64 0, .slice none 0 0, .int .i64 0, .slice none 0 0], .blk b3 [.int .i64 k, .string nm, .int .i64 num, .int .i64 tk, .slice pt tks.length ct, .int .i64 fk, .slice pf fks.length cf, .int .i64 lb, .slice q ks.length cq]], G2⟩) (fun x => x = true ↔ k = 5) ?_ ?_)
 ·refine E3 ?_
  refine sB (qE rfl rfl) rfl rfl (fun h42 => ?_) (fun h42 => ?_)
  ·refine sD ?_
   refine Q0 true (J8 (by repeat (first | exact D4.nil | refine D4.cons rfl ?_)) (by repeat (first | exact A0.refl | exact A0.nil | refine A0.cons (by repeat (first | exact Pk.here | apply Pk.there)) ?_ | apply A0.drop))) ⟨fun _ => (by omega), fun _ => rfl⟩
  ·refine sD ?_
   refine Q0 false (J8 (by repeat (first | exact D4.nil | refine D4.cons rfl ?_)) (by repeat (first | exact A0.refl | exact A0.nil | refine A0.cons (by repeat (first | exact Pk.here | apply Pk.there)) ?_ | apply A0.drop))) ⟨fun h => (by cases h), fun _ => (by omega)⟩
 ·(rintro (x : Bool) hx5)
  (show J1 _ _ (.cond (.tmp 30) _ _) _ _; refine A0g (fun (x : Option Addr × Nat × Nat × IM) => ⟨[(0, .slice x.1 x.2.1 x.2.2.1), (2, .int .i64 (l0 + 1)), (4, .pointer (some ⟨b3, 0, none⟩)), (6, .pointer (some ⟨b4, 0, none⟩)), (7, .pointer (some ⟨b5, 0, none⟩)), (9, .pointer (some ⟨b17, 0, none⟩)), (11, .pointer (some ⟨b26, 0, none⟩))], [.blk b26 [.int .i64 k, .string nm, .int .i64 num, .int .i64 tk, .slice q1 tks.length c1, .int .i64 fk, .slice q2 fks.length c2, .int .i64 lb, .slice none 0 0], .blk b17 [.int .i64 t9.k, .slice p1 t9.ks.length d1], .blk b5 [.int .i64 0, .slice none 0 0], .blk b4 [.int .i64 0, .string ⟨⟨[]⟩⟩, .int .i64 0, .int .i64 0, .slice none 0 0, .int .i64 0, .slice none 0 0, .int .i64 0, .slice none 0 0], .blk b3 [.int .i64 k, .string nm, .int .i64 num, .int .i64 tk, .slice pt tks.length ct, .int .i64 fk, .slice pf fks.length cf, .int .i64 lb, .slice q ks.length cq]], x.2.2.2⟩) (fun x => B9 G2 x.2.2.2 ∧ S0 x.2.2.2 (N2 cx k nm (.mk tk tks)) x.1 x.2.1 x.2.2.1 ∧ (x.2.1 : Int) ≤ d + 1) (A3s rfl (fun hxt => ?_) (fun hxf => ?_)) ?_)
  ·refine A7 ?_
   (refine D8 rfl (A96 G2 cx p n c nm (.mk tk tks) _ hx (by omega) hty) rfl rfl (fun v G3 hle3 hh => ?_); obtain ⟨pm0, cm0, rfl, hxm⟩ := hh)
   refine D7 ?_
   refine Q0 (pm0, n + 1, cm0, G3) (J8 (by repeat (first | exact D4.nil | refine D4.cons rfl ?_)) (by repeat (first | exact A0.refl | exact A0.nil | refine A0.cons (by repeat (first | exact Pk.here | apply Pk.there)) ?_ | apply A0.drop))) ?_
   (dsimp only; exact ⟨hle3, by rw [N2, if_pos (hx5.1 (by assumption))]; exact hxm, by omega⟩)
  ·refine tK ?_
   refine Q0 (p, n, c, G2) (J8 (by repeat (first | exact D4.nil | refine D4.cons rfl ?_)) (by repeat (first | exact A0.refl | exact A0.nil | refine A0.cons (by repeat (first | exact Pk.here | apply Pk.there)) ?_ | apply A0.drop))) ?_
   (dsimp only; exact ⟨B9.refl _, by rw [N2, if_neg (fun h => by have := hx5.2 h; rw [this] at hxf; cases hxf)]; exact hx, by omega⟩)
  ·(rintro ⟨(px : Option Addr), nx, cxx, Gx⟩ ⟨hleX, hxX, hnX⟩; simp only [] at hleX hxX hnX ⊢; replace hty1 := hty1.mono hleX; replace hfr1 := hfr1.mono hleX; replace hsl := hsl.mono hleX; replace hkl := hkl.mono hleX; replace hmr := hmr.mono hleX; replace hr0 := hr0.mono hleX)
   refine tS (tR ?_)
   (refine I1 (C9 rfl rfl rfl (by omega) (by unfold maxLen; omega) rfl) rfl ?_; rintro _ ⟨b66, rfl⟩)
   refine E4 ?_
   refine B8 ?_
   (refine Q7 28 9 ?_; refine I2 (fun (x : Nat × (Option Addr × Nat × List Tm × List (List Value)) × (Option Addr × Nat × List Ty × List (List Value)) × Int × IM) => ⟨[(13, .int .i64 x.1), (12, .slice x.2.2.1.1 x.1 x.2.2.1.2.1), (0, .slice px nx cxx), (2, .int .i64 (x.2.2.2.1 + 1)), (4, .pointer (some ⟨b3, 0, none⟩)), (6, .pointer (some ⟨b4, 0, none⟩)), (7, .pointer (some ⟨b5, 0, none⟩)), (9, .pointer (some ⟨b17, 0, none⟩)), (11, .pointer (some ⟨b26, 0, none⟩))], [.blk b26 [.int .i64 k, .string nm, .int .i64 num, .int .i64 tk, .slice q1 tks.length c1, .int .i64 fk, .slice q2 fks.length c2, .int .i64 lb, .slice x.2.1.1 x.1 x.2.1.2.1], .slc x.2.1.1 x.2.1.2.1 28 9 x.1 x.2.1.2.2.2.flatten, .slc x.2.2.1.1 x.2.2.1.2.1 25 2 x.1 x.2.2.1.2.2.2.flatten, .blk b17 [.int .i64 t9.k, .slice p1 t9.ks.length d1], .blk b5 [.int .i64 0, .slice none 0 0], .blk b4 [.int .i64 0, .string ⟨⟨[]⟩⟩, .int .i64 0, .int .i64 0, .slice none 0 0, .int .i64 0, .slice none 0 0, .int .i64 0, .slice none 0 0], .blk b3 [.int .i64 k, .string nm, .int .i64 num, .int .i64 tk, .slice pt tks.length ct, .int .i64 fk, .slice pf fks.length cf, .int .i64 lb, .slice q ks.length cq]], x.2.2.2.2⟩) (fun x => x.1 ≤ ks.length ∧ B9 Gx x.2.2.2.2 ∧ x.2.1.2.2.1.length = x.1 ∧ C6 x.2.2.2.2 x.2.1.2.2.1 x.2.1.2.2.2 ∧ x.2.2.1.2.2.1.length = x.1 ∧ C8 x.2.2.2.2 x.2.2.1.2.2.1 x.2.2.1.2.2.2 ∧ L0 (N2 cx k nm (.mk tk tks)) (ks.take x.1) l0 = some (x.2.1.2.2.1, x.2.2.1.2.2.1, x.2.2.2.1) ∧ l0 ≤ x.2.2.2.1 ∧ x.2.2.2.1 + x.1 ≤ l0 + (E7 (ks.take x.1) : Int)) (fun x => ks.length - x.1) (0, (none, 0, [], []), (some ⟨b66, 0, none⟩, 0, [], []), l0, Gx) ?_ ?_ ?_)
   ·(simp only [List.take_zero, V1]; exact (J8 (by repeat (first | exact D4.nil | refine D4.cons rfl ?_)) (by repeat (first | exact A0.refl | exact A0.nil | refine A0.cons (by repeat (first | exact Pk.here | apply Pk.there)) ?_ | apply A0.drop))))
   ·(exact ⟨by simp, B9.refl _, rfl, by simp [C6], rfl, by simp [C8], by simp [L0], Int.le_refl _, by simp [E7]⟩)
   ·(rintro ⟨i, ⟨pn, cn, us, es'⟩, ⟨pm, cm, ts, ess⟩, l, Gi⟩ ⟨hi, hle, hlu, hst, hlt, hstt, hml, hl1, hl2⟩; simp only [] at hi hle hlu hst hlt hstt hml hl1 hl2 ⊢; replace hty1 := hty1.mono hle; replace hfr1 := hfr1.mono hle; replace hsl := hsl.mono hle; replace hkl := hkl.mono hle; replace hmr := hmr.mono hle; replace hr0 := hr0.mono hle; replace hxX := hxX.mono hle)
    refine B4 ?_
    refine sB (I0 rfl rfl) rfl rfl (fun h88 => ?_) (fun h88 => ?_)
    ·refine A7 ?_
     refine B8 ?_
     refine A7 ?_
     (obtain ⟨b, o, e, rfl, hl, hate, hre, hgb⟩ := hsl.kidTm hkl (i := i) (by omega) (by omega); have hsc := A0p (ks := ks) (i := i) (by omega); have hsk := Z6 (ks := ks) (i := i) (by omega); rcases hE : M0 (N2 cx k nm (Ty.mk tk tks)) ks[i] l with _ | ⟨u, t, l3⟩; (have hno := A6n (by omega) hml hE; rw [hEL] at hno; cases hno); have hlm := A6F.el_mono _ _ _ _ _ _ hE; have hlx := A9A ks[i] (d + 1) _ l u t l3 (hvk i (by omega)) hE; refine sP (B3 rfl rfl rfl (by omega)) rfl rfl ?_)
     refine sL (A2 rfl rfl (hate _) hl) rfl rfl ?_
     refine sQ (qM rfl) rfl ?_
     (refine D8 rfl (ih ks[i] (List.getElem_mem (by omega)) (d + 1) _ l u t l3 Gi px nx cxx _ hE (hvk i (by omega)) (by omega) hcvX hxX hre (by omega) (by omega)) rfl rfl (fun v G3 hle3 hh => ?_); obtain ⟨uc, tc, rfl, hru, hrt⟩ := hh; obtain ⟨v1, v2, v3, v4, v5, v6, v7, v8, v9, rfl⟩ := nine hru.len; obtain ⟨p3, c3, e3, rfl, _⟩ := hrt.open; have hlu9 := hru.len; have hou9 := hru.one)
     refine B6 ?_
     refine sE (A6 rfl) rfl (fun b110 => ?_)
     refine sE (A6 rfl) rfl (fun b111 => ?_)
     refine sS rfl rfl rfl hlu9 hou9 rfl ?_ (hu := by exact D5 hlu9.symm)
     refine E4 ?_
     (refine I1 (C9 rfl rfl rfl (by omega) (by unfold maxLen; omega) rfl) rfl ?_; rintro _ ⟨b122, rfl⟩)
     refine X4 rfl rfl rfl rfl rfl (fun _ _ => by repeat (first | exact Sw.here | apply Sw.there)) (M6 (by repeat first | exact mH | apply mT)) rfl (fun u hu => List.all_eq_true.1 hou9 u hu) (by unfold maxLen; omega) (by omega) rfl (fun pn' cn' => ?_)
     refine D6 ?_
     (refine I1 (C9 rfl rfl rfl (by omega) (by unfold maxLen; omega) rfl) rfl ?_; rintro _ ⟨b132, rfl⟩)
     refine X4 rfl rfl rfl rfl rfl (fun _ _ => by repeat (first | exact Sw.here | apply Sw.there)) (M6 (by repeat first | exact mH | apply mT)) rfl (by simp [Value.oneCell']) (by unfold maxLen; omega) (by omega) rfl (fun pm' cm' => ?_)
     refine J2 ?_
     refine sP (H2 rfl rfl (by omega) (by omega)) rfl rfl ?_
     refine D7 ?_
     refine H9 (i + 1, (pn', cn', us ++ [u], es' ++ [[v1, v2, v3, v4, v5, v6, v7, v8, v9]]), (pm', cm', ts ++ [t], ess ++ [[.int .i64 t.k, .slice p3 t.ks.length c3]]), l3, G3) ?_ ?_ ?_
     ·(simp only [H6]; exact D3)
     ·(dsimp only; exact ⟨by omega, hle.trans hle3, by simp [hlu], C6.snoc (hst.mono hle3) hru, by simp [hlt], C8.snoc (hstt.mono hle3) hrt, A3S (by omega) hml hE, by omega, by omega⟩)
     ·(show ks.length - (i + 1) < ks.length - i; omega)
    ·refine K3 ?_
     (obtain rfl : i = ks.length := (by omega); rw [List.take_length] at hml hl2; rw [hEL] at hml; simp only [Option.some.injEq, Prod.mk.injEq] at hml; obtain ⟨rfl, rfl, rfl⟩ := hml; refine R6 (cs := ess.flatten) (by repeat (first | exact Pk.here | apply Pk.there)) (fun G4 hle4 hsl4 hno4 => ?_); have hstt4 := hstt.mono hle4; have hslT : D1 G4 pm ks.length cm 2 ess := D1.of hsl4 (by rw [hstt4.len, hlt]) hstt4.all (fun e he => (hstt4.each e he).2); have hW := B43 cx k nm num (.mk tk tks) (.mk fk fks) lb ks _ w _ G4 _ _ pm cm ess hmw hv2 (by rw [hlt]; exact har) (hr0.mono hle4) (by rw [hlt]; exact hslT) hstt4 (fun t ht => A2b (htv t ht)) (hmr.mono hle4); rw [hlt] at hW; refine D8 rfl hW rfl rfl (fun v G5 hle5 hh => ?_); obtain ⟨pw, cw, esw, rfl, hlw, hsw, hstw⟩ := hh; have hle45 := hle4.trans hle5; replace hty1 := hty1.mono hle45; replace hfr1 := hfr1.mono hle45; replace hmr := hmr.mono hle45; replace hst := hst.mono hle45; replace hslT := hslT.mono hle5; replace hstt := hstt.mono hle45; rcases Nat.eq_zero_or_pos ks.length with h0 | h0)
     ·refine E4 ?_
      refine B8 ?_
      (have h0' : ks.length = 0 := h0; refine I2 (fun (_ : Nat) => ⟨[(18, .int .i64 0), (17, .slice pw ks.length cw), (12, .slice pm ks.length cm), (2, .int .i64 (lA + 1)), (4, .pointer (some ⟨b3, 0, none⟩)), (6, .pointer (some ⟨b4, 0, none⟩)), (7, .pointer (some ⟨b5, 0, none⟩)), (9, .pointer (some ⟨b17, 0, none⟩)), (11, .pointer (some ⟨b26, 0, none⟩))], [.blk b26 [.int .i64 k, .string nm, .int .i64 num, .int .i64 tk, .slice q1 tks.length c1, .int .i64 fk, .slice q2 fks.length c2, .int .i64 lb, .slice pn ks.length cn], .slc pn cn 28 9 ks.length es'.flatten, .blk b17 [.int .i64 t9.k, .slice p1 t9.ks.length d1], .blk b5 [.int .i64 0, .slice none 0 0], .blk b4 [.int .i64 0, .string ⟨⟨[]⟩⟩, .int .i64 0, .int .i64 0, .slice none 0 0, .int .i64 0, .slice none 0 0, .int .i64 0, .slice none 0 0], .blk b3 [.int .i64 k, .string nm, .int .i64 num, .int .i64 tk, .slice pt tks.length ct, .int .i64 fk, .slice pf fks.length cf, .int .i64 lb, .slice q ks.length cq]], G5⟩) (fun _ => True) (fun i => i) 0 ?_ ?_ ?_)
      ·exact D3
      ·trivial
      ·(rintro (i0 : Nat) _)
       refine A7 ?_
       refine sP (A1i rfl rfl (by omega)) rfl rfl ?_
       refine K3 ?_
       refine sP (J3 rfl rfl (by omega)) rfl rfl ?_
       refine A7 ?_
       refine E0 E1 rfl ?_
       refine L7 (i := 0) (l' := [tt,ff,ff,ff,ff,ff]) rfl D2 (A4 rfl rfl) rfl (by kernel_rfl) rfl rfl ?_
       refine aL 1 rfl (A4 rfl rfl) rfl ?_
       refine aP 2 rfl (qM rfl) rfl ?_
       refine A3 3 ?_
       refine oS rfl rfl rfl rfl rfl rfl rfl rfl ?_
       refine A3 4 ?_
       refine oS rfl rfl rfl rfl rfl rfl rfl rfl ?_
       refine aP 5 rfl (qA rfl) rfl ?_
       refine E8 (nS ?_)
       (refine E9 (cs := es'.flatten) (by repeat (first | exact Pk.here | apply Pk.there)) (fun G8 hle8 hsl8 hno8 => ?_); have hst8 := hst.mono hle8)
       refine tT ?_
       refine D9 (rC rfl (A4 rfl rfl)) (rC rfl (A4 rfl rfl)) (rT rfl) ?_
       (have hu9 : usA = [] := List.length_eq_zero_iff.1 (by omega); have hne : k ≠ 13 := (fun h => by have := hk13 h; omega); have hz : E5 usA tsA w lA = (usA, lA) := (by rw [hu9]; simp [E5]); rw [if_neg hne, hz] at hu0; subst hu0; rw [hz]; exact ⟨rfl, _, _, rfl, A8.put hk hnum hlb (hty1.mono hle8) (hfr1.mono hle8) hlA1.symm (D1.of hsl8 (by rw [hst8.len, hlA1]) hst8.all (fun e he => (hst8.each e he).2)) hst8, hmr.mono hle8⟩)
     ·(refine A3N (cs := es'.flatten) (by repeat (first | exact Pk.here | apply Pk.there)) h0 (fun bc C hpe hnc hcm => ?_); subst hpe; refine sQ (qA rfl) rfl ?_)
      refine D6 ?_
      refine B8 ?_
      (have hLoop2 := hlw; refine I2 (fun (x : Nat × List (List Value) × IM) => ⟨[(18, .int .i64 x.1), (17, .slice pw ks.length cw), (12, .slice pm ks.length cm), (2, .int .i64 ((E5 usA tsA ((T2 w tsA).take x.1) lA).2 + 1)), (4, .pointer (some ⟨b3, 0, none⟩)), (6, .pointer (some ⟨b4, 0, none⟩)), (7, .pointer (some ⟨b5, 0, none⟩)), (9, .pointer (some ⟨b17, 0, none⟩)), (11, .pointer (some ⟨b26, 0, none⟩))], [.blk b26 [.int .i64 k, .string nm, .int .i64 num, .int .i64 tk, .slice q1 tks.length c1, .int .i64 fk, .slice q2 fks.length c2, .int .i64 lb, .slice (some ⟨bc, 0, none⟩) ks.length cn], .blk bc (x.2.1.flatten ++ C), .blk b17 [.int .i64 t9.k, .slice p1 t9.ks.length d1], .blk b5 [.int .i64 0, .slice none 0 0], .blk b4 [.int .i64 0, .string ⟨⟨[]⟩⟩, .int .i64 0, .int .i64 0, .slice none 0 0, .int .i64 0, .slice none 0 0, .int .i64 0, .slice none 0 0], .blk b3 [.int .i64 k, .string nm, .int .i64 num, .int .i64 tk, .slice pt tks.length ct, .int .i64 fk, .slice pf fks.length cf, .int .i64 lb, .slice q ks.length cq]], x.2.2⟩) (fun x => x.1 ≤ ks.length ∧ B9 G5 x.2.2 ∧ C6 x.2.2 (E5 usA tsA ((T2 w tsA).take x.1) lA).1 x.2.1) (fun x => ks.length - x.1) (0, es', G5) ?_ ?_ ?_)
      ·(simp only [List.take_zero, V1]; exact (J8 (by repeat (first | exact D4.nil | refine D4.cons rfl ?_)) (by repeat (first | exact A0.refl | exact A0.nil | refine A0.cons (by repeat (first | exact Pk.here | apply Pk.there)) ?_ | apply A0.drop))))
      ·(exact ⟨Nat.zero_le _, B9.refl _, by simp only [List.take_zero, V1]; exact hst⟩)
      ·(rintro ⟨j, es2, G6⟩ ⟨hj, hle6, hst2⟩; simp only [] at hj hle6 hst2 ⊢; replace hty1 := hty1.mono hle6; replace hfr1 := hfr1.mono hle6; replace hmr := hmr.mono hle6; replace hslT := hslT.mono hle6; replace hstt := hstt.mono hle6; replace hsw := hsw.mono hle6; replace hstw := hstw.mono hle6; have hle2s := hst2.len; rw [A1Q] at hle2s; have hall2 := hst2.all)
       refine A7 ?_
       refine sB (I0 rfl rfl) rfl rfl (fun h242 => ?_) (fun h242 => ?_)
       ·refine A7 ?_
        refine B8 ?_
        (have hjw : j < (T2 w tsA).length := (by omega); obtain ⟨bt, ot, qt, dt, hpt, hatt, hrtt, hgt⟩ := hslT.kidTy hstt (i := j) (by omega) (by omega); obtain ⟨bw, ow, qw, dw, hpw, hatw, hrtw, hgw⟩ := (show D1 G6 pw (T2 w tsA).length cw 2 esw from by rw [hlw]; exact hsw).kidTy hstw (i := j) (by omega) (by omega); cases hpt; cases hpw; obtain ⟨m1, m2, _⟩ := A3T usA tsA (T2 w tsA) lA j hjw (by omega) (by omega); obtain ⟨m3, m4⟩ := A80 (us := usA) (h := tsA) (w := T2 w tsA) (l := lA) hjw (by omega) (by omega); obtain ⟨hE1, hE2⟩ := hst2.at2 (i := j) (by omega) (by omega); rw [m2] at hE2; have hE3 := hE2.len; have hcj := A1p usA tsA ((T2 w tsA).take j) lA; refine E0 E1 rfl ?_)
        refine I8 (i := 0) (l' := [tt,ff,ff,ff,ff,ff,ff,ff,ff,ff,ff,ff,ff,ff,ff,ff,ff,ff,ff,ff,ff,ff,ff,ff]) rfl D2 (B7 rfl) rfl (by kernel_rfl) rfl rfl ?_
        refine aL 1 rfl (C7 rfl rfl) rfl ?_
        refine aP 2 rfl (qM rfl) rfl ?_
        refine aP 3 rfl (B7 rfl) rfl ?_
        refine aL 4 rfl (C7 rfl rfl) rfl ?_
        refine aP 5 rfl (qM rfl) rfl ?_
        refine aP 6 rfl (B3 (j := j) rfl rfl rfl (by omega)) rfl ?_
        refine aL 7 rfl (A2 rfl rfl (A4Q (es := es2) (by repeat first | exact mH | apply mT) (by omega) hall2) hE3) rfl ?_
        refine aP 8 rfl (qM rfl) rfl ?_
        refine aP 9 rfl (qM rfl) rfl ?_
        refine aP 10 rfl (B3 (j := j) rfl rfl rfl (by omega)) rfl ?_
        refine aL 11 rfl (A2 rfl rfl (hatt _) rfl) rfl ?_
        refine aP 12 rfl (qM rfl) rfl ?_
        refine aP 13 rfl (qM rfl) rfl ?_
        refine aP 14 rfl (B3 (j := j) rfl rfl rfl (by omega)) rfl ?_
        refine aL 15 rfl (A2 rfl rfl (hatw _) rfl) rfl ?_
        refine aP 16 rfl (qM rfl) rfl ?_
        refine A3 17 ?_
        (have hwsm := (A2b (hWV _ (List.getElem_mem (show j < (T2 w tsA).length by omega)))).small; refine H1 rfl rfl (B4Z usA[j] tsA[j] (T2 w tsA)[j] _ _ _ _ _ (by omega) hE2 hrtt hrtw (A2b (htv _ (List.getElem_mem (by omega)))).small hwsm) rfl rfl rfl (fun v G7 hle7 hh => ?_); obtain ⟨uc, rfl, hru⟩ := hh; rw [show (if N0 tsA[j] (T2 w tsA)[j] = true then (E5 usA tsA ((T2 w tsA).take j) lA).2 + 1 else (E5 usA tsA ((T2 w tsA).take j) lA).2 + 1 + 1) = (E5 usA tsA ((T2 w tsA).take (j + 1)) lA).2 + 1 from by rw [m4]; split <;> rfl]; have hlu9 := hru.len; have hou9 := hru.one)
        refine aP 18 rfl (qM rfl) rfl ?_
        refine aP 19 rfl (pX rfl rfl) rfl ?_
        refine aP 21 rfl (B3 (j := j) rfl rfl rfl (by omega)) rfl ?_
        refine aP 20 rfl (pX rfl rfl) rfl ?_
        refine A3 22 ?_
        refine R7 rfl rfl rfl rfl hlu9 hou9 rfl rfl (by kernel_rfl) (by repeat first | exact Sw.here | apply Sw.there) (by exact A3O (by omega) hall2 hlu9) ?_
        refine aP 23 rfl (qA rfl) rfl ?_
        refine B0 ?_
        refine sP (H2 rfl rfl (by omega) (by omega)) rfl rfl ?_
        refine D7 ?_
        refine H9 (j + 1, es2.set j uc, G7) ?_ ?_ ?_
        ·(simp only [List.take_zero, V1]; exact (J8 (by repeat (first | exact D4.nil | refine D4.cons rfl ?_)) (by repeat (first | exact A0.refl | exact A0.nil | refine A0.cons (by repeat (first | exact Pk.here | apply Pk.there)) ?_ | apply A0.drop))))
        ·(dsimp only; exact ⟨by omega, hle6.trans hle7, by rw [m3]; exact C6.set (hst2.mono hle7) hru⟩)
        ·(show ks.length - (j + 1) < ks.length - j; omega)
       ·refine K3 ?_
        refine sB (qE rfl rfl) rfl rfl (fun h302 => ?_) (fun h302 => ?_)
        ·refine B6 ?_
         (have hq13 : k = 13 := (by omega); have hl13 := hk13 hq13; have hjw : j = (T2 w tsA).length := (by omega); rw [hjw, List.take_length, A5f] at hst2; have hm0 := A1Q usA tsA w lA; obtain ⟨hE1, hE2⟩ := hst2.at2 (i := 0) (by omega) (by omega); have hE3 := hE2.len; have hE4 := hE2.one; refine E0 E1 rfl ?_)
         refine I8 (i := 0) (l' := [tt,ff,ff,ff,ff,ff,ff,ff,ff]) rfl D2 (B7 rfl) rfl (by kernel_rfl) rfl rfl ?_
         refine aL 1 rfl (C7 rfl rfl) rfl ?_
         refine aP 2 rfl (B3 (j := 0) rfl rfl rfl (by omega)) rfl ?_
         refine aL 3 rfl (A2 rfl rfl (A4Q (es := es2) (by repeat first | exact mH | apply mT) (by omega) hall2) hE3) rfl ?_
         refine aL 4 rfl (A4 rfl rfl) rfl ?_
         refine aP 5 rfl (qM rfl) rfl ?_
         refine A3 6 ?_
         refine oS rfl rfl rfl rfl hE3 hE4 rfl rfl ?_ (hu := by exact D5 hE3.symm)
         refine A3 7 ?_
         refine oS rfl rfl rfl rfl rfl rfl rfl rfl ?_
         refine aP 8 rfl (qA rfl) rfl ?_
         refine E8 (nS ?_)
         (refine A2q (bs := [(bc, es2.flatten ++ C)]) (Pk.perm (by repeat (first | exact Pk.here | apply Pk.there))) (fun hn9 hd9 hle9 => ?_))
         refine tT (rS ?_)
         refine D9 (rC rfl (A2 rfl rfl (A9 (by repeat first | exact mH | apply mT)) hE3)) (rC rfl (A4 rfl rfl)) (rT rfl) ?_
         (rw [if_pos hq13, A9H (by omega)] at hu0; subst hu0; rw [hjw, List.take_length, A5f]; exact ⟨rfl, _, _, rfl, hE2.mono hle9, hmr.mono hle9⟩)
        ·refine A7 ?_
         refine E0 E1 rfl ?_
         refine L7 (i := 0) (l' := [tt,ff,ff,ff,ff,ff]) rfl D2 (A4 rfl rfl) rfl (by kernel_rfl) rfl rfl ?_
         refine aL 1 rfl (A4 rfl rfl) rfl ?_
         refine aP 2 rfl (qM rfl) rfl ?_
         refine A3 3 ?_
         refine oS rfl rfl rfl rfl rfl rfl rfl rfl ?_
         refine A3 4 ?_
         refine oS rfl rfl rfl rfl rfl rfl rfl rfl ?_
         refine aP 5 rfl (qA rfl) rfl ?_
         refine E8 (nS ?_)
         (refine A2q (bs := [(bc, es2.flatten ++ C)]) (Pk.perm (by repeat (first | exact Pk.here | apply Pk.there))) (fun hn9 hd9 hle9 => ?_))
         refine tT ?_
         refine D9 (rC rfl (A4 rfl rfl)) (rC rfl (A4 rfl rfl)) (rT rfl) ?_
         (have hjw : j = (T2 w tsA).length := (by omega); rw [hjw, List.take_length, A5f] at hst2; have hst9 := hst2.mono hle9; have hm0 := A1Q usA tsA w lA; rw [if_neg (by omega)] at hu0; subst hu0; rw [hjw, List.take_length, A5f]; exact ⟨rfl, _, _, rfl, A8.put hk hnum hlb (hty1.mono hle9) (hfr1.mono hle9) (by rw [hm0, hlA1]) (D1.of (Sl.of_blk (A := []) (by rw [A02 hst9.all, hst9.len, hm0, hlA1]) (by omega) hcm (Wi.in hn9 List.mem_cons_self)) (by rw [hst9.len, hm0, hlA1]) hst9.all (fun e he => (hst9.each e he).2)) hst9, hmr.mono hle9⟩)
theorem B0c (e : Tm) (G : IM) (cells : List Value) (hcnt : D0 e ≤ 4294967296) (hr : A8 G e cells) : Fn Tryz.prog 63 [.agg ⟨cells⟩] [] G (A1e (S1 e)) := by
 have hl := hr.len
 have hone := hr.one
 refine C0 Tryz.func63 rfl Tryz.ntmps63 Tryz.results63 rfl ?_
 intro w0
 refine tS (tR ?_)
 refine sE (C5 rfl rfl) rfl (fun b3 => ?_)
 refine sE (A6 rfl) rfl (fun b4 => ?_)
 refine sE (A6 rfl) rfl (fun b5 => ?_)
 refine B0 ?_
 refine sL (A2 rfl rfl (A9 (by repeat first | exact mH | apply mT)) (by assumption)) rfl rfl ?_
 focus (refine D8 rfl (A6Q e _ _ (by omega) hr) rfl rfl (fun v G1 hle1 hh => ?_); obtain ⟨mc, mt, rfl, hmr, hmu⟩ := hh; obtain ⟨pt, ct, et, rfl, _⟩ := hmr.open; obtain ⟨r, hI⟩ : ∃ r, S1 e = r := ⟨_, rfl⟩; rcases r with _ | ⟨u, t⟩; (have hto : O0 e = none := by unfold O0; rw [hI]); rotate_left; (have hto : O0 e = some t := by unfold O0; rw [hI]); obtain ⟨hv, l3, hE⟩ := B4U hI; obtain ⟨hv1, hv2⟩ := (Z8 e).1 hv; rotate_left; all_goals rw [hto]; all_goals simp only [Option.isSome])
 refine E3 ?_
 refine sE (A6 rfl) rfl (fun b16 => ?_)
 refine A1j ?_
 refine D9 (rC rfl (A4 rfl rfl)) (rC rfl (A4 rfl rfl)) (rT rfl) ?_
 (exact A1e.no (by first | exact hI | rfl) (M8 _) (M7 _ ⟨by omega, by omega⟩))
 refine E3 ?_
 refine sE (A6 rfl) rfl (fun b45 => ?_)
 refine J9 ?_
 refine sL (A2 rfl rfl (A9 (by repeat first | exact mH | apply mT)) (by assumption)) rfl rfl ?_
 (have hIn := B46 e 1 [] 0 u t l3 G1 none 0 0 cells hE hv1 (by omega) A2D (S0.nil _) (hr.mono hle1) (by omega) (by omega); refine D8 rfl hIn rfl rfl (fun v G2 hle2 hh => ?_); obtain ⟨cu, tc, rfl, hru, hrt⟩ := hh; obtain ⟨qt, dt, et2, rfl, _⟩ := hrt.open; have hlu := hru.len; have hou := hru.one)
 refine B6 ?_
 refine sE (A6 rfl) rfl (fun b68 => ?_)
 refine sE (A6 rfl) rfl (fun b69 => ?_)
 refine U8 rfl rfl rfl hlu hou rfl (by repeat first | exact Sw.here | apply Sw.there) (by exact D5 (by first | exact hlu.symm | omega)) ?_
 refine B0 ?_
 refine E0 E1 rfl ?_
 refine L7 (i := 0) (l' := [tt,ff,ff,ff,ff]) rfl D2 (A2 rfl rfl (A9 (by repeat first | exact mH | apply mT)) hlu) rfl (by kernel_rfl) rfl rfl ?_
 refine aL 1 rfl (A4 rfl rfl) rfl ?_
 refine A3 2 ?_
 refine oS rfl rfl rfl rfl hlu hou rfl rfl ?_ (hu := by exact D5 hlu.symm)
 refine A3 3 ?_
 refine oS rfl rfl rfl rfl rfl rfl rfl rfl ?_
 refine aP 4 rfl (qA rfl) rfl ?_
 refine E8 (nS (tT ?_))
 refine D9 (rC rfl (A2 rfl rfl (A9 (by repeat first | exact mH | apply mT)) hlu)) (rC rfl (A4 rfl rfl)) (rT rfl) ?_
 (exact A1e.yes (by first | exact hI | rfl) hru hrt)
theorem Z1.openA {a b : List Ty} {G' : IM} {v : Value} {outs : List A5} {m : Nat} (h : Z1 (a ++ b) G' v outs) (hm : a.length = m) :
  ∃ p c es, v = .slice p (m + b.length) c ∧ outs = [.slc p c 25 2 (m + b.length) es.flatten] ∧ C8 G' (a ++ b) es := by
 subst hm
 rw [← List.length_append]
 exact h
theorem B47 : ∀ (t : Tm) (l : List Ty) (G : IM) (cells : List Value) (p : Option Addr) (c : Nat) (es : List (List Value)), t.small → l.length + D0 t ≤ 4000000 → A8 G t cells → C8 G l es →
  Fn Tryz.prog 142 [.slice p l.length c, .agg ⟨cells⟩] [.slc p c 25 2 l.length es.flatten] G (Z1 (l ++ H0 t)) := by
 refine Tm.ind fun k nm num ty fr lb ks ih l G cells p c es0 hts hcnt hr hl0 => ?_
 have hone := hr.one
 simp only [Tm.small] at hts
 obtain ⟨_, hty', _, hsm, hks⟩ := hts
 have hcy : k = 5 ∨ k = 13 → H0 (.mk k nm num ty fr lb ks) = [ty] ++ H5 ks := fun h => by rw [H0, if_pos h]
 have hcn : ¬ (k = 5 ∨ k = 13) → H0 (.mk k nm num ty fr lb ks) = H5 ks := fun h => by rw [H0, if_neg h, List.nil_append]
 rw [D0] at hcnt
 obtain ⟨tk, tks⟩ := ty
 obtain ⟨fk, fks⟩ := fr
 obtain ⟨pt, ct, pf, cf, q, cq, ek, rfl, hk, hnum, hlb, hty, hfr, hsl, hkl⟩ := hr.open9
 have hn := hsl.le
 refine C0 Tryz.func142 rfl Tryz.ntmps142 Tryz.results142 rfl ?_
 intro w0
 refine tS (tR ?_)
 refine sE (C5 rfl rfl) rfl (fun b3 => ?_)
 refine D6 ?_
 refine sB (qE rfl rfl) rfl rfl (fun h12 => ?_) (fun h12 => ?_)
 refine K8 ?_
 (refine D8 rfl (P9 (.mk tk tks) G _ hty' hty) rfl rfl (fun v G1 hle1 hh => ?_); obtain ⟨cs1, F1, rfl, hs1, hn1⟩ := hh; have hr1 := hs1.R.mono (C4.le _ _); obtain ⟨p1, c1, rfl, _⟩ := hs1.open)
 (refine I1 (C9 rfl rfl rfl (by omega) (by unfold maxLen; omega) rfl) rfl ?_; rintro _ ⟨b26, rfl⟩)
 (refine X4 rfl rfl rfl rfl rfl (fun _ _ => by repeat (first | exact Sw.here | apply Sw.there)) (M6 (by repeat first | exact mH | apply mT)) rfl (by simp [Value.oneCell']) (by unfold maxLen; omega) (by omega) rfl (fun pn0 cn0 => ?_))
 refine E4 ?_
 refine B8 ?_
 (have h14 := hcy (by omega); have hinit := C8.append (hl0.mono hle1) (C8.one1 hr1); refine I2 (fun (x : Nat × Nat × Option Addr × Nat × List (List Value) × IM) => ⟨[(5, .int .i64 x.1), (3, .pointer (some ⟨b3, 0, none⟩)), (0, .slice x.2.2.1 x.2.1 x.2.2.2.1)], [.slc x.2.2.1 x.2.2.2.1 25 2 x.2.1 x.2.2.2.2.1.flatten, .blk b3 [.int .i64 k, .string nm, .int .i64 num, .int .i64 tk, .slice pt tks.length ct, .int .i64 fk, .slice pf fks.length cf, .int .i64 lb, .slice q ks.length cq]], x.2.2.2.2.2⟩) (fun x => x.1 ≤ ks.length ∧ B9 G x.2.2.2.2.2 ∧ C8 x.2.2.2.2.2 ((l ++ [Ty.mk tk tks]) ++ H5 (ks.take x.1)) x.2.2.2.2.1 ∧ ((l ++ [Ty.mk tk tks]) ++ H5 (ks.take x.1)).length = x.2.1) (fun x => ks.length - x.1) (0, l.length + 1, pn0, cn0, es0 ++ [[.int .i64 tk, .slice p1 tks.length c1]], G1) (by simp only [List.flatten_append, List.flatten_cons, List.flatten_nil, List.append_nil]; exact (J8 (by repeat (first | exact D4.nil | refine D4.cons rfl ?_)) (by repeat (first | exact A0.refl | exact A0.nil | refine A0.cons (by repeat (first | exact Pk.here | apply Pk.there)) ?_ | apply A0.drop)))) ?_ ?_)
 (exact ⟨Nat.zero_le _, hle1, (by show C8 G1 ((l ++ [Ty.mk tk tks]) ++ H5 (ks.take 0)) _; rw [List.take_zero, H5, List.append_nil]; exact hinit), by simp [H5]⟩)
 (rintro ⟨(i : Nat), (m : Nat), pn, cn, es, Gi⟩ ⟨hi, hle, hst, hlen⟩; simp only [] at hi hle hst hlen ⊢; replace hsl := hsl.mono hle; replace hkl := hkl.mono hle; have hb1 := A0U (ks.take i); have hb2 := A0U ks; have hlen0 := hlen; simp only [List.length_append, List.length_singleton, List.length_nil] at hlen)
 refine B4 ?_
 refine sB (I0 rfl rfl) rfl rfl (fun h48 => ?_) (fun h48 => ?_)
 refine A7 ?_
 refine B8 ?_
 refine B0 ?_
 (obtain ⟨b, o, e, rfl, hl, hat, hre, hgb⟩ := hsl.kidTm hkl (i := i) (by omega) (by omega); have hone9 := hre.one; have hsc := A0p (ks := ks) (i := i) (by omega); have hsk := Z6 (ks := ks) (i := i) (by omega); refine sP (B3 rfl rfl rfl (by omega)) rfl rfl ?_)
 refine sL (A2 rfl rfl (hat _) hl) rfl rfl ?_
 (have hih := ih ks[i] (List.getElem_mem (by omega)) _ Gi e pn cn es (Tm.smallL_mem hks _ (List.getElem_mem (by omega))) (by simp only [List.length_append, List.length_singleton]; omega) hre hst; rw [hlen0] at hih; refine I4 rfl hih (Pk.perm (by repeat (first | exact Pk.here | apply Pk.there))) rfl rfl (fun v3 G3 outs hle3 hh => ?_); obtain ⟨p3, c3, e3, rfl, rfl, hr3⟩ := Z1.openA hh hlen0)
 refine A7 ?_
 refine sP (H2 rfl rfl (by omega) (by omega)) rfl rfl ?_
 refine D7 ?_
 (refine H9 (i + 1, m + (H0 ks[i]).length, p3, c3, e3, G3) ?_ ?_ ?_)
 (simp only [H6]; exact D3)
 (dsimp only; exact ⟨by omega, hle.trans hle3, by rw [W9 (by omega), ← List.append_assoc]; exact hr3, by rw [W9 (by omega), ← List.append_assoc, List.length_append, hlen0]⟩)
 (show ks.length - (i + 1) < ks.length - i; omega)
 refine K5 ?_
 (obtain rfl : i = ks.length := (by omega))
 refine tT ?_
 refine H7 (outs := [.slc pn cn 25 2 m es.flatten]) (rT rfl) (A0.cons (by repeat (first | exact Pk.here | apply Pk.there)) A0.nil) ?_
 (rw [h14]; rw [List.take_length] at hst hlen; first | exact Z1.mk (by simp only [List.length_append, List.length_singleton, List.length_nil]; omega) hst | (rw [← List.append_assoc]; exact Z1.mk (by simp only [List.length_append, List.length_singleton, List.length_nil]; omega) hst))
 refine E3 ?_
 refine sB (qE rfl rfl) rfl rfl (fun h98 => ?_) (fun h98 => ?_)
 refine D6 ?_
 (refine D8 rfl (P9 (.mk tk tks) G _ hty' hty) rfl rfl (fun v G1 hle1 hh => ?_); obtain ⟨cs1, F1, rfl, hs1, hn1⟩ := hh; have hr1 := hs1.R.mono (C4.le _ _); obtain ⟨p1, c1, rfl, _⟩ := hs1.open)
 (refine I1 (C9 rfl rfl rfl (by omega) (by unfold maxLen; omega) rfl) rfl ?_; rintro _ ⟨b108, rfl⟩)
 (refine X4 rfl rfl rfl rfl rfl (fun _ _ => by repeat (first | exact Sw.here | apply Sw.there)) (M6 (by repeat first | exact mH | apply mT)) rfl (by simp [Value.oneCell']) (by unfold maxLen; omega) (by omega) rfl (fun pn0 cn0 => ?_))
 refine E4 ?_
 refine B8 ?_
 (have h14 := hcy (by omega); have hinit := C8.append (hl0.mono hle1) (C8.one1 hr1); refine I2 (fun (x : Nat × Nat × Option Addr × Nat × List (List Value) × IM) => ⟨[(5, .int .i64 x.1), (3, .pointer (some ⟨b3, 0, none⟩)), (0, .slice x.2.2.1 x.2.1 x.2.2.2.1)], [.slc x.2.2.1 x.2.2.2.1 25 2 x.2.1 x.2.2.2.2.1.flatten, .blk b3 [.int .i64 k, .string nm, .int .i64 num, .int .i64 tk, .slice pt tks.length ct, .int .i64 fk, .slice pf fks.length cf, .int .i64 lb, .slice q ks.length cq]], x.2.2.2.2.2⟩) (fun x => x.1 ≤ ks.length ∧ B9 G x.2.2.2.2.2 ∧ C8 x.2.2.2.2.2 ((l ++ [Ty.mk tk tks]) ++ H5 (ks.take x.1)) x.2.2.2.2.1 ∧ ((l ++ [Ty.mk tk tks]) ++ H5 (ks.take x.1)).length = x.2.1) (fun x => ks.length - x.1) (0, l.length + 1, pn0, cn0, es0 ++ [[.int .i64 tk, .slice p1 tks.length c1]], G1) (by simp only [List.flatten_append, List.flatten_cons, List.flatten_nil, List.append_nil]; exact (J8 (by repeat (first | exact D4.nil | refine D4.cons rfl ?_)) (by repeat (first | exact A0.refl | exact A0.nil | refine A0.cons (by repeat (first | exact Pk.here | apply Pk.there)) ?_ | apply A0.drop)))) ?_ ?_)
 (exact ⟨Nat.zero_le _, hle1, (by show C8 G1 ((l ++ [Ty.mk tk tks]) ++ H5 (ks.take 0)) _; rw [List.take_zero, H5, List.append_nil]; exact hinit), by simp [H5]⟩)
 (rintro ⟨(i : Nat), (m : Nat), pn, cn, es, Gi⟩ ⟨hi, hle, hst, hlen⟩; simp only [] at hi hle hst hlen ⊢; replace hsl := hsl.mono hle; replace hkl := hkl.mono hle; have hb1 := A0U (ks.take i); have hb2 := A0U ks; have hlen0 := hlen; simp only [List.length_append, List.length_singleton, List.length_nil] at hlen)
 refine B4 ?_
 refine sB (I0 rfl rfl) rfl rfl (fun h130 => ?_) (fun h130 => ?_)
 refine A7 ?_
 refine B8 ?_
 refine B0 ?_
 (obtain ⟨b, o, e, rfl, hl, hat, hre, hgb⟩ := hsl.kidTm hkl (i := i) (by omega) (by omega); have hone9 := hre.one; have hsc := A0p (ks := ks) (i := i) (by omega); have hsk := Z6 (ks := ks) (i := i) (by omega); refine sP (B3 rfl rfl rfl (by omega)) rfl rfl ?_)
 refine sL (A2 rfl rfl (hat _) hl) rfl rfl ?_
 (have hih := ih ks[i] (List.getElem_mem (by omega)) _ Gi e pn cn es (Tm.smallL_mem hks _ (List.getElem_mem (by omega))) (by simp only [List.length_append, List.length_singleton]; omega) hre hst; rw [hlen0] at hih; refine I4 rfl hih (Pk.perm (by repeat (first | exact Pk.here | apply Pk.there))) rfl rfl (fun v3 G3 outs hle3 hh => ?_); obtain ⟨p3, c3, e3, rfl, rfl, hr3⟩ := Z1.openA hh hlen0)
 refine A7 ?_
 refine sP (H2 rfl rfl (by omega) (by omega)) rfl rfl ?_
 refine D7 ?_
 (refine H9 (i + 1, m + (H0 ks[i]).length, p3, c3, e3, G3) ?_ ?_ ?_)
 (simp only [H6]; exact D3)
 (dsimp only; exact ⟨by omega, hle.trans hle3, by rw [W9 (by omega), ← List.append_assoc]; exact hr3, by rw [W9 (by omega), ← List.append_assoc, List.length_append, hlen0]⟩)
 (show ks.length - (i + 1) < ks.length - i; omega)
 refine K5 ?_
 (obtain rfl : i = ks.length := (by omega))
 refine tT ?_
 refine H7 (outs := [.slc pn cn 25 2 m es.flatten]) (rT rfl) (A0.cons (by repeat (first | exact Pk.here | apply Pk.there)) A0.nil) ?_
 (rw [h14]; rw [List.take_length] at hst hlen; first | exact Z1.mk (by simp only [List.length_append, List.length_singleton, List.length_nil]; omega) hst | (rw [← List.append_assoc]; exact Z1.mk (by simp only [List.length_append, List.length_singleton, List.length_nil]; omega) hst))
 refine K8 ?_
 refine B8 ?_
 (have h14 := hcn (by omega); refine I2 (fun (x : Nat × Nat × Option Addr × Nat × List (List Value) × IM) => ⟨[(5, .int .i64 x.1), (3, .pointer (some ⟨b3, 0, none⟩)), (0, .slice x.2.2.1 x.2.1 x.2.2.2.1)], [.slc x.2.2.1 x.2.2.2.1 25 2 x.2.1 x.2.2.2.2.1.flatten, .blk b3 [.int .i64 k, .string nm, .int .i64 num, .int .i64 tk, .slice pt tks.length ct, .int .i64 fk, .slice pf fks.length cf, .int .i64 lb, .slice q ks.length cq]], x.2.2.2.2.2⟩) (fun x => x.1 ≤ ks.length ∧ B9 G x.2.2.2.2.2 ∧ C8 x.2.2.2.2.2 (l ++ H5 (ks.take x.1)) x.2.2.2.2.1 ∧ (l ++ H5 (ks.take x.1)).length = x.2.1) (fun x => ks.length - x.1) (0, l.length, p, c, es0, G) ?_ ?_ ?_)
 (simp only [H6]; exact D3)
 (exact ⟨Nat.zero_le _, B9.refl _, by simpa [H5] using hl0, by simp [H5]⟩)
 (rintro ⟨(i : Nat), (m : Nat), pn, cn, es, Gi⟩ ⟨hi, hle, hst, hlen⟩; simp only [] at hi hle hst hlen ⊢; replace hsl := hsl.mono hle; replace hkl := hkl.mono hle; have hb1 := A0U (ks.take i); have hb2 := A0U ks; have hlen0 := hlen; simp only [List.length_append, List.length_singleton, List.length_nil] at hlen)
 refine B4 ?_
 refine sB (I0 rfl rfl) rfl rfl (fun h201 => ?_) (fun h201 => ?_)
 refine A7 ?_
 refine B8 ?_
 refine B0 ?_
 (obtain ⟨b, o, e, rfl, hl, hat, hre, hgb⟩ := hsl.kidTm hkl (i := i) (by omega) (by omega); have hone9 := hre.one; have hsc := A0p (ks := ks) (i := i) (by omega); have hsk := Z6 (ks := ks) (i := i) (by omega); refine sP (B3 rfl rfl rfl (by omega)) rfl rfl ?_)
 refine sL (A2 rfl rfl (hat _) hl) rfl rfl ?_
 (have hih := ih ks[i] (List.getElem_mem (by omega)) _ Gi e pn cn es (Tm.smallL_mem hks _ (List.getElem_mem (by omega))) (by simp only [List.length_append, List.length_singleton]; omega) hre hst; rw [hlen0] at hih; refine I4 rfl hih (Pk.perm (by repeat (first | exact Pk.here | apply Pk.there))) rfl rfl (fun v3 G3 outs hle3 hh => ?_); obtain ⟨p3, c3, e3, rfl, rfl, hr3⟩ := Z1.openA hh hlen0)
 refine A7 ?_
 refine sP (H2 rfl rfl (by omega) (by omega)) rfl rfl ?_
 refine D7 ?_
 (refine H9 (i + 1, m + (H0 ks[i]).length, p3, c3, e3, G3) ?_ ?_ ?_)
 (simp only [H6]; exact D3)
 (dsimp only; exact ⟨by omega, hle.trans hle3, by rw [W9 (by omega), ← List.append_assoc]; exact hr3, by rw [W9 (by omega), ← List.append_assoc, List.length_append, hlen0]⟩)
 (show ks.length - (i + 1) < ks.length - i; omega)
 refine K5 ?_
 (obtain rfl : i = ks.length := (by omega))
 refine tT ?_
 refine H7 (outs := [.slc pn cn 25 2 m es.flatten]) (rT rfl) (A0.cons (by repeat (first | exact Pk.here | apply Pk.there)) A0.nil) ?_
 (rw [h14]; rw [List.take_length] at hst hlen; first | exact Z1.mk (by simp only [List.length_append, List.length_singleton, List.length_nil]; omega) hst | (rw [← List.append_assoc]; exact Z1.mk (by simp only [List.length_append, List.length_singleton, List.length_nil]; omega) hst))
def T3 (t : Tm) : List Ty := if N8 t = true then H0 t else []
theorem A6R (t : Tm) (G : IM) (cells : List Value) (hts : t.small) (hcnt : D0 t ≤ 4000000) (hr : A8 G t cells) : Fn Tryz.prog 100 [.agg ⟨cells⟩] [] G (Z1 (T3 t)) := by
 have hl := hr.len
 have hone := hr.one
 have hv := A4K t G cells (by omega) hr
 have hno : N8 t = false → T3 t = [] := fun h => by unfold T3; rw [h]; rfl
 have hyes : N8 t = true → T3 t = H0 t := fun h => by unfold T3; rw [h]; rfl
 refine C0 Tryz.func100 rfl Tryz.ntmps100 Tryz.results100 rfl ?_
 intro w0
 refine tS (tR ?_)
 refine sE (C5 rfl rfl) rfl (fun b3 => ?_)
 refine A7 ?_
 refine sL (A2 rfl rfl (A9 (by repeat first | exact mH | apply mT)) (by assumption)) rfl rfl ?_
 refine H4 rfl (hv) rfl rfl (fun h11 => ?_) (fun h11 => ?_)
 refine D6 ?_
 (refine I1 (C9 rfl rfl rfl (by omega) (by unfold maxLen; omega) rfl) rfl ?_; rintro _ ⟨b20, rfl⟩)
 refine sL (A2 rfl rfl (A9 (by repeat first | exact mH | apply mT)) (by assumption)) rfl rfl ?_
 (refine I4 rfl (B47 t [] G cells _ 0 [] hts (by simp; omega) hr (by simp [C8])) (Pk.perm (by repeat (first | exact Pk.here | apply Pk.there))) rfl rfl (fun v3 G3 outs hle3 hh => ?_); obtain ⟨p3, c3, e3, rfl, rfl, hr3⟩ := hh)
 refine B6 ?_
 refine H7 (outs := [.slc p3 c3 25 2 ([] ++ H0 t).length e3.flatten]) (rT rfl) (A0.cons (by repeat (first | exact Pk.here | apply Pk.there)) A0.nil) ?_
 (rw [hyes (by assumption)]; exact ⟨p3, c3, e3, rfl, rfl, hr3⟩)
 refine A7 ?_
 (refine I1 (C9 rfl rfl rfl (by omega) (by unfold maxLen; omega) rfl) rfl ?_; rintro _ ⟨b35, rfl⟩)
 refine B0 ?_
 refine H7 (rT rfl) (A0.cons Pk.here A0.nil) ?_
 (rw [hno (by assumption)]; exact ⟨_, _, [], rfl, rfl, by simp [C8]⟩)
theorem A5g (t : Tm) (G : IM) (cells : List Value) (hts : t.small) (hcnt : D0 t ≤ 4000000) (hr : A8 G t cells) : Fn Tryz.prog 61 [.agg ⟨cells⟩] [] G (J4 fun _ v => v = .int .i64 ((T3 t).length : Int)) := by
 have hl := hr.len
 have hone := hr.one
 refine C0 Tryz.func61 rfl Tryz.ntmps61 Tryz.results61 rfl ?_
 intro w0
 refine tS (tR ?_)
 refine sE (C5 rfl rfl) rfl (fun b3 => ?_)
 refine B0 ?_
 refine sL (A2 rfl rfl (A9 (by repeat first | exact mH | apply mT)) (by assumption)) rfl rfl ?_
 (refine W0 rfl (A6R t G cells hts hcnt hr) rfl rfl (fun v G1 outs hle1 hh => ?_); obtain ⟨p1, c1, e1, rfl, rfl, hr1⟩ := hh)
 refine A7 ?_
 exact ⟨rfl, rfl⟩
def A3l (u : Tm) (n : Int) : IM → Value → List A5 → Prop := fun G' v outs => outs = [] ∧ ∃ cu, v = .tuple ⟨[.agg ⟨cu⟩, .int .i64 n]⟩ ∧ A8 G' u cu
theorem A3l.mk {G' : IM} {k : Int} {nm : ByteArray} {num : Int} {ty fr : Ty} {lb : Int} {ks : List Tm} {tk fk : Int} {pt pf : Option Addr} {nt ct nf cf : Nat} {p : Option Addr} {m c : Nat} {es : List (List Value)} {a n : Int}
  (hk : F8 k) (hnum : F8 num) (hlb : F8 lb) (hty : C1 G' ty [.int .i64 tk, .slice pt nt ct]) (hfr : C1 G' fr [.int .i64 fk, .slice pf nf cf]) (hm : m = ks.length) (hs : Sl G' p m c 9 es.flatten) (hr : C6 G' ks es) (ha : a = n) :
  A3l (.mk k nm num ty fr lb ks) n G' (.tuple ⟨[.agg ⟨[.int .i64 k, .string nm, .int .i64 num, .int .i64 tk, .slice pt nt ct, .int .i64 fk, .slice pf nf cf, .int .i64 lb, .slice p m c]⟩, .int .i64 a]⟩) [] := by
 subst hm ha
 refine ⟨rfl, _, rfl, ?_⟩
 simp only [A8]
 exact ⟨_, _, p, c, es, rfl, hk, hnum, hlb, hty, hfr, D1.of hs hr.len hr.all (fun e he => by obtain ⟨j, hj⟩ := List.getElem?_of_mem he; exact (hr.inv hj K1).2.one), hr⟩
theorem B48 (L : List Ty) (p : Option Addr) (c : Nat) (hsmL : ∀ u ∈ L, u.small) : ∀ (t : Tm) (a : Nat) (G : IM) (cells : List Value) (el : List (List Value)), a + (H0 t).length ≤ L.length → L.length ≤ 4000000 → t.small → D0 t ≤ 4000000 → A8 G t cells → D1 G p L.length c 2 el → C8 G L el →
  Fn Tryz.prog 144 [.agg ⟨cells⟩, .slice p L.length c, .int .i64 (a : Int)] [] G (A3l (T9 t (L.drop a)) ((a + (H0 t).length : Nat) : Int)) := by
 refine Tm.ind fun k nm num ty fr lb ks ih a G cells el hlen hLb hts hcnt hr hse hel => ?_
 have hone := hr.one
 have hlen9 := hr.len
 simp only [Tm.small] at hts
 obtain ⟨_, hty', hfr', hsm, hks⟩ := hts
 have hcy : k = 5 ∨ k = 13 → H0 (.mk k nm num ty fr lb ks) = [ty] ++ H5 ks := fun h => by rw [H0, if_pos h]
 have hcn : ¬ (k = 5 ∨ k = 13) → H0 (.mk k nm num ty fr lb ks) = H5 ks := fun h => by rw [H0, if_neg h, List.nil_append]
 have hwy : k = 5 ∨ k = 13 → T9 (.mk k nm num ty fr lb ks) (L.drop a) = .mk k nm num ((L.drop a).getD 0 B2) fr lb (O4 ks (L.drop (a + 1))) := fun h => by rw [T9, if_pos h, if_pos h, List.drop_drop]
 have hwn : ¬ (k = 5 ∨ k = 13) → T9 (.mk k nm num ty fr lb ks) (L.drop a) = .mk k nm num ty fr lb (O4 ks (L.drop a)) := fun h => by rw [T9, if_neg h, if_neg h]
 rw [D0] at hcnt
 obtain ⟨tk, tks⟩ := ty
 obtain ⟨fk, fks⟩ := fr
 obtain ⟨pt, ct, pf, cf, q, cq, ek, rfl, hk, hnum, hlb, hty, hfr, hsl, hkl⟩ := hr.open9
 have hn := hsl.le
 have hkn := A4z ks
 have hT := P9 (.mk tk tks) G _ hty' hty
 refine C0 Tryz.func144 rfl Tryz.ntmps144 Tryz.results144 rfl ?_
 intro w0
 refine tS (tR ?_)
 refine sE (C5 rfl rfl) rfl (fun b3 => ?_)
 refine sE (A6 rfl) rfl (fun b4 => ?_)
 refine A7 ?_
 refine sE (A6 rfl) rfl (fun b11 => ?_)
 refine B4 ?_
 (refine D8 rfl hT rfl rfl (fun v G1 hle1 hh => ?_); obtain ⟨cs1, F1, rfl, hs1, hn1⟩ := hh; have hr1 := hs1.R.mono (C4.le _ _); obtain ⟨p1, c1, rfl, _⟩ := hs1.open; have hF := P9 (.mk fk fks) G1 _ hfr' (hfr.mono hle1))
 refine D6 ?_
 (refine D8 rfl hF rfl rfl (fun v G2 hle2 hh => ?_); obtain ⟨cs2, F2, rfl, hs2, hn2⟩ := hh; have hr2 := hs2.R.mono (C4.le _ _); obtain ⟨p2, c2, rfl, _⟩ := hs2.open; have hle12 := hle1.trans hle2; replace hsl := hsl.mono hle12; replace hkl := hkl.mono hle12; replace hse := hse.mono hle12; replace hel := hel.mono hle12)
 refine I6 ?_
 refine sB (qE rfl rfl) rfl rfl (fun h44 => ?_) (fun h44 => ?_)
 refine K8 ?_
 (have hL1 := hcy (by omega); have h1 : a + (1 + (H5 ks).length) ≤ L.length := (by rw [hL1] at hlen; simp only [List.length_append, List.length_singleton] at hlen; omega); obtain ⟨b0, o0, p20, c20, rfl, hat0, hre0, hgb0⟩ := hse.kidTy hel (i := a) (by omega) (by omega); obtain ⟨T0, hT0⟩ : ∃ T, T = L[a]'(by omega) := ⟨_, rfl⟩; have hs0 := hsmL _ (List.getElem_mem (show a < L.length by omega)); rw [← hT0] at hre0 hat0 hs0; have hO := P9 T0 G2 _ hs0 hre0; refine sP (B3 rfl rfl rfl (by omega)) rfl rfl ?_)
 refine sL (A2 rfl rfl (hat0 _) rfl) rfl rfl ?_
 (refine D8 rfl hO rfl rfl (fun v G3 hle3 hh => ?_); obtain ⟨cs3, F3, rfl, hs3, hn3⟩ := hh; have hr3 := hs3.R.mono (C4.le _ _); obtain ⟨p3, c3, rfl, _⟩ := hs3.open)
 refine A7 ?_
 refine sP (H2 rfl rfl (by omega) (by omega)) rfl rfl ?_
 refine E4 ?_
 refine B8 ?_
 (have hL2 := hcy (by omega); have hW2 := hwy (by omega); refine Q7 28 9 ?_; refine I2 (fun (x : Nat × Option Addr × Nat × List (List Value) × IM) => ⟨[(9, .int .i64 x.1), (2, .int .i64 ((a + 1 + (H5 (ks.take x.1)).length : Nat) : Int)), (1, .slice (some ⟨b0, o0, none⟩) L.length c), (3, .pointer (some ⟨b3, 0, none⟩)), (8, .pointer (some ⟨b11, 0, none⟩)), (6, .pointer (some ⟨b4, 0, none⟩))], [.blk b11 [.int .i64 k, .string nm, .int .i64 num, .int .i64 T0.k, .slice p3 T0.ks.length c3, .int .i64 fk, .slice p2 fks.length c2, .int .i64 lb, .slice x.2.1 x.1 x.2.2.1], .slc x.2.1 x.2.2.1 28 9 x.1 x.2.2.2.1.flatten, .blk b4 [.int .i64 0, .string ⟨⟨[]⟩⟩, .int .i64 0, .int .i64 0, .slice none 0 0, .int .i64 0, .slice none 0 0, .int .i64 0, .slice none 0 0], .blk b3 [.int .i64 k, .string nm, .int .i64 num, .int .i64 tk, .slice pt tks.length ct, .int .i64 fk, .slice pf fks.length cf, .int .i64 lb, .slice q ks.length cq]], x.2.2.2.2⟩) (fun x => x.1 ≤ ks.length ∧ B9 G3 x.2.2.2.2 ∧ C6 x.2.2.2.2 (O4 (ks.take x.1) (L.drop (a + 1))) x.2.2.2.1) (fun x => ks.length - x.1) (0, none, 0, [], G3) ?_ ?_ ?_)
 (simp only [H6]; exact D3)
 (exact ⟨Nat.zero_le _, B9.refl _, by simp [O4, C6]⟩)
 (rintro ⟨(i : Nat), pn, cn, es, Gi⟩ ⟨hi, hle, hst⟩; simp only [] at hi hle hst ⊢)
 refine B4 ?_
 refine sB (I0 rfl rfl) rfl rfl (fun h88 => ?_) (fun h88 => ?_)
 refine A7 ?_
 refine B8 ?_
 refine E3 ?_
 refine sE (A6 rfl) rfl (fun b99 => ?_)
 refine D6 ?_
 (obtain ⟨b, o, e, rfl, hl, hat, hre, hgb⟩ := (hsl.mono (by first | exact hle | exact hle3.trans hle)).kidTm (hkl.mono (by first | exact hle | exact hle3.trans hle)) (i := i) (by omega) (by omega); have hone9 := hre.one; have hsc := A0p (ks := ks) (i := i) (by omega); have hsk := Z6 (ks := ks) (i := i) (by omega); have hts1 := A30 (ks := ks) (i := i) (by omega); have e9 : (H5 (ks.take (i + 1))).length = (H5 (ks.take i)).length + (H0 ks[i]).length := (by rw [W9 (by omega), List.length_append]); refine sP (B3 rfl rfl rfl (by omega)) rfl rfl ?_)
 refine sL (A2 rfl rfl (hat _) hl) rfl rfl ?_
 refine D7 ?_
 (have hih := ih ks[i] (List.getElem_mem (by omega)) _ Gi e el (by rw [hL2] at hlen; (try simp only [List.length_append, List.length_singleton] at hlen); first | exact (show a + 1 + (H5 (ks.take i)).length + (H0 ks[i]).length ≤ L.length by omega) | exact (show a + (H5 (ks.take i)).length + (H0 ks[i]).length ≤ L.length by omega)) hLb (Tm.smallL_mem hks _ (List.getElem_mem (by omega))) (by omega) hre (hse.mono (by first | exact hle | exact hle3.trans hle)) (hel.mono (by first | exact hle | exact hle3.trans hle)); refine W0 rfl hih rfl rfl (fun v G7 outs hle7 hh => ?_); obtain ⟨rfl, cu, rfl, hru⟩ := hh; rw [← List.drop_drop] at hru; have hsn := C6.snoc (hst.mono hle7) hru; obtain ⟨u1, u2, u3, u4, u5, u6, u7, u8, u9, rfl⟩ : ∃ u1 u2 u3 u4 u5 u6 u7 u8 u9, cu = [u1, u2, u3, u4, u5, u6, u7, u8, u9] := (by obtain ⟨_, _, _, _, _, _, _, _, _, rfl, _⟩ := hru.open; exact ⟨_, _, _, _, _, _, _, _, _, rfl⟩); have huo := hru.one)
 refine E3 ?_
 refine sS rfl rfl rfl rfl huo rfl ?_
 refine B4 ?_
 (refine I1 (C9 rfl rfl rfl (by omega) (by unfold maxLen; omega) rfl) rfl ?_; rintro _ ⟨b124, rfl⟩)
 (refine X4 rfl rfl rfl rfl rfl (fun _ _ => by repeat (first | exact Sw.here | apply Sw.there)) (M6 (by repeat first | exact mH | apply mT)) rfl (fun u hu => List.all_eq_true.1 huo u hu) (by unfold maxLen; omega) (by omega) rfl (fun p4 c4 => ?_))
 refine B4 ?_
 refine sP (H2 rfl rfl (by omega) (by omega)) rfl rfl ?_
 refine D7 ?_
 (rw [← A3Z (by omega)] at hsn; refine H9 (i + 1, p4, c4, es ++ [[u1, u2, u3, u4, u5, u6, u7, u8, u9]], G7) (by simp only [List.flatten_append, List.flatten_cons, List.flatten_nil, List.append_nil, e9, ← Nat.add_assoc]; exact (J8 (by repeat (first | exact D4.nil | refine D4.cons rfl ?_)) (by repeat (first | exact A0.refl | exact A0.nil | refine A0.cons (by repeat (first | exact Pk.here | apply Pk.there)) ?_ | apply A0.drop)))) ?_ ?_)
 (dsimp only; exact ⟨by omega, hle.trans hle7, hsn⟩)
 (show ks.length - (i + 1) < ks.length - i; omega)
 refine J9 ?_
 (refine E9 (cs := es.flatten) (by repeat (first | exact Pk.here | apply Pk.there)) (fun G9 hle9 hsl9 hno9 => ?_); obtain rfl : i = ks.length := (by omega); rw [List.take_length] at hst)
 refine tT ?_
 refine F0 (rC rfl (A4 rfl rfl)) (rT rfl) ?_
 (rw [hW2, hL2]; exact A3l.mk hk hnum hlb (by first | (rw [List.getD_eq_getElem?_getD, List.getElem?_drop, Nat.add_zero, List.getElem?_eq_getElem (by omega), Option.getD_some, ← hT0]; exact hr3.mono (hle.trans hle9)) | exact hr1.mono (hle2.trans (hle.trans hle9))) (by first | exact hr2.mono (hle3.trans (hle.trans hle9)) | exact hr2.mono (hle.trans hle9)) (by rw [A2c]) hsl9 (hst.mono hle9) (by (simp only [List.take_length, List.length_append, List.length_singleton]) <;> omega))
 refine E3 ?_
 refine sB (qE rfl rfl) rfl rfl (fun h162 => ?_) (fun h162 => ?_)
 refine D6 ?_
 (have hL1 := hcy (by omega); have h1 : a + (1 + (H5 ks).length) ≤ L.length := (by rw [hL1] at hlen; simp only [List.length_append, List.length_singleton] at hlen; omega); obtain ⟨b0, o0, p20, c20, rfl, hat0, hre0, hgb0⟩ := hse.kidTy hel (i := a) (by omega) (by omega); obtain ⟨T0, hT0⟩ : ∃ T, T = L[a]'(by omega) := ⟨_, rfl⟩; have hs0 := hsmL _ (List.getElem_mem (show a < L.length by omega)); rw [← hT0] at hre0 hat0 hs0; have hO := P9 T0 G2 _ hs0 hre0; refine sP (B3 rfl rfl rfl (by omega)) rfl rfl ?_)
 refine sL (A2 rfl rfl (hat0 _) rfl) rfl rfl ?_
 (refine D8 rfl hO rfl rfl (fun v G3 hle3 hh => ?_); obtain ⟨cs3, F3, rfl, hs3, hn3⟩ := hh; have hr3 := hs3.R.mono (C4.le _ _); obtain ⟨p3, c3, rfl, _⟩ := hs3.open)
 refine A7 ?_
 refine sP (H2 rfl rfl (by omega) (by omega)) rfl rfl ?_
 refine E4 ?_
 refine B8 ?_
 (have hL2 := hcy (by omega); have hW2 := hwy (by omega); refine Q7 28 9 ?_; refine I2 (fun (x : Nat × Option Addr × Nat × List (List Value) × IM) => ⟨[(9, .int .i64 x.1), (2, .int .i64 ((a + 1 + (H5 (ks.take x.1)).length : Nat) : Int)), (1, .slice (some ⟨b0, o0, none⟩) L.length c), (3, .pointer (some ⟨b3, 0, none⟩)), (8, .pointer (some ⟨b11, 0, none⟩)), (6, .pointer (some ⟨b4, 0, none⟩))], [.blk b11 [.int .i64 k, .string nm, .int .i64 num, .int .i64 T0.k, .slice p3 T0.ks.length c3, .int .i64 fk, .slice p2 fks.length c2, .int .i64 lb, .slice x.2.1 x.1 x.2.2.1], .slc x.2.1 x.2.2.1 28 9 x.1 x.2.2.2.1.flatten, .blk b4 [.int .i64 0, .string ⟨⟨[]⟩⟩, .int .i64 0, .int .i64 0, .slice none 0 0, .int .i64 0, .slice none 0 0, .int .i64 0, .slice none 0 0], .blk b3 [.int .i64 k, .string nm, .int .i64 num, .int .i64 tk, .slice pt tks.length ct, .int .i64 fk, .slice pf fks.length cf, .int .i64 lb, .slice q ks.length cq]], x.2.2.2.2⟩) (fun x => x.1 ≤ ks.length ∧ B9 G3 x.2.2.2.2 ∧ C6 x.2.2.2.2 (O4 (ks.take x.1) (L.drop (a + 1))) x.2.2.2.1) (fun x => ks.length - x.1) (0, none, 0, [], G3) ?_ ?_ ?_)
 (simp only [H6]; exact D3)
 (exact ⟨Nat.zero_le _, B9.refl _, by simp [O4, C6]⟩)
 (rintro ⟨(i : Nat), pn, cn, es, Gi⟩ ⟨hi, hle, hst⟩; simp only [] at hi hle hst ⊢)
 refine B4 ?_
 refine sB (I0 rfl rfl) rfl rfl (fun h202 => ?_) (fun h202 => ?_)
 refine A7 ?_
 refine B8 ?_
 refine E3 ?_
 refine sE (A6 rfl) rfl (fun b213 => ?_)
 refine D6 ?_
 (obtain ⟨b, o, e, rfl, hl, hat, hre, hgb⟩ := (hsl.mono (by first | exact hle | exact hle3.trans hle)).kidTm (hkl.mono (by first | exact hle | exact hle3.trans hle)) (i := i) (by omega) (by omega); have hone9 := hre.one; have hsc := A0p (ks := ks) (i := i) (by omega); have hsk := Z6 (ks := ks) (i := i) (by omega); have hts1 := A30 (ks := ks) (i := i) (by omega); have e9 : (H5 (ks.take (i + 1))).length = (H5 (ks.take i)).length + (H0 ks[i]).length := (by rw [W9 (by omega), List.length_append]); refine sP (B3 rfl rfl rfl (by omega)) rfl rfl ?_)
 refine sL (A2 rfl rfl (hat _) hl) rfl rfl ?_
 refine D7 ?_
 (have hih := ih ks[i] (List.getElem_mem (by omega)) _ Gi e el (by rw [hL2] at hlen; (try simp only [List.length_append, List.length_singleton] at hlen); first | exact (show a + 1 + (H5 (ks.take i)).length + (H0 ks[i]).length ≤ L.length by omega) | exact (show a + (H5 (ks.take i)).length + (H0 ks[i]).length ≤ L.length by omega)) hLb (Tm.smallL_mem hks _ (List.getElem_mem (by omega))) (by omega) hre (hse.mono (by first | exact hle | exact hle3.trans hle)) (hel.mono (by first | exact hle | exact hle3.trans hle)); refine W0 rfl hih rfl rfl (fun v G7 outs hle7 hh => ?_); obtain ⟨rfl, cu, rfl, hru⟩ := hh; rw [← List.drop_drop] at hru; have hsn := C6.snoc (hst.mono hle7) hru; obtain ⟨u1, u2, u3, u4, u5, u6, u7, u8, u9, rfl⟩ : ∃ u1 u2 u3 u4 u5 u6 u7 u8 u9, cu = [u1, u2, u3, u4, u5, u6, u7, u8, u9] := (by obtain ⟨_, _, _, _, _, _, _, _, _, rfl, _⟩ := hru.open; exact ⟨_, _, _, _, _, _, _, _, _, rfl⟩); have huo := hru.one)
 refine E3 ?_
 refine sS rfl rfl rfl rfl huo rfl ?_
 refine B4 ?_
 (refine I1 (C9 rfl rfl rfl (by omega) (by unfold maxLen; omega) rfl) rfl ?_; rintro _ ⟨b238, rfl⟩)
 (refine X4 rfl rfl rfl rfl rfl (fun _ _ => by repeat (first | exact Sw.here | apply Sw.there)) (M6 (by repeat first | exact mH | apply mT)) rfl (fun u hu => List.all_eq_true.1 huo u hu) (by unfold maxLen; omega) (by omega) rfl (fun p4 c4 => ?_))
 refine B4 ?_
 refine sP (H2 rfl rfl (by omega) (by omega)) rfl rfl ?_
 refine D7 ?_
 (rw [← A3Z (by omega)] at hsn; refine H9 (i + 1, p4, c4, es ++ [[u1, u2, u3, u4, u5, u6, u7, u8, u9]], G7) (by simp only [List.flatten_append, List.flatten_cons, List.flatten_nil, List.append_nil, e9, ← Nat.add_assoc]; exact (J8 (by repeat (first | exact D4.nil | refine D4.cons rfl ?_)) (by repeat (first | exact A0.refl | exact A0.nil | refine A0.cons (by repeat (first | exact Pk.here | apply Pk.there)) ?_ | apply A0.drop)))) ?_ ?_)
 (dsimp only; exact ⟨by omega, hle.trans hle7, hsn⟩)
 (show ks.length - (i + 1) < ks.length - i; omega)
 refine J9 ?_
 (refine E9 (cs := es.flatten) (by repeat (first | exact Pk.here | apply Pk.there)) (fun G9 hle9 hsl9 hno9 => ?_); obtain rfl : i = ks.length := (by omega); rw [List.take_length] at hst)
 refine tT ?_
 refine F0 (rC rfl (A4 rfl rfl)) (rT rfl) ?_
 (rw [hW2, hL2]; exact A3l.mk hk hnum hlb (by first | (rw [List.getD_eq_getElem?_getD, List.getElem?_drop, Nat.add_zero, List.getElem?_eq_getElem (by omega), Option.getD_some, ← hT0]; exact hr3.mono (hle.trans hle9)) | exact hr1.mono (hle2.trans (hle.trans hle9))) (by first | exact hr2.mono (hle3.trans (hle.trans hle9)) | exact hr2.mono (hle.trans hle9)) (by rw [A2c]) hsl9 (hst.mono hle9) (by (simp only [List.take_length, List.length_append, List.length_singleton]) <;> omega))
 refine K8 ?_
 refine B8 ?_
 (have hL2 := hcn (by omega); have hW2 := hwn (by omega); refine Q7 28 9 ?_; refine I2 (fun (x : Nat × Option Addr × Nat × List (List Value) × IM) => ⟨[(9, .int .i64 x.1), (2, .int .i64 ((a + (H5 (ks.take x.1)).length : Nat) : Int)), (1, .slice p L.length c), (3, .pointer (some ⟨b3, 0, none⟩)), (8, .pointer (some ⟨b11, 0, none⟩)), (6, .pointer (some ⟨b4, 0, none⟩))], [.blk b11 [.int .i64 k, .string nm, .int .i64 num, .int .i64 tk, .slice p1 tks.length c1, .int .i64 fk, .slice p2 fks.length c2, .int .i64 lb, .slice x.2.1 x.1 x.2.2.1], .slc x.2.1 x.2.2.1 28 9 x.1 x.2.2.2.1.flatten, .blk b4 [.int .i64 0, .string ⟨⟨[]⟩⟩, .int .i64 0, .int .i64 0, .slice none 0 0, .int .i64 0, .slice none 0 0, .int .i64 0, .slice none 0 0], .blk b3 [.int .i64 k, .string nm, .int .i64 num, .int .i64 tk, .slice pt tks.length ct, .int .i64 fk, .slice pf fks.length cf, .int .i64 lb, .slice q ks.length cq]], x.2.2.2.2⟩) (fun x => x.1 ≤ ks.length ∧ B9 G2 x.2.2.2.2 ∧ C6 x.2.2.2.2 (O4 (ks.take x.1) (L.drop a)) x.2.2.2.1) (fun x => ks.length - x.1) (0, none, 0, [], G2) ?_ ?_ ?_)
 (simp only [H6]; exact D3)
 (exact ⟨Nat.zero_le _, B9.refl _, by simp [O4, C6]⟩)
 (rintro ⟨(i : Nat), pn, cn, es, Gi⟩ ⟨hi, hle, hst⟩; simp only [] at hi hle hst ⊢)
 refine B4 ?_
 refine sB (I0 rfl rfl) rfl rfl (fun h297 => ?_) (fun h297 => ?_)
 refine A7 ?_
 refine B8 ?_
 refine E3 ?_
 refine sE (A6 rfl) rfl (fun b308 => ?_)
 refine D6 ?_
 (obtain ⟨b, o, e, rfl, hl, hat, hre, hgb⟩ := (hsl.mono (by first | exact hle | exact hle3.trans hle)).kidTm (hkl.mono (by first | exact hle | exact hle3.trans hle)) (i := i) (by omega) (by omega); have hone9 := hre.one; have hsc := A0p (ks := ks) (i := i) (by omega); have hsk := Z6 (ks := ks) (i := i) (by omega); have hts1 := A30 (ks := ks) (i := i) (by omega); have e9 : (H5 (ks.take (i + 1))).length = (H5 (ks.take i)).length + (H0 ks[i]).length := (by rw [W9 (by omega), List.length_append]); refine sP (B3 rfl rfl rfl (by omega)) rfl rfl ?_)
 refine sL (A2 rfl rfl (hat _) hl) rfl rfl ?_
 refine D7 ?_
 (have hih := ih ks[i] (List.getElem_mem (by omega)) _ Gi e el (by rw [hL2] at hlen; (try simp only [List.length_append, List.length_singleton] at hlen); first | exact (show a + 1 + (H5 (ks.take i)).length + (H0 ks[i]).length ≤ L.length by omega) | exact (show a + (H5 (ks.take i)).length + (H0 ks[i]).length ≤ L.length by omega)) hLb (Tm.smallL_mem hks _ (List.getElem_mem (by omega))) (by omega) hre (hse.mono (by first | exact hle | exact hle3.trans hle)) (hel.mono (by first | exact hle | exact hle3.trans hle)); refine W0 rfl hih rfl rfl (fun v G7 outs hle7 hh => ?_); obtain ⟨rfl, cu, rfl, hru⟩ := hh; rw [← List.drop_drop] at hru; have hsn := C6.snoc (hst.mono hle7) hru; obtain ⟨u1, u2, u3, u4, u5, u6, u7, u8, u9, rfl⟩ : ∃ u1 u2 u3 u4 u5 u6 u7 u8 u9, cu = [u1, u2, u3, u4, u5, u6, u7, u8, u9] := (by obtain ⟨_, _, _, _, _, _, _, _, _, rfl, _⟩ := hru.open; exact ⟨_, _, _, _, _, _, _, _, _, rfl⟩); have huo := hru.one)
 refine E3 ?_
 refine sS rfl rfl rfl rfl huo rfl ?_
 refine B4 ?_
 (refine I1 (C9 rfl rfl rfl (by omega) (by unfold maxLen; omega) rfl) rfl ?_; rintro _ ⟨b333, rfl⟩)
 (refine X4 rfl rfl rfl rfl rfl (fun _ _ => by repeat (first | exact Sw.here | apply Sw.there)) (M6 (by repeat first | exact mH | apply mT)) rfl (fun u hu => List.all_eq_true.1 huo u hu) (by unfold maxLen; omega) (by omega) rfl (fun p4 c4 => ?_))
 refine B4 ?_
 refine sP (H2 rfl rfl (by omega) (by omega)) rfl rfl ?_
 refine D7 ?_
 (rw [← A3Z (by omega)] at hsn; refine H9 (i + 1, p4, c4, es ++ [[u1, u2, u3, u4, u5, u6, u7, u8, u9]], G7) (by simp only [List.flatten_append, List.flatten_cons, List.flatten_nil, List.append_nil, e9, ← Nat.add_assoc]; exact (J8 (by repeat (first | exact D4.nil | refine D4.cons rfl ?_)) (by repeat (first | exact A0.refl | exact A0.nil | refine A0.cons (by repeat (first | exact Pk.here | apply Pk.there)) ?_ | apply A0.drop)))) ?_ ?_)
 (dsimp only; exact ⟨by omega, hle.trans hle7, hsn⟩)
 (show ks.length - (i + 1) < ks.length - i; omega)
 refine J9 ?_
 (refine E9 (cs := es.flatten) (by repeat (first | exact Pk.here | apply Pk.there)) (fun G9 hle9 hsl9 hno9 => ?_); obtain rfl : i = ks.length := (by omega); rw [List.take_length] at hst)
 refine tT ?_
 refine F0 (rC rfl (A4 rfl rfl)) (rT rfl) ?_
 (rw [hW2, hL2]; exact A3l.mk hk hnum hlb (by first | (rw [List.getD_eq_getElem?_getD, List.getElem?_drop, Nat.add_zero, List.getElem?_eq_getElem (by omega), Option.getD_some, ← hT0]; exact hr3.mono (hle.trans hle9)) | exact hr1.mono (hle2.trans (hle.trans hle9))) (by first | exact hr2.mono (hle3.trans (hle.trans hle9)) | exact hr2.mono (hle.trans hle9)) (by rw [A2c]) hsl9 (hst.mono hle9) (by (simp only [List.take_length, List.length_append, List.length_singleton]) <;> omega))
def A2M (t : Tm) (L : List Ty) : Option Tm := if N8 t = true ∧ (T3 t).length = L.length ∧ ∀ u ∈ L, F9 u = true then some (T9 t L) else none
theorem B0d {t : Tm} {L : List Ty} (h : N8 t = true) (hl : (T3 t).length = L.length) (ha : ∀ j, j < L.length → (h : j < L.length) → F9 L[j] = true) : A2M t L = some (T9 t L) := by
 unfold A2M
 rw [if_pos ⟨h, hl, fun u hu => by obtain ⟨i, hi, rfl⟩ := List.mem_iff_getElem.1 hu; exact ha i hi hi⟩]
theorem B49 {t : Tm} {L : List Ty} (h : ¬(N8 t = true ∧ (T3 t).length = L.length ∧ ∀ u ∈ L, F9 u = true)) : A2M t L = none := by
 unfold A2M; rw [if_neg h]
def TmB (o : Option Tm) : IM → Value → List A5 → Prop := J4 fun G' v => ∃ cu, v = .tuple ⟨[.agg ⟨cu⟩, .bool o.isSome]⟩ ∧ A8 G' (o.getD K1) cu
theorem A1f {t : Tm} (h : N8 t = true) : T3 t = H0 t := by unfold T3; rw [if_pos h]
theorem B5a (t : Tm) (L : List Ty) (G : IM) (cells : List Value) (p : Option Addr) (c : Nat) (es : List (List Value)) (hts : t.small) (hcnt : D0 t ≤ 4000000) (hLb : L.length ≤ 4000000) (hsm : ∀ u ∈ L, u.small) (hr : A8 G t cells) (hse : D1 G p L.length c 2 es) (hel : C8 G L es) :
  Fn Tryz.prog 102 [.agg ⟨cells⟩, .slice p L.length c] [] G (TmB (A2M t L)) := by
 have hl := hr.len
 have hone := hr.one
 have hyes := @B0d t L
 have hno := @B49 t L
 have htv := @A1f t
 have hT := A6R t G cells hts hcnt hr
 generalize A2M t L = R at hyes hno ⊢
 obtain ⟨TT, hTT⟩ : ∃ TT, T3 t = TT := ⟨_, rfl⟩
 rw [hTT] at hyes hno htv hT
 refine C0 Tryz.func102 rfl Tryz.ntmps102 Tryz.results102 rfl ?_
 intro w0
 refine tS (tR ?_)
 refine sE (C5 rfl rfl) rfl (fun b3 => ?_)
 refine sE (A6 rfl) rfl (fun b4 => ?_)
 refine A7 ?_
 refine sL (A2 rfl rfl (A9 (by repeat first | exact mH | apply mT)) hl) rfl rfl ?_
 (refine W0 rfl hT rfl rfl (fun v G1 outs hle1 hh => ?_); obtain ⟨p1, c1, e1, rfl, rfl, hr1⟩ := hh; replace hr := hr.mono hle1; replace hse := hse.mono hle1; replace hel := hel.mono hle1; have hv := A4K t G1 cells (by omega) hr)
 refine E3 ?_
 refine sB (O9 rfl rfl) rfl rfl (fun h16 => ?_) (fun h16 => ?_)
 refine S6 ?_
 refine F0 (rC rfl (A4 rfl rfl)) (rT rfl) ?_
 (rw [hno (fun hc => by first | omega | exact Bool.noConfusion (hc.1.symm.trans (show N8 t = false by assumption)) | exact Bool.noConfusion ((hc.2.2 _ (List.getElem_mem (show i < L.length by omega))).symm.trans (by assumption)))]; exact ⟨rfl, _, rfl, (Q1.zero _).R⟩)
 refine sQ (qM rfl) rfl ?_
 refine sL (A2 rfl rfl (A9 (by repeat first | exact mH | apply mT)) hl) rfl rfl ?_
 refine H4 rfl (hv) rfl rfl (fun h38 => ?_) (fun h38 => ?_)
 refine K3 ?_
 refine B8 ?_
 (refine I2 (fun (x : Nat) => ⟨[(6, .int .i64 x), (1, .slice p L.length c), (2, .pointer (some ⟨b3, 0, none⟩)), (4, .pointer (some ⟨b4, 0, none⟩))], [.blk b4 [.int .i64 0, .string ⟨⟨[]⟩⟩, .int .i64 0, .int .i64 0, .slice none 0 0, .int .i64 0, .slice none 0 0, .int .i64 0, .slice none 0 0], .blk b3 cells], G1⟩) (fun x => x ≤ L.length ∧ ∀ j, j < x → (h : j < L.length) → F9 L[j] = true) (fun x => L.length - x) 0 ?_ ?_ ?_)
 exact D3
 (exact ⟨Nat.zero_le _, fun j hj => absurd hj (by omega)⟩)
 (rintro (i : Nat) ⟨hi, hval⟩)
 refine A7 ?_
 refine sB (I0 rfl rfl) rfl rfl (fun h63 => ?_) (fun h63 => ?_)
 refine A7 ?_
 refine B8 ?_
 refine B6 ?_
 (obtain ⟨b0, o0, p20, c20, rfl, hat0, hre0, hgb0⟩ := hse.kidTy hel (i := i) (by omega) (by omega); have hV := A1J _ G1 _ hre0; refine sP (B3 rfl rfl rfl (by omega)) rfl rfl ?_)
 refine sL (A2 rfl rfl (hat0 _) rfl) rfl rfl ?_
 refine H4 rfl (hV) rfl rfl (fun h77 => ?_) (fun h77 => ?_)
 refine E4 ?_
 refine sP (H2 rfl rfl (by omega) (by omega)) rfl rfl ?_
 refine D7 ?_
 refine H9 (i + 1) ?_ ?_ ?_
 exact D3
 (exact ⟨by omega, fun j hj hl => by rcases Nat.lt_succ_iff_lt_or_eq.1 hj with h | h; exact hval j h hl; subst h; assumption⟩)
 (show L.length - (i + 1) < L.length - i; omega)
 refine S6 ?_
 refine F0 (rC rfl (A4 rfl rfl)) (rT rfl) ?_
 (rw [hno (fun hc => by first | omega | exact Bool.noConfusion (hc.1.symm.trans (show N8 t = false by assumption)) | exact Bool.noConfusion ((hc.2.2 _ (List.getElem_mem (show i < L.length by omega))).symm.trans (by assumption)))]; exact ⟨rfl, _, rfl, (Q1.zero _).R⟩)
 refine J5 ?_
 refine sL (A2 rfl rfl (A9 (by repeat first | exact mH | apply mT)) hl) rfl rfl ?_
 refine sQ (qM rfl) rfl ?_
 (have hTv := htv (by assumption); refine W0 rfl (B48 L p c hsm t 0 G1 cells es (by rw [← hTv]; omega) hLb hts hcnt hr hse hel) rfl rfl (fun v G3 outs hle3 hh => ?_); obtain ⟨rfl, cu, rfl, hru⟩ := hh; rw [List.drop_zero] at hru; have hul := hru.len; have huo := hru.one)
 refine E3 ?_
 refine sE (A6 rfl) rfl (fun b129 => ?_)
 refine sS rfl rfl rfl hul huo rfl ?_ (hu := by exact D5 hul.symm)
 refine B0 ?_
 refine sL (A2 rfl rfl (A9 (by repeat first | exact mH | apply mT)) hul) rfl rfl ?_
 refine sS rfl rfl rfl hul huo rfl ?_ (hu := by exact D5 hul.symm)
 refine B6 ?_
 refine F0 (rC rfl (A2 rfl rfl (A9 (by repeat first | exact mH | apply mT)) hul)) (rT rfl) ?_
 (rw [hyes (by assumption) (by omega) (fun j hj => hval j (by omega))]; exact ⟨rfl, _, rfl, hru⟩)
 refine K5 ?_
 refine F0 (rC rfl (A4 rfl rfl)) (rT rfl) ?_
 (rw [hno (fun hc => by first | omega | exact Bool.noConfusion (hc.1.symm.trans (show N8 t = false by assumption)) | exact Bool.noConfusion ((hc.2.2 _ (List.getElem_mem (show i < L.length by omega))).symm.trans (by assumption)))]; exact ⟨rfl, _, rfl, (Q1.zero _).R⟩)
theorem A5h {e : Tm} (h : (O0 e).isSome = true) : N8 e = true := by
 unfold O0 S1 at h
 split at h
 ·rename_i u t hx
  split at hx
  ·assumption
  ·cases hx
 ·cases h
mutual
theorem B0e : ∀ (t : Tm) (d : Int), M5 12 14 t d = true → t.small
 | .mk k nm num ty fr lb ks, d, h => by
  obtain ⟨_, h2, h3, h4⟩ := A0A h
  obtain ⟨n1, n2, n3, n4, n5, n6, n7, n8, n9⟩ := U2.1 h3
  rw [Tm.small]
  refine ⟨by have := A8G h3; omega, (A27 h3).1.small, by rw [A11 (n9 h2).1]; exact A2A, ?_, B0f ks _ h4⟩
  have := A1o k; omega
theorem B0f : ∀ (ts : List Tm) (d : Int), M3 12 14 ts d = true → Tm.smallL ts
 | [], _, _ => by rw [Tm.smallL]; trivial
 | t :: ts, d, h => by
  rw [M3, Bool.and_eq_true] at h
  rw [Tm.smallL]
  exact ⟨B0e t d h.1, B0f ts d h.2⟩
end
theorem A38 {e : Tm} (h : N8 e = true) : e.fit 30 := by
 obtain ⟨h1, h2⟩ := (Z8 e).1 h
 exact ⟨B0e e 1 h1, h2⟩
theorem Tm.fit.le {e : Tm} {n m : Nat} (h : e.fit n) (hm : n ≤ m) : e.fit m := ⟨h.1, Nat.le_trans h.2 hm⟩
mutual
theorem A5i : ∀ (t : Tm) (d : Int), M5 12 14 t d = true → ∀ u ∈ H0 t, F9 u = true
 | .mk k nm num ty fr lb ks, d, h => by
  obtain ⟨_, h2, h3, h4⟩ := A0A h
  obtain ⟨n1, n2, n3, n4, n5, n6, n7, n8, n9⟩ := U2.1 h3
  intro u hu
  rw [H0, List.mem_append] at hu
  rcases hu with hu | hu
  ·split at hu
   ·rename_i hk
    obtain rfl := List.mem_singleton.1 hu
    exact n6 (by omega)
   ·simp at hu
  ·exact B0g ks _ h4 u hu
theorem B0g : ∀ (ts : List Tm) (d : Int), M3 12 14 ts d = true → ∀ u ∈ H5 ts, F9 u = true
 | [], _, _ => by simp [H5]
 | t :: ts, d, h => by
  rw [M3, Bool.and_eq_true] at h
  intro u hu
  rw [H5, List.mem_append] at hu
  rcases hu with hu | hu
  ·exact A5i t d h.1 u hu
  ·exact B0g ts d h.2 u hu
end
mutual
theorem A5j : ∀ (t : Tm) (l : List Ty), t.small → (∀ u ∈ l, u.small) → (T9 t l).small ∧ D0 (T9 t l) = D0 t
 | .mk k nm num ty fr lb ks, l, h, hl => by
  obtain ⟨h1, h2, h3, h4, h5⟩ := A0t.1 h
  rw [T9]
  have hd : ∀ u ∈ (if k = 5 ∨ k = 13 then l.drop 1 else l), u.small := by
   intro u hu
   split at hu
   ·exact hl u (List.mem_of_mem_drop hu)
   ·exact hl u hu
  obtain ⟨g1, g2⟩ := B0h ks _ h5 hd
  refine ⟨A0t.2 ⟨h1, ?_, h3, by rw [A2c]; exact h4, g1⟩, by rw [Y8, Y8, g2]⟩
  split
  ·rw [List.getD_eq_getElem?_getD]
   cases hx : l[0]? with
   | none => exact A2A
   | some t => exact hl t (List.mem_of_getElem? hx)
  ·exact h2
theorem B0h : ∀ (ts : List Tm) (l : List Ty), Tm.smallL ts → (∀ u ∈ l, u.small) → Tm.smallL (O4 ts l) ∧ E7 (O4 ts l) = E7 ts
 | [], l, _, _ => by simp [O4, Tm.smallL, E7]
 | t :: ts, l, h, hl => by
  simp only [Tm.smallL] at h
  obtain ⟨a1, a2⟩ := A5j t l h.1 hl
  obtain ⟨b1, b2⟩ := B0h ts (l.drop (H0 t).length) h.2 (fun u hu => hl u (List.mem_of_mem_drop hu))
  simp only [O4, Tm.smallL, E7, a2, b2]
  exact ⟨⟨a1, b1⟩, trivial⟩
end
theorem B5b (br : Nat) (pb : Option Addr) (nb cb : Nat) (bs : List UInt8) (hnb : nb ≤ 2000) (p : Nat) (G : IM) (hb : Sl G pb nb cb 1 (N9 bs)) (hp : p + 9000000 < 1099511627776) :
  Fn Tryz.prog 110 [.pointer (some ⟨br, 0, none⟩)] [rd br pb nb cb p] G
   (A0e br pb nb cb p 9000000 (fun G' v => ∃ e cells, v = .agg ⟨cells⟩ ∧ A8 G' e cells ∧ e.fit 1100)) := by
 have hm8 : mB 8 = 1968200 := by decide
 refine C0 Tryz.func110 rfl Tryz.ntmps110 Tryz.results110 rfl ?_
 intro w0
 refine tS (tR ?_)
 refine sE (A6 rfl) rfl (fun b3 => ?_)
 refine D6 ?_
 refine B8 ?_
 (refine I2 (fun (x : Nat × Nat × IM) => ⟨[(3, .int .i64 x.1), (0, .pointer (some ⟨br, 0, none⟩)), (2, .pointer (some ⟨b3, 0, none⟩))], [rd br pb nb cb x.2.1, .blk b3 [.int .i64 0, .string ⟨⟨[]⟩⟩, .int .i64 0, .int .i64 0, .slice none 0 0, .int .i64 0, .slice none 0 0, .int .i64 0, .slice none 0 0]], x.2.2⟩) (fun x => x.1 ≤ 4 ∧ B9 G x.2.2 ∧ p ≤ x.2.1 ∧ x.2.1 ≤ p + x.1 * 2000000) (fun x => 4 - x.1) (0, p, G) ?_ ?_ ?_)
 (simp only [H6]; exact D3)
 (exact ⟨by omega, B9.refl _, Nat.le_refl _, by dsimp only; omega⟩)
 (rintro ⟨(i : Nat), (p1 : Nat), G1⟩ ⟨hi, hleL, hpL, hpL2⟩; simp only [] at hi hleL hpL hpL2 ⊢; replace hb := hb.mono hleL)
 refine B6 ?_
 refine sB (I0 rfl rfl) rfl rfl (fun h21 => ?_) (fun h21 => ?_)
 refine A7 ?_
 refine B8 ?_
 refine B0 ?_
 (refine I1 (C9 rfl rfl rfl (by omega) (by unfold maxLen; omega) rfl) rfl ?_; rintro _ ⟨b34, rfl⟩)
 (refine R6 (by repeat (first | exact Pk.here | apply Pk.there)) (fun Gf hlef hslf _ => ?_); refine I4 rfl (Y7 Gf br pb nb cb (p1) bs _ _ _ _ (hb.mono hlef) hnb (by omega) hslf (by decide)) (Pk.perm (by repeat (first | exact Pk.here | apply Pk.there))) rfl rfl (fun v Gm outs hlen hh => ?_); obtain ⟨rfl, rfl, hv⟩ := hh; replace hb := hb.mono hlef; obtain ⟨dd, rfl, hdd⟩ : ∃ d : Nat, v = .int .i64 ((d + 1 : Nat) : Int) ∧ d ≤ 2 := (by simp only [List.mem_cons, List.not_mem_nil, or_false] at hv; rcases hv with rfl | rfl | rfl | rfl <;> first | exact ⟨0, rfl, by decide⟩ | exact ⟨1, rfl, by decide⟩ | exact ⟨2, rfl, by decide⟩); have hdB := A4O hdd; replace hleL := hleL.trans hlef)
 (have hcall := A22 br pb nb cb bs hnb dd (p1 + 1) _ (by omega) hb (by omega); refine I4 rfl hcall (Pk.perm (by repeat (first | exact Pk.here | apply Pk.there))) rfl rfl (fun v Gn outs hleD hh => ?_); obtain ⟨pD, hpD1, hpD2, rfl, uD, cD, rfl, hrD, hsD, haD⟩ := hh; obtain ⟨qD, dD, eD, rfl, _⟩ := hrD.open; replace hb := hb.mono hleD; replace hleL := hleL.trans hleD)
 refine sQ (qM rfl) rfl ?_
 (refine I1 (C9 rfl rfl rfl (by omega) (by unfold maxLen; omega) rfl) rfl ?_; rintro _ ⟨b38, rfl⟩)
 (refine R6 (by repeat (first | exact Pk.here | apply Pk.there)) (fun Gf hlef hslf _ => ?_); refine I4 rfl (Y7 Gf br pb nb cb (pD) bs _ _ _ _ (hb.mono hlef) hnb (by omega) hslf (by decide)) (Pk.perm (by repeat (first | exact Pk.here | apply Pk.there))) rfl rfl (fun v Gm outs hlen hh => ?_); obtain ⟨rfl, rfl, hv⟩ := hh; replace hb := hb.mono hlef; replace hleL := hleL.trans hlef; replace hrD := hrD.mono hlef; obtain ⟨dp, rfl, hdp1, hdp2⟩ : ∃ d : Int, v = .int .i64 d ∧ 3 ≤ d ∧ d ≤ 5 := (by simp only [List.mem_cons, List.not_mem_nil, or_false] at hv; rcases hv with rfl | rfl | rfl | rfl <;> exact ⟨_, rfl, by decide, by decide⟩))
 (have hcall := A92 br pb nb cb bs hnb 8 dp uD (pD + 1) _ none 0 0 _ ⟨haD.le (by omega), by omega, by omega, .inr ⟨by omega, by omega⟩⟩ (by omega) (by omega) (by omega) (W1.nil _) hrD hb (by omega); refine I4 rfl hcall (Pk.perm (by repeat (first | exact Pk.here | apply Pk.there))) rfl rfl (fun v Gn outs hleM hh => ?_); obtain ⟨pM, hpM1, hpM2, rfl, eM, cM, rfl, hrM, hsmM, hcM⟩ := hh; have hlM := hrM.len; have hoM := hrM.one; replace hb := hb.mono hleM; replace hleL := hleL.trans hleM)
 refine sE (A6 rfl) rfl (fun b41 => ?_)
 refine U8 rfl rfl rfl hlM hoM rfl (by repeat first | exact Sw.here | apply Sw.there) (by exact D5 (by first | exact hlM.symm | omega)) ?_
 refine sD (nS (tS (tR ?_)))
 refine sL (A2 rfl rfl (A9 (by repeat first | exact mH | apply mT)) hlM) rfl rfl ?_
 (refine D8 rfl (A6Q eM _ _ (by omega) hrM) rfl rfl (fun v G9 hle9 hh => ?_); have hmv := @A5h eM; obtain ⟨mc, mt, rfl, hmr, hmu⟩ := hh; obtain ⟨pt, ct, et, rfl, _⟩ := hmr.open; replace hb := hb.mono hle9; replace hleL := hleL.trans hle9; replace hrM := hrM.mono hle9; generalize (O0 eM).isSome = mx at *; cases mx)
 refine E3 ?_
 refine sE (A6 rfl) rfl (fun b52 => ?_)
 refine I6 ?_
 refine sP (H2 rfl rfl (by omega) (by omega)) rfl rfl ?_
 refine D7 ?_
 refine H9 (i + 1, pM, G9) ?_ ?_ ?_
 (simp only [H6]; exact D3)
 (dsimp only; exact ⟨by omega, hleL, by omega, by omega⟩)
 (show 4 - (i + 1) < 4 - i; omega)
 refine E3 ?_
 refine sE (A6 rfl) rfl (fun b78 => ?_)
 refine K8 ?_
 refine sL (A2 rfl rfl (A9 (by repeat first | exact mH | apply mT)) hlM) rfl rfl ?_
 refine U8 rfl rfl rfl hlM hoM rfl (by repeat first | exact Sw.here | apply Sw.there) (by exact D5 (by first | exact hlM.symm | omega)) ?_
 refine D6 ?_
 refine H7 (outs := [rd br pb nb cb pM]) (rC rfl (A2 rfl rfl (A9 (by repeat first | exact mH | apply mT)) hlM)) (by repeat (first | exact A0.nil | refine A0.cons Pk.here ?_ | refine A0.cons (Pk.there Pk.here) ?_ | refine A0.cons (Pk.there (Pk.there Pk.here)) ?_ | apply A0.drop)) ?_
 (exact ⟨pM, by omega, by omega, rfl, eM, _, rfl, hrM, (A38 (hmv rfl)).le (by omega)⟩)
 refine J2 ?_
 (have hcall := B2I br pb nb cb bs hnb p1 _ hb (by omega); refine I4 rfl hcall (Pk.perm (by repeat (first | exact Pk.here | apply Pk.there))) rfl rfl (fun v Gn outs hleC hh => ?_); obtain ⟨pC, hpC1, hpC2, rfl, eC, cC, rfl, hrC, hcC⟩ := hh; have hlC := hrC.len; have hoC := hrC.one; have hcnt := A5T eC)
 refine U8 rfl rfl rfl hlC hoC rfl (by repeat first | exact Sw.here | apply Sw.there) (by exact D5 (by first | exact hlC.symm | omega)) ?_
 refine sD (nS (tT ?_))
 refine H7 (outs := [rd br pb nb cb pC]) (rC rfl (A2 rfl rfl (A9 (by repeat first | exact mH | apply mT)) hlC)) (by repeat (first | exact A0.nil | refine A0.cons Pk.here ?_ | refine A0.cons (Pk.there Pk.here) ?_ | refine A0.cons (Pk.there (Pk.there Pk.here)) ?_ | apply A0.drop)) ?_
 (exact ⟨pC, by omega, by omega, rfl, eC, _, rfl, hrC, A8a _ (by omega), by omega⟩)
mutual
theorem A5k : ∀ a : Ty, A1q a a = true
 | .mk k ks => by rw [A1b, B0i ks]; simp
theorem B0i : ∀ xs : List Ty, A0F xs xs = true
 | [] => rfl
 | a :: xs => by rw [A0F, A5k a, B0i xs]; rfl
end
theorem B5c (a : Ty) : A1q a (.mk 1 []) = true := by obtain ⟨k, ks⟩ := a; rw [A1b]; simp
def PLe (l l' : List Ty) : Prop := ∀ i, A1q (l.getD i B2) (l'.getD i B2) = true
theorem PLe.drop {l l' : List Ty} (h : PLe l l') (n : Nat) : PLe (l.drop n) (l'.drop n) := by
 intro i
 have := h (n + i)
 simpa [List.getD_eq_getElem?_getD, List.getElem?_drop] using this
mutual
theorem B0j : ∀ (t : Tm) (l l' : List Ty), PLe l l' → A2G (T9 t l) (T9 t l') = true
 | .mk k nm num ty fr lb ks, l, l', h => by
  rw [T9, T9, A81]
  refine ⟨rfl, rfl, rfl, fun hk => ?_, ?_⟩
  ·rw [if_pos hk, if_pos hk]; exact h 0
  ·split
   ·exact A6S ks _ _ (h.drop 1)
   ·exact A6S ks _ _ h
theorem A6S : ∀ (ts : List Tm) (l l' : List Ty), PLe l l' → A19 (O4 ts l) (O4 ts l') = true
 | [], _, _, _ => by rw [O4, O4]; rfl
 | t :: ts, l, l', h => by
  rw [O4, O4, A19, B0j t l l' h, A6S ts _ _ (h.drop _)]; rfl
end
theorem A6T (m : Nat) : ∀ (L : List Ty) (j i : Nat), (P1 m j L).getD i B2 = if i < L.length then (if (m / 2 ^ (j + i)) % 2 = 1 then .mk 1 [] else L.getD i B2) else B2
 | [], j, i => by simp [P1]
 | t :: ts, j, 0 => by simp [P1]
 | t :: ts, j, i + 1 => by
  rw [P1, List.getD_cons_succ, A6T m ts (j + 1) i, List.getD_cons_succ, show j + 1 + i = j + (i + 1) by omega]
  simp
theorem B5d {m m' : Nat} (L : List Ty) (h : ∀ i, (m / 2 ^ i) % 2 = 1 → (m' / 2 ^ i) % 2 = 1) : PLe (P1 m 0 L) (P1 m' 0 L) := by
 intro i
 rw [A6T, A6T]
 by_cases hi : i < L.length
 ·rw [if_pos hi, if_pos hi, Nat.zero_add]
  by_cases h1 : (m / 2 ^ i) % 2 = 1
  ·rw [if_pos h1, if_pos (h i h1)]; exact A5k _
  ·rw [if_neg h1]
   split
   ·exact B5c _
   ·exact A5k _
 ·rw [if_neg hi, if_neg hi]; exact A5k _
mutual
theorem B0k : ∀ (t : Tm) (l : List Ty) (d : Int), M5 12 14 t d = true → (H0 t).length ≤ l.length → (∀ u ∈ l, F9 u = true) → M5 12 14 (T9 t l) d = true
 | .mk k nm num ty fr lb ks, l, d, h, hl, hv => by
  obtain ⟨h1, h2, h3, h4⟩ := A0A h
  obtain ⟨n1, n2, n3, n4, n5, n6, n7, n8, n9⟩ := U2.1 h3
  rw [H0, List.length_append] at hl
  rw [T9, A08 h1 h2]
  ·refine B0l ks _ _ h4 ?_ ?_
   ·split
    ·rename_i hk
     rw [if_pos hk] at hl
     simp only [List.length_singleton] at hl
     rw [List.length_drop]; omega
    ·rename_i hk
     rw [if_neg hk] at hl
     simpa using hl
   ·intro u hu
    split at hu
    ·exact hv u (List.mem_of_mem_drop hu)
    ·exact hv u hu
  ·rw [A2c]
   by_cases hk : k = 5 ∨ k = 13
   ·rw [if_pos hk] at hl ⊢
    simp only [List.length_singleton] at hl
    refine U2.2 ⟨n1, n2, n3, n4, n5, fun _ => ?_, fun hn => absurd hk (by omega), fun h14 => absurd h14 h2, n9⟩
    rw [List.getD_eq_getElem?_getD, List.getElem?_eq_getElem (by omega), Option.getD_some]
    exact hv _ (List.getElem_mem _)
   ·rw [if_neg hk]; exact h3
theorem B0l : ∀ (ts : List Tm) (l : List Ty) (d : Int), M3 12 14 ts d = true → (H5 ts).length ≤ l.length → (∀ u ∈ l, F9 u = true) → M3 12 14 (O4 ts l) d = true
 | [], _, _, _, _, _ => by rw [O4]; rfl
 | t :: ts, l, d, h, hl, hv => by
  rw [M3, Bool.and_eq_true] at h
  rw [H5, List.length_append] at hl
  rw [O4, M3, B0k t l d h.1 (by omega) hv, B0l ts _ d h.2 (by rw [List.length_drop]; omega) (fun u hu => hv u (List.mem_of_mem_drop hu))]; rfl
end
theorem B0m {e : Tm} (h : N8 e = true) (m : Nat) : ∀ u ∈ P1 m 0 (H0 e), F9 u = true := by
 intro u hu
 rcases A2K m (H0 e) 0 u hu with h1 | h1
 ·rw [h1]; decide
 ·exact A5i e 1 ((Z8 e).1 h).1 u h1
theorem B0n {e : Tm} (h : N8 e = true) (m : Nat) : N8 (P5 e m) = true := by
 obtain ⟨h1, h2⟩ := (Z8 e).1 h
 have hf := (A5j e (P1 m 0 (H0 e)) (A38 h).1 (fun u hu => (A26 (B0m h m u hu)).1.small)).2
 refine (Z8 _).2 ⟨?_, ?_⟩
 ·unfold P5
  exact B0k e _ 1 h1 (by rw [A2d]; omega) (B0m h m)
 ·unfold P5; omega
theorem B5e {e : Tm} {m m' : Nat} (h : N8 e = true) (hb : ∀ i, (m / 2 ^ i) % 2 = 1 → (m' / 2 ^ i) % 2 = 1) : A3d (P5 e m) (P5 e m') = true := by
 unfold A3d
 rw [B0n h m, B0n h m']
 unfold P5
 rw [B0j e _ _ (B5d _ hb)]; rfl
mutual
theorem B0o : ∀ (t : Tm) (l : List Ty), T9 t (H0 t ++ l) = t
 | .mk k nm num ty fr lb ks, l => by
  rw [T9, H0]
  by_cases hk : k = 5 ∨ k = 13
  ·rw [if_pos hk, if_pos hk, if_pos hk]
   simp only [List.cons_append, List.nil_append, List.getD_cons_zero, List.drop_succ_cons, List.drop_zero]
   rw [A6U ks l]
  ·rw [if_neg hk, if_neg hk, if_neg hk, List.nil_append, A6U ks l]
theorem A6U : ∀ (ts : List Tm) (l : List Ty), O4 ts (H5 ts ++ l) = ts
 | [], _ => by rw [O4]
 | t :: ts, l => by
  rw [H5, O4, List.append_assoc, B0o t]
  rw [List.drop_left, A6U ts l]
end
theorem B0p : ∀ (L : List Ty) (j : Nat), P1 0 j L = L
 | [], _ => rfl
 | t :: ts, j => by rw [P1, B0p ts]; simp
theorem B0q (e : Tm) : P5 e 0 = e := by
 unfold P5
 rw [B0p]
 have := B0o e []
 rwa [List.append_nil] at this
section masks
variable {P : Program} {Γ : L9} {env : M4} {hp : List A5} {G : IM} {ty : TypeId}
end masks
theorem B5f {e : Tm} {m : Nat} (h : N8 e = true) : A2M e (P1 m 0 (H0 e)) = some (P5 e m) := by
 unfold P5
 refine B0d h (by rw [A1f h, A2d]) fun j hj _ => ?_
 rcases A2K m (H0 e) 0 _ (List.getElem_mem hj) with h1 | h1
 ·rw [h1]; decide
 ·exact A5i e 1 ((Z8 e).1 h).1 _ h1
theorem B0r (t : Tm) (m : Nat) (G : IM) (cells : List Value) (hv : N8 t = true) (h6 : (H0 t).length ≤ 60) (hm : m < 2 ^ (H0 t).length) (hm2 : m ≤ 4294967296) (hr : A8 G t cells) :
  Fn Tryz.prog 62 [.agg ⟨cells⟩, .int .i64 (m : Int)] [] G (J4 fun G' v => ∃ cu, v = .tuple ⟨[.agg ⟨cu⟩, .bool true]⟩ ∧ A8 G' (P5 t m) cu) := by
 have hl := hr.len
 have hone := hr.one
 have hf := A38 hv
 have hcnt := hf.2
 have hT := A6R t G cells hf.1 (by omega) hr
 rw [A1f hv] at hT
 have hst0 := A32 t hf.1
 have hbw := @B5f t m hv
 obtain ⟨L, hL⟩ : ∃ L, H0 t = L := ⟨_, rfl⟩
 have hml := A2d m L 0
 rw [hL] at hT h6 hm hst0 hbw
 have hWt := fun G cells p c es => B5a t (P1 m 0 L) G cells p c es hf.1 (by omega) (by rw [hml]; omega) (fun u hu => by rcases A2K m L 0 u hu with rfl | hu; exact A49; exact hst0 u hu)
 rw [hml, hbw] at hWt
 refine C0 Tryz.func62 rfl Tryz.ntmps62 Tryz.results62 rfl ?_
 intro w0
 refine tS (tR ?_)
 refine sE (C5 rfl rfl) rfl (fun b3 => ?_)
 refine sE (A6 rfl) rfl (fun b4 => ?_)
 refine B0 ?_
 refine sL (A2 rfl rfl (A9 (by repeat first | exact mH | apply mT)) hl) rfl rfl ?_
 (refine W0 rfl hT rfl rfl (fun v G1 outs hle1 hh => ?_); obtain ⟨p, c, es0, rfl, rfl, hr1⟩ := hh; replace hr := hr.mono hle1; obtain ⟨M, hM⟩ : ∃ M, 2 ^ L.length = M := ⟨_, rfl⟩; rw [hM] at hm)
 refine B4 ?_
 refine sP (A1i rfl rfl (by omega)) rfl rfl ?_
 refine B6 ?_
 (refine sP (A31 rfl rfl (by omega)) rfl rfl ?_; rw [hM])
 refine sP (A7o rfl rfl (by omega)) rfl rfl ?_
 refine K8 ?_
 refine B8 ?_
 (refine A7t (fun a w hs => hs.slc_ptT (p := p) (c := c) (el := 25) (sz := 2) (n := L.length) (cs := es0.flatten) (by repeat first | exact mH | apply mT)) (fun hq => ?_); refine I2 (fun (x : Nat × List (List Value)) => ⟨[(7, .int .i64 x.1), (6, .slice p L.length c), (1, .int .i64 (m : Int)), (2, .pointer (some ⟨b3, 0, none⟩)), (4, .pointer (some ⟨b4, 0, none⟩))], [.slc p c 25 2 L.length x.2.flatten, .blk b4 [.int .i64 0, .string ⟨⟨[]⟩⟩, .int .i64 0, .int .i64 0, .slice none 0 0, .int .i64 0, .slice none 0 0, .int .i64 0, .slice none 0 0], .blk b3 cells], G1⟩) (fun x => x.1 ≤ L.length ∧ C8 G1 (P1 m 0 (L.take x.1) ++ L.drop x.1) x.2) (fun x => L.length - x.1) (0, es0) ?_ ?_ ?_)
 (simp only [H6]; exact D3)
 (exact ⟨Nat.zero_le _, by simpa [P1] using hr1⟩)
 (rintro ⟨(i : Nat), es⟩ ⟨hi, hst⟩; simp only [] at hi hst ⊢; have hesl : es.length = L.length := (by have h0 := hst.len; simp only [List.length_append, A2d, List.length_take, List.length_drop] at h0; omega); have hstep := A9P m L i)
 refine A7 ?_
 refine sB (I0 rfl rfl) rfl rfl (fun h49 => ?_) (fun h49 => ?_)
 refine A7 ?_
 refine B8 ?_
 refine B6 ?_
 refine sP (A9R rfl rfl (by omega)) rfl rfl ?_
 refine sQ (A9S rfl rfl) rfl (sB (qE rfl rfl) rfl rfl (fun h63 => ?_) (fun h63 => ?_))
 refine A7 ?_
 refine H3 rfl (A1m _) rfl rfl ?_
 (obtain ⟨g, rfl, hgc⟩ := hq.resolve_left (by omega); refine sP (B3 (j := i) rfl rfl rfl (by omega)) rfl rfl ?_)
 refine A9T rfl rfl rfl rfl rfl rfl (by repeat first | exact Sw.here | apply Sw.there) (A9U (by omega) (fun e he => (hst.each e he).1) rfl) ?_
 refine B0 ?_
 refine sP (H2 rfl rfl (by omega) (by omega)) rfl rfl ?_
 refine D7 ?_
 (rw [if_pos (by omega)] at hstep; refine H9 (i + 1, es.set i [.int .i64 1, .slice none 0 0]) ?_ ?_ ?_)
 (simp only [H6]; exact D3)
 (dsimp only; exact ⟨by omega, by rw [hstep (by omega)]; first | exact hst.set i (A5a _) | exact hst⟩)
 (show L.length - (i + 1) < L.length - i; omega)
 refine D6 ?_
 refine sP (H2 rfl rfl (by omega) (by omega)) rfl rfl ?_
 refine D7 ?_
 (rw [if_neg (by omega)] at hstep; refine H9 (i + 1, es) ?_ ?_ ?_)
 (simp only [H6]; exact D3)
 (dsimp only; exact ⟨by omega, by rw [hstep (by omega)]; first | exact hst.set i (A5a _) | exact hst⟩)
 (show L.length - (i + 1) < L.length - i; omega)
 refine J5 ?_
 refine sL (A2 rfl rfl (A9 (by repeat first | exact mH | apply mT)) hl) rfl rfl ?_
 refine sQ (qM rfl) rfl ?_
 (obtain rfl : i = L.length := (by omega); rw [List.take_length, List.drop_length, List.append_nil] at hst; refine R6 (cs := es.flatten) (by repeat (first | exact Pk.here | apply Pk.there)) (fun G2 hle2 hsl2 hno2 => ?_); refine D8 rfl (hWt G2 cells p c es (hr.mono hle2) (D1.of hsl2 hesl hst.all (fun e he => (hst.each e he).2)) (hst.mono hle2)) rfl rfl (fun v G3 hle3 hh => ?_); obtain ⟨cu, rfl, hru⟩ := hh; have hul := hru.len; have huo := hru.one)
 refine D7 ?_
 refine sS rfl rfl rfl hul huo rfl ?_ (hu := by exact D5 hul.symm)
 refine B6 ?_
 refine F0 (rC rfl (A2 rfl rfl (A9 (by repeat first | exact mH | apply mT)) hul)) (rT rfl) ?_
 (exact ⟨rfl, cu, rfl, hru⟩)
theorem B0s (e : Tm) (fuel : Int) (G : IM) (cells : List Value) (hts : e.small) (hcnt : D0 e ≤ 4000000) (hr : A8 G e cells) :
  Fn Tryz.prog 60 [.agg ⟨cells⟩, .int .i64 fuel] [] G (J4 fun _ v => v = .bool (decide ((O0 e).isSome = true ∧ (T3 e).length ≤ 6 ∧ 0 ≤ fuel ∧ fuel ≤ 300))) := by
 have hl := hr.len
 have hone := hr.one
 refine C0 Tryz.func60 rfl Tryz.ntmps60 Tryz.results60 rfl ?_
 intro w0
 refine tS (tR ?_)
 refine sE (C5 rfl rfl) rfl (fun b3 => ?_)
 refine B0 ?_
 refine sL (A2 rfl rfl (A9 (by repeat first | exact mH | apply mT)) hl) rfl rfl ?_
 (refine D8 rfl (A6Q e G cells (by omega) hr) rfl rfl (fun v1 G1 hle1 hh => ?_); obtain ⟨mc, mt, rfl, hmr, hmu⟩ := hh; obtain ⟨qt, dt, et2, rfl, _⟩ := hmr.open; replace hr := hr.mono hle1; have hC := A5g e G1 cells hts hcnt hr; generalize (O0 e).isSome = A1 at *; generalize (T3 e).length = n1 at *; cases A1)
 refine E3 ?_
 refine sE (A6 rfl) rfl (fun b14 => ?_)
 refine A3z ?_
 (exact ⟨rfl, by rw [decide_eq_false (fun hc => by first | exact Bool.noConfusion hc.1 | omega)]⟩)
 refine E3 ?_
 refine sE (A6 rfl) rfl (fun b44 => ?_)
 refine D6 ?_
 refine sL (A2 rfl rfl (A9 (by repeat first | exact mH | apply mT)) hl) rfl rfl ?_
 (refine D8 rfl hC rfl rfl (fun v2 G2 hle2 hh => ?_); subst hh)
 refine sB (Y0 rfl rfl) rfl rfl (fun h55 => ?_) (fun h55 => ?_)
 refine E3 ?_
 refine sB (A0J rfl rfl) rfl rfl (fun h59 => ?_) (fun h59 => ?_)
 refine E3 ?_
 refine sB (Y0 rfl rfl) rfl rfl (fun h63 => ?_) (fun h63 => ?_)
 refine A7 ?_
 (exact ⟨rfl, by rw [decide_eq_true ⟨rfl, by omega, by omega, by omega⟩]⟩)
 refine A7 ?_
 (exact ⟨rfl, by rw [decide_eq_false (fun hc => by first | exact Bool.noConfusion hc.1 | omega)]⟩)
 refine J5 ?_
 (exact ⟨rfl, by rw [decide_eq_false (fun hc => by first | exact Bool.noConfusion hc.1 | omega)]⟩)
 refine K5 ?_
 (exact ⟨rfl, by rw [decide_eq_false (fun hc => by first | exact Bool.noConfusion hc.1 | omega)]⟩)
def B6V (t : Tm) : Tm × Bool := if N8 t = true ∨ P0 t = true then (A8y t, true) else (K1, false)
def erG : Tm → Tm
 | .mk k nm num ty fr lb ks => if A1t k = true then .mk k nm num P8 fr lb ks else .mk k nm num ty fr lb ks
def B6W (t : Tm) : Tm := A10 erG t
theorem B5g (t : Tm) (m : Nat) (G : IM) (cells : List Value) (hv : N8 t = true) (h6 : (H0 t).length ≤ 6) (hm : m < 2 ^ (H0 t).length) (hr : A8 G t cells) :
  Fn Tryz.prog 31 [.agg ⟨cells⟩, .int .i64 (m : Int)] [] G (J4 fun G' v => ∃ cu, v = .tuple ⟨[.agg ⟨cu⟩, .bool true]⟩ ∧ A8 G' (P5 t m) cu) := by
 have hl := hr.len
 have hone := hr.one
 have hV := A4E t G cells hr
 rw [hv] at hV
 have hf := A38 hv
 have hcnt := hf.2
 have hTy := A48 t G cells hf.1 (by omega) hr
 have hp6 : 2 ^ (H0 t).length ≤ 2 ^ 6 := Nat.pow_le_pow_right (by decide) h6
 have hB := fun G hr => A9W t m G cells hf.1 (by omega) (by omega) (by omega) hr
 obtain ⟨L, hL⟩ : ∃ L, (H0 t).length = L := ⟨_, rfl⟩
 rw [hL] at hp6 hm h6
 refine C0 Tryz.func31 rfl Tryz.ntmps31 Tryz.results31 rfl ?_
 intro w0
 refine tS (tR ?_)
 refine sE (C5 rfl rfl) rfl (fun b3 => ?_)
 refine sE (A6 rfl) rfl (fun b4 => ?_)
 refine A7 ?_
 refine sL (A2 rfl rfl (A9 (by repeat first | exact mH | apply mT)) hl) rfl rfl ?_
 refine H3 rfl (hV) rfl rfl ?_
 refine E3 ?_
 refine sL (A2 rfl rfl (A9 (by repeat first | exact mH | apply mT)) hl) rfl rfl ?_
 (refine W0 rfl hTy rfl rfl (fun v1 G1 outs hle1 hh => ?_); obtain ⟨p1, c1, es1, rfl, rfl, hr1⟩ := hh; rw [hL]; replace hr := hr.mono hle1)
 refine P3 ?_
 refine sP (A31 rfl rfl (by omega)) rfl rfl ?_
 refine sP (P2 rfl rfl (by omega) (by omega)) rfl rfl ?_
 (have hW := A05 (m : Int) 0 (((2 ^ L : Nat) : Int) - 1) G1; rw [A14.2 ⟨by omega, by omega⟩] at hW; refine H3 rfl hW rfl rfl ?_)
 refine E4 ?_
 refine sL (A2 rfl rfl (A9 (by repeat first | exact mH | apply mT)) hl) rfl rfl ?_
 refine sQ (qM rfl) rfl ?_
 (refine D8 rfl (hB _ hr) rfl rfl (fun v3 G3 hle3 hh => ?_); obtain ⟨cu, rfl, hru⟩ := hh; have hul := hru.len; have huo := hru.one)
 refine sS rfl rfl rfl hul huo rfl ?_ (hu := by exact D5 hul.symm)
 refine B6 ?_
 refine F0 (rC rfl (A2 rfl rfl (A9 (by repeat first | exact mH | apply mT)) hul)) (rT rfl) ?_
 exact ⟨rfl, cu, rfl, hru⟩
mutual
def Q4 : Tm → List Tm
 | .mk k nm num ty fr lb ks => (if k = 14 then [.mk k nm num ty fr lb ks] else []) ++ O8 ks
def O8 : List Tm → List Tm
 | [] => []
 | t :: ts => Q4 t ++ O8 ts
end
theorem A6V : ∀ (a b : List Tm), O8 (a ++ b) = O8 a ++ O8 b
 | [], b => by rw [O8, List.nil_append, List.nil_append]
 | t :: a, b => by rw [List.cons_append, O8, O8, A6V a b, List.append_assoc]
theorem A5l {ks : List Tm} {i : Nat} (hi : i < ks.length) : O8 (ks.take (i + 1)) = O8 (ks.take i) ++ Q4 ks[i] := by
 rw [List.take_succ_eq_append_getElem hi, A6V, O8, O8, List.append_nil]
mutual
theorem A2N : ∀ t : Tm, (Q4 t).length ≤ D0 t
 | .mk k nm num ty fr lb ks => by
  have := A1U ks
  rw [Q4, D0, List.length_append]
  split <;> simp <;> omega
theorem A1U : ∀ ts : List Tm, (O8 ts).length ≤ E7 ts
 | [] => by rw [O8, E7]; simp
 | t :: ts => by
  have := A2N t
  have := A1U ts
  rw [O8, E7, List.length_append]; omega
end
def B0t (label : Int) (x : Tm) : Bool := decide (x.lb = label)
def B6X (t : Tm) (label : Int) : Prop := ((Q4 t).find? (B0t label) = none → (A4x t []).find? (pAt t label) = none) ∧ (∀ x, (Q4 t).find? (B0t label) = some x → ∃ l, (A4x t []).find? (pAt t label) = some l ∧ tAt t l = some x)
def B0u (label : Int) : List Tm → List Ty
 | [] => []
 | c :: cs => (if c.lb = label then [c.fr, c.ty] else []) ++ B0u label cs
def B6Y (t : Tm) (label : Int) : List Ty := if P0 t = true then B0u label (Q4 t) else []
mutual
def A3m : GT → GT → Bool
 | _, .any => true
 | .fn a b, .fn c d => A2f c a && A3m b d
 | .pr a b, .pr c d => A3m a c && A3m b d
 | .int, .int => true
 | .bool, .bool => true
 | _, _ => false
termination_by a b => SizeOf.sizeOf a + SizeOf.sizeOf b
def A2f : GT → GT → Bool
 | .any, _ => true
 | .fn a b, .any => A3m .any a && A2f b .any
 | .pr a b, .any => A2f a .any && A2f b .any
 | .int, .any => true
 | .bool, .any => true
 | .fn a b, .fn c d => A3m c a && A2f b d
 | .pr a b, .pr c d => A2f a c && A2f b d
 | .int, .int => true
 | .bool, .bool => true
 | _, _ => false
termination_by a b => SizeOf.sizeOf a + SizeOf.sizeOf b
end
def GQ (Q : GT → GT → Int → Prop) : GE → Prop
 | .var _ => True
 | .num _ => True
 | .tru _ => True
 | .lam _ _ e => GQ Q e
 | .app f a => GQ Q f ∧ GQ Q a
 | .ar _ a b => GQ Q a ∧ GQ Q b
 | .ite c a b => GQ Q c ∧ GQ Q a ∧ GQ Q b
 | .pair a b => GQ Q a ∧ GQ Q b
 | .part _ e => GQ Q e
 | .cast A B l e => Q A B l ∧ GQ Q e
structure Clo (Q : GT → GT → Int → Prop) : Prop where
 fn : ∀ {a b c d l}, Q (.fn a b) (.fn c d) l → Q c a (-l) ∧ Q b d l
 pr : ∀ {a b c d l}, Q (.pr a b) (.pr c d) l → Q a c l ∧ Q b d l
 up : ∀ {A l}, A ≠ .any → Q A .any l → Q A.gr .any l ∧ Q A A.gr l
 down : ∀ {B l}, B ≠ .any → Q .any B l → Q B.gr B l ∧ Q .any B.gr l
def QL (m : Int) : GT → GT → Int → Prop := fun A B l => (l = m → A3m A B = true) ∧ (l = -m → A2f A B = true)
def mLb (t : Tm) : List Int := (Q4 t).map Tm.lb
def A0i (ts : List Tm) : List Int := (O8 ts).map Tm.lb
theorem B0v : A0i [] = [] := by unfold A0i; rw [O8]; rfl
theorem A39 (t : Tm) (ts : List Tm) : A0i (t :: ts) = mLb t ++ A0i ts := by unfold A0i mLb; rw [O8, List.map_append]
theorem B5h {k : Int} {nm : ByteArray} {num : Int} {ty fr : Ty} {lb : Int} {ks : List Tm} (hk : k ≠ 14) : mLb (.mk k nm num ty fr lb ks) = A0i ks := by unfold A0i mLb; rw [Q4, if_neg hk, List.nil_append]
theorem B5i (u : Tm) (a b : Ty) (l : Int) : mLb (L3 u a b l) = l :: mLb u := by
 unfold mLb L3
 rw [Q4, if_pos rfl, O8, O8, List.append_nil]
 rfl
structure Lbs (ls : List Int) (l l' : Int) : Prop where
 le : l ≤ l'
 nd : ls.Nodup
 len : (ls.length : Int) = l' - l
 mem : ∀ m ∈ ls, l < m ∧ m ≤ l'
theorem Lbs.nil (l : Int) : Lbs [] l l := ⟨Int.le_refl _, List.nodup_nil, by simp, fun m h => by simp at h⟩
theorem Lbs.app {a b : List Int} {l l1 l2 : Int} (h : Lbs a l l1) (h2 : Lbs b l1 l2) : Lbs (a ++ b) l l2 := by
 have e1 := h.le
 have e2 := h2.le
 have e3 := h.len
 have e4 := h2.len
 refine ⟨by omega, ?_, by rw [List.length_append]; omega, ?_⟩
 ·rw [List.nodup_append]
  refine ⟨h.nd, h2.nd, ?_⟩
  rintro x hx y hy rfl
  have g1 := h.mem x hx
  have g2 := h2.mem x hy
  omega
 ·intro m hm
  rcases List.mem_append.1 hm with hm | hm
  ·have := h.mem m hm; omega
  ·have := h2.mem m hm; omega
theorem A3n {us : List Tm} {h w : List Ty} {l : Int} (hn : us = [] ∨ h = [] ∨ w = []) : E5 us h w l = (us, l) := by
 rcases hn with rfl | rfl | rfl
 ·simp [E5]
 ·simp [E5]
 ·simp [E5]
theorem A6W : ∀ (us : List Tm) (h w : List Ty) (l : Int), (∀ m ∈ A0i us, m ≤ l) → (A0i us).Nodup →
  l ≤ (E5 us h w l).2 ∧ (A0i (E5 us h w l).1).Nodup ∧ ((A0i (E5 us h w l).1).length : Int) = (A0i us).length + ((E5 us h w l).2 - l) ∧ ∀ m ∈ A0i (E5 us h w l).1, m ∈ A0i us ∨ (l < m ∧ m ≤ (E5 us h w l).2)
 | [], h, w, l, h1, h2 => by rw [A3n (by simp)]; exact ⟨Int.le_refl _, h2, by simp, fun m hm => .inl hm⟩
 | u :: us, [], w, l, h1, h2 => by rw [A3n (by simp)]; exact ⟨Int.le_refl _, h2, by simp, fun m hm => .inl hm⟩
 | u :: us, a :: h, [], l, h1, h2 => by rw [A3n (by simp)]; exact ⟨Int.le_refl _, h2, by simp, fun m hm => .inl hm⟩
 | u :: us, a :: h, b :: w, l, h1, h2 => by
  rw [A39] at h1 h2
  rw [List.nodup_append] at h2
  obtain ⟨n1, n2, n3⟩ := h2
  rw [E5]
  split
  ·obtain ⟨i1, i2, i3, i4⟩ := A6W us h w l (fun m hm => h1 m (List.mem_append_right _ hm)) n2
   simp only [A39, List.length_append]
   refine ⟨i1, ?_, by omega, ?_⟩
   ·rw [List.nodup_append]
    refine ⟨n1, i2, ?_⟩
    rintro x hx y hy rfl
    rcases i4 x hy with g | g
    ·exact n3 x hx x g rfl
    ·have := h1 x (List.mem_append_left _ hx); omega
   ·intro m hm
    rcases List.mem_append.1 hm with hm | hm
    ·exact .inl (List.mem_append_left _ hm)
    ·rcases i4 m hm with g | g
     ·exact .inl (List.mem_append_right _ g)
     ·exact .inr g
  ·obtain ⟨i1, i2, i3, i4⟩ := A6W us h w (l + 1) (fun m hm => by have := h1 m (List.mem_append_right _ hm); omega) n2
   simp only [A39, B5i, List.length_append, List.length_cons, List.cons_append]
   refine ⟨by omega, ?_, by omega, ?_⟩
   ·rw [List.nodup_cons, List.nodup_append]
    refine ⟨fun hm => ?_, n1, i2, ?_⟩
    ·rcases List.mem_append.1 hm with hm | hm
     ·have := h1 _ (List.mem_append_left _ hm); omega
     ·rcases i4 _ hm with g | g
      ·have := h1 _ (List.mem_append_right _ g); omega
      ·omega
    ·rintro x hx y hy rfl
     rcases i4 x hy with g | g
     ·exact n3 x hx x g rfl
     ·have := h1 x (List.mem_append_left _ hx); omega
   ·intro m hm
    rcases List.mem_cons.1 hm with rfl | hm
    ·exact .inr (by omega)
    rcases List.mem_append.1 hm with hm | hm
    ·exact .inl (List.mem_append_left _ hm)
    ·rcases i4 m hm with g | g
     ·exact .inl (List.mem_append_right _ g)
     ·exact .inr (by omega)
theorem A6X : ∀ (us : List Tm) (h w : List Ty) (l : Int), (E5 us h w l).1.length = us.length
 | [], h, w, l => by rw [A3n (by simp)]
 | u :: us, [], w, l => by rw [A3n (by simp)]
 | u :: us, a :: h, [], l => by rw [A3n (by simp)]
 | u :: us, a :: h, b :: w, l => by
  rw [E5]
  split
  ·simp only [List.length_cons, A6X us h w l]
  ·simp only [List.length_cons, A6X us h w (l + 1)]
theorem B5j (ks : List Tm) (ih : ∀ t ∈ ks, ∀ (d : Int) (cx : Cx) (l : Int) (u : Tm) (a : Ty) (l' : Int), M5 12 14 t d = true → M0 cx t l = some (u, a, l') → Lbs (mLb u) l l') :
  ∀ (d : Int) (cx : Cx) (l : Int) (us : List Tm) (h : List Ty) (l' : Int), M3 12 14 ks d = true → L0 cx ks l = some (us, h, l') → Lbs (A0i us) l l' ∧ us.length = ks.length := by
 induction ks with
 | nil =>
  intro d cx l us h l' _ hE
  rw [L0] at hE
  cases hE
  rw [B0v]
  exact ⟨Lbs.nil _, rfl⟩
 | cons t ts ihl =>
  intro d cx l us h l' hs hE
  rw [M3, Bool.and_eq_true] at hs
  rw [L0] at hE
  split at hE
  ·cases hE
  ·rename_i u a l1 h1
   split at hE
   ·cases hE
   ·rename_i us2 h2 l2 hE2
    cases hE
    obtain ⟨g1, g2⟩ := ihl (fun t ht => ih t (List.mem_cons_of_mem _ ht)) d cx l1 us2 h2 _ hs.2 hE2
    rw [A39]
    exact ⟨(ih t List.mem_cons_self d cx l u a l1 hs.1 h1).app g1, by simp only [List.length_cons, g2]⟩
theorem B5k : ∀ (t : Tm) (d : Int) (cx : Cx) (l : Int) (u : Tm) (a : Ty) (l' : Int), M5 12 14 t d = true → M0 cx t l = some (u, a, l') → Lbs (mLb u) l l' := by
 refine Tm.ind fun k nm num ty fr lb ks ih d cx l u a l' hs hE => ?_
 obtain ⟨_, h2, h3, h4⟩ := A0A hs
 have hops := (U2.1 h3).1
 rw [M0] at hE
 split at hE
 ·cases hE
 ·rename_i us h l1 hL
  obtain ⟨g1, g2⟩ := B5j ks ih _ _ _ _ _ _ h4 hL
  rw [Q5] at hE
  split at hE
  ·cases hE
  ·rename_i w t' hN
   cases hE
   obtain ⟨i1, i2, i3, i4⟩ := A6W us h w l1 (fun m hm => (g1.mem m hm).2) g1.nd
   have hle := g1.le
   have hln := g1.len
   have hR : Lbs (A0i (E5 us h w l1).1) l (E5 us h w l1).2 := ⟨by omega, i2, by omega, fun m hm => by
    rcases i4 m hm with g | g
    ·have := g1.mem m g; omega
    ·omega⟩
   split
   ·rename_i hk
    subst hk
    have hl : (E5 us h w l1).1.length = 1 := by rw [A6X, g2]; rw [show E2 13 = 1 from rfl] at hops; omega
    obtain ⟨x, hx⟩ : ∃ x, (E5 us h w l1).1 = [x] := List.length_eq_one_iff.1 hl
    rw [hx] at hR ⊢
    rw [A39, B0v, List.append_nil] at hR
    exact hR
   ·rw [B5h h2]; exact hR
theorem B5l {e u : Tm} {t : Ty} (h : S1 e = some (u, t)) : Lbs (mLb u) 0 ((Q4 u).length : Int) := by
 unfold S1 at h
 split at h
 ·rename_i hv
  split at h
  ·rename_i u' t' l' he
   cases h
   have := B5k e 1 [] 0 u t l' ((Z8 e).1 hv).1 he
   have hl := this.len
   unfold mLb at hl ⊢
   rw [List.length_map] at hl
   rw [hl, Int.sub_zero]
   exact this
  ·cases h
 ·cases h
mutual
def N3 : Ty → Int
 | .mk k ks => if k = 1 then 1 else R5 ks
def R5 : List Ty → Int
 | [] => 0
 | t :: ts => N3 t + R5 ts
end
theorem B0w {k : Int} {ks : List Ty} (h : k = 1) : N3 (.mk k ks) = 1 := by rw [N3, if_pos h]
theorem B5m {k : Int} {ks : List Ty} (h : ¬k = 1) : N3 (.mk k ks) = R5 ks := by rw [N3, if_neg h]
mutual
theorem A3o : ∀ t : Ty, 0 ≤ N3 t ∧ N3 t ≤ J7 t + 1
 | .mk k ks => by
  have h := A2g ks
  rw [N3, J7]
  split
  ·have := A1G ks
   omega
  ·omega
theorem A2g : ∀ ts : List Ty, 0 ≤ R5 ts ∧ R5 ts ≤ O3 ts + ts.length
 | [] => by simp [R5, O3]
 | t :: ts => by
  have h1 := A3o t
  have h2 := A2g ts
  rw [R5, O3, List.length_cons]; omega
end
theorem A6Y : ∀ (a b : List Ty), R5 (a ++ b) = R5 a + R5 b
 | [], b => by simp [R5]
 | t :: a, b => by rw [List.cons_append, R5, R5, A6Y a b]; omega
theorem B0x {ks : List Ty} {i : Nat} (hi : i < ks.length) : R5 (ks.take (i + 1)) = R5 (ks.take i) + N3 ks[i] := by
 rw [List.take_succ_eq_append_getElem hi, A6Y, R5, R5]; omega
theorem B5n {ks : List Ty} {i : Nat} (hi : i < ks.length) : R5 (ks.take i) + N3 ks[i] ≤ R5 ks := by
 have h : R5 ks = R5 (ks.take (i + 1)) + R5 (ks.drop (i + 1)) := by rw [← A6Y, List.take_append_drop]
 have := (A2g (ks.drop (i + 1))).1
 rw [h, B0x hi]; omega
theorem B5o : ∀ (t : Ty) (G : IM) (cells : List Value), J7 t ≤ 4294967296 → C1 G t cells →
  Fn Tryz.prog 82 [.agg ⟨cells⟩] [] G (I5 (.int .i64 (N3 t)) G) := by
 refine Ty.ind fun k ks ih G cells hsz hr => ?_
 have hb := A2g ks
 have hyes := @B0w k ks
 have hno := @B5m k ks
 rw [J7] at hsz
 obtain ⟨p, c, es, rfl, hk, hsl, hkl⟩ := hr.open
 simp only [Ty.k, Ty.ks] at hk hsl hkl ⊢
 have hn := hsl.le
 obtain ⟨R, hR⟩ : ∃ R, N3 (.mk k ks) = R := ⟨_, rfl⟩
 rw [hR] at hyes hno ⊢
 refine C0 Tryz.func82 rfl Tryz.ntmps82 Tryz.results82 rfl ?_
 intro w0
 refine tS (tR ?_)
 refine sE (C5 rfl rfl) rfl (fun b3 => ?_)
 refine D6 ?_
 refine sB (qE rfl rfl) rfl rfl (fun h12 => ?_) (fun h12 => ?_)
 refine J2 ?_
 (exact ⟨rfl, by rw [hyes (by omega)], rfl⟩)
 refine A0m ?_
 refine B8 ?_
 (have hR2 := hno (by omega); refine I2 (fun (i : Nat) => ⟨[(12, .int .i64 i), (11, .int .i64 ks.length), (10, .slice p ks.length c), (3, .int .i64 (R5 (ks.take i)))], [], G⟩) (fun i => i ≤ ks.length) (fun i => ks.length - i) 0 ?_ ?_ ?_)
 exact D3
 (exact Nat.zero_le _)
 (rintro (i : Nat) hi)
 refine tS (tR ?_)
 refine sB (I0 rfl rfl) rfl rfl (fun h51 => ?_) (fun h51 => ?_)
 refine B4 ?_
 refine B8 ?_
 refine tS (tR ?_)
 (obtain ⟨b, o, p2, c2, rfl, hat, hre, hgb⟩ := hsl.kidTy hkl (i := i) (by omega) (by omega); have hsi : J7 ks[i] ≤ O3 ks := A6a (List.getElem_mem (by omega)); have hti := B5n (ks := ks) (i := i) (by omega); have hs1 := B0x (ks := ks) (i := i) (by omega); have hb1 := A3o ks[i]; have hb2 := A2g (ks.take i); refine sP (B3 rfl rfl rfl (by omega)) rfl rfl ?_)
 refine sL (A2 rfl rfl (hat _) rfl) rfl rfl ?_
 refine sE (A6 rfl) rfl (fun b64 => ?_)
 refine A7 ?_
 refine H3 rfl (ih ks[i] (List.getElem_mem (by omega)) G _ (by omega) hre) rfl rfl ?_
 refine sP (H2 rfl rfl (by omega) (by omega)) rfl rfl ?_
 refine B0 ?_
 refine sP (H2 rfl rfl (by omega) (by omega)) rfl rfl ?_
 refine D7 ?_
 refine H9 (i + 1) (by rw [hs1]; exact (J8 (by repeat (first | exact D4.nil | refine D4.cons rfl ?_)) (by repeat (first | exact A0.refl | exact A0.nil | refine A0.cons (by repeat (first | exact Pk.here | apply Pk.there)) ?_ | apply A0.drop)))) ?_ ?_
 (show i + 1 ≤ ks.length; omega)
 (show ks.length - (i + 1) < ks.length - i; omega)
 refine S6 ?_
 (obtain rfl : i = ks.length := (by omega); exact ⟨rfl, by rw [hR2, List.take_length], rfl⟩)
def tSt (t : Ty) : Bool := decide (N3 t = 0)
theorem B5p (G : IM) (t : Ty) (e : List Value) (hs : J7 t ≤ 4294967296) (hr : C1 G t e) :
  Fn Tryz.prog 81 [.agg ⟨e⟩] [] G (U9 (.bool (!tSt t)) [] G) := by
 have hl := hr.len
 have hone := hr.one
 have hb := A3o t
 have hc := B5o t G e hs hr
 unfold tSt
 refine C0 Tryz.func81 rfl Tryz.ntmps81 Tryz.results81 rfl ?_
 intro w0
 refine tS (tR ?_)
 refine sE (C5 rfl rfl) rfl (fun b3 => ?_)
 refine B0 ?_
 refine sL (A2 rfl rfl (A9 (by repeat first | exact mH | apply mT)) hl) rfl rfl ?_
 refine H3 rfl (hc) rfl rfl ?_
 refine sB (X2 rfl rfl) rfl rfl (fun h11 => ?_) (fun h11 => ?_)
 refine B0 ?_
 (exact ⟨rfl, by rw [decide_eq_false (by omega)]; rfl, rfl⟩)
 refine B0 ?_
 (exact ⟨rfl, by rw [decide_eq_true (by omega)]; rfl, rfl⟩)
def A1V (e : Tm) : Bool := N8 e && (H0 e).all tSt
theorem B5q (e : Tm) (G : IM) (cells : List Value) (hr : A8 G e cells) : Fn Tryz.prog 34 [.agg ⟨cells⟩] [] G (J4 fun _ v => v = .bool (A1V e)) := by
 have hl := hr.len
 have hone := hr.one
 have hv := A4E e G cells hr
 have hno : N8 e = false → A1V e = false := fun h => by unfold A1V; rw [h]; rfl
 have hyes : N8 e = true → A1V e = (H0 e).all tSt := fun h => by unfold A1V; rw [h]; rfl
 have hfit := @A38 e
 have htv : N8 e = true → ∀ u ∈ H0 e, F9 u = true := fun h => A5i e 1 ((Z8 e).1 h).1
 refine C0 Tryz.func34 rfl Tryz.ntmps34 Tryz.results34 rfl ?_
 intro w0
 refine tS (tR ?_)
 refine sE (C5 rfl rfl) rfl (fun b3 => ?_)
 refine B0 ?_
 refine sL (A2 rfl rfl (A9 (by repeat first | exact mH | apply mT)) hl) rfl rfl ?_
 refine H4 rfl (hv) rfl rfl (fun h10 => ?_) (fun h10 => ?_)
 refine sQ (qM rfl) rfl ?_
 refine sL (A2 rfl rfl (A9 (by repeat first | exact mH | apply mT)) hl) rfl rfl ?_
 (have hf := hfit (by assumption); have htv2 := htv (by assumption); have hy2 := hyes (by assumption); refine W0 rfl (A48 e G cells hf.1 (by have := hf.2; omega) hr) rfl rfl (fun v G1 outs hle1 hh => ?_); obtain ⟨p, c, es, rfl, rfl, hr1⟩ := hh; generalize H0 e = L at *; refine R6 (cs := es.flatten) (by repeat (first | exact Pk.here | apply Pk.there)) (fun G2 hle2 hsl2 hno2 => ?_); have hse := D1.of hsl2 hr1.len hr1.all (fun e he => (hr1.each e he).2); replace hr1 := hr1.mono hle2; obtain ⟨A, hA⟩ : ∃ A, L.all tSt = A := ⟨_, rfl⟩)
 refine A2V rfl (A2Y _ _ _ _ _ hse _ [] _ [] tSt L rfl hA (fun i e he => B5p _ _ _ (by have := (A26 (htv2 _ (hr1.inv he B2).1)).2; omega) (hr1.inv he B2).2)) A0l rfl rfl (fun h14 => ?_) (fun h14 => ?_)
 simp only [Bool.not_eq_true', Bool.not_eq_false'] at h14
 refine B4 ?_
 (exact ⟨rfl, by rw [hy2, hA]; simp_all⟩)
 simp only [Bool.not_eq_true', Bool.not_eq_false'] at h14
 refine B4 ?_
 (exact ⟨rfl, by rw [hy2, hA]; simp_all⟩)
 refine J2 ?_
 (exact ⟨rfl, by rw [hno (by assumption)]⟩)
end Gw
end Go.Proofs.YtfpgncjeejickaaGreat
