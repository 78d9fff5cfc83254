/-
  InsertCasts of the reference model: it ends, and what it gives is not much bigge.
-/
import Derived.Test.YtgodjiieijekiaaGreatDoorKi3
import Derived.Test.YtgodjiieijekiaaGreatDoorKi2
import Derived.Test.YtgodjiieijekiaaGreatDoorKi1
import Derived.Test.YtgodjiieijekiaaGreatDoorKi0
import Derived.Lib.ItoaNum
set_option linter.unusedVariables false
set_option linter.unusedSimpArgs false
set_option maxHeartbeats 0
set_option maxRecDepth 100000
set_option synthInstance.maxSize 4000
set_option synthInstance.maxHeartbeats 0
namespace Go.Proofs.YtgodjiieijekiaaGreatDoor
open Go Go.RowKit
namespace Gw
theorem A8F : ∀ (ts : List Tm) (t : Tm), C9 (ts ++ [t]) = C9 ts + C3 t
 | [], t => by simp [C9]
 | a :: ts, t => by simp only [List.cons_append, C9, A8F ts t]; omega
theorem A8G : ∀ {ts : List Tm} {t : Tm}, Tm.smallL ts → t.small → Tm.smallL (ts ++ [t])
 | [], t, _, h => by simp [Tm.smallL, h]
 | a :: ts, t, h, h2 => by
  simp only [Tm.smallL] at h
  simp only [List.cons_append, Tm.smallL]
  exact ⟨h.1, A8G h.2 h2⟩
theorem A8H : ∀ (ts : List Tm) (i : Nat) (u : Tm) (h : i < ts.length), C9 (ts.set i u) + C3 ts[i] = C9 ts + C3 u
 | [], i, u, h => by simp at h
 | a :: ts, 0, u, h => by simp only [List.set_cons_zero, C9, List.getElem_cons_zero]; omega
 | a :: ts, i + 1, u, h => by
  have := A8H ts i u (by simpa using h)
  simp only [List.set_cons_succ, C9, List.getElem_cons_succ]; omega
theorem A8I : ∀ {ts : List Tm} {i : Nat} {u : Tm}, Tm.smallL ts → u.small → Tm.smallL (ts.set i u)
 | [], i, u, h, _ => by simpa using h
 | a :: ts, 0, u, h, hu => by
  simp only [Tm.smallL, List.set_cons_zero] at h ⊢
  exact ⟨hu, h.2⟩
 | a :: ts, i + 1, u, h, hu => by
  simp only [Tm.smallL, List.set_cons_succ] at h ⊢
  exact ⟨h.1, A8I h.2 hu⟩
theorem B2Y {ts : List Tm} {i : Nat} (h : i < ts.length) : C3 ts[i] ≤ C9 ts := by
 have := A4q h
 omega
theorem E5.at2 {G : IM} {ts : List Tm} {es : List (List Value)} {i : Nat} (h : E5 G ts es) (h1 : i < ts.length) (h2 : i < es.length) : i < es.length ∧ B5 G ts[i] es[i] := by
 have := (h.inv (List.getElem?_eq_getElem h2) K7).2
 rw [List.getD_eq_getElem?_getD, List.getElem?_eq_getElem h1] at this
 exact ⟨h2, this⟩
mutual
theorem A6a : ∀ (t : Tm) (d : Int), L8 12 14 t d = true → t.small
 | .mk k nm num ty fr lb ks, d, h => by
  obtain ⟨h1, h2, h3, h4⟩ := Z4 h
  have hn := U8.1 h3
  rw [Tm.small]
  refine ⟨?_, (A3K h3).1.small, ?_, ?_, A8J ks _ h4⟩
  ·by_cases hk : k = 1 ∨ k = 5
   ·have := hn.2.1 hk
    simp only [V5, decide_eq_true_eq] at this
    omega
   ·rw [hn.2.2.1 hk]; decide
  ·rw [A8p (hn.2.2.2.2.2.2.2.2 (by omega)).1]
   simp [A7, Ty.small, Ty.smallL]
  ·have := A2y k
   omega
theorem A8J : ∀ (ts : List Tm) (d : Int), O5 12 14 ts d = true → Tm.smallL ts
 | [], d, h => by rw [Tm.smallL]; trivial
 | t :: ts, d, h => by
  rw [O5, Bool.and_eq_true] at h
  rw [Tm.smallL]
  exact ⟨A6a t d h.1, A8J ts d h.2⟩
end
theorem A4I {hp : List A4} {G : IM} {b sz i : Nat} {es : List (List Value)} {C : List Value} (hm : A4.blk b (es.flatten ++ C) ∈ hp) (hi : i < es.length) (ha : ∀ e ∈ es, e.length = sz) : At hp G b (0 + i * sz) es[i] := by
 refine .inl ⟨_, hm, fun j u hu => ?_⟩
 rw [A8B hi, List.append_assoc, List.append_assoc]
 have hl : (es.take i).flatten.length = i * sz := by
  rw [A2v (fun e he => ha e (List.mem_of_mem_take he)), List.length_take, Nat.min_eq_left (by omega)]
 have hj : j < es[i].length := (List.getElem?_eq_some_iff.1 hu).1
 rw [List.getElem?_append_right (by omega), show 0 + i * sz + j - (es.take i).flatten.length = j by omega, List.getElem?_append_left hj]
 exact hu
def A8K (e : Tm) (label : Int) (G : IM) : IM → Value → List A4 → Prop := L7 fun G' v => ∃ u cu t ct l', v = .tuple ⟨[.agg ⟨cu⟩, .agg ⟨ct⟩, .int .i64 l']⟩ ∧ B5 G' u cu ∧ u.small ∧ C3 u + 1 ≤ 2 * C3 e ∧ B3 G' t ct ∧ E4 t ∧ F4 t ≤ 32 * (C3 e : Int) ∧ label ≤ l' ∧ l' + 1 ≤ label + 2 * (C3 e : Int)
theorem B2Z : ∀ (e : Tm) (d : Int) (G : IM) (p : Option Addr) (n c : Nat) (label : Int) (cells : List Value), L8 12 14 e d = true → (n : Int) ≤ d → T8 G p n c → B5 G e cells → 0 ≤ label → label + 2 * (C3 e : Int) ≤ 1099511627776 →
  Fn Tryz.prog 186 [.slice p n c, .agg ⟨cells⟩, .int .i64 label] [] G (A8K e label G) := by
 refine Tm.ind fun k nm num ty fr lb ks ih d G p n c label cells hv hnd hx hr hlab0 hlab => ?_
 have hr0 := hr
 have hone := hr.one
 have hT := A8z _ d G p n c cells hv hnd hx hr
 have hsm := A6a _ d hv
 have hsm' := hsm
 rw [Tm.small] at hsm'
 obtain ⟨hnm, htsm, hfsm, _, hksm⟩ := hsm'
 obtain ⟨hv1, hv2, hv3, hv4⟩ := Z4 hv
 have hvk := (A0m 12 14 ks _).1 hv4
 have har := (U8.1 hv3).1
 have hop := A13 har
 obtain ⟨hta, hts⟩ := A3K hv3
 have hck : C3 (.mk k nm num ty fr lb ks) = 1 + C9 ks := by rw [C3]; omega
 rw [hck] at hlab hT
 unfold A8K
 rw [hck]
 obtain ⟨tk, tks⟩ := ty
 obtain ⟨fk, fks⟩ := fr
 obtain ⟨pt, ct, pf, cf, q, cq, es, rfl, hk, hnum, hlb, hty, hfr, hsl, hkl⟩ := hr.open9
 have hlen : ks.length ≤ 3 := by have := A2y k; omega
 have hk13 : k = 13 → ks.length = 1 := fun h => hop.2.2 (by omega)
 refine B8 Tryz.func186 rfl Tryz.ntmps186 Tryz.results186 rfl ?_
 intro w0
 refine tS (tR ?_)
 refine sE (E7 rfl rfl) rfl (fun b3 => ?_)
 refine sE (A8 rfl) rfl (fun b4 => ?_)
 refine sE (A8 rfl) rfl (fun b5 => ?_)
 refine B7 ?_
 (refine D9 rfl hT rfl rfl (fun v G1 hle1 hh => ?_); obtain ⟨mt, mc, mx, rfl, hmr, hma, hms⟩ := hh; obtain ⟨p1, d1, e1, rfl, _⟩ := hmr.open; have hC := A5Y _ G1 _ hsm (hr0.mono hle1))
 refine H0 ?_
 refine sE (A8 rfl) rfl (fun b17 => ?_)
 refine B7 ?_
 (refine D9 rfl hC rfl rfl (fun v G2 hle2 hh => ?_); obtain ⟨Q0, F1, rfl, hs1, hn1⟩ := hh; have hr1 := hs1.R.mono (B6.le G2 G1); obtain ⟨q1, c1, q2, c2, q3, c3, es1, rfl, _, _, _, hty1, hfr1, _, _⟩ := hr1.open9; have hle02 := hle1.trans hle2; replace hx := hx.mono hle02; replace hty := hty.mono hle02; replace hsl := hsl.mono hle02; replace hkl := hkl.mono hle02; replace hmr := hmr.mono hle2; replace hr0 := hr0.mono hle02)
 refine sE (A8 rfl) rfl (fun b26 => ?_)
 refine I6 ?_
 (show I9 _ _ (.region 4 ..) _ _; refine A0b (fun (x : Bool) => ⟨[(30, .bool x), (0, .slice p n c), (2, .int .i64 label), (4, .pointer (some ⟨b3, 0, none⟩)), (6, .pointer (some ⟨b4, 0, none⟩)), (7, .pointer (some ⟨b5, 0, none⟩)), (9, .pointer (some ⟨b17, 0, none⟩)), (11, .pointer (some ⟨b26, 0, none⟩))], [.blk b26 [.int .i64 k, .string nm, .int .i64 num, .int .i64 tk, .slice q1 tks.length c1, .int .i64 fk, .slice q2 fks.length c2, .int .i64 lb, .slice none 0 0], .blk b17 [.int .i64 mt.k, .slice p1 mt.ks.length d1], .blk b5 [.int .i64 0, .slice none 0 0], .blk b4 [.int .i64 0, .string ⟨⟨[]⟩⟩, .int .i64 0, .int .i64 0, .slice none 0 0, .int .i64 0, .slice none 0 0, .int .i64 0, .slice none 0 0], .blk b3 [.int .i64 k, .string nm, .int .i64 num, .int .i64 tk, .slice pt tks.length ct, .int .i64 fk, .slice pf fks.length cf, .int .i64 lb, .slice q ks.length cq]], G2⟩) (fun _ => True) ?_ ?_)
 ·refine tR (sQ (A9 rfl) rfl (sL (C2 rfl rfl) rfl rfl ?_))
  refine sB (qE rfl rfl) rfl rfl (fun h42 => ?_) (fun h42 => ?_)
  ·refine sD ?_
   refine P1 true (N7 (by repeat (first | exact E6.nil | refine E6.cons rfl ?_)) (by repeat (first | exact A0.refl | exact A0.nil | refine A0.cons (by repeat (first | exact Pk.here | apply Pk.there)) ?_ | apply A0.drop))) trivial
  ·refine sD ?_
   refine P1 false (N7 (by repeat (first | exact E6.nil | refine E6.cons rfl ?_)) (by repeat (first | exact A0.refl | exact A0.nil | refine A0.cons (by repeat (first | exact Pk.here | apply Pk.there)) ?_ | apply A0.drop))) trivial
 ·(rintro (x : Bool) _)
  (show I9 _ _ (.cond (.tmp 30) _ _) _ _; refine A0b (fun (x : Option Addr × Nat × Nat × IM) => ⟨[(0, .slice x.1 x.2.1 x.2.2.1), (2, .int .i64 label), (4, .pointer (some ⟨b3, 0, none⟩)), (6, .pointer (some ⟨b4, 0, none⟩)), (7, .pointer (some ⟨b5, 0, none⟩)), (9, .pointer (some ⟨b17, 0, none⟩)), (11, .pointer (some ⟨b26, 0, none⟩))], [.blk b26 [.int .i64 k, .string nm, .int .i64 num, .int .i64 tk, .slice q1 tks.length c1, .int .i64 fk, .slice q2 fks.length c2, .int .i64 lb, .slice none 0 0], .blk b17 [.int .i64 mt.k, .slice p1 mt.ks.length d1], .blk b5 [.int .i64 0, .slice none 0 0], .blk b4 [.int .i64 0, .string ⟨⟨[]⟩⟩, .int .i64 0, .int .i64 0, .slice none 0 0, .int .i64 0, .slice none 0 0, .int .i64 0, .slice none 0 0], .blk b3 [.int .i64 k, .string nm, .int .i64 num, .int .i64 tk, .slice pt tks.length ct, .int .i64 fk, .slice pf fks.length cf, .int .i64 lb, .slice q ks.length cq]], x.2.2.2⟩) (fun x => B2 G2 x.2.2.2 ∧ T8 x.2.2.2 x.1 x.2.1 x.2.2.1 ∧ (x.2.1 : Int) ≤ d + 1) (A2m rfl (fun hxt => ?_) (fun hxf => ?_)) ?_)
  ·refine K4 ?_
   (refine D9 rfl (A59 G2 p n c nm (.mk tk tks) _ hx (by omega) hty hta hts (A8t hv3)) rfl rfl (fun v G3 hle3 hh => ?_); obtain ⟨pm0, cm0, rfl, hxm⟩ := hh)
   refine sQ (qA rfl) rfl (sD ?_)
   refine P1 (pm0, n + 1, cm0, G3) (N7 (by repeat (first | exact E6.nil | refine E6.cons rfl ?_)) (by repeat (first | exact A0.refl | exact A0.nil | refine A0.cons (by repeat (first | exact Pk.here | apply Pk.there)) ?_ | apply A0.drop))) ?_
   (dsimp only; exact ⟨hle3, hxm, by omega⟩)
  ·refine tK ?_
   refine P1 (p, n, c, G2) (N7 (by repeat (first | exact E6.nil | refine E6.cons rfl ?_)) (by repeat (first | exact A0.refl | exact A0.nil | refine A0.cons (by repeat (first | exact Pk.here | apply Pk.there)) ?_ | apply A0.drop))) ?_
   (dsimp only; exact ⟨B2.refl _, hx, by omega⟩)
  ·(rintro ⟨(px : Option Addr), nx, cx, Gx⟩ ⟨hleX, hxX, hnX⟩; simp only [] at hleX hxX hnX ⊢; replace hty1 := hty1.mono hleX; replace hfr1 := hfr1.mono hleX; replace hsl := hsl.mono hleX; replace hkl := hkl.mono hleX; replace hmr := hmr.mono hleX; replace hr0 := hr0.mono hleX)
   refine tS (tR ?_)
   (refine D7 (D1 rfl rfl rfl (by omega) (by unfold maxLen; omega) rfl) rfl ?_; rintro _ ⟨b66, rfl⟩)
   refine C7 ?_
   refine C6 ?_
   (refine A0B 28 9 ?_; refine N4 (fun (x : Nat × (Option Addr × Nat × List Tm × List (List Value)) × (Option Addr × Nat × List Ty × List (List Value)) × Int × IM) => ⟨[(13, .int .i64 x.1), (12, .slice x.2.2.1.1 x.1 x.2.2.1.2.1), (0, .slice px nx cx), (2, .int .i64 x.2.2.2.1), (4, .pointer (some ⟨b3, 0, none⟩)), (6, .pointer (some ⟨b4, 0, none⟩)), (7, .pointer (some ⟨b5, 0, none⟩)), (9, .pointer (some ⟨b17, 0, none⟩)), (11, .pointer (some ⟨b26, 0, none⟩))], [.blk b26 [.int .i64 k, .string nm, .int .i64 num, .int .i64 tk, .slice q1 tks.length c1, .int .i64 fk, .slice q2 fks.length c2, .int .i64 lb, .slice x.2.1.1 x.1 x.2.1.2.1], .slc x.2.1.1 x.2.1.2.1 28 9 x.1 x.2.1.2.2.2.flatten, .slc x.2.2.1.1 x.2.2.1.2.1 25 2 x.1 x.2.2.1.2.2.2.flatten, .blk b17 [.int .i64 mt.k, .slice p1 mt.ks.length d1], .blk b5 [.int .i64 0, .slice none 0 0], .blk b4 [.int .i64 0, .string ⟨⟨[]⟩⟩, .int .i64 0, .int .i64 0, .slice none 0 0, .int .i64 0, .slice none 0 0, .int .i64 0, .slice none 0 0], .blk b3 [.int .i64 k, .string nm, .int .i64 num, .int .i64 tk, .slice pt tks.length ct, .int .i64 fk, .slice pf fks.length cf, .int .i64 lb, .slice q ks.length cq]], x.2.2.2.2⟩) (fun x => x.1 ≤ ks.length ∧ B2 Gx x.2.2.2.2 ∧ x.2.1.2.2.1.length = x.1 ∧ E5 x.2.2.2.2 x.2.1.2.2.1 x.2.1.2.2.2 ∧ Tm.smallL x.2.1.2.2.1 ∧ C9 x.2.1.2.2.1 + x.1 ≤ 2 * C9 (ks.take x.1) ∧ x.2.2.1.2.2.1.length = x.1 ∧ E1 x.2.2.2.2 x.2.2.1.2.2.1 x.2.2.1.2.2.2 ∧ (∀ t ∈ x.2.2.1.2.2.1, E4 t) ∧ label ≤ x.2.2.2.1 ∧ x.2.2.2.1 + x.1 ≤ label + 2 * (C9 (ks.take x.1) : Int)) (fun x => ks.length - x.1) (0, (none, 0, [], []), (some ⟨b66, 0, none⟩, 0, [], []), label, Gx) ?_ ?_ ?_)
   ·(simp only [J9]; exact E0)
   ·(exact ⟨by simp, B2.refl _, rfl, by simp [E5], by simp [Tm.smallL], by simp [C9], rfl, by simp [E1], by simp, by dsimp only; omega, by dsimp only; omega⟩)
   ·(rintro ⟨i, ⟨pn, cn, us, es'⟩, ⟨pm, cm, ts, ess⟩, l, Gi⟩ ⟨hi, hle, hlu, hst, hus, hcu, hlt, hstt, hat, hl1, hl2⟩; simp only [] at hi hle hlu hst hus hcu hlt hstt hat hl1 hl2 ⊢; replace hty1 := hty1.mono hle; replace hfr1 := hfr1.mono hle; replace hsl := hsl.mono hle; replace hkl := hkl.mono hle; replace hmr := hmr.mono hle; replace hr0 := hr0.mono hle; replace hxX := hxX.mono hle)
    refine B7 ?_
    refine sB (L9 rfl rfl) rfl rfl (fun h88 => ?_) (fun h88 => ?_)
    ·refine sD (nS (qT rfl (tK (nS (tS ?_)))))
     refine C6 ?_
     refine K4 ?_
     (obtain ⟨b, o, e, rfl, hl, hate, hre, hgb⟩ := hsl.kidTm hkl (i := i) (by omega) (by omega); have hsc := A3z (ks := ks) (i := i) (by omega); have hsk := A4q (ks := ks) (i := i) (by omega); refine sP (D0 rfl rfl rfl (by omega)) rfl rfl ?_)
     refine sL (A6 rfl rfl (hate _) hl) rfl rfl ?_
     refine sQ (qM rfl) rfl ?_
     (refine D9 rfl (ih ks[i] (List.getElem_mem (by omega)) (d + 1) Gi px nx cx l _ (hvk i (by omega)) (by omega) hxX hre (by omega) (by omega)) rfl rfl (fun v G3 hle3 hh => ?_); obtain ⟨u, uc, t, tc, l3, rfl, hru, hu1, hu2, hrt, ht1, ht2, hl3, hl4⟩ := hh; obtain ⟨v1, v2, v3, v4, v5, v6, v7, v8, v9, rfl⟩ : ∃ v1 v2 v3 v4 v5 v6 v7 v8 v9, uc = [v1, v2, v3, v4, v5, v6, v7, v8, v9] := (by obtain ⟨_, _, _, _, _, _, _, _, _, rfl, _⟩ := hru.open; exact ⟨_, _, _, _, _, _, _, _, _, rfl⟩); obtain ⟨p3, c3, e3, rfl, _⟩ := hrt.open; have hlu9 := hru.len; have hou9 := hru.one)
     refine H9 ?_
     refine sE (A8 rfl) rfl (fun b110 => ?_)
     refine sE (A8 rfl) rfl (fun b111 => ?_)
     refine sS rfl rfl rfl hlu9 hou9 rfl ?_ (hu := by exact I4 hlu9.symm)
     refine C7 ?_
     (refine D7 (D1 rfl rfl rfl (by omega) (by unfold maxLen; omega) rfl) rfl ?_; rintro _ ⟨b122, rfl⟩)
     refine A1T rfl rfl rfl rfl rfl (fun _ _ => by repeat (first | exact Sw.here | apply Sw.there)) (R0 (by repeat first | exact mH | apply mT)) rfl (fun u hu => List.all_eq_true.1 hou9 u hu) (by unfold maxLen; omega) (by omega) rfl (fun pn' cn' => ?_)
     refine F8 ?_
     (refine D7 (D1 rfl rfl rfl (by omega) (by unfold maxLen; omega) rfl) rfl ?_; rintro _ ⟨b132, rfl⟩)
     refine A1T rfl rfl rfl rfl rfl (fun _ _ => by repeat (first | exact Sw.here | apply Sw.there)) (R0 (by repeat first | exact mH | apply mT)) rfl (by simp [Value.oneCell']) (by unfold maxLen; omega) (by omega) rfl (fun pm' cm' => ?_)
     refine I6 ?_
     refine sP (N0 rfl rfl (by omega) (by omega)) rfl rfl ?_
     refine sQ (qA rfl) rfl (sD ?_)
     refine K5 (i + 1, (pn', cn', us ++ [u], es' ++ [[v1, v2, v3, v4, v5, v6, v7, v8, v9]]), (pm', cm', ts ++ [t], ess ++ [[.int .i64 t.k, .slice p3 t.ks.length c3]]), l3, G3) ?_ ?_ ?_
     ·(simp only [J9]; exact E0)
     ·(dsimp only; exact ⟨by omega, hle.trans hle3, by simp [hlu], E5.snoc (hst.mono hle3) hru, A8G hus hu1, by rw [A8F]; omega, by simp [hlt], E1.snoc (hstt.mono hle3) hrt, A12 hat ht1, by omega, by omega⟩)
     ·(show ks.length - (i + 1) < ks.length - i; omega)
    ·refine I5 ?_
     (obtain rfl : i = ks.length := (by omega); rw [List.take_length] at hcu hl2; refine P2 (cs := ess.flatten) (by repeat (first | exact Pk.here | apply Pk.there)) (fun G4 hle4 hsl4 hno4 => ?_); have hstt4 := hstt.mono hle4; have hslT : D5 G4 pm ts.length cm 2 ess := (by rw [hlt]; exact D5.of hsl4 (by rw [hstt4.len, hlt]) hstt4.all (fun e he => (hstt4.each e he).2)); have hW := B2X k nm num (.mk tk tks) (.mk fk fks) lb ks ts mt G4 _ _ pm cm ess (by rw [hlt]; exact har) (hr0.mono hle4) hslT hstt4 hat (hmr.mono hle4) hma; rw [hlt] at hW; refine D9 rfl hW rfl rfl (fun v G5 hle5 hh => ?_); obtain ⟨pw, cw, esw, ws, rfl, hlw, hsw, hstw, haw⟩ := hh; have hle45 := hle4.trans hle5; replace hty1 := hty1.mono hle45; replace hfr1 := hfr1.mono hle45; replace hmr := hmr.mono hle45; replace hst := hst.mono hle45; replace hslT := hslT.mono hle5; replace hstt := hstt.mono hle45; rcases Nat.eq_zero_or_pos ks.length with h0 | h0)
     ·refine C7 ?_
      refine C6 ?_
      (have h0' : ks.length = 0 := h0; refine N4 (fun (_ : Nat) => ⟨[(18, .int .i64 0), (17, .slice pw ks.length cw), (12, .slice pm ks.length cm), (2, .int .i64 l), (4, .pointer (some ⟨b3, 0, none⟩)), (6, .pointer (some ⟨b4, 0, none⟩)), (7, .pointer (some ⟨b5, 0, none⟩)), (9, .pointer (some ⟨b17, 0, none⟩)), (11, .pointer (some ⟨b26, 0, none⟩))], [.blk b26 [.int .i64 k, .string nm, .int .i64 num, .int .i64 tk, .slice q1 tks.length c1, .int .i64 fk, .slice q2 fks.length c2, .int .i64 lb, .slice pn ks.length cn], .slc pn cn 28 9 ks.length es'.flatten, .blk b17 [.int .i64 mt.k, .slice p1 mt.ks.length d1], .blk b5 [.int .i64 0, .slice none 0 0], .blk b4 [.int .i64 0, .string ⟨⟨[]⟩⟩, .int .i64 0, .int .i64 0, .slice none 0 0, .int .i64 0, .slice none 0 0, .int .i64 0, .slice none 0 0], .blk b3 [.int .i64 k, .string nm, .int .i64 num, .int .i64 tk, .slice pt tks.length ct, .int .i64 fk, .slice pf fks.length cf, .int .i64 lb, .slice q ks.length cq]], G5⟩) (fun _ => True) (fun i => i) 0 ?_ ?_ ?_)
      ·exact E0
      ·trivial
      ·(rintro (i0 : Nat) _)
       refine K4 ?_
       refine sP (V4 rfl rfl (by omega)) rfl rfl ?_
       refine I5 ?_
       refine sP (M1 rfl rfl (by omega)) rfl rfl ?_
       refine sD (nS (cF rfl (tK (nS (tS ?_)))))
       refine D3 D4 rfl ?_
       refine S3 (i := 0) (l' := [tt,ff,ff,ff,ff,ff]) rfl C5 (A2 rfl rfl) rfl (by kernel_rfl) rfl rfl ?_
       refine aL 1 rfl (A2 rfl rfl) rfl ?_
       refine aP 2 rfl (qM rfl) rfl ?_
       refine A1 3 ?_
       refine A05 rfl rfl rfl rfl rfl rfl rfl rfl (by repeat first | exact Sw.here | apply Sw.there) (by rfl) (by repeat (first | exact A5.nil | apply A5.dep (by decide +kernel) | apply A5.blk (by decide +kernel) (by repeat (first | exact Pk.here | apply Pk.there)) (by repeat first | exact mH | apply mT))) ?_
       refine A1 4 ?_
       refine A05 rfl rfl rfl rfl rfl rfl rfl rfl (by repeat first | exact Sw.here | apply Sw.there) (by rfl) (by repeat (first | exact A5.nil | apply A5.dep (by decide +kernel) | apply A5.blk (by decide +kernel) (by repeat (first | exact Pk.here | apply Pk.there)) (by repeat first | exact mH | apply mT))) ?_
       refine aP 5 rfl (qA rfl) rfl ?_
       refine D8 (nS ?_)
       (refine L4 (cs := es'.flatten) (by repeat (first | exact Pk.here | apply Pk.there)) (fun G8 hle8 hsl8 hno8 => ?_); have hst8 := hst.mono hle8)
       refine tT ?_
       refine rF3 (rC rfl (A2 rfl rfl)) (rC rfl (A2 rfl rfl)) (rT rfl) ?_
       (have hst8q := hst8; refine ⟨rfl, .mk k nm num (.mk tk tks) (.mk fk fks) lb us, _, mt, _, l, rfl, by rw [← hlu]; exact B5.of9 hk hnum hlb (hty1.mono hle8) (hfr1.mono hle8) (by rw [hlu]; exact D5.of hsl8 (by rw [hst8.len, hlu]) hst8.all (fun e he => by obtain ⟨q, hq⟩ := List.getElem?_of_mem he; exact (hst8.inv hq K7).2.one)) hst8, by rw [Tm.small]; exact ⟨hnm, htsm, hfsm, by omega, hus⟩, by rw [C3]; omega, hmr.mono hle8, hma, by omega, by omega, by omega⟩)
     ·(refine A8A (cs := es'.flatten) (by repeat (first | exact Pk.here | apply Pk.there)) h0 (fun bc C hpe hnc hcm => ?_); subst hpe; refine sQ (qA rfl) rfl ?_)
      refine sD (nS (tS (tS (tR (sQ (qA rfl) rfl (sD (nS ?_)))))))
      refine C6 ?_
      (refine N4 (fun (x : Nat × List Tm × List (List Value) × Int × IM) => ⟨[(18, .int .i64 x.1), (17, .slice pw ks.length cw), (12, .slice pm ks.length cm), (2, .int .i64 x.2.2.2.1), (4, .pointer (some ⟨b3, 0, none⟩)), (6, .pointer (some ⟨b4, 0, none⟩)), (7, .pointer (some ⟨b5, 0, none⟩)), (9, .pointer (some ⟨b17, 0, none⟩)), (11, .pointer (some ⟨b26, 0, none⟩))], [.blk b26 [.int .i64 k, .string nm, .int .i64 num, .int .i64 tk, .slice q1 tks.length c1, .int .i64 fk, .slice q2 fks.length c2, .int .i64 lb, .slice (some ⟨bc, 0, none⟩) ks.length cn], .blk bc (x.2.2.1.flatten ++ C), .blk b17 [.int .i64 mt.k, .slice p1 mt.ks.length d1], .blk b5 [.int .i64 0, .slice none 0 0], .blk b4 [.int .i64 0, .string ⟨⟨[]⟩⟩, .int .i64 0, .int .i64 0, .slice none 0 0, .int .i64 0, .slice none 0 0, .int .i64 0, .slice none 0 0], .blk b3 [.int .i64 k, .string nm, .int .i64 num, .int .i64 tk, .slice pt tks.length ct, .int .i64 fk, .slice pf fks.length cf, .int .i64 lb, .slice q ks.length cq]], x.2.2.2.2⟩) (fun x => x.1 ≤ ks.length ∧ B2 G5 x.2.2.2.2 ∧ x.2.1.length = ks.length ∧ E5 x.2.2.2.2 x.2.1 x.2.2.1 ∧ Tm.smallL x.2.1 ∧ C9 x.2.1 ≤ C9 us + x.1 ∧ label ≤ x.2.2.2.1 ∧ x.2.2.2.1 ≤ l + x.1) (fun x => ks.length - x.1) (0, us, es', l, G5) ?_ ?_ ?_)
      ·(simp only [J9]; exact E0)
      ·(exact ⟨by simp, B2.refl _, hlu, hst, hus, Nat.le_refl _, hl1, by dsimp only; omega⟩)
      ·(rintro ⟨i2, us2, es2, l2, G6⟩ ⟨hi2, hle6, hlu2, hst2, hus2, hcu2, hl21, hl22⟩; simp only [] at hi2 hle6 hlu2 hst2 hus2 hcu2 hl21 hl22 ⊢; replace hty1 := hty1.mono hle6; replace hfr1 := hfr1.mono hle6; replace hmr := hmr.mono hle6; replace hslT := hslT.mono hle6; replace hstt := hstt.mono hle6; replace hsw := hsw.mono hle6; replace hstw := hstw.mono hle6; have hle2s := hst2.len; have hall2 := hst2.all)
       refine K4 ?_
       refine sB (L9 rfl rfl) rfl rfl (fun h242 => ?_) (fun h242 => ?_)
       ·refine sD (nS (qT rfl (tK (nS (tS ?_)))))
        refine C6 ?_
        (have hi3 : i2 < ks.length := (by omega); obtain ⟨bt, ot, qt, dt, hpt, hatt, hrtt, hgt⟩ := hslT.kidTy hstt (i := i2) (by omega) (by omega); obtain ⟨bw, ow, qw, dw, hpw, hatw, hrtw, hgw⟩ := (show D5 G6 pw ws.length cw 2 esw from by rw [hlw]; exact hsw).kidTy hstw (i := i2) (by omega) (by omega); cases hpt; cases hpw; obtain ⟨hE1, hE2⟩ := hst2.at2 (i := i2) (by omega) (by omega); have hE3 := hE2.len; refine D3 D4 rfl ?_)
        refine E8 (i := 0) (l' := [tt,ff,ff,ff,ff,ff,ff,ff,ff,ff,ff,ff,ff,ff,ff,ff,ff,ff,ff,ff,ff,ff,ff,ff]) rfl C5 (A9 rfl) rfl (by kernel_rfl) rfl rfl ?_
        refine aL 1 rfl (C2 rfl rfl) rfl ?_
        refine aP 2 rfl (qM rfl) rfl ?_
        refine aP 3 rfl (A9 rfl) rfl ?_
        refine aL 4 rfl (C2 rfl rfl) rfl ?_
        refine aP 5 rfl (qM rfl) rfl ?_
        refine aP 6 rfl (D0 rfl rfl rfl (by omega)) rfl ?_
        refine aL 7 rfl (A6 rfl rfl (A4I (es := es2) (by repeat first | exact mH | apply mT) (by omega) hall2) hE3) rfl ?_
        refine aP 8 rfl (qM rfl) rfl ?_
        refine aP 9 rfl (qM rfl) rfl ?_
        refine aP 10 rfl (D0 rfl rfl rfl (by omega)) rfl ?_
        refine aL 11 rfl (A6 rfl rfl (hatt _) rfl) rfl ?_
        refine aP 12 rfl (qM rfl) rfl ?_
        refine aP 13 rfl (qM rfl) rfl ?_
        refine aP 14 rfl (D0 rfl rfl rfl (by omega)) rfl ?_
        refine aL 15 rfl (A6 rfl rfl (hatw _) rfl) rfl ?_
        refine aP 16 rfl (qM rfl) rfl ?_
        refine A1 17 ?_
        (refine M6 rfl rfl (A3L us2[i2] ts[i2] ws[i2] l2 _ _ _ _ (by omega) hE2 hrtt hrtw (hat _ (List.getElem_mem (by omega))) (haw _ (List.getElem_mem (by omega)))) rfl rfl rfl (fun v G7 hle7 hh => ?_); obtain ⟨u, uc, l3, rfl, hru, hu1, hu2, hl31, hl32⟩ := hh; have hlu9 := hru.len; have hou9 := hru.one)
        refine aP 18 rfl (qM rfl) rfl ?_
        refine aP 19 rfl (pX rfl rfl) rfl ?_
        refine aP 21 rfl (D0 rfl rfl rfl (by omega)) rfl ?_
        refine aP 20 rfl (pX rfl rfl) rfl ?_
        refine A1 22 ?_
        refine K6 rfl rfl rfl rfl hlu9 hou9 rfl rfl (by kernel_rfl) (by repeat first | exact Sw.here | apply Sw.there) (by exact A8C (by omega) hall2 hlu9) ?_
        refine aP 23 rfl (qA rfl) rfl ?_
        refine D8 (O3 (nS (tR (sQ (qM rfl) rfl ?_))))
        refine sP (N0 rfl rfl (by omega) (by omega)) rfl rfl ?_
        refine sQ (qA rfl) rfl (sD ?_)
        (have hset := A8H us2 i2 u (by omega); refine K5 (i2 + 1, us2.set i2 u, es2.set i2 uc, l3, G7) ?_ ?_ ?_)
        ·(simp only [J9]; exact E0)
        ·(dsimp only; exact ⟨by omega, hle6.trans hle7, by simp [hlu2], E5.set (hst2.mono hle7) hru, A8I hus2 (hu1 (Tm.smallL_mem hus2 _ (List.getElem_mem (by omega)))), by omega, by omega, by omega⟩)
        ·(show ks.length - (i2 + 1) < ks.length - i2; omega)
       ·refine I5 ?_
        refine sB (qE rfl rfl) rfl rfl (fun h302 => ?_) (fun h302 => ?_)
        ·refine sD (nS (qT rfl (tS ?_)))
         (have hq13 : k = 13 := (by assumption); have hl13 := hk13 hq13; obtain ⟨hE1, hE2⟩ := hst2.at2 (i := 0) (by omega) (by omega); have hE3 := hE2.len; have hE4 := hE2.one; have hEc := B2Y (ts := us2) (i := 0) (by omega); refine D3 D4 rfl ?_)
         refine E8 (i := 0) (l' := [tt,ff,ff,ff,ff,ff,ff,ff,ff]) rfl C5 (A9 rfl) rfl (by kernel_rfl) rfl rfl ?_
         refine aL 1 rfl (C2 rfl rfl) rfl ?_
         refine aP 2 rfl (D0 rfl rfl rfl (by omega)) rfl ?_
         refine aL 3 rfl (A6 rfl rfl (A4I (es := es2) (by repeat first | exact mH | apply mT) (by omega) hall2) hE3) rfl ?_
         refine aL 4 rfl (A2 rfl rfl) rfl ?_
         refine aP 5 rfl (qM rfl) rfl ?_
         refine A1 6 ?_
         refine A05 rfl rfl rfl rfl hE3 hE4 rfl rfl (by repeat first | exact Sw.here | apply Sw.there) (by exact I4 hE3.symm) (by repeat (first | exact A5.nil | apply A5.dep (by decide +kernel) | apply A5.blk (by decide +kernel) (by repeat (first | exact Pk.here | apply Pk.there)) (by repeat first | exact mH | apply mT))) ?_
         refine A1 7 ?_
         refine A05 rfl rfl rfl rfl rfl rfl rfl rfl (by repeat first | exact Sw.here | apply Sw.there) (by rfl) (by repeat (first | exact A5.nil | apply A5.dep (by decide +kernel) | apply A5.blk (by decide +kernel) (by repeat (first | exact Pk.here | apply Pk.there)) (by repeat first | exact mH | apply mT))) ?_
         refine aP 8 rfl (qA rfl) rfl ?_
         refine D8 (nS ?_)
         (refine A2T (bs := [(bc, es2.flatten ++ C)]) (Pk.perm (by repeat (first | exact Pk.here | apply Pk.there))) (fun hn9 hd9 hle9 => ?_))
         refine tT (rS ?_)
         refine rF3 (rC rfl (A6 rfl rfl (C8 (by repeat first | exact mH | apply mT)) hE3)) (rC rfl (A2 rfl rfl)) (rT rfl) ?_
         (exact ⟨rfl, us2[0], _, mt, _, l2, rfl, hE2.mono hle9, Tm.smallL_mem hus2 _ (List.getElem_mem _), by omega, hmr.mono hle9, hma, by omega, by omega, by omega⟩)
        ·refine sD (nS (cF rfl (tK (nS (tS ?_)))))
         refine D3 D4 rfl ?_
         refine S3 (i := 0) (l' := [tt,ff,ff,ff,ff,ff]) rfl C5 (A2 rfl rfl) rfl (by kernel_rfl) rfl rfl ?_
         refine aL 1 rfl (A2 rfl rfl) rfl ?_
         refine aP 2 rfl (qM rfl) rfl ?_
         refine A1 3 ?_
         refine A05 rfl rfl rfl rfl rfl rfl rfl rfl (by repeat first | exact Sw.here | apply Sw.there) (by rfl) (by repeat (first | exact A5.nil | apply A5.dep (by decide +kernel) | apply A5.blk (by decide +kernel) (by repeat (first | exact Pk.here | apply Pk.there)) (by repeat first | exact mH | apply mT))) ?_
         refine A1 4 ?_
         refine A05 rfl rfl rfl rfl rfl rfl rfl rfl (by repeat first | exact Sw.here | apply Sw.there) (by rfl) (by repeat (first | exact A5.nil | apply A5.dep (by decide +kernel) | apply A5.blk (by decide +kernel) (by repeat (first | exact Pk.here | apply Pk.there)) (by repeat first | exact mH | apply mT))) ?_
         refine aP 5 rfl (qA rfl) rfl ?_
         refine D8 (nS ?_)
         (refine A2T (bs := [(bc, es2.flatten ++ C)]) (Pk.perm (by repeat (first | exact Pk.here | apply Pk.there))) (fun hn9 hd9 hle9 => ?_))
         refine tT ?_
         refine rF3 (rC rfl (A2 rfl rfl)) (rC rfl (A2 rfl rfl)) (rT rfl) ?_
         (have hst9 := hst2.mono hle9; refine ⟨rfl, .mk k nm num (.mk tk tks) (.mk fk fks) lb us2, _, mt, _, l2, rfl, by rw [← hlu2]; exact B5.of9 hk hnum hlb (hty1.mono hle9) (hfr1.mono hle9) (D5.of (Sl.of_blk (A := []) (by rw [A2v hst9.all, hst9.len]) (by omega) hcm (Wi.in hn9 List.mem_cons_self)) hst9.len hst9.all (fun e he => by obtain ⟨q, hq⟩ := List.getElem?_of_mem he; exact (hst9.inv hq K7).2.one)) hst9, by rw [Tm.small]; exact ⟨hnm, htsm, hfsm, by omega, hus2⟩, by rw [C3]; omega, hmr.mono hle9, hma, by omega, by omega, by omega⟩)
theorem A8L : ∀ {ks : List Tm} {i : Nat} (h : i < ks.length), C9 (ks.take (i + 1)) = C9 (ks.take i) + C3 ks[i]
 | [], i, h => by simp at h
 | t :: ts, 0, h => by simp [C9]
 | t :: ts, i + 1, h => by
  have := A8L (ks := ts) (i := i) (by simpa using h)
  simp only [List.take_succ_cons, C9, List.getElem_cons_succ, this]
  omega
theorem A8M : ∀ (ks : List Tm) (i : Nat), C9 (ks.take i) ≤ C9 ks
 | [], i => by simp [C9]
 | t :: ts, 0 => by simp [C9]
 | t :: ts, i + 1 => by
  have := A8M ts i
  simp only [List.take_succ_cons, C9]
  omega
def A1K (t : Ty) : Ty := if t.k = 4 ∨ t.k = 5 then .mk t.k [Q1, Q1] else .mk t.k []
def A4J (t : Ty) : Bool := decide (t.k ≠ 1) && P4 t (A1K t)
def prx (t : Tm) : Bool := decide (t.k = 14 ∧ t.fr.k = t.ty.k ∧ (t.ty.k = 4 ∨ t.ty.k = 5))
def inj (t : Tm) : Bool := decide (t.k = 14 ∧ t.ty.k = 1) && A4J t.fr
mutual
def A22 : Tm → Bool
 | .mk k nm num ty fr lb ks => if k = 10 ∨ (k = 14 ∧ fr.k = ty.k ∧ (ty.k = 4 ∨ ty.k = 5)) ∨ (k = 14 ∧ ty.k = 1 ∧ A4J fr = true) then A8N ks else decide (k = 2 ∨ k = 3 ∨ k = 4 ∨ k = 5)
def A8N : List Tm → Bool
 | [] => true
 | t :: ts => A22 t && A8N ts
end
mutual
def A6b (x : ByteArray) (v : Tm) : Tm → Tm
 | .mk k nm num ty fr lb ks => if k = 1 ∧ nm = x then v else if k = 5 ∧ nm = x then .mk k nm num ty fr lb ks else .mk k nm num ty fr lb (A8O x v ks)
def A8O (x : ByteArray) (v : Tm) : List Tm → List Tm
 | [] => []
 | t :: ts => A6b x v t :: A8O x v ts
end
def R5 (e : Tm) (fr to : Ty) (lb : Int) : Tm := .mk 14 ⟨#[]⟩ 0 to fr lb [e]
def A2C (k : Int) (ks : List Tm) : Tm := .mk k ⟨#[]⟩ 0 A7 A7 0 ks
def A8P (n : Int) : Tm := .mk 2 ⟨#[]⟩ n A7 A7 0 []
def A8Q (b : Prop) [Decidable b] : Tm := A2C (if b then 3 else 4) []
abbrev Stp := Tm × Int × Int
def A0R : Stp := (K7, 3, 0)
def kd (ks : List Tm) (i : Nat) : Tm := ks.getD i K7
def kt (ks : List Ty) (i : Nat) : Ty := ks.getD i A7
def B20 (k : Int) (ty fr : Ty) (lb : Int) (ks : List Tm) : Stp :=
 if k = 6 then
  (if (kd ks 0).k = 5 then (A6b (kd ks 0).nm (kd ks 1) (kd (kd ks 0).ks 0), 1, 0)
   else if prx (kd ks 0) = true ∧ (kd ks 0).ty.k = 4 then (R5 (A2C 6 [kd (kd ks 0).ks 0, R5 (kd ks 1) (kt (kd ks 0).ty.ks 0) (kt (kd ks 0).fr.ks 0) (-(kd ks 0).lb)]) (kt (kd ks 0).fr.ks 1) (kt (kd ks 0).ty.ks 1) (kd ks 0).lb, 1, 0)
   else A0R)
 else if k = 7 ∨ k = 8 then
  (if (kd ks 0).k = 2 ∧ (kd ks 1).k = 2 then (if k = 7 then A8P (((kd ks 0).num + (kd ks 1).num) % 1000) else A8Q ((kd ks 0).num < (kd ks 1).num), 1, 0) else A0R)
 else if k = 9 then (if (kd ks 0).k = 3 then (kd ks 1, 1, 0) else if (kd ks 0).k = 4 then (kd ks 2, 1, 0) else A0R)
 else if k = 11 ∨ k = 12 then
  (if (kd ks 0).k = 10 then (kd (kd ks 0).ks (k - 11).toNat, 1, 0)
   else if prx (kd ks 0) = true ∧ (kd ks 0).ty.k = 5 then (R5 (A2C k [kd (kd ks 0).ks 0]) (kt (kd ks 0).fr.ks (k - 11).toNat) (kt (kd ks 0).ty.ks (k - 11).toNat) (kd ks 0).lb, 1, 0)
   else A0R)
 else if k = 14 then
  (if fr.k = ty.k then (kd ks 0, 1, 0)
   else if ty.k = 1 then (R5 (R5 (kd ks 0) fr (A1K fr) lb) (A1K fr) ty lb, 1, 0)
   else if A4J ty = false then (R5 (R5 (kd ks 0) fr (A1K ty) lb) (A1K ty) ty lb, 1, 0)
   else if inj (kd ks 0) = false then A0R
   else if (kd ks 0).fr.k = ty.k then (kd (kd ks 0).ks 0, 1, 0)
   else (K7, 2, lb))
 else A0R
mutual
def A1L : Tm → Stp
 | .mk k nm num ty fr lb ks => match A8R (if k = 9 then 1 else ks.length) ks with
  | some (ks', c, l) => if c = 1 then (.mk k nm num ty fr lb ks', 1, 0) else (K7, c, l)
  | none => B20 k ty fr lb ks
def A8R : Nat → List Tm → Option (List Tm × Int × Int)
 | _, [] => none
 | n, t :: ts => match n with
  | 0 => none
  | n + 1 => if A22 t = true then (match A8R n ts with
    | some (us, c, l) => some (t :: us, c, l)
    | none => none)
   else some ((A1L t).1 :: ts, (A1L t).2.1, (A1L t).2.2)
end
def U9 (e : Tm) : Stp :=
 if R2 e = false then A0R else if A22 e = true then (e, 0, 0)
 else if (A1L e).2.1 ≠ 1 then (K7, (A1L e).2.1, (A1L e).2.2)
 else if R2 (A1L e).1 = false then (K7, 4, 0) else ((A1L e).1, 1, 0)
def mEv : Nat → Tm → Tm × Int × Int × Nat
 | 0, e => if (U9 e).2.1 = 1 then (K7, 5, 0, 0) else ((U9 e).1, (U9 e).2.1, (U9 e).2.2, 0)
 | n + 1, e => if (U9 e).2.1 = 1 then ((mEv n (U9 e).1).1, (mEv n (U9 e).1).2.1, (mEv n (U9 e).1).2.2.1, (mEv n (U9 e).1).2.2.2 + 1)
  else ((U9 e).1, (U9 e).2.1, (U9 e).2.2, 0)
def A0n (e : Tm) (fuel : Int) : Stp := if 0 ≤ fuel ∧ fuel ≤ 300 then ((mEv fuel.toNat e).1, (mEv fuel.toNat e).2.1, (mEv fuel.toNat e).2.2.1) else A0R
def B6Q (e : Tm) (fuel : Int) : Int := if 0 ≤ fuel ∧ fuel ≤ 300 then ((mEv fuel.toNat e).2.2.2 : Int) else 0
structure CvN (k : Int) (nm : ByteArray) (num : Int) (ty fr : Ty) (lb : Int) (ks : List Tm) : Prop where
 ops : H6 k = ks.length
 ne : k ≠ 13
 nm1 : nm.size ≤ 1
 num0 : 0 ≤ num ∧ num ≤ 999
 tyA : E4 ty
 frA : E4 fr
 lbB : -99 ≤ lb ∧ lb ≤ 99
 c14 : k = 14 → K2 fr ty = true ∧ H3 ty = true ∧ H3 fr = true
 ty5 : ¬(k = 5 ∨ k = 14) → ty = A7
 fr14 : k ≠ 14 → fr = A7 ∧ lb = 0
def cv (t : Tm) : Prop := ∃ d, L8 40 13 t d = true
theorem A8S {n lo hi : Int} : X0 n lo hi = true ↔ lo ≤ n ∧ n ≤ hi := by unfold X0; rw [decide_eq_true_eq]
theorem A3M (k : Int) (nm : ByteArray) (num : Int) (ty fr : Ty) (lb : Int) (ks : List Tm) : C3 (.mk k nm num ty fr lb ks) = C9 ks + 1 := by rw [C3]
def GT.ty : GT → Ty
 | .any => .mk 1 []
 | .int => .mk 2 []
 | .bool => .mk 3 []
 | .fn a b => .mk 4 [a.ty, b.ty]
 | .pr a b => .mk 5 [a.ty, b.ty]
def GE.tm : GE → Tm
 | .var x => .mk 1 x 0 A7 A7 0 []
 | .num n => .mk 2 ⟨#[]⟩ n A7 A7 0 []
 | .tru b => .mk (if b = true then 3 else 4) ⟨#[]⟩ 0 A7 A7 0 []
 | .lam x A e => .mk 5 x 0 A.ty A7 0 [e.tm]
 | .app f a => .mk 6 ⟨#[]⟩ 0 A7 A7 0 [f.tm, a.tm]
 | .ar s a b => .mk (if s = true then 8 else 7) ⟨#[]⟩ 0 A7 A7 0 [a.tm, b.tm]
 | .ite c a b => .mk 9 ⟨#[]⟩ 0 A7 A7 0 [c.tm, a.tm, b.tm]
 | .pair a b => .mk 10 ⟨#[]⟩ 0 A7 A7 0 [a.tm, b.tm]
 | .part s e => .mk (if s = true then 12 else 11) ⟨#[]⟩ 0 A7 A7 0 [e.tm]
 | .cast A B l e => .mk 14 ⟨#[]⟩ 0 B.ty A.ty l [e.tm]
section
variable {k : Int} {nm : ByteArray} {num : Int} {ty fr : Ty} {lb : Int} {a b c : Tm} {t : Tm} {l : Int}
end
def Bd (e : GE) : Prop := A22 e.tm = false ∧ (A1L e.tm).2.1 = 2
theorem B21 (e : Tm) (a b : Ty) (l : Int) : C3 (R5 e a b l) = C3 e + 1 := by rw [R5, A3M, C9, C9]
def B6R (u : Ty) (G : IM) : IM → Value → List A4 → Prop := L7 fun G' v => ∃ cells, v = .agg ⟨cells⟩ ∧ B3 G' u cells
def A14 (r : Option Ty) (G : IM) : IM → Value → List A4 → Prop := L7 fun G' v => ∃ cells u, v = .tuple ⟨[.agg ⟨cells⟩, .bool r.isSome]⟩ ∧ B3 G' u cells ∧ ∀ t, r = some t → u = t
theorem A8T {G : IM} {k : Int} {a b : Ty} {ca cb : List Value} {p : Option Addr} {c : Nat} (hk : H4 k) (ha : B3 G a ca) (hb : B3 G b cb) (hs : Sl G p 2 c 2 (ca ++ cb)) : B3 G (.mk k [a, b]) [.int .i64 k, .slice p 2 c] := by
 have hL : E1 G [a, b] [ca, cb] := by simp only [E1]; exact ⟨ca, [cb], rfl, ha, cb, [], rfl, hb, rfl⟩
 exact E1.ty (ts := [a, b]) (es := [ca, cb]) hL rfl (by simpa using hs) hk
theorem A23 (k tk : Int) (ks : List Ty) : X3 k (.mk tk ks) = if tk = k then some (ks.getD 0 A7, ks.getD 1 A7) else if tk = 1 then some (Q1, Q1) else none := rfl
def B22 (k : Int) (t : Ty) (G : IM) : IM → Value → List A4 → Prop := L7 fun G' v => ∃ a ca b cb, v = .tuple ⟨[.agg ⟨ca⟩, .agg ⟨cb⟩, .bool (X3 k t).isSome]⟩ ∧ B3 G' a ca ∧ B3 G' b cb ∧ E4 a ∧ E4 b ∧ ∀ p, X3 k t = some p → p = (a, b)
def A24 (G : IM) (b : ByteArray × Ty) (e : List Value) : Prop := ∃ q d, e = [.string b.1, .int .i64 b.2.k, .slice q b.2.ks.length d] ∧ B3 G b.2 [.int .i64 b.2.k, .slice q b.2.ks.length d]
theorem A24.mono {G G' : IM} {b : ByteArray × Ty} {e : List Value} (h : A24 G b e) (hg : B2 G G') : A24 G' b e := by
 obtain ⟨q, d, h1, h2⟩ := h
 exact ⟨q, d, h1, h2.mono hg⟩
def V6 (G : IM) (cx : Cx) (p : Option Addr) (n c : Nat) : Prop := n = cx.length ∧ ∃ es : List (List Value), D5 G p n c 3 es ∧ ∀ (i : Nat) (b : ByteArray × Ty), cx[i]? = some b → ∃ e, es[i]? = some e ∧ A24 G b e
theorem V6.mono {G G' : IM} {cx : Cx} {p : Option Addr} {n c : Nat} (h : V6 G cx p n c) (hg : B2 G G') : V6 G' cx p n c := by
 obtain ⟨h1, es, h2, h3⟩ := h
 refine ⟨h1, es, h2.mono hg, fun i b hb => ?_⟩
 obtain ⟨e, he, hr⟩ := h3 i b hb
 exact ⟨e, he, hr.mono hg⟩
theorem V6.nil (G : IM) : V6 G [] none 0 0 := ⟨rfl, [], D5.nil _ _, by simp⟩
theorem V6.le {G : IM} {cx : Cx} {p : Option Addr} {n c : Nat} (h : V6 G cx p n c) : n ≤ 9223372036854775807 := by
 obtain ⟨h1, es, h2, h3⟩ := h
 exact h2.le
theorem V6.get {G : IM} {cx : Cx} {p : Option Addr} {n c : Nat} (h : V6 G cx p n c) {i : Nat} (hi : i < n) :
  ∃ b o nm t q d, cx[i]? = some (nm, t) ∧ p = some ⟨b, o, none⟩ ∧ (∀ hp, At hp G b (o + i * 3) [.string nm, .int .i64 t.k, .slice q t.ks.length d]) ∧ B3 G t [.int .i64 t.k, .slice q t.ks.length d] ∧ G b ≠ none := by
 obtain ⟨h1, es, h2, h3⟩ := h
 obtain ⟨e, b, o, he, rfl, hl, _, hat, hgb⟩ := h2.get (i := i) (by omega)
 have hx : cx[i]? = some cx[i] := List.getElem?_eq_getElem (by omega)
 obtain ⟨e', he', q, d, h4, h5⟩ := h3 i _ hx
 rw [he] at he'
 obtain rfl := Option.some.inj he'
 rw [h4] at hat
 exact ⟨b, o, cx[i].1, cx[i].2, q, d, hx, rfl, hat, h5, hgb⟩
def WtP (r : Option (List Ty × Ty)) (G : IM) : IM → Value → List A4 → Prop := L7 fun G' v => ∃ p n c es w cu u, v = .tuple ⟨[.slice p n c, .agg ⟨cu⟩, .bool r.isSome]⟩ ∧ n = w.length ∧ D5 G' p n c 2 es ∧ E1 G' w es ∧ B3 G' u cu ∧ ∀ q, r = some q → q = (w, u)
section
variable {cx : Cx} {nm : ByteArray} {ty : Ty} {h : List Ty}
theorem mW1 : R3 cx 1 nm ty h = match A1H cx nm with | some t => some ([], t) | none => none := rfl
theorem mW2 : R3 cx 2 nm ty h = some ([], T2) := rfl
theorem A8U {k : Int} (hk : k = 3 ∨ k = 4) : R3 cx k nm ty h = some ([], Z1) := by rcases hk with rfl | rfl <;> rfl
theorem mW5 : R3 cx 5 nm ty h = some ([], .mk 4 [ty, h.getD 0 A7]) := rfl
theorem mW6 : R3 cx 6 nm ty h = match X3 4 (h.getD 0 A7) with | some (a, b) => if K2 (h.getD 1 A7) a = true then some ([.mk 4 [a, b], a], b) else none | none => none := rfl
theorem A6c {k : Int} (hk : k = 7 ∨ k = 8) : R3 cx k nm ty h = if K2 (h.getD 0 A7) T2 = true ∧ K2 (h.getD 1 A7) T2 = true then some ([T2, T2], if k = 8 then Z1 else T2) else none := by rcases hk with rfl | rfl <;> rfl
theorem mW9 : R3 cx 9 nm ty h = if K2 (h.getD 0 A7) Z1 = true ∧ K2 (h.getD 1 A7) (h.getD 2 A7) = true then some ([Z1, X2 (h.getD 1 A7) (h.getD 2 A7), X2 (h.getD 1 A7) (h.getD 2 A7)], X2 (h.getD 1 A7) (h.getD 2 A7)) else none := rfl
theorem A8V : R3 cx 10 nm ty h = some ([], .mk 5 [h.getD 0 A7, h.getD 1 A7]) := rfl
theorem A8W : R3 cx 13 nm ty h = if K2 (h.getD 0 A7) ty = true then some ([ty], ty) else none := rfl
theorem A6d {k : Int} (hk : k = 11 ∨ k = 12) : R3 cx k nm ty h = match X3 5 (h.getD 0 A7) with | some (a, b) => some ([.mk 5 [a, b]], if k = 12 then b else a) | none => none := by rcases hk with rfl | rfl <;> rfl
end
theorem A3N (G : IM) : B3 G T2 [.int .i64 2, .slice none 0 0] := J6 G ⟨by omega, by omega⟩
theorem A6e (G : IM) : B3 G Z1 [.int .i64 3, .slice none 0 0] := J6 G ⟨by omega, by omega⟩
theorem A8X {cx : Cx} {k : Int} {nm : ByteArray} {ty : Ty} {h w : List Ty} {t : Ty} (he : A1p cx k nm ty h = some (w, t)) : H3 t = true ∧ R3 cx k nm ty h = some (w, t) := by
 unfold A1p at he
 split at he
 ·rename_i w' t' hw
  split at he
  ·cases he; exact ⟨by assumption, hw⟩
  ·cases he
 ·cases he
theorem V6.snoc {G G' : IM} {cx : Cx} {n : Nat} {p' : Option Addr} {c' : Nat} {es : List (List Value)} {e : List Value} {nm : ByteArray} {t : Ty} (h1 : n = cx.length) (hl : es.length = n) (h2 : ∀ x ∈ es, x.length = 3) (h3 : ∀ x ∈ es, x.all (·.oneCell') = true)
  (h4 : ∀ (i : Nat) (b : ByteArray × Ty), cx[i]? = some b → ∃ e, es[i]? = some e ∧ A24 G b e) (hg : B2 G G') (he : A24 G' (nm, t) e) (hs : Sl G' p' (n + 1) c' 3 (es.flatten ++ e)) : V6 G' (cx ++ [(nm, t)]) p' (n + 1) c' := by
 have hel : e.length = 3 ∧ e.all (·.oneCell') = true := by obtain ⟨q, d, rfl, _⟩ := he; exact ⟨rfl, rfl⟩
 refine ⟨by simp [h1], es ++ [e], D5.of (by simpa using hs) (by simp [hl]) ?_ ?_, ?_⟩
 ·simp only [List.forall_mem_append, List.forall_mem_singleton]; exact ⟨h2, hel.1⟩
 ·simp only [List.forall_mem_append, List.forall_mem_singleton]; exact ⟨h3, hel.2⟩
 ·intro i b hb
  rw [List.getElem?_append] at hb ⊢
  split at hb
  ·rename_i hi
   obtain ⟨e', he', hr⟩ := h4 i b hb
   rw [if_pos (by omega)]
   exact ⟨e', he', hr.mono hg⟩
  ·rename_i hi
   have : i - cx.length = 0 := by
    apply Classical.byContradiction; intro hc
    rw [List.getElem?_eq_none (by simp; omega)] at hb; cases hb
   rw [this] at hb
   simp only [List.getElem?_cons_zero, Option.some.injEq] at hb
   subst hb
   rw [if_neg (by omega)]
   exact ⟨e, by rw [show i - es.length = 0 by omega]; rfl, he⟩
theorem A14.no {r : Option Ty} {G G' : IM} {cu : List Value} {u : Ty} {b : Bool} (hu : B3 G' u cu) (hb : b = false) (h : r = none) : A14 r G G' (.tuple ⟨[.agg ⟨cu⟩, .bool b]⟩) [] := by
 subst hb h
 exact ⟨rfl, cu, u, rfl, hu, by simp⟩
section
variable {cx : Cx} {k : Int} {nm : ByteArray} {num : Int} {ty fr : Ty} {lb : Int} {ks : List Tm}
end
def A6f (r : Tm) : Tm × Bool := if R2 r = true then (r, true) else (K7, false)
def B6S (t : Tm) (path : List Int) (x : Tm) : Tm × Bool := if R2 t = true ∧ R2 x = true ∧ tAt t path ≠ none then A6f (A8D t path x) else (K7, false)
mutual
theorem A6g (D N : Int) : ∀ (t : Tm) (d d' : Int), d' ≤ d → L8 D N t d = true → L8 D N t d' = true
 | .mk k nm num ty fr lb ks, d, d', hd, h => by
  obtain ⟨h1, h2, h3, h4⟩ := Z4 h
  rw [A0M (by omega) h2 h3]
  exact A4K D N ks _ _ (by omega) h4
theorem A4K (D N : Int) : ∀ (ts : List Tm) (d d' : Int), d' ≤ d → O5 D N ts d = true → O5 D N ts d' = true
 | [], d, d', hd, h => by rw [O5]
 | t :: ts, d, d', hd, h => by
  rw [O5, Bool.and_eq_true] at h ⊢
  exact ⟨A6g D N t d d' hd h.1, A4K D N ts d d' hd h.2⟩
end
def J1 : List Tm → List Ty → List Ty → Int → List Tm × Int
 | u :: us, a :: h, b :: w, l => if P4 a b = true then (u :: (J1 us h w l).1, (J1 us h w l).2) else (R5 u a b (l + 1) :: (J1 us h w (l + 1)).1, (J1 us h w (l + 1)).2)
 | us, _, _, l => (us, l)
def A25 (cx : Cx) (k : Int) (nm : ByteArray) (num : Int) (ty fr : Ty) (lb : Int) (us : List Tm) (h : List Ty) (l : Int) : Option (Tm × Ty × Int) :=
 match A1p cx k nm ty h with
 | none => none
 | some (w, t) => some (if k = 13 then (J1 us h w l).1.getD 0 K7 else .mk k nm num ty fr lb (J1 us h w l).1, t, (J1 us h w l).2)
mutual
def R9 (cx : Cx) : Tm → Int → Option (Tm × Ty × Int)
 | .mk k nm num ty fr lb ks, l => match P7 (U4 cx k nm ty) ks l with
  | none => none
  | some (us, h, l') => A25 cx k nm num ty fr lb us h l'
def P7 (cx : Cx) : List Tm → Int → Option (List Tm × List Ty × Int)
 | [], l => some ([], [], l)
 | t :: ts, l => match R9 cx t l with
  | none => none
  | some (u, a, l') => match P7 cx ts l' with
   | none => none
   | some (us, h, l'') => some (u :: us, a :: h, l'')
end
def A0t (e : Tm) : Option (Tm × Ty) := if T7 e = true then (match R9 [] e 0 with | some (u, t, _) => some (u, t) | none => none) else none
def X6 (cx : Cx) (k : Int) (nm : ByteArray) (ty : Ty) (h : List Ty) : Option Ty := match R3 cx k nm ty h with
 | some (_, t) => if (k = 5 ∨ k = 10) ∧ H3 t = false then none else some t
 | none => none
mutual
def Q8 (cx : Cx) : Tm → Option Ty
 | .mk k nm num ty fr lb ks => match V7 (U4 cx k nm ty) ks with
  | none => none
  | some h => X6 cx k nm ty h
def V7 (cx : Cx) : List Tm → Option (List Ty)
 | [] => some []
 | t :: ts => match Q8 cx t with
  | none => none
  | some a => match V7 cx ts with
   | none => none
   | some h => some (a :: h)
end
theorem A4L (k : Int) (ks : List Ty) (d : Int) : H8 (.mk k ks) d = (decide (d ≤ 4) && decide (Q5 k = ks.length) && T1 ks (d + 1)) := by rw [H8]
mutual
theorem A3O : ∀ (t : Ty) (d e : Int), e ≤ d → H8 t d = true → H8 t e = true
 | .mk k ks, d, e, h, hs => by
  rw [A4L, Bool.and_eq_true, Bool.and_eq_true, decide_eq_true_eq, decide_eq_true_eq] at hs ⊢
  exact ⟨⟨by omega, hs.1.2⟩, A8Y ks (d + 1) (e + 1) (by omega) hs.2⟩
theorem A8Y : ∀ (ts : List Ty) (d e : Int), e ≤ d → T1 ts d = true → T1 ts e = true
 | [], d, e, h, hs => by rw [T1]
 | t :: ts, d, e, h, hs => by
  rw [T1, Bool.and_eq_true] at hs ⊢
  exact ⟨A3O t d e h hs.1, A8Y ts d e h hs.2⟩
end
mutual
theorem A6h : ∀ (a b : Ty) (d : Int), K2 a b = true → H8 a d = true → H8 b d = true → H8 (X2 a b) d = true
 | .mk k ks, .mk k' ks', d, hc, ha, hb => by
  rw [A3F]
  split
  ·exact hb
  ·split
   ·exact ha
   ·rw [Y9] at hc
    rw [A4L, Bool.and_eq_true, Bool.and_eq_true, decide_eq_true_eq, decide_eq_true_eq] at ha hb ⊢
    simp only [Bool.or_eq_true, Bool.and_eq_true, decide_eq_true_eq] at hc
    obtain ⟨hk, hl⟩ : k = k' ∧ R1 ks ks' = true := by
     rcases hc with (h | h) | h
     ·contradiction
     ·contradiction
     ·exact h
    subst hk
    obtain ⟨m1, m2⟩ := A8Z ks ks' (d + 1) hl ha.2 hb.2
    exact ⟨⟨ha.1.1, by rw [m2]; exact ha.1.2⟩, m1⟩
theorem A8Z : ∀ (xs ys : List Ty) (d : Int), R1 xs ys = true → T1 xs d = true → T1 ys d = true → T1 (W3 xs ys) d = true ∧ (W3 xs ys).length = xs.length
 | [], [], d, _, _, _ => by simp [W3, T1]
 | [], b :: ys, d, hc, _, _ => by simp [R1] at hc
 | a :: xs, [], d, hc, _, _ => by simp [R1] at hc
 | a :: xs, b :: ys, d, hc, ha, hb => by
  rw [R1, Bool.and_eq_true] at hc
  rw [T1, Bool.and_eq_true] at ha hb
  obtain ⟨m1, m2⟩ := A8Z xs ys d hc.2 ha.2 hb.2
  rw [W3, T1, Bool.and_eq_true]
  exact ⟨⟨A6h a b d hc.1 ha.1 hb.1, m1⟩, by simp [m2]⟩
end
theorem A6i {cx : Cx} (h : ∀ b ∈ cx, H3 b.2 = true) {nm : ByteArray} {t : Ty} : ∀ {n : Nat}, A0O cx nm n = some t → H3 t = true
 | 0, hl => by simp [A0O] at hl
 | n + 1, hl => by
  rw [A0O] at hl
  split at hl
  ·rename_i b hb
   split at hl
   ·cases hl; exact h b (List.mem_of_getElem? hb)
   ·exact A6i h hl
  ·exact A6i h hl
theorem A80 {k : Int} {t a b : Ty} (hk : k = 4 ∨ k = 5) (ht : H3 t = true) (h : X3 k t = some (a, b)) : H3 a = true ∧ H3 b = true := by
 obtain ⟨tk, ks⟩ := t
 rw [show X3 k (.mk tk ks) = (if tk = k then some (ks.getD 0 A7, ks.getD 1 A7) else if tk = 1 then some (Q1, Q1) else none) from rfl] at h
 by_cases he : tk = k
 ·rw [if_pos he] at h
  cases h
  unfold H3 at ht ⊢
  rw [A4L, Bool.and_eq_true, Bool.and_eq_true, decide_eq_true_eq, decide_eq_true_eq] at ht
  have h2 : ks.length = 2 := by
   have : Q5 tk = 2 := by rw [he]; rcases hk with rfl | rfl <;> rfl
   omega
  match ks, h2, ht.2 with
  | [x, y], _, hL =>
   simp only [T1, Bool.and_eq_true] at hL
   exact ⟨A3O _ 2 1 (by omega) hL.1, A3O _ 2 1 (by omega) hL.2.1⟩
 ·rw [if_neg he] at h
  by_cases h1 : tk = 1
  ·rw [if_pos h1] at h
   cases h
   exact ⟨by decide, by decide⟩
  ·rw [if_neg h1] at h; cases h
theorem B23 {l : List Ty} {i : Nat} (h : i < l.length) : l.getD i A7 ∈ l := by
 rw [List.getD_eq_getElem?_getD, List.getElem?_eq_getElem h, Option.getD_some]; exact List.getElem_mem h
theorem B24 {cx : Cx} {k : Int} {nm : ByteArray} {ty : Ty} {h w : List Ty} {t : Ty} (hcx : ∀ b ∈ cx, H3 b.2 = true) (hh : ∀ a ∈ h, H3 a = true) (hd : H3 (h.getD 0 A7) = true ∨ h = []) (hty : k = 13 → H3 ty = true) (hn : H6 k = (h.length : Int)) (hw : R3 cx k nm ty h = some (w, t)) (h510 : k ≠ 5 ∧ k ≠ 10) : H3 t = true := by
 have hg : ∀ i, i < h.length → H3 (h.getD i A7) = true := fun i hi => hh _ (B23 hi)
 unfold R3 at hw
 split at hw
 ·split at hw
  ·rename_i u hu; cases hw; exact A6i hcx hu
  ·cases hw
 split at hw
 ·cases hw; decide
 split at hw
 ·cases hw; decide
 split at hw
 ·exact absurd (by assumption) h510.1
 split at hw
 ·rename_i hk6
  have hl : h.length = 2 := by have : H6 k = 2 := (by rw [hk6]; rfl); omega
  split at hw
  ·rename_i a b hm
   split at hw
   ·cases hw; exact (A80 (.inl rfl) (hg 0 (by omega)) hm).2
   ·cases hw
  ·cases hw
 split at hw
 ·split at hw
  ·cases hw; split <;> decide
  ·cases hw
 split at hw
 ·rename_i hk9
  have hl : h.length = 3 := by have : H6 k = 3 := (by rw [hk9]; rfl); omega
  split at hw
  ·rename_i hc
   cases hw
   exact A6h _ _ 1 hc.2 (hg 1 (by omega)) (hg 2 (by omega))
  ·cases hw
 split at hw
 ·exact absurd (by assumption) h510.2
 split at hw
 ·split at hw
  ·cases hw; exact hty (by assumption)
  ·cases hw
 ·split at hw
  ·rename_i a b hm
   have hl : h.length ≠ 0 := by
    intro h0
    rw [List.length_eq_zero_iff] at h0
    subst h0
    rw [show X3 5 (([] : List Ty).getD 0 A7) = none from rfl] at hm
    cases hm
   cases hw
   have := A80 (.inr rfl) (hg 0 (by omega)) hm
   split
   ·exact this.2
   ·exact this.1
  ·cases hw
def cxV (cx : Cx) : Prop := ∀ b ∈ cx, H3 b.2 = true
theorem A4M : cxV [] := by intro b hb; simp at hb
theorem A4N {cx : Cx} {k : Int} {nm : ByteArray} {ty : Ty} (h : cxV cx) (ht : k = 5 → H3 ty = true) : cxV (U4 cx k nm ty) := by
 unfold U4
 split
 ·intro b hb
  rcases List.mem_append.1 hb with hb | hb
  ·exact h b hb
  ·obtain rfl := List.mem_singleton.1 hb; exact ht (by assumption)
 ·exact h
theorem B25 {cx : Cx} {k : Int} {nm : ByteArray} {ty : Ty} {h : List Ty} (hcx : cxV cx) (hh : ∀ a ∈ h, H3 a = true) (hty : k = 13 → H3 ty = true) (hn : H6 k = (h.length : Int)) :
  (∀ w t, A1p cx k nm ty h = some (w, t) → X6 cx k nm ty h = some t ∧ H3 t = true) ∧ (A1p cx k nm ty h = none → X6 cx k nm ty h = none) := by
 unfold A1p X6
 have hv := fun w t (e : R3 cx k nm ty h = some (w, t)) (h5 : k ≠ 5 ∧ k ≠ 10) => B24 hcx hh (by cases h with | nil => exact .inr rfl | cons x xs => exact .inl (hh _ (by simp))) hty hn e h5
 cases hw : R3 cx k nm ty h with
 | none => simp
 | some p =>
  obtain ⟨w, t⟩ := p
  have hv := hv w t hw
  simp only
  by_cases h5 : k = 5 ∨ k = 10
  ·cases ht : H3 t with
   | true => simp [ht]
   | false => simp [h5]
  ·have := hv (by omega)
   simp [this]
theorem A81 (ks : List Tm) (ih : ∀ t ∈ ks, ∀ d cx l, L8 12 14 t d = true → cxV cx → (∀ u a l', R9 cx t l = some (u, a, l') → Q8 cx t = some a ∧ H3 a = true) ∧ (R9 cx t l = none → Q8 cx t = none)) :
  ∀ d cx l, O5 12 14 ks d = true → cxV cx → (∀ us h l', P7 cx ks l = some (us, h, l') → V7 cx ks = some h ∧ (∀ a ∈ h, H3 a = true) ∧ h.length = ks.length ∧ us.length = ks.length) ∧ (P7 cx ks l = none → V7 cx ks = none) := by
 induction ks with
 | nil =>
  intro d cx l _ _
  refine ⟨fun us h l' he => ?_, fun he => by simp [P7] at he⟩
  simp only [P7, Option.some.injEq, Prod.mk.injEq] at he
  obtain ⟨rfl, rfl, _⟩ := he
  exact ⟨by rw [V7], by simp, rfl, rfl⟩
 | cons t ts ihl =>
  intro d cx l hs hcx
  rw [O5, Bool.and_eq_true] at hs
  obtain ⟨a1, a2⟩ := ih t List.mem_cons_self d cx l hs.1 hcx
  rw [P7, V7]
  cases he : R9 cx t l with
  | none => rw [a2 he]; exact ⟨fun _ _ _ h => by simp at h, fun _ => rfl⟩
  | some p =>
   obtain ⟨u, a, l1⟩ := p
   obtain ⟨b1, b2⟩ := a1 u a l1 he
   rw [b1]
   obtain ⟨c1, c2⟩ := ihl (fun x hx => ih x (List.mem_cons_of_mem _ hx)) d cx l1 hs.2 hcx
   simp only
   cases hL : P7 cx ts l1 with
   | none => rw [c2 hL]; exact ⟨fun _ _ _ h => by simp at h, fun _ => rfl⟩
   | some q =>
    obtain ⟨us, h, l2⟩ := q
    obtain ⟨d1, d2, d3, d4⟩ := c1 us h l2 hL
    rw [d1]
    refine ⟨fun us' h' l' e => ?_, fun e => by simp at e⟩
    simp only [Option.some.injEq, Prod.mk.injEq] at e
    obtain ⟨rfl, rfl, _⟩ := e
    refine ⟨rfl, fun x hx => ?_, by simp [d3], by simp [d4]⟩
    rcases List.mem_cons.1 hx with rfl | hx
    ·exact b2
    ·exact d2 x hx
theorem A6j : ∀ (t : Tm) (d : Int) (cx : Cx) (l : Int), L8 12 14 t d = true → cxV cx → (∀ u a l', R9 cx t l = some (u, a, l') → Q8 cx t = some a ∧ H3 a = true) ∧ (R9 cx t l = none → Q8 cx t = none) := by
 refine Tm.ind fun k nm num ty fr lb ks ih d cx l hs hcx => ?_
 obtain ⟨_, _, h3, h4⟩ := Z4 hs
 obtain ⟨n1, _, _, _, _, n6, _⟩ := U8.1 h3
 obtain ⟨L1, L2⟩ := A81 ks ih (d + 1) (U4 cx k nm ty) l h4 (A4N hcx fun hk => n6 (by omega))
 rw [R9, Q8]
 cases hL : P7 (U4 cx k nm ty) ks l with
 | none => rw [L2 hL]; exact ⟨fun _ _ _ h => by simp at h, fun _ => rfl⟩
 | some q =>
  obtain ⟨us, h, l2⟩ := q
  obtain ⟨d1, d2, d3, d4⟩ := L1 us h l2 hL
  rw [d1]
  obtain ⟨e1, e2⟩ := B25 (k := k) (nm := nm) (ty := ty) hcx d2 (fun hk => n6 (.inr (.inl hk))) (by rw [d3]; exact n1)
  simp only [A25]
  cases hN : A1p cx k nm ty h with
  | none => rw [e2 hN]; exact ⟨fun _ _ _ h => by simp at h, fun _ => rfl⟩
  | some p =>
   obtain ⟨w, t⟩ := p
   obtain ⟨f1, f2⟩ := e1 w t hN
   rw [f1]
   refine ⟨fun u a l' e => ?_, fun e => by simp at e⟩
   simp only [Option.some.injEq, Prod.mk.injEq] at e
   obtain ⟨_, rfl, _⟩ := e
   exact ⟨rfl, f2⟩
theorem B26 {cx : Cx} {k : Int} {nm : ByteArray} {num : Int} {ty fr : Ty} {lb : Int} {ks : List Tm} {T : Ty} {us w : List Ty} (hu : Z2 (U4 cx k nm ty) ks = some us) (hk : k ≠ 14) (hv : H3 T = true) (hw : R3 cx k nm ty us = some (w, T)) (hs : A3G w us = true) : A0P cx (.mk k nm num ty fr lb ks) = some T := by
 rw [A0P, hu]
 simp only [if_neg hk]
 unfold A1p
 rw [hw]
 simp only [hv, if_true, hs]
theorem B27 {cx : Cx} {a : Tm} {us : List Ty} (h : Z2 cx [a] = some us) : ∃ x, A0P cx a = some x ∧ us = [x] := by
 rw [Z2] at h
 split at h
 ·cases h
 ·rename_i x hx
  rw [Z2] at h
  simp only [Option.some.injEq] at h
  exact ⟨x, hx, h.symm⟩
theorem B28 {cx : Cx} {a : Tm} {x : Ty} (h : A0P cx a = some x) : Z2 cx [a] = some [x] := by rw [Z2, h]; rfl
mutual
theorem A2D : ∀ a : Ty, K2 a a = true
 | .mk k ks => by rw [Y9, A82 ks]; simp
theorem A82 : ∀ xs : List Ty, R1 xs xs = true
 | [] => rfl
 | a :: xs => by rw [R1, A2D a, A82 xs]; rfl
end
mutual
theorem A83 : ∀ a : Ty, X2 a a = a
 | .mk k ks => by
  rw [A3F, A84 ks]
  by_cases h : k = 1
  ·rw [if_pos h]
  ·rw [if_neg h, if_neg h]
theorem A84 : ∀ xs : List Ty, W3 xs xs = xs
 | [] => rfl
 | a :: xs => by rw [W3, A83 a, A84 xs]
end
theorem A85 {k : Int} {ks : List Ty} (hk : k = 4 ∨ k = 5) (h : H3 (.mk k ks) = true) : ∃ a b, ks = [a, b] ∧ H3 a = true ∧ H3 b = true := by
 unfold H3 at h ⊢
 rw [A4L, Bool.and_eq_true, Bool.and_eq_true, decide_eq_true_eq, decide_eq_true_eq] at h
 have h2 : ks.length = 2 := by
  have : Q5 k = 2 := by rcases hk with rfl | rfl <;> rfl
  omega
 match ks, h2, h.2 with
 | [x, y], _, hL =>
  simp only [T1, Bool.and_eq_true] at hL
  exact ⟨x, y, rfl, A3O _ 2 1 (by omega) hL.1, A3O _ 2 1 (by omega) hL.2.1⟩
section inv
variable {cx : Cx} {nm : ByteArray} {num : Int} {ty fr : Ty} {lb : Int} {a b c : Tm} {T : Ty}
theorem A86 : ∀ xs : List Ty, A3G xs xs = true
 | [] => rfl
 | a :: xs => by rw [A3G, A5X, A86 xs]; rfl
theorem B29 (h : A0P cx a = some fr) : A0P cx (.mk 14 nm num ty fr lb [a]) = some ty := by
 rw [A0P, show U4 cx 14 nm ty = cx from rfl, B28 h]
 simp only [if_true, List.getD_cons_zero, A5X]
end inv
theorem A87 {cx : Cx} : ∀ {ks : List Tm} {i : Nat} (hi : i < ks.length) {l l' l2 : Int} {us : List Tm} {h : List Ty} {u : Tm} {a : Ty}, P7 cx (ks.take i) l = some (us, h, l') → R9 cx ks[i] l' = some (u, a, l2) → P7 cx (ks.take (i + 1)) l = some (us ++ [u], h ++ [a], l2)
 | [], i, hi, _, _, _, _, _, _, _, _, _ => by simp at hi
 | t :: ts, 0, _, l, l', l2, us, h, u, a, h1, h2 => by
  simp only [List.take_zero, P7, Option.some.injEq, Prod.mk.injEq] at h1
  obtain ⟨rfl, rfl, rfl⟩ := h1
  simp only [List.getElem_cons_zero] at h2
  simp [P7, h2]
 | t :: ts, i + 1, hi, l, l', l2, us, h, u, a, h1, h2 => by
  simp only [List.take_succ_cons, P7] at h1 ⊢
  split at h1
  ·cases h1
  ·rename_i u1 a1 l1 he
   split at h1
   ·cases h1
   ·rename_i us1 h1' l1' hL
    simp only [Option.some.injEq, Prod.mk.injEq] at h1
    obtain ⟨rfl, rfl, rfl⟩ := h1
    simp only [List.getElem_cons_succ] at h2
    have := A87 (ks := ts) (i := i) (by simpa using hi) hL h2
    simp only [this, List.cons_append]
theorem A88 {cx : Cx} : ∀ {ks : List Tm} {i : Nat} (hi : i < ks.length) {l l' : Int} {us : List Tm} {h : List Ty}, P7 cx (ks.take i) l = some (us, h, l') → R9 cx ks[i] l' = none → P7 cx ks l = none
 | [], i, hi, _, _, _, _, _, _ => by simp at hi
 | t :: ts, 0, _, l, l', us, h, h1, h2 => by
  simp only [List.take_zero, P7, Option.some.injEq, Prod.mk.injEq] at h1
  obtain ⟨rfl, rfl, rfl⟩ := h1
  simp only [List.getElem_cons_zero] at h2
  simp [P7, h2]
 | t :: ts, i + 1, hi, l, l', us, h, h1, h2 => by
  simp only [List.take_succ_cons, P7] at h1 ⊢
  split at h1
  ·cases h1
  ·rename_i u1 a1 l1 he
   split at h1
   ·cases h1
   ·rename_i us1 h1' l1' hL
    simp only [Option.some.injEq, Prod.mk.injEq] at h1
    obtain ⟨rfl, rfl, rfl⟩ := h1
    simp only [List.getElem_cons_succ] at h2
    have := A88 (ks := ts) (i := i) (by simpa using hi) hL h2
    simp only [this]
theorem A15 (us : List Tm) (h : List Ty) (l : Int) : J1 us h [] l = (us, l) := by
 cases us with
 | nil => rfl
 | cons u us => cases h <;> rfl
theorem A4O : ∀ (us : List Tm) (h w : List Ty) (l : Int) (j : Nat) (hj : j < w.length) (hu : w.length ≤ us.length) (hh : w.length ≤ h.length),
  (J1 us h (w.take j) l).1.length = us.length ∧ (∀ (hq : j < (J1 us h (w.take j) l).1.length), (J1 us h (w.take j) l).1[j] = us[j]'(by omega)) ∧
  J1 us h (w.take (j + 1)) l = if P4 (h[j]'(by omega)) w[j] = true then J1 us h (w.take j) l else ((J1 us h (w.take j) l).1.set j (R5 (us[j]'(by omega)) (h[j]'(by omega)) w[j] ((J1 us h (w.take j) l).2 + 1)), (J1 us h (w.take j) l).2 + 1)
 | us, h, [], l, j, hj, _, _ => by simp at hj
 | [], h, b :: w, l, j, _, hu, _ => by simp at hu
 | u :: us, [], b :: w, l, j, _, _, hh => by simp at hh
 | u :: us, a :: h, b :: w, l, 0, _, _, _ => by
  refine ⟨by simp [J1], by simp [J1], ?_⟩
  simp only [List.take_succ_cons, List.take_zero, J1, A15, List.getElem_cons_zero, List.set_cons_zero]
 | u :: us, a :: h, b :: w, l, j + 1, hj, hu, hh => by
  simp only [List.take_succ_cons, List.getElem_cons_succ]
  by_cases hs : P4 a b = true
  ·have ih := A4O us h w l j (by simpa using hj) (by simpa using hu) (by simpa using hh)
   simp only [J1, if_pos hs]
   obtain ⟨i1, i2, i3⟩ := ih
   refine ⟨by simp [i1], fun hq => by simp [i2], ?_⟩
   rw [i3]
   split <;> simp
  ·have ih := A4O us h w (l + 1) j (by simpa using hj) (by simpa using hu) (by simpa using hh)
   simp only [J1, if_neg hs]
   obtain ⟨i1, i2, i3⟩ := ih
   refine ⟨by simp [i1], fun hq => by simp [i2], ?_⟩
   rw [i3]
   split <;> simp
theorem A26 : ∀ (us : List Tm) (h w : List Ty) (l : Int), (J1 us h w l).1.length = us.length
 | [], h, w, l => by simp [J1]
 | u :: us, [], w, l => by simp [J1]
 | u :: us, a :: h, [], l => by simp [J1]
 | u :: us, a :: h, b :: w, l => by
  simp only [J1]
  split
  ·simp [A26 us h w l]
  ·simp [A26 us h w (l + 1)]
theorem B3a {us : List Tm} {h w : List Ty} {l : Int} {j : Nat} (hj : j < w.length) (hu : w.length ≤ us.length) (hh : w.length ≤ h.length) :
  (J1 us h (w.take (j + 1)) l).1 = (J1 us h (w.take j) l).1.set j (if P4 (h[j]'(by omega)) w[j] = true then us[j]'(by omega) else R5 (us[j]'(by omega)) (h[j]'(by omega)) w[j] ((J1 us h (w.take j) l).2 + 1)) ∧
  (J1 us h (w.take (j + 1)) l).2 = (if P4 (h[j]'(by omega)) w[j] = true then (J1 us h (w.take j) l).2 else (J1 us h (w.take j) l).2 + 1) := by
 obtain ⟨h1, h2, h3⟩ := A4O us h w l j hj hu hh
 by_cases hs : P4 (h[j]'(by omega)) w[j] = true
 ·rw [h3, if_pos hs, if_pos hs, if_pos hs]
  refine ⟨?_, rfl⟩
  rw [← h2 (by omega), List.set_getElem_self]
 ·rw [h3, if_neg hs, if_neg hs, if_neg hs]
  exact ⟨rfl, rfl⟩
theorem A16 : ∀ (us : List Tm) (h w : List Ty) (l : Int), l ≤ (J1 us h w l).2 ∧ (J1 us h w l).2 ≤ l + us.length
 | [], h, w, l => by simp [J1]
 | u :: us, [], w, l => by simp [J1]; omega
 | u :: us, a :: h, [], l => by simp [J1]; omega
 | u :: us, a :: h, b :: w, l => by
  simp only [J1]
  split
  ·have := A16 us h w l; simp only [List.length_cons]; omega
  ·have := A16 us h w (l + 1); simp only [List.length_cons]; omega
mutual
def A6k : Ty → Ty → Bool
 | .mk k ks, t => decide (t.k = 1) || (decide (k = t.k) && A89 ks t.ks)
def A89 : List Ty → List Ty → Bool
 | [], [] => true
 | a :: xs, b :: ys => A6k a b && A89 xs ys
 | _, _ => false
end
mutual
def A9a : Tm → Tm → Bool
 | .mk k nm num ty _ _ ks, u => decide (k = u.k ∧ nm = u.nm ∧ num = u.num) && (decide (k ≠ 5 ∧ k ≠ 13) || A6k ty u.ty) && A9b ks u.ks
def A9b : List Tm → List Tm → Bool
 | [], [] => true
 | a :: xs, b :: ys => A9a a b && A9b xs ys
 | _, _ => false
end
def B3b (a b : Tm) : Bool := T7 a && (T7 b && A9a a b)
def A4P : GT → GT → GT
 | .any, b => b
 | .fn a b, .fn c d => .fn (A4P a c) (A4P b d)
 | .pr a b, .pr c d => .pr (A4P a c) (A4P b d)
 | a, _ => a
def gmF : GT → Option (GT × GT)
 | .fn a b => some (a, b)
 | .any => some (.any, .any)
 | _ => none
def gmP : GT → Option (GT × GT)
 | .pr a b => some (a, b)
 | .any => some (.any, .any)
 | _ => none
def CxR (cx cx' : Cx) (Γ : GC) : Prop := ∀ x a, A1H cx x = some a → ∃ A A', a = A.ty ∧ A1H cx' x = some A'.ty ∧ Γ x = some (A, A') ∧ Le A A'
def B6T (A B : GT) (l : Int) (e : GE) : GE := if P4 A.ty B.ty = true then e else .cast A B l e
inductive GPL (Γ : GC) : List GE → List GE → List GT → List GT → Prop
 | nil : GPL Γ [] [] [] []
 | cons {e e' A A' es es' As As'} : GP Γ e e' A A' → GPL Γ es es' As As' → GPL Γ (e :: es) (e' :: es') (A :: As) (A' :: As')
abbrev ElR (Γ : GC) (u : Tm) (a : Ty) (r : Option (Tm × Ty × Int)) : Prop := ∃ e A e' A' l2, u = e.tm ∧ a = A.ty ∧ r = some (e'.tm, A'.ty, l2) ∧ GP Γ e e' A A'
section
variable {cx cx' : Cx} {Γ : GC} {es es' : List GE} {As As' : List GT} {l l' : Int} {u : Tm} {a : Ty} {l2 : Int} {nm : ByteArray} {num : Int}
end
variable {P : Program} {G : IM}
def TmP (t : Tm) : IM → Value → List A4 → Prop := L7 fun G' v => ∃ cells, v = .agg ⟨cells⟩ ∧ B5 G' t cells
def mGk (k : Int) : Ty := if k = 4 ∨ k = 5 then .mk k [Q1, Q1] else .mk k []
theorem A27 {G : IM} {k : Int} {ks : List Tm} {p : Option Addr} {n c : Nat} {es : List (List Value)} (hk : H4 k) (hn : n = ks.length) (hs : D5 G p n c 9 es) (hr : E5 G ks es) : B5 G (A2C k ks) [.int .i64 k, .string ⟨⟨[]⟩⟩, .int .i64 0, .int .i64 0, .slice none 0 0, .int .i64 0, .slice none 0 0, .int .i64 0, .slice p n c] := by
 subst hn
 simp only [A2C, B5]
 exact ⟨[.int .i64 0, .slice none 0 0], [.int .i64 0, .slice none 0 0], p, c, es, rfl, hk, ⟨by decide, by decide⟩, ⟨by decide, by decide⟩, A0D G, A0D G, hs, hr⟩
theorem B5.put {G : IM} {k : Int} {nm : ByteArray} {num tk fk lb : Int} {tks fks : List Ty} {us : List Tm} {pt pf p : Option Addr} {ct cf n c : Nat} {es : List (List Value)} (hk : H4 k) (hnum : H4 num) (hlb : H4 lb) (hty : B3 G (.mk tk tks) [.int .i64 tk, .slice pt tks.length ct]) (hfr : B3 G (.mk fk fks) [.int .i64 fk, .slice pf fks.length cf])
  (hn : n = us.length) (hs : D5 G p n c 9 es) (hr : E5 G us es) : B5 G (.mk k nm num (.mk tk tks) (.mk fk fks) lb us) [.int .i64 k, .string nm, .int .i64 num, .int .i64 tk, .slice pt tks.length ct, .int .i64 fk, .slice pf fks.length cf, .int .i64 lb, .slice p n c] := by
 subst hn
 simp only [B5]
 exact ⟨_, _, p, c, es, rfl, hk, hnum, hlb, hty, hfr, hs, hr⟩
theorem nine {uc : List Value} (h : uc.length = 9) : ∃ v1 v2 v3 v4 v5 v6 v7 v8 v9, uc = [v1, v2, v3, v4, v5, v6, v7, v8, v9] := by
 match uc, h with
 | [a, b, c, d, e, f, g, i, j], _ => exact ⟨a, b, c, d, e, f, g, i, j, rfl⟩
theorem A28 (k : Int) (p : Option Addr) (n c : Nat) (G : IM) : Fn Tryz.prog 153 [.int .i64 k, .slice p n c] [] G (L6 (.agg ⟨[.int .i64 k, .string ⟨⟨[]⟩⟩, .int .i64 0, .int .i64 0, .slice none 0 0, .int .i64 0, .slice none 0 0, .int .i64 0, .slice p n c]⟩) G) := by
 refine B8 Tryz.func153 rfl Tryz.ntmps153 Tryz.results153 rfl ?_
 intro w0
 refine tS (tR ?_)
 refine sE (A8 rfl) rfl (fun b3 => ?_)
 refine I6 ?_
 refine E9 (rC rfl (A2 rfl rfl)) ?_
 (exact ⟨rfl, rfl, rfl⟩)
def B3c (k : Int) (ks : List Tm) : Option Tm :=
 if k = 6 then (if (kd ks 0).k = 5 then some (A6b (kd ks 0).nm (kd ks 1) (kd (kd ks 0).ks 0)) else none)
 else if k = 7 ∨ k = 8 then (if (kd ks 0).k = 2 ∧ (kd ks 1).k = 2 then some (if k = 7 then A8P (((kd ks 0).num + (kd ks 1).num) % 1000) else A8Q ((kd ks 0).num < (kd ks 1).num)) else none)
 else if k = 9 then (if (kd ks 0).k = 3 then some (kd ks 1) else if (kd ks 0).k = 4 then some (kd ks 2) else none)
 else if k = 11 ∨ k = 12 then (if (kd ks 0).k = 10 then some (kd (kd ks 0).ks (k - 11).toNat) else none)
 else none
def B6U (o : Option Tm) : IM → Value → List A4 → Prop := L7 fun G' v => ∃ u cells c, v = .tuple ⟨[.agg ⟨cells⟩, .int .i64 c]⟩ ∧ B5 G' u cells ∧ (∀ x, o = some x → c = 1 ∧ u = x) ∧ (o = none → c = 3)
theorem B3d (G : IM) : B5 G K7 [.int .i64 0, .string ⟨⟨[]⟩⟩, .int .i64 0, .int .i64 0, .slice none 0 0, .int .i64 0, .slice none 0 0, .int .i64 0, .slice none 0 0] := (P0.zero G).R
section
variable {P : Program} {Γ : K0} {K : Po} {ops : Array Oper} {env : K3} {hp : List A4} {G : IM}
end
def B6V (k : Int) (ty fr : Ty) (lb : Int) (ks : List Tm) : Stp :=
 if k = 6 then
  (if prx (kd ks 0) = true ∧ (kd ks 0).ty.k = 4 then (R5 (A2C 6 [kd (kd ks 0).ks 0, R5 (kd ks 1) (kt (kd ks 0).ty.ks 0) (kt (kd ks 0).fr.ks 0) (-(kd ks 0).lb)]) (kt (kd ks 0).fr.ks 1) (kt (kd ks 0).ty.ks 1) (kd ks 0).lb, 1, 0) else A0R)
 else if k = 11 ∨ k = 12 then
  (if prx (kd ks 0) = true ∧ (kd ks 0).ty.k = 5 then (R5 (A2C k [kd (kd ks 0).ks 0]) (kt (kd ks 0).fr.ks (k - 11).toNat) (kt (kd ks 0).ty.ks (k - 11).toNat) (kd ks 0).lb, 1, 0) else A0R)
 else if k = 14 then
  (if fr.k = ty.k then (kd ks 0, 1, 0)
   else if ty.k = 1 then (R5 (R5 (kd ks 0) fr (A1K fr) lb) (A1K fr) ty lb, 1, 0)
   else if A4J ty = false then (R5 (R5 (kd ks 0) fr (A1K ty) lb) (A1K ty) ty lb, 1, 0)
   else if inj (kd ks 0) = false then A0R
   else if (kd ks 0).fr.k = ty.k then (kd (kd ks 0).ks 0, 1, 0)
   else (K7, 2, lb))
 else A0R
def B6W (r : Stp) : IM → Value → List A4 → Prop := L7 fun G' v => ∃ u cells, v = .tuple ⟨[.agg ⟨cells⟩, .int .i64 r.2.1, .int .i64 r.2.2]⟩ ∧ B5 G' u cells ∧ (r.2.1 = 1 → u = r.1)
theorem ks1 {ks : List Tm} (h : ks.length = 1) : ∃ a, ks = [a] := by
 match ks, h with
 | [a], _ => exact ⟨a, rfl⟩
theorem A6l {k : Int} (h : 0 ≤ H6 k) : 1 ≤ k ∧ k ≤ 14 := by
 by_cases hk : 1 ≤ k ∧ k ≤ 14
 ·exact hk
 ·rw [A7z hk] at h; omega
def B6X (r : Stp) : IM → Value → List A4 → Prop := L7 fun G' v => ∃ cells, v = .tuple ⟨[.agg ⟨cells⟩, .int .i64 r.2.1, .int .i64 r.2.2]⟩ ∧ B5 G' r.1 cells
def A4Q : Nat → Tm → Tm × Int × Int × Nat
 | 0, e => ((U9 e).1, (U9 e).2.1, (U9 e).2.2, 0)
 | n + 1, e => if (U9 e).2.1 = 1 then ((A4Q n (U9 e).1).1, (A4Q n (U9 e).1).2.1, (A4Q n (U9 e).1).2.2.1, (A4Q n (U9 e).1).2.2.2 + 1)
  else ((U9 e).1, (U9 e).2.1, (U9 e).2.2, 0)
def EvP (r : Tm × Int × Int × Nat) : IM → Value → List A4 → Prop := L7 fun G' v => ∃ cells, v = .tuple ⟨[.agg ⟨cells⟩, .int .i64 r.2.1, .int .i64 r.2.2.1, .int .i64 (r.2.2.2 : Int)]⟩ ∧ B5 G' r.1 cells
def B6Y (i : Nat) (r : Tm × Int × Int × Nat) : Tm × Int × Int × Nat := (r.1, r.2.1, r.2.2.1, r.2.2.2 + i)
section fin
variable {P : Program} {Γ : K0} {env : K3} {hp : List A4} {G : IM}
end fin
mutual
def A4R (L : Int → Prop) : Tm → Prop
 | .mk k nm num ty fr lb ks => (k = 14 → L lb) ∧ A9c L ks
def A9c (L : Int → Prop) : List Tm → Prop
 | [] => True
 | t :: ts => A4R L t ∧ A9c L ts
end
def B6Z (L : Int → Prop) (T : Ty) (r : Stp) : Prop := (r.2.1 = 1 ∧ A0P [] r.1 = some T ∧ A4R L r.1) ∨ (r.2.1 = 2 ∧ L r.2.2)
mutual
theorem A9d : ∀ a b : Ty, K2 a b = true → K2 b a = true
 | .mk k ks, .mk k' ks', h => by
  rw [Y9] at h ⊢
  simp only [Bool.or_eq_true, Bool.and_eq_true, decide_eq_true_eq] at h ⊢
  rcases h with (h | h) | h
  ·exact .inl (.inr h)
  ·exact .inl (.inl h)
  ·exact .inr ⟨h.1.symm, A9e ks ks' h.2⟩
theorem A9e : ∀ xs ys : List Ty, R1 xs ys = true → R1 ys xs = true
 | [], [], _ => rfl
 | [], b :: ys, h => by simp [R1] at h
 | a :: xs, [], h => by simp [R1] at h
 | a :: xs, b :: ys, h => by
  simp only [R1, Bool.and_eq_true] at h ⊢
  exact ⟨A9d a b h.1, A9e xs ys h.2⟩
end
mutual
theorem A9f : ∀ a b : Ty, K2 a b = true → K2 a (X2 a b) = true ∧ K2 b (X2 a b) = true
 | .mk k ks, .mk k' ks', h => by
  rw [A3F]
  by_cases h1 : k = 1
  ·rw [if_pos h1]
   exact ⟨h, A2D _⟩
  ·rw [if_neg h1]
   by_cases h2 : k' = 1
   ·rw [if_pos h2]
    exact ⟨A2D _, A9d _ _ h⟩
   ·rw [if_neg h2]
    rw [Y9] at h
    simp only [Bool.or_eq_true, Bool.and_eq_true, decide_eq_true_eq] at h
    have h3 : k = k' ∧ R1 ks ks' = true := by
     rcases h with (h | h) | h
     ·exact absurd h h1
     ·exact absurd h h2
     ·exact h
    obtain ⟨m1, m2⟩ := A9g ks ks' h3.2
    rw [Y9, Y9, m1, m2]
    simp [h3.1]
theorem A9g : ∀ xs ys : List Ty, R1 xs ys = true → R1 xs (W3 xs ys) = true ∧ R1 ys (W3 xs ys) = true
 | [], [], _ => ⟨rfl, rfl⟩
 | [], b :: ys, h => by simp [R1] at h
 | a :: xs, [], h => by simp [R1] at h
 | a :: xs, b :: ys, h => by
  simp only [R1, Bool.and_eq_true] at h
  obtain ⟨m1, m2⟩ := A9f a b h.1
  obtain ⟨m3, m4⟩ := A9g xs ys h.2
  simp only [W3, R1, m1, m2, m3, m4]
  exact ⟨rfl, rfl⟩
end
theorem B3e {k : Int} {a b : Ty} (hk : k = 4 ∨ k = 5) (h : H3 (.mk k [a, b]) = true) : H3 a = true ∧ H3 b = true := by
 obtain ⟨x, y, he, h1, h2⟩ := A85 hk h
 cases he
 exact ⟨h1, h2⟩
theorem B3f {k : Int} (hk : k = 4 ∨ k = 5) : H3 (.mk k [Q1, Q1]) = true := by rcases hk with rfl | rfl <;> decide
theorem A9h {k : Int} {t a b : Ty} (hk : k = 4 ∨ k = 5) (ht : H3 t = true) (h : X3 k t = some (a, b)) : H3 (.mk k [a, b]) = true ∧ K2 t (.mk k [a, b]) = true := by
 obtain ⟨tk, ks⟩ := t
 rw [A23] at h
 by_cases he : tk = k
 ·subst he
  rw [if_pos rfl] at h
  obtain ⟨x, y, rfl, _, _⟩ := A85 hk ht
  cases h
  exact ⟨ht, A2D _⟩
 ·rw [if_neg he] at h
  by_cases h1 : tk = 1
  ·rw [if_pos h1] at h
   cases h
   refine ⟨B3f hk, ?_⟩
   rw [Y9, h1]; rfl
  ·rw [if_neg h1] at h; cases h
structure Wt (cx : Cx) (k : Int) (nm : ByteArray) (ty : Ty) (h w : List Ty) (t : Ty) : Prop where
 len : w = [] ∨ w.length = h.length
 ok : ∀ i, (hi : i < w.length) → (hh : i < h.length) → K2 h[i] w[i] = true ∧ H3 w[i] = true
 again : k ≠ 13 → R3 cx k nm ty (if w = [] then h else w) = some (w, t)
 asT : k = 13 → w = [t]
theorem A9i {cx : Cx} {k : Int} {nm : ByteArray} {ty : Ty} {h w : List Ty} {t : Ty} (hh : ∀ a ∈ h, H3 a = true) (hty : k = 13 → H3 ty = true) (hn : H6 k = (h.length : Int)) (h14 : k ≠ 14) (hw : R3 cx k nm ty h = some (w, t)) : Wt cx k nm ty h w t := by
 have hkr := A6l (by rw [hn]; omega : 0 ≤ H6 k)
 have hkk : k = 1 ∨ k = 2 ∨ (k = 3 ∨ k = 4) ∨ k = 5 ∨ k = 6 ∨ (k = 7 ∨ k = 8) ∨ k = 9 ∨ k = 10 ∨ (k = 11 ∨ k = 12) ∨ k = 13 := by omega
 have nil : w = [] → k ≠ 13 → Wt cx k nm ty h w t := by
  rintro rfl h13
  exact ⟨.inl rfl, fun i hi => by simp at hi, fun _ => by rw [if_pos rfl]; exact hw, fun h => absurd h h13⟩
 rcases hkk with rfl | rfl | hk | rfl | rfl | hk | rfl | rfl | hk | rfl
 ·refine nil ?_ (by decide)
  rw [mW1] at hw; split at hw <;> cases hw; rfl
 ·refine nil ?_ (by decide)
  rw [mW2] at hw; cases hw; rfl
 ·refine nil ?_ (by omega)
  rw [A8U hk] at hw; cases hw; rfl
 ·refine nil ?_ (by decide)
  rw [mW5] at hw; cases hw; rfl
 ·match h, (show h.length = 2 by have : H6 6 = 2 := rfl; omega) with
  | [x, y], _ =>
  rw [mW6] at hw
  simp only [List.getD_cons_zero, List.getD_cons_succ] at hw
  split at hw
  ·rename_i a b hm
   split at hw
   ·rename_i hc
    cases hw
    obtain ⟨v1, v2⟩ := A9h (.inl rfl) (hh x (by simp)) hm
    obtain ⟨v3, v4⟩ := B3e (.inl rfl) v1
    refine ⟨.inr rfl, fun i hi hi2 => ?_, fun _ => ?_, fun h => absurd h (by decide)⟩
    ·match i, hi with
     | 0, _ => exact ⟨v2, v1⟩
     | 1, _ => exact ⟨hc, v3⟩
    ·rw [if_neg (by simp), mW6]
     simp only [List.getD_cons_zero, List.getD_cons_succ, A23, if_true, A2D]
   ·cases hw
  ·cases hw
 ·match h, (show h.length = 2 by rcases hk with rfl | rfl <;> (first | (have : H6 7 = 2 := rfl; omega) | (have : H6 8 = 2 := rfl; omega))) with
  | [x, y], _ =>
  rw [A6c hk] at hw
  simp only [List.getD_cons_zero, List.getD_cons_succ] at hw
  split at hw
  ·rename_i hc
   cases hw
   refine ⟨.inr rfl, fun i hi hi2 => ?_, fun _ => ?_, fun h => by omega⟩
   ·match i, hi with
    | 0, _ => exact ⟨hc.1, (show H3 T2 = true by decide)⟩
    | 1, _ => exact ⟨hc.2, (show H3 T2 = true by decide)⟩
   ·rw [if_neg (by simp), A6c hk]
    simp only [List.getD_cons_zero, List.getD_cons_succ, A2D, and_self, if_true]
  ·cases hw
 ·match h, (show h.length = 3 by have : H6 9 = 3 := rfl; omega) with
  | [x, y, z], _ =>
  rw [mW9] at hw
  simp only [List.getD_cons_zero, List.getD_cons_succ] at hw
  split at hw
  ·rename_i hc
   cases hw
   obtain ⟨c1, c2⟩ := A9f y z hc.2
   have vm := A6h y z 1 hc.2 (hh y (by simp)) (hh z (by simp))
   refine ⟨.inr rfl, fun i hi hi2 => ?_, fun _ => ?_, fun h => absurd h (by decide)⟩
   ·match i, hi with
    | 0, _ => exact ⟨hc.1, (show H3 Z1 = true by decide)⟩
    | 1, _ => exact ⟨c1, vm⟩
    | 2, _ => exact ⟨c2, vm⟩
   ·rw [if_neg (by simp), mW9]
    simp only [List.getD_cons_zero, List.getD_cons_succ, A2D, and_self, if_true, A83]
  ·cases hw
 ·refine nil ?_ (by decide)
  rw [A8V] at hw; cases hw; rfl
 ·match h, (show h.length = 1 by rcases hk with rfl | rfl <;> (first | (have : H6 11 = 1 := rfl; omega) | (have : H6 12 = 1 := rfl; omega))) with
  | [x], _ =>
  rw [A6d hk] at hw
  simp only [List.getD_cons_zero] at hw
  split at hw
  ·rename_i a b hm
   cases hw
   obtain ⟨v1, v2⟩ := A9h (.inr rfl) (hh x (by simp)) hm
   refine ⟨.inr rfl, fun i hi hi2 => ?_, fun _ => ?_, fun h => by omega⟩
   ·match i, hi with
    | 0, _ => exact ⟨v2, v1⟩
   ·rw [if_neg (by simp), A6d hk]
    simp only [List.getD_cons_zero, List.getD_cons_succ, A23, if_true]
  ·cases hw
 ·match h, (show h.length = 1 by have : H6 13 = 1 := rfl; omega) with
  | [x], _ =>
  rw [A8W] at hw
  simp only [List.getD_cons_zero] at hw
  split at hw
  ·rename_i hc
   cases hw
   refine ⟨.inr rfl, fun i hi hi2 => ?_, fun h => absurd rfl h, fun _ => rfl⟩
   match i, hi with
   | 0, _ => exact ⟨hc, hty rfl⟩
  ·cases hw
theorem A3P {l : Int} (h1 : 1 ≤ l) (h2 : l ≤ 99) : Z0 l = true := by
 unfold Z0
 rw [A8S.2 ⟨h1, h2⟩]; rfl
theorem B3g {u : Tm} {a b : Ty} {l D : Int} (hu : L8 40 13 u (D + 1) = true) (hc : K2 a b = true) (ha : H3 a = true) (hb : H3 b = true) (h1 : 1 ≤ l) (h2 : l ≤ 99) (hD : D ≤ 40) : L8 40 13 (R5 u a b l) D = true := by
 unfold R5
 rw [A0M hD (by decide) (U8.2 ⟨rfl, by simp, fun _ => rfl, by simp, fun _ => rfl, fun _ => hb, by simp, fun _ => ⟨by simp [A0C, ha, hb, hc], A3P h1 h2⟩, by simp⟩)]
 simp [O5, hu]
theorem A6m {cx : Cx} : ∀ (us : List Tm) (h w : List Ty) (l D : Int), us.length = h.length → w.length = h.length → (∀ i, (hi : i < w.length) → (hh : i < h.length) → K2 h[i] w[i] = true ∧ H3 w[i] = true) → (∀ a ∈ h, H3 a = true) → Z2 cx us = some h → O5 40 13 us (D + 1) = true → 0 ≤ l → (J1 us h w l).2 ≤ 99 → D ≤ 40 →
  Z2 cx (J1 us h w l).1 = some w ∧ O5 40 13 (J1 us h w l).1 D = true ∧ (C9 (J1 us h w l).1 : Int) = C9 us + ((J1 us h w l).2 - l)
 | [], [], [], l, D, _, _, _, _, ht, _, _, _, _ => by simp [J1, Z2, O5, C9]
 | [], a :: h, w, l, D, hl, _, _, _, _, _, _, _, _ => by simp at hl
 | u :: us, [], w, l, D, hl, _, _, _, _, _, _, _, _ => by simp at hl
 | [], [], b :: w, l, D, _, hl, _, _, _, _, _, _, _ => by simp at hl
 | u :: us, a :: h, [], l, D, _, hl, _, _, _, _, _, _, _ => by simp at hl
 | u :: us, a :: h, b :: w, l, D, h1, h2, hw, hv, ht, hs, hl, h99, hD => by
  rw [Z2] at ht
  split at ht
  ·cases ht
  ·rename_i a' ha
   split at ht
   ·cases ht
   ·rename_i h' hh'
    simp only [Option.some.injEq, List.cons.injEq] at ht
    obtain ⟨rfl, rfl⟩ := ht
    rw [O5, Bool.and_eq_true] at hs
    obtain ⟨c1, c2⟩ := hw 0 (by simp) (by simp)
    have hw' : ∀ i, (hi : i < w.length) → (hh : i < h'.length) → K2 h'[i] w[i] = true ∧ H3 w[i] = true := fun i hi hh => hw (i + 1) (by simpa using hi) (by simpa using hh)
    have hv' : ∀ x ∈ h', H3 x = true := fun x hx => hv x (List.mem_cons_of_mem _ hx)
    simp only [J1] at h99 ⊢
    by_cases he : P4 a' b = true
    ·simp only [if_pos he] at h99 ⊢
     obtain ⟨i1, i2, i3⟩ := A6m us h' w l D (by simpa using h1) (by simpa using h2) hw' hv' hh' hs.2 hl h99 hD
     have hab := (A5W _ _).1 he
     subst hab
     refine ⟨by rw [Z2, ha, i1], ?_, ?_⟩
     ·rw [O5, Bool.and_eq_true]; exact ⟨A6g 40 13 u (D + 1) D (by omega) hs.1, i2⟩
     ·simp only [C9]; omega
    ·simp only [if_neg he] at h99 ⊢
     obtain ⟨i1, i2, i3⟩ := A6m us h' w (l + 1) D (by simpa using h1) (by simpa using h2) hw' hv' hh' hs.2 (by omega) h99 hD
     have hlab := A16 us h' w (l + 1)
     refine ⟨by rw [Z2, R5, B29 ha, i1], ?_, ?_⟩
     ·rw [O5, Bool.and_eq_true]
      exact ⟨B3g hs.1 c1 (hv a' List.mem_cons_self) c2 (by omega) (by omega) hD, i2⟩
     ·simp only [C9, B21]; omega
def A9j (cx : Cx) (t : Tm) (D l : Int) (u : Tm) (a : Ty) (l' : Int) : Prop := L8 40 13 u D = true ∧ A0P cx u = some a ∧ H3 a = true ∧ l ≤ l' ∧ l' + 1 ≤ l + (C3 t : Int) ∧ (C3 u : Int) ≤ C3 t + (l' - l)
theorem A6n (ks : List Tm) (ih : ∀ t ∈ ks, ∀ (d D : Int) (cx : Cx) (l : Int) (u : Tm) (a : Ty) (l' : Int), L8 12 14 t d = true → cxV cx → 0 ≤ l → R9 cx t l = some (u, a, l') → l' ≤ 99 → D + 2 * (13 - d) ≤ 41 → A9j cx t D l u a l') :
  ∀ (d D : Int) (cx : Cx) (l : Int) (us : List Tm) (h : List Ty) (l' : Int), O5 12 14 ks d = true → cxV cx → 0 ≤ l → P7 cx ks l = some (us, h, l') → l' ≤ 99 → D + 2 * (13 - d) ≤ 41 →
   O5 40 13 us D = true ∧ Z2 cx us = some h ∧ (∀ a ∈ h, H3 a = true) ∧ l ≤ l' ∧ l' + ks.length ≤ l + (C9 ks : Int) ∧ (C9 us : Int) ≤ C9 ks + (l' - l) ∧ h.length = ks.length ∧ us.length = ks.length := by
 induction ks with
 | nil =>
  intro d D cx l us h l' _ _ _ he _ _
  simp only [P7, Option.some.injEq, Prod.mk.injEq] at he
  obtain ⟨rfl, rfl, rfl⟩ := he
  simp [O5, Z2, C9]
 | cons t ts ihl =>
  intro d D cx l us h l' hs hcx hl he h99 hD
  rw [O5, Bool.and_eq_true] at hs
  rw [P7] at he
  split at he
  ·cases he
  ·rename_i u a l1 h1
   split at he
   ·cases he
   ·rename_i us' h' l2 h2
    simp only [Option.some.injEq, Prod.mk.injEq] at he
    obtain ⟨rfl, rfl, rfl⟩ := he
    have hp := B1U t
    
    have hmono : l1 ≤ l2 := by
     have : ∀ (zs : List Tm) (l : Int) us h l', P7 cx zs l = some (us, h, l') → l ≤ l' := by
      intro zs
      induction zs with
      | nil => intro l us h l' he; simp only [P7, Option.some.injEq, Prod.mk.injEq] at he; omega
      | cons z zs ihz =>
       intro l us h l' he
       rw [P7] at he
       split at he
       ·cases he
       ·rename_i u a l1 hz
        split at he
        ·cases he
        ·rename_i us' h' l2 hzs
         simp only [Option.some.injEq, Prod.mk.injEq] at he
         have := ihz _ _ _ _ hzs
         have := el_mono cx z l _ _ _ hz
         omega
     exact this ts l1 us' h' l2 h2
    obtain ⟨a1, a2, a3, a4, a5, a6⟩ := ih t List.mem_cons_self d D cx l u a l1 hs.1 hcx hl h1 (by omega) hD
    obtain ⟨b1, b2, b3, b4, b5, b6, b7, b8⟩ := ihl (fun x hx => ih x (List.mem_cons_of_mem _ hx)) d D cx l1 us' h' l2 hs.2 hcx (by omega) h2 h99 hD
    refine ⟨by rw [O5, a1, b1]; rfl, by rw [Z2, a2, b2], ?_, by omega, ?_, ?_, by simp [b7], by simp [b8]⟩
    ·intro x hx
     rcases List.mem_cons.1 hx with h | h
     ·rw [h]; exact a3
     ·exact b3 x h
    ·simp only [C9, List.length_cons]; omega
    ·simp only [C9]; omega
where
 el_mono (cx : Cx) : ∀ (z : Tm) (l : Int) (u : Tm) (a : Ty) (l' : Int), R9 cx z l = some (u, a, l') → l ≤ l' := by
  intro z
  revert cx
  refine Tm.ind (C := fun z => ∀ (cx : Cx) (l : Int) (u : Tm) (a : Ty) (l' : Int), R9 cx z l = some (u, a, l') → l ≤ l') ?_ z
  intro k nm num ty fr lb ks ih cx l u a l' he
  rw [R9] at he
  have hL : ∀ (zs : List Tm), (∀ t ∈ zs, t ∈ ks) → ∀ (cx : Cx) (l : Int) us h l', P7 cx zs l = some (us, h, l') → l ≤ l' := by
   intro zs
   induction zs with
   | nil => intro _ cx l us h l' he; simp only [P7, Option.some.injEq, Prod.mk.injEq] at he; omega
   | cons z zs ihz =>
    intro hin cx l us h l' he
    rw [P7] at he
    split at he
    ·cases he
    ·rename_i u a l1 hz
     split at he
     ·cases he
     ·rename_i us' h' l2 hzs
      simp only [Option.some.injEq, Prod.mk.injEq] at he
      have := ihz (fun t ht => hin t (List.mem_cons_of_mem _ ht)) _ _ _ _ _ hzs
      have := ih z (hin z List.mem_cons_self) _ l _ _ _ hz
      omega
  split at he
  ·cases he
  ·rename_i us h l1 hk
   have h1 := hL ks (fun _ h => h) _ _ _ _ _ hk
   unfold A25 at he
   split at he
   ·cases he
   ·rename_i w t hn
    simp only [Option.some.injEq, Prod.mk.injEq] at he
    have := A16 us h w l1
    omega
theorem B3h : ∀ (t : Tm) (d D : Int) (cx : Cx) (l : Int) (u : Tm) (a : Ty) (l' : Int), L8 12 14 t d = true → cxV cx → 0 ≤ l → R9 cx t l = some (u, a, l') → l' ≤ 99 → D + 2 * (13 - d) ≤ 41 → A9j cx t D l u a l' := by
 refine Tm.ind fun k nm num ty fr lb ks ih d D cx l u a l' hs hcx hl he h99 hD => ?_
 obtain ⟨hd, h14, h3, h4⟩ := Z4 hs
 obtain ⟨n1, n2, n3, n4, n5, n6, n7, n8, n9⟩ := U8.1 h3
 rw [R9] at he
 split at he
 ·cases he
 ·rename_i us h l1 hL
  unfold A25 at he
  split at he
  ·cases he
  ·rename_i w t hN
   simp only [Option.some.injEq, Prod.mk.injEq] at he
   obtain ⟨hu, rfl, rfl⟩ := he
   have hlab := A16 us h w l1
   obtain ⟨b1, b2, b3, b4, b5, b6, b7, b8⟩ := A6n ks ih (d + 1) (D + 2) (U4 cx k nm ty) l us h l1 h4 (A4N hcx fun hk => n6 (.inl hk)) hl hL (by omega) (by omega)
   obtain ⟨hv, hw⟩ := A8X hN
   have hwt := A9i b3 (fun hk => n6 (.inr (.inl hk))) (by rw [b7]; exact n1) h14 hw
   
   obtain ⟨c1, c2, c3⟩ : Z2 (U4 cx k nm ty) (J1 us h w l1).1 = some (if w = [] then h else w) ∧ O5 40 13 (J1 us h w l1).1 (D + 1) = true ∧ (C9 (J1 us h w l1).1 : Int) = C9 us + ((J1 us h w l1).2 - l1) := by
    rcases hwt.len with hn | hn
    ·subst hn
     rw [A15, if_pos rfl]
     refine ⟨b2, ?_, by simp⟩
     exact A4K 40 13 us (D + 2) (D + 1) (by omega) b1
    ·by_cases hn0 : w = []
     ·subst hn0
      rw [A15, if_pos rfl]
      refine ⟨b2, ?_, by simp⟩
      exact A4K 40 13 us (D + 2) (D + 1) (by omega) b1
     ·rw [if_neg hn0]
      exact A6m us h w l1 (D + 1) (by omega) hn hwt.ok b3 b2 (by rw [show D + 1 + 1 = D + 2 by omega]; exact b1) (by omega) h99 (by omega)
   have hlm := A26 us h w l1
   have hck : C3 (.mk k nm num ty fr lb ks) = C9 ks + 1 := A3M ..
   refine ⟨?_, ?_, hv, by omega, by rw [hck]; omega, ?_⟩
   ·rw [← hu]
    split
    ·rename_i hk
     have hl1 : ks.length = 1 := by rw [hk] at n1; have : H6 13 = 1 := rfl; omega
     have h0 : 0 < (J1 us h w l1).1.length := by omega
     rw [getD0' h0]
     have := (A0m 40 13 _ _).1 c2 0 h0
     exact A6g 40 13 _ (D + 1) D (by omega) this
    ·rename_i hk
     rw [A0M (by omega) hk (by rw [hlm, b8]; exact h3)]
     exact c2
   ·rw [← hu]
    split
    ·rename_i hk
     have hl1 : ks.length = 1 := by rw [hk] at n1; have : H6 13 = 1 := rfl; omega
     have h0 : 0 < (J1 us h w l1).1.length := by omega
     rw [getD0' h0]
     rw [hwt.asT hk, if_neg (by simp)] at c1
     rw [U4, if_neg (by omega)] at c1
     rw [← hwt.asT hk] at c1
     obtain ⟨x, hx⟩ : ∃ x, (J1 us h w l1).1 = [x] := by
      match hm : (J1 us h w l1).1, (show (J1 us h w l1).1.length = 1 by omega) with
      | [x], _ => exact ⟨x, rfl⟩
     simp only [hx, List.getElem_cons_zero] at c1 ⊢
     obtain ⟨y, hy, he⟩ := B27 c1
     rw [hwt.asT hk] at he
     cases he; exact hy
    ·rename_i hk
     refine B26 c1 h14 hv (hwt.again hk) ?_
     by_cases hn0 : w = []
     ·rw [hn0]; rfl
     ·rw [if_neg hn0]; exact A86 w
   ·rw [← hu, hck]
    split
    ·rename_i hk
     have hl1 : ks.length = 1 := by rw [hk] at n1; have : H6 13 = 1 := rfl; omega
     have h0 : 0 < (J1 us h w l1).1.length := by omega
     rw [getD0' h0]
     have := A7I (List.getElem_mem h0)
     omega
    ·rw [A3M]; omega
where
 getD0' {us : List Tm} (h : 0 < us.length) : us.getD 0 K7 = us[0] := by rw [List.getD_eq_getElem?_getD, List.getElem?_eq_getElem h, Option.getD_some]
theorem A9k : ∀ (t : Tm) (d : Int) (cx : Cx) (l : Int) (u : Tm) (a : Ty) (l' : Int), L8 12 14 t d = true → R9 cx t l = some (u, a, l') → l' + 1 ≤ l + (C3 t : Int) := by
 refine Tm.ind fun k nm num ty fr lb ks ih d cx l u a l' hs he => ?_
 obtain ⟨hd, h14, h3, h4⟩ := Z4 hs
 obtain ⟨n1, _⟩ := U8.1 h3
 have hL : ∀ (zs : List Tm), (∀ t ∈ zs, t ∈ ks) → O5 12 14 zs (d + 1) = true → ∀ (cx : Cx) (l : Int) us h l', P7 cx zs l = some (us, h, l') → l' + zs.length ≤ l + (C9 zs : Int) ∧ us.length = zs.length := by
  intro zs
  induction zs with
  | nil => intro _ _ cx l us h l' he; simp only [P7, Option.some.injEq, Prod.mk.injEq] at he; obtain ⟨rfl, _, rfl⟩ := he; simp [C9]
  | cons z zs ihz =>
   intro hin hsz cx l us h l' he
   rw [O5, Bool.and_eq_true] at hsz
   rw [P7] at he
   split at he
   ·cases he
   ·rename_i u a l1 hz
    split at he
    ·cases he
    ·rename_i us' h' l2 hzs
     simp only [Option.some.injEq, Prod.mk.injEq] at he
     obtain ⟨rfl, rfl, rfl⟩ := he
     have h5 := ihz (fun t ht => hin t (List.mem_cons_of_mem _ ht)) hsz.2 _ _ _ _ _ hzs
     have h6 := ih z (hin z List.mem_cons_self) (d + 1) _ l _ _ _ hsz.1 hz
     simp only [C9, List.length_cons]
     exact ⟨by omega, by omega⟩
 rw [R9] at he
 split at he
 ·cases he
 ·rename_i us h l1 hk
  obtain ⟨g1, g2⟩ := hL ks (fun _ h => h) h4 _ _ _ _ _ hk
  unfold A25 at he
  split at he
  ·cases he
  ·rename_i w t hn
   simp only [Option.some.injEq, Prod.mk.injEq] at he
   have := A16 us h w l1
   have hck : C3 (.mk k nm num ty fr lb ks) = C9 ks + 1 := A3M ..
   rw [hck]; omega
theorem B3i {e u : Tm} {t : Ty} (h : A0t e = some (u, t)) : R2 u = true ∧ A0P [] u = some t ∧ H3 t = true := by
 unfold A0t at h
 split at h
 ·rename_i hv
  obtain ⟨h1, h2⟩ := (A1X e).1 hv
  split at h
  ·rename_i u' t' l' he
   cases h
   have hl : l' ≤ 99 := by
    have := A6n.el_mono [] e 0 _ _ _ he
    have h3 : ∀ (t : Tm) (cx : Cx) (l : Int) (u : Tm) (a : Ty) (l' : Int), R9 cx t l = some (u, a, l') → l' ≤ l + 4 * (C3 t : Int) → True := fun _ _ _ _ _ _ _ _ => trivial
    exact el_lab e 1 h1 (by omega) he
   obtain ⟨g1, g2, g3, g4, g5, g6⟩ := B3h e 1 1 [] 0 u t l' h1 A4M (by omega) he hl (by omega)
   exact ⟨(A4w u).2 ⟨g1, by omega⟩, g2, g3⟩
  ·cases h
 ·cases h
where
 el_lab (e : Tm) (d : Int) (h1 : L8 12 14 e d = true) (h2 : C3 e ≤ 30) {u : Tm} {t : Ty} {l' : Int} (he : R9 [] e 0 = some (u, t, l')) : l' ≤ 99 := by
  have := A9k e d [] 0 u t l' h1 he
  omega
def B60 (k : Int) : Bool := decide (k = 5 ∨ k = 13)
def A9l : ByteArray := ⟨⟨[112, 97, 105, 114]⟩⟩
def A9m : ByteArray := ⟨⟨[102, 117, 110, 99, 116, 105, 111, 110]⟩⟩
def txT : ByteArray := ⟨⟨[84]⟩⟩
def txF : ByteArray := ⟨⟨[70]⟩⟩
def A9n (n : Int) : ByteArray := ⟨(Lib.decDigits n.toNat).toArray⟩
def B3j (k num : Int) : ByteArray := if k = 2 then A9n num else if k = 3 then txT else txF
mutual
def A3Q : Tm → ByteArray
 | .mk k nm num ty fr lb ks => if k = 10 ∨ (prx (.mk k nm num ty fr lb []) = true ∧ ty.k = 5) then A9l else if k = 5 ∨ prx (.mk k nm num ty fr lb []) = true then A9m else if k = 14 then B3k ks else B3j k num
def B3k : List Tm → ByteArray
 | [] => ⟨⟨[]⟩⟩
 | t :: _ => A3Q t
end
section
variable {k : Int} {nm : ByteArray} {num : Int} {ty fr : Ty} {lb : Int} {ks : List Tm}
end
section fin
variable {P : Program} {Γ : K0} {env : K3} {hp : List A4} {G : IM}
end fin
def CsP (bx : Nat) (e : Tm) (a b : Ty) (l : Int) : IM → Value → List A4 → Prop := fun G' v outs => ∃ cells, v = .agg ⟨cells⟩ ∧ outs = [.blk bx [.int .i64 (if P4 a b = true then l else l + 1)]] ∧ B5 G' (if P4 a b = true then e else R5 e a b (l + 1)) cells
def ElP (bx : Nat) (cx : Cx) (e : Tm) (l : Int) : IM → Value → List A4 → Prop := fun G' v outs => ∃ u cu t ct l', v = .tuple ⟨[.agg ⟨cu⟩, .agg ⟨ct⟩, .bool (R9 cx e l).isSome]⟩ ∧ outs = [.blk bx [.int .i64 l']] ∧ B5 G' u cu ∧ B3 G' t ct ∧ l ≤ l' ∧ l' + 1 ≤ l + (C3 e : Int) ∧ ∀ r, R9 cx e l = some r → r = (u, t, l')
section
variable {cx : Cx} {k : Int} {nm : ByteArray} {num : Int} {ty fr : Ty} {lb : Int} {ks us : List Tm} {h : List Ty} {l l' : Int}
end
theorem A6o {t : Ty} (h : H3 t = true) : E4 t := (A4H h).1
theorem B3l {us : List Tm} (h : 0 < us.length) : us.getD 0 K7 = us[0] := by rw [List.getD_eq_getElem?_getD, List.getElem?_eq_getElem h, Option.getD_some]
def A2E (r : Option (Tm × Ty)) : IM → Value → List A4 → Prop := L7 fun G' v => ∃ cu ct, v = .tuple ⟨[.agg ⟨cu⟩, .agg ⟨ct⟩, .bool r.isSome]⟩ ∧ B5 G' (r.getD (K7, A7)).1 cu ∧ B3 G' (r.getD (K7, A7)).2 ct
theorem A2E.no {G : IM} {r : Option (Tm × Ty)} {cu ct : List Value} (h : r = none) (hu : B5 G K7 cu) (ht : B3 G A7 ct) : A2E r G (.tuple ⟨[.agg ⟨cu⟩, .agg ⟨ct⟩, .bool false]⟩) [] := by subst h; exact ⟨rfl, cu, ct, rfl, hu, ht⟩
theorem A2E.yes {G : IM} {r : Option (Tm × Ty)} {u : Tm} {t : Ty} {cu ct : List Value} (h : r = some (u, t)) (hu : B5 G u cu) (ht : B3 G t ct) : A2E r G (.tuple ⟨[.agg ⟨cu⟩, .agg ⟨ct⟩, .bool true]⟩) [] := by subst h; exact ⟨rfl, cu, ct, rfl, hu, ht⟩
theorem B3m {e : Tm} (h : T7 e = false) : A0t e = none := by unfold A0t; rw [if_neg (by rw [h]; decide)]
theorem B3n {e : Tm} (h : T7 e = true) (h2 : R9 [] e 0 = none) : A0t e = none := by unfold A0t; rw [if_pos h, h2]
theorem B3o {e u : Tm} {t : Ty} {l : Int} (h : T7 e = true) (h2 : R9 [] e 0 = some (u, t, l)) : A0t e = some (u, t) := by unfold A0t; rw [if_pos h, h2]
def A0S (e : Tm) : Option Ty := match A0t e with | some (_, t) => some t | none => none
theorem B3p {e : Tm} (h : T7 e = false) : A0S e = none := by unfold A0S; rw [B3m h]
def A9o (e : Tm) (fuel : Int) : ByteArray × Int × Int := match A0t e with
 | none => (⟨⟨[]⟩⟩, 3, 0)
 | some (u, _) => if (A0n u fuel).2.1 = 0 then (A3Q (A0n u fuel).1, 0, 0) else (⟨⟨[]⟩⟩, (A0n u fuel).2.1, (A0n u fuel).2.2)
def B61 (r : ByteArray × Int × Int) (G : IM) : IM → Value → List A4 → Prop := L7 fun _ v => v = .tuple ⟨[.string r.1, .int .i64 r.2.1, .int .i64 r.2.2]⟩
def B3q (r s : ByteArray × Int × Int) : Int := if r.2.1 = 2 then 2 else if r.2.1 ≠ 0 ∨ s.2.1 = 4 ∨ s.2.1 = 5 then 3 else if s.2.1 = 0 ∧ r.1 = s.1 then 1 else 4
def B62 (a b : Tm) (fuel : Int) : Int := if (A0S a).isSome = true ∧ B3b a b = true ∧ X0 fuel 0 300 = true then B3q (A9o a fuel) (A9o b fuel) else 0
def gxT : GX → ByteArray
 | .n n => A9n n
 | .b b => if b = true then txT else txF
 | .p => A9l
 | .f => A9m
def GE.er : GE → GE
 | .var x => .var x
 | .num n => .num n
 | .tru b => .tru b
 | .lam x _ e => .lam x .any e.er
 | .app f a => .app f.er a.er
 | .ar s a b => .ar s a.er b.er
 | .ite c a b => .ite c.er a.er b.er
 | .pair a b => .pair a.er b.er
 | .part s e => .part s e.er
 | .cast _ _ _ e => e.er
def GE.nt : GE → Prop
 | .var _ => True
 | .num _ => True
 | .tru _ => True
 | .lam _ A e => A = .any ∧ e.nt
 | .app f a => f.nt ∧ a.nt
 | .ar _ a b => a.nt ∧ b.nt
 | .ite c a b => c.nt ∧ a.nt ∧ b.nt
 | .pair a b => a.nt ∧ b.nt
 | .part _ e => e.nt
 | .cast _ _ _ _ => False
inductive Sn : Nat → GE → GE → Prop
 | refl {e} : Sn 0 e e
 | step {n a b c} : GS a b → Sn n b c → Sn (n + 1) a c
def B3r (k : Int) : Int := if k = 6 then 1 else if k = 7 ∨ k = 8 then 2 else if k = 9 then 3 else if k = 11 ∨ k = 12 then 4 else 5
def B3s (k : Int) (ks : List Tm) : Stp := match B3c k ks with
 | some u => (u, 1, 0)
 | none => (K7, 2, B3r k)
mutual
def A17 : Tm → Stp
 | .mk k nm num ty fr lb ks => match A9p (if k = 9 then 1 else ks.length) ks with
  | some (ks', c, l) => if c = 1 then (.mk k nm num ty fr lb ks', 1, 0) else (K7, c, l)
  | none => B3s k ks
def A9p : Nat → List Tm → Option (List Tm × Int × Int)
 | _, [] => none
 | n, t :: ts => match n with
  | 0 => none
  | n + 1 => if A22 t = true then (match A9p n ts with
    | some (us, c, l) => some (t :: us, c, l)
    | none => none)
   else some ((A17 t).1 :: ts, (A17 t).2.1, (A17 t).2.2)
end
mutual
def A9q : Tm → Bool
 | .mk k _ _ ty _ _ ks => decide (k ≠ 14 ∧ (k ≠ 5 ∨ ty.k = 1)) && A9r ks
def A9r : List Tm → Bool
 | [] => true
 | t :: ts => A9q t && A9r ts
end
def A9s (e : Tm) : Bool := R2 e && A9q e
def V0 (e : Tm) : Stp :=
 if A9s e = false then (K7, 3, 0) else if A22 e = true then (e, 0, 0)
 else if (A17 e).2.1 ≠ 1 then (K7, (A17 e).2.1, (A17 e).2.2)
 else if A9s (A17 e).1 = false then (K7, 4, 0) else ((A17 e).1, 1, 0)
def A4S : Nat → Tm → Tm × Int × Int × Nat
 | 0, e => ((V0 e).1, (V0 e).2.1, (V0 e).2.2, 0)
 | n + 1, e => if (V0 e).2.1 = 1 then ((A4S n (V0 e).1).1, (A4S n (V0 e).1).2.1, (A4S n (V0 e).1).2.2.1, (A4S n (V0 e).1).2.2.2 + 1)
  else ((V0 e).1, (V0 e).2.1, (V0 e).2.2, 0)
def A18 : Nat → Tm → Tm × Int × Int × Nat
 | 0, e => if (V0 e).2.1 = 1 then (K7, 5, 0, 0) else ((V0 e).1, (V0 e).2.1, (V0 e).2.2, 0)
 | n + 1, e => if (V0 e).2.1 = 1 then ((A18 n (V0 e).1).1, (A18 n (V0 e).1).2.1, (A18 n (V0 e).1).2.2.1, (A18 n (V0 e).1).2.2.2 + 1)
  else ((V0 e).1, (V0 e).2.1, (V0 e).2.2, 0)
def A3R (e : Tm) (fuel : Int) : Stp := if 0 ≤ fuel ∧ fuel ≤ 300 then ((A18 fuel.toNat e).1, (A18 fuel.toNat e).2.1, (A18 fuel.toNat e).2.2.1) else (K7, 3, 0)
def B63 (e : Tm) (fuel : Int) : Int := if 0 ≤ fuel ∧ fuel ≤ 300 then ((A18 fuel.toNat e).2.2.2 : Int) else 0
section
variable {k : Int} {nm : ByteArray} {num : Int} {ty fr : Ty} {lb : Int} {a b c : Tm} {t : Tm} {l : Int}
end
def pAt (t : Tm) (label : Int) (l : List Int) : Bool := match tAt t l with
 | some x => decide (x.k = 14 ∧ x.lb = label)
 | none => false
def A6p (t : Tm) (label : Int) : List Int × Bool := match (B1V t).find? (pAt t label) with
 | some l => (l, true)
 | none => ([], false)
def SP1 (G : IM) (l : List Int) (p : Option Addr) (c : Nat) : Prop := Sl G p l.length c 1 (A3y l) ∧ ∀ b ∈ I8 p, G b ≠ none
def CpP (t : Tm) (label : Int) (G : IM) : IM → Value → List A4 → Prop := L7 fun G' v => ∃ p c, v = .tuple ⟨[.slice p (A6p t label).1.length c, .bool (A6p t label).2]⟩ ∧ SP1 (B6 G' G) (A6p t label).1 p c
mutual
def A2F : Tm → List Tm
 | .mk k nm num ty fr lb ks => (if k = 14 then [.mk k nm num ty fr lb ks] else []) ++ A6q ks
def A6q : List Tm → List Tm
 | [] => []
 | t :: ts => A2F t ++ A6q ts
end
def A9t (label : Int) (x : Tm) : Bool := decide (x.lb = label)
def B64 (t : Tm) (label : Int) : Prop := ((A2F t).find? (A9t label) = none → (A4o t []).find? (pAt t label) = none) ∧ (∀ x, (A2F t).find? (A9t label) = some x → ∃ l, (A4o t []).find? (pAt t label) = some l ∧ tAt t l = some x)
def A9u (label : Int) : List Tm → List Ty
 | [] => []
 | c :: cs => (if c.lb = label then [c.fr, c.ty] else []) ++ A9u label cs
def B65 (t : Tm) (label : Int) : List Ty := if R2 t = true then A9u label (A2F t) else []
mutual
def A29 : GT → GT → Bool
 | _, .any => true
 | .fn a b, .fn c d => A19 c a && A29 b d
 | .pr a b, .pr c d => A29 a c && A29 b d
 | .int, .int => true
 | .bool, .bool => true
 | _, _ => false
termination_by a b => SizeOf.sizeOf a + SizeOf.sizeOf b
def A19 : GT → GT → Bool
 | .any, _ => true
 | .fn a b, .any => A29 .any a && A19 b .any
 | .pr a b, .any => A19 a .any && A19 b .any
 | .int, .any => true
 | .bool, .any => true
 | .fn a b, .fn c d => A29 c a && A19 b d
 | .pr a b, .pr c d => A19 a c && A19 b d
 | .int, .int => true
 | .bool, .bool => true
 | _, _ => false
termination_by a b => SizeOf.sizeOf a + SizeOf.sizeOf b
end
def GQ (Q : GT → GT → Int → Prop) : GE → Prop
 | .var _ => True
 | .num _ => True
 | .tru _ => True
 | .lam _ _ e => GQ Q e
 | .app f a => GQ Q f ∧ GQ Q a
 | .ar _ a b => GQ Q a ∧ GQ Q b
 | .ite c a b => GQ Q c ∧ GQ Q a ∧ GQ Q b
 | .pair a b => GQ Q a ∧ GQ Q b
 | .part _ e => GQ Q e
 | .cast A B l e => Q A B l ∧ GQ Q e
structure Clo (Q : GT → GT → Int → Prop) : Prop where
 fn : ∀ {a b c d l}, Q (.fn a b) (.fn c d) l → Q c a (-l) ∧ Q b d l
 pr : ∀ {a b c d l}, Q (.pr a b) (.pr c d) l → Q a c l ∧ Q b d l
 up : ∀ {A l}, A ≠ .any → Q A .any l → Q A.gr .any l ∧ Q A A.gr l
 down : ∀ {B l}, B ≠ .any → Q .any B l → Q B.gr B l ∧ Q .any B.gr l
def QL (m : Int) : GT → GT → Int → Prop := fun A B l => (l = m → A29 A B = true) ∧ (l = -m → A19 A B = true)
mutual
def A2G : Tm → List Ty
 | .mk k _ _ ty _ _ ks => (if k = 5 ∨ k = 13 then [ty] else []) ++ A9v ks
def A9v : List Tm → List Ty
 | [] => []
 | t :: ts => A2G t ++ A9v ts
end
mutual
def A6r : Tm → List Ty → Tm
 | .mk k nm num ty fr lb ks, l => .mk k nm num (if k = 5 ∨ k = 13 then l.getD 0 A7 else ty) fr lb (A9w ks (if k = 5 ∨ k = 13 then l.drop 1 else l))
def A9w : List Tm → List Ty → List Tm
 | [], _ => []
 | t :: ts, l => A6r t l :: A9w ts (l.drop (A2G t).length)
end
def A9x (mask : Nat) : Nat → List Ty → List Ty
 | _, [] => []
 | i, t :: ts => (if (mask / 2 ^ i) % 2 = 1 then .mk 1 [] else t) :: A9x mask (i + 1) ts
def B3t (e : Tm) (mask : Nat) : Tm := A6r e (A9x mask 0 (A2G e))
def B3u (e : Tm) : List Tm := (List.range (2 ^ (A2G e).length)).map (B3t e)
section cap
variable {P : Program} {Γ : K0} {env : K3} {hp : List A4} {G : IM} {K : Po} {ops : Array Oper} {rest : List Oper}
end cap
def B66 (ts : List Ty) : IM → Value → List A4 → Prop := fun G' v outs => ∃ p c es, v = .slice p ts.length c ∧ outs = [.slc p c 25 2 ts.length es.flatten] ∧ E1 G' ts es
def RtP (u : Tm) (l : List Ty) : IM → Value → List A4 → Prop := fun G' v outs => outs = [] ∧ ∃ cu p c el, v = .tuple ⟨[.agg ⟨cu⟩, .slice p l.length c]⟩ ∧ B5 G' u cu ∧ D5 G' p l.length c 2 el ∧ E1 G' l el
section bits
variable {P : Program} {Γ : K0} {env : K3} {hp : List A4} {G : IM} {ty : TypeId}
end bits
section wr
variable {P : Program} {Γ : K0} {env : K3} {hp : List A4} {G : IM} {ty : TypeId} {K : Po} {ops : Array Oper} {rest : List Oper}
variable {pos : String} {af : Array Edge} {gd : Option (Nat × Bool)}
end wr
def B67 (e : Tm) : Option (List Tm) := if (A0S e).isSome = true ∧ (A2G e).length ≤ 6 then some (B3u e) else none
def CfP (r : Option (List Tm)) : IM → Value → List A4 → Prop := fun G' v outs => outs = [] ∧ ∃ p c es, v = .tuple ⟨[.slice p (r.getD []).length c, .bool r.isSome]⟩ ∧ D5 G' p (r.getD []).length c 9 es ∧ E5 G' (r.getD []) es
def MsP (r : Option (List Int)) (e : A4) (G : IM) : IM → Value → List A4 → Prop := fun G' v outs => outs = [e] ∧ ∃ p c, v = .tuple ⟨[.slice p (r.getD []).length c, .bool r.isSome]⟩ ∧ SP1 (B6 G' G) (r.getD []) p c
def IsP (l : List Int) (b : Bool) (G : IM) : IM → Value → List A4 → Prop := L7 fun G' v => ∃ p c, v = .tuple ⟨[.slice p l.length c, .bool b]⟩ ∧ SP1 (B6 G' G) l p c
theorem B5.nine {G : IM} {t : Tm} {cells : List Value} (h : B5 G t cells) : ∃ v1 v2 v3 v4 v5 v6 v7 v8 v9, cells = [v1, v2, v3, v4, v5, v6, v7, v8, v9] := by
 obtain ⟨_, _, _, _, _, _, _, _, _, rfl, _⟩ := h.open
 exact ⟨_, _, _, _, _, _, _, _, _, rfl⟩
theorem A3S {G : IM} {e : Tm} {ce : List Value} {k : Int} {nm : ByteArray} {tk : Int} {tks : List Ty} {q p : Option Addr} {d c : Nat} (hk : H4 k) (ht : B3 G (.mk tk tks) [.int .i64 tk, .slice q tks.length d]) (h1 : B5 G e ce) (hs : Sl G p 1 c 9 ce) :
  B5 G (.mk k nm 0 (.mk tk tks) A7 0 [e]) [.int .i64 k, .string nm, .int .i64 0, .int .i64 tk, .slice q tks.length d, .int .i64 0, .slice none 0 0, .int .i64 0, .slice p 1 c] := by
 obtain ⟨a1, a2⟩ := A2B h1 hs
 exact B5.of9 (ks := [e]) hk ⟨by omega, by omega⟩ ⟨by omega, by omega⟩ ht (J6 _ ⟨by omega, by omega⟩) a1 a2
theorem A3T {G : IM} {e f : Tm} {ce cf : List Value} {k : Int} {nm : ByteArray} {p : Option Addr} {c : Nat} (hk : H4 k) (h1 : B5 G e ce) (h2 : B5 G f cf) (hs : Sl G p 2 c 9 (ce ++ cf)) :
  B5 G (.mk k nm 0 A7 A7 0 [e, f]) [.int .i64 k, .string nm, .int .i64 0, .int .i64 0, .slice none 0 0, .int .i64 0, .slice none 0 0, .int .i64 0, .slice p 2 c] := by
 have hL : E5 G [e, f] [ce, cf] := by simp only [E5]; exact ⟨ce, [cf], rfl, h1, cf, [], rfl, h2, rfl⟩
 exact B5.of9 (ks := [e, f]) hk ⟨by omega, by omega⟩ ⟨by omega, by omega⟩ (J6 _ ⟨by omega, by omega⟩) (J6 _ ⟨by omega, by omega⟩)
  (D5.of (by simpa using hs) rfl hL.all (fun x hx => by obtain ⟨q, hq⟩ := List.getElem?_of_mem hx; exact (hL.inv hq K7).2.one)) hL
theorem B3v {G : IM} {e f g : Tm} {ce cf cg : List Value} {k : Int} {nm : ByteArray} {p : Option Addr} {c : Nat} (hk : H4 k) (h1 : B5 G e ce) (h2 : B5 G f cf) (h3 : B5 G g cg) (hs : Sl G p 3 c 9 (ce ++ (cf ++ cg))) :
  B5 G (.mk k nm 0 A7 A7 0 [e, f, g]) [.int .i64 k, .string nm, .int .i64 0, .int .i64 0, .slice none 0 0, .int .i64 0, .slice none 0 0, .int .i64 0, .slice p 3 c] := by
 have hL : E5 G [e, f, g] [ce, cf, cg] := by simp only [E5]; exact ⟨ce, [cf, cg], rfl, h1, cf, [cg], rfl, h2, cg, [], rfl, h3, rfl⟩
 exact B5.of9 (ks := [e, f, g]) hk ⟨by omega, by omega⟩ ⟨by omega, by omega⟩ (J6 _ ⟨by omega, by omega⟩) (J6 _ ⟨by omega, by omega⟩)
  (D5.of (by simpa using hs) rfl hL.all (fun x hx => by obtain ⟨q, hq⟩ := List.getElem?_of_mem hx; exact (hL.inv hq K7).2.one)) hL
def mB : Nat → Nat
 | 0 => 200
 | n + 1 => 3 * mB n + 200
theorem A1q (n : Nat) : 200 ≤ mB n := by cases n <;> simp only [mB] <;> omega
def A1r (n : Nat) (depth : Int) (t : Ty) : Prop := Q2 4 t ∧ (n : Int) - 1000 ≤ depth ∧ depth ≤ 1000 ∧ ((depth ≤ 1 ∧ Q2 n t) ∨ (2 ≤ depth ∧ depth + 3 ≤ n))
theorem A1r.sub {n : Nat} {depth : Int} {t t' : Ty} (h : A1r (n + 1) depth t) (hd : 1 < depth) (h4 : Q2 4 t') : A1r n (depth - 1) t' := by
 obtain ⟨h1, h2, h3, h5⟩ := h
 refine ⟨h4, by omega, by omega, ?_⟩
 rcases h5 with ⟨h5, _⟩ | ⟨h5, h6⟩
 ·omega
 ·by_cases h7 : 3 ≤ depth
  ·exact .inr ⟨by omega, by omega⟩
  ·exact .inl ⟨by omega, h4.le (by omega)⟩
theorem A1r.kid {n : Nat} {depth : Int} {k : Int} {ks : List Ty} {t' : Ty} (h : A1r (n + 1) depth (.mk k ks)) (ht : t' ∈ ks) : A1r n (depth - 1) t' := by
 have h4 : Q2 4 t' := (A4y h.1 ht).up
 by_cases hd : 1 < depth
 ·exact h.sub hd h4
 ·obtain ⟨h1, h2, h3, h5⟩ := h
  refine ⟨h4, by omega, by omega, .inl ⟨by omega, ?_⟩⟩
  rcases h5 with ⟨_, h5⟩ | ⟨h5, _⟩
  ·exact A4y h5 ht
  ·omega
theorem A1r.pos {n : Nat} {depth : Int} {k : Int} {ks : List Ty} (h : A1r n depth (.mk k ks)) (hd : 1 < depth ∨ k = 4 ∨ k = 5) : ∃ m, n = m + 1 := by
 cases n with
 | succ m => exact ⟨m, rfl⟩
 | zero =>
  obtain ⟨h1, h2, h3, h5⟩ := h
  rcases h5 with ⟨h5, h6⟩ | ⟨h5, h6⟩
  ·have := h6.2
   omega
  ·omega
theorem Q6 : A7.small := by simp [A7, Ty.small, Ty.smallL]
theorem O6 {k : Int} {nm : ByteArray} {num : Int} (h : nm.size ≤ 1) : (Tm.mk k nm num A7 A7 0 []).small := by
 simp only [Tm.small, Tm.smallL]; exact ⟨by omega, Q6, Q6, by simp, trivial⟩
theorem K9 {k : Int} {nm : ByteArray} {num : Int} {ty : Ty} {a : Tm} (h : nm.size ≤ 1) (ht : ty.small) (ha : a.small) : (Tm.mk k nm num ty A7 0 [a]).small := by
 simp only [Tm.small, Tm.smallL]; exact ⟨by omega, ht, Q6, by simp, ha, trivial⟩
theorem S8 {k : Int} {nm : ByteArray} {num : Int} {a b : Tm} (h : nm.size ≤ 1) (ha : a.small) (hb : b.small) : (Tm.mk k nm num A7 A7 0 [a, b]).small := by
 simp only [Tm.small, Tm.smallL]; exact ⟨by omega, Q6, Q6, by simp, ha, hb, trivial⟩
theorem A0w {k : Int} {nm : ByteArray} {num : Int} {a b c : Tm} (h : nm.size ≤ 1) (ha : a.small) (hb : b.small) (hc : c.small) : (Tm.mk k nm num A7 A7 0 [a, b, c]).small := by
 simp only [Tm.small, Tm.smallL]; exact ⟨by omega, Q6, Q6, by simp, ha, hb, hc, trivial⟩
theorem A0x : (Ty.mk 1 []).small := by simp [Ty.small, Ty.smallL]
def A9y (br : Nat) (pb : Option Addr) (nb cb : Nat) (bs : List UInt8) (n : Nat) : Prop := ∀ (depth : Int) (t : Ty) (p : Nat) (G : IM) (pc : Option Addr) (nc cc : Nat) (cells : List Value), A1r n depth t → (n : Int) - 1000 ≤ depth → depth ≤ 1000 → nc + n ≤ 40 → T8 G pc nc cc → B3 G t cells → Sl G pb nb cb 1 (N2 bs) → p + mB n < 1099511627776 →
 Fn Tryz.prog 110 [.pointer (some ⟨br, 0, none⟩), .slice pc nc cc, .agg ⟨cells⟩, .int .i64 depth] [rd br pb nb cb p] G
  (X4 br pb nb cb p (mB n) (fun G' v => ∃ e cells, v = .agg ⟨cells⟩ ∧ B5 G' e cells ∧ e.small ∧ C3 e ≤ mB n))
theorem A9z (br : Nat) (pb : Option Addr) (nb cb : Nat) (bs : List UInt8) (hnb : nb ≤ 2000) (m : Nat) (hM : A9y br pb nb cb bs m) (depth : Int) (a t : Ty) (p : Nat) (G : IM) (pc : Option Addr) (nc cc : Nat) (ca cells : List Value)
  (hfu : A1r m depth t) (hd0 : (m : Int) - 1000 ≤ depth) (hd1 : depth ≤ 1000) (hnc : nc + 1 + m ≤ 40) (hx : T8 G pc nc cc) (hra : B3 G a ca) (haa : E4 a ∧ F4 a ≤ 30) (hrt : B3 G t cells) (hb : Sl G pb nb cb 1 (N2 bs)) (hp : p + 1 + mB m < 1099511627776) :
  Fn Tryz.prog 173 [.pointer (some ⟨br, 0, none⟩), .slice pc nc cc, .agg ⟨ca⟩, .agg ⟨cells⟩, .int .i64 depth] [rd br pb nb cb p] G
   (X4 br pb nb cb p (1 + mB m) (fun G' v => ∃ e cells, v = .agg ⟨cells⟩ ∧ B5 G' e cells ∧ e.small ∧ C3 e ≤ 1 + mB m)) := by
 obtain ⟨ak, aks⟩ := a
 obtain ⟨tk, tks⟩ := t
 obtain ⟨pa, cca, ea, rfl, _⟩ := hra.open
 obtain ⟨pt, cct, et, rfl, _⟩ := hrt.open
 simp only [Ty.k, Ty.ks] at hra hrt ⊢
 refine B8 Tryz.func173 rfl Tryz.ntmps173 Tryz.results173 rfl ?_
 intro w0
 refine tS (tR ?_)
 refine sE (E7 rfl rfl) rfl (fun b3 => ?_)
 refine sE (E7 rfl rfl) rfl (fun b4 => ?_)
 refine sE (A8 rfl) rfl (fun b5 => ?_)
 refine sD (nS (tS (tR (sQ (qM rfl) rfl ?_))))
 (refine D7 (D1 rfl rfl rfl (by omega) (by unfold maxLen; omega) rfl) rfl ?_; rintro _ ⟨b11, rfl⟩)
 (refine P2 (by repeat (first | exact Pk.here | apply Pk.there)) (fun G4 hle4 hsl4 _ => ?_); refine C0 rfl (A4B G4 br pb nb cb p bs _ _ _ _ (hb.mono hle4) hnb (by omega) hsl4 (by decide)) (Pk.perm (by repeat (first | exact Pk.here | apply Pk.there))) rfl rfl (fun v G5 outs hle5 hh => ?_); obtain ⟨rfl, rfl, hv⟩ := hh; obtain ⟨nm, rfl, hnm⟩ : ∃ nm : ByteArray, v = .string nm ∧ nm.size ≤ 1 := (by simp only [List.mem_cons, List.not_mem_nil, or_false] at hv; rcases hv with rfl | rfl | rfl | rfl <;> exact ⟨_, rfl, by decide⟩); replace hra := hra.mono hle4; replace hx := hx.mono hle4; replace hb := hb.mono hle4; replace hrt := hrt.mono hle4;)
 refine sQ (qA rfl) rfl (sD (nS (tS ?_)))
 refine D3 D4 rfl ?_
 refine E8 (i := 0) (l' := [tt,ff,ff,ff,ff,ff,ff,ff,ff,ff,ff,ff,ff,ff]) rfl C5 (qM rfl) rfl (by kernel_rfl) rfl rfl ?_
 refine aL 1 rfl (A2 rfl rfl) rfl ?_
 refine aP 3 rfl (qM rfl) rfl ?_
 refine aP 4 rfl (qM rfl) rfl ?_
 refine aP 5 rfl (qM rfl) rfl ?_
 refine aL 6 rfl (A2 rfl rfl) rfl ?_
 refine aL 8 rfl (A2 rfl rfl) rfl ?_
 refine aP 9 rfl (qM rfl) rfl ?_
 refine A1 2 ?_
 (refine M6 rfl rfl (R4 _ _ _ haa.1.small hra) rfl rfl rfl (fun v G6 hle6 hh => ?_); obtain ⟨Q0, F1, rfl, hs1, hn1⟩ := hh; obtain ⟨p1, c1, rfl, _⟩ := hs1.open; have hr1 := hs1.R.mono (B6.le G6 _); replace hra := hra.mono hle6; replace hx := hx.mono hle6; replace hb := hb.mono hle6; replace hrt := hrt.mono hle6;)
 refine A1 7 ?_
 (refine M6 rfl rfl (A59 _ pc nc cc nm (.mk ak aks) _ hx (by omega) hra haa.1 haa.2 hnm) rfl rfl rfl (fun v G7 hle7 hh => ?_); obtain ⟨pm, cm, rfl, hxm⟩ := hh; replace hr1 := hr1.mono hle7; replace hx := hx.mono hle7; replace hb := hb.mono hle7; replace hrt := hrt.mono hle7; have hcall := hM depth (.mk tk tks) (p + 1) _ pm (nc + 1) cm _ hfu hd0 hd1 (by omega) hxm hrt hb (by omega))
 refine A1 10 ?_
 (refine W4 (l' := [tt,tt,tt,tt,tt,tt,tt,tt,tt,tt,tt,ff,ff,ff]) rfl rfl hcall (Pk.perm (by repeat (first | exact Pk.here | apply Pk.there))) rfl rfl rfl (by repeat (first | exact A5.nil | apply A5.dep (by decide +kernel) | apply A5.blk (by decide +kernel) (by repeat (first | exact Pk.here | apply Pk.there)) (by repeat first | exact mH | apply mT))) (fun v G8 outs hle8 hh => ?_); obtain ⟨p8, hp81, hp82, rfl, e8, c8, rfl, hr8, hs8, hc8⟩ := hh; obtain ⟨a1, a2, a3, a4, a5, a6, a7, a8, a9, rfl⟩ := hr8.nine; replace hr1 := hr1.mono hle8)
 refine A1 11 ?_
 (refine I7 rfl (D1 rfl rfl rfl (by omega) (by unfold maxLen; omega) rfl) rfl rfl ?_; rintro _ ⟨b33, rfl⟩)
 refine aP 12 rfl (P6 rfl rfl) rfl ?_
 refine A1 13 ?_
 refine K6 rfl rfl rfl rfl rfl rfl rfl rfl (by decide +kernel) (by repeat first | exact Sw.here | apply Sw.there) (by rfl) ?_
 refine D8 (nS ?_)
 (refine L4 (cs := [a1, a2, a3, a4, a5, a6, a7, a8, a9]) (by repeat (first | exact Pk.here | apply Pk.there)) (fun G9 hle9 hsl9 hno9 => ?_); have hN := A3S (k := 5) (nm := nm) ⟨by omega, by omega⟩ (hr1.mono hle9) (hr8.mono hle9) hsl9)
 refine tT ?_
 refine C4 (outs := [rd br pb nb cb p8]) (rC rfl (A2 rfl rfl)) (by repeat (first | exact A0.nil | refine A0.cons Pk.here ?_ | refine A0.cons (Pk.there Pk.here) ?_ | refine A0.cons (Pk.there (Pk.there Pk.here)) ?_ | apply A0.drop)) ?_
 (exact ⟨p8, by omega, by omega, rfl, _, _, rfl, hN, K9 hnm haa.1.small hs8, by simp only [C3, C9]; omega⟩)
end Gw
end Go.Proofs.YtgodjiieijekiaaGreatDoor
