/-
  InsertCasts of the reference model: it ends, and what it gives is not much bigge.
-/
import Derived.Test.YtmceanphadildaaGreatDoorKa3
import Derived.Test.YtmceanphadildaaGreatDoorKa2
import Derived.Test.YtmceanphadildaaGreatDoorKa0
import Derived.Test.YtmceanphadildaaGreatDoorKa1
import Init
set_option linter.unusedVariables false
set_option linter.unusedSimpArgs false
set_option maxHeartbeats 0
set_option maxRecDepth 100000
set_option synthInstance.maxSize 4000
set_option synthInstance.maxHeartbeats 0
namespace Go.Proofs.YtmceanphadildaaGreatDoor
open Go Go.RowKit
namespace Gw
theorem y16 {p : Prop} (h : p := by
  refine aP 5 rfl (qA rfl) rfl ?_
  refine A1 6 ?_
  refine E4 rfl ?_
  refine aP 7 rfl (qA rfl) rfl ?_
  refine A4 ?_
  (refine F6 Pk.here (fun G5 hle5 hsl5 hno5 => ?_))
  refine B3 ?_
  refine H5 (rT rfl) (rC rfl (A3 rfl rfl)) (rT rfl) ?_
  (have hk1 : k = 9 := zW; subst hk1; exact L2.three hsl5 (W6 _) (hrM.mono hle5) (hrM.mono hle5) (hrM.mono hle5) (by rw [mW9, if_pos ⟨by assumption, by assumption⟩]; rfl))
) : p := h
theorem y17 {p : Prop} (h : p := by
  refine K4 ?_
  refine H5 (rT rfl) (rC rfl (A3 rfl rfl)) (rT rfl) ?_
  (have hk1 : k = 9 := zW; subst hk1; exact L2.nil (u := B4) (J8 _ ⟨by omega, by omega⟩) (by rw [mW9, if_neg (fun hc => by first | exact Bool.noConfusion (hc.1.symm.trans zT) | exact Bool.noConfusion (hc.2.symm.trans zT) | exact Bool.noConfusion (hc.symm.trans zT))]; rfl))
) : p := h
theorem y18 {p : Prop} (h : p := by
  refine E6 rfl ((A1G _ _)) rfl rfl ?_
  refine E6 rfl ((A1G _ _)) rfl rfl ?_
  (refine F9 rfl hB rfl rfl (fun v G1 hle1 hh => ?_); obtain ⟨cb, rfl, hrb⟩ := hh; obtain ⟨p1, c1, e1, rfl, _⟩ := hrb.open)
  refine A9 ?_
  refine L0 (rC rfl (A3 rfl rfl)) ?_
  (exact ⟨rfl, _, rfl, by unfold mGk; rw [if_pos zW]; exact hrb⟩)
) : p := h
theorem y19 {p : Prop} (h : p := by
  refine D2 D3 rfl ?_
  refine M3 (i := 0) (l' := [tt,ff,ff,ff]) rfl C8 (A3 rfl rfl) rfl zU rfl rfl ?_
  refine aP 1 rfl (qA rfl) rfl ?_
  refine A1 2 ?_
  refine E4 rfl ?_
  refine aP 3 rfl (qA rfl) rfl ?_
  refine A9 ?_
  refine H5 (rT rfl) (rC rfl (A3 rfl rfl)) (rT rfl) ?_
  (exact L2.nil (W6 _) (by rw [A6J zW]; rfl))
) : p := h
theorem A9h : ∀ (ts : List Tm) (t : Tm), H4 (ts ++ [t]) = H4 ts + F4 t
 | [], t => by simp [H4]
 | a :: ts, t => by simp only [List.cons_append, H4, A9h ts t]; omega
theorem A9i : ∀ {ts : List Tm} {t : Tm}, Tm.smallL ts → t.small → Tm.smallL (ts ++ [t])
 | [], t, _, h => by simp [Tm.smallL, h]
 | a :: ts, t, h, h2 => by
  simp only [Tm.smallL] at h
  simp only [List.cons_append, Tm.smallL]
  exact ⟨h.1, A9i h.2 h2⟩
theorem A9j : ∀ (ts : List Tm) (i : Nat) (u : Tm) (h : i < ts.length), H4 (ts.set i u) + F4 ts[i] = H4 ts + F4 u
 | [], i, u, h => by simp at h
 | a :: ts, 0, u, h => by simp only [List.set_cons_zero, H4, List.getElem_cons_zero]; omega
 | a :: ts, i + 1, u, h => by
  have := A9j ts i u (by simpa using h)
  simp only [List.set_cons_succ, H4, List.getElem_cons_succ]; omega
theorem A9k : ∀ {ts : List Tm} {i : Nat} {u : Tm}, Tm.smallL ts → u.small → Tm.smallL (ts.set i u)
 | [], i, u, h, _ => by simpa using h
 | a :: ts, 0, u, h, hu => by
  simp only [Tm.smallL, List.set_cons_zero] at h ⊢
  exact ⟨hu, h.2⟩
 | a :: ts, i + 1, u, h, hu => by
  simp only [Tm.smallL, List.set_cons_succ] at h ⊢
  exact ⟨h.1, A9k h.2 hu⟩
theorem B4o {ts : List Tm} {i : Nat} (h : i < ts.length) : F4 ts[i] ≤ H4 ts := by
 have := A55 h
 omega
theorem H3.at2 {G : IM} {ts : List Tm} {es : List (List Value)} {i : Nat} (h : H3 G ts es) (h1 : i < ts.length) (h2 : i < es.length) : i < es.length ∧ B6 G ts[i] es[i] := by
 have := (h.inv (List.getElem?_eq_getElem h2) K5).2
 rw [List.getD_eq_getElem?_getD, List.getElem?_eq_getElem h1] at this
 exact ⟨h2, this⟩
mutual
theorem A9l : ∀ (t : Tm) (d : Int), K8 12 14 t d = true → t.small
 | .mk k nm num ty fr lb ks, d, h => by
  obtain ⟨h1, h2, h3, h4⟩ := Z5 h
  have hn := X4.1 h3
  rw [Tm.small]
  refine ⟨?_, (A25 h3).1.small, ?_, ?_, A9m ks _ h4⟩
  ·by_cases hk : k = 1 ∨ k = 5
   ·have := hn.2.1 hk
    simp only [X3, decide_eq_true_eq] at this
    omega
   ·rw [hn.2.2.1 hk]; decide
  ·rw [A2y (hn.2.2.2.2.2.2.2.2 zW).1]
   simp [B4, Ty.small, Ty.smallL]
  ·have := A1J k
   omega
theorem A9m : ∀ (ts : List Tm) (d : Int), O1 12 14 ts d = true → Tm.smallL ts
 | [], d, h => by rw [Tm.smallL]; trivial
 | t :: ts, d, h => by
  rw [O1, Bool.and_eq_true] at h
  rw [Tm.smallL]
  exact ⟨A9l t d h.1, A9m ts d h.2⟩
end
theorem A9n {hp : List A6} {G : IM} {b sz i : Nat} {es : List (List Value)} {C : List Value} (hm : A6.blk b (es.flatten ++ C) ∈ hp) (hi : i < es.length) (ha : ∀ e ∈ es, e.length = sz) : At hp G b (0 + i * sz) es[i] := by
 refine .inl ⟨_, hm, fun j u hu => ?_⟩
 rw [A6y hi, List.append_assoc, List.append_assoc]
 have hl : (es.take i).flatten.length = i * sz := by
  rw [A1E (fun e he => ha e (List.mem_of_mem_take he)), List.length_take, Nat.min_eq_left zW]
 have hj : j < es[i].length := (List.getElem?_eq_some_iff.1 hu).1
 rw [List.getElem?_append_right zW, show 0 + i * sz + j - (es.take i).flatten.length = j by omega, List.getElem?_append_left hj]
 exact hu
def A9o (e : Tm) (label : Int) (G : IM) : IM → Value → List A6 → Prop := K1 fun G' v => ∃ u cu t ct l', v = .tuple ⟨[.agg ⟨cu⟩, .agg ⟨ct⟩, .int .i64 l']⟩ ∧ B6 G' u cu ∧ u.small ∧ F4 u + 1 ≤ 2 * F4 e ∧ B8 G' t ct ∧ E5 t ∧ H6 t ≤ 32 * (F4 e : Int) ∧ label ≤ l' ∧ l' + 1 ≤ label + 2 * (F4 e : Int)
theorem B4p : ∀ (e : Tm) (d : Int) (G : IM) (p : Option Addr) (n c : Nat) (label : Int) (cells : List Value), K8 12 14 e d = true → (n : Int) ≤ d → S4 G p n c → B6 G e cells → 0 ≤ label → label + 2 * (F4 e : Int) ≤ 1099511627776 →
  Fn Tryz.prog 79 [.slice p n c, .agg ⟨cells⟩, .int .i64 label] [] G (A9o e label G) := by
 refine Tm.ind fun k nm num ty fr lb ks ih d G p n c label cells hv hnd hx hr hlab0 hlab => ?_
 have hr0 := hr
 have hone := hr.one
 have hT := A9b _ d G p n c cells hv hnd hx hr
 have hsm := A9l _ d hv
 have hsm' := hsm
 rw [Tm.small] at hsm'
 obtain ⟨hnm, htsm, hfsm, _, hksm⟩ := hsm'
 obtain ⟨hv1, hv2, hv3, hv4⟩ := Z5 hv
 have hvk := (A04 12 14 ks _).1 hv4
 have har := (X4.1 hv3).1
 have hop := A2C har
 obtain ⟨hta, hts⟩ := A25 hv3
 have hck : F4 (.mk k nm num ty fr lb ks) = 1 + H4 ks := by rw [F4]; omega
 rw [hck] at hlab hT
 unfold A9o
 rw [hck]
 obtain ⟨tk, tks⟩ := ty
 obtain ⟨fk, fks⟩ := fr
 obtain ⟨pt, ct, pf, cf, q, cq, es, rfl, hk, hnum, hlb, hty, hfr, hsl, hkl⟩ := hr.open9
 have hlen : ks.length ≤ 3 := by have := A1J k; omega
 have hk13 : k = 13 → ks.length = 1 := fun h => hop.2.2 zW
 refine C7 Tryz.func79 rfl Tryz.ntmps79 Tryz.results79 rfl ?_
 intro w0
 refine A4 ?_
 refine sE (D5 rfl rfl) rfl (fun b3 => ?_)
 refine sE (A8 rfl) rfl (fun b4 => ?_)
 refine sE (A8 rfl) rfl (fun b5 => ?_)
 refine B5 ?_
 (refine F9 rfl hT rfl rfl (fun v G1 hle1 hh => ?_); obtain ⟨mt, mc, mx, rfl, hmr, hma, hms⟩ := hh; obtain ⟨p1, d1, e1, rfl, _⟩ := hmr.open; have hC := A4R _ G1 _ hsm (hr0.mono hle1))
 refine B3 ?_
 refine sE (A8 rfl) rfl (fun b17 => ?_)
 refine B5 ?_
 (refine F9 rfl hC rfl rfl (fun v G2 hle2 hh => ?_); obtain ⟨L7, F1, rfl, hs1, hn1⟩ := hh; have hr1 := hs1.R.mono (D7.le G2 G1); obtain ⟨q1, c1, q2, c2, q3, c3, es1, rfl, _, _, _, hty1, hfr1, _, _⟩ := hr1.open9; have hle02 := hle1.trans hle2; replace hx := hx.mono hle02; replace hty := hty.mono hle02; replace hsl := hsl.mono hle02; replace hkl := hkl.mono hle02; replace hmr := hmr.mono hle2; replace hr0 := hr0.mono hle02)
 refine sE (A8 rfl) rfl (fun b26 => ?_)
 refine I3 ?_
 (show I9 _ _ (.region 4 ..) _ _; refine Z3 (fun (x : Bool) => ⟨[(30, .bool x), (0, .slice p n c), (2, .int .i64 label), (4, .pointer (some ⟨b3, 0, none⟩)), (6, .pointer (some ⟨b4, 0, none⟩)), (7, .pointer (some ⟨b5, 0, none⟩)), (9, .pointer (some ⟨b17, 0, none⟩)), (11, .pointer (some ⟨b26, 0, none⟩))], [.blk b26 [.int .i64 k, .string nm, .int .i64 num, .int .i64 tk, .slice q1 tks.length c1, .int .i64 fk, .slice q2 fks.length c2, .int .i64 lb, .slice none 0 0], .blk b17 [.int .i64 mt.k, .slice p1 mt.ks.length d1], .blk b5 [.int .i64 0, .slice none 0 0], .blk b4 [.int .i64 0, .string ⟨⟨[]⟩⟩, .int .i64 0, .int .i64 0, .slice none 0 0, .int .i64 0, .slice none 0 0, .int .i64 0, .slice none 0 0], .blk b3 [.int .i64 k, .string nm, .int .i64 num, .int .i64 tk, .slice pt tks.length ct, .int .i64 fk, .slice pf fks.length cf, .int .i64 lb, .slice q ks.length cq]], G2⟩) (fun _ => True) ?_ ?_)
 ·refine B3 ?_
  refine sB (qE rfl rfl) rfl rfl (fun h42 => ?_) (fun h42 => ?_)
  ·refine sD ?_
   refine P1 true (O3 zM zI) trivial
  ·refine sD ?_
   refine P1 false (O3 zM zI) trivial
 ·(rintro (x : Bool) _)
  (show I9 _ _ (.cond (.tmp 30) _ _) _ _; refine Z3 (fun (x : Option Addr × Nat × Nat × IM) => ⟨[(0, .slice x.1 x.2.1 x.2.2.1), (2, .int .i64 label), (4, .pointer (some ⟨b3, 0, none⟩)), (6, .pointer (some ⟨b4, 0, none⟩)), (7, .pointer (some ⟨b5, 0, none⟩)), (9, .pointer (some ⟨b17, 0, none⟩)), (11, .pointer (some ⟨b26, 0, none⟩))], [.blk b26 [.int .i64 k, .string nm, .int .i64 num, .int .i64 tk, .slice q1 tks.length c1, .int .i64 fk, .slice q2 fks.length c2, .int .i64 lb, .slice none 0 0], .blk b17 [.int .i64 mt.k, .slice p1 mt.ks.length d1], .blk b5 [.int .i64 0, .slice none 0 0], .blk b4 [.int .i64 0, .string ⟨⟨[]⟩⟩, .int .i64 0, .int .i64 0, .slice none 0 0, .int .i64 0, .slice none 0 0, .int .i64 0, .slice none 0 0], .blk b3 [.int .i64 k, .string nm, .int .i64 num, .int .i64 tk, .slice pt tks.length ct, .int .i64 fk, .slice pf fks.length cf, .int .i64 lb, .slice q ks.length cq]], x.2.2.2⟩) (fun x => C1 G2 x.2.2.2 ∧ S4 x.2.2.2 x.1 x.2.1 x.2.2.1 ∧ (x.2.1 : Int) ≤ d + 1) (A3C rfl (fun hxt => ?_) (fun hxf => ?_)) ?_)
  ·refine A7 ?_
   (refine F9 rfl (A6x G2 p n c nm (.mk tk tks) _ hx zW hty hta hts (A6v hv3)) rfl rfl (fun v G3 hle3 hh => ?_); obtain ⟨pm0, cm0, rfl, hxm⟩ := hh)
   refine A4 ?_
   refine P1 (pm0, n + 1, cm0, G3) (O3 zM zI) ?_
   (dsimp only; exact ⟨hle3, hxm, by omega⟩)
  ·refine tK ?_
   refine P1 (p, n, c, G2) (O3 zM zI) ?_
   (dsimp only; exact ⟨C1.refl _, hx, by omega⟩)
  ·(rintro ⟨(px : Option Addr), nx, cx, Gx⟩ ⟨hleX, hxX, hnX⟩; simp only [] at hleX hxX hnX ⊢; replace hty1 := hty1.mono hleX; replace hfr1 := hfr1.mono hleX; replace hsl := hsl.mono hleX; replace hkl := hkl.mono hleX; replace hmr := hmr.mono hleX; replace hr0 := hr0.mono hleX)
   refine A4 ?_
   (refine J1 (C9 rfl rfl rfl zW zR rfl) rfl ?_; rintro _ ⟨b66, rfl⟩)
   refine D9 ?_
   refine C2 ?_
   (refine X0 28 9 ?_; refine L4 (fun (x : Nat × (Option Addr × Nat × List Tm × List (List Value)) × (Option Addr × Nat × List Ty × List (List Value)) × Int × IM) => ⟨[(13, .int .i64 x.1), (12, .slice x.2.2.1.1 x.1 x.2.2.1.2.1), (0, .slice px nx cx), (2, .int .i64 x.2.2.2.1), (4, .pointer (some ⟨b3, 0, none⟩)), (6, .pointer (some ⟨b4, 0, none⟩)), (7, .pointer (some ⟨b5, 0, none⟩)), (9, .pointer (some ⟨b17, 0, none⟩)), (11, .pointer (some ⟨b26, 0, none⟩))], [.blk b26 [.int .i64 k, .string nm, .int .i64 num, .int .i64 tk, .slice q1 tks.length c1, .int .i64 fk, .slice q2 fks.length c2, .int .i64 lb, .slice x.2.1.1 x.1 x.2.1.2.1], .slc x.2.1.1 x.2.1.2.1 28 9 x.1 x.2.1.2.2.2.flatten, .slc x.2.2.1.1 x.2.2.1.2.1 25 2 x.1 x.2.2.1.2.2.2.flatten, .blk b17 [.int .i64 mt.k, .slice p1 mt.ks.length d1], .blk b5 [.int .i64 0, .slice none 0 0], .blk b4 [.int .i64 0, .string ⟨⟨[]⟩⟩, .int .i64 0, .int .i64 0, .slice none 0 0, .int .i64 0, .slice none 0 0, .int .i64 0, .slice none 0 0], .blk b3 [.int .i64 k, .string nm, .int .i64 num, .int .i64 tk, .slice pt tks.length ct, .int .i64 fk, .slice pf fks.length cf, .int .i64 lb, .slice q ks.length cq]], x.2.2.2.2⟩) (fun x => x.1 ≤ ks.length ∧ C1 Gx x.2.2.2.2 ∧ x.2.1.2.2.1.length = x.1 ∧ H3 x.2.2.2.2 x.2.1.2.2.1 x.2.1.2.2.2 ∧ Tm.smallL x.2.1.2.2.1 ∧ H4 x.2.1.2.2.1 + x.1 ≤ 2 * H4 (ks.take x.1) ∧ x.2.2.1.2.2.1.length = x.1 ∧ E9 x.2.2.2.2 x.2.2.1.2.2.1 x.2.2.1.2.2.2 ∧ (∀ t ∈ x.2.2.1.2.2.1, E5 t) ∧ label ≤ x.2.2.2.1 ∧ x.2.2.2.1 + x.1 ≤ label + 2 * (H4 (ks.take x.1) : Int)) (fun x => ks.length - x.1) (0, (none, 0, [], []), (some ⟨b66, 0, none⟩, 0, [], []), label, Gx) ?_ ?_ ?_)
   ·(simp only [J7]; exact E3)
   ·(exact ⟨by simp, C1.refl _, rfl, by simp [H3], by simp [Tm.smallL], by simp [H4], rfl, by simp [E9], by simp, by dsimp only; omega, by dsimp only; omega⟩)
   ·(rintro ⟨i, ⟨pn, cn, us, es'⟩, ⟨pm, cm, ts, ess⟩, l, Gi⟩ ⟨hi, hle, hlu, hst, hus, hcu, hlt, hstt, hat, hl1, hl2⟩; simp only [] at hi hle hlu hst hus hcu hlt hstt hat hl1 hl2 ⊢; replace hty1 := hty1.mono hle; replace hfr1 := hfr1.mono hle; replace hsl := hsl.mono hle; replace hkl := hkl.mono hle; replace hmr := hmr.mono hle; replace hr0 := hr0.mono hle; replace hxX := hxX.mono hle)
    refine B5 ?_
    refine sB (K6 rfl rfl) rfl rfl (fun h88 => ?_) (fun h88 => ?_)
    ·refine A7 ?_
     refine C2 ?_
     refine A7 ?_
     (obtain ⟨b, o, e, rfl, hl, hate, hre, hgb⟩ := hsl.kidTm hkl (i := i) zW zW; have hsc := A4N (ks := ks) (i := i) zW; have hsk := A55 (ks := ks) (i := i) zW; refine sP (B1 rfl rfl rfl zW) rfl rfl ?_)
     refine sL (A5 rfl rfl (hate _) hl) rfl rfl ?_
     refine F8 ?_
     (refine F9 rfl (ih ks[i] (List.getElem_mem zW) (d + 1) Gi px nx cx l _ (hvk i zW) zW hxX hre zW zW) rfl rfl (fun v G3 hle3 hh => ?_); obtain ⟨u, uc, t, tc, l3, rfl, hru, hu1, hu2, hrt, ht1, ht2, hl3, hl4⟩ := hh; obtain ⟨v1, v2, v3, v4, v5, v6, v7, v8, v9, rfl⟩ : ∃ v1 v2 v3 v4 v5 v6 v7 v8 v9, uc = [v1, v2, v3, v4, v5, v6, v7, v8, v9] := (by obtain ⟨_, _, _, _, _, _, _, _, _, rfl, _⟩ := hru.open; exact ⟨_, _, _, _, _, _, _, _, _, rfl⟩); obtain ⟨p3, c3, e3, rfl, _⟩ := hrt.open; have hlu9 := hru.len; have hou9 := hru.one)
     refine C3 ?_
     refine sE (A8 rfl) rfl (fun b110 => ?_)
     refine sE (A8 rfl) rfl (fun b111 => ?_)
     refine sS rfl rfl rfl hlu9 hou9 rfl ?_ (hu := by exact C6 hlu9.symm)
     refine D9 ?_
     (refine J1 (C9 rfl rfl rfl zW zR rfl) rfl ?_; rintro _ ⟨b122, rfl⟩)
     refine A2t rfl rfl rfl rfl rfl (fun _ _ => by repeat (first | exact Sw.here | apply Sw.there)) (R2 zP) rfl (fun u hu => List.all_eq_true.1 hou9 u hu) zR zW rfl (fun pn' cn' => ?_)
     refine E7 ?_
     (refine J1 (C9 rfl rfl rfl zW zR rfl) rfl ?_; rintro _ ⟨b132, rfl⟩)
     refine A2t rfl rfl rfl rfl rfl (fun _ _ => by repeat (first | exact Sw.here | apply Sw.there)) (R2 zP) rfl zQ zR zW rfl (fun pm' cm' => ?_)
     refine I3 ?_
     refine sP (K9 rfl rfl zW zW) rfl rfl ?_
     refine A4 ?_
     refine K3 (i + 1, (pn', cn', us ++ [u], es' ++ [[v1, v2, v3, v4, v5, v6, v7, v8, v9]]), (pm', cm', ts ++ [t], ess ++ [[.int .i64 t.k, .slice p3 t.ks.length c3]]), l3, G3) ?_ ?_ ?_
     ·(simp only [J7]; exact E3)
     ·(dsimp only; exact ⟨by omega, hle.trans hle3, by simp [hlu], H3.snoc (hst.mono hle3) hru, A9i hus hu1, by rw [A9h]; omega, by simp [hlt], E9.snoc (hstt.mono hle3) hrt, A11 hat ht1, by omega, by omega⟩)
     ·(show ks.length - (i + 1) < ks.length - i; omega)
    ·refine J2 ?_
     (obtain rfl : i = ks.length := zW; rw [List.take_length] at hcu hl2; refine S9 (cs := ess.flatten) zN (fun G4 hle4 hsl4 hno4 => ?_); have hstt4 := hstt.mono hle4; have hslT : D0 G4 pm ts.length cm 2 ess := (by rw [hlt]; exact D0.of hsl4 (by rw [hstt4.len, hlt]) hstt4.all (fun e he => (hstt4.each e he).2)); have hW := B4n k nm num (.mk tk tks) (.mk fk fks) lb ks ts mt G4 _ _ pm cm ess (by rw [hlt]; exact har) (hr0.mono hle4) hslT hstt4 hat (hmr.mono hle4) hma; rw [hlt] at hW; refine F9 rfl hW rfl rfl (fun v G5 hle5 hh => ?_); obtain ⟨pw, cw, esw, ws, rfl, hlw, hsw, hstw, haw⟩ := hh; have hle45 := hle4.trans hle5; replace hty1 := hty1.mono hle45; replace hfr1 := hfr1.mono hle45; replace hmr := hmr.mono hle45; replace hst := hst.mono hle45; replace hslT := hslT.mono hle5; replace hstt := hstt.mono hle45; rcases Nat.eq_zero_or_pos ks.length with h0 | h0)
     ·refine D9 ?_
      refine C2 ?_
      (have h0' : ks.length = 0 := h0; refine L4 (fun (_ : Nat) => ⟨[(18, .int .i64 0), (17, .slice pw ks.length cw), (12, .slice pm ks.length cm), (2, .int .i64 l), (4, .pointer (some ⟨b3, 0, none⟩)), (6, .pointer (some ⟨b4, 0, none⟩)), (7, .pointer (some ⟨b5, 0, none⟩)), (9, .pointer (some ⟨b17, 0, none⟩)), (11, .pointer (some ⟨b26, 0, none⟩))], [.blk b26 [.int .i64 k, .string nm, .int .i64 num, .int .i64 tk, .slice q1 tks.length c1, .int .i64 fk, .slice q2 fks.length c2, .int .i64 lb, .slice pn ks.length cn], .slc pn cn 28 9 ks.length es'.flatten, .blk b17 [.int .i64 mt.k, .slice p1 mt.ks.length d1], .blk b5 [.int .i64 0, .slice none 0 0], .blk b4 [.int .i64 0, .string ⟨⟨[]⟩⟩, .int .i64 0, .int .i64 0, .slice none 0 0, .int .i64 0, .slice none 0 0, .int .i64 0, .slice none 0 0], .blk b3 [.int .i64 k, .string nm, .int .i64 num, .int .i64 tk, .slice pt tks.length ct, .int .i64 fk, .slice pf fks.length cf, .int .i64 lb, .slice q ks.length cq]], G5⟩) (fun _ => True) (fun i => i) 0 ?_ ?_ ?_)
      ·exact E3
      ·trivial
      ·(rintro (i0 : Nat) _)
       refine A7 ?_
       refine sP (A4A rfl rfl zW) rfl rfl ?_
       refine J2 ?_
       refine sP (F0 rfl rfl zW) rfl rfl ?_
       refine A7 ?_
       refine D2 D3 rfl ?_
       refine M3 (i := 0) (l' := [tt,ff,ff,ff,ff,ff]) rfl C8 (A3 rfl rfl) rfl zU rfl rfl ?_
       refine aL 1 rfl (A3 rfl rfl) rfl ?_
       refine aP 2 rfl (qM rfl) rfl ?_
       refine A1 3 ?_
       refine A02 rfl rfl rfl rfl rfl rfl rfl rfl zO (by rfl) zG ?_
       refine A1 4 ?_
       refine A02 rfl rfl rfl rfl rfl rfl rfl rfl zO (by rfl) zG ?_
       refine aP 5 rfl (qA rfl) rfl ?_
       refine A4 ?_
       (refine F6 (cs := es'.flatten) zN (fun G8 hle8 hsl8 hno8 => ?_); have hst8 := hst.mono hle8)
       refine tT ?_
       refine H5 (rC rfl (A3 rfl rfl)) (rC rfl (A3 rfl rfl)) (rT rfl) ?_
       (have hst8q := hst8; refine ⟨rfl, .mk k nm num (.mk tk tks) (.mk fk fks) lb us, _, mt, _, l, rfl, by rw [← hlu]; exact B6.of9 hk hnum hlb (hty1.mono hle8) (hfr1.mono hle8) (by rw [hlu]; exact D0.of hsl8 (by rw [hst8.len, hlu]) hst8.all (fun e he => by obtain ⟨q, hq⟩ := List.getElem?_of_mem he; exact (hst8.inv hq K5).2.one)) hst8, by rw [Tm.small]; exact ⟨hnm, htsm, hfsm, by omega, hus⟩, by rw [F4]; omega, hmr.mono hle8, hma, by omega, by omega, by omega⟩)
     ·(refine A9c (cs := es'.flatten) zN h0 (fun bc C hpe hnc hcm => ?_); subst hpe; refine sQ (qA rfl) rfl ?_)
      refine E7 ?_
      refine C2 ?_
      (refine L4 (fun (x : Nat × List Tm × List (List Value) × Int × IM) => ⟨[(18, .int .i64 x.1), (17, .slice pw ks.length cw), (12, .slice pm ks.length cm), (2, .int .i64 x.2.2.2.1), (4, .pointer (some ⟨b3, 0, none⟩)), (6, .pointer (some ⟨b4, 0, none⟩)), (7, .pointer (some ⟨b5, 0, none⟩)), (9, .pointer (some ⟨b17, 0, none⟩)), (11, .pointer (some ⟨b26, 0, none⟩))], [.blk b26 [.int .i64 k, .string nm, .int .i64 num, .int .i64 tk, .slice q1 tks.length c1, .int .i64 fk, .slice q2 fks.length c2, .int .i64 lb, .slice (some ⟨bc, 0, none⟩) ks.length cn], .blk bc (x.2.2.1.flatten ++ C), .blk b17 [.int .i64 mt.k, .slice p1 mt.ks.length d1], .blk b5 [.int .i64 0, .slice none 0 0], .blk b4 [.int .i64 0, .string ⟨⟨[]⟩⟩, .int .i64 0, .int .i64 0, .slice none 0 0, .int .i64 0, .slice none 0 0, .int .i64 0, .slice none 0 0], .blk b3 [.int .i64 k, .string nm, .int .i64 num, .int .i64 tk, .slice pt tks.length ct, .int .i64 fk, .slice pf fks.length cf, .int .i64 lb, .slice q ks.length cq]], x.2.2.2.2⟩) (fun x => x.1 ≤ ks.length ∧ C1 G5 x.2.2.2.2 ∧ x.2.1.length = ks.length ∧ H3 x.2.2.2.2 x.2.1 x.2.2.1 ∧ Tm.smallL x.2.1 ∧ H4 x.2.1 ≤ H4 us + x.1 ∧ label ≤ x.2.2.2.1 ∧ x.2.2.2.1 ≤ l + x.1) (fun x => ks.length - x.1) (0, us, es', l, G5) ?_ ?_ ?_)
      ·(simp only [J7]; exact E3)
      ·(exact ⟨by simp, C1.refl _, hlu, hst, hus, Nat.le_refl _, hl1, by dsimp only; omega⟩)
      ·(rintro ⟨i2, us2, es2, l2, G6⟩ ⟨hi2, hle6, hlu2, hst2, hus2, hcu2, hl21, hl22⟩; simp only [] at hi2 hle6 hlu2 hst2 hus2 hcu2 hl21 hl22 ⊢; replace hty1 := hty1.mono hle6; replace hfr1 := hfr1.mono hle6; replace hmr := hmr.mono hle6; replace hslT := hslT.mono hle6; replace hstt := hstt.mono hle6; replace hsw := hsw.mono hle6; replace hstw := hstw.mono hle6; have hle2s := hst2.len; have hall2 := hst2.all)
       refine A7 ?_
       refine sB (K6 rfl rfl) rfl rfl (fun h242 => ?_) (fun h242 => ?_)
       ·refine A7 ?_
        refine C2 ?_
        (have hi3 : i2 < ks.length := zW; obtain ⟨bt, ot, qt, dt, hpt, hatt, hrtt, hgt⟩ := hslT.kidTy hstt (i := i2) zW zW; obtain ⟨bw, ow, qw, dw, hpw, hatw, hrtw, hgw⟩ := (show D0 G6 pw ws.length cw 2 esw from by rw [hlw]; exact hsw).kidTy hstw (i := i2) zW zW; cases hpt; cases hpw; obtain ⟨hE1, hE2⟩ := hst2.at2 (i := i2) zW zW; have hE3 := hE2.len; refine D2 D3 rfl ?_)
        refine H1 (i := 0) (l' := [tt,ff,ff,ff,ff,ff,ff,ff,ff,ff,ff,ff,ff,ff,ff,ff,ff,ff,ff,ff,ff,ff,ff,ff]) rfl C8 (C0 rfl) rfl zU rfl rfl ?_
        refine aL 1 rfl (D4 rfl rfl) rfl ?_
        refine aP 2 rfl (qM rfl) rfl ?_
        refine aP 3 rfl (C0 rfl) rfl ?_
        refine aL 4 rfl (D4 rfl rfl) rfl ?_
        refine aP 5 rfl (qM rfl) rfl ?_
        refine aP 6 rfl (B1 rfl rfl rfl zW) rfl ?_
        refine aL 7 rfl (A5 rfl rfl (A9n (es := es2) zP zW hall2) hE3) rfl ?_
        refine aP 8 rfl (qM rfl) rfl ?_
        refine aP 9 rfl (qM rfl) rfl ?_
        refine aP 10 rfl (B1 rfl rfl rfl zW) rfl ?_
        refine aL 11 rfl (A5 rfl rfl (hatt _) rfl) rfl ?_
        refine aP 12 rfl (qM rfl) rfl ?_
        refine aP 13 rfl (qM rfl) rfl ?_
        refine aP 14 rfl (B1 rfl rfl rfl zW) rfl ?_
        refine aL 15 rfl (A5 rfl rfl (hatw _) rfl) rfl ?_
        refine aP 16 rfl (qM rfl) rfl ?_
        refine A1 17 ?_
        (refine E1 rfl rfl (A3Z us2[i2] ts[i2] ws[i2] l2 _ _ _ _ zW hE2 hrtt hrtw (hat _ (List.getElem_mem zW)) (haw _ (List.getElem_mem zW))) rfl rfl rfl (fun v G7 hle7 hh => ?_); obtain ⟨u, uc, l3, rfl, hru, hu1, hu2, hl31, hl32⟩ := hh; have hlu9 := hru.len; have hou9 := hru.one)
        refine aP 18 rfl (qM rfl) rfl ?_
        refine aP 19 rfl (pX rfl rfl) rfl ?_
        refine aP 21 rfl (B1 rfl rfl rfl zW) rfl ?_
        refine aP 20 rfl (pX rfl rfl) rfl ?_
        refine A1 22 ?_
        refine N9 rfl rfl rfl rfl hlu9 hou9 rfl rfl zU zO (by exact A9e zW hall2 hlu9) ?_
        refine aP 23 rfl (qA rfl) rfl ?_
        refine A9 ?_
        refine sP (K9 rfl rfl zW zW) rfl rfl ?_
        refine A4 ?_
        (have hset := A9j us2 i2 u zW; refine K3 (i2 + 1, us2.set i2 u, es2.set i2 uc, l3, G7) ?_ ?_ ?_)
        ·(simp only [J7]; exact E3)
        ·(dsimp only; exact ⟨by omega, hle6.trans hle7, by simp [hlu2], H3.set (hst2.mono hle7) hru, A9k hus2 (hu1 (Tm.smallL_mem hus2 _ (List.getElem_mem zW))), by omega, by omega, by omega⟩)
        ·(show ks.length - (i2 + 1) < ks.length - i2; omega)
       ·refine J2 ?_
        refine sB (qE rfl rfl) rfl rfl (fun h302 => ?_) (fun h302 => ?_)
        ·refine C3 ?_
         (have hq13 : k = 13 := zT; have hl13 := hk13 hq13; obtain ⟨hE1, hE2⟩ := hst2.at2 (i := 0) zW zW; have hE3 := hE2.len; have hE4 := hE2.one; have hEc := B4o (ts := us2) (i := 0) zW; refine D2 D3 rfl ?_)
         refine H1 (i := 0) (l' := [tt,ff,ff,ff,ff,ff,ff,ff,ff]) rfl C8 (C0 rfl) rfl zU rfl rfl ?_
         refine aL 1 rfl (D4 rfl rfl) rfl ?_
         refine aP 2 rfl (B1 rfl rfl rfl zW) rfl ?_
         refine aL 3 rfl (A5 rfl rfl (A9n (es := es2) zP zW hall2) hE3) rfl ?_
         refine aL 4 rfl (A3 rfl rfl) rfl ?_
         refine aP 5 rfl (qM rfl) rfl ?_
         refine A1 6 ?_
         refine A02 rfl rfl rfl rfl hE3 hE4 rfl rfl zO (by exact C6 hE3.symm) zG ?_
         refine A1 7 ?_
         refine A02 rfl rfl rfl rfl rfl rfl rfl rfl zO (by rfl) zG ?_
         refine aP 8 rfl (qA rfl) rfl ?_
         refine A4 ?_
         (refine A4G (bs := [(bc, es2.flatten ++ C)]) (Pk.perm zN) (fun hn9 hd9 hle9 => ?_))
         refine A4 ?_
         refine H5 (rC rfl (A5 rfl rfl (B7 zP) hE3)) (rC rfl (A3 rfl rfl)) (rT rfl) ?_
         (exact ⟨rfl, us2[0], _, mt, _, l2, rfl, hE2.mono hle9, Tm.smallL_mem hus2 _ (List.getElem_mem _), by omega, hmr.mono hle9, hma, by omega, by omega, by omega⟩)
        ·refine A7 ?_
         refine D2 D3 rfl ?_
         refine M3 (i := 0) (l' := [tt,ff,ff,ff,ff,ff]) rfl C8 (A3 rfl rfl) rfl zU rfl rfl ?_
         refine aL 1 rfl (A3 rfl rfl) rfl ?_
         refine aP 2 rfl (qM rfl) rfl ?_
         refine A1 3 ?_
         refine A02 rfl rfl rfl rfl rfl rfl rfl rfl zO (by rfl) zG ?_
         refine A1 4 ?_
         refine A02 rfl rfl rfl rfl rfl rfl rfl rfl zO (by rfl) zG ?_
         refine aP 5 rfl (qA rfl) rfl ?_
         refine A4 ?_
         (refine A4G (bs := [(bc, es2.flatten ++ C)]) (Pk.perm zN) (fun hn9 hd9 hle9 => ?_))
         refine tT ?_
         refine H5 (rC rfl (A3 rfl rfl)) (rC rfl (A3 rfl rfl)) (rT rfl) ?_
         (have hst9 := hst2.mono hle9; refine ⟨rfl, .mk k nm num (.mk tk tks) (.mk fk fks) lb us2, _, mt, _, l2, rfl, by rw [← hlu2]; exact B6.of9 hk hnum hlb (hty1.mono hle9) (hfr1.mono hle9) (D0.of (Sl.of_blk (A := []) (by rw [A1E hst9.all, hst9.len]) zW hcm (Wi.in hn9 List.mem_cons_self)) hst9.len hst9.all (fun e he => by obtain ⟨q, hq⟩ := List.getElem?_of_mem he; exact (hst9.inv hq K5).2.one)) hst9, by rw [Tm.small]; exact ⟨hnm, htsm, hfsm, by omega, hus2⟩, by rw [F4]; omega, hmr.mono hle9, hma, by omega, by omega, by omega⟩)
def A0p (t : Ty) : Ty := if t.k = 4 ∨ t.k = 5 then .mk t.k [Q5, Q5] else .mk t.k []
def Y2 (t : Ty) : Bool := decide (t.k ≠ 1) && H9 t (A0p t)
def Z6 (t : Tm) : Bool := decide (t.k = 14 ∧ t.fr.k = t.ty.k ∧ (t.ty.k = 4 ∨ t.ty.k = 5))
def inj (t : Tm) : Bool := decide (t.k = 14 ∧ t.ty.k = 1) && Y2 t.fr
mutual
def H8 : Tm → Bool
 | .mk k nm num ty fr lb ks => if k = 10 ∨ (k = 14 ∧ fr.k = ty.k ∧ (ty.k = 4 ∨ ty.k = 5)) ∨ (k = 14 ∧ ty.k = 1 ∧ Y2 fr = true) then A06 ks else decide (k = 2 ∨ k = 3 ∨ k = 4 ∨ k = 5)
def A06 : List Tm → Bool
 | [] => true
 | t :: ts => H8 t && A06 ts
end
mutual
def W0 (x : ByteArray) (v : Tm) : Tm → Tm
 | .mk k nm num ty fr lb ks => if k = 1 ∧ nm = x then v else if k = 5 ∧ nm = x then .mk k nm num ty fr lb ks else .mk k nm num ty fr lb (W1 x v ks)
def W1 (x : ByteArray) (v : Tm) : List Tm → List Tm
 | [] => []
 | t :: ts => W0 x v t :: W1 x v ts
end
def Q6 (e : Tm) (fr to : Ty) (lb : Int) : Tm := .mk 14 ⟨#[]⟩ 0 to fr lb [e]
def A0h (k : Int) (ks : List Tm) : Tm := .mk k ⟨#[]⟩ 0 B4 B4 0 ks
def A44 (n : Int) : Tm := .mk 2 ⟨#[]⟩ n B4 B4 0 []
def A0i (b : Prop) [Decidable b] : Tm := A0h (if b then 3 else 4) []
abbrev Stp := Tm × Int × Int
def Z7 : Stp := (K5, 3, 0)
def kd (ks : List Tm) (i : Nat) : Tm := ks.getD i K5
def kt (ks : List Ty) (i : Nat) : Ty := ks.getD i B4
def A0A (k : Int) (ty fr : Ty) (lb : Int) (ks : List Tm) : Stp :=
 if k = 6 then
  (if (kd ks 0).k = 5 then (W0 (kd ks 0).nm (kd ks 1) (kd (kd ks 0).ks 0), 1, 0)
   else if Z6 (kd ks 0) = true ∧ (kd ks 0).ty.k = 4 then (Q6 (A0h 6 [kd (kd ks 0).ks 0, Q6 (kd ks 1) (kt (kd ks 0).ty.ks 0) (kt (kd ks 0).fr.ks 0) (-(kd ks 0).lb)]) (kt (kd ks 0).fr.ks 1) (kt (kd ks 0).ty.ks 1) (kd ks 0).lb, 1, 0)
   else Z7)
 else if k = 7 ∨ k = 8 then
  (if (kd ks 0).k = 2 ∧ (kd ks 1).k = 2 then (if k = 7 then A44 (((kd ks 0).num + (kd ks 1).num) % 1000) else A0i ((kd ks 0).num < (kd ks 1).num), 1, 0) else Z7)
 else if k = 9 then (if (kd ks 0).k = 3 then (kd ks 1, 1, 0) else if (kd ks 0).k = 4 then (kd ks 2, 1, 0) else Z7)
 else if k = 11 ∨ k = 12 then
  (if (kd ks 0).k = 10 then (kd (kd ks 0).ks (k - 11).toNat, 1, 0)
   else if Z6 (kd ks 0) = true ∧ (kd ks 0).ty.k = 5 then (Q6 (A0h k [kd (kd ks 0).ks 0]) (kt (kd ks 0).fr.ks (k - 11).toNat) (kt (kd ks 0).ty.ks (k - 11).toNat) (kd ks 0).lb, 1, 0)
   else Z7)
 else if k = 14 then
  (if fr.k = ty.k then (kd ks 0, 1, 0)
   else if ty.k = 1 then (Q6 (Q6 (kd ks 0) fr (A0p fr) lb) (A0p fr) ty lb, 1, 0)
   else if Y2 ty = false then (Q6 (Q6 (kd ks 0) fr (A0p ty) lb) (A0p ty) ty lb, 1, 0)
   else if inj (kd ks 0) = false then Z7
   else if (kd ks 0).fr.k = ty.k then (kd (kd ks 0).ks 0, 1, 0)
   else (K5, 2, lb))
 else Z7
mutual
def I6 : Tm → Stp
 | .mk k nm num ty fr lb ks => match X6 (if k = 9 then 1 else ks.length) ks with
  | some (ks', c, l) => if c = 1 then (.mk k nm num ty fr lb ks', 1, 0) else (K5, c, l)
  | none => A0A k ty fr lb ks
def X6 : Nat → List Tm → Option (List Tm × Int × Int)
 | _, [] => none
 | n, t :: ts => match n with
  | 0 => none
  | n + 1 => if H8 t = true then (match X6 n ts with
    | some (us, c, l) => some (t :: us, c, l)
    | none => none)
   else some ((I6 t).1 :: ts, (I6 t).2.1, (I6 t).2.2)
end
def J3 (e : Tm) : Stp :=
 if K2 e = false then Z7 else if H8 e = true then (e, 0, 0)
 else if (I6 e).2.1 ≠ 1 then (K5, (I6 e).2.1, (I6 e).2.2)
 else if K2 (I6 e).1 = false then (K5, 4, 0) else ((I6 e).1, 1, 0)
def I7 : Nat → Tm → Tm × Int × Int × Nat
 | 0, e => if (J3 e).2.1 = 1 then (K5, 5, 0, 0) else ((J3 e).1, (J3 e).2.1, (J3 e).2.2, 0)
 | n + 1, e => if (J3 e).2.1 = 1 then ((I7 n (J3 e).1).1, (I7 n (J3 e).1).2.1, (I7 n (J3 e).1).2.2.1, (I7 n (J3 e).1).2.2.2 + 1)
  else ((J3 e).1, (J3 e).2.1, (J3 e).2.2, 0)
def Y3 (e : Tm) (fuel : Int) : Stp := if 0 ≤ fuel ∧ fuel ≤ 300 then ((I7 fuel.toNat e).1, (I7 fuel.toNat e).2.1, (I7 fuel.toNat e).2.2.1) else Z7
def B8x (e : Tm) (fuel : Int) : Int := if 0 ≤ fuel ∧ fuel ≤ 300 then ((I7 fuel.toNat e).2.2.2 : Int) else 0
structure CvN (k : Int) (nm : ByteArray) (num : Int) (ty fr : Ty) (lb : Int) (ks : List Tm) : Prop where
 ops : F7 k = ks.length
 ne : k ≠ 13
 nm1 : nm.size ≤ 1
 num0 : 0 ≤ num ∧ num ≤ 999
 tyA : E5 ty
 frA : E5 fr
 lbB : -99 ≤ lb ∧ lb ≤ 99
 c14 : k = 14 → O8 fr ty = true ∧ M1 ty = true ∧ M1 fr = true
 ty5 : ¬(k = 5 ∨ k = 14) → ty = B4
 fr14 : k ≠ 14 → fr = B4 ∧ lb = 0
def cv (t : Tm) : Prop := ∃ d, K8 40 13 t d = true
theorem A26 {n lo hi : Int} : U1 n lo hi = true ↔ lo ≤ n ∧ n ≤ hi := by unfold U1; rw [decide_eq_true_eq]
theorem cv.node {k : Int} {nm : ByteArray} {num : Int} {ty fr : Ty} {lb : Int} {ks : List Tm} (h : cv (.mk k nm num ty fr lb ks)) : CvN k nm num ty fr lb ks ∧ ∀ t ∈ ks, cv t := by
 obtain ⟨d, h⟩ := h
 obtain ⟨_, h2, h3, h4⟩ := Z5 h
 obtain ⟨n1, n2, n3, n4, n5, n6, n7, n8, n9⟩ := X4.1 h3
 refine ⟨⟨n1, h2, A6v h3, ?_, (A25 h3).1, ?_, ?_, ?_, ?_, ?_⟩, fun t ht => ?_⟩
 ·by_cases hk : k = 2
  ·exact A26.1 (n4 hk)
  ·have := A26.1 (n5 hk); omega
 ·by_cases hk : k = 14
  ·have := (n8 hk).1
   simp only [A0F, Bool.and_eq_true] at this
   exact (A43 this.1.1).1
  ·rw [A2y (n9 hk).1]; exact M6 zV zV
 ·by_cases hk : k = 14
  ·have := (n8 hk).2
   simp only [A0e, Bool.or_eq_true, A26] at this
   omega
  ·have := (n9 hk).2; omega
 ·intro hk
  have := (n8 hk).1
  simp only [A0F, Bool.and_eq_true] at this
  exact ⟨this.2, this.1.2, this.1.1⟩
 ·intro hk
  exact A2y (n7 zW)
 ·intro hk
  exact ⟨A2y (n9 hk).1, (n9 hk).2⟩
 ·obtain ⟨i, hi, rfl⟩ := List.mem_iff_getElem.1 ht
  exact ⟨_, (A04 40 13 ks _).1 h4 i hi⟩
theorem A12 {t : Tm} (h : K2 t = true) : cv t ∧ F4 t ≤ 200 := by
 obtain ⟨h1, h2⟩ := (A1Y t).1 h
 exact ⟨⟨1, h1⟩, h2⟩
mutual
theorem A9p : ∀ (t : Tm), cv t → t.small
 | .mk k nm num ty fr lb ks, h => by
  obtain ⟨hn, hk⟩ := h.node
  rw [Tm.small]
  refine ⟨by have := hn.nm1; omega, hn.tyA.small, hn.frA.small, ?_, A9q ks hk⟩
  have := A1J k
  have := hn.ops
  omega
theorem A9q : ∀ (ts : List Tm), (∀ t ∈ ts, cv t) → Tm.smallL ts
 | [], _ => by rw [Tm.smallL]; trivial
 | t :: ts, h => by
  rw [Tm.smallL]
  exact ⟨A9p t (h t List.mem_cons_self), A9q ts fun u hu => h u (List.mem_cons_of_mem _ hu)⟩
end
theorem B4q (k : Int) (nm : ByteArray) (num : Int) (ty fr : Ty) (lb : Int) (ks : List Tm) : F4 (.mk k nm num ty fr lb ks) = H4 ks + 1 := by rw [F4]
theorem B4r {k : Int} {nm : ByteArray} {num : Int} {ty fr : Ty} {lb : Int} {ks : List Tm} : (Tm.mk k nm num ty fr lb ks).small ↔ nm.size ≤ 4294967296 ∧ ty.small ∧ fr.small ∧ ks.length ≤ 4294967296 ∧ Tm.smallL ks := by rw [Tm.small]
theorem B4s {e : Tm} {a b : Ty} {l : Int} (h : e.small) (ha : a.small) (hb : b.small) : (Q6 e a b l).small := B4r.2 ⟨by decide, hb, ha, by simp, by simp [Tm.smallL, h]⟩
theorem B4t (e : Tm) (a b : Ty) (l : Int) : F4 (Q6 e a b l) = F4 e + 1 := by rw [Q6, B4q, H4, H4]
variable {P : Program} {G : IM}
def A9r (u : Ty) (G : IM) : IM → Value → List A6 → Prop := K1 fun G' v => ∃ cells, v = .agg ⟨cells⟩ ∧ B8 G' u cells
def U9 (r : Option Ty) (G : IM) : IM → Value → List A6 → Prop := K1 fun G' v => ∃ cells u, v = .tuple ⟨[.agg ⟨cells⟩, .bool r.isSome]⟩ ∧ B8 G' u cells ∧ ∀ t, r = some t → u = t
theorem B4u {G : IM} {k : Int} {a b : Ty} {ca cb : List Value} {p : Option Addr} {c : Nat} (hk : E8 k) (ha : B8 G a ca) (hb : B8 G b cb) (hs : Sl G p 2 c 2 (ca ++ cb)) : B8 G (.mk k [a, b]) [.int .i64 k, .slice p 2 c] := by
 have hL : E9 G [a, b] [ca, cb] := by simp only [E9]; exact ⟨ca, [cb], rfl, ha, cb, [], rfl, hb, rfl⟩
 exact E9.ty (ts := [a, b]) (es := [ca, cb]) hL rfl (by simpa using hs) hk
theorem A45 : ∀ (t t' : Ty) (G : IM) (cells cells' : List Value), B8 G t cells → B8 G t' cells' → Fn Tryz.prog 29 [.agg ⟨cells⟩, .agg ⟨cells'⟩] [] G (J5 (.bool (H9 t t')) G) := by
 refine Ty.ind fun k ks ih t' G cells cells' hr hr' => ?_
 obtain ⟨k', ks'⟩ := t'
 obtain ⟨p, c, es, rfl, hk, hsl, hkl⟩ := hr.open
 obtain ⟨p', c', es', rfl, hk', hsl', hkl'⟩ := hr'.open
 simp only [Ty.k, Ty.ks] at hk hsl hkl hk' hsl' hkl' ⊢
 obtain ⟨A, hA⟩ : ∃ A, Z0 ks ks' = A := ⟨_, rfl⟩
 have hA' : A = true ↔ ks.length = ks'.length ∧ ∀ i, i < ks.length → H9 (ks.getD i B4) (ks'.getD i B4) = true := by
  rw [← hA, A3W]
  constructor
  ·rintro ⟨h1, h2⟩
   refine ⟨h1, fun i hi => ?_⟩
   have := h2 i hi zW
   simpa [List.getD_eq_getElem?_getD, List.getElem?_eq_getElem hi, List.getElem?_eq_getElem (show i < ks'.length by omega)] using this
  ·rintro ⟨h1, h2⟩
   refine ⟨h1, fun i hi hi' => ?_⟩
   have := h2 i hi
   simpa [List.getD_eq_getElem?_getD, List.getElem?_eq_getElem hi, List.getElem?_eq_getElem hi'] using this
 refine C7 Tryz.func29 rfl Tryz.ntmps29 Tryz.results29 rfl ?_
 intro w0
 refine A4 ?_
 refine sE (D5 rfl rfl) rfl (fun b3 => ?_)
 refine sE (D5 rfl rfl) rfl (fun b4 => ?_)
 refine D9 ?_
 refine sB (qE rfl rfl) rfl rfl (fun h14 => ?_) (fun h14 => ?_)
 refine A9 ?_
 refine E6 rfl (A6h _ _ _ _ _ _ _ _ _ hsl hsl' _ [] [] [] (fun i => H9 (ks.getD i B4) (ks'.getD i B4)) A hA' (fun i e e' he he' => ih _ (hkl.inv he B4).1 _ _ _ _ (hkl.inv he B4).2 (hkl'.inv he' B4).2)) rfl rfl ?_
 refine A7 ?_
 exact ⟨rfl, by rw [A2x, hA]; first | (rw [decide_eq_true (p := k = k') zW]; rfl) | (rw [decide_eq_false (p := k = k') zW]; rfl), rfl⟩
 refine N8 ?_
 exact ⟨rfl, by rw [A2x, hA]; first | (rw [decide_eq_true (p := k = k') zW]; rfl) | (rw [decide_eq_false (p := k = k') zW]; rfl), rfl⟩
theorem A13 (k : Int) (a b : Ty) (G : IM) (ca cb : List Value) (hk : E8 k) (hra : B8 G a ca) (hrb : B8 G b cb) :
  Fn Tryz.prog 114 [.int .i64 k, .agg ⟨ca⟩, .agg ⟨cb⟩] [] G (A9r (.mk k [a, b]) G) := by
 obtain ⟨pa, cca, ea, rfl, _⟩ := hra.open
 obtain ⟨pb, ccb, eb, rfl, _⟩ := hrb.open
 refine C7 Tryz.func114 rfl Tryz.ntmps114 Tryz.results114 rfl ?_
 intro w0
 refine A4 ?_
 refine sE (D5 rfl rfl) rfl (fun b3 => ?_)
 refine sE (D5 rfl rfl) rfl (fun b4 => ?_)
 refine sE (A8 rfl) rfl (fun b5 => ?_)
 refine B5 ?_
 (refine J1 (C9 rfl rfl rfl zW zR rfl) rfl ?_; rintro _ ⟨b13, rfl⟩)
 refine C3 ?_
 (refine F6 zN (fun G5 hle5 hsl5 hno5 => ?_))
 refine tT ?_
 refine L0 (rC rfl (A3 rfl rfl)) ?_
 exact ⟨rfl, _, rfl, B4u hk (hra.mono hle5) (hrb.mono hle5) hsl5⟩
theorem A30 (k tk : Int) (ks : List Ty) : Z1 k (.mk tk ks) = if tk = k then some (ks.getD 0 B4, ks.getD 1 B4) else if tk = 1 then some (Q5, Q5) else none := rfl
def B4v (k : Int) (t : Ty) (G : IM) : IM → Value → List A6 → Prop := K1 fun G' v => ∃ a ca b cb, v = .tuple ⟨[.agg ⟨ca⟩, .agg ⟨cb⟩, .bool (Z1 k t).isSome]⟩ ∧ B8 G' a ca ∧ B8 G' b cb ∧ E5 a ∧ E5 b ∧ ∀ p, Z1 k t = some p → p = (a, b)
theorem A9s (k : Int) (t : Ty) (G : IM) (cells : List Value) (hk : k = 4 ∨ k = 5) (ha : E5 t) (hr : B8 G t cells) :
  Fn Tryz.prog 115 [.agg ⟨cells⟩, .int .i64 k] [] G (B4v k t G) := by
 obtain ⟨tk, ks⟩ := t
 have ha2 := ha
 rw [E5] at ha2
 have hkid := ha.kid
 obtain ⟨p, c, es, rfl, htk, hsl, hkl⟩ := hr.open
 simp only [Ty.k, Ty.ks] at htk hsl hkl ⊢
 refine C7 Tryz.func115 rfl Tryz.ntmps115 Tryz.results115 rfl ?_
 intro w0
 refine A4 ?_
 refine sE (D5 rfl rfl) rfl (fun b3 => ?_)
 refine sE (A8 rfl) rfl (fun b4 => ?_)
 refine sE (A8 rfl) rfl (fun b5 => ?_)
 refine I2 ?_
 refine C2 (tS (tR (sQ (qM rfl) rfl (sB (qE rfl rfl) rfl rfl (fun h20 => ?_) (fun h20 => ?_)))))
 refine A9 ?_
 (have hlen : ks.length = 2 := ha2.1 zW; obtain ⟨b, o, q0, d0, hp0, hat0, hre0, hg0⟩ := hsl.kidTy hkl (i := 0) zW zW; obtain ⟨b', o', q1, d1, hp1, hat1, hre1, hg1⟩ := hsl.kidTy hkl (i := 1) zW zW; subst hp0; cases hp1; refine D2 D3 rfl ?_)
 refine H1 (i := 0) (l' := [tt,ff,ff,ff,ff,ff,ff,ff,ff,ff,ff]) rfl C8 (C0 rfl) rfl zU rfl rfl ?_
 refine aL 1 rfl (D4 rfl rfl) rfl ?_
 refine aP 2 rfl (B1 (j := 0) rfl rfl rfl zW) rfl ?_
 refine aL 3 rfl (A5 rfl rfl (hat0 _) rfl) rfl ?_
 refine aP 4 rfl (C0 rfl) rfl ?_
 refine aL 5 rfl (D4 rfl rfl) rfl ?_
 refine aP 6 rfl (B1 (j := 1) rfl rfl rfl zW) rfl ?_
 refine aL 7 rfl (A5 rfl rfl (hat1 _) rfl) rfl ?_
 refine A1 8 ?_
 refine E4 rfl ?_
 refine A1 9 ?_
 refine E4 rfl ?_
 refine aP 10 rfl (qA rfl) rfl ?_
 refine A9 ?_
 refine H5 (rC rfl (A3 rfl rfl)) (rC rfl (A3 rfl rfl)) (rT rfl) ?_
 (refine ⟨rfl, _, _, _, _, ?_, hre0, hre1, hkid _ (List.getElem_mem zW), hkid _ (List.getElem_mem zW), ?_⟩ <;> rw [A30, if_pos zW] <;> first | rfl | (intro p hp; cases hp; simp [hlen]))
 refine A7 ?_
 refine sB (qE rfl rfl) rfl rfl (fun h53 => ?_) (fun h53 => ?_)
 refine A7 ?_
 refine E6 rfl ((A1G _ _)) rfl rfl ?_
 refine E6 rfl ((A1G _ _)) rfl rfl ?_
 refine E7 ?_
 refine H5 (rC rfl (A3 rfl rfl)) (rC rfl (A3 rfl rfl)) (rT rfl) ?_
 (refine ⟨rfl, _, _, _, _, ?_, A0K _, A0K _, A3T, A3T, ?_⟩ <;> rw [A30, if_neg zW, if_pos zW] <;> first | rfl | (intro p hp; cases hp; rfl))
 refine P6 ?_
 refine H5 (rC rfl (A3 rfl rfl)) (rC rfl (A3 rfl rfl)) (rT rfl) ?_
 (refine ⟨rfl, B4, _, B4, _, ?_, J8 _ ⟨by omega, by omega⟩, J8 _ ⟨by omega, by omega⟩, M6 zW zW, M6 zW zW, ?_⟩ <;> rw [A30, if_neg zW, if_neg zW] <;> first | rfl | (intro p hp; cases hp))
def A27 (G : IM) (b : ByteArray × Ty) (e : List Value) : Prop := ∃ q d, e = [.string b.1, .int .i64 b.2.k, .slice q b.2.ks.length d] ∧ B8 G b.2 [.int .i64 b.2.k, .slice q b.2.ks.length d]
theorem A27.mono {G G' : IM} {b : ByteArray × Ty} {e : List Value} (h : A27 G b e) (hg : C1 G G') : A27 G' b e := by
 obtain ⟨q, d, h1, h2⟩ := h
 exact ⟨q, d, h1, h2.mono hg⟩
def R9 (G : IM) (cx : Cx) (p : Option Addr) (n c : Nat) : Prop := n = cx.length ∧ ∃ es : List (List Value), D0 G p n c 3 es ∧ ∀ (i : Nat) (b : ByteArray × Ty), cx[i]? = some b → ∃ e, es[i]? = some e ∧ A27 G b e
theorem R9.mono {G G' : IM} {cx : Cx} {p : Option Addr} {n c : Nat} (h : R9 G cx p n c) (hg : C1 G G') : R9 G' cx p n c := by
 obtain ⟨h1, es, h2, h3⟩ := h
 refine ⟨h1, es, h2.mono hg, fun i b hb => ?_⟩
 obtain ⟨e, he, hr⟩ := h3 i b hb
 exact ⟨e, he, hr.mono hg⟩
theorem R9.nil (G : IM) : R9 G [] none 0 0 := ⟨rfl, [], D0.nil _ _, by simp⟩
theorem R9.le {G : IM} {cx : Cx} {p : Option Addr} {n c : Nat} (h : R9 G cx p n c) : n ≤ 9223372036854775807 := by
 obtain ⟨h1, es, h2, h3⟩ := h
 exact h2.le
theorem R9.get {G : IM} {cx : Cx} {p : Option Addr} {n c : Nat} (h : R9 G cx p n c) {i : Nat} (hi : i < n) :
  ∃ b o nm t q d, cx[i]? = some (nm, t) ∧ p = some ⟨b, o, none⟩ ∧ (∀ hp, At hp G b (o + i * 3) [.string nm, .int .i64 t.k, .slice q t.ks.length d]) ∧ B8 G t [.int .i64 t.k, .slice q t.ks.length d] ∧ G b ≠ none := by
 obtain ⟨h1, es, h2, h3⟩ := h
 obtain ⟨e, b, o, he, rfl, hl, _, hat, hgb⟩ := h2.get (i := i) zW
 have hx : cx[i]? = some cx[i] := List.getElem?_eq_getElem zW
 obtain ⟨e', he', q, d, h4, h5⟩ := h3 i _ hx
 rw [he] at he'
 obtain rfl := Option.some.inj he'
 rw [h4] at hat
 exact ⟨b, o, cx[i].1, cx[i].2, q, d, hx, rfl, hat, h5, hgb⟩
theorem B4w (G : IM) (cx : Cx) (p : Option Addr) (n c : Nat) (nm : ByteArray) (hx : R9 G cx p n c) :
  Fn Tryz.prog 113 [.slice p n c, .string nm] [] G (U9 (O9 cx nm) G) := by
 have hn := hx.le
 have hn1 := hx.1
 refine C7 Tryz.func113 rfl Tryz.ntmps113 Tryz.results113 rfl ?_
 intro w0
 refine A4 ?_
 refine sE (A8 rfl) rfl (fun b3 => ?_)
 refine E7 ?_
 refine sP (O7 rfl rfl zW zW) rfl rfl ?_
 refine B3 ?_
 refine C2 ?_
 (refine L4 (fun (i : Nat) => ⟨[(6, .int .i64 ((i : Int) - 1)), (0, .slice p n c), (1, .string nm), (4, .pointer (some ⟨b3, 0, none⟩))], [.blk b3 [.int .i64 0, .slice none 0 0]], G⟩) (fun i => i ≤ n ∧ U4 cx nm i = O9 cx nm) (fun i => i) n ?_ ?_ ?_)
 exact E3
 exact ⟨Nat.le_refl _, by rw [hn1]; rfl⟩
 (rintro i ⟨hi, hlk⟩)
 refine C3 ?_
 refine sB (A0W rfl rfl) rfl rfl (fun h25 => ?_) (fun h25 => ?_)
 refine A7 ?_
 (show I9 _ _ (.block 1 _) _ _; obtain ⟨j, rfl⟩ : ∃ j, i = j + 1 := ⟨i - 1, by omega⟩; rw [show ((j + 1 : Nat) : Int) - 1 = (j : Int) from by omega]; obtain ⟨b, o, nm1, t1, q1, d1, hcx, rfl, hat, hr1, hgb⟩ := hx.get (i := j) zW; refine C2 ?_)
 refine C3 ?_
 refine sP (B1 rfl rfl rfl zW) rfl rfl ?_
 refine F8 ?_
 refine sL (S0 rfl rfl ((hat _).sub (j := 0) rfl)) rfl rfl ?_
 refine F8 ?_
 refine sB (A1S rfl rfl) rfl rfl (fun h41 => ?_) (fun h41 => ?_)
 refine B5 ?_
 refine sP (B1 rfl rfl rfl zW) rfl rfl ?_
 refine F8 ?_
 refine sL (A5 rfl rfl (hat _).drop rfl) rfl rfl ?_
 refine I2 ?_
 refine E0 (rC rfl (A3 rfl rfl)) (rT rfl) ?_
 (rw [A20 hcx zT] at hlk; rw [← hlk]; exact ⟨rfl, _, _, rfl, hr1, fun t ht => by cases ht; rfl⟩)
 refine E7 ?_
 refine sP (O7 rfl rfl zW zW) rfl rfl ?_
 refine A4 ?_
 refine K3 j ?_ ?_ ?_
 exact E3
 (rw [A21 hcx zT] at hlk; exact ⟨by omega, hlk⟩)
 (show _ < _ + 1; omega)
 refine N4 ?_
 refine E0 (rC rfl (A3 rfl rfl)) (rT rfl) ?_
 (obtain rfl : i = 0 := zW; rw [U4] at hlk; rw [← hlk]; exact ⟨rfl, _, B4, rfl, J8 _ ⟨by omega, by omega⟩, fun t ht => by cases ht⟩)
theorem B4x {xs ys : List Ty} (h : xs.length = 2) (h' : ys.length = 2) : A1X xs ys = [A0z (xs[0]'zW) (ys[0]'zW), A0z (xs[1]'zW) (ys[1]'zW)] := by
 match xs, ys, h, h' with
 | [a, b], [c, d], _, _ => rfl
theorem B4y {k k' : Int} {ks bs : List Ty} (h : O8 (.mk k ks) (.mk k' bs) = true) (hk : k ≠ 1) (hk' : k' ≠ 1) : k = k' ∧ T0 ks bs = true := by
 rw [V1] at h
 simpa [hk, hk'] using h
theorem A9t : ∀ (a b : Ty) (G : IM) (ca cb : List Value), O8 a b = true → E5 a → E5 b → B8 G a ca → B8 G b cb →
  Fn Tryz.prog 117 [.agg ⟨ca⟩, .agg ⟨cb⟩] [] G (A9r (A0z a b) G) := by
 refine Ty.ind fun k ks ih b G ca cb hc haa hab hra hrb => ?_
 have hsa := haa.small
 have hsb := hab.small
 obtain ⟨bk, bks⟩ := b
 have hra0 := hra
 have hrb0 := hrb
 have ha2 := haa
 have hb2 := hab
 rw [E5] at ha2 hb2
 have hkida := haa.kid
 have hkidb := hab.kid
 obtain ⟨p, c, es, rfl, hk, hsl, hkl⟩ := hra.open
 obtain ⟨p', c', es', rfl, hk', hsl', hkl'⟩ := hrb.open
 simp only [Ty.k, Ty.ks] at hk hsl hkl hk' hsl' hkl' ⊢
 have hn := hsl.le
 rw [A8T]
 refine C7 Tryz.func117 rfl Tryz.ntmps117 Tryz.results117 rfl ?_
 intro w0
 refine A4 ?_
 refine sE (D5 rfl rfl) rfl (fun b3 => ?_)
 refine sE (D5 rfl rfl) rfl (fun b4 => ?_)
 refine sE (A8 rfl) rfl (fun b5 => ?_)
 refine B3 ?_
 refine C2 ?_
 refine C3 ?_
 refine sB (qE rfl rfl) rfl rfl (fun h14 => ?_) (fun h14 => ?_)
 refine B5 ?_
 (refine F9 rfl (A2X _ _ _ hsb hrb0) rfl rfl (fun v G1 hle1 hh => ?_); obtain ⟨L7, F1, rfl, hs1, hn1⟩ := hh; obtain ⟨p1, c1, rfl, _⟩ := hs1.open; have hr1 := hs1.R.mono (D7.le G1 _))
 refine A7 ?_
 refine L0 (rC rfl (A3 rfl rfl)) ?_
 (rw [if_pos zW]; exact ⟨rfl, _, rfl, hr1⟩)
 refine E7 ?_
 refine sB (qE rfl rfl) rfl rfl (fun h39 => ?_) (fun h39 => ?_)
 refine J2 ?_
 (refine F9 rfl (A2X _ _ _ hsa hra0) rfl rfl (fun v G1 hle1 hh => ?_); obtain ⟨L7, F1, rfl, hs1, hn1⟩ := hh; obtain ⟨p1, c1, rfl, _⟩ := hs1.open; have hr1 := hs1.R.mono (D7.le G1 _))
 refine A7 ?_
 refine L0 (rC rfl (A3 rfl rfl)) ?_
 (rw [if_neg zW]; split <;> first | exact ⟨rfl, _, rfl, hr1⟩ | (obtain rfl : ks = [] := List.length_eq_zero_iff.1 zW; rw [A1X]; exact ⟨rfl, _, rfl, hr1⟩; simp))
 refine C3 ?_
 refine sB (qE rfl rfl) rfl rfl (fun h66 => ?_) (fun h66 => ?_)
 refine E7 ?_
 (refine F9 rfl (A2X _ _ _ hsa hra0) rfl rfl (fun v G1 hle1 hh => ?_); obtain ⟨L7, F1, rfl, hs1, hn1⟩ := hh; obtain ⟨p1, c1, rfl, _⟩ := hs1.open; have hr1 := hs1.R.mono (D7.le G1 _))
 refine A7 ?_
 refine L0 (rC rfl (A3 rfl rfl)) ?_
 (rw [if_neg zW]; split <;> first | exact ⟨rfl, _, rfl, hr1⟩ | (obtain rfl : ks = [] := List.length_eq_zero_iff.1 zW; rw [A1X]; exact ⟨rfl, _, rfl, hr1⟩; simp))
 refine D9 ?_
 (obtain ⟨hkk, hcl0⟩ := B4y hc zW zW; subst hkk; have hcl := (A2u _ _).1 hcl0; have hlen : ks.length = 2 := (by have := ha2.2.1; have := ha2.1; omega); have hlen' : bks.length = 2 := zW; obtain ⟨b0, o0, q0, d0, hp0, hat0, hre0, hg0⟩ := hsl.kidTy hkl (i := 0) zW zW; obtain ⟨b1, o1, q1, d1, hp1, hat1, hre1, hg1⟩ := hsl.kidTy hkl (i := 1) zW zW; subst hp0; cases hp1; obtain ⟨b2, o2, q2, d2, hp2, hat2, hre2, hg2⟩ := hsl'.kidTy hkl' (i := 0) zW zW; obtain ⟨b3, o3, q3, d3, hp3, hat3, hre3, hg3⟩ := hsl'.kidTy hkl' (i := 1) zW zW; subst hp2; cases hp3; have hM1 := ih ks[0] (List.getElem_mem zW) bks[0] G _ _ (hcl.2 0 zW zW) (hkida _ (List.getElem_mem zW)) (hkidb _ (List.getElem_mem zW)) hre0 hre2; refine D2 D3 rfl ?_)
 refine H1 (i := 0) (l' := [tt,ff,ff,ff,ff,ff,ff,ff,ff,ff,ff,ff,ff,ff,ff,ff,ff,ff,ff,ff,ff,ff]) rfl C8 (C0 rfl) rfl zU rfl rfl ?_
 refine aL 1 rfl (D4 rfl rfl) rfl ?_
 refine aP 2 rfl (C0 rfl) rfl ?_
 refine aL 3 rfl (D4 rfl rfl) rfl ?_
 refine aP 4 rfl (B1 (j := 0) rfl rfl rfl zW) rfl ?_
 refine aL 5 rfl (A5 rfl rfl (hat0 _) rfl) rfl ?_
 refine aP 6 rfl (C0 rfl) rfl ?_
 refine aL 7 rfl (D4 rfl rfl) rfl ?_
 refine aP 8 rfl (B1 (j := 0) rfl rfl rfl zW) rfl ?_
 refine aL 9 rfl (A5 rfl rfl (hat2 _) rfl) rfl ?_
 refine aP 11 rfl (C0 rfl) rfl ?_
 refine aL 12 rfl (D4 rfl rfl) rfl ?_
 refine aP 13 rfl (B1 (j := 1) rfl rfl rfl zW) rfl ?_
 refine aL 14 rfl (A5 rfl rfl (hat1 _) rfl) rfl ?_
 refine aP 15 rfl (C0 rfl) rfl ?_
 refine aL 16 rfl (D4 rfl rfl) rfl ?_
 refine aP 17 rfl (B1 (j := 1) rfl rfl rfl zW) rfl ?_
 refine aL 18 rfl (A5 rfl rfl (hat3 _) rfl) rfl ?_
 refine A1 10 ?_
 (refine E1 rfl rfl hM1 rfl rfl rfl (fun v G1 hle1 hh => ?_); obtain ⟨cm1, rfl, hm1⟩ := hh; have hM2 := ih ks[1] (List.getElem_mem zW) bks[1] G1 _ _ (hcl.2 1 zW zW) (hkida _ (List.getElem_mem zW)) (hkidb _ (List.getElem_mem zW)) (hre1.mono hle1) (hre3.mono hle1))
 refine A1 19 ?_
 (refine E1 rfl rfl hM2 rfl rfl rfl (fun v G2 hle2 hh => ?_); obtain ⟨cm2, rfl, hm2⟩ := hh; have hB := A13 k _ _ G2 _ _ hk (hm1.mono hle2) hm2)
 refine A1 20 ?_
 (refine E1 rfl rfl hB rfl rfl rfl (fun v G3 hle3 hh => ?_); obtain ⟨cm3, rfl, hm3⟩ := hh; obtain ⟨p5, c5, e5, rfl, _⟩ := hm3.open)
 refine A1 21 ?_
 refine E4 rfl ?_
 refine B3 ?_
 refine L0 (rC rfl (A3 rfl rfl)) ?_
 (rw [if_neg zW, if_neg zW]; rw [B4x hlen hlen']; exact ⟨rfl, _, rfl, hm3⟩)
def TmP (t : Tm) : IM → Value → List A6 → Prop := K1 fun G' v => ∃ cells, v = .agg ⟨cells⟩ ∧ B6 G' t cells
theorem TmP.mk {G : IM} {t : Tm} {cells : List Value} (h : B6 G t cells) : TmP t G (.agg ⟨cells⟩) [] := ⟨rfl, cells, rfl, h⟩
def mGk (k : Int) : Ty := if k = 4 ∨ k = 5 then .mk k [Q5, Q5] else .mk k []
theorem A9u {G : IM} {k : Int} {ks : List Tm} {p : Option Addr} {n c : Nat} {es : List (List Value)} (hk : E8 k) (hn : n = ks.length) (hs : D0 G p n c 9 es) (hr : H3 G ks es) : B6 G (A0h k ks) [.int .i64 k, .string ⟨⟨[]⟩⟩, .int .i64 0, .int .i64 0, .slice none 0 0, .int .i64 0, .slice none 0 0, .int .i64 0, .slice p n c] := by
 subst hn
 simp only [A0h, B6]
 exact ⟨[.int .i64 0, .slice none 0 0], [.int .i64 0, .slice none 0 0], p, c, es, rfl, hk, ⟨by decide, by decide⟩, ⟨by decide, by decide⟩, A1Z G, A1Z G, hs, hr⟩
theorem A9v (k : Int) (G : IM) (hk : E8 k) : Fn Tryz.prog 119 [.int .i64 k] [] G (K1 fun G' v => ∃ cells, v = .agg ⟨cells⟩ ∧ B8 G' (mGk k) cells) := by
 have hB := A13 k Q5 Q5 G _ _ hk (A0K G) (A0K G)
 refine C7 Tryz.func119 rfl Tryz.ntmps119 Tryz.results119 rfl ?_
 intro w0
 refine A4 ?_
 refine sE (A8 rfl) rfl (fun b3 => ?_)
 refine A7 ?_
 refine sB (qE rfl rfl) rfl rfl (fun h10 => ?_) (fun h10 => ?_)
 refine I2 ?_
 exact y18
 refine A4 ?_
 refine sB (qE rfl rfl) rfl rfl (fun h33 => ?_) (fun h33 => ?_)
 refine B5 ?_
 exact y18
 refine D9 ?_
 refine E6 rfl ((A1G _ _)) rfl rfl ?_
 refine C3 ?_
 refine L0 (rC rfl (A3 rfl rfl)) ?_
 (exact ⟨rfl, _, rfl, by unfold mGk; rw [if_neg zW]; exact J8 _ hk⟩)
theorem B4z (t : Tm) (G : IM) (cells : List Value) (hr : B6 G t cells) : Fn Tryz.prog 122 [.agg ⟨cells⟩] [] G (J5 (.bool (decide (t.k = 2 ∨ t.k = 3 ∨ t.k = 4 ∨ t.k = 5))) G) := by
 obtain ⟨k, nm, num, ⟨tk, tks⟩, ⟨fk, fks⟩, lb, ks⟩ := t
 obtain ⟨pt, ct, pf, cf, p, c, es, rfl, hk, hnum, hlb, hty, hfr, hsl, hkl⟩ := hr.open9
 rw [show (Tm.mk k nm num (.mk tk tks) (.mk fk fks) lb ks).k = k from rfl]
 refine C7 Tryz.func122 rfl Tryz.ntmps122 Tryz.results122 rfl ?_
 intro w0
 refine A4 ?_
 refine sE (D5 rfl rfl) rfl (fun b3 => ?_)
 refine B5 ?_
 refine sB (qE rfl rfl) rfl rfl (fun h11 => ?_) (fun h11 => ?_)
 refine A0n ?_
 (exact ⟨rfl, by rw [decide_eq_true zW], rfl⟩)
 refine B3 ?_
 refine sB (qE rfl rfl) rfl rfl (fun h36 => ?_) (fun h36 => ?_)
 refine N4 ?_
 (exact ⟨rfl, by rw [decide_eq_true zW], rfl⟩)
 refine C3 ?_
 refine sB (qE rfl rfl) rfl rfl (fun h58 => ?_) (fun h58 => ?_)
 refine I3 ?_
 (exact ⟨rfl, by rw [decide_eq_true zW], rfl⟩)
 refine C3 ?_
 refine sB (qE rfl rfl) rfl rfl (fun h75 => ?_) (fun h75 => ?_)
 refine A7 ?_
 (exact ⟨rfl, by rw [decide_eq_true zW], rfl⟩)
 refine A7 ?_
 (exact ⟨rfl, by rw [decide_eq_false zW], rfl⟩)
theorem A9w : ∀ ks, A06 ks = ks.all H8
 | [] => rfl
 | t :: ts => by rw [A06, A9w ts, List.all_cons]
theorem A31 (k : Int) (nm : ByteArray) (num : Int) (ty fr : Ty) (lb : Int) (ks : List Tm) : Z6 (.mk k nm num ty fr lb ks) = decide (k = 14 ∧ fr.k = ty.k ∧ (ty.k = 4 ∨ ty.k = 5)) := rfl
theorem A9x (k : Int) (nm : ByteArray) (num : Int) (ty fr : Ty) (lb : Int) (ks : List Tm) : inj (.mk k nm num ty fr lb ks) = (decide (k = 14 ∧ ty.k = 1) && Y2 fr) := rfl
theorem A9y {k : Int} {nm : ByteArray} {num : Int} {ty fr : Ty} {lb : Int} {ks : List Tm} (h : k = 10 ∨ Z6 (.mk k nm num ty fr lb ks) = true ∨ inj (.mk k nm num ty fr lb ks) = true) : H8 (.mk k nm num ty fr lb ks) = ks.all H8 := by
 rw [H8, if_pos, A9w]
 rw [A31, A9x] at h
 simp only [Bool.and_eq_true, decide_eq_true_eq] at h
 rcases h with h | h | h
 ·exact .inl h
 ·exact .inr (.inl h)
 ·exact .inr (.inr ⟨h.1.1, h.1.2, h.2⟩)
theorem B6.put {G : IM} {k : Int} {nm : ByteArray} {num tk fk lb : Int} {tks fks : List Ty} {us : List Tm} {pt pf p : Option Addr} {ct cf n c : Nat} {es : List (List Value)} (hk : E8 k) (hnum : E8 num) (hlb : E8 lb) (hty : B8 G (.mk tk tks) [.int .i64 tk, .slice pt tks.length ct]) (hfr : B8 G (.mk fk fks) [.int .i64 fk, .slice pf fks.length cf])
  (hn : n = us.length) (hs : D0 G p n c 9 es) (hr : H3 G us es) : B6 G (.mk k nm num (.mk tk tks) (.mk fk fks) lb us) [.int .i64 k, .string nm, .int .i64 num, .int .i64 tk, .slice pt tks.length ct, .int .i64 fk, .slice pf fks.length cf, .int .i64 lb, .slice p n c] := by
 subst hn
 simp only [B6]
 exact ⟨_, _, p, c, es, rfl, hk, hnum, hlb, hty, hfr, hs, hr⟩
theorem nine {uc : List Value} (h : uc.length = 9) : ∃ v1 v2 v3 v4 v5 v6 v7 v8 v9, uc = [v1, v2, v3, v4, v5, v6, v7, v8, v9] := by
 match uc, h with
 | [a, b, c, d, e, f, g, i, j], _ => exact ⟨a, b, c, d, e, f, g, i, j, rfl⟩
mutual
def A0q (g : Int → Tm → Tm × Int) : Tm → Int → Tm × Int
 | .mk k nm num ty fr lb ks, n => g (U5 g ks n).2 (.mk k nm num ty fr lb (U5 g ks n).1)
def U5 (g : Int → Tm → Tm × Int) : List Tm → Int → List Tm × Int
 | [], n => ([], n)
 | t :: ts, n => ((A0q g t n).1 :: (U5 g ts (A0q g t n).2).1, (U5 g ts (A0q g t n).2).2)
end
theorem A9z (g : Int → Tm → Tm × Int) : ∀ (ks : List Tm) (n : Int) (i : Nat) (h : i < ks.length),
  U5 g (ks.take (i + 1)) n = ((U5 g (ks.take i) n).1 ++ [(A0q g ks[i] (U5 g (ks.take i) n).2).1], (A0q g ks[i] (U5 g (ks.take i) n).2).2)
 | [], _, _, h => by simp at h
 | t :: ts, n, 0, _ => by simp [U5]
 | t :: ts, n, i + 1, h => by
  simp only [List.take_succ_cons, U5, List.getElem_cons_succ]
  rw [A9z g ts _ i (by simpa using h)]
  rfl
theorem A9A (g : Int → Tm → Tm × Int) : ∀ (ks : List Tm) (n : Int), (U5 g ks n).1.length = ks.length
 | [], _ => rfl
 | t :: ts, n => by rw [U5]; simp only [List.length_cons]; rw [A9A g ts]
mutual
def A28 (Q : Int → Tm → Prop) (g : Int → Tm → Tm × Int) : Tm → Int → Prop
 | .mk k nm num ty fr lb ks, n => A14 Q g ks n ∧ Q (U5 g ks n).2 (.mk k nm num ty fr lb (U5 g ks n).1)
def A14 (Q : Int → Tm → Prop) (g : Int → Tm → Tm × Int) : List Tm → Int → Prop
 | [], _ => True
 | t :: ts, n => A28 Q g t n ∧ A14 Q g ts (A0q g t n).2
end
theorem A9B {Q : Int → Tm → Prop} {g : Int → Tm → Tm × Int} : ∀ {ks : List Tm} {n : Int}, A14 Q g ks n → ∀ (i : Nat) (h : i < ks.length), A28 Q g ks[i] (U5 g (ks.take i) n).2
 | [], _, _, _, h => by simp at h
 | t :: ts, n, hq, 0, _ => by rw [A14] at hq; simpa [U5] using hq.1
 | t :: ts, n, hq, i + 1, h => by
  rw [A14] at hq
  simp only [List.take_succ_cons, U5, List.getElem_cons_succ]
  exact A9B hq.2 i (by simpa using h)
mutual
theorem A6z (g : Tm → Tm) : ∀ (t : Tm) (n : Int), A0q (fun n t => (g t, n)) t n = (Q0 g t, n)
 | .mk k nm num ty fr lb ks, n => by rw [A0q, Q0, A6A g ks n]
theorem A6A (g : Tm → Tm) : ∀ (ks : List Tm) (n : Int), U5 (fun n t => (g t, n)) ks n = (O0 g ks, n)
 | [], n => rfl
 | t :: ts, n => by rw [U5, O0, A6z g t n, A6A g ts n]
end
mutual
theorem A9C {Q : Tm → Prop} {g : Tm → Tm} : ∀ (t : Tm) (n : Int), mOk Q g t → A28 (fun _ => Q) (fun n t => (g t, n)) t n
 | .mk k nm num ty fr lb ks, n, h => by
  rw [mOk] at h
  rw [A28, A6A]
  exact ⟨A9D ks n h.1, h.2⟩
theorem A9D {Q : Tm → Prop} {g : Tm → Tm} : ∀ (ks : List Tm) (n : Int), A2v Q g ks → A14 (fun _ => Q) (fun n t => (g t, n)) ks n
 | [], n, _ => by rw [A14]; trivial
 | t :: ts, n, h => by
  rw [A2v] at h
  rw [A14, A6z]
  exact ⟨A9C t n h.1, A9D ts n h.2⟩
end
def A9E (g : Int → Tm → Tm × Int) (Q : Int → Tm → Prop) (E : Int → A6) (fid : FuncId) (us cs : List Value) : Prop := ∀ (n : Int) (t : Tm) (G : IM) (cells : List Value), Q n t → B6 G t cells →
 Fn Tryz.prog fid (us ++ [.agg ⟨cells⟩] ++ cs) [E n] G (fun G' v outs => outs = [E (g n t).2] ∧ ∃ cells', v = .agg ⟨cells'⟩ ∧ B6 G' (g n t).1 cells')
theorem B4A (g : Int → Tm → Tm × Int) (Q : Int → Tm → Prop) (E : Int → A6) (fid : FuncId) [C4 Tryz.prog fid] (us cs : List Value) (hg : A9E g Q E fid us cs) : ∀ (t : Tm) (n : Int) (G : IM) (cells : List Value), A28 Q g t n → t.small → B6 G t cells →
  Fn Tryz.prog 23 [.agg ⟨cells⟩, .func (.func fid) ⟨us⟩ ⟨cs⟩] [E n] G (fun G' v outs => outs = [E (A0q g t n).2] ∧ ∃ cells', v = .agg ⟨cells'⟩ ∧ B6 G' (A0q g t n).1 cells') := by
 refine Tm.ind fun k nm num ty fr lb ks ih n G cells hmo hts hr => ?_
 have hone := hr.one
 rw [A28] at hmo
 obtain ⟨hmoL, hQ⟩ := hmo
 simp only [Tm.small] at hts
 obtain ⟨hnm, hty', hfr', hsm, hks⟩ := hts
 have hgL : A0q g (.mk k nm num ty fr lb ks) n = g (U5 g ks n).2 (.mk k nm num ty fr lb (U5 g ks n).1) := by rw [A0q]
 have hstep := A9z g ks n
 have hget := fun i h => A9B hmoL i h
 have h0 : U5 g (ks.take 0) n = ([], n) := rfl
 have hmlen := A9A g ks n
 obtain ⟨tk, tks⟩ := ty
 obtain ⟨fk, fks⟩ := fr
 obtain ⟨pt, ct, pf, cf, p, c, es, rfl, hk, hnum, hlb, hty, hfr, hsl, hkl⟩ := hr.open9
 have hn := hsl.le
 refine C7 Tryz.func23 rfl Tryz.ntmps23 Tryz.results23 rfl ?_
 intro w0
 refine A4 ?_
 refine sE (D5 rfl rfl) rfl (fun b3 => ?_)
 refine sE (A8 rfl) rfl (fun b4 => ?_)
 refine N4 ?_
 refine C2 ?_
 (refine X0 28 9 ?_; refine L4 (fun (x : Nat × Option Addr × Nat × List (List Value) × List Tm × Int × IM) => ⟨[(11, .int .i64 x.1), (10, .int .i64 ks.length), (9, .slice p ks.length c), (5, .slice x.2.1 x.1 x.2.2.1), (2, .pointer (some ⟨b3, 0, none⟩)), (1, .func (.func fid) ⟨us⟩ ⟨cs⟩), (4, .pointer (some ⟨b4, 0, none⟩))], [.slc x.2.1 x.2.2.1 28 9 x.1 x.2.2.2.1.flatten, .blk b4 [.int .i64 0, .string ⟨⟨[]⟩⟩, .int .i64 0, .int .i64 0, .slice none 0 0, .int .i64 0, .slice none 0 0, .int .i64 0, .slice none 0 0], .blk b3 [.int .i64 k, .string nm, .int .i64 num, .int .i64 tk, .slice pt tks.length ct, .int .i64 fk, .slice pf fks.length cf, .int .i64 lb, .slice p ks.length c], E x.2.2.2.2.2.1], x.2.2.2.2.2.2⟩) (fun x => x.1 ≤ ks.length ∧ C1 G x.2.2.2.2.2.2 ∧ U5 g (ks.take x.1) n = (x.2.2.2.2.1, x.2.2.2.2.2.1) ∧ H3 x.2.2.2.2.2.2 x.2.2.2.2.1 x.2.2.2.1) (fun x => ks.length - x.1) (0, none, 0, [], [], n, G) ?_ ?_ ?_)
 (simp only [J7]; exact E3)
 (exact ⟨Nat.zero_le _, C1.refl _, h0, by simp only [H3]⟩)
 (rintro ⟨i, pn, cn, es', ms, m, Gi⟩ ⟨hi, hle, hmm, hst⟩; simp only [] at hi hle hmm hst ⊢; replace hsl := hsl.mono hle; replace hkl := hkl.mono hle)
 refine A4 ?_
 refine sB (K6 rfl rfl) rfl rfl (fun h28 => ?_) (fun h28 => ?_)
 refine B5 ?_
 refine C2 ?_
 refine A4 ?_
 (have hst9 := hstep i zW; have hgi := hget i zW; rw [hmm] at hst9 hgi; obtain ⟨b, o, e, rfl, hl, hat, hre, hgb⟩ := hsl.kidTm hkl (i := i) zW zW; have hone := hre.one; refine sP (B1 rfl rfl rfl zW) rfl rfl ?_)
 refine sL (A5 rfl rfl (hat _) hl) rfl rfl ?_
 refine sE (A8 rfl) rfl (fun b41 => ?_)
 refine sS rfl rfl rfl hl hone rfl ?_ (hu := by exact C6 hl.symm)
 refine C3 ?_
 refine sL (A5 rfl rfl (B7 zP) zT) rfl rfl ?_
 refine F8 ?_
 (refine I0 rfl (ih ks[i] (List.getElem_mem zW) m _ _ hgi (Tm.smallL_mem hks _ (List.getElem_mem zW)) hre) (Pk.perm zN) rfl rfl (fun v G3 outs hle3 hh => ?_); obtain ⟨rfl, cells', rfl, hs'⟩ := hh; have hlc := hs'.len; have hoc := hs'.one; have hsn := H3.snoc (hst.mono hle3) hs')
 (obtain ⟨v1, v2, v3, v4, v5, v6, v7, v8, v9, rfl⟩ := nine hlc)
 (refine J1 (C9 rfl rfl rfl zW zR rfl) rfl ?_; rintro _ ⟨b51, rfl⟩)
 refine A2t rfl rfl rfl rfl rfl (fun _ _ => by repeat (first | exact Sw.here | apply Sw.there)) (R2 zP) rfl (fun u hu => List.all_eq_true.1 hoc u hu) zR zW rfl (fun pn' cn' => ?_)
 refine A9 ?_
 refine sP (K9 rfl rfl zW zW) rfl rfl ?_
 refine A4 ?_
 refine K3 (i + 1, pn', cn', es' ++ [[v1, v2, v3, v4, v5, v6, v7, v8, v9]], ms ++ [(A0q g ks[i] m).1], (A0q g ks[i] m).2, G3) ?_ ?_ ?_
 (simp only [J7]; exact E3)
 exact ⟨by omega, hle.trans hle3, hst9, hsn⟩
 (show ks.length - (i + 1) < ks.length - i; omega)
 refine I2 ?_
 (obtain rfl : i = ks.length := zW; rw [List.take_length] at hmm; rw [hmm] at hQ hgL hmlen; simp only [] at hQ hgL hmlen; refine A0y zN (fun G2 hle2 hsl2 hno2 => ?_); have hleG := hle.trans hle2; have hT := A2X (.mk tk tks) G2 _ hty' (hty.mono hleG); refine D2 D3 rfl ?_)
 refine H1 (i := 0) (l' := [tt,ff,ff,ff,ff,ff,ff,ff,ff,ff,ff,ff,ff]) rfl C8 (C0 rfl) rfl zU rfl rfl ?_
 refine aL 1 rfl (A3 rfl rfl) rfl ?_
 refine aP 3 rfl (C0 rfl) rfl ?_
 refine aL 4 rfl (A3 rfl rfl) rfl ?_
 refine aP 6 rfl (qM rfl) rfl ?_
 refine A1 2 ?_
 (refine E1 rfl rfl hT rfl rfl rfl (fun v G4 hle4 hh => ?_); obtain ⟨L7, F1, rfl, hs1, hn1⟩ := hh; obtain ⟨p1, c1, rfl, _⟩ := hs1.open; have hF := A2X (.mk fk fks) G4 _ hfr' (hfr.mono (hleG.trans hle4)))
 refine aP 7 rfl (C0 rfl) rfl ?_
 refine A1 5 ?_
 (refine E1 rfl rfl hF rfl rfl rfl (fun v G5 hle5 hh => ?_); obtain ⟨cs2, F2, rfl, hs2, hn2⟩ := hh; obtain ⟨p2, c2, rfl, _⟩ := hs2.open; have hst5 := hst.mono ((hle2.trans hle4).trans hle5); have hR5 := B6.put (nm := nm) (us := ms) hk hnum hlb ((hs1.R.mono (D7.le _ _)).mono hle5) (hs2.R.mono (D7.le _ _)) hmlen.symm ((D0.of hsl2 (by rw [hst.len, hmlen]) hst.all (fun e he => by obtain ⟨j, hj⟩ := List.getElem?_of_mem he; exact (hst.inv hj K5).2.one)).mono (hle4.trans hle5)) hst5; have hch := hg m _ G5 _ hQ hR5)
 refine A1 8 ?_
 refine E4 rfl ?_
 refine aP 9 rfl (C0 rfl) rfl ?_
 refine A1 10 ?_
 refine N9 rfl rfl rfl rfl rfl rfl rfl rfl zS zO (by rfl) ?_
 refine aP 11 rfl (C0 rfl) rfl ?_
 refine A1 12 ?_
 refine N9 rfl rfl rfl rfl rfl rfl rfl rfl zS zO (by rfl) ?_
 refine A7 ?_
 (refine J1 (A70 rfl rfl hch (Pk.perm zN) rfl) rfl ?_; rintro _ ⟨v, G7, outs, rfl, hle7, rfl, cells7, rfl, hs7⟩; have hl7 := hs7.len; have ho7 := hs7.one)
 refine sS rfl rfl rfl hl7 ho7 rfl ?_ (hu := by exact C6 hl7.symm)
 refine B3 ?_
 refine H7 (outs := [E (g m (.mk k nm num (.mk tk tks) (.mk fk fks) lb ms)).2]) (rC rfl (A5 rfl rfl (B7 zP) hl7)) zH ?_
 (rw [hgL]; exact ⟨rfl, cells7, rfl, hs7⟩)
theorem Fn.withE {P : Program} {f : FuncId} {args : List Value} {G : IM} {post : IM → Value → List A6 → Prop} (h : Fn P f args [] G post) (e : A6) : Fn P f args [e] G (fun G' v outs => ∃ o, outs = o ++ [e] ∧ post G' v o) := by
 refine ⟨fun w hw => ?_⟩
 have h0 : R6 [] G w := R6.left (b := [e]) hw
 refine (h.run w h0).mono ?_
 rintro x w' ⟨v, G', outs, rfl, h2, h3⟩
 exact ⟨v, G', outs ++ [e], rfl, (P7.refl hw).frame (ins := []) (rest := [e]) h2, outs, rfl, h3⟩
def A6B (g : Tm → Tm) (Q : Tm → Prop) (fid : FuncId) (us cs : List Value) : Prop := ∀ (t : Tm) (G : IM) (cells : List Value), Q t → B6 G t cells → Fn Tryz.prog fid (us ++ [.agg ⟨cells⟩] ++ cs) [] G (TmP (g t))
theorem B4B {g : Tm → Tm} {Q : Tm → Prop} {fid : FuncId} {us cs : List Value} (h : A6B g Q fid us cs) (e : A6) : A9E (fun n t => (g t, n)) (fun _ => Q) (fun _ => e) fid us cs := fun n t G cells hq hr =>
 ((h t G cells hq hr).withE e).mono fun G' v outs _ ⟨o, h1, h2, cells', h3, h4⟩ => ⟨by rw [h1, h2]; rfl, cells', h3, h4⟩
theorem B4C (g : Tm → Tm) (Q : Tm → Prop) (fid : FuncId) [C4 Tryz.prog fid] (us cs : List Value) (hg : A6B g Q fid us cs) (e : A6) (t : Tm) (G : IM) (cells : List Value) (hq : mOk Q g t) (hts : t.small) (hr : B6 G t cells) :
  Fn Tryz.prog 23 [.agg ⟨cells⟩, .func (.func fid) ⟨us⟩ ⟨cs⟩] [e] G (fun G' v outs => outs = [e] ∧ ∃ cells', v = .agg ⟨cells'⟩ ∧ B6 G' (Q0 g t) cells') := by
 have h := B4A (fun n t => (g t, n)) (fun _ => Q) (fun _ => e) fid us cs (B4B hg e) t 0 G cells (A9C t 0 hq) hts hr
 rw [A6z] at h
 exact h
end Gw
end Go.Proofs.YtmceanphadildaaGreatDoor
namespace Go.Proofs.YtmceanphadildaaGreatDoor
namespace Gw
inductive GT where
 | any | int | bool
 | fn (a b : GT)
 | pr (a b : GT)
inductive GE where
 | var (x : ByteArray)
 | num (n : Int)
 | tru (b : Bool)
 | lam (x : ByteArray) (A : GT) (e : GE)
 | app (f a : GE)
 | ar (s : Bool) (a b : GE)
 | ite (c a b : GE)
 | pair (a b : GE)
 | part (s : Bool) (e : GE)
 | cast (A B : GT) (l : Int) (e : GE)
def GT.gr : GT → GT
 | .any => .any
 | .int => .int
 | .bool => .bool
 | .fn _ _ => .fn .any .any
 | .pr _ _ => .pr .any .any
def GT.Gd (t : GT) : Prop := t ≠ .any ∧ t.gr = t
inductive Co : GT → GT → Prop
 | l {b} : Co .any b
 | r {a} : Co a .any
 | int : Co .int .int
 | bool : Co .bool .bool
 | fn {a b a' b'} : Co a a' → Co b b' → Co (.fn a b) (.fn a' b')
 | pr {a b a' b'} : Co a a' → Co b b' → Co (.pr a b) (.pr a' b')
inductive Le : GT → GT → Prop
 | any {a} : Le a .any
 | int : Le .int .int
 | bool : Le .bool .bool
 | fn {a b a' b'} : Le a a' → Le b b' → Le (.fn a b) (.fn a' b')
 | pr {a b a' b'} : Le a a' → Le b b' → Le (.pr a b) (.pr a' b')
theorem Co.symm {a b : GT} (h : Co a b) : Co b a := by
 induction h with
 | l => exact .r
 | r => exact .l
 | int => exact .int
 | bool => exact .bool
 | fn _ _ i j => exact .fn i j
 | pr _ _ i j => exact .pr i j
theorem Co.refl : ∀ {a : GT}, Co a a
 | .any => .l
 | .int => .int
 | .bool => .bool
 | .fn _ _ => .fn Co.refl Co.refl
 | .pr _ _ => .pr Co.refl Co.refl
theorem Le.refl : ∀ {a : GT}, Le a a
 | .any => .any
 | .int => .int
 | .bool => .bool
 | .fn _ _ => .fn Le.refl Le.refl
 | .pr _ _ => .pr Le.refl Le.refl
theorem Le.gr {a : GT} : Le a a.gr := by
 cases a with
 | fn _ _ => exact .fn .any .any
 | pr _ _ => exact .pr .any .any
 | _ => exact Le.refl
theorem Co.gr {a : GT} : Co a a.gr := by
 cases a with
 | fn _ _ => exact .fn .r .r
 | pr _ _ => exact .pr .r .r
 | _ => exact Co.refl
theorem Le.trans {a b : GT} (h : Le a b) : ∀ {c : GT}, Le b c → Le a c := by
 induction h with
 | any => intro c h; cases h; exact .any
 | int => exact fun h => h
 | bool => exact fun h => h
 | fn _ _ i j =>
  intro c h
  cases h with
  | any => exact .any
  | fn h1 h2 => exact .fn (i h1) (j h2)
 | pr _ _ i j =>
  intro c h
  cases h with
  | any => exact .any
  | pr h1 h2 => exact .pr (i h1) (j h2)
theorem Le.gd {a g : GT} (h : Le a g) (hg : g.Gd) : a.gr = g := by
 cases h with
 | any => exact absurd rfl hg.1
 | int => rfl
 | bool => rfl
 | fn _ _ => exact hg.2
 | pr _ _ => exact hg.2
theorem A6C {a : GT} (h : a ≠ .any) : a.gr.Gd := by
 cases a with
 | any => exact absurd rfl h
 | int => exact ⟨(by intro h; cases h), rfl⟩
 | bool => exact ⟨(by intro h; cases h), rfl⟩
 | fn _ _ => exact ⟨(by intro h; cases h), rfl⟩
 | pr _ _ => exact ⟨(by intro h; cases h), rfl⟩
def GE.sub : GE → ByteArray → GE → GE
 | .var y, x, v => if y = x then v else .var y
 | .num n, _, _ => .num n
 | .tru b, _, _ => .tru b
 | .lam y A e, x, v => if y = x then .lam y A e else .lam y A (e.sub x v)
 | .app f a, x, v => .app (f.sub x v) (a.sub x v)
 | .ar s a b, x, v => .ar s (a.sub x v) (b.sub x v)
 | .ite c a b, x, v => .ite (c.sub x v) (a.sub x v) (b.sub x v)
 | .pair a b, x, v => .pair (a.sub x v) (b.sub x v)
 | .part s e, x, v => .part s (e.sub x v)
 | .cast A B l e, x, v => .cast A B l (e.sub x v)
inductive GV : GE → Prop
 | num {n} : GV (.num n)
 | tru {b} : GV (.tru b)
 | lam {x A e} : GV (.lam x A e)
 | pair {a b} : GV a → GV b → GV (.pair a b)
 | pf {a b c d l e} : GV e → GV (.cast (.fn a b) (.fn c d) l e)
 | pp {a b c d l e} : GV e → GV (.cast (.pr a b) (.pr c d) l e)
 | inj {A l e} : GV e → A.Gd → GV (.cast A .any l e)
def A46 (s : Bool) (m n : Int) : GE := if s = true then .tru (decide (m < n)) else .num ((m + n) % 1000)
inductive GS : GE → GE → Prop
 | app1 {f f' a} : GS f f' → GS (.app f a) (.app f' a)
 | app2 {f a a'} : GV f → GS a a' → GS (.app f a) (.app f a')
 | ar1 {s a a' b} : GS a a' → GS (.ar s a b) (.ar s a' b)
 | ar2 {s a b b'} : GV a → GS b b' → GS (.ar s a b) (.ar s a b')
 | ite1 {c c' a b} : GS c c' → GS (.ite c a b) (.ite c' a b)
 | pair1 {a a' b} : GS a a' → GS (.pair a b) (.pair a' b)
 | pair2 {a b b'} : GV a → GS b b' → GS (.pair a b) (.pair a b')
 | part1 {s e e'} : GS e e' → GS (.part s e) (.part s e')
 | cast1 {A B l e e'} : GS e e' → GS (.cast A B l e) (.cast A B l e')
 | beta {x A b v} : GV v → GS (.app (.lam x A b) v) (b.sub x v)
 | appx {a b c d l f v} : GV f → GV v → GS (.app (.cast (.fn a b) (.fn c d) l f) v) (.cast b d l (.app f (.cast c a (-l) v)))
 | ar {s m n} : GS (.ar s (.num m) (.num n)) (A46 s m n)
 | ite {b x y} : GS (.ite (.tru b) x y) (if b = true then x else y)
 | part {s a b} : GV a → GV b → GS (.part s (.pair a b)) (if s = true then b else a)
 | partx {s a b c d l e} : GV e → GS (.part s (.cast (.pr a b) (.pr c d) l e)) (.cast (if s = true then b else a) (if s = true then d else c) l (.part s e))
 | cid {A l v} : GV v → (A = .any ∨ A = .int ∨ A = .bool) → GS (.cast A A l v) v
 | up {A l v} : GV v → A ≠ .any → A.gr ≠ A → GS (.cast A .any l v) (.cast A.gr .any l (.cast A A.gr l v))
 | down {B l v} : GV v → B ≠ .any → B.gr ≠ B → GS (.cast .any B l v) (.cast B.gr B l (.cast .any B.gr l v))
 | hit {G l m w} : GV w → G.Gd → GS (.cast .any G l (.cast G .any m w)) w
theorem GV.noS {e : GE} (h : GV e) : ∀ r, ¬ GS e r := by
 induction h with
 | num => intro r s; cases s
 | tru => intro r s; cases s
 | lam => intro r s; cases s
 | pair _ _ i j =>
  intro r s
  cases s with
  | pair1 s => exact i _ s
  | pair2 _ s => exact j _ s
 | pf _ i =>
  intro r s
  cases s with
  | cast1 s => exact i _ s
  | cid _ h => rcases h with h | h | h <;> cases h
 | pp _ i =>
  intro r s
  cases s with
  | cast1 s => exact i _ s
  | cid _ h => rcases h with h | h | h <;> cases h
 | inj _ hg i =>
  intro r s
  cases s with
  | cast1 s => exact i _ s
  | cid _ h => exact hg.1 rfl
  | up _ _ h => exact h hg.2
  | down _ h => exact h rfl
  | hit _ h => exact h.1 rfl
theorem GV.ofCast {A B : GT} {l : Int} {e : GE} (h : GV (.cast A B l e)) : GV e := by cases h <;> assumption
inductive Ss : GE → GE → Prop
 | refl {e} : Ss e e
 | step {a b c} : GS a b → Ss b c → Ss a c
theorem Ss.trans {a b c : GE} (h : Ss a b) (h2 : Ss b c) : Ss a c := by
 induction h with
 | refl => exact h2
 | step s _ i => exact .step s (i h2)
theorem Ss.one {a b : GE} (h : GS a b) : Ss a b := .step h .refl
theorem Ss.ctx {a b : GE} (C : GE → GE) (hC : ∀ x y, GS x y → GS (C x) (C y)) (h : Ss a b) : Ss (C a) (C b) := by
 induction h with
 | refl => exact .refl
 | step s _ i => exact .step (hC _ _ s) i
abbrev GC := ByteArray → Option (GT × GT)
def D6 : GC := fun _ => none
def P4 (Γ : GC) (x : ByteArray) (A A' : GT) : GC := fun y => if x = y then some (A, A') else Γ y
inductive GP : GC → GE → GE → GT → GT → Prop
 | var {Γ x A A'} : Γ x = some (A, A') → Le A A' → GP Γ (.var x) (.var x) A A'
 | num {Γ n} : GP Γ (.num n) (.num n) .int .int
 | tru {Γ b} : GP Γ (.tru b) (.tru b) .bool .bool
 | lam {Γ x A A' B B' e e'} : Le A A' → GP (P4 Γ x A A') e e' B B' → GP Γ (.lam x A e) (.lam x A' e') (.fn A B) (.fn A' B')
 | app {Γ f f' a a' A A' B B'} : GP Γ f f' (.fn A B) (.fn A' B') → GP Γ a a' A A' → GP Γ (.app f a) (.app f' a') B B'
 | ar {Γ s a a' b b'} : GP Γ a a' .int .int → GP Γ b b' .int .int → GP Γ (.ar s a b) (.ar s a' b') (if s = true then .bool else .int) (if s = true then .bool else .int)
 | ite {Γ c c' a a' b b' A A'} : GP Γ c c' .bool .bool → GP Γ a a' A A' → GP Γ b b' A A' → GP Γ (.ite c a b) (.ite c' a' b') A A'
 | pair {Γ a a' b b' A A' B B'} : GP Γ a a' A A' → GP Γ b b' B B' → GP Γ (.pair a b) (.pair a' b') (.pr A B) (.pr A' B')
 | part {Γ s e e' A A' B B'} : GP Γ e e' (.pr A B) (.pr A' B') → GP Γ (.part s e) (.part s e') (if s = true then B else A) (if s = true then B' else A')
 | castL {Γ e e' A B A' l} : GP Γ e e' A A' → Co A B → Le B A' → GP Γ (.cast A B l e) e' B A'
 | castR {Γ e e' A A' B' l} : GP Γ e e' A A' → Co A' B' → Le A B' → GP Γ e (.cast A' B' l e') A B'
 | castB {Γ e e' A B A' B' l l'} : GP Γ e e' A A' → Co A B → Co A' B' → Le B B' → GP Γ (.cast A B l e) (.cast A' B' l' e') B B'
theorem GP.le {Γ : GC} {e e' : GE} {A A' : GT} (h : GP Γ e e' A A') : Le A A' := by
 induction h with
 | var _ h => exact h
 | num => exact .int
 | tru => exact .bool
 | lam h _ i => exact .fn h i
 | app _ _ i _ => cases i with | fn _ h => exact h
 | ar => exact Le.refl
 | ite _ _ _ _ i _ => exact i
 | pair _ _ i j => exact .pr i j
 | @part Γ s _ _ _ _ _ _ _ i => cases i with | pr h1 h2 => cases s <;> assumption
 | castL _ _ h _ => exact h
 | castR _ _ h _ => exact h
 | castB _ _ _ h _ => exact h
theorem GP.weak {Γ : GC} {e e' : GE} {A A' : GT} (h : GP Γ e e' A A') : ∀ {Δ : GC}, (∀ y p, Γ y = some p → Δ y = some p) → GP Δ e e' A A' := by
 induction h with
 | var hx hl => intro Δ hD; exact .var (hD _ _ hx) hl
 | num => intro _ _; exact .num
 | tru => intro _ _; exact .tru
 | lam hl _ i =>
  intro Δ hD
  refine .lam hl (i fun y p hy => ?_)
  unfold P4 at hy ⊢
  split
  ·rename_i h; rw [if_pos h] at hy; exact hy
  ·rename_i h; rw [if_neg h] at hy; exact hD _ _ hy
 | app _ _ i j => intro Δ hD; exact .app (i hD) (j hD)
 | ar _ _ i j => intro Δ hD; exact .ar (i hD) (j hD)
 | ite _ _ _ i j k => intro Δ hD; exact .ite (i hD) (j hD) (k hD)
 | pair _ _ i j => intro Δ hD; exact .pair (i hD) (j hD)
 | part _ i => intro Δ hD; exact .part (i hD)
 | castL _ h1 h2 i => intro Δ hD; exact .castL (i hD) h1 h2
 | castR _ h1 h2 i => intro Δ hD; exact .castR (i hD) h1 h2
 | castB _ h1 h2 h3 i => intro Δ hD; exact .castB (i hD) h1 h2 h3
theorem GP.sub {x : ByteArray} {v v' : GE} {A A' : GT} (hv : GP D6 v v' A A') {Γ : GC} {e e' : GE} {B B' : GT} (h : GP Γ e e' B B') :
  ∀ {Δ : GC}, (∀ y, x ≠ y → Γ y = Δ y) → Γ x = some (A, A') → GP Δ (e.sub x v) (e'.sub x v') B B' := by
 induction h with
 | @var Γ y C C' hy hl =>
  intro Δ hD hx
  simp only [GE.sub]
  split
  ·rename_i he
   subst he
   rw [hx] at hy
   cases hy
   exact hv.weak fun z p hz => by cases hz
  ·rename_i he
   exact .var (by rw [← hD y (fun e => he e.symm)]; exact hy) hl
 | num => intro _ _ _; exact .num
 | tru => intro _ _ _; exact .tru
 | @lam Γ y C C' D D' e e' hl h i =>
  intro Δ hD hx
  simp only [GE.sub]
  by_cases he : y = x
  ·rw [if_pos he, if_pos he]
   refine .lam hl (h.weak fun z p hz => ?_)
   unfold P4 at hz ⊢
   split
   ·rename_i h2; rw [if_pos h2] at hz; exact hz
   ·rename_i h2; rw [if_neg h2] at hz; rw [← hD z (fun e => h2 (he.trans e))]; exact hz
  ·rw [if_neg he, if_neg he]
   refine .lam hl (i (fun z hz => ?_) ?_)
   ·unfold P4
    split
    ·rfl
    ·exact hD z hz
   ·unfold P4; rw [if_neg he]; exact hx
 | app _ _ i j => intro Δ hD hx; exact .app (i hD hx) (j hD hx)
 | ar _ _ i j => intro Δ hD hx; exact .ar (i hD hx) (j hD hx)
 | ite _ _ _ i j k => intro Δ hD hx; exact .ite (i hD hx) (j hD hx) (k hD hx)
 | pair _ _ i j => intro Δ hD hx; exact .pair (i hD hx) (j hD hx)
 | part _ i => intro Δ hD hx; exact .part (i hD hx)
 | castL _ h1 h2 i => intro Δ hD hx; exact .castL (i hD hx) h1 h2
 | castR _ h1 h2 i => intro Δ hD hx; exact .castR (i hD hx) h1 h2
 | castB _ h1 h2 h3 i => intro Δ hD hx; exact .castB (i hD hx) h1 h2 h3
theorem B4D {Γ : GC} {v u : GE} {A U : GT} (h : GP Γ v u A U) : ∀ {H : GT} {l : Int} {w : GE}, u = .cast H .any l w → Γ = D6 → GV v → A ≠ .any → H.Gd → Le A H ∧ GP D6 v w A H := by
 induction h with
 | @castL Γ e e' A B A' m h hc hl i =>
  intro H l w hu hE hv hA hH
  subst hE
  have hU := hl
  subst hu
  obtain ⟨hle, hp⟩ : Le A H ∧ GP D6 e w A H := i rfl rfl hv.ofCast (by cases hv with | inj _ _ => exact absurd rfl hA | _ => intro h; cases h) hH
  have : Le B H := by
   cases hv with
   | inj _ _ => exact absurd rfl hA
   | pf _ =>
    cases hle with
    | any => exact absurd rfl hH.1
    | fn _ _ => have := hH.2; cases this; exact .fn .any .any
   | pp _ =>
    cases hle with
    | any => exact absurd rfl hH.1
    | pr _ _ => have := hH.2; cases this; exact .pr .any .any
  exact ⟨this, .castL hp hc this⟩
 | castR h hc hl _ =>
  intro H l w hu hE hv hA hH
  subst hE
  cases hu
  exact ⟨h.le, h⟩
 | @castB Γ e e' A B A' B' m m' h hc hc' hl _ =>
  intro H l w hu hE hv hA hH
  subst hE
  obtain ⟨rfl, rfl, _, rfl⟩ : A' = H ∧ B' = .any ∧ m' = l ∧ e' = w := by cases hu; exact ⟨rfl, rfl, rfl, rfl⟩
  have hle := h.le
  have : Le B A' := by
   cases hv with
   | inj _ _ => exact absurd rfl hA
   | pf _ =>
    cases hle with
    | any => exact absurd rfl hH.1
    | fn _ _ => have := hH.2; cases this; exact .fn .any .any
   | pp _ =>
    cases hle with
    | any => exact absurd rfl hH.1
    | pr _ _ => have := hH.2; cases this; exact .pr .any .any
  exact ⟨this, .castL h hc this⟩
 | _ => intro H l w hu; cases hu
theorem B4E {v' : GE} {v : GE} {A : GT} (h : GP D6 v v' A .any) (hv : GV v') : ∃ H l w, v' = .cast H .any l w ∧ GV w ∧ H.Gd := by
 suffices ∀ {Γ v v' A U}, GP Γ v v' A U → U = .any → Γ = D6 → GV v' → ∃ H l w, v' = .cast H .any l w ∧ GV w ∧ H.Gd from this h rfl rfl hv
 intro Γ v v' A U h
 induction h with
 | castL _ _ _ i => exact i
 | castR _ _ _ _ => intro hU _ hv; subst hU; cases hv with | inj h1 h2 => exact ⟨_, _, _, rfl, h1, h2⟩
 | castB _ _ _ _ _ => intro hU _ hv; subst hU; cases hv with | inj h1 h2 => exact ⟨_, _, _, rfl, h1, h2⟩
 | var hx _ => intro _ hE; subst hE; cases hx
 | app _ _ _ _ => intro _ _ hv; cases hv
 | ite _ _ _ _ _ _ => intro _ _ hv; cases hv
 | part _ _ => intro _ _ hv; cases hv
 | ar _ _ _ _ => intro _ _ hv; cases hv
 | _ => intro hU; cases hU
theorem H0 {A B : GT} {l : Int} {a b : GE} (h : Ss a b) : Ss (.cast A B l a) (.cast A B l b) := h.ctx _ fun _ _ => .cast1
theorem A9F {v v' : GE} {A G : GT} {l : Int} (hv : GV v) (hv' : GV v') (h : GP D6 v v' A .any) (hG : G.Gd) (hl : Le A G) (hA : A ≠ .any) :
  ∃ v'', Ss (.cast .any G l v') v'' ∧ GV v'' ∧ GP D6 v v'' A G := by
 obtain ⟨H, m, w, rfl, hw, hH⟩ := B4E h hv'
 obtain ⟨h1, h2⟩ := B4D h rfl rfl hv hA hH
 have : H = G := (h1.gd hH).symm.trans (hl.gd hG)
 subst this
 exact ⟨w, .one (.hit hw hG), hw, h2⟩
theorem B4F {A B : GT} (h : Le A B) (hB : B ≠ .any) : A ≠ .any := by rintro rfl; cases h; exact hB rfl
theorem A47 {v v' : GE} {A A' B' : GT} (l : Int) (hv : GV v) (hv' : GV v') (h : GP D6 v v' A A') (hl : Le A B') (hc : Co A' B') :
  ∃ v'', Ss (.cast A' B' l v') v'' ∧ GV v'' ∧ GP D6 v v'' A B' := by
 have hle := h.le
 by_cases hA : A' = .any
 ·subst hA
  by_cases hB : B' = .any
  ·subst hB; exact ⟨v', .one (.cid hv' (.inl rfl)), hv', h⟩
  ·have hA := B4F hl hB
   by_cases hg : B'.gr = B'
   ·exact A9F hv hv' h ⟨hB, hg⟩ hl hA
   ·have hgB := A6C hB
    obtain ⟨u, s, hu, hp⟩ := A9F (l := l) hv hv' h hgB (hl.trans Le.gr) hA
    refine ⟨.cast B'.gr B' l u, .step (.down hv' hB hg) (H0 s), ?_, .castR hp Co.gr.symm hl⟩
    cases B' with
    | fn _ _ => exact .pf hu
    | pr _ _ => exact .pp hu
    | any => exact absurd rfl hB
    | int => exact absurd rfl hg
    | bool => exact absurd rfl hg
 ·by_cases hB : B' = .any
  ·subst hB
   by_cases hg : A'.gr = A'
   ·exact ⟨_, .refl, .inj hv' ⟨hA, hg⟩, .castR h .r .any⟩
   ·refine ⟨_, .one (.up hv' hA hg), .inj ?_ (A6C hA), .castR (.castR h Co.gr (hle.trans Le.gr)) .r .any⟩
    cases A' with
    | fn _ _ => exact .pf hv'
    | pr _ _ => exact .pp hv'
    | any => exact absurd rfl hA
    | int => exact absurd rfl hg
    | bool => exact absurd rfl hg
  ·cases hc with
   | l => exact absurd rfl hA
   | r => exact absurd rfl hB
   | int => exact ⟨v', .one (.cid hv' (.inr (.inl rfl))), hv', h⟩
   | bool => exact ⟨v', .one (.cid hv' (.inr (.inr rfl))), hv', h⟩
   | fn h1 h2 => exact ⟨_, .refl, .pf hv', .castR h (.fn h1 h2) hl⟩
   | pr h1 h2 => exact ⟨_, .refl, .pp hv', .castR h (.pr h1 h2) hl⟩
theorem A07 {Γ : GC} {e e' : GE} {A A' : GT} (h : GP Γ e e' A A') : Γ = D6 → GV e → ∃ v', Ss e' v' ∧ GV v' ∧ GP D6 e v' A A' := by
 induction h with
 | var _ _ => intro _ hv; cases hv
 | num => intro _ _; exact ⟨_, .refl, .num, .num⟩
 | tru => intro _ _; exact ⟨_, .refl, .tru, .tru⟩
 | lam hl h _ => intro hE _; subst hE; exact ⟨_, .refl, .lam, .lam hl h⟩
 | app _ _ _ _ => intro _ hv; cases hv
 | ar _ _ _ _ => intro _ hv; cases hv
 | ite _ _ _ _ _ _ => intro _ hv; cases hv
 | part _ _ => intro _ hv; cases hv
 | pair _ _ i j =>
  intro hE hv
  cases hv with
  | pair va vb =>
   obtain ⟨a', s1, v1, p1⟩ := i hE va
   obtain ⟨b', s2, v2, p2⟩ := j hE vb
   exact ⟨.pair a' b', (s1.ctx (fun x => .pair x _) fun _ _ => .pair1).trans (s2.ctx (fun x => .pair a' x) fun _ _ s => .pair2 v1 s), .pair v1 v2, .pair p1 p2⟩
 | castL _ h1 h2 i =>
  intro hE hv
  obtain ⟨v', s, hv', p⟩ := i hE hv.ofCast
  exact ⟨v', s, hv', .castL p h1 h2⟩
 | castR _ h1 h2 i =>
  intro hE hv
  obtain ⟨v', s, hv', p⟩ := i hE hv
  obtain ⟨u, s2, hu, p2⟩ := A47 _ hv hv' p h2 h1
  exact ⟨u, (H0 s).trans s2, hu, p2⟩
 | @castB Γ e e' A B A' B' l l' _ h1 h2 h3 i =>
  intro hE hv
  obtain ⟨w', s, hw', p⟩ := i hE hv.ofCast
  by_cases hB : B' = .any
  ·subst hB
   obtain ⟨u, s2, hu, p2⟩ := A47 l' hv.ofCast hw' p .any h2
   exact ⟨u, (H0 s).trans s2, hu, .castL p2 h1 .any⟩
  ·by_cases hA : A' = .any
   ·subst hA
    obtain ⟨u, s2, hu, p2⟩ := A47 l' hv hw' (.castL p h1 .any) h3 h2
    exact ⟨u, (H0 s).trans s2, hu, p2⟩
   ·have hle := p.le
    refine ⟨.cast A' B' l' w', H0 s, ?_, .castB p h1 h2 h3⟩
    cases hv with
    | inj _ _ => cases h3; exact absurd rfl hB
    | pf _ =>
     cases h3 with
     | any => exact absurd rfl hB
     | fn _ _ => cases hle with
      | any => exact absurd rfl hA
      | fn _ _ => exact .pf hw'
    | pp _ =>
     cases h3 with
     | any => exact absurd rfl hB
     | pr _ _ => cases hle with
      | any => exact absurd rfl hA
      | pr _ _ => exact .pp hw'
theorem B4G {Γ : GC} {f f' : GE} {U U' : GT} (h : GP Γ f f' U U') : ∀ {A B A' B' : GT}, Γ = D6 → U = .fn A B → U' = .fn A' B' → GV f → GV f' →
  ∀ {v v' r : GE}, GV v → GV v' → GP D6 v v' A A' → GS (.app f v) r → ∃ r', Ss (.app f' v') r' ∧ GP D6 r r' B B' := by
 induction h with
 | lam hl h _ =>
  intro A B A' B' hE hU hU' _ _ v v' r hv hv' hp s
  subst hE
  cases hU; cases hU'
  cases s with
  | app1 s => exact absurd s (GV.lam.noS _)
  | app2 _ s => exact absurd s (hv.noS _)
  | beta _ => exact ⟨_, .one (.beta hv'), GP.sub hp h (fun y hy => by unfold P4; rw [if_neg hy]) (by unfold P4; rw [if_pos rfl])⟩
 | castL h h1 h2 _ =>
  intro A B A' B' hE hU hU' hf hf' v v' r hv hv' hp s
  subst hE hU hU'
  cases hf with
  | pf hw =>
   cases s with
   | app1 s => exact absurd s ((GV.pf hw).noS _)
   | app2 _ s => exact absurd s (hv.noS _)
   | appx _ _ =>
    cases h1 with
    | fn c1 c2 =>
     have hle := h.le
     cases hle with
     | fn l1 l2 =>
      cases h2 with
      | fn l3 l4 => exact ⟨_, .refl, .castL (.app h (.castL hp c1.symm l1)) c2 l4⟩
 | @castR Γ0 f0 w' U0 C' D' l h h1 h2 i =>
  intro A B A' B' hE hU hU' hf hf' v v' r hv hv' hp s
  subst hE hU hU'
  cases hf' with
  | pf hw =>
   cases h1 with
   | fn c1 c2 =>
    have hle := h.le
    cases hle with
    | fn l1 l2 =>
     cases h2 with
     | fn l3 l4 =>
      obtain ⟨v'', s2, hv'', p2⟩ := A47 (-l) hv hv' hp l1 c1.symm
      obtain ⟨r', s3, p3⟩ := i rfl rfl rfl hf hw hv hv'' p2 s
      exact ⟨_, .step (.appx hw hv') (H0 ((s2.ctx (fun x => .app w' x) fun _ _ s => .app2 hw s).trans s3)), .castR p3 c2 l4⟩
 | castB h h1 h1' h2 _ =>
  intro A B A' B' hE hU hU' hf hf' v v' r hv hv' hp s
  subst hE hU hU'
  cases hf with
  | pf hw =>
   cases hf' with
   | pf hw' =>
    cases s with
    | app1 s => exact absurd s ((GV.pf hw).noS _)
    | app2 _ s => exact absurd s (hv.noS _)
    | appx _ _ =>
     cases h1 with
     | fn c1 c2 => cases h1' with
      | fn d1 d2 =>
       have hle := h.le
       cases hle with
       | fn l1 l2 =>
        cases h2 with
        | fn l3 l4 => exact ⟨_, .one (.appx hw' hv'), .castB (.app h (.castB hp c1.symm d1.symm l1)) c2 d2 l4⟩
 | app _ _ _ _ => intro _ _ _ _ _ _ _ hf; cases hf
 | ite _ _ _ _ _ _ => intro _ _ _ _ _ _ _ hf; cases hf
 | part _ _ => intro _ _ _ _ _ _ _ hf; cases hf
 | ar _ _ _ _ => intro _ _ _ _ _ _ _ hf; cases hf
 | var hx _ => intro _ _ _ _ hE; subst hE; cases hx
 | _ => intro _ _ _ _ _ hU; cases hU
theorem B4H {Γ : GC} {f f' : GE} {U U' : GT} (h : GP Γ f f' U U') : ∀ {A B A' B' : GT} {t : Bool}, Γ = D6 → U = .pr A B → U' = .pr A' B' → GV f → GV f' →
  ∀ {r : GE}, GS (.part t f) r → ∃ r', Ss (.part t f') r' ∧ GP D6 r r' (if t = true then B else A) (if t = true then B' else A') := by
 induction h with
 | pair ha hb _ _ =>
  intro A B A' B' t hE hU hU' hf hf' r s
  subst hE
  cases hU; cases hU'
  cases hf' with
  | pair va vb =>
   cases s with
   | part1 s => exact absurd s (hf.noS _)
   | part _ _ => exact ⟨_, .one (.part va vb), by cases t <;> assumption⟩
 | castL h h1 h2 _ =>
  intro A B A' B' t hE hU hU' hf hf' r s
  subst hE hU hU'
  cases hf with
  | pp hw =>
   cases s with
   | part1 s => exact absurd s ((GV.pp hw).noS _)
   | partx _ =>
    cases h1 with
    | pr c1 c2 =>
     have hle := h.le
     cases hle with
     | pr l1 l2 =>
      cases h2 with
      | pr l3 l4 => exact ⟨_, .refl, .castL (.part h) (by cases t <;> assumption) (by cases t <;> assumption)⟩
 | castR h h1 h2 i =>
  intro A B A' B' t hE hU hU' hf hf' r s
  subst hE hU hU'
  cases hf' with
  | pp hw =>
   cases h1 with
   | pr c1 c2 =>
    have hle := h.le
    cases hle with
    | pr l1 l2 =>
     cases h2 with
     | pr l3 l4 =>
      obtain ⟨r', s3, p3⟩ := i rfl rfl rfl hf hw s
      exact ⟨_, .step (.partx hw) (H0 s3), .castR p3 (by cases t <;> assumption) (by cases t <;> assumption)⟩
 | castB h h1 h1' h2 _ =>
  intro A B A' B' t hE hU hU' hf hf' r s
  subst hE hU hU'
  cases hf with
  | pp hw =>
   cases hf' with
   | pp hw' =>
    cases s with
    | part1 s => exact absurd s ((GV.pp hw).noS _)
    | partx _ =>
     cases h1 with
     | pr c1 c2 => cases h1' with
      | pr d1 d2 =>
       cases h2 with
       | pr l3 l4 => exact ⟨_, .one (.partx hw'), .castB (.part h) (by cases t <;> assumption) (by cases t <;> assumption) (by cases t <;> assumption)⟩
 | app _ _ _ _ => intro _ _ _ _ _ _ _ _ hf; cases hf
 | ite _ _ _ _ _ _ => intro _ _ _ _ _ _ _ _ hf; cases hf
 | part _ _ => intro _ _ _ _ _ _ _ _ hf; cases hf
 | ar _ _ _ _ => intro _ _ _ _ _ _ _ _ hf; cases hf
 | var hx _ => intro _ _ _ _ _ hE; subst hE; cases hx
 | _ => intro _ _ _ _ _ _ hU; cases hU
theorem A9G {e' : GE} {n : Int} {A A' : GT} (h : GP D6 (.num n) e' A A') (hv : GV e') : A' = .int → e' = .num n := by
 intro hA
 cases h with
 | num => rfl
 | castR _ _ _ => subst hA; cases hv
theorem B4I {e' : GE} {b : Bool} {A A' : GT} (h : GP D6 (.tru b) e' A A') (hv : GV e') : A' = .bool → e' = .tru b := by
 intro hA
 cases h with
 | tru => rfl
 | castR _ _ _ => subst hA; cases hv
theorem A9H {G : GT} {m : Int} {w v' : GE} (h : GP D6 (.cast G .any m w) v' .any .any) (hv' : GV v') : GP D6 w v' G .any := by
 cases h with
 | castL h _ _ => exact h
 | castR h _ _ =>
  have := h.le
  cases this
  cases hv' with
  | inj _ hg => exact absurd rfl hg.1
 | castB h _ hc _ => exact .castR h hc .any
theorem sim {Γ : GC} {e e' : GE} {A A' : GT} (h : GP Γ e e' A A') : Γ = D6 → ∀ {r : GE}, GS e r → ∃ r', Ss e' r' ∧ GP D6 r r' A A' := by
 induction h with
 | var _ _ => intro _ r s; cases s
 | num => intro _ r s; cases s
 | tru => intro _ r s; cases s
 | lam _ _ _ => intro _ r s; cases s
 | @app Γ f f' a a' A A' B B' hf ha i j =>
  intro hE r s
  have go : GV f → GV a → ∃ r', Ss (.app f' a') r' ∧ GP D6 r r' B B' := by
   intro vf va
   obtain ⟨F', s1, v1, p1⟩ := A07 hf hE vf
   obtain ⟨V', s2, v2, p2⟩ := A07 ha hE va
   obtain ⟨r', s3, p3⟩ := B4G p1 rfl rfl rfl vf v1 va v2 p2 s
   exact ⟨r', ((s1.ctx (fun x => .app x a') fun _ _ => .app1).trans (s2.ctx (fun x => .app F' x) fun _ _ s => .app2 v1 s)).trans s3, p3⟩
  cases s with
  | app1 s =>
   obtain ⟨r', s1, p⟩ := i hE s
   subst hE
   exact ⟨.app r' a', s1.ctx (fun x => .app x a') fun _ _ => .app1, .app p ha⟩
  | app2 vf s =>
   obtain ⟨F', s1, v1, p1⟩ := A07 hf hE vf
   obtain ⟨r', s2, p⟩ := j hE s
   exact ⟨.app F' r', (s1.ctx (fun x => .app x a') fun _ _ => .app1).trans (s2.ctx (fun x => .app F' x) fun _ _ s => .app2 v1 s), .app p1 p⟩
  | beta va => exact go .lam va
  | appx vf va => exact go (.pf vf) va
 | @ar Γ t a a' b b' ha hb i j =>
  intro hE r s
  cases s with
  | ar1 s =>
   obtain ⟨r', s1, p⟩ := i hE s
   subst hE
   exact ⟨.ar t r' b', s1.ctx (fun x => .ar t x b') fun _ _ => .ar1, .ar p hb⟩
  | ar2 va s =>
   obtain ⟨A', s1, v1, p1⟩ := A07 ha hE va
   obtain ⟨r', s2, p⟩ := j hE s
   exact ⟨.ar t A' r', (s1.ctx (fun x => .ar t x b') fun _ _ => .ar1).trans (s2.ctx (fun x => .ar t A' x) fun _ _ s => .ar2 v1 s), .ar p1 p⟩
  | ar =>
   obtain ⟨A', s1, v1, p1⟩ := A07 ha hE .num
   obtain ⟨B', s2, v2, p2⟩ := A07 hb hE .num
   obtain rfl := A9G p1 v1 rfl
   obtain rfl := A9G p2 v2 rfl
   refine ⟨_, ((s1.ctx (fun x => .ar t x b') fun _ _ => .ar1).trans (s2.ctx (fun x => .ar t _ x) fun _ _ s => .ar2 v1 s)).trans (.one .ar), ?_⟩
   unfold A46
   cases t
   ·exact .num
   ·exact .tru
 | @ite Γ c c' a a' b b' A A' hc ha hb i _ _ =>
  intro hE r s
  cases s with
  | ite1 s =>
   obtain ⟨r', s1, p⟩ := i hE s
   subst hE
   exact ⟨.ite r' a' b', s1.ctx (fun x => .ite x a' b') fun _ _ => .ite1, .ite p ha hb⟩
  | ite =>
   obtain ⟨A', s1, v1, p1⟩ := A07 hc hE .tru
   obtain rfl := B4I p1 v1 rfl
   subst hE
   refine ⟨_, (s1.ctx (fun x => .ite x a' b') fun _ _ => .ite1).trans (.one .ite), ?_⟩
   split
   ·exact ha
   ·exact hb
 | @pair Γ a a' b b' A A' B B' ha hb i j =>
  intro hE r s
  cases s with
  | pair1 s =>
   obtain ⟨r', s1, p⟩ := i hE s
   subst hE
   exact ⟨.pair r' b', s1.ctx (fun x => .pair x b') fun _ _ => .pair1, .pair p hb⟩
  | pair2 va s =>
   obtain ⟨A', s1, v1, p1⟩ := A07 ha hE va
   obtain ⟨r', s2, p⟩ := j hE s
   exact ⟨.pair A' r', (s1.ctx (fun x => .pair x b') fun _ _ => .pair1).trans (s2.ctx (fun x => .pair A' x) fun _ _ s => .pair2 v1 s), .pair p1 p⟩
 | @part Γ t e e' A A' B B' h i =>
  intro hE r s
  have go : GV e → ∃ r', Ss (.part t e') r' ∧ GP D6 r r' (if t = true then B else A) (if t = true then B' else A') := by
   intro ve
   obtain ⟨E', s1, v1, p1⟩ := A07 h hE ve
   obtain ⟨r', s3, p3⟩ := B4H p1 rfl rfl rfl ve v1 s
   exact ⟨r', (s1.ctx (fun x => .part t x) fun _ _ => .part1).trans s3, p3⟩
  cases s with
  | part1 s =>
   obtain ⟨r', s1, p⟩ := i hE s
   exact ⟨.part t r', s1.ctx (fun x => .part t x) fun _ _ => .part1, .part p⟩
  | part va vb => exact go (.pair va vb)
  | partx v => exact go (.pp v)
 | @castL Γ e e' A B A' l h h1 h2 i =>
  intro hE r s
  have hle := h.le
  cases s with
  | cast1 s =>
   obtain ⟨r', s1, p⟩ := i hE s
   exact ⟨r', s1, .castL p h1 h2⟩
  | cid v _ => subst hE; exact ⟨e', .refl, h⟩
  | up v hA hg =>
   subst hE
   cases h2
   exact ⟨e', .refl, .castL (.castL h Co.gr .any) .r .any⟩
  | down v hB hg =>
   subst hE
   cases hle
   exact ⟨e', .refl, .castL (.castL h .l .any) Co.gr.symm .any⟩
  | hit v hg =>
   obtain ⟨v', s1, v1, p1⟩ := A07 h hE (.inj v hg)
   cases hle
   exact ⟨v', s1, A9H p1 v1⟩
 | @castR Γ e e' A A' B' l h h1 h2 i =>
  intro hE r s
  obtain ⟨r', s1, p⟩ := i hE s
  exact ⟨_, H0 s1, .castR p h1 h2⟩
 | @castB Γ e e' A B A' B' l l' h h1 h1' h2 i =>
  intro hE r s
  have hle := h.le
  cases s with
  | cast1 s =>
   obtain ⟨r', s1, p⟩ := i hE s
   exact ⟨_, H0 s1, .castB p h1 h1' h2⟩
  | cid v _ => subst hE; exact ⟨_, .refl, .castR h h1' h2⟩
  | up v hA hg =>
   subst hE
   cases h2
   exact ⟨_, .refl, .castL (.castL (.castR h h1' .any) Co.gr .any) .r .any⟩
  | down v hB hg =>
   subst hE
   cases hle
   exact ⟨_, .refl, .castR (.castL (.castL h .l .any) Co.gr.symm .any) .l h2⟩
  | hit v hg =>
   obtain ⟨v', s1, v1, p1⟩ := A07 h hE (.inj v hg)
   cases hle
   exact ⟨_, H0 s1, .castR (A9H p1 v1) .l h2⟩
inductive GX where
 | n (n : Int) | b (b : Bool) | p | f
def GE.tx : GE → GX
 | .num n => .n n
 | .tru b => .b b
 | .pair _ _ => .p
 | .cast _ (.fn _ _) _ _ => .f
 | .cast _ (.pr _ _) _ _ => .p
 | .cast _ _ _ e => e.tx
 | _ => .f
theorem A9I {Γ : GC} {v v' : GE} {U U' : GT} (h : GP Γ v v' U U') : ∀ {A B : GT}, Γ = D6 → U = .fn A B → GV v → v.tx = .f := by
 induction h with
 | castR _ _ _ i => exact i
 | castL _ _ _ _ => intro A B _ hU hv; subst hU; cases hv; rfl
 | castB _ _ _ _ _ => intro A B _ hU hv; subst hU; cases hv; rfl
 | lam _ _ _ => intro _ _ _ _ _; rfl
 | app _ _ _ _ => intro _ _ _ _ hv; cases hv
 | ite _ _ _ _ _ _ => intro _ _ _ _ hv; cases hv
 | part _ _ => intro _ _ _ _ hv; cases hv
 | ar _ _ _ _ => intro _ _ _ _ hv; cases hv
 | var _ _ => intro _ _ _ _ hv; cases hv
 | _ => intro _ _ _ hU; cases hU
theorem A9J {Γ : GC} {v v' : GE} {U U' : GT} (h : GP Γ v v' U U') : ∀ {A B : GT}, Γ = D6 → U = .pr A B → GV v → v.tx = .p := by
 induction h with
 | castR _ _ _ i => exact i
 | castL _ _ _ _ => intro A B _ hU hv; subst hU; cases hv; rfl
 | castB _ _ _ _ _ => intro A B _ hU hv; subst hU; cases hv; rfl
 | pair _ _ _ _ => intro _ _ _ _ _; rfl
 | app _ _ _ _ => intro _ _ _ _ hv; cases hv
 | ite _ _ _ _ _ _ => intro _ _ _ _ hv; cases hv
 | part _ _ => intro _ _ _ _ hv; cases hv
 | ar _ _ _ _ => intro _ _ _ _ hv; cases hv
 | var _ _ => intro _ _ _ _ hv; cases hv
 | _ => intro _ _ _ hU; cases hU
theorem A6D {Γ : GC} {v v' : GE} {U U' : GT} (h : GP Γ v v' U U') : ∀ {A B : GT}, Γ = D6 → U' = .fn A B → GV v' → v'.tx = .f := by
 induction h with
 | castL _ _ _ i => exact i
 | castR _ _ _ _ => intro A B _ hU hv; subst hU; cases hv; rfl
 | castB _ _ _ _ _ => intro A B _ hU hv; subst hU; cases hv; rfl
 | lam _ _ _ => intro _ _ _ _ _; rfl
 | app _ _ _ _ => intro _ _ _ _ hv; cases hv
 | ite _ _ _ _ _ _ => intro _ _ _ _ hv; cases hv
 | part _ _ => intro _ _ _ _ hv; cases hv
 | ar _ _ _ _ => intro _ _ _ _ hv; cases hv
 | var _ _ => intro _ _ _ _ hv; cases hv
 | _ => intro _ _ _ hU; cases hU
theorem A6E {Γ : GC} {v v' : GE} {U U' : GT} (h : GP Γ v v' U U') : ∀ {A B : GT}, Γ = D6 → U' = .pr A B → GV v' → v'.tx = .p := by
 induction h with
 | castL _ _ _ i => exact i
 | castR _ _ _ _ => intro A B _ hU hv; subst hU; cases hv; rfl
 | castB _ _ _ _ _ => intro A B _ hU hv; subst hU; cases hv; rfl
 | pair _ _ _ _ => intro _ _ _ _ _; rfl
 | app _ _ _ _ => intro _ _ _ _ hv; cases hv
 | ite _ _ _ _ _ _ => intro _ _ _ _ hv; cases hv
 | part _ _ => intro _ _ _ _ hv; cases hv
 | ar _ _ _ _ => intro _ _ _ _ hv; cases hv
 | var _ _ => intro _ _ _ _ hv; cases hv
 | _ => intro _ _ _ hU; cases hU
theorem B4J {Γ : GC} {v v' : GE} {U U' : GT} (h : GP Γ v v' U U') : Γ = D6 → GV v → GV v' → v.tx = v'.tx := by
 induction h with
 | num => intro _ _ _; rfl
 | tru => intro _ _ _; rfl
 | lam _ _ _ => intro _ _ _; rfl
 | pair _ _ _ _ => intro _ _ _; rfl
 | castL h _ _ i =>
  intro hE hv hv'
  have := i hE hv.ofCast hv'
  rw [← this]
  cases hv with
  | pf hv => rw [A9I h hE rfl hv]; rfl
  | pp hv => rw [A9J h hE rfl hv]; rfl
  | inj _ _ => rfl
 | castR h _ _ i =>
  intro hE hv hv'
  have := i hE hv hv'.ofCast
  rw [this]
  cases hv' with
  | pf hv => rw [A6D h hE rfl hv]; rfl
  | pp hv => rw [A6E h hE rfl hv]; rfl
  | inj _ _ => rfl
 | castB h _ _ _ i =>
  intro hE hv hv'
  have := i hE hv.ofCast hv'.ofCast
  cases hv with
  | pf hv =>
   rw [A9I h hE rfl hv] at this
   cases hv' with
   | pf hv' => rfl
   | pp hv' => rw [A6E h hE rfl hv'] at this; cases this
   | inj hv' _ => exact this
  | pp hv =>
   rw [A9J h hE rfl hv] at this
   cases hv' with
   | pp hv' => rfl
   | pf hv' => rw [A6D h hE rfl hv'] at this; cases this
   | inj hv' _ => exact this
  | inj hv _ =>
   cases hv' with
   | pf hv' => rw [A6D h hE rfl hv'] at this; exact this
   | pp hv' => rw [A6E h hE rfl hv'] at this; exact this
   | inj hv' _ => exact this
 | _ => intro _ hv; cases hv
def GT.ty : GT → Ty
 | .any => .mk 1 []
 | .int => .mk 2 []
 | .bool => .mk 3 []
 | .fn a b => .mk 4 [a.ty, b.ty]
 | .pr a b => .mk 5 [a.ty, b.ty]
def GE.tm : GE → Tm
 | .var x => .mk 1 x 0 B4 B4 0 []
 | .num n => .mk 2 ⟨#[]⟩ n B4 B4 0 []
 | .tru b => .mk (if b = true then 3 else 4) ⟨#[]⟩ 0 B4 B4 0 []
 | .lam x A e => .mk 5 x 0 A.ty B4 0 [e.tm]
 | .app f a => .mk 6 ⟨#[]⟩ 0 B4 B4 0 [f.tm, a.tm]
 | .ar s a b => .mk (if s = true then 8 else 7) ⟨#[]⟩ 0 B4 B4 0 [a.tm, b.tm]
 | .ite c a b => .mk 9 ⟨#[]⟩ 0 B4 B4 0 [c.tm, a.tm, b.tm]
 | .pair a b => .mk 10 ⟨#[]⟩ 0 B4 B4 0 [a.tm, b.tm]
 | .part s e => .mk (if s = true then 12 else 11) ⟨#[]⟩ 0 B4 B4 0 [e.tm]
 | .cast A B l e => .mk 14 ⟨#[]⟩ 0 B.ty A.ty l [e.tm]
theorem GT.inj : ∀ {a b : GT}, a.ty = b.ty → a = b := by
 intro a
 induction a with
 | any => intro b h; cases b <;> first | rfl | (simp [GT.ty] at h)
 | int => intro b h; cases b <;> first | rfl | (simp [GT.ty] at h)
 | bool => intro b h; cases b <;> first | rfl | (simp [GT.ty] at h)
 | fn a1 a2 i j =>
  intro b h
  cases b with
  | fn b1 b2 => simp only [GT.ty, Ty.mk.injEq, List.cons.injEq, true_and, and_true] at h; rw [i h.1, j h.2]
  | _ => simp [GT.ty] at h
 | pr a1 a2 i j =>
  intro b h
  cases b with
  | pr b1 b2 => simp only [GT.ty, Ty.mk.injEq, List.cons.injEq, true_and, and_true] at h; rw [i h.1, j h.2]
  | _ => simp [GT.ty] at h
theorem A6F (a : GT) : A0p a.ty = a.gr.ty := by cases a <;> rfl
theorem A0r {a : GT} : a.ty.k = 1 ↔ a = .any := by cases a <;> simp [GT.ty, Ty.k]
theorem A15 {a : GT} : Y2 a.ty = true ↔ a.Gd := by
 unfold Y2 GT.Gd
 rw [Bool.and_eq_true, decide_eq_true_eq, S3, A6F, Ne, A0r]
 constructor
 ·rintro ⟨h1, h2⟩; exact ⟨h1, (GT.inj h2).symm⟩
 ·rintro ⟨h1, h2⟩; exact ⟨h1, by rw [h2]⟩
theorem B4K {a : GT} (h : ¬a.Gd) : Y2 a.ty = false := by
 cases h2 : Y2 a.ty with
 | false => rfl
 | true => exact absurd (A15.1 h2) h
theorem Q9 : ∀ e : GE, H8 e.tm = true ↔ GV e := by
 intro e
 induction e with
 | var x => rw [GE.tm, H8]; simp; intro h; cases h
 | num n => rw [GE.tm, H8]; simp; exact .num
 | tru b => rw [GE.tm, H8]; cases b <;> (simp; exact .tru)
 | lam x A e _ => rw [GE.tm, H8]; simp; exact .lam
 | app f a _ _ => rw [GE.tm, H8]; simp; intro h; cases h
 | ar s a b _ _ => rw [GE.tm, H8]; cases s <;> (simp; intro h; cases h)
 | ite c a b _ _ _ => rw [GE.tm, H8]; simp; intro h; cases h
 | pair a b i j =>
  rw [GE.tm, H8, if_pos (.inl rfl), A06, A06, A06, Bool.and_true, Bool.and_eq_true, i, j]
  exact ⟨fun h => .pair h.1 h.2, fun h => by cases h with | pair a b => exact ⟨a, b⟩⟩
 | part s e _ => rw [GE.tm, H8]; cases s <;> (simp; intro h; cases h)
 | cast A B l e i =>
  rw [GE.tm, H8]
  by_cases hp : A.ty.k = B.ty.k ∧ (B.ty.k = 4 ∨ B.ty.k = 5)
  ·rw [if_pos (.inr (.inl ⟨rfl, hp⟩)), A06, A06, Bool.and_true, i]
   constructor
   ·intro h
    cases B <;> cases A <;> first | exact .pf h | exact .pp h | (exfalso; simp [GT.ty, Ty.k] at hp)
   ·intro h; exact h.ofCast
  ·by_cases hi : B.ty.k = 1 ∧ Y2 A.ty = true
   ·rw [if_pos (.inr (.inr ⟨rfl, hi⟩)), A06, A06, Bool.and_true, i]
    constructor
    ·intro h
     obtain rfl := A0r.1 hi.1
     exact .inj h (A15.1 hi.2)
    ·intro h; exact h.ofCast
   ·rw [if_neg (by rintro (h | h | h); exact absurd h zV; exact hp h.2; exact hi h.2)]
    constructor
    ·intro h; exact absurd (of_decide_eq_true h) zV
    ·intro h
     exfalso
     cases h with
     | pf _ => exact hp ⟨rfl, .inl rfl⟩
     | pp _ => exact hp ⟨rfl, .inr rfl⟩
     | inj _ hg => exact hi ⟨rfl, A15.2 hg⟩
theorem A0s {e : GE} (h : ¬GV e) : H8 e.tm = false := by
 cases h2 : H8 e.tm with
 | false => rfl
 | true => exact absurd ((Q9 e).1 h2) h
theorem nv {e r : GE} (h : GS e r) : H8 e.tm = false := A0s fun hv => hv.noS _ h
theorem B4L (x : ByteArray) (v : GE) : ∀ e : GE, (e.sub x v).tm = W0 x v.tm e.tm := by
 intro e
 induction e with
 | var y =>
  rw [GE.sub, GE.tm, W0]
  by_cases h : y = x
  ·rw [if_pos h, if_pos ⟨rfl, h⟩]
  ·rw [if_neg h, if_neg (fun c => h c.2), if_neg (by rintro ⟨h, _⟩; exact absurd h zV), GE.tm, W1]
 | num n => rw [GE.sub, GE.tm, W0]; simp [W1]
 | tru b => rw [GE.sub, GE.tm, W0]; cases b <;> simp [W1]
 | lam y A e i =>
  by_cases h : y = x
  ·rw [GE.sub, if_pos h, GE.tm, W0, if_neg (by rintro ⟨h, _⟩; exact absurd h zV), if_pos ⟨rfl, h⟩]
  ·rw [GE.sub, if_neg h, GE.tm, GE.tm, W0, if_neg (by rintro ⟨h, _⟩; exact absurd h zV), if_neg (fun c => h c.2), i, W1, W1]
 | app f a i j => rw [GE.sub, GE.tm, GE.tm, W0, i, j]; simp [W1]
 | ar s a b i j => rw [GE.sub, GE.tm, GE.tm, W0, i, j]; cases s <;> simp [W1]
 | ite c a b i j k => rw [GE.sub, GE.tm, GE.tm, W0, i, j, k]; simp [W1]
 | pair a b i j => rw [GE.sub, GE.tm, GE.tm, W0, i, j]; simp [W1]
 | part s e i => rw [GE.sub, GE.tm, GE.tm, W0, i]; cases s <;> simp [W1]
 | cast A B l e i => rw [GE.sub, GE.tm, GE.tm, W0, i]; simp [W1]
section
variable {k : Int} {nm : ByteArray} {num : Int} {ty fr : Ty} {lb : Int} {a b c : Tm} {t : Tm} {l : Int}
theorem A29 (h : H8 a = false) (ks : List Tm) (hn : k = 9 ∨ ks.length < 3) (r : Tm) (hs : I6 a = (r, 1, 0)) : I6 (.mk k nm num ty fr lb (a :: ks)) = (.mk k nm num ty fr lb (r :: ks), 1, 0) := by
 have : ∃ n, (if k = 9 then 1 else (a :: ks).length) = n + 1 := ⟨if k = 9 then 0 else ks.length, by split <;> simp⟩
 obtain ⟨n, hn⟩ := this
 rw [I6, hn, X6, if_neg (by rw [h]; decide), hs]
 simp
theorem B4M (h : H8 a = false) (ks : List Tm) (hs : (I6 a).2.1 = 2) : (I6 (.mk k nm num ty fr lb (a :: ks))).2.1 = 2 := by
 have : ∃ n, (if k = 9 then 1 else (a :: ks).length) = n + 1 := ⟨if k = 9 then 0 else ks.length, by split <;> simp⟩
 obtain ⟨n, hn⟩ := this
 rw [I6, hn, X6, if_neg (by rw [h]; decide), hs]
 simp
theorem A6G (h0 : H8 a = true) (h : H8 b = false) (hk : k ≠ 9) (r : Tm) (hs : I6 b = (r, 1, 0)) : I6 (.mk k nm num ty fr lb [a, b]) = (.mk k nm num ty fr lb [a, r], 1, 0) := by
 rw [I6, if_neg hk]
 simp only [List.length_cons, List.length_nil, X6, h0, h, if_true, hs]
 simp
theorem B4N (h0 : H8 a = true) (h : H8 b = false) (hk : k ≠ 9) (hs : (I6 b).2.1 = 2) : (I6 (.mk k nm num ty fr lb [a, b])).2.1 = 2 := by
 rw [I6, if_neg hk]
 simp only [List.length_cons, List.length_nil, X6, h0, h, if_true, hs]
 simp
theorem A16 (h : H8 a = true) : I6 (.mk k nm num ty fr lb [a]) = A0A k ty fr lb [a] := by
 rw [I6, show (if k = 9 then 1 else [a].length) = 1 by split <;> rfl, X6, h]
 simp [X6]
theorem A6H (h : H8 a = true) (h2 : H8 b = true) (hk : k ≠ 9) : I6 (.mk k nm num ty fr lb [a, b]) = A0A k ty fr lb [a, b] := by
 rw [I6, if_neg hk]
 simp [X6, h, h2]
theorem B4O (h : H8 a = true) : I6 (.mk 9 nm num ty fr lb [a, b, c]) = A0A 9 ty fr lb [a, b, c] := by
 rw [I6, if_pos rfl]
 simp [X6, h]
end
theorem A3a {e r : GE} (h : GS e r) : I6 e.tm = (r.tm, 1, 0) := by
 induction h with
 | app1 s i => rw [GE.tm, A29 (nv s) _ (.inr zX) _ i, GE.tm]
 | app2 v s i => rw [GE.tm, A6G ((Q9 _).2 v) (nv s) zV _ i, GE.tm]
 | ar1 s i => rw [GE.tm, A29 (nv s) _ (.inr zX) _ i, GE.tm]
 | @ar2 t _ _ _ v s i => rw [GE.tm, A6G ((Q9 _).2 v) (nv s) (by cases t <;> decide) _ i, GE.tm]
 | ite1 s i => rw [GE.tm, A29 (nv s) _ (.inl rfl) _ i, GE.tm]
 | pair1 s i => rw [GE.tm, A29 (nv s) _ (.inr zX) _ i, GE.tm]
 | pair2 v s i => rw [GE.tm, A6G ((Q9 _).2 v) (nv s) zV _ i, GE.tm]
 | part1 s i => rw [GE.tm, A29 (nv s) _ (.inr zX) _ i, GE.tm]
 | cast1 s i => rw [GE.tm, A29 (nv s) _ (.inr zX) _ i, GE.tm]
 | beta v =>
  rw [GE.tm, A6H ((Q9 _).2 .lam) ((Q9 _).2 v) zV, B4L]
  rfl
 | appx v w =>
  rw [GE.tm, A6H ((Q9 _).2 (.pf v)) ((Q9 _).2 w) zV]
  rfl
 | @ar t m n =>
  rw [GE.tm, A6H ((Q9 _).2 .num) ((Q9 _).2 .num) (by cases t <;> decide)]
  cases t
  ·rfl
  ·unfold A46
   simp only [if_true]
   show (A0i (m < n), (1 : Int), (0 : Int)) = _
   unfold A0i
   by_cases h : m < n
   ·simp only [h, if_true, GE.tm, decide_true]; rfl
   ·simp only [h, if_false, GE.tm, decide_false]; rfl
 | @ite b x y =>
  rw [GE.tm, B4O ((Q9 _).2 .tru)]
  cases b <;> rfl
 | @part t a b v w =>
  rw [GE.tm, A16 ((Q9 _).2 (.pair v w))]
  cases t <;> rfl
 | @partx t a b c d l e v =>
  rw [GE.tm, A16 ((Q9 _).2 (.pp v))]
  cases t <;> rfl
 | @cid A l v hv hA =>
  rw [GE.tm, A16 ((Q9 _).2 hv)]
  rcases hA with rfl | rfl | rfl <;> rfl
 | @up A l v hv hA hg =>
  rw [GE.tm, A16 ((Q9 _).2 hv)]
  cases A with
  | any => exact absurd rfl hA
  | int => exact absurd rfl hg
  | bool => exact absurd rfl hg
  | _ => rfl
 | @down B l v hv hB hg =>
  rw [GE.tm, A16 ((Q9 _).2 hv)]
  have hg' := B4K (a := B) fun h => hg h.2
  unfold A0A
  rw [if_neg zV, if_neg zV, if_neg zV, if_neg zV, if_pos rfl, if_neg, if_neg, if_pos hg', A6F]
  ·rfl
  ·rw [A0r]; exact hB
  ·intro h; exact hB (A0r.1 h.symm)
 | @hit G l m w hv hG =>
  rw [GE.tm, A16 ((Q9 _).2 (.inj hv hG))]
  have hg' := A15.2 hG
  have hi : inj (GE.tm (.cast G .any m w)) = true := by
   rw [GE.tm]; unfold inj; rw [Bool.and_eq_true]; exact ⟨rfl, hg'⟩
  unfold A0A
  rw [if_neg zV, if_neg zV, if_neg zV, if_neg zV, if_pos rfl, if_neg, if_neg, if_neg (by rw [hg']; decide), if_neg (by show ¬inj (GE.tm (.cast G .any m w)) = false; rw [hi]; decide), if_pos]
  ·rfl
  ·rfl
  ·rw [A0r]; exact hG.1
  ·intro h; exact hG.1 (A0r.1 h.symm)
def Bd (e : GE) : Prop := H8 e.tm = false ∧ (I6 e.tm).2.1 = 2
theorem A9K {Γ : GC} {v v' : GE} {U U' : GT} (h : GP Γ v v' U U') : Γ = D6 → GV v → ∀ {A B}, U = .fn A B → (∃ x C e, v = .lam x C e) ∨ ∃ a b c d l e, v = .cast (.fn a b) (.fn c d) l e ∧ GV e := by
 induction h with
 | castR _ _ _ i => exact i
 | castL _ _ _ _ => intro _ hv A B hU; subst hU; cases hv with | pf h => exact .inr ⟨_, _, _, _, _, _, rfl, h⟩
 | castB _ _ _ _ _ => intro _ hv A B hU; subst hU; cases hv with | pf h => exact .inr ⟨_, _, _, _, _, _, rfl, h⟩
 | lam _ _ _ => intro _ _ _ _ _; exact .inl ⟨_, _, _, rfl⟩
 | app _ _ _ _ => intro _ hv; cases hv
 | ite _ _ _ _ _ _ => intro _ hv; cases hv
 | part _ _ => intro _ hv; cases hv
 | ar _ _ _ _ => intro _ hv; cases hv
 | var _ _ => intro _ hv; cases hv
 | _ => intro _ _ _ _ hU; cases hU
theorem A9L {Γ : GC} {v v' : GE} {U U' : GT} (h : GP Γ v v' U U') : Γ = D6 → GV v → ∀ {A B}, U = .pr A B → (∃ a b, v = .pair a b ∧ GV a ∧ GV b) ∨ ∃ a b c d l e, v = .cast (.pr a b) (.pr c d) l e ∧ GV e := by
 induction h with
 | castR _ _ _ i => exact i
 | castL _ _ _ _ => intro _ hv A B hU; subst hU; cases hv with | pp h => exact .inr ⟨_, _, _, _, _, _, rfl, h⟩
 | castB _ _ _ _ _ => intro _ hv A B hU; subst hU; cases hv with | pp h => exact .inr ⟨_, _, _, _, _, _, rfl, h⟩
 | pair _ _ _ _ => intro _ hv _ _ _; cases hv with | pair a b => exact .inl ⟨_, _, rfl, a, b⟩
 | app _ _ _ _ => intro _ hv; cases hv
 | ite _ _ _ _ _ _ => intro _ hv; cases hv
 | part _ _ => intro _ hv; cases hv
 | ar _ _ _ _ => intro _ hv; cases hv
 | var _ _ => intro _ hv; cases hv
 | _ => intro _ _ _ _ hU; cases hU
theorem A48 {Γ : GC} {v v' : GE} {U U' : GT} (h : GP Γ v v' U U') : Γ = D6 → GV v → U = .int → ∃ n, v = .num n := by
 induction h with
 | castR _ _ _ i => exact i
 | castL _ _ _ _ => intro _ hv hU; subst hU; cases hv
 | castB _ _ _ _ _ => intro _ hv hU; subst hU; cases hv
 | num => intro _ _ _; exact ⟨_, rfl⟩
 | app _ _ _ _ => intro _ hv; cases hv
 | ite _ _ _ _ _ _ => intro _ hv; cases hv
 | part _ _ => intro _ hv; cases hv
 | ar _ _ _ _ => intro _ hv; cases hv
 | var _ _ => intro _ hv; cases hv
 | _ => intro _ _ hU; cases hU
theorem A9M {Γ : GC} {v v' : GE} {U U' : GT} (h : GP Γ v v' U U') : Γ = D6 → GV v → U = .bool → ∃ b, v = .tru b := by
 induction h with
 | castR _ _ _ i => exact i
 | castL _ _ _ _ => intro _ hv hU; subst hU; cases hv
 | castB _ _ _ _ _ => intro _ hv hU; subst hU; cases hv
 | tru => intro _ _ _; exact ⟨_, rfl⟩
 | app _ _ _ _ => intro _ hv; cases hv
 | ite _ _ _ _ _ _ => intro _ hv; cases hv
 | part _ _ => intro _ hv; cases hv
 | ar _ _ _ _ => intro _ hv; cases hv
 | var _ _ => intro _ hv; cases hv
 | _ => intro _ _ hU; cases hU
theorem A9N {Γ : GC} {v v' : GE} {U U' : GT} (h : GP Γ v v' U U') : Γ = D6 → GV v → U = .any → ∃ H l w, v = .cast H .any l w ∧ GV w ∧ H.Gd := by
 induction h with
 | castR _ _ _ i => exact i
 | castL _ _ _ _ => intro _ hv hU; subst hU; cases hv with | inj h g => exact ⟨_, _, _, rfl, h, g⟩
 | castB _ _ _ _ _ => intro _ hv hU; subst hU; cases hv with | inj h g => exact ⟨_, _, _, rfl, h, g⟩
 | app _ _ _ _ => intro _ hv; cases hv
 | ite _ _ _ _ _ _ => intro _ hv; cases hv
 | part _ _ => intro _ hv; cases hv
 | ar _ _ _ _ => intro _ hv; cases hv
 | var _ _ => intro _ hv; cases hv
 | _ => intro _ _ hU; cases hU
theorem A9O {e e' : GE} {A B A' : GT} {l : Int} (h : GP D6 e e' A A') (hc : Co A B) (hv : GV e) : GV (.cast A B l e) ∨ (∃ r, GS (.cast A B l e) r) ∨ Bd (.cast A B l e) := by
 by_cases hA : A = .any
 ·subst hA
  by_cases hB : B = .any
  ·subst hB; exact .inr (.inl ⟨_, .cid hv (.inl rfl)⟩)
  ·by_cases hg : B.gr = B
   ·obtain ⟨H, m, w, rfl, hw, hH⟩ := A9N h rfl hv rfl
    by_cases he : H = B
    ·subst he; exact .inr (.inl ⟨_, .hit hw hH⟩)
    ·refine .inr (.inr ⟨A0s (by intro h; cases h; exact hB rfl), ?_⟩)
     have hg' := A15.2 (show B.Gd from ⟨hB, hg⟩)
     have hi : inj (GE.tm (.cast H .any m w)) = true := by
      rw [GE.tm]; unfold inj; rw [Bool.and_eq_true]; exact ⟨rfl, A15.2 hH⟩
     rw [GE.tm, A16 ((Q9 _).2 hv)]
     unfold A0A
     rw [if_neg zV, if_neg zV, if_neg zV, if_neg zV, if_pos rfl, if_neg, if_neg, if_neg (by rw [hg']; decide), if_neg (by show ¬inj (GE.tm (.cast H .any m w)) = false; rw [hi]; decide), if_neg]
     ·show ¬H.ty.k = B.ty.k
      intro hk
      apply he
      rw [← hH.2, ← hg]
      cases H <;> cases B <;> first | rfl | (simp [GT.ty, Ty.k] at hk)
     ·rw [A0r]; exact hB
     ·intro h; exact hB (A0r.1 h.symm)
   ·exact .inr (.inl ⟨_, .down hv hB hg⟩)
 ·by_cases hB : B = .any
  ·subst hB
   by_cases hg : A.gr = A
   ·exact .inl (.inj hv ⟨hA, hg⟩)
   ·exact .inr (.inl ⟨_, .up hv hA hg⟩)
  ·cases hc with
   | l => exact absurd rfl hA
   | r => exact absurd rfl hB
   | int => exact .inr (.inl ⟨_, .cid hv (.inr (.inl rfl))⟩)
   | bool => exact .inr (.inl ⟨_, .cid hv (.inr (.inr rfl))⟩)
   | fn _ _ => exact .inl (.pf hv)
   | pr _ _ => exact .inl (.pp hv)
theorem A2E {a : GE} (h : Bd a) {e : GE} {k : Int} {nm : ByteArray} {num : Int} {ty fr : Ty} {lb : Int} {ks : List Tm} (he : e.tm = .mk k nm num ty fr lb (a.tm :: ks)) (hv : ¬GV e) : Bd e :=
 ⟨A0s hv, by rw [he]; exact B4M h.1 ks h.2⟩
theorem A6I {a b : GE} (ha : GV a) (h : Bd b) {e : GE} {k : Int} {nm : ByteArray} {num : Int} {ty fr : Ty} {lb : Int} (hk : k ≠ 9) (he : e.tm = .mk k nm num ty fr lb [a.tm, b.tm]) (hv : ¬GV e) : Bd e :=
 ⟨A0s hv, by rw [he]; exact B4N ((Q9 _).2 ha) h.1 hk h.2⟩
theorem A49 {e : GE} (h : Bd e) : ¬GV e := fun hv => by have := (Q9 e).2 hv; rw [h.1] at this; cases this
theorem A9P {Γ : GC} {e e' : GE} {A A' : GT} (h : GP Γ e e' A A') : Γ = D6 → GV e ∨ (∃ r, GS e r) ∨ Bd e := by
 induction h with
 | var hx _ => intro hE; subst hE; cases hx
 | num => intro _; exact .inl .num
 | tru => intro _; exact .inl .tru
 | lam _ _ _ => intro _; exact .inl .lam
 | app hf ha i j =>
  intro hE
  refine .inr ?_
  rcases i hE with vf | ⟨r, s⟩ | b
  ·rcases j hE with va | ⟨r, s⟩ | b
   ·rcases A9K hf hE vf rfl with ⟨x, C, e, rfl⟩ | ⟨_, _, _, _, _, _, rfl, hw⟩
    ·exact .inl ⟨_, .beta va⟩
    ·exact .inl ⟨_, .appx hw va⟩
   ·exact .inl ⟨_, .app2 vf s⟩
   ·exact .inr (A6I vf b (k := 6) zV rfl (by intro h; cases h))
  ·exact .inl ⟨_, .app1 s⟩
  ·exact .inr (A2E b (k := 6) rfl (by intro h; cases h))
 | @ar Γ t _ _ _ _ ha hb i j =>
  intro hE
  refine .inr ?_
  rcases i hE with va | ⟨r, s⟩ | b
  ·rcases j hE with vb | ⟨r, s⟩ | b
   ·obtain ⟨m, rfl⟩ := A48 ha hE va rfl
    obtain ⟨n, rfl⟩ := A48 hb hE vb rfl
    exact .inl ⟨_, .ar⟩
   ·exact .inl ⟨_, .ar2 va s⟩
   ·exact .inr (A6I va b (k := if t = true then 8 else 7) (by cases t <;> decide) rfl (by intro h; cases h))
  ·exact .inl ⟨_, .ar1 s⟩
  ·exact .inr (A2E b rfl (by intro h; cases h))
 | ite hc _ _ i _ _ =>
  intro hE
  refine .inr ?_
  rcases i hE with vc | ⟨r, s⟩ | b
  ·obtain ⟨m, rfl⟩ := A9M hc hE vc rfl
   exact .inl ⟨_, .ite⟩
  ·exact .inl ⟨_, .ite1 s⟩
  ·exact .inr (A2E b rfl (by intro h; cases h))
 | pair ha hb i j =>
  intro hE
  rcases i hE with va | ⟨r, s⟩ | b
  ·rcases j hE with vb | ⟨r, s⟩ | b
   ·exact .inl (.pair va vb)
   ·exact .inr (.inl ⟨_, .pair2 va s⟩)
   ·exact .inr (.inr (A6I va b (k := 10) zV rfl (by intro h; cases h with | pair _ h => exact A49 b h)))
  ·exact .inr (.inl ⟨_, .pair1 s⟩)
  ·exact .inr (.inr (A2E b rfl (by intro h; cases h with | pair h _ => exact A49 b h)))
 | part h i =>
  intro hE
  refine .inr ?_
  rcases i hE with vc | ⟨r, s⟩ | b
  ·rcases A9L h hE vc rfl with ⟨_, _, rfl, ha, hb⟩ | ⟨_, _, _, _, _, _, rfl, hw⟩
   ·exact .inl ⟨_, .part ha hb⟩
   ·exact .inl ⟨_, .partx hw⟩
  ·exact .inl ⟨_, .part1 s⟩
  ·exact .inr (A2E b rfl (by intro h; cases h))
 | castL h hc _ i =>
  intro hE
  rcases i hE with hv | ⟨r, s⟩ | b
  ·subst hE; exact A9O h hc hv
  ·exact .inr (.inl ⟨_, .cast1 s⟩)
  ·exact .inr (.inr (A2E b rfl (fun h => A49 b h.ofCast)))
 | castR _ _ _ i => exact i
 | castB h hc _ _ i =>
  intro hE
  rcases i hE with hv | ⟨r, s⟩ | b
  ·subst hE; exact A9O h hc hv
  ·exact .inr (.inl ⟨_, .cast1 s⟩)
  ·exact .inr (.inr (A2E b rfl (fun h => A49 b h.ofCast)))
theorem A9Q {e : Tm} (h : (J3 e).2.1 = 1) : K2 e = true ∧ H8 e = false ∧ (I6 e).2.1 = 1 ∧ (J3 e).1 = (I6 e).1 := by
 unfold J3 at h ⊢
 split at h
 ·cases h
 ·rename_i h1
  split at h
  ·cases h
  ·rename_i h2
   split at h
   ·rename_i h3; exact absurd h h3
   ·rename_i h3
    split at h
    ·cases h
    ·rename_i h4
     rw [if_neg h1, if_neg h2, if_neg h3, if_neg h4]
     refine ⟨by cases hv : K2 e with | true => rfl | false => exact absurd hv h1, by cases hv : H8 e with | false => rfl | true => exact absurd hv h2, ?_, rfl⟩
     apply Classical.byContradiction
     intro hc; exact h3 hc
theorem A9R {e : Tm} (h : (J3 e).2.1 = 0) (hc : (I6 e).2.1 ≠ 0) : H8 e = true ∧ (J3 e).1 = e := by
 unfold J3 at h ⊢
 split at h
 ·cases h
 ·rename_i h1
  split at h
  ·rename_i h2; rw [if_neg h1, if_pos h2]; exact ⟨h2, rfl⟩
  ·split at h
   ·exact absurd h hc
   ·split at h <;> cases h
theorem A5a {n : Nat} {e : Tm} (h : (J3 e).2.1 = 1) : I7 (n + 1) e = ((I7 n (J3 e).1).1, (I7 n (J3 e).1).2.1, (I7 n (J3 e).1).2.2.1, (I7 n (J3 e).1).2.2.2 + 1) := by rw [I7, if_pos h]
theorem B4P : ∀ (n : Nat) {e e' : GE} {A A' : GT}, GP D6 e e' A A' → (I7 n e.tm).2.1 = 0 → ∃ w, (I7 n e.tm).1 = w.tm ∧ GV w ∧ Ss e w := by
 intro n
 have fin : ∀ {e e' : GE} {A A' : GT}, GP D6 e e' A A' → (J3 e.tm).2.1 ≠ 1 → (J3 e.tm).2.1 = 0 → ∃ w, (J3 e.tm).1 = w.tm ∧ GV w ∧ Ss e w := by
  intro e e' A A' hp _ h0
  have hv : H8 e.tm = true := by
   rcases A9P hp rfl with hv | ⟨r, s⟩ | b
   ·exact (Q9 _).2 hv
   ·exact (A9R h0 (by rw [A3a s]; show (1 : Int) ≠ 0; decide)).1
   ·exact (A9R h0 (by rw [b.2]; decide)).1
  refine ⟨e, ?_, (Q9 _).1 hv, .refl⟩
  unfold J3 at h0 ⊢
  split at h0
  ·cases h0
  ·rename_i h1; rw [if_neg h1, if_pos hv]
 induction n with
 | zero =>
  intro e e' A A' hp h
  rw [I7] at h ⊢
  by_cases h1 : (J3 e.tm).2.1 = 1
  ·rw [if_pos h1] at h; cases h
  ·rw [if_neg h1] at h ⊢; exact fin hp h1 h
 | succ n ih =>
  intro e e' A A' hp h
  by_cases h1 : (J3 e.tm).2.1 = 1
  ·obtain ⟨_, hv, hs, he⟩ := A9Q h1
   rcases A9P hp rfl with hv' | ⟨r, s⟩ | b
   ·rw [(Q9 _).2 hv'] at hv; cases hv
   ·rw [A5a h1] at h ⊢
    have hr : (J3 e.tm).1 = r.tm := by rw [he, A3a s]
    rw [hr] at h ⊢
    obtain ⟨r', _, hp'⟩ := sim hp rfl s
    obtain ⟨w, h2, h3, h4⟩ := ih hp' h
    exact ⟨w, h2, h3, .step s h4⟩
   ·rw [b.2] at hs; cases hs
  ·rw [I7, if_neg h1] at h ⊢; exact fin hp h1 h
theorem B4Q : ∀ {e w : GE}, Ss e w → GV w → ∀ (n : Nat), K2 e.tm = true → ((I7 n e.tm).2.1 = 0 ∧ (I7 n e.tm).1 = w.tm) ∨ (I7 n e.tm).2.1 = 4 ∨ (I7 n e.tm).2.1 = 5 := by
 intro e w h
 induction h with
 | @refl e =>
  intro hv n hc
  have : J3 e.tm = (e.tm, 0, 0) := by unfold J3; rw [if_neg (by rw [hc]; decide), if_pos ((Q9 _).2 hv)]
  cases n with
  | zero => rw [I7, this]; exact .inl ⟨rfl, rfl⟩
  | succ n => rw [I7, this]; exact .inl ⟨rfl, rfl⟩
 | @step a b c s _ ih =>
  intro hv n hc
  have hs := A3a s
  have : J3 a.tm = if K2 b.tm = false then (K5, 4, 0) else (b.tm, 1, 0) := by
   unfold J3; rw [if_neg (by rw [hc]; decide), if_neg (by rw [nv s]; decide), hs, if_neg (by show ¬(1 : Int) ≠ 1; decide)]
  cases hcb : K2 b.tm with
  | false =>
   rw [if_pos hcb] at this
   cases n with
   | zero => rw [I7, this]; exact .inr (.inl rfl)
   | succ n => rw [I7, this]; exact .inr (.inl rfl)
  | true =>
   rw [if_neg (by rw [hcb]; decide)] at this
   cases n with
   | zero => rw [I7, this]; exact .inr (.inr rfl)
   | succ n =>
    rw [A5a (by rw [this]), this]
    exact ih hv n hcb
theorem B4R {A C : List Value} {es : List (List Value)} {vs : List Value} {j sz : Nat} (hj : j < es.length) (ha : ∀ e ∈ es, e.length = sz) (hv : vs.length = sz) : Q2 (A ++ (es.flatten ++ C)) (A.length + j * sz) vs = some (A ++ ((es.set j vs).flatten ++ C)) := by
 have h := B3f (A := A) (D := es.take j) (e := es[j]) (e' := vs) (R := (es.drop (j + 1)).flatten ++ C) (vs := vs) (i := j) (sz := sz) (off := 0)
  (by rw [List.length_take]; omega) (fun e he => ha e (List.mem_of_mem_take he)) (C6 (by rw [ha _ (List.getElem_mem hj), hv]))
 rw [A6y hj, A9d hj]
 simp only [List.append_assoc, Nat.add_zero] at h ⊢
 exact h
theorem At.mono' {hp : List A6} {G G' : IM} {b o : Nat} {vs : List Value} (hg : C1 G G') (h : At [] G b o vs) : At hp G' b o vs := by
 rcases h with ⟨cs, hm, hv⟩ | ⟨n, c, el, sz, cs, hm, hv⟩ | ⟨full, hx, hv⟩
 ·cases hm
 ·cases hm
 ·exact .inr (.inr ⟨full, hg _ _ hx, hv⟩)
theorem D0.kidD {G : IM} {p : Option Addr} {n c : Nat} {es : List (List Value)} {ks : List Ty} (h : D0 G p n c 2 es) (hk : E9 G ks es) {i : Nat} (hi : i < n) (hn : i < ks.length) :
  ∃ b o q d, p = some ⟨b, o, none⟩ ∧ (∀ hp, At hp G b (o + i * 2) [.int .i64 (ks.getD i B4).k, .slice q (ks.getD i B4).ks.length d]) ∧ B8 G (ks.getD i B4) [.int .i64 (ks.getD i B4).k, .slice q (ks.getD i B4).ks.length d] ∧ G b ≠ none := by
 obtain ⟨b, o, q, d, h1, h2, h3, h4⟩ := h.kidTy hk hi hn
 rw [List.getD_eq_getElem?_getD, List.getElem?_eq_getElem hn, Option.getD_some]
 exact ⟨b, o, q, d, h1, h2, h3, h4⟩
theorem A3b {hs : List Ty} (h : ∀ t ∈ hs, E5 t) {i : Nat} (hi : i < hs.length) : E5 (hs.getD i B4) := by
 rw [List.getD_eq_getElem?_getD, List.getElem?_eq_getElem hi, Option.getD_some]
 exact h _ (List.getElem_mem hi)
def L2 (r : Option (List Ty × Ty)) (G : IM) : IM → Value → List A6 → Prop := K1 fun G' v => ∃ p n c es w cu u, v = .tuple ⟨[.slice p n c, .agg ⟨cu⟩, .bool r.isSome]⟩ ∧ n = w.length ∧ D0 G' p n c 2 es ∧ E9 G' w es ∧ B8 G' u cu ∧ ∀ q, r = some q → q = (w, u)
theorem L2.mk {r : Option (List Ty × Ty)} {G G' : IM} {p : Option Addr} {n c : Nat} {es : List (List Value)} {w : List Ty} {cu : List Value} {u : Ty} {b : Bool} (hl : n = w.length) (hs : Sl G' p n c 2 es.flatten) (hw : E9 G' w es) (hu : B8 G' u cu) (h : r = if b = true then some (w, u) else none) :
  L2 r G G' (.tuple ⟨[.slice p n c, .agg ⟨cu⟩, .bool b]⟩) [] := by
 refine ⟨rfl, p, n, c, es, w, cu, u, ?_, hl, D0.of hs (by rw [hw.len, hl]) hw.all (fun e he => (hw.each e he).2), hw, hu, ?_⟩
 ·subst h; cases b <;> rfl
 ·subst h; cases b
  ·simp
  ·intro q hq; simpa using hq.symm
theorem L2.nil {r : Option (List Ty × Ty)} {G G' : IM} {cu : List Value} {u : Ty} {b : Bool} (hu : B8 G' u cu) (h : r = if b = true then some ([], u) else none) :
  L2 r G G' (.tuple ⟨[.slice none 0 0, .agg ⟨cu⟩, .bool b]⟩) [] := L2.mk (es := []) rfl (Sl.nil _ _) (by simp [E9]) hu h
theorem L2.one {r : Option (List Ty × Ty)} {G G' : IM} {p : Option Addr} {c : Nat} {a : Ty} {ca : List Value} {cu : List Value} {u : Ty} {b : Bool} (hs : Sl G' p 1 c 2 ca) (ha : B8 G' a ca) (hu : B8 G' u cu) (h : r = if b = true then some ([a], u) else none) :
  L2 r G G' (.tuple ⟨[.slice p 1 c, .agg ⟨cu⟩, .bool b]⟩) [] := L2.mk (es := [ca]) (w := [a]) rfl (by simpa using hs) ⟨_, _, rfl, ha, rfl⟩ hu h
theorem L2.two {r : Option (List Ty × Ty)} {G G' : IM} {p : Option Addr} {c : Nat} {a a2 : Ty} {ca ca2 : List Value} {cu : List Value} {u : Ty} {b : Bool} (hs : Sl G' p 2 c 2 (ca ++ ca2)) (ha : B8 G' a ca) (ha2 : B8 G' a2 ca2) (hu : B8 G' u cu) (h : r = if b = true then some ([a, a2], u) else none) :
  L2 r G G' (.tuple ⟨[.slice p 2 c, .agg ⟨cu⟩, .bool b]⟩) [] := L2.mk (es := [ca, ca2]) (w := [a, a2]) rfl (by simpa using hs) ⟨_, _, rfl, ha, _, _, rfl, ha2, rfl⟩ hu h
theorem L2.three {r : Option (List Ty × Ty)} {G G' : IM} {p : Option Addr} {c : Nat} {a a2 a3 : Ty} {ca ca2 ca3 : List Value} {cu : List Value} {u : Ty} {b : Bool} (hs : Sl G' p 3 c 2 (ca ++ (ca2 ++ ca3))) (ha : B8 G' a ca) (ha2 : B8 G' a2 ca2) (ha3 : B8 G' a3 ca3) (hu : B8 G' u cu) (h : r = if b = true then some ([a, a2, a3], u) else none) :
  L2 r G G' (.tuple ⟨[.slice p 3 c, .agg ⟨cu⟩, .bool b]⟩) [] := L2.mk (es := [ca, ca2, ca3]) (w := [a, a2, a3]) rfl (by simpa using hs) ⟨_, _, rfl, ha, _, _, rfl, ha2, _, _, rfl, ha3, rfl⟩ hu h
section
variable {cx : Cx} {nm : ByteArray} {ty : Ty} {h : List Ty}
theorem mW1 : O4 cx 1 nm ty h = match O9 cx nm with | some t => some ([], t) | none => none := rfl
theorem mW2 : O4 cx 2 nm ty h = some ([], N2) := rfl
theorem A6J {k : Int} (hk : k = 3 ∨ k = 4) : O4 cx k nm ty h = some ([], R8) := by rcases hk with rfl | rfl <;> rfl
theorem mW5 : O4 cx 5 nm ty h = some ([], .mk 4 [ty, h.getD 0 B4]) := rfl
theorem mW6 : O4 cx 6 nm ty h = match Z1 4 (h.getD 0 B4) with | some (a, b) => if O8 (h.getD 1 B4) a = true then some ([.mk 4 [a, b], a], b) else none | none => none := rfl
theorem W5 {k : Int} (hk : k = 7 ∨ k = 8) : O4 cx k nm ty h = if O8 (h.getD 0 B4) N2 = true ∧ O8 (h.getD 1 B4) N2 = true then some ([N2, N2], if k = 8 then R8 else N2) else none := by rcases hk with rfl | rfl <;> rfl
theorem mW9 : O4 cx 9 nm ty h = if O8 (h.getD 0 B4) R8 = true ∧ O8 (h.getD 1 B4) (h.getD 2 B4) = true then some ([R8, A0z (h.getD 1 B4) (h.getD 2 B4), A0z (h.getD 1 B4) (h.getD 2 B4)], A0z (h.getD 1 B4) (h.getD 2 B4)) else none := rfl
theorem A9S : O4 cx 10 nm ty h = some ([], .mk 5 [h.getD 0 B4, h.getD 1 B4]) := rfl
theorem A32 : O4 cx 13 nm ty h = if O8 (h.getD 0 B4) ty = true then some ([ty], ty) else none := rfl
theorem A6K {k : Int} (hk : k = 11 ∨ k = 12) : O4 cx k nm ty h = match Z1 5 (h.getD 0 B4) with | some (a, b) => some ([.mk 5 [a, b]], if k = 12 then b else a) | none => none := by rcases hk with rfl | rfl <;> rfl
end
theorem K0 (G : IM) : B8 G N2 [.int .i64 2, .slice none 0 0] := J8 G ⟨by omega, by omega⟩
theorem W6 (G : IM) : B8 G R8 [.int .i64 3, .slice none 0 0] := J8 G ⟨by omega, by omega⟩
theorem B4S (cx : Cx) (k : Int) (nm : ByteArray) (num : Int) (ty fr : Ty) (lb : Int) (ks : List Tm) (h : List Ty) (G : IM) (pc : Option Addr) (nc cc : Nat) (cells : List Value) (p : Option Addr) (n c : Nat) (es : List (List Value))
  (hx : R9 G cx pc nc cc) (hops : F7 k = n) (hnl : n = h.length) (hk14 : k ≠ 14) (hta : E5 ty) (hr : B6 G (.mk k nm num ty fr lb ks) cells) (hsl : D0 G p n c 2 es) (hkl : E9 G h es) (har : ∀ t ∈ h, E5 t) :
  Fn Tryz.prog 63 [.slice pc nc cc, .agg ⟨cells⟩, .slice p n c] [] G (L2 (O4 cx k nm ty h) G) := by
 have hone := hr.one
 have hop := A2C hops
 have hkr : 1 ≤ k ∧ k ≤ 14 := by
  apply Classical.byContradiction
  intro hc
  rw [A3L hc] at hops; omega
 obtain ⟨tyk, tyks⟩ := ty
 obtain ⟨fk, fks⟩ := fr
 obtain ⟨pt, ct, pf, cf, pk, ck, ek, rfl, hk, hnum, hlb, hrty, hrfr, _, _⟩ := hr.open9
 refine C7 Tryz.func63 rfl Tryz.ntmps63 Tryz.results63 rfl ?_
 intro w0
 refine A4 ?_
 refine sE (D5 rfl rfl) rfl (fun b3 => ?_)
 refine F8 ?_
 refine sE (A8 rfl) rfl (fun b5 => ?_)
 refine A9 ?_
 refine E6 rfl ((A1G _ _)) rfl rfl ?_
 refine E6 rfl ((A1G _ _)) rfl rfl ?_
 refine sE (A8 rfl) rfl (fun b13 => ?_)
 refine sE (A8 rfl) rfl (fun b14 => ?_)
 refine I3 ?_
 refine C2 (tS (tR (sB (qE rfl rfl) rfl rfl (fun h29 => ?_) (fun h29 => ?_))))
 refine D9 ?_
 (refine F9 rfl (B4w G cx pc nc cc nm hx) rfl rfl (fun v G1 hle1 hh => ?_); obtain ⟨cu, u, rfl, hru, hu⟩ := hh; obtain ⟨p1, c1, e1, rfl, _⟩ := hru.open)
 refine B3 ?_
 refine sE (A8 rfl) rfl (fun b43 => ?_)
 refine A9 ?_
 refine D2 D3 rfl ?_
 refine M3 (i := 0) (l' := [tt,ff,ff,ff,ff]) rfl C8 (A3 rfl rfl) rfl zU rfl rfl ?_
 refine aP 1 rfl (qM rfl) rfl ?_
 refine aP 2 rfl (qA rfl) rfl ?_
 refine A1 3 ?_
 refine E4 rfl ?_
 refine aP 4 rfl (qA rfl) rfl ?_
 refine A9 ?_
 refine H5 (rT rfl) (rC rfl (A3 rfl rfl)) (rT rfl) ?_
 (have hk1 : k = 1 := zW; subst hk1; rw [mW1]; refine L2.nil hru ?_; generalize O9 cx nm = r at hu ⊢; cases r with | none => rfl | some t => (rw [hu t rfl]; rfl))
 refine A7 ?_
 refine sB (qE rfl rfl) rfl rfl (fun h69 => ?_) (fun h69 => ?_)
 refine A9 ?_
 refine D2 D3 rfl ?_
 refine M3 (i := 0) (l' := [tt,ff,ff,ff]) rfl C8 (A3 rfl rfl) rfl zU rfl rfl ?_
 refine aP 1 rfl (qA rfl) rfl ?_
 refine A1 2 ?_
 refine E4 rfl ?_
 refine aP 3 rfl (qA rfl) rfl ?_
 refine A9 ?_
 refine H5 (rT rfl) (rC rfl (A3 rfl rfl)) (rT rfl) ?_
 (have hk1 : k = 2 := zW; subst hk1; exact L2.nil (K0 _) mW2)
 refine B5 ?_
 refine sB (qE rfl rfl) rfl rfl (fun h95 => ?_) (fun h95 => ?_)
 refine E7 ?_
 exact y19
 refine A9 ?_
 refine sB (qE rfl rfl) rfl rfl (fun h122 => ?_) (fun h122 => ?_)
 refine A9 ?_
 exact y19
 refine A7 ?_
 refine sB (qE rfl rfl) rfl rfl (fun h147 => ?_) (fun h147 => ?_)
 refine A9 ?_
 (have hl1 : n = 1 := hop.2.2 zW; obtain ⟨b0, o0, q0, d0, hp0, hat0, hre0, hg0⟩ := hsl.kidD hkl (i := 0) zW zW; cases hp0; refine D2 D3 rfl ?_)
 refine H1 (i := 0) (l' := [tt,ff,ff,ff,ff,ff,ff,ff,ff]) rfl C8 (C0 rfl) rfl zU rfl rfl ?_
 refine aL 1 rfl (A3 rfl rfl) rfl ?_
 refine aP 2 rfl (qM rfl) rfl ?_
 refine aP 3 rfl (B1 (j := 0) rfl rfl rfl zW) rfl ?_
 refine aL 4 rfl (A5 rfl rfl (hat0 _) rfl) rfl ?_
 refine A1 5 ?_
 (refine E1 rfl rfl (A13 4 _ _ _ _ _ ⟨by omega, by omega⟩ hrty hre0) rfl rfl rfl (fun v GB hleB hh => ?_); obtain ⟨cB, rfl, hrB⟩ := hh; obtain ⟨p7, c7, e7, rfl, _⟩ := hrB.open)
 refine aP 6 rfl (qA rfl) rfl ?_
 refine A1 7 ?_
 refine E4 rfl ?_
 refine aP 8 rfl (qA rfl) rfl ?_
 refine A9 ?_
 refine H5 (rT rfl) (rC rfl (A3 rfl rfl)) (rT rfl) ?_
 (have hk1 : k = 5 := zW; subst hk1; exact L2.nil hrB mW5)
 refine A7 ?_
 refine sB (qE rfl rfl) rfl rfl (fun h178 => ?_) (fun h178 => ?_)
 refine B5 ?_
 (have hl2 : n = 2 := hop.1 zW; obtain ⟨b0, o0, q0, d0, hp0, hat0, hre0, hg0⟩ := hsl.kidD hkl (i := 0) zW zW; cases hp0; refine sP (B1 (j := 0) rfl rfl rfl zW) rfl rfl ?_)
 refine sL (A5 rfl rfl (hat0 _) rfl) rfl rfl ?_
 (refine F9 rfl (A9s 4 (h.getD 0 B4) G _ (.inl rfl) (A3b har zW) hre0) rfl rfl (fun v G1 hle1 hh => ?_); obtain ⟨ma, mca, mb, mcb, rfl, hma, hmb, hma2, hmb2, hmm⟩ := hh; obtain ⟨p1, c1, e1, rfl, _⟩ := hma.open; obtain ⟨p2, c2, e2, rfl, _⟩ := hmb.open; replace hsl := hsl.mono hle1; replace hkl := hkl.mono hle1; generalize hmi : (Z1 4 (h.getD 0 B4)).isSome = mi; cases mi)
 refine C3 ?_
 refine sE (A8 rfl) rfl (fun b193 => ?_)
 refine sE (A8 rfl) rfl (fun b194 => ?_)
 refine A7 ?_
 (have hl2 : n = 2 := hop.1 zW; obtain ⟨b0, o0, q0, d0, hp0, hat0, hre0, hg0⟩ := hsl.kidD hkl (i := 0) zW zW; obtain ⟨b1, o1, q1, d1, hp1, hat1, hre1, hg1⟩ := hsl.kidD hkl (i := 1) zW zW; cases hp0; cases hp1; refine D2 D3 rfl ?_)
 refine M3 (i := 0) (l' := [tt,ff,ff,ff,ff,ff,ff,ff,ff,ff,ff,ff,ff,ff,ff,ff,ff]) rfl C8 (A3 rfl rfl) rfl zU rfl rfl ?_
 refine aL 1 rfl (A3 rfl rfl) rfl ?_
 refine aL 3 rfl (A3 rfl rfl) rfl ?_
 refine aL 5 rfl (A3 rfl rfl) rfl ?_
 refine aP 6 rfl (qM rfl) rfl ?_
 refine A1 2 ?_
 (refine E1 rfl rfl (A13 _ ma mb _ _ _ ⟨by omega, by omega⟩ hma hmb) rfl rfl rfl (fun v GB hleB hh => ?_); obtain ⟨cB, rfl, hrB⟩ := hh; obtain ⟨p7, c7, e7, rfl, _⟩ := hrB.open; have hma' := hma.mono hleB; have hmb' := hmb.mono hleB)
 refine aP 7 rfl (qM rfl) rfl ?_
 refine B9 8 rfl rfl rfl ?_
 refine B9 9 rfl rfl rfl ?_
 refine B9 10 rfl rfl rfl ?_
 refine B9 11 rfl rfl rfl ?_
 refine N3 (j := 4) (j' := 12) zU ?_ ?_
 (refine D1 rfl (C9 rfl rfl rfl zW zR rfl) rfl rfl ?_; rintro _ ⟨b215, rfl⟩)
 refine B9 12 rfl rfl rfl ?_
 refine aP 13 rfl (O2 rfl rfl) rfl ?_
 refine aP 14 rfl (qA rfl) rfl ?_
 refine A1 15 ?_
 refine E4 rfl ?_
 refine aP 16 rfl (qA rfl) rfl ?_
 refine A4 ?_
 (refine F6 Pk.here (fun G5 hle5 hsl5 hno5 => ?_))
 refine B3 ?_
 refine H5 (rT rfl) (rC rfl (A3 rfl rfl)) (rT rfl) ?_
 (have hk1 : k = 6 := zW; subst hk1; refine L2.two hsl5 (hrB.mono hle5) (hma'.mono hle5) (hmb'.mono hle5) ?_; rw [mW6]; cases hq : Z1 4 (h.getD 0 B4) with | none => rfl | some q => (rw [hq] at hmi; cases hmi))
 refine A51 (l' := [tt,tt,tt,tt,ff,tt,tt,tt,tt,tt,tt,tt,tt,ff,ff,ff,ff]) rfl rfl rfl rfl ?_
 refine aP 13 rfl (O2 rfl rfl) rfl ?_
 refine A1 4 ?_
 (refine D1 rfl (C9 rfl rfl rfl zW zR rfl) rfl rfl ?_; rintro _ ⟨b233, rfl⟩)
 refine aP 14 rfl (qA rfl) rfl ?_
 refine A1 15 ?_
 refine E4 rfl ?_
 refine aP 16 rfl (qA rfl) rfl ?_
 refine A4 ?_
 (refine F6 Pk.here (fun G5 hle5 hsl5 hno5 => ?_))
 refine B3 ?_
 refine H5 (rT rfl) (rC rfl (A3 rfl rfl)) (rT rfl) ?_
 (have hk1 : k = 6 := zW; subst hk1; refine L2.two hsl5 (hrB.mono hle5) (hma'.mono hle5) (hmb'.mono hle5) ?_; rw [mW6]; cases hq : Z1 4 (h.getD 0 B4) with | none => rfl | some q => (rw [hq] at hmi; cases hmi))
 refine C3 ?_
 refine sE (A8 rfl) rfl (fun b250 => ?_)
 refine sE (A8 rfl) rfl (fun b251 => ?_)
 refine A7 ?_
 (have hl2 : n = 2 := hop.1 zW; obtain ⟨b0, o0, q0, d0, hp0, hat0, hre0, hg0⟩ := hsl.kidD hkl (i := 0) zW zW; obtain ⟨b1, o1, q1, d1, hp1, hat1, hre1, hg1⟩ := hsl.kidD hkl (i := 1) zW zW; cases hp0; cases hp1; refine D2 D3 rfl ?_)
 refine M3 (i := 0) (l' := [tt,ff,ff,ff,ff,ff,ff,ff,ff,ff,ff,ff,ff,ff,ff,ff,ff]) rfl C8 (A3 rfl rfl) rfl zU rfl rfl ?_
 refine aL 1 rfl (A3 rfl rfl) rfl ?_
 refine aL 3 rfl (A3 rfl rfl) rfl ?_
 refine aL 5 rfl (A3 rfl rfl) rfl ?_
 refine aP 6 rfl (qM rfl) rfl ?_
 refine A1 2 ?_
 (refine E1 rfl rfl (A13 _ ma mb _ _ _ ⟨by omega, by omega⟩ hma hmb) rfl rfl rfl (fun v GB hleB hh => ?_); obtain ⟨cB, rfl, hrB⟩ := hh; obtain ⟨p7, c7, e7, rfl, _⟩ := hrB.open; have hma' := hma.mono hleB; have hmb' := hmb.mono hleB)
 refine aP 7 rfl (qM rfl) rfl ?_
 refine aP 8 rfl (qM rfl) rfl ?_
 refine aP 9 rfl (B1 (j := 1) rfl rfl rfl zW) rfl ?_
 refine aL 10 rfl (A5 rfl rfl (At.mono' hleB (hat1 _)) rfl) rfl ?_
 refine aL 11 rfl (A3 rfl rfl) rfl ?_
 refine N3 (j := 4) (j' := 12) zU ?_ ?_
 (refine D1 rfl (C9 rfl rfl rfl zW zR rfl) rfl rfl ?_; rintro _ ⟨b272, rfl⟩)
 refine A1 12 ?_
 refine Q3 rfl rfl ((Y0 _ _ _ _ _ (hre1.mono hleB) hma')) rfl rfl rfl (fun h274 => ?_) (fun h274 => ?_)
 refine aP 13 rfl (M4 rfl rfl) rfl ?_
 refine aP 14 rfl (qA rfl) rfl ?_
 refine A1 15 ?_
 refine E4 rfl ?_
 refine aP 16 rfl (qA rfl) rfl ?_
 refine A4 ?_
 (refine F6 Pk.here (fun G5 hle5 hsl5 hno5 => ?_))
 refine B3 ?_
 refine H5 (rT rfl) (rC rfl (A3 rfl rfl)) (rT rfl) ?_
 (have hk1 : k = 6 := zW; subst hk1; refine L2.two hsl5 (hrB.mono hle5) (hma'.mono hle5) (hmb'.mono hle5) ?_; rw [mW6]; cases hq : Z1 4 (h.getD 0 B4) with | none => (rw [hq] at hmi; cases hmi) | some q => (have hq2 := hmm q hq; subst hq2; dsimp only; split <;> first | rfl | (exfalso; simp_all; done)))
 refine aP 13 rfl (M4 rfl rfl) rfl ?_
 refine aP 14 rfl (qA rfl) rfl ?_
 refine A1 15 ?_
 refine E4 rfl ?_
 refine aP 16 rfl (qA rfl) rfl ?_
 refine A4 ?_
 (refine F6 Pk.here (fun G5 hle5 hsl5 hno5 => ?_))
 refine B3 ?_
 refine H5 (rT rfl) (rC rfl (A3 rfl rfl)) (rT rfl) ?_
 (have hk1 : k = 6 := zW; subst hk1; refine L2.two hsl5 (hrB.mono hle5) (hma'.mono hle5) (hmb'.mono hle5) ?_; rw [mW6]; cases hq : Z1 4 (h.getD 0 B4) with | none => (rw [hq] at hmi; cases hmi) | some q => (have hq2 := hmm q hq; subst hq2; dsimp only; split <;> first | rfl | (exfalso; simp_all; done)))
 refine Q3 rfl rfl ((Y0 _ _ _ _ _ (hre1.mono hleB) hma')) rfl rfl rfl (fun h301 => ?_) (fun h301 => ?_)
 refine aP 13 rfl (M4 rfl rfl) rfl ?_
 refine A1 4 ?_
 (refine D1 rfl (C9 rfl rfl rfl zW zR rfl) rfl rfl ?_; rintro _ ⟨b304, rfl⟩)
 refine aP 14 rfl (qA rfl) rfl ?_
 refine A1 15 ?_
 refine E4 rfl ?_
 refine aP 16 rfl (qA rfl) rfl ?_
 refine A4 ?_
 (refine F6 Pk.here (fun G5 hle5 hsl5 hno5 => ?_))
 refine B3 ?_
 refine H5 (rT rfl) (rC rfl (A3 rfl rfl)) (rT rfl) ?_
 (have hk1 : k = 6 := zW; subst hk1; refine L2.two hsl5 (hrB.mono hle5) (hma'.mono hle5) (hmb'.mono hle5) ?_; rw [mW6]; cases hq : Z1 4 (h.getD 0 B4) with | none => (rw [hq] at hmi; cases hmi) | some q => (have hq2 := hmm q hq; subst hq2; dsimp only; split <;> first | rfl | (exfalso; simp_all; done)))
 refine aP 13 rfl (M4 rfl rfl) rfl ?_
 refine A1 4 ?_
 (refine D1 rfl (C9 rfl rfl rfl zW zR rfl) rfl rfl ?_; rintro _ ⟨b319, rfl⟩)
 refine aP 14 rfl (qA rfl) rfl ?_
 refine A1 15 ?_
 refine E4 rfl ?_
 refine aP 16 rfl (qA rfl) rfl ?_
 refine A4 ?_
 (refine F6 Pk.here (fun G5 hle5 hsl5 hno5 => ?_))
 refine B3 ?_
 refine H5 (rT rfl) (rC rfl (A3 rfl rfl)) (rT rfl) ?_
 (have hk1 : k = 6 := zW; subst hk1; refine L2.two hsl5 (hrB.mono hle5) (hma'.mono hle5) (hmb'.mono hle5) ?_; rw [mW6]; cases hq : Z1 4 (h.getD 0 B4) with | none => (rw [hq] at hmi; cases hmi) | some q => (have hq2 := hmm q hq; subst hq2; dsimp only; split <;> first | rfl | (exfalso; simp_all; done)))
 refine B5 ?_
 refine sB (qE rfl rfl) rfl rfl (fun h339 => ?_) (fun h339 => ?_)
 refine I2 ?_
 refine sE (A8 rfl) rfl (fun b350 => ?_)
 refine E7 ?_
 refine sP (F0 rfl rfl zW) rfl rfl ?_
 refine A7 ?_
 (have hl2 : n = 2 := hop.1 zW; obtain ⟨b0, o0, q0, d0, hp0, hat0, hre0, hg0⟩ := hsl.kidD hkl (i := 0) zW zW; obtain ⟨b1, o1, q1, d1, hp1, hat1, hre1, hg1⟩ := hsl.kidD hkl (i := 1) zW zW; cases hp0; cases hp1; refine D2 D3 rfl ?_)
 refine M3 (i := 0) (l' := [tt,ff,ff,ff,ff,ff,ff,ff,ff,ff,ff,ff,ff,ff,ff,ff,ff,ff,ff]) rfl C8 (A3 rfl rfl) rfl zU rfl rfl ?_
 refine aL 1 rfl (A3 rfl rfl) rfl ?_
 refine aL 3 rfl (A3 rfl rfl) rfl ?_
 refine aP 4 rfl (qM rfl) rfl ?_
 refine aP 5 rfl (B1 (j := 0) rfl rfl rfl zW) rfl ?_
 refine aL 6 rfl (A5 rfl rfl (hat0 _) rfl) rfl ?_
 refine aL 7 rfl (A3 rfl rfl) rfl ?_
 refine N3 (j := 2) (j' := 8) zU ?_ ?_
 (refine D1 rfl (C9 rfl rfl rfl zW zR rfl) rfl rfl ?_; rintro _ ⟨b375, rfl⟩)
 refine A1 8 ?_
 refine Q3 rfl rfl ((Y0 _ _ _ _ _ hre0 (K0 _))) rfl rfl rfl (fun h377 => ?_) (fun h377 => ?_)
 refine aP 9 rfl (qM rfl) rfl ?_
 refine aP 10 rfl (qM rfl) rfl ?_
 refine aP 11 rfl (B1 (j := 1) rfl rfl rfl zW) rfl ?_
 refine aL 12 rfl (A5 rfl rfl (hat1 _) rfl) rfl ?_
 refine aL 13 rfl (A3 rfl rfl) rfl ?_
 refine A1 14 ?_
 refine Q3 rfl rfl ((Y0 _ _ _ _ _ hre1 (K0 _))) rfl rfl rfl (fun h384 => ?_) (fun h384 => ?_)
 refine aP 15 rfl (M4 rfl rfl) rfl ?_
 refine aP 16 rfl (qA rfl) rfl ?_
 refine A1 17 ?_
 refine E4 rfl ?_
 refine aP 18 rfl (qA rfl) rfl ?_
 refine A4 ?_
 (refine F6 Pk.here (fun G5 hle5 hsl5 hno5 => ?_))
 refine B3 ?_
 refine H5 (rT rfl) (rC rfl (A3 rfl rfl)) (rT rfl) ?_
 (refine L2.two hsl5 (K0 _) (K0 _) (K0 _) ?_; rw [W5 zW]; first | (rw [if_pos ⟨by assumption, by assumption⟩, if_neg zW]; rfl) | (rw [if_neg (fun hc => by first | exact Bool.noConfusion (hc.1.symm.trans zT) | exact Bool.noConfusion (hc.2.symm.trans zT) | exact Bool.noConfusion (hc.symm.trans zT))]; rfl))
 refine aP 15 rfl (M4 rfl rfl) rfl ?_
 refine aP 16 rfl (qA rfl) rfl ?_
 refine A1 17 ?_
 refine E4 rfl ?_
 refine aP 18 rfl (qA rfl) rfl ?_
 refine A4 ?_
 (refine F6 Pk.here (fun G5 hle5 hsl5 hno5 => ?_))
 refine B3 ?_
 refine H5 (rT rfl) (rC rfl (A3 rfl rfl)) (rT rfl) ?_
 (refine L2.two hsl5 (K0 _) (K0 _) (K0 _) ?_; rw [W5 zW]; first | (rw [if_pos ⟨by assumption, by assumption⟩, if_neg zW]; rfl) | (rw [if_neg (fun hc => by first | exact Bool.noConfusion (hc.1.symm.trans zT) | exact Bool.noConfusion (hc.2.symm.trans zT) | exact Bool.noConfusion (hc.symm.trans zT))]; rfl))
 refine aP 9 rfl (qM rfl) rfl ?_
 refine B9 10 rfl rfl rfl ?_
 refine B9 11 rfl rfl rfl ?_
 refine B9 12 rfl rfl rfl ?_
 refine B9 13 rfl rfl rfl ?_
 refine B9 14 rfl rfl rfl ?_
 refine aP 15 rfl (O2 rfl rfl) rfl ?_
 refine aP 16 rfl (qA rfl) rfl ?_
 refine A1 17 ?_
 refine E4 rfl ?_
 refine aP 18 rfl (qA rfl) rfl ?_
 refine A4 ?_
 (refine F6 Pk.here (fun G5 hle5 hsl5 hno5 => ?_))
 refine B3 ?_
 refine H5 (rT rfl) (rC rfl (A3 rfl rfl)) (rT rfl) ?_
 (refine L2.two hsl5 (K0 _) (K0 _) (K0 _) ?_; rw [W5 zW]; first | (rw [if_pos ⟨by assumption, by assumption⟩, if_neg zW]; rfl) | (rw [if_neg (fun hc => by first | exact Bool.noConfusion (hc.1.symm.trans zT) | exact Bool.noConfusion (hc.2.symm.trans zT) | exact Bool.noConfusion (hc.symm.trans zT))]; rfl))
 refine Q3 rfl rfl ((Y0 _ _ _ _ _ hre0 (K0 _))) rfl rfl rfl (fun h430 => ?_) (fun h430 => ?_)
 refine aP 9 rfl (qM rfl) rfl ?_
 refine aP 10 rfl (qM rfl) rfl ?_
 refine aP 11 rfl (B1 (j := 1) rfl rfl rfl zW) rfl ?_
 refine aL 12 rfl (A5 rfl rfl (hat1 _) rfl) rfl ?_
 refine aL 13 rfl (A3 rfl rfl) rfl ?_
 refine N3 (j := 2) (j' := 14) zU ?_ ?_
 (refine D1 rfl (C9 rfl rfl rfl zW zR rfl) rfl rfl ?_; rintro _ ⟨b437, rfl⟩)
 refine A1 14 ?_
 refine Q3 rfl rfl ((Y0 _ _ _ _ _ hre1 (K0 _))) rfl rfl rfl (fun h439 => ?_) (fun h439 => ?_)
 refine aP 15 rfl (M4 rfl rfl) rfl ?_
 refine aP 16 rfl (qA rfl) rfl ?_
 refine A1 17 ?_
 refine E4 rfl ?_
 refine aP 18 rfl (qA rfl) rfl ?_
 refine A4 ?_
 (refine F6 Pk.here (fun G5 hle5 hsl5 hno5 => ?_))
 refine B3 ?_
 refine H5 (rT rfl) (rC rfl (A3 rfl rfl)) (rT rfl) ?_
 (refine L2.two hsl5 (K0 _) (K0 _) (K0 _) ?_; rw [W5 zW]; first | (rw [if_pos ⟨by assumption, by assumption⟩, if_neg zW]; rfl) | (rw [if_neg (fun hc => by first | exact Bool.noConfusion (hc.1.symm.trans zT) | exact Bool.noConfusion (hc.2.symm.trans zT) | exact Bool.noConfusion (hc.symm.trans zT))]; rfl))
 refine aP 15 rfl (M4 rfl rfl) rfl ?_
 refine aP 16 rfl (qA rfl) rfl ?_
 refine A1 17 ?_
 refine E4 rfl ?_
 refine aP 18 rfl (qA rfl) rfl ?_
 refine A4 ?_
 (refine F6 Pk.here (fun G5 hle5 hsl5 hno5 => ?_))
 refine B3 ?_
 refine H5 (rT rfl) (rC rfl (A3 rfl rfl)) (rT rfl) ?_
 (refine L2.two hsl5 (K0 _) (K0 _) (K0 _) ?_; rw [W5 zW]; first | (rw [if_pos ⟨by assumption, by assumption⟩, if_neg zW]; rfl) | (rw [if_neg (fun hc => by first | exact Bool.noConfusion (hc.1.symm.trans zT) | exact Bool.noConfusion (hc.2.symm.trans zT) | exact Bool.noConfusion (hc.symm.trans zT))]; rfl))
 refine Q3 rfl rfl ((Y0 _ _ _ _ _ hre1 (K0 _))) rfl rfl rfl (fun h466 => ?_) (fun h466 => ?_)
 refine aP 15 rfl (M4 rfl rfl) rfl ?_
 refine A1 2 ?_
 (refine D1 rfl (C9 rfl rfl rfl zW zR rfl) rfl rfl ?_; rintro _ ⟨b469, rfl⟩)
 refine aP 16 rfl (qA rfl) rfl ?_
 refine A1 17 ?_
 refine E4 rfl ?_
 refine aP 18 rfl (qA rfl) rfl ?_
 refine A4 ?_
 (refine F6 Pk.here (fun G5 hle5 hsl5 hno5 => ?_))
 refine B3 ?_
 refine H5 (rT rfl) (rC rfl (A3 rfl rfl)) (rT rfl) ?_
 (refine L2.two hsl5 (K0 _) (K0 _) (K0 _) ?_; rw [W5 zW]; first | (rw [if_pos ⟨by assumption, by assumption⟩, if_neg zW]; rfl) | (rw [if_neg (fun hc => by first | exact Bool.noConfusion (hc.1.symm.trans zT) | exact Bool.noConfusion (hc.2.symm.trans zT) | exact Bool.noConfusion (hc.symm.trans zT))]; rfl))
 refine aP 15 rfl (M4 rfl rfl) rfl ?_
 refine A1 2 ?_
 (refine D1 rfl (C9 rfl rfl rfl zW zR rfl) rfl rfl ?_; rintro _ ⟨b484, rfl⟩)
 refine aP 16 rfl (qA rfl) rfl ?_
 refine A1 17 ?_
 refine E4 rfl ?_
 refine aP 18 rfl (qA rfl) rfl ?_
 refine A4 ?_
 (refine F6 Pk.here (fun G5 hle5 hsl5 hno5 => ?_))
 refine B3 ?_
 refine H5 (rT rfl) (rC rfl (A3 rfl rfl)) (rT rfl) ?_
 (refine L2.two hsl5 (K0 _) (K0 _) (K0 _) ?_; rw [W5 zW]; first | (rw [if_pos ⟨by assumption, by assumption⟩, if_neg zW]; rfl) | (rw [if_neg (fun hc => by first | exact Bool.noConfusion (hc.1.symm.trans zT) | exact Bool.noConfusion (hc.2.symm.trans zT) | exact Bool.noConfusion (hc.symm.trans zT))]; rfl))
 refine aP 9 rfl (qM rfl) rfl ?_
 refine B9 10 rfl rfl rfl ?_
 refine B9 11 rfl rfl rfl ?_
 refine B9 12 rfl rfl rfl ?_
 refine B9 13 rfl rfl rfl ?_
 refine N3 (j := 2) (j' := 14) zU ?_ ?_
 (refine D1 rfl (C9 rfl rfl rfl zW zR rfl) rfl rfl ?_; rintro _ ⟨b503, rfl⟩)
 refine B9 14 rfl rfl rfl ?_
 refine aP 15 rfl (O2 rfl rfl) rfl ?_
 refine aP 16 rfl (qA rfl) rfl ?_
 refine A1 17 ?_
 refine E4 rfl ?_
 refine aP 18 rfl (qA rfl) rfl ?_
 refine A4 ?_
 (refine F6 Pk.here (fun G5 hle5 hsl5 hno5 => ?_))
 refine B3 ?_
 refine H5 (rT rfl) (rC rfl (A3 rfl rfl)) (rT rfl) ?_
 (refine L2.two hsl5 (K0 _) (K0 _) (K0 _) ?_; rw [W5 zW]; first | (rw [if_pos ⟨by assumption, by assumption⟩, if_neg zW]; rfl) | (rw [if_neg (fun hc => by first | exact Bool.noConfusion (hc.1.symm.trans zT) | exact Bool.noConfusion (hc.2.symm.trans zT) | exact Bool.noConfusion (hc.symm.trans zT))]; rfl))
 refine A51 (l' := [tt,tt,ff,tt,tt,tt,tt,tt,tt,tt,tt,tt,tt,tt,tt,ff,ff,ff,ff]) rfl rfl rfl rfl ?_
 refine aP 15 rfl (O2 rfl rfl) rfl ?_
 refine A1 2 ?_
 (refine D1 rfl (C9 rfl rfl rfl zW zR rfl) rfl rfl ?_; rintro _ ⟨b521, rfl⟩)
 refine aP 16 rfl (qA rfl) rfl ?_
 refine A1 17 ?_
 refine E4 rfl ?_
 refine aP 18 rfl (qA rfl) rfl ?_
 refine A4 ?_
 (refine F6 Pk.here (fun G5 hle5 hsl5 hno5 => ?_))
 refine B3 ?_
 refine H5 (rT rfl) (rC rfl (A3 rfl rfl)) (rT rfl) ?_
 (refine L2.two hsl5 (K0 _) (K0 _) (K0 _) ?_; rw [W5 zW]; first | (rw [if_pos ⟨by assumption, by assumption⟩, if_neg zW]; rfl) | (rw [if_neg (fun hc => by first | exact Bool.noConfusion (hc.1.symm.trans zT) | exact Bool.noConfusion (hc.2.symm.trans zT) | exact Bool.noConfusion (hc.symm.trans zT))]; rfl))
 refine A9 ?_
 refine sB (qE rfl rfl) rfl rfl (fun h539 => ?_) (fun h539 => ?_)
 refine B5 ?_
 refine sE (A8 rfl) rfl (fun b547 => ?_)
 refine E7 ?_
 refine sP (L9 rfl rfl zW) rfl rfl ?_
 refine D9 ?_
 (have hl2 : n = 2 := hop.1 zW; obtain ⟨b0, o0, q0, d0, hp0, hat0, hre0, hg0⟩ := hsl.kidD hkl (i := 0) zW zW; obtain ⟨b1, o1, q1, d1, hp1, hat1, hre1, hg1⟩ := hsl.kidD hkl (i := 1) zW zW; cases hp0; cases hp1; refine D2 D3 rfl ?_)
 refine M3 (i := 0) (l' := [tt,ff,ff,ff,ff,ff,ff,ff,ff,ff,ff,ff,ff,ff,ff,ff,ff,ff,ff]) rfl C8 (A3 rfl rfl) rfl zU rfl rfl ?_
 refine aL 1 rfl (A3 rfl rfl) rfl ?_
 refine aL 3 rfl (A3 rfl rfl) rfl ?_
 refine aP 4 rfl (qM rfl) rfl ?_
 refine aP 5 rfl (B1 (j := 0) rfl rfl rfl zW) rfl ?_
 refine aL 6 rfl (A5 rfl rfl (hat0 _) rfl) rfl ?_
 refine aL 7 rfl (A3 rfl rfl) rfl ?_
 refine N3 (j := 2) (j' := 8) zU ?_ ?_
 (refine D1 rfl (C9 rfl rfl rfl zW zR rfl) rfl rfl ?_; rintro _ ⟨b575, rfl⟩)
 refine A1 8 ?_
 refine Q3 rfl rfl ((Y0 _ _ _ _ _ hre0 (K0 _))) rfl rfl rfl (fun h577 => ?_) (fun h577 => ?_)
 refine aP 9 rfl (qM rfl) rfl ?_
 refine aP 10 rfl (qM rfl) rfl ?_
 refine aP 11 rfl (B1 (j := 1) rfl rfl rfl zW) rfl ?_
 refine aL 12 rfl (A5 rfl rfl (hat1 _) rfl) rfl ?_
 refine aL 13 rfl (A3 rfl rfl) rfl ?_
 refine A1 14 ?_
 refine Q3 rfl rfl ((Y0 _ _ _ _ _ hre1 (K0 _))) rfl rfl rfl (fun h584 => ?_) (fun h584 => ?_)
 refine aP 15 rfl (M4 rfl rfl) rfl ?_
 refine aP 16 rfl (qA rfl) rfl ?_
 refine A1 17 ?_
 refine E4 rfl ?_
 refine aP 18 rfl (qA rfl) rfl ?_
 refine A4 ?_
 (refine F6 Pk.here (fun G5 hle5 hsl5 hno5 => ?_))
 refine B3 ?_
 refine H5 (rT rfl) (rC rfl (A3 rfl rfl)) (rT rfl) ?_
 (refine L2.two hsl5 (K0 _) (K0 _) (W6 _) ?_; rw [W5 zW]; first | (rw [if_pos ⟨by assumption, by assumption⟩, if_pos zW]; rfl) | (rw [if_neg (fun hc => by first | exact Bool.noConfusion (hc.1.symm.trans zT) | exact Bool.noConfusion (hc.2.symm.trans zT) | exact Bool.noConfusion (hc.symm.trans zT))]; rfl))
 refine aP 15 rfl (M4 rfl rfl) rfl ?_
 refine aP 16 rfl (qA rfl) rfl ?_
 refine A1 17 ?_
 refine E4 rfl ?_
 refine aP 18 rfl (qA rfl) rfl ?_
 refine A4 ?_
 (refine F6 Pk.here (fun G5 hle5 hsl5 hno5 => ?_))
 refine B3 ?_
 refine H5 (rT rfl) (rC rfl (A3 rfl rfl)) (rT rfl) ?_
 (refine L2.two hsl5 (K0 _) (K0 _) (W6 _) ?_; rw [W5 zW]; first | (rw [if_pos ⟨by assumption, by assumption⟩, if_pos zW]; rfl) | (rw [if_neg (fun hc => by first | exact Bool.noConfusion (hc.1.symm.trans zT) | exact Bool.noConfusion (hc.2.symm.trans zT) | exact Bool.noConfusion (hc.symm.trans zT))]; rfl))
 refine aP 9 rfl (qM rfl) rfl ?_
 refine B9 10 rfl rfl rfl ?_
 refine B9 11 rfl rfl rfl ?_
 refine B9 12 rfl rfl rfl ?_
 refine B9 13 rfl rfl rfl ?_
 refine B9 14 rfl rfl rfl ?_
 refine aP 15 rfl (O2 rfl rfl) rfl ?_
 refine aP 16 rfl (qA rfl) rfl ?_
 refine A1 17 ?_
 refine E4 rfl ?_
 refine aP 18 rfl (qA rfl) rfl ?_
 refine A4 ?_
 (refine F6 Pk.here (fun G5 hle5 hsl5 hno5 => ?_))
 refine B3 ?_
 refine H5 (rT rfl) (rC rfl (A3 rfl rfl)) (rT rfl) ?_
 (refine L2.two hsl5 (K0 _) (K0 _) (W6 _) ?_; rw [W5 zW]; first | (rw [if_pos ⟨by assumption, by assumption⟩, if_pos zW]; rfl) | (rw [if_neg (fun hc => by first | exact Bool.noConfusion (hc.1.symm.trans zT) | exact Bool.noConfusion (hc.2.symm.trans zT) | exact Bool.noConfusion (hc.symm.trans zT))]; rfl))
 refine Q3 rfl rfl ((Y0 _ _ _ _ _ hre0 (K0 _))) rfl rfl rfl (fun h630 => ?_) (fun h630 => ?_)
 refine aP 9 rfl (qM rfl) rfl ?_
 refine aP 10 rfl (qM rfl) rfl ?_
 refine aP 11 rfl (B1 (j := 1) rfl rfl rfl zW) rfl ?_
 refine aL 12 rfl (A5 rfl rfl (hat1 _) rfl) rfl ?_
 refine aL 13 rfl (A3 rfl rfl) rfl ?_
 refine N3 (j := 2) (j' := 14) zU ?_ ?_
 (refine D1 rfl (C9 rfl rfl rfl zW zR rfl) rfl rfl ?_; rintro _ ⟨b637, rfl⟩)
 refine A1 14 ?_
 refine Q3 rfl rfl ((Y0 _ _ _ _ _ hre1 (K0 _))) rfl rfl rfl (fun h639 => ?_) (fun h639 => ?_)
 refine aP 15 rfl (M4 rfl rfl) rfl ?_
 refine aP 16 rfl (qA rfl) rfl ?_
 refine A1 17 ?_
 refine E4 rfl ?_
 refine aP 18 rfl (qA rfl) rfl ?_
 refine A4 ?_
 (refine F6 Pk.here (fun G5 hle5 hsl5 hno5 => ?_))
 refine B3 ?_
 refine H5 (rT rfl) (rC rfl (A3 rfl rfl)) (rT rfl) ?_
 (refine L2.two hsl5 (K0 _) (K0 _) (W6 _) ?_; rw [W5 zW]; first | (rw [if_pos ⟨by assumption, by assumption⟩, if_pos zW]; rfl) | (rw [if_neg (fun hc => by first | exact Bool.noConfusion (hc.1.symm.trans zT) | exact Bool.noConfusion (hc.2.symm.trans zT) | exact Bool.noConfusion (hc.symm.trans zT))]; rfl))
 refine aP 15 rfl (M4 rfl rfl) rfl ?_
 refine aP 16 rfl (qA rfl) rfl ?_
 refine A1 17 ?_
 refine E4 rfl ?_
 refine aP 18 rfl (qA rfl) rfl ?_
 refine A4 ?_
 (refine F6 Pk.here (fun G5 hle5 hsl5 hno5 => ?_))
 refine B3 ?_
 refine H5 (rT rfl) (rC rfl (A3 rfl rfl)) (rT rfl) ?_
 (refine L2.two hsl5 (K0 _) (K0 _) (W6 _) ?_; rw [W5 zW]; first | (rw [if_pos ⟨by assumption, by assumption⟩, if_pos zW]; rfl) | (rw [if_neg (fun hc => by first | exact Bool.noConfusion (hc.1.symm.trans zT) | exact Bool.noConfusion (hc.2.symm.trans zT) | exact Bool.noConfusion (hc.symm.trans zT))]; rfl))
 refine Q3 rfl rfl ((Y0 _ _ _ _ _ hre1 (K0 _))) rfl rfl rfl (fun h666 => ?_) (fun h666 => ?_)
 refine aP 15 rfl (M4 rfl rfl) rfl ?_
 refine A1 2 ?_
 (refine D1 rfl (C9 rfl rfl rfl zW zR rfl) rfl rfl ?_; rintro _ ⟨b669, rfl⟩)
 refine aP 16 rfl (qA rfl) rfl ?_
 refine A1 17 ?_
 refine E4 rfl ?_
 refine aP 18 rfl (qA rfl) rfl ?_
 refine A4 ?_
 (refine F6 Pk.here (fun G5 hle5 hsl5 hno5 => ?_))
 refine B3 ?_
 refine H5 (rT rfl) (rC rfl (A3 rfl rfl)) (rT rfl) ?_
 (refine L2.two hsl5 (K0 _) (K0 _) (W6 _) ?_; rw [W5 zW]; first | (rw [if_pos ⟨by assumption, by assumption⟩, if_pos zW]; rfl) | (rw [if_neg (fun hc => by first | exact Bool.noConfusion (hc.1.symm.trans zT) | exact Bool.noConfusion (hc.2.symm.trans zT) | exact Bool.noConfusion (hc.symm.trans zT))]; rfl))
 refine aP 15 rfl (M4 rfl rfl) rfl ?_
 refine A1 2 ?_
 (refine D1 rfl (C9 rfl rfl rfl zW zR rfl) rfl rfl ?_; rintro _ ⟨b684, rfl⟩)
 refine aP 16 rfl (qA rfl) rfl ?_
 refine A1 17 ?_
 refine E4 rfl ?_
 refine aP 18 rfl (qA rfl) rfl ?_
 refine A4 ?_
 (refine F6 Pk.here (fun G5 hle5 hsl5 hno5 => ?_))
 refine B3 ?_
 refine H5 (rT rfl) (rC rfl (A3 rfl rfl)) (rT rfl) ?_
 (refine L2.two hsl5 (K0 _) (K0 _) (W6 _) ?_; rw [W5 zW]; first | (rw [if_pos ⟨by assumption, by assumption⟩, if_pos zW]; rfl) | (rw [if_neg (fun hc => by first | exact Bool.noConfusion (hc.1.symm.trans zT) | exact Bool.noConfusion (hc.2.symm.trans zT) | exact Bool.noConfusion (hc.symm.trans zT))]; rfl))
 refine aP 9 rfl (qM rfl) rfl ?_
 refine B9 10 rfl rfl rfl ?_
 refine B9 11 rfl rfl rfl ?_
 refine B9 12 rfl rfl rfl ?_
 refine B9 13 rfl rfl rfl ?_
 refine N3 (j := 2) (j' := 14) zU ?_ ?_
 (refine D1 rfl (C9 rfl rfl rfl zW zR rfl) rfl rfl ?_; rintro _ ⟨b703, rfl⟩)
 refine B9 14 rfl rfl rfl ?_
 refine aP 15 rfl (O2 rfl rfl) rfl ?_
 refine aP 16 rfl (qA rfl) rfl ?_
 refine A1 17 ?_
 refine E4 rfl ?_
 refine aP 18 rfl (qA rfl) rfl ?_
 refine A4 ?_
 (refine F6 Pk.here (fun G5 hle5 hsl5 hno5 => ?_))
 refine B3 ?_
 refine H5 (rT rfl) (rC rfl (A3 rfl rfl)) (rT rfl) ?_
 (refine L2.two hsl5 (K0 _) (K0 _) (W6 _) ?_; rw [W5 zW]; first | (rw [if_pos ⟨by assumption, by assumption⟩, if_pos zW]; rfl) | (rw [if_neg (fun hc => by first | exact Bool.noConfusion (hc.1.symm.trans zT) | exact Bool.noConfusion (hc.2.symm.trans zT) | exact Bool.noConfusion (hc.symm.trans zT))]; rfl))
 refine A51 (l' := [tt,tt,ff,tt,tt,tt,tt,tt,tt,tt,tt,tt,tt,tt,tt,ff,ff,ff,ff]) rfl rfl rfl rfl ?_
 refine aP 15 rfl (O2 rfl rfl) rfl ?_
 refine A1 2 ?_
 (refine D1 rfl (C9 rfl rfl rfl zW zR rfl) rfl rfl ?_; rintro _ ⟨b721, rfl⟩)
 refine aP 16 rfl (qA rfl) rfl ?_
 refine A1 17 ?_
 refine E4 rfl ?_
 refine aP 18 rfl (qA rfl) rfl ?_
 refine A4 ?_
 (refine F6 Pk.here (fun G5 hle5 hsl5 hno5 => ?_))
 refine B3 ?_
 refine H5 (rT rfl) (rC rfl (A3 rfl rfl)) (rT rfl) ?_
 (refine L2.two hsl5 (K0 _) (K0 _) (W6 _) ?_; rw [W5 zW]; first | (rw [if_pos ⟨by assumption, by assumption⟩, if_pos zW]; rfl) | (rw [if_neg (fun hc => by first | exact Bool.noConfusion (hc.1.symm.trans zT) | exact Bool.noConfusion (hc.2.symm.trans zT) | exact Bool.noConfusion (hc.symm.trans zT))]; rfl))
 refine A7 ?_
 refine sB (qE rfl rfl) rfl rfl (fun h740 => ?_) (fun h740 => ?_)
 refine A7 ?_
 (have hl3 : n = 3 := hop.2.1 zW; obtain ⟨b0, o0, q0, d0, hp0, hat0, hre0, hg0⟩ := hsl.kidD hkl (i := 0) zW zW; obtain ⟨b1, o1, q1, d1, hp1, hat1, hre1, hg1⟩ := hsl.kidD hkl (i := 1) zW zW; cases hp0; cases hp1; obtain ⟨b2, o2, q2, d2, hp2, hat2, hre2, hg2⟩ := hsl.kidD hkl (i := 2) zW zW; cases hp2; refine D2 D3 rfl ?_)
 refine H1 (i := 0) (l' := [tt,ff,ff,ff,ff,ff,ff,ff,ff,ff,ff,ff,ff,ff,ff,ff]) rfl C8 (qM rfl) rfl zU rfl rfl ?_
 refine aP 1 rfl (B1 (j := 0) rfl rfl rfl zW) rfl ?_
 refine aL 2 rfl (A5 rfl rfl (hat0 _) rfl) rfl ?_
 refine aL 3 rfl (A3 rfl rfl) rfl ?_
 refine A1 4 ?_
 refine Q3 rfl rfl ((Y0 _ _ _ _ _ hre0 (W6 _))) rfl rfl rfl (fun h753 => ?_) (fun h753 => ?_)
 refine aP 5 rfl (pNt rfl) rfl ?_
 refine aP 6 rfl (qM rfl) rfl ?_
 refine aP 7 rfl (qM rfl) rfl ?_
 refine aP 8 rfl (B1 (j := 1) rfl rfl rfl zW) rfl ?_
 refine aL 9 rfl (A5 rfl rfl (hat1 _) rfl) rfl ?_
 refine aP 10 rfl (qM rfl) rfl ?_
 refine aP 11 rfl (B1 (j := 2) rfl rfl rfl zW) rfl ?_
 refine aL 12 rfl (A5 rfl rfl (hat2 _) rfl) rfl ?_
 refine A1 13 ?_
 refine Q3 rfl rfl ((Y0 _ _ _ _ _ hre1 hre2)) rfl rfl rfl (fun h763 => ?_) (fun h763 => ?_)
 refine aP 14 rfl (pNt rfl) rfl ?_
 refine aP 15 rfl (O2 rfl rfl) rfl ?_
 refine A7 ?_
 (have hl3 : n = 3 := hop.2.1 zW; obtain ⟨b0, o0, q0, d0, hp0, hat0, hre0, hg0⟩ := hsl.kidD hkl (i := 0) zW zW; obtain ⟨b1, o1, q1, d1, hp1, hat1, hre1, hg1⟩ := hsl.kidD hkl (i := 1) zW zW; cases hp0; cases hp1; obtain ⟨b2, o2, q2, d2, hp2, hat2, hre2, hg2⟩ := hsl.kidD hkl (i := 2) zW zW; cases hp2; refine D2 D3 rfl ?_)
 refine H1 (i := 0) (l' := [tt,ff,ff,ff,ff,ff,ff,ff,ff]) rfl C8 (qM rfl) rfl zU rfl rfl ?_
 refine aP 1 rfl (B1 (j := 1) rfl rfl rfl zW) rfl ?_
 refine aL 2 rfl (A5 rfl rfl (hat1 _) rfl) rfl ?_
 refine aP 3 rfl (qM rfl) rfl ?_
 refine aP 4 rfl (B1 (j := 2) rfl rfl rfl zW) rfl ?_
 refine aL 5 rfl (A5 rfl rfl (hat2 _) rfl) rfl ?_
 refine N3 (j := 6) (j' := 7) zU ?_ ?_
 (refine E1 rfl rfl (A9t _ _ _ _ _ zT (A3b har zW) (A3b har zW) hre1 hre2) rfl rfl rfl (fun v GM hleM hh => ?_); obtain ⟨cM, rfl, hrM⟩ := hh; obtain ⟨p7, c7, e7, rfl, _⟩ := hrM.open)
 refine A1 7 ?_
 (refine D1 rfl (A8 rfl) rfl rfl ?_; rintro _ ⟨b782, rfl⟩)
 refine A1 8 ?_
 refine E4 rfl ?_
 refine B3 ?_
 (have hl3 : n = 3 := hop.2.1 zW; obtain ⟨b0, o0, q0, d0, hp0, hat0, hre0, hg0⟩ := hsl.kidD hkl (i := 0) zW zW; obtain ⟨b1, o1, q1, d1, hp1, hat1, hre1, hg1⟩ := hsl.kidD hkl (i := 1) zW zW; cases hp0; cases hp1; obtain ⟨b2, o2, q2, d2, hp2, hat2, hre2, hg2⟩ := hsl.kidD hkl (i := 2) zW zW; cases hp2; refine D2 D3 rfl ?_)
 refine M3 (i := 0) (l' := [tt,ff,ff,ff,ff,ff,ff,ff]) rfl C8 (A3 rfl rfl) rfl zU rfl rfl ?_
 refine aL 1 rfl (A3 rfl rfl) rfl ?_
 refine aL 2 rfl (A3 rfl rfl) rfl ?_
 refine aL 4 rfl (A3 rfl rfl) rfl ?_
 refine A1 3 ?_
 (refine D1 rfl (C9 rfl rfl rfl zW zR rfl) rfl rfl ?_; rintro _ ⟨b794, rfl⟩)
 exact y16
 (refine D1 rfl (A8 rfl) rfl rfl ?_; rintro _ ⟨b807, rfl⟩)
 refine A1 6 ?_
 (refine E1 rfl rfl (A9t _ _ _ _ _ zT (A3b har zW) (A3b har zW) hre1 hre2) rfl rfl rfl (fun v GM hleM hh => ?_); obtain ⟨cM, rfl, hrM⟩ := hh; obtain ⟨p7, c7, e7, rfl, _⟩ := hrM.open)
 refine A1 8 ?_
 refine E4 rfl ?_
 refine B3 ?_
 (have hl3 : n = 3 := hop.2.1 zW; obtain ⟨b0, o0, q0, d0, hp0, hat0, hre0, hg0⟩ := hsl.kidD hkl (i := 0) zW zW; obtain ⟨b1, o1, q1, d1, hp1, hat1, hre1, hg1⟩ := hsl.kidD hkl (i := 1) zW zW; cases hp0; cases hp1; obtain ⟨b2, o2, q2, d2, hp2, hat2, hre2, hg2⟩ := hsl.kidD hkl (i := 2) zW zW; cases hp2; refine D2 D3 rfl ?_)
 refine M3 (i := 0) (l' := [tt,ff,ff,ff,ff,ff,ff,ff]) rfl C8 (A3 rfl rfl) rfl zU rfl rfl ?_
 refine aL 1 rfl (A3 rfl rfl) rfl ?_
 refine aL 2 rfl (A3 rfl rfl) rfl ?_
 refine aL 4 rfl (A3 rfl rfl) rfl ?_
 refine A1 3 ?_
 (refine D1 rfl (C9 rfl rfl rfl zW zR rfl) rfl rfl ?_; rintro _ ⟨b821, rfl⟩)
 exact y16
 refine aP 14 rfl (pNf rfl) rfl ?_
 refine aP 15 rfl (O2 rfl rfl) rfl ?_
 exact y17
 refine aP 5 rfl (pNf rfl) rfl ?_
 refine aP 6 rfl (qM rfl) rfl ?_
 refine B9 7 rfl rfl rfl ?_
 refine B9 8 rfl rfl rfl ?_
 refine B9 9 rfl rfl rfl ?_
 refine B9 10 rfl rfl rfl ?_
 refine B9 11 rfl rfl rfl ?_
 refine B9 12 rfl rfl rfl ?_
 refine B9 13 rfl rfl rfl ?_
 refine B9 14 rfl rfl rfl ?_
 refine aP 15 rfl (M4 rfl rfl) rfl ?_
 exact y17
 refine A7 ?_
 refine sB (qE rfl rfl) rfl rfl (fun h887 => ?_) (fun h887 => ?_)
 refine A9 ?_
 (have hl2 : n = 2 := hop.1 zW; obtain ⟨b0, o0, q0, d0, hp0, hat0, hre0, hg0⟩ := hsl.kidD hkl (i := 0) zW zW; obtain ⟨b1, o1, q1, d1, hp1, hat1, hre1, hg1⟩ := hsl.kidD hkl (i := 1) zW zW; cases hp0; cases hp1; refine D2 D3 rfl ?_)
 refine H1 (i := 0) (l' := [tt,ff,ff,ff,ff,ff,ff,ff,ff,ff]) rfl C8 (qM rfl) rfl zU rfl rfl ?_
 refine aP 1 rfl (B1 (j := 0) rfl rfl rfl zW) rfl ?_
 refine aL 2 rfl (A5 rfl rfl (hat0 _) rfl) rfl ?_
 refine aP 3 rfl (qM rfl) rfl ?_
 refine aP 4 rfl (B1 (j := 1) rfl rfl rfl zW) rfl ?_
 refine aL 5 rfl (A5 rfl rfl (hat1 _) rfl) rfl ?_
 refine A1 6 ?_
 (refine E1 rfl rfl (A13 5 _ _ _ _ _ ⟨by omega, by omega⟩ hre0 hre1) rfl rfl rfl (fun v GB hleB hh => ?_); obtain ⟨cB, rfl, hrB⟩ := hh; obtain ⟨p7, c7, e7, rfl, _⟩ := hrB.open)
 refine aP 7 rfl (qA rfl) rfl ?_
 refine A1 8 ?_
 refine E4 rfl ?_
 refine aP 9 rfl (qA rfl) rfl ?_
 refine A9 ?_
 refine H5 (rT rfl) (rC rfl (A3 rfl rfl)) (rT rfl) ?_
 (have hk1 : k = 10 := zW; subst hk1; exact L2.nil hrB A9S)
 refine A7 ?_
 refine sB (qE rfl rfl) rfl rfl (fun h919 => ?_) (fun h919 => ?_)
 refine A9 ?_
 (have hl1 : n = 1 := hop.2.2 zW; obtain ⟨b0, o0, q0, d0, hp0, hat0, hre0, hg0⟩ := hsl.kidD hkl (i := 0) zW zW; cases hp0; refine D2 D3 rfl ?_)
 refine H1 (i := 0) (l' := [tt,ff,ff,ff,ff,ff,ff,ff,ff,ff,ff,ff,ff,ff]) rfl C8 (C0 rfl) rfl zU rfl rfl ?_
 refine aL 1 rfl (A3 rfl rfl) rfl ?_
 refine aP 3 rfl (C0 rfl) rfl ?_
 refine aL 4 rfl (A3 rfl rfl) rfl ?_
 refine aP 5 rfl (qM rfl) rfl ?_
 refine aP 6 rfl (B1 (j := 0) rfl rfl rfl zW) rfl ?_
 refine aL 7 rfl (A5 rfl rfl (hat0 _) rfl) rfl ?_
 refine aP 8 rfl (C0 rfl) rfl ?_
 refine aL 9 rfl (A3 rfl rfl) rfl ?_
 refine N3 (j := 2) (j' := 10) zU ?_ ?_
 (refine D1 rfl (C9 rfl rfl rfl zW zR rfl) rfl rfl ?_; rintro _ ⟨b936, rfl⟩)
 refine A1 10 ?_
 refine Q3 rfl rfl ((Y0 _ _ _ _ _ hre0 hrty)) rfl rfl rfl (fun h938 => ?_) (fun h938 => ?_)
 refine aP 11 rfl (qA rfl) rfl ?_
 refine A1 12 ?_
 refine E4 rfl ?_
 refine aP 13 rfl (qA rfl) rfl ?_
 refine A4 ?_
 (refine F6 Pk.here (fun G5 hle5 hsl5 hno5 => ?_))
 refine B3 ?_
 refine H5 (rT rfl) (rC rfl (A3 rfl rfl)) (rT rfl) ?_
 (have hk1 : k = 13 := zW; subst hk1; refine L2.one hsl5 (hrty.mono hle5) (hrty.mono hle5) ?_; rw [A32]; split <;> first | rfl | (exfalso; simp_all; done))
 refine aP 11 rfl (qA rfl) rfl ?_
 refine A1 12 ?_
 refine E4 rfl ?_
 refine aP 13 rfl (qA rfl) rfl ?_
 refine A4 ?_
 (refine F6 Pk.here (fun G5 hle5 hsl5 hno5 => ?_))
 refine B3 ?_
 refine H5 (rT rfl) (rC rfl (A3 rfl rfl)) (rT rfl) ?_
 (have hk1 : k = 13 := zW; subst hk1; refine L2.one hsl5 (hrty.mono hle5) (hrty.mono hle5) ?_; rw [A32]; split <;> first | rfl | (exfalso; simp_all; done))
 refine Q3 rfl rfl ((Y0 _ _ _ _ _ hre0 hrty)) rfl rfl rfl (fun h963 => ?_) (fun h963 => ?_)
 refine A1 2 ?_
 (refine D1 rfl (C9 rfl rfl rfl zW zR rfl) rfl rfl ?_; rintro _ ⟨b965, rfl⟩)
 refine aP 11 rfl (qA rfl) rfl ?_
 refine A1 12 ?_
 refine E4 rfl ?_
 refine aP 13 rfl (qA rfl) rfl ?_
 refine A4 ?_
 (refine F6 Pk.here (fun G5 hle5 hsl5 hno5 => ?_))
 refine B3 ?_
 refine H5 (rT rfl) (rC rfl (A3 rfl rfl)) (rT rfl) ?_
 (have hk1 : k = 13 := zW; subst hk1; refine L2.one hsl5 (hrty.mono hle5) (hrty.mono hle5) ?_; rw [A32]; split <;> first | rfl | (exfalso; simp_all; done))
 refine A1 2 ?_
 (refine D1 rfl (C9 rfl rfl rfl zW zR rfl) rfl rfl ?_; rintro _ ⟨b979, rfl⟩)
 refine aP 11 rfl (qA rfl) rfl ?_
 refine A1 12 ?_
 refine E4 rfl ?_
 refine aP 13 rfl (qA rfl) rfl ?_
 refine A4 ?_
 (refine F6 Pk.here (fun G5 hle5 hsl5 hno5 => ?_))
 refine B3 ?_
 refine H5 (rT rfl) (rC rfl (A3 rfl rfl)) (rT rfl) ?_
 (have hk1 : k = 13 := zW; subst hk1; refine L2.one hsl5 (hrty.mono hle5) (hrty.mono hle5) ?_; rw [A32]; split <;> first | rfl | (exfalso; simp_all; done))
 refine I2 ?_
 (have hk11 : k = 11 ∨ k = 12 := zW; have hl1 : n = 1 := hop.2.2 zW; obtain ⟨b0, o0, q0, d0, hp0, hat0, hre0, hg0⟩ := hsl.kidD hkl (i := 0) zW zW; cases hp0; refine sP (B1 (j := 0) rfl rfl rfl zW) rfl rfl ?_)
 refine sL (A5 rfl rfl (hat0 _) rfl) rfl rfl ?_
 (refine F9 rfl (A9s 5 (h.getD 0 B4) G _ (.inr rfl) (A3b har zW) hre0) rfl rfl (fun v G1 hle1 hh => ?_); obtain ⟨ma, mca, mb, mcb, rfl, hma, hmb, hma2, hmb2, hmm⟩ := hh; obtain ⟨p1, c1, e1, rfl, _⟩ := hma.open; obtain ⟨p2, c2, e2, rfl, _⟩ := hmb.open)
 refine C3 ?_
 refine sE (A8 rfl) rfl (fun b1009 => ?_)
 refine sE (A8 rfl) rfl (fun b1010 => ?_)
 refine E7 ?_
 refine sE (A8 rfl) rfl (fun b1019 => ?_)
 refine E7 ?_
 refine sB (qE rfl rfl) rfl rfl (fun h1028 => ?_) (fun h1028 => ?_)
 refine D9 ?_
 (have hl1 : n = 1 := hop.2.2 zW; obtain ⟨b0, o0, q0, d0, hp0, hat0, hre0, hg0⟩ := hsl.kidD hkl (i := 0) zW zW; cases hp0; refine D2 D3 rfl ?_)
 refine M3 (i := 0) (l' := [tt,ff,ff,ff,ff,ff,ff,ff,ff]) rfl C8 (A3 rfl rfl) rfl zU rfl rfl ?_
 refine aL 1 rfl (A3 rfl rfl) rfl ?_
 refine aL 4 rfl (A3 rfl rfl) rfl ?_
 refine aP 5 rfl (qM rfl) rfl ?_
 refine A1 2 ?_
 (refine E1 rfl rfl (A13 _ ma mb _ _ _ ⟨by omega, by omega⟩ hma hmb) rfl rfl rfl (fun v GB hleB hh => ?_); obtain ⟨cB, rfl, hrB⟩ := hh; obtain ⟨p7, c7, e7, rfl, _⟩ := hrB.open; have hma' := hma.mono hleB; have hmb' := hmb.mono hleB)
 refine A1 3 ?_
 (refine D1 rfl (C9 rfl rfl rfl zW zR rfl) rfl rfl ?_; rintro _ ⟨b1046, rfl⟩)
 refine aP 6 rfl (qA rfl) rfl ?_
 refine A1 7 ?_
 refine E4 rfl ?_
 refine aP 8 rfl (qA rfl) rfl ?_
 refine A4 ?_
 (refine F6 Pk.here (fun G5 hle5 hsl5 hno5 => ?_))
 refine tT ?_
 refine H5 (rT rfl) (rC rfl (A3 rfl rfl)) (rT rfl) ?_
 (refine L2.one hsl5 (hrB.mono hle5) (hmb'.mono hle5) ?_; rw [A6K zW]; cases hq : Z1 5 (h.getD 0 B4) with | none => rfl | some q => (have hq2 := hmm q hq; subst hq2; dsimp only; rw [if_pos zW]; rfl))
 refine A7 ?_
 (have hl1 : n = 1 := hop.2.2 zW; obtain ⟨b0, o0, q0, d0, hp0, hat0, hre0, hg0⟩ := hsl.kidD hkl (i := 0) zW zW; cases hp0; refine D2 D3 rfl ?_)
 refine M3 (i := 0) (l' := [tt,ff,ff,ff,ff,ff,ff,ff,ff]) rfl C8 (A3 rfl rfl) rfl zU rfl rfl ?_
 refine aL 1 rfl (A3 rfl rfl) rfl ?_
 refine aL 4 rfl (A3 rfl rfl) rfl ?_
 refine aP 5 rfl (qM rfl) rfl ?_
 refine A1 2 ?_
 (refine E1 rfl rfl (A13 _ ma mb _ _ _ ⟨by omega, by omega⟩ hma hmb) rfl rfl rfl (fun v GB hleB hh => ?_); obtain ⟨cB, rfl, hrB⟩ := hh; obtain ⟨p7, c7, e7, rfl, _⟩ := hrB.open; have hma' := hma.mono hleB; have hmb' := hmb.mono hleB)
 refine A1 3 ?_
 (refine D1 rfl (C9 rfl rfl rfl zW zR rfl) rfl rfl ?_; rintro _ ⟨b1071, rfl⟩)
 refine aP 6 rfl (qA rfl) rfl ?_
 refine A1 7 ?_
 refine E4 rfl ?_
 refine aP 8 rfl (qA rfl) rfl ?_
 refine A4 ?_
 (refine F6 Pk.here (fun G5 hle5 hsl5 hno5 => ?_))
 refine tT ?_
 refine H5 (rT rfl) (rC rfl (A3 rfl rfl)) (rT rfl) ?_
 (refine L2.one hsl5 (hrB.mono hle5) (hma'.mono hle5) ?_; rw [A6K zW]; cases hq : Z1 5 (h.getD 0 B4) with | none => rfl | some q => (have hq2 := hmm q hq; subst hq2; dsimp only; rw [if_neg zW]; rfl))
end Gw
end Go.Proofs.YtmceanphadildaaGreatDoor
