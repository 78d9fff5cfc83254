/-
  The type of a term with casts.
-/
import Derived.Test.YtmceanphadildaaGreatDoorKa4
import Derived.Test.YtmceanphadildaaGreatDoorKa2
import Derived.Test.YtmceanphadildaaGreatDoorKa1
import Derived.Lib.ItoaNum
import Derived.Test.YtmceanphadildaaGreatDoorKa3
set_option linter.unusedVariables false
set_option linter.unusedSimpArgs false
set_option maxHeartbeats 0
set_option maxRecDepth 100000
set_option synthInstance.maxSize 4000
set_option synthInstance.maxHeartbeats 0
namespace Go.Proofs.YtmceanphadildaaGreatDoor
open Go Go.RowKit
namespace Gw
theorem y20 {p : Prop} (h : p := by
  refine A1 8 ?_
  (refine T9 rfl rfl rfl rfl rfl rfl (fun _ _ => by repeat (first | exact Sw.here | apply Sw.there)) (R2 zP) rfl zQ zR zW rfl rfl zG (fun p5 c5 => ?_); refine A4C (cs := esx.flatten ++ [.string nm, .int .i64 tk, .slice pt tks.length ct]) zN (fun Gf hleF hslF hnoF => ?_); have hxF := R9.snoc (nm := nm) (t := .mk tk tks) hx1 hx2.len hx2.all hx2.one hx3 hleF ⟨_, _, rfl, hty.mono hleF⟩ hslF)
  refine aP 9 rfl (qA rfl) rfl ?_
  refine aD' ?_
  refine P1 (p5, nc + 1, c5, Gf) (O3 zM zI) ⟨hleF, by (dsimp only; rw [M7, if_pos zW]; exact hxF), by (dsimp only; omega)⟩
) : p := h
theorem A6L {cx : Cx} : ∀ {ks : List Tm} {i : Nat} {us : List Ty} {u : Ty} (hi : i < ks.length), J6 cx (ks.take i) = some us → C5 cx ks[i] = some u → J6 cx (ks.take (i + 1)) = some (us ++ [u])
 | [], i, us, u, hi, _, _ => by simp at hi
 | t :: ts, 0, us, u, hi, h, h2 => by
  simp only [List.take_zero, J6] at h
  cases h
  simp only [List.getElem_cons_zero] at h2
  simp [J6, h2]
 | t :: ts, i + 1, us, u, hi, h, h2 => by
  simp only [List.take_succ_cons, J6] at h ⊢
  simp only [List.getElem_cons_succ] at h2
  split at h
  ·cases h
  ·rename_i v hv
   split at h
   ·cases h
   ·rename_i vs hvs
    cases h
    rw [A6L (by simpa using hi) hvs h2]
    rfl
theorem A6M {cx : Cx} : ∀ {ks : List Tm} {i : Nat} (hi : i < ks.length), C5 cx ks[i] = none → J6 cx ks = none
 | [], i, hi, _ => by simp at hi
 | t :: ts, 0, hi, h2 => by
  simp only [List.getElem_cons_zero] at h2
  simp [J6, h2]
 | t :: ts, i + 1, hi, h2 => by
  simp only [List.getElem_cons_succ] at h2
  have := A6M (ks := ts) (i := i) (by simpa using hi) h2
  rw [J6, this]
  split <;> rfl
theorem A9T {cx : Cx} {k : Int} {nm : ByteArray} {ty : Ty} {h w : List Ty} {t : Ty} (he : V2 cx k nm ty h = some (w, t)) : M1 t = true ∧ O4 cx k nm ty h = some (w, t) := by
 unfold V2 at he
 split at he
 ·rename_i w' t' hw
  split at he
  ·cases he; exact ⟨by assumption, hw⟩
  ·cases he
 ·cases he
theorem A5b {cx : Cx} {k : Int} {nm : ByteArray} {num : Int} {ty fr : Ty} {lb : Int} {ks : List Tm} {t : Ty} (h14 : k = 14 → M1 ty = true) (h : C5 cx (.mk k nm num ty fr lb ks) = some t) : M1 t = true := by
 rw [C5] at h
 split at h
 ·cases h
 ·split at h
  ·rename_i hk
   split at h
   ·cases h; exact h14 hk
   ·cases h
  ·split at h
   ·cases h
   ·rename_i w u hw
    split at h
    ·cases h; exact (A9T hw).1
    ·cases h
theorem A6N {cx : Cx} {e : Tm} {D N d : Int} {t : Ty} (hv : K8 D N e d = true) (h : C5 cx e = some t) : E5 t := by
 obtain ⟨k, nm, num, ty, fr, lb, ks⟩ := e
 have hn := X4.1 (Z5 hv).2.2.1
 exact (A43 (A5b (fun hk => hn.2.2.2.2.2.1 zW) h)).1
theorem B4T {cx : Cx} {k : Int} {nm : ByteArray} {ty : Ty} {h w : List Ty} {t : Ty} (hop : (k = 6 ∨ k = 7 ∨ k = 8 ∨ k = 10 → h.length = 2) ∧ (k = 9 → h.length = 3) ∧ (k = 5 ∨ k = 11 ∨ k = 12 ∨ k = 13 → h.length = 1)) (hk : 1 ≤ k ∧ k ≤ 14) (h14 : k ≠ 14) (he : O4 cx k nm ty h = some (w, t)) : w.length ≤ h.length := by
 have hkk : k = 1 ∨ k = 2 ∨ (k = 3 ∨ k = 4) ∨ k = 5 ∨ k = 6 ∨ (k = 7 ∨ k = 8) ∨ k = 9 ∨ k = 10 ∨ (k = 11 ∨ k = 12) ∨ k = 13 := by omega
 rcases hkk with rfl | rfl | hk | rfl | rfl | hk | rfl | rfl | hk | rfl
 ·rw [mW1] at he; split at he <;> cases he; simp
 ·rw [mW2] at he; cases he; simp
 ·rw [A6J hk] at he; cases he; simp
 ·rw [mW5] at he; cases he; simp
 ·rw [mW6] at he
  split at he
  ·split at he <;> cases he
   have := hop.1 zW; simp [this]
  ·cases he
 ·rw [W5 hk] at he
  split at he <;> cases he
  have := hop.1 zW; simp [this]
 ·rw [mW9] at he
  split at he <;> cases he
  have := hop.2.1 zW; simp [this]
 ·rw [A9S] at he; cases he; simp
 ·rw [A6K hk] at he
  split at he
  ·cases he; have := hop.2.2 zW; simp [this]
  ·cases he
 ·rw [A32] at he
  split at he <;> cases he
  have := hop.2.2 zW; simp [this]
theorem B4U {w h : List Ty} {i : Nat} (hw : i < w.length) (hh : i < h.length) (hs : H9 w[i] h[i] = true) : Q8 (w.drop i) (h.drop i) = Q8 (w.drop (i + 1)) (h.drop (i + 1)) := by
 rw [List.drop_eq_getElem_cons hw, List.drop_eq_getElem_cons hh, Q8, hs, Bool.true_and]
theorem B4V {w h : List Ty} {i : Nat} (hw : i < w.length) (hh : i < h.length) (hs : H9 w[i] h[i] = false) : Q8 (w.drop i) (h.drop i) = false := by
 rw [List.drop_eq_getElem_cons hw, List.drop_eq_getElem_cons hh, Q8, hs, Bool.false_and]
theorem B4W {w h : List Ty} {i : Nat} (hw : i = w.length) : Q8 (w.drop i) (h.drop i) = true := by
 subst hw; rw [List.drop_length, Q8]
theorem R9.snoc {G G' : IM} {cx : Cx} {n : Nat} {p' : Option Addr} {c' : Nat} {es : List (List Value)} {e : List Value} {nm : ByteArray} {t : Ty} (h1 : n = cx.length) (hl : es.length = n) (h2 : ∀ x ∈ es, x.length = 3) (h3 : ∀ x ∈ es, x.all (·.oneCell') = true)
  (h4 : ∀ (i : Nat) (b : ByteArray × Ty), cx[i]? = some b → ∃ e, es[i]? = some e ∧ A27 G b e) (hg : C1 G G') (he : A27 G' (nm, t) e) (hs : Sl G' p' (n + 1) c' 3 (es.flatten ++ e)) : R9 G' (cx ++ [(nm, t)]) p' (n + 1) c' := by
 have hel : e.length = 3 ∧ e.all (·.oneCell') = true := by obtain ⟨q, d, rfl, _⟩ := he; exact ⟨rfl, rfl⟩
 refine ⟨by simp [h1], es ++ [e], D0.of (by simpa using hs) (by simp [hl]) ?_ ?_, ?_⟩
 ·simp only [List.forall_mem_append, List.forall_mem_singleton]; exact ⟨h2, hel.1⟩
 ·simp only [List.forall_mem_append, List.forall_mem_singleton]; exact ⟨h3, hel.2⟩
 ·intro i b hb
  rw [List.getElem?_append] at hb ⊢
  split at hb
  ·rename_i hi
   obtain ⟨e', he', hr⟩ := h4 i b hb
   rw [if_pos zW]
   exact ⟨e', he', hr.mono hg⟩
  ·rename_i hi
   have : i - cx.length = 0 := by
    apply Classical.byContradiction; intro hc
    rw [List.getElem?_eq_none (by simp; omega)] at hb; cases hb
   rw [this] at hb
   simp only [List.getElem?_cons_zero, Option.some.injEq] at hb
   subst hb
   rw [if_neg zW]
   exact ⟨e, by rw [show i - es.length = 0 by omega]; rfl, he⟩
theorem B4X (G : IM) (p : Option Addr) (n c : Nat) (es : List (List Value)) (h : D0 G p n c 3 es) (hn : n ≤ 4294967296) :
  Fn Tryz.prog 62 [.slice p n c] [] G (fun G' v outs => G' = G ∧ ∃ p' c', v = .slice p' n c' ∧ outs = [.slc p' c' 98 3 n es.flatten]) := by
 have hp := h.sl.nn
 have hS := h.sl
 have hone : ∀ u ∈ es.flatten, u.oneCell' = true := by
  intro u hu
  obtain ⟨e, he, hue⟩ := List.mem_flatten.1 hu
  exact List.all_eq_true.1 (h.one e he) u hue
 refine C7 Tryz.func62 rfl Tryz.ntmps62 Tryz.results62 rfl ?_
 intro w0
 cases p with
 | none =>
  obtain rfl := hp rfl
  obtain rfl : es = [] := List.length_eq_zero_iff.1 h.len
  refine X0 98 3 ?_
  refine D9 ?_
  refine sQ (B2z rfl rfl rfl) rfl ?_
  refine I2 ?_
  refine H7 (rT rfl) A2.refl ?_
  exact ⟨rfl, _, _, rfl, rfl⟩
 | some a =>
  refine D9 ?_
  refine sQ (A7W rfl rfl rfl) rfl ?_
  refine B5 ?_
  (refine J1 (C9 rfl rfl rfl zW zR rfl) rfl ?_; rintro _ ⟨b18, rfl⟩)
  refine F8 ?_
  refine B3U rfl rfl rfl rfl rfl (fun _ _ => by repeat (first | exact Sw.here | apply Sw.there)) hS hone (Nat.zero_le _) zR zW rfl (fun pn cn => ?_)
  refine C3 ?_
  refine H7 (rT rfl) A2.refl ?_
  exact ⟨rfl, _, _, by rw [Nat.zero_add], by rw [Nat.zero_add]; rfl⟩
theorem U9.no {r : Option Ty} {G G' : IM} {cu : List Value} {u : Ty} {b : Bool} (hu : B8 G' u cu) (hb : b = false) (h : r = none) : U9 r G G' (.tuple ⟨[.agg ⟨cu⟩, .bool b]⟩) [] := by
 subst hb h
 exact ⟨rfl, cu, u, rfl, hu, by simp⟩
theorem U9.yes {r : Option Ty} {G G' : IM} {cu : List Value} {u : Ty} {b : Bool} (hu : B8 G' u cu) (hb : b = true) (h : r = some u) : U9 r G G' (.tuple ⟨[.agg ⟨cu⟩, .bool b]⟩) [] := by
 subst hb h
 exact ⟨rfl, cu, u, rfl, hu, fun t ht => by cases ht; rfl⟩
section
variable {cx : Cx} {k : Int} {nm : ByteArray} {num : Int} {ty fr : Ty} {lb : Int} {ks : List Tm}
theorem A9U (h : J6 (M7 cx k nm ty) ks = none) : C5 cx (.mk k nm num ty fr lb ks) = none := by rw [C5, h]
theorem A9V {us : List Ty} (h : J6 (M7 cx k nm ty) ks = some us) (hk : k = 14) {b : Bool} (hb : H9 (us.getD 0 B4) fr = b) : C5 cx (.mk k nm num ty fr lb ks) = if b = true then some ty else none := by
 rw [C5, h]; simp only [hk, if_true, hb]
theorem A9W {us : List Ty} (h : J6 (M7 cx k nm ty) ks = some us) (hk : k ≠ 14) (hn : V2 cx k nm ty us = none) : C5 cx (.mk k nm num ty fr lb ks) = none := by
 rw [C5, h]; simp only [hk, if_false, hn]
theorem A9X {us w : List Ty} {t : Ty} (h : J6 (M7 cx k nm ty) ks = some us) (hk : k ≠ 14) (hn : V2 cx k nm ty us = some (w, t)) {b : Bool} (hb : Q8 w us = b) : C5 cx (.mk k nm num ty fr lb ks) = if b = true then some t else none := by
 rw [C5, h]; simp only [hk, if_false, hn, hb]
theorem A6O {us w : List Ty} {t : Ty} (h : O4 cx k nm ty us = some (w, t)) {b : Bool} (hb : M1 t = b) : V2 cx k nm ty us = if b = true then some (w, t) else none := by
 unfold V2; rw [h]; simp only [hb]
theorem B4Y {us : List Ty} (h : O4 cx k nm ty us = none) : V2 cx k nm ty us = none := by
 unfold V2; rw [h]
end
theorem B4Z : ∀ (e : Tm) (d : Int) (cx : Cx) (G : IM) (pc : Option Addr) (nc cc : Nat) (cells : List Value), K8 40 13 e d = true → (nc : Int) ≤ d → R9 G cx pc nc cc → B6 G e cells →
  Fn Tryz.prog 27 [.slice pc nc cc, .agg ⟨cells⟩] [] G (U9 (C5 cx e) G) := by
 refine Tm.ind fun k nm num ty fr lb ks ih d cx G pc nc cc cells hv hnd hx hr => ?_
 have hr0 := hr
 have hone := hr.one
 obtain ⟨hv1, hv2, hv3, hv4⟩ := Z5 hv
 have hvk := (A04 40 13 ks _).1 hv4
 have har := (X4.1 hv3).1
 have hop := A2C har
 obtain ⟨hta, hts⟩ := A25 hv3
 have hkr : 1 ≤ k ∧ k ≤ 14 := by
  apply Classical.byContradiction
  intro hc
  rw [A3L hc] at har; omega
 have h14 : k = 14 → ks.length = 1 := by
  rintro rfl
  have : F7 14 = 1 := rfl
  omega
 obtain ⟨tk, tks⟩ := ty
 obtain ⟨fk, fks⟩ := fr
 obtain ⟨pt, ct, pf, cf, q, cq, es, rfl, hk, hnum, hlb, hty, hfr, hsl, hkl⟩ := hr.open9
 have hlen : ks.length ≤ 3 := by have := A1J k; omega
 obtain ⟨hx1, esx, hx2, hx3⟩ := id hx
 have hcl := B4X G pc nc cc esx hx2 zW
 refine C7 Tryz.func27 rfl Tryz.ntmps27 Tryz.results27 rfl ?_
 intro w0
 refine A4 ?_
 refine sE (D5 rfl rfl) rfl (fun b3 => ?_)
 refine sE (A8 rfl) rfl (fun b4 => ?_)
 refine I2 ?_
 (show I9 _ _ (.seq (.region 2 _ _) (.cond (.tmp 20) _ _)) _ _; refine Z3 (fun (x : Option Addr × Nat × Nat × IM) => ⟨[(6, .slice x.1 x.2.1 x.2.2.1), (0, .slice pc nc cc), (3, .pointer (some ⟨b3, 0, none⟩)), (4, .pointer (some ⟨b4, 0, none⟩))], [.blk b4 [.int .i64 0, .slice none 0 0], .blk b3 [.int .i64 k, .string nm, .int .i64 num, .int .i64 tk, .slice pt tks.length ct, .int .i64 fk, .slice pf fks.length cf, .int .i64 lb, .slice q ks.length cq]], x.2.2.2⟩) (fun x => C1 G x.2.2.2 ∧ R9 x.2.2.2 (M7 cx k nm (.mk tk tks)) x.1 x.2.1 x.2.2.1 ∧ x.2.1 ≤ nc + 1) ?_ ?_)
 refine C3 ?_
 refine sB (qE rfl rfl) rfl rfl (fun h20 => ?_) (fun h20 => ?_)
 refine B3 ?_
 refine D2 D3 rfl ?_
 refine H1 (i := 0) (l' := [tt,ff,ff,ff,ff,ff,ff,ff,ff,ff]) rfl C8 (qM rfl) rfl zU rfl rfl ?_
 refine aP 2 rfl (C0 rfl) rfl ?_
 refine aL 3 rfl (D4 rfl rfl) rfl ?_
 refine aP 4 rfl (C0 rfl) rfl ?_
 refine aL 5 rfl (A3 rfl rfl) rfl ?_
 refine aP 6 rfl (N7 rfl rfl) rfl ?_
 refine N3 (j := 1) (j' := 7) zU ?_ ?_
 (refine A50 rfl rfl hcl rfl rfl rfl (fun v32 G32 outs32 hle32 h32 => ?_); obtain ⟨hG, p1, c1, rfl, rfl⟩ := h32; replace hG := hG.symm; subst hG)
 replace hr := hr.mono hle32
 replace hr0 := hr0.mono hle32
 replace hty := hty.mono hle32
 replace hfr := hfr.mono hle32
 replace hsl := hsl.mono hle32
 replace hkl := hkl.mono hle32
 replace hx2 := hx2.mono hle32
 refine A1 7 ?_
 (refine D1 rfl (C9 rfl rfl rfl zW zR rfl) rfl rfl ?_; rintro _ ⟨b34, rfl⟩)
 exact y20
 (refine D1 rfl (C9 rfl rfl rfl zW zR rfl) rfl rfl ?_; rintro _ ⟨b40, rfl⟩)
 refine A1 1 ?_
 (refine A50 rfl rfl hcl rfl rfl rfl (fun v42 G42 outs42 hle42 h42 => ?_); obtain ⟨hG, p1, c1, rfl, rfl⟩ := h42; replace hG := hG.symm; subst hG)
 replace hr := hr.mono hle42
 replace hr0 := hr0.mono hle42
 replace hty := hty.mono hle42
 replace hfr := hfr.mono hle42
 replace hsl := hsl.mono hle42
 replace hkl := hkl.mono hle42
 replace hx2 := hx2.mono hle42
 exact y20
 refine C3 ?_
 refine P1 (pc, nc, cc, G) (O3 zM zI) ⟨C1.refl _, by (dsimp only; rw [M7, if_neg zW]; exact hx), by (dsimp only; omega)⟩
 (rintro ⟨p6, n6, c6, Gx⟩ ⟨hleX, hxX, hn6⟩; simp only [] at hleX hxX hn6 ⊢; replace hsl := hsl.mono hleX; replace hkl := hkl.mono hleX; replace hx := hx.mono hleX; replace hr0 := hr0.mono hleX; replace hty := hty.mono hleX; replace hfr := hfr.mono hleX)
 refine N1 ?_
 refine C2 ?_
 (refine X0 25 2 ?_; refine L4 (fun (x : Nat × Option Addr × Nat × List Ty × List (List Value) × IM) => ⟨[(33, .int .i64 x.1), (32, .int .i64 ks.length), (31, .slice q ks.length cq), (7, .slice x.2.1 x.1 x.2.2.1), (6, .slice p6 n6 c6), (0, .slice pc nc cc), (3, .pointer (some ⟨b3, 0, none⟩)), (4, .pointer (some ⟨b4, 0, none⟩))], [.slc x.2.1 x.2.2.1 25 2 x.1 x.2.2.2.2.1.flatten, .blk b4 [.int .i64 0, .slice none 0 0], .blk b3 [.int .i64 k, .string nm, .int .i64 num, .int .i64 tk, .slice pt tks.length ct, .int .i64 fk, .slice pf fks.length cf, .int .i64 lb, .slice q ks.length cq]], x.2.2.2.2.2⟩) (fun x => x.1 ≤ ks.length ∧ C1 Gx x.2.2.2.2.2 ∧ x.2.2.2.1.length = x.1 ∧ E9 x.2.2.2.2.2 x.2.2.2.1 x.2.2.2.2.1 ∧ (∀ u ∈ x.2.2.2.1, E5 u) ∧ J6 (M7 cx k nm (.mk tk tks)) (ks.take x.1) = some x.2.2.2.1) (fun x => ks.length - x.1) (0, none, 0, [], [], Gx) ?_ ?_ ?_)
 (simp only [J7]; exact E3)
 (exact ⟨by simp, C1.refl _, rfl, by simp [E9], by simp, by simp [J6]⟩)
 (rintro ⟨i, pn, cn, us, es', Gi⟩ ⟨hi, hle, hlu, hst, hau, hct⟩; simp only [] at hi hle hlu hst hau hct ⊢; replace hsl := hsl.mono hle; replace hkl := hkl.mono hle; replace hx := hx.mono hle; replace hxX := hxX.mono hle; replace hr0 := hr0.mono hle; replace hty := hty.mono hle; replace hfr := hfr.mono hle)
 refine A4 ?_
 refine sB (K6 rfl rfl) rfl rfl (fun h75 => ?_) (fun h75 => ?_)
 refine B5 ?_
 refine C2 ?_
 refine A4 ?_
 (obtain ⟨b, o, e, rfl, hl, hat, hre, hgb⟩ := hsl.kidTm hkl (i := i) zW zW; have hon := hre.one; refine sP (B1 rfl rfl rfl zW) rfl rfl ?_)
 refine sL (A5 rfl rfl (hat _) hl) rfl rfl ?_
 refine sE (A8 rfl) rfl (fun b88 => ?_)
 refine sS rfl rfl rfl hl hon rfl ?_ (hu := by exact C6 hl.symm)
 refine A9 ?_
 refine sL (A5 rfl rfl (B7 zP) hl) rfl rfl ?_
 (refine F9 rfl (ih ks[i] (List.getElem_mem zW) (d + 1) _ Gi p6 n6 c6 _ (hvk i zW) zW hxX hre) rfl rfl (fun v G2 hle2 hh => ?_); obtain ⟨uc, u, rfl, hru, hu⟩ := hh; obtain ⟨p3, c3, e3, rfl, _⟩ := hru.open; rcases hcu : C5 (M7 cx k nm (Ty.mk tk tks)) ks[i] with _ | u2)
 refine B3 ?_
 refine sE (A8 rfl) rfl (fun b100 => ?_)
 refine A4F ?_
 refine E0 (rC rfl (A3 rfl rfl)) (rT rfl) ?_
 (exact U9.no (u := B4) (J8 _ ⟨by omega, by omega⟩) rfl (A9U (A6M zW hcu)))
 refine B3 ?_
 refine sE (A8 rfl) rfl (fun b132 => ?_)
 refine P6 ?_
 (refine J1 (C9 rfl rfl rfl zW zR rfl) rfl ?_; rintro _ ⟨b150, rfl⟩)
 refine A2t rfl rfl rfl rfl rfl (fun _ _ => by repeat (first | exact Sw.here | apply Sw.there)) (R2 zP) rfl zQ zR zW rfl (fun pn' cn' => ?_)
 refine A9 ?_
 refine sP (K9 rfl rfl zW zW) rfl rfl ?_
 refine A4 ?_
 (obtain rfl := hu u2 hcu; refine K3 (i + 1, pn', cn', us ++ [u], es' ++ [[.int .i64 u.k, .slice p3 u.ks.length c3]], G2) ?_ ?_ ?_)
 (simp only [J7]; exact E3)
 (dsimp only; exact ⟨by omega, hle.trans hle2, by simp [hlu], E9.snoc (hst.mono hle2) hru, A11 hau (A6N (hvk i zW) hcu), A6L zW hct hcu⟩)
 (show ks.length - (i + 1) < ks.length - i; omega)
 refine N1 ?_
 refine sB (qE rfl rfl) rfl rfl (fun h178 => ?_) (fun h178 => ?_)
 refine C3 ?_
 (have hk14 : k = 14 := zW; have hl1 := h14 hk14; obtain rfl : i = ks.length := zW; refine A0y (cs := es'.flatten) Pk.here (fun G3 hle3 hsl3 hno3 => ?_); have hst3 := hst.mono hle3; have hslU : D0 G3 pn ks.length cn 2 es' := D0.of hsl3 (by rw [hst3.len, hlu]) hst3.all (fun e he => (hst3.each e he).2); obtain ⟨b0, o0, q0, d0, hp0, hat0, hre0, hg0⟩ := hslU.kidD hst3 (i := 0) zW zW; cases hp0; have hfr0 := hfr.mono hle3; have hty0 := hty.mono hle3; refine D2 D3 rfl ?_)
 refine H1 (i := 0) (l' := [tt,ff,ff,ff,ff,ff,ff,ff,ff,ff]) rfl C8 (C0 rfl) rfl zU rfl rfl ?_
 refine aL 1 rfl (A3 rfl rfl) rfl ?_
 refine aP 2 rfl (qM rfl) rfl ?_
 refine aP 3 rfl (B1 (j := 0) rfl rfl rfl zW) rfl ?_
 refine aL 4 rfl (A5 rfl rfl (hat0 _) rfl) rfl ?_
 refine aP 5 rfl (C0 rfl) rfl ?_
 refine aL 6 rfl (A3 rfl rfl) rfl ?_
 refine A1 7 ?_
 refine Q3 rfl rfl ((A45 _ _ _ _ _ hre0 hfr0)) rfl rfl rfl (fun h192 => ?_) (fun h192 => ?_)
 refine A1 8 ?_
 refine E4 rfl ?_
 refine aP 9 rfl (qA rfl) rfl ?_
 refine C3 ?_
 refine E0 (rC rfl (A3 rfl rfl)) (rT rfl) ?_
 (exact U9.yes (hty0) rfl ((A9V (by rw [List.take_length] at hct; exact hct) hk14 zT).trans rfl))
 refine A1 8 ?_
 refine E4 rfl ?_
 refine aP 9 rfl (qA rfl) rfl ?_
 refine C3 ?_
 refine E0 (rC rfl (A3 rfl rfl)) (rT rfl) ?_
 (exact U9.no (hty0) rfl ((A9V (by rw [List.take_length] at hct; exact hct) hk14 zT).trans rfl))
 refine I2 ?_
 focus (obtain rfl : i = ks.length := zW; have hk14 : k ≠ 14 := zW; refine S9 (cs := es'.flatten) Pk.here (fun G3 hle3 hsl3 hno3 => ?_); have hst3 := hst.mono hle3; have hslU : D0 G3 pn ks.length cn 2 es' := D0.of hsl3 (by rw [hst3.len, hlu]) hst3.all (fun e he => (hst3.each e he).2); refine F9 rfl (B4S cx k nm num (.mk tk tks) (.mk fk fks) lb ks us G3 pc nc cc _ pn ks.length cn es' (hx.mono hle3) har hlu.symm hk14 hta (hr0.mono hle3) hslU hst3 hau) rfl rfl (fun v G4 hle4 hh => ?_); obtain ⟨pw, nw, cw, ew, w, wc, wt, rfl, hnw, hslw, hstw, hrt, hw⟩ := hh; obtain ⟨p3, c3, e3, rfl, _⟩ := hrt.open; replace hst3 := hst3.mono hle4; replace hslU := hslU.mono hle4; rcases hmw : O4 cx k nm (Ty.mk tk tks) us with _ | ⟨w2, t2⟩; rotate_left; have hwe := hw _ hmw; simp only [Prod.mk.injEq] at hwe; obtain ⟨rfl, rfl⟩ := hwe; rw [List.take_length] at hct; have hwl := B4T (by rw [hlu]; exact hop) hkr hk14 hmw; rotate_left)
 refine C3 ?_
 refine sE (A8 rfl) rfl (fun b226 => ?_)
 refine A8a ?_
 refine E0 (rC rfl (A3 rfl rfl)) (rT rfl) ?_
 (exact U9.no (u := B4) (J8 _ ⟨by omega, by omega⟩) rfl (A9W (by rw [List.take_length] at hct; exact hct) hk14 (B4Y hmw)))
 refine C3 ?_
 refine sE (A8 rfl) rfl (fun b260 => ?_)
 refine N8 ?_
 refine J0 rfl ((A4S _ _ _ hrt)) rfl rfl (fun h273 => ?_) (fun h273 => ?_)
 refine K4 ?_
 refine C2 ?_
 (have hslw2 := hslw; refine L4 (fun (i : Nat) => ⟨[(80, .int .i64 i), (79, .int .i64 nw), (78, .slice pw nw cw), (7, .slice pn ks.length cn), (13, .pointer (some ⟨b260, 0, none⟩)), (4, .pointer (some ⟨b4, 0, none⟩))], [.blk b260 [.int .i64 t2.k, .slice p3 t2.ks.length c3], .blk b4 [.int .i64 0, .slice none 0 0]], G4⟩) (fun i => i ≤ nw ∧ Q8 w2 us = Q8 (w2.drop i) (us.drop i)) (fun i => nw - i) 0 ?_ ?_ ?_)
 exact E3
 (exact ⟨Nat.zero_le _, rfl⟩)
 (rintro j ⟨hj, hsm⟩)
 refine A4 ?_
 refine sB (K6 rfl rfl) rfl rfl (fun h296 => ?_) (fun h296 => ?_)
 refine B5 ?_
 refine C2 ?_
 refine B3 ?_
 (obtain ⟨b, o, q5, d5, hp5, hat, hrw, hgb⟩ := hslw.kidTy hstw (i := j) zW zW; cases hp5; obtain ⟨b0, o0, q0, d0, hp0, hat0, hre0, hg0⟩ := hslU.kidTy hst3 (i := j) zW zW; cases hp0; refine sP (B1 rfl rfl rfl zW) rfl rfl ?_)
 refine sL (A5 rfl rfl (hat _) rfl) rfl rfl ?_
 refine sE (A8 rfl) rfl (fun b310 => ?_)
 refine A9 ?_
 refine D2 D3 rfl ?_
 refine M3 (i := 0) (l' := [tt,ff,ff,ff,ff,ff,ff]) rfl C8 (A3 rfl rfl) rfl zU rfl rfl ?_
 refine aP 1 rfl (qM rfl) rfl ?_
 refine aP 2 rfl (qM rfl) rfl ?_
 refine aP 3 rfl (B1 (j := j) rfl rfl rfl zW) rfl ?_
 refine aL 4 rfl (A5 rfl rfl (hat0 _) rfl) rfl ?_
 refine A1 5 ?_
 refine Q3 rfl rfl ((A45 _ _ _ _ _ hrw hre0)) rfl rfl rfl (fun h323 => ?_) (fun h323 => ?_)
 refine aP 6 rfl (pNt rfl) rfl ?_
 refine B5 ?_
 refine sP (K9 rfl rfl zW zW) rfl rfl ?_
 refine A4 ?_
 refine K3 (j + 1) ?_ ?_ ?_
 exact E3
 (show j + 1 ≤ nw ∧ Q8 w2 us = Q8 (List.drop (j + 1) w2) (List.drop (j + 1) us); exact ⟨by omega, hsm.trans (B4U zW zW zT)⟩)
 (show nw - (j + 1) < nw - j; omega)
 refine aP 6 rfl (pNf rfl) rfl ?_
 refine N4 ?_
 refine E0 (rC rfl (A3 rfl rfl)) (rT rfl) ?_
 (exact U9.no (u := B4) (J8 _ ⟨by omega, by omega⟩) rfl (A9X hct hk14 (A6O hmw (b := true) zT) (b := false) (hsm.trans (B4V zW zW zT))))
 refine P6 ?_
 refine E0 (rC rfl (A3 rfl rfl)) (rT rfl) ?_
 (exact U9.yes hrt rfl (A9X hct hk14 (A6O hmw (b := true) zT) (b := true) (hsm.trans (B4W zW))))
 refine N1 ?_
 refine E0 (rC rfl (A3 rfl rfl)) (rT rfl) ?_
 (exact U9.no (u := B4) (J8 _ ⟨by omega, by omega⟩) rfl (A9W hct hk14 (A6O hmw (b := false) zT)))
def A6P (r : Tm) : Tm × Bool := if K2 r = true then (r, true) else (K5, false)
def B8y (t : Tm) (path : List Int) (x : Tm) : Tm × Bool := if K2 t = true ∧ K2 x = true ∧ tAt t path ≠ none then A6P (A9f t path x) else (K5, false)
theorem A9Y (cy : Cx) (nm : ByteArray) : ∀ (cx : Cx) (n : Nat), n ≤ cx.length → ∀ t, U4 cx nm n = some t → U4 (cy ++ cx) nm (cy.length + n) = some t
 | cx, 0, _, t, h => by rw [U4] at h; cases h
 | cx, n + 1, hn, t, h => by
  have hb : cx[n]? = some cx[n] := List.getElem?_eq_getElem zW
  have hb2 : (cy ++ cx)[cy.length + n]? = some (cx[n].1, cx[n].2) := by
   rw [List.getElem?_append_right zW, show cy.length + n - cy.length = n by omega]; exact hb
  by_cases he : cx[n].1 = nm
  ·rw [A20 (x := cx[n].1) (t := cx[n].2) hb he] at h
   rw [← Nat.add_assoc, A20 hb2 he]; exact h
  ·rw [A21 (x := cx[n].1) (t := cx[n].2) hb he] at h
   rw [← Nat.add_assoc, A21 hb2 he]
   exact A9Y cy nm cx n zW t h
theorem B40 {cy cx : Cx} {nm : ByteArray} {t : Ty} (h : O9 cx nm = some t) : O9 (cy ++ cx) nm = some t := by
 unfold O9 at h ⊢
 rw [List.length_append]
 exact A9Y cy nm cx _ (Nat.le_refl _) t h
theorem B41 {cy cx : Cx} {k : Int} {nm : ByteArray} {ty : Ty} {h : List Ty} {r : List Ty × Ty} (hr : O4 cx k nm ty h = some r) : O4 (cy ++ cx) k nm ty h = some r := by
 unfold O4 at hr ⊢
 split
 ·rename_i hk
  rw [if_pos hk] at hr
  split at hr
  ·rename_i t ht; rw [B40 ht]; exact hr
  ·cases hr
 ·rename_i hk
  rw [if_neg hk] at hr
  exact hr
theorem B42 {cy cx : Cx} {k : Int} {nm : ByteArray} {ty : Ty} {h : List Ty} {r : List Ty × Ty} (hr : V2 cx k nm ty h = some r) : V2 (cy ++ cx) k nm ty h = some r := by
 unfold V2 at hr ⊢
 split at hr
 ·rename_i w t hw; rw [B41 hw]; exact hr
 ·cases hr
theorem B43 (cy cx : Cx) (k : Int) (nm : ByteArray) (ty : Ty) : M7 (cy ++ cx) k nm ty = cy ++ M7 cx k nm ty := by
 unfold M7; split <;> simp
mutual
theorem A9Z (cy : Cx) : ∀ (e : Tm) (cx : Cx) (t : Ty), C5 cx e = some t → C5 (cy ++ cx) e = some t
 | .mk k nm num ty fr lb ks, cx, t, h => by
  rw [C5] at h ⊢
  split at h
  ·cases h
  ·rename_i hs hh
   rw [B43, A90 cy ks _ hs hh]
   dsimp only
   split at h
   ·rename_i hk; rw [if_pos hk]; exact h
   ·rename_i hk
    rw [if_neg hk]
    split at h
    ·cases h
    ·rename_i w u hw
     rw [B42 hw]; exact h
theorem A90 (cy : Cx) : ∀ (ts : List Tm) (cx : Cx) (us : List Ty), J6 cx ts = some us → J6 (cy ++ cx) ts = some us
 | [], cx, us, h => by rw [J6] at h ⊢; exact h
 | t :: ts, cx, us, h => by
  rw [J6] at h ⊢
  split at h
  ·cases h
  ·rename_i u hu
   split at h
   ·cases h
   ·rename_i us' hus
    rw [A9Z cy t cx u hu]
    dsimp only
    rw [A90 cy ts cx us' hus]
    exact h
end
theorem A91 {cx : Cx} : ∀ {ks : List Tm} {h : List Ty}, J6 cx ks = some h → ∀ (j : Nat) (hj : j < ks.length), ∃ u, C5 cx ks[j] = some u ∧ ∀ x, C5 cx x = some u → J6 cx (ks.set j x) = some h
 | [], h, _, j, hj => by simp at hj
 | t :: ts, h, he, j, hj => by
  rw [J6] at he
  split at he
  ·cases he
  ·rename_i u hu
   split at he
   ·cases he
   ·rename_i us hus
    cases he
    cases j with
    | zero => exact ⟨u, hu, fun x hx => by rw [List.set_cons_zero, J6, hx]; dsimp only; rw [hus]⟩
    | succ j =>
     obtain ⟨v, hv, hv2⟩ := A91 hus j (by simpa using hj)
     exact ⟨v, hv, fun x hx => by rw [List.set_cons_succ, J6, hu]; dsimp only; rw [hv2 x hx]⟩
def A2F : List Tm → List Ty → List Ty → Int → List Tm × Int
 | u :: us, a :: h, b :: w, l => if H9 a b = true then (u :: (A2F us h w l).1, (A2F us h w l).2) else (Q6 u a b (l + 1) :: (A2F us h w (l + 1)).1, (A2F us h w (l + 1)).2)
 | us, _, _, l => (us, l)
def B44 (cx : Cx) (k : Int) (nm : ByteArray) (num : Int) (ty fr : Ty) (lb : Int) (us : List Tm) (h : List Ty) (l : Int) : Option (Tm × Ty × Int) :=
 match V2 cx k nm ty h with
 | none => none
 | some (w, t) => some (if k = 13 then (A2F us h w l).1.getD 0 K5 else .mk k nm num ty fr lb (A2F us h w l).1, t, (A2F us h w l).2)
mutual
def mEl (cx : Cx) : Tm → Int → Option (Tm × Ty × Int)
 | .mk k nm num ty fr lb ks, l => match A92 (M7 cx k nm ty) ks l with
  | none => none
  | some (us, h, l') => B44 cx k nm num ty fr lb us h l'
def A92 (cx : Cx) : List Tm → Int → Option (List Tm × List Ty × Int)
 | [], l => some ([], [], l)
 | t :: ts, l => match mEl cx t l with
  | none => none
  | some (u, a, l') => match A92 cx ts l' with
   | none => none
   | some (us, h, l'') => some (u :: us, a :: h, l'')
end
def A33 (e : Tm) : Option (Tm × Ty) := if A0G e = true then (match mEl [] e 0 with | some (u, t, _) => some (u, t) | none => none) else none
def B45 (cx : Cx) (k : Int) (nm : ByteArray) (ty : Ty) (h : List Ty) : Option Ty := match O4 cx k nm ty h with
 | some (_, t) => if (k = 5 ∨ k = 10) ∧ M1 t = false then none else some t
 | none => none
mutual
def B46 (cx : Cx) : Tm → Option Ty
 | .mk k nm num ty fr lb ks => match A93 (M7 cx k nm ty) ks with
  | none => none
  | some h => B45 cx k nm ty h
def A93 (cx : Cx) : List Tm → Option (List Ty)
 | [] => some []
 | t :: ts => match B46 cx t with
  | none => none
  | some a => match A93 cx ts with
   | none => none
   | some h => some (a :: h)
end
theorem A6Q (k : Int) (ks : List Ty) (d : Int) : L8 (.mk k ks) d = (decide (d ≤ 4) && decide (U2 k = ks.length) && Y7 ks (d + 1)) := by rw [L8]
mutual
theorem A6R : ∀ (t : Ty) (d e : Int), e ≤ d → L8 t d = true → L8 t e = true
 | .mk k ks, d, e, h, hs => by
  rw [A6Q, Bool.and_eq_true, Bool.and_eq_true, decide_eq_true_eq, decide_eq_true_eq] at hs ⊢
  exact ⟨⟨by omega, hs.1.2⟩, A94 ks (d + 1) (e + 1) zW hs.2⟩
theorem A94 : ∀ (ts : List Ty) (d e : Int), e ≤ d → Y7 ts d = true → Y7 ts e = true
 | [], d, e, h, hs => by rw [Y7]
 | t :: ts, d, e, h, hs => by
  rw [Y7, Bool.and_eq_true] at hs ⊢
  exact ⟨A6R t d e h hs.1, A94 ts d e h hs.2⟩
end
def cxV (cx : Cx) : Prop := ∀ b ∈ cx, M1 b.2 = true
theorem B47 : cxV [] := by intro b hb; simp at hb
theorem B48 {cx : Cx} {k : Int} {nm : ByteArray} {ty : Ty} (h : cxV cx) (ht : k = 5 → M1 ty = true) : cxV (M7 cx k nm ty) := by
 unfold M7
 split
 ·intro b hb
  rcases List.mem_append.1 hb with hb | hb
  ·exact h b hb
  ·obtain rfl := List.mem_singleton.1 hb; exact ht zT
 ·exact h
theorem A1j {cx : Cx} {k : Int} {nm : ByteArray} {num : Int} {ty fr : Ty} {lb : Int} {ks : List Tm} {T : Ty} (h : C5 cx (.mk k nm num ty fr lb ks) = some T) :
  ∃ us, J6 (M7 cx k nm ty) ks = some us ∧ (k = 14 → us.getD 0 B4 = fr ∧ T = ty) ∧ (k ≠ 14 → M1 T = true ∧ ∃ w, O4 cx k nm ty us = some (w, T) ∧ Q8 w us = true) := by
 rw [C5] at h
 split at h
 ·cases h
 ·rename_i us hu
  refine ⟨us, hu, fun hk => ?_, fun hk => ?_⟩
  ·rw [if_pos hk] at h
   split at h
   ·rename_i hs; cases h; exact ⟨(S3 _ _).1 hs, rfl⟩
   ·cases h
  ·rw [if_neg hk] at h
   split at h
   ·cases h
   ·rename_i w t hn
    split at h
    ·rename_i hs
     cases h
     obtain ⟨h1, h2⟩ := A9T hn
     exact ⟨h1, w, h2, hs⟩
    ·cases h
theorem A1k {cx : Cx} {k : Int} {nm : ByteArray} {num : Int} {ty fr : Ty} {lb : Int} {ks : List Tm} {T : Ty} {us w : List Ty} (hu : J6 (M7 cx k nm ty) ks = some us) (hk : k ≠ 14) (hv : M1 T = true) (hw : O4 cx k nm ty us = some (w, T)) (hs : Q8 w us = true) : C5 cx (.mk k nm num ty fr lb ks) = some T := by
 rw [C5, hu]
 simp only [if_neg hk]
 unfold V2
 rw [hw]
 simp only [hv, if_true, hs]
theorem A2G {cx : Cx} {a : Tm} {us : List Ty} (h : J6 cx [a] = some us) : ∃ x, C5 cx a = some x ∧ us = [x] := by
 rw [J6] at h
 split at h
 ·cases h
 ·rename_i x hx
  rw [J6] at h
  simp only [Option.some.injEq] at h
  exact ⟨x, hx, h.symm⟩
theorem A1L {cx : Cx} {a b : Tm} {us : List Ty} (h : J6 cx [a, b] = some us) : ∃ x y, C5 cx a = some x ∧ C5 cx b = some y ∧ us = [x, y] := by
 rw [J6] at h
 split at h
 ·cases h
 ·rename_i x hx
  split at h
  ·cases h
  ·rename_i vs hv
   obtain ⟨y, hy, rfl⟩ := A2G hv
   simp only [Option.some.injEq] at h
   exact ⟨x, y, hx, hy, h.symm⟩
theorem A6S {cx : Cx} {a b c : Tm} {us : List Ty} (h : J6 cx [a, b, c] = some us) : ∃ x y z, C5 cx a = some x ∧ C5 cx b = some y ∧ C5 cx c = some z ∧ us = [x, y, z] := by
 rw [J6] at h
 split at h
 ·cases h
 ·rename_i x hx
  split at h
  ·cases h
  ·rename_i vs hv
   obtain ⟨y, z, hy, hz, rfl⟩ := A1L hv
   simp only [Option.some.injEq] at h
   exact ⟨x, y, z, hx, hy, hz, h.symm⟩
theorem A34 {cx : Cx} {a : Tm} {x : Ty} (h : C5 cx a = some x) : J6 cx [a] = some [x] := by rw [J6, h]; rfl
theorem A6T {cx : Cx} {a b : Tm} {x y : Ty} (h : C5 cx a = some x) (h2 : C5 cx b = some y) : J6 cx [a, b] = some [x, y] := by rw [J6, h, A34 h2]
theorem B49 {cx : Cx} {a b c : Tm} {x y z : Ty} (h : C5 cx a = some x) (h2 : C5 cx b = some y) (h3 : C5 cx c = some z) : J6 cx [a, b, c] = some [x, y, z] := by rw [J6, h, A6T h2 h3]
mutual
theorem A5c : ∀ a : Ty, O8 a a = true
 | .mk k ks => by rw [V1, A95 ks]; simp
theorem A95 : ∀ xs : List Ty, T0 xs xs = true
 | [] => rfl
 | a :: xs => by rw [T0, A5c a, A95 xs]; rfl
end
mutual
theorem A96 : ∀ a : Ty, A0z a a = a
 | .mk k ks => by
  rw [A8T, A97 ks]
  by_cases h : k = 1
  ·rw [if_pos h]
  ·rw [if_neg h, if_neg h]
theorem A97 : ∀ xs : List Ty, A1X xs xs = xs
 | [] => rfl
 | a :: xs => by rw [A1X, A96 a, A97 xs]
end
theorem A3c {k : Int} {ks : List Ty} (hk : k = 4 ∨ k = 5) (h : M1 (.mk k ks) = true) : ∃ a b, ks = [a, b] ∧ M1 a = true ∧ M1 b = true := by
 unfold M1 at h ⊢
 rw [A6Q, Bool.and_eq_true, Bool.and_eq_true, decide_eq_true_eq, decide_eq_true_eq] at h
 have h2 : ks.length = 2 := by
  have : U2 k = 2 := by rcases hk with rfl | rfl <;> rfl
  omega
 match ks, h2, h.2 with
 | [x, y], _, hL =>
  simp only [Y7, Bool.and_eq_true] at hL
  exact ⟨x, y, rfl, A6R _ 2 1 zW hL.1, A6R _ 2 1 zW hL.2.1⟩
theorem A6U {k : Int} {ks : List Ty} (h : M1 (.mk k ks) = true) (hk : k ≠ 4) (hk5 : k ≠ 5) : (k = 1 ∨ k = 2 ∨ k = 3) ∧ ks = [] := by
 unfold M1 at h
 rw [A6Q, Bool.and_eq_true, Bool.and_eq_true, decide_eq_true_eq, decide_eq_true_eq] at h
 obtain ⟨h1, h2, h3⟩ := M8 k
 have hl := h.1.2
 have hk3 : k = 1 ∨ k = 2 ∨ k = 3 := by
  apply Classical.byContradiction
  intro hc
  rw [h3 zW zW zW hk hk5] at hl; omega
 rw [h1 hk3] at hl
 exact ⟨hk3, List.length_eq_zero_iff.1 zW⟩
theorem A98 {cx : Cx} {e : Tm} {T : Ty} (hc : cv e) (h : C5 cx e = some T) : M1 T = true := by
 obtain ⟨k, nm, num, ty, fr, lb, ks⟩ := e
 exact A5b (fun hk => (hc.node.1.c14 hk).2.1) h
section inv
variable {cx : Cx} {nm : ByteArray} {num : Int} {ty fr : Ty} {lb : Int} {a b c : Tm} {T : Ty}
theorem B5a {x y : Ty} (h : Q8 [x] [y] = true) : x = y := by
 simp only [Q8, Bool.and_true] at h; exact (S3 _ _).1 h
theorem A99 {x y x' y' : Ty} (h : Q8 [x, y] [x', y'] = true) : x = x' ∧ y = y' := by
 simp only [Q8, Bool.and_true, Bool.and_eq_true] at h; exact ⟨(S3 _ _).1 h.1, (S3 _ _).1 h.2⟩
theorem B5b {x y z x' y' z' : Ty} (h : Q8 [x, y, z] [x', y', z'] = true) : x = x' ∧ y = y' ∧ z = z' := by
 simp only [Q8, Bool.and_true, Bool.and_eq_true] at h; exact ⟨(S3 _ _).1 h.1, (S3 _ _).1 h.2.1, (S3 _ _).1 h.2.2⟩
theorem A3d : ∀ xs : List Ty, Q8 xs xs = true
 | [] => rfl
 | a :: xs => by rw [Q8, A3V, A3d xs]; rfl
theorem A6V (h : C5 cx (.mk 6 nm num ty fr lb [a, b]) = some T) : ∃ A, C5 cx a = some (.mk 4 [A, T]) ∧ C5 cx b = some A := by
 obtain ⟨us, hu, _, hn⟩ := A1j h
 rw [M7, if_neg zW] at hu
 obtain ⟨x, y, hx, hy, rfl⟩ := A1L hu
 obtain ⟨_, w, hw, hs⟩ := hn zV
 unfold O4 at hw
 simp only [show ¬((6 : Int) = 1) by decide, show ¬((6 : Int) = 2) by decide, show ¬((6 : Int) = 3 ∨ (6 : Int) = 4) by decide, show ¬((6 : Int) = 5) by decide, if_false, if_true, List.getD_cons_zero, List.getD_cons_succ] at hw
 split at hw
 ·rename_i p q hm
  split at hw
  ·cases hw
   obtain ⟨h1, h2⟩ := A99 hs
   subst h1 h2
   exact ⟨_, hx, hy⟩
  ·cases hw
 ·cases hw
theorem B0a {A : Ty} (hv : M1 T = true) (ha : C5 cx a = some (.mk 4 [A, T])) (hb : C5 cx b = some A) : C5 cx (.mk 6 nm num ty fr lb [a, b]) = some T := by
 refine A1k (us := [.mk 4 [A, T], A]) (w := [.mk 4 [A, T], A]) (A6T ha hb) zV hv ?_ (A3d _)
 unfold O4
 simp only [show ¬((6 : Int) = 1) by decide, show ¬((6 : Int) = 2) by decide, show ¬((6 : Int) = 3 ∨ (6 : Int) = 4) by decide, show ¬((6 : Int) = 5) by decide, if_false, if_true, List.getD_cons_zero, List.getD_cons_succ, A30, A5c]
theorem A5d {k : Int} (hk : k = 7 ∨ k = 8) (h : C5 cx (.mk k nm num ty fr lb [a, b]) = some T) : C5 cx a = some N2 ∧ C5 cx b = some N2 ∧ T = if k = 8 then R8 else N2 := by
 obtain ⟨us, hu, _, hn⟩ := A1j h
 rw [M7, if_neg zW] at hu
 obtain ⟨x, y, hx, hy, rfl⟩ := A1L hu
 obtain ⟨_, w, hw, hs⟩ := hn zW
 unfold O4 at hw
 rw [if_neg zW, if_neg zW, if_neg zW, if_neg zW, if_neg zW, if_pos hk] at hw
 split at hw
 ·cases hw
  obtain ⟨h1, h2⟩ := A99 hs
  subst h1 h2
  exact ⟨hx, hy, rfl⟩
 ·cases hw
theorem A6W (h : C5 cx (.mk 9 nm num ty fr lb [a, b, c]) = some T) : C5 cx a = some R8 ∧ C5 cx b = some T ∧ C5 cx c = some T := by
 obtain ⟨us, hu, _, hn⟩ := A1j h
 rw [M7, if_neg zW] at hu
 obtain ⟨x, y, z, hx, hy, hz, rfl⟩ := A6S hu
 obtain ⟨_, w, hw, hs⟩ := hn zV
 unfold O4 at hw
 rw [if_neg zW, if_neg zW, if_neg zW, if_neg zW, if_neg zW, if_neg zW, if_pos rfl] at hw
 split at hw
 ·cases hw
  obtain ⟨h1, h2, h3⟩ := B5b hs
  simp only [List.getD_cons_zero, List.getD_cons_succ] at h2 h3 ⊢
  refine ⟨by rw [hx, h1], by rw [hy]; congr 1; exact h2.symm, by rw [hz]; congr 1; exact h3.symm⟩
 ·cases hw
theorem A5e (h : C5 cx (.mk 10 nm num ty fr lb [a, b]) = some T) : ∃ A B, C5 cx a = some A ∧ C5 cx b = some B ∧ T = .mk 5 [A, B] := by
 obtain ⟨us, hu, _, hn⟩ := A1j h
 rw [M7, if_neg zW] at hu
 obtain ⟨x, y, hx, hy, rfl⟩ := A1L hu
 obtain ⟨_, w, hw, hs⟩ := hn zV
 unfold O4 at hw
 rw [if_neg zW, if_neg zW, if_neg zW, if_neg zW, if_neg zW, if_neg zW, if_neg zW, if_pos rfl] at hw
 cases hw
 exact ⟨x, y, hx, hy, rfl⟩
theorem A6X {k : Int} (hk : k = 11 ∨ k = 12) (h : C5 cx (.mk k nm num ty fr lb [a]) = some T) : ∃ A B, C5 cx a = some (.mk 5 [A, B]) ∧ T = if k = 12 then B else A := by
 obtain ⟨us, hu, _, hn⟩ := A1j h
 rw [M7, if_neg zW] at hu
 obtain ⟨x, hx, rfl⟩ := A2G hu
 obtain ⟨_, w, hw, hs⟩ := hn zW
 unfold O4 at hw
 rw [if_neg zW, if_neg zW, if_neg zW, if_neg zW, if_neg zW, if_neg zW, if_neg zW, if_neg zW, if_neg zW] at hw
 split at hw
 ·rename_i p q hm
  cases hw
  have h1 := B5a hs
  subst h1
  exact ⟨p, q, hx, rfl⟩
 ·cases hw
theorem A6Y {k : Int} {A B : Ty} (hk : k = 11 ∨ k = 12) (hv : M1 (if k = 12 then B else A) = true) (h : C5 cx a = some (.mk 5 [A, B])) : C5 cx (.mk k nm num ty fr lb [a]) = some (if k = 12 then B else A) := by
 refine A1k (us := [.mk 5 [A, B]]) (w := [.mk 5 [A, B]]) (by rw [M7, if_neg zW]; exact A34 h) zW hv ?_ (A3d _)
 unfold O4
 rw [if_neg zW, if_neg zW, if_neg zW, if_neg zW, if_neg zW, if_neg zW, if_neg zW, if_neg zW, if_neg zW]
 simp only [List.getD_cons_zero, A30, if_true, List.getD_cons_succ]
theorem A17 (h : C5 cx (.mk 14 nm num ty fr lb [a]) = some T) : C5 cx a = some fr ∧ T = ty := by
 obtain ⟨us, hu, hn, _⟩ := A1j h
 obtain ⟨x, hx, rfl⟩ := A2G hu
 obtain ⟨h1, h2⟩ := hn rfl
 simp only [List.getD_cons_zero] at h1
 subst h1
 exact ⟨hx, h2⟩
theorem A1M (h : C5 cx a = some fr) : C5 cx (.mk 14 nm num ty fr lb [a]) = some ty := by
 rw [C5, show M7 cx 14 nm ty = cx from rfl, A34 h]
 simp only [if_true, List.getD_cons_zero, A3V]
theorem A6Z (h : C5 cx (.mk 5 nm num ty fr lb [a]) = some T) : ∃ B, C5 (cx ++ [(nm, ty)]) a = some B ∧ T = .mk 4 [ty, B] := by
 obtain ⟨us, hu, _, hn⟩ := A1j h
 rw [M7, if_pos rfl] at hu
 obtain ⟨x, hx, rfl⟩ := A2G hu
 obtain ⟨_, w, hw, hs⟩ := hn zV
 unfold O4 at hw
 rw [if_neg zW, if_neg zW, if_neg zW, if_pos rfl] at hw
 cases hw
 exact ⟨x, hx, rfl⟩
theorem A35 (h : C5 cx (.mk 1 nm num ty fr lb []) = some T) : O9 cx nm = some T := by
 obtain ⟨us, hu, _, hn⟩ := A1j h
 obtain ⟨_, w, hw, hs⟩ := hn zV
 unfold O4 at hw
 rw [if_pos rfl] at hw
 split at hw
 ·rename_i t ht; cases hw; exact ht
 ·cases hw
theorem B0b (h : C5 cx (.mk 2 nm num ty fr lb []) = some T) : T = N2 := by
 obtain ⟨us, hu, _, hn⟩ := A1j h
 obtain ⟨_, w, hw, hs⟩ := hn zV
 cases hw; rfl
theorem B0c {k : Int} (hk : k = 3 ∨ k = 4) (h : C5 cx (.mk k nm num ty fr lb []) = some T) : T = R8 := by
 obtain ⟨us, hu, _, hn⟩ := A1j h
 obtain ⟨_, w, hw, hs⟩ := hn zW
 rcases hk with rfl | rfl <;> (cases hw; rfl)
end inv
theorem A1l (cx : Cx) (x nm : ByteArray) (t : Ty) : O9 (cx ++ [(x, t)]) nm = if x = nm then some t else O9 cx nm := by
 unfold O9
 rw [List.length_append, show ([(x, t)] : Cx).length = 1 from rfl]
 have hl : (cx ++ [(x, t)])[cx.length]? = some (x, t) := by rw [List.getElem?_append_right (Nat.le_refl _)]; simp
 by_cases h : x = nm
 ·rw [A20 hl h, if_pos h]
 ·rw [A21 hl h, if_neg h]
  have : ∀ n, n ≤ cx.length → U4 (cx ++ [(x, t)]) nm n = U4 cx nm n := by
   intro n
   induction n with
   | zero => intro _; rfl
   | succ n ih =>
    intro hn
    rw [U4, U4, List.getElem?_append_left zW, ih zW]
  exact this _ (Nat.le_refl _)
theorem B5c {cx cy : Cx} (h : ∀ x, O9 cx x = O9 cy x) (k : Int) (nm : ByteArray) (ty : Ty) : ∀ x, O9 (M7 cx k nm ty) x = O9 (M7 cy k nm ty) x := by
 intro x
 unfold M7
 split
 ·rw [A1l, A1l, h]
 ·exact h x
theorem B0d {cx cy : Cx} {k : Int} {nm : ByteArray} {ty : Ty} {h : List Ty} (he : O9 cx nm = O9 cy nm) : V2 cx k nm ty h = V2 cy k nm ty h := by
 unfold V2 O4
 rw [he]
mutual
theorem B5d : ∀ (e : Tm) (cx cy : Cx), (∀ x, O9 cx x = O9 cy x) → C5 cx e = C5 cy e
 | .mk k nm num ty fr lb ks, cx, cy, h => by
  rw [C5, C5, A60 ks _ _ (B5c h k nm ty)]
  split
  ·rfl
  ·rw [B0d (h nm)]
theorem A60 : ∀ (ts : List Tm) (cx cy : Cx), (∀ x, O9 cx x = O9 cy x) → J6 cx ts = J6 cy ts
 | [], _, _, _ => by rw [J6, J6]
 | t :: ts, cx, cy, h => by rw [J6, J6, B5d t cx cy h, A60 ts cx cy h]
end
theorem B5e {cx cy : Cx} {k : Int} {nm : ByteArray} {ty : Ty} {h : List Ty} (hk : k ≠ 1) : O4 cx k nm ty h = O4 cy k nm ty h := by
 unfold O4
 rw [if_neg hk, if_neg hk]
theorem B0e {cx cy : Cx} {k : Int} {nm : ByteArray} {ty : Ty} {h : List Ty} (hk : k ≠ 1) : V2 cx k nm ty h = V2 cy k nm ty h := by
 unfold V2; rw [B5e (cy := cy) hk]
mutual
theorem B0f {x : ByteArray} {A : Ty} {v : Tm} (hv : C5 [] v = some A) : ∀ (e : Tm) (cx cy : Cx) (T : Ty), cv e → (∀ y, y ≠ x → O9 cx y = O9 cy y) → O9 cx x = some A → C5 cx e = some T → C5 cy (W0 x v e) = some T
 | .mk k nm num ty fr lb ks, cx, cy, T, hc, h, hx, ht => by
  have hkk := hc.node.2
  have hop := hc.node.1.ops
  rw [W0]
  by_cases h1 : k = 1 ∧ nm = x
  ·rw [if_pos h1]
   obtain ⟨rfl, rfl⟩ := h1
   have hks : ks = [] := List.length_eq_zero_iff.1 (by have : F7 1 = 0 := rfl; omega)
   subst hks
   have h2 := A35 ht
   rw [hx] at h2
   cases h2
   have h3 := A9Z cy v [] A hv
   rwa [List.append_nil] at h3
  ·rw [if_neg h1]
   by_cases h5 : k = 5 ∧ nm = x
   ·rw [if_pos h5]
    obtain ⟨rfl, rfl⟩ := h5
    rw [C5] at ht ⊢
    rw [← A60 ks (M7 cx 5 nm ty) (M7 cy 5 nm ty) (fun y => by
     rw [M7, M7, if_pos rfl, if_pos rfl, A1l, A1l]
     by_cases hy : nm = y
     ·rw [if_pos hy, if_pos hy]
     ·rw [if_neg hy, if_neg hy]; exact h y (fun e => hy e.symm))]
    split at ht
    ·cases ht
    ·rename_i us hu
     rw [B0e (cy := cx) zV]
     exact ht
   ·rw [if_neg h5]
    rw [C5] at ht ⊢
    have hin : ∀ us, J6 (M7 cx k nm ty) ks = some us → J6 (M7 cy k nm ty) (W1 x v ks) = some us := by
     intro us hu
     refine B0g hv ks _ _ us hkk ?_ ?_ hu
     ·intro y hy
      unfold M7
      split
      ·rw [A1l, A1l, h y hy]
      ·exact h y hy
     ·unfold M7
      split
      ·rename_i hk
       rw [A1l, if_neg (fun e => h5 ⟨hk, e⟩)]; exact hx
      ·exact hx
    split at ht
    ·cases ht
    ·rename_i us hu
     rw [hin us hu]
     simp only at ht ⊢
     by_cases hk1 : k = 1
     ·subst hk1
      have hn : nm ≠ x := fun e => h1 ⟨rfl, e⟩
      rw [B0d (h nm hn)] at ht
      exact ht
     ·rw [B0e (cy := cx) hk1]
      exact ht
theorem B0g {x : ByteArray} {A : Ty} {v : Tm} (hv : C5 [] v = some A) : ∀ (ts : List Tm) (cx cy : Cx) (us : List Ty), (∀ t ∈ ts, cv t) → (∀ y, y ≠ x → O9 cx y = O9 cy y) → O9 cx x = some A → J6 cx ts = some us → J6 cy (W1 x v ts) = some us
 | [], cx, cy, us, _, _, _, hu => by rw [J6] at hu; cases hu; rw [W1, J6]
 | t :: ts, cx, cy, us, hc, h, hx, hu => by
  rw [J6] at hu
  split at hu
  ·cases hu
  ·rename_i T hT
   split at hu
   ·cases hu
   ·rename_i Ts hTs
    cases hu
    rw [W1, J6, B0f hv t cx cy T (hc t List.mem_cons_self) h hx hT, B0g hv ts cx cy Ts (fun u hu => hc u (List.mem_cons_of_mem _ hu)) h hx hTs]
end
mutual
def A61 : Ty → Ty → Bool
 | .mk k ks, t => decide (t.k = 1) || (decide (k = t.k) && B0h ks t.ks)
def B0h : List Ty → List Ty → Bool
 | [], [] => true
 | a :: xs, b :: ys => A61 a b && B0h xs ys
 | _, _ => false
end
mutual
def B0i : Tm → Tm → Bool
 | .mk k nm num ty _ _ ks, u => decide (k = u.k ∧ nm = u.nm ∧ num = u.num) && (decide (k ≠ 5 ∧ k ≠ 13) || A61 ty u.ty) && B0j ks u.ks
def B0j : List Tm → List Tm → Bool
 | [], [] => true
 | a :: xs, b :: ys => B0i a b && B0j xs ys
 | _, _ => false
end
def B5f (a b : Tm) : Bool := A0G a && (A0G b && B0i a b)
theorem A18 : ∀ (t : Ty), M1 t = true → ∃ a : GT, t = a.ty
 | .mk k ks, h => by
  by_cases h4 : k = 4
  ·obtain ⟨x, y, hxy, hx, hy⟩ := A3c (.inl h4) h
   have : SizeOf.sizeOf x < SizeOf.sizeOf ks ∧ SizeOf.sizeOf y < SizeOf.sizeOf ks := by subst hxy; simp; omega
   obtain ⟨a, ha⟩ := A18 x hx
   obtain ⟨b, hb⟩ := A18 y hy
   exact ⟨.fn a b, by rw [h4, hxy, ha, hb]; rfl⟩
  ·by_cases h5 : k = 5
   ·obtain ⟨x, y, hxy, hx, hy⟩ := A3c (.inr h5) h
    have : SizeOf.sizeOf x < SizeOf.sizeOf ks ∧ SizeOf.sizeOf y < SizeOf.sizeOf ks := by subst hxy; simp; omega
    obtain ⟨a, ha⟩ := A18 x hx
    obtain ⟨b, hb⟩ := A18 y hy
    exact ⟨.pr a b, by rw [h5, hxy, ha, hb]; rfl⟩
   ·obtain ⟨h1, rfl⟩ := A6U h h4 h5
    rcases h1 with rfl | rfl | rfl
    ·exact ⟨.any, rfl⟩
    ·exact ⟨.int, rfl⟩
    ·exact ⟨.bool, rfl⟩
 termination_by t => SizeOf.sizeOf t
 decreasing_by all_goals (simp only [Ty.mk.sizeOf_spec]; omega)
theorem B0k : ∀ (a b : GT), O8 a.ty b.ty = true ↔ Co a b := by
 intro a
 induction a with
 | any => intro b; cases b <;> simp [GT.ty, V1, T0] <;> exact .l
 | int => intro b; cases b <;> simp [GT.ty, V1, T0] <;> first | exact .r | exact .int | (intro h; cases h)
 | bool => intro b; cases b <;> simp [GT.ty, V1, T0] <;> first | exact .r | exact .bool | (intro h; cases h)
 | fn x y i j =>
  intro b
  cases b with
  | fn z w => simp only [GT.ty, V1, T0, i, j, Bool.or_eq_true, Bool.and_eq_true, decide_eq_true_eq, Bool.and_true, true_and]; exact ⟨fun h => by rcases h with h | h; exact absurd h zV; exact .fn h.1 h.2, fun h => by cases h with | fn a b => exact .inr ⟨a, b⟩⟩
  | any => simp [GT.ty, V1, T0]; exact .r
  | _ => simp [GT.ty, V1, T0]; intro h; cases h
 | pr x y i j =>
  intro b
  cases b with
  | pr z w => simp only [GT.ty, V1, T0, i, j, Bool.or_eq_true, Bool.and_eq_true, decide_eq_true_eq, Bool.and_true, true_and]; exact ⟨fun h => by rcases h with h | h; exact absurd h zV; exact .pr h.1 h.2, fun h => by cases h with | pr a b => exact .inr ⟨a, b⟩⟩
  | any => simp [GT.ty, V1, T0]; exact .r
  | _ => simp [GT.ty, V1, T0]; intro h; cases h
def A5f : GT → GT → GT
 | .any, b => b
 | .fn a b, .fn c d => .fn (A5f a c) (A5f b d)
 | .pr a b, .pr c d => .pr (A5f a c) (A5f b d)
 | a, _ => a
def gmF : GT → Option (GT × GT)
 | .fn a b => some (a, b)
 | .any => some (.any, .any)
 | _ => none
def gmP : GT → Option (GT × GT)
 | .pr a b => some (a, b)
 | .any => some (.any, .any)
 | _ => none
def CxR (cx cx' : Cx) (Γ : GC) : Prop := ∀ x a, O9 cx x = some a → ∃ A A', a = A.ty ∧ O9 cx' x = some A'.ty ∧ Γ x = some (A, A') ∧ Le A A'
theorem B0l : CxR [] [] D6 := by intro x a h; simp [O9, U4] at h
theorem B5g {cx cx' : Cx} {Γ : GC} (h : CxR cx cx' Γ) {A A' : GT} (hl : Le A A') (x : ByteArray) : CxR (cx ++ [(x, A.ty)]) (cx' ++ [(x, A'.ty)]) (P4 Γ x A A') := by
 intro y a ha
 rw [A1l] at ha ⊢
 unfold P4
 by_cases hy : x = y
 ·rw [if_pos hy] at ha ⊢
  rw [if_pos hy]
  cases ha
  exact ⟨A, A', rfl, rfl, rfl, hl⟩
 ·rw [if_neg hy] at ha ⊢
  rw [if_neg hy]
  exact h y a ha
def B8z (A B : GT) (l : Int) (e : GE) : GE := if H9 A.ty B.ty = true then e else .cast A B l e
inductive GPL (Γ : GC) : List GE → List GE → List GT → List GT → Prop
 | nil : GPL Γ [] [] [] []
 | cons {e e' A A' es es' As As'} : GP Γ e e' A A' → GPL Γ es es' As As' → GPL Γ (e :: es) (e' :: es') (A :: As) (A' :: As')
abbrev ElR (Γ : GC) (u : Tm) (a : Ty) (r : Option (Tm × Ty × Int)) : Prop := ∃ e A e' A' l2, u = e.tm ∧ a = A.ty ∧ r = some (e'.tm, A'.ty, l2) ∧ GP Γ e e' A A'
section
variable {cx cx' : Cx} {Γ : GC} {es es' : List GE} {As As' : List GT} {l l' : Int} {u : Tm} {a : Ty} {l2 : Int} {nm : ByteArray} {num : Int}
end
theorem B0m (k : Int) (p : Option Addr) (n c : Nat) (G : IM) : Fn Tryz.prog 168 [.int .i64 k, .slice p n c] [] G (J5 (.agg ⟨[.int .i64 k, .string ⟨⟨[]⟩⟩, .int .i64 0, .int .i64 0, .slice none 0 0, .int .i64 0, .slice none 0 0, .int .i64 0, .slice p n c]⟩) G) := by
 refine C7 Tryz.func168 rfl Tryz.ntmps168 Tryz.results168 rfl ?_
 intro w0
 refine A4 ?_
 refine sE (A8 rfl) rfl (fun b3 => ?_)
 refine I3 ?_
 refine L0 (rC rfl (A3 rfl rfl)) ?_
 (exact ⟨rfl, rfl, rfl⟩)
theorem B0n (G : IM) {k : Int} (hk : E8 k) : B6 G (A0h k []) [.int .i64 k, .string ⟨⟨[]⟩⟩, .int .i64 0, .int .i64 0, .slice none 0 0, .int .i64 0, .slice none 0 0, .int .i64 0, .slice none 0 0] := A9u hk rfl (D0.nil _ _) rfl
theorem B5h (G : IM) : Fn Tryz.prog 129 [.bool true] [] G (TmP (A0i (true = true))) := by
 refine C7 Tryz.func129 rfl Tryz.ntmps129 Tryz.results129 rfl ?_
 intro w0
 refine A4 ?_
 refine sE (A8 rfl) rfl (fun b3 => ?_)
 refine I3 ?_
 refine E6 rfl ((B0m _ _ _ _ _)) rfl rfl ?_
 refine A9 ?_
 refine L0 (rC rfl (A3 rfl rfl)) ?_
 (exact TmP.mk (B0n _ ⟨by decide, by decide⟩))
theorem B5i (G : IM) : Fn Tryz.prog 129 [.bool false] [] G (TmP (A0i (false = true))) := by
 refine C7 Tryz.func129 rfl Tryz.ntmps129 Tryz.results129 rfl ?_
 intro w0
 refine A4 ?_
 refine sE (A8 rfl) rfl (fun b3 => ?_)
 refine J2 ?_
 refine E6 rfl ((B0m _ _ _ _ _)) rfl rfl ?_
 refine C3 ?_
 refine L0 (rC rfl (A3 rfl rfl)) ?_
 (exact TmP.mk (B0n _ ⟨by decide, by decide⟩))
theorem B0o (b : Bool) (G : IM) : Fn Tryz.prog 129 [.bool b] [] G (TmP (A0i (b = true))) := by
 cases b
 ·exact B5i G
 ·exact B5h G
theorem B5j {a b : Int} (h : 0 ≤ a ∧ a ≤ 999) (h' : 0 ≤ b ∧ b ≤ 999) : (a + b).tmod 1000 = (a + b) % 1000 := by
 rw [Int.tmod_eq_emod_of_nonneg zW]
def B8A (k : Int) (ks : List Tm) : Option Tm :=
 if k = 6 then (if (kd ks 0).k = 5 then some (W0 (kd ks 0).nm (kd ks 1) (kd (kd ks 0).ks 0)) else none)
 else if k = 7 ∨ k = 8 then (if (kd ks 0).k = 2 ∧ (kd ks 1).k = 2 then some (if k = 7 then A44 (((kd ks 0).num + (kd ks 1).num) % 1000) else A0i ((kd ks 0).num < (kd ks 1).num)) else none)
 else if k = 9 then (if (kd ks 0).k = 3 then some (kd ks 1) else if (kd ks 0).k = 4 then some (kd ks 2) else none)
 else if k = 11 ∨ k = 12 then (if (kd ks 0).k = 10 then some (kd (kd ks 0).ks (k - 11).toNat) else none)
 else none
def B8B (o : Option Tm) : IM → Value → List A6 → Prop := K1 fun G' v => ∃ u cells c, v = .tuple ⟨[.agg ⟨cells⟩, .int .i64 c]⟩ ∧ B6 G' u cells ∧ (∀ x, o = some x → c = 1 ∧ u = x) ∧ (o = none → c = 3)
theorem B0p (G : IM) : B6 G K5 [.int .i64 0, .string ⟨⟨[]⟩⟩, .int .i64 0, .int .i64 0, .slice none 0 0, .int .i64 0, .slice none 0 0, .int .i64 0, .slice none 0 0] := (Q4.zero G).R
section
variable {P : Program} {Γ : L3} {K : Po} {ops : Array Oper} {env : M0} {hp : List A6} {G : IM}
theorem A1m {H : List (Nat × Nat)} {fuel j : Nat} {listed : List Bool} {hp' : List A6} {p : Option Addr} {c el sz n : Nat} {cs : List Value} (hk : Pk hp (.slc p c el sz n cs) hp')
  (h : ∀ G', C1 G G' → Sl G' p n c sz cs → (∀ b ∈ J9 p, G b = none ∧ G' b ≠ none) → T6 P Γ ops K H fuel listed j ⟨env, hp', G'⟩) : T6 P Γ ops K H fuel listed j ⟨env, hp, G⟩ :=
 ⟨fun a w hs => let ⟨G', h1, h2, h3, h4⟩ := hs.freeze hk; (h G' h2 h3 h4).run a w h1⟩
end
def B8C (k : Int) (ty fr : Ty) (lb : Int) (ks : List Tm) : Stp :=
 if k = 6 then
  (if Z6 (kd ks 0) = true ∧ (kd ks 0).ty.k = 4 then (Q6 (A0h 6 [kd (kd ks 0).ks 0, Q6 (kd ks 1) (kt (kd ks 0).ty.ks 0) (kt (kd ks 0).fr.ks 0) (-(kd ks 0).lb)]) (kt (kd ks 0).fr.ks 1) (kt (kd ks 0).ty.ks 1) (kd ks 0).lb, 1, 0) else Z7)
 else if k = 11 ∨ k = 12 then
  (if Z6 (kd ks 0) = true ∧ (kd ks 0).ty.k = 5 then (Q6 (A0h k [kd (kd ks 0).ks 0]) (kt (kd ks 0).fr.ks (k - 11).toNat) (kt (kd ks 0).ty.ks (k - 11).toNat) (kd ks 0).lb, 1, 0) else Z7)
 else if k = 14 then
  (if fr.k = ty.k then (kd ks 0, 1, 0)
   else if ty.k = 1 then (Q6 (Q6 (kd ks 0) fr (A0p fr) lb) (A0p fr) ty lb, 1, 0)
   else if Y2 ty = false then (Q6 (Q6 (kd ks 0) fr (A0p ty) lb) (A0p ty) ty lb, 1, 0)
   else if inj (kd ks 0) = false then Z7
   else if (kd ks 0).fr.k = ty.k then (kd (kd ks 0).ks 0, 1, 0)
   else (K5, 2, lb))
 else Z7
def B8D (r : Stp) : IM → Value → List A6 → Prop := K1 fun G' v => ∃ u cells, v = .tuple ⟨[.agg ⟨cells⟩, .int .i64 r.2.1, .int .i64 r.2.2]⟩ ∧ B6 G' u cells ∧ (r.2.1 = 1 → u = r.1)
theorem B5k {t : Tm} (h : inj t = true) : t.k = 14 := by
 unfold inj at h
 simp only [Bool.and_eq_true, decide_eq_true_eq] at h
 exact h.1.1
theorem B5l {t : Tm} (h : inj t = true) : Y2 t.fr = true := by
 unfold inj at h
 rw [Bool.and_eq_true] at h
 exact h.2
theorem ks1 {ks : List Tm} (h : ks.length = 1) : ∃ a, ks = [a] := by
 match ks, h with
 | [a], _ => exact ⟨a, rfl⟩
theorem ks2 {ks : List Tm} (h : ks.length = 2) : ∃ a b, ks = [a, b] := by
 match ks, h with
 | [a, b], _ => exact ⟨a, b, rfl⟩
theorem ks3 {ks : List Tm} (h : ks.length = 3) : ∃ a b c, ks = [a, b, c] := by
 match ks, h with
 | [a, b, c], _ => exact ⟨a, b, c, rfl⟩
theorem A62 (n : Nat) (t : Tm) (ts : List Tm) : X6 (n + 1) (t :: ts) = if H8 t = true then (match X6 n ts with | some (us, c, l) => some (t :: us, c, l) | none => none) else some ((I6 t).1 :: ts, (I6 t).2.1, (I6 t).2.2) := by
 rw [X6]; rfl
theorem B0q : ∀ (n : Nat) (ks : List Tm), (∀ i, i < n → (h : i < ks.length) → H8 ks[i] = true) → X6 n ks = none
 | n, [], _ => by cases n <;> rfl
 | 0, t :: ts, _ => rfl
 | n + 1, t :: ts, h => by
  rw [A62, if_pos (show H8 t = true from h 0 zW zX), B0q n ts (fun i hi hl => h (i + 1) zW (by simpa using hl))]
theorem B0r : ∀ (n : Nat) (ks : List Tm) (i : Nat) (hi : i < ks.length), i < n → (∀ j, j < i → (h : j < ks.length) → H8 ks[j] = true) → H8 ks[i] = false → X6 n ks = some (ks.set i (I6 ks[i]).1, (I6 ks[i]).2.1, (I6 ks[i]).2.2)
 | n, [], i, hi, _, _, _ => by simp at hi
 | 0, t :: ts, i, _, hn, _, _ => by omega
 | n + 1, t :: ts, 0, _, _, _, hv => by
  rw [A62, if_neg (by rw [show H8 t = false from hv]; decide)]; rfl
 | n + 1, t :: ts, i + 1, hi, hn, hj, hv => by
  rw [A62, if_pos (show H8 t = true from hj 0 zW zX), B0r n ts i (by simpa using hi) zW (fun j hji hl => hj (j + 1) zW (by simpa using hl)) hv]
  rfl
theorem B5m {k : Int} {ty fr : Ty} {lb : Int} {ks : List Tm} (h : (A0A k ty fr lb ks).2.1 = 1) : (A0A k ty fr lb ks).2.2 = 0 := by
 revert h
 unfold A0A Z7
 repeat' split
 all_goals first | (intro _; rfl) | (intro h; exfalso; revert h; simp)
theorem B5n {k : Int} {nm : ByteArray} {num : Int} {ty fr : Ty} {lb : Int} {ks : List Tm} (h : (I6 (.mk k nm num ty fr lb ks)).2.1 = 1) : (I6 (.mk k nm num ty fr lb ks)).2.2 = 0 := by
 rw [I6] at h ⊢
 cases hL : X6 (if k = 9 then 1 else ks.length) ks with
 | none => rw [hL] at h; exact B5m h
 | some p =>
  obtain ⟨us, c, l⟩ := p
  rw [hL] at h
  simp only at h ⊢
  by_cases hc : c = 1
  ·rw [if_pos hc]
  ·rw [if_neg hc] at h; exact absurd h hc
theorem B5o {t : Tm} (h : (I6 t).2.1 = 1) : (I6 t).2.2 = 0 := by cases t; exact B5n h
theorem B5p {k : Int} {nm : ByteArray} {num : Int} {ty fr : Ty} {lb : Int} {ks : List Tm} {i : Nat} (hi : i < ks.length) (hn : i < (if k = 9 then 1 else ks.length)) (hj : ∀ j, j < i → (h : j < ks.length) → H8 ks[j] = true) (hv : H8 ks[i] = false) :
  (I6 (.mk k nm num ty fr lb ks)).2.1 = (I6 ks[i]).2.1 ∧ (I6 (.mk k nm num ty fr lb ks)).2.2 = (I6 ks[i]).2.2 ∧ ((I6 ks[i]).2.1 = 1 → (I6 (.mk k nm num ty fr lb ks)).1 = .mk k nm num ty fr lb (ks.set i (I6 ks[i]).1)) := by
 rw [I6, B0r _ ks i hi hn hj hv]
 simp only
 by_cases hc : (I6 ks[i]).2.1 = 1
 ·rw [if_pos hc]
  exact ⟨hc.symm, (B5o hc).symm, fun _ => rfl⟩
 ·rw [if_neg hc]
  exact ⟨rfl, rfl, fun h => absurd h hc⟩
theorem B0s {k : Int} (h : 0 ≤ F7 k) : 1 ≤ k ∧ k ≤ 14 := by
 by_cases hk : 1 ≤ k ∧ k ≤ 14
 ·exact hk
 ·rw [A3L hk] at h; omega
theorem B5q {k : Int} {nm : ByteArray} {num : Int} {ty fr : Ty} {lb : Int} {ks : List Tm} (hc : cv (.mk k nm num ty fr lb ks)) (hv : H8 (.mk k nm num ty fr lb ks) = false) (h : ∀ i, i < (if k = 9 then 1 else ks.length) → (hl : i < ks.length) → H8 ks[i] = true) : k = 1 ∨ k = 6 ∨ k = 7 ∨ k = 8 ∨ k = 9 ∨ k = 11 ∨ k = 12 ∨ k = 14 := by
 obtain ⟨hN, _⟩ := hc.node
 have hr := B0s (by rw [hN.ops]; omega : 0 ≤ F7 k)
 have h13 := hN.ne
 have h25 : ¬(k = 2 ∨ k = 3 ∨ k = 4 ∨ k = 5) := by
  intro hk
  rw [H8, if_neg zW] at hv
  rw [decide_eq_true hk] at hv
  cases hv
 have h10 : k ≠ 10 := by
  rintro rfl
  rw [A9y (.inl rfl), List.all_eq_false] at hv
  obtain ⟨t, ht, hn⟩ := hv
  obtain ⟨i, hi, rfl⟩ := List.mem_iff_getElem.1 ht
  exact hn (h i (by rw [if_neg zV]; exact hi) hi)
 omega
def B8E (r : Stp) : IM → Value → List A6 → Prop := K1 fun G' v => ∃ cells, v = .tuple ⟨[.agg ⟨cells⟩, .int .i64 r.2.1, .int .i64 r.2.2]⟩ ∧ B6 G' r.1 cells
theorem B0t {t : Tm} (h : K2 t = true) : t.small := A9p t (A12 h).1
theorem B5r {e : Tm} (h : K2 e = true) (h2 : H8 e = true) : J3 e = (e, 0, 0) := by unfold J3; rw [if_neg (by rw [h]; decide), if_pos h2]
theorem B0u {e : Tm} (h : K2 e = true) (h2 : H8 e = false) (h3 : (I6 e).2.1 ≠ 1) : J3 e = (K5, (I6 e).2.1, (I6 e).2.2) := by
 unfold J3; rw [if_neg (by rw [h]; decide), if_neg (by rw [h2]; decide), if_pos h3]
theorem B0v {e : Tm} (h : K2 e = true) (h2 : H8 e = false) (h3 : (I6 e).2.1 = 1) (h4 : K2 (I6 e).1 = false) : J3 e = (K5, 4, 0) := by
 unfold J3; rw [if_neg (by rw [h]; decide), if_neg (by rw [h2]; decide), if_neg zW, if_pos h4]
theorem B0w {e : Tm} (h : K2 e = true) (h2 : H8 e = false) (h3 : (I6 e).2.1 = 1) (h4 : K2 (I6 e).1 = true) : J3 e = ((I6 e).1, 1, 0) := by
 unfold J3; rw [if_neg (by rw [h]; decide), if_neg (by rw [h2]; decide), if_neg zW, if_neg (by rw [h4]; decide)]
def A5g : Nat → Tm → Tm × Int × Int × Nat
 | 0, e => ((J3 e).1, (J3 e).2.1, (J3 e).2.2, 0)
 | n + 1, e => if (J3 e).2.1 = 1 then ((A5g n (J3 e).1).1, (A5g n (J3 e).1).2.1, (A5g n (J3 e).1).2.2.1, (A5g n (J3 e).1).2.2.2 + 1)
  else ((J3 e).1, (J3 e).2.1, (J3 e).2.2, 0)
def EvP (r : Tm × Int × Int × Nat) : IM → Value → List A6 → Prop := K1 fun G' v => ∃ cells, v = .tuple ⟨[.agg ⟨cells⟩, .int .i64 r.2.1, .int .i64 r.2.2.1, .int .i64 (r.2.2.2 : Int)]⟩ ∧ B6 G' r.1 cells
def B8F (i : Nat) (r : Tm × Int × Int × Nat) : Tm × Int × Int × Nat := (r.1, r.2.1, r.2.2.1, r.2.2.2 + i)
section fin
variable {P : Program} {Γ : L3} {env : M0} {hp : List A6} {G : IM}
theorem A36 {r r2 r3 r4 : ResultVar} {post : IM → Value → List A6 → Prop} {v v2 v3 v4 : Value} (h : A0m P Γ ⟨env, hp, G⟩ r v) (h2 : A0m P Γ ⟨env, hp, G⟩ r2 v2) (h3 : A0m P Γ ⟨env, hp, G⟩ r3 v3) (h4 : A0m P Γ ⟨env, hp, G⟩ r4 v4) (hk : post G (.tuple ⟨[v, v2, v3, v4]⟩) []) :
  A0X P Γ [r, r2, r3, r4] post .ret ⟨env, hp, G⟩ := A4z (.cons h (.cons h2 (.cons h3 (.cons h4 .nil)))) hk
end fin
theorem B5s (fuel : Int) (G : IM) : Fn Tryz.prog 31 [.int .i64 fuel] [] G (J5 (.bool (U1 fuel 0 300)) G) := by
 refine C7 Tryz.func31 rfl Tryz.ntmps31 Tryz.results31 rfl ?_
 intro w0
 refine E7 ?_
 refine E6 rfl ((A1f _ _ _ _)) rfl rfl ?_
 refine A9 ?_
 (exact ⟨rfl, rfl, rfl⟩)
mutual
def T4 (L : Int → Prop) : Tm → Prop
 | .mk k nm num ty fr lb ks => (k = 14 → L lb) ∧ A1n L ks
def A1n (L : Int → Prop) : List Tm → Prop
 | [] => True
 | t :: ts => T4 L t ∧ A1n L ts
end
theorem A0t {L : Int → Prop} {k : Int} {nm : ByteArray} {num : Int} {ty fr : Ty} {lb : Int} {ks : List Tm} : T4 L (.mk k nm num ty fr lb ks) ↔ (k = 14 → L lb) ∧ A1n L ks := by rw [T4]
theorem A1N {L : Int → Prop} : ∀ {ts : List Tm}, A1n L ts ↔ ∀ t ∈ ts, T4 L t
 | [] => by simp [A1n]
 | t :: ts => by rw [A1n, A1N (ts := ts)]; simp
theorem A2H {L : Int → Prop} {e : Tm} {a b : Ty} {l : Int} (hl : L l) (h : T4 L e) : T4 L (Q6 e a b l) := by
 rw [Q6, A0t]; exact ⟨fun _ => hl, by simp [A1n, h]⟩
theorem A63 {L : Int → Prop} {k : Int} {ks : List Tm} (hk : k ≠ 14) (h : ∀ t ∈ ks, T4 L t) : T4 L (A0h k ks) := by
 rw [A0h, A0t]; exact ⟨fun e => absurd e hk, A1N.2 h⟩
mutual
theorem B0x {L : Int → Prop} {x : ByteArray} {v : Tm} (hv : T4 L v) : ∀ t, T4 L t → T4 L (W0 x v t)
 | .mk k nm num ty fr lb ks, h => by
  rw [A0t] at h
  rw [W0]
  split
  ·exact hv
  ·split
   ·rw [A0t]; exact h
   ·rw [A0t]; exact ⟨h.1, B0y hv ks h.2⟩
theorem B0y {L : Int → Prop} {x : ByteArray} {v : Tm} (hv : T4 L v) : ∀ ts, A1n L ts → A1n L (W1 x v ts)
 | [], _ => by rw [W1]; trivial
 | t :: ts, h => by rw [W1, A1n]; exact ⟨B0x hv t h.1, B0y hv ts h.2⟩
end
theorem A3e {f : Tm} {U : Ty} (hv : H8 f = true) (ht : C5 [] f = some U) (hc : cv f) :
  (U.k = 2 → f.k = 2) ∧ (U.k = 3 → f.k = 3 ∨ f.k = 4) ∧ (U.k = 4 → f.k = 5 ∨ (Z6 f = true ∧ f.ty.k = 4)) ∧ (U.k = 5 → f.k = 10 ∨ (Z6 f = true ∧ f.ty.k = 5)) ∧ (U.k = 1 → inj f = true) := by
 obtain ⟨k, nm, num, ty, fr, lb, ks⟩ := f
 obtain ⟨hN, _⟩ := hc.node
 have hop := hN.ops
 rw [A31, A9x]
 show (U.k = 2 → k = 2) ∧ (U.k = 3 → k = 3 ∨ k = 4) ∧ (U.k = 4 → k = 5 ∨ (_ ∧ ty.k = 4)) ∧ (U.k = 5 → k = 10 ∨ (_ ∧ ty.k = 5)) ∧ (U.k = 1 → _)
 by_cases h10 : k = 10
 ·subst h10
  obtain ⟨a, b, rfl⟩ := ks2 (ks := ks) (by have : F7 10 = 2 := rfl; omega)
  obtain ⟨A, B, _, _, rfl⟩ := A5e ht
  refine ⟨fun h => ?_, fun h => ?_, fun h => ?_, fun h => .inl rfl, fun h => ?_⟩ <;> (exfalso; simp [Ty.k, N2, R8] at h)
 by_cases h14 : k = 14
 ·subst h14
  obtain ⟨a, rfl⟩ := ks1 (ks := ks) (by have : F7 14 = 1 := rfl; omega)
  obtain ⟨_, rfl⟩ := A17 ht
  by_cases hp : fr.k = U.k ∧ (U.k = 4 ∨ U.k = 5)
  ·refine ⟨fun h => by omega, fun h => by omega, fun h => .inr ⟨decide_eq_true ⟨rfl, hp⟩, h⟩, fun h => .inr ⟨decide_eq_true ⟨rfl, hp⟩, h⟩, fun h => by omega⟩
  ·by_cases hi : U.k = 1 ∧ Y2 fr = true
   ·refine ⟨fun h => by omega, fun h => by omega, fun h => by omega, fun h => by omega, fun _ => ?_⟩
    rw [hi.2, decide_eq_true ⟨rfl, hi.1⟩]; rfl
   ·exfalso
    rw [H8, if_neg (by rintro (h | h | h); exact absurd h zV; exact hp h.2; exact hi h.2)] at hv
    exact absurd (of_decide_eq_true hv) zV
 ·have hk : k = 2 ∨ k = 3 ∨ k = 4 ∨ k = 5 := by
   rw [H8, if_neg (by rintro (h | h | h); exact h10 h; exact h14 h.1; exact h14 h.1)] at hv
   exact of_decide_eq_true hv
  by_cases h5 : k = 5
  ·subst h5
   obtain ⟨a, rfl⟩ := ks1 (ks := ks) (by have : F7 5 = 1 := rfl; omega)
   obtain ⟨B, _, rfl⟩ := A6Z ht
   refine ⟨fun h => ?_, fun h => ?_, fun h => .inl rfl, fun h => ?_, fun h => ?_⟩ <;> (exfalso; simp [Ty.k, N2, R8] at h)
  ·have hks : ks = [] := List.length_eq_zero_iff.1 (by
    rcases hk with h | h | h | h
    ·subst h; have : F7 2 = 0 := rfl; omega
    ·subst h; have : F7 3 = 0 := rfl; omega
    ·subst h; have : F7 4 = 0 := rfl; omega
    ·exact absurd h h5)
   subst hks
   by_cases h2 : k = 2
   ·subst h2
    obtain rfl := B0b ht
    refine ⟨fun _ => rfl, fun h => ?_, fun h => ?_, fun h => ?_, fun h => ?_⟩ <;> (exfalso; simp [Ty.k, N2, R8] at h)
   ·have h34 : k = 3 ∨ k = 4 := by omega
    obtain rfl := B0c h34 ht
    refine ⟨fun h => ?_, fun _ => h34, fun h => ?_, fun h => ?_, fun h => ?_⟩ <;> (exfalso; simp [Ty.k, N2, R8] at h)
theorem B0z {k : Int} {nm : ByteArray} {num : Int} {ty fr : Ty} {lb : Int} {ks : List Tm} (h : Z6 (.mk k nm num ty fr lb ks) = true) : k = 14 ∧ fr.k = ty.k ∧ (ty.k = 4 ∨ ty.k = 5) := by
 rw [A31] at h; exact of_decide_eq_true h
theorem B5t {n : Int} (h : A0e n = true) : n ≠ 0 := by
 simp only [A0e, Bool.or_eq_true, A26] at h; omega
def A2I (L : Int → Prop) (T : Ty) (r : Stp) : Prop := (r.2.1 = 1 ∧ C5 [] r.1 = some T ∧ T4 L r.1) ∨ (r.2.1 = 2 ∧ L r.2.2)
theorem B0A {t : Ty} (h : Y2 t = true) : t = A0p t := by
 unfold Y2 at h
 rw [Bool.and_eq_true] at h
 exact (S3 _ _).1 h.2
theorem B5u {t u : Ty} (h : t.k = u.k) : A0p t = A0p u := by unfold A0p; rw [h]
theorem B5v (L : Int → Prop) (hL : ∀ l, L l → L (-l)) {k : Int} {nm : ByteArray} {num : Int} {ty fr : Ty} {lb : Int} {ks : List Tm} {T : Ty} (hc : cv (.mk k nm num ty fr lb ks))
  (h8 : k = 1 ∨ k = 6 ∨ k = 7 ∨ k = 8 ∨ k = 9 ∨ k = 11 ∨ k = 12 ∨ k = 14) (hnv : H8 (.mk k nm num ty fr lb ks) = false)
  (hval : ∀ i, i < (if k = 9 then 1 else ks.length) → (hl : i < ks.length) → H8 ks[i] = true)
  (ht : C5 [] (.mk k nm num ty fr lb ks) = some T) (hlb : T4 L (.mk k nm num ty fr lb ks)) : A2I L T (A0A k ty fr lb ks) := by
 obtain ⟨hN, hkk⟩ := hc.node
 have hop := hN.ops
 rw [A0t, A1N] at hlb
 obtain ⟨hl14, hlk⟩ := hlb
 have hTv := A98 hc ht
 unfold A0A
 by_cases h6 : k = 6
 ·subst h6
  obtain ⟨f, v, rfl⟩ := ks2 (ks := ks) (by have : F7 6 = 2 := rfl; omega)
  obtain ⟨A, hf, hv⟩ := A6V ht
  have hcf := hkk f zX
  have hcv := hkk v zX
  have hlf := hlk f zX
  have hlv := hlk v zX
  have hvf : H8 f = true := hval 0 zX zX
  have hfv := A98 hcf hf
  rw [if_pos rfl]
  obtain ⟨_, _, hcan, _⟩ := A3e hvf hf hcf
  obtain ⟨fk, fnm, fnum, fty, ffr, flb, fks⟩ := f
  obtain ⟨hNf, hkf⟩ := hcf.node
  have hopf := hNf.ops
  rw [A0t, A1N] at hlf
  show A2I L T (if fk = 5 then (W0 fnm v (kd fks 0), 1, 0) else if Z6 (.mk fk fnm fnum fty ffr flb fks) = true ∧ fty.k = 4 then (Q6 (A0h 6 [kd fks 0, Q6 v (kt fty.ks 0) (kt ffr.ks 0) (-flb)]) (kt ffr.ks 1) (kt fty.ks 1) flb, 1, 0) else Z7)
  by_cases h5 : fk = 5
  ·subst h5
   rw [if_pos rfl]
   obtain ⟨b, rfl⟩ := ks1 (ks := fks) (by have : F7 5 = 1 := rfl; omega)
   obtain ⟨B, hb, hT⟩ := A6Z hf
   cases hT
   refine .inl ⟨rfl, ?_, B0x hlv _ (hlf.2 b zX)⟩
   exact B0f hv b _ [] _ (hkf b zX) (fun y hy => by rw [A1l, if_neg (fun e => hy e.symm)]) (by rw [A1l, if_pos rfl]) hb
  ·rw [if_neg h5]
   have hcan' : Z6 (.mk fk fnm fnum fty ffr flb fks) = true ∧ fty.k = 4 := (hcan rfl).resolve_left h5
   rw [if_pos hcan']
   obtain ⟨rfl, hfk, _⟩ := B0z hcan'.1
   obtain ⟨g, rfl⟩ := ks1 (ks := fks) (by have : F7 14 = 1 := rfl; omega)
   obtain ⟨hg, rfl⟩ := A17 hf
   obtain ⟨_, hv1, hv2⟩ := hNf.c14 rfl
   obtain ⟨frk, frs⟩ := ffr
   obtain rfl : frk = 4 := hfk.trans hcan'.2
   obtain ⟨C, D, rfl, hC, hD⟩ := A3c (.inl rfl) hv2
   have hfl := hlf.1 rfl
   refine .inl ⟨rfl, ?_, A2H hfl (A63 zV (by
    intro t htm
    simp only [List.mem_cons, List.not_mem_nil, or_false] at htm
    rcases htm with rfl | rfl
    ·exact hlf.2 _ (by simp [kd])
    ·exact A2H (hL _ hfl) hlv))⟩
   exact A1M (B0a (A := C) hD hg (A1M hv))
 rw [if_neg h6]
 by_cases h7 : k = 7 ∨ k = 8
 ·obtain ⟨a, b, rfl⟩ := ks2 (ks := ks) (by rcases h7 with h | h <;> subst h <;> (first | (have : F7 7 = 2 := rfl; omega) | (have : F7 8 = 2 := rfl; omega)))
  obtain ⟨ha, hb, hT⟩ := A5d h7 ht
  have hva : H8 a = true := hval 0 (by rw [if_neg zW]; simp) zX
  have hvb : H8 b = true := hval 1 (by rw [if_neg zW]; simp) zX
  have ha2 := (A3e hva ha (hkk a zX)).1 rfl
  have hb2 := (A3e hvb hb (hkk b zX)).1 rfl
  rw [if_pos h7, if_pos (show (kd [a, b] 0).k = 2 ∧ (kd [a, b] 1).k = 2 from ⟨ha2, hb2⟩)]
  by_cases hk7 : k = 7
  ·rw [if_pos hk7]
   rw [if_neg zW] at hT
   subst hT
   exact .inl ⟨rfl, rfl, by rw [A44, A0t]; exact ⟨fun e => absurd e zV, trivial⟩⟩
  ·rw [if_neg hk7]
   rw [if_pos zW] at hT
   subst hT
   refine .inl ⟨rfl, ?_, ?_⟩
   ·unfold A0i; split <;> rfl
   ·unfold A0i; exact A63 (by split <;> decide) zX
 rw [if_neg h7]
 by_cases h9 : k = 9
 ·subst h9
  obtain ⟨a, b, c, rfl⟩ := ks3 (ks := ks) (by have : F7 9 = 3 := rfl; omega)
  obtain ⟨ha, hb, hcc⟩ := A6W ht
  have hva : H8 a = true := hval 0 zX zX
  have ha2 := (A3e hva ha (hkk a zX)).2.1 rfl
  rw [if_pos rfl]
  show A2I L T (if a.k = 3 then (b, 1, 0) else if a.k = 4 then (c, 1, 0) else Z7)
  by_cases h3 : a.k = 3
  ·rw [if_pos h3]; exact .inl ⟨rfl, hb, hlk b zX⟩
  ·rw [if_neg h3, if_pos zW]; exact .inl ⟨rfl, hcc, hlk c zX⟩
 rw [if_neg h9]
 by_cases h11 : k = 11 ∨ k = 12
 ·obtain ⟨a, rfl⟩ := ks1 (ks := ks) (by rcases h11 with h | h <;> subst h <;> (first | (have : F7 11 = 1 := rfl; omega) | (have : F7 12 = 1 := rfl; omega)))
  obtain ⟨A, B, ha, hT⟩ := A6X h11 ht
  have hva : H8 a = true := hval 0 (by rw [if_neg zW]; simp) zX
  have hca := hkk a zX
  have hla := hlk a zX
  have ha2 := (A3e hva ha hca).2.2.2.1 rfl
  rw [if_pos h11]
  obtain ⟨fk, fnm, fnum, fty, ffr, flb, fks⟩ := a
  obtain ⟨hNf, hkf⟩ := hca.node
  have hopf := hNf.ops
  rw [A0t, A1N] at hla
  show A2I L T (if fk = 10 then (kd fks (k - 11).toNat, 1, 0) else if Z6 (.mk fk fnm fnum fty ffr flb fks) = true ∧ fty.k = 5 then (Q6 (A0h k [kd fks 0]) (kt ffr.ks (k - 11).toNat) (kt fty.ks (k - 11).toNat) flb, 1, 0) else Z7)
  by_cases h10 : fk = 10
  ·subst h10
   rw [if_pos rfl]
   obtain ⟨x, y, rfl⟩ := ks2 (ks := fks) (by have : F7 10 = 2 := rfl; omega)
   obtain ⟨A', B', hx, hy, he⟩ := A5e ha
   cases he
   rcases h11 with rfl | rfl
   ·rw [if_neg zV] at hT; subst hT; exact .inl ⟨rfl, hx, hla.2 x zX⟩
   ·rw [if_pos rfl] at hT; subst hT; exact .inl ⟨rfl, hy, hla.2 y zX⟩
  ·rw [if_neg h10]
   have hcan' : Z6 (.mk fk fnm fnum fty ffr flb fks) = true ∧ fty.k = 5 := ha2.resolve_left h10
   rw [if_pos hcan']
   obtain ⟨rfl, hfk, _⟩ := B0z hcan'.1
   obtain ⟨g, rfl⟩ := ks1 (ks := fks) (by have : F7 14 = 1 := rfl; omega)
   obtain ⟨hg, rfl⟩ := A17 ha
   obtain ⟨_, hv1, hv2⟩ := hNf.c14 rfl
   obtain ⟨frk, frs⟩ := ffr
   obtain rfl : frk = 5 := hfk.trans hcan'.2
   obtain ⟨C, D, rfl, hC, hD⟩ := A3c (.inr rfl) hv2
   have hfl := hla.1 rfl
   refine .inl ⟨rfl, ?_, A2H hfl (A63 zW (by
    intro t htm
    simp only [List.mem_cons, List.not_mem_nil, or_false] at htm
    subst htm
    exact hla.2 _ (by simp [kd])))⟩
   have hg' : C5 [] (kd [g] 0) = some (.mk 5 [C, D]) := hg
   rcases h11 with rfl | rfl
   ·rw [if_neg zV] at hT; subst hT
    exact A1M (A6Y (k := 11) (.inl rfl) (by rw [if_neg zV]; exact hC) hg')
   ·rw [if_pos rfl] at hT; subst hT
    exact A1M (A6Y (k := 12) (.inr rfl) (by rw [if_pos rfl]; exact hD) hg')
 rw [if_neg h11]
 by_cases h14 : k = 14
 ·subst h14
  obtain ⟨a, rfl⟩ := ks1 (ks := ks) (by have : F7 14 = 1 := rfl; omega)
  obtain ⟨ha, rfl⟩ := A17 ht
  have hva : H8 a = true := hval 0 zX zX
  have hca := hkk a zX
  have hla := hlk a zX
  have hlb := hl14 rfl
  obtain ⟨hcons, htv, hfv⟩ := hN.c14 rfl
  rw [if_pos rfl]
  have hnp : ¬(fr.k = T.k ∧ (T.k = 4 ∨ T.k = 5)) := by
   intro hh
   rw [A9y (.inr (.inl (by rw [A31]; exact decide_eq_true ⟨rfl, hh⟩))), List.all_cons, hva] at hnv
   cases hnv
  by_cases h1 : fr.k = T.k
  ·rw [if_pos h1]
   refine .inl ⟨rfl, ?_, hla⟩
   show C5 [] a = some T
   rw [ha]
   obtain ⟨fk, fs⟩ := fr
   obtain ⟨tk, ts⟩ := T
   obtain rfl : fk = tk := h1
   obtain ⟨_, rfl⟩ := A6U hfv (fun e => hnp ⟨rfl, .inl e⟩) (fun e => hnp ⟨rfl, .inr e⟩)
   obtain ⟨_, rfl⟩ := A6U htv (fun e => hnp ⟨rfl, .inl e⟩) (fun e => hnp ⟨rfl, .inr e⟩)
   rfl
  ·rw [if_neg h1]
   by_cases h2 : T.k = 1
   ·rw [if_pos h2]
    exact .inl ⟨rfl, A1M (A1M ha), A2H hlb (A2H hlb hla)⟩
   ·rw [if_neg h2]
    by_cases h3 : Y2 T = false
    ·rw [if_pos h3]
     exact .inl ⟨rfl, A1M (A1M ha), A2H hlb (A2H hlb hla)⟩
    ·rw [if_neg h3]
     have hfr1 : fr.k = 1 := by
      obtain ⟨fk, fs⟩ := fr
      obtain ⟨tk, ts⟩ := T
      rw [V1] at hcons
      simp only [Bool.or_eq_true, Bool.and_eq_true, decide_eq_true_eq] at hcons
      rcases hcons with (h | h) | h
      ·exact h
      ·exact absurd h h2
      ·exact absurd h.1 h1
     have hi := (A3e hva ha hca).2.2.2.2 hfr1
     rw [if_neg (by rw [show kd [a] 0 = a from rfl, hi]; decide)]
     have hg : Y2 T = true := by cases h : Y2 T with | true => rfl | false => exact absurd h h3
     obtain ⟨fk, fnm, fnum, fty, ffr, flb, fks⟩ := a
     obtain ⟨hNf, _⟩ := hca.node
     have hopf := hNf.ops
     rw [A0t, A1N] at hla
     have hgi := B5l hi
     obtain rfl : fk = 14 := B5k hi
     obtain ⟨g, rfl⟩ := ks1 (ks := fks) (by have : F7 14 = 1 := rfl; omega)
     obtain ⟨hgt, _⟩ := A17 ha
     show A2I L T (if ffr.k = T.k then (kd [g] 0, 1, 0) else (K5, 2, lb))
     by_cases h4 : ffr.k = T.k
     ·rw [if_pos h4]
      refine .inl ⟨rfl, ?_, hla.2 g zX⟩
      show C5 [] g = some T
      rw [hgt]
      congr 1
      exact (B0A hgi).trans ((B5u h4).trans (B0A hg).symm)
     ·rw [if_neg h4]
      exact .inr ⟨rfl, hlb⟩
 ·exfalso
  obtain rfl : k = 1 := by omega
  have hks : ks = [] := List.length_eq_zero_iff.1 (by have : F7 1 = 0 := rfl; omega)
  subst hks
  have := A35 ht
  simp [O9, U4] at this
theorem B5w {L : Int → Prop} {ks : List Tm} {i : Nat} {u : Tm} (h : ∀ t ∈ ks, T4 L t) (hu : T4 L u) : ∀ t ∈ ks.set i u, T4 L t := by
 intro t ht
 rcases List.mem_or_eq_of_mem_set ht with h1 | h1
 ·exact h t h1
 ·rw [h1]; exact hu
theorem B5x (L : Int → Prop) (hL : ∀ l, L l → L (-l)) : ∀ (e : Tm) (T : Ty), cv e → H8 e = false → C5 [] e = some T → T4 L e → A2I L T (I6 e) := by
 refine Tm.ind fun k nm num ty fr lb ks ih T hc hv ht hlb => ?_
 obtain ⟨hN, hkk⟩ := hc.node
 by_cases hall : ∀ i, i < (if k = 9 then 1 else ks.length) → (hl : i < ks.length) → H8 ks[i] = true
 ·have h8 := B5q hc hv hall
  have := B5v L hL hc h8 hv hall ht hlb
  rw [I6, B0q _ _ hall]
  exact this
 ·
  have hex : ∃ i, ∃ (hl : i < ks.length), i < (if k = 9 then 1 else ks.length) ∧ H8 ks[i] = false ∧ ∀ j, j < i → (h : j < ks.length) → H8 ks[j] = true := by
   have h0 : ∃ i, ∃ (hl : i < ks.length), i < (if k = 9 then 1 else ks.length) ∧ H8 ks[i] = false := by
    apply Classical.byContradiction
    intro hn
    exact hall fun i hi hl => by
     cases h : H8 ks[i] with
     | true => rfl
     | false => exact absurd ⟨i, hl, hi, h⟩ hn
   obtain ⟨i, h1⟩ := h0
   induction i using Nat.strongRecOn with
   | _ i ih2 =>
    obtain ⟨hl, hi, hvi⟩ := h1
    by_cases hj : ∃ j, j < i ∧ ∃ (h : j < ks.length), H8 ks[j] = false
    ·obtain ⟨j, hji, hjl, hjv⟩ := hj
     exact ih2 j hji ⟨hjl, by omega, hjv⟩
    ·refine ⟨i, hl, hi, hvi, fun j hji hjl => ?_⟩
     cases h : H8 ks[j] with
     | true => rfl
     | false => exact absurd ⟨j, hji, hjl, h⟩ hj
  obtain ⟨i, hl, hi, hvi, hbe⟩ := hex
  obtain ⟨s1, s2, s3⟩ := @B5p k nm num ty fr lb ks i hl hi hbe hvi
  have hk5 : k ≠ 5 := by
   rintro rfl
   rw [H8, if_neg zW] at hv
   exact absurd hv zV
  have hlb2 := (A0t.1 hlb).2
  rw [A1N] at hlb2
  rw [C5] at ht
  split at ht
  ·cases ht
  ·rename_i us hu
   rw [M7, if_neg hk5] at hu
   obtain ⟨U, hU, hset⟩ := A91 hu i hl
   have hg := ih ks[i] (List.getElem_mem hl) U (hkk _ (List.getElem_mem hl)) hvi hU (hlb2 _ (List.getElem_mem hl))
   unfold A2I
   rw [s1, s2]
   rcases hg with ⟨g1, g2, g3⟩ | ⟨g1, g2⟩
   ·refine .inl ⟨g1, ?_, ?_⟩
    ·rw [s3 g1, C5, M7, if_neg hk5, hset _ g2]
     exact ht
    ·rw [s3 g1, A0t]
     exact ⟨(A0t.1 hlb).1, A1N.2 (B5w hlb2 g3)⟩
   ·exact .inr ⟨g1, g2⟩
mutual
theorem B0B : ∀ e : Tm, cv e → T4 (fun l => l ≠ 0) e
 | .mk k nm num ty fr lb ks, h => by
  obtain ⟨hN, hk⟩ := h.node
  obtain ⟨d, hd⟩ := h
  obtain ⟨_, _, h3, _⟩ := Z5 hd
  obtain ⟨_, _, _, _, _, _, _, n8, _⟩ := X4.1 h3
  rw [A0t]
  exact ⟨fun hk14 => B5t (n8 hk14).2, A1N.2 fun t ht => (B0C ks hk) t ht⟩
theorem B0C : ∀ ts : List Tm, (∀ t ∈ ts, cv t) → ∀ t ∈ ts, T4 (fun l => l ≠ 0) t
 | [], _ => by simp
 | t :: ts, h => fun u hu => by
  rcases List.mem_cons.1 hu with h1 | hu
  ·rw [h1]; exact B0B t (h t List.mem_cons_self)
  ·exact B0C ts (fun x hx => h x (List.mem_cons_of_mem _ hx)) u hu
end
theorem B0D (L : Int → Prop) (hL : ∀ l, L l → L (-l)) (e : Tm) (T : Ty) (hc : K2 e = true) (ht : C5 [] e = some T) (hl : T4 L e) :
  (J3 e = (e, 0, 0) ∧ H8 e = true) ∨ (∃ l, J3 e = (K5, 2, l) ∧ L l) ∨ J3 e = (K5, 4, 0) ∨ (∃ u, J3 e = (u, 1, 0) ∧ K2 u = true ∧ C5 [] u = some T ∧ T4 L u) := by
 cases hv : H8 e with
 | true => exact .inl ⟨B5r hc hv, rfl⟩
 | false =>
  rcases B5x L hL e T (A12 hc).1 hv ht hl with ⟨g1, g2, g3⟩ | ⟨g1, g2⟩
  ·cases hcv : K2 (I6 e).1 with
   | false => exact .inr (.inr (.inl (B0v hc hv g1 hcv)))
   | true => exact .inr (.inr (.inr ⟨_, B0w hc hv g1 hcv, hcv, g2, g3⟩))
  ·exact .inr (.inl ⟨(I6 e).2.2, by rw [B0u hc hv zW, g1], g2⟩)
theorem B0E (L : Int → Prop) (hL : ∀ l, L l → L (-l)) : ∀ (n : Nat) (e : Tm) (T : Ty), K2 e = true → C5 [] e = some T → T4 L e →
  ((I7 n e).2.1 = 0 ∧ (I7 n e).2.2.1 = 0 ∧ C5 [] (I7 n e).1 = some T ∧ H8 (I7 n e).1 = true ∧ K2 (I7 n e).1 = true) ∨ ((I7 n e).2.1 = 2 ∧ L (I7 n e).2.2.1) ∨ ((I7 n e).2.1 = 4 ∧ (I7 n e).2.2.1 = 0) ∨ ((I7 n e).2.1 = 5 ∧ (I7 n e).2.2.1 = 0)
 | 0, e, T, hc, ht, hl => by
  rcases B0D L hL e T hc ht hl with ⟨h, hv⟩ | ⟨l, h, hl⟩ | h | ⟨u, h, hu1, hu2, hu3⟩
  ·simp [I7, h, ht, hv, hc]
  ·simp [I7, h, hl]
  ·simp [I7, h]
  ·simp [I7, h]
 | n + 1, e, T, hc, ht, hl => by
  rcases B0D L hL e T hc ht hl with ⟨h, hv⟩ | ⟨l, h, hl⟩ | h | ⟨u, h, hu1, hu2, hu3⟩
  ·simp [I7, h, ht, hv, hc]
  ·simp [I7, h, hl]
  ·simp [I7, h]
  ·have ih := B0E L hL n u T hu1 hu2 hu3
   simpa only [I7, h, if_true] using ih
structure Wt (cx : Cx) (k : Int) (nm : ByteArray) (ty : Ty) (h w : List Ty) (t : Ty) : Prop where
 len : w = [] ∨ w.length = h.length
 ok : ∀ i, (hi : i < w.length) → (hh : i < h.length) → O8 h[i] w[i] = true ∧ M1 w[i] = true
 again : k ≠ 13 → O4 cx k nm ty (if w = [] then h else w) = some (w, t)
 asT : k = 13 → w = [t]
def B8G (cx : Cx) (t : Tm) (D l : Int) (u : Tm) (a : Ty) (l' : Int) : Prop := K8 40 13 u D = true ∧ C5 cx u = some a ∧ M1 a = true ∧ l ≤ l' ∧ l' + 1 ≤ l + (F4 t : Int) ∧ (F4 u : Int) ≤ F4 t + (l' - l)
def B8H (k : Int) : Bool := decide (k = 5 ∨ k = 13)
def A5h : ByteArray := ⟨⟨[112, 97, 105, 114]⟩⟩
def A5i : ByteArray := ⟨⟨[102, 117, 110, 99, 116, 105, 111, 110]⟩⟩
def txT : ByteArray := ⟨⟨[84]⟩⟩
def txF : ByteArray := ⟨⟨[70]⟩⟩
def B0F (n : Int) : ByteArray := ⟨(Lib.decDigits n.toNat).toArray⟩
def A19 (k num : Int) : ByteArray := if k = 2 then B0F num else if k = 3 then txT else txF
mutual
def A1o : Tm → ByteArray
 | .mk k nm num ty fr lb ks => if k = 10 ∨ (Z6 (.mk k nm num ty fr lb []) = true ∧ ty.k = 5) then A5h else if k = 5 ∨ Z6 (.mk k nm num ty fr lb []) = true then A5i else if k = 14 then B5y ks else A19 k num
def B5y : List Tm → ByteArray
 | [] => ⟨⟨[]⟩⟩
 | t :: _ => A1o t
end
section
variable {k : Int} {nm : ByteArray} {num : Int} {ty fr : Ty} {lb : Int} {ks : List Tm}
theorem B5z (h : Z6 (.mk k nm num ty fr lb ks) = false) (hk : k = 14) (h0 : 0 < ks.length) : A1o (.mk k nm num ty fr lb ks) = A1o ks[0] := by
 rw [A1o, if_neg (by rintro (h1 | h1); omega; exact Bool.noConfusion (h1.1.symm.trans h)), if_neg (by rintro (h1 | h1); omega; exact Bool.noConfusion (h1.symm.trans h)), if_pos hk]
 cases ks with
 | nil => simp at h0
 | cons t ts => rfl
end
section fin
variable {P : Program} {Γ : L3} {env : M0} {hp : List A6} {G : IM}
end fin
def CsP (bx : Nat) (e : Tm) (a b : Ty) (l : Int) : IM → Value → List A6 → Prop := fun G' v outs => ∃ cells, v = .agg ⟨cells⟩ ∧ outs = [.blk bx [.int .i64 (if H9 a b = true then l else l + 1)]] ∧ B6 G' (if H9 a b = true then e else Q6 e a b (l + 1)) cells
def ElP (bx : Nat) (cx : Cx) (e : Tm) (l : Int) : IM → Value → List A6 → Prop := fun G' v outs => ∃ u cu t ct l', v = .tuple ⟨[.agg ⟨cu⟩, .agg ⟨ct⟩, .bool (mEl cx e l).isSome]⟩ ∧ outs = [.blk bx [.int .i64 l']] ∧ B6 G' u cu ∧ B8 G' t ct ∧ l ≤ l' ∧ l' + 1 ≤ l + (F4 e : Int) ∧ ∀ r, mEl cx e l = some r → r = (u, t, l')
section
variable {cx : Cx} {k : Int} {nm : ByteArray} {num : Int} {ty fr : Ty} {lb : Int} {ks us : List Tm} {h : List Ty} {l l' : Int}
end
theorem B5A (e : Tm) (G : IM) (cells : List Value) (hr : B6 G e cells) : Fn Tryz.prog 9 [.agg ⟨cells⟩] [] G (U9 (Y1 e) G) := by
 have hl := hr.len
 have hone := hr.one
 refine C7 Tryz.func9 rfl Tryz.ntmps9 Tryz.results9 rfl ?_
 intro w0
 refine A4 ?_
 refine sE (D5 rfl rfl) rfl (fun b3 => ?_)
 refine sE (A8 rfl) rfl (fun b4 => ?_)
 refine A7 ?_
 refine sL (A5 rfl rfl (B7 zP) hl) rfl rfl ?_
 refine J0 rfl ((A4T e _ _ hr)) rfl rfl (fun h12 => ?_) (fun h12 => ?_)
 refine E7 ?_
 refine sL (A5 rfl rfl (B7 zP) hl) rfl rfl ?_
 focus (have hcv : K2 e = true := zT; have hsh := ((A1Y e).1 hcv).1; refine F9 rfl (B4Z e 1 [] G none 0 0 _ hsh zW (R9.nil G) hr) rfl rfl (fun v G1 hle1 hh => ?_); obtain ⟨cu, u, rfl, hru, hu⟩ := hh; obtain ⟨p1, c1, e1, rfl, _⟩ := hru.open; rcases hct : C5 [] e with _ | u2; rotate_left; obtain rfl := hu u2 hct; rotate_left)
 refine B3 ?_
 refine sE (A8 rfl) rfl (fun b26 => ?_)
 refine A0c ?_
 refine E0 (rC rfl (A3 rfl rfl)) (rT rfl) ?_
 (exact U9.no (u := B4) (J8 _ ⟨by omega, by omega⟩) rfl (by rw [Y1, if_pos hcv]; exact hct))
 refine B3 ?_
 refine sE (A8 rfl) rfl (fun b53 => ?_)
 refine P6 ?_
 (refine F9 rfl (A2X _ G1 _ (A6N hsh hct).small hru) rfl rfl (fun v G2 hle2 hh => ?_); obtain ⟨cs2, F2, rfl, hs2, hn2⟩ := hh; obtain ⟨p2, c2, rfl, _⟩ := hs2.open; have hr2 := hs2.R.mono (D7.le G2 G1))
 refine A9 ?_
 refine E0 (rC rfl (A3 rfl rfl)) (rT rfl) ?_
 (exact U9.yes hr2 rfl (by rw [Y1, if_pos hcv]; exact hct))
 refine J2 ?_
 refine E0 (rC rfl (A3 rfl rfl)) (rT rfl) ?_
 (exact U9.no (u := B4) (J8 _ ⟨by omega, by omega⟩) rfl (by rw [Y1, if_neg (by simp [*])]))
def B8I (r : Option (Tm × Ty)) : IM → Value → List A6 → Prop := K1 fun G' v => ∃ cu ct, v = .tuple ⟨[.agg ⟨cu⟩, .agg ⟨ct⟩, .bool r.isSome]⟩ ∧ B6 G' (r.getD (K5, B4)).1 cu ∧ B8 G' (r.getD (K5, B4)).2 ct
def B0G (e : Tm) : Option Ty := match A33 e with | some (_, t) => some t | none => none
def A3f (e : Tm) (fuel : Int) : ByteArray × Int × Int := match A33 e with
 | none => (⟨⟨[]⟩⟩, 3, 0)
 | some (u, _) => if (Y3 u fuel).2.1 = 0 then (A1o (Y3 u fuel).1, 0, 0) else (⟨⟨[]⟩⟩, (Y3 u fuel).2.1, (Y3 u fuel).2.2)
def B8J (r : ByteArray × Int × Int) (G : IM) : IM → Value → List A6 → Prop := K1 fun _ v => v = .tuple ⟨[.string r.1, .int .i64 r.2.1, .int .i64 r.2.2]⟩
def B5B (r s : ByteArray × Int × Int) : Int := if r.2.1 = 2 then 2 else if r.2.1 ≠ 0 ∨ s.2.1 = 4 ∨ s.2.1 = 5 then 3 else if s.2.1 = 0 ∧ r.1 = s.1 then 1 else 4
def B8K (a b : Tm) (fuel : Int) : Int := if (B0G a).isSome = true ∧ B5f a b = true ∧ U1 fuel 0 300 = true then B5B (A3f a fuel) (A3f b fuel) else 0
def gxT : GX → ByteArray
 | .n n => B0F n
 | .b b => if b = true then txT else txF
 | .p => A5h
 | .f => A5i
theorem B0H {v : GE} (h : GV v) : A1o v.tm = gxT v.tx := by
 induction h with
 | num => rfl
 | @tru b => cases b <;> rfl
 | lam => rfl
 | pair _ _ _ _ => rfl
 | pf _ _ => rfl
 | pp _ _ => rfl
 | @inj A l e hv hg i =>
  rw [GE.tm, B5z (h0 := by simp)]
  ·exact i
  ·rw [A31]
   refine decide_eq_false ?_
   rintro ⟨_, _, h | h⟩ <;> simp [GT.ty, Ty.k] at h
  ·rfl
theorem B0I {k : Int} {nm : ByteArray} {num : Int} {ty fr : Ty} {lb : Int} {ks : List Tm} {d : Int} (h : K8 40 13 (.mk k nm num ty fr lb ks) d = true) :
  F7 k = ks.length ∧ k ≠ 13 ∧ (¬(k = 1 ∨ k = 5) → nm = ⟨#[]⟩) ∧ (k ≠ 2 → num = 0) ∧ (k = 5 ∨ k = 14 → M1 ty = true) ∧ (¬(k = 5 ∨ k = 14) → ty = B4) ∧ (k = 14 → A0F fr ty = true ∧ A0e lb = true) ∧ (k ≠ 14 → fr = B4 ∧ lb = 0) ∧ O1 40 13 ks (d + 1) = true := by
 obtain ⟨_, h2, h3, h4⟩ := Z5 h
 obtain ⟨n1, n2, n3, n4, n5, n6, n7, n8, n9⟩ := X4.1 h3
 exact ⟨n1, h2, n3, fun hk => by have := A26.1 (n5 hk); omega, fun hk => n6 zW, fun hk => A2y (n7 zW), n8, fun hk => ⟨A2y (n9 hk).1, (n9 hk).2⟩, h4⟩
theorem B0J {D N d : Int} : ∀ {ks : List Tm}, O1 D N ks d = true → ∀ t ∈ ks, K8 D N t d = true
 | [], _, t, ht => by cases ht
 | u :: us, h, t, ht => by
  rw [O1, Bool.and_eq_true] at h
  rcases List.mem_cons.1 ht with rfl | ht
  ·exact h.1
  ·exact B0J h.2 t ht
theorem kl2 {α : Type} {l : List α} (h : (l.length : Int) = 2) : ∃ a b, l = [a, b] := by
 match l, h with
 | [a, b], _ => exact ⟨a, b, rfl⟩
 | [], h => simp at h
 | [_], h => simp at h
 | _ :: _ :: _ :: _, h => simp only [List.length_cons] at h; omega
theorem kl1 {α : Type} {l : List α} (h : (l.length : Int) = 1) : ∃ a, l = [a] := by
 match l, h with
 | [a], _ => exact ⟨a, rfl⟩
 | [], h => simp at h
 | _ :: _ :: _, h => simp only [List.length_cons] at h; omega
theorem kl3 {α : Type} {l : List α} (h : (l.length : Int) = 3) : ∃ a b c, l = [a, b, c] := by
 match l, h with
 | [a, b, c], _ => exact ⟨a, b, c, rfl⟩
 | [], h => simp at h
 | [_], h => simp at h
 | [_, _], h => simp at h
 | _ :: _ :: _ :: _ :: _, h => simp only [List.length_cons] at h; omega
theorem B5C {A : GT} {x y : Ty} (h : Ty.mk 4 [x, y] = A.ty) : ∃ B C : GT, x = B.ty ∧ y = C.ty ∧ A = .fn B C := by
 cases A <;> simp [GT.ty] at h
 exact ⟨_, _, h.1, h.2, rfl⟩
theorem B5D {A : GT} {x y : Ty} (h : Ty.mk 5 [x, y] = A.ty) : ∃ B C : GT, x = B.ty ∧ y = C.ty ∧ A = .pr B C := by
 cases A <;> simp [GT.ty] at h
 exact ⟨_, _, h.1, h.2, rfl⟩
inductive Sm : Nat → GE → GE → Prop
 | refl {e} : Sm 0 e e
 | step {n a b c} : GS a b → Sm n b c → Sm (n + 1) a c
inductive Bl : GE → Int → Prop
 | app1 {f a L} : Bl f L → Bl (.app f a) L
 | app2 {f a L} : GV f → Bl a L → Bl (.app f a) L
 | ar1 {s a b L} : Bl a L → Bl (.ar s a b) L
 | ar2 {s a b L} : GV a → Bl b L → Bl (.ar s a b) L
 | ite1 {c a b L} : Bl c L → Bl (.ite c a b) L
 | pair1 {a b L} : Bl a L → Bl (.pair a b) L
 | pair2 {a b L} : GV a → Bl b L → Bl (.pair a b) L
 | part1 {s e L} : Bl e L → Bl (.part s e) L
 | cast1 {A B l e L} : Bl e L → Bl (.cast A B l e) L
 | fail {G H l m w} : GV w → G.Gd → H.Gd → G ≠ H → Bl (.cast .any G l (.cast H .any m w)) l
theorem A1p {e : GE} {L : Int} (h : Bl e L) : ¬GV e := by
 induction h with
 | app1 _ _ => intro h; cases h
 | app2 _ _ _ => intro h; cases h
 | ar1 _ _ => intro h; cases h
 | ar2 _ _ _ => intro h; cases h
 | ite1 _ _ => intro h; cases h
 | pair1 _ i => intro h; cases h with | pair h _ => exact i h
 | pair2 _ _ i => intro h; cases h with | pair _ h => exact i h
 | part1 _ _ => intro h; cases h
 | cast1 _ i => intro h; exact i h.ofCast
 | fail _ hg _ _ => intro h; cases h; exact hg.1 rfl
section
variable {k : Int} {nm : ByteArray} {num : Int} {ty fr : Ty} {lb : Int} {a b : Tm} {l : Int}
theorem A3g (h : H8 a = false) (ks : List Tm) (hs : ∃ u, I6 a = (u, 2, l)) : ∃ u, I6 (.mk k nm num ty fr lb (a :: ks)) = (u, 2, l) := by
 obtain ⟨u, hs⟩ := hs
 have : ∃ n, (if k = 9 then 1 else (a :: ks).length) = n + 1 := ⟨if k = 9 then 0 else ks.length, by split <;> simp⟩
 obtain ⟨n, hn⟩ := this
 refine ⟨K5, ?_⟩
 rw [I6, hn, X6, if_neg (by rw [h]; decide), hs]
 simp
theorem A64 (h0 : H8 a = true) (h : H8 b = false) (hk : k ≠ 9) (hs : ∃ u, I6 b = (u, 2, l)) : ∃ u, I6 (.mk k nm num ty fr lb [a, b]) = (u, 2, l) := by
 obtain ⟨u, hs⟩ := hs
 refine ⟨K5, ?_⟩
 rw [I6, if_neg hk]
 simp only [List.length_cons, List.length_nil, X6, h0, h, if_true, hs]
 simp
end
theorem A65 {e : GE} {L : Int} (h : Bl e L) : ∃ u, I6 e.tm = (u, 2, L) := by
 induction h with
 | app1 h i => exact A3g (A0s (A1p h)) _ i
 | app2 v h i => exact A64 ((Q9 _).2 v) (A0s (A1p h)) zV i
 | ar1 h i => exact A3g (A0s (A1p h)) _ i
 | @ar2 s _ _ _ v h i => exact A64 ((Q9 _).2 v) (A0s (A1p h)) (by cases s <;> decide) i
 | ite1 h i => exact A3g (A0s (A1p h)) _ i
 | pair1 h i => exact A3g (A0s (A1p h)) _ i
 | pair2 v h i => exact A64 ((Q9 _).2 v) (A0s (A1p h)) zV i
 | part1 h i => exact A3g (A0s (A1p h)) _ i
 | cast1 h i => exact A3g (A0s (A1p h)) _ i
 | @fail B H l m w hv hB hH hne =>
  have hv2 : GV (.cast H .any m w) := .inj hv hH
  have hg' := A15.2 hB
  have hi : inj (GE.tm (.cast H .any m w)) = true := by
   rw [GE.tm]; unfold inj; rw [Bool.and_eq_true]; exact ⟨rfl, A15.2 hH⟩
  refine ⟨K5, ?_⟩
  rw [GE.tm, A16 ((Q9 _).2 hv2)]
  unfold A0A
  rw [if_neg zV, if_neg zV, if_neg zV, if_neg zV, if_pos rfl, if_neg, if_neg, if_neg (by rw [hg']; decide), if_neg (by show ¬inj (GE.tm (.cast H .any m w)) = false; rw [hi]; decide), if_neg]
  ·show ¬H.ty.k = B.ty.k
   intro hk
   apply hne
   rw [← hH.2, ← hB.2]
   cases H <;> cases B <;> first | rfl | (simp [GT.ty, Ty.k] at hk)
  ·rw [A0r]; exact hB.1
  ·intro h; exact hB.1 (A0r.1 h.symm)
theorem B0K {e e' : GE} {A B A' : GT} {l : Int} (h : GP D6 e e' A A') (hc : Co A B) (hv : GV e) : GV (.cast A B l e) ∨ (∃ r, GS (.cast A B l e) r) ∨ ∃ L, Bl (.cast A B l e) L := by
 by_cases hA : A = .any
 ·subst hA
  by_cases hB : B = .any
  ·subst hB; exact .inr (.inl ⟨_, .cid hv (.inl rfl)⟩)
  ·by_cases hg : B.gr = B
   ·obtain ⟨H, m, w, rfl, hw, hH⟩ := A9N h rfl hv rfl
    by_cases he : H = B
    ·subst he; exact .inr (.inl ⟨_, .hit hw hH⟩)
    ·exact .inr (.inr ⟨_, .fail hw ⟨hB, hg⟩ hH (fun h => he h.symm)⟩)
   ·exact .inr (.inl ⟨_, .down hv hB hg⟩)
 ·by_cases hB : B = .any
  ·subst hB
   by_cases hg : A.gr = A
   ·exact .inl (.inj hv ⟨hA, hg⟩)
   ·exact .inr (.inl ⟨_, .up hv hA hg⟩)
  ·cases hc with
   | l => exact absurd rfl hA
   | r => exact absurd rfl hB
   | int => exact .inr (.inl ⟨_, .cid hv (.inr (.inl rfl))⟩)
   | bool => exact .inr (.inl ⟨_, .cid hv (.inr (.inr rfl))⟩)
   | fn _ _ => exact .inl (.pf hv)
   | pr _ _ => exact .inl (.pp hv)
theorem B0L {Γ : GC} {e e' : GE} {A A' : GT} (h : GP Γ e e' A A') : Γ = D6 → GV e ∨ (∃ r, GS e r) ∨ ∃ L, Bl e L := by
 induction h with
 | var hx _ => intro hE; subst hE; cases hx
 | num => intro _; exact .inl .num
 | tru => intro _; exact .inl .tru
 | lam _ _ _ => intro _; exact .inl .lam
 | app hf ha i j =>
  intro hE
  refine .inr ?_
  rcases i hE with vf | ⟨r, s⟩ | ⟨L, b⟩
  ·rcases j hE with va | ⟨r, s⟩ | ⟨L, b⟩
   ·rcases A9K hf hE vf rfl with ⟨x, C, e, rfl⟩ | ⟨_, _, _, _, _, _, rfl, hw⟩
    ·exact .inl ⟨_, .beta va⟩
    ·exact .inl ⟨_, .appx hw va⟩
   ·exact .inl ⟨_, .app2 vf s⟩
   ·exact .inr ⟨L, .app2 vf b⟩
  ·exact .inl ⟨_, .app1 s⟩
  ·exact .inr ⟨L, .app1 b⟩
 | ar ha hb i j =>
  intro hE
  refine .inr ?_
  rcases i hE with va | ⟨r, s⟩ | ⟨L, b⟩
  ·rcases j hE with vb | ⟨r, s⟩ | ⟨L, b⟩
   ·obtain ⟨m, rfl⟩ := A48 ha hE va rfl
    obtain ⟨n, rfl⟩ := A48 hb hE vb rfl
    exact .inl ⟨_, .ar⟩
   ·exact .inl ⟨_, .ar2 va s⟩
   ·exact .inr ⟨L, .ar2 va b⟩
  ·exact .inl ⟨_, .ar1 s⟩
  ·exact .inr ⟨L, .ar1 b⟩
 | ite hc _ _ i _ _ =>
  intro hE
  refine .inr ?_
  rcases i hE with va | ⟨r, s⟩ | ⟨L, b⟩
  ·obtain ⟨m, rfl⟩ := A9M hc hE va rfl
   exact .inl ⟨_, .ite⟩
  ·exact .inl ⟨_, .ite1 s⟩
  ·exact .inr ⟨L, .ite1 b⟩
 | pair _ _ i j =>
  intro hE
  rcases i hE with va | ⟨r, s⟩ | ⟨L, b⟩
  ·rcases j hE with vb | ⟨r, s⟩ | ⟨L, b⟩
   ·exact .inl (.pair va vb)
   ·exact .inr (.inl ⟨_, .pair2 va s⟩)
   ·exact .inr (.inr ⟨L, .pair2 va b⟩)
  ·exact .inr (.inl ⟨_, .pair1 s⟩)
  ·exact .inr (.inr ⟨L, .pair1 b⟩)
 | part hp i =>
  intro hE
  refine .inr ?_
  rcases i hE with va | ⟨r, s⟩ | ⟨L, b⟩
  ·rcases A9L hp hE va rfl with ⟨a, b, rfl, va, vb⟩ | ⟨_, _, _, _, _, _, rfl, hw⟩
   ·exact .inl ⟨_, .part va vb⟩
   ·exact .inl ⟨_, .partx hw⟩
  ·exact .inl ⟨_, .part1 s⟩
  ·exact .inr ⟨L, .part1 b⟩
 | castL h hc _ i =>
  intro hE
  rcases i hE with hv | ⟨r, s⟩ | ⟨L, b⟩
  ·subst hE; exact B0K h hc hv
  ·exact .inr (.inl ⟨_, .cast1 s⟩)
  ·exact .inr (.inr ⟨L, .cast1 b⟩)
 | castR _ _ _ i => exact i
 | castB h hc _ _ i =>
  intro hE
  rcases i hE with hv | ⟨r, s⟩ | ⟨L, b⟩
  ·subst hE; exact B0K h hc hv
  ·exact .inr (.inl ⟨_, .cast1 s⟩)
  ·exact .inr (.inr ⟨L, .cast1 b⟩)
theorem B5E {e : Tm} (h : (J3 e).2.1 = 2) : H8 e = false ∧ (I6 e).2.1 = 2 ∧ (J3 e).2.2 = (I6 e).2.2 := by
 unfold J3 at h ⊢
 split at h
 ·cases h
 ·rename_i h1
  split at h
  ·cases h
  ·rename_i h2
   split at h
   ·rename_i h3
    rw [if_neg h1, if_neg h2, if_pos h3]
    exact ⟨by cases hv : H8 e with | false => rfl | true => exact absurd hv h2, h, rfl⟩
   ·split at h <;> cases h
theorem B5F : ∀ (n : Nat) {e e' : GE} {A A' : GT}, GP D6 e e' A A' → (I7 n e.tm).2.1 = 2 → ∃ w, Ss e w ∧ Bl w (I7 n e.tm).2.2.1 := by
 intro n
 have fin : ∀ {e e' : GE} {A A' : GT}, GP D6 e e' A A' → (J3 e.tm).2.1 = 2 → ∃ w, Ss e w ∧ Bl w (J3 e.tm).2.2 := by
  intro e e' A A' hp h0
  obtain ⟨h1, h2, h3⟩ := B5E h0
  rcases B0L hp rfl with hv | ⟨r, s⟩ | ⟨L, b⟩
  ·rw [(Q9 _).2 hv] at h1; cases h1
  ·rw [A3a s] at h2; cases h2
  ·obtain ⟨u, hu⟩ := A65 b
   refine ⟨e, .refl, ?_⟩
   rw [h3, hu]; exact b
 induction n with
 | zero =>
  intro e e' A A' hp h
  rw [I7] at h ⊢
  by_cases h1 : (J3 e.tm).2.1 = 1
  ·rw [if_pos h1] at h; cases h
  ·rw [if_neg h1] at h ⊢; exact fin hp h
 | succ n ih =>
  intro e e' A A' hp h
  by_cases h1 : (J3 e.tm).2.1 = 1
  ·obtain ⟨_, hv, hs, he⟩ := A9Q h1
   rcases B0L hp rfl with hv' | ⟨r, s⟩ | ⟨L, b⟩
   ·rw [(Q9 _).2 hv'] at hv; cases hv
   ·rw [A5a h1] at h ⊢
    have hr : (J3 e.tm).1 = r.tm := by rw [he, A3a s]
    rw [hr] at h ⊢
    obtain ⟨r', _, hp'⟩ := sim hp rfl s
    obtain ⟨w, h2, h3⟩ := ih hp' h
    exact ⟨w, .step s h2, h3⟩
   ·obtain ⟨u, hu⟩ := A65 b
    rw [hu] at hs; cases hs
  ·rw [I7, if_neg h1] at h ⊢; exact fin hp h
theorem B5G : ∀ {e w : GE} {L : Int}, Ss e w → Bl w L → ∀ (n : Nat), K2 e.tm = true → ((I7 n e.tm).2.1 = 2 ∧ (I7 n e.tm).2.2.1 = L ∧ (I7 n e.tm).1 = K5) ∨ (I7 n e.tm).2.1 = 4 ∨ (I7 n e.tm).2.1 = 5 := by
 intro e w L h
 induction h with
 | @refl e =>
  intro hb n hc
  obtain ⟨u, hu⟩ := A65 hb
  have : J3 e.tm = (K5, 2, L) := by rw [B0u hc (A0s (A1p hb)) (by rw [hu]; show (2 : Int) ≠ 1; decide), hu]
  cases n with
  | zero => rw [I7, this]; exact .inl ⟨rfl, rfl, rfl⟩
  | succ n => rw [I7, this]; exact .inl ⟨rfl, rfl, rfl⟩
 | @step a b c s _ ih =>
  intro hb n hc
  have hs := A3a s
  cases hcb : K2 b.tm with
  | false =>
   have : J3 a.tm = (K5, 4, 0) := B0v hc (nv s) (by rw [hs]) (by rw [hs]; exact hcb)
   cases n with
   | zero => rw [I7, this]; exact .inr (.inl rfl)
   | succ n => rw [I7, this]; exact .inr (.inl rfl)
  | true =>
   have : J3 a.tm = (b.tm, 1, 0) := by
    have h5 := B0w hc (nv s) (by rw [hs]) (by rw [hs]; exact hcb)
    rw [h5, hs]
   cases n with
   | zero => rw [I7, this]; exact .inr (.inr rfl)
   | succ n =>
    rw [A5a (by rw [this]), this]
    exact ih hb n hcb
def GT.cp : GT → Prop
 | .fn _ _ => True
 | .pr _ _ => True
 | _ => False
def A0L : List Int → GE → GE
 | [], y => y
 | k :: ks, y => .cast .any .any k (A0L ks y)
theorem B0M (x : ByteArray) (v : GE) : ∀ (ks : List Int) (y : GE), (A0L ks y).sub x v = A0L ks (y.sub x v)
 | [], _ => rfl
 | k :: ks, y => by rw [A0L, GE.sub, B0M x v ks y]; rfl
inductive HR : GC → GE → GE → GT → Prop
 | var {Γ x A} : Γ x = some (A, A) → HR Γ (.var x) (.var x) A
 | num {Γ n} : HR Γ (.num n) (.num n) .int
 | tru {Γ b} : HR Γ (.tru b) (.tru b) .bool
 | lam {Γ x A B e e'} : HR (P4 Γ x A A) e e' B → HR Γ (.lam x A e) (.lam x A e') (.fn A B)
 | app {Γ f f' a a' A B} : HR Γ f f' (.fn A B) → HR Γ a a' A → HR Γ (.app f a) (.app f' a') B
 | ar {Γ s a a' b b'} : HR Γ a a' .int → HR Γ b b' .int → HR Γ (.ar s a b) (.ar s a' b') (if s = true then .bool else .int)
 | ite {Γ c c' a a' b b' A} : HR Γ c c' .bool → HR Γ a a' A → HR Γ b b' A → HR Γ (.ite c a b) (.ite c' a' b') A
 | pair {Γ a a' b b' A B} : HR Γ a a' A → HR Γ b b' B → HR Γ (.pair a b) (.pair a' b') (.pr A B)
 | part {Γ s e e' A B} : HR Γ e e' (.pr A B) → HR Γ (.part s e) (.part s e') (if s = true then B else A)
 | cast {Γ e x A B l} : HR Γ e x A → Co A B → HR Γ (.cast A B l e) (.cast A B l x) B
 | idR {Γ e x A l} : HR Γ e x A → HR Γ e (.cast A A l x) A
 | idL {Γ e x A l} : HR Γ e x A → HR Γ (.cast A A l e) x A
 | back {Γ e x B l m} (ks : List Int) : HR Γ e x B → HR Γ e (.cast .any B l (A0L ks (.cast B .any m x))) B
 | backG {Γ e x B l m} : HR Γ e x B → B.cp → HR Γ e (.cast B.gr B l (.cast B B.gr m x)) B
 | dyn {Γ e x A B l} : HR Γ e x A → Co A B → HR Γ (.cast A B l e) (.cast .any B l (.cast A .any l x)) B
 | dynG {Γ e x A B l} : HR Γ e x A → Co A B → A.cp → B.cp → HR Γ (.cast A B l e) (.cast B.gr B l (.cast A A.gr l x)) B
 | dynU {Γ e x A B l} : HR Γ e x A → Co A B → A.cp → HR Γ (.cast A B l e) (.cast .any B l (.cast A.gr .any l (.cast A A.gr l x))) B
theorem S5 {A : GT} (h : A.cp) : A ≠ .any := by rintro rfl; exact h
theorem S6 {A : GT} (h : A.cp) : A.gr.Gd := A6C (S5 h)
theorem A3h {A : GT} (h : A.cp) : A.gr.cp := by cases A <;> first | trivial | exact h
theorem HR.left {Γ : GC} {e x : GE} {A : GT} (h : HR Γ e x A) : GP Γ e e A A := by
 induction h with
 | var h => exact .var h Le.refl
 | num => exact .num
 | tru => exact .tru
 | lam _ i => exact .lam Le.refl i
 | app _ _ i j => exact .app i j
 | ar _ _ i j => exact .ar i j
 | ite _ _ _ i j k => exact .ite i j k
 | pair _ _ i j => exact .pair i j
 | part _ i => exact .part i
 | cast _ c i => exact .castB i c c Le.refl
 | idR _ i => exact i
 | idL _ i => exact .castB i Co.refl Co.refl Le.refl
 | back _ _ i => exact i
 | backG _ _ i => exact i
 | dyn _ c i => exact .castB i c c Le.refl
 | dynG _ c _ _ i => exact .castB i c c Le.refl
 | dynU _ c _ i => exact .castB i c c Le.refl
theorem HR.weak {Γ : GC} {e x : GE} {A : GT} (h : HR Γ e x A) : ∀ {Δ : GC}, (∀ y p, Γ y = some p → Δ y = some p) → HR Δ e x A := by
 induction h with
 | var h => intro Δ hD; exact .var (hD _ _ h)
 | num => intro _ _; exact .num
 | tru => intro _ _; exact .tru
 | lam _ i =>
  intro Δ hD
  refine .lam (i fun z p hz => ?_)
  unfold P4 at hz ⊢
  split
  ·rename_i h2; rw [if_pos h2] at hz; exact hz
  ·rename_i h2; rw [if_neg h2] at hz; exact hD z p hz
 | app _ _ i j => intro Δ hD; exact .app (i hD) (j hD)
 | ar _ _ i j => intro Δ hD; exact .ar (i hD) (j hD)
 | ite _ _ _ i j k => intro Δ hD; exact .ite (i hD) (j hD) (k hD)
 | pair _ _ i j => intro Δ hD; exact .pair (i hD) (j hD)
 | part _ i => intro Δ hD; exact .part (i hD)
 | cast _ c i => intro Δ hD; exact .cast (i hD) c
 | idR _ i => intro Δ hD; exact .idR (i hD)
 | idL _ i => intro Δ hD; exact .idL (i hD)
 | back ks _ i => intro Δ hD; exact .back ks (i hD)
 | backG _ c i => intro Δ hD; exact .backG (i hD) c
 | dyn _ c i => intro Δ hD; exact .dyn (i hD) c
 | dynG _ c d e i => intro Δ hD; exact .dynG (i hD) c d e
 | dynU _ c d i => intro Δ hD; exact .dynU (i hD) c d
theorem HR.sub {x : ByteArray} {v v' : GE} {A : GT} (hv : HR D6 v v' A) {Γ : GC} {e e' : GE} {B : GT} (h : HR Γ e e' B) :
  ∀ {Δ : GC}, (∀ y, x ≠ y → Γ y = Δ y) → Γ x = some (A, A) → HR Δ (e.sub x v) (e'.sub x v') B := by
 induction h with
 | @var Γ y C hy =>
  intro Δ hD hx
  simp only [GE.sub]
  split
  ·rename_i he
   subst he
   rw [hx] at hy
   cases hy
   exact hv.weak fun z p hz => by cases hz
  ·rename_i he
   exact .var (by rw [← hD y (fun e => he e.symm)]; exact hy)
 | num => intro _ _ _; exact .num
 | tru => intro _ _ _; exact .tru
 | @lam Γ y C D e e' h i =>
  intro Δ hD hx
  simp only [GE.sub]
  by_cases he : y = x
  ·rw [if_pos he, if_pos he]
   refine .lam (h.weak fun z p hz => ?_)
   unfold P4 at hz ⊢
   split
   ·rename_i h2; rw [if_pos h2] at hz; exact hz
   ·rename_i h2; rw [if_neg h2] at hz; rw [← hD z (fun e => h2 (he.trans e))]; exact hz
  ·rw [if_neg he, if_neg he]
   refine .lam (i (fun z hz => ?_) ?_)
   ·unfold P4
    split
    ·rfl
    ·exact hD z hz
   ·unfold P4; rw [if_neg he]; exact hx
 | app _ _ i j => intro Δ hD hx; exact .app (i hD hx) (j hD hx)
 | ar _ _ i j => intro Δ hD hx; exact .ar (i hD hx) (j hD hx)
 | ite _ _ _ i j k => intro Δ hD hx; exact .ite (i hD hx) (j hD hx) (k hD hx)
 | pair _ _ i j => intro Δ hD hx; exact .pair (i hD hx) (j hD hx)
 | part _ i => intro Δ hD hx; exact .part (i hD hx)
 | cast _ c i => intro Δ hD hx; exact .cast (i hD hx) c
 | idR _ i => intro Δ hD hx; exact .idR (i hD hx)
 | idL _ i => intro Δ hD hx; exact .idL (i hD hx)
 | back ks _ i =>
  intro Δ hD hx
  simp only [GE.sub, B0M]
  exact .back ks (i hD hx)
 | backG _ c i => intro Δ hD hx; exact .backG (i hD hx) c
 | dyn _ c i => intro Δ hD hx; exact .dyn (i hD hx) c
 | dynG _ c d e i => intro Δ hD hx; exact .dynG (i hD hx) c d e
 | dynU _ c d i => intro Δ hD hx; exact .dynU (i hD hx) c d
theorem A5j (A : GT) : A = .any ∨ A = .int ∨ A = .bool ∨ A.cp := by
 cases A with
 | any => exact .inl rfl
 | int => exact .inr (.inl rfl)
 | bool => exact .inr (.inr (.inl rfl))
 | fn _ _ => exact .inr (.inr (.inr trivial))
 | pr _ _ => exact .inr (.inr (.inr trivial))
theorem B0N {A : GT} (l : Int) {v : GE} (hv : GV v) : ∃ w, Ss (.cast A .any l v) w ∧ GV w ∧
  ((A = .any ∧ w = v) ∨ (A.Gd ∧ w = .cast A .any l v) ∨ (A.cp ∧ A.gr ≠ A ∧ w = .cast A.gr .any l (.cast A A.gr l v))) := by
 rcases A5j A with rfl | rfl | rfl | hc
 ·exact ⟨v, .one (.cid hv (.inl rfl)), hv, .inl ⟨rfl, rfl⟩⟩
 ·exact ⟨_, .refl, .inj hv ⟨(by intro h; cases h), rfl⟩, .inr (.inl ⟨⟨(by intro h; cases h), rfl⟩, rfl⟩)⟩
 ·exact ⟨_, .refl, .inj hv ⟨(by intro h; cases h), rfl⟩, .inr (.inl ⟨⟨(by intro h; cases h), rfl⟩, rfl⟩)⟩
 ·by_cases hg : A.gr = A
  ·exact ⟨_, .refl, .inj hv ⟨S5 hc, hg⟩, .inr (.inl ⟨⟨S5 hc, hg⟩, rfl⟩)⟩
  ·refine ⟨_, .one (.up hv (S5 hc) hg), .inj ?_ (S6 hc), .inr (.inr ⟨hc, hg, rfl⟩)⟩
   cases A with
   | fn _ _ => exact .pf hv
   | pr _ _ => exact .pp hv
   | _ => exact hc.elim
theorem Z8 {A B : GT} {l : Int} {v : GE} (hv : GV v) (hc : A.cp) (hd : B.gr = A.gr) : GV (.cast A B l v) := by
 cases A <;> cases B <;> first | exact .pf hv | exact .pp hv | exact hc.elim | (simp [GT.gr] at hd)
theorem B5H {v w : GE} {A : GT} (l m : Int) (hv : GV v) (hw : GV w) (h : HR D6 v w A) : ∃ w2, Ss (.cast .any A l (.cast A .any m w)) w2 ∧ GV w2 ∧ HR D6 v w2 A := by
 rcases A5j A with rfl | rfl | rfl | hc
 ·exact ⟨w, .step (.cast1 (.cid hw (.inl rfl))) (.one (.cid hw (.inl rfl))), hw, h⟩
 ·exact ⟨w, .one (.hit hw ⟨(by intro h; cases h), rfl⟩), hw, h⟩
 ·exact ⟨w, .one (.hit hw ⟨(by intro h; cases h), rfl⟩), hw, h⟩
 ·by_cases hg : A.gr = A
  ·exact ⟨w, .one (.hit hw ⟨S5 hc, hg⟩), hw, h⟩
  ·have h1 : GV (.cast A A.gr m w) := Z8 hw hc (S6 hc).2
   refine ⟨.cast A.gr A l (.cast A A.gr m w), .step (.cast1 (.up hw (S5 hc) hg)) (.step (.down (.inj h1 (S6 hc)) (S5 hc) hg) (.one (.cast1 (.hit h1 (S6 hc))))), Z8 h1 (A3h hc) (S6 hc).2.symm, .backG h hc⟩
theorem A5k {y z : GE} (h : Ss y z) : ∀ ks, Ss (A0L ks y) (A0L ks z)
 | [] => h
 | _ :: ks => H0 (A5k h ks)
theorem B0O {w : GE} (h : GV w) : ∀ ks, Ss (A0L ks w) w
 | [] => .refl
 | _ :: ks => (H0 (B0O h ks)).trans (.one (.cid h (.inl rfl)))
theorem B0P {A : GT} (m : Int) {w : GE} (hw : GV w) : ∃ w1, Ss (.cast A .any m w) w1 ∧ GV w1 ∧ ∀ (v : GE) (l : Int), GV v → HR D6 v w A → ∃ w2, Ss (.cast .any A l w1) w2 ∧ GV w2 ∧ HR D6 v w2 A := by
 obtain ⟨w1, h1, h2, h3⟩ := B0N (A := A) m hw
 refine ⟨w1, h1, h2, fun v l hv h => ?_⟩
 rcases h3 with ⟨rfl, rfl⟩ | ⟨hg, rfl⟩ | ⟨hc, hg, rfl⟩
 ·exact ⟨w1, .one (.cid hw (.inl rfl)), hw, h⟩
 ·exact ⟨w, .one (.hit hw hg), hw, h⟩
 ·have h4 : GV (.cast A A.gr m w) := Z8 hw hc (S6 hc).2
  exact ⟨.cast A.gr A l (.cast A A.gr m w), .step (.down (.inj h4 (S6 hc)) (S5 hc) hg) (.one (.cast1 (.hit h4 (S6 hc)))), Z8 h4 (A3h hc) (S6 hc).2.symm, .backG h hc⟩
theorem A5l {A B : GT} (h : Co A B) (hA : A ≠ .any) (hB : B ≠ .any) : A.gr = B.gr := by
 cases h with
 | l => exact absurd rfl hA
 | r => exact absurd rfl hB
 | int => rfl
 | bool => rfl
 | fn _ _ => rfl
 | pr _ _ => rfl
theorem A37 {f g a : GE} (h : Ss f g) : Ss (.app f a) (.app g a) := h.ctx (fun z => .app z a) fun _ _ => .app1
theorem A2J {f a b : GE} (v : GV f) (h : Ss a b) : Ss (.app f a) (.app f b) := h.ctx (fun z => .app f z) fun _ _ => .app2 v
theorem A38 {s : Bool} {f g a : GE} (h : Ss f g) : Ss (.ar s f a) (.ar s g a) := h.ctx (fun z => .ar s z a) fun _ _ => .ar1
theorem A66 {s : Bool} {f a b : GE} (v : GV f) (h : Ss a b) : Ss (.ar s f a) (.ar s f b) := h.ctx (fun z => .ar s f z) fun _ _ => .ar2 v
theorem A39 {f g a : GE} (h : Ss f g) : Ss (.pair f a) (.pair g a) := h.ctx (fun z => .pair z a) fun _ _ => .pair1
theorem A67 {f a b : GE} (v : GV f) (h : Ss a b) : Ss (.pair f a) (.pair f b) := h.ctx (fun z => .pair f z) fun _ _ => .pair2 v
theorem A68 {f g a b : GE} (h : Ss f g) : Ss (.ite f a b) (.ite g a b) := h.ctx (fun z => .ite z a b) fun _ _ => .ite1
theorem A69 {s : Bool} {f g : GE} (h : Ss f g) : Ss (.part s f) (.part s g) := h.ctx (fun z => .part s z) fun _ _ => .part1
theorem A0M {B : GT} {l : Int} {x : GE} (h : GV (.cast .any B l x)) : False := by cases h with | inj _ hg => exact hg.1 rfl
theorem B0Q {A B : GT} {l : Int} {x : GE} (h : GV (.cast A B l x)) (hB : B ≠ .any) : A.cp ∧ B.cp := by
 cases h with
 | pf _ => exact ⟨trivial, trivial⟩
 | pp _ => exact ⟨trivial, trivial⟩
 | inj _ _ => exact absurd rfl hB
theorem B5I {e w : GE} {A B : GT} (l : Int) (hw : GV w) (h : HR D6 e w A) (hc : Co A B) (hA : A.cp) (hB : B.cp) : ∃ w2, Ss (.cast .any B l (.cast A .any l w)) w2 ∧ GV w2 ∧ HR D6 (.cast A B l e) w2 B := by
 have hg := A5l hc (S5 hA) (S5 hB)
 by_cases gA : A.gr = A
 ·have hi : GV (.cast A .any l w) := .inj hw ⟨S5 hA, gA⟩
  by_cases gB : B.gr = B
  ·have hE : A = B := by rw [← gA, ← gB]; exact hg
   subst hE
   exact ⟨w, .one (.hit hw ⟨S5 hA, gA⟩), hw, .idL h⟩
  ·have hE : B.gr = A := by rw [← hg]; exact gA
   refine ⟨.cast A B l w, ?_, Z8 hw hA hg.symm, .cast h hc⟩
   have s1 := GS.down (B := B) (l := l) hi (S5 hB) gB
   rw [hE] at s1
   exact .step s1 (.one (.cast1 (.hit hw ⟨S5 hA, gA⟩)))
 ·have h4 : GV (.cast A A.gr l w) := Z8 hw hA (S6 hA).2
  have s1 := H0 (A := .any) (B := B) (l := l) (Ss.one (GS.up (l := l) hw (S5 hA) gA))
  by_cases gB : B.gr = B
  ·have hE : A.gr = B := hg.trans gB
   rw [hE] at s1 h4
   exact ⟨.cast A B l w, s1.trans (.one (.hit h4 ⟨S5 hB, gB⟩)), h4, .cast h hc⟩
  ·refine ⟨.cast B.gr B l (.cast A A.gr l w), s1.trans ?_, (by rw [← hg]; exact Z8 h4 (A3h hA) (by rw [(S6 hA).2]; exact hg.symm)), .dynG h hc hA hB⟩
   have s2 := GS.down (B := B) (l := l) (GV.inj (l := l) h4 (S6 hA)) (S5 hB) gB
   refine .step s2 ?_
   rw [← hg]
   exact .one (.cast1 (.hit h4 (S6 hA)))
theorem S7 {Γ : GC} {e x : GE} {A : GT} (h : HR Γ e x A) : Γ = D6 → GV e → ∃ w, Ss x w ∧ GV w ∧ HR D6 e w A := by
 induction h with
 | var hx => intro hE; subst hE; cases hx
 | num => intro _ _; exact ⟨_, .refl, .num, .num⟩
 | tru => intro _ _; exact ⟨_, .refl, .tru, .tru⟩
 | lam h _ => intro hE _; subst hE; exact ⟨_, .refl, .lam, .lam h⟩
 | app _ _ _ _ => intro _ hv; cases hv
 | ar _ _ _ _ => intro _ hv; cases hv
 | ite _ _ _ _ _ _ => intro _ hv; cases hv
 | part _ _ => intro _ hv; cases hv
 | pair _ _ i j =>
  intro hE hv
  cases hv with
  | pair v1 v2 =>
   obtain ⟨w, s1, g1, r1⟩ := i hE v1
   obtain ⟨u, s2, g2, r2⟩ := j hE v2
   exact ⟨_, (A39 s1).trans (A67 g1 s2), .pair g1 g2, .pair r1 r2⟩
 | cast _ c i =>
  intro hE hv
  obtain ⟨w, s1, g1, r1⟩ := i hE hv.ofCast
  refine ⟨_, H0 s1, ?_, .cast r1 c⟩
  cases hv with
  | pf _ => exact .pf g1
  | pp _ => exact .pp g1
  | inj _ hg => exact .inj g1 hg
 | @idR Γ e x A l _ i =>
  intro hE hv
  obtain ⟨w, s1, g1, r1⟩ := i hE hv
  rcases A5j A with h | h | h | hc
  ·exact ⟨w, (H0 s1).trans (.one (.cid g1 (.inl h))), g1, r1⟩
  ·exact ⟨w, (H0 s1).trans (.one (.cid g1 (.inr (.inl h)))), g1, r1⟩
  ·exact ⟨w, (H0 s1).trans (.one (.cid g1 (.inr (.inr h)))), g1, r1⟩
  ·exact ⟨_, H0 s1, Z8 g1 hc rfl, .idR r1⟩
 | idL _ i =>
  intro hE hv
  obtain ⟨w, s1, g1, r1⟩ := i hE hv.ofCast
  exact ⟨w, s1, g1, .idL r1⟩
 | @back Γ e x B l m ks _ i =>
  intro hE hv
  obtain ⟨w, s1, g1, r1⟩ := i hE hv
  obtain ⟨w1, s2, g2, hb⟩ := B0P m g1 (A := B)
  obtain ⟨w2, s3, g3, r3⟩ := hb e l hv r1
  exact ⟨w2, (H0 ((A5k ((H0 s1).trans s2) ks).trans (B0O g2 ks))).trans s3, g3, r3⟩
 | @backG Γ e x B l m _ hc i =>
  intro hE hv
  obtain ⟨w, s1, g1, r1⟩ := i hE hv
  exact ⟨_, H0 (H0 s1), Z8 (Z8 g1 hc (S6 hc).2) (A3h hc) (S6 hc).2.symm, .backG r1 hc⟩
 | @dyn Γ e x A B l _ c i =>
  intro hE hv
  obtain ⟨w, s1, g1, r1⟩ := i hE hv.ofCast
  by_cases hB : B = .any
  ·subst hB
   cases hv with
   | inj _ hg => exact ⟨.cast A .any l w, (H0 (H0 s1)).trans (.one (.cid (.inj g1 hg) (.inl rfl))), .inj g1 hg, .cast r1 c⟩
  ·obtain ⟨hA, hB⟩ := B0Q hv hB
   obtain ⟨w2, s2, g2, r2⟩ := B5I l g1 r1 c hA hB
   exact ⟨w2, (H0 (H0 s1)).trans s2, g2, r2⟩
 | @dynG Γ e x A B l _ c hA hB i =>
  intro hE hv
  obtain ⟨w, s1, g1, r1⟩ := i hE hv.ofCast
  have hg := A5l c (S5 hA) (S5 hB)
  refine ⟨_, H0 (H0 s1), ?_, .dynG r1 c hA hB⟩
  rw [← hg]
  exact Z8 (Z8 g1 hA (S6 hA).2) (A3h hA) (by rw [(S6 hA).2]; exact hg.symm)
 | @dynU Γ e x A B l _ c hA i =>
  intro hE hv
  obtain ⟨w, s1, g1, r1⟩ := i hE hv.ofCast
  have h4 : GV (.cast A A.gr l w) := Z8 g1 hA (S6 hA).2
  have s0 : Ss (.cast .any B l (.cast A.gr .any l (.cast A A.gr l x))) (.cast .any B l (.cast A.gr .any l (.cast A A.gr l w))) := H0 (H0 (H0 s1))
  have h5 : GV (.cast A.gr .any l (.cast A A.gr l w)) := .inj h4 (S6 hA)
  by_cases hB : B = .any
  ·subst hB
   cases hv with
   | inj _ hg =>
    refine ⟨_, s0.trans (.one (.cid h5 (.inl rfl))), h5, ?_⟩
    rw [hg.2]
    exact .cast (.idR r1) c
  ·obtain ⟨_, hB⟩ := B0Q hv hB
   have hg := A5l c (S5 hA) (S5 hB)
   by_cases gB : B.gr = B
   ·have hE2 : A.gr = B := hg.trans gB
    refine ⟨.cast A B l w, s0.trans ?_, by rw [hE2] at h4; exact h4, .cast r1 c⟩
    rw [hE2] at h4 ⊢
    exact .one (.hit h4 ⟨S5 hB, gB⟩)
   ·refine ⟨.cast B.gr B l (.cast A A.gr l w), s0.trans (.step (.down h5 (S5 hB) gB) ?_), ?_, .dynG r1 c hA hB⟩
    ·rw [← hg]; exact .one (.cast1 (.hit h4 (S6 hA)))
    ·rw [← hg]; exact Z8 h4 (A3h hA) (by rw [(S6 hA).2]; exact hg.symm)
theorem A5m {G : GT} {m : Int} {w v : GE} (h : HR D6 (.cast G .any m w) v .any) (hv : GV v) (hG : G ≠ .any) : ∃ u, v = .cast G .any m u ∧ GV u ∧ HR D6 w u G := by
 generalize he : GE.cast G .any m w = e at h
 generalize hA : GT.any = A at h
 cases h with
 | cast h c => cases he; exact ⟨_, rfl, hv.ofCast, h⟩
 | idR h => subst hA; exact (A0M hv).elim
 | idL h => cases he; exact absurd rfl hG
 | back _ h => exact (A0M hv).elim
 | backG h c => subst hA; exact c.elim
 | dyn h c => exact (A0M hv).elim
 | dynG h c d e => subst hA; exact e.elim
 | dynU h c d => exact (A0M hv).elim
 | _ => cases he
theorem B0R {n : Int} {v : GE} (h : HR D6 (.num n) v .int) (hv : GV v) : v = .num n := by
 generalize he : GE.num n = e at h
 generalize hA : GT.int = A at h
 cases h with
 | num => cases he; rfl
 | idR h => subst hA; cases hv
 | back _ h => exact (A0M hv).elim
 | backG h c => subst hA; exact c.elim
 | _ => cases he
theorem B5J {n : Bool} {v : GE} (h : HR D6 (.tru n) v .bool) (hv : GV v) : v = .tru n := by
 generalize he : GE.tru n = e at h
 generalize hA : GT.bool = A at h
 cases h with
 | tru => cases he; rfl
 | idR h => subst hA; cases hv
 | back _ h => exact (A0M hv).elim
 | backG h c => subst hA; exact c.elim
 | _ => cases he
theorem B0S {a b c d : GT} (h : Co (.fn a b) (.fn c d)) : Co a c ∧ Co b d := by cases h with | fn h1 h2 => exact ⟨h1, h2⟩
theorem B0T {a b c d : GT} (h : Co (.pr a b) (.pr c d)) : Co a c ∧ Co b d := by cases h with | pr h1 h2 => exact ⟨h1, h2⟩
theorem B5K {Γ : GC} {f f' : GE} {U : GT} (h : HR Γ f f' U) : ∀ {A B : GT} {w w' : GE}, Γ = D6 → U = .fn A B → GV f → GV f' → GV w → GV w' → HR D6 w w' A → ∀ r, GS (.app f w) r → ∃ r', Ss (.app f' w') r' ∧ HR D6 r r' B := by
 induction h with
 | var hx => intro _ _ _ _ hE; subst hE; cases hx
 | num => intro _ _ _ _ _ hU; cases hU
 | tru => intro _ _ _ _ _ hU; cases hU
 | pair _ _ _ _ => intro _ _ _ _ _ hU; cases hU
 | ar _ _ _ _ => intro _ _ _ _ _ _ hv; cases hv
 | app _ _ _ _ => intro _ _ _ _ _ _ hv; cases hv
 | ite _ _ _ _ _ _ => intro _ _ _ _ _ _ hv; cases hv
 | part _ _ => intro _ _ _ _ _ _ hv; cases hv
 | @lam Γ x A0 B0 e e' h _ =>
  intro A B w w' hE hU hv hv' hw hw' hr r s
  subst hE
  cases hU
  cases s with
  | app1 s => exact (hv.noS _ s).elim
  | app2 _ s => exact (hw.noS _ s).elim
  | beta _ =>
   refine ⟨_, .one (.beta hw'), HR.sub hr h (fun y hy => ?_) ?_⟩
   ·unfold P4; rw [if_neg hy]
   ·unfold P4; rw [if_pos rfl]
 | @cast Γ e x A0 B0 l h c _ =>
  intro A B w w' hE hU hv hv' hw hw' hr r s
  subst hE hU
  cases s with
  | app1 s => exact (hv.noS _ s).elim
  | app2 _ s => exact (hw.noS _ s).elim
  | appx he _ =>
   obtain ⟨c1, c2⟩ := B0S c
   exact ⟨_, .one (.appx hv'.ofCast hw'), .cast (.app h (.cast hr c1.symm)) c2⟩
 | @idR Γ e x A0 l h i =>
  intro A B w w' hE hU hv hv' hw hw' hr r s
  subst hU
  obtain ⟨w2, s1, g1, r1⟩ := S7 (HR.idR (l := -l) hr) rfl hw
  obtain ⟨r', s2, r2⟩ := i hE rfl hv hv'.ofCast hw g1 r1 r s
  exact ⟨_, .step (.appx hv'.ofCast hw') ((H0 (A2J hv'.ofCast s1)).trans (H0 s2)), .idR r2⟩
 | @idL Γ e x A0 l h i =>
  intro A B w w' hE hU hv hv' hw hw' hr r s
  subst hE hU
  cases s with
  | app1 s => exact (hv.noS _ s).elim
  | app2 _ s => exact (hw.noS _ s).elim
  | appx he _ => exact ⟨_, .refl, .idL (.app h (.idL hr))⟩
 | back _ _ _ => intro _ _ _ _ _ _ _ hv'; exact (A0M hv').elim
 | @backG Γ e x B0 l m h hc i =>
  intro A B w w' hE hU hv hv' hw hw' hr r s
  subst hU
  have hx := hv'.ofCast.ofCast
  obtain ⟨w1, s1, g1, hb⟩ := B0P (-l) hw' (A := A)
  obtain ⟨w2, s2, g2, r2⟩ := hb w (-m) hw hr
  obtain ⟨r', s3, r3⟩ := i hE rfl hv hx hw g2 r2 r s
  exact ⟨_, .step (.appx hv'.ofCast hw') ((H0 (A2J hv'.ofCast s1)).trans ((H0 (.one (.appx hx g1))).trans ((H0 (H0 (A2J hx s2))).trans (H0 (H0 s3))))), .back [] r3⟩
 | dyn _ _ _ => intro _ _ _ _ _ _ _ hv'; exact (A0M hv').elim
 | @dynG Γ e x A0 B0 l h c hA hB i =>
  intro A B w w' hE hU hv hv' hw hw' hr r s
  subst hE hU
  cases s with
  | app1 s => exact (hv.noS _ s).elim
  | app2 _ s => exact (hw.noS _ s).elim
  | @appx a b _ _ _ _ _ he _ =>
   obtain ⟨c1, c2⟩ := B0S c
   have hx := hv'.ofCast.ofCast
   obtain ⟨w1, s1, g1, hc3⟩ := B0N (A := A) (-l) hw'
   refine ⟨_, .step (.appx hv'.ofCast hw') ((H0 (A2J hv'.ofCast s1)).trans (H0 (.one (.appx hx g1)))), .dyn (.app h ?_) c2⟩
   rcases hc3 with ⟨rfl, rfl⟩ | ⟨hg, rfl⟩ | ⟨hc3, hg, rfl⟩
   ·exact .cast hr c1.symm
   ·exact .dyn hr c1.symm
   ·exact .dynU hr c1.symm hc3
 | dynU _ _ _ _ => intro _ _ _ _ _ _ _ hv'; exact (A0M hv').elim
theorem B5L {Γ : GC} {f f' : GE} {U : GT} (h : HR Γ f f' U) : ∀ {A B : GT} {t : Bool}, Γ = D6 → U = .pr A B → GV f → GV f' → ∀ r, GS (.part t f) r → ∃ r', Ss (.part t f') r' ∧ HR D6 r r' (if t = true then B else A) := by
 induction h with
 | var hx => intro _ _ _ hE; subst hE; cases hx
 | num => intro _ _ _ _ hU; cases hU
 | tru => intro _ _ _ _ hU; cases hU
 | lam _ _ => intro _ _ _ _ hU; cases hU
 | ar _ _ _ _ => intro _ _ _ _ _ hv; cases hv
 | app _ _ _ _ => intro _ _ _ _ _ hv; cases hv
 | ite _ _ _ _ _ _ => intro _ _ _ _ _ hv; cases hv
 | part _ _ => intro _ _ _ _ _ hv; cases hv
 | pair h1 h2 _ _ =>
  intro A B t hE hU hv hv' r s
  subst hE
  cases hU
  cases s with
  | part1 s => exact (hv.noS _ s).elim
  | part _ _ =>
   cases hv' with
   | pair v1 v2 =>
    refine ⟨_, .one (.part v1 v2), ?_⟩
    cases t
    ·exact h1
    ·exact h2
 | @cast Γ e x A0 B0 l h c _ =>
  intro A B t hE hU hv hv' r s
  subst hE hU
  cases s with
  | part1 s => exact (hv.noS _ s).elim
  | partx he =>
   obtain ⟨c1, c2⟩ := B0T c
   refine ⟨_, .one (.partx hv'.ofCast), .cast (.part h) ?_⟩
   cases t
   ·exact c1
   ·exact c2
 | @idR Γ e x A0 l h i =>
  intro A B t hE hU hv hv' r s
  subst hU
  obtain ⟨r', s2, r2⟩ := i hE rfl hv hv'.ofCast r s
  exact ⟨_, .step (.partx hv'.ofCast) (H0 s2), .idR r2⟩
 | @idL Γ e x A0 l h i =>
  intro A B t hE hU hv hv' r s
  subst hE hU
  cases s with
  | part1 s => exact (hv.noS _ s).elim
  | partx he => exact ⟨_, .refl, .idL (.part h)⟩
 | back _ _ _ => intro _ _ _ _ _ _ hv'; exact (A0M hv').elim
 | @backG Γ e x B0 l m h hc i =>
  intro A B t hE hU hv hv' r s
  subst hU
  have hx := hv'.ofCast.ofCast
  obtain ⟨r', s3, r3⟩ := i hE rfl hv hx r s
  refine ⟨_, .step (.partx hv'.ofCast) ((H0 (.one (.partx hx))).trans (H0 (H0 s3))), ?_⟩
  cases t
  ·exact .back [] r3
  ·exact .back [] r3
 | dyn _ _ _ => intro _ _ _ _ _ _ hv'; exact (A0M hv').elim
 | @dynG Γ e x A0 B0 l h c hA hB i =>
  intro A B t hE hU hv hv' r s
  subst hE hU
  cases s with
  | part1 s => exact (hv.noS _ s).elim
  | @partx _ a b _ _ _ _ he =>
   obtain ⟨c1, c2⟩ := B0T c
   have hx := hv'.ofCast.ofCast
   refine ⟨_, .step (.partx hv'.ofCast) (H0 (.one (.partx hx))), ?_⟩
   cases t
   ·exact .dyn (.part (s := false) h) c1
   ·exact .dyn (.part (s := true) h) c2
 | dynU _ _ _ _ => intro _ _ _ _ _ _ hv'; exact (A0M hv').elim
theorem B0U {f f' a a' : GE} {A B : GT} (h1 : HR D6 f f' (.fn A B)) (h2 : HR D6 a a' A) (vf : GV f) (va : GV a) (r : GE) (s : GS (.app f a) r) : ∃ x1, Ss (.app f' a') x1 ∧ HR D6 r x1 B := by
 obtain ⟨wf, s1, g1, r1⟩ := S7 h1 rfl vf
 obtain ⟨wa, s2, g2, r2⟩ := S7 h2 rfl va
 obtain ⟨r', s3, r3⟩ := B5K r1 rfl rfl vf g1 va g2 r2 r s
 exact ⟨r', (A37 s1).trans ((A2J g1 s2).trans s3), r3⟩
theorem B0V {f f' : GE} {A B : GT} {t : Bool} (h1 : HR D6 f f' (.pr A B)) (vf : GV f) (r : GE) (s : GS (.part t f) r) : ∃ x1, Ss (.part t f') x1 ∧ HR D6 r x1 (if t = true then B else A) := by
 obtain ⟨wf, s1, g1, r1⟩ := S7 h1 rfl vf
 obtain ⟨r', s3, r3⟩ := B5L r1 rfl rfl vf g1 r s
 exact ⟨r', (A69 s1).trans s3, r3⟩
theorem B5M {Γ : GC} {e x : GE} {A : GT} (h : HR Γ e x A) : Γ = D6 → ∀ r, GS e r → ∃ x1, Ss x x1 ∧ HR D6 r x1 A := by
 induction h with
 | var hx => intro hE; subst hE; cases hx
 | num => intro _ _ s; cases s
 | tru => intro _ _ s; cases s
 | lam _ _ => intro _ _ s; cases s
 | app h1 h2 i j =>
  intro hE r s
  subst hE
  cases s with
  | app1 s =>
   obtain ⟨x1, s1, r1⟩ := i rfl _ s
   exact ⟨_, A37 s1, .app r1 h2⟩
  | app2 v s =>
   obtain ⟨wf, s1, g1, r1⟩ := S7 h1 rfl v
   obtain ⟨x1, s2, r2⟩ := j rfl _ s
   exact ⟨_, (A37 s1).trans (A2J g1 s2), .app r1 r2⟩
  | beta v => exact B0U h1 h2 .lam v _ (.beta v)
  | appx vf v => exact B0U h1 h2 (.pf vf) v _ (.appx vf v)
 | @ar Γ t a a' b b' h1 h2 i j =>
  intro hE r s
  subst hE
  cases s with
  | ar1 s =>
   obtain ⟨x1, s1, r1⟩ := i rfl _ s
   exact ⟨_, A38 s1, .ar r1 h2⟩
  | ar2 v s =>
   obtain ⟨wf, s1, g1, r1⟩ := S7 h1 rfl v
   obtain ⟨x1, s2, r2⟩ := j rfl _ s
   exact ⟨_, (A38 s1).trans (A66 g1 s2), .ar r1 r2⟩
  | @ar _ m n =>
   obtain ⟨wf, s1, g1, r1⟩ := S7 h1 rfl .num
   obtain ⟨wa, s2, g2, r2⟩ := S7 h2 rfl .num
   obtain rfl := B0R r1 g1
   obtain rfl := B0R r2 g2
   refine ⟨_, (A38 s1).trans ((A66 g1 s2).trans (.one .ar)), ?_⟩
   unfold A46
   cases t
   ·exact .num
   ·exact .tru
 | ite h1 h2 h3 i _ _ =>
  intro hE r s
  subst hE
  cases s with
  | ite1 s =>
   obtain ⟨x1, s1, r1⟩ := i rfl _ s
   exact ⟨_, A68 s1, .ite r1 h2 h3⟩
  | @ite b _ _ =>
   obtain ⟨wf, s1, g1, r1⟩ := S7 h1 rfl .tru
   obtain rfl := B5J r1 g1
   refine ⟨_, (A68 s1).trans (.one .ite), ?_⟩
   cases b
   ·exact h3
   ·exact h2
 | pair h1 h2 i j =>
  intro hE r s
  subst hE
  cases s with
  | pair1 s =>
   obtain ⟨x1, s1, r1⟩ := i rfl _ s
   exact ⟨_, A39 s1, .pair r1 h2⟩
  | pair2 v s =>
   obtain ⟨wf, s1, g1, r1⟩ := S7 h1 rfl v
   obtain ⟨x1, s2, r2⟩ := j rfl _ s
   exact ⟨_, (A39 s1).trans (A67 g1 s2), .pair r1 r2⟩
 | part h1 i =>
  intro hE r s
  subst hE
  cases s with
  | part1 s =>
   obtain ⟨x1, s1, r1⟩ := i rfl _ s
   exact ⟨_, A69 s1, .part r1⟩
  | part v v2 => exact B0V h1 (.pair v v2) _ (.part v v2)
  | partx v => exact B0V h1 (.pp v) _ (.partx v)
 | cast h c i =>
  intro hE r s
  subst hE
  cases s with
  | cast1 s =>
   obtain ⟨x1, s1, r1⟩ := i rfl _ s
   exact ⟨_, H0 s1, .cast r1 c⟩
  | cid v hA =>
   obtain ⟨w, s1, g1, r1⟩ := S7 h rfl v
   exact ⟨w, (H0 s1).trans (.one (.cid g1 hA)), r1⟩
  | up v hA hg =>
   obtain ⟨w, s1, g1, r1⟩ := S7 h rfl v
   exact ⟨_, (H0 s1).trans (.one (.up g1 hA hg)), .cast (.cast r1 Co.gr) .r⟩
  | down v hB hg =>
   obtain ⟨w, s1, g1, r1⟩ := S7 h rfl v
   exact ⟨_, (H0 s1).trans (.one (.down g1 hB hg)), .cast (.cast r1 .l) Co.gr.symm⟩
  | hit v hg =>
   obtain ⟨w, s1, g1, r1⟩ := S7 h rfl (.inj v hg)
   obtain ⟨u, rfl, g2, r2⟩ := A5m r1 g1 hg.1
   exact ⟨u, (H0 s1).trans (.one (.hit g2 hg)), r2⟩
 | idR h i =>
  intro hE r s
  obtain ⟨x1, s1, r1⟩ := i hE r s
  exact ⟨_, H0 s1, .idR r1⟩
 | idL h i =>
  intro hE r s
  subst hE
  cases s with
  | cast1 s =>
   obtain ⟨x1, s1, r1⟩ := i rfl _ s
   exact ⟨_, s1, .idL r1⟩
  | cid v hA => exact ⟨_, .refl, h⟩
  | up v hA hg => exact absurd rfl hA
  | down v hB hg => exact absurd rfl hB
  | hit v hg => exact absurd rfl hg.1
 | back ks h i =>
  intro hE r s
  obtain ⟨x1, s1, r1⟩ := i hE r s
  exact ⟨_, H0 (A5k (H0 s1) ks), .back ks r1⟩
 | backG h c i =>
  intro hE r s
  obtain ⟨x1, s1, r1⟩ := i hE r s
  exact ⟨_, H0 (H0 s1), .backG r1 c⟩
 | @dyn Γ e x A B l h c i =>
  intro hE r s
  subst hE
  cases s with
  | cast1 s =>
   obtain ⟨x1, s1, r1⟩ := i rfl _ s
   exact ⟨_, H0 (H0 s1), .dyn r1 c⟩
  | cid v hA =>
   obtain ⟨w, s1, g1, r1⟩ := S7 h rfl v
   obtain ⟨w2, s2, g2, r2⟩ := B5H l l v g1 r1
   exact ⟨w2, (H0 (H0 s1)).trans s2, r2⟩
  | up v hA hg =>
   obtain ⟨w, s1, g1, r1⟩ := S7 h rfl v
   have hc : A.cp := by rcases A5j A with rfl | rfl | rfl | hc; exact absurd rfl hA; exact absurd rfl hg; exact absurd rfl hg; exact hc
   have h4 : GV (.cast A A.gr l w) := Z8 g1 hc (S6 hc).2
   exact ⟨_, (H0 (H0 s1)).trans (.step (.cast1 (.up g1 hA hg)) (.one (.cid (.inj h4 (S6 hc)) (.inl rfl)))), .cast (.cast r1 Co.gr) .r⟩
  | down v hB hg =>
   obtain ⟨w, s1, g1, r1⟩ := S7 h rfl v
   exact ⟨_, (H0 (H0 s1)).trans (.step (.cast1 (.cid g1 (.inl rfl))) (.one (.down g1 hB hg))), .cast (.cast r1 .l) Co.gr.symm⟩
  | hit v hg =>
   obtain ⟨w, s1, g1, r1⟩ := S7 h rfl (.inj v hg)
   obtain ⟨u, rfl, g2, r2⟩ := A5m r1 g1 hg.1
   exact ⟨u, (H0 (H0 s1)).trans (.step (.cast1 (.cid g1 (.inl rfl))) (.one (.hit g2 hg))), r2⟩
 | @dynG Γ e x A B l h c hA hB i =>
  intro hE r s
  subst hE
  cases s with
  | cast1 s =>
   obtain ⟨x1, s1, r1⟩ := i rfl _ s
   exact ⟨_, H0 (H0 s1), .dynG r1 c hA hB⟩
  | cid v h => rcases h with rfl | rfl | rfl <;> exact hA.elim
  | up v _ _ => exact hB.elim
  | down v _ _ => exact hA.elim
  | hit v _ => exact hA.elim
 | @dynU Γ e x A B l h c hA i =>
  intro hE r s
  subst hE
  cases s with
  | cast1 s =>
   obtain ⟨x1, s1, r1⟩ := i rfl _ s
   exact ⟨_, H0 (H0 (H0 s1)), .dynU r1 c hA⟩
  | cid v h => rcases h with rfl | rfl | rfl <;> exact hA.elim
  | up v hA2 hg =>
   obtain ⟨w, s1, g1, r1⟩ := S7 h rfl v
   have h4 : GV (.cast A A.gr l w) := Z8 g1 hA (S6 hA).2
   exact ⟨_, (H0 (H0 (H0 s1))).trans (.one (.cid (.inj h4 (S6 hA)) (.inl rfl))), .cast (.cast r1 Co.gr) .r⟩
  | down v _ _ => exact hA.elim
  | hit v _ => exact hA.elim
theorem B0W {e r : GE} (h : Ss e r) : ∀ {x : GE} {A : GT}, HR D6 e x A → ∃ x1, Ss x x1 ∧ HR D6 r x1 A := by
 induction h with
 | refl => exact fun h => ⟨_, .refl, h⟩
 | step s _ i =>
  intro x A h
  obtain ⟨x1, s1, r1⟩ := B5M h rfl _ s
  obtain ⟨x2, s2, r2⟩ := i r1
  exact ⟨x2, s1.trans s2, r2⟩
theorem B0X {y : GE} {L : Int} (h : Bl y L) : ∀ ks, Bl (A0L ks y) L
 | [] => h
 | _ :: ks => .cast1 (B0X h ks)
theorem B0Y {Γ : GC} {e y : GE} {A : GT} (h : GP Γ e y A .any) : ∀ ks, GP Γ e (A0L ks y) A .any
 | [] => h
 | _ :: ks => .castR (B0Y h ks) .l .any
theorem B5N {Γ : GC} {e x : GE} {A : GT} (h : HR Γ e x A) : Γ = D6 → ∀ L, Bl e L → ∃ x1, Ss x x1 ∧ Bl x1 L := by
 induction h with
 | var hx => intro hE; subst hE; cases hx
 | num => intro _ _ s; cases s
 | tru => intro _ _ s; cases s
 | lam _ _ => intro _ _ s; cases s
 | app h1 h2 i j =>
  intro hE L b
  subst hE
  cases b with
  | app1 b =>
   obtain ⟨x1, s1, b1⟩ := i rfl _ b
   exact ⟨_, A37 s1, .app1 b1⟩
  | app2 v b =>
   obtain ⟨wf, s1, g1, r1⟩ := S7 h1 rfl v
   obtain ⟨x1, s2, b2⟩ := j rfl _ b
   exact ⟨_, (A37 s1).trans (A2J g1 s2), .app2 g1 b2⟩
 | ar h1 h2 i j =>
  intro hE L b
  subst hE
  cases b with
  | ar1 b =>
   obtain ⟨x1, s1, b1⟩ := i rfl _ b
   exact ⟨_, A38 s1, .ar1 b1⟩
  | ar2 v b =>
   obtain ⟨wf, s1, g1, r1⟩ := S7 h1 rfl v
   obtain ⟨x1, s2, b2⟩ := j rfl _ b
   exact ⟨_, (A38 s1).trans (A66 g1 s2), .ar2 g1 b2⟩
 | ite h1 h2 h3 i _ _ =>
  intro hE L b
  subst hE
  cases b with
  | ite1 b =>
   obtain ⟨x1, s1, b1⟩ := i rfl _ b
   exact ⟨_, A68 s1, .ite1 b1⟩
 | pair h1 h2 i j =>
  intro hE L b
  subst hE
  cases b with
  | pair1 b =>
   obtain ⟨x1, s1, b1⟩ := i rfl _ b
   exact ⟨_, A39 s1, .pair1 b1⟩
  | pair2 v b =>
   obtain ⟨wf, s1, g1, r1⟩ := S7 h1 rfl v
   obtain ⟨x1, s2, b2⟩ := j rfl _ b
   exact ⟨_, (A39 s1).trans (A67 g1 s2), .pair2 g1 b2⟩
 | part h1 i =>
  intro hE L b
  subst hE
  cases b with
  | part1 b =>
   obtain ⟨x1, s1, b1⟩ := i rfl _ b
   exact ⟨_, A69 s1, .part1 b1⟩
 | cast h c i =>
  intro hE L b
  subst hE
  cases b with
  | cast1 b =>
   obtain ⟨x1, s1, b1⟩ := i rfl _ b
   exact ⟨_, H0 s1, .cast1 b1⟩
  | fail v hg hh hne =>
   obtain ⟨w, s1, g1, r1⟩ := S7 h rfl (.inj v hh)
   obtain ⟨u, rfl, g2, r2⟩ := A5m r1 g1 hh.1
   exact ⟨_, H0 s1, .fail g2 hg hh hne⟩
 | idR h i =>
  intro hE L b
  obtain ⟨x1, s1, b1⟩ := i hE L b
  exact ⟨_, H0 s1, .cast1 b1⟩
 | idL h i =>
  intro hE L b
  subst hE
  cases b with
  | cast1 b => exact i rfl _ b
  | fail v hg hh hne => exact absurd rfl hg.1
 | back ks h i =>
  intro hE L b
  obtain ⟨x1, s1, b1⟩ := i hE L b
  exact ⟨_, H0 (A5k (H0 s1) ks), .cast1 (B0X (.cast1 b1) ks)⟩
 | backG h c i =>
  intro hE L b
  obtain ⟨x1, s1, b1⟩ := i hE L b
  exact ⟨_, H0 (H0 s1), .cast1 (.cast1 b1)⟩
 | dyn h c i =>
  intro hE L b
  subst hE
  cases b with
  | cast1 b =>
   obtain ⟨x1, s1, b1⟩ := i rfl _ b
   exact ⟨_, H0 (H0 s1), .cast1 (.cast1 b1)⟩
  | fail v hg hh hne =>
   obtain ⟨w, s1, g1, r1⟩ := S7 h rfl (.inj v hh)
   obtain ⟨u, rfl, g2, r2⟩ := A5m r1 g1 hh.1
   exact ⟨_, (H0 (H0 s1)).trans (.one (.cast1 (.cid g1 (.inl rfl)))), .fail g2 hg hh hne⟩
 | dynG h c hA hB i =>
  intro hE L b
  subst hE
  cases b with
  | cast1 b =>
   obtain ⟨x1, s1, b1⟩ := i rfl _ b
   exact ⟨_, H0 (H0 s1), .cast1 (.cast1 b1)⟩
  | fail _ _ _ _ => exact hA.elim
 | dynU h c hA i =>
  intro hE L b
  subst hE
  cases b with
  | cast1 b =>
   obtain ⟨x1, s1, b1⟩ := i rfl _ b
   exact ⟨_, H0 (H0 (H0 s1)), .cast1 (.cast1 (.cast1 b1))⟩
  | fail _ _ _ _ => exact hA.elim
theorem htx {Γ : GC} {e x : GE} {A : GT} (h : HR Γ e x A) : GP Γ e x A A := by
 induction h with
 | var h => exact .var h Le.refl
 | num => exact .num
 | tru => exact .tru
 | lam _ i => exact .lam Le.refl i
 | app _ _ i j => exact .app i j
 | ar _ _ i j => exact .ar i j
 | ite _ _ _ i j k => exact .ite i j k
 | pair _ _ i j => exact .pair i j
 | part _ i => exact .part i
 | cast _ c i => exact .castB i c c Le.refl
 | idR _ i => exact .castR i Co.refl Le.refl
 | idL _ i => exact .castL i Co.refl Le.refl
 | back ks _ i => exact .castR (B0Y (.castR i .r .any) ks) .l Le.refl
 | backG _ _ i => exact .castR (.castR i Co.gr Le.gr) Co.gr.symm Le.refl
 | dyn _ c i => exact .castB (.castR i .r .any) c .l Le.refl
 | @dynG Γ e x A B l _ c hA hB i =>
  have hg := A5l c (S5 hA) (S5 hB)
  rw [← hg]
  exact .castB (.castR i Co.gr Le.gr) c (by rw [hg]; exact Co.gr.symm) Le.refl
 | dynU _ c _ i => exact .castB (.castR (.castR i Co.gr Le.gr) .r .any) c .l Le.refl
theorem R1 {e x : GE} {A : GT} {T : Ty} (h : HR D6 e x A) (n m : Nat) (hce : K2 e.tm = true) (hT : C5 [] e.tm = some T) (hcx : K2 x.tm = true) :
  (I7 n e.tm).2.1 = 4 ∨ (I7 n e.tm).2.1 = 5 ∨ (I7 m x.tm).2.1 = 4 ∨ (I7 m x.tm).2.1 = 5 ∨
  ((I7 n e.tm).2.1 = 0 ∧ (I7 m x.tm).2.1 = 0 ∧ A1o (I7 n e.tm).1 = A1o (I7 m x.tm).1) ∨
  ((I7 n e.tm).2.1 = 2 ∧ (I7 m x.tm).2.1 = 2 ∧ (I7 n e.tm).2.2.1 = (I7 m x.tm).2.2.1) := by
 have hg := B0E (fun l => l ≠ 0) (fun l h => by omega) n e.tm T hce hT (B0B _ (A12 hce).1)
 rcases hg with ⟨g, _⟩ | ⟨g, _⟩ | ⟨g, _⟩ | ⟨g, _⟩
 ·obtain ⟨w, h1, h2, h3⟩ := B4P n h.left g
  obtain ⟨x1, s1, r1⟩ := B0W h3 h
  obtain ⟨w', s2, g2, r2⟩ := S7 r1 rfl h2
  rcases B4Q (s1.trans s2) g2 m hcx with ⟨k1, k2⟩ | k1 | k1
  ·refine .inr (.inr (.inr (.inr (.inl ⟨g, k1, ?_⟩))))
   rw [h1, k2, B0H h2, B0H g2, B4J (htx r2) rfl h2 g2]
  ·exact .inr (.inr (.inl k1))
  ·exact .inr (.inr (.inr (.inl k1)))
 ·obtain ⟨w, h3, b⟩ := B5F n h.left g
  obtain ⟨x1, s1, r1⟩ := B0W h3 h
  obtain ⟨w', s2, b2⟩ := B5N r1 rfl _ b
  rcases B5G (s1.trans s2) b2 m hcx with ⟨k1, k2, _⟩ | k1 | k1
  ·exact .inr (.inr (.inr (.inr (.inr ⟨g, k1, k2.symm⟩))))
  ·exact .inr (.inr (.inl k1))
  ·exact .inr (.inr (.inr (.inl k1)))
 ·exact .inl g
 ·exact .inr (.inl g)
inductive WT : GC → GE → GT → Prop
 | var {Γ x A} : Γ x = some (A, A) → WT Γ (.var x) A
 | num {Γ n} : WT Γ (.num n) .int
 | tru {Γ b} : WT Γ (.tru b) .bool
 | lam {Γ x A B e} : WT (P4 Γ x A A) e B → WT Γ (.lam x A e) (.fn A B)
 | app {Γ f a A B} : WT Γ f (.fn A B) → WT Γ a A → WT Γ (.app f a) B
 | ar {Γ s a b} : WT Γ a .int → WT Γ b .int → WT Γ (.ar s a b) (if s = true then .bool else .int)
 | ite {Γ c a b A} : WT Γ c .bool → WT Γ a A → WT Γ b A → WT Γ (.ite c a b) A
 | pair {Γ a b A B} : WT Γ a A → WT Γ b B → WT Γ (.pair a b) (.pr A B)
 | part {Γ s e A B} : WT Γ e (.pr A B) → WT Γ (.part s e) (if s = true then B else A)
 | cast {Γ e A B l} : WT Γ e A → Co A B → WT Γ (.cast A B l e) B
theorem B0Z : ∀ (t : Tm) (d : Int) (cx : Cx) (Γ : GC) (T : Ty), K8 40 13 t d = true → CxR cx cx Γ → C5 cx t = some T → ∃ (g : GE) (A : GT), t = g.tm ∧ T = A.ty ∧ WT Γ g A := by
 refine Tm.ind fun k nm num ty fr lb ks ih d cx Γ T hs hcx hT => ?_
 obtain ⟨n1, n2, n3, n4, n5, n6, n7, n8, n9⟩ := B0I hs
 have hk : 1 ≤ k ∧ k ≤ 14 := by
  apply Classical.byContradiction
  intro hk
  rw [A3L hk] at n1; omega
 have S := B0J n9
 by_cases h5 : k = 5
 ·subst h5
  obtain rfl := n4 zV
  obtain ⟨rfl, rfl⟩ := n8 zV
  obtain ⟨x, rfl⟩ := kl1 (l := ks) (by have : F7 5 = 1 := rfl; omega)
  obtain ⟨A, rfl⟩ := A18 ty (n5 (.inl rfl))
  obtain ⟨B, hB, rfl⟩ := A6Z hT
  obtain ⟨g, B', rfl, rfl, hp⟩ := ih x List.mem_cons_self (d + 1) _ _ B (S x List.mem_cons_self) (B5g hcx (Le.refl (a := A)) nm) hB
  exact ⟨.lam nm A g, .fn A B', rfl, rfl, .lam hp⟩
 have I : ∀ t ∈ ks, ∀ T, C5 cx t = some T → ∃ (g : GE) (A : GT), t = g.tm ∧ T = A.ty ∧ WT Γ g A := fun t ht T h => ih t ht (d + 1) cx Γ T (S t ht) hcx h
 by_cases h14 : k = 14
 ·subst h14
  obtain rfl := n4 zV
  obtain rfl := n3 zV
  obtain ⟨x, rfl⟩ := kl1 (l := ks) (by have : F7 14 = 1 := rfl; omega)
  obtain ⟨B, rfl⟩ := A18 ty (n5 (.inr rfl))
  obtain ⟨h1, rfl⟩ := A17 hT
  obtain ⟨g, A, rfl, rfl, hp⟩ := I x List.mem_cons_self _ h1
  have hc : Co A B := by
   have := (n7 rfl).1
   unfold A0F at this
   simp only [Bool.and_eq_true] at this
   exact (B0k A B).1 this.2
  exact ⟨.cast A B lb g, B, rfl, rfl, .cast hp hc⟩
 obtain ⟨rfl, rfl⟩ := n8 h14
 obtain rfl := n6 zW
 by_cases h1 : k = 1
 ·subst h1
  obtain rfl := n4 zV
  obtain rfl : ks = [] := List.length_eq_zero_iff.1 (by have : F7 1 = 0 := rfl; omega)
  obtain ⟨A, A', rfl, h2, h3, h4⟩ := hcx _ _ (A35 hT)
  have h5 := A35 hT
  rw [h2] at h5
  obtain rfl := GT.inj (Option.some.inj h5)
  exact ⟨.var nm, A', rfl, rfl, .var h3⟩
 obtain rfl := n3 zW
 by_cases h2 : k = 2
 ·subst h2
  obtain rfl : ks = [] := List.length_eq_zero_iff.1 (by have : F7 2 = 0 := rfl; omega)
  obtain rfl := B0b hT
  exact ⟨.num num, .int, rfl, rfl, .num⟩
 obtain rfl := n4 h2
 by_cases h34 : k = 3 ∨ k = 4
 ·obtain ⟨b, rfl⟩ : ∃ b : Bool, k = if b = true then 3 else 4 := by rcases h34 with h | h; exact ⟨true, h⟩; exact ⟨false, h⟩
  obtain rfl : ks = [] := List.length_eq_zero_iff.1 (by have : F7 (if b = true then 3 else 4) = 0 := (by cases b <;> rfl); omega)
  obtain rfl := B0c h34 hT
  exact ⟨.tru b, .bool, rfl, rfl, .tru⟩
 by_cases h6 : k = 6
 ·subst h6
  obtain ⟨x, y, rfl⟩ := kl2 (l := ks) (by have : F7 6 = 2 := rfl; omega)
  obtain ⟨A, h1, h2⟩ := A6V hT
  obtain ⟨g, U, rfl, hU, hp⟩ := I x zX _ h1
  obtain ⟨B, C, rfl, rfl, rfl⟩ := B5C hU
  obtain ⟨g2, U, rfl, hU2, hp2⟩ := I y zX _ h2
  obtain rfl := GT.inj hU2
  exact ⟨.app g g2, C, rfl, rfl, .app hp hp2⟩
 by_cases h78 : k = 7 ∨ k = 8
 ·obtain ⟨b, rfl⟩ : ∃ b : Bool, k = if b = true then 8 else 7 := by rcases h78 with h | h; exact ⟨false, h⟩; exact ⟨true, h⟩
  obtain ⟨x, y, rfl⟩ := kl2 (l := ks) (by have : F7 (if b = true then 8 else 7) = 2 := (by cases b <;> rfl); omega)
  obtain ⟨h1, h2, rfl⟩ := A5d h78 hT
  obtain ⟨g, U, rfl, hU, hp⟩ := I x zX _ h1
  obtain rfl : U = .int := GT.inj (b := .int) hU.symm
  obtain ⟨g2, U, rfl, hU2, hp2⟩ := I y zX _ h2
  obtain rfl : U = .int := GT.inj (b := .int) hU2.symm
  exact ⟨.ar b g g2, if b = true then .bool else .int, rfl, by cases b <;> rfl, .ar hp hp2⟩
 by_cases h9 : k = 9
 ·subst h9
  obtain ⟨x, y, z, rfl⟩ := kl3 (l := ks) (by have : F7 9 = 3 := rfl; omega)
  obtain ⟨h1, h2, h3⟩ := A6W hT
  obtain ⟨g, U, rfl, hU, hp⟩ := I x zX _ h1
  obtain rfl : U = .bool := GT.inj (b := .bool) hU.symm
  obtain ⟨g2, U, rfl, rfl, hp2⟩ := I y zX _ h2
  obtain ⟨g3, V, rfl, hV, hp3⟩ := I z zX _ h3
  obtain rfl := GT.inj hV
  exact ⟨.ite g g2 g3, U, rfl, rfl, .ite hp hp2 hp3⟩
 by_cases h10 : k = 10
 ·subst h10
  obtain ⟨x, y, rfl⟩ := kl2 (l := ks) (by have : F7 10 = 2 := rfl; omega)
  obtain ⟨A, B, h1, h2, rfl⟩ := A5e hT
  obtain ⟨g, U, rfl, rfl, hp⟩ := I x zX _ h1
  obtain ⟨g2, V, rfl, rfl, hp2⟩ := I y zX _ h2
  exact ⟨.pair g g2, .pr U V, rfl, rfl, .pair hp hp2⟩
 have h11 : k = 11 ∨ k = 12 := by omega
 obtain ⟨b, rfl⟩ : ∃ b : Bool, k = if b = true then 12 else 11 := by rcases h11 with h | h; exact ⟨false, h⟩; exact ⟨true, h⟩
 obtain ⟨x, rfl⟩ := kl1 (l := ks) (by have : F7 (if b = true then 12 else 11) = 1 := (by cases b <;> rfl); omega)
 obtain ⟨A, B, h1, rfl⟩ := A6X h11 hT
 obtain ⟨g, U, rfl, hU, hp⟩ := I x zX _ h1
 obtain ⟨B', C, rfl, rfl, rfl⟩ := B5D hU
 exact ⟨.part b g, if b = true then C else B', rfl, by cases b <;> rfl, .part hp⟩
def gbk (A B : GT) (l : Int) (a : GE) : GE := if H9 A.ty B.ty = true then a else match a with
 | .cast C D m x => if A.ty.k = 1 ∧ D.ty.k = 1 ∧ H9 B.ty C.ty = true then x else .cast A B l (.cast C D m x)
 | a => .cast A B l a
def GE.simp : GE → GE
 | .var x => .var x
 | .num n => .num n
 | .tru b => .tru b
 | .lam x A e => .lam x A e.simp
 | .app f a => .app f.simp a.simp
 | .ar s a b => .ar s a.simp b.simp
 | .ite c a b => .ite c.simp a.simp b.simp
 | .pair a b => .pair a.simp b.simp
 | .part s e => .part s e.simp
 | .cast A B l e => gbk A B l e.simp
theorem B5O {Γ : GC} {g : GE} {A : GT} (h : WT Γ g A) : HR Γ g.simp g A ∧ ∀ C m x, A = .any → g.simp = .cast C .any m x → ∃ ks m' e0, g = A0L ks (.cast C .any m' e0) ∧ HR Γ x e0 C := by
 induction h with
 | var h => exact ⟨.var h, fun C m x _ h => by cases h⟩
 | num => exact ⟨.num, fun C m x _ h => by cases h⟩
 | tru => exact ⟨.tru, fun C m x _ h => by cases h⟩
 | lam _ i => exact ⟨.lam i.1, fun C m x _ h => by cases h⟩
 | app _ _ i j => exact ⟨.app i.1 j.1, fun C m x _ h => by cases h⟩
 | ar _ _ i j => exact ⟨.ar i.1 j.1, fun C m x _ h => by cases h⟩
 | ite _ _ _ i j k => exact ⟨.ite i.1 j.1 k.1, fun C m x _ h => by cases h⟩
 | pair _ _ i j => exact ⟨.pair i.1 j.1, fun C m x _ h => by cases h⟩
 | part _ i => exact ⟨.part i.1, fun C m x _ h => by cases h⟩
 | @cast Γ e A B l h c i =>
  obtain ⟨i1, i2⟩ := i
  rw [GE.simp]
  unfold gbk
  by_cases hs : H9 A.ty B.ty = true
  ·rw [if_pos hs]
   obtain rfl := GT.inj ((S3 _ _).1 hs)
   refine ⟨.idR i1, fun C m x hA he => ?_⟩
   obtain ⟨ks, m', e0, h1, h2⟩ := i2 C m x hA he
   subst hA
   exact ⟨l :: ks, m', e0, by rw [h1]; rfl, h2⟩
  ·rw [if_neg hs]
   have stay : HR Γ (.cast A B l e.simp) (.cast A B l e) B ∧ ∀ C m x, B = .any → GE.cast A B l e.simp = .cast C .any m x → ∃ ks m' e0, GE.cast A B l e = A0L ks (.cast C .any m' e0) ∧ HR Γ x e0 C := by
    refine ⟨.cast i1 c, fun C m x hB he => ?_⟩
    cases he
    exact ⟨[], l, e, by rw [hB]; rfl, i1⟩
   generalize hes : e.simp = es at i1 i2 stay ⊢
   cases es with
   | cast C D m x =>
    simp only
    by_cases hc : A.ty.k = 1 ∧ D.ty.k = 1 ∧ H9 B.ty C.ty = true
    ·rw [if_pos hc]
     obtain ⟨h1, h2, h3⟩ := hc
     obtain rfl := A0r.1 h1
     obtain rfl := A0r.1 h2
     obtain rfl := GT.inj ((S3 _ _).1 h3)
     obtain ⟨ks, m', e0, h4, h5⟩ := i2 B m x rfl rfl
     refine ⟨by rw [h4]; exact .back ks h5, fun C m x hB he => ?_⟩
     subst hB
     exact absurd ((S3 _ _).2 rfl) hs
    ·rw [if_neg hc]; exact stay
   | _ => exact stay
def GE.dynm : GE → GE
 | .var x => .var x
 | .num n => .num n
 | .tru b => .tru b
 | .lam x A e => .lam x A e.dynm
 | .app f a => .app f.dynm a.dynm
 | .ar s a b => .ar s a.dynm b.dynm
 | .ite c a b => .ite c.dynm a.dynm b.dynm
 | .pair a b => .pair a.dynm b.dynm
 | .part s e => .part s e.dynm
 | .cast A B l e => if A.ty.k = 1 ∨ B.ty.k = 1 then .cast A B l e.dynm else .cast .any B l (.cast A .any l e.dynm)
def O5 (t : Tm) : Tm := if t.k ≠ 14 then t else if H9 t.fr t.ty = true then kd t.ks 0 else if t.fr.k = 1 ∧ (kd t.ks 0).k = 14 ∧ (kd t.ks 0).ty.k = 1 ∧ H9 t.ty (kd t.ks 0).fr = true then kd (kd t.ks 0).ks 0 else t
def B5P (t : Tm) : Tm := if t.k ≠ 14 ∨ t.fr.k = 1 ∨ t.ty.k = 1 then t else Q6 (Q6 (kd t.ks 0) t.fr Q5 t.lb) Q5 t.ty t.lb
theorem B00 : ∀ g : GE, Q0 O5 g.tm = g.simp.tm := by
 have nd : ∀ {k : Int} {nm : ByteArray} {num : Int} {ty fr : Ty} {lb : Int} {ks : List Tm}, k ≠ 14 → O5 (.mk k nm num ty fr lb ks) = .mk k nm num ty fr lb ks := fun h => if_pos h
 intro g
 induction g with
 | var x => rw [GE.tm, Q0, O0, nd zV]; rfl
 | num n => rw [GE.tm, Q0, O0, nd zV]; rfl
 | tru b => rw [GE.tm, Q0, O0, nd (by cases b <;> decide)]; rfl
 | lam x A e i => rw [GE.tm, Q0, O0, O0, nd zV, i]; rfl
 | app f a i j => rw [GE.tm, Q0, O0, O0, O0, nd zV, i, j]; rfl
 | ar s a b i j => rw [GE.tm, Q0, O0, O0, O0, nd (by cases s <;> decide), i, j]; rfl
 | ite c a b i j k => rw [GE.tm, Q0, O0, O0, O0, O0, nd zV, i, j, k]; rfl
 | pair a b i j => rw [GE.tm, Q0, O0, O0, O0, nd zV, i, j]; rfl
 | part s e i => rw [GE.tm, Q0, O0, O0, nd (by cases s <;> decide), i]; rfl
 | cast A B l e i =>
  rw [GE.tm, Q0, O0, O0, i, GE.simp]
  generalize e.simp = es
  unfold O5 gbk
  rw [if_neg (fun h => h rfl)]
  show (if H9 A.ty B.ty = true then es.tm else if A.ty.k = 1 ∧ es.tm.k = 14 ∧ es.tm.ty.k = 1 ∧ H9 B.ty es.tm.fr = true then kd es.tm.ks 0 else Tm.mk 14 _ _ B.ty A.ty l [es.tm]) = _
  by_cases hs : H9 A.ty B.ty = true
  ·rw [if_pos hs, if_pos hs]
  ·rw [if_neg hs, if_neg hs]
   have no : es.tm.k ≠ 14 → (if A.ty.k = 1 ∧ es.tm.k = 14 ∧ es.tm.ty.k = 1 ∧ H9 B.ty es.tm.fr = true then kd es.tm.ks 0 else Tm.mk 14 ⟨#[]⟩ 0 B.ty A.ty l [es.tm]) = (GE.cast A B l es).tm := fun h => by
    rw [if_neg (fun hc => h hc.2.1)]; rfl
   cases es with
   | cast C D m x =>
    show (if A.ty.k = 1 ∧ (14 : Int) = 14 ∧ D.ty.k = 1 ∧ H9 B.ty C.ty = true then x.tm else Tm.mk 14 _ _ B.ty A.ty l [(GE.cast C D m x).tm]) = _
    by_cases hc : A.ty.k = 1 ∧ D.ty.k = 1 ∧ H9 B.ty C.ty = true
    ·rw [if_pos ⟨hc.1, rfl, hc.2⟩]; simp only; rw [if_pos hc]
    ·rw [if_neg (fun h => hc ⟨h.1, h.2.2⟩)]; simp only; rw [if_neg hc]; rfl
   | var x => exact no (by simp [GE.tm, Tm.k])
   | num n => exact no (by simp [GE.tm, Tm.k])
   | tru b => exact no (by cases b <;> simp [GE.tm, Tm.k])
   | lam x A e => exact no (by simp [GE.tm, Tm.k])
   | app f a => exact no (by simp [GE.tm, Tm.k])
   | ar s a b => exact no (by cases s <;> simp [GE.tm, Tm.k])
   | ite c a b => exact no (by simp [GE.tm, Tm.k])
   | pair a b => exact no (by simp [GE.tm, Tm.k])
   | part s e => exact no (by cases s <;> simp [GE.tm, Tm.k])
section
variable {cx : Cx} {k : Int} {nm : ByteArray} {num : Int} {ty fr : Ty} {lb : Int} {a b c a' b' c' : Tm} {T : Ty}
theorem B01 (i : ∀ cx T, C5 cx a = some T → C5 cx a' = some T) (h : C5 cx (.mk k nm num ty fr lb [a]) = some T) : C5 cx (.mk k nm num ty fr lb [a']) = some T := by
 rw [C5] at h ⊢
 split at h
 ·cases h
 ·rename_i us hu
  obtain ⟨x, hx, rfl⟩ := A2G hu
  rw [A34 (i _ _ hx)]
  exact h
theorem A7a (i : ∀ cx T, C5 cx a = some T → C5 cx a' = some T) (j : ∀ cx T, C5 cx b = some T → C5 cx b' = some T) (h : C5 cx (.mk k nm num ty fr lb [a, b]) = some T) : C5 cx (.mk k nm num ty fr lb [a', b']) = some T := by
 rw [C5] at h ⊢
 split at h
 ·cases h
 ·rename_i us hu
  obtain ⟨x, y, hx, hy, rfl⟩ := A1L hu
  rw [A6T (i _ _ hx) (j _ _ hy)]
  exact h
theorem B5Q (i : ∀ cx T, C5 cx a = some T → C5 cx a' = some T) (j : ∀ cx T, C5 cx b = some T → C5 cx b' = some T) (l : ∀ cx T, C5 cx c = some T → C5 cx c' = some T) (h : C5 cx (.mk k nm num ty fr lb [a, b, c]) = some T) : C5 cx (.mk k nm num ty fr lb [a', b', c']) = some T := by
 rw [C5] at h ⊢
 split at h
 ·cases h
 ·rename_i us hu
  obtain ⟨x, y, z, hx, hy, hz, rfl⟩ := A6S hu
  rw [B49 (i _ _ hx) (j _ _ hy) (l _ _ hz)]
  exact h
end
theorem A4a (A B : GT) (l : Int) (a : GE) : (A = B ∧ gbk A B l a = a) ∨ (∃ m x, A = .any ∧ a = .cast B .any m x ∧ gbk A B l a = x) ∨ gbk A B l a = .cast A B l a := by
 unfold gbk
 by_cases hs : H9 A.ty B.ty = true
 ·rw [if_pos hs]; exact .inl ⟨GT.inj ((S3 _ _).1 hs), rfl⟩
 ·rw [if_neg hs]
  cases a with
  | cast C D m x =>
   simp only
   by_cases hc : A.ty.k = 1 ∧ D.ty.k = 1 ∧ H9 B.ty C.ty = true
   ·rw [if_pos hc]
    obtain ⟨h1, h2, h3⟩ := hc
    obtain rfl := A0r.1 h1
    obtain rfl := A0r.1 h2
    obtain rfl := GT.inj ((S3 _ _).1 h3)
    exact .inr (.inl ⟨m, x, rfl, rfl, rfl⟩)
   ·rw [if_neg hc]; exact .inr (.inr rfl)
  | _ => exact .inr (.inr rfl)
theorem B5R : ∀ (g : GE) (cx : Cx) (T : Ty), C5 cx g.tm = some T → C5 cx g.simp.tm = some T := by
 intro g
 induction g with
 | var x => exact fun cx T h => h
 | num n => exact fun cx T h => h
 | tru b => exact fun cx T h => h
 | lam x A e i => exact fun cx T h => B01 i h
 | app f a i j => exact fun cx T h => A7a i j h
 | ar s a b i j => exact fun cx T h => A7a i j h
 | ite c a b i j k => exact fun cx T h => B5Q i j k h
 | pair a b i j => exact fun cx T h => A7a i j h
 | part s e i => exact fun cx T h => B01 i h
 | cast A B l e i =>
  intro cx T h
  obtain ⟨h1, rfl⟩ := A17 h
  have h2 := i cx _ h1
  rw [GE.simp]
  rcases A4a A B l e.simp with ⟨rfl, h3⟩ | ⟨m, x, rfl, h4, h3⟩ | h3
  ·rw [h3]; exact h2
  ·rw [h3]
   rw [h4] at h2
   exact (A17 h2).1
  ·rw [h3]; exact A1M h2
theorem A5n {D N : Int} {k : Int} {nm : ByteArray} {num : Int} {ty fr : Ty} {lb : Int} {ks : List Tm} {d : Int} (h1 : d ≤ D) (h2 : k ≠ N) (h3 : T3 k nm num ty fr lb ks.length = true) (h4 : O1 D N ks (d + 1) = true) : K8 D N (.mk k nm num ty fr lb ks) d = true := by
 rw [K8]
 simp only [Bool.and_eq_true, decide_eq_true_eq]
 exact ⟨⟨⟨h1, h2⟩, h3⟩, h4⟩
section
variable {D N : Int} {k : Int} {nm : ByteArray} {num : Int} {ty fr : Ty} {lb : Int} {a b c a' b' c' : Tm} {d d' : Int}
theorem A7b (i : ∀ d d', d' ≤ d → K8 D N a d = true → K8 D N a' d' = true) (hd : d' ≤ d) (h : K8 D N (.mk k nm num ty fr lb [a]) d = true) : K8 D N (.mk k nm num ty fr lb [a']) d' = true := by
 obtain ⟨h1, h2, h3, h4⟩ := Z5 h
 rw [O1, O1, Bool.and_true] at h4
 exact A5n zW h2 h3 (by rw [O1, O1, Bool.and_true]; exact i _ _ zW h4)
theorem A7c (i : ∀ d d', d' ≤ d → K8 D N a d = true → K8 D N a' d' = true) (j : ∀ d d', d' ≤ d → K8 D N b d = true → K8 D N b' d' = true) (hd : d' ≤ d) (h : K8 D N (.mk k nm num ty fr lb [a, b]) d = true) : K8 D N (.mk k nm num ty fr lb [a', b']) d' = true := by
 obtain ⟨h1, h2, h3, h4⟩ := Z5 h
 rw [O1, O1, O1, Bool.and_true, Bool.and_eq_true] at h4
 exact A5n zW h2 h3 (by rw [O1, O1, O1, Bool.and_true, Bool.and_eq_true]; exact ⟨i _ _ zW h4.1, j _ _ zW h4.2⟩)
theorem B5S (i : ∀ d d', d' ≤ d → K8 D N a d = true → K8 D N a' d' = true) (j : ∀ d d', d' ≤ d → K8 D N b d = true → K8 D N b' d' = true) (l : ∀ d d', d' ≤ d → K8 D N c d = true → K8 D N c' d' = true) (hd : d' ≤ d) (h : K8 D N (.mk k nm num ty fr lb [a, b, c]) d = true) : K8 D N (.mk k nm num ty fr lb [a', b', c']) d' = true := by
 obtain ⟨h1, h2, h3, h4⟩ := Z5 h
 rw [O1, O1, O1, O1, Bool.and_true, Bool.and_eq_true, Bool.and_eq_true] at h4
 exact A5n zW h2 h3 (by rw [O1, O1, O1, O1, Bool.and_true, Bool.and_eq_true, Bool.and_eq_true]; exact ⟨i _ _ zW h4.1, j _ _ zW h4.2.1, l _ _ zW h4.2.2⟩)
theorem A7d (hd : d' ≤ d) (h : K8 D N (.mk k nm num ty fr lb []) d = true) : K8 D N (.mk k nm num ty fr lb []) d' = true := by
 obtain ⟨h1, h2, h3, h4⟩ := Z5 h
 exact A5n zW h2 h3 (by rw [O1])
end
theorem B5T : ∀ (g : GE) (d d' : Int), d' ≤ d → K8 40 13 g.tm d = true → K8 40 13 g.simp.tm d' = true := by
 intro g
 induction g with
 | var x => exact fun d d' hd h => A7d hd h
 | num n => exact fun d d' hd h => A7d hd h
 | tru b => exact fun d d' hd h => A7d hd h
 | lam x A e i => exact fun d d' hd h => A7b i hd h
 | app f a i j => exact fun d d' hd h => A7c i j hd h
 | ar s a b i j => exact fun d d' hd h => A7c i j hd h
 | ite c a b i j k => exact fun d d' hd h => B5S i j k hd h
 | pair a b i j => exact fun d d' hd h => A7c i j hd h
 | part s e i => exact fun d d' hd h => A7b i hd h
 | cast A B l e i =>
  intro d d' hd h
  have h9 := h
  rw [GE.tm] at h9
  obtain ⟨_, _, _, h4⟩ := Z5 h9
  rw [O1, O1, Bool.and_true] at h4
  rw [GE.simp]
  rcases A4a A B l e.simp with ⟨rfl, h3⟩ | ⟨m, x, rfl, h5, h3⟩ | h3
  ·rw [h3]; exact i _ _ zW h4
  ·rw [h3]
   have h6 := i (d + 1) (d' - 1) zW h4
   rw [h5, GE.tm] at h6
   obtain ⟨_, _, _, h7⟩ := Z5 h6
   rw [O1, O1, Bool.and_true, show d' - 1 + 1 = d' by omega] at h7
   exact h7
  ·rw [h3]; exact A7b i hd h
theorem B5U : ∀ (g : GE), F4 g.simp.tm ≤ F4 g.tm := by
 intro g
 induction g with
 | var x => exact Nat.le_refl _
 | num n => exact Nat.le_refl _
 | tru b => exact Nat.le_refl _
 | lam x A e i => simp only [GE.simp, GE.tm, F4, H4]; omega
 | app f a i j => simp only [GE.simp, GE.tm, F4, H4]; omega
 | ar s a b i j => simp only [GE.simp, GE.tm, F4, H4]; omega
 | ite c a b i j k => simp only [GE.simp, GE.tm, F4, H4]; omega
 | pair a b i j => simp only [GE.simp, GE.tm, F4, H4]; omega
 | part s e i => simp only [GE.simp, GE.tm, F4, H4]; omega
 | cast A B l e i =>
  rw [GE.simp]
  rcases A4a A B l e.simp with ⟨rfl, h3⟩ | ⟨m, x, rfl, h5, h3⟩ | h3
  ·rw [h3]; simp only [GE.tm, F4, H4]; omega
  ·rw [h3]; rw [h5] at i; simp only [GE.tm, F4, H4] at i ⊢; omega
  ·rw [h3]; simp only [GE.tm, F4, H4]; omega
def Agr (a b : Tm) (n m : Int) : Prop := (Y3 a n).2.1 = 4 ∨ (Y3 a n).2.1 = 5 ∨ (Y3 b m).2.1 = 4 ∨ (Y3 b m).2.1 = 5 ∨
 ((Y3 a n).2.1 = 0 ∧ (Y3 b m).2.1 = 0 ∧ A1o (Y3 a n).1 = A1o (Y3 b m).1) ∨
 ((Y3 a n).2.1 = 2 ∧ (Y3 b m).2.1 = 2 ∧ (Y3 a n).2.2 = (Y3 b m).2.2)
theorem B5V {e x : GE} {A : GT} {T : Ty} (h : HR D6 e x A) {n m : Int} (hn : 0 ≤ n ∧ n ≤ 300) (hm : 0 ≤ m ∧ m ≤ 300) (hce : K2 e.tm = true) (hT : C5 [] e.tm = some T) (hcx : K2 x.tm = true) : Agr e.tm x.tm n m := by
 unfold Agr Y3
 rw [if_pos hn, if_pos hm]
 exact R1 h n.toNat m.toNat hce hT hcx
def A1q (e : Tm) : Tm × Bool := if K2 e = true then (Q0 O5 e, true) else (K5, false)
theorem B5W {e : Tm} {T : Ty} (hv : K2 e = true) (hT : C5 [] e = some T) : K2 (Q0 O5 e) = true ∧ C5 [] (Q0 O5 e) = some T ∧ Agr (Q0 O5 e) e 200 200 := by
 obtain ⟨hs, hc⟩ := (A1Y e).1 hv
 obtain ⟨g, A, rfl, rfl, hw⟩ := B0Z e 1 [] D6 T hs B0l hT
 rw [B00]
 have h1 := B5R g [] _ hT
 have h2 : K2 g.simp.tm = true := (A1Y _).2 ⟨B5T g 1 1 (Int.le_refl _) hs, by have := B5U g; omega⟩
 exact ⟨h2, h1, B5V (B5O hw).1 zV zV h2 h1 hv⟩
def pAt (t : Tm) (label : Int) (l : List Int) : Bool := match tAt t l with
 | some x => decide (x.k = 14 ∧ x.lb = label)
 | none => false
def A4b (t : Tm) (label : Int) : List Int × Bool := match (B3b t).find? (pAt t label) with
 | some l => (l, true)
 | none => ([], false)
def SP1 (G : IM) (l : List Int) (p : Option Addr) (c : Nat) : Prop := Sl G p l.length c 1 (ints l) ∧ ∀ b ∈ J9 p, G b ≠ none
def CpP (t : Tm) (label : Int) (G : IM) : IM → Value → List A6 → Prop := K1 fun G' v => ∃ p c, v = .tuple ⟨[.slice p (A4b t label).1.length c, .bool (A4b t label).2]⟩ ∧ SP1 (D7 G' G) (A4b t label).1 p c
mutual
def A2K : Tm → List Tm
 | .mk k nm num ty fr lb ks => (if k = 14 then [.mk k nm num ty fr lb ks] else []) ++ A7e ks
def A7e : List Tm → List Tm
 | [] => []
 | t :: ts => A2K t ++ A7e ts
end
def B02 (label : Int) (x : Tm) : Bool := decide (x.lb = label)
def B8L (t : Tm) (label : Int) : Prop := ((A2K t).find? (B02 label) = none → (A4L t []).find? (pAt t label) = none) ∧ (∀ x, (A2K t).find? (B02 label) = some x → ∃ l, (A4L t []).find? (pAt t label) = some l ∧ tAt t l = some x)
def B03 (label : Int) : List Tm → List Ty
 | [] => []
 | c :: cs => (if c.lb = label then [c.fr, c.ty] else []) ++ B03 label cs
def B8M (t : Tm) (label : Int) : List Ty := if K2 t = true then B03 label (A2K t) else []
mutual
def A3i : GT → GT → Bool
 | _, .any => true
 | .fn a b, .fn c d => A2a c a && A3i b d
 | .pr a b, .pr c d => A3i a c && A3i b d
 | .int, .int => true
 | .bool, .bool => true
 | _, _ => false
termination_by a b => SizeOf.sizeOf a + SizeOf.sizeOf b
def A2a : GT → GT → Bool
 | .any, _ => true
 | .fn a b, .any => A3i .any a && A2a b .any
 | .pr a b, .any => A2a a .any && A2a b .any
 | .int, .any => true
 | .bool, .any => true
 | .fn a b, .fn c d => A3i c a && A2a b d
 | .pr a b, .pr c d => A2a a c && A2a b d
 | .int, .int => true
 | .bool, .bool => true
 | _, _ => false
termination_by a b => SizeOf.sizeOf a + SizeOf.sizeOf b
end
def GQ (Q : GT → GT → Int → Prop) : GE → Prop
 | .var _ => True
 | .num _ => True
 | .tru _ => True
 | .lam _ _ e => GQ Q e
 | .app f a => GQ Q f ∧ GQ Q a
 | .ar _ a b => GQ Q a ∧ GQ Q b
 | .ite c a b => GQ Q c ∧ GQ Q a ∧ GQ Q b
 | .pair a b => GQ Q a ∧ GQ Q b
 | .part _ e => GQ Q e
 | .cast A B l e => Q A B l ∧ GQ Q e
structure Clo (Q : GT → GT → Int → Prop) : Prop where
 fn : ∀ {a b c d l}, Q (.fn a b) (.fn c d) l → Q c a (-l) ∧ Q b d l
 pr : ∀ {a b c d l}, Q (.pr a b) (.pr c d) l → Q a c l ∧ Q b d l
 up : ∀ {A l}, A ≠ .any → Q A .any l → Q A.gr .any l ∧ Q A A.gr l
 down : ∀ {B l}, B ≠ .any → Q .any B l → Q B.gr B l ∧ Q .any B.gr l
def QL (m : Int) : GT → GT → Int → Prop := fun A B l => (l = m → A3i A B = true) ∧ (l = -m → A2a A B = true)
mutual
def A3j : Tm → List Ty
 | .mk k _ _ ty _ _ ks => (if k = 5 ∨ k = 13 then [ty] else []) ++ B04 ks
def B04 : List Tm → List Ty
 | [] => []
 | t :: ts => A3j t ++ B04 ts
end
mutual
def A7f : Tm → List Ty → Tm
 | .mk k nm num ty fr lb ks, l => .mk k nm num (if k = 5 ∨ k = 13 then l.getD 0 B4 else ty) fr lb (B05 ks (if k = 5 ∨ k = 13 then l.drop 1 else l))
def B05 : List Tm → List Ty → List Tm
 | [], _ => []
 | t :: ts, l => A7f t l :: B05 ts (l.drop (A3j t).length)
end
def B06 (mask : Nat) : Nat → List Ty → List Ty
 | _, [] => []
 | i, t :: ts => (if (mask / 2 ^ i) % 2 = 1 then .mk 1 [] else t) :: B06 mask (i + 1) ts
def B5X (e : Tm) (mask : Nat) : Tm := A7f e (B06 mask 0 (A3j e))
def B5Y (e : Tm) : List Tm := (List.range (2 ^ (A3j e).length)).map (B5X e)
section cap
variable {P : Program} {Γ : L3} {env : M0} {hp : List A6} {G : IM} {K : Po} {ops : Array Oper} {rest : List Oper}
end cap
def B8N (ts : List Ty) : IM → Value → List A6 → Prop := fun G' v outs => ∃ p c es, v = .slice p ts.length c ∧ outs = [.slc p c 25 2 ts.length es.flatten] ∧ E9 G' ts es
def RtP (u : Tm) (l : List Ty) : IM → Value → List A6 → Prop := fun G' v outs => outs = [] ∧ ∃ cu p c el, v = .tuple ⟨[.agg ⟨cu⟩, .slice p l.length c]⟩ ∧ B6 G' u cu ∧ D0 G' p l.length c 2 el ∧ E9 G' l el
section bits
variable {P : Program} {Γ : L3} {env : M0} {hp : List A6} {G : IM} {ty : TypeId}
end bits
section wr
variable {P : Program} {Γ : L3} {env : M0} {hp : List A6} {G : IM} {ty : TypeId} {K : Po} {ops : Array Oper} {rest : List Oper}
variable {pos : String} {af : Array Edge} {gd : Option (Nat × Bool)}
end wr
theorem A2b : (Ty.mk 1 []).small := by simp [Ty.small, Ty.smallL]
theorem A5o (G : IM) : B8 G (.mk 1 []) [.int .i64 1, .slice none 0 0] := by
 simp only [B8]; exact ⟨none, 0, [], rfl, ⟨by decide, by decide⟩, D0.nil G 2, by simp [E9]⟩
def B8O (e : Tm) : Option (List Tm) := if (B0G e).isSome = true ∧ (A3j e).length ≤ 6 then some (B5Y e) else none
def CfP (r : Option (List Tm)) : IM → Value → List A6 → Prop := fun G' v outs => outs = [] ∧ ∃ p c es, v = .tuple ⟨[.slice p (r.getD []).length c, .bool r.isSome]⟩ ∧ D0 G' p (r.getD []).length c 9 es ∧ H3 G' (r.getD []) es
def MsP (r : Option (List Int)) (e : A6) (G : IM) : IM → Value → List A6 → Prop := fun G' v outs => outs = [e] ∧ ∃ p c, v = .tuple ⟨[.slice p (r.getD []).length c, .bool r.isSome]⟩ ∧ SP1 (D7 G' G) (r.getD []) p c
def IsP (l : List Int) (b : Bool) (G : IM) : IM → Value → List A6 → Prop := K1 fun G' v => ∃ p c, v = .tuple ⟨[.slice p l.length c, .bool b]⟩ ∧ SP1 (D7 G' G) l p c
theorem B6.nine {G : IM} {t : Tm} {cells : List Value} (h : B6 G t cells) : ∃ v1 v2 v3 v4 v5 v6 v7 v8 v9, cells = [v1, v2, v3, v4, v5, v6, v7, v8, v9] := by
 obtain ⟨_, _, _, _, _, _, _, _, _, rfl, _⟩ := h.open
 exact ⟨_, _, _, _, _, _, _, _, _, rfl⟩
theorem A4c {G : IM} {e : Tm} {ce : List Value} {k : Int} {nm : ByteArray} {tk : Int} {tks : List Ty} {q p : Option Addr} {d c : Nat} (hk : E8 k) (ht : B8 G (.mk tk tks) [.int .i64 tk, .slice q tks.length d]) (h1 : B6 G e ce) (hs : Sl G p 1 c 9 ce) :
  B6 G (.mk k nm 0 (.mk tk tks) B4 0 [e]) [.int .i64 k, .string nm, .int .i64 0, .int .i64 tk, .slice q tks.length d, .int .i64 0, .slice none 0 0, .int .i64 0, .slice p 1 c] := by
 obtain ⟨a1, a2⟩ := A2D h1 hs
 exact B6.of9 (ks := [e]) hk ⟨by omega, by omega⟩ ⟨by omega, by omega⟩ ht (J8 _ ⟨by omega, by omega⟩) a1 a2
theorem A4d {G : IM} {e f : Tm} {ce cf : List Value} {k : Int} {nm : ByteArray} {p : Option Addr} {c : Nat} (hk : E8 k) (h1 : B6 G e ce) (h2 : B6 G f cf) (hs : Sl G p 2 c 9 (ce ++ cf)) :
  B6 G (.mk k nm 0 B4 B4 0 [e, f]) [.int .i64 k, .string nm, .int .i64 0, .int .i64 0, .slice none 0 0, .int .i64 0, .slice none 0 0, .int .i64 0, .slice p 2 c] := by
 have hL : H3 G [e, f] [ce, cf] := by simp only [H3]; exact ⟨ce, [cf], rfl, h1, cf, [], rfl, h2, rfl⟩
 exact B6.of9 (ks := [e, f]) hk ⟨by omega, by omega⟩ ⟨by omega, by omega⟩ (J8 _ ⟨by omega, by omega⟩) (J8 _ ⟨by omega, by omega⟩)
  (D0.of (by simpa using hs) rfl hL.all (fun x hx => by obtain ⟨q, hq⟩ := List.getElem?_of_mem hx; exact (hL.inv hq K5).2.one)) hL
theorem B5Z {G : IM} {e f g : Tm} {ce cf cg : List Value} {k : Int} {nm : ByteArray} {p : Option Addr} {c : Nat} (hk : E8 k) (h1 : B6 G e ce) (h2 : B6 G f cf) (h3 : B6 G g cg) (hs : Sl G p 3 c 9 (ce ++ (cf ++ cg))) :
  B6 G (.mk k nm 0 B4 B4 0 [e, f, g]) [.int .i64 k, .string nm, .int .i64 0, .int .i64 0, .slice none 0 0, .int .i64 0, .slice none 0 0, .int .i64 0, .slice p 3 c] := by
 have hL : H3 G [e, f, g] [ce, cf, cg] := by simp only [H3]; exact ⟨ce, [cf, cg], rfl, h1, cf, [cg], rfl, h2, cg, [], rfl, h3, rfl⟩
 exact B6.of9 (ks := [e, f, g]) hk ⟨by omega, by omega⟩ ⟨by omega, by omega⟩ (J8 _ ⟨by omega, by omega⟩) (J8 _ ⟨by omega, by omega⟩)
  (D0.of (by simpa using hs) rfl hL.all (fun x hx => by obtain ⟨q, hq⟩ := List.getElem?_of_mem hx; exact (hL.inv hq K5).2.one)) hL
def mB : Nat → Nat
 | 0 => 200
 | n + 1 => 3 * mB n + 200
theorem A1r (n : Nat) : 200 ≤ mB n := by cases n <;> simp only [mB] <;> omega
def A1s (n : Nat) (depth : Int) (t : Ty) : Prop := P9 4 t ∧ (n : Int) - 1000 ≤ depth ∧ depth ≤ 1000 ∧ ((depth ≤ 1 ∧ P9 n t) ∨ (2 ≤ depth ∧ depth + 3 ≤ n))
theorem A1s.sub {n : Nat} {depth : Int} {t t' : Ty} (h : A1s (n + 1) depth t) (hd : 1 < depth) (h4 : P9 4 t') : A1s n (depth - 1) t' := by
 obtain ⟨h1, h2, h3, h5⟩ := h
 refine ⟨h4, by omega, by omega, ?_⟩
 rcases h5 with ⟨h5, _⟩ | ⟨h5, h6⟩
 ·omega
 ·by_cases h7 : 3 ≤ depth
  ·exact .inr ⟨by omega, by omega⟩
  ·exact .inl ⟨by omega, h4.le zW⟩
theorem A1s.kid {n : Nat} {depth : Int} {k : Int} {ks : List Ty} {t' : Ty} (h : A1s (n + 1) depth (.mk k ks)) (ht : t' ∈ ks) : A1s n (depth - 1) t' := by
 have h4 : P9 4 t' := (A6i h.1 ht).up
 by_cases hd : 1 < depth
 ·exact h.sub hd h4
 ·obtain ⟨h1, h2, h3, h5⟩ := h
  refine ⟨h4, by omega, by omega, .inl ⟨by omega, ?_⟩⟩
  rcases h5 with ⟨_, h5⟩ | ⟨h5, _⟩
  ·exact A6i h5 ht
  ·omega
theorem A1s.pos {n : Nat} {depth : Int} {k : Int} {ks : List Ty} (h : A1s n depth (.mk k ks)) (hd : 1 < depth ∨ k = 4 ∨ k = 5) : ∃ m, n = m + 1 := by
 cases n with
 | succ m => exact ⟨m, rfl⟩
 | zero =>
  obtain ⟨h1, h2, h3, h5⟩ := h
  rcases h5 with ⟨h5, h6⟩ | ⟨h5, h6⟩
  ·have := h6.2
   omega
  ·omega
theorem P5 : B4.small := by simp [B4, Ty.small, Ty.smallL]
theorem N6 {k : Int} {nm : ByteArray} {num : Int} (h : nm.size ≤ 1) : (Tm.mk k nm num B4 B4 0 []).small := by
 simp only [Tm.small, Tm.smallL]; exact ⟨by omega, P5, P5, by simp, trivial⟩
theorem K7 {k : Int} {nm : ByteArray} {num : Int} {ty : Ty} {a : Tm} (h : nm.size ≤ 1) (ht : ty.small) (ha : a.small) : (Tm.mk k nm num ty B4 0 [a]).small := by
 simp only [Tm.small, Tm.smallL]; exact ⟨by omega, ht, P5, by simp, ha, trivial⟩
theorem R4 {k : Int} {nm : ByteArray} {num : Int} {a b : Tm} (h : nm.size ≤ 1) (ha : a.small) (hb : b.small) : (Tm.mk k nm num B4 B4 0 [a, b]).small := by
 simp only [Tm.small, Tm.smallL]; exact ⟨by omega, P5, P5, by simp, ha, hb, trivial⟩
theorem A0u {k : Int} {nm : ByteArray} {num : Int} {a b c : Tm} (h : nm.size ≤ 1) (ha : a.small) (hb : b.small) (hc : c.small) : (Tm.mk k nm num B4 B4 0 [a, b, c]).small := by
 simp only [Tm.small, Tm.smallL]; exact ⟨by omega, P5, P5, by simp, ha, hb, hc, trivial⟩
theorem A0v : (Ty.mk 1 []).small := by simp [Ty.small, Ty.smallL]
def B07 (br : Nat) (pb : Option Addr) (nb cb : Nat) (bs : List UInt8) (n : Nat) : Prop := ∀ (depth : Int) (t : Ty) (p : Nat) (G : IM) (pc : Option Addr) (nc cc : Nat) (cells : List Value), A1s n depth t → (n : Int) - 1000 ≤ depth → depth ≤ 1000 → nc + n ≤ 40 → S4 G pc nc cc → B8 G t cells → Sl G pb nb cb 1 (N5 bs) → p + mB n < 1099511627776 →
 Fn Tryz.prog 143 [.pointer (some ⟨br, 0, none⟩), .slice pc nc cc, .agg ⟨cells⟩, .int .i64 depth] [rd br pb nb cb p] G
  (Y9 br pb nb cb p (mB n) (fun G' v => ∃ e cells, v = .agg ⟨cells⟩ ∧ B6 G' e cells ∧ e.small ∧ F4 e ≤ mB n))
theorem B08 (br : Nat) (pb : Option Addr) (nb cb : Nat) (bs : List UInt8) (hnb : nb ≤ 2000) (m : Nat) (hM : B07 br pb nb cb bs m) (depth : Int) (a t : Ty) (p : Nat) (G : IM) (pc : Option Addr) (nc cc : Nat) (ca cells : List Value)
  (hfu : A1s m depth t) (hd0 : (m : Int) - 1000 ≤ depth) (hd1 : depth ≤ 1000) (hnc : nc + 1 + m ≤ 40) (hx : S4 G pc nc cc) (hra : B8 G a ca) (haa : E5 a ∧ H6 a ≤ 30) (hrt : B8 G t cells) (hb : Sl G pb nb cb 1 (N5 bs)) (hp : p + 1 + mB m < 1099511627776) :
  Fn Tryz.prog 183 [.pointer (some ⟨br, 0, none⟩), .slice pc nc cc, .agg ⟨ca⟩, .agg ⟨cells⟩, .int .i64 depth] [rd br pb nb cb p] G
   (Y9 br pb nb cb p (1 + mB m) (fun G' v => ∃ e cells, v = .agg ⟨cells⟩ ∧ B6 G' e cells ∧ e.small ∧ F4 e ≤ 1 + mB m)) := by
 obtain ⟨ak, aks⟩ := a
 obtain ⟨tk, tks⟩ := t
 obtain ⟨pa, cca, ea, rfl, _⟩ := hra.open
 obtain ⟨pt, cct, et, rfl, _⟩ := hrt.open
 simp only [Ty.k, Ty.ks] at hra hrt ⊢
 refine C7 Tryz.func183 rfl Tryz.ntmps183 Tryz.results183 rfl ?_
 intro w0
 refine A4 ?_
 refine sE (D5 rfl rfl) rfl (fun b3 => ?_)
 refine sE (D5 rfl rfl) rfl (fun b4 => ?_)
 refine sE (A8 rfl) rfl (fun b5 => ?_)
 refine A9 ?_
 (refine J1 (C9 rfl rfl rfl zW zR rfl) rfl ?_; rintro _ ⟨b11, rfl⟩)
 (refine S9 zN (fun G4 hle4 hsl4 _ => ?_); refine I0 rfl (A6m G4 br pb nb cb p bs _ _ _ _ (hb.mono hle4) hnb zW hsl4 zV) (Pk.perm zN) rfl rfl (fun v G5 outs hle5 hh => ?_); obtain ⟨rfl, rfl, hv⟩ := hh; obtain ⟨nm, rfl, hnm⟩ : ∃ nm : ByteArray, v = .string nm ∧ nm.size ≤ 1 := (by simp only [List.mem_cons, List.not_mem_nil, or_false] at hv; rcases hv with rfl | rfl | rfl | rfl <;> exact ⟨_, rfl, by decide⟩); replace hra := hra.mono hle4; replace hx := hx.mono hle4; replace hb := hb.mono hle4; replace hrt := hrt.mono hle4;)
 refine C3 ?_
 refine D2 D3 rfl ?_
 refine H1 (i := 0) (l' := [tt,ff,ff,ff,ff,ff,ff,ff,ff,ff,ff,ff,ff,ff]) rfl C8 (qM rfl) rfl zU rfl rfl ?_
 refine aL 1 rfl (A3 rfl rfl) rfl ?_
 refine aP 3 rfl (qM rfl) rfl ?_
 refine aP 4 rfl (qM rfl) rfl ?_
 refine aP 5 rfl (qM rfl) rfl ?_
 refine aL 6 rfl (A3 rfl rfl) rfl ?_
 refine aL 8 rfl (A3 rfl rfl) rfl ?_
 refine aP 9 rfl (qM rfl) rfl ?_
 refine A1 2 ?_
 (refine E1 rfl rfl (P8 _ _ _ haa.1.small hra) rfl rfl rfl (fun v G6 hle6 hh => ?_); obtain ⟨L7, F1, rfl, hs1, hn1⟩ := hh; obtain ⟨p1, c1, rfl, _⟩ := hs1.open; have hr1 := hs1.R.mono (D7.le G6 _); replace hra := hra.mono hle6; replace hx := hx.mono hle6; replace hb := hb.mono hle6; replace hrt := hrt.mono hle6;)
 refine A1 7 ?_
 (refine E1 rfl rfl (A6x _ pc nc cc nm (.mk ak aks) _ hx zW hra haa.1 haa.2 hnm) rfl rfl rfl (fun v G7 hle7 hh => ?_); obtain ⟨pm, cm, rfl, hxm⟩ := hh; replace hr1 := hr1.mono hle7; replace hx := hx.mono hle7; replace hb := hb.mono hle7; replace hrt := hrt.mono hle7; have hcall := hM depth (.mk tk tks) (p + 1) _ pm (nc + 1) cm _ hfu hd0 hd1 zW hxm hrt hb zW)
 refine A1 10 ?_
 (refine Z2 (l' := [tt,tt,tt,tt,tt,tt,tt,tt,tt,tt,tt,ff,ff,ff]) rfl rfl hcall (Pk.perm zN) rfl rfl rfl zG (fun v G8 outs hle8 hh => ?_); obtain ⟨p8, hp81, hp82, rfl, e8, c8, rfl, hr8, hs8, hc8⟩ := hh; obtain ⟨a1, a2, a3, a4, a5, a6, a7, a8, a9, rfl⟩ := hr8.nine; replace hr1 := hr1.mono hle8)
 refine A1 11 ?_
 (refine D1 rfl (C9 rfl rfl rfl zW zR rfl) rfl rfl ?_; rintro _ ⟨b33, rfl⟩)
 refine aP 12 rfl (N7 rfl rfl) rfl ?_
 refine A1 13 ?_
 refine N9 rfl rfl rfl rfl rfl rfl rfl rfl zS zO (by rfl) ?_
 refine A4 ?_
 (refine F6 (cs := [a1, a2, a3, a4, a5, a6, a7, a8, a9]) zN (fun G9 hle9 hsl9 hno9 => ?_); have hN := A4c (k := 5) (nm := nm) ⟨by omega, by omega⟩ (hr1.mono hle9) (hr8.mono hle9) hsl9)
 refine tT ?_
 refine H7 (outs := [rd br pb nb cb p8]) (rC rfl (A3 rfl rfl)) zH ?_
 (exact ⟨p8, by omega, by omega, rfl, _, _, rfl, hN, K7 hnm haa.1.small hs8, by simp only [F4, H4]; omega⟩)
end Gw
end Go.Proofs.YtmceanphadildaaGreatDoor
