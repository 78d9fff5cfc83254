/-
  The reference's inference: roots, occurrences, bindings.
-/
import Derived.Test.YtbdacdnffkhgeaaGreatDoorKz527
import Derived.Test.YtbdacdnffkhgeaaGreatDoorKz522
import Derived.Test.YtbdacdnffkhgeaaGreatDoorKz524
import Derived.Test.YtbdacdnffkhgeaaGreatDoorKz523
set_option linter.unusedVariables false
set_option linter.unusedSimpArgs false
set_option maxHeartbeats 0
set_option maxRecDepth 100000
set_option synthInstance.maxSize 4000
set_option synthInstance.maxHeartbeats 0
namespace Go.Proofs.YtbdacdnffkhgeaaGreatDoor
open Go Go.RowKit
namespace Gw
def LtP (r : SV) : IM → Value → List A7 → Prop := M5 fun G' v => ∃ cs, v = .agg ⟨cs⟩ ∧ Q6 G' r cs
theorem D6.lt {G : IM} {p : Option Addr} {n c : Nat} {es : List (List Value)} {ss : List SV} (h : D6 G p n c 3 es) (hr : P5 G ss es) {i : Nat} {s : SV} (hi : ss[i]? = some s) (hn : i < n) :
  ∃ b o e, p = some ⟨b, o, none⟩ ∧ e.length = 3 ∧ (∀ hp, At hp G b (o + i * 3) e) ∧ Q6 G s e ∧ G b ≠ none := by
 obtain ⟨e, b, o, he, h1, h2, h3, h4, h5⟩ := h.get hn
 obtain ⟨e', he', hr'⟩ := hr.get hi
 rw [he] at he'; cases he'
 exact ⟨b, o, e, h1, h2, h4, hr', h5⟩
theorem HdN.cs {B : BV} {k : Nat} {u r : SV} (h : HdN B k u r) : (∃ n, u = .v n ∧ B n = none ∧ r = .v n ∧ k = 0) ∨ (∃ n s k', u = .v n ∧ B n = some s ∧ k = k' + 1 ∧ HdN B k' s r) ∨ (u.nv = true ∧ r = u ∧ k = 0) := by
 cases h with
 | free h => exact .inl ⟨_, rfl, h, rfl, rfl⟩
 | link h1 h2 => exact .inr (.inl ⟨_, _, _, rfl, h1, rfl, h2⟩)
 | nv h => exact .inr (.inr ⟨h, rfl, rfl⟩)
theorem Q6.kn {G : IM} {s : SV} {cs : List Value} (h : Q6 G s cs) : ∃ K N p n c, cs = [.int .i64 K, .int .i64 N, .slice p n c] ∧ K = s.kd ∧ ∀ m, s = .v m → N = m := by
 obtain ⟨N, p, n, c, h1, h2⟩ := h.op
 refine ⟨_, N, p, n, c, h1, rfl, fun m hm => ?_⟩
 rcases h2 with ⟨m', h3, h4, _⟩ | ⟨d, h3, _⟩ | ⟨d, x, y, ex, ez, h3, _⟩
 ·rw [hm] at h3; cases h3; exact h4
 ·rw [hm] at h3; cases h3
 ·rw [hm] at h3; cases h3
theorem B1I {s : SV} {n : Nat} {K N : Int} (hK : K = s.kd) (hN : ∀ m, s = .v m → N = m) (hs : s ≠ .v n) : K ≠ 0 ∨ N ≠ (n : Int) := by
 cases s with
 | v m =>
  refine .inr fun h => hs ?_
  have := hN m rfl
  have : m = n := by omega
  rw [this]
 | b c => exact .inl (by rw [hK]; exact A1d rfl)
 | t c x y => exact .inl (by rw [hK]; exact A1d rfl)
theorem Y0 (S : IS) (hW : WB S.B S.c) (t r : SV) (G : IM) (sc tc : List Value) (hd : Hd S.B t r) (ht : t.lt S.c) (hs : R1 G S sc) (hr : Q6 G t tc) :
  Fn Tryz.prog 55 [.agg ⟨sc⟩, .agg ⟨tc⟩] [] G (LtP r) := by
 obtain ⟨k0, hk0⟩ := hd.n
 obtain ⟨pb, cb, eb, pl, cl, el, rfl, hsb, hrb, hsl, hrl⟩ := hs
 obtain ⟨rk, hrk⟩ := hW.rk
 have hl3 := hr.len
 refine C0 Tryz.func55 rfl Tryz.ntmps55 Tryz.results55 rfl ?_
 intro w0
 refine A4 ?_
 refine sE (B5 rfl rfl) rfl (fun b3 => ?_)
 refine sE (B5 rfl rfl) rfl (fun b4 => ?_)
 refine sE (A6 rfl) rfl (fun b5 => ?_)
 refine C1 ?_
 refine C2 ?_
 (refine L4 (fun (x : Nat × SV × List Value) => ⟨[(4, .pointer (some ⟨b5, 0, none⟩)), (3, .pointer (some ⟨b4, 0, none⟩)), (2, .pointer (some ⟨b3, 0, none⟩))], [.blk b5 [.int .i64 0, .int .i64 0, .slice none 0 0], .blk b4 x.2.2, .blk b3 [.slice pb S.c cb, .slice pl S.L.length cl]], G⟩) (fun x => HdN S.B x.1 x.2.1 r ∧ Q6 G x.2.1 x.2.2 ∧ x.2.1.lt S.c) (fun x => x.1) (k0, t, tc) ?_ ?_ ?_)
 (simp only [I6]; exact F9)
 (exact ⟨hk0, hr, ht⟩)
 (rintro ⟨(k : Nat), u, cu⟩ ⟨hk, hru, hut⟩; simp only [] at hk hru hut ⊢; rcases hk.cs with ⟨n, rfl, hB, hrr, rfl⟩ | ⟨n, s, k', rfl, hB, rfl, hk'⟩ | ⟨hnv, hrr, rfl⟩ <;> first | (have hnc : n < S.c := hut n rfl; obtain rfl := (show _ = _ from hru); have hbg := A7V (B := S.B) hnc; rw [hB] at hbg; obtain ⟨bb, bo, e, rfl, hle, hat, hre, hgb⟩ := hsb.lt hrb hbg hnc; obtain ⟨K, N, p, n2, c2, rfl, hK, hN⟩ := hre.kn; first | (have hKa : K = 0 := hK; have hNa : N = (n : Int) := hN n rfl) | have hKN := B1I (n := n) hK hN (hk'.ne hB)) | (obtain ⟨K, N, p, n2, c2, rfl, hK, hN⟩ := hru.kn; have hK0 := A1d hnv; rw [← hK] at hK0))
 refine A4 ?_
 refine D3 D4 rfl ?_
 refine I9 (i := 0) (l' := [tt,ff,ff,ff,ff,ff,ff,ff,ff,ff,ff,ff,ff,ff,ff,ff,ff,ff,ff,ff,ff,ff,ff,ff,ff]) rfl C8 (C3 rfl) rfl zX rfl rfl ?_
 refine aL 1 rfl (E9 rfl rfl) rfl ?_
 refine aP 2 rfl (N6 rfl rfl zZ) rfl ?_
 refine aP 3 rfl (qM rfl) rfl ?_
 refine aP 4 rfl (C3 rfl) rfl ?_
 refine aL 5 rfl (E9 rfl rfl) rfl ?_
 refine aP 6 rfl (C3 rfl) rfl ?_
 refine aL 7 rfl (E9 rfl rfl) rfl ?_
 refine aP 8 rfl (B6 (j := n) rfl rfl rfl zZ) rfl ?_
 refine aP 9 rfl (qF rfl) rfl ?_
 refine aL 10 rfl (I2 rfl rfl ((hat _).sub (j := 0) rfl)) rfl ?_
 refine aP 11 rfl (A2J rfl rfl zZ) rfl ?_
 refine aP 12 rfl (qM rfl) rfl ?_
 refine aP 13 rfl (C3 rfl) rfl ?_
 refine aL 14 rfl (E9 rfl rfl) rfl ?_
 refine aP 15 rfl (C3 rfl) rfl ?_
 refine aL 16 rfl (E9 rfl rfl) rfl ?_
 refine aP 17 rfl (B6 (j := n) rfl rfl rfl zZ) rfl ?_
 refine aP 18 rfl (qF rfl) rfl ?_
 refine aL 19 rfl (I2 rfl rfl ((hat _).sub (j := 1) rfl)) rfl ?_
 refine aP 20 rfl (C3 rfl) rfl ?_
 refine aL 21 rfl (E9 rfl rfl) rfl ?_
 refine aP 22 rfl (A2J rfl rfl zZ) rfl ?_
 refine aP 23 rfl (T1 rfl rfl) rfl ?_
 refine aP 24 rfl (R3 rfl rfl) rfl ?_
 refine I5 ?_
 refine O7 (rC rfl (A3 rfl rfl)) ?_
 (rw [hrr]; exact ⟨rfl, _, rfl, hru⟩)
 refine A4 ?_
 refine D3 D4 rfl ?_
 refine I9 (i := 0) (l' := [tt,ff,ff,ff,ff,ff,ff,ff,ff,ff,ff,ff,ff,ff,ff,ff,ff,ff,ff,ff,ff,ff,ff,ff,ff]) rfl C8 (C3 rfl) rfl zX rfl rfl ?_
 refine aL 1 rfl (E9 rfl rfl) rfl ?_
 refine aP 2 rfl (N6 rfl rfl zZ) rfl ?_
 refine aP 3 rfl (qM rfl) rfl ?_
 refine aP 4 rfl (C3 rfl) rfl ?_
 refine aL 5 rfl (E9 rfl rfl) rfl ?_
 refine aP 6 rfl (C3 rfl) rfl ?_
 refine aL 7 rfl (E9 rfl rfl) rfl ?_
 refine aP 8 rfl (B6 (j := n) rfl rfl rfl zZ) rfl ?_
 refine aP 9 rfl (qF rfl) rfl ?_
 refine aL 10 rfl (I2 rfl rfl ((hat _).sub (j := 0) rfl)) rfl ?_
 refine A2r (i := 11) (l' := [tt,tt,tt,tt,tt,tt,tt,tt,tt,tt,tt,tt,ff,ff,ff,ff,ff,ff,ff,ff,ff,ff,ff,ff,ff]) rfl C8 (V0 rfl rfl) rfl zX rfl rfl (fun h73 => ?_) (fun h73 => ?_)
 refine aP 12 rfl (qM rfl) rfl ?_
 refine D5 13 rfl rfl rfl ?_
 refine D5 14 rfl rfl rfl ?_
 refine D5 15 rfl rfl rfl ?_
 refine D5 16 rfl rfl rfl ?_
 refine D5 17 rfl rfl rfl ?_
 refine D5 18 rfl rfl rfl ?_
 refine D5 19 rfl rfl rfl ?_
 refine D5 20 rfl rfl rfl ?_
 refine D5 21 rfl rfl rfl ?_
 refine D5 22 rfl rfl rfl ?_
 refine aP 23 rfl (R3 rfl rfl) rfl ?_
 refine aP 24 rfl (R3 rfl rfl) rfl ?_
 refine A8 ?_
 refine C2 ?_
 refine A8 ?_
 refine sP (B6 (j := n) rfl rfl rfl zZ) rfl rfl ?_
 refine sL (A5 rfl rfl (hat _) rfl) rfl rfl ?_
 refine C1 ?_
 (refine J6 (k', s, [.int .i64 K, .int .i64 N, .slice p n2 c2]) ?_ ?_ ?_)
 (simp only [I6]; exact F9)
 (exact ⟨hk', hre, fun m hm => (hrk n s hB m hm).2⟩)
 (show k' < k' + 1; omega)
 refine aP 12 rfl (qM rfl) rfl ?_
 refine aP 13 rfl (C3 rfl) rfl ?_
 refine aL 14 rfl (E9 rfl rfl) rfl ?_
 refine aP 15 rfl (C3 rfl) rfl ?_
 refine aL 16 rfl (E9 rfl rfl) rfl ?_
 refine aP 17 rfl (B6 (j := n) rfl rfl rfl zZ) rfl ?_
 refine aP 18 rfl (qF rfl) rfl ?_
 refine aL 19 rfl (I2 rfl rfl ((hat _).sub (j := 1) rfl)) rfl ?_
 refine aP 20 rfl (C3 rfl) rfl ?_
 refine aL 21 rfl (E9 rfl rfl) rfl ?_
 refine aP 22 rfl (A0U rfl rfl zZ) rfl ?_
 refine aP 23 rfl (T1 rfl rfl) rfl ?_
 refine aP 24 rfl (R3 rfl rfl) rfl ?_
 refine A8 ?_
 refine C2 ?_
 refine A8 ?_
 refine sP (B6 (j := n) rfl rfl rfl zZ) rfl rfl ?_
 refine sL (A5 rfl rfl (hat _) rfl) rfl rfl ?_
 refine C1 ?_
 (refine J6 (k', s, [.int .i64 K, .int .i64 N, .slice p n2 c2]) ?_ ?_ ?_)
 (simp only [I6]; exact F9)
 (exact ⟨hk', hre, fun m hm => (hrk n s hB m hm).2⟩)
 (show k' < k' + 1; omega)
 refine A4 ?_
 refine D3 D4 rfl ?_
 refine I9 (i := 0) (l' := [tt,ff,ff,ff,ff,ff,ff,ff,ff,ff,ff,ff,ff,ff,ff,ff,ff,ff,ff,ff,ff,ff,ff,ff,ff]) rfl C8 (C3 rfl) rfl zX rfl rfl ?_
 refine aL 1 rfl (E9 rfl rfl) rfl ?_
 refine aP 2 rfl (D0 rfl rfl zZ) rfl ?_
 refine aP 3 rfl (qM rfl) rfl ?_
 refine D5 4 rfl rfl rfl ?_
 refine D5 5 rfl rfl rfl ?_
 refine D5 6 rfl rfl rfl ?_
 refine D5 7 rfl rfl rfl ?_
 refine D5 8 rfl rfl rfl ?_
 refine D5 9 rfl rfl rfl ?_
 refine D5 10 rfl rfl rfl ?_
 refine D5 11 rfl rfl rfl ?_
 refine D5 12 rfl rfl rfl ?_
 refine D5 13 rfl rfl rfl ?_
 refine D5 14 rfl rfl rfl ?_
 refine D5 15 rfl rfl rfl ?_
 refine D5 16 rfl rfl rfl ?_
 refine D5 17 rfl rfl rfl ?_
 refine D5 18 rfl rfl rfl ?_
 refine D5 19 rfl rfl rfl ?_
 refine D5 20 rfl rfl rfl ?_
 refine D5 21 rfl rfl rfl ?_
 refine D5 22 rfl rfl rfl ?_
 refine D5 23 rfl rfl rfl ?_
 refine aP 24 rfl (T1 rfl rfl) rfl ?_
 refine I5 ?_
 refine O7 (rC rfl (A3 rfl rfl)) ?_
 (rw [hrr]; exact ⟨rfl, _, rfl, hru⟩)
theorem Q6.two {G : IM} {d : Bool} {x y : SV} {cs : List Value} (h : Q6 G (.t d x y) cs) : ∃ b o c ex ez, cs = [.int .i64 (if d = true then 5 else 4), .int .i64 0, .slice (some ⟨b, o, none⟩) 2 c] ∧ ex.length = 3 ∧ ez.length = 3 ∧
  (∀ hp, At hp G b (o + 0 * 3) ex) ∧ (∀ hp, At hp G b (o + 1 * 3) ez) ∧ Q6 G x ex ∧ Q6 G y ez ∧ G b ≠ none := by
 obtain ⟨p, cp, ex, ez, rfl, h2, h3, h4, h5⟩ := h
 obtain ⟨hl, hc, hm, h⟩ := h2
 obtain ⟨b, o, full, rfl, hg, hv⟩ := h.resolve_left zZ
 refine ⟨b, o, cp, ex, ez, rfl, h3, h5.len, fun hp => A2I hg fun j v hj => ?_, fun hp => A2I hg fun j v hj => ?_, h4, h5, by rw [hg]; simp⟩
 ·have hj3 : j < ex.length := (List.getElem?_eq_some_iff.1 hj).1
  rw [Nat.zero_mul, Nat.add_zero]
  exact hv j v (by rw [List.getElem?_append_left hj3]; exact hj)
 ·have := hv (3 + j) v (by rw [List.getElem?_append_right zZ, h3, Nat.add_sub_cancel_left]; exact hj)
  rw [Nat.one_mul, Nat.add_assoc]; exact this
theorem At.im {G G' : IM} {b o : Nat} {vs : List Value} (hle : B9 G G') (hb : G b ≠ none) (h : ∀ hp, At hp G b o vs) (hp : List A7) : At hp G' b o vs := by
 rcases h [] with ⟨cs, h1, _⟩ | ⟨n, c, el, sz, cs, h1, _⟩ | ⟨full, h1, h2⟩
 ·cases h1
 ·cases h1
 ·exact A2I (hle _ _ h1) h2
theorem B7r (S : IS) (hW : WB S.B S.c) (n : Nat) (sc : List Value) : ∀ (r t : SV) (G : IM) (tc : List Value), Q8 S.B t r → t.lt S.c → R1 G S sc → Q6 G t tc →
  Fn Tryz.prog 140 [.agg ⟨sc⟩, .int .i64 (n : Int), .agg ⟨tc⟩] [] G (M5 fun _ v => v = .bool (occ n r)) := by
 intro r
 induction r with
 | v m =>
  intro t G tc hd ht hs hr
  obtain ⟨h, hh, rfl, hB⟩ := hd.hd
  have hF := Y0 S hW t _ G sc tc hh ht hs hr
  obtain ⟨pb, cb, eb, pl, cl, el, rfl, _⟩ := hs
  have hl3 := hr.len
  have ho3 := hr.one
  refine C0 Tryz.func140 rfl Tryz.ntmps140 Tryz.results140 rfl ?_
  intro w0
  refine A4 ?_
  refine sE (B5 rfl rfl) rfl (fun b3 => ?_)
  refine sE (B5 rfl rfl) rfl (fun b4 => ?_)
  refine A9 ?_
  refine sL (A5 rfl rfl (B7 zS) hl3) rfl rfl ?_
  (refine F4 rfl hF rfl rfl (fun v G1 hle1 hh => ?_); obtain ⟨hc, rfl, hrh⟩ := hh; obtain rfl := (show _ = _ from hrh))
  refine Q3 rfl rfl rfl rfl rfl rfl zR (by exact C7 (by rw [hl3]; rfl)) ?_
  refine B0 ?_
  refine sP (N6 rfl rfl zZ) rfl rfl ?_
  refine E4 ?_
  refine sB (qE rfl rfl) rfl rfl (fun h30 => ?_) (fun h30 => ?_)
  refine A9 ?_
  (exact ⟨rfl, by rw [occ]; first | rw [decide_eq_true zZ] | rw [decide_eq_false zZ]⟩)
  refine A9 ?_
  (exact ⟨rfl, by rw [occ]; first | rw [decide_eq_true zZ] | rw [decide_eq_false zZ]⟩)
 | b d =>
  intro t G tc hd ht hs hr
  obtain ⟨h, hh, rfl⟩ := hd.hd
  have hF := Y0 S hW t _ G sc tc hh ht hs hr
  obtain ⟨pb, cb, eb, pl, cl, el, rfl, _⟩ := hs
  have hl3 := hr.len
  have ho3 := hr.one
  obtain ⟨K, hK⟩ : ∃ K, (SV.b d).kd = K := ⟨_, rfl⟩
  have hK0 := A1d (s := .b d) rfl
  rw [hK] at hK0
  refine C0 Tryz.func140 rfl Tryz.ntmps140 Tryz.results140 rfl ?_
  intro w0
  refine A4 ?_
  refine sE (B5 rfl rfl) rfl (fun b3 => ?_)
  refine sE (B5 rfl rfl) rfl (fun b4 => ?_)
  refine A9 ?_
  refine sL (A5 rfl rfl (B7 zS) hl3) rfl rfl ?_
  (refine F4 rfl hF rfl rfl (fun v G1 hle1 hh => ?_); obtain ⟨hc, rfl, hrh⟩ := hh; obtain rfl := (show _ = _ from hrh); rw [hK])
  refine Q3 rfl rfl rfl rfl rfl rfl zR (by exact C7 (by rw [hl3]; rfl)) ?_
  refine B0 ?_
  refine sP (D0 rfl rfl zZ) rfl rfl ?_
  refine M3 ?_
  refine C2 ?_
  refine L4 (fun (_ : Unit) => ⟨[(7, .int .i64 0), (5, .pointer (some ⟨b4, 0, none⟩))], [.blk b4 [.int .i64 K, .int .i64 0, .slice none 0 0]], G1⟩) (fun _ => True) (fun _ => 0) () ?_ ?_ ?_
  ·exact F9
  ·trivial
  ·(rintro _ _)
   refine B0 ?_
   refine sP (A1J rfl rfl zZ) rfl rfl ?_
   refine I5 ?_
   trivial
 | t d p q ihp ihq =>
  intro t G tc hd ht hs hr
  obtain ⟨h, hh, x, y, rfl, hx, hy⟩ := hd.hd
  have hF := Y0 S hW t _ G sc tc hh ht hs hr
  have hlt := hh.lt hW ht
  have hs0 := hs
  obtain ⟨pb, cb, eb, pl, cl, el, rfl, _⟩ := hs
  have hl3 := hr.len
  have ho3 := hr.one
  obtain ⟨K, hK⟩ : ∃ K : Int, (if d = true then 5 else 4) = K := ⟨_, rfl⟩
  have hK0 : K ≠ 0 := by rw [← hK]; cases d <;> decide
  obtain ⟨o1, ho1⟩ : ∃ o, occ n p = o := ⟨_, rfl⟩
  obtain ⟨o2, ho2⟩ : ∃ o, occ n q = o := ⟨_, rfl⟩
  refine C0 Tryz.func140 rfl Tryz.ntmps140 Tryz.results140 rfl ?_
  intro w0
  refine A4 ?_
  refine sE (B5 rfl rfl) rfl (fun b3 => ?_)
  refine sE (B5 rfl rfl) rfl (fun b4 => ?_)
  refine A9 ?_
  refine sL (A5 rfl rfl (B7 zS) hl3) rfl rfl ?_
  (refine F4 rfl hF rfl rfl (fun v G1 hle1 hh => ?_); obtain ⟨hc, rfl, hrh⟩ := hh; obtain ⟨bb, bo, bc, ex, ez, rfl, hlx, hlz, hatx, hatz, hrx, hrz, hgb⟩ := hrh.two; rw [hK]; have hs1 := hs0.mono hle1; have h1 := ihp x G1 ex hx (fun m hm => hlt m (.inl hm)) hs1 hrx; rw [ho1] at h1)
  refine Q3 rfl rfl rfl rfl rfl rfl zR (by exact C7 (by rw [hl3]; rfl)) ?_
  refine B0 ?_
  refine sP (D0 rfl rfl zZ) rfl rfl ?_
  refine M3 ?_
  refine C2 (L4 (fun (x : Nat × IM) => ⟨[(7, .int .i64 (x.1 : Int)), (5, .pointer (some ⟨b4, 0, none⟩)), (3, .pointer (some ⟨b3, 0, none⟩)), (1, .int .i64 (n : Int))], [.blk b4 [.int .i64 K, .int .i64 0, .slice (some ⟨bb, bo, none⟩) 2 bc], .blk b3 [.slice pb S.c cb, .slice pl S.L.length cl]], x.2⟩) (fun x => x.1 ≤ 2 ∧ B9 G1 x.2 ∧ (1 ≤ x.1 → o1 = false) ∧ (2 ≤ x.1 → o2 = false)) (fun x => 2 - x.1) (0, G1) ?_ ?_ ?_)
  (simp only [I6]; exact F9)
  (exact ⟨by dsimp only; omega, B9.refl _, fun h => absurd h (by dsimp only; omega), fun h => absurd h (by dsimp only; omega)⟩)
  (rintro ⟨(i : Nat), Gi⟩ ⟨hi, hle, hi1, hi2⟩; simp only [] at hi hle hi1 hi2 ⊢; have h1i := ihp x Gi ex hx (fun m hm => hlt m (.inl hm)) (hs1.mono hle) (hrx.mono hle); have h2i := ihq y Gi ez hy (fun m hm => hlt m (.inr hm)) (hs1.mono hle) (hrz.mono hle); rw [ho1] at h1i; rw [ho2] at h2i; have hatxi := At.im hle hgb hatx; have hatzi := At.im hle hgb hatz; have hc3 : i = 0 ∨ i = 1 ∨ i = 2 := zZ; rcases hc3 with rfl | rfl | rfl)
  refine B0 ?_
  refine sP (A1Z rfl rfl zZ) rfl rfl ?_
  refine A9 ?_
  refine C2 ?_
  refine tS ?_
  refine D3 D4 rfl ?_
  refine I7 (i := 0) (l' := [tt,ff,ff,ff,ff,ff,ff,ff]) rfl C8 (A3 rfl rfl) rfl zX rfl rfl ?_
  refine aP 1 rfl (qM rfl) rfl ?_
  refine aP 2 rfl (C3 rfl) rfl ?_
  refine aL 3 rfl (E9 rfl rfl) rfl ?_
  refine aP 4 rfl (qM rfl) rfl ?_
  refine aP 5 rfl (B6 (j := 0) rfl rfl rfl zZ) rfl ?_
  refine aL 6 rfl (A5 rfl rfl (hatxi _) hlx) rfl ?_
  refine A2 7 ?_
  (refine H0 rfl rfl h1i rfl rfl rfl (fun v G2 hle2 hh => ?_); subst hh; cases o1)
  refine E4 ?_
  refine sP (J9 rfl rfl zZ zZ) rfl rfl ?_
  refine A4 ?_
  refine J6 (1, G2) (I1 zO zJ) ?_ ?_
  (exact ⟨by dsimp only; omega, hle.trans hle2, fun _ => rfl, fun h => absurd h (by dsimp only; omega)⟩)
  (show 2 - 1 < 2 - 0; omega)
  refine I5 ?_
  (exact ⟨rfl, by rw [occ, ho1, ho2]; first | rfl | rw [hi1 zZ, hi2 zZ]; rfl | rw [hi1 zZ]; rfl⟩)
  refine B0 ?_
  refine sP (A1Z rfl rfl zZ) rfl rfl ?_
  refine A9 ?_
  refine C2 ?_
  refine tS ?_
  refine D3 D4 rfl ?_
  refine I7 (i := 0) (l' := [tt,ff,ff,ff,ff,ff,ff,ff]) rfl C8 (A3 rfl rfl) rfl zX rfl rfl ?_
  refine aP 1 rfl (qM rfl) rfl ?_
  refine aP 2 rfl (C3 rfl) rfl ?_
  refine aL 3 rfl (E9 rfl rfl) rfl ?_
  refine aP 4 rfl (qM rfl) rfl ?_
  refine aP 5 rfl (B6 (j := 1) rfl rfl rfl zZ) rfl ?_
  refine aL 6 rfl (A5 rfl rfl (hatzi _) hlz) rfl ?_
  refine A2 7 ?_
  (refine H0 rfl rfl h2i rfl rfl rfl (fun v G2 hle2 hh => ?_); subst hh; cases o2)
  refine E4 ?_
  refine sP (J9 rfl rfl zZ zZ) rfl rfl ?_
  refine A4 ?_
  refine J6 (2, G2) (I1 zO zJ) ?_ ?_
  (exact ⟨by dsimp only; omega, hle.trans hle2, fun _ => hi1 zZ, fun _ => rfl⟩)
  (show 2 - 2 < 2 - 1; omega)
  refine I5 ?_
  (exact ⟨rfl, by rw [occ, ho1, ho2]; first | rfl | rw [hi1 zZ, hi2 zZ]; rfl | rw [hi1 zZ]; rfl⟩)
  refine B0 ?_
  refine sP (A1J rfl rfl zZ) rfl rfl ?_
  refine I5 ?_
  (exact ⟨rfl, by rw [occ, ho1, ho2]; first | rfl | rw [hi1 zZ, hi2 zZ]; rfl | rw [hi1 zZ]; rfl⟩)
def StP (S : IS) (ok : Bool) : IM → Value → List A7 → Prop := M5 fun G' v => ∃ sc, v = .tuple ⟨[.agg ⟨sc⟩, .bool ok]⟩ ∧ R1 G' S sc
theorem R1.two {G : IM} {S : IS} {sc : List Value} (h : R1 G S sc) : ∃ p n c q m d, sc = [.slice p n c, .slice q m d] := by
 obtain ⟨pb, cb, eb, pl, cl, el, rfl, _⟩ := h
 exact ⟨_, _, _, _, _, _, rfl⟩
theorem A4V (S : IS) (hW : WB S.B S.c) (hc : S.c ≤ 1000000) (n : Nat) (t r : SV) (G : IM) (sc tc : List Value) (hn : n < S.c) (hd : Q8 S.B t r) (ht : t.lt S.c) (hs : R1 G S sc) (hr : Q6 G t tc) :
  (t = .v n → Fn Tryz.prog 122 [.agg ⟨sc⟩, .int .i64 (n : Int), .agg ⟨tc⟩] [] G (StP S true)) ∧
  (t ≠ .v n → Fn Tryz.prog 122 [.agg ⟨sc⟩, .int .i64 (n : Int), .agg ⟨tc⟩] [] G (StP (if occ n r = true then S else ⟨A0N S.B n t, S.c, S.L⟩) (!occ n r))) := by
 have hO := B7r S hW n sc r t G tc hd ht hs hr
 have hl3 := hr.len
 have ho3 := hr.one
 have hs0 := hs
 obtain ⟨K, N, p, nn, cc, rfl, hK, hN⟩ := hr.kn
 obtain ⟨pb, cb, eb, pl, cl, el, rfl, hsb, hrb, hsl, hrl⟩ := hs
 constructor
 ·intro he
  have hK0 : K = 0 := by rw [hK, he]; rfl
  have hN0 := hN n he
  refine C0 Tryz.func122 rfl Tryz.ntmps122 Tryz.results122 rfl ?_
  intro w0
  refine A4 ?_
  refine sE (B5 rfl rfl) rfl (fun b3 => ?_)
  refine sE (B5 rfl rfl) rfl (fun b4 => ?_)
  refine sE (A6 rfl) rfl (fun b5 => ?_)
  refine E4 ?_
  refine sP (N6 rfl rfl zZ) rfl rfl ?_
  refine B4 ?_
  refine sP (N6 rfl rfl zZ) rfl rfl ?_
  refine O5 ?_
  refine H2 (rC rfl (A3 rfl rfl)) (rT rfl) ?_
  (exact ⟨rfl, _, rfl, hs0⟩)
 ·intro hne
  have hKN := B1I hK hN hne
  obtain ⟨o, ho⟩ : ∃ o, occ n r = o := ⟨_, rfl⟩
  rw [ho] at hO
  have hebl := hrb.len
  rw [A3y] at hebl
  refine C0 Tryz.func122 rfl Tryz.ntmps122 Tryz.results122 rfl ?_
  intro w0
  refine A4 ?_
  refine sE (B5 rfl rfl) rfl (fun b3 => ?_)
  refine sE (B5 rfl rfl) rfl (fun b4 => ?_)
  refine sE (A6 rfl) rfl (fun b5 => ?_)
  refine E4 ?_
  refine sB (qE rfl rfl) rfl rfl (fun h14 => ?_) (fun h14 => ?_)
  refine B4 ?_
  refine sP (D0 rfl rfl zZ) rfl rfl ?_
  refine O3 ?_
  (refine F4 rfl hO rfl rfl (fun v G1 hle1 hh => ?_); subst hh; have hs1 := hs0.mono hle1; have hsb1 := hsb.mono hle1; have hrb1 := hrb.mono hle1; have hr1 := hr.mono hle1; cases o)
  refine B0 ?_
  (refine J2 (D1 rfl rfl rfl zZ zU rfl) rfl ?_; rintro _ ⟨b40, rfl⟩)
  refine A4 ?_
  (refine A6J rfl rfl rfl rfl rfl (fun _ _ => by repeat (first | exact Sw.here | apply Sw.there)) hsb1.sl hrb1.ones (Nat.zero_le _) zU zZ rfl (fun p4 c4 => ?_); simp only [Nat.zero_add, List.nil_append]; refine A5u (cs := eb.flatten) zP zZ (fun bc Cc hpe hnc hmc => ?_); subst hpe)
  refine J4 ?_
  refine sP (B6 (j := n) rfl rfl rfl zZ) rfl rfl ?_
  (refine Q3 rfl rfl rfl rfl ho3 rfl zR (by exact A5v zZ (fun e he => (hrb1.each e he).1) rfl) ?_; refine A9O (b := bc) (Pk.perm zP) (fun G7 hle7 hin7 => ?_))
  refine J4 ?_
  refine H2 (rC rfl (A3 rfl rfl)) (rT rfl) ?_
  (rw [ho]; have hset := (hrb1.mono hle7).set (hr1.mono hle7) n; rw [← B1F (s := t) hn] at hset; have hsl2 := hset.len; rw [A3y] at hsl2; have hfl := A1L (sz := 3) (fun e he => (hset.each e he).1); rw [hsl2] at hfl; exact ⟨rfl, _, rfl, _, _, _, pl, cl, el, rfl, D6.of (Sl.of_blk (A := []) hfl hnc hmc hin7) hsl2 (fun e he => (hset.each e he).1) (fun e he => (hset.each e he).2), hset, (hsl.mono hle1).mono hle7, (hrl.mono hle1).mono hle7⟩)
  refine O3 ?_
  refine H2 (rC rfl (A3 rfl rfl)) (rT rfl) ?_
  (rw [ho]; exact ⟨rfl, _, rfl, hs1⟩)
  refine U7 ?_
  (refine F4 rfl hO rfl rfl (fun v G1 hle1 hh => ?_); subst hh; have hs1 := hs0.mono hle1; have hsb1 := hsb.mono hle1; have hrb1 := hrb.mono hle1; have hr1 := hr.mono hle1; cases o)
  refine B0 ?_
  (refine J2 (D1 rfl rfl rfl zZ zU rfl) rfl ?_; rintro _ ⟨b107, rfl⟩)
  refine A4 ?_
  (refine A6J rfl rfl rfl rfl rfl (fun _ _ => by repeat (first | exact Sw.here | apply Sw.there)) hsb1.sl hrb1.ones (Nat.zero_le _) zU zZ rfl (fun p4 c4 => ?_); simp only [Nat.zero_add, List.nil_append]; refine A5u (cs := eb.flatten) zP zZ (fun bc Cc hpe hnc hmc => ?_); subst hpe)
  refine J4 ?_
  refine sP (B6 (j := n) rfl rfl rfl zZ) rfl rfl ?_
  (refine Q3 rfl rfl rfl rfl ho3 rfl zR (by exact A5v zZ (fun e he => (hrb1.each e he).1) rfl) ?_; refine A9O (b := bc) (Pk.perm zP) (fun G7 hle7 hin7 => ?_))
  refine J4 ?_
  refine H2 (rC rfl (A3 rfl rfl)) (rT rfl) ?_
  (rw [ho]; have hset := (hrb1.mono hle7).set (hr1.mono hle7) n; rw [← B1F (s := t) hn] at hset; have hsl2 := hset.len; rw [A3y] at hsl2; have hfl := A1L (sz := 3) (fun e he => (hset.each e he).1); rw [hsl2] at hfl; exact ⟨rfl, _, rfl, _, _, _, pl, cl, el, rfl, D6.of (Sl.of_blk (A := []) hfl hnc hmc hin7) hsl2 (fun e he => (hset.each e he).1) (fun e he => (hset.each e he).2), hset, (hsl.mono hle1).mono hle7, (hrl.mono hle1).mono hle7⟩)
  refine O3 ?_
  refine H2 (rC rfl (A3 rfl rfl)) (rT rfl) ?_
  (rw [ho]; exact ⟨rfl, _, rfl, hs1⟩)
theorem A1X {B B' : BV} {a b : SV} {ok : Bool} (h : Q2 B a b B' ok) : ∀ (c : Nat) (L : List SV) (G : IM) (sc ta tb : List Value), WB B c → c ≤ 1000000 → a.lt c → b.lt c → R1 G ⟨B, c, L⟩ sc → Q6 G a ta → Q6 G b tb →
  Fn Tryz.prog 86 [.agg ⟨sc⟩, .agg ⟨ta⟩, .agg ⟨tb⟩] [] G (StP ⟨B', c, L⟩ ok) := by
 induction h with
 | @self B a b n h1 h2 =>
  intro c L G sc ta tb hW hc ha hb hs hra hrb
  have hl1 := hra.len
  have ho1 := hra.one
  have hl2 := hrb.len
  have ho2 := hrb.one
  have hsw := hs
  obtain ⟨sp, sn, sk, sq, sm, sd, rfl⟩ := hs.two
  have hF1 := Y0 ⟨B, c, L⟩ hW _ _ G _ ta h1 ha hsw hra
  have hn : n < c := h1.lt hW ha n rfl
  have hB := h1.fr
  refine C0 Tryz.func86 rfl Tryz.ntmps86 Tryz.results86 rfl ?_
  intro w0
  refine A4 ?_
  refine sE (B5 rfl rfl) rfl (fun b3 => ?_)
  refine sE (B5 rfl rfl) rfl (fun b4 => ?_)
  refine sE (B5 rfl rfl) rfl (fun b5 => ?_)
  refine sE (A6 rfl) rfl (fun b6 => ?_)
  refine A9 ?_
  refine sL (A5 rfl rfl (B7 zS) hl1) rfl rfl ?_
  (refine F4 rfl hF1 rfl rfl (fun v G1 hle1 hh => ?_); clear hF1; obtain ⟨ch1, rfl, hrh1⟩ := hh; have hlh1 := hrh1.len; have hoh1 := hrh1.one; have hF2 := Y0 ⟨B, c, L⟩ hW _ _ G1 _ tb h2 hb (hsw.mono hle1) (hrb.mono hle1); obtain rfl := (show _ = _ from hrh1))
  refine Q3 rfl rfl rfl hlh1 hoh1 rfl zR (by exact C7 zZ) ?_
  refine A8 ?_
  refine sL (A5 rfl rfl (B7 zS) hl2) rfl rfl ?_
  (refine F4 rfl hF2 rfl rfl (fun v G2 hle2 hh => ?_); clear hF2; obtain ⟨ch2, rfl, hrh2⟩ := hh; have hlh2 := hrh2.len; have hoh2 := hrh2.one; replace hrh1 := hrh1.mono hle2; have hs2 := (hsw.mono hle1).mono hle2; obtain rfl := (show _ = _ from hrh2); have hU := (A4V ⟨B, c, L⟩ hW hc n (.v n) (.v n) G2 _ _ hn (.free hB) (Y4 hn) hs2 hrh2).1 rfl)
  refine Q3 rfl rfl rfl hlh1 hoh1 rfl zR (by exact C7 zZ) ?_
  refine B0 ?_
  refine sP (N6 rfl rfl zZ) rfl rfl ?_
  refine E8 ?_
  (refine F4 rfl hU rfl rfl (fun v G3 hle3 hh => ?_); obtain ⟨sc3, rfl, hs3⟩ := hh; obtain ⟨sp3, sn3, sk3, sq3, sm3, sd3, rfl⟩ := hs3.two)
  refine E4 ?_
  refine H2 (rC rfl (A3 rfl rfl)) (rT rfl) ?_
  (exact ⟨rfl, _, rfl, hs3⟩)
 | @occ B a b n s r h1 h2 h3 h4 h5 =>
  intro c L G sc ta tb hW hc ha hb hs hra hrb
  have hl1 := hra.len
  have ho1 := hra.one
  have hl2 := hrb.len
  have ho2 := hrb.one
  have hsw := hs
  obtain ⟨sp, sn, sk, sq, sm, sd, rfl⟩ := hs.two
  have hF1 := Y0 ⟨B, c, L⟩ hW _ _ G _ ta h1 ha hsw hra
  have hn : n < c := h1.lt hW ha n rfl
  have hsl := h2.lt hW hb
  refine C0 Tryz.func86 rfl Tryz.ntmps86 Tryz.results86 rfl ?_
  intro w0
  refine A4 ?_
  refine sE (B5 rfl rfl) rfl (fun b3 => ?_)
  refine sE (B5 rfl rfl) rfl (fun b4 => ?_)
  refine sE (B5 rfl rfl) rfl (fun b5 => ?_)
  refine sE (A6 rfl) rfl (fun b6 => ?_)
  refine A9 ?_
  refine sL (A5 rfl rfl (B7 zS) hl1) rfl rfl ?_
  (refine F4 rfl hF1 rfl rfl (fun v G1 hle1 hh => ?_); clear hF1; obtain ⟨ch1, rfl, hrh1⟩ := hh; have hlh1 := hrh1.len; have hoh1 := hrh1.one; have hF2 := Y0 ⟨B, c, L⟩ hW _ _ G1 _ tb h2 hb (hsw.mono hle1) (hrb.mono hle1); obtain rfl := (show _ = _ from hrh1))
  refine Q3 rfl rfl rfl hlh1 hoh1 rfl zR (by exact C7 zZ) ?_
  refine A8 ?_
  refine sL (A5 rfl rfl (B7 zS) hl2) rfl rfl ?_
  (refine F4 rfl hF2 rfl rfl (fun v G2 hle2 hh => ?_); clear hF2; obtain ⟨ch2, rfl, hrh2⟩ := hh; have hlh2 := hrh2.len; have hoh2 := hrh2.one; replace hrh1 := hrh1.mono hle2; have hs2 := (hsw.mono hle1).mono hle2; have hU := (A4V ⟨B, c, L⟩ hW hc n s r G2 _ _ hn h4 hsl hs2 hrh2).2 h3; rw [h5] at hU; replace hU : Fn Tryz.prog 122 _ [] G2 (StP ⟨B, c, L⟩ false) := hU)
  refine Q3 rfl rfl rfl hlh2 hoh2 rfl zR (by exact C7 zZ) ?_
  refine B0 ?_
  refine sP (N6 rfl rfl zZ) rfl rfl ?_
  refine E4 ?_
  refine sL (A5 rfl rfl (B7 zS) zW) rfl rfl ?_
  (refine F4 rfl hU rfl rfl (fun v G3 hle3 hh => ?_); obtain ⟨sc3, rfl, hs3⟩ := hh; obtain ⟨sp3, sn3, sk3, sq3, sm3, sd3, rfl⟩ := hs3.two)
  refine E4 ?_
  refine H2 (rC rfl (A3 rfl rfl)) (rT rfl) ?_
  (exact ⟨rfl, _, rfl, hs3⟩)
 | @bind B a b n s r h1 h2 h3 h4 h5 =>
  intro c L G sc ta tb hW hc ha hb hs hra hrb
  have hl1 := hra.len
  have ho1 := hra.one
  have hl2 := hrb.len
  have ho2 := hrb.one
  have hsw := hs
  obtain ⟨sp, sn, sk, sq, sm, sd, rfl⟩ := hs.two
  have hF1 := Y0 ⟨B, c, L⟩ hW _ _ G _ ta h1 ha hsw hra
  have hn : n < c := h1.lt hW ha n rfl
  have hsl := h2.lt hW hb
  refine C0 Tryz.func86 rfl Tryz.ntmps86 Tryz.results86 rfl ?_
  intro w0
  refine A4 ?_
  refine sE (B5 rfl rfl) rfl (fun b3 => ?_)
  refine sE (B5 rfl rfl) rfl (fun b4 => ?_)
  refine sE (B5 rfl rfl) rfl (fun b5 => ?_)
  refine sE (A6 rfl) rfl (fun b6 => ?_)
  refine A9 ?_
  refine sL (A5 rfl rfl (B7 zS) hl1) rfl rfl ?_
  (refine F4 rfl hF1 rfl rfl (fun v G1 hle1 hh => ?_); clear hF1; obtain ⟨ch1, rfl, hrh1⟩ := hh; have hlh1 := hrh1.len; have hoh1 := hrh1.one; have hF2 := Y0 ⟨B, c, L⟩ hW _ _ G1 _ tb h2 hb (hsw.mono hle1) (hrb.mono hle1); obtain rfl := (show _ = _ from hrh1))
  refine Q3 rfl rfl rfl hlh1 hoh1 rfl zR (by exact C7 zZ) ?_
  refine A8 ?_
  refine sL (A5 rfl rfl (B7 zS) hl2) rfl rfl ?_
  (refine F4 rfl hF2 rfl rfl (fun v G2 hle2 hh => ?_); clear hF2; obtain ⟨ch2, rfl, hrh2⟩ := hh; have hlh2 := hrh2.len; have hoh2 := hrh2.one; replace hrh1 := hrh1.mono hle2; have hs2 := (hsw.mono hle1).mono hle2; have hU := (A4V ⟨B, c, L⟩ hW hc n s r G2 _ _ hn h4 hsl hs2 hrh2).2 h3; rw [h5] at hU; replace hU : Fn Tryz.prog 122 _ [] G2 (StP ⟨A0N B n s, c, L⟩ true) := hU)
  refine Q3 rfl rfl rfl hlh2 hoh2 rfl zR (by exact C7 zZ) ?_
  refine B0 ?_
  refine sP (N6 rfl rfl zZ) rfl rfl ?_
  refine E4 ?_
  refine sL (A5 rfl rfl (B7 zS) zW) rfl rfl ?_
  (refine F4 rfl hU rfl rfl (fun v G3 hle3 hh => ?_); obtain ⟨sc3, rfl, hs3⟩ := hh; obtain ⟨sp3, sn3, sk3, sq3, sm3, sd3, rfl⟩ := hs3.two)
  refine E4 ?_
  refine H2 (rC rfl (A3 rfl rfl)) (rT rfl) ?_
  (exact ⟨rfl, _, rfl, hs3⟩)
 | @occ' B a b n s r h1 h3 h2 h4 h5 =>
  intro c L G sc ta tb hW hc ha hb hs hra hrb
  have hl1 := hra.len
  have ho1 := hra.one
  have hl2 := hrb.len
  have ho2 := hrb.one
  have hsw := hs
  obtain ⟨sp, sn, sk, sq, sm, sd, rfl⟩ := hs.two
  have hF1 := Y0 ⟨B, c, L⟩ hW _ _ G _ ta h1 ha hsw hra
  have hn : n < c := h2.lt hW hb n rfl
  have hsl := h1.lt hW ha
  have hne : s ≠ .v n := fun he => by rw [he] at h3; cases h3
  have hk := A1d h3
  refine C0 Tryz.func86 rfl Tryz.ntmps86 Tryz.results86 rfl ?_
  intro w0
  refine A4 ?_
  refine sE (B5 rfl rfl) rfl (fun b3 => ?_)
  refine sE (B5 rfl rfl) rfl (fun b4 => ?_)
  refine sE (B5 rfl rfl) rfl (fun b5 => ?_)
  refine sE (A6 rfl) rfl (fun b6 => ?_)
  refine A9 ?_
  refine sL (A5 rfl rfl (B7 zS) hl1) rfl rfl ?_
  (refine F4 rfl hF1 rfl rfl (fun v G1 hle1 hh => ?_); clear hF1; obtain ⟨ch1, rfl, hrh1⟩ := hh; have hlh1 := hrh1.len; have hoh1 := hrh1.one; have hF2 := Y0 ⟨B, c, L⟩ hW _ _ G1 _ tb h2 hb (hsw.mono hle1) (hrb.mono hle1); obtain ⟨K1, N1, p1, n1, c1, rfl, hK1, hN1⟩ := hrh1.kn; rw [← hK1] at hk)
  refine Q3 rfl rfl rfl hlh1 hoh1 rfl zR (by exact C7 zZ) ?_
  refine A8 ?_
  refine sL (A5 rfl rfl (B7 zS) hl2) rfl rfl ?_
  (refine F4 rfl hF2 rfl rfl (fun v G2 hle2 hh => ?_); clear hF2; obtain ⟨ch2, rfl, hrh2⟩ := hh; have hlh2 := hrh2.len; have hoh2 := hrh2.one; replace hrh1 := hrh1.mono hle2; have hs2 := (hsw.mono hle1).mono hle2; obtain rfl := (show _ = _ from hrh2); have hU := (A4V ⟨B, c, L⟩ hW hc n s r G2 _ _ hn h4 hsl hs2 hrh1).2 hne; rw [h5] at hU; replace hU : Fn Tryz.prog 122 _ [] G2 (StP ⟨B, c, L⟩ false) := hU)
  refine Q3 rfl rfl rfl hlh1 hoh1 rfl zR (by exact C7 zZ) ?_
  refine B0 ?_
  refine sP (D0 rfl rfl zZ) rfl rfl ?_
  refine J4 ?_
  refine sP (N6 rfl rfl zZ) rfl rfl ?_
  refine E8 ?_
  (refine F4 rfl hU rfl rfl (fun v G3 hle3 hh => ?_); obtain ⟨sc3, rfl, hs3⟩ := hh; obtain ⟨sp3, sn3, sk3, sq3, sm3, sd3, rfl⟩ := hs3.two)
  refine E4 ?_
  refine H2 (rC rfl (A3 rfl rfl)) (rT rfl) ?_
  (exact ⟨rfl, _, rfl, hs3⟩)
 | @bind' B a b n s r h1 h3 h2 h4 h5 =>
  intro c L G sc ta tb hW hc ha hb hs hra hrb
  have hl1 := hra.len
  have ho1 := hra.one
  have hl2 := hrb.len
  have ho2 := hrb.one
  have hsw := hs
  obtain ⟨sp, sn, sk, sq, sm, sd, rfl⟩ := hs.two
  have hF1 := Y0 ⟨B, c, L⟩ hW _ _ G _ ta h1 ha hsw hra
  have hn : n < c := h2.lt hW hb n rfl
  have hsl := h1.lt hW ha
  have hne : s ≠ .v n := fun he => by rw [he] at h3; cases h3
  have hk := A1d h3
  refine C0 Tryz.func86 rfl Tryz.ntmps86 Tryz.results86 rfl ?_
  intro w0
  refine A4 ?_
  refine sE (B5 rfl rfl) rfl (fun b3 => ?_)
  refine sE (B5 rfl rfl) rfl (fun b4 => ?_)
  refine sE (B5 rfl rfl) rfl (fun b5 => ?_)
  refine sE (A6 rfl) rfl (fun b6 => ?_)
  refine A9 ?_
  refine sL (A5 rfl rfl (B7 zS) hl1) rfl rfl ?_
  (refine F4 rfl hF1 rfl rfl (fun v G1 hle1 hh => ?_); clear hF1; obtain ⟨ch1, rfl, hrh1⟩ := hh; have hlh1 := hrh1.len; have hoh1 := hrh1.one; have hF2 := Y0 ⟨B, c, L⟩ hW _ _ G1 _ tb h2 hb (hsw.mono hle1) (hrb.mono hle1); obtain ⟨K1, N1, p1, n1, c1, rfl, hK1, hN1⟩ := hrh1.kn; rw [← hK1] at hk)
  refine Q3 rfl rfl rfl hlh1 hoh1 rfl zR (by exact C7 zZ) ?_
  refine A8 ?_
  refine sL (A5 rfl rfl (B7 zS) hl2) rfl rfl ?_
  (refine F4 rfl hF2 rfl rfl (fun v G2 hle2 hh => ?_); clear hF2; obtain ⟨ch2, rfl, hrh2⟩ := hh; have hlh2 := hrh2.len; have hoh2 := hrh2.one; replace hrh1 := hrh1.mono hle2; have hs2 := (hsw.mono hle1).mono hle2; obtain rfl := (show _ = _ from hrh2); have hU := (A4V ⟨B, c, L⟩ hW hc n s r G2 _ _ hn h4 hsl hs2 hrh1).2 hne; rw [h5] at hU; replace hU : Fn Tryz.prog 122 _ [] G2 (StP ⟨A0N B n s, c, L⟩ true) := hU)
  refine Q3 rfl rfl rfl hlh1 hoh1 rfl zR (by exact C7 zZ) ?_
  refine B0 ?_
  refine sP (D0 rfl rfl zZ) rfl rfl ?_
  refine J4 ?_
  refine sP (N6 rfl rfl zZ) rfl rfl ?_
  refine E8 ?_
  (refine F4 rfl hU rfl rfl (fun v G3 hle3 hh => ?_); obtain ⟨sc3, rfl, hs3⟩ := hh; obtain ⟨sp3, sn3, sk3, sq3, sm3, sd3, rfl⟩ := hs3.two)
  refine E4 ?_
  refine H2 (rC rfl (A3 rfl rfl)) (rT rfl) ?_
  (exact ⟨rfl, _, rfl, hs3⟩)
 | @clash B a b s s' h1 h3 h2 h4 h5 =>
  intro c L G sc ta tb hW hc ha hb hs hra hrb
  have hl1 := hra.len
  have ho1 := hra.one
  have hl2 := hrb.len
  have ho2 := hrb.one
  have hsw := hs
  obtain ⟨sp, sn, sk, sq, sm, sd, rfl⟩ := hs.two
  have hF1 := Y0 ⟨B, c, L⟩ hW _ _ G _ ta h1 ha hsw hra
  have hk := A1d h3
  have hk' := A1d h4
  refine C0 Tryz.func86 rfl Tryz.ntmps86 Tryz.results86 rfl ?_
  intro w0
  refine A4 ?_
  refine sE (B5 rfl rfl) rfl (fun b3 => ?_)
  refine sE (B5 rfl rfl) rfl (fun b4 => ?_)
  refine sE (B5 rfl rfl) rfl (fun b5 => ?_)
  refine sE (A6 rfl) rfl (fun b6 => ?_)
  refine A9 ?_
  refine sL (A5 rfl rfl (B7 zS) hl1) rfl rfl ?_
  (refine F4 rfl hF1 rfl rfl (fun v G1 hle1 hh => ?_); clear hF1; obtain ⟨ch1, rfl, hrh1⟩ := hh; have hlh1 := hrh1.len; have hoh1 := hrh1.one; have hF2 := Y0 ⟨B, c, L⟩ hW _ _ G1 _ tb h2 hb (hsw.mono hle1) (hrb.mono hle1); obtain ⟨K1, N1, p1, n1, c1, rfl, hK1, hN1⟩ := hrh1.kn; rw [← hK1] at hk)
  refine Q3 rfl rfl rfl hlh1 hoh1 rfl zR (by exact C7 zZ) ?_
  refine A8 ?_
  refine sL (A5 rfl rfl (B7 zS) hl2) rfl rfl ?_
  (refine F4 rfl hF2 rfl rfl (fun v G2 hle2 hh => ?_); clear hF2; obtain ⟨ch2, rfl, hrh2⟩ := hh; have hlh2 := hrh2.len; have hoh2 := hrh2.one; replace hrh1 := hrh1.mono hle2; have hs2 := (hsw.mono hle1).mono hle2; obtain ⟨K2, N2, p2, n2, c2, rfl, hK2, hN2⟩ := hrh2.kn; rw [← hK2] at hk'; rw [← hK1, ← hK2] at h5)
  refine Q3 rfl rfl rfl hlh1 hoh1 rfl zR (by exact C7 zZ) ?_
  refine B0 ?_
  refine sP (D0 rfl rfl zZ) rfl rfl ?_
  refine J4 ?_
  refine sP (D0 rfl rfl zZ) rfl rfl ?_
  refine M3 ?_
  refine sP (D0 rfl rfl zZ) rfl rfl ?_
  refine E8 ?_
  refine C2 ?_
  refine L4 (fun (_ : Unit) => ⟨[(9, .int .i64 0), (8, .bool false), (6, .pointer (some ⟨b6, 0, none⟩)), (4, .pointer (some ⟨b4, 0, none⟩)), (3, .pointer (some ⟨b3, 0, none⟩))], [.blk b6 [.slice none 0 0, .slice none 0 0], .blk b4 [.int .i64 K1, .int .i64 N1, .slice p1 n1 c1], .blk b3 [.slice sp sn sk, .slice sq sm sd]], G2⟩) (fun _ => True) (fun _ => 0) () ?_ ?_ ?_
  ·exact F9
  ·trivial
  ·(rintro _ _)
   refine B0 ?_
   refine sB (N0 rfl rfl) rfl rfl (fun h76 => ?_) (fun h76 => ?_)
   ·refine W5 ?_
    refine H2 (rC rfl (A3 rfl rfl)) (rT rfl) ?_
    (exact ⟨rfl, _, rfl, hs2⟩)
   ·refine W5 ?_
    refine H2 (rC rfl (A3 rfl rfl)) (rT rfl) ?_
    (exact ⟨rfl, _, rfl, hs2⟩)
 | @base B a b d h1 h2 =>
  intro c L G sc ta tb hW hc ha hb hs hra hrb
  have hl1 := hra.len
  have ho1 := hra.one
  have hl2 := hrb.len
  have ho2 := hrb.one
  have hsw := hs
  obtain ⟨sp, sn, sk, sq, sm, sd, rfl⟩ := hs.two
  have hF1 := Y0 ⟨B, c, L⟩ hW _ _ G _ ta h1 ha hsw hra
  obtain ⟨K, hK⟩ : ∃ K, (SV.b d).kd = K := ⟨_, rfl⟩
  have hK0 := A1d (s := .b d) rfl
  rw [hK] at hK0
  refine C0 Tryz.func86 rfl Tryz.ntmps86 Tryz.results86 rfl ?_
  intro w0
  refine A4 ?_
  refine sE (B5 rfl rfl) rfl (fun b3 => ?_)
  refine sE (B5 rfl rfl) rfl (fun b4 => ?_)
  refine sE (B5 rfl rfl) rfl (fun b5 => ?_)
  refine sE (A6 rfl) rfl (fun b6 => ?_)
  refine A9 ?_
  refine sL (A5 rfl rfl (B7 zS) hl1) rfl rfl ?_
  (refine F4 rfl hF1 rfl rfl (fun v G1 hle1 hh => ?_); clear hF1; obtain ⟨ch1, rfl, hrh1⟩ := hh; have hlh1 := hrh1.len; have hoh1 := hrh1.one; have hF2 := Y0 ⟨B, c, L⟩ hW _ _ G1 _ tb h2 hb (hsw.mono hle1) (hrb.mono hle1); obtain rfl := (show _ = _ from hrh1); rw [hK])
  refine Q3 rfl rfl rfl hlh1 hoh1 rfl zR (by exact C7 zZ) ?_
  refine A8 ?_
  refine sL (A5 rfl rfl (B7 zS) hl2) rfl rfl ?_
  (refine F4 rfl hF2 rfl rfl (fun v G2 hle2 hh => ?_); clear hF2; obtain ⟨ch2, rfl, hrh2⟩ := hh; have hlh2 := hrh2.len; have hoh2 := hrh2.one; replace hrh1 := hrh1.mono hle2; have hs2 := (hsw.mono hle1).mono hle2; obtain rfl := (show _ = _ from hrh2); rw [hK])
  refine Q3 rfl rfl rfl hlh1 hoh1 rfl zR (by exact C7 zZ) ?_
  refine B0 ?_
  refine sP (D0 rfl rfl zZ) rfl rfl ?_
  refine J4 ?_
  refine sP (D0 rfl rfl zZ) rfl rfl ?_
  refine M3 ?_
  refine sP (N6 rfl rfl zZ) rfl rfl ?_
  refine E8 ?_
  refine C2 ?_
  refine L4 (fun (_ : Unit) => ⟨[(9, .int .i64 0), (8, .bool true), (6, .pointer (some ⟨b6, 0, none⟩)), (4, .pointer (some ⟨b4, 0, none⟩)), (3, .pointer (some ⟨b3, 0, none⟩))], [.blk b6 [.slice none 0 0, .slice none 0 0], .blk b4 [.int .i64 K, .int .i64 0, .slice none 0 0], .blk b3 [.slice sp sn sk, .slice sq sm sd]], G2⟩) (fun _ => True) (fun _ => 0) () ?_ ?_ ?_
  ·exact F9
  ·trivial
  ·(rintro _ _)
   refine B0 ?_
   refine sP (A1J rfl rfl zZ) rfl rfl ?_
   refine W5 ?_
   refine H2 (rC rfl (A3 rfl rfl)) (rT rfl) ?_
   (exact ⟨rfl, _, rfl, hs2⟩)
 | @two0 B a b d x y x' y' B1 h1 h2 h3 ih =>
  intro c L G sc ta tb hW hc ha hb hs hra hrb
  have hl1 := hra.len
  have ho1 := hra.one
  have hl2 := hrb.len
  have ho2 := hrb.one
  have hsw := hs
  obtain ⟨sp, sn, sk, sq, sm, sd, rfl⟩ := hs.two
  have hF1 := Y0 ⟨B, c, L⟩ hW _ _ G _ ta h1 ha hsw hra
  obtain ⟨K, hK⟩ : ∃ K : Int, (if d = true then 5 else 4) = K := ⟨_, rfl⟩
  have hK0 : K ≠ 0 := by rw [← hK]; cases d <;> decide
  have hla := h1.lt hW ha
  have hlb := h2.lt hW hb
  refine C0 Tryz.func86 rfl Tryz.ntmps86 Tryz.results86 rfl ?_
  intro w0
  refine A4 ?_
  refine sE (B5 rfl rfl) rfl (fun b3 => ?_)
  refine sE (B5 rfl rfl) rfl (fun b4 => ?_)
  refine sE (B5 rfl rfl) rfl (fun b5 => ?_)
  refine sE (A6 rfl) rfl (fun b6 => ?_)
  refine A9 ?_
  refine sL (A5 rfl rfl (B7 zS) hl1) rfl rfl ?_
  (refine F4 rfl hF1 rfl rfl (fun v G1 hle1 hh => ?_); clear hF1; obtain ⟨ch1, rfl, hrh1⟩ := hh; have hlh1 := hrh1.len; have hoh1 := hrh1.one; have hF2 := Y0 ⟨B, c, L⟩ hW _ _ G1 _ tb h2 hb (hsw.mono hle1) (hrb.mono hle1))
  refine Q3 rfl rfl rfl hlh1 hoh1 rfl zR (by exact C7 zZ) ?_
  refine A8 ?_
  refine sL (A5 rfl rfl (B7 zS) hl2) rfl rfl ?_
  (refine F4 rfl hF2 rfl rfl (fun v G2 hle2 hh => ?_); clear hF2; obtain ⟨ch2, rfl, hrh2⟩ := hh; replace hrh1 := hrh1.mono hle2; have hs2 := (hsw.mono hle1).mono hle2; obtain ⟨b1, o1, c1, e1, f1, rfl, hle1', hlf1, hat1, haf1, hre1, hrf1, hgb1⟩ := hrh1.two; obtain ⟨b2, o2, c2, e2, f2, rfl, hle2', hlf2, hat2, haf2, hre2, hrf2, hgb2⟩ := hrh2.two; rw [hK])
  refine Q3 rfl rfl rfl hlh1 hoh1 rfl zR (by exact C7 zZ) ?_
  refine B0 ?_
  refine sP (D0 rfl rfl zZ) rfl rfl ?_
  refine J4 ?_
  refine sP (D0 rfl rfl zZ) rfl rfl ?_
  refine M3 ?_
  refine sP (N6 rfl rfl zZ) rfl rfl ?_
  refine E8 ?_
  refine C2 (L4 (fun (x : Nat × Bool × List Value × IM) => ⟨[(9, .int .i64 (x.1 : Int)), (8, .bool x.2.1), (6, .pointer (some ⟨b6, 0, none⟩)), (5, .pointer (some ⟨b5, 0, none⟩)), (4, .pointer (some ⟨b4, 0, none⟩)), (3, .pointer (some ⟨b3, 0, none⟩))], [.blk b6 [.slice none 0 0, .slice none 0 0], .blk b5 [.int .i64 K, .int .i64 0, .slice (some ⟨b2, o2, none⟩) 2 c2], .blk b4 [.int .i64 K, .int .i64 0, .slice (some ⟨b1, o1, none⟩) 2 c1], .blk b3 x.2.2.1], x.2.2.2⟩) (fun x => B9 G2 x.2.2.2 ∧ ((x.1 = 0 ∧ x.2.1 = true ∧ R1 x.2.2.2 ⟨B, c, L⟩ x.2.2.1) ∨ (x.1 = 1 ∧ x.2.1 = false ∧ R1 x.2.2.2 ⟨B1, c, L⟩ x.2.2.1))) (fun x => 2 - x.1) (0, true, [.slice sp sn sk, .slice sq sm sd], G2) ?_ ?_ ?_)
  (simp only [I6]; exact F9)
  (exact ⟨B9.refl _, .inl ⟨rfl, rfl, hs2⟩⟩)
  (rintro ⟨(i : Nat), oki, sci, Gi⟩ ⟨hlei, hor⟩; simp only [] at hlei hor ⊢; rcases hor with ⟨rfl, rfl, hsi⟩ | ⟨rfl, rfl, hsi⟩ <;> (have hsi0 := hsi; obtain ⟨tp, tn, tk, tq, tm, td, rfl⟩ := hsi.two))
  refine B0 ?_
  refine sP (A1Z rfl rfl zZ) rfl rfl ?_
  refine E8 ?_
  refine C2 ?_
  refine D3 D4 rfl ?_
  refine I7 (i := 0) (l' := [tt,ff,ff,ff,ff,ff,ff,ff,ff,ff,ff,ff,ff,ff,ff,ff,ff]) rfl C8 (A3 rfl rfl) rfl zX rfl rfl ?_
  refine aP 1 rfl (C3 rfl) rfl ?_
  refine aL 2 rfl (E9 rfl rfl) rfl ?_
  refine aP 3 rfl (qM rfl) rfl ?_
  refine aP 4 rfl (B6 (j := 0) rfl rfl rfl zZ) rfl ?_
  refine aL 5 rfl (A5 rfl rfl (At.im hlei hgb1 hat1 _) hle1') rfl ?_
  refine aP 6 rfl (C3 rfl) rfl ?_
  refine aL 7 rfl (E9 rfl rfl) rfl ?_
  refine aP 8 rfl (qM rfl) rfl ?_
  refine aP 9 rfl (B6 (j := 0) rfl rfl rfl zZ) rfl ?_
  refine aL 10 rfl (A5 rfl rfl (At.im hlei hgb2 hat2 _) hle2') rfl ?_
  refine A2 11 ?_
  (refine H0 rfl rfl (ih c L Gi _ e1 e2 hW hc (fun m hm => hla m (.inl hm)) (fun m hm => hlb m (.inl hm)) hsi0 (hre1.mono hlei) (hre2.mono hlei)) rfl rfl rfl (fun v G3 hle3 hh => ?_); obtain ⟨sc3, rfl, hs3⟩ := hh; have hs30 := hs3; obtain ⟨sp3, sn3, sk3, sq3, sm3, sd3, rfl⟩ := hs3.two)
  refine aP 12 rfl (qM rfl) rfl ?_
  refine aP 13 rfl (pX rfl rfl) rfl ?_
  refine aP 14 rfl (pX rfl rfl) rfl ?_
  refine A2 15 ?_
  refine C9 rfl ?_
  refine aP 16 rfl (qA rfl) rfl ?_
  refine A8 ?_
  refine sP (J9 rfl rfl zZ zZ) rfl rfl ?_
  refine A4 ?_
  refine J6 (1, false, [.slice sp3 sn3 sk3, .slice sq3 sm3 sd3], G3) (I1 zO zJ) ?_ ?_
  (exact ⟨hlei.trans hle3, .inr ⟨rfl, rfl, hs30⟩⟩)
  (show 2 - 1 < 2 - 0; omega)
  refine B0 ?_
  refine sP (A1Z rfl rfl zZ) rfl rfl ?_
  refine W5 ?_
  refine H2 (rC rfl (A3 rfl rfl)) (rT rfl) ?_
  (exact ⟨rfl, _, rfl, hsi0⟩)
 | @two B a b d x y x' y' B1 B2 ok h1 h2 h3 h4 ih1 ih2 =>
  intro c L G sc ta tb hW hc ha hb hs hra hrb
  have hl1 := hra.len
  have ho1 := hra.one
  have hl2 := hrb.len
  have ho2 := hrb.one
  have hsw := hs
  obtain ⟨sp, sn, sk, sq, sm, sd, rfl⟩ := hs.two
  have hF1 := Y0 ⟨B, c, L⟩ hW _ _ G _ ta h1 ha hsw hra
  obtain ⟨K, hK⟩ : ∃ K : Int, (if d = true then 5 else 4) = K := ⟨_, rfl⟩
  have hK0 : K ≠ 0 := by rw [← hK]; cases d <;> decide
  have hla := h1.lt hW ha
  have hlb := h2.lt hW hb
  have hW1 := A1W h3 hW (fun m hm => hla m (.inl hm)) (fun m hm => hlb m (.inl hm))
  refine C0 Tryz.func86 rfl Tryz.ntmps86 Tryz.results86 rfl ?_
  intro w0
  refine A4 ?_
  refine sE (B5 rfl rfl) rfl (fun b3 => ?_)
  refine sE (B5 rfl rfl) rfl (fun b4 => ?_)
  refine sE (B5 rfl rfl) rfl (fun b5 => ?_)
  refine sE (A6 rfl) rfl (fun b6 => ?_)
  refine A9 ?_
  refine sL (A5 rfl rfl (B7 zS) hl1) rfl rfl ?_
  (refine F4 rfl hF1 rfl rfl (fun v G1 hle1 hh => ?_); clear hF1; obtain ⟨ch1, rfl, hrh1⟩ := hh; have hlh1 := hrh1.len; have hoh1 := hrh1.one; have hF2 := Y0 ⟨B, c, L⟩ hW _ _ G1 _ tb h2 hb (hsw.mono hle1) (hrb.mono hle1))
  refine Q3 rfl rfl rfl hlh1 hoh1 rfl zR (by exact C7 zZ) ?_
  refine A8 ?_
  refine sL (A5 rfl rfl (B7 zS) hl2) rfl rfl ?_
  (refine F4 rfl hF2 rfl rfl (fun v G2 hle2 hh => ?_); clear hF2; obtain ⟨ch2, rfl, hrh2⟩ := hh; replace hrh1 := hrh1.mono hle2; have hs2 := (hsw.mono hle1).mono hle2; obtain ⟨b1, o1, c1, e1, f1, rfl, hle1', hlf1, hat1, haf1, hre1, hrf1, hgb1⟩ := hrh1.two; obtain ⟨b2, o2, c2, e2, f2, rfl, hle2', hlf2, hat2, haf2, hre2, hrf2, hgb2⟩ := hrh2.two; rw [hK])
  refine Q3 rfl rfl rfl hlh1 hoh1 rfl zR (by exact C7 zZ) ?_
  refine B0 ?_
  refine sP (D0 rfl rfl zZ) rfl rfl ?_
  refine J4 ?_
  refine sP (D0 rfl rfl zZ) rfl rfl ?_
  refine M3 ?_
  refine sP (N6 rfl rfl zZ) rfl rfl ?_
  refine E8 ?_
  refine C2 (L4 (fun (x : Nat × Bool × List Value × IM) => ⟨[(9, .int .i64 (x.1 : Int)), (8, .bool x.2.1), (6, .pointer (some ⟨b6, 0, none⟩)), (5, .pointer (some ⟨b5, 0, none⟩)), (4, .pointer (some ⟨b4, 0, none⟩)), (3, .pointer (some ⟨b3, 0, none⟩))], [.blk b6 [.slice none 0 0, .slice none 0 0], .blk b5 [.int .i64 K, .int .i64 0, .slice (some ⟨b2, o2, none⟩) 2 c2], .blk b4 [.int .i64 K, .int .i64 0, .slice (some ⟨b1, o1, none⟩) 2 c1], .blk b3 x.2.2.1], x.2.2.2⟩) (fun x => B9 G2 x.2.2.2 ∧ ((x.1 = 0 ∧ x.2.1 = true ∧ R1 x.2.2.2 ⟨B, c, L⟩ x.2.2.1) ∨ (x.1 = 1 ∧ x.2.1 = true ∧ R1 x.2.2.2 ⟨B1, c, L⟩ x.2.2.1) ∨ (x.1 = 2 ∧ x.2.1 = ok ∧ R1 x.2.2.2 ⟨B2, c, L⟩ x.2.2.1))) (fun x => 2 - x.1) (0, true, [.slice sp sn sk, .slice sq sm sd], G2) ?_ ?_ ?_)
  (simp only [I6]; exact F9)
  (exact ⟨B9.refl _, .inl ⟨rfl, rfl, hs2⟩⟩)
  (rintro ⟨(i : Nat), oki, sci, Gi⟩ ⟨hlei, hor⟩; simp only [] at hlei hor ⊢; rcases hor with ⟨rfl, rfl, hsi⟩ | ⟨rfl, rfl, hsi⟩ | ⟨rfl, rfl, hsi⟩ <;> (have hsi0 := hsi; obtain ⟨tp, tn, tk, tq, tm, td, rfl⟩ := hsi.two))
  refine B0 ?_
  refine sP (A1Z rfl rfl zZ) rfl rfl ?_
  refine E8 ?_
  refine C2 ?_
  refine D3 D4 rfl ?_
  refine I7 (i := 0) (l' := [tt,ff,ff,ff,ff,ff,ff,ff,ff,ff,ff,ff,ff,ff,ff,ff,ff]) rfl C8 (A3 rfl rfl) rfl zX rfl rfl ?_
  refine aP 1 rfl (C3 rfl) rfl ?_
  refine aL 2 rfl (E9 rfl rfl) rfl ?_
  refine aP 3 rfl (qM rfl) rfl ?_
  refine aP 4 rfl (B6 (j := 0) rfl rfl rfl zZ) rfl ?_
  refine aL 5 rfl (A5 rfl rfl (At.im hlei hgb1 hat1 _) hle1') rfl ?_
  refine aP 6 rfl (C3 rfl) rfl ?_
  refine aL 7 rfl (E9 rfl rfl) rfl ?_
  refine aP 8 rfl (qM rfl) rfl ?_
  refine aP 9 rfl (B6 (j := 0) rfl rfl rfl zZ) rfl ?_
  refine aL 10 rfl (A5 rfl rfl (At.im hlei hgb2 hat2 _) hle2') rfl ?_
  refine A2 11 ?_
  (refine H0 rfl rfl (ih1 c L Gi _ e1 e2 hW hc (fun m hm => hla m (.inl hm)) (fun m hm => hlb m (.inl hm)) hsi0 (hre1.mono hlei) (hre2.mono hlei)) rfl rfl rfl (fun v G3 hle3 hh => ?_); obtain ⟨sc3, rfl, hs3⟩ := hh; have hs30 := hs3; obtain ⟨sp3, sn3, sk3, sq3, sm3, sd3, rfl⟩ := hs3.two)
  refine aP 12 rfl (qM rfl) rfl ?_
  refine aP 13 rfl (pX rfl rfl) rfl ?_
  refine aP 14 rfl (pX rfl rfl) rfl ?_
  refine A2 15 ?_
  refine C9 rfl ?_
  refine aP 16 rfl (qA rfl) rfl ?_
  refine A8 ?_
  refine sP (J9 rfl rfl zZ zZ) rfl rfl ?_
  refine A4 ?_
  refine J6 (1, true, [.slice sp3 sn3 sk3, .slice sq3 sm3 sd3], G3) (I1 zO zJ) ?_ ?_
  (exact ⟨hlei.trans hle3, .inr (.inl ⟨rfl, rfl, hs30⟩)⟩)
  (show 2 - 1 < 2 - 0; omega)
  refine B0 ?_
  refine sP (A1Z rfl rfl zZ) rfl rfl ?_
  refine E8 ?_
  refine C2 ?_
  refine D3 D4 rfl ?_
  refine I7 (i := 0) (l' := [tt,ff,ff,ff,ff,ff,ff,ff,ff,ff,ff,ff,ff,ff,ff,ff,ff]) rfl C8 (A3 rfl rfl) rfl zX rfl rfl ?_
  refine aP 1 rfl (C3 rfl) rfl ?_
  refine aL 2 rfl (E9 rfl rfl) rfl ?_
  refine aP 3 rfl (qM rfl) rfl ?_
  refine aP 4 rfl (B6 (j := 1) rfl rfl rfl zZ) rfl ?_
  refine aL 5 rfl (A5 rfl rfl (At.im hlei hgb1 haf1 _) hlf1) rfl ?_
  refine aP 6 rfl (C3 rfl) rfl ?_
  refine aL 7 rfl (E9 rfl rfl) rfl ?_
  refine aP 8 rfl (qM rfl) rfl ?_
  refine aP 9 rfl (B6 (j := 1) rfl rfl rfl zZ) rfl ?_
  refine aL 10 rfl (A5 rfl rfl (At.im hlei hgb2 haf2 _) hlf2) rfl ?_
  refine A2 11 ?_
  (refine H0 rfl rfl (ih2 c L Gi _ f1 f2 hW1 hc (fun m hm => hla m (.inr hm)) (fun m hm => hlb m (.inr hm)) hsi0 (hrf1.mono hlei) (hrf2.mono hlei)) rfl rfl rfl (fun v G3 hle3 hh => ?_); obtain ⟨sc3, rfl, hs3⟩ := hh; have hs30 := hs3; obtain ⟨sp3, sn3, sk3, sq3, sm3, sd3, rfl⟩ := hs3.two)
  refine aP 12 rfl (qM rfl) rfl ?_
  refine aP 13 rfl (pX rfl rfl) rfl ?_
  refine aP 14 rfl (pX rfl rfl) rfl ?_
  refine A2 15 ?_
  refine C9 rfl ?_
  refine aP 16 rfl (qA rfl) rfl ?_
  refine A8 ?_
  refine sP (J9 rfl rfl zZ zZ) rfl rfl ?_
  refine A4 ?_
  refine J6 (2, ok, [.slice sp3 sn3 sk3, .slice sq3 sm3 sd3], G3) (I1 zO zJ) ?_ ?_
  (exact ⟨hlei.trans hle3, .inr (.inr ⟨rfl, rfl, hs30⟩)⟩)
  (show 2 - 2 < 2 - 1; omega)
  refine B0 ?_
  refine sP (A1J rfl rfl zZ) rfl rfl ?_
  refine W5 ?_
  refine H2 (rC rfl (A3 rfl rfl)) (rT rfl) ?_
  (exact ⟨rfl, _, rfl, hsi0⟩)
def A1h (M : VM) (E : Nat → Option Nat) (r : Option Ty) : IM → Value → List A7 → Prop := fun G' v outs => outs = H4 M E ∧ ∃ cells u, v = .tuple ⟨[.agg ⟨cells⟩, .bool r.isSome]⟩ ∧ C6 G' u cells ∧ ∀ x, r = some x → u = x
theorem A1h.no {M : VM} {E : Nat → Option Nat} {r : Option Ty} {G' : IM} {cells : List Value} {u : Ty} (h : r = none) (hu : C6 G' u cells) : A1h M E r G' (.tuple ⟨[.agg ⟨cells⟩, .bool false]⟩) (H4 M E) := by
 subst h
 exact ⟨rfl, cells, u, rfl, hu, fun x hx => by cases hx⟩
theorem A1h.yes {M : VM} {E : Nat → Option Nat} {r : Option Ty} {G' : IM} {cells : List Value} {u : Ty} (h : r = some u) (hu : C6 G' u cells) : A1h M E r G' (.tuple ⟨[.agg ⟨cells⟩, .bool true]⟩) (H4 M E) := by
 subst h
 exact ⟨rfl, cells, u, rfl, hu, fun x hx => by cases hx; rfl⟩
theorem A33 {d : Nat} {deep : Int} {t : SV} (hd : deep + d = 5) (h : 4 < deep) : S3 d t = none := by
 obtain rfl : d = 0 := by omega
 rfl
theorem B1J {d n : Nat} {deep : Int} (hd : deep + d = 5) (h : ¬4 < deep) : S3 d (.v n) = some (.mk 2 []) := by
 obtain ⟨k, rfl⟩ : ∃ k, d = k + 1 := ⟨d - 1, by omega⟩
 rfl
theorem B1K {d : Nat} {c : Bool} {deep : Int} (hd : deep + d = 5) (h : ¬4 < deep) : S3 d (.b c) = some (.mk (if c = true then 3 else 2) []) := by
 obtain ⟨k, rfl⟩ : ∃ k, d = k + 1 := ⟨d - 1, by omega⟩
 rfl
theorem B1L {d : Nat} {c : Bool} {x y : SV} {deep : Int} (hd : deep + d = 5) (h : ¬4 < deep) : (S3 (d - 1) x = none → S3 d (.t c x y) = none) ∧ (∀ a, S3 (d - 1) x = some a → S3 (d - 1) y = none → S3 d (.t c x y) = none) ∧
  ∀ a b, S3 (d - 1) x = some a → S3 (d - 1) y = some b → S3 d (.t c x y) = some (.mk (if c = true then 5 else 4) [a, b]) := by
 obtain ⟨k, rfl⟩ : ∃ k, d = k + 1 := ⟨d - 1, by omega⟩
 rw [Nat.add_sub_cancel]
 refine ⟨fun h1 => ?_, fun a h1 h2 => ?_, fun a b h1 h2 => ?_⟩
 ·rw [S3, h1]
 ·rw [S3, h1]; simp only [h2]
 ·rw [S3, h1]; simp only [h2]
theorem B7s (M : VM) (B : BV) (E : Nat → Option Nat) (hV : A0Y M B E) :
  ∀ (t s : SV) (b d : Nat) (deep : Int) (G : IM), Q8 B s t → K6 M s b → deep + d = 5 → 1 ≤ deep → Fn Tryz.prog 15 [pt b, .int .i64 deep] (H4 M E) G (A1h M E (S3 d t)) := by
 intro t
 induction t with
 | v m =>
  intro s b d deep G hd hr hdd hd1
  obtain ⟨h, hh, rfl, hB⟩ := hd.hd
  have hF := Y9 M B E s _ b G hV hh hr
  have h0 := fun h => A33 (t := .v m) hdd h
  have h1 := fun h => B1J (n := m) hdd h
  refine C0 Tryz.func15 rfl Tryz.ntmps15 Tryz.results15 rfl ?_
  intro w0
  refine A4 ?_
  refine sE (A6 rfl) rfl (fun b3 => ?_)
  refine A9 ?_
  (refine Q9 [_] rfl hF rfl rfl rfl (fun v G1 outs hle1 hh => ?_); clear hF; obtain ⟨hG, rfl, b1, rfl, hr1⟩ := hh; replace hG := hG.symm; subst hG; simp only [List.cons_append, List.nil_append]; replace hr1 := hr1.v2)
  refine B4 ?_
  refine C2 ?_
  refine C1 ?_
  refine sB (A0w rfl rfl) rfl rfl (fun h19 => ?_) (fun h19 => ?_)
  refine M8 ?_
  refine W6 (outs := H4 M E) (rC rfl (A3 rfl rfl)) (rT rfl) zQ ?_
  (exact A1h.no (h0 zZ) (L5 _ ⟨by omega, by omega⟩))
  refine B0 ?_
  refine sQ (K0 rfl) rfl ?_
  refine E0 ?_
  refine sL (I2 rfl rfl (P0 (by repeat (first | exact V3 hr1 | apply List.Mem.tail)) rfl)) rfl rfl ?_
  refine sP (N6 rfl rfl zZ) rfl rfl ?_
  refine A9 ?_
  refine H1 rfl (A1c _ _) rfl rfl ?_
  refine B0 ?_
  refine W6 (outs := H4 M E) (rC rfl (A3 rfl rfl)) (rT rfl) zQ ?_
  (exact A1h.yes (h1 zZ) (L5 _ ⟨by omega, by omega⟩))
 | b c =>
  intro s b d deep G hd hr hdd hd1
  obtain ⟨h, hh, rfl⟩ := hd.hd
  have hF := Y9 M B E s _ b G hV hh hr
  obtain ⟨K, hK⟩ : ∃ K : Int, (if c = true then 3 else 2) = K := ⟨_, rfl⟩
  have hk0 : K ≠ 0 ∧ H5 K := by rw [← hK]; cases c <;> (refine ⟨by decide, by decide, by decide⟩)
  have h0 := fun h => A33 (t := .b c) hdd h
  have h1 := fun h => B1K (c := c) hdd h
  rw [hK] at h1
  refine C0 Tryz.func15 rfl Tryz.ntmps15 Tryz.results15 rfl ?_
  intro w0
  refine A4 ?_
  refine sE (A6 rfl) rfl (fun b3 => ?_)
  refine A9 ?_
  (refine Q9 [_] rfl hF rfl rfl rfl (fun v G1 outs hle1 hh => ?_); clear hF; obtain ⟨hG, rfl, b1, rfl, hr1⟩ := hh; replace hG := hG.symm; subst hG; simp only [List.cons_append, List.nil_append]; have hm1 := A6M hK hr1.b2 E)
  refine B4 ?_
  refine C2 ?_
  refine C1 ?_
  refine sB (A0w rfl rfl) rfl rfl (fun h19 => ?_) (fun h19 => ?_)
  refine M8 ?_
  refine W6 (outs := H4 M E) (rC rfl (A3 rfl rfl)) (rT rfl) zQ ?_
  (exact A1h.no (h0 zZ) (L5 _ ⟨by omega, by omega⟩))
  refine B0 ?_
  refine sQ (K0 rfl) rfl ?_
  refine E0 ?_
  refine sL (I2 rfl rfl (P0 (by repeat (first | exact hm1 | apply List.Mem.tail)) rfl)) rfl rfl ?_
  refine sP (D0 rfl rfl zZ) rfl rfl ?_
  refine B0 ?_
  refine sQ (K0 rfl) rfl ?_
  refine E0 ?_
  refine sL (I2 rfl rfl (P0 (by repeat (first | exact hm1 | apply List.Mem.tail)) rfl)) rfl rfl ?_
  refine sQ (A4r rfl rfl rfl) rfl ?_
  refine B0 ?_
  refine sQ (K0 rfl) rfl ?_
  refine E0 ?_
  refine sL (I2 rfl rfl (P0 (by repeat (first | exact hm1 | apply List.Mem.tail)) rfl)) rfl rfl ?_
  refine H1 rfl (A1c _ _) rfl rfl ?_
  refine B0 ?_
  refine W6 (outs := H4 M E) (rC rfl (A3 rfl rfl)) (rT rfl) zQ ?_
  (exact A1h.yes (h1 zZ) (L5 _ hk0.2))
 | t c p q ihp ihq =>
  intro s b d deep G hd hr hdd hd1
  obtain ⟨h, hh, x, y, rfl, hx, hy⟩ := hd.hd
  have hF := Y9 M B E s _ b G hV hh hr
  obtain ⟨K, hK⟩ : ∃ K : Int, (if c = true then 5 else 4) = K := ⟨_, rfl⟩
  have hk0 : K ≠ 0 ∧ H5 K := by rw [← hK]; cases c <;> (refine ⟨by decide, by decide, by decide⟩)
  have h0 := fun h => A33 (t := .t c p q) hdd h
  have h1 := fun h => B1L (c := c) (x := p) (y := q) hdd h
  rw [hK] at h1
  refine C0 Tryz.func15 rfl Tryz.ntmps15 Tryz.results15 rfl ?_
  intro w0
  refine A4 ?_
  refine sE (A6 rfl) rfl (fun b3 => ?_)
  refine A9 ?_
  (refine Q9 [_] rfl hF rfl rfl rfl (fun v G1 outs hle1 hh => ?_); clear hF; obtain ⟨hG, rfl, b1, rfl, hr1⟩ := hh; replace hG := hG.symm; subst hG; simp only [List.cons_append, List.nil_append]; obtain ⟨bx, bz, hmM, hrx, hry⟩ := hr1.t2; have hm1 := A4t hK hmM E)
  refine B4 ?_
  refine C2 ?_
  refine C1 ?_
  refine sB (A0w rfl rfl) rfl rfl (fun h19 => ?_) (fun h19 => ?_)
  refine M8 ?_
  refine W6 (outs := H4 M E) (rC rfl (A3 rfl rfl)) (rT rfl) zQ ?_
  (exact A1h.no (h0 zZ) (L5 _ ⟨by omega, by omega⟩))
  refine B0 ?_
  refine sQ (K0 rfl) rfl ?_
  refine E0 ?_
  refine sL (I2 rfl rfl (P0 (by repeat (first | exact hm1 | apply List.Mem.tail)) rfl)) rfl rfl ?_
  refine sP (D0 rfl rfl zZ) rfl rfl ?_
  refine B0 ?_
  refine sQ (K0 rfl) rfl ?_
  refine E0 ?_
  refine sL (I2 rfl rfl (P0 (by repeat (first | exact hm1 | apply List.Mem.tail)) rfl)) rfl rfl ?_
  refine sQ (A4r rfl rfl rfl) rfl ?_
  refine J4 ?_
  refine sQ (K0 rfl) rfl ?_
  refine E0 ?_
  refine sL (I2 rfl rfl (P0 (by repeat (first | exact hm1 | apply List.Mem.tail)) rfl)) rfl rfl ?_
  refine E0 ?_
  refine sP (J9 rfl rfl zZ zZ) rfl rfl ?_
  (obtain ⟨h11, h12, h13⟩ := h1 zZ; refine Q9 [_] rfl (ihp x bx (d - 1) (deep + 1) _ hx hrx zZ zZ) rfl rfl rfl (fun v G2 outs hle2 hh => ?_); obtain ⟨rfl, ca, ua, rfl, hra, hua⟩ := hh; simp only [List.cons_append, List.nil_append]; obtain ⟨pa3, ca3, ea3, rfl, _⟩ := hra.open; rcases hsa : S3 (d - 1) p with _ | ta)
  refine C1 ?_
  refine sE (A6 rfl) rfl (fun b77 => ?_)
  refine Y1 ?_
  refine W6 (outs := H4 M E) (rC rfl (A3 rfl rfl)) (rT rfl) zQ ?_
  (exact A1h.no (h11 hsa) (L5 _ ⟨by omega, by omega⟩))
  refine C1 ?_
  refine sE (A6 rfl) rfl (fun b104 => ?_)
  refine U7 ?_
  refine sQ (K0 rfl) rfl ?_
  refine E0 ?_
  refine sL (I2 rfl rfl (P0 (by repeat (first | exact hm1 | apply List.Mem.tail)) rfl)) rfl rfl ?_
  refine E0 ?_
  refine sP (J9 rfl rfl zZ zZ) rfl rfl ?_
  (refine Q9 [_, _] rfl (ihq y bz (d - 1) (deep + 1) _ hy hry zZ zZ) rfl rfl rfl (fun v G3 outs hle3 hh => ?_); obtain ⟨rfl, cb, ub, rfl, hrb, hub⟩ := hh; simp only [List.cons_append, List.nil_append]; obtain ⟨pb3, cb3, eb3, rfl, _⟩ := hrb.open; rcases hsb : S3 (d - 1) q with _ | tb)
  refine C1 ?_
  refine sE (A6 rfl) rfl (fun b131 => ?_)
  refine A8 ?_
  refine D3 D4 rfl ?_
  refine I9 (i := 0) (l' := [tt,ff,ff,ff,ff,ff,ff,ff,ff,ff]) rfl C8 (qM rfl) rfl zX rfl rfl ?_
  refine aP 1 rfl (K0 rfl) rfl ?_
  refine aP 2 rfl (C3 rfl) rfl ?_
  refine aL 3 rfl (I2 rfl rfl (P0 (by repeat (first | exact hm1 | apply List.Mem.tail)) rfl)) rfl ?_
  refine aL 4 rfl (A3 rfl rfl) rfl ?_
  refine aL 5 rfl (A3 rfl rfl) rfl ?_
  refine aP 7 rfl (qM rfl) rfl ?_
  refine A2 6 ?_
  (refine H0 rfl rfl (A2d K ua ub _ _ _ hk0.2 (hra.mono hle3) hrb) rfl rfl rfl (fun v G4 hle4 hh => ?_); obtain ⟨cab, rfl, hrab⟩ := hh; obtain ⟨pc3, cc3, ec3, rfl, _⟩ := hrab.open)
  refine A2 8 ?_
  refine C9 rfl ?_
  refine aP 9 rfl (qA rfl) rfl ?_
  refine C1 ?_
  refine W6 (outs := H4 M E) (rC rfl (A3 rfl rfl)) (rT rfl) zQ ?_
  (exact A1h.no (h12 _ hsa hsb) hrab)
  refine C1 ?_
  refine sE (A6 rfl) rfl (fun b158 => ?_)
  refine A8 ?_
  refine D3 D4 rfl ?_
  refine I9 (i := 0) (l' := [tt,ff,ff,ff,ff,ff,ff,ff,ff,ff]) rfl C8 (qM rfl) rfl zX rfl rfl ?_
  refine aP 1 rfl (K0 rfl) rfl ?_
  refine aP 2 rfl (C3 rfl) rfl ?_
  refine aL 3 rfl (I2 rfl rfl (P0 (by repeat (first | exact hm1 | apply List.Mem.tail)) rfl)) rfl ?_
  refine aL 4 rfl (A3 rfl rfl) rfl ?_
  refine aL 5 rfl (A3 rfl rfl) rfl ?_
  refine aP 7 rfl (qM rfl) rfl ?_
  refine A2 6 ?_
  (refine H0 rfl rfl (A2d K ua ub _ _ _ hk0.2 (hra.mono hle3) hrb) rfl rfl rfl (fun v G4 hle4 hh => ?_); obtain ⟨cab, rfl, hrab⟩ := hh; obtain ⟨pc3, cc3, ec3, rfl, _⟩ := hrab.open)
  refine A2 8 ?_
  refine C9 rfl ?_
  refine aP 9 rfl (qA rfl) rfl ?_
  refine C1 ?_
  refine W6 (outs := H4 M E) (rC rfl (A3 rfl rfl)) (rT rfl) zQ ?_
  (rw [hua _ hsa, hub _ hsb] at hrab; exact A1h.yes (h13 _ _ hsa hsb) hrab)
def B7t (S : IS) (s : SV) : IM → Value → List A7 → Prop := M5 fun G' v => ∃ sc tc, v = .tuple ⟨[.agg ⟨sc⟩, .agg ⟨tc⟩]⟩ ∧ R1 G' S sc ∧ Q6 G' s tc
theorem R1.add {G : IM} {S : IS} {pb pl : Option Addr} {cb cl : Nat} {eb el : List (List Value)} {e : List Value} (hB : S.B S.c = none) (hsb : Sl G pb (S.c + 1) cb 3 (eb.flatten ++ e)) (hrb : P5 G (bnd S.B S.c) eb) (he : Q6 G (.v S.c) e) (hsl : D6 G pl S.L.length cl 3 el) (hrl : P5 G S.L el) :
  R1 G ⟨S.B, S.c + 1, S.L⟩ [.slice pb (S.c + 1) cb, .slice pl S.L.length cl] := by
 have h := hrb.snoc he
 rw [← B7p hB] at h
 have hl := h.len
 rw [A3y] at hl
 exact ⟨pb, cb, eb ++ [e], pl, cl, el, rfl, D6.of (by simpa using hsb) hl (fun x hx => (h.each x hx).1) (fun x hx => (h.each x hx).2), h, hsl, hrl⟩
theorem A4W (S : IS) (hB : S.B S.c = none) (hc : S.c ≤ 1000000) (G : IM) (sc : List Value) (hs : R1 G S sc) :
  Fn Tryz.prog 52 [.agg ⟨sc⟩] [] G (B7t ⟨S.B, S.c + 1, S.L⟩ (.v S.c)) := by
 obtain ⟨pb, cb, eb, pl, cl, el, rfl, hsb, hrb, hsl, hrl⟩ := hs
 refine C0 Tryz.func52 rfl Tryz.ntmps52 Tryz.results52 rfl ?_
 intro w0
 refine A4 ?_
 refine sE (B5 rfl rfl) rfl (fun b3 => ?_)
 refine sE (A6 rfl) rfl (fun b4 => ?_)
 refine sE (A6 rfl) rfl (fun b5 => ?_)
 refine E4 ?_
 refine sE (A6 rfl) rfl (fun b14 => ?_)
 refine B4 ?_
 refine D3 D4 rfl ?_
 refine I9 (i := 1) (l' := [ff,tt,ff,ff,ff,ff,ff,ff,ff]) rfl C8 (C3 rfl) rfl zX rfl rfl ?_
 refine aL 2 rfl (E9 rfl rfl) rfl ?_
 refine aL 4 rfl (A3 rfl rfl) rfl ?_
 refine P2 (j := 0) (j' := 5) zX ?_ ?_
 (refine D2 rfl (D1 rfl rfl rfl zZ zU rfl) rfl rfl ?_; rintro _ ⟨b24, rfl⟩)
 refine P2 (j := 3) (j' := 5) zX ?_ ?_
 (refine Y3 rfl rfl rfl rfl rfl rfl (fun _ _ => by repeat (first | exact Sw.here | apply Sw.there)) hsb.sl hrb.ones (Nat.zero_le _) zU zZ rfl rfl zC (fun p4 c4 => ?_); simp only [Nat.zero_add, List.nil_append])
 refine A2 5 ?_
 (refine D2 rfl (D1 rfl rfl rfl zZ zU rfl) rfl rfl ?_; rintro _ ⟨b28, rfl⟩)
 refine A2 6 ?_
 (refine O8 rfl rfl rfl rfl rfl rfl (fun _ _ => by repeat (first | exact Sw.here | apply Sw.there)) (J7 zS) rfl zT zU zZ rfl rfl zC (fun p5 c5 => ?_))
 refine aP 7 rfl (C3 rfl) rfl ?_
 refine A2 8 ?_
 refine T3 rfl rfl rfl rfl rfl rfl rfl rfl zV zR (by rfl) ?_
 refine C1 ?_
 refine D3 D4 rfl ?_
 refine I7 (i := 0) (l' := [tt,ff,ff,ff]) rfl C8 (A3 rfl rfl) rfl zX rfl rfl ?_
 refine aL 1 rfl (A3 rfl rfl) rfl ?_
 refine A2 2 ?_
 refine C9 rfl ?_
 refine A2 3 ?_
 refine C9 rfl ?_
 refine A4 ?_
 (refine J0 (cs := eb.flatten ++ [.int .i64 0, .int .i64 (S.c : Int), .slice none 0 0]) zP (fun G5 hle5 hsl5 hno5 => ?_))
 refine tT ?_
 refine H2 (rC rfl (A3 rfl rfl)) (rC rfl (A3 rfl rfl)) ?_
 (exact ⟨rfl, _, _, rfl, R1.add hB hsl5 (hrb.mono hle5) rfl (hsl.mono hle5) (hrl.mono hle5), rfl⟩)
 (refine D2 rfl (D1 rfl rfl rfl zZ zU rfl) rfl rfl ?_; rintro _ ⟨b50, rfl⟩)
 refine A2 3 ?_
 (refine Y3 rfl rfl rfl rfl rfl rfl (fun _ _ => by repeat (first | exact Sw.here | apply Sw.there)) hsb.sl hrb.ones (Nat.zero_le _) zU zZ rfl rfl zC (fun p4 c4 => ?_); simp only [Nat.zero_add, List.nil_append])
 refine A2 6 ?_
 (refine O8 rfl rfl rfl rfl rfl rfl (fun _ _ => by repeat (first | exact Sw.here | apply Sw.there)) (J7 zS) rfl zT zU zZ rfl rfl zC (fun p5 c5 => ?_))
 refine aP 7 rfl (C3 rfl) rfl ?_
 refine A2 8 ?_
 refine T3 rfl rfl rfl rfl rfl rfl rfl rfl zV zR (by rfl) ?_
 refine C1 ?_
 refine D3 D4 rfl ?_
 refine I7 (i := 0) (l' := [tt,ff,ff,ff]) rfl C8 (A3 rfl rfl) rfl zX rfl rfl ?_
 refine aL 1 rfl (A3 rfl rfl) rfl ?_
 refine A2 2 ?_
 refine C9 rfl ?_
 refine A2 3 ?_
 refine C9 rfl ?_
 refine A4 ?_
 (refine J0 (cs := eb.flatten ++ [.int .i64 0, .int .i64 (S.c : Int), .slice none 0 0]) zP (fun G5 hle5 hsl5 hno5 => ?_))
 refine tT ?_
 refine H2 (rC rfl (A3 rfl rfl)) (rC rfl (A3 rfl rfl)) ?_
 (exact ⟨rfl, _, _, rfl, R1.add hB hsl5 (hrb.mono hle5) rfl (hsl.mono hle5) (hrl.mono hle5), rfl⟩)
 (refine D2 rfl (D1 rfl rfl rfl zZ zU rfl) rfl rfl ?_; rintro _ ⟨b74, rfl⟩)
 refine A2 0 ?_
 (refine D2 rfl (D1 rfl rfl rfl zZ zU rfl) rfl rfl ?_; rintro _ ⟨b76, rfl⟩)
 refine A2 3 ?_
 (refine Y3 rfl rfl rfl rfl rfl rfl (fun _ _ => by repeat (first | exact Sw.here | apply Sw.there)) hsb.sl hrb.ones (Nat.zero_le _) zU zZ rfl rfl zC (fun p4 c4 => ?_); simp only [Nat.zero_add, List.nil_append])
 refine A2 6 ?_
 (refine O8 rfl rfl rfl rfl rfl rfl (fun _ _ => by repeat (first | exact Sw.here | apply Sw.there)) (J7 zS) rfl zT zU zZ rfl rfl zC (fun p5 c5 => ?_))
 refine aP 7 rfl (C3 rfl) rfl ?_
 refine A2 8 ?_
 refine T3 rfl rfl rfl rfl rfl rfl rfl rfl zV zR (by rfl) ?_
 refine C1 ?_
 refine D3 D4 rfl ?_
 refine I7 (i := 0) (l' := [tt,ff,ff,ff]) rfl C8 (A3 rfl rfl) rfl zX rfl rfl ?_
 refine aL 1 rfl (A3 rfl rfl) rfl ?_
 refine A2 2 ?_
 refine C9 rfl ?_
 refine A2 3 ?_
 refine C9 rfl ?_
 refine A4 ?_
 (refine J0 (cs := eb.flatten ++ [.int .i64 0, .int .i64 (S.c : Int), .slice none 0 0]) zP (fun G5 hle5 hsl5 hno5 => ?_))
 refine tT ?_
 refine H2 (rC rfl (A3 rfl rfl)) (rC rfl (A3 rfl rfl)) ?_
 (exact ⟨rfl, _, _, rfl, R1.add hB hsl5 (hrb.mono hle5) rfl (hsl.mono hle5) (hrl.mono hle5), rfl⟩)
theorem A0s (k : Int) (G : IM) : Fn Tryz.prog 85 [.int .i64 k] [] G (K5 (.agg ⟨[.int .i64 k, .int .i64 0, .slice none 0 0]⟩) G) := by
 refine C0 Tryz.func85 rfl Tryz.ntmps85 Tryz.results85 rfl ?_
 intro w0
 refine A4 ?_
 refine sE (A6 rfl) rfl (fun b3 => ?_)
 refine J4 ?_
 refine O7 (rC rfl (A3 rfl rfl)) ?_
 (exact ⟨rfl, rfl, rfl⟩)
theorem A54 (c : Bool) (x y : SV) (G : IM) (cx cy : List Value) (hx : Q6 G x cx) (hy : Q6 G y cy) :
  Fn Tryz.prog 53 [.int .i64 (if c = true then 5 else 4), .agg ⟨cx⟩, .agg ⟨cy⟩] [] G (LtP (.t c x y)) := by
 obtain ⟨K1, N1, p1, n1, c1, rfl, _⟩ := hx.kn
 obtain ⟨K2, N2, p2, n2, c2, rfl, _⟩ := hy.kn
 obtain ⟨K, hK⟩ : ∃ K : Int, (if c = true then 5 else 4) = K := ⟨_, rfl⟩
 rw [hK]
 refine C0 Tryz.func53 rfl Tryz.ntmps53 Tryz.results53 rfl ?_
 intro w0
 refine A4 ?_
 refine sE (B5 rfl rfl) rfl (fun b3 => ?_)
 refine sE (B5 rfl rfl) rfl (fun b4 => ?_)
 refine sE (A6 rfl) rfl (fun b5 => ?_)
 refine B0 ?_
 (refine J2 (D1 rfl rfl rfl zZ zU rfl) rfl ?_; rintro _ ⟨b13, rfl⟩)
 refine B4 ?_
 (refine J0 (cs := [.int .i64 K1, .int .i64 N1, .slice p1 n1 c1, .int .i64 K2, .int .i64 N2, .slice p2 n2 c2]) zP (fun G5 hle5 hsl5 hno5 => ?_))
 refine tT ?_
 refine O7 (rC rfl (A3 rfl rfl)) ?_
 (rw [← hK]; exact ⟨rfl, _, rfl, _, _, _, _, rfl, hsl5, rfl, hx.mono hle5, hy.mono hle5⟩)
def A0S (r : Option Ty) : IM → Value → List A7 → Prop := M5 fun G' v => ∃ cells u, v = .tuple ⟨[.agg ⟨cells⟩, .bool r.isSome]⟩ ∧ C6 G' u cells ∧ ∀ x, r = some x → u = x
theorem A0S.no {r : Option Ty} {G' : IM} {cells : List Value} {u : Ty} (h : r = none) (hu : C6 G' u cells) : A0S r G' (.tuple ⟨[.agg ⟨cells⟩, .bool false]⟩) [] := by
 subst h
 exact ⟨rfl, cells, u, rfl, hu, fun x hx => by cases hx⟩
theorem A0S.yes {r : Option Ty} {G' : IM} {cells : List Value} {u : Ty} (h : r = some u) (hu : C6 G' u cells) : A0S r G' (.tuple ⟨[.agg ⟨cells⟩, .bool true]⟩) [] := by
 subst h
 exact ⟨rfl, cells, u, rfl, hu, fun x hx => by cases hx; rfl⟩
theorem B1M (S : IS) (hW : WB S.B S.c) (sc : List Value) : ∀ (r t : SV) (d : Nat) (G : IM) (tc : List Value), d ≤ 4 → Q8 S.B t r → t.lt S.c → R1 G S sc → Q6 G t tc →
  Fn Tryz.prog 23 [.agg ⟨sc⟩, .agg ⟨tc⟩, .int .i64 (d : Int)] [] G (A0S (S3 d r)) := by
 intro r
 induction r with
 | v m =>
  intro t d G tc hd4 hd ht hs hr
  obtain ⟨h, hh, rfl, hB⟩ := hd.hd
  have hF := Y0 S hW t _ G sc tc hh ht hs hr
  obtain ⟨pb, cb, eb, pl, cl, el, rfl, _⟩ := hs
  have hl3 := hr.len
  have h0 := fun h => A33 (t := .v m) (d := d) (deep := 5 - d) zZ h
  have h1 := fun h => B1J (n := m) (d := d) (deep := 5 - d) zZ h
  refine C0 Tryz.func23 rfl Tryz.ntmps23 Tryz.results23 rfl ?_
  intro w0
  refine A4 ?_
  refine sE (B5 rfl rfl) rfl (fun b3 => ?_)
  refine sE (B5 rfl rfl) rfl (fun b4 => ?_)
  refine sE (A6 rfl) rfl (fun b5 => ?_)
  refine A9 ?_
  refine sL (A5 rfl rfl (B7 zS) hl3) rfl rfl ?_
  (refine F4 rfl hF rfl rfl (fun v G1 hle1 hh => ?_); obtain ⟨hc, rfl, hrh⟩ := hh; obtain rfl := (show _ = _ from hrh))
  refine Q3 rfl rfl rfl rfl rfl rfl zR (by exact C7 (by rw [hl3]; rfl)) ?_
  refine A9 ?_
  refine sB (N0 rfl rfl) rfl rfl (fun h21 => ?_) (fun h21 => ?_)
  refine O3 ?_
  refine H2 (rC rfl (A3 rfl rfl)) (rT rfl) ?_
  (exact A0S.no (h0 zZ) (L5 _ ⟨by omega, by omega⟩))
  refine J4 ?_
  refine sP (N6 rfl rfl zZ) rfl rfl ?_
  refine A8 ?_
  refine H1 rfl (A1v _) rfl rfl ?_
  refine A9 ?_
  refine H2 (rC rfl (A3 rfl rfl)) (rT rfl) ?_
  (exact A0S.yes (h1 zZ) (L5 _ ⟨by omega, by omega⟩))
 | b c =>
  intro t d G tc hd4 hd ht hs hr
  obtain ⟨h, hh, rfl⟩ := hd.hd
  have hF := Y0 S hW t _ G sc tc hh ht hs hr
  obtain ⟨pb, cb, eb, pl, cl, el, rfl, _⟩ := hs
  have hl3 := hr.len
  obtain ⟨K, hK⟩ : ∃ K : Int, (if c = true then 3 else 2) = K := ⟨_, rfl⟩
  have hk0 : K ≠ 0 ∧ H5 K := by rw [← hK]; cases c <;> (refine ⟨by decide, by decide, by decide⟩)
  have hkd : (SV.b c).kd = K := hK
  have h0 := fun h => A33 (t := .b c) (d := d) (deep := 5 - d) zZ h
  have h1 := fun h => B1K (c := c) (d := d) (deep := 5 - d) zZ h
  rw [hK] at h1
  refine C0 Tryz.func23 rfl Tryz.ntmps23 Tryz.results23 rfl ?_
  intro w0
  refine A4 ?_
  refine sE (B5 rfl rfl) rfl (fun b3 => ?_)
  refine sE (B5 rfl rfl) rfl (fun b4 => ?_)
  refine sE (A6 rfl) rfl (fun b5 => ?_)
  refine A9 ?_
  refine sL (A5 rfl rfl (B7 zS) hl3) rfl rfl ?_
  (refine F4 rfl hF rfl rfl (fun v G1 hle1 hh => ?_); obtain ⟨hc, rfl, hrh⟩ := hh; obtain rfl := (show _ = _ from hrh); rw [hkd])
  refine Q3 rfl rfl rfl rfl rfl rfl zR (by exact C7 (by rw [hl3]; rfl)) ?_
  refine A9 ?_
  refine sB (N0 rfl rfl) rfl rfl (fun h21 => ?_) (fun h21 => ?_)
  ·refine O3 ?_
   refine H2 (rC rfl (A3 rfl rfl)) (rT rfl) ?_
   (exact A0S.no (h0 zZ) (L5 _ ⟨by omega, by omega⟩))
  ·refine J4 ?_
   refine sP (D0 rfl rfl zZ) rfl rfl ?_
   refine J4 ?_
   refine sE (A6 rfl) rfl (fun b57 => ?_)
   refine E8 ?_
   refine C2 ?_
   refine L4 (fun (_ : Unit) => ⟨[(9, .int .i64 0), (8, .pointer (some ⟨b57, 0, none⟩)), (6, .pointer (some ⟨b5, 0, none⟩)), (4, .pointer (some ⟨b4, 0, none⟩))], [.blk b57 [.int .i64 K, .slice none 0 0], .blk b5 [.int .i64 0, .slice none 0 0], .blk b4 [.int .i64 K, .int .i64 0, .slice none 0 0]], G1⟩) (fun _ => True) (fun _ => 0) () ?_ ?_ ?_
   ·exact F9
   ·trivial
   ·(rintro _ _)
    refine B0 ?_
    refine sP (A1J rfl rfl zZ) rfl rfl ?_
    refine N7 ?_
    refine H2 (rC rfl (A3 rfl rfl)) (rT rfl) ?_
    (exact A0S.yes (h1 zZ) (L5 _ hk0.2))
 | t c p q ihp ihq =>
  intro t d G tc hd4 hd ht hs hr
  obtain ⟨h, hh, x, y, rfl, hx, hy⟩ := hd.hd
  have hF := Y0 S hW t _ G sc tc hh ht hs hr
  have hlt := hh.lt hW ht
  have hs0 := hs
  obtain ⟨pb, cb, eb, pl, cl, el, rfl, _⟩ := hs
  have hl3 := hr.len
  obtain ⟨K, hK⟩ : ∃ K : Int, (if c = true then 5 else 4) = K := ⟨_, rfl⟩
  have hk0 : K ≠ 0 ∧ H5 K := by rw [← hK]; cases c <;> (refine ⟨by decide, by decide, by decide⟩)
  have h0 := fun h => A33 (t := .t c p q) (d := d) (deep := 5 - d) zZ h
  have h1 := fun h => B1L (c := c) (x := p) (y := q) (d := d) (deep := 5 - d) zZ h
  rw [hK] at h1
  obtain ⟨r1, hr1⟩ : ∃ o, S3 (d - 1) p = o := ⟨_, rfl⟩
  obtain ⟨r2, hr2⟩ : ∃ o, S3 (d - 1) q = o := ⟨_, rfl⟩
  refine C0 Tryz.func23 rfl Tryz.ntmps23 Tryz.results23 rfl ?_
  intro w0
  refine A4 ?_
  refine sE (B5 rfl rfl) rfl (fun b3 => ?_)
  refine sE (B5 rfl rfl) rfl (fun b4 => ?_)
  refine sE (A6 rfl) rfl (fun b5 => ?_)
  refine A9 ?_
  refine sL (A5 rfl rfl (B7 zS) hl3) rfl rfl ?_
  (refine F4 rfl hF rfl rfl (fun v G1 hle1 hh => ?_); obtain ⟨hc, rfl, hrh⟩ := hh; obtain ⟨bb, bo, bc, ex, ez, rfl, hlx, hlz, hatx, hatz, hrx, hrz, hgb⟩ := hrh.two; rw [hK]; have hs1 := hs0.mono hle1)
  refine Q3 rfl rfl rfl rfl rfl rfl zR (by exact C7 (by rw [hl3]; rfl)) ?_
  refine A9 ?_
  refine sB (N0 rfl rfl) rfl rfl (fun h21 => ?_) (fun h21 => ?_)
  refine O3 ?_
  refine H2 (rC rfl (A3 rfl rfl)) (rT rfl) ?_
  (exact A0S.no (h0 zZ) (L5 _ ⟨by omega, by omega⟩))
  refine J4 ?_
  refine sP (D0 rfl rfl zZ) rfl rfl ?_
  refine J4 ?_
  refine sE (A6 rfl) rfl (fun b57 => ?_)
  refine E8 ?_
  refine C2 ?_
  (obtain ⟨h11, h12, h13⟩ := h1 zZ; refine W4 25 2 ?_; refine L4 (fun (x : Nat × Option Addr × Nat × List Ty × List (List Value) × IM) => ⟨[(9, .int .i64 (x.1 : Int)), (8, .pointer (some ⟨b57, 0, none⟩)), (7, .bool false), (6, .pointer (some ⟨b5, 0, none⟩)), (4, .pointer (some ⟨b4, 0, none⟩)), (3, .pointer (some ⟨b3, 0, none⟩)), (2, .int .i64 (d : Int))], [.slc x.2.1 x.2.2.1 25 2 x.2.2.2.1.length x.2.2.2.2.1.flatten, .blk b57 [.int .i64 K, .slice x.2.1 x.2.2.2.1.length x.2.2.1], .blk b5 [.int .i64 0, .slice none 0 0], .blk b4 [.int .i64 K, .int .i64 0, .slice (some ⟨bb, bo, none⟩) 2 bc], .blk b3 [.slice pb S.c cb, .slice pl S.L.length cl]], x.2.2.2.2.2⟩) (fun x => B9 G1 x.2.2.2.2.2 ∧ D8 x.2.2.2.2.2 x.2.2.2.1 x.2.2.2.2.1 ∧ x.2.2.2.1.length = x.1 ∧ ((x.1 = 0 ∧ x.2.2.2.1 = []) ∨ (x.1 = 1 ∧ ∃ a, r1 = some a ∧ x.2.2.2.1 = [a]) ∨ (x.1 = 2 ∧ ∃ a b, r1 = some a ∧ r2 = some b ∧ x.2.2.2.1 = [a, b]))) (fun x => 2 - x.1) (0, none, 0, [], [], G1) ?_ ?_ ?_)
  (simp only [I6]; exact F9)
  (exact ⟨B9.refl _, by simp [D8], rfl, .inl ⟨rfl, rfl⟩⟩)
  (rintro ⟨(i : Nat), pn, cn, us, es, Gi⟩ ⟨hle, hus, hul, hor⟩; simp only [] at hle hus hul hor ⊢; have h1i := ihp x (d - 1) Gi ex zZ hx (fun m hm => hlt m (.inl hm)) (hs1.mono hle) (hrx.mono hle); have h2i := ihq y (d - 1) Gi ez zZ hy (fun m hm => hlt m (.inr hm)) (hs1.mono hle) (hrz.mono hle); rw [hr1] at h1i; rw [hr2] at h2i; rw [show ((d - 1 : Nat) : Int) = (d : Int) - 1 from by omega] at h1i h2i; have hatxi := At.im hle hgb hatx; have hatzi := At.im hle hgb hatz; rcases hor with ⟨rfl, rfl⟩ | ⟨rfl, a1, hra, rfl⟩ | ⟨rfl, a1, b1, hra, hrb, rfl⟩)
  refine B0 ?_
  refine sP (A1Z rfl rfl zZ) rfl rfl ?_
  refine A9 ?_
  refine C2 ?_
  refine tS ?_
  refine D3 D4 rfl ?_
  refine I7 (i := 0) (l' := [tt,ff,ff,ff,ff,ff,ff,ff,ff,ff,ff,ff,ff,ff,ff]) rfl C8 (A3 rfl rfl) rfl zX rfl rfl ?_
  refine aP 1 rfl (C3 rfl) rfl ?_
  refine aL 2 rfl (E9 rfl rfl) rfl ?_
  refine aP 3 rfl (qM rfl) rfl ?_
  refine aP 4 rfl (B6 (j := 0) rfl rfl rfl zZ) rfl ?_
  refine aL 5 rfl (A5 rfl rfl (hatxi _) hlx) rfl ?_
  refine aP 6 rfl (qM rfl) rfl ?_
  refine aP 7 rfl (Q7 rfl rfl zZ zZ) rfl ?_
  refine P2 (j := 8) (j' := 12) zX ?_ ?_
  (refine H0 rfl rfl h1i rfl rfl rfl (fun v G2 hle2 hh => ?_); obtain ⟨cu, u, rfl, hru, hu⟩ := hh; obtain ⟨pu, ku, eu, rfl, _⟩ := hru.open; rcases r1 with _ | a)
  refine aP 9 rfl (qM rfl) rfl ?_
  refine aP 10 rfl (pX rfl rfl) rfl ?_
  refine aP 11 rfl (pX rfl rfl) rfl ?_
  refine A2 12 ?_
  (refine D2 rfl (A6 rfl) rfl rfl ?_; rintro _ ⟨b103, rfl⟩)
  refine A2 13 ?_
  refine C9 rfl ?_
  refine aP 14 rfl (qA rfl) rfl ?_
  refine A12 ?_
  refine H2 (rC rfl (A3 rfl rfl)) (rT rfl) ?_
  (exact A0S.no (h11 hr1) (L5 _ ⟨by omega, by omega⟩))
  refine aP 9 rfl (qM rfl) rfl ?_
  refine aP 10 rfl (pX rfl rfl) rfl ?_
  refine aP 11 rfl (pX rfl rfl) rfl ?_
  refine A2 12 ?_
  (refine D2 rfl (A6 rfl) rfl rfl ?_; rintro _ ⟨b137, rfl⟩)
  refine A2 13 ?_
  refine C9 rfl ?_
  refine aP 14 rfl (qA rfl) rfl ?_
  refine N7 ?_
  (refine J2 (D1 rfl rfl rfl zZ zU rfl) rfl ?_; rintro _ ⟨b157, rfl⟩)
  (refine X1 rfl rfl rfl rfl rfl (fun _ _ => by repeat (first | exact Sw.here | apply Sw.there)) (J7 zS) rfl zT (by unfold maxLen; simp) zA0 rfl (fun pn' cn' => ?_))
  refine B0 ?_
  refine sP (J9 rfl rfl zZ zZ) rfl rfl ?_
  refine A4 ?_
  (have hua := hu _ rfl; refine J6 (1, pn', cn', [u], es ++ [[.int .i64 u.k, .slice pu u.ks.length ku]], G2) (by simp only [List.length_nil, List.length_cons, I6, Nat.zero_add]; exact (I1 zO zJ)) ?_ ?_)
  (exact ⟨hle.trans hle2, by simpa using (hus.mono hle2).snoc hru, rfl, .inr (.inl ⟨rfl, _, by rw [hua], rfl⟩)⟩)
  (show 2 - 1 < 2 - 0; omega)
  (refine D2 rfl (A6 rfl) rfl rfl ?_; rintro _ ⟨b172, rfl⟩)
  refine A2 8 ?_
  (refine H0 rfl rfl h1i rfl rfl rfl (fun v G2 hle2 hh => ?_); obtain ⟨cu, u, rfl, hru, hu⟩ := hh; obtain ⟨pu, ku, eu, rfl, _⟩ := hru.open; rcases r1 with _ | a)
  refine aP 9 rfl (qM rfl) rfl ?_
  refine aP 10 rfl (pX rfl rfl) rfl ?_
  refine aP 11 rfl (pX rfl rfl) rfl ?_
  refine A2 13 ?_
  refine C9 rfl ?_
  refine aP 14 rfl (qA rfl) rfl ?_
  refine A12 ?_
  refine H2 (rC rfl (A3 rfl rfl)) (rT rfl) ?_
  (exact A0S.no (h11 hr1) (L5 _ ⟨by omega, by omega⟩))
  refine aP 9 rfl (qM rfl) rfl ?_
  refine aP 10 rfl (pX rfl rfl) rfl ?_
  refine aP 11 rfl (pX rfl rfl) rfl ?_
  refine A2 13 ?_
  refine C9 rfl ?_
  refine aP 14 rfl (qA rfl) rfl ?_
  refine N7 ?_
  (refine J2 (D1 rfl rfl rfl zZ zU rfl) rfl ?_; rintro _ ⟨b229, rfl⟩)
  (refine X1 rfl rfl rfl rfl rfl (fun _ _ => by repeat (first | exact Sw.here | apply Sw.there)) (J7 zS) rfl zT (by unfold maxLen; simp) zA0 rfl (fun pn' cn' => ?_))
  refine B0 ?_
  refine sP (J9 rfl rfl zZ zZ) rfl rfl ?_
  refine A4 ?_
  (have hua := hu _ rfl; refine J6 (1, pn', cn', [u], es ++ [[.int .i64 u.k, .slice pu u.ks.length ku]], G2) (by simp only [List.length_nil, List.length_cons, I6, Nat.zero_add]; exact (I1 zO zJ)) ?_ ?_)
  (exact ⟨hle.trans hle2, by simpa using (hus.mono hle2).snoc hru, rfl, .inr (.inl ⟨rfl, _, by rw [hua], rfl⟩)⟩)
  (show 2 - 1 < 2 - 0; omega)
  refine B0 ?_
  refine sP (A1Z rfl rfl zZ) rfl rfl ?_
  refine A9 ?_
  refine C2 ?_
  refine tS ?_
  refine D3 D4 rfl ?_
  refine I7 (i := 0) (l' := [tt,ff,ff,ff,ff,ff,ff,ff,ff,ff,ff,ff,ff,ff,ff]) rfl C8 (A3 rfl rfl) rfl zX rfl rfl ?_
  refine aP 1 rfl (C3 rfl) rfl ?_
  refine aL 2 rfl (E9 rfl rfl) rfl ?_
  refine aP 3 rfl (qM rfl) rfl ?_
  refine aP 4 rfl (B6 (j := 1) rfl rfl rfl zZ) rfl ?_
  refine aL 5 rfl (A5 rfl rfl (hatzi _) hlz) rfl ?_
  refine aP 6 rfl (qM rfl) rfl ?_
  refine aP 7 rfl (Q7 rfl rfl zZ zZ) rfl ?_
  refine P2 (j := 8) (j' := 12) zX ?_ ?_
  (refine H0 rfl rfl h2i rfl rfl rfl (fun v G2 hle2 hh => ?_); obtain ⟨cu, u, rfl, hru, hu⟩ := hh; obtain ⟨pu, ku, eu, rfl, _⟩ := hru.open; rcases r2 with _ | b)
  refine aP 9 rfl (qM rfl) rfl ?_
  refine aP 10 rfl (pX rfl rfl) rfl ?_
  refine aP 11 rfl (pX rfl rfl) rfl ?_
  refine A2 12 ?_
  (refine D2 rfl (A6 rfl) rfl rfl ?_; rintro _ ⟨b275, rfl⟩)
  refine A2 13 ?_
  refine C9 rfl ?_
  refine aP 14 rfl (qA rfl) rfl ?_
  refine A12 ?_
  refine H2 (rC rfl (A3 rfl rfl)) (rT rfl) ?_
  (exact A0S.no (h12 _ (hr1.trans hra) hr2) (L5 _ ⟨by omega, by omega⟩))
  refine aP 9 rfl (qM rfl) rfl ?_
  refine aP 10 rfl (pX rfl rfl) rfl ?_
  refine aP 11 rfl (pX rfl rfl) rfl ?_
  refine A2 12 ?_
  (refine D2 rfl (A6 rfl) rfl rfl ?_; rintro _ ⟨b309, rfl⟩)
  refine A2 13 ?_
  refine C9 rfl ?_
  refine aP 14 rfl (qA rfl) rfl ?_
  refine N7 ?_
  (refine J2 (D1 rfl rfl rfl zZ zU rfl) rfl ?_; rintro _ ⟨b329, rfl⟩)
  (refine X1 rfl rfl rfl rfl rfl (fun _ _ => by repeat (first | exact Sw.here | apply Sw.there)) (J7 zS) rfl zT (by unfold maxLen; simp) zA0 rfl (fun pn' cn' => ?_))
  refine B0 ?_
  refine sP (J9 rfl rfl zZ zZ) rfl rfl ?_
  refine A4 ?_
  (have hub := hu _ rfl; refine J6 (2, pn', cn', [a1, u], es ++ [[.int .i64 u.k, .slice pu u.ks.length ku]], G2) (by simp only [List.length_nil, List.length_cons, I6, Nat.zero_add]; exact (I1 zO zJ)) ?_ ?_)
  (exact ⟨hle.trans hle2, by simpa using (hus.mono hle2).snoc hru, rfl, .inr (.inr ⟨rfl, _, _, hra, by rw [hub], rfl⟩)⟩)
  (show 2 - 2 < 2 - 1; omega)
  (refine D2 rfl (A6 rfl) rfl rfl ?_; rintro _ ⟨b344, rfl⟩)
  refine A2 8 ?_
  (refine H0 rfl rfl h2i rfl rfl rfl (fun v G2 hle2 hh => ?_); obtain ⟨cu, u, rfl, hru, hu⟩ := hh; obtain ⟨pu, ku, eu, rfl, _⟩ := hru.open; rcases r2 with _ | b)
  refine aP 9 rfl (qM rfl) rfl ?_
  refine aP 10 rfl (pX rfl rfl) rfl ?_
  refine aP 11 rfl (pX rfl rfl) rfl ?_
  refine A2 13 ?_
  refine C9 rfl ?_
  refine aP 14 rfl (qA rfl) rfl ?_
  refine A12 ?_
  refine H2 (rC rfl (A3 rfl rfl)) (rT rfl) ?_
  (exact A0S.no (h12 _ (hr1.trans hra) hr2) (L5 _ ⟨by omega, by omega⟩))
  refine aP 9 rfl (qM rfl) rfl ?_
  refine aP 10 rfl (pX rfl rfl) rfl ?_
  refine aP 11 rfl (pX rfl rfl) rfl ?_
  refine A2 13 ?_
  refine C9 rfl ?_
  refine aP 14 rfl (qA rfl) rfl ?_
  refine N7 ?_
  (refine J2 (D1 rfl rfl rfl zZ zU rfl) rfl ?_; rintro _ ⟨b401, rfl⟩)
  (refine X1 rfl rfl rfl rfl rfl (fun _ _ => by repeat (first | exact Sw.here | apply Sw.there)) (J7 zS) rfl zT (by unfold maxLen; simp) zA0 rfl (fun pn' cn' => ?_))
  refine B0 ?_
  refine sP (J9 rfl rfl zZ zZ) rfl rfl ?_
  refine A4 ?_
  (have hub := hu _ rfl; refine J6 (2, pn', cn', [a1, u], es ++ [[.int .i64 u.k, .slice pu u.ks.length ku]], G2) (by simp only [List.length_nil, List.length_cons, I6, Nat.zero_add]; exact (I1 zO zJ)) ?_ ?_)
  (exact ⟨hle.trans hle2, by simpa using (hus.mono hle2).snoc hru, rfl, .inr (.inr ⟨rfl, _, _, hra, by rw [hub], rfl⟩)⟩)
  (show 2 - 2 < 2 - 1; omega)
  refine B0 ?_
  refine sP (A1J rfl rfl zZ) rfl rfl ?_
  refine I5 ?_
  (have hg2 : r1 = some a1 := hra; have hg3 : r2 = some b1 := hrb; refine J0 (cs := es.flatten) zP (fun G5 hle5 hsl5 hno5 => ?_))
  refine tT ?_
  refine H2 (rC rfl (A3 rfl rfl)) (rT rfl) ?_
  (exact A0S.yes (h13 _ _ (hr1.trans hg2) (hr2.trans hg3)) ((hus.mono hle5).ty rfl hsl5 hk0.2))
def R8 (S : IS) (o : Option SV) : IM → Value → List A7 → Prop := M5 fun G' v => ∃ sc tc u, v = .tuple ⟨[.agg ⟨sc⟩, .agg ⟨tc⟩, .bool o.isSome]⟩ ∧ R1 G' S sc ∧ Q6 G' u tc ∧ ∀ s, o = some s → u = s
theorem R8.mk {S : IS} {o : Option SV} {G' : IM} {sc tc : List Value} {b : Bool} (u : SV) (hb : o.isSome = b) (hs : R1 G' S sc) (ht : Q6 G' u tc) (hu : ∀ s, o = some s → u = s) : R8 S o G' (.tuple ⟨[.agg ⟨sc⟩, .agg ⟨tc⟩, .bool b]⟩) [] := by
 subst hb
 exact ⟨rfl, sc, tc, u, rfl, hs, ht, hu⟩
theorem V6 {G G' : IM} {b : Nat} (h : B9 G G') (hb : G b ≠ none) : G' b ≠ none := fun hn => by
 cases hg : G b with
 | none => exact hb hg
 | some l => rw [h _ _ hg] at hn; cases hn
theorem A34 {α : Type} {ok : Bool} {x s : α} (h : (if ok = true then some x else none) = some s) : x = s := by
 split at h <;> cases h; rfl
theorem A35 {α : Type} {b : Bool} {x : α} : (if b = true then some x else none).isSome = b := by cases b <;> rfl
theorem B7u (S : IS) (hS : S.ok) (hc : S.c ≤ 999990) (G : IM) (sc : List Value) (nm : ByteArray) (num tk fk lb : Int) (pt pf q : Option Addr) (tn ct fn cf qn cq : Nat) (pk : Option Addr) (ck : Nat) (ek : List (List Value)) (hs : R1 G S sc) (hsk : D6 G pk 0 ck 3 ek) (hrk : P5 G [] ek) :
  Fn Tryz.prog 54 [.agg ⟨sc⟩, .agg ⟨[.int .i64 2, .string nm, .int .i64 num, .int .i64 tk, .slice pt tn ct, .int .i64 fk, .slice pf fn cf, .int .i64 lb, .slice q qn cq]⟩, .slice pk 0 ck] [] G (R8 S (some (.b false))) := by
 have hW := hS.wb
 have hs0 := hs
 obtain ⟨sp, sn, sk, sq, sm, sd, rfl⟩ := hs.two
 have hle0 := B9.refl G
 refine C0 Tryz.func54 rfl Tryz.ntmps54 Tryz.results54 rfl ?_
 intro w0
 refine A4 ?_
 refine sE (B5 rfl rfl) rfl (fun b3 => ?_)
 refine sE (B5 rfl rfl) rfl (fun b4 => ?_)
 refine sE (A6 rfl) rfl (fun b5 => ?_)
 refine sE (A6 rfl) rfl (fun b6 => ?_)
 refine A8 ?_
 refine H1 rfl (A0s _ _) rfl rfl ?_
 refine sE (A6 rfl) rfl (fun b13 => ?_)
 refine A8 ?_
 refine H1 rfl (A0s _ _) rfl rfl ?_
 refine sE (A6 rfl) rfl (fun b20 => ?_)
 refine W5 ?_
 refine C2 ?_
 refine A4 ?_
 refine sP (N6 rfl rfl zZ) rfl rfl ?_
 refine A8 ?_
 refine D3 D4 rfl ?_
 refine I7 (i := 0) (l' := [tt,ff,ff,ff,ff]) rfl C8 (A3 rfl rfl) rfl zX rfl rfl ?_
 refine aL 1 rfl (A3 rfl rfl) rfl ?_
 refine A2 2 ?_
 refine C9 rfl ?_
 refine A2 3 ?_
 refine C9 rfl ?_
 refine aP 4 rfl (qA rfl) rfl ?_
 refine A8 ?_
 refine F0 (rC rfl (A3 rfl rfl)) (rC rfl (A3 rfl rfl)) (rT rfl) ?_
 (exact R8.mk (.b false) rfl hs0 rfl (fun s h => by cases h; rfl))
theorem B7v (S : IS) (hS : S.ok) (hc : S.c ≤ 999990) (k : Int) (hk : k = 3 ∨ k = 4) (G : IM) (sc : List Value) (nm : ByteArray) (num tk fk lb : Int) (pt pf q : Option Addr) (tn ct fn cf qn cq : Nat) (pk : Option Addr) (ck : Nat) (ek : List (List Value)) (hs : R1 G S sc) (hsk : D6 G pk 0 ck 3 ek) (hrk : P5 G [] ek) :
  Fn Tryz.prog 54 [.agg ⟨sc⟩, .agg ⟨[.int .i64 k, .string nm, .int .i64 num, .int .i64 tk, .slice pt tn ct, .int .i64 fk, .slice pf fn cf, .int .i64 lb, .slice q qn cq]⟩, .slice pk 0 ck] [] G (R8 S (some (.b true))) := by
 have hW := hS.wb
 have hs0 := hs
 obtain ⟨sp, sn, sk, sq, sm, sd, rfl⟩ := hs.two
 have hle0 := B9.refl G
 refine C0 Tryz.func54 rfl Tryz.ntmps54 Tryz.results54 rfl ?_
 intro w0
 refine A4 ?_
 refine sE (B5 rfl rfl) rfl (fun b3 => ?_)
 refine sE (B5 rfl rfl) rfl (fun b4 => ?_)
 refine sE (A6 rfl) rfl (fun b5 => ?_)
 refine sE (A6 rfl) rfl (fun b6 => ?_)
 refine A8 ?_
 refine H1 rfl (A0s _ _) rfl rfl ?_
 refine sE (A6 rfl) rfl (fun b13 => ?_)
 refine A8 ?_
 refine H1 rfl (A0s _ _) rfl rfl ?_
 refine sE (A6 rfl) rfl (fun b20 => ?_)
 refine W5 ?_
 refine C2 ?_
 refine A4 ?_
 refine sP (D0 rfl rfl zZ) rfl rfl ?_
 refine B0 ?_
 refine sB (qE rfl rfl) rfl rfl (fun h52 => ?_) (fun h52 => ?_)
 refine E4 ?_
 refine D3 D4 rfl ?_
 refine I7 (i := 0) (l' := [tt,ff,ff,ff,ff]) rfl C8 (A3 rfl rfl) rfl zX rfl rfl ?_
 refine aL 1 rfl (A3 rfl rfl) rfl ?_
 refine A2 2 ?_
 refine C9 rfl ?_
 refine A2 3 ?_
 refine C9 rfl ?_
 refine aP 4 rfl (qA rfl) rfl ?_
 refine A8 ?_
 refine F0 (rC rfl (A3 rfl rfl)) (rC rfl (A3 rfl rfl)) (rT rfl) ?_
 (exact R8.mk (.b true) rfl hs0 rfl (fun s h => by cases h; rfl))
 refine A8 ?_
 refine sP (N6 rfl rfl zZ) rfl rfl ?_
 refine A8 ?_
 refine D3 D4 rfl ?_
 refine I7 (i := 0) (l' := [tt,ff,ff,ff,ff]) rfl C8 (A3 rfl rfl) rfl zX rfl rfl ?_
 refine aL 1 rfl (A3 rfl rfl) rfl ?_
 refine A2 2 ?_
 refine C9 rfl ?_
 refine A2 3 ?_
 refine C9 rfl ?_
 refine aP 4 rfl (qA rfl) rfl ?_
 refine A8 ?_
 refine F0 (rC rfl (A3 rfl rfl)) (rC rfl (A3 rfl rfl)) (rT rfl) ?_
 (exact R8.mk (.b true) rfl hs0 rfl (fun s h => by cases h; rfl))
theorem B7w (S : IS) (hS : S.ok) (hc : S.c ≤ 999990) (x y : SV) (G : IM) (sc : List Value) (nm : ByteArray) (num tk fk lb : Int) (pt pf q : Option Addr) (tn ct fn cf qn cq : Nat) (pk : Option Addr) (ck : Nat) (ek : List (List Value)) (hs : R1 G S sc) (hsk : D6 G pk 2 ck 3 ek) (hrk : P5 G [x, y] ek) :
  Fn Tryz.prog 54 [.agg ⟨sc⟩, .agg ⟨[.int .i64 10, .string nm, .int .i64 num, .int .i64 tk, .slice pt tn ct, .int .i64 fk, .slice pf fn cf, .int .i64 lb, .slice q qn cq]⟩, .slice pk 2 ck] [] G (R8 S (some (.t true x y))) := by
 have hW := hS.wb
 have hs0 := hs
 obtain ⟨sp, sn, sk, sq, sm, sd, rfl⟩ := hs.two
 obtain ⟨bH, oH, e0, rfl, hl0, hat0, hr0, hgb⟩ := hsk.lt hrk (i := 0) rfl zY
 have ho0 := hr0.one
 obtain ⟨_, _, e1, hp1, hl1, hat1, hr1, _⟩ := hsk.lt hrk (i := 1) rfl zY
 cases hp1
 have ho1 := hr1.one
 have hle0 := B9.refl G
 refine C0 Tryz.func54 rfl Tryz.ntmps54 Tryz.results54 rfl ?_
 intro w0
 refine A4 ?_
 refine sE (B5 rfl rfl) rfl (fun b3 => ?_)
 refine sE (B5 rfl rfl) rfl (fun b4 => ?_)
 refine sE (A6 rfl) rfl (fun b5 => ?_)
 refine sE (A6 rfl) rfl (fun b6 => ?_)
 refine A8 ?_
 refine H1 rfl (A0s _ _) rfl rfl ?_
 refine sE (A6 rfl) rfl (fun b13 => ?_)
 refine A8 ?_
 refine H1 rfl (A0s _ _) rfl rfl ?_
 refine sE (A6 rfl) rfl (fun b20 => ?_)
 refine W5 ?_
 refine C2 ?_
 refine A4 ?_
 refine sP (D0 rfl rfl zZ) rfl rfl ?_
 refine B0 ?_
 refine sP (D0 rfl rfl zZ) rfl rfl ?_
 refine A8 ?_
 refine sP (D0 rfl rfl zZ) rfl rfl ?_
 refine A9 ?_
 refine sP (N6 rfl rfl zZ) rfl rfl ?_
 refine A8 ?_
 refine D3 D4 rfl ?_
 refine I7 (i := 0) (l' := [tt,ff,ff,ff,ff,ff,ff,ff,ff,ff,ff]) rfl C8 (A3 rfl rfl) rfl zX rfl rfl ?_
 refine aP 1 rfl (qM rfl) rfl ?_
 refine aP 2 rfl (B6 (j := 0) rfl rfl rfl zY) rfl ?_
 refine aL 3 rfl (A5 rfl rfl (At.im hle0 hgb hat0 _) hl0) rfl ?_
 refine aP 4 rfl (qM rfl) rfl ?_
 refine aP 5 rfl (B6 (j := 1) rfl rfl rfl zY) rfl ?_
 refine aL 6 rfl (A5 rfl rfl (At.im hle0 hgb hat1 _) hl1) rfl ?_
 refine A2 7 ?_
 (refine H0 rfl rfl (A54 true x y G e0 e1 hr0 hr1) rfl rfl rfl (fun v G1 hle1 hh => ?_); obtain ⟨ct2, rfl, hrt⟩ := hh; have hlt := hrt.len; have hot := hrt.one)
 refine A2 8 ?_
 refine C9 rfl ?_
 refine A2 9 ?_
 refine P1 rfl rfl rfl rfl hlt hot rfl rfl zR (by exact C7 (by rw [hlt]; rfl)) zC ?_
 refine aP 10 rfl (qA rfl) rfl ?_
 refine A8 ?_
 refine F0 (rC rfl (A3 rfl rfl)) (rC rfl (A5 rfl rfl (B7 zS) hlt)) (rT rfl) ?_
 (exact R8.mk _ rfl (hs0.mono hle1) hrt (fun s h => by cases h; rfl))
theorem B7x (S : IS) (hS : S.ok) (hc : S.c ≤ 999990) (k : Int) (hk : k = 7 ∨ k = 8) (x y : SV) (hx : x.lt S.c) (B1 : BV) (hu : Q2 S.B x (.b false) B1 false) (G : IM) (sc : List Value) (nm : ByteArray) (num tk fk lb : Int) (pt pf q : Option Addr) (tn ct fn cf qn cq : Nat) (pk : Option Addr) (ck : Nat) (ek : List (List Value)) (hs : R1 G S sc) (hsk : D6 G pk 2 ck 3 ek) (hrk : P5 G [x, y] ek) :
  Fn Tryz.prog 54 [.agg ⟨sc⟩, .agg ⟨[.int .i64 k, .string nm, .int .i64 num, .int .i64 tk, .slice pt tn ct, .int .i64 fk, .slice pf fn cf, .int .i64 lb, .slice q qn cq]⟩, .slice pk 2 ck] [] G (R8 ⟨B1, S.c, S.L⟩ none) := by
 have hW := hS.wb
 have hs0 := hs
 obtain ⟨sp, sn, sk, sq, sm, sd, rfl⟩ := hs.two
 obtain ⟨bH, oH, e0, rfl, hl0, hat0, hr0, hgb⟩ := hsk.lt hrk (i := 0) rfl zY
 have ho0 := hr0.one
 obtain ⟨_, _, e1, hp1, hl1, hat1, hr1, _⟩ := hsk.lt hrk (i := 1) rfl zY
 cases hp1
 have ho1 := hr1.one
 have hle0 := B9.refl G
 refine C0 Tryz.func54 rfl Tryz.ntmps54 Tryz.results54 rfl ?_
 intro w0
 refine A4 ?_
 refine sE (B5 rfl rfl) rfl (fun b3 => ?_)
 refine sE (B5 rfl rfl) rfl (fun b4 => ?_)
 refine sE (A6 rfl) rfl (fun b5 => ?_)
 refine sE (A6 rfl) rfl (fun b6 => ?_)
 refine A8 ?_
 refine H1 rfl (A0s _ _) rfl rfl ?_
 refine sE (A6 rfl) rfl (fun b13 => ?_)
 refine A8 ?_
 refine H1 rfl (A0s _ _) rfl rfl ?_
 refine sE (A6 rfl) rfl (fun b20 => ?_)
 refine W5 ?_
 refine C2 ?_
 refine A4 ?_
 refine sP (D0 rfl rfl zZ) rfl rfl ?_
 refine B0 ?_
 refine sP (D0 rfl rfl zZ) rfl rfl ?_
 refine A8 ?_
 refine sP (D0 rfl rfl zZ) rfl rfl ?_
 refine A9 ?_
 refine sP (D0 rfl rfl zZ) rfl rfl ?_
 refine B0 ?_
 refine sB (qE rfl rfl) rfl rfl (fun h73 => ?_) (fun h73 => ?_)
 refine E4 ?_
 refine D3 D4 rfl ?_
 refine I7 (i := 0) (l' := [tt,ff,ff,ff,ff,ff,ff,ff,ff,ff,ff]) rfl C8 (A3 rfl rfl) rfl zX rfl rfl ?_
 refine aP 1 rfl (qM rfl) rfl ?_
 refine aP 2 rfl (B6 (j := 0) rfl rfl rfl zY) rfl ?_
 refine aL 3 rfl (A5 rfl rfl (At.im hle0 hgb hat0 _) hl0) rfl ?_
 refine aL 4 rfl (A3 rfl rfl) rfl ?_
 refine A2 5 ?_
 (refine H0 rfl rfl (A1X hu S.c S.L G _ e0 _ hW zZ hx (X8 _ _) hs0 hr0 rfl) rfl rfl rfl (fun v G1 hle1 hh => ?_); obtain ⟨sc1, rfl, hs1⟩ := hh; have hs10 := hs1; obtain ⟨tp1, tn1, tk1, tq1, tm1, td1, rfl⟩ := hs1.two; replace hle0 := hle0.trans hle1; have hgbi := V6 hle0 hgb)
 refine aP 6 rfl (qM rfl) rfl ?_
 refine aP 7 rfl (pX rfl rfl) rfl ?_
 refine aP 8 rfl (pX rfl rfl) rfl ?_
 refine A2 9 ?_
 refine C9 rfl ?_
 refine aP 10 rfl (qA rfl) rfl ?_
 refine N7 ?_
 refine sP (D0 rfl rfl zZ) rfl rfl ?_
 refine A9 ?_
 refine D3 D4 rfl ?_
 refine I7 (i := 0) (l' := [tt,ff,ff,ff,ff,ff,ff,ff,ff]) rfl C8 (A3 rfl rfl) rfl zX rfl rfl ?_
 refine aL 1 rfl (A3 rfl rfl) rfl ?_
 refine aP 2 rfl (qM rfl) rfl ?_
 refine aP 3 rfl (qM rfl) rfl ?_
 refine D5 4 rfl rfl rfl ?_
 refine aP 5 rfl (T1 rfl rfl) rfl ?_
 refine A2 6 ?_
 refine C9 rfl ?_
 refine A2 7 ?_
 refine C9 rfl ?_
 refine aP 8 rfl (qA rfl) rfl ?_
 refine A8 ?_
 refine F0 (rC rfl (A3 rfl rfl)) (rC rfl (A3 rfl rfl)) (rT rfl) ?_
 (exact R8.mk (.b false) rfl hs10 rfl (fun s h => by cases h))
 refine A8 ?_
 refine sP (N6 rfl rfl zZ) rfl rfl ?_
 refine A8 ?_
 refine D3 D4 rfl ?_
 refine I7 (i := 0) (l' := [tt,ff,ff,ff,ff,ff,ff,ff,ff,ff,ff]) rfl C8 (A3 rfl rfl) rfl zX rfl rfl ?_
 refine aP 1 rfl (qM rfl) rfl ?_
 refine aP 2 rfl (B6 (j := 0) rfl rfl rfl zY) rfl ?_
 refine aL 3 rfl (A5 rfl rfl (At.im hle0 hgb hat0 _) hl0) rfl ?_
 refine aL 4 rfl (A3 rfl rfl) rfl ?_
 refine A2 5 ?_
 (refine H0 rfl rfl (A1X hu S.c S.L G _ e0 _ hW zZ hx (X8 _ _) hs0 hr0 rfl) rfl rfl rfl (fun v G1 hle1 hh => ?_); obtain ⟨sc1, rfl, hs1⟩ := hh; have hs10 := hs1; obtain ⟨tp1, tn1, tk1, tq1, tm1, td1, rfl⟩ := hs1.two; replace hle0 := hle0.trans hle1; have hgbi := V6 hle0 hgb)
 refine aP 6 rfl (qM rfl) rfl ?_
 refine aP 7 rfl (pX rfl rfl) rfl ?_
 refine aP 8 rfl (pX rfl rfl) rfl ?_
 refine A2 9 ?_
 refine C9 rfl ?_
 refine aP 10 rfl (qA rfl) rfl ?_
 refine N7 ?_
 refine sP (N6 rfl rfl zZ) rfl rfl ?_
 refine B4 ?_
 refine D3 D4 rfl ?_
 refine I7 (i := 0) (l' := [tt,ff,ff,ff,ff,ff,ff,ff,ff]) rfl C8 (A3 rfl rfl) rfl zX rfl rfl ?_
 refine aL 1 rfl (A3 rfl rfl) rfl ?_
 refine aP 2 rfl (qM rfl) rfl ?_
 refine aP 3 rfl (qM rfl) rfl ?_
 refine D5 4 rfl rfl rfl ?_
 refine aP 5 rfl (T1 rfl rfl) rfl ?_
 refine A2 6 ?_
 refine C9 rfl ?_
 refine A2 7 ?_
 refine C9 rfl ?_
 refine aP 8 rfl (qA rfl) rfl ?_
 refine A9 ?_
 refine F0 (rC rfl (A3 rfl rfl)) (rC rfl (A3 rfl rfl)) (rT rfl) ?_
 (exact R8.mk (.b true) rfl hs10 rfl (fun s h => by cases h))
theorem B7y (S : IS) (hS : S.ok) (hc : S.c ≤ 999990) (k : Int) (hk : k = 7 ∨ k = 8) (x y : SV) (hx : x.lt S.c) (hy : y.lt S.c) (B1 B2 : BV) (ok : Bool) (hu : Q2 S.B x (.b false) B1 true) (hu2 : Q2 B1 y (.b false) B2 ok) (G : IM) (sc : List Value) (nm : ByteArray) (num tk fk lb : Int) (pt pf q : Option Addr) (tn ct fn cf qn cq : Nat) (pk : Option Addr) (ck : Nat) (ek : List (List Value)) (hs : R1 G S sc) (hsk : D6 G pk 2 ck 3 ek) (hrk : P5 G [x, y] ek) :
  Fn Tryz.prog 54 [.agg ⟨sc⟩, .agg ⟨[.int .i64 k, .string nm, .int .i64 num, .int .i64 tk, .slice pt tn ct, .int .i64 fk, .slice pf fn cf, .int .i64 lb, .slice q qn cq]⟩, .slice pk 2 ck] [] G (R8 ⟨B2, S.c, S.L⟩ (if ok = true then some (.b (decide (k = 8))) else none)) := by
 have hW := hS.wb
 have hs0 := hs
 obtain ⟨sp, sn, sk, sq, sm, sd, rfl⟩ := hs.two
 obtain ⟨bH, oH, e0, rfl, hl0, hat0, hr0, hgb⟩ := hsk.lt hrk (i := 0) rfl zY
 have ho0 := hr0.one
 obtain ⟨_, _, e1, hp1, hl1, hat1, hr1, _⟩ := hsk.lt hrk (i := 1) rfl zY
 cases hp1
 have ho1 := hr1.one
 have hle0 := B9.refl G
 have hW1 := A1W hu hW hx (X8 false _)
 refine C0 Tryz.func54 rfl Tryz.ntmps54 Tryz.results54 rfl ?_
 intro w0
 refine A4 ?_
 refine sE (B5 rfl rfl) rfl (fun b3 => ?_)
 refine sE (B5 rfl rfl) rfl (fun b4 => ?_)
 refine sE (A6 rfl) rfl (fun b5 => ?_)
 refine sE (A6 rfl) rfl (fun b6 => ?_)
 refine A8 ?_
 refine H1 rfl (A0s _ _) rfl rfl ?_
 refine sE (A6 rfl) rfl (fun b13 => ?_)
 refine A8 ?_
 refine H1 rfl (A0s _ _) rfl rfl ?_
 refine sE (A6 rfl) rfl (fun b20 => ?_)
 refine W5 ?_
 refine C2 ?_
 refine A4 ?_
 refine sP (D0 rfl rfl zZ) rfl rfl ?_
 refine B0 ?_
 refine sP (D0 rfl rfl zZ) rfl rfl ?_
 refine A8 ?_
 refine sP (D0 rfl rfl zZ) rfl rfl ?_
 refine A9 ?_
 refine sP (D0 rfl rfl zZ) rfl rfl ?_
 refine B0 ?_
 refine sB (qE rfl rfl) rfl rfl (fun h73 => ?_) (fun h73 => ?_)
 refine E4 ?_
 refine D3 D4 rfl ?_
 refine I7 (i := 0) (l' := [tt,ff,ff,ff,ff,ff,ff,ff,ff,ff,ff]) rfl C8 (A3 rfl rfl) rfl zX rfl rfl ?_
 refine aP 1 rfl (qM rfl) rfl ?_
 refine aP 2 rfl (B6 (j := 0) rfl rfl rfl zY) rfl ?_
 refine aL 3 rfl (A5 rfl rfl (At.im hle0 hgb hat0 _) hl0) rfl ?_
 refine aL 4 rfl (A3 rfl rfl) rfl ?_
 refine A2 5 ?_
 (refine H0 rfl rfl (A1X hu S.c S.L G _ e0 _ hW zZ hx (X8 _ _) hs0 hr0 rfl) rfl rfl rfl (fun v G1 hle1 hh => ?_); obtain ⟨sc1, rfl, hs1⟩ := hh; have hs10 := hs1; obtain ⟨tp1, tn1, tk1, tq1, tm1, td1, rfl⟩ := hs1.two; replace hle0 := hle0.trans hle1; have hgbi := V6 hle0 hgb)
 refine aP 6 rfl (qM rfl) rfl ?_
 refine aP 7 rfl (pX rfl rfl) rfl ?_
 refine aP 8 rfl (pX rfl rfl) rfl ?_
 refine A2 9 ?_
 refine C9 rfl ?_
 refine aP 10 rfl (qA rfl) rfl ?_
 refine E8 ?_
 refine D3 D4 rfl ?_
 refine I7 (i := 0) (l' := [tt,ff,ff,ff,ff,ff,ff,ff,ff,ff,ff]) rfl C8 (A3 rfl rfl) rfl zX rfl rfl ?_
 refine aP 1 rfl (qM rfl) rfl ?_
 refine aP 2 rfl (B6 (j := 1) rfl rfl rfl zY) rfl ?_
 refine aL 3 rfl (A5 rfl rfl (At.im hle0 hgb hat1 _) hl1) rfl ?_
 refine aL 4 rfl (A3 rfl rfl) rfl ?_
 refine A2 5 ?_
 (refine H0 rfl rfl (A1X hu2 S.c S.L G1 _ e1 _ hW1 zZ hy (X8 _ _) hs10 (hr1.mono hle1) rfl) rfl rfl rfl (fun v G2 hle2 hh => ?_); obtain ⟨sc2, rfl, hs2⟩ := hh; have hs20 := hs2; obtain ⟨tp2, tn2, tk2, tq2, tm2, td2, rfl⟩ := hs2.two; replace hle0 := hle0.trans hle2; have hgbi := V6 hle0 hgb)
 refine aP 6 rfl (qM rfl) rfl ?_
 refine aP 7 rfl (pX rfl rfl) rfl ?_
 refine aP 8 rfl (pX rfl rfl) rfl ?_
 refine A2 9 ?_
 refine C9 rfl ?_
 refine aP 10 rfl (qA rfl) rfl ?_
 refine B0 ?_
 refine sP (D0 rfl rfl zZ) rfl rfl ?_
 refine A9 ?_
 refine D3 D4 rfl ?_
 refine I7 (i := 0) (l' := [tt,ff,ff,ff,ff,ff,ff,ff,ff]) rfl C8 (A3 rfl rfl) rfl zX rfl rfl ?_
 refine aL 1 rfl (A3 rfl rfl) rfl ?_
 refine aP 2 rfl (qM rfl) rfl ?_
 refine aP 3 rfl (qM rfl) rfl ?_
 refine aP 4 rfl (qM rfl) rfl ?_
 refine aP 5 rfl (R3 rfl rfl) rfl ?_
 refine A2 6 ?_
 refine C9 rfl ?_
 refine A2 7 ?_
 refine C9 rfl ?_
 refine aP 8 rfl (qA rfl) rfl ?_
 refine A8 ?_
 refine F0 (rC rfl (A3 rfl rfl)) (rC rfl (A3 rfl rfl)) (rT rfl) ?_
 (have hd8 : decide (k = 8) = false := decide_eq_false zZ; rw [hd8]; exact R8.mk (.b false) A35 hs20 rfl (fun s h => A34 h))
 refine A8 ?_
 refine sP (N6 rfl rfl zZ) rfl rfl ?_
 refine A8 ?_
 refine D3 D4 rfl ?_
 refine I7 (i := 0) (l' := [tt,ff,ff,ff,ff,ff,ff,ff,ff,ff,ff]) rfl C8 (A3 rfl rfl) rfl zX rfl rfl ?_
 refine aP 1 rfl (qM rfl) rfl ?_
 refine aP 2 rfl (B6 (j := 0) rfl rfl rfl zY) rfl ?_
 refine aL 3 rfl (A5 rfl rfl (At.im hle0 hgb hat0 _) hl0) rfl ?_
 refine aL 4 rfl (A3 rfl rfl) rfl ?_
 refine A2 5 ?_
 (refine H0 rfl rfl (A1X hu S.c S.L G _ e0 _ hW zZ hx (X8 _ _) hs0 hr0 rfl) rfl rfl rfl (fun v G1 hle1 hh => ?_); obtain ⟨sc1, rfl, hs1⟩ := hh; have hs10 := hs1; obtain ⟨tp1, tn1, tk1, tq1, tm1, td1, rfl⟩ := hs1.two; replace hle0 := hle0.trans hle1; have hgbi := V6 hle0 hgb)
 refine aP 6 rfl (qM rfl) rfl ?_
 refine aP 7 rfl (pX rfl rfl) rfl ?_
 refine aP 8 rfl (pX rfl rfl) rfl ?_
 refine A2 9 ?_
 refine C9 rfl ?_
 refine aP 10 rfl (qA rfl) rfl ?_
 refine E8 ?_
 refine D3 D4 rfl ?_
 refine I7 (i := 0) (l' := [tt,ff,ff,ff,ff,ff,ff,ff,ff,ff,ff]) rfl C8 (A3 rfl rfl) rfl zX rfl rfl ?_
 refine aP 1 rfl (qM rfl) rfl ?_
 refine aP 2 rfl (B6 (j := 1) rfl rfl rfl zY) rfl ?_
 refine aL 3 rfl (A5 rfl rfl (At.im hle0 hgb hat1 _) hl1) rfl ?_
 refine aL 4 rfl (A3 rfl rfl) rfl ?_
 refine A2 5 ?_
 (refine H0 rfl rfl (A1X hu2 S.c S.L G1 _ e1 _ hW1 zZ hy (X8 _ _) hs10 (hr1.mono hle1) rfl) rfl rfl rfl (fun v G2 hle2 hh => ?_); obtain ⟨sc2, rfl, hs2⟩ := hh; have hs20 := hs2; obtain ⟨tp2, tn2, tk2, tq2, tm2, td2, rfl⟩ := hs2.two; replace hle0 := hle0.trans hle2; have hgbi := V6 hle0 hgb)
 refine aP 6 rfl (qM rfl) rfl ?_
 refine aP 7 rfl (pX rfl rfl) rfl ?_
 refine aP 8 rfl (pX rfl rfl) rfl ?_
 refine A2 9 ?_
 refine C9 rfl ?_
 refine aP 10 rfl (qA rfl) rfl ?_
 refine B0 ?_
 refine sP (N6 rfl rfl zZ) rfl rfl ?_
 refine B4 ?_
 refine D3 D4 rfl ?_
 refine I7 (i := 0) (l' := [tt,ff,ff,ff,ff,ff,ff,ff,ff]) rfl C8 (A3 rfl rfl) rfl zX rfl rfl ?_
 refine aL 1 rfl (A3 rfl rfl) rfl ?_
 refine aP 2 rfl (qM rfl) rfl ?_
 refine aP 3 rfl (qM rfl) rfl ?_
 refine aP 4 rfl (qM rfl) rfl ?_
 refine aP 5 rfl (R3 rfl rfl) rfl ?_
 refine A2 6 ?_
 refine C9 rfl ?_
 refine A2 7 ?_
 refine C9 rfl ?_
 refine aP 8 rfl (qA rfl) rfl ?_
 refine A9 ?_
 refine F0 (rC rfl (A3 rfl rfl)) (rC rfl (A3 rfl rfl)) (rT rfl) ?_
 (have hd8 : decide (k = 8) = true := decide_eq_true zZ; rw [hd8]; exact R8.mk (.b true) A35 hs20 rfl (fun s h => A34 h))
theorem B7z (S : IS) (hS : S.ok) (hc : S.c ≤ 999990) (x y z : SV) (hx : x.lt S.c) (B1 : BV) (hu : Q2 S.B x (.b true) B1 false) (G : IM) (sc : List Value) (nm : ByteArray) (num tk fk lb : Int) (pt pf q : Option Addr) (tn ct fn cf qn cq : Nat) (pk : Option Addr) (ck : Nat) (ek : List (List Value)) (hs : R1 G S sc) (hsk : D6 G pk 3 ck 3 ek) (hrk : P5 G [x, y, z] ek) :
  Fn Tryz.prog 54 [.agg ⟨sc⟩, .agg ⟨[.int .i64 9, .string nm, .int .i64 num, .int .i64 tk, .slice pt tn ct, .int .i64 fk, .slice pf fn cf, .int .i64 lb, .slice q qn cq]⟩, .slice pk 3 ck] [] G (R8 ⟨B1, S.c, S.L⟩ none) := by
 have hW := hS.wb
 have hs0 := hs
 obtain ⟨sp, sn, sk, sq, sm, sd, rfl⟩ := hs.two
 obtain ⟨bH, oH, e0, rfl, hl0, hat0, hr0, hgb⟩ := hsk.lt hrk (i := 0) rfl zY
 have ho0 := hr0.one
 obtain ⟨_, _, e1, hp1, hl1, hat1, hr1, _⟩ := hsk.lt hrk (i := 1) rfl zY
 cases hp1
 have ho1 := hr1.one
 obtain ⟨_, _, e2, hp2, hl2, hat2, hr2, _⟩ := hsk.lt hrk (i := 2) rfl zY
 cases hp2
 have ho2 := hr2.one
 have hle0 := B9.refl G
 refine C0 Tryz.func54 rfl Tryz.ntmps54 Tryz.results54 rfl ?_
 intro w0
 refine A4 ?_
 refine sE (B5 rfl rfl) rfl (fun b3 => ?_)
 refine sE (B5 rfl rfl) rfl (fun b4 => ?_)
 refine sE (A6 rfl) rfl (fun b5 => ?_)
 refine sE (A6 rfl) rfl (fun b6 => ?_)
 refine A8 ?_
 refine H1 rfl (A0s _ _) rfl rfl ?_
 refine sE (A6 rfl) rfl (fun b13 => ?_)
 refine A8 ?_
 refine H1 rfl (A0s _ _) rfl rfl ?_
 refine sE (A6 rfl) rfl (fun b20 => ?_)
 refine W5 ?_
 refine C2 ?_
 refine A4 ?_
 refine sP (D0 rfl rfl zZ) rfl rfl ?_
 refine B0 ?_
 refine sP (D0 rfl rfl zZ) rfl rfl ?_
 refine A8 ?_
 refine sP (D0 rfl rfl zZ) rfl rfl ?_
 refine A9 ?_
 refine sP (D0 rfl rfl zZ) rfl rfl ?_
 refine B0 ?_
 refine sP (D0 rfl rfl zZ) rfl rfl ?_
 refine A8 ?_
 refine sP (D0 rfl rfl zZ) rfl rfl ?_
 refine A9 ?_
 refine sP (N6 rfl rfl zZ) rfl rfl ?_
 refine A8 ?_
 refine D3 D4 rfl ?_
 refine I7 (i := 0) (l' := [tt,ff,ff,ff,ff,ff,ff,ff,ff,ff,ff]) rfl C8 (A3 rfl rfl) rfl zX rfl rfl ?_
 refine aP 1 rfl (qM rfl) rfl ?_
 refine aP 2 rfl (B6 (j := 0) rfl rfl rfl zY) rfl ?_
 refine aL 3 rfl (A5 rfl rfl (At.im hle0 hgb hat0 _) hl0) rfl ?_
 refine aL 4 rfl (A3 rfl rfl) rfl ?_
 refine A2 5 ?_
 (refine H0 rfl rfl (A1X hu S.c S.L G _ e0 _ hW zZ hx (X8 _ _) hs0 hr0 rfl) rfl rfl rfl (fun v G1 hle1 hh => ?_); obtain ⟨sc1, rfl, hs1⟩ := hh; have hs10 := hs1; obtain ⟨tp1, tn1, tk1, tq1, tm1, td1, rfl⟩ := hs1.two; replace hle0 := hle0.trans hle1; have hgbi := V6 hle0 hgb)
 refine aP 6 rfl (qM rfl) rfl ?_
 refine aP 7 rfl (pX rfl rfl) rfl ?_
 refine aP 8 rfl (pX rfl rfl) rfl ?_
 refine A2 9 ?_
 refine P1 rfl rfl rfl rfl rfl rfl rfl rfl zR (by rfl) (by repeat (first | exact A1.nil | apply A1.dep zV | apply A1.im zV hgbi zS | apply A1.blk zV zP zS)) ?_
 refine aP 10 rfl (qA rfl) rfl ?_
 refine O3 ?_
 refine D3 D4 rfl ?_
 refine I7 (i := 0) (l' := [tt,ff,ff,ff,ff,ff,ff,ff,ff,ff,ff]) rfl C8 (A3 rfl rfl) rfl zX rfl rfl ?_
 refine aP 1 rfl (qM rfl) rfl ?_
 refine aP 2 rfl (B6 (j := 1) rfl rfl rfl zY) rfl ?_
 refine aL 3 rfl (A5 rfl rfl (At.im hle0 hgb hat1 _) hl1) rfl ?_
 refine aP 4 rfl (qM rfl) rfl ?_
 refine aP 5 rfl (qM rfl) rfl ?_
 refine D5 6 rfl rfl rfl ?_
 refine aP 7 rfl (T1 rfl rfl) rfl ?_
 refine A2 8 ?_
 refine P1 rfl rfl rfl rfl rfl rfl rfl rfl zR (by rfl) (by repeat (first | exact A1.nil | apply A1.dep zV | apply A1.im zV hgbi zS | apply A1.blk zV zP zS)) ?_
 refine A2 9 ?_
 refine P1 rfl rfl rfl rfl hl1 ho1 rfl rfl zR (by exact C7 (by rw [hl1]; rfl)) zC ?_
 refine aP 10 rfl (qA rfl) rfl ?_
 refine A8 ?_
 refine F0 (rC rfl (A3 rfl rfl)) (rC rfl (A5 rfl rfl (B7 zS) hl1)) (rT rfl) ?_
 (exact R8.mk y rfl hs10 (hr1.mono hle1) (fun s h => by cases h))
theorem B7A (S : IS) (hS : S.ok) (hc : S.c ≤ 999990) (x y z : SV) (hx : x.lt S.c) (hy : y.lt S.c) (hz : z.lt S.c) (B1 B2 : BV) (ok : Bool) (hu : Q2 S.B x (.b true) B1 true) (hu2 : Q2 B1 y z B2 ok) (G : IM) (sc : List Value) (nm : ByteArray) (num tk fk lb : Int) (pt pf q : Option Addr) (tn ct fn cf qn cq : Nat) (pk : Option Addr) (ck : Nat) (ek : List (List Value)) (hs : R1 G S sc) (hsk : D6 G pk 3 ck 3 ek) (hrk : P5 G [x, y, z] ek) :
  Fn Tryz.prog 54 [.agg ⟨sc⟩, .agg ⟨[.int .i64 9, .string nm, .int .i64 num, .int .i64 tk, .slice pt tn ct, .int .i64 fk, .slice pf fn cf, .int .i64 lb, .slice q qn cq]⟩, .slice pk 3 ck] [] G (R8 ⟨B2, S.c, S.L⟩ (if ok = true then some y else none)) := by
 have hW := hS.wb
 have hs0 := hs
 obtain ⟨sp, sn, sk, sq, sm, sd, rfl⟩ := hs.two
 obtain ⟨bH, oH, e0, rfl, hl0, hat0, hr0, hgb⟩ := hsk.lt hrk (i := 0) rfl zY
 have ho0 := hr0.one
 obtain ⟨_, _, e1, hp1, hl1, hat1, hr1, _⟩ := hsk.lt hrk (i := 1) rfl zY
 cases hp1
 have ho1 := hr1.one
 obtain ⟨_, _, e2, hp2, hl2, hat2, hr2, _⟩ := hsk.lt hrk (i := 2) rfl zY
 cases hp2
 have ho2 := hr2.one
 have hle0 := B9.refl G
 have hW1 := A1W hu hW hx (X8 true _)
 refine C0 Tryz.func54 rfl Tryz.ntmps54 Tryz.results54 rfl ?_
 intro w0
 refine A4 ?_
 refine sE (B5 rfl rfl) rfl (fun b3 => ?_)
 refine sE (B5 rfl rfl) rfl (fun b4 => ?_)
 refine sE (A6 rfl) rfl (fun b5 => ?_)
 refine sE (A6 rfl) rfl (fun b6 => ?_)
 refine A8 ?_
 refine H1 rfl (A0s _ _) rfl rfl ?_
 refine sE (A6 rfl) rfl (fun b13 => ?_)
 refine A8 ?_
 refine H1 rfl (A0s _ _) rfl rfl ?_
 refine sE (A6 rfl) rfl (fun b20 => ?_)
 refine W5 ?_
 refine C2 ?_
 refine A4 ?_
 refine sP (D0 rfl rfl zZ) rfl rfl ?_
 refine B0 ?_
 refine sP (D0 rfl rfl zZ) rfl rfl ?_
 refine A8 ?_
 refine sP (D0 rfl rfl zZ) rfl rfl ?_
 refine A9 ?_
 refine sP (D0 rfl rfl zZ) rfl rfl ?_
 refine B0 ?_
 refine sP (D0 rfl rfl zZ) rfl rfl ?_
 refine A8 ?_
 refine sP (D0 rfl rfl zZ) rfl rfl ?_
 refine A9 ?_
 refine sP (N6 rfl rfl zZ) rfl rfl ?_
 refine A8 ?_
 refine D3 D4 rfl ?_
 refine I7 (i := 0) (l' := [tt,ff,ff,ff,ff,ff,ff,ff,ff,ff,ff]) rfl C8 (A3 rfl rfl) rfl zX rfl rfl ?_
 refine aP 1 rfl (qM rfl) rfl ?_
 refine aP 2 rfl (B6 (j := 0) rfl rfl rfl zY) rfl ?_
 refine aL 3 rfl (A5 rfl rfl (At.im hle0 hgb hat0 _) hl0) rfl ?_
 refine aL 4 rfl (A3 rfl rfl) rfl ?_
 refine A2 5 ?_
 (refine H0 rfl rfl (A1X hu S.c S.L G _ e0 _ hW zZ hx (X8 _ _) hs0 hr0 rfl) rfl rfl rfl (fun v G1 hle1 hh => ?_); obtain ⟨sc1, rfl, hs1⟩ := hh; have hs10 := hs1; obtain ⟨tp1, tn1, tk1, tq1, tm1, td1, rfl⟩ := hs1.two; replace hle0 := hle0.trans hle1; have hgbi := V6 hle0 hgb)
 refine aP 6 rfl (qM rfl) rfl ?_
 refine aP 7 rfl (pX rfl rfl) rfl ?_
 refine aP 8 rfl (pX rfl rfl) rfl ?_
 refine A2 9 ?_
 refine P1 rfl rfl rfl rfl rfl rfl rfl rfl zR (by rfl) (by repeat (first | exact A1.nil | apply A1.dep zV | apply A1.im zV hgbi zS | apply A1.blk zV zP zS)) ?_
 refine aP 10 rfl (qA rfl) rfl ?_
 refine E8 ?_
 refine D3 D4 rfl ?_
 refine I7 (i := 0) (l' := [tt,ff,ff,ff,ff,ff,ff,ff,ff,ff,ff,ff,ff]) rfl C8 (A3 rfl rfl) rfl zX rfl rfl ?_
 refine aP 1 rfl (qM rfl) rfl ?_
 refine aP 2 rfl (B6 (j := 1) rfl rfl rfl zY) rfl ?_
 refine aL 3 rfl (A5 rfl rfl (At.im hle0 hgb hat1 _) hl1) rfl ?_
 refine aP 4 rfl (qM rfl) rfl ?_
 refine aP 5 rfl (B6 (j := 2) rfl rfl rfl zY) rfl ?_
 refine aL 6 rfl (A5 rfl rfl (At.im hle0 hgb hat2 _) hl2) rfl ?_
 refine A2 7 ?_
 (refine H0 rfl rfl (A1X hu2 S.c S.L G1 _ e1 e2 hW1 zZ hy hz hs10 (hr1.mono hle1) (hr2.mono hle1)) rfl rfl rfl (fun v G2 hle2 hh => ?_); obtain ⟨sc2, rfl, hs2⟩ := hh; have hs20 := hs2; obtain ⟨tp2, tn2, tk2, tq2, tm2, td2, rfl⟩ := hs2.two; replace hle0 := hle0.trans hle2; have hgbi := V6 hle0 hgb)
 refine aP 8 rfl (qM rfl) rfl ?_
 refine aP 9 rfl (pX rfl rfl) rfl ?_
 refine aP 10 rfl (pX rfl rfl) rfl ?_
 refine A2 11 ?_
 refine P1 rfl rfl rfl rfl rfl rfl rfl rfl zR (by rfl) (by repeat (first | exact A1.nil | apply A1.dep zV | apply A1.im zV hgbi zS | apply A1.blk zV zP zS)) ?_
 refine aP 12 rfl (qA rfl) rfl ?_
 refine C1 ?_
 refine D3 D4 rfl ?_
 refine I7 (i := 0) (l' := [tt,ff,ff,ff,ff,ff,ff,ff,ff,ff,ff]) rfl C8 (A3 rfl rfl) rfl zX rfl rfl ?_
 refine aP 1 rfl (qM rfl) rfl ?_
 refine aP 2 rfl (B6 (j := 1) rfl rfl rfl zY) rfl ?_
 refine aL 3 rfl (A5 rfl rfl (At.im hle0 hgb hat1 _) hl1) rfl ?_
 refine aP 4 rfl (qM rfl) rfl ?_
 refine aP 5 rfl (qM rfl) rfl ?_
 refine aP 6 rfl (qM rfl) rfl ?_
 refine aP 7 rfl (R3 rfl rfl) rfl ?_
 refine A2 8 ?_
 refine P1 rfl rfl rfl rfl rfl rfl rfl rfl zR (by rfl) (by repeat (first | exact A1.nil | apply A1.dep zV | apply A1.im zV hgbi zS | apply A1.blk zV zP zS)) ?_
 refine A2 9 ?_
 refine P1 rfl rfl rfl rfl hl1 ho1 rfl rfl zR (by exact C7 (by rw [hl1]; rfl)) zC ?_
 refine aP 10 rfl (qA rfl) rfl ?_
 refine A8 ?_
 refine F0 (rC rfl (A3 rfl rfl)) (rC rfl (A5 rfl rfl (B7 zS) hl1)) (rT rfl) ?_
 (exact R8.mk y A35 hs20 ((hr1.mono hle1).mono hle2) (fun s h => A34 h))
theorem B7B (S : IS) (hS : S.ok) (hc : S.c ≤ 999990) (x y : SV) (hx : x.lt S.c) (hy : y.lt S.c) (hB : S.B S.c = none) (hB2 : S.B (S.c + 1) = none) (B1 : BV) (ok : Bool) (hu : Q2 S.B x (.t false y (.v S.c)) B1 ok) (G : IM) (sc : List Value) (nm : ByteArray) (num tk fk lb : Int) (pt pf q : Option Addr) (tn ct fn cf qn cq : Nat) (pk : Option Addr) (ck : Nat) (ek : List (List Value)) (hs : R1 G S sc) (hsk : D6 G pk 2 ck 3 ek) (hrk : P5 G [x, y] ek) :
  Fn Tryz.prog 54 [.agg ⟨sc⟩, .agg ⟨[.int .i64 6, .string nm, .int .i64 num, .int .i64 tk, .slice pt tn ct, .int .i64 fk, .slice pf fn cf, .int .i64 lb, .slice q qn cq]⟩, .slice pk 2 ck] [] G (R8 ⟨B1, S.c + 2, S.L⟩ (if ok = true then some (.v S.c) else none)) := by
 have hW := hS.wb
 have hs0 := hs
 obtain ⟨sp, sn, sk, sq, sm, sd, rfl⟩ := hs.two
 obtain ⟨bH, oH, e0, rfl, hl0, hat0, hr0, hgb⟩ := hsk.lt hrk (i := 0) rfl zY
 have ho0 := hr0.one
 obtain ⟨_, _, e1, hp1, hl1, hat1, hr1, _⟩ := hsk.lt hrk (i := 1) rfl zY
 cases hp1
 have ho1 := hr1.one
 have hle0 := B9.refl G
 have hW2 : WB S.B (S.c + 2) := hW.mono zZ
 have hx2 := hx.mono (show S.c ≤ S.c + 2 by omega)
 have hva : (SV.v S.c).lt (S.c + 2) := Y4 zZ
 have hvb : (SV.v (S.c + 1)).lt (S.c + 2) := Y4 zZ
 have hy2 := hy.mono (show S.c ≤ S.c + 2 by omega)
 refine C0 Tryz.func54 rfl Tryz.ntmps54 Tryz.results54 rfl ?_
 intro w0
 refine A4 ?_
 refine sE (B5 rfl rfl) rfl (fun b3 => ?_)
 refine sE (B5 rfl rfl) rfl (fun b4 => ?_)
 refine sE (A6 rfl) rfl (fun b5 => ?_)
 refine sE (A6 rfl) rfl (fun b6 => ?_)
 refine A8 ?_
 refine H1 rfl (A0s _ _) rfl rfl ?_
 refine sE (A6 rfl) rfl (fun b13 => ?_)
 refine A8 ?_
 refine H1 rfl (A0s _ _) rfl rfl ?_
 refine sE (A6 rfl) rfl (fun b20 => ?_)
 refine W5 ?_
 refine C2 ?_
 refine A4 ?_
 refine sP (D0 rfl rfl zZ) rfl rfl ?_
 refine B0 ?_
 refine sP (D0 rfl rfl zZ) rfl rfl ?_
 refine A8 ?_
 refine sP (D0 rfl rfl zZ) rfl rfl ?_
 refine A9 ?_
 refine sP (D0 rfl rfl zZ) rfl rfl ?_
 refine B0 ?_
 refine sP (D0 rfl rfl zZ) rfl rfl ?_
 refine A8 ?_
 refine sP (D0 rfl rfl zZ) rfl rfl ?_
 refine A9 ?_
 refine sP (D0 rfl rfl zZ) rfl rfl ?_
 refine J4 ?_
 (refine F4 rfl (A4W S hB zZ G _ hs0) rfl rfl (fun v G5 hle5 hh => ?_); obtain ⟨sc5, ta, rfl, hs5, hra⟩ := hh; have hs50 := hs5; obtain ⟨tp5, tn5, tk5, tq5, tm5, td5, rfl⟩ := hs5.two; obtain rfl := (show _ = _ from hra); replace hle0 := hle0.trans hle5)
 refine C1 ?_
 refine sE (A6 rfl) rfl (fun b101 => ?_)
 refine B0 ?_
 (refine F4 rfl (A4W ⟨S.B, S.c + 1, S.L⟩ hB2 (by dsimp only; omega) G5 _ hs50) rfl rfl (fun v G6 hle6 hh => ?_); obtain ⟨sc6, tb, rfl, hs6, hrb⟩ := hh; have hs60 := hs6; obtain ⟨tp6, tn6, tk6, tq6, tm6, td6, rfl⟩ := hs6.two; obtain rfl := (show _ = _ from hrb); replace hle0 := hle0.trans hle6)
 refine C1 ?_
 refine sE (A6 rfl) rfl (fun b113 => ?_)
 refine E8 ?_
 refine sP (N6 rfl rfl zZ) rfl rfl ?_
 refine B4 ?_
 refine D3 D4 rfl ?_
 refine I7 (i := 0) (l' := [tt,ff,ff,ff,ff,ff,ff,ff,ff,ff,ff,ff,ff,ff,ff]) rfl C8 (A3 rfl rfl) rfl zX rfl rfl ?_
 refine aP 1 rfl (qM rfl) rfl ?_
 refine aP 2 rfl (B6 (j := 0) rfl rfl rfl zY) rfl ?_
 refine aL 3 rfl (A5 rfl rfl (At.im hle0 hgb hat0 _) hl0) rfl ?_
 refine aP 4 rfl (qM rfl) rfl ?_
 refine aP 5 rfl (B6 (j := 1) rfl rfl rfl zY) rfl ?_
 refine aL 6 rfl (A5 rfl rfl (At.im hle0 hgb hat1 _) hl1) rfl ?_
 refine aL 7 rfl (A3 rfl rfl) rfl ?_
 refine A2 8 ?_
 (refine H0 rfl rfl (A54 false y (.v S.c) G6 e1 _ ((hr1.mono hle5).mono hle6) rfl) rfl rfl rfl (fun v G7 hle7 hh => ?_); obtain ⟨ct2, rfl, hrt⟩ := hh; replace hle0 := hle0.trans hle7)
 refine A2 9 ?_
 (refine H0 rfl rfl (A1X hu (S.c + 2) S.L G7 _ e0 ct2 hW2 zZ hx2 (A18 hy2 hva) (hs60.mono hle7) (((hr0.mono hle5).mono hle6).mono hle7) hrt) rfl rfl rfl (fun v G8 hle8 hh => ?_); obtain ⟨sc8, rfl, hs8⟩ := hh; have hs80 := hs8; obtain ⟨tp8, tn8, tk8, tq8, tm8, td8, rfl⟩ := hs8.two; replace hle0 := hle0.trans hle8; have hgbi := V6 hle0 hgb)
 refine aP 10 rfl (qM rfl) rfl ?_
 refine aP 11 rfl (pX rfl rfl) rfl ?_
 refine aP 12 rfl (pX rfl rfl) rfl ?_
 refine A2 13 ?_
 refine C9 rfl ?_
 refine aP 14 rfl (qA rfl) rfl ?_
 refine C1 ?_
 refine D3 D4 rfl ?_
 refine I7 (i := 0) (l' := [tt,ff,ff,ff,ff,ff]) rfl C8 (A3 rfl rfl) rfl zX rfl rfl ?_
 refine aL 1 rfl (A3 rfl rfl) rfl ?_
 refine aP 2 rfl (qM rfl) rfl ?_
 refine A2 3 ?_
 refine C9 rfl ?_
 refine A2 4 ?_
 refine C9 rfl ?_
 refine aP 5 rfl (qA rfl) rfl ?_
 refine B4 ?_
 refine F0 (rC rfl (A3 rfl rfl)) (rC rfl (A3 rfl rfl)) (rT rfl) ?_
 (exact R8.mk (.v S.c) A35 hs80 rfl (fun s h => A34 h))
theorem B7C (S : IS) (hS : S.ok) (hc : S.c ≤ 999990) (k : Int) (hk : k = 11 ∨ k = 12) (x : SV) (hx : x.lt S.c) (hB : S.B S.c = none) (hB2 : S.B (S.c + 1) = none) (B1 : BV) (ok : Bool) (hu : Q2 S.B x (.t true (.v S.c) (.v (S.c + 1))) B1 ok) (G : IM) (sc : List Value) (nm : ByteArray) (num tk fk lb : Int) (pt pf q : Option Addr) (tn ct fn cf qn cq : Nat) (pk : Option Addr) (ck : Nat) (ek : List (List Value)) (hs : R1 G S sc) (hsk : D6 G pk 1 ck 3 ek) (hrk : P5 G [x] ek) :
  Fn Tryz.prog 54 [.agg ⟨sc⟩, .agg ⟨[.int .i64 k, .string nm, .int .i64 num, .int .i64 tk, .slice pt tn ct, .int .i64 fk, .slice pf fn cf, .int .i64 lb, .slice q qn cq]⟩, .slice pk 1 ck] [] G (R8 ⟨B1, S.c + 2, S.L⟩ (if ok = true then some (.v (if k = 12 then S.c + 1 else S.c)) else none)) := by
 have hW := hS.wb
 have hs0 := hs
 obtain ⟨sp, sn, sk, sq, sm, sd, rfl⟩ := hs.two
 obtain ⟨bH, oH, e0, rfl, hl0, hat0, hr0, hgb⟩ := hsk.lt hrk (i := 0) rfl zY
 have ho0 := hr0.one
 have hle0 := B9.refl G
 have hW2 : WB S.B (S.c + 2) := hW.mono zZ
 have hx2 := hx.mono (show S.c ≤ S.c + 2 by omega)
 have hva : (SV.v S.c).lt (S.c + 2) := Y4 zZ
 have hvb : (SV.v (S.c + 1)).lt (S.c + 2) := Y4 zZ
 refine C0 Tryz.func54 rfl Tryz.ntmps54 Tryz.results54 rfl ?_
 intro w0
 refine A4 ?_
 refine sE (B5 rfl rfl) rfl (fun b3 => ?_)
 refine sE (B5 rfl rfl) rfl (fun b4 => ?_)
 refine sE (A6 rfl) rfl (fun b5 => ?_)
 refine sE (A6 rfl) rfl (fun b6 => ?_)
 refine A8 ?_
 refine H1 rfl (A0s _ _) rfl rfl ?_
 refine sE (A6 rfl) rfl (fun b13 => ?_)
 refine A8 ?_
 refine H1 rfl (A0s _ _) rfl rfl ?_
 refine sE (A6 rfl) rfl (fun b20 => ?_)
 refine W5 ?_
 refine C2 ?_
 refine A4 ?_
 refine sP (D0 rfl rfl zZ) rfl rfl ?_
 refine B0 ?_
 refine sP (D0 rfl rfl zZ) rfl rfl ?_
 refine A8 ?_
 refine sP (D0 rfl rfl zZ) rfl rfl ?_
 refine A9 ?_
 refine sP (D0 rfl rfl zZ) rfl rfl ?_
 refine B0 ?_
 refine sP (D0 rfl rfl zZ) rfl rfl ?_
 refine A8 ?_
 refine sP (D0 rfl rfl zZ) rfl rfl ?_
 refine A9 ?_
 refine sP (D0 rfl rfl zZ) rfl rfl ?_
 refine J4 ?_
 (refine F4 rfl (A4W S hB zZ G _ hs0) rfl rfl (fun v G5 hle5 hh => ?_); obtain ⟨sc5, ta, rfl, hs5, hra⟩ := hh; have hs50 := hs5; obtain ⟨tp5, tn5, tk5, tq5, tm5, td5, rfl⟩ := hs5.two; obtain rfl := (show _ = _ from hra); replace hle0 := hle0.trans hle5)
 refine C1 ?_
 refine sE (A6 rfl) rfl (fun b101 => ?_)
 refine B0 ?_
 (refine F4 rfl (A4W ⟨S.B, S.c + 1, S.L⟩ hB2 (by dsimp only; omega) G5 _ hs50) rfl rfl (fun v G6 hle6 hh => ?_); obtain ⟨sc6, tb, rfl, hs6, hrb⟩ := hh; have hs60 := hs6; obtain ⟨tp6, tn6, tk6, tq6, tm6, td6, rfl⟩ := hs6.two; obtain rfl := (show _ = _ from hrb); replace hle0 := hle0.trans hle6)
 refine C1 ?_
 refine sE (A6 rfl) rfl (fun b113 => ?_)
 refine E8 ?_
 refine sP (D0 rfl rfl zZ) rfl rfl ?_
 refine A9 ?_
 refine D3 D4 rfl ?_
 refine I7 (i := 0) (l' := [tt,ff,ff,ff,ff,ff,ff,ff,ff,ff,ff,ff,ff]) rfl C8 (A3 rfl rfl) rfl zX rfl rfl ?_
 refine aP 1 rfl (qM rfl) rfl ?_
 refine aP 2 rfl (B6 (j := 0) rfl rfl rfl zY) rfl ?_
 refine aL 3 rfl (A5 rfl rfl (At.im hle0 hgb hat0 _) hl0) rfl ?_
 refine aL 4 rfl (A3 rfl rfl) rfl ?_
 refine aL 5 rfl (A3 rfl rfl) rfl ?_
 refine A2 6 ?_
 (refine H0 rfl rfl (A54 true (.v S.c) (.v (S.c + 1)) G6 _ _ rfl rfl) rfl rfl rfl (fun v G7 hle7 hh => ?_); obtain ⟨ct2, rfl, hrt⟩ := hh; replace hle0 := hle0.trans hle7)
 refine A2 7 ?_
 (refine H0 rfl rfl (A1X hu (S.c + 2) S.L G7 _ e0 ct2 hW2 zZ hx2 (A18 hva hvb) (hs60.mono hle7) (((hr0.mono hle5).mono hle6).mono hle7) hrt) rfl rfl rfl (fun v G8 hle8 hh => ?_); obtain ⟨sc8, rfl, hs8⟩ := hh; have hs80 := hs8; obtain ⟨tp8, tn8, tk8, tq8, tm8, td8, rfl⟩ := hs8.two; replace hle0 := hle0.trans hle8; have hgbi := V6 hle0 hgb)
 refine aP 8 rfl (qM rfl) rfl ?_
 refine aP 9 rfl (pX rfl rfl) rfl ?_
 refine aP 10 rfl (pX rfl rfl) rfl ?_
 refine A2 11 ?_
 refine C9 rfl ?_
 refine aP 12 rfl (qA rfl) rfl ?_
 refine B0 ?_
 refine sB (qE rfl rfl) rfl rfl (fun h154 => ?_) (fun h154 => ?_)
 refine B4 ?_
 refine D3 D4 rfl ?_
 refine I7 (i := 0) (l' := [tt,ff,ff,ff,ff,ff]) rfl C8 (A3 rfl rfl) rfl zX rfl rfl ?_
 refine aL 1 rfl (A3 rfl rfl) rfl ?_
 refine aP 2 rfl (qM rfl) rfl ?_
 refine A2 3 ?_
 refine C9 rfl ?_
 refine A2 4 ?_
 refine C9 rfl ?_
 refine aP 5 rfl (qA rfl) rfl ?_
 refine B4 ?_
 refine F0 (rC rfl (A3 rfl rfl)) (rC rfl (A3 rfl rfl)) (rT rfl) ?_
 (rw [if_pos (show k = 12 by omega)]; exact R8.mk (.v (S.c + 1)) A35 hs80 rfl (fun s h => A34 h))
 refine A9 ?_
 refine D3 D4 rfl ?_
 refine I7 (i := 0) (l' := [tt,ff,ff,ff,ff,ff]) rfl C8 (A3 rfl rfl) rfl zX rfl rfl ?_
 refine aL 1 rfl (A3 rfl rfl) rfl ?_
 refine aP 2 rfl (qM rfl) rfl ?_
 refine A2 3 ?_
 refine C9 rfl ?_
 refine A2 4 ?_
 refine C9 rfl ?_
 refine aP 5 rfl (qA rfl) rfl ?_
 refine C1 ?_
 refine F0 (rC rfl (A3 rfl rfl)) (rC rfl (A3 rfl rfl)) (rT rfl) ?_
 (rw [if_neg (show ¬k = 12 by omega)]; exact R8.mk (.v S.c) A35 hs80 rfl (fun s h => A34 h))
theorem B7D {k : Int} {ss : List SV} {S S' : IS} {o : Option SV} (h : Nod k ss S S' o) (hS : S.ok) (hc : S.c ≤ 999990) (hss : ∀ s ∈ ss, s.lt S.c) (G : IM) (sc : List Value) (nm : ByteArray) (num tk fk lb : Int) (pt pf q : Option Addr) (tn ct fn cf qn cq : Nat) (pk : Option Addr) (ck : Nat) (ek : List (List Value)) (hs : R1 G S sc) (hsk : D6 G pk ss.length ck 3 ek) (hrk : P5 G ss ek) :
  Fn Tryz.prog 54 [.agg ⟨sc⟩, .agg ⟨[.int .i64 k, .string nm, .int .i64 num, .int .i64 tk, .slice pt tn ct, .int .i64 fk, .slice pf fn cf, .int .i64 lb, .slice q qn cq]⟩, .slice pk ss.length ck] [] G (R8 S' o) := by
 have hB2 : S.B (S.c + 1) = none := hS.wb.hi _ zZ
 cases h with
 | num => exact B7u S hS hc G sc nm num tk fk lb pt pf q tn ct fn cf qn cq pk ck ek hs hsk hrk
 | tru hk => exact B7v S hS hc k hk G sc nm num tk fk lb pt pf q tn ct fn cf qn cq pk ck ek hs hsk hrk
 | pair => exact B7w S hS hc _ _ G sc nm num tk fk lb pt pf q tn ct fn cf qn cq pk ck ek hs hsk hrk
 | app hB hu => exact B7B S hS hc _ _ (hss _ zA0) (hss _ zA0) hB hB2 _ _ hu G sc nm num tk fk lb pt pf q tn ct fn cf qn cq pk ck ek hs hsk hrk
 | ar0 hk hu => exact B7x S hS hc k hk _ _ (hss _ zA0) _ hu G sc nm num tk fk lb pt pf q tn ct fn cf qn cq pk ck ek hs hsk hrk
 | ar hk hu hu2 => exact B7y S hS hc k hk _ _ (hss _ zA0) (hss _ zA0) _ _ _ hu hu2 G sc nm num tk fk lb pt pf q tn ct fn cf qn cq pk ck ek hs hsk hrk
 | ite0 hu => exact B7z S hS hc _ _ _ (hss _ zA0) _ hu G sc nm num tk fk lb pt pf q tn ct fn cf qn cq pk ck ek hs hsk hrk
 | ite hu hu2 => exact B7A S hS hc _ _ _ (hss _ zA0) (hss _ zA0) (hss _ zA0) _ _ _ hu hu2 G sc nm num tk fk lb pt pf q tn ct fn cf qn cq pk ck ek hs hsk hrk
 | part hk hB hB' hu => exact B7C S hS hc k hk _ (hss _ zA0) hB hB' _ _ hu G sc nm num tk fk lb pt pf q tn ct fn cf qn cq pk ck ek hs hsk hrk
def ib (nm : ByteArray) : UInt8 := nm.data.getD 0 0
theorem A55 {nm : ByteArray} (h : nm.size = 1) : nm = ⟨#[ib nm]⟩ := by
 obtain ⟨⟨l⟩⟩ := nm
 have hl : l.length = 1 := h
 match l, hl with
 | [a], _ => rfl
def A1i (ns : List ByteArray) : ByteArray := ⟨(ns.reverse.map ib).toArray⟩
theorem B7E {nm : ByteArray} {ns : List ByteArray} (h : nm.size = 1) : A1i ns ++ nm = A1i (nm :: ns) := by
 rw [A55 h]
 apply ByteArray.ext
 rw [ByteArray.data_append]
 simp [A1i, ib]
theorem B1N (ns : List ByteArray) : (A1i ns).size = ns.length := by simp [A1i, ByteArray.size]
theorem B7F {s : ByteArray} {i : Nat} {c : UInt8} (h : i < s.size) : s.extract i (i + 1) = ⟨#[c]⟩ ↔ s.data.toList[i]? = some c := by
 have h2 : i < s.data.toList.length := by simpa using h
 have he : s.extract i (i + 1) = ⟨#[s.data.toList[i]]⟩ := by
  apply ByteArray.ext
  apply Array.ext'
  rw [ByteArray.data_extract, Array.toList_extract, List.extract_eq_take_drop]
  rw [Nat.add_sub_cancel_left, List.drop_eq_getElem_cons h2]
  rfl
 rw [he, List.getElem?_eq_getElem h2]
 constructor
 ·intro h3
  have := congrArg (fun b : ByteArray => b.data.toList) h3
  simpa using this
 ·intro h3
  rw [Option.some.inj h3]
def A2n : List (ByteArray × SV) → ByteArray → Option Nat
 | [], _ => none
 | (x, _) :: Γ, nm => if x = nm then some 0 else (A2n Γ nm).map (· + 1)
def A7W : Option Nat → Int
 | none => -1
 | some k => k
theorem B1O : ∀ {Γ : List (ByteArray × SV)} {nm : ByteArray}, (A2n Γ nm = none ∧ A00 Γ nm = none) ∨ ∃ k s, A2n Γ nm = some k ∧ k < Γ.length ∧ A00 Γ nm = some s ∧ (Γ.map Prod.snd)[k]? = some s
 | [], _ => .inl ⟨rfl, rfl⟩
 | (x, s) :: Γ, nm => by
  rw [A2n, A00]
  by_cases h : x = nm
  ·rw [if_pos h, if_pos h]; exact .inr ⟨0, s, rfl, by simp, rfl, rfl⟩
  ·rw [if_neg h, if_neg h]
   rcases B1O (Γ := Γ) (nm := nm) with ⟨h1, h2⟩ | ⟨k, t, h1, h2, h3, h4⟩
   ·rw [h1, h2]; exact .inl ⟨rfl, rfl⟩
   ·rw [h1, h3]; exact .inr ⟨k + 1, t, rfl, by simpa using h2, rfl, by simpa using h4⟩
theorem B1P : ∀ {Γ : List (ByteArray × SV)} {nm : ByteArray} {k : Nat}, (Γ.map Prod.fst)[k]? = some nm → (∀ j, j < k → (Γ.map Prod.fst)[j]? ≠ some nm) → A2n Γ nm = some k
 | [], _, _, h, _ => by simp at h
 | (x, s) :: Γ, nm, 0, h, _ => by
  have : x = nm := by simpa using h
  rw [A2n, if_pos this]
 | (x, s) :: Γ, nm, k + 1, h, h2 => by
  have : ¬x = nm := fun he => h2 0 zZ (by simp [he])
  rw [A2n, if_neg this, B1P (k := k) (by simpa using h) (fun j hj => by simpa using h2 (j + 1) zZ)]
  rfl
theorem B1Q : ∀ {Γ : List (ByteArray × SV)} {nm : ByteArray}, (∀ j, j < Γ.length → (Γ.map Prod.fst)[j]? ≠ some nm) → A2n Γ nm = none
 | [], _, _ => rfl
 | (x, s) :: Γ, nm, h => by
  have : ¬x = nm := fun he => h 0 zA0 (by simp [he])
  rw [A2n, if_neg this, B1Q (fun j hj => by simpa using h (j + 1) (by simpa using hj))]
  rfl
theorem B7G (Γ : List (ByteArray × SV)) (nm : ByteArray) (G : IM) (hs : Γ.length ≤ 1000) (ho : ∀ p ∈ Γ, p.1.size = 1) (hnm : nm.size = 1) :
  Fn Tryz.prog 51 [.string (A1i (Γ.map Prod.fst)), .string nm] [] G (K5 (.int .i64 (A7W (A2n Γ nm))) G) := by
 obtain ⟨ns, hns⟩ : ∃ ns, Γ.map Prod.fst = ns := ⟨_, rfl⟩
 have hnl : ns.length = Γ.length := by rw [← hns, List.length_map]
 have hone : ∀ x ∈ ns, x.size = 1 := fun x hx => by
  rw [← hns] at hx
  obtain ⟨p, hp, rfl⟩ := List.mem_map.1 hx
  exact ho p hp
 have hpe := fun k => @B1P Γ nm k
 have hpn := @B1Q Γ nm
 rw [hns] at hpe hpn ⊢
 obtain ⟨s, hsS⟩ : ∃ s, A1i ns = s := ⟨_, rfl⟩
 have hsz : s.size = ns.length := by rw [← hsS]; exact B1N ns
 have hat : ∀ i, i < ns.length → (s.extract i (i + 1) = nm ↔ ns[ns.length - 1 - i]? = some nm) := fun i hi => by
  have h1 : i < s.size := by omega
  have h2 : ns.length - 1 - i < ns.length := by omega
  conv => lhs; rw [A55 hnm]
  rw [B7F h1, ← hsS]
  show (ns.reverse.map ib)[i]? = some (ib nm) ↔ _
  rw [List.getElem?_map, List.getElem?_reverse hi, List.getElem?_eq_getElem h2, Option.map_some, Option.some_inj, Option.some_inj]
  constructor
  ·intro he; rw [A55 (hone _ (List.getElem_mem h2)), he, ← A55 hnm]
  ·intro he; rw [he]
 rw [hsS]
 refine C0 Tryz.func51 rfl Tryz.ntmps51 Tryz.results51 rfl ?_
 intro w0
 refine E8 ?_
 refine sQ (A2t rfl rfl) rfl ?_
 refine sP (Q7 rfl rfl zZ zZ) rfl rfl ?_
 refine C1 ?_
 refine C2 ?_
 (refine L4 (fun (i : Nat) => ⟨[(5, .int .i64 ((i : Int) - 1)), (0, .string s), (1, .string nm)], [], G⟩) (fun i => i ≤ s.size ∧ ∀ j, j < ns.length - i → ns[j]? ≠ some nm) (fun i => i) s.size ?_ ?_ ?_)
 exact F9
 exact ⟨Nat.le_refl _, fun j hj => by omega⟩
 (rintro i ⟨hi, hj⟩)
 refine B4 ?_
 refine sB (A1j rfl rfl) rfl rfl (fun h24 => ?_) (fun h24 => ?_)
 refine A9 ?_
 refine C2 ?_
 refine tS ?_
 (have hi1 : 1 ≤ i := zZ; have hia := hat (i - 1) zZ; rw [show ((i : Int) - 1) = ((i - 1 : Nat) : Int) from zZ])
 refine B4 ?_
 refine sP (A15 (n := 1) rfl rfl zZ) rfl rfl ?_
 refine sP (A5x (h := i - 1 + 1) rfl rfl rfl rfl zZ zZ) rfl rfl ?_
 refine E0 ?_
 refine sB (A2u rfl rfl) rfl rfl (fun hse => ?_) (fun hse => ?_)
 refine A9 ?_
 refine sQ (A2t rfl rfl) rfl ?_
 refine sP (Q7 rfl rfl zZ zZ) rfl rfl ?_
 refine E0 ?_
 refine sP (Q7 rfl rfl zZ zZ) rfl rfl ?_
 refine J4 ?_
 (refine ⟨rfl, congrArg (Value.int .i64) ?_, rfl⟩; rw [hpe _ (hia.1 hse) (fun j hjj => hj j zZ), hsz, A7W]; omega)
 refine E4 ?_
 refine sP (Q7 rfl rfl zZ zZ) rfl rfl ?_
 refine A4 ?_
 refine J6 (i - 1) ?_ ?_ ?_
 exact F9
 (exact ⟨by omega, fun j hji => (by by_cases he : j = ns.length - i; (subst he; intro hc; exact hse (hia.2 (by rw [show ns.length - 1 - (i - 1) = ns.length - i by omega]; exact hc))); exact hj j zZ)⟩)
 (show i - 1 < i; omega)
 refine I5 ?_
 (refine ⟨rfl, congrArg (Value.int .i64) ?_, rfl⟩; rw [hpn (fun j hjj => hj j zZ)]; rfl)
end Gw
end Go.Proofs.YtbdacdnffkhgeaaGreatDoor
