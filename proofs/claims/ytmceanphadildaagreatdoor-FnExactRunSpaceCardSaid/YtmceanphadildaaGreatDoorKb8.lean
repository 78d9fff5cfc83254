/-
  The reference model's steps of terms with coercions, in parts.
-/
import Derived.Test.YtmceanphadildaaGreatDoorKb7
import Derived.Test.YtmceanphadildaaGreatDoorKb6
import Derived.Test.YtmceanphadildaaGreatDoorKb4
import Derived.Test.YtmceanphadildaaGreatDoorKb3
import Derived.Test.YtmceanphadildaaGreatDoorKb5
import Derived.Test.YtmceanphadildaaGreatDoorKb1
import Derived.Test.YtmceanphadildaaGreatDoorKb2
set_option linter.unusedVariables false
set_option linter.unusedSimpArgs false
set_option maxHeartbeats 0
set_option maxRecDepth 100000
set_option synthInstance.maxSize 4000
set_option synthInstance.maxHeartbeats 0
namespace Go.Proofs.YtmceanphadildaaGreatDoor
open Go Go.RowKit
namespace Gw
def A4E (t : TH) : Prop := ∀ (G : IM) (cells : List Value) (A : GT), ST M9 t A → t.val = false → t.nk → B1 G t.nt cells → Fn Tryz.prog 84 [.agg ⟨cells⟩] [] G (L0 t.stp)
theorem B4K (c : GK) (e : TH) (G : IM) (cells : List Value) (A : GT) (hT : ST M9 (.conv c e) A) (hnk : e.nk) (ih : A4E e) (hr : B1 G (TH.conv c e).nt cells) : Fn Tryz.prog 138 [.agg ⟨cells⟩] [] G (L0 (TH.conv c e).stp) := by
 obtain ⟨B, hTe, hTc⟩ := A3M hT
 obtain ⟨ck, ctg, clb, cks, hc⟩ := A0U c
 obtain ⟨ek, enm, enum, eck, ectg, eclb, ecks, eks, he⟩ := A0q e
 rw [TH.nt, hc] at hr
 obtain ⟨tk, tks, fk, fks, lb, pt, ct, pf, cf, p0, c0, pc, cc, p, cp, es, rfl, hnd, hco, hn3, h14, hsl, hkl⟩ := hr.open14
 obtain ⟨bx, ox, e0, rfl, hel, heo, hat, hre, _, hgb⟩ := hsl.kidR hkl (i := 0) zW zW
 replace hre : B1 G e.nt e0 := hre
 have hPl := (A4C e).1 G e0 hre
 have hcv := fun (h : ek = 14) => @A2x e enm enum (.mk eck ectg eclb ecks) eks (by rw [← h]; exact he)
 have hnc := fun (h : ek ≠ 14) => A11 he h
 have hIO := fun (h1 : e.cnv = false) (h2 : e.pln = false) => ih G e0 B hTe (by
  cases hv : e.val with
  | false => rfl
  | true => rw [A1T hv h1] at h2; cases h2) hnk hre
 have hre0 := hre
 rw [he] at hre
 obtain ⟨tk1, tks1, fk1, fks1, lb1, pt1, ct1, pf1, cf1, p01, c01, pc1, cc1, p1, cp1, es1, rfl, hnd1, hco1, hn31, h141, hsl1, hkl1⟩ := hre.open14
 rw [← hc] at hco
 refine D5 Tryz.func138 rfl Tryz.ntmps138 Tryz.results138 rfl ?_
 intro w0
 refine A3 ?_
 refine sE (D8 rfl rfl) rfl (fun b3 => ?_)
 refine sE (A4 rfl) rfl (fun b4 => ?_)
 refine B4 ?_
 (have hg : True := trivial; refine sP (A6 (j := 0) rfl rfl rfl zW) rfl rfl ?_)
 refine sL (A2 rfl rfl (hat _) rfl) rfl rfl ?_
 refine sE (A4 rfl) rfl (fun b15 => ?_)
 refine C2 ?_
 refine sB (qE rfl rfl) rfl rfl (fun h25 => ?_) (fun h25 => ?_)
 refine C2 ?_
 (obtain ⟨d, u, rfl, rfl, hE⟩ := hcv zV; obtain ⟨X, hTu, hTd⟩ := A3M hTe; rw [hE] at hco1; obtain ⟨bu, ou, e2, rfl, hul, huo, hat2, hru, _, hgb2⟩ := hsl1.kidR hkl1 (i := 0) zW zW; replace hru : B1 G u.nt e2 := hru; refine E7 rfl (B4J _ d c (Nat.le_refl _) G _ _ hco1 hco) rfl rfl (fun v G1 hle1 hh => ?_); obtain ⟨uc, n1, bo1, rfl, hrc, hu1⟩ := hh; obtain ⟨rfl, rfl⟩ := hu1 ⟨_, _, _, hTd, hTc⟩; obtain ⟨x1, x2, x3, p4, n4, c4, rfl⟩ := hrc.ints)
 refine B2 ?_
 refine sE (A4 rfl) rfl (fun b39 => ?_)
 refine I9 ?_
 refine D3 D4 rfl ?_
 refine E9 (i := 0) (l' := [tt,ff,ff,ff,ff,ff,ff,ff,ff]) rfl C1 (B0 rfl) rfl zT rfl rfl ?_
 refine aL 1 rfl (B3 rfl rfl) rfl ?_
 refine aP 2 rfl (A6 (j := 0) rfl rfl rfl zW) rfl ?_
 refine aL 3 rfl (A2 rfl rfl (At.moS hle1 (hat2 [])) hul) rfl ?_
 refine aL 4 rfl (A1 rfl rfl) rfl ?_
 refine A0 5 ?_
 (refine D6 rfl rfl (A1o u.nt _ G1 _ _ (hru.mono hle1) hrc) rfl rfl rfl (fun v G2 hle2 hh => ?_); obtain ⟨vc, rfl, hrv⟩ := hh; have hvl := hrv.len; have hvo := hrv.one)
 refine A0 6 ?_
 (refine oS rfl rfl rfl rfl hvl hvo rfl rfl ?_ (hu := by exact D7 hvl.symm))
 refine aP 7 rfl (qA rfl) rfl ?_
 refine aP 8 rfl (qA rfl) rfl ?_
 refine C3 ?_
 refine E4 (rC rfl (A2 rfl rfl (C9 zO) hvl)) (rT rfl) (rT rfl) ?_
 (exact L0.ok (t := .conv (cmp d c) u) (by rw [TH.stp, A5f (hTd.fit hTc)]) hrv)
 refine C2 ?_
 focus (have hcn := hnc zV; cases hpp : e.pln; all_goals (rw [hpp] at hPl; refine E5 rfl hPl rfl rfl ?_))
 refine A8 ?_
 (refine E7 rfl (hIO hcn hpp) rfl rfl (fun v G1 hle1 hh => ?_); obtain ⟨wc, n1, rfl, hrw, hn1⟩ := hh; have hwl := hrw.len; have hwo := hrw.one)
 refine C3 ?_
 refine sE (A4 rfl) rfl (fun b95 => ?_)
 refine sS rfl rfl rfl hwl hwo rfl ?_ (hu := by exact D7 hwl.symm)
 refine A7 ?_
 refine sL (A2 rfl rfl (C9 zO) hwl) rfl rfl ?_
 refine A3 ?_
 (refine E7 rfl (A1o n1 _ G1 _ _ hrw (hco.mono hle1)) rfl rfl (fun v G2 hle2 hh => ?_); obtain ⟨vc, rfl, hrv⟩ := hh; have hvl := hrv.len; have hvo := hrv.one)
 refine A3 ?_
 refine sS rfl rfl rfl hvl hvo rfl ?_ (hu := by exact D7 hvl.symm)
 refine A7 ?_
 refine E4 (rC rfl (A2 rfl rfl (C9 zO) hvl)) (rT rfl) (rT rfl) ?_
 (exact L0.mk (by rw [TH.stp, T6 hcn, if_pos hpp]; rfl) (by rw [TH.stp, T6 hcn, if_pos hpp]; rfl) hrv (fun h => by rw [TH.stp, T6 hcn, if_pos hpp] at h ⊢; rw [hn1 h]; rfl))
 refine J5 ?_
 refine B7 (tS (tR (sB (qE rfl rfl) rfl rfl (fun h135 => ?_) (fun h135 => ?_))))
 refine I9 ?_
 refine E4 (rC rfl (A1 rfl rfl)) (rT rfl) (rT rfl) ?_
 (exact L0.ok (t := e) (by rw [TH.stp, T6 hcn, if_neg (by rw [hpp]; decide), A9p hc zV]) hre0)
 refine A7 ?_
 refine sB (qE rfl rfl) rfl rfl (fun h159 => ?_) (fun h159 => ?_)
 refine A9 ?_
 refine D3 D4 rfl ?_
 refine E9 (i := 0) (l' := [tt,ff,ff,ff,ff,ff,ff]) rfl C1 (K8 rfl rfl) rfl zT rfl rfl ?_
 refine aP 1 rfl (B0 rfl) rfl ?_
 refine aP 2 rfl (qF rfl) rfl ?_
 refine aL 3 rfl (B3 rfl rfl) rfl ?_
 refine A0 4 ?_
 refine B8 rfl ?_
 refine aP 5 rfl (qA rfl) rfl ?_
 refine aP 6 rfl (qA rfl) rfl ?_
 refine A9 ?_
 refine E4 (rC rfl (A1 rfl rfl)) (rT rfl) (rT rfl) ?_
 (exact L0.mk (by rw [TH.stp, T6 hcn, if_neg (by rw [hpp]; decide), A2E hc zV]) (by rw [TH.stp, T6 hcn, if_neg (by rw [hpp]; decide), A2E hc zV]) (A31 _) (by rw [TH.stp, T6 hcn, if_neg (by rw [hpp]; decide), A2E hc zV]; intro h; simp at h))
 refine K0 ?_
 refine E4 (rC rfl (A1 rfl rfl)) (rT rfl) (rT rfl) ?_
 (exact L0.mk (by rw [TH.stp, T6 hcn, if_neg (by rw [hpp]; decide), A2F hc zV zV]) (by rw [TH.stp, T6 hcn, if_neg (by rw [hpp]; decide), A2F hc zV zV]) (A31 _) (by rw [TH.stp, T6 hcn, if_neg (by rw [hpp]; decide), A2F hc zV zV]; intro h; simp at h))
theorem A52 {G : IM} {t u : Nt} {k num : Int} {nm : ByteArray} {tk fk lb : Int} {tks fks : List Ty} {pt pf p0 : Option Addr} {ct cf c0 : Nat} {v1 v2 v3 v4 v5 v6 v7 v8 v9 w1 w2 w3 w4 w5 x1 x2 x3 x4 x5 x6 x7 x8 x9 y1 y2 y3 y4 y5 : Value} {p : Option Addr} {cp : Nat}
  (hnd : D1 G (.mk k nm num (.mk tk tks) (.mk fk fks) lb []) [.int .i64 k, .string nm, .int .i64 num, .int .i64 tk, .slice pt tks.length ct, .int .i64 fk, .slice pf fks.length cf, .int .i64 lb, .slice p0 0 c0]) (hk4 : k ≠ 14) (h : B1 G t [v1, v2, v3, v4, v5, v6, v7, v8, v9, w1, w2, w3, w4, w5]) (h' : B1 G u [x1, x2, x3, x4, x5, x6, x7, x8, x9, y1, y2, y3, y4, y5])
  (hs : Sl G p 2 cp 14 [v1, v2, v3, v4, v5, v6, v7, v8, v9, w1, w2, w3, w4, w5, x1, x2, x3, x4, x5, x6, x7, x8, x9, y1, y2, y3, y4, y5]) :
  B1 G (.mk k nm num K5 [t, u]) [.int .i64 k, .string nm, .int .i64 num, .int .i64 tk, .slice pt tks.length ct, .int .i64 fk, .slice pf fks.length cf, .int .i64 lb, .slice p0 0 c0, .int .i64 0, .int .i64 0, .int .i64 0, .slice none 0 0, .slice p 2 cp] :=
 B1.put' (us := [t, u]) (es := [[v1, v2, v3, v4, v5, v6, v7, v8, v9, w1, w2, w3, w4, w5], [x1, x2, x3, x4, x5, x6, x7, x8, x9, y1, y2, y3, y4, y5]]) hnd (X3 G) zW (fun h => absurd h hk4) rfl (C8.of hs rfl (by intro x hx; simp only [List.mem_cons, List.not_mem_nil, or_false] at hx; rcases hx with rfl | rfl <;> rfl) (by intro x hx; simp only [List.mem_cons, List.not_mem_nil, or_false] at hx; rcases hx with rfl | rfl; exact h.one; exact h'.one)) (KR.cons h (KR.cons h' KR.nil))
theorem A9P {G : IM} {t : Nt} {k num : Int} {nm : ByteArray} {tk fk lb : Int} {tks fks : List Ty} {pt pf p0 : Option Addr} {ct cf c0 : Nat} {v1 v2 v3 v4 v5 v6 v7 v8 v9 w1 w2 w3 w4 w5 : Value} {p : Option Addr} {cp : Nat}
  (hnd : D1 G (.mk k nm num (.mk tk tks) (.mk fk fks) lb []) [.int .i64 k, .string nm, .int .i64 num, .int .i64 tk, .slice pt tks.length ct, .int .i64 fk, .slice pf fks.length cf, .int .i64 lb, .slice p0 0 c0]) (h : B1 G t [v1, v2, v3, v4, v5, v6, v7, v8, v9, w1, w2, w3, w4, w5]) (hs : Sl G p 1 cp 14 [v1, v2, v3, v4, v5, v6, v7, v8, v9, w1, w2, w3, w4, w5]) :
  B1 G (.mk k nm num K5 [t]) [.int .i64 k, .string nm, .int .i64 num, .int .i64 tk, .slice pt tks.length ct, .int .i64 fk, .slice pf fks.length cf, .int .i64 lb, .slice p0 0 c0, .int .i64 0, .int .i64 0, .int .i64 0, .slice none 0 0, .slice p 1 cp] :=
 B1.put' (us := [t]) (es := [[v1, v2, v3, v4, v5, v6, v7, v8, v9, w1, w2, w3, w4, w5]]) hnd (X3 G) zW (fun _ => rfl) rfl (C8.of hs rfl (by intro x hx; obtain rfl := List.mem_singleton.1 hx; rfl) (by intro x hx; obtain rfl := List.mem_singleton.1 hx; exact h.one)) (KR.cons h KR.nil)
theorem A9Q (m n : Int) (a1 a2 b1 b2 : Ty) (l1 l2 : Int) : A1x 7 C6 C6 0 [.mk 2 ⟨⟨[]⟩⟩ m a1 a2 l1 [], .mk 2 ⟨⟨[]⟩⟩ n b1 b2 l2 []] = (A2s ((m + n) % 1000), 1, 0) := by
 unfold A1x; rw [if_neg zU, if_pos zU]; rfl
theorem A9R (m n : Int) (a1 a2 b1 b2 : Ty) (l1 l2 : Int) : A1x 8 C6 C6 0 [.mk 2 ⟨⟨[]⟩⟩ m a1 a2 l1 [], .mk 2 ⟨⟨[]⟩⟩ n b1 b2 l2 []] = (T7 (m < n), 1, 0) := by
 unfold A1x; rw [if_neg zU, if_pos zU]; rfl
def Y7 (t : TH) : IM → Value → List A5 → Prop := K9 fun G' v => ∃ cells, v = .tuple ⟨[.agg ⟨cells⟩, .int .i64 1]⟩ ∧ B1 G' t.nt cells
theorem Y7.ok {G : IM} {t u : TH} {cells : List Value} {c l : Int} {r : V2} (h : r = (u, c, l)) (ht : r.1 = t) (hr : B1 G u.nt cells) : Y7 t G (.tuple ⟨[.agg ⟨cells⟩, .int .i64 1]⟩) [] := by
 subst h; subst ht; exact ⟨rfl, cells, rfl, hr⟩
theorem B4L (t : TH) (G : IM) (cells : List Value) (A : GT) (hT : ST M9 t A) (hcn : t.cnv = false) (hv : t.val = false) (hnk : t.nk) (hall : ∀ j, j < t.cnt → (h : j < t.kids.length) → t.kids[j].val = true) (h9 : t.nt.k ≠ 9) (hr : B1 G t.nt cells) : Fn Tryz.prog 139 [.agg ⟨cells⟩] [] G (Y7 t.stp.1) := by
 have hone : True := trivial
 obtain ⟨k, nm, num, ck, ctg, clb, cks, ks, ht⟩ := A0q t
 have hkl0 : 0 < ks.length := by
  rw [A4w ht, List.length_map]
  rcases A3o hT hcn hv hall with ⟨x, B, e, w, rfl, _⟩ | ⟨c9, d9, x, B, e, w, rfl, _⟩ | ⟨s, m, n, rfl, _⟩ | ⟨s, x, y, rfl, _⟩ | ⟨s, a, b, rfl, _⟩ | ⟨s, c9, d9, a, b, rfl, _⟩ <;> simp [TH.kids]
 rw [ht] at hr
 obtain ⟨tk, tks, fk, fks, lb, pt, ct, pf, cf, p0, c0, pc, cc, p, c, es, rfl, hnd, hco, hn3, h14, hsl, hkl⟩ := hr.open14
 refine D5 Tryz.func139 rfl Tryz.ntmps139 Tryz.results139 rfl ?_
 intro w0
 refine tS ?_
 focus (have hone2 := hone; clear hone; have hA := A3o hT hcn hv hall; clear hall; rcases hA with ⟨x, B, e, w, rfl, hst⟩ | ⟨c9, d9, x, B, e, w, rfl, hst⟩ | ⟨s, m, n, rfl, hst⟩ | ⟨s, x, y, rfl, hst⟩ | ⟨s, a, b, rfl, hst⟩ | ⟨s, c9, d9, a, b, rfl, hst⟩; simp only [TH.nt, K5, Nt.mk.injEq, Cn.mk.injEq, if_true, Bool.false_eq_true, if_false] at ht; obtain ⟨rfl, rfl, rfl, ⟨rfl, rfl, rfl, rfl⟩, rfl⟩ := ht; have hq1 : True := trivial; obtain ⟨b0, o0, e0, rfl, hl0, ho0, hat0, hre0, _, hgb0⟩ := hsl.kidR hkl (i := 0) zW zW; replace hre0 : B1 G (.mk 5 x 0 (.mk 0 0 0 []) [e.nt]) e0 := hre0; obtain ⟨_, _, e1, hE1, hl1, ho1, hat1, hre1, _, hgb1⟩ := hsl.kidR hkl (i := 1) zW zW; cases hE1; replace hre1 : B1 G w.nt e1 := hre1; obtain ⟨tkA, tksA, fkA, fksA, lbA, ptA, ctA, pfA, cfA, p0A, c0A, pcA, ccA, pA, cA, esA, rfl, hndA, hcoA, _, _, hslA, hklA⟩ := hre0.open14; obtain ⟨b2, o2, e2, rfl, hl2, ho2, hat2, hre2, _, hgb2⟩ := hslA.kidR hklA (i := 0) zW zW; replace hre2 : B1 G e.nt e2 := hre2; rotate_left; simp only [TH.nt, K5, Nt.mk.injEq, Cn.mk.injEq, if_true, Bool.false_eq_true, if_false] at ht; obtain ⟨rfl, rfl, rfl, ⟨rfl, rfl, rfl, rfl⟩, rfl⟩ := ht; have hq2 : True := trivial; obtain ⟨b0, o0, e0, rfl, hl0, ho0, hat0, hre0, _, hgb0⟩ := hsl.kidR hkl (i := 0) zW zW; replace hre0 : B1 G (.mk 14 ⟨⟨[]⟩⟩ 0 (.mk 2 0 0 [c9.cn, d9.cn]) [(.mk 5 x 0 (.mk 0 0 0 []) [e.nt])]) e0 := hre0; obtain ⟨_, _, e1, hE1, hl1, ho1, hat1, hre1, _, hgb1⟩ := hsl.kidR hkl (i := 1) zW zW; cases hE1; replace hre1 : B1 G w.nt e1 := hre1; have hre0' := hre0; obtain ⟨tkA, tksA, fkA, fksA, lbA, ptA, ctA, pfA, cfA, p0A, c0A, pcA, ccA, pA, cA, esA, rfl, hndA, hcoA, _, _, hslA, hklA⟩ := hre0.open14; obtain ⟨b2, o2, e2, rfl, hl2, ho2, hat2, hre2, _, hgb2⟩ := hslA.kidR hklA (i := 0) zW zW; replace hre2 : B1 G (.mk 5 x 0 (.mk 0 0 0 []) [e.nt]) e2 := hre2; have hre2' := hre2; obtain ⟨tkB, tksB, fkB, fksB, lbB, ptB, ctB, pfB, cfB, p0B, c0B, pcB, ccB, pB, cB, esB, rfl, hndB, hcoB, _, _, hslB, hklB⟩ := hre2.open14; obtain ⟨_, _, esc, hEc, _, _, _, _, _, _, hslc, hklc⟩ := hcoA.open4; cases hEc; obtain ⟨b3, o3, e3, rfl, hl3, ho3, hat3, hre3, _, hgb3⟩ := hslc.kidR hklc (i := 0) zW zW; replace hre3 : E6 G c9.cn e3 := hre3; obtain ⟨_, _, e4, hE4, hl4, ho4, hat4, hre4, _, hgb4⟩ := hslc.kidR hklc (i := 1) zW zW; cases hE4; replace hre4 : E6 G d9.cn e4 := hre4; rotate_left; cases s; simp only [TH.nt, K5, Nt.mk.injEq, Cn.mk.injEq, if_true, Bool.false_eq_true, if_false] at ht; obtain ⟨rfl, rfl, rfl, ⟨rfl, rfl, rfl, rfl⟩, rfl⟩ := ht; have hq3 : True := trivial; obtain ⟨b0, o0, e0, rfl, hl0, ho0, hat0, hre0, _, hgb0⟩ := hsl.kidR hkl (i := 0) zW zW; replace hre0 : B1 G (.mk 2 ⟨⟨[]⟩⟩ m (.mk 0 0 0 []) []) e0 := hre0; obtain ⟨_, _, e1, hE1, hl1, ho1, hat1, hre1, _, hgb1⟩ := hsl.kidR hkl (i := 1) zW zW; cases hE1; replace hre1 : B1 G (.mk 2 ⟨⟨[]⟩⟩ n (.mk 0 0 0 []) []) e1 := hre1; obtain ⟨tkA, tksA, fkA, fksA, lbA, ptA, ctA, pfA, cfA, p0A, c0A, pcA, ccA, pA, cA, esA, rfl, hndA, hcoA, _, _, hslA, hklA⟩ := hre0.open14; obtain ⟨tkB, tksB, fkB, fksB, lbB, ptB, ctB, pfB, cfB, p0B, c0B, pcB, ccB, pB, cB, esB, rfl, hndB, hcoB, _, _, hslB, hklB⟩ := hre1.open14; replace hat1 := fun hp => At.pfx (l1 := [.int .i64 2, .string ⟨⟨[]⟩⟩, .int .i64 n, .int .i64 tkB, .slice ptB tksB.length ctB, .int .i64 fkB, .slice pfB fksB.length cfB, .int .i64 lbB, .slice p0B 0 c0B]) (l2 := [.int .i64 0, .int .i64 0, .int .i64 0, .slice pcB 0 ccB, .slice pB 0 cB]) (hat1 hp); rotate_left; simp only [TH.nt, K5, Nt.mk.injEq, Cn.mk.injEq, if_true, Bool.false_eq_true, if_false] at ht; obtain ⟨rfl, rfl, rfl, ⟨rfl, rfl, rfl, rfl⟩, rfl⟩ := ht; have hq3 : True := trivial; obtain ⟨b0, o0, e0, rfl, hl0, ho0, hat0, hre0, _, hgb0⟩ := hsl.kidR hkl (i := 0) zW zW; replace hre0 : B1 G (.mk 2 ⟨⟨[]⟩⟩ m (.mk 0 0 0 []) []) e0 := hre0; obtain ⟨_, _, e1, hE1, hl1, ho1, hat1, hre1, _, hgb1⟩ := hsl.kidR hkl (i := 1) zW zW; cases hE1; replace hre1 : B1 G (.mk 2 ⟨⟨[]⟩⟩ n (.mk 0 0 0 []) []) e1 := hre1; obtain ⟨tkA, tksA, fkA, fksA, lbA, ptA, ctA, pfA, cfA, p0A, c0A, pcA, ccA, pA, cA, esA, rfl, hndA, hcoA, _, _, hslA, hklA⟩ := hre0.open14; obtain ⟨tkB, tksB, fkB, fksB, lbB, ptB, ctB, pfB, cfB, p0B, c0B, pcB, ccB, pB, cB, esB, rfl, hndB, hcoB, _, _, hslB, hklB⟩ := hre1.open14; replace hat1 := fun hp => At.pfx (l1 := [.int .i64 2, .string ⟨⟨[]⟩⟩, .int .i64 n, .int .i64 tkB, .slice ptB tksB.length ctB, .int .i64 fkB, .slice pfB fksB.length cfB, .int .i64 lbB, .slice p0B 0 c0B]) (l2 := [.int .i64 0, .int .i64 0, .int .i64 0, .slice pcB 0 ccB, .slice pB 0 cB]) (hat1 hp); rotate_left; exact absurd rfl h9; cases s; simp only [TH.nt, K5, Nt.mk.injEq, Cn.mk.injEq, if_true, Bool.false_eq_true, if_false] at ht; obtain ⟨rfl, rfl, rfl, ⟨rfl, rfl, rfl, rfl⟩, rfl⟩ := ht; have hq5 : True := trivial; obtain ⟨b0, o0, e0, rfl, hl0, ho0, hat0, hre0, _, hgb0⟩ := hsl.kidR hkl (i := 0) zW zW; replace hre0 : B1 G (.mk 10 ⟨⟨[]⟩⟩ 0 (.mk 0 0 0 []) [a.nt, b.nt]) e0 := hre0; obtain ⟨tkA, tksA, fkA, fksA, lbA, ptA, ctA, pfA, cfA, p0A, c0A, pcA, ccA, pA, cA, esA, rfl, hndA, hcoA, _, _, hslA, hklA⟩ := hre0.open14; obtain ⟨b1, o1, e1, rfl, hl1, ho1, hat1, hre1, _, hgb1⟩ := hslA.kidR hklA (i := 0) zW zW; replace hre1 : B1 G a.nt e1 := hre1; obtain ⟨_, _, e2, hE2, hl2, ho2, hat2, hre2, _, hgb2⟩ := hslA.kidR hklA (i := 1) zW zW; cases hE2; replace hre2 : B1 G b.nt e2 := hre2; rotate_left; simp only [TH.nt, K5, Nt.mk.injEq, Cn.mk.injEq, if_true, Bool.false_eq_true, if_false] at ht; obtain ⟨rfl, rfl, rfl, ⟨rfl, rfl, rfl, rfl⟩, rfl⟩ := ht; have hq5 : True := trivial; obtain ⟨b0, o0, e0, rfl, hl0, ho0, hat0, hre0, _, hgb0⟩ := hsl.kidR hkl (i := 0) zW zW; replace hre0 : B1 G (.mk 10 ⟨⟨[]⟩⟩ 0 (.mk 0 0 0 []) [a.nt, b.nt]) e0 := hre0; obtain ⟨tkA, tksA, fkA, fksA, lbA, ptA, ctA, pfA, cfA, p0A, c0A, pcA, ccA, pA, cA, esA, rfl, hndA, hcoA, _, _, hslA, hklA⟩ := hre0.open14; obtain ⟨b1, o1, e1, rfl, hl1, ho1, hat1, hre1, _, hgb1⟩ := hslA.kidR hklA (i := 0) zW zW; replace hre1 : B1 G a.nt e1 := hre1; obtain ⟨_, _, e2, hE2, hl2, ho2, hat2, hre2, _, hgb2⟩ := hslA.kidR hklA (i := 1) zW zW; cases hE2; replace hre2 : B1 G b.nt e2 := hre2; rotate_left; cases s; simp only [TH.nt, K5, Nt.mk.injEq, Cn.mk.injEq, if_true, Bool.false_eq_true, if_false] at ht; obtain ⟨rfl, rfl, rfl, ⟨rfl, rfl, rfl, rfl⟩, rfl⟩ := ht; have hq6 : True := trivial; obtain ⟨b0, o0, e0, rfl, hl0, ho0, hat0, hre0, _, hgb0⟩ := hsl.kidR hkl (i := 0) zW zW; replace hre0 : B1 G (.mk 14 ⟨⟨[]⟩⟩ 0 (.mk 3 0 0 [c9.cn, d9.cn]) [(.mk 10 ⟨⟨[]⟩⟩ 0 (.mk 0 0 0 []) [a.nt, b.nt])]) e0 := hre0; have hre0' := hre0; obtain ⟨tkA, tksA, fkA, fksA, lbA, ptA, ctA, pfA, cfA, p0A, c0A, pcA, ccA, pA, cA, esA, rfl, hndA, hcoA, _, _, hslA, hklA⟩ := hre0.open14; obtain ⟨b2, o2, e2, rfl, hl2, ho2, hat2, hre2, _, hgb2⟩ := hslA.kidR hklA (i := 0) zW zW; replace hre2 : B1 G (.mk 10 ⟨⟨[]⟩⟩ 0 (.mk 0 0 0 []) [a.nt, b.nt]) e2 := hre2; have hre2' := hre2; obtain ⟨tkB, tksB, fkB, fksB, lbB, ptB, ctB, pfB, cfB, p0B, c0B, pcB, ccB, pB, cB, esB, rfl, hndB, hcoB, _, _, hslB, hklB⟩ := hre2.open14; obtain ⟨_, _, esc, hEc, _, _, _, _, _, _, hslc, hklc⟩ := hcoA.open4; cases hEc; obtain ⟨b3, o3, e3, rfl, hl3, ho3, hat3, hre3, _, hgb3⟩ := hslc.kidR hklc (i := 0) zW zW; replace hre3 : E6 G c9.cn e3 := hre3; obtain ⟨_, _, e4, hE4, hl4, ho4, hat4, hre4, _, hgb4⟩ := hslc.kidR hklc (i := 1) zW zW; cases hE4; replace hre4 : E6 G d9.cn e4 := hre4; rotate_left; simp only [TH.nt, K5, Nt.mk.injEq, Cn.mk.injEq, if_true, Bool.false_eq_true, if_false] at ht; obtain ⟨rfl, rfl, rfl, ⟨rfl, rfl, rfl, rfl⟩, rfl⟩ := ht; have hq6 : True := trivial; obtain ⟨b0, o0, e0, rfl, hl0, ho0, hat0, hre0, _, hgb0⟩ := hsl.kidR hkl (i := 0) zW zW; replace hre0 : B1 G (.mk 14 ⟨⟨[]⟩⟩ 0 (.mk 3 0 0 [c9.cn, d9.cn]) [(.mk 10 ⟨⟨[]⟩⟩ 0 (.mk 0 0 0 []) [a.nt, b.nt])]) e0 := hre0; have hre0' := hre0; obtain ⟨tkA, tksA, fkA, fksA, lbA, ptA, ctA, pfA, cfA, p0A, c0A, pcA, ccA, pA, cA, esA, rfl, hndA, hcoA, _, _, hslA, hklA⟩ := hre0.open14; obtain ⟨b2, o2, e2, rfl, hl2, ho2, hat2, hre2, _, hgb2⟩ := hslA.kidR hklA (i := 0) zW zW; replace hre2 : B1 G (.mk 10 ⟨⟨[]⟩⟩ 0 (.mk 0 0 0 []) [a.nt, b.nt]) e2 := hre2; have hre2' := hre2; obtain ⟨tkB, tksB, fkB, fksB, lbB, ptB, ctB, pfB, cfB, p0B, c0B, pcB, ccB, pB, cB, esB, rfl, hndB, hcoB, _, _, hslB, hklB⟩ := hre2.open14; obtain ⟨_, _, esc, hEc, _, _, _, _, _, _, hslc, hklc⟩ := hcoA.open4; cases hEc; obtain ⟨b3, o3, e3, rfl, hl3, ho3, hat3, hre3, _, hgb3⟩ := hslc.kidR hklc (i := 0) zW zW; replace hre3 : E6 G c9.cn e3 := hre3; obtain ⟨_, _, e4, hE4, hl4, ho4, hat4, hre4, _, hgb4⟩ := hslc.kidR hklc (i := 1) zW zW; cases hE4; replace hre4 : E6 G d9.cn e4 := hre4; rotate_left)
 refine tR ?_
 refine sE (D8 rfl rfl) rfl (fun b4 => ?_)
 refine sE (A4 rfl) rfl (fun b5 => ?_)
 refine A8 ?_
 refine sP (A6 (j := 0) rfl rfl rfl zW) rfl rfl ?_
 refine sL (A2 rfl rfl (hat0 _) hl0) rfl rfl ?_
 refine sE (A4 rfl) rfl (fun b15 => ?_)
 refine E8 ?_
 refine B7 ?_
 refine A3 ?_
 refine sP (I1 rfl rfl zV) rfl rfl ?_
 refine H3 ?_
 refine sP (I1 rfl rfl zV) rfl rfl ?_
 refine C3 ?_
 refine D3 D4 rfl ?_
 refine E9 (i := 0) (l' := [tt,ff,ff,ff,ff,ff,ff,ff,ff,ff,ff,ff,ff,ff]) rfl C1 (B0 rfl) rfl zT rfl rfl ?_
 refine aL 1 rfl (B3 rfl rfl) rfl ?_
 refine aP 2 rfl (A6 (j := 0) rfl rfl rfl zW) rfl ?_
 refine aL 3 rfl (A2 rfl rfl (hat2 _) hl2) rfl ?_
 refine aP 4 rfl (B0 rfl) rfl ?_
 refine aP 5 rfl (B0 rfl) rfl ?_
 refine aL 6 rfl (B3 rfl rfl) rfl ?_
 refine aP 7 rfl (B0 rfl) rfl ?_
 refine aL 8 rfl (B3 rfl rfl) rfl ?_
 refine aP 9 rfl (A6 (j := 1) rfl rfl rfl zW) rfl ?_
 refine aL 10 rfl (A2 rfl rfl (hat1 _) hl1) rfl ?_
 refine A0 11 ?_
 (refine D6 rfl rfl (B4E x w.nt e1 e.nt G e2 hre2 hre1) rfl rfl rfl (fun v G1 hle1 hh => ?_); obtain ⟨vc, rfl, hrv⟩ := hh; have hvl := hrv.len; have hvo := hrv.one)
 refine A0 12 ?_
 (refine oS rfl rfl rfl rfl hvl hvo rfl rfl ?_ (hu := by exact D7 hvl.symm))
 refine aP 13 rfl (qA rfl) rfl ?_
 refine A7 ?_
 refine C5 (rC rfl (A2 rfl rfl (C9 zO) hvl)) (rT rfl) ?_
 (have hq := hq1; exact Y7.ok (u := e.sub x w) hst rfl (by rw [A8a]; exact hrv))
 refine tR ?_
 refine sE (D8 rfl rfl) rfl (fun b72 => ?_)
 refine sE (A4 rfl) rfl (fun b73 => ?_)
 refine A8 ?_
 refine sP (A6 (j := 0) rfl rfl rfl zW) rfl rfl ?_
 refine sL (A2 rfl rfl (hat0 _) hl0) rfl rfl ?_
 refine sE (A4 rfl) rfl (fun b83 => ?_)
 refine sS rfl rfl rfl hl2 ho2 rfl ?_ (hu := by exact D7 hl2.symm)
 refine H3 ?_
 refine B7 ?_
 refine A3 ?_
 refine sP (I1 rfl rfl zV) rfl rfl ?_
 refine H3 ?_
 refine sP (E1 rfl rfl zV) rfl rfl ?_
 refine H3 ?_
 refine sP (I1 rfl rfl zV) rfl rfl ?_
 refine C3 ?_
 refine sP (I1 rfl rfl zV) rfl rfl ?_
 refine A9 ?_
 refine D3 D4 rfl ?_
 refine E9 (i := 0) (l' := [tt,ff,ff,ff,ff,ff,ff,ff,ff,ff,ff,ff,ff,ff,ff,ff,ff,ff,ff,ff]) rfl C1 (B0 rfl) rfl zT rfl rfl ?_
 refine aL 1 rfl (A1 rfl rfl) rfl ?_
 refine aP 2 rfl (B0 rfl) rfl ?_
 refine aL 3 rfl (B3 rfl rfl) rfl ?_
 refine aP 4 rfl (A6 (j := 0) rfl rfl rfl zW) rfl ?_
 refine aL 5 rfl (A2 rfl rfl (hat2 _) hl2) rfl ?_
 refine aP 6 rfl (B0 rfl) rfl ?_
 refine aL 7 rfl (B3 rfl rfl) rfl ?_
 refine aP 8 rfl (A6 (j := 1) rfl rfl rfl zW) rfl ?_
 refine aL 9 rfl (A2 rfl rfl (hat1 _) hl1) rfl ?_
 refine aP 10 rfl (B0 rfl) rfl ?_
 refine aP 11 rfl (qF rfl) rfl ?_
 refine aL 12 rfl (B3 rfl rfl) rfl ?_
 refine aP 13 rfl (A6 (j := 0) rfl rfl rfl zW) rfl ?_
 refine aL 14 rfl (A2 rfl rfl (hat3 _) hl3) rfl ?_
 refine J8 (j := 15) (j' := 18) zT ?_ ?_
 (have hq := hq2; clear hq2; refine D6 rfl rfl (A1o w.nt c9.cn G _ _ hre1 hre3) rfl rfl rfl (fun v G1 hle1 hh => ?_); obtain ⟨vc, rfl, hrw⟩ := hh; have hwl := hrw.len; have hwo := hrw.one; obtain ⟨v1, v2, v3, v4, v5, v6, v7, v8, v9, u1, u2, u3, u4, u5, rfl⟩ := X4 hwl; have hq7 : True := trivial)
 refine J8 (j := 16) (j' := 18) zT ?_ ?_
 (refine B6 rfl (C0 rfl rfl rfl zV zQ rfl) rfl rfl ?_; rintro _ ⟨b150, rfl⟩)
 refine aP 17 rfl (K8 rfl rfl) rfl ?_
 refine A0 18 ?_
 (refine B6 rfl (A4 rfl) rfl rfl ?_; rintro _ ⟨b153, rfl⟩)
 refine A0 19 ?_
 refine B8 rfl ?_
 refine B2 ?_
 refine D3 D4 rfl ?_
 refine K3 (i := 0) (l' := [tt,ff,ff,ff,ff,ff,ff,ff,ff]) rfl C1 (A1 rfl rfl) rfl zT rfl rfl ?_
 refine aP 1 rfl (B0 rfl) rfl ?_
 refine aP 2 rfl (qF rfl) rfl ?_
 refine aL 3 rfl (B3 rfl rfl) rfl ?_
 refine aP 4 rfl (A6 (j := 1) rfl rfl rfl zW) rfl ?_
 refine aL 5 rfl (A2 rfl rfl (At.moS hle1 (hat4 [])) hl4) rfl ?_
 refine A0 6 ?_
 (have hq := hq7; refine Y2 (cs := [.int .i64 5, .string x, .int .i64 0, .int .i64 tkB, .slice ptB tksB.length ctB, .int .i64 fkB, .slice pfB fksB.length cfB, .int .i64 lbB, .slice p0B 0 c0B, .int .i64 0, .int .i64 0, .int .i64 0, .slice pcB 0 ccB, .slice pB 1 cB, v1, v2, v3, v4, v5, v6, v7, v8, v9, u1, u2, u3, u4, u5]) zM (fun G2 hle2 hsl2 hno2 => ?_); have hrN := A52 (hnd.mono (hle1.trans hle2)) zU (hre2'.mono (hle1.trans hle2)) (hrw.mono hle2) hsl2; refine D6 rfl rfl (A1o _ d9.cn G2 _ _ hrN (hre4.mono (hle1.trans hle2))) rfl rfl rfl (fun v G3 hle3 hh => ?_); obtain ⟨vc, rfl, hrv⟩ := hh; have hvl := hrv.len; have hvo := hrv.one)
 refine A0 7 ?_
 (refine oS rfl rfl rfl rfl hvl hvo rfl rfl ?_ (hu := by exact D7 hvl.symm))
 refine aP 8 rfl (qA rfl) rfl ?_
 refine A9 ?_
 refine C5 (rC rfl (A2 rfl rfl (C9 zO) hvl)) (rT rfl) ?_
 (have hq := hq7; exact Y7.ok (u := .conv d9 (.app (.lam x B e) (.conv c9 w))) hst rfl hrv)
 (refine B6 rfl (A4 rfl) rfl rfl ?_; rintro _ ⟨b178, rfl⟩)
 refine A0 16 ?_
 (refine B6 rfl (C0 rfl rfl rfl zV zQ rfl) rfl rfl ?_; rintro _ ⟨b180, rfl⟩)
 refine aP 17 rfl (K8 rfl rfl) rfl ?_
 refine A0 19 ?_
 refine B8 rfl ?_
 refine B2 ?_
 refine D3 D4 rfl ?_
 refine K3 (i := 0) (l' := [tt,ff,ff,ff,ff,ff,ff,ff,ff]) rfl C1 (A1 rfl rfl) rfl zT rfl rfl ?_
 refine aP 1 rfl (B0 rfl) rfl ?_
 refine aP 2 rfl (qF rfl) rfl ?_
 refine aL 3 rfl (B3 rfl rfl) rfl ?_
 refine aP 4 rfl (A6 (j := 1) rfl rfl rfl zW) rfl ?_
 refine aL 5 rfl (A2 rfl rfl (At.moS hle1 (hat4 [])) hl4) rfl ?_
 refine A0 6 ?_
 (have hq := hq7; refine Y2 (cs := [.int .i64 5, .string x, .int .i64 0, .int .i64 tkB, .slice ptB tksB.length ctB, .int .i64 fkB, .slice pfB fksB.length cfB, .int .i64 lbB, .slice p0B 0 c0B, .int .i64 0, .int .i64 0, .int .i64 0, .slice pcB 0 ccB, .slice pB 1 cB, v1, v2, v3, v4, v5, v6, v7, v8, v9, u1, u2, u3, u4, u5]) zM (fun G2 hle2 hsl2 hno2 => ?_); have hrN := A52 (hnd.mono (hle1.trans hle2)) zU (hre2'.mono (hle1.trans hle2)) (hrw.mono hle2) hsl2; refine D6 rfl rfl (A1o _ d9.cn G2 _ _ hrN (hre4.mono (hle1.trans hle2))) rfl rfl rfl (fun v G3 hle3 hh => ?_); obtain ⟨vc, rfl, hrv⟩ := hh; have hvl := hrv.len; have hvo := hrv.one)
 refine A0 7 ?_
 (refine oS rfl rfl rfl rfl hvl hvo rfl rfl ?_ (hu := by exact D7 hvl.symm))
 refine aP 8 rfl (qA rfl) rfl ?_
 refine A9 ?_
 refine C5 (rC rfl (A2 rfl rfl (C9 zO) hvl)) (rT rfl) ?_
 (have hq := hq7; exact Y7.ok (u := .conv d9 (.app (.lam x B e) (.conv c9 w))) hst rfl hrv)
 (refine B6 rfl (A4 rfl) rfl rfl ?_; rintro _ ⟨b206, rfl⟩)
 refine A0 15 ?_
 (have hq := hq2; clear hq2; refine D6 rfl rfl (A1o w.nt c9.cn G _ _ hre1 hre3) rfl rfl rfl (fun v G1 hle1 hh => ?_); obtain ⟨vc, rfl, hrw⟩ := hh; have hwl := hrw.len; have hwo := hrw.one; obtain ⟨v1, v2, v3, v4, v5, v6, v7, v8, v9, u1, u2, u3, u4, u5, rfl⟩ := X4 hwl; have hq7 : True := trivial)
 refine A0 16 ?_
 (refine B6 rfl (C0 rfl rfl rfl zV zQ rfl) rfl rfl ?_; rintro _ ⟨b210, rfl⟩)
 refine aP 17 rfl (K8 rfl rfl) rfl ?_
 refine A0 19 ?_
 refine B8 rfl ?_
 refine B2 ?_
 refine D3 D4 rfl ?_
 refine K3 (i := 0) (l' := [tt,ff,ff,ff,ff,ff,ff,ff,ff]) rfl C1 (A1 rfl rfl) rfl zT rfl rfl ?_
 refine aP 1 rfl (B0 rfl) rfl ?_
 refine aP 2 rfl (qF rfl) rfl ?_
 refine aL 3 rfl (B3 rfl rfl) rfl ?_
 refine aP 4 rfl (A6 (j := 1) rfl rfl rfl zW) rfl ?_
 refine aL 5 rfl (A2 rfl rfl (At.moS hle1 (hat4 [])) hl4) rfl ?_
 refine A0 6 ?_
 (have hq := hq7; refine Y2 (cs := [.int .i64 5, .string x, .int .i64 0, .int .i64 tkB, .slice ptB tksB.length ctB, .int .i64 fkB, .slice pfB fksB.length cfB, .int .i64 lbB, .slice p0B 0 c0B, .int .i64 0, .int .i64 0, .int .i64 0, .slice pcB 0 ccB, .slice pB 1 cB, v1, v2, v3, v4, v5, v6, v7, v8, v9, u1, u2, u3, u4, u5]) zM (fun G2 hle2 hsl2 hno2 => ?_); have hrN := A52 (hnd.mono (hle1.trans hle2)) zU (hre2'.mono (hle1.trans hle2)) (hrw.mono hle2) hsl2; refine D6 rfl rfl (A1o _ d9.cn G2 _ _ hrN (hre4.mono (hle1.trans hle2))) rfl rfl rfl (fun v G3 hle3 hh => ?_); obtain ⟨vc, rfl, hrv⟩ := hh; have hvl := hrv.len; have hvo := hrv.one)
 refine A0 7 ?_
 (refine oS rfl rfl rfl rfl hvl hvo rfl rfl ?_ (hu := by exact D7 hvl.symm))
 refine aP 8 rfl (qA rfl) rfl ?_
 refine A9 ?_
 refine C5 (rC rfl (A2 rfl rfl (C9 zO) hvl)) (rT rfl) ?_
 (have hq := hq7; exact Y7.ok (u := .conv d9 (.app (.lam x B e) (.conv c9 w))) hst rfl hrv)
 refine tR ?_
 refine sE (D8 rfl rfl) rfl (fun b237 => ?_)
 refine sE (A4 rfl) rfl (fun b238 => ?_)
 refine A8 ?_
 refine sP (A6 (j := 0) rfl rfl rfl zW) rfl rfl ?_
 refine sL (A2 rfl rfl (hat0 _) hl0) rfl rfl ?_
 refine sE (A4 rfl) rfl (fun b248 => ?_)
 refine sS rfl rfl rfl hl1 ho1 rfl ?_ (hu := by exact D7 hl1.symm)
 refine H3 ?_
 refine B7 ?_
 refine A3 ?_
 refine sP (E1 rfl rfl zV) rfl rfl ?_
 refine A8 ?_
 refine sP (E1 rfl rfl zV) rfl rfl ?_
 refine A9 ?_
 refine sP (E1 rfl rfl zV) rfl rfl ?_
 refine A8 ?_
 refine sP (I1 rfl rfl zV) rfl rfl ?_
 refine B4 ?_
 refine D3 D4 rfl ?_
 refine E9 (i := 0) (l' := [tt,ff,ff,ff,ff,ff,ff,ff,ff,ff,ff,ff,ff,ff,ff,ff,ff,ff,ff]) rfl C1 (B0 rfl) rfl zT rfl rfl ?_
 refine aP 1 rfl (B0 rfl) rfl ?_
 refine aL 2 rfl (B3 rfl rfl) rfl ?_
 refine aP 3 rfl (B0 rfl) rfl ?_
 refine aL 4 rfl (A1 rfl rfl) rfl ?_
 refine aP 5 rfl (B0 rfl) rfl ?_
 refine aL 6 rfl (B3 rfl rfl) rfl ?_
 refine aP 7 rfl (A6 (j := 1) rfl rfl rfl zW) rfl ?_
 refine aP 8 rfl (qF rfl) rfl ?_
 refine aL 9 rfl (A2 rfl rfl (hat1 _) rfl) rfl ?_
 refine J8 (j := 10) (j' := 15) zT ?_ ?_
 (have hq := hq3; have hNu := A4c 7 (.mk 2 ⟨⟨[]⟩⟩ m _ _ _ []) (.mk 2 ⟨⟨[]⟩⟩ n _ _ _ []) G _ _ zU hnk.1 hnk.2 hndA hndB; rw [A9Q] at hNu; refine D6 rfl rfl hNu rfl rfl rfl (fun v G3 hle3 hh => ?_); obtain ⟨uc, hvv, hru⟩ := hh; replace hvv : v = .tuple ⟨[.agg ⟨uc⟩, .int .i64 1, .int .i64 0]⟩ := hvv; subst hvv; replace hru : D1 G3 (.mk 2 ⟨⟨[]⟩⟩ (HMod.hMod (m + n) 1000) (.mk 0 []) (.mk 0 []) 0 []) uc := hru; obtain ⟨ptR, ctR, pfR, cfR, pR, cR, esR, rfl, _, _, _, _, _, _, _⟩ := hru.open9; have hru2 := hru)
 refine aP 11 rfl (qM rfl) rfl ?_
 refine aP 12 rfl (pX rfl rfl) rfl ?_
 refine aP 13 rfl (pX rfl rfl) rfl ?_
 refine aP 14 rfl (pX rfl rfl) rfl ?_
 refine A0 15 ?_
 (refine B6 rfl (A4 rfl) rfl rfl ?_; rintro _ ⟨b312, rfl⟩)
 refine A0 16 ?_
 refine B8 rfl ?_
 refine aP 17 rfl (qA rfl) rfl ?_
 refine aP 18 rfl (qA rfl) rfl ?_
 refine A8 ?_
 refine sS rfl rfl rfl hl1 ho1 rfl ?_ (hu := by exact D7 hl1.symm)
 refine A7 ?_
 refine C5 (rC rfl (A1 rfl rfl)) (rT rfl) ?_
 (exact Y7.ok (u := .num (HMod.hMod (m + n) 1000)) hst rfl (A0X hru2 zU))
 (refine B6 rfl (A4 rfl) rfl rfl ?_; rintro _ ⟨b333, rfl⟩)
 refine A0 10 ?_
 (have hq := hq3; have hNu := A4c 7 (.mk 2 ⟨⟨[]⟩⟩ m _ _ _ []) (.mk 2 ⟨⟨[]⟩⟩ n _ _ _ []) G _ _ zU hnk.1 hnk.2 hndA hndB; rw [A9Q] at hNu; refine D6 rfl rfl hNu rfl rfl rfl (fun v G3 hle3 hh => ?_); obtain ⟨uc, hvv, hru⟩ := hh; replace hvv : v = .tuple ⟨[.agg ⟨uc⟩, .int .i64 1, .int .i64 0]⟩ := hvv; subst hvv; replace hru : D1 G3 (.mk 2 ⟨⟨[]⟩⟩ (HMod.hMod (m + n) 1000) (.mk 0 []) (.mk 0 []) 0 []) uc := hru; obtain ⟨ptR, ctR, pfR, cfR, pR, cR, esR, rfl, _, _, _, _, _, _, _⟩ := hru.open9; have hru2 := hru)
 refine aP 11 rfl (qM rfl) rfl ?_
 refine aP 12 rfl (pX rfl rfl) rfl ?_
 refine aP 13 rfl (pX rfl rfl) rfl ?_
 refine aP 14 rfl (pX rfl rfl) rfl ?_
 refine A0 16 ?_
 refine B8 rfl ?_
 refine aP 17 rfl (qA rfl) rfl ?_
 refine aP 18 rfl (qA rfl) rfl ?_
 refine A8 ?_
 refine sS rfl rfl rfl hl1 ho1 rfl ?_ (hu := by exact D7 hl1.symm)
 refine A7 ?_
 refine C5 (rC rfl (A1 rfl rfl)) (rT rfl) ?_
 (exact Y7.ok (u := .num (HMod.hMod (m + n) 1000)) hst rfl (A0X hru2 zU))
 refine tR ?_
 refine sE (D8 rfl rfl) rfl (fun b361 => ?_)
 refine sE (A4 rfl) rfl (fun b362 => ?_)
 refine A8 ?_
 refine sP (A6 (j := 0) rfl rfl rfl zW) rfl rfl ?_
 refine sL (A2 rfl rfl (hat0 _) hl0) rfl rfl ?_
 refine sE (A4 rfl) rfl (fun b372 => ?_)
 refine sS rfl rfl rfl hl1 ho1 rfl ?_ (hu := by exact D7 hl1.symm)
 refine H3 ?_
 refine B7 ?_
 refine A3 ?_
 refine sP (E1 rfl rfl zV) rfl rfl ?_
 refine A8 ?_
 refine sP (E1 rfl rfl zV) rfl rfl ?_
 refine A9 ?_
 refine sP (E1 rfl rfl zV) rfl rfl ?_
 refine A8 ?_
 refine sP (E1 rfl rfl zV) rfl rfl ?_
 refine A9 ?_
 refine sP (I1 rfl rfl zV) rfl rfl ?_
 refine A9 ?_
 refine D3 D4 rfl ?_
 refine E9 (i := 0) (l' := [tt,ff,ff,ff,ff,ff,ff,ff,ff,ff,ff,ff,ff,ff,ff,ff,ff,ff,ff]) rfl C1 (B0 rfl) rfl zT rfl rfl ?_
 refine aP 1 rfl (B0 rfl) rfl ?_
 refine aL 2 rfl (B3 rfl rfl) rfl ?_
 refine aP 3 rfl (B0 rfl) rfl ?_
 refine aL 4 rfl (A1 rfl rfl) rfl ?_
 refine aP 5 rfl (B0 rfl) rfl ?_
 refine aL 6 rfl (B3 rfl rfl) rfl ?_
 refine aP 7 rfl (A6 (j := 1) rfl rfl rfl zW) rfl ?_
 refine aP 8 rfl (qF rfl) rfl ?_
 refine aL 9 rfl (A2 rfl rfl (hat1 _) rfl) rfl ?_
 refine J8 (j := 10) (j' := 15) zT ?_ ?_
 (have hq := hq3; have hNu := A4c 8 (.mk 2 ⟨⟨[]⟩⟩ m _ _ _ []) (.mk 2 ⟨⟨[]⟩⟩ n _ _ _ []) G _ _ zU hnk.1 hnk.2 hndA hndB; rw [A9R] at hNu; refine D6 rfl rfl hNu rfl rfl rfl (fun v G3 hle3 hh => ?_); obtain ⟨uc, hvv, hru⟩ := hh; replace hvv : v = .tuple ⟨[.agg ⟨uc⟩, .int .i64 1, .int .i64 0]⟩ := hvv; subst hvv; replace hru : D1 G3 (.mk (if m < n then 3 else 4) ⟨⟨[]⟩⟩ 0 (.mk 0 []) (.mk 0 []) 0 []) uc := (by simp only [T7, A0c] at hru; exact hru); obtain ⟨ptR, ctR, pfR, cfR, pR, cR, esR, rfl, _, _, _, _, _, _, _⟩ := hru.open9; have hru2 := hru)
 refine aP 11 rfl (qM rfl) rfl ?_
 refine aP 12 rfl (pX rfl rfl) rfl ?_
 refine aP 13 rfl (pX rfl rfl) rfl ?_
 refine aP 14 rfl (pX rfl rfl) rfl ?_
 refine A0 15 ?_
 (refine B6 rfl (A4 rfl) rfl rfl ?_; rintro _ ⟨b439, rfl⟩)
 refine A0 16 ?_
 refine B8 rfl ?_
 refine aP 17 rfl (qA rfl) rfl ?_
 refine aP 18 rfl (qA rfl) rfl ?_
 refine A8 ?_
 refine sS rfl rfl rfl hl1 ho1 rfl ?_ (hu := by exact D7 hl1.symm)
 refine A7 ?_
 refine C5 (rC rfl (A1 rfl rfl)) (rT rfl) ?_
 (exact Y7.ok (u := .tru (decide (m < n))) hst rfl (by have hz := A0X hru2 (by split <;> decide); by_cases hmn : m < n; (rw [if_pos hmn] at hz ⊢; rw [decide_eq_true hmn]; exact hz); (rw [if_neg hmn] at hz ⊢; rw [decide_eq_false hmn]; exact hz)))
 (refine B6 rfl (A4 rfl) rfl rfl ?_; rintro _ ⟨b460, rfl⟩)
 refine A0 10 ?_
 (have hq := hq3; have hNu := A4c 8 (.mk 2 ⟨⟨[]⟩⟩ m _ _ _ []) (.mk 2 ⟨⟨[]⟩⟩ n _ _ _ []) G _ _ zU hnk.1 hnk.2 hndA hndB; rw [A9R] at hNu; refine D6 rfl rfl hNu rfl rfl rfl (fun v G3 hle3 hh => ?_); obtain ⟨uc, hvv, hru⟩ := hh; replace hvv : v = .tuple ⟨[.agg ⟨uc⟩, .int .i64 1, .int .i64 0]⟩ := hvv; subst hvv; replace hru : D1 G3 (.mk (if m < n then 3 else 4) ⟨⟨[]⟩⟩ 0 (.mk 0 []) (.mk 0 []) 0 []) uc := (by simp only [T7, A0c] at hru; exact hru); obtain ⟨ptR, ctR, pfR, cfR, pR, cR, esR, rfl, _, _, _, _, _, _, _⟩ := hru.open9; have hru2 := hru)
 refine aP 11 rfl (qM rfl) rfl ?_
 refine aP 12 rfl (pX rfl rfl) rfl ?_
 refine aP 13 rfl (pX rfl rfl) rfl ?_
 refine aP 14 rfl (pX rfl rfl) rfl ?_
 refine A0 16 ?_
 refine B8 rfl ?_
 refine aP 17 rfl (qA rfl) rfl ?_
 refine aP 18 rfl (qA rfl) rfl ?_
 refine A8 ?_
 refine sS rfl rfl rfl hl1 ho1 rfl ?_ (hu := by exact D7 hl1.symm)
 refine A7 ?_
 refine C5 (rC rfl (A1 rfl rfl)) (rT rfl) ?_
 (exact Y7.ok (u := .tru (decide (m < n))) hst rfl (by have hz := A0X hru2 (by split <;> decide); by_cases hmn : m < n; (rw [if_pos hmn] at hz ⊢; rw [decide_eq_true hmn]; exact hz); (rw [if_neg hmn] at hz ⊢; rw [decide_eq_false hmn]; exact hz)))
 refine tR ?_
 refine sE (D8 rfl rfl) rfl (fun b488 => ?_)
 refine sE (A4 rfl) rfl (fun b489 => ?_)
 refine A8 ?_
 refine sP (A6 (j := 0) rfl rfl rfl zW) rfl rfl ?_
 refine sL (A2 rfl rfl (hat0 _) hl0) rfl rfl ?_
 refine sE (A4 rfl) rfl (fun b499 => ?_)
 refine E8 ?_
 refine B7 ?_
 refine A3 ?_
 refine sP (E1 rfl rfl zV) rfl rfl ?_
 refine A8 ?_
 refine sP (I1 rfl rfl zV) rfl rfl ?_
 refine K1 ?_
 refine sP (R9 rfl rfl zV zV) rfl rfl ?_
 refine C2 ?_
 refine sP (I1 rfl rfl zV) rfl rfl ?_
 refine B4 ?_
 refine sP (A6 (j := 0) rfl rfl rfl zW) rfl rfl ?_
 refine sL (A2 rfl rfl (hat1 _) hl1) rfl rfl ?_
 refine sS rfl rfl rfl hl1 ho1 rfl ?_ (hu := by exact D7 hl1.symm)
 refine A8 ?_
 refine C5 (rC rfl (A2 rfl rfl (C9 zO) hl1)) (rT rfl) ?_
 (exact Y7.ok (u := a) hst rfl hre1)
 refine tR ?_
 refine sE (D8 rfl rfl) rfl (fun b567 => ?_)
 refine sE (A4 rfl) rfl (fun b568 => ?_)
 refine A8 ?_
 refine sP (A6 (j := 0) rfl rfl rfl zW) rfl rfl ?_
 refine sL (A2 rfl rfl (hat0 _) hl0) rfl rfl ?_
 refine sE (A4 rfl) rfl (fun b578 => ?_)
 refine E8 ?_
 refine B7 ?_
 refine A3 ?_
 refine sP (E1 rfl rfl zV) rfl rfl ?_
 refine A8 ?_
 refine sP (E1 rfl rfl zV) rfl rfl ?_
 refine A9 ?_
 refine sP (I1 rfl rfl zV) rfl rfl ?_
 refine C2 ?_
 refine sP (R9 rfl rfl zV zV) rfl rfl ?_
 refine C2 ?_
 refine sP (I1 rfl rfl zV) rfl rfl ?_
 refine B4 ?_
 refine sP (A6 (j := 1) rfl rfl rfl zW) rfl rfl ?_
 refine sL (A2 rfl rfl (hat2 _) hl2) rfl rfl ?_
 refine sS rfl rfl rfl hl2 ho2 rfl ?_ (hu := by exact D7 hl2.symm)
 refine A8 ?_
 refine C5 (rC rfl (A2 rfl rfl (C9 zO) hl2)) (rT rfl) ?_
 (exact Y7.ok (u := b) hst rfl hre2)
 refine tR ?_
 refine sE (D8 rfl rfl) rfl (fun b649 => ?_)
 refine sE (A4 rfl) rfl (fun b650 => ?_)
 refine A8 ?_
 refine sP (A6 (j := 0) rfl rfl rfl zW) rfl rfl ?_
 refine sL (A2 rfl rfl (hat0 _) hl0) rfl rfl ?_
 refine sE (A4 rfl) rfl (fun b660 => ?_)
 refine sS rfl rfl rfl hl2 ho2 rfl ?_ (hu := by exact D7 hl2.symm)
 refine H3 ?_
 refine B7 ?_
 refine A3 ?_
 refine sP (E1 rfl rfl zV) rfl rfl ?_
 refine A8 ?_
 refine sP (I1 rfl rfl zV) rfl rfl ?_
 refine K1 ?_
 refine sP (R9 rfl rfl zV zV) rfl rfl ?_
 refine C2 ?_
 refine sP (E1 rfl rfl zV) rfl rfl ?_
 refine H3 ?_
 refine sP (I1 rfl rfl zV) rfl rfl ?_
 refine C3 ?_
 refine sP (I1 rfl rfl zV) rfl rfl ?_
 refine A9 ?_
 refine D3 D4 rfl ?_
 refine E9 (i := 0) (l' := [tt,ff,ff,ff,ff,ff,ff,ff,ff,ff,ff,ff,ff,ff,ff,ff,ff]) rfl C1 (B0 rfl) rfl zT rfl rfl ?_
 refine aL 1 rfl (A1 rfl rfl) rfl ?_
 refine aP 2 rfl (B0 rfl) rfl ?_
 refine aL 3 rfl (B3 rfl rfl) rfl ?_
 refine aP 4 rfl (A6 (j := 0) rfl rfl rfl zW) rfl ?_
 refine aL 5 rfl (A2 rfl rfl (hat2 _) hl2) rfl ?_
 refine aP 8 rfl (B0 rfl) rfl ?_
 refine aP 9 rfl (qF rfl) rfl ?_
 refine aL 10 rfl (B3 rfl rfl) rfl ?_
 refine aP 11 rfl (qM rfl) rfl ?_
 refine aP 12 rfl (A6 (j := 0) rfl rfl rfl zW) rfl ?_
 refine aL 13 rfl (A2 rfl rfl (hat3 _) hl3) rfl ?_
 refine A0 6 ?_
 (refine B6 rfl (C0 rfl rfl rfl zV zQ rfl) rfl rfl ?_; rintro _ ⟨b742, rfl⟩)
 refine aP 7 rfl (K8 rfl rfl) rfl ?_
 refine A0 14 ?_
 (have hq := hq6; refine Y2 (cs := [.int .i64 10, .string ⟨⟨[]⟩⟩, .int .i64 0, .int .i64 tkB, .slice ptB tksB.length ctB, .int .i64 fkB, .slice pfB fksB.length cfB, .int .i64 lbB, .slice p0B 0 c0B, .int .i64 0, .int .i64 0, .int .i64 0, .slice pcB 0 ccB, .slice pB 2 cB]) zM (fun G1 hle1 hsl2 hno2 => ?_); have hrN := A9P (hnd.mono hle1) (hre2'.mono hle1) hsl2; refine D6 rfl rfl (A1o _ c9.cn G1 _ _ hrN (hre3.mono hle1)) rfl rfl rfl (fun v G3 hle3 hh => ?_); obtain ⟨vc, rfl, hrv⟩ := hh; have hvl := hrv.len; have hvo := hrv.one)
 refine A0 15 ?_
 (refine oS rfl rfl rfl rfl hvl hvo rfl rfl ?_ (hu := by exact D7 hvl.symm))
 refine aP 16 rfl (qA rfl) rfl ?_
 refine A9 ?_
 refine C5 (rC rfl (A2 rfl rfl (C9 zO) hvl)) (rT rfl) ?_
 (have hq := hq6; exact Y7.ok (u := .conv c9 (.part false (.pair a b))) hst rfl hrv)
 refine tR ?_
 refine sE (D8 rfl rfl) rfl (fun b757 => ?_)
 refine sE (A4 rfl) rfl (fun b758 => ?_)
 refine A8 ?_
 refine sP (A6 (j := 0) rfl rfl rfl zW) rfl rfl ?_
 refine sL (A2 rfl rfl (hat0 _) hl0) rfl rfl ?_
 refine sE (A4 rfl) rfl (fun b768 => ?_)
 refine sS rfl rfl rfl hl2 ho2 rfl ?_ (hu := by exact D7 hl2.symm)
 refine H3 ?_
 refine B7 ?_
 refine A3 ?_
 refine sP (E1 rfl rfl zV) rfl rfl ?_
 refine A8 ?_
 refine sP (E1 rfl rfl zV) rfl rfl ?_
 refine A9 ?_
 refine sP (I1 rfl rfl zV) rfl rfl ?_
 refine C2 ?_
 refine sP (R9 rfl rfl zV zV) rfl rfl ?_
 refine C2 ?_
 refine sP (E1 rfl rfl zV) rfl rfl ?_
 refine H3 ?_
 refine sP (I1 rfl rfl zV) rfl rfl ?_
 refine C3 ?_
 refine sP (I1 rfl rfl zV) rfl rfl ?_
 refine A9 ?_
 refine D3 D4 rfl ?_
 refine E9 (i := 0) (l' := [tt,ff,ff,ff,ff,ff,ff,ff,ff,ff,ff,ff,ff,ff,ff,ff,ff]) rfl C1 (B0 rfl) rfl zT rfl rfl ?_
 refine aL 1 rfl (A1 rfl rfl) rfl ?_
 refine aP 2 rfl (B0 rfl) rfl ?_
 refine aL 3 rfl (B3 rfl rfl) rfl ?_
 refine aP 4 rfl (A6 (j := 0) rfl rfl rfl zW) rfl ?_
 refine aL 5 rfl (A2 rfl rfl (hat2 _) hl2) rfl ?_
 refine aP 8 rfl (B0 rfl) rfl ?_
 refine aP 9 rfl (qF rfl) rfl ?_
 refine aL 10 rfl (B3 rfl rfl) rfl ?_
 refine aP 11 rfl (qM rfl) rfl ?_
 refine aP 12 rfl (A6 (j := 1) rfl rfl rfl zW) rfl ?_
 refine aL 13 rfl (A2 rfl rfl (hat4 _) hl4) rfl ?_
 refine A0 6 ?_
 (refine B6 rfl (C0 rfl rfl rfl zV zQ rfl) rfl rfl ?_; rintro _ ⟨b853, rfl⟩)
 refine aP 7 rfl (K8 rfl rfl) rfl ?_
 refine A0 14 ?_
 (have hq := hq6; refine Y2 (cs := [.int .i64 10, .string ⟨⟨[]⟩⟩, .int .i64 0, .int .i64 tkB, .slice ptB tksB.length ctB, .int .i64 fkB, .slice pfB fksB.length cfB, .int .i64 lbB, .slice p0B 0 c0B, .int .i64 0, .int .i64 0, .int .i64 0, .slice pcB 0 ccB, .slice pB 2 cB]) zM (fun G1 hle1 hsl2 hno2 => ?_); have hrN := A9P (hnd.mono hle1) (hre2'.mono hle1) hsl2; refine D6 rfl rfl (A1o _ d9.cn G1 _ _ hrN (hre4.mono hle1)) rfl rfl rfl (fun v G3 hle3 hh => ?_); obtain ⟨vc, rfl, hrv⟩ := hh; have hvl := hrv.len; have hvo := hrv.one)
 refine A0 15 ?_
 (refine oS rfl rfl rfl rfl hvl hvo rfl rfl ?_ (hu := by exact D7 hvl.symm))
 refine aP 16 rfl (qA rfl) rfl ?_
 refine A9 ?_
 refine C5 (rC rfl (A2 rfl rfl (C9 zO) hvl)) (rT rfl) ?_
 (have hq := hq6; exact Y7.ok (u := .conv d9 (.part true (.pair a b))) hst rfl hrv)
theorem B4M {t : TH} {k : Int} {nm : ByteArray} {num : Int} {co : Cn} {ks : List Nt} (h : t.nt = .mk k nm num co ks) (hc : t.cnv = false) : co = K5 := by
 cases t <;> first | (simp only [TH.nt, Nt.mk.injEq] at h; exact h.2.2.2.1.symm) | cases hc
theorem B4N {t : TH} {A : GT} (hT : ST M9 t A) (hc : t.cnv = false) (hv : t.val = false) (hj : ∀ j, j < t.cnt → (h : j < t.kids.length) → t.kids[j].val = true) : t.stp.2.1 = 1 ∧ t.stp.2.2 = 0 ∧ 0 < t.cnt := by
 rcases A3o hT hc hv hj with ⟨x, B, e, w, rfl, h⟩ | ⟨c9, d9, x, B, e, w, rfl, h⟩ | ⟨s, m, n, rfl, h⟩ | ⟨s, x, y, rfl, h⟩ | ⟨s, a, b, rfl, h⟩ | ⟨s, c9, d9, a, b, rfl, h⟩ <;> (rw [h]; exact ⟨rfl, rfl, by simp [TH.cnt, TH.kids]⟩)
theorem A9S {t : TH} {k : Int} {nm : ByteArray} {num : Int} {co : Cn} {ks : List Nt} (h : t.nt = .mk k nm num co ks) (hk : k = 9) : ∃ c a b, t = .ite c a b := by
 cases t <;> simp only [TH.nt, Nt.mk.injEq] at h <;> first | exact ⟨_, _, _, rfl⟩ | (exfalso; omega) | (exfalso; have := h.1; split at this <;> omega)
theorem A1G (t : TH) (ih : ∀ u ∈ t.kids, A4E u) : A4E t := by
 intro G cells A hT hv hnk hr
 have hone : True := trivial
 have hr0 := hr
 have hkn := A9n hnk
 obtain ⟨k, nm, num, ck, ctg, clb, cks, ks, ht⟩ := A0q t
 have hks := A4w ht
 have hlen : ks.length = t.kids.length := by rw [hks, List.length_map]
 have hCo : k = 14 → Fn Tryz.prog 138 [.agg ⟨cells⟩] [] G (L0 t.stp) := by
  intro h
  obtain ⟨c, e, rfl, _⟩ := @A2x t nm num (.mk ck ctg clb cks) ks (by rw [← h]; exact ht)
  exact B4K c e G cells A hT hnk (ih e List.mem_cons_self) hr0
 have hnc := fun (h : k ≠ 14) => A11 ht h
 have hco0 := fun (h : k ≠ 14) => B4M ht (hnc h)
 have hcn9 := A9q ht
 obtain ⟨C, hC⟩ : ∃ C : Nat, t.cnt = C := ⟨_, rfl⟩
 have hIO : k ≠ 14 → ∀ i, i < C → (hl : i < t.kids.length) → (∀ j, j < i → (h : j < t.kids.length) → t.kids[j].val = true) → t.kids[i].val = false → A4x t i t.kids[i] ∧ ∀ (G : IM) (cs : List Value), B1 G t.kids[i].nt cs → Fn Tryz.prog 84 [.agg ⟨cs⟩] [] G (L0 t.kids[i].stp) := by
  intro h i hi hl hj hn
  obtain ⟨hK, B, hB⟩ := A9r hT (hnc h) hv zV hl hj hn
  exact ⟨hK, fun G' cs h' => ih _ (List.getElem_mem hl) G' cs B hB hn (hkn _ (List.getElem_mem hl)) h'⟩
 have hC1 : k = 9 → C = 1 := fun h => by rw [← hC, hcn9, if_pos h]
 have hC2 : k ≠ 9 → C = ks.length := fun h => by rw [← hC, hcn9, if_neg h]
 have hC9 : C ≤ ks.length := by
  by_cases h9 : k = 9
  ·have h1 := hC1 h9
   have h2 : 1 ≤ t.kids.length := by
    obtain ⟨c, a, b, rfl⟩ := A9S ht h9
    show 1 ≤ 3
    decide
   omega
  ·exact Nat.le_of_eq (hC2 h9)
 have hnt : ∀ i, (h : i < ks.length) → (h' : i < t.kids.length) → ks[i] = t.kids[i].nt := by
  intro i h h'
  subst hks
  rw [List.getElem_map]
 have hRd := fun (h : k ≠ 14) (h9 : k ≠ 9) hall => B4L t G cells A hT (hnc h) hv hnk hall (by rw [ht]; exact h9) hr0
 have hRc := fun (h : k ≠ 14) hall => @B4N t A hT (hnc h) hv hall
 have hred := fun (h : k ≠ 14) => @A3o t A hT (hnc h) hv
 rw [hC] at hRd hRc hred
 rw [ht] at hr
 obtain ⟨tk, tks, fk, fks, lb, pt, ct, pf, cf, p0, c0, pc, cc, p, c, es, rfl, hnd, hco, hn3, hk14, hsl, hkl⟩ := hr.open14
 have hn := hsl.le
 have hnc' := hsl.sl.2.1
 have hes1 : ∀ u ∈ es.flatten, u.oneCell' = true := by
  intro u hu
  obtain ⟨e, he, hue⟩ := List.mem_flatten.1 hu
  exact List.all_eq_true.1 (hsl.one e he) u hue
 refine D5 Tryz.func84 rfl Tryz.ntmps84 Tryz.results84 rfl ?_
 intro w0
 refine A3 ?_
 refine sE (D8 rfl rfl) rfl (fun b3 => ?_)
 refine sE (A4 rfl) rfl (fun b4 => ?_)
 refine H3 ?_
 refine sB (qE rfl rfl) rfl rfl (fun h15 => ?_) (fun h15 => ?_)
 refine A7 ?_
 (refine E7 rfl (hCo zV) rfl rfl (fun v G1 hle1 hh => ?_); obtain ⟨vc, n1, rfl, hrv, hn1⟩ := hh; have hvl := hrv.len; have hvo := hrv.one)
 refine B2 ?_
 refine sS rfl rfl rfl hvl hvo rfl ?_ (hu := by exact D7 hvl.symm)
 refine A7 ?_
 refine E4 (rC rfl (A2 rfl rfl (C9 zO) hvl)) (rT rfl) (rT rfl) ?_
 (exact ⟨rfl, vc, n1, rfl, hrv, hn1⟩)
 refine Z7 ?_
 refine sB (qE rfl rfl) rfl rfl (fun h54 => ?_) (fun h54 => ?_)
 refine A3 ?_
 (show J7 _ _ (.cond (.tmp 28) _ _) _ _; refine A1X (fun (_ : Unit) => ⟨[(5, .int .i64 (C : Int)), (1, .pointer (some ⟨b3, 0, none⟩)), (2, .pointer (some ⟨b4, 0, none⟩))], [.blk b4 [.int .i64 0, .string ⟨⟨[]⟩⟩, .int .i64 0, .int .i64 0, .slice none 0 0, .int .i64 0, .slice none 0 0, .int .i64 0, .slice none 0 0, .int .i64 0, .int .i64 0, .int .i64 0, .slice none 0 0, .slice none 0 0], .blk b3 [.int .i64 k, .string nm, .int .i64 num, .int .i64 tk, .slice pt tks.length ct, .int .i64 fk, .slice pf fks.length cf, .int .i64 lb, .slice p0 0 c0, .int .i64 ck, .int .i64 ctg, .int .i64 clb, .slice pc cks.length cc, .slice p ks.length c]], G⟩) (fun _ => True) (qT rfl ?_) ?_)
 refine B2 ?_
 (have hCC := hC1 zV; subst hCC; refine A0C () (T4 zL zI) trivial)
 (rintro (_ : Unit) _)
 refine A7 ?_
 refine B7 ?_
 (refine J3 (fun (i : Nat) => ⟨[(6, .int .i64 (i : Int)), (5, .int .i64 (C : Int)), (1, .pointer (some ⟨b3, 0, none⟩)), (2, .pointer (some ⟨b4, 0, none⟩))], [.blk b4 [.int .i64 0, .string ⟨⟨[]⟩⟩, .int .i64 0, .int .i64 0, .slice none 0 0, .int .i64 0, .slice none 0 0, .int .i64 0, .slice none 0 0, .int .i64 0, .int .i64 0, .int .i64 0, .slice none 0 0, .slice none 0 0], .blk b3 [.int .i64 k, .string nm, .int .i64 num, .int .i64 tk, .slice pt tks.length ct, .int .i64 fk, .slice pf fks.length cf, .int .i64 lb, .slice p0 0 c0, .int .i64 ck, .int .i64 ctg, .int .i64 clb, .slice pc cks.length cc, .slice p ks.length c]], G⟩) (fun i => i ≤ C ∧ ∀ j, j < i → (h : j < t.kids.length) → t.kids[j].val = true) (fun i => C - i) 0 ?_ ?_ ?_)
 exact E3
 (exact ⟨Nat.zero_le _, fun j hj => absurd hj (Nat.not_lt_zero j)⟩)
 (rintro i ⟨hi, hj⟩)
 refine A9 ?_
 refine sB (I3 rfl rfl) rfl rfl (fun h79 => ?_) (fun h79 => ?_)
 refine A7 ?_
 refine B7 ?_
 refine A7 ?_
 (have hiC : i < C := zV; obtain ⟨bx, ox, ei, rfl, hli, hoi, hati, hrei, _, hgbi⟩ := hsl.kidR hkl (i := i) zV zV; rw [hnt i zV zV] at hrei; have hVi := (A4C _).2 G ei hrei; refine sP (A6 (j := i) rfl rfl rfl zV) rfl rfl ?_)
 refine sL (A2 rfl rfl (hati _) hli) rfl rfl ?_
 refine I5 rfl (hVi) rfl rfl (fun h95 => ?_) (fun h95 => ?_)
 refine C2 ?_
 refine sP (H9 rfl rfl zV zV) rfl rfl ?_
 refine A3 ?_
 refine I6 (i + 1) ?_ ?_ ?_
 exact E3
 (exact ⟨by omega, fun j hji hl2 => (by by_cases he : j = i; (subst he; assumption); exact hj j zV hl2)⟩)
 (show C - (i + 1) < C - i; omega)
 refine H3 ?_
 (have hiC9 := hiC; refine sP (A6 (j := i) rfl rfl rfl zV) rfl rfl ?_)
 refine sL (A2 rfl rfl (hati _) hli) rfl rfl ?_
 (obtain ⟨⟨_, D, hD, hDn⟩, hS⟩ := hIO zV i hiC zV hj zS; refine E7 rfl (hS G ei hrei) rfl rfl (fun v G1 hle1 hh => ?_); obtain ⟨uc, n1, rfl, hru, hu1⟩ := hh; have hul := hru.len; have huo := hru.one; have hEE := hco0 zV; simp only [K5, Cn.mk.injEq] at hEE; obtain ⟨rfl, rfl, rfl, rfl⟩ := hEE)
 refine C3 ?_
 refine sE (A4 rfl) rfl (fun b129 => ?_)
 refine sS rfl rfl rfl hul huo rfl ?_ (hu := by exact D7 hul.symm)
 refine A9 ?_
 refine D3 D4 rfl ?_
 refine E9 (i := 0) (l' := [tt,ff,ff,ff,ff,ff,ff,ff,ff]) rfl C1 (B0 rfl) rfl zT rfl rfl ?_
 refine aL 1 rfl (A1 rfl rfl) rfl ?_
 refine aP 3 rfl (B0 rfl) rfl ?_
 refine aL 4 rfl (B3 rfl rfl) rfl ?_
 refine J8 (j := 2) (j' := 7) zT ?_ ?_
 (refine B6 rfl (C0 rfl rfl rfl zV zQ rfl) rfl rfl ?_; rintro _ ⟨b142, rfl⟩)
 refine J8 (j := 5) (j' := 7) zT ?_ ?_
 (refine A1d rfl rfl rfl rfl rfl rfl (fun _ _ => by repeat (first | exact Sw.here | apply Sw.there)) (hsl.mono hle1).sl hes1 (Nat.zero_le _) zQ zV rfl rfl zG (fun p4 c4 => ?_); simp only [Nat.zero_add, List.nil_append])
 refine aP 6 rfl (K8 rfl rfl) rfl ?_
 refine A0 7 ?_
 (refine B6 rfl (A4 rfl) rfl rfl ?_; rintro _ ⟨b147, rfl⟩)
 refine A0 8 ?_
 refine B8 rfl ?_
 refine A8 ?_
 refine sL (A2 rfl rfl (C9 zO) hul) rfl rfl ?_
 (have hdone := hru; refine A1e (p := p4) (cs := es.flatten) zM zV (fun bc Cc hpc hnc9 hmc => ?_); subst hpc; refine sP (A6 (j := i) rfl rfl rfl zV) rfl rfl ?_)
 refine U8 rfl rfl rfl hul huo rfl zN (by exact A1f (by rw [hsl.len]; omega) (fun e he => (hsl.all e he)) hul) ?_
 refine K1 ?_
 (refine Z8 (bs := [(bc, (es.set i uc).flatten ++ Cc)]) (Pk.perm zM) (fun hn2 hd2 hle2 => ?_))
 refine A7 ?_
 refine E4 (rC rfl (A1 rfl rfl)) (rT rfl) (rT rfl) ?_
 (have hks2 : KR (B1 _) (ks.set i n1) (es.set i uc) := KR.set (KR.imp hkl fun a e h => (h.mono hle1).mono hle2) (hru.mono hle2); have hes2 : ∀ x ∈ es.set i uc, x.length = 14 ∧ x.all (·.oneCell') = true := KR.each hks2 (by rw [List.length_set, List.length_set, hsl.len]); exact L0.mk (by rw [hD]; rfl) (by rw [hD]; rfl) (B1.put (us := ks.set i n1) (es := es.set i uc) ((hnd.mono hle1).mono hle2) (X3 _) (by rw [List.length_set]; exact hn3) (fun h => by rw [List.length_set]; exact hk14 h) (by rw [List.length_set]) (C8.of (Sl.of_blk (A := []) (by rw [V8 (fun x hx => (hes2 x hx).1), List.length_set, hsl.len]) zV hmc (Wi.in hn2 List.mem_cons_self)) (by rw [List.length_set, hsl.len]) (fun x hx => (hes2 x hx).1) (fun x hx => (hes2 x hx).2)) hks2) (fun h => by rw [hD] at h ⊢; show _ = (D t.kids[i].stp.1).nt; rw [hDn _ _ _ _ _ _ ht, hu1 h]))
 (refine B6 rfl (A4 rfl) rfl rfl ?_; rintro _ ⟨b181, rfl⟩)
 refine A0 5 ?_
 (refine A1d rfl rfl rfl rfl rfl rfl (fun _ _ => by repeat (first | exact Sw.here | apply Sw.there)) (hsl.mono hle1).sl hes1 (Nat.zero_le _) zQ zV rfl rfl zG (fun p4 c4 => ?_); simp only [Nat.zero_add, List.nil_append])
 refine aP 6 rfl (K8 rfl rfl) rfl ?_
 refine A0 8 ?_
 refine B8 rfl ?_
 refine A8 ?_
 refine sL (A2 rfl rfl (C9 zO) hul) rfl rfl ?_
 (have hdone := hru; refine A1e (p := p4) (cs := es.flatten) zM zV (fun bc Cc hpc hnc9 hmc => ?_); subst hpc; refine sP (A6 (j := i) rfl rfl rfl zV) rfl rfl ?_)
 refine U8 rfl rfl rfl hul huo rfl zN (by exact A1f (by rw [hsl.len]; omega) (fun e he => (hsl.all e he)) hul) ?_
 refine K1 ?_
 (refine Z8 (bs := [(bc, (es.set i uc).flatten ++ Cc)]) (Pk.perm zM) (fun hn2 hd2 hle2 => ?_))
 refine A7 ?_
 refine E4 (rC rfl (A1 rfl rfl)) (rT rfl) (rT rfl) ?_
 (have hks2 : KR (B1 _) (ks.set i n1) (es.set i uc) := KR.set (KR.imp hkl fun a e h => (h.mono hle1).mono hle2) (hru.mono hle2); have hes2 : ∀ x ∈ es.set i uc, x.length = 14 ∧ x.all (·.oneCell') = true := KR.each hks2 (by rw [List.length_set, List.length_set, hsl.len]); exact L0.mk (by rw [hD]; rfl) (by rw [hD]; rfl) (B1.put (us := ks.set i n1) (es := es.set i uc) ((hnd.mono hle1).mono hle2) (X3 _) (by rw [List.length_set]; exact hn3) (fun h => by rw [List.length_set]; exact hk14 h) (by rw [List.length_set]) (C8.of (Sl.of_blk (A := []) (by rw [V8 (fun x hx => (hes2 x hx).1), List.length_set, hsl.len]) zV hmc (Wi.in hn2 List.mem_cons_self)) (by rw [List.length_set, hsl.len]) (fun x hx => (hes2 x hx).1) (fun x hx => (hes2 x hx).2)) hks2) (fun h => by rw [hD] at h ⊢; show _ = (D t.kids[i].stp.1).nt; rw [hDn _ _ _ _ _ _ ht, hu1 h]))
 (refine B6 rfl (A4 rfl) rfl rfl ?_; rintro _ ⟨b218, rfl⟩)
 refine A0 2 ?_
 (refine B6 rfl (C0 rfl rfl rfl zV zQ rfl) rfl rfl ?_; rintro _ ⟨b220, rfl⟩)
 refine A0 5 ?_
 (refine A1d rfl rfl rfl rfl rfl rfl (fun _ _ => by repeat (first | exact Sw.here | apply Sw.there)) (hsl.mono hle1).sl hes1 (Nat.zero_le _) zQ zV rfl rfl zG (fun p4 c4 => ?_); simp only [Nat.zero_add, List.nil_append])
 refine aP 6 rfl (K8 rfl rfl) rfl ?_
 refine A0 8 ?_
 refine B8 rfl ?_
 refine A8 ?_
 refine sL (A2 rfl rfl (C9 zO) hul) rfl rfl ?_
 (have hdone := hru; refine A1e (p := p4) (cs := es.flatten) zM zV (fun bc Cc hpc hnc9 hmc => ?_); subst hpc; refine sP (A6 (j := i) rfl rfl rfl zV) rfl rfl ?_)
 refine U8 rfl rfl rfl hul huo rfl zN (by exact A1f (by rw [hsl.len]; omega) (fun e he => (hsl.all e he)) hul) ?_
 refine K1 ?_
 (refine Z8 (bs := [(bc, (es.set i uc).flatten ++ Cc)]) (Pk.perm zM) (fun hn2 hd2 hle2 => ?_))
 refine A7 ?_
 refine E4 (rC rfl (A1 rfl rfl)) (rT rfl) (rT rfl) ?_
 (have hks2 : KR (B1 _) (ks.set i n1) (es.set i uc) := KR.set (KR.imp hkl fun a e h => (h.mono hle1).mono hle2) (hru.mono hle2); have hes2 : ∀ x ∈ es.set i uc, x.length = 14 ∧ x.all (·.oneCell') = true := KR.each hks2 (by rw [List.length_set, List.length_set, hsl.len]); exact L0.mk (by rw [hD]; rfl) (by rw [hD]; rfl) (B1.put (us := ks.set i n1) (es := es.set i uc) ((hnd.mono hle1).mono hle2) (X3 _) (by rw [List.length_set]; exact hn3) (fun h => by rw [List.length_set]; exact hk14 h) (by rw [List.length_set]) (C8.of (Sl.of_blk (A := []) (by rw [V8 (fun x hx => (hes2 x hx).1), List.length_set, hsl.len]) zV hmc (Wi.in hn2 List.mem_cons_self)) (by rw [List.length_set, hsl.len]) (fun x hx => (hes2 x hx).1) (fun x hx => (hes2 x hx).2)) hks2) (fun h => by rw [hD] at h ⊢; show _ = (D t.kids[i].stp.1).nt; rw [hDn _ _ _ _ _ _ ht, hu1 h]))
 refine H3 ?_
 focus (have hz9 : k = 9 := zV; have hone2 := hone; clear hone; have hA := hred zV (fun j hjc hl => hj j zV hl); obtain ⟨i1, i2, i3, rfl⟩ := A9S ht hz9; obtain ⟨s, x, y, hxx, hst⟩ : ∃ (b : Bool) (x y : TH), TH.ite i1 i2 i3 = .ite (.tru b) x y ∧ (TH.ite i1 i2 i3).stp = (if b = true then x else y, 1, 0) := (by rcases hA with ⟨_, _, _, _, h, _⟩ | ⟨_, _, _, _, _, _, h, _⟩ | ⟨_, _, _, h, _⟩ | ⟨s, x, y, h1, h2⟩ | ⟨_, _, _, h, _⟩ | ⟨_, _, _, _, _, h, _⟩; cases h; cases h; cases h; exact ⟨s, x, y, h1, h2⟩; cases h; cases h); simp only [TH.ite.injEq] at hxx; obtain ⟨rfl, rfl, rfl⟩ := hxx; clear hA hred hRc hRd hIO hCo; cases s; simp only [TH.nt, K5, Nt.mk.injEq, Cn.mk.injEq, if_true, Bool.false_eq_true, if_false] at ht; obtain ⟨rfl, rfl, rfl, ⟨rfl, rfl, rfl, rfl⟩, rfl⟩ := ht; have hq4 : True := trivial; obtain ⟨b0, o0, e0, rfl, hl0, ho0, hat0, hre0, _, hgb0⟩ := hsl.kidR hkl (i := 0) zW zW; replace hre0 : B1 G (.mk 4 ⟨⟨[]⟩⟩ 0 (.mk 0 0 0 []) []) e0 := hre0; obtain ⟨_, _, e1, hE1, hl1, ho1, hat1, hre1, _, hgb1⟩ := hsl.kidR hkl (i := 1) zW zW; cases hE1; replace hre1 : B1 G i2.nt e1 := hre1; obtain ⟨_, _, e2, hE2, hl2, ho2, hat2, hre2, _, hgb2⟩ := hsl.kidR hkl (i := 2) zW zW; cases hE2; replace hre2 : B1 G i3.nt e2 := hre2; obtain ⟨tkA, tksA, fkA, fksA, lbA, ptA, ctA, pfA, cfA, p0A, c0A, pcA, ccA, pA, cA, esA, rfl, hndA, hcoA, _, _, hslA, hklA⟩ := hre0.open14; rotate_left; simp only [TH.nt, K5, Nt.mk.injEq, Cn.mk.injEq, if_true, Bool.false_eq_true, if_false] at ht; obtain ⟨rfl, rfl, rfl, ⟨rfl, rfl, rfl, rfl⟩, rfl⟩ := ht; have hq4 : True := trivial; obtain ⟨b0, o0, e0, rfl, hl0, ho0, hat0, hre0, _, hgb0⟩ := hsl.kidR hkl (i := 0) zW zW; replace hre0 : B1 G (.mk 3 ⟨⟨[]⟩⟩ 0 (.mk 0 0 0 []) []) e0 := hre0; obtain ⟨_, _, e1, hE1, hl1, ho1, hat1, hre1, _, hgb1⟩ := hsl.kidR hkl (i := 1) zW zW; cases hE1; replace hre1 : B1 G i2.nt e1 := hre1; obtain ⟨_, _, e2, hE2, hl2, ho2, hat2, hre2, _, hgb2⟩ := hsl.kidR hkl (i := 2) zW zW; cases hE2; replace hre2 : B1 G i3.nt e2 := hre2; obtain ⟨tkA, tksA, fkA, fksA, lbA, ptA, ctA, pfA, cfA, p0A, c0A, pcA, ccA, pA, cA, esA, rfl, hndA, hcoA, _, _, hslA, hklA⟩ := hre0.open14; rotate_left)
 refine C3 ?_
 refine sP (I1 rfl rfl zV) rfl rfl ?_
 refine B4 ?_
 refine sP (A6 (j := 0) rfl rfl rfl zW) rfl rfl ?_
 refine A3 ?_
 refine sL (A03 rfl rfl (At.sub2 (hat0 _) (j := 0) (j' := 0) rfl)) rfl rfl ?_
 refine A3 ?_
 refine B7 ?_
 refine A3 ?_
 refine sP (E1 rfl rfl zV) rfl rfl ?_
 refine A7 ?_
 refine sP (I1 rfl rfl zV) rfl rfl ?_
 refine B4 ?_
 refine sP (A6 (j := 2) rfl rfl rfl zW) rfl rfl ?_
 refine sL (A2 rfl rfl (hat2 _) hl2) rfl rfl ?_
 refine sS rfl rfl rfl hl2 ho2 rfl ?_ (hu := by exact D7 hl2.symm)
 refine B4 ?_
 refine E4 (rC rfl (A2 rfl rfl (C9 zO) hl2)) (rT rfl) (rT rfl) ?_
 (exact L0.ok (t := i3) hst hre2)
 refine C3 ?_
 refine sP (I1 rfl rfl zV) rfl rfl ?_
 refine B4 ?_
 refine sP (A6 (j := 0) rfl rfl rfl zW) rfl rfl ?_
 refine A3 ?_
 refine sL (A03 rfl rfl (At.sub2 (hat0 _) (j := 0) (j' := 0) rfl)) rfl rfl ?_
 refine A3 ?_
 refine B7 ?_
 refine A3 ?_
 refine sP (I1 rfl rfl zV) rfl rfl ?_
 refine B4 ?_
 refine sP (A6 (j := 1) rfl rfl rfl zW) rfl rfl ?_
 refine sL (A2 rfl rfl (hat1 _) hl1) rfl rfl ?_
 refine sS rfl rfl rfl hl1 ho1 rfl ?_ (hu := by exact D7 hl1.symm)
 refine B4 ?_
 refine E4 (rC rfl (A2 rfl rfl (C9 zO) hl1)) (rT rfl) (rT rfl) ?_
 (exact L0.ok (t := i2) hst hre1)
 refine A3 ?_
 (show J7 _ _ (.cond (.tmp 28) _ _) _ _; refine A1X (fun (_ : Unit) => ⟨[(5, .int .i64 (C : Int)), (1, .pointer (some ⟨b3, 0, none⟩)), (2, .pointer (some ⟨b4, 0, none⟩))], [.blk b4 [.int .i64 0, .string ⟨⟨[]⟩⟩, .int .i64 0, .int .i64 0, .slice none 0 0, .int .i64 0, .slice none 0 0, .int .i64 0, .slice none 0 0, .int .i64 0, .int .i64 0, .int .i64 0, .slice none 0 0, .slice none 0 0], .blk b3 [.int .i64 k, .string nm, .int .i64 num, .int .i64 tk, .slice pt tks.length ct, .int .i64 fk, .slice pf fks.length cf, .int .i64 lb, .slice p0 0 c0, .int .i64 ck, .int .i64 ctg, .int .i64 clb, .slice pc cks.length cc, .slice p ks.length c]], G⟩) (fun _ => True) (cF rfl ?_) ?_)
 refine tK ?_
 (have hCC := hC2 zV; subst hCC; refine A0C () (T4 zL zI) trivial)
 (rintro (_ : Unit) _)
 refine A7 ?_
 refine B7 ?_
 (refine J3 (fun (i : Nat) => ⟨[(6, .int .i64 (i : Int)), (5, .int .i64 (C : Int)), (1, .pointer (some ⟨b3, 0, none⟩)), (2, .pointer (some ⟨b4, 0, none⟩))], [.blk b4 [.int .i64 0, .string ⟨⟨[]⟩⟩, .int .i64 0, .int .i64 0, .slice none 0 0, .int .i64 0, .slice none 0 0, .int .i64 0, .slice none 0 0, .int .i64 0, .int .i64 0, .int .i64 0, .slice none 0 0, .slice none 0 0], .blk b3 [.int .i64 k, .string nm, .int .i64 num, .int .i64 tk, .slice pt tks.length ct, .int .i64 fk, .slice pf fks.length cf, .int .i64 lb, .slice p0 0 c0, .int .i64 ck, .int .i64 ctg, .int .i64 clb, .slice pc cks.length cc, .slice p ks.length c]], G⟩) (fun i => i ≤ C ∧ ∀ j, j < i → (h : j < t.kids.length) → t.kids[j].val = true) (fun i => C - i) 0 ?_ ?_ ?_)
 exact E3
 (exact ⟨Nat.zero_le _, fun j hj => absurd hj (Nat.not_lt_zero j)⟩)
 (rintro i ⟨hi, hj⟩)
 refine A9 ?_
 refine sB (I3 rfl rfl) rfl rfl (fun h385 => ?_) (fun h385 => ?_)
 refine A7 ?_
 refine B7 ?_
 refine A7 ?_
 (have hiC : i < C := zV; obtain ⟨bx, ox, ei, rfl, hli, hoi, hati, hrei, _, hgbi⟩ := hsl.kidR hkl (i := i) zV zV; rw [hnt i zV zV] at hrei; have hVi := (A4C _).2 G ei hrei; refine sP (A6 (j := i) rfl rfl rfl zV) rfl rfl ?_)
 refine sL (A2 rfl rfl (hati _) hli) rfl rfl ?_
 refine I5 rfl (hVi) rfl rfl (fun h401 => ?_) (fun h401 => ?_)
 refine C2 ?_
 refine sP (H9 rfl rfl zV zV) rfl rfl ?_
 refine A3 ?_
 refine I6 (i + 1) ?_ ?_ ?_
 exact E3
 (exact ⟨by omega, fun j hji hl2 => (by by_cases he : j = i; (subst he; assumption); exact hj j zV hl2)⟩)
 (show C - (i + 1) < C - i; omega)
 refine H3 ?_
 (have hiC9 := hiC; refine sP (A6 (j := i) rfl rfl rfl zV) rfl rfl ?_)
 refine sL (A2 rfl rfl (hati _) hli) rfl rfl ?_
 (obtain ⟨⟨_, D, hD, hDn⟩, hS⟩ := hIO zV i hiC zV hj zS; refine E7 rfl (hS G ei hrei) rfl rfl (fun v G1 hle1 hh => ?_); obtain ⟨uc, n1, rfl, hru, hu1⟩ := hh; have hul := hru.len; have huo := hru.one; have hEE := hco0 zV; simp only [K5, Cn.mk.injEq] at hEE; obtain ⟨rfl, rfl, rfl, rfl⟩ := hEE)
 refine C3 ?_
 refine sE (A4 rfl) rfl (fun b435 => ?_)
 refine sS rfl rfl rfl hul huo rfl ?_ (hu := by exact D7 hul.symm)
 refine A9 ?_
 refine D3 D4 rfl ?_
 refine E9 (i := 0) (l' := [tt,ff,ff,ff,ff,ff,ff,ff,ff]) rfl C1 (B0 rfl) rfl zT rfl rfl ?_
 refine aL 1 rfl (A1 rfl rfl) rfl ?_
 refine aP 3 rfl (B0 rfl) rfl ?_
 refine aL 4 rfl (B3 rfl rfl) rfl ?_
 refine J8 (j := 2) (j' := 7) zT ?_ ?_
 (refine B6 rfl (C0 rfl rfl rfl zV zQ rfl) rfl rfl ?_; rintro _ ⟨b448, rfl⟩)
 refine J8 (j := 5) (j' := 7) zT ?_ ?_
 (refine A1d rfl rfl rfl rfl rfl rfl (fun _ _ => by repeat (first | exact Sw.here | apply Sw.there)) (hsl.mono hle1).sl hes1 (Nat.zero_le _) zQ zV rfl rfl zG (fun p4 c4 => ?_); simp only [Nat.zero_add, List.nil_append])
 refine aP 6 rfl (K8 rfl rfl) rfl ?_
 refine A0 7 ?_
 (refine B6 rfl (A4 rfl) rfl rfl ?_; rintro _ ⟨b453, rfl⟩)
 refine A0 8 ?_
 refine B8 rfl ?_
 refine A8 ?_
 refine sL (A2 rfl rfl (C9 zO) hul) rfl rfl ?_
 (have hdone := hru; refine A1e (p := p4) (cs := es.flatten) zM zV (fun bc Cc hpc hnc9 hmc => ?_); subst hpc; refine sP (A6 (j := i) rfl rfl rfl zV) rfl rfl ?_)
 refine U8 rfl rfl rfl hul huo rfl zN (by exact A1f (by rw [hsl.len]; omega) (fun e he => (hsl.all e he)) hul) ?_
 refine K1 ?_
 (refine Z8 (bs := [(bc, (es.set i uc).flatten ++ Cc)]) (Pk.perm zM) (fun hn2 hd2 hle2 => ?_))
 refine A7 ?_
 refine E4 (rC rfl (A1 rfl rfl)) (rT rfl) (rT rfl) ?_
 (have hks2 : KR (B1 _) (ks.set i n1) (es.set i uc) := KR.set (KR.imp hkl fun a e h => (h.mono hle1).mono hle2) (hru.mono hle2); have hes2 : ∀ x ∈ es.set i uc, x.length = 14 ∧ x.all (·.oneCell') = true := KR.each hks2 (by rw [List.length_set, List.length_set, hsl.len]); exact L0.mk (by rw [hD]; rfl) (by rw [hD]; rfl) (B1.put (us := ks.set i n1) (es := es.set i uc) ((hnd.mono hle1).mono hle2) (X3 _) (by rw [List.length_set]; exact hn3) (fun h => by rw [List.length_set]; exact hk14 h) (by rw [List.length_set]) (C8.of (Sl.of_blk (A := []) (by rw [V8 (fun x hx => (hes2 x hx).1), List.length_set, hsl.len]) zV hmc (Wi.in hn2 List.mem_cons_self)) (by rw [List.length_set, hsl.len]) (fun x hx => (hes2 x hx).1) (fun x hx => (hes2 x hx).2)) hks2) (fun h => by rw [hD] at h ⊢; show _ = (D t.kids[i].stp.1).nt; rw [hDn _ _ _ _ _ _ ht, hu1 h]))
 (refine B6 rfl (A4 rfl) rfl rfl ?_; rintro _ ⟨b487, rfl⟩)
 refine A0 5 ?_
 (refine A1d rfl rfl rfl rfl rfl rfl (fun _ _ => by repeat (first | exact Sw.here | apply Sw.there)) (hsl.mono hle1).sl hes1 (Nat.zero_le _) zQ zV rfl rfl zG (fun p4 c4 => ?_); simp only [Nat.zero_add, List.nil_append])
 refine aP 6 rfl (K8 rfl rfl) rfl ?_
 refine A0 8 ?_
 refine B8 rfl ?_
 refine A8 ?_
 refine sL (A2 rfl rfl (C9 zO) hul) rfl rfl ?_
 (have hdone := hru; refine A1e (p := p4) (cs := es.flatten) zM zV (fun bc Cc hpc hnc9 hmc => ?_); subst hpc; refine sP (A6 (j := i) rfl rfl rfl zV) rfl rfl ?_)
 refine U8 rfl rfl rfl hul huo rfl zN (by exact A1f (by rw [hsl.len]; omega) (fun e he => (hsl.all e he)) hul) ?_
 refine K1 ?_
 (refine Z8 (bs := [(bc, (es.set i uc).flatten ++ Cc)]) (Pk.perm zM) (fun hn2 hd2 hle2 => ?_))
 refine A7 ?_
 refine E4 (rC rfl (A1 rfl rfl)) (rT rfl) (rT rfl) ?_
 (have hks2 : KR (B1 _) (ks.set i n1) (es.set i uc) := KR.set (KR.imp hkl fun a e h => (h.mono hle1).mono hle2) (hru.mono hle2); have hes2 : ∀ x ∈ es.set i uc, x.length = 14 ∧ x.all (·.oneCell') = true := KR.each hks2 (by rw [List.length_set, List.length_set, hsl.len]); exact L0.mk (by rw [hD]; rfl) (by rw [hD]; rfl) (B1.put (us := ks.set i n1) (es := es.set i uc) ((hnd.mono hle1).mono hle2) (X3 _) (by rw [List.length_set]; exact hn3) (fun h => by rw [List.length_set]; exact hk14 h) (by rw [List.length_set]) (C8.of (Sl.of_blk (A := []) (by rw [V8 (fun x hx => (hes2 x hx).1), List.length_set, hsl.len]) zV hmc (Wi.in hn2 List.mem_cons_self)) (by rw [List.length_set, hsl.len]) (fun x hx => (hes2 x hx).1) (fun x hx => (hes2 x hx).2)) hks2) (fun h => by rw [hD] at h ⊢; show _ = (D t.kids[i].stp.1).nt; rw [hDn _ _ _ _ _ _ ht, hu1 h]))
 (refine B6 rfl (A4 rfl) rfl rfl ?_; rintro _ ⟨b524, rfl⟩)
 refine A0 2 ?_
 (refine B6 rfl (C0 rfl rfl rfl zV zQ rfl) rfl rfl ?_; rintro _ ⟨b526, rfl⟩)
 refine A0 5 ?_
 (refine A1d rfl rfl rfl rfl rfl rfl (fun _ _ => by repeat (first | exact Sw.here | apply Sw.there)) (hsl.mono hle1).sl hes1 (Nat.zero_le _) zQ zV rfl rfl zG (fun p4 c4 => ?_); simp only [Nat.zero_add, List.nil_append])
 refine aP 6 rfl (K8 rfl rfl) rfl ?_
 refine A0 8 ?_
 refine B8 rfl ?_
 refine A8 ?_
 refine sL (A2 rfl rfl (C9 zO) hul) rfl rfl ?_
 (have hdone := hru; refine A1e (p := p4) (cs := es.flatten) zM zV (fun bc Cc hpc hnc9 hmc => ?_); subst hpc; refine sP (A6 (j := i) rfl rfl rfl zV) rfl rfl ?_)
 refine U8 rfl rfl rfl hul huo rfl zN (by exact A1f (by rw [hsl.len]; omega) (fun e he => (hsl.all e he)) hul) ?_
 refine K1 ?_
 (refine Z8 (bs := [(bc, (es.set i uc).flatten ++ Cc)]) (Pk.perm zM) (fun hn2 hd2 hle2 => ?_))
 refine A7 ?_
 refine E4 (rC rfl (A1 rfl rfl)) (rT rfl) (rT rfl) ?_
 (have hks2 : KR (B1 _) (ks.set i n1) (es.set i uc) := KR.set (KR.imp hkl fun a e h => (h.mono hle1).mono hle2) (hru.mono hle2); have hes2 : ∀ x ∈ es.set i uc, x.length = 14 ∧ x.all (·.oneCell') = true := KR.each hks2 (by rw [List.length_set, List.length_set, hsl.len]); exact L0.mk (by rw [hD]; rfl) (by rw [hD]; rfl) (B1.put (us := ks.set i n1) (es := es.set i uc) ((hnd.mono hle1).mono hle2) (X3 _) (by rw [List.length_set]; exact hn3) (fun h => by rw [List.length_set]; exact hk14 h) (by rw [List.length_set]) (C8.of (Sl.of_blk (A := []) (by rw [V8 (fun x hx => (hes2 x hx).1), List.length_set, hsl.len]) zV hmc (Wi.in hn2 List.mem_cons_self)) (by rw [List.length_set, hsl.len]) (fun x hx => (hes2 x hx).1) (fun x hx => (hes2 x hx).2)) hks2) (fun h => by rw [hD] at h ⊢; show _ = (D t.kids[i].stp.1).nt; rw [hDn _ _ _ _ _ _ ht, hu1 h]))
 refine J5 ?_
 refine sP (E1 rfl rfl zV) rfl rfl ?_
 refine C2 ?_
 refine sB (qE rfl rfl) rfl rfl (fun h587 => ?_) (fun h587 => ?_)
 refine G9 ?_
 refine E4 (rC rfl (A1 rfl rfl)) (rT rfl) (rT rfl) ?_
 (exfalso; have hcd := hRc zV (fun j hjc hl => hj j zV hl); omega)
 refine B4 ?_
 (have hall := (fun (j : Nat) (hjc : j < C) (hl : j < t.kids.length) => hj j zV hl); have hcd := hRc zV hall; refine E7 rfl (hRd zV zV hall) rfl rfl (fun v G1 hle1 hh => ?_); obtain ⟨vc, rfl, hrv⟩ := hh; have hvl := hrv.len; have hvo := hrv.one)
 refine B2 ?_
 refine sE (A4 rfl) rfl (fun b615 => ?_)
 refine sS rfl rfl rfl hvl hvo rfl ?_ (hu := by exact D7 hvl.symm)
 refine A9 ?_
 refine sL (A2 rfl rfl (C9 zO) hvl) rfl rfl ?_
 refine I0 ?_
 refine sS rfl rfl rfl hvl hvo rfl ?_ (hu := by exact D7 hvl.symm)
 refine A9 ?_
 refine E4 (rC rfl (A2 rfl rfl (C9 zO) hvl)) (rT rfl) (rT rfl) ?_
 (exact L0.mk hcd.1.symm hcd.2.1.symm hrv (fun _ => rfl))
theorem B4O : ∀ t : TH, A4E t := by
 intro t
 induction t with
 | lam x A e i => exact A1G _ fun u hu => by obtain rfl := List.mem_singleton.1 hu; exact i
 | app f a i j => exact A1G _ fun u hu => by simp only [TH.kids, List.mem_cons, List.not_mem_nil, or_false] at hu; rcases hu with rfl | rfl; exact i; exact j
 | ar s f a i j => exact A1G _ fun u hu => by simp only [TH.kids, List.mem_cons, List.not_mem_nil, or_false] at hu; rcases hu with rfl | rfl; exact i; exact j
 | pair f a i j => exact A1G _ fun u hu => by simp only [TH.kids, List.mem_cons, List.not_mem_nil, or_false] at hu; rcases hu with rfl | rfl; exact i; exact j
 | ite c f a i j l => exact A1G _ fun u hu => by simp only [TH.kids, List.mem_cons, List.not_mem_nil, or_false] at hu; rcases hu with rfl | rfl | rfl; exact i; exact j; exact l
 | part s e i => exact A1G _ fun u hu => by obtain rfl := List.mem_singleton.1 hu; exact i
 | conv c e i => exact A1G _ fun u hu => by obtain rfl := List.mem_singleton.1 hu; exact i
 | _ => refine A1G _ ?_; intro u hu; cases hu
theorem B4P : ∀ (n : Nat) (A B : GT) (l : Int) (G : IM) (ac bc : List Value), U0 A B < n → Co A B → -99 ≤ l ∧ l ≤ 99 → C7 G A.ty ac → C7 G B.ty bc → Fn Tryz.prog 134 [.agg ⟨ac⟩, .agg ⟨bc⟩, .int .i64 l] [] G (U5 (kc A B l).cn) := by
 intro n
 induction n with
 | zero => intro A B l G ac bc h; omega
 | succ n ih =>
  intro A B l G ac bc hmu hco hl hra hrb
  obtain ⟨ak, aks, hA⟩ : ∃ ak aks, A.ty = .mk ak aks := by cases A.ty; exact ⟨_, _, rfl⟩
  obtain ⟨bk, bks, hB⟩ : ∃ ak aks, B.ty = .mk ak aks := by cases B.ty; exact ⟨_, _, rfl⟩
  have fA := A4l hA
  have fB := A4l hB
  have hAa : ak ≠ 1 → A ≠ .any := fun h e => h (fA.2.2.1.2 (A1B.2 e))
  have hBa : bk ≠ 1 → B ≠ .any := fun h e => h (fB.2.2.1.2 (A1B.2 e))
  have hAb : ak = 1 → A = .any := fun h => A1B.1 (fA.2.2.1.1 h)
  have hBb : bk = 1 → B = .any := fun h => A1B.1 (fB.2.2.1.1 h)
  have hF := fun (h : ak = 4) (hb : bk ≠ 1) => A82 hco (by rw [hA, h]) hB hb
  have hP := fun (h : ak = 5) (hb : bk ≠ 1) => A83 hco (by rw [hA, h]) hB hb
  have h55 := A85 hco hA hB
  have hsm := fun (h : bk = ak) (hn : aks.length = 0) => A8Z hA (by rw [hB, h]) hn l
  have hbase := B4y hco hA hB
  have hra0 := hra
  have hrb0 := hrb
  rw [hA] at hra
  rw [hB] at hrb
  obtain ⟨pa, ca, ea, rfl, hak, hsa, hla⟩ := hra.open
  obtain ⟨pb, cb, eb, rfl, hbk, hsb, hlb⟩ := hrb.open
  simp only [Ty.k, Ty.ks] at hak hsa hla hbk hsb hlb hra0 hrb0 ⊢
  have h0 : F9 0 := ⟨by decide, by decide⟩
  have hl64 : F9 l := ⟨by omega, by omega⟩
  refine D5 Tryz.func134 rfl Tryz.ntmps134 Tryz.results134 rfl ?_
  intro w0
  refine A3 ?_
  refine sE (D8 rfl rfl) rfl (fun b3 => ?_)
  refine sE (D8 rfl rfl) rfl (fun b4 => ?_)
  refine sE (A4 rfl) rfl (fun b5 => ?_)
  refine B2 ?_
  refine B7 ?_
  refine C3 ?_
  refine sB (qE rfl rfl) rfl rfl (fun h14 => ?_) (fun h14 => ?_)
  refine B2 ?_
  refine sB (qE rfl rfl) rfl rfl (fun h18 => ?_) (fun h18 => ?_)
  refine A8 ?_
  refine E5 rfl ((A4z _ _)) rfl rfl ?_
  refine A7 ?_
  refine I7 (rC rfl (A1 rfl rfl)) ?_
  (exact U5.mk (by obtain rfl := hAb zV; obtain rfl := hBb zV; rw [A1b, U2]; exact E6.put (ks := []) (es := []) ⟨by decide, by decide⟩ ⟨by decide, by decide⟩ h0 zU zU zU rfl (C8.nil _ _) KR.nil))
  refine C2 ?_
  refine sP (E1 rfl rfl zV) rfl rfl ?_
  refine B4 ?_
  refine sP (I1 rfl rfl zV) rfl rfl ?_
  refine A9 ?_
  refine D3 D4 rfl ?_
  refine E9 (i := 0) (l' := [tt,ff,ff,ff,ff,ff,ff,ff,ff]) rfl C1 (qM rfl) rfl zT rfl rfl ?_
  refine aL 1 rfl (A1 rfl rfl) rfl ?_
  refine aL 3 rfl (A1 rfl rfl) rfl ?_
  refine aP 4 rfl (qM rfl) rfl ?_
  refine A0 2 ?_
  (refine D6 rfl rfl (A8L B.ty G _ (A2I B) hrb0) rfl rfl rfl (fun u G1 hle1 hh => ?_); obtain ⟨gc, rfl, hrg⟩ := hh; rw [A5M] at hrg; have hBn := hBa zV; obtain rfl := hAb zV)
  refine A0 5 ?_
  (refine D6 rfl rfl (ih B.gr B l G1 _ _ (by have := A8Y hBn; omega) Co.gr.symm hl hrg (hrb0.mono hle1)) rfl rfl rfl (fun u G2 hle2 hh => ?_); obtain ⟨uc, rfl, hru⟩ := hh; obtain ⟨x1, x2, x3, x4, rfl⟩ := W3 hru.len)
  refine A0 6 ?_
  (refine B6 rfl (C0 rfl rfl rfl zV zQ rfl) rfl rfl ?_; rintro _ ⟨b69, rfl⟩)
  refine aP 7 rfl (K8 rfl rfl) rfl ?_
  refine A0 8 ?_
  refine B8 rfl ?_
  refine A3 ?_
  (refine E0 (cs := [x1, x2, x3, x4]) zM (fun G5 hle5 hsl5 hno5 => ?_))
  refine B2 ?_
  refine I7 (rC rfl (A1 rfl rfl)) ?_
  (exact U5.mk (by rw [A81 hBn, GK.cn]; exact U1 (hru.mono hle5) hsl5 ⟨by decide, by decide⟩ h0 hl64 zU))
  refine G9 ?_
  refine sB (qE rfl rfl) rfl rfl (fun h94 => ?_) (fun h94 => ?_)
  refine A9 ?_
  refine D3 D4 rfl ?_
  refine K3 (i := 0) (l' := [tt,ff,ff,ff,ff,ff,ff,ff]) rfl C1 (A1 rfl rfl) rfl zT rfl rfl ?_
  refine aL 1 rfl (A1 rfl rfl) rfl ?_
  refine aP 3 rfl (qM rfl) rfl ?_
  refine A0 2 ?_
  (refine D6 rfl rfl (A8L A.ty G _ (A2I A) hra0) rfl rfl rfl (fun u G1 hle1 hh => ?_); obtain ⟨gc, rfl, hrg⟩ := hh; rw [A5M] at hrg; have hAn := hAa zV; obtain rfl := hBb zV)
  refine A0 4 ?_
  (refine D6 rfl rfl (ih A A.gr l G1 _ _ (by have := A8X hAn; omega) Co.gr hl (hra0.mono hle1) hrg) rfl rfl rfl (fun u G2 hle2 hh => ?_); obtain ⟨uc, rfl, hru⟩ := hh; obtain ⟨x1, x2, x3, x4, rfl⟩ := W3 hru.len)
  refine A0 5 ?_
  (refine B6 rfl (C0 rfl rfl rfl zV zQ rfl) rfl rfl ?_; rintro _ ⟨b109, rfl⟩)
  refine aP 6 rfl (K8 rfl rfl) rfl ?_
  refine A0 7 ?_
  refine B8 rfl ?_
  refine A3 ?_
  (refine E0 (cs := [x1, x2, x3, x4]) zM (fun G5 hle5 hsl5 hno5 => ?_))
  refine B2 ?_
  refine I7 (rC rfl (A1 rfl rfl)) ?_
  (exact U5.mk (by rw [A80 hAn, GK.cn]; exact U1 (hru.mono hle5) hsl5 ⟨by decide, by decide⟩ h0 h0 zU))
  refine B4 ?_
  refine sP (E1 rfl rfl zV) rfl rfl ?_
  refine B4 ?_
  refine sB (qE rfl rfl) rfl rfl (fun h138 => ?_) (fun h138 => ?_)
  refine A9 ?_
  (have hg : aks.length = 2 := fA.2.1 zV; obtain ⟨a, b, c, d, rfl, rfl, rfl, rfl, hc1, hc2⟩ := hF zV zV; have hm := A5O a b c d; obtain ⟨b1, o1, q1, d1, rfl, hat1, hre1, hgb1⟩ := hsa.kidTy hla (i := 0) zW zW; obtain ⟨b2, o2, q2, d2, hE2, hat2, hre2, hgb2⟩ := hsa.kidTy hla (i := 1) zW zW; cases hE2; obtain ⟨b3, o3, q3, d3, rfl, hat3, hre3, hgb3⟩ := hsb.kidTy hlb (i := 0) zW zW; obtain ⟨b4, o4, q4, d4, hE4, hat4, hre4, hgb4⟩ := hsb.kidTy hlb (i := 1) zW zW; cases hE4; refine D3 D4 rfl ?_)
  refine E9 (i := 0) (l' := [tt,ff,ff,ff,ff,ff,ff,ff,ff,ff,ff,ff,ff,ff,ff,ff,ff,ff,ff,ff,ff,ff,ff,ff]) rfl C1 (B0 rfl) rfl zT rfl rfl ?_
  refine aL 1 rfl (B3 rfl rfl) rfl ?_
  refine aP 2 rfl (A6 (j := 0) rfl rfl rfl zW) rfl ?_
  refine aL 3 rfl (A2 rfl rfl (hat3 _) rfl) rfl ?_
  refine aP 4 rfl (B0 rfl) rfl ?_
  refine aL 5 rfl (B3 rfl rfl) rfl ?_
  refine aP 6 rfl (A6 (j := 0) rfl rfl rfl zW) rfl ?_
  refine aL 7 rfl (A2 rfl rfl (hat1 _) rfl) rfl ?_
  refine aP 8 rfl (qM rfl) rfl ?_
  refine aP 9 rfl (A3u rfl zV zV) rfl ?_
  refine aP 11 rfl (B0 rfl) rfl ?_
  refine aL 12 rfl (B3 rfl rfl) rfl ?_
  refine aP 13 rfl (A6 (j := 1) rfl rfl rfl zW) rfl ?_
  refine aL 14 rfl (A2 rfl rfl (hat2 _) rfl) rfl ?_
  refine aP 15 rfl (B0 rfl) rfl ?_
  refine aL 16 rfl (B3 rfl rfl) rfl ?_
  refine aP 17 rfl (A6 (j := 1) rfl rfl rfl zW) rfl ?_
  refine aL 18 rfl (A2 rfl rfl (hat4 _) rfl) rfl ?_
  refine aP 19 rfl (qM rfl) rfl ?_
  refine A0 10 ?_
  (refine D6 rfl rfl (ih c a (-l) G _ _ zV hc1 ⟨by omega, by omega⟩ hre3 hre1) rfl rfl rfl (fun u G1 hle1 hh => ?_); obtain ⟨uc, rfl, hru⟩ := hh; obtain ⟨x1, x2, x3, x4, rfl⟩ := W3 hru.len)
  refine A0 20 ?_
  (refine D6 rfl rfl (ih b d l G1 _ _ zV hc2 hl (hre2.mono hle1) (hre4.mono hle1)) rfl rfl rfl (fun u G2 hle2 hh => ?_); obtain ⟨vc, rfl, hrv⟩ := hh; obtain ⟨y1, y2, y3, y4, rfl⟩ := W3 hrv.len)
  refine A0 21 ?_
  (refine B6 rfl (C0 rfl rfl rfl zV zQ rfl) rfl rfl ?_; rintro _ ⟨b169, rfl⟩)
  refine aP 22 rfl (K8 rfl rfl) rfl ?_
  refine A0 23 ?_
  refine B8 rfl ?_
  refine A3 ?_
  (refine E0 (cs := [x1, x2, x3, x4, y1, y2, y3, y4]) zM (fun G5 hle5 hsl5 hno5 => ?_))
  refine B2 ?_
  refine I7 (rC rfl (A1 rfl rfl)) ?_
  (exact U5.mk (by rw [A1R, GK.cn]; exact L7 (hru.mono (hle2.trans hle5)) (hrv.mono hle5) hsl5 ⟨by decide, by decide⟩ h0 h0 zU))
  refine B4 ?_
  refine sB (qE rfl rfl) rfl rfl (fun h189 => ?_) (fun h189 => ?_)
  refine A9 ?_
  (have hg : aks.length = 2 := fA.2.1 zV; obtain ⟨a, b, c, d, rfl, rfl, rfl, rfl, hc1, hc2⟩ := hP zV zV; have hm := A5P a b c d; obtain ⟨b1, o1, q1, d1, rfl, hat1, hre1, hgb1⟩ := hsa.kidTy hla (i := 0) zW zW; obtain ⟨b2, o2, q2, d2, hE2, hat2, hre2, hgb2⟩ := hsa.kidTy hla (i := 1) zW zW; cases hE2; obtain ⟨b3, o3, q3, d3, rfl, hat3, hre3, hgb3⟩ := hsb.kidTy hlb (i := 0) zW zW; obtain ⟨b4, o4, q4, d4, hE4, hat4, hre4, hgb4⟩ := hsb.kidTy hlb (i := 1) zW zW; cases hE4; refine D3 D4 rfl ?_)
  refine E9 (i := 0) (l' := [tt,ff,ff,ff,ff,ff,ff,ff,ff,ff,ff,ff,ff,ff,ff,ff,ff,ff,ff,ff,ff,ff,ff]) rfl C1 (B0 rfl) rfl zT rfl rfl ?_
  refine aL 1 rfl (B3 rfl rfl) rfl ?_
  refine aP 2 rfl (A6 (j := 0) rfl rfl rfl zW) rfl ?_
  refine aL 3 rfl (A2 rfl rfl (hat1 _) rfl) rfl ?_
  refine aP 4 rfl (B0 rfl) rfl ?_
  refine aL 5 rfl (B3 rfl rfl) rfl ?_
  refine aP 6 rfl (A6 (j := 0) rfl rfl rfl zW) rfl ?_
  refine aL 7 rfl (A2 rfl rfl (hat3 _) rfl) rfl ?_
  refine aP 8 rfl (qM rfl) rfl ?_
  refine aP 10 rfl (B0 rfl) rfl ?_
  refine aL 11 rfl (B3 rfl rfl) rfl ?_
  refine aP 12 rfl (A6 (j := 1) rfl rfl rfl zW) rfl ?_
  refine aL 13 rfl (A2 rfl rfl (hat2 _) rfl) rfl ?_
  refine aP 14 rfl (B0 rfl) rfl ?_
  refine aL 15 rfl (B3 rfl rfl) rfl ?_
  refine aP 16 rfl (A6 (j := 1) rfl rfl rfl zW) rfl ?_
  refine aL 17 rfl (A2 rfl rfl (hat4 _) rfl) rfl ?_
  refine aP 18 rfl (qM rfl) rfl ?_
  refine A0 9 ?_
  (refine D6 rfl rfl (ih a c l G _ _ zV hc1 hl hre1 hre3) rfl rfl rfl (fun u G1 hle1 hh => ?_); obtain ⟨uc, rfl, hru⟩ := hh; obtain ⟨x1, x2, x3, x4, rfl⟩ := W3 hru.len)
  refine A0 19 ?_
  (refine D6 rfl rfl (ih b d l G1 _ _ zV hc2 hl (hre2.mono hle1) (hre4.mono hle1)) rfl rfl rfl (fun u G2 hle2 hh => ?_); obtain ⟨vc, rfl, hrv⟩ := hh; obtain ⟨y1, y2, y3, y4, rfl⟩ := W3 hrv.len)
  refine A0 20 ?_
  (refine B6 rfl (C0 rfl rfl rfl zV zQ rfl) rfl rfl ?_; rintro _ ⟨b219, rfl⟩)
  refine aP 21 rfl (K8 rfl rfl) rfl ?_
  refine A0 22 ?_
  refine B8 rfl ?_
  refine A3 ?_
  (refine E0 (cs := [x1, x2, x3, x4, y1, y2, y3, y4]) zM (fun G5 hle5 hsl5 hno5 => ?_))
  refine B2 ?_
  refine I7 (rC rfl (A1 rfl rfl)) ?_
  (exact U5.mk (by rw [A1S, GK.cn]; exact L7 (hru.mono (hle2.trans hle5)) (hrv.mono hle5) hsl5 ⟨by decide, by decide⟩ h0 h0 zU))
  refine E8 ?_
  refine E5 rfl ((A4z _ _)) rfl rfl ?_
  refine C3 ?_
  refine I7 (rC rfl (A1 rfl rfl)) ?_
  (exact U5.mk (by rw [hsm (hbase zV zV zV zV) (fA.1 (by have := fA.2.2.2; omega))]; exact E6.put (ks := []) (es := []) ⟨by decide, by decide⟩ hak h0 zU zU zU rfl (C8.nil _ _) KR.nil))
theorem B4Q : ∀ (t : Tm) (G : IM) (cells : List Value), cv t → D1 G t cells → Fn Tryz.prog 80 [.agg ⟨cells⟩] [] G (Q8 (S6 t)) := by
 refine Tm.ind fun k nm num ty fr lb ks ih G cells hcv hr => ?_
 obtain ⟨hN, hkk⟩ := hcv.node
 have hops := hN.ops
 have hle3 := A10 k
 have h14 : k = 14 → ks.length = 1 := fun h => by have := A9f h; omega
 have hC : k = 14 → ∃ A B : GT, fr = A.ty ∧ ty = B.ty ∧ Co A B := by
  intro h
  obtain ⟨h1, h2, h3⟩ := hN.c14 h
  obtain ⟨A, rfl⟩ := A0V fr h3
  obtain ⟨B, rfl⟩ := A0V ty h2
  exact ⟨A, B, rfl, rfl, (A5Q A B).1 h1⟩
 have hlb9 := hN.lbB
 have hmt : S6 (.mk k nm num ty fr lb ks) = .mk k nm num (if k = 14 then (kc (Y3 fr) (Y3 ty) lb).cn else K5) (N6 ks) := by rw [S6]
 rw [hmt]
 obtain ⟨tk, tks⟩ := ty
 obtain ⟨fk, fks⟩ := fr
 obtain ⟨pt, ct, pf, cf, p, c, es, rfl, hk, hnum, hlb, hty, hfr, hsl, hkl⟩ := hr.open9
 have hn := hsl.le
 refine D5 Tryz.func80 rfl Tryz.ntmps80 Tryz.results80 rfl ?_
 intro w0
 refine A3 ?_
 refine sE (D8 rfl rfl) rfl (fun b3 => ?_)
 refine sE (A4 rfl) rfl (fun b4 => ?_)
 refine K1 ?_
 refine sE (A4 rfl) rfl (fun b17 => ?_)
 refine B4 ?_
 refine sB (qE rfl rfl) rfl rfl (fun h26 => ?_) (fun h26 => ?_)
 refine H3 ?_
 (obtain ⟨A, B, eA, eB, hco⟩ := hC zV; refine E7 rfl (B4P _ A B lb G _ _ (Nat.lt_succ_self _) hco hlb9 (by rw [← eA]; exact hfr) (by rw [← eB]; exact hty)) rfl rfl (fun u G1 hle1 hh => ?_); obtain ⟨uc, rfl, hru⟩ := hh; obtain ⟨x1, x2, x3, p4, n4, c4, rfl⟩ := hru.ints)
 refine H3 ?_
 refine B7 ?_
 (have hco := hru; refine S7 114 14 ?_; refine J3 (fun (x : Nat × Option Addr × Nat × List (List Value) × IM) => ⟨[(4, .int .i64 x.1), (1, .pointer (some ⟨b3, 0, none⟩)), (2, .pointer (some ⟨b4, 0, none⟩)), (3, .pointer (some ⟨b17, 0, none⟩))], [.blk b17 [.int .i64 k, .string nm, .int .i64 num, .int .i64 0, .slice none 0 0, .int .i64 0, .slice none 0 0, .int .i64 0, .slice none 0 0, .int .i64 x1, .int .i64 x2, .int .i64 x3, .slice p4 n4 c4, .slice x.2.1 x.1 x.2.2.1], .slc x.2.1 x.2.2.1 114 14 x.1 x.2.2.2.1.flatten, .blk b4 [.int .i64 0, .string ⟨⟨[]⟩⟩, .int .i64 0, .int .i64 0, .slice none 0 0, .int .i64 0, .slice none 0 0, .int .i64 0, .slice none 0 0, .int .i64 0, .int .i64 0, .int .i64 0, .slice none 0 0, .slice none 0 0], .blk b3 [.int .i64 k, .string nm, .int .i64 num, .int .i64 tk, .slice pt tks.length ct, .int .i64 fk, .slice pf fks.length cf, .int .i64 lb, .slice p ks.length c]], x.2.2.2.2⟩) (fun x => x.1 ≤ ks.length ∧ D2 G1 x.2.2.2.2 ∧ x.2.2.2.1.length = x.1 ∧ KR (B1 x.2.2.2.2) ((N6 ks).take x.1) x.2.2.2.1) (fun x => ks.length - x.1) (0, none, 0, [], G1) ?_ ?_ ?_)
 (simp only [J4]; exact E3)
 (exact ⟨Nat.zero_le _, D2.refl _, rfl, by rw [List.take_zero]; exact KR.nil⟩)
 (rintro ⟨i, pn, cn, es', Gi⟩ ⟨hi, hle, hel', hst⟩; simp only [] at hi hle hel' hst ⊢; replace hsl := hsl.mono (by first | exact hle | exact hle1.trans hle); replace hkl := hkl.mono (by first | exact hle | exact hle1.trans hle); replace hco := hco.mono hle)
 refine A8 ?_
 refine sB (I3 rfl rfl) rfl rfl (fun h60 => ?_) (fun h60 => ?_)
 refine A7 ?_
 refine B7 ?_
 (have hil : i < ks.length := zV; obtain ⟨bx, ox, e, rfl, hl, hat, hre, hgb⟩ := hsl.kidTm hkl (i := i) zV zV; have hel := hre.len; have heo := hre.one; refine D3 D4 rfl ?_)
 refine E9 (i := 0) (l' := [tt,ff,ff,ff,ff,ff,ff,ff,ff,ff,ff,ff]) rfl C1 (B0 rfl) rfl zT rfl rfl ?_
 refine aL 1 rfl (B3 rfl rfl) rfl ?_
 refine aP 2 rfl (B0 rfl) rfl ?_
 refine aL 3 rfl (B3 rfl rfl) rfl ?_
 refine aP 4 rfl (qM rfl) rfl ?_
 refine aP 5 rfl (A6 (j := i) rfl rfl rfl hil) rfl ?_
 refine aL 6 rfl (A2 rfl rfl (hat _) hl) rfl ?_
 refine A0 7 ?_
 (refine D6 rfl rfl (ih ks[i] (List.getElem_mem zV) Gi _ (hkk _ (List.getElem_mem zV)) hre) rfl rfl rfl (fun u G3 hle3 hh => ?_); obtain ⟨uc, rfl, hrv⟩ := hh; have hul := hrv.len; have huo := hrv.one; obtain ⟨v1, v2, v3, v4, v5, v6, v7, v8, v9, w1, w2, w3, w4, w5, rfl⟩ := X4 hul)
 refine A0 8 ?_
 (refine B6 rfl (C0 rfl rfl rfl zV zQ rfl) rfl rfl ?_; rintro _ ⟨b79, rfl⟩)
 refine A0 9 ?_
 (refine P5 rfl rfl rfl rfl rfl rfl (fun _ _ => by repeat (first | exact Sw.here | apply Sw.there)) (O1 zO) rfl (fun u hu => List.all_eq_true.1 huo u hu) zQ zV rfl rfl zG (fun p7 c7 => ?_))
 refine aP 10 rfl (B0 rfl) rfl ?_
 refine A0 11 ?_
 refine S2 rfl rfl rfl rfl rfl rfl rfl rfl zR zN (by rfl) ?_
 refine A9 ?_
 refine sP (H9 rfl rfl zV zV) rfl rfl ?_
 refine A3 ?_
 refine I6 (i + 1, p7, c7, es' ++ [[v1, v2, v3, v4, v5, v6, v7, v8, v9, w1, w2, w3, w4, w5]], G3) ?_ ?_ ?_
 (simp only [J4]; exact E3)
 (dsimp only; exact ⟨by omega, hle.trans hle3, by rw [List.length_append]; simp only [List.length_singleton]; omega, by rw [A4r zV]; exact KR.snoc (KR.imp hst fun a e h => h.mono hle3) (by rw [List.length_take, P4]; omega) hrv⟩)
 (show ks.length - (i + 1) < ks.length - i; omega)
 refine J5 ?_
 (obtain rfl : i = ks.length := zV; refine E0 (cs := es'.flatten) zM (fun G5 hle5 hsl5 hno5 => ?_))
 refine tT ?_
 refine I7 (rC rfl (A1 rfl rfl)) ?_
 (rw [List.take_of_length_le (by rw [P4]; omega)] at hst; rw [if_pos zV, eA, eB, A0o, A0o]; exact Q8.mk (B1.put' (tks := []) (fks := []) (us := N6 ks) (A29 _ hk hnum) (hco.mono hle5) (by rw [P4]; omega) (fun h => by rw [P4]; exact h14 h) (by rw [P4]) (C8.of hsl5 zV (fun e he => (hst.each (by rw [P4]; omega) e he).1) (fun e he => (hst.each (by rw [P4]; omega) e he).2)) (KR.imp hst fun a e h => h.mono hle5)))
 refine E8 ?_
 refine B7 ?_
 (have hco := X3 G; refine S7 114 14 ?_; refine J3 (fun (x : Nat × Option Addr × Nat × List (List Value) × IM) => ⟨[(4, .int .i64 x.1), (1, .pointer (some ⟨b3, 0, none⟩)), (2, .pointer (some ⟨b4, 0, none⟩)), (3, .pointer (some ⟨b17, 0, none⟩))], [.blk b17 [.int .i64 k, .string nm, .int .i64 num, .int .i64 0, .slice none 0 0, .int .i64 0, .slice none 0 0, .int .i64 0, .slice none 0 0, .int .i64 0, .int .i64 0, .int .i64 0, .slice none 0 0, .slice x.2.1 x.1 x.2.2.1], .slc x.2.1 x.2.2.1 114 14 x.1 x.2.2.2.1.flatten, .blk b4 [.int .i64 0, .string ⟨⟨[]⟩⟩, .int .i64 0, .int .i64 0, .slice none 0 0, .int .i64 0, .slice none 0 0, .int .i64 0, .slice none 0 0, .int .i64 0, .int .i64 0, .int .i64 0, .slice none 0 0, .slice none 0 0], .blk b3 [.int .i64 k, .string nm, .int .i64 num, .int .i64 tk, .slice pt tks.length ct, .int .i64 fk, .slice pf fks.length cf, .int .i64 lb, .slice p ks.length c]], x.2.2.2.2⟩) (fun x => x.1 ≤ ks.length ∧ D2 G x.2.2.2.2 ∧ x.2.2.2.1.length = x.1 ∧ KR (B1 x.2.2.2.2) ((N6 ks).take x.1) x.2.2.2.1) (fun x => ks.length - x.1) (0, none, 0, [], G) ?_ ?_ ?_)
 (simp only [J4]; exact E3)
 (exact ⟨Nat.zero_le _, D2.refl _, rfl, by rw [List.take_zero]; exact KR.nil⟩)
 (rintro ⟨i, pn, cn, es', Gi⟩ ⟨hi, hle, hel', hst⟩; simp only [] at hi hle hel' hst ⊢; replace hsl := hsl.mono (by first | exact hle | exact hle1.trans hle); replace hkl := hkl.mono (by first | exact hle | exact hle1.trans hle); replace hco := hco.mono hle)
 refine A8 ?_
 refine sB (I3 rfl rfl) rfl rfl (fun h138 => ?_) (fun h138 => ?_)
 refine A7 ?_
 refine B7 ?_
 (have hil : i < ks.length := zV; obtain ⟨bx, ox, e, rfl, hl, hat, hre, hgb⟩ := hsl.kidTm hkl (i := i) zV zV; have hel := hre.len; have heo := hre.one; refine D3 D4 rfl ?_)
 refine E9 (i := 0) (l' := [tt,ff,ff,ff,ff,ff,ff,ff,ff,ff,ff,ff]) rfl C1 (B0 rfl) rfl zT rfl rfl ?_
 refine aL 1 rfl (B3 rfl rfl) rfl ?_
 refine aP 2 rfl (B0 rfl) rfl ?_
 refine aL 3 rfl (B3 rfl rfl) rfl ?_
 refine aP 4 rfl (qM rfl) rfl ?_
 refine aP 5 rfl (A6 (j := i) rfl rfl rfl hil) rfl ?_
 refine aL 6 rfl (A2 rfl rfl (hat _) hl) rfl ?_
 refine A0 7 ?_
 (refine D6 rfl rfl (ih ks[i] (List.getElem_mem zV) Gi _ (hkk _ (List.getElem_mem zV)) hre) rfl rfl rfl (fun u G3 hle3 hh => ?_); obtain ⟨uc, rfl, hrv⟩ := hh; have hul := hrv.len; have huo := hrv.one; obtain ⟨v1, v2, v3, v4, v5, v6, v7, v8, v9, w1, w2, w3, w4, w5, rfl⟩ := X4 hul)
 refine A0 8 ?_
 (refine B6 rfl (C0 rfl rfl rfl zV zQ rfl) rfl rfl ?_; rintro _ ⟨b157, rfl⟩)
 refine A0 9 ?_
 (refine P5 rfl rfl rfl rfl rfl rfl (fun _ _ => by repeat (first | exact Sw.here | apply Sw.there)) (O1 zO) rfl (fun u hu => List.all_eq_true.1 huo u hu) zQ zV rfl rfl zG (fun p7 c7 => ?_))
 refine aP 10 rfl (B0 rfl) rfl ?_
 refine A0 11 ?_
 refine S2 rfl rfl rfl rfl rfl rfl rfl rfl zR zN (by rfl) ?_
 refine A9 ?_
 refine sP (H9 rfl rfl zV zV) rfl rfl ?_
 refine A3 ?_
 refine I6 (i + 1, p7, c7, es' ++ [[v1, v2, v3, v4, v5, v6, v7, v8, v9, w1, w2, w3, w4, w5]], G3) ?_ ?_ ?_
 (simp only [J4]; exact E3)
 (dsimp only; exact ⟨by omega, hle.trans hle3, by rw [List.length_append]; simp only [List.length_singleton]; omega, by rw [A4r zV]; exact KR.snoc (KR.imp hst fun a e h => h.mono hle3) (by rw [List.length_take, P4]; omega) hrv⟩)
 (show ks.length - (i + 1) < ks.length - i; omega)
 refine J5 ?_
 (obtain rfl : i = ks.length := zV; refine E0 (cs := es'.flatten) zM (fun G5 hle5 hsl5 hno5 => ?_))
 refine tT ?_
 refine I7 (rC rfl (A1 rfl rfl)) ?_
 (rw [List.take_of_length_le (by rw [P4]; omega)] at hst; rw [if_neg zV]; exact Q8.mk (B1.put' (tks := []) (fks := []) (us := N6 ks) (A29 _ hk hnum) (hco.mono hle5) (by rw [P4]; omega) (fun h => by rw [P4]; exact h14 h) (by rw [P4]) (C8.of hsl5 zV (fun e he => (hst.each (by rw [P4]; omega) e he).1) (fun e he => (hst.each (by rw [P4]; omega) e he).2)) (KR.imp hst fun a e h => h.mono hle5)))
theorem B4R (e : Tm) (g : GE) (A : GT) (fuel : Int) (G : IM) (cells : List Value) (hv : T5 e = true) (hs : SpT e g A) (hr : D1 G e cells) : Fn Tryz.prog 41 [.agg ⟨cells⟩, .int .i64 fuel] [] G (Y6 (A0s g.th fuel)) := by
 have hRl := hr.len
 have hRo := hr.one
 have hV := B10 e G cells (by have := (A28 hv).2; omega) hr
 rw [hv] at hV
 have hno := @A9F g.th fuel
 have hTo := B4Q e G cells (A28 hv).1 hr
 have hmt : S6 e = g.th.nt := by rw [hs.eq, A9y]
 rw [hmt] at hTo
 obtain ⟨F, hF⟩ : ∃ F : Nat, Q6 fuel 0 300 = true → fuel = (F : Int) ∧ F ≤ 300 ∧ A0s g.th fuel = U6 F g.th := ⟨fuel.toNat, fun h => by
  have h2 := A40 h
  exact ⟨by omega, by omega, by unfold A0s; rw [if_pos h2]⟩⟩
 generalize A0s g.th fuel = R at hno hF ⊢
 refine D5 Tryz.func41 rfl Tryz.ntmps41 Tryz.results41 rfl ?_
 intro w0
 refine A3 ?_
 refine sE (D8 rfl rfl) rfl (fun b3 => ?_)
 refine C2 ?_
 refine sL (A2 rfl rfl (C9 zO) hRl) rfl rfl ?_
 refine E5 rfl (hV) rfl rfl ?_
 refine B2 ?_
 refine sB (I3 rfl rfl) rfl rfl (fun h18 => ?_) (fun h18 => ?_)
 refine U9 ?_
 refine A0D (rT rfl) (rT rfl) (rT rfl) (rT rfl) ?_
 (exact Y6.mk (hno (decide_eq_false zV)))
 refine B2 ?_
 refine sB (A0h rfl rfl) rfl rfl (fun h42 => ?_) (fun h42 => ?_)
 refine J5 ?_
 refine A0D (rT rfl) (rT rfl) (rT rfl) (rT rfl) ?_
 (exact Y6.mk (hno (decide_eq_false zV)))
 refine B4 ?_
 refine sL (A2 rfl rfl (C9 zO) hRl) rfl rfl ?_
 (obtain ⟨rfl, hF3, rfl⟩ := hF (decide_eq_true zV); refine E7 rfl hTo rfl rfl (fun v G1 hle1 hh => ?_); obtain ⟨wc, rfl, hrw⟩ := hh; have hwl := hrw.len; have hwo := hrw.one)
 refine sE (A4 rfl) rfl (fun b69 => ?_)
 refine sS rfl rfl rfl hwl hwo rfl ?_ (hu := by exact D7 hwl.symm)
 refine C3 ?_
 refine sL (A2 rfl rfl (C9 zO) hwl) rfl rfl ?_
 refine E5 rfl ((A9K _ _ _ hrw)) rfl rfl ?_
 refine B4 ?_
 refine B7 ?_
 (refine J3 (fun (x : Nat × TH × List Value × Int × IM) => ⟨[(10, .int .i64 (x.1 : Int)), (9, .int .i64 x.2.2.2.1), (8, .pointer (some ⟨b69, 0, none⟩)), (1, .int .i64 (F : Int))], [.blk b69 x.2.2.1], x.2.2.2.2⟩) (fun x => x.1 ≤ F ∧ U6 F g.th = U6 (F - x.1) x.2.1 ∧ ST M9 x.2.1 A ∧ x.2.1.nk ∧ x.2.1.z ≤ 200 ∧ B1 x.2.2.2.2 x.2.1.nt x.2.2.1 ∧ D2 G1 x.2.2.2.2) (fun x => F - x.1) (0, g.th, wc, g.th.nt.hs, G1) ?_ ?_ ?_)
 (simp only [J4]; exact E3)
 (exact ⟨Nat.zero_le _, rfl, hs.st, hs.nk, hs.z, hrw, D2.refl _⟩)
 (rintro ⟨s, t, uc, h, Gi⟩ ⟨hsF, hrun, hT, hnk, hz, hru, hlei⟩; simp only [] at hsF hrun hT hnk hz hru hlei ⊢; have hul := hru.len; have huo := hru.one; have hVal := (A4C t).2 Gi uc hru)
 refine tS ?_
 refine B7 ?_
 refine B2 ?_
 refine sL (A2 rfl rfl (C9 zO) hul) rfl rfl ?_
 focus (cases hvl : t.val; all_goals (rw [hvl] at hVal; refine E5 rfl hVal rfl rfl ?_))
 refine A8 ?_
 refine sL (A2 rfl rfl (C9 zO) hul) rfl rfl ?_
 (refine E7 rfl (B4O t Gi uc A hT hvl hnk hru) rfl rfl (fun v G3 hle3 hh => ?_); obtain ⟨nc, n1, rfl, hrn, hn1⟩ := hh; have hnl := hrn.len; have hno2 := hrn.one; have hok := A9x t hnk)
 refine C3 ?_
 refine sE (A4 rfl) rfl (fun b110 => ?_)
 refine sS rfl rfl rfl hnl hno2 rfl ?_ (hu := by exact D7 hnl.symm)
 refine A9 ?_
 refine B7 ?_
 refine B2 ?_
 refine sB (O6 rfl rfl) rfl rfl (fun h121 => ?_) (fun h121 => ?_)
 refine A2R ?_
 refine A0D (rT rfl) (rT rfl) (rT rfl) (rT rfl) ?_
 (exact Y6.mk (by rw [hrun]; exact A9C hvl zV))
 refine A7 ?_
 refine sL (A2 rfl rfl (C9 zO) hnl) rfl rfl ?_
 (have hc1 : t.stp.2.1 = 1 := zV; obtain rfl := hn1 hc1; have hzz : zb t.z ≤ zb 200 := (by unfold zb; have := Nat.mul_le_mul hz hz; omega); have hzb : zb 200 = 40205 := rfl; have hsz := A9w t.stp.1; have hsX := A9N t.stp.1.nt 200; unfold szX at hsX; refine E5 rfl (B4H _ 200 G3 nc zV ⟨by omega, by omega⟩ hrn) rfl rfl ?_)
 refine sB (A0h rfl rfl) rfl rfl (fun h154 => ?_) (fun h154 => ?_)
 refine Z0 ?_
 refine A0D (rT rfl) (rT rfl) (rT rfl) (rT rfl) ?_
 (exact Y6.mk (by rw [hrun]; exact A9D hvl hc1 zV))
 refine B4 ?_
 refine sB (qE rfl rfl) rfl rfl (fun h185 => ?_) (fun h185 => ?_)
 refine Z0 ?_
 refine A0D (rT rfl) (rT rfl) (rT rfl) (rT rfl) ?_
 (exact Y6.mk (by rw [hrun]; exact A9E hvl hc1 zV zV))
 refine C2 ?_
 refine sL (A2 rfl rfl (C9 zO) hnl) rfl rfl ?_
 refine U8 rfl rfl rfl hnl hno2 rfl zN (by exact D7 (hul.trans hnl.symm)) ?_
 refine C3 ?_
 refine sL (A2 rfl rfl (C9 zO) hnl) rfl rfl ?_
 refine E5 rfl ((A9K _ _ _ hrn)) rfl rfl ?_
 refine A8 ?_
 refine sB (A0h rfl rfl) rfl rfl (fun h232 => ?_) (fun h232 => ?_)
 refine E8 ?_
 refine sP (H9 rfl rfl zV zV) rfl rfl ?_
 refine A3 ?_
 (have hzz9 : h < t.stp.1.nt.hs := zV; refine I6 (s + 1, t.stp.1, nc, t.stp.1.nt.hs, G3) ?_ ?_ ?_)
 (simp only [J4]; exact E3)
 (dsimp only; exact ⟨by omega, by rw [hrun, A5W hvl hc1 zV zV, show F - (s + 1) = F - s - 1 by omega], A5X hT hvl hc1, hok.1, by omega, hrn, hlei.trans hle3⟩)
 (show F - (s + 1) < F - s; omega)
 refine B4 ?_
 refine sP (H9 rfl rfl zV zV) rfl rfl ?_
 refine A3 ?_
 refine I6 (s + 1, t.stp.1, nc, h, G3) ?_ ?_ ?_
 (simp only [J4]; exact E3)
 (dsimp only; exact ⟨by omega, by rw [hrun, A5W hvl hc1 zV zV, show F - (s + 1) = F - s - 1 by omega], A5X hT hvl hc1, hok.1, by omega, hrn, hlei.trans hle3⟩)
 (show F - (s + 1) < F - s; omega)
 refine A9 ?_
 refine sL (A2 rfl rfl (C9 zO) hul) rfl rfl ?_
 refine E5 rfl ((B4D t Gi uc hvl hnk hru)) rfl rfl ?_
 refine G9 ?_
 refine A0D (rT rfl) (rT rfl) (rT rfl) (rT rfl) ?_
 (exact Y6.mk (by rw [hrun]; exact A9B hvl))
theorem B4S (e : Tm) (fuel : Int) (G : IM) (cells : List Value) (hcnt : J1 e ≤ 4294967296) (hr : D1 G e cells) : Fn Tryz.prog 14 [.agg ⟨cells⟩, .int .i64 fuel] [] G (A8P (A2a e fuel) G) := by
 have hRl := hr.len
 have hRo := hr.one
 have hno := @A9z e fuel
 have hys := fun u t => @A9A e u t fuel
 refine D5 Tryz.func14 rfl Tryz.ntmps14 Tryz.results14 rfl ?_
 intro w0
 refine A3 ?_
 refine sE (D8 rfl rfl) rfl (fun b3 => ?_)
 refine A8 ?_
 refine sL (A2 rfl rfl (C9 zO) hRl) rfl rfl ?_
 focus (refine E7 rfl (B3G e G cells hcnt hr) rfl rfl (fun v G1 hle1 hh => ?_); obtain ⟨cu, ct, rfl, hru, hrt⟩ := hh; rcases hI : S4 e with _ | ⟨u, t⟩; rotate_left; rw [hI] at hru hrt; simp only [Option.getD_some] at hru hrt; rotate_left; rw [hI] at hru hrt; simp only [Option.getD_none] at hru hrt; simp only [Option.isSome]; rotate_left; simp only [Option.isSome]; rotate_left; all_goals (have hul := hru.len; have huo := hru.one; obtain ⟨p3, c3, e3, rfl, _⟩ := hrt.open))
 refine C3 ?_
 refine sE (A4 rfl) rfl (fun b17 => ?_)
 refine sE (A4 rfl) rfl (fun b18 => ?_)
 refine sS rfl rfl rfl hul huo rfl ?_ (hu := by exact D7 hul.symm)
 refine Z1 ?_
 refine E4 (rT rfl) (rT rfl) (rT rfl) ?_
 (exact ⟨rfl, by rw [hno (by first | exact hI | rfl | assumption)]⟩)
 refine C3 ?_
 refine sE (A4 rfl) rfl (fun b47 => ?_)
 refine sE (A4 rfl) rfl (fun b48 => ?_)
 refine sS rfl rfl rfl hul huo rfl ?_ (hu := by exact D7 hul.symm)
 refine K0 ?_
 refine sL (A2 rfl rfl (C9 zO) hul) rfl rfl ?_
 refine I0 ?_
 (obtain ⟨hcv, hct, _⟩ := A5G hI; obtain ⟨A, _, hsp⟩ := spT hcv hct; refine E7 rfl (B4R u _ A fuel G1 cu hcv hsp hru) rfl rfl (fun v G2 hle2 hh => ?_); obtain ⟨h, rfl⟩ := hh)
 refine A2R ?_
 refine E4 (rT rfl) (rT rfl) (rT rfl) ?_
 (exact ⟨rfl, by rw [hys _ _ hI]⟩)
theorem B4T (t : Tm) (fuel : Int) (G : IM) (cells : List Value) (hT : A0z G) (hno : t.nok) (hr : D1 G t cells) (hf : F9 fuel) :
  Fn Tryz.prog 4 [.agg ⟨cells⟩, .int .i64 fuel] [] G (K9 fun _ v => v = .bool true) := by
 have hl := hr.len
 have hone := hr.one
 have hz := B08 t 1048576 G cells zV zV hno hr
 have hzn := A46 t
 have hcs := A7s t
 obtain ⟨s, c, l, hR⟩ : ∃ s c l, A2a t fuel = (s, c, l) := ⟨_, _, _, rfl⟩
 refine D5 Tryz.func4 rfl Tryz.ntmps4 Tryz.results4 rfl ?_
 intro w0
 refine A3 ?_
 refine sE (D8 rfl rfl) rfl (fun b3 => ?_)
 refine H3 ?_
 refine sL (A2 rfl rfl (C9 zO) hl) rfl rfl ?_
 refine I0 ?_
 (rcases A1P 1048576 (Z3 t) with ⟨hc, hrs⟩ | ⟨hc, hrs⟩ <;> (rw [hrs] at hz; refine E5 rfl hz rfl rfl ?_))
 refine A8 ?_
 refine sP (A0j rfl rfl zV) rfl rfl ?_
 refine A8 ?_
 refine sL (A2 rfl rfl (C9 zO) hl) rfl rfl ?_
 (refine E7 rfl (A5o t G cells (A3N t zV) hr) rfl rfl (fun v1 G1 hle1 hh => ?_); obtain ⟨cells1, F1, rfl, hs1, hn1⟩ := hh; have hA := B4S t fuel G1 cells1 zV (hs1.R.mono (E2.le _ _)); have hr1 := hr.mono hle1)
 refine I0 ?_
 (refine E7 rfl hA rfl rfl (fun v2 G2 hle2 hh => ?_); rw [hR] at hh; subst hh; have hr2 := hr1.mono hle2)
 refine E8 ?_
 refine sL (A2 rfl rfl (C9 zO) hl) rfl rfl ?_
 (refine E7 rfl (A5o t G2 cells (A3N t zV) hr2) rfl rfl (fun v3 G3 hle3 hh => ?_); obtain ⟨cells3, F3, rfl, hs3, hn3⟩ := hh; have hl3 := hs3.R.len; have ho3 := hs3.R.one; have hr3 := hr2.mono hle3; have hI := B4x t fuel G3 cells3 (((hT.mono hle1).mono hle2).mono hle3) (hs3.R.mono (E2.le _ _)))
 refine sE (A4 rfl) rfl (fun b49 => ?_)
 refine U8 rfl rfl rfl zS zS rfl zN (by exact D7 (by symm; assumption)) ?_
 refine C3 ?_
 refine sL (A2 rfl rfl (C9 zO) hl3) rfl rfl ?_
 refine I0 ?_
 (refine E7 rfl hI rfl rfl (fun v4 G4 hle4 hh => ?_); rw [hR] at hh; subst hh; have hr4 := hr3.mono hle4)
 refine J5 ?_
 refine sB (A04 rfl rfl) rfl rfl (fun h72 => ?_) (fun h72 => ?_)
 refine Z1 ?_
 (exfalso; first | omega | (have hne : ¬ s = s := zS; exact hne rfl))
 refine B2 ?_
 refine sP (Y9 rfl rfl zV) rfl rfl ?_
 refine C3 ?_
 refine sP (Y9 rfl rfl zV) rfl rfl ?_
 refine B4 ?_
 refine D3 D4 rfl ?_
 refine K3 (i := 0) (l' := [tt,ff,ff,ff,ff]) rfl C1 (A2 rfl rfl (C9 zO) hl3) rfl zT rfl rfl ?_
 refine aL 1 rfl (A2 rfl rfl (C9 zO) hl) rfl ?_
 refine A0 2 ?_
 (refine D6 rfl rfl (A5o t G4 cells (A3N t zV) hr4) rfl rfl rfl (fun v5 G5 hle5 hh => ?_); obtain ⟨cells5, F5, rfl, hs5, hn5⟩ := hh)
 refine A0 3 ?_
 refine M8 rfl rfl (B0W t G5 cells3 cells5 (hs3.R.mono ((E2.le _ _).trans (hle4.trans hle5))) (hs5.R.mono (E2.le _ _))) rfl rfl rfl ?_
 refine aP 4 rfl (Z6 rfl) rfl ?_
 refine K1 ?_
 (exact ⟨rfl, rfl⟩)
 refine A8 ?_
 refine sP (A1J rfl rfl zV) rfl rfl ?_
 refine E8 ?_
 (exact ⟨rfl, rfl⟩)
end Gw
end Go.Proofs.YtmceanphadildaaGreatDoor
