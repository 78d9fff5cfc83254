/-
  The reference model's composition of coercions.
-/
import Derived.Test.YtmceanphadildaaGreatDoorKc7
import Derived.Test.YtmceanphadildaaGreatDoorKc8
import Derived.Test.YtmceanphadildaaGreatDoorKc6
import Derived.Test.YtmceanphadildaaGreatDoorKc3
import Derived.Test.YtmceanphadildaaGreatDoorKc2
import Derived.Test.YtmceanphadildaaGreatDoorKc1
set_option linter.unusedVariables false
set_option linter.unusedSimpArgs false
set_option linter.ambiguousOpen false
set_option maxHeartbeats 0
set_option maxRecDepth 100000
set_option synthInstance.maxSize 4000
set_option synthInstance.maxHeartbeats 0
namespace Go.Proofs.YtmceanphadildaaGreatDoor
open Go Go.RowKit Tryz Go.Proofs.Tryz
namespace Gw
theorem zk9 {p : Prop} (h : p := by exfalso; simp only [TH.nt, I5, Nt.mk.injEq, Cn.mk.injEq, if_true, Bool.false_eq_true, if_false] at ht; omega) : p := h
variable {p : Prop}
theorem y46 (h : p := by
  refine A2 19 ?_
  refine E9 rfl ?_
  refine B5 ?_
  refine zf6 ?_
  refine xx5 0 1 2 3 4 ?_
  refine aL 5 rfl (A3 rfl rfl (At.moS hle1 (hat4 [])) hl4) rfl ?_
  refine A2 6 ?_
  (have hq := hq7; refine A0c (cs := [.int .i64 5, .string x, .int .i64 0, .int .i64 tkB, .slice ptB tksB.length ctB, .int .i64 fkB, .slice pfB fksB.length cfB, .int .i64 lbB, .slice p0B 0 c0B, .int .i64 0, .int .i64 0, .int .i64 0, .slice pcB 0 ccB, .slice pB 1 cB, v1, v2, v3, v4, v5, v6, v7, v8, v9, u1, u2, u3, u4, u5]) zB0 (fun G2 hle2 hsl2 hno2 => ?_); have hrN := A8L (hnd.mono (hle1.trans hle2)) zN0 (hre2'.mono (hle1.trans hle2)) (hrw.mono hle2) hsl2; refine E6 rfl rfl (A2B _ d9.cn G2 _ _ hrN (hre4.mono (hle1.trans hle2))) rfl rfl rfl (fun v G3 hle3 hh => ?_); obtain ⟨vc, rfl, hrv⟩ := hh; have hvl := hrv.len; have hvo := hrv.one)
  refine A2 7 ?_
  (refine oS rfl rfl rfl rfl hvl hvo rfl rfl ?_ (hu := by exact E0 hvl.symm))
  refine xx1 8 ?_
  refine B1 ?_
  refine F4 (rC rfl (A3 rfl rfl (B9 zG0) hvl)) (rT rfl) ?_
  (have hq := hq7; exact RdP.ok (u := .conv d9 (.app (.lam x B e) (.conv c9 w))) hst rfl hrv)
) : p := h
theorem y47 (h : p := by
  refine E1 ?_
  (refine H1 (cs := [.int .i64 w1, .int .i64 w2, .int .i64 w3, .slice p6 n6 c6, .int .i64 y1, .int .i64 y2, .int .i64 y3, .slice p5 n5 c5]) zB0 (fun G5 hle5 hsl5 hno5 => ?_))
  refine tT ?_
  refine zf5 ?_
  (exact Y8.mk (A2y (hrw.mono (hle3.trans hle5)) (hrv.mono hle5) hsl5 hak h0 h0 zO0) (fun h => by have e1 := hu2 h.2; have e2 := hu3 (hty h.2).1; first | exact absurd e1.1 zN0 | exact ⟨by rw [e1.2, e2.1], e2.2⟩))
) : p := h
theorem y48 (h : p := by
  refine A2 2 ?_
  refine M9 rfl rfl ((A6H _ _)) rfl rfl rfl ?_
  refine A2 8 ?_
  refine E9 rfl ?_
  refine xx1 9 ?_
  refine B6 ?_
  refine zf5 ?_
  (exact Y8.mk (H3.put (ks := []) (es := []) ⟨by decide, by decide⟩ hatg h0 zN0 zN0 zN0 rfl (D7.nil _ _) KR.nil) (fun h => by have h9 := hPP h; have h8 := B3F ha zO0; first | (exfalso; omega) | (refine ⟨?_, rfl⟩; rw [h9.2.2 zO0, ha, h8.1, h8.2]; congr 1; omega)))
) : p := h
theorem y49 (h : p := by
  refine A2 16 ?_
  refine E9 rfl ?_
  refine xx2 17 18 ?_
  refine B8 ?_
  refine sS rfl rfl rfl hl1 ho1 rfl ?_ (hu := by exact E0 hl1.symm)
  refine A7 ?_
  refine zf5 ?_
  (exact RdP.ok (u := .num (HMod.hMod (m + n) 1000)) hst rfl (A4h hru2 zN0))
) : p := h
theorem y50 (h : p := by
  refine A2 16 ?_
  refine E9 rfl ?_
  refine xx2 17 18 ?_
  refine B8 ?_
  refine sS rfl rfl rfl hl1 ho1 rfl ?_ (hu := by exact E0 hl1.symm)
  refine A7 ?_
  refine zf5 ?_
  (exact RdP.ok (u := .tru (decide (m < n))) hst rfl zM)
) : p := h
theorem y51 (h : p := by
  refine A2 13 ?_
  refine E9 rfl ?_
  refine xx1 14 ?_
  refine V0 ?_
  refine E2 (_, [.int .i64 y1, .int .i64 y2, .int .i64 y3, .slice p5 n5 c5], bo3, G3) (D6 zA0 zQ) ⟨hle3, n3, hrv, hu3⟩
) : p := h
theorem y52 (h : p := by
  refine A2 13 ?_
  refine E9 rfl ?_
  refine xx1 14 ?_
  refine V0 ?_
  refine E2 (_, [.int .i64 x1, .int .i64 x2, .int .i64 x3, .slice p4 n4 c4], bo1, G1) (D6 zA0 zQ) ⟨hle1, n1, hru, hu1⟩
) : p := h
def W5 (a b : GK) : Prop := ∃ A B C, CT a A B ∧ CT b B C
def Y8 (P : Prop) (c : GK) : IM → Value → List A9 → Prop := M3 fun G' v => ∃ cells n bo, v = .tuple ⟨[.agg ⟨cells⟩, .bool bo]⟩ ∧ H3 G' n cells ∧ (P → n = c.cn ∧ bo = true)
variable {G : IM} {c : GK}
theorem Y8.mk {P : Prop} {n : Cn} {cells : List Value} {bo : Bool} (hr : H3 G n cells) (h : P → n = c.cn ∧ bo = true) : Y8 P c G (.tuple ⟨[.agg ⟨cells⟩, .bool bo]⟩) [] := ⟨rfl, cells, n, bo, rfl, hr, h⟩
def SCo (a b : GK) : Prop := ∀ (G : IM) (ca cb : List Value), H3 G a.cn ca → H3 G b.cn cb → Fn prog 178 [.agg ⟨ca⟩, .agg ⟨cb⟩] [] G (Y8 (W5 a b) (cmp a b))
variable {a b : GK}
theorem A5d (h : W5 a b) : fit a b = true := by obtain ⟨A, B, C, h1, h2⟩ := h; exact h1.fit h2
variable {d : GK}
theorem B3B {c' d' : GK} (h : W5 (.fn c d) (.fn c' d')) : W5 c' c ∧ W5 d d' := by
 obtain ⟨A, B, C, h1, h2⟩ := h
 cases h1 with
 | fn h3 h4 => cases h2 with
  | fn h5 h6 => exact ⟨⟨_, _, _, h5, h3⟩, ⟨_, _, _, h4, h6⟩⟩
theorem B3C {c' d' : GK} (h : W5 (.pr c d) (.pr c' d')) : W5 c c' ∧ W5 d d' := by
 obtain ⟨A, B, C, h1, h2⟩ := h
 cases h1 with
 | pr h3 h4 => cases h2 with
  | pr h5 h6 => exact ⟨⟨_, _, _, h3, h5⟩, ⟨_, _, _, h4, h6⟩⟩
variable {l : Int}
theorem B3D (h : W5 (.prj l c) b) : W5 c b := by
 obtain ⟨A, B, C, h1, h2⟩ := h
 cases h1 with | prj h3 _ _ _ => exact ⟨_, _, _, h3, h2⟩
theorem B9z (h : W5 (.inj c) (.prj l d)) (ht : c.tg = d.tg) : W5 c d := by
 obtain ⟨A, B, C, h1, h2⟩ := h
 cases h1 with
 | @inj _ _ G h3 hp hG => cases h2 with
  | @prj _ _ H _ h5 hm hH hl =>
   obtain ⟨q1, q2⟩ := h5.src hm
   obtain ⟨p1, p2, p3, p4, p5⟩ := h3.plg hp
   have : G = H := A4x hG hH (by rw [← p5, ← p4, ht, q2])
   subst this
   exact ⟨_, _, _, h3, h5⟩
theorem B3E (h : W5 a (.inj d)) : d.pl = true ∧ W5 a d := by
 obtain ⟨A, B, C, h1, h2⟩ := h
 cases h2 with | inj h3 hp _ => exact ⟨hp, _, _, _, h1, h3⟩
theorem B9A {bk btg blb : Int} {bks : List Cn} (hb : b.cn = .mk bk btg blb bks) (hp : a.pl = true) (h4 : bk ≠ 4) (h6 : bk ≠ 6) (h : W5 a b) : b.pl = true := by
 obtain ⟨A, B, C, h1, h2⟩ := h
 have hB := (h1.plg hp).2.1
 cases h2 <;> simp only [GK.cn, Cn.mk.injEq] at hb <;> first | rfl | (exfalso; omega) | exact absurd rfl hB
variable {aks : List Cn} {ak atg alb : Int}
theorem B3F (h : a.cn = .mk ak atg alb aks) (h1 : ak = 1) : alb = 0 ∧ aks = [] := by
 cases a <;> simp only [GK.cn, Cn.mk.injEq] at h <;> first | (exfalso; omega) | exact ⟨h.2.2.1.symm, h.2.2.2.symm⟩
theorem A8J (h : a.cn = .mk ak atg alb aks) (hp : a.pl = true) : ak = 1 ∨ ak = 2 ∨ ak = 3 := by
 cases a <;> simp only [GK.cn, Cn.mk.injEq] at h <;> first | (cases hp; done) | (obtain ⟨rfl, _⟩ := h; simp)
theorem B9B {bk btg blb : Int} {bks : List Cn} (ha : a.cn = .mk ak atg alb aks) (hb : b.cn = .mk bk btg blb bks) (hg : ak = 2 ∨ ak = 3) (e : bk = ak) : ∃ a1 a2 b1 b2 : GK, aks = [a1.cn, a2.cn] ∧ bks = [b1.cn, b2.cn] ∧ a1.z + b1.z < a.z + b.z ∧ a2.z + b2.z < a.z + b.z ∧ (W5 a b → W5 a2 b2 ∧ (ak = 2 → W5 b1 a1) ∧ (ak = 3 → W5 a1 b1)) ∧ (ak = 2 → (cmp a b).cn = .mk 2 0 0 [(cmp b1 a1).cn, (cmp a2 b2).cn]) ∧ (ak = 3 → (cmp a b).cn = .mk 3 0 0 [(cmp a1 b1).cn, (cmp a2 b2).cn]) := by
 rcases hg with hg | hg
 ·obtain ⟨a1, a2, rfl, rfl, rfl, rfl⟩ := A6A ha hg
  obtain ⟨b1, b2, rfl, rfl, rfl, rfl⟩ := A6A hb zO0
  exact ⟨a1, a2, b1, b2, rfl, rfl, by simp [GK.z]; omega, by simp [GK.z]; omega, fun h => ⟨(B3B h).2, fun _ => (B3B h).1, fun h => by omega⟩, fun _ => by rw [cmp, GK.cn], fun h => by omega⟩
 ·obtain ⟨a1, a2, rfl, rfl, rfl, rfl⟩ := A6B ha hg
  obtain ⟨b1, b2, rfl, rfl, rfl, rfl⟩ := A6B hb zO0
  exact ⟨a1, a2, b1, b2, rfl, rfl, by simp [GK.z]; omega, by simp [GK.z]; omega, fun h => ⟨(B3C h).2, fun h => by omega, fun _ => (B3C h).1⟩, fun h => by omega, fun _ => by rw [cmp, GK.cn]⟩
theorem A8K (n : Nat) (ih : ∀ a b : GK, a.z + b.z ≤ n → SCo a b) (a b : GK) (hz : a.z + b.z ≤ n + 1) (hp : a.pl = true) (G : IM) (ca cb : List Value) (hra : H3 G a.cn ca) (hrb : H3 G b.cn cb) :
  Fn prog 197 [.agg ⟨ca⟩, .agg ⟨cb⟩] [] G (Y8 (b.pl = true ∧ W5 a b) (cmp a b)) := by
 obtain ⟨ak, atg, alb, aks, ha⟩ := A1Z a
 obtain ⟨bk, btg, blb, bks, hb⟩ := A1Z b
 have hkA := A8J ha hp
 have hPP : b.pl = true ∧ W5 a b → ak = bk ∧ atg = btg ∧ (ak = 1 → cmp a b = a) := fun h => A6C ha hb hp (by have := A8J hb h.1; omega) (by have := A8J hb h.1; omega) (A5d h.2)
 rw [ha] at hra
 rw [hb] at hrb
 obtain ⟨pa, cpa, ea, rfl, hak, hatg, halb, hna, _, _, hsa, hka⟩ := hra.open4
 obtain ⟨pb, cpb, eb, rfl, hbk, hbtg, hblb, hnb, _, _, hsb, hkb⟩ := hrb.open4
 have h0 : F8 0 := ⟨by decide, by decide⟩
 refine C4 func197 rfl ntmps197 results197 rfl ?_
 intro w0
 have hm0 : True := trivial
 refine A5 ?_
 refine zf2 (fun b3 => ?_)
 refine zf2 (fun b4 => ?_)
 refine zf1 (fun b5 => ?_)
 refine I9 ?_
 refine zf16 (fun h16 => ?_) (fun h16 => ?_)
 refine P3 ?_
 refine zf5 ?_
 (exact Y8.mk (A09 _) (fun h => by have := hPP h; omega))
 refine I9 ?_
 refine zf0 (fun h41 => ?_) (fun h41 => ?_)
 refine B6 ?_
 refine zf6 ?_
 refine xx6 0 1 3 4 5 6 ?_
 refine A0r (i := 7) (l' := [tt,tt,ff,tt,tt,tt,tt,tt,ff,ff]) rfl C7 (qE rfl rfl) rfl zM0 rfl rfl (fun h53 => ?_) (fun h53 => ?_)
 exact y48
 exact y48
 refine A7 ?_
 (clear hm0; have hg : ak = 2 ∨ ak = 3 := zO0; obtain ⟨a1, a2, b1, b2, rfl, rfl, hz1, hz2, hty, hf, hp3⟩ := B9B ha hb hg zO0; obtain ⟨q1, o1, e1, rfl, hl1, ho1, hat1, hre1, _, hgb1⟩ := hsa.kidR hka (i := 0) zP0 zP0; obtain ⟨q2, o2, e2, hE2, hl2, ho2, hat2, hre2, _, hgb2⟩ := hsa.kidR hka (i := 1) zP0 zP0; cases hE2; obtain ⟨q3, o3, e3, rfl, hl3, ho3, hat3, hre3, _, hgb3⟩ := hsb.kidR hkb (i := 0) zP0 zP0; obtain ⟨q4, o4, e4, hE4, hl4, ho4, hat4, hre4, _, hgb4⟩ := hsb.kidR hkb (i := 1) zP0 zP0; cases hE4; replace hre1 : H3 G a1.cn e1 := hre1; replace hre2 : H3 G a2.cn e2 := hre2; replace hre3 : H3 G b1.cn e3 := hre3; replace hre4 : H3 G b2.cn e4 := hre4; have hm1 : True := trivial; refine P4 (fun (x : Nat × List Value × Bool × IM) => ⟨[(7, .bool x.2.2.1), (6, .pointer (some ⟨x.1, 0, none⟩)), (5, .bool false), (4, .pointer (some ⟨b5, 0, none⟩)), (3, .pointer (some ⟨b4, 0, none⟩)), (2, .pointer (some ⟨b3, 0, none⟩))], [.blk x.1 x.2.1, .blk b5 [.int .i64 0, .int .i64 0, .int .i64 0, .slice none 0 0], .blk b4 [.int .i64 bk, .int .i64 btg, .int .i64 blb, .slice (some ⟨q3, o3, none⟩) [b1.cn, b2.cn].length cpb], .blk b3 [.int .i64 ak, .int .i64 atg, .int .i64 alb, .slice (some ⟨q1, o1, none⟩) [a1.cn, a2.cn].length cpa]], x.2.2.2⟩) (fun x => C3 G x.2.2.2 ∧ ∃ n, H3 x.2.2.2 n x.2.1 ∧ (W5 a1 b1 → n = (cmp a1 b1).cn ∧ x.2.2.1 = true)) ?_ ?_)
 refine zf6 ?_
 refine xx8 0 1 2 3 4 5 6 7 ?_
 refine N5 (j := 8) (j' := 12) zM0 ?_ ?_
 (refine E6 rfl rfl (ih a1 b1 zO0 G _ _ hre1 hre3) rfl rfl rfl (fun u G1 hle1 hh => ?_); obtain ⟨uc, n1, bo1, rfl, hru, hu1⟩ := hh; obtain ⟨x1, x2, x3, p4, n4, c4, rfl⟩ := hru.ints)
 refine xx3 9 10 11 ?_
 refine A2 12 ?_
 refine zf10 (fun b98 => ?_)
 exact y52
 refine zf10 (fun b104 => ?_)
 refine A2 8 ?_
 (refine E6 rfl rfl (ih a1 b1 zO0 G _ _ hre1 hre3) rfl rfl rfl (fun u G1 hle1 hh => ?_); obtain ⟨uc, n1, bo1, rfl, hru, hu1⟩ := hh; obtain ⟨x1, x2, x3, p4, n4, c4, rfl⟩ := hru.ints)
 refine xx3 9 10 11 ?_
 exact y52
 (clear hm1; rintro ⟨x6, cx, bo1, G1⟩ ⟨hle1, n1, hru, hu1⟩; simp only [] at hle1 hru hu1 ⊢; obtain ⟨x1, x2, x3, p4, n4, c4, rfl⟩ := hru.ints; have hm2 : True := trivial)
 (clear hm2; have hm3 : True := trivial; refine tS ?_; refine P4 (fun (x : List Value × Bool × IM) => ⟨[(7, .bool x.2.1), (6, .pointer (some ⟨x6, 0, none⟩)), (5, .bool false), (4, .pointer (some ⟨b5, 0, none⟩)), (3, .pointer (some ⟨b4, 0, none⟩)), (2, .pointer (some ⟨b3, 0, none⟩))], [.blk x6 x.1, .blk b5 [.int .i64 0, .int .i64 0, .int .i64 0, .slice none 0 0], .blk b4 [.int .i64 bk, .int .i64 btg, .int .i64 blb, .slice (some ⟨q3, o3, none⟩) [b1.cn, b2.cn].length cpb], .blk b3 [.int .i64 ak, .int .i64 atg, .int .i64 alb, .slice (some ⟨q1, o1, none⟩) [a1.cn, a2.cn].length cpa]], x.2.2⟩) (fun x => C3 G1 x.2.2 ∧ ∃ n, H3 x.2.2 n x.1 ∧ (W5 a b → x.2.1 = true ∧ (cmp a b).cn = .mk ak 0 0 [n, (cmp a2 b2).cn])) ?_ ?_)
 refine B6 ?_
 refine zf0 (fun h121 => ?_) (fun h121 => ?_)
 refine B5 ?_
 refine zf6 ?_
 refine xx3 0 1 2 ?_
 refine aL 3 rfl (A3 rfl rfl (At.moS hle1 (hat3 [])) hl3) rfl ?_
 refine xx3 4 5 6 ?_
 refine aL 7 rfl (A3 rfl rfl (At.moS hle1 (hat1 [])) hl1) rfl ?_
 refine A2 8 ?_
 (refine E6 rfl rfl (ih b1 a1 zO0 G1 _ _ (hre3.mono hle1) (hre1.mono hle1)) rfl rfl rfl (fun u G2 hle2 hh => ?_); obtain ⟨wc, n2, bo2, rfl, hrw, hu2⟩ := hh; obtain ⟨w1, w2, w3, p6, n6, c6, rfl⟩ := hrw.ints)
 refine xx3 9 10 11 ?_
 refine A2 12 ?_
 refine E9 rfl ?_
 refine xx1 13 ?_
 refine V0 ?_
 refine E2 ([.int .i64 w1, .int .i64 w2, .int .i64 w3, .slice p6 n6 c6], bo2, G2) (D6 zA0 zQ) ⟨hle2, n2, hrw, fun h => by have ek : ak = 2 := zO0; have e := hu2 ((hty h).2.1 ek); exact ⟨e.2, by rw [hf ek, e.1, ek]⟩⟩
 refine B6 ?_
 refine E2 ([.int .i64 x1, .int .i64 x2, .int .i64 x3, .slice p4 n4 c4], bo1, G1) (D6 zA0 zQ) ⟨C3.refl _, n1, hru, fun h => by have ek : ak = 3 := zO0; have e := hu1 ((hty h).2.2 ek); exact ⟨e.2, by rw [hp3 ek, e.1, ek]⟩⟩
 (clear hm3; rintro ⟨cx, bo2, G2⟩ ⟨hle2, n2, hrw, hu2⟩; simp only [] at hle2 hrw hu2 ⊢; clear hru hu1 n1; obtain ⟨w1, w2, w3, p6, n6, c6, rfl⟩ := hrw.ints; replace hle2 := hle1.trans hle2; clear hle1; have hm4 : True := trivial)
 refine tS ?_
 (clear hm4; have hm5 : True := trivial; refine P4 (fun (x : Nat × List Value × Bool × IM) => ⟨[(9, .bool x.2.2.1), (8, .pointer (some ⟨x.1, 0, none⟩)), (7, .bool bo2), (6, .pointer (some ⟨x6, 0, none⟩)), (5, .bool false), (4, .pointer (some ⟨b5, 0, none⟩)), (3, .pointer (some ⟨b4, 0, none⟩)), (2, .pointer (some ⟨b3, 0, none⟩))], [.blk x.1 x.2.1, .blk x6 [.int .i64 w1, .int .i64 w2, .int .i64 w3, .slice p6 n6 c6], .blk b5 [.int .i64 0, .int .i64 0, .int .i64 0, .slice none 0 0], .blk b4 [.int .i64 bk, .int .i64 btg, .int .i64 blb, .slice (some ⟨q3, o3, none⟩) [b1.cn, b2.cn].length cpb], .blk b3 [.int .i64 ak, .int .i64 atg, .int .i64 alb, .slice (some ⟨q1, o1, none⟩) [a1.cn, a2.cn].length cpa]], x.2.2.2⟩) (fun x => C3 G2 x.2.2.2 ∧ ∃ n, H3 x.2.2.2 n x.2.1 ∧ (W5 a2 b2 → n = (cmp a2 b2).cn ∧ x.2.2.1 = true)) ?_ ?_)
 refine zf6 ?_
 refine xx3 0 1 2 ?_
 refine aL 3 rfl (A3 rfl rfl (At.moS hle2 (hat2 [])) hl2) rfl ?_
 refine xx3 4 5 6 ?_
 refine aL 7 rfl (A3 rfl rfl (At.moS hle2 (hat4 [])) hl4) rfl ?_
 refine N5 (j := 8) (j' := 12) zM0 ?_ ?_
 (refine E6 rfl rfl (ih a2 b2 zO0 G2 _ _ (hre2.mono hle2) (hre4.mono hle2)) rfl rfl rfl (fun u G3 hle3 hh => ?_); obtain ⟨vc, n3, bo3, rfl, hrv, hu3⟩ := hh; obtain ⟨y1, y2, y3, p5, n5, c5, rfl⟩ := hrv.ints)
 refine xx3 9 10 11 ?_
 refine A2 12 ?_
 refine zf10 (fun b167 => ?_)
 exact y51
 refine zf10 (fun b173 => ?_)
 refine A2 8 ?_
 (refine E6 rfl rfl (ih a2 b2 zO0 G2 _ _ (hre2.mono hle2) (hre4.mono hle2)) rfl rfl rfl (fun u G3 hle3 hh => ?_); obtain ⟨vc, n3, bo3, rfl, hrv, hu3⟩ := hh; obtain ⟨y1, y2, y3, p5, n5, c5, rfl⟩ := hrv.ints)
 refine xx3 9 10 11 ?_
 exact y51
 (clear hm5; rintro ⟨x8, cx8, bo3, G3⟩ ⟨hle3, n3, hrv, hu3⟩; simp only [] at hle3 hrv hu3 ⊢; obtain ⟨y1, y2, y3, p5, n5, c5, rfl⟩ := hrv.ints; cases bo2)
 refine A7 ?_
 refine zf7 (fun b191 => ?_)
 exact y47
 refine A7 ?_
 refine zf7 (fun b211 => ?_)
 exact y47
theorem B9C : ∀ (n : Nat) (a b : GK), a.z + b.z ≤ n → SCo a b := by
 intro n
 induction n with
 | zero => intro a b h; exfalso; cases a <;> simp [GK.z] at h
 | succ n ih =>
  intro a b hz G ca cb hra hrb
  have htg64 := B23 a hra
  have hra0 := hra
  have hrb0 := hrb
  obtain ⟨ak, atg, alb, aks, ha⟩ := A1Z a
  obtain ⟨bk, btg, blb, bks, hb⟩ := A1Z b
  have hkA := A8u ha
  have hTa := fun G1 (h : C3 G G1) => A6I a G1 ca (hra.mono h)
  have hTw := fun (h : a.pl = true) => A8K n ih a b hz h G ca cb hra hrb
  rw [ha] at hra
  rw [hb] at hrb
  obtain ⟨pa, cpa, ea, rfl, hak, hatg, halb, hna, _, _, hsa, hka⟩ := hra.open4
  obtain ⟨pb, cpb, eb, rfl, hbk, hbtg, hblb, hnb, _, _, hsb, hkb⟩ := hrb.open4
  have hpl := fun h1 h4 h5 h6 => @A3y a ak atg alb aks ha h1 h4 h5 h6
  have h0 : F8 0 := ⟨by decide, by decide⟩
  refine C4 func178 rfl ntmps178 results178 rfl ?_
  intro w0
  have hm0 : True := trivial
  refine A5 ?_
  refine zf2 (fun b3 => ?_)
  refine zf2 (fun b4 => ?_)
  refine zf1 (fun b5 => ?_)
  refine B6 ?_
  (clear hm0; have hm1 : True := trivial; refine P4 (fun (x : Bool) => ⟨[(6, .bool x), (5, .bool false), (4, .pointer (some ⟨b5, 0, none⟩)), (3, .pointer (some ⟨b4, 0, none⟩)), (2, .pointer (some ⟨b3, 0, none⟩))], [.blk b5 [.int .i64 0, .int .i64 0, .int .i64 0, .slice none 0 0], .blk b4 [.int .i64 bk, .int .i64 btg, .int .i64 blb, .slice pb bks.length cpb], .blk b3 [.int .i64 ak, .int .i64 atg, .int .i64 alb, .slice pa aks.length cpa]], G⟩) (fun x => x = true ↔ (bk = 5 ∨ (bk = 1 ∧ btg = 1))) ?_ ?_)
  refine B5 ?_
  refine zf0 (fun h14 => ?_) (fun h14 => ?_)
  refine P3 ?_
  refine E2 true (D6 zA0 zQ) ⟨fun _ => by omega, fun _ => rfl⟩
  refine B5 ?_
  refine zf0 (fun h31 => ?_) (fun h31 => ?_)
  refine B5 ?_
  refine zf0 (fun h35 => ?_) (fun h35 => ?_)
  refine B6 ?_
  refine E2 true (D6 zA0 zQ) ⟨fun _ => by omega, fun _ => rfl⟩
  refine B6 ?_
  refine E2 false (D6 zA0 zQ) ⟨fun h => absurd h zN0, fun h => by exfalso; omega⟩
  refine D4 ?_
  refine E2 false (D6 zA0 zQ) ⟨fun h => absurd h zN0, fun h => by exfalso; omega⟩
  (clear hm1; rintro un hun; have hm2 : True := trivial)
  refine tS ?_
  refine C2 ?_
  refine tS ?_
  (clear hm2; have hm3 : True := trivial; refine P4 (fun (x : Bool) => ⟨[(24, .bool x), (6, .bool un), (5, .bool false), (4, .pointer (some ⟨b5, 0, none⟩)), (3, .pointer (some ⟨b4, 0, none⟩)), (2, .pointer (some ⟨b3, 0, none⟩))], [.blk b5 [.int .i64 0, .int .i64 0, .int .i64 0, .slice none 0 0], .blk b4 [.int .i64 bk, .int .i64 btg, .int .i64 blb, .slice pb bks.length cpb], .blk b3 [.int .i64 ak, .int .i64 atg, .int .i64 alb, .slice pa aks.length cpa]], G⟩) (fun x => x = true ↔ (ak = 1 ∧ atg = 1)) ?_ ?_)
  refine B5 ?_
  refine zf0 (fun h63 => ?_) (fun h63 => ?_)
  refine B5 ?_
  refine zf0 (fun h67 => ?_) (fun h67 => ?_)
  refine B5 ?_
  refine E2 true (D6 zA0 zQ) ⟨fun _ => by omega, fun _ => rfl⟩
  refine B5 ?_
  refine E2 false (D6 zA0 zQ) ⟨fun h => absurd h zN0, fun h => by exfalso; omega⟩
  refine B8 ?_
  refine E2 false (D6 zA0 zQ) ⟨fun h => absurd h zN0, fun h => by exfalso; omega⟩
  focus (clear hm3; rintro (_ | _) hx; have hx1 : ¬(ak = 1 ∧ atg = 1) := (fun h => absurd (hx.2 h) zN0); rotate_left; have hx1 : ak = 1 ∧ atg = 1 := hx.1 rfl; rotate_left)
  refine B1 ?_
  refine zf0 (fun h90 => ?_) (fun h90 => ?_)
  refine B1 ?_
  (have hg : ak = 5 := zO0; obtain ⟨c, rfl, rfl, rfl⟩ := A6z ha hg; subst hg; obtain ⟨b1, o1, e1, rfl, hl1, ho1, hat1, hre1, _, hgb1⟩ := hsa.kidR hka (i := 0) zP0 zP0; replace hre1 : H3 G c.cn e1 := hre1; clear hTw; refine zdd D9 rfl ?_)
  refine xx5 0 1 2 3 4 ?_
  refine N5 (j := 5) (j' := 9) zM0 ?_ ?_
  (refine E6 rfl rfl (ih c b (by simp [GK.z] at hz; omega) G _ _ hre1 hrb0) rfl rfl rfl (fun u G1 hle1 hh => ?_); obtain ⟨uc, n1, bo1, rfl, hru, hu1⟩ := hh; obtain ⟨x1, x2, x3, p4, n4, c4, rfl⟩ := hru.ints)
  refine xx3 6 7 8 ?_
  refine A2 9 ?_
  refine zf10 (fun b108 => ?_)
  refine A2 10 ?_
  refine E9 rfl ?_
  refine xx1 11 ?_
  refine B8 ?_
  refine zf7 (fun b119 => ?_)
  refine A7 ?_
  (refine H1 (cs := [.int .i64 x1, .int .i64 x2, .int .i64 x3, .slice p4 n4 c4]) zB0 (fun G5 hle5 hsl5 hno5 => ?_))
  refine B5 ?_
  refine zf5 ?_
  (exact Y8.mk (A1r (hru.mono hle5) hsl5 ⟨by decide, by decide⟩ h0 halb zN0) (fun h => by have e1 := hu1 (B3D h); exact ⟨by rw [cmp, GK.cn, e1.1], e1.2⟩))
  refine zf10 (fun b132 => ?_)
  refine A2 5 ?_
  (refine E6 rfl rfl (ih c b (by simp [GK.z] at hz; omega) G _ _ hre1 hrb0) rfl rfl rfl (fun u G1 hle1 hh => ?_); obtain ⟨uc, n1, bo1, rfl, hru, hu1⟩ := hh; obtain ⟨x1, x2, x3, p4, n4, c4, rfl⟩ := hru.ints)
  refine xx3 6 7 8 ?_
  refine A2 10 ?_
  refine E9 rfl ?_
  refine xx1 11 ?_
  refine B8 ?_
  refine zf7 (fun b148 => ?_)
  refine A7 ?_
  (refine H1 (cs := [.int .i64 x1, .int .i64 x2, .int .i64 x3, .slice p4 n4 c4]) zB0 (fun G5 hle5 hsl5 hno5 => ?_))
  refine B5 ?_
  refine zf5 ?_
  (exact Y8.mk (A1r (hru.mono hle5) hsl5 ⟨by decide, by decide⟩ h0 halb zN0) (fun h => by have e1 := hu1 (B3D h); exact ⟨by rw [cmp, GK.cn, e1.1], e1.2⟩))
  refine D4 ?_
  refine zf0 (fun h169 => ?_) (fun h169 => ?_)
  refine B8 ?_
  (refine H6 rfl (A6K _ G _ hra0) rfl rfl (fun u G1 hle1 hh => ?_); obtain ⟨uc, rfl, hru⟩ := hh; obtain ⟨x1, x2, x3, p4, n4, c4, rfl⟩ := hru.ints)
  refine B8 ?_
  refine zf5 ?_
  (exact Y8.mk hru (fun h => ⟨by obtain ⟨rfl, _⟩ := A3w ha zO0; rw [cmp], rfl⟩))
  refine D4 ?_
  refine zf0 (fun h195 => ?_) (fun h195 => ?_)
  refine B5 ?_
  refine zf0 (fun h199 => ?_) (fun h199 => ?_)
  refine B8 ?_
  (have hg : ak = 4 := zO0; have hg2 : bk = 5 := zO0; obtain ⟨c, rfl, rfl, rfl, rfl⟩ := A3x ha hg; obtain ⟨d, rfl, rfl, rfl⟩ := A6z hb hg2; subst hg; subst hg2; obtain ⟨b1, o1, e1, rfl, hl1, ho1, hat1, hre1, _, hgb1⟩ := hsa.kidR hka (i := 0) zP0 zP0; replace hre1 : H3 G c.cn e1 := hre1; obtain ⟨b3, o3, e3, rfl, hl3, ho3, hat3, hre3, _, hgb3⟩ := hsb.kidR hkb (i := 0) zP0 zP0; replace hre3 : H3 G d.cn e3 := hre3; clear hTw; refine zdd D9 rfl ?_)
  refine xx8 0 1 2 3 5 6 7 8 ?_
  refine A2 4 ?_
  refine M9 rfl rfl ((A6I c G e1 hre1)) rfl rfl rfl ?_
  refine A2 9 ?_
  refine M9 rfl rfl ((A6I d G e3 hre3)) rfl rfl rfl ?_
  refine A0r (i := 10) (l' := [tt,tt,tt,tt,tt,tt,tt,tt,tt,tt,tt]) rfl C7 (qE rfl rfl) rfl zM0 rfl rfl (fun h220 => ?_) (fun h220 => ?_)
  refine B6 ?_
  refine zf6 ?_
  refine xx8 0 1 2 3 4 5 6 7 ?_
  refine A2 8 ?_
  (refine E6 rfl rfl (ih c d (by simp [GK.z] at hz; omega) G _ _ hre1 hre3) rfl rfl rfl (fun u G1 hle1 hh => ?_); obtain ⟨uc, n1, bo1, rfl, hru, hu1⟩ := hh; obtain ⟨x1, x2, x3, p4, n4, c4, rfl⟩ := hru.ints)
  refine xx2 9 10 ?_
  refine A2 11 ?_
  refine E9 rfl ?_
  refine xx1 12 ?_
  refine A7 ?_
  refine zf5 ?_
  (exact Y8.mk hru (fun h => by have e1 := hu1 (B9z h zL0); exact ⟨by rw [cmp, if_pos zL0]; exact e1.1, e1.2⟩))
  refine A7 ?_
  refine zf6 ?_
  refine xx6 0 1 2 3 5 6 ?_
  refine A2 4 ?_
  refine M9 rfl rfl ((A6I c G e1 hre1)) rfl rfl rfl ?_
  refine xx1 7 ?_
  refine A2 8 ?_
  refine E9 rfl ?_
  refine xx1 9 ?_
  refine B1 ?_
  refine zf5 ?_
  (exact Y8.mk (B22 hblb htg64) (fun h => ⟨by rw [cmp, if_neg zL0], rfl⟩))
  refine E1 ?_
  refine zf12 ?_
  refine B8 ?_
  (refine H6 rfl (A6K _ G _ hra0) rfl rfl (fun u G1 hle1 hh => ?_); obtain ⟨uc, rfl, hru⟩ := hh; obtain ⟨x1, x2, x3, p4, n4, c4, rfl⟩ := hru.ints)
  refine D4 ?_
  refine zf5 ?_
  (exact Y8.mk hru (fun h => by obtain ⟨c, rfl, _⟩ := A3x ha zO0; obtain rfl := A8v hb zO0 (A5d h); exact ⟨by rw [A2N], hun.2 (by simp only [GK.cn, Cn.mk.injEq] at hb; omega)⟩))
  refine K7 ?_
  refine zf11 ?_
  refine D4 ?_
  refine zf0 (fun h325 => ?_) (fun h325 => ?_)
  refine B1 ?_
  refine zf6 ?_
  refine xx4 0 2 4 5 ?_
  refine A2 1 ?_
  (refine E6 rfl rfl (A6K _ G _ hrb0) rfl rfl rfl (fun u G1 hle1 hh => ?_); obtain ⟨uc, rfl, hru⟩ := hh; obtain ⟨x1, x2, x3, p4, n4, c4, rfl⟩ := hru.ints)
  refine A2 3 ?_
  refine M9 rfl rfl ((hTa _ (by first | exact C3.refl _ | assumption))) rfl rfl rfl ?_
  refine A0r (i := 6) (l' := [tt,tt,tt,tt,tt,tt,tt,ff,ff]) rfl C7 (qE rfl rfl) rfl zM0 rfl rfl (fun h340 => ?_) (fun h340 => ?_)
  refine A2 7 ?_
  refine E9 rfl ?_
  refine xx1 8 ?_
  refine B1 ?_
  refine zf5 ?_
  (exact Y8.mk hru (fun h => by have hplA := hpl zO0 zO0 zO0 zO0; obtain ⟨rfl, _⟩ := A3w hb zO0; have hq := A8w hplA (A5d h); first | exact ⟨by rw [A1E hplA], rfl⟩ | (exfalso; exact absurd hq zL0)))
  refine A2 7 ?_
  refine E9 rfl ?_
  refine xx1 8 ?_
  refine B1 ?_
  refine zf5 ?_
  (exact Y8.mk hru (fun h => by have hplA := hpl zO0 zO0 zO0 zO0; obtain ⟨rfl, _⟩ := A3w hb zO0; have hq := A8w hplA (A5d h); first | exact ⟨by rw [A1E hplA], rfl⟩ | (exfalso; exact absurd hq zL0)))
  refine D4 ?_
  refine zf0 (fun h369 => ?_) (fun h369 => ?_)
  refine B1 ?_
  (have hg : bk = 4 := zO0; have hplA := hpl zO0 zO0 zO0 zO0; obtain ⟨d, rfl, rfl, rfl, rfl⟩ := A3x hb hg; subst hg; obtain ⟨b3, o3, e3, rfl, hl3, ho3, hat3, hre3, _, hgb3⟩ := hsb.kidR hkb (i := 0) zP0 zP0; replace hre3 : H3 G d.cn e3 := hre3; clear hTw; refine zdd D9 rfl ?_)
  refine xx5 0 1 2 3 4 ?_
  refine N5 (j := 5) (j' := 9) zM0 ?_ ?_
  (refine E6 rfl rfl (A8K n ih a d (by simp [GK.z] at hz; omega) hplA G _ _ hra0 hre3) rfl rfl rfl (fun u G1 hle1 hh => ?_); obtain ⟨uc, n1, bo1, rfl, hru, hu1⟩ := hh; obtain ⟨x1, x2, x3, p4, n4, c4, rfl⟩ := hru.ints)
  refine xx3 6 7 8 ?_
  refine A2 9 ?_
  refine zf10 (fun b387 => ?_)
  refine A2 10 ?_
  refine E9 rfl ?_
  refine xx1 11 ?_
  refine B1 ?_
  refine zf7 (fun b396 => ?_)
  refine A7 ?_
  (refine H1 (cs := [.int .i64 x1, .int .i64 x2, .int .i64 x3, .slice p4 n4 c4]) zB0 (fun G5 hle5 hsl5 hno5 => ?_))
  refine B5 ?_
  refine zf5 ?_
  (exact Y8.mk (A1r (hru.mono hle5) hsl5 ⟨by decide, by decide⟩ h0 h0 zN0) (fun h => by have e1 := hu1 (B3E h); exact ⟨by rw [A0T hplA, GK.cn, e1.1], e1.2⟩))
  refine zf10 (fun b409 => ?_)
  refine A2 5 ?_
  (refine E6 rfl rfl (A8K n ih a d (by simp [GK.z] at hz; omega) hplA G _ _ hra0 hre3) rfl rfl rfl (fun u G1 hle1 hh => ?_); obtain ⟨uc, n1, bo1, rfl, hru, hu1⟩ := hh; obtain ⟨x1, x2, x3, p4, n4, c4, rfl⟩ := hru.ints)
  refine xx3 6 7 8 ?_
  refine A2 10 ?_
  refine E9 rfl ?_
  refine xx1 11 ?_
  refine B1 ?_
  refine zf7 (fun b423 => ?_)
  refine A7 ?_
  (refine H1 (cs := [.int .i64 x1, .int .i64 x2, .int .i64 x3, .slice p4 n4 c4]) zB0 (fun G5 hle5 hsl5 hno5 => ?_))
  refine B5 ?_
  refine zf5 ?_
  (exact Y8.mk (A1r (hru.mono hle5) hsl5 ⟨by decide, by decide⟩ h0 h0 zN0) (fun h => by have e1 := hu1 (B3E h); exact ⟨by rw [A0T hplA, GK.cn, e1.1], e1.2⟩))
  refine J3 ?_
  (have hplA := hpl zO0 zO0 zO0 zO0; refine H6 rfl (hTw hplA) rfl rfl (fun u G1 hle1 hh => ?_); obtain ⟨uc, n1, bo1, rfl, hru, hu1⟩ := hh; obtain ⟨x1, x2, x3, p4, n4, c4, rfl⟩ := hru.ints)
  refine B8 ?_
  refine zf5 ?_
  (exact Y8.mk hru (fun h => hu1 ⟨B9A hb hplA zO0 zO0 h, h⟩))
  refine B6 ?_
  (refine H6 rfl (A6K _ G _ hrb0) rfl rfl (fun u G1 hle1 hh => ?_); obtain ⟨uc, rfl, hru⟩ := hh; obtain ⟨x1, x2, x3, p4, n4, c4, rfl⟩ := hru.ints)
  refine D4 ?_
  refine zf5 ?_
  (exact Y8.mk hru (fun h => ⟨by obtain rfl := A5a ha zO0; rw [cmp], by obtain rfl := A5a ha zO0; exact hun.2 (B2Z hb (A5d h))⟩))
def A6L (t : TH) : Prop := ∀ (G : IM) (cells : List Value) (A : GT), ST D1 t A → t.val = false → t.nk → D3 G t.nt cells → Fn prog 84 [.agg ⟨cells⟩] [] G (P6 t.stp)
theorem B9D (c : GK) (e : TH) (G : IM) (cells : List Value) (A : GT) (hT : ST D1 (.conv c e) A) (hnk : e.nk) (ih : A6L e) (hr : D3 G (TH.conv c e).nt cells) : Fn prog 138 [.agg ⟨cells⟩] [] G (P6 (TH.conv c e).stp) := by
 obtain ⟨B, hTe, hTc⟩ := A0K hT
 obtain ⟨ck, ctg, clb, cks, hc⟩ := A1Z c
 obtain ⟨ek, enm, enum, eck, ectg, eclb, ecks, eks, he⟩ := A1t e
 rw [TH.nt, hc] at hr
 obtain ⟨tk, tks, fk, fks, lb, pt, ct, pf, cf, p0, c0, pc, cc, p, cp, es, rfl, hnd, hco, hn3, h14, hsl, hkl⟩ := hr.open14
 obtain ⟨bx, ox, e0, rfl, hel, heo, hat, hre, _, hgb⟩ := hsl.kidR hkl (i := 0) zP0 zP0
 replace hre : D3 G e.nt e0 := hre
 have hPl := (A8I e).1 G e0 hre
 have hcv := fun (h : ek = 14) => @A33 e enm enum (.mk eck ectg eclb ecks) eks (by rw [← h]; exact he)
 have hnc := fun (h : ek ≠ 14) => A3m he h
 have hIO := fun (h1 : e.cnv = false) (h2 : e.pln = false) => ih G e0 B hTe (by
  cases hv : e.val with
  | false => rfl
  | true => rw [A0U hv h1] at h2; cases h2) hnk hre
 have hre0 := hre
 rw [he] at hre
 obtain ⟨tk1, tks1, fk1, fks1, lb1, pt1, ct1, pf1, cf1, p01, c01, pc1, cc1, p1, cp1, es1, rfl, hnd1, hco1, hn31, h141, hsl1, hkl1⟩ := hre.open14
 rw [← hc] at hco
 refine C4 func138 rfl ntmps138 results138 rfl ?_
 intro w0
 refine A5 ?_
 refine zf2 (fun b3 => ?_)
 refine zf1 (fun b4 => ?_)
 refine D4 ?_
 (have hg : True := trivial; refine sP (B2 (j := 0) rfl rfl rfl zP0) rfl rfl ?_)
 refine sL (A3 rfl rfl (hat _) rfl) rfl rfl ?_
 refine zf1 (fun b15 => ?_)
 refine E1 ?_
 refine zf0 (fun h25 => ?_) (fun h25 => ?_)
 refine E1 ?_
 (obtain ⟨d, u, rfl, rfl, hE⟩ := hcv zO0; obtain ⟨X, hTu, hTd⟩ := A0K hTe; rw [hE] at hco1; obtain ⟨bu, ou, e2, rfl, hul, huo, hat2, hru, _, hgb2⟩ := hsl1.kidR hkl1 (i := 0) zP0 zP0; replace hru : D3 G u.nt e2 := hru; refine H6 rfl (B9C _ d c (Nat.le_refl _) G _ _ hco1 hco) rfl rfl (fun v G1 hle1 hh => ?_); obtain ⟨uc, n1, bo1, rfl, hrc, hu1⟩ := hh; obtain ⟨rfl, rfl⟩ := hu1 ⟨_, _, _, hTd, hTc⟩; obtain ⟨x1, x2, x3, p4, n4, c4, rfl⟩ := hrc.ints)
 refine B5 ?_
 refine zf1 (fun b39 => ?_)
 refine K1 ?_
 refine zf6 ?_
 refine xx3 0 1 2 ?_
 refine aL 3 rfl (A3 rfl rfl (At.moS hle1 (hat2 [])) hul) rfl ?_
 refine xx1 4 ?_
 refine A2 5 ?_
 (refine E6 rfl rfl (A2B u.nt _ G1 _ _ (hru.mono hle1) hrc) rfl rfl rfl (fun v G2 hle2 hh => ?_); obtain ⟨vc, rfl, hrv⟩ := hh; have hvl := hrv.len; have hvo := hrv.one)
 refine A2 6 ?_
 (refine oS rfl rfl rfl rfl hvl hvo rfl rfl ?_ (hu := by exact E0 hvl.symm))
 refine xx2 7 8 ?_
 refine B6 ?_
 refine E5 (rC rfl (A3 rfl rfl (B9 zG0) hvl)) (rT rfl) (rT rfl) ?_
 (exact P6.ok (t := .conv (cmp d c) u) (by rw [TH.stp, A5J (hTd.fit hTc)]) hrv)
 refine E1 ?_
 focus (have hcn := hnc zO0; cases hpp : e.pln; all_goals (rw [hpp] at hPl; refine F0 rfl hPl rfl rfl ?_))
 refine B8 ?_
 (refine H6 rfl (hIO hcn hpp) rfl rfl (fun v G1 hle1 hh => ?_); obtain ⟨wc, n1, rfl, hrw, hn1⟩ := hh; have hwl := hrw.len; have hwo := hrw.one)
 refine B6 ?_
 refine zf1 (fun b95 => ?_)
 refine sS rfl rfl rfl hwl hwo rfl ?_ (hu := by exact E0 hwl.symm)
 refine A7 ?_
 refine sL (A3 rfl rfl (B9 zG0) hwl) rfl rfl ?_
 refine A5 ?_
 (refine H6 rfl (A2B n1 _ G1 _ _ hrw (hco.mono hle1)) rfl rfl (fun v G2 hle2 hh => ?_); obtain ⟨vc, rfl, hrv⟩ := hh; have hvl := hrv.len; have hvo := hrv.one)
 refine A5 ?_
 refine sS rfl rfl rfl hvl hvo rfl ?_ (hu := by exact E0 hvl.symm)
 refine A7 ?_
 refine E5 (rC rfl (A3 rfl rfl (B9 zG0) hvl)) (rT rfl) (rT rfl) ?_
 (exact P6.mk (by rw [TH.stp, Y6 hcn, if_pos hpp]; rfl) (by rw [TH.stp, Y6 hcn, if_pos hpp]; rfl) hrv (fun h => by rw [TH.stp, Y6 hcn, if_pos hpp] at h ⊢; rw [hn1 h]; rfl))
 refine K5 ?_
 refine C2 (tS (tR (sB (qE rfl rfl) rfl rfl (fun h135 => ?_) (fun h135 => ?_))))
 refine K1 ?_
 refine zf15 ?_
 (exact P6.ok (t := e) (by rw [TH.stp, Y6 hcn, if_neg (by rw [hpp]; decide), B29 hc zO0]) hre0)
 refine A7 ?_
 refine zf0 (fun h159 => ?_) (fun h159 => ?_)
 refine B1 ?_
 refine zf6 ?_
 refine xx4 0 1 2 3 ?_
 refine A2 4 ?_
 refine E9 rfl ?_
 refine xx2 5 6 ?_
 refine B1 ?_
 refine zf15 ?_
 (exact P6.mk (by rw [TH.stp, Y6 hcn, if_neg (by rw [hpp]; decide), A4f hc zO0]) (by rw [TH.stp, Y6 hcn, if_neg (by rw [hpp]; decide), A4f hc zO0]) (A56 _) (by rw [TH.stp, Y6 hcn, if_neg (by rw [hpp]; decide), A4f hc zO0]; intro h; simp at h))
 refine L9 ?_
 refine zf15 ?_
 (exact P6.mk (by rw [TH.stp, Y6 hcn, if_neg (by rw [hpp]; decide), A4g hc zO0 zO0]) (by rw [TH.stp, Y6 hcn, if_neg (by rw [hpp]; decide), A4g hc zO0 zO0]) (A56 _) (by rw [TH.stp, Y6 hcn, if_neg (by rw [hpp]; decide), A4g hc zO0 zO0]; intro h; simp at h))
theorem A8L {t u : Nt} {k num : Int} {nm : ByteArray} {tk fk lb : Int} {tks fks : List Ty} {pt pf p0 : Option Addr} {ct cf c0 : Nat} {v1 v2 v3 v4 v5 v6 v7 v8 v9 w1 w2 w3 w4 w5 x1 x2 x3 x4 x5 x6 x7 x8 x9 y1 y2 y3 y4 y5 : Value} {p : Option Addr} {cp : Nat}
  (hnd : B7 G (.mk k nm num (.mk tk tks) (.mk fk fks) lb []) [.int .i64 k, .string nm, .int .i64 num, .int .i64 tk, .slice pt tks.length ct, .int .i64 fk, .slice pf fks.length cf, .int .i64 lb, .slice p0 0 c0]) (hk4 : k ≠ 14) (h : D3 G t [v1, v2, v3, v4, v5, v6, v7, v8, v9, w1, w2, w3, w4, w5]) (h' : D3 G u [x1, x2, x3, x4, x5, x6, x7, x8, x9, y1, y2, y3, y4, y5])
  (hs : Sl G p 2 cp 14 [v1, v2, v3, v4, v5, v6, v7, v8, v9, w1, w2, w3, w4, w5, x1, x2, x3, x4, x5, x6, x7, x8, x9, y1, y2, y3, y4, y5]) :
  D3 G (.mk k nm num I5 [t, u]) [.int .i64 k, .string nm, .int .i64 num, .int .i64 tk, .slice pt tks.length ct, .int .i64 fk, .slice pf fks.length cf, .int .i64 lb, .slice p0 0 c0, .int .i64 0, .int .i64 0, .int .i64 0, .slice none 0 0, .slice p 2 cp] :=
 D3.put' (us := [t, u]) (es := [[v1, v2, v3, v4, v5, v6, v7, v8, v9, w1, w2, w3, w4, w5], [x1, x2, x3, x4, x5, x6, x7, x8, x9, y1, y2, y3, y4, y5]]) hnd (A09 G) zP0 (fun h => absurd h hk4) rfl (D7.of hs rfl (by intro x hx; simp only [List.mem_cons, List.not_mem_nil, or_false] at hx; rcases hx with rfl | rfl <;> rfl) zU) (KR.cons h (KR.cons h' KR.nil))
theorem B3G {t : Nt} {k num : Int} {nm : ByteArray} {tk fk lb : Int} {tks fks : List Ty} {pt pf p0 : Option Addr} {ct cf c0 : Nat} {v1 v2 v3 v4 v5 v6 v7 v8 v9 w1 w2 w3 w4 w5 : Value} {p : Option Addr} {cp : Nat}
  (hnd : B7 G (.mk k nm num (.mk tk tks) (.mk fk fks) lb []) [.int .i64 k, .string nm, .int .i64 num, .int .i64 tk, .slice pt tks.length ct, .int .i64 fk, .slice pf fks.length cf, .int .i64 lb, .slice p0 0 c0]) (h : D3 G t [v1, v2, v3, v4, v5, v6, v7, v8, v9, w1, w2, w3, w4, w5]) (hs : Sl G p 1 cp 14 [v1, v2, v3, v4, v5, v6, v7, v8, v9, w1, w2, w3, w4, w5]) :
  D3 G (.mk k nm num I5 [t]) [.int .i64 k, .string nm, .int .i64 num, .int .i64 tk, .slice pt tks.length ct, .int .i64 fk, .slice pf fks.length cf, .int .i64 lb, .slice p0 0 c0, .int .i64 0, .int .i64 0, .int .i64 0, .slice none 0 0, .slice p 1 cp] :=
 D3.put' (us := [t]) (es := [[v1, v2, v3, v4, v5, v6, v7, v8, v9, w1, w2, w3, w4, w5]]) hnd (A09 G) zP0 (fun _ => rfl) rfl (D7.of hs rfl (by intro x hx; obtain rfl := List.mem_singleton.1 hx; rfl) (by intro x hx; obtain rfl := List.mem_singleton.1 hx; exact h.one)) (KR.cons h KR.nil)
theorem B3H (m n : Int) (a1 a2 b1 b2 : Ty) (l1 l2 : Int) : W4 7 C5 C5 0 [.mk 2 ⟨⟨[]⟩⟩ m a1 a2 l1 [], .mk 2 ⟨⟨[]⟩⟩ n b1 b2 l2 []] = (A2q ((m + n) % 1000), 1, 0) := by
 unfold W4; rw [if_neg zN0, if_pos zN0]; rfl
theorem B3I (m n : Int) (a1 a2 b1 b2 : Ty) (l1 l2 : Int) : W4 8 C5 C5 0 [.mk 2 ⟨⟨[]⟩⟩ m a1 a2 l1 [], .mk 2 ⟨⟨[]⟩⟩ n b1 b2 l2 []] = (U3 (m < n), 1, 0) := by
 unfold W4; rw [if_neg zN0, if_pos zN0]; rfl
def RdP (t : TH) : IM → Value → List A9 → Prop := M3 fun G' v => ∃ cells, v = .tuple ⟨[.agg ⟨cells⟩, .int .i64 1]⟩ ∧ D3 G' t.nt cells
variable {t : TH}
theorem RdP.ok {u : TH} {cells : List Value} {c : Int} {r : A0k} (h : r = (u, c, l)) (ht : r.1 = t) (hr : D3 G u.nt cells) : RdP t G (.tuple ⟨[.agg ⟨cells⟩, .int .i64 1]⟩) [] := by
 subst h; subst ht; exact ⟨rfl, cells, rfl, hr⟩
theorem B9E (t : TH) (G : IM) (cells : List Value) (A : GT) (hT : ST D1 t A) (hcn : t.cnv = false) (hv : t.val = false) (hnk : t.nk) (hall : ∀ j, j < t.cnt → (h : j < t.kids.length) → t.kids[j].val = true) (h9 : t.nt.k ≠ 9) (hr : D3 G t.nt cells) : Fn prog 139 [.agg ⟨cells⟩] [] G (RdP t.stp.1) := by
 have hone : True := trivial
 obtain ⟨k, nm, num, ck, ctg, clb, cks, ks, ht⟩ := A1t t
 have hkl0 : 0 < ks.length := by
  rw [A6E ht, List.length_map]
  rcases A11 hT hcn hv hall with ⟨x, B, e, w, rfl, _⟩ | ⟨c9, d9, x, B, e, w, rfl, _⟩ | ⟨s, m, n, rfl, _⟩ | ⟨s, x, y, rfl, _⟩ | ⟨s, a, b, rfl, _⟩ | ⟨s, c9, d9, a, b, rfl, _⟩ <;> simp [TH.kids]
 rw [ht] at hr
 obtain ⟨tk, tks, fk, fks, lb, pt, ct, pf, cf, p0, c0, pc, cc, p, c, es, rfl, hnd, hco, hn3, h14, hsl, hkl⟩ := hr.open14
 refine C4 func139 rfl ntmps139 results139 rfl ?_
 intro w0
 refine tS ?_
 (have hone2 := hone; clear hone; have hone3 : True := trivial; obtain ⟨b0, o0, e0, rfl, hl0, ho0, hat0, hre0, _, hgb0⟩ := hsl.kidR hkl (i := 0) zO0 zO0; refine tR ?_)
 refine zf2 (fun b3 => ?_)
 refine zf1 (fun b4 => ?_)
 refine B8 ?_
 refine sP (B2 (j := 0) rfl rfl rfl zO0) rfl rfl ?_
 refine sL (A3 rfl rfl (hat0 _) hl0) rfl rfl ?_
 refine zf1 (fun b14 => ?_)
 refine Y2 rfl rfl rfl zL0 zL0 rfl zC0 (by exact E0 (by symm; assumption)) ?_
 refine I9 ?_
 refine C2 (tS (tR (sB (qE rfl rfl) rfl rfl (fun h29 => ?_) (fun h29 => ?_))))
 refine A7 ?_
 focus (have hz : k = 6 := zO0; have hone4 := hone3; clear hone3; have hA := A11 hT hcn hv hall; clear hall; rcases hA with ⟨x, B, e, w, rfl, hst⟩ | ⟨c9, d9, x, B, e, w, rfl, hst⟩ | ⟨s, m, n, rfl, hst⟩ | ⟨s, x, y, rfl, hst⟩ | ⟨s, a, b, rfl, hst⟩ | ⟨s, c9, d9, a, b, rfl, hst⟩; (all_goals (first | exact zk9 | (cases s <;> exact zk9)| skip)); simp only [TH.nt, I5, Nt.mk.injEq, Cn.mk.injEq, if_true, Bool.false_eq_true, if_false] at ht; obtain ⟨rfl, rfl, rfl, ⟨rfl, rfl, rfl, rfl⟩, rfl⟩ := ht; have hq1 : True := trivial; replace hre0 : D3 G (.mk 5 x 0 (.mk 0 0 0 []) [e.nt]) e0 := hre0; obtain ⟨_, _, e1, hE1, hl1, ho1, hat1, hre1, _, hgb1⟩ := hsl.kidR hkl (i := 1) zP0 zP0; cases hE1; replace hre1 : D3 G w.nt e1 := hre1; obtain ⟨tkA, tksA, fkA, fksA, lbA, ptA, ctA, pfA, cfA, p0A, c0A, pcA, ccA, pA, cA, esA, rfl, hndA, hcoA, _, _, hslA, hklA⟩ := hre0.open14; obtain ⟨b2, o2, e2, rfl, hl2, ho2, hat2, hre2, _, hgb2⟩ := hslA.kidR hklA (i := 0) zP0 zP0; replace hre2 : D3 G e.nt e2 := hre2; rotate_left; simp only [TH.nt, I5, Nt.mk.injEq, Cn.mk.injEq, if_true, Bool.false_eq_true, if_false] at ht; obtain ⟨rfl, rfl, rfl, ⟨rfl, rfl, rfl, rfl⟩, rfl⟩ := ht; have hq2 : True := trivial; replace hre0 : D3 G (.mk 14 ⟨⟨[]⟩⟩ 0 (.mk 2 0 0 [c9.cn, d9.cn]) [(.mk 5 x 0 (.mk 0 0 0 []) [e.nt])]) e0 := hre0; obtain ⟨_, _, e1, hE1, hl1, ho1, hat1, hre1, _, hgb1⟩ := hsl.kidR hkl (i := 1) zP0 zP0; cases hE1; replace hre1 : D3 G w.nt e1 := hre1; have hre0' := hre0; obtain ⟨tkA, tksA, fkA, fksA, lbA, ptA, ctA, pfA, cfA, p0A, c0A, pcA, ccA, pA, cA, esA, rfl, hndA, hcoA, _, _, hslA, hklA⟩ := hre0.open14; obtain ⟨b2, o2, e2, rfl, hl2, ho2, hat2, hre2, _, hgb2⟩ := hslA.kidR hklA (i := 0) zP0 zP0; replace hre2 : D3 G (.mk 5 x 0 (.mk 0 0 0 []) [e.nt]) e2 := hre2; have hre2' := hre2; obtain ⟨tkB, tksB, fkB, fksB, lbB, ptB, ctB, pfB, cfB, p0B, c0B, pcB, ccB, pB, cB, esB, rfl, hndB, hcoB, _, _, hslB, hklB⟩ := hre2.open14; obtain ⟨_, _, esc, hEc, _, _, _, _, _, _, hslc, hklc⟩ := hcoA.open4; cases hEc; obtain ⟨b3, o3, e3, rfl, hl3, ho3, hat3, hre3, _, hgb3⟩ := hslc.kidR hklc (i := 0) zP0 zP0; replace hre3 : H3 G c9.cn e3 := hre3; obtain ⟨_, _, e4, hE4, hl4, ho4, hat4, hre4, _, hgb4⟩ := hslc.kidR hklc (i := 1) zP0 zP0; cases hE4; replace hre4 : H3 G d9.cn e4 := hre4; rotate_left)
 refine B6 ?_
 refine zf12 ?_
 refine B6 ?_
 refine zf6 ?_
 refine xx11 0 1 2 3 4 5 6 7 8 9 10 ?_
 refine A2 11 ?_
 (refine E6 rfl rfl (B9v x w.nt e1 e.nt G e2 hre2 hre1) rfl rfl rfl (fun v G1 hle1 hh => ?_); obtain ⟨vc, rfl, hrv⟩ := hh; have hvl := hrv.len; have hvo := hrv.one)
 refine A2 12 ?_
 (refine oS rfl rfl rfl rfl hvl hvo rfl rfl ?_ (hu := by exact E0 hvl.symm))
 refine xx1 13 ?_
 refine A7 ?_
 refine F4 (rC rfl (A3 rfl rfl (B9 zG0) hvl)) (rT rfl) ?_
 (have hq := hq1; exact RdP.ok (u := e.sub x w) hst rfl (by rw [B05]; exact hrv))
 refine B6 ?_
 refine zf11 ?_
 refine I9 ?_
 refine zf12 ?_
 refine B6 ?_
 refine zf12 ?_
 refine B1 ?_
 refine zf6 ?_
 refine xx15 0 1 2 3 4 5 6 7 8 9 10 11 12 13 14 ?_
 refine N5 (j := 15) (j' := 18) zM0 ?_ ?_
 (have hq := hq2; clear hq2; refine E6 rfl rfl (A2B w.nt c9.cn G _ _ hre1 hre3) rfl rfl rfl (fun v G1 hle1 hh => ?_); obtain ⟨vc, rfl, hrw⟩ := hh; have hwl := hrw.len; have hwo := hrw.one; obtain ⟨v1, v2, v3, v4, v5, v6, v7, v8, v9, u1, u2, u3, u4, u5, rfl⟩ := A1p hwl; have hq7 : True := trivial)
 refine N5 (j := 16) (j' := 18) zM0 ?_ ?_
 refine zf3 (fun b116 => ?_)
 refine xx1 17 ?_
 refine A2 18 ?_
 refine zf10 (fun b119 => ?_)
 exact y46
 refine zf10 (fun b144 => ?_)
 refine A2 16 ?_
 refine zf3 (fun b146 => ?_)
 refine xx1 17 ?_
 exact y46
 refine zf10 (fun b172 => ?_)
 refine A2 15 ?_
 (have hq := hq2; clear hq2; refine E6 rfl rfl (A2B w.nt c9.cn G _ _ hre1 hre3) rfl rfl rfl (fun v G1 hle1 hh => ?_); obtain ⟨vc, rfl, hrw⟩ := hh; have hwl := hrw.len; have hwo := hrw.one; obtain ⟨v1, v2, v3, v4, v5, v6, v7, v8, v9, u1, u2, u3, u4, u5, rfl⟩ := A1p hwl; have hq7 : True := trivial)
 refine A2 16 ?_
 refine zf3 (fun b176 => ?_)
 refine xx1 17 ?_
 exact y46
 refine B8 ?_
 refine zf0 (fun h209 => ?_) (fun h209 => ?_)
 refine D4 ?_
 focus (have hz : k = 11 := zO0; have hone4 := hone3; clear hone3; have hA := A11 hT hcn hv hall; clear hall; rcases hA with ⟨x, B, e, w, rfl, hst⟩ | ⟨c9, d9, x, B, e, w, rfl, hst⟩ | ⟨s, m, n, rfl, hst⟩ | ⟨s, x, y, rfl, hst⟩ | ⟨s, a, b, rfl, hst⟩ | ⟨s, c9, d9, a, b, rfl, hst⟩; (all_goals (first | exact zk9 | (cases s <;> exact zk9)| skip)); cases s; (all_goals (first | exact zk9 | skip)); simp only [TH.nt, I5, Nt.mk.injEq, Cn.mk.injEq, if_true, Bool.false_eq_true, if_false] at ht; obtain ⟨rfl, rfl, rfl, ⟨rfl, rfl, rfl, rfl⟩, rfl⟩ := ht; have hq5 : True := trivial; replace hre0 : D3 G (.mk 10 ⟨⟨[]⟩⟩ 0 (.mk 0 0 0 []) [a.nt, b.nt]) e0 := hre0; obtain ⟨tkA, tksA, fkA, fksA, lbA, ptA, ctA, pfA, cfA, p0A, c0A, pcA, ccA, pA, cA, esA, rfl, hndA, hcoA, _, _, hslA, hklA⟩ := hre0.open14; obtain ⟨b1, o1, e1, rfl, hl1, ho1, hat1, hre1, _, hgb1⟩ := hslA.kidR hklA (i := 0) zP0 zP0; replace hre1 : D3 G a.nt e1 := hre1; obtain ⟨_, _, e2, hE2, hl2, ho2, hat2, hre2, _, hgb2⟩ := hslA.kidR hklA (i := 1) zP0 zP0; cases hE2; replace hre2 : D3 G b.nt e2 := hre2; rotate_left; cases s; (all_goals (first | exact zk9 | skip)); simp only [TH.nt, I5, Nt.mk.injEq, Cn.mk.injEq, if_true, Bool.false_eq_true, if_false] at ht; obtain ⟨rfl, rfl, rfl, ⟨rfl, rfl, rfl, rfl⟩, rfl⟩ := ht; have hq6 : True := trivial; replace hre0 : D3 G (.mk 14 ⟨⟨[]⟩⟩ 0 (.mk 3 0 0 [c9.cn, d9.cn]) [(.mk 10 ⟨⟨[]⟩⟩ 0 (.mk 0 0 0 []) [a.nt, b.nt])]) e0 := hre0; have hre0' := hre0; obtain ⟨tkA, tksA, fkA, fksA, lbA, ptA, ctA, pfA, cfA, p0A, c0A, pcA, ccA, pA, cA, esA, rfl, hndA, hcoA, _, _, hslA, hklA⟩ := hre0.open14; obtain ⟨b2, o2, e2, rfl, hl2, ho2, hat2, hre2, _, hgb2⟩ := hslA.kidR hklA (i := 0) zP0 zP0; replace hre2 : D3 G (.mk 10 ⟨⟨[]⟩⟩ 0 (.mk 0 0 0 []) [a.nt, b.nt]) e2 := hre2; have hre2' := hre2; obtain ⟨tkB, tksB, fkB, fksB, lbB, ptB, ctB, pfB, cfB, p0B, c0B, pcB, ccB, pB, cB, esB, rfl, hndB, hcoB, _, _, hslB, hklB⟩ := hre2.open14; obtain ⟨_, _, esc, hEc, _, _, _, _, _, _, hslc, hklc⟩ := hcoA.open4; cases hEc; obtain ⟨b3, o3, e3, rfl, hl3, ho3, hat3, hre3, _, hgb3⟩ := hslc.kidR hklc (i := 0) zP0 zP0; replace hre3 : H3 G c9.cn e3 := hre3; obtain ⟨_, _, e4, hE4, hl4, ho4, hat4, hre4, _, hgb4⟩ := hslc.kidR hklc (i := 1) zP0 zP0; cases hE4; replace hre4 : H3 G d9.cn e4 := hre4; rotate_left)
 refine B6 ?_
 refine zf14 ?_
 refine E1 ?_
 refine zf12 ?_
 refine D4 ?_
 refine zf18 ?_
 refine sL (A3 rfl rfl (hat1 _) hl1) rfl rfl ?_
 refine sS rfl rfl rfl hl1 ho1 rfl ?_ (hu := by exact E0 hl1.symm)
 refine B8 ?_
 refine F4 (rC rfl (A3 rfl rfl (B9 zG0) hl1)) (rT rfl) ?_
 (exact RdP.ok (u := a) hst rfl hre1)
 refine B6 ?_
 refine zf14 ?_
 refine E1 ?_
 refine zf11 ?_
 refine I9 ?_
 refine zf12 ?_
 refine B6 ?_
 refine zf12 ?_
 refine B1 ?_
 refine zf6 ?_
 refine xx12 0 1 2 3 4 5 8 9 10 11 12 13 ?_
 refine A2 6 ?_
 refine zf3 (fun b304 => ?_)
 refine xx1 7 ?_
 refine A2 14 ?_
 (have hq := hq6; refine A0c (cs := [.int .i64 10, .string ⟨⟨[]⟩⟩, .int .i64 0, .int .i64 tkB, .slice ptB tksB.length ctB, .int .i64 fkB, .slice pfB fksB.length cfB, .int .i64 lbB, .slice p0B 0 c0B, .int .i64 0, .int .i64 0, .int .i64 0, .slice pcB 0 ccB, .slice pB 2 cB]) zB0 (fun G1 hle1 hsl2 hno2 => ?_); have hrN := B3G (hnd.mono hle1) (hre2'.mono hle1) hsl2; refine E6 rfl rfl (A2B _ c9.cn G1 _ _ hrN (hre3.mono hle1)) rfl rfl rfl (fun v G3 hle3 hh => ?_); obtain ⟨vc, rfl, hrv⟩ := hh; have hvl := hrv.len; have hvo := hrv.one)
 refine A2 15 ?_
 (refine oS rfl rfl rfl rfl hvl hvo rfl rfl ?_ (hu := by exact E0 hvl.symm))
 refine xx1 16 ?_
 refine B1 ?_
 refine F4 (rC rfl (A3 rfl rfl (B9 zG0) hvl)) (rT rfl) ?_
 (have hq := hq6; exact RdP.ok (u := .conv c9 (.part false (.pair a b))) hst rfl hrv)
 refine B1 ?_
 refine zf0 (fun h323 => ?_) (fun h323 => ?_)
 refine B1 ?_
 focus (have hz : k = 12 := zO0; have hone4 := hone3; clear hone3; have hA := A11 hT hcn hv hall; clear hall; rcases hA with ⟨x, B, e, w, rfl, hst⟩ | ⟨c9, d9, x, B, e, w, rfl, hst⟩ | ⟨s, m, n, rfl, hst⟩ | ⟨s, x, y, rfl, hst⟩ | ⟨s, a, b, rfl, hst⟩ | ⟨s, c9, d9, a, b, rfl, hst⟩; (all_goals (first | exact zk9 | (cases s <;> exact zk9)| skip)); cases s; (all_goals (first | exact zk9 | skip)); simp only [TH.nt, I5, Nt.mk.injEq, Cn.mk.injEq, if_true, Bool.false_eq_true, if_false] at ht; obtain ⟨rfl, rfl, rfl, ⟨rfl, rfl, rfl, rfl⟩, rfl⟩ := ht; have hq5 : True := trivial; replace hre0 : D3 G (.mk 10 ⟨⟨[]⟩⟩ 0 (.mk 0 0 0 []) [a.nt, b.nt]) e0 := hre0; obtain ⟨tkA, tksA, fkA, fksA, lbA, ptA, ctA, pfA, cfA, p0A, c0A, pcA, ccA, pA, cA, esA, rfl, hndA, hcoA, _, _, hslA, hklA⟩ := hre0.open14; obtain ⟨b1, o1, e1, rfl, hl1, ho1, hat1, hre1, _, hgb1⟩ := hslA.kidR hklA (i := 0) zP0 zP0; replace hre1 : D3 G a.nt e1 := hre1; obtain ⟨_, _, e2, hE2, hl2, ho2, hat2, hre2, _, hgb2⟩ := hslA.kidR hklA (i := 1) zP0 zP0; cases hE2; replace hre2 : D3 G b.nt e2 := hre2; rotate_left; cases s; (all_goals (first | exact zk9 | skip)); simp only [TH.nt, I5, Nt.mk.injEq, Cn.mk.injEq, if_true, Bool.false_eq_true, if_false] at ht; obtain ⟨rfl, rfl, rfl, ⟨rfl, rfl, rfl, rfl⟩, rfl⟩ := ht; have hq6 : True := trivial; replace hre0 : D3 G (.mk 14 ⟨⟨[]⟩⟩ 0 (.mk 3 0 0 [c9.cn, d9.cn]) [(.mk 10 ⟨⟨[]⟩⟩ 0 (.mk 0 0 0 []) [a.nt, b.nt])]) e0 := hre0; have hre0' := hre0; obtain ⟨tkA, tksA, fkA, fksA, lbA, ptA, ctA, pfA, cfA, p0A, c0A, pcA, ccA, pA, cA, esA, rfl, hndA, hcoA, _, _, hslA, hklA⟩ := hre0.open14; obtain ⟨b2, o2, e2, rfl, hl2, ho2, hat2, hre2, _, hgb2⟩ := hslA.kidR hklA (i := 0) zP0 zP0; replace hre2 : D3 G (.mk 10 ⟨⟨[]⟩⟩ 0 (.mk 0 0 0 []) [a.nt, b.nt]) e2 := hre2; have hre2' := hre2; obtain ⟨tkB, tksB, fkB, fksB, lbB, ptB, ctB, pfB, cfB, p0B, c0B, pcB, ccB, pB, cB, esB, rfl, hndB, hcoB, _, _, hslB, hklB⟩ := hre2.open14; obtain ⟨_, _, esc, hEc, _, _, _, _, _, _, hslc, hklc⟩ := hcoA.open4; cases hEc; obtain ⟨b3, o3, e3, rfl, hl3, ho3, hat3, hre3, _, hgb3⟩ := hslc.kidR hklc (i := 0) zP0 zP0; replace hre3 : H3 G c9.cn e3 := hre3; obtain ⟨_, _, e4, hE4, hl4, ho4, hat4, hre4, _, hgb4⟩ := hslc.kidR hklc (i := 1) zP0 zP0; cases hE4; replace hre4 : H3 G d9.cn e4 := hre4; rotate_left)
 refine B6 ?_
 refine zf14 ?_
 refine E1 ?_
 refine zf12 ?_
 refine D4 ?_
 refine zf21 ?_
 refine sL (A3 rfl rfl (hat2 _) hl2) rfl rfl ?_
 refine sS rfl rfl rfl hl2 ho2 rfl ?_ (hu := by exact E0 hl2.symm)
 refine B8 ?_
 refine F4 (rC rfl (A3 rfl rfl (B9 zG0) hl2)) (rT rfl) ?_
 (exact RdP.ok (u := b) hst rfl hre2)
 refine B6 ?_
 refine zf14 ?_
 refine E1 ?_
 refine zf11 ?_
 refine I9 ?_
 refine zf12 ?_
 refine B6 ?_
 refine zf12 ?_
 refine B1 ?_
 refine zf6 ?_
 refine xx11 0 1 2 3 4 5 8 9 10 11 12 ?_
 refine aL 13 rfl (A3 rfl rfl (hat4 _) hl4) rfl ?_
 refine A2 6 ?_
 refine zf3 (fun b415 => ?_)
 refine xx1 7 ?_
 refine A2 14 ?_
 (have hq := hq6; refine A0c (cs := [.int .i64 10, .string ⟨⟨[]⟩⟩, .int .i64 0, .int .i64 tkB, .slice ptB tksB.length ctB, .int .i64 fkB, .slice pfB fksB.length cfB, .int .i64 lbB, .slice p0B 0 c0B, .int .i64 0, .int .i64 0, .int .i64 0, .slice pcB 0 ccB, .slice pB 2 cB]) zB0 (fun G1 hle1 hsl2 hno2 => ?_); have hrN := B3G (hnd.mono hle1) (hre2'.mono hle1) hsl2; refine E6 rfl rfl (A2B _ d9.cn G1 _ _ hrN (hre4.mono hle1)) rfl rfl rfl (fun v G3 hle3 hh => ?_); obtain ⟨vc, rfl, hrv⟩ := hh; have hvl := hrv.len; have hvo := hrv.one)
 refine A2 15 ?_
 (refine oS rfl rfl rfl rfl hvl hvo rfl rfl ?_ (hu := by exact E0 hvl.symm))
 refine xx1 16 ?_
 refine B1 ?_
 refine F4 (rC rfl (A3 rfl rfl (B9 zG0) hvl)) (rT rfl) ?_
 (have hq := hq6; exact RdP.ok (u := .conv d9 (.part true (.pair a b))) hst rfl hrv)
 refine B8 ?_
 refine zf0 (fun h436 => ?_) (fun h436 => ?_)
 refine D4 ?_
 focus (have hz : k = 7 := zO0; have hone4 := hone3; clear hone3; have hA := A11 hT hcn hv hall; clear hall; rcases hA with ⟨x, B, e, w, rfl, hst⟩ | ⟨c9, d9, x, B, e, w, rfl, hst⟩ | ⟨s, m, n, rfl, hst⟩ | ⟨s, x, y, rfl, hst⟩ | ⟨s, a, b, rfl, hst⟩ | ⟨s, c9, d9, a, b, rfl, hst⟩; (all_goals (first | exact zk9 | (cases s <;> exact zk9)| skip)); cases s; (all_goals (first | exact zk9 | skip)); simp only [TH.nt, I5, Nt.mk.injEq, Cn.mk.injEq, if_true, Bool.false_eq_true, if_false] at ht; obtain ⟨rfl, rfl, rfl, ⟨rfl, rfl, rfl, rfl⟩, rfl⟩ := ht; have hq3 : True := trivial; replace hre0 : D3 G (.mk 2 ⟨⟨[]⟩⟩ m (.mk 0 0 0 []) []) e0 := hre0; obtain ⟨_, _, e1, hE1, hl1, ho1, hat1, hre1, _, hgb1⟩ := hsl.kidR hkl (i := 1) zP0 zP0; cases hE1; replace hre1 : D3 G (.mk 2 ⟨⟨[]⟩⟩ n (.mk 0 0 0 []) []) e1 := hre1; obtain ⟨tkA, tksA, fkA, fksA, lbA, ptA, ctA, pfA, cfA, p0A, c0A, pcA, ccA, pA, cA, esA, rfl, hndA, hcoA, _, _, hslA, hklA⟩ := hre0.open14; obtain ⟨tkB, tksB, fkB, fksB, lbB, ptB, ctB, pfB, cfB, p0B, c0B, pcB, ccB, pB, cB, esB, rfl, hndB, hcoB, _, _, hslB, hklB⟩ := hre1.open14; replace hat1 := fun hp => At.pfx (l1 := [.int .i64 2, .string ⟨⟨[]⟩⟩, .int .i64 n, .int .i64 tkB, .slice ptB tksB.length ctB, .int .i64 fkB, .slice pfB fksB.length cfB, .int .i64 lbB, .slice p0B 0 c0B]) (l2 := [.int .i64 0, .int .i64 0, .int .i64 0, .slice pcB 0 ccB, .slice pB 0 cB]) (hat1 hp))
 refine zf6 ?_
 refine xx10 0 1 2 3 4 5 6 7 8 9 ?_
 refine N5 (j := 10) (j' := 15) zM0 ?_ ?_
 (have hq := hq3; have hNu := A6i 7 (.mk 2 ⟨⟨[]⟩⟩ m _ _ _ []) (.mk 2 ⟨⟨[]⟩⟩ n _ _ _ []) G _ _ zN0 hnk.1 hnk.2 hndA hndB; rw [B3H] at hNu; refine E6 rfl rfl hNu rfl rfl rfl (fun v G3 hle3 hh => ?_); obtain ⟨uc, hvv, hru⟩ := hh; replace hvv : v = .tuple ⟨[.agg ⟨uc⟩, .int .i64 1, .int .i64 0]⟩ := hvv; subst hvv; replace hru : B7 G3 (.mk 2 ⟨⟨[]⟩⟩ (HMod.hMod (m + n) 1000) (.mk 0 []) (.mk 0 []) 0 []) uc := hru; obtain ⟨ptR, ctR, pfR, cfR, pR, cR, esR, rfl, _, _, _, _, _, _, _⟩ := hru.open9; have hru2 := hru)
 refine xx4 11 12 13 14 ?_
 refine A2 15 ?_
 refine zf10 (fun b464 => ?_)
 exact y49
 refine zf10 (fun b485 => ?_)
 refine A2 10 ?_
 (have hq := hq3; have hNu := A6i 7 (.mk 2 ⟨⟨[]⟩⟩ m _ _ _ []) (.mk 2 ⟨⟨[]⟩⟩ n _ _ _ []) G _ _ zN0 hnk.1 hnk.2 hndA hndB; rw [B3H] at hNu; refine E6 rfl rfl hNu rfl rfl rfl (fun v G3 hle3 hh => ?_); obtain ⟨uc, hvv, hru⟩ := hh; replace hvv : v = .tuple ⟨[.agg ⟨uc⟩, .int .i64 1, .int .i64 0]⟩ := hvv; subst hvv; replace hru : B7 G3 (.mk 2 ⟨⟨[]⟩⟩ (HMod.hMod (m + n) 1000) (.mk 0 []) (.mk 0 []) 0 []) uc := hru; obtain ⟨ptR, ctR, pfR, cfR, pR, cR, esR, rfl, _, _, _, _, _, _, _⟩ := hru.open9; have hru2 := hru)
 refine xx4 11 12 13 14 ?_
 exact y49
 refine B1 ?_
 refine zf0 (fun h517 => ?_) (fun h517 => ?_)
 refine B1 ?_
 focus (have hz : k = 8 := zO0; have hone4 := hone3; clear hone3; have hA := A11 hT hcn hv hall; clear hall; rcases hA with ⟨x, B, e, w, rfl, hst⟩ | ⟨c9, d9, x, B, e, w, rfl, hst⟩ | ⟨s, m, n, rfl, hst⟩ | ⟨s, x, y, rfl, hst⟩ | ⟨s, a, b, rfl, hst⟩ | ⟨s, c9, d9, a, b, rfl, hst⟩; (all_goals (first | exact zk9 | (cases s <;> exact zk9)| skip)); cases s; (all_goals (first | exact zk9 | skip)); simp only [TH.nt, I5, Nt.mk.injEq, Cn.mk.injEq, if_true, Bool.false_eq_true, if_false] at ht; obtain ⟨rfl, rfl, rfl, ⟨rfl, rfl, rfl, rfl⟩, rfl⟩ := ht; have hq3 : True := trivial; replace hre0 : D3 G (.mk 2 ⟨⟨[]⟩⟩ m (.mk 0 0 0 []) []) e0 := hre0; obtain ⟨_, _, e1, hE1, hl1, ho1, hat1, hre1, _, hgb1⟩ := hsl.kidR hkl (i := 1) zP0 zP0; cases hE1; replace hre1 : D3 G (.mk 2 ⟨⟨[]⟩⟩ n (.mk 0 0 0 []) []) e1 := hre1; obtain ⟨tkA, tksA, fkA, fksA, lbA, ptA, ctA, pfA, cfA, p0A, c0A, pcA, ccA, pA, cA, esA, rfl, hndA, hcoA, _, _, hslA, hklA⟩ := hre0.open14; obtain ⟨tkB, tksB, fkB, fksB, lbB, ptB, ctB, pfB, cfB, p0B, c0B, pcB, ccB, pB, cB, esB, rfl, hndB, hcoB, _, _, hslB, hklB⟩ := hre1.open14; replace hat1 := fun hp => At.pfx (l1 := [.int .i64 2, .string ⟨⟨[]⟩⟩, .int .i64 n, .int .i64 tkB, .slice ptB tksB.length ctB, .int .i64 fkB, .slice pfB fksB.length cfB, .int .i64 lbB, .slice p0B 0 c0B]) (l2 := [.int .i64 0, .int .i64 0, .int .i64 0, .slice pcB 0 ccB, .slice pB 0 cB]) (hat1 hp))
 refine zf6 ?_
 refine xx10 0 1 2 3 4 5 6 7 8 9 ?_
 refine N5 (j := 10) (j' := 15) zM0 ?_ ?_
 (have hq := hq3; have hNu := A6i 8 (.mk 2 ⟨⟨[]⟩⟩ m _ _ _ []) (.mk 2 ⟨⟨[]⟩⟩ n _ _ _ []) G _ _ zN0 hnk.1 hnk.2 hndA hndB; rw [B3I] at hNu; refine E6 rfl rfl hNu rfl rfl rfl (fun v G3 hle3 hh => ?_); obtain ⟨uc, hvv, hru⟩ := hh; replace hvv : v = .tuple ⟨[.agg ⟨uc⟩, .int .i64 1, .int .i64 0]⟩ := hvv; subst hvv; replace hru : B7 G3 (.mk (if m < n then 3 else 4) ⟨⟨[]⟩⟩ 0 (.mk 0 []) (.mk 0 []) 0 []) uc := (by simp only [U3, A0a] at hru; exact hru); obtain ⟨ptR, ctR, pfR, cfR, pR, cR, esR, rfl, _, _, _, _, _, _, _⟩ := hru.open9; have hru2 := hru)
 refine xx4 11 12 13 14 ?_
 refine A2 15 ?_
 refine zf10 (fun b542 => ?_)
 exact y50
 refine zf10 (fun b563 => ?_)
 refine A2 10 ?_
 (have hq := hq3; have hNu := A6i 8 (.mk 2 ⟨⟨[]⟩⟩ m _ _ _ []) (.mk 2 ⟨⟨[]⟩⟩ n _ _ _ []) G _ _ zN0 hnk.1 hnk.2 hndA hndB; rw [B3I] at hNu; refine E6 rfl rfl hNu rfl rfl rfl (fun v G3 hle3 hh => ?_); obtain ⟨uc, hvv, hru⟩ := hh; replace hvv : v = .tuple ⟨[.agg ⟨uc⟩, .int .i64 1, .int .i64 0]⟩ := hvv; subst hvv; replace hru : B7 G3 (.mk (if m < n then 3 else 4) ⟨⟨[]⟩⟩ 0 (.mk 0 []) (.mk 0 []) 0 []) uc := (by simp only [U3, A0a] at hru; exact hru); obtain ⟨ptR, ctR, pfR, cfR, pR, cR, esR, rfl, _, _, _, _, _, _, _⟩ := hru.open9; have hru2 := hru)
 refine xx4 11 12 13 14 ?_
 exact y50
 refine K1 ?_
 refine zf5 ?_
 (exfalso; have hA := A11 hT hcn hv hall; rcases hA with ⟨x, B, e, w, rfl, hst⟩ | ⟨c9, d9, x, B, e, w, rfl, hst⟩ | ⟨s, m, n, rfl, hst⟩ | ⟨s, x, y, rfl, hst⟩ | ⟨s, a, b, rfl, hst⟩ | ⟨s, c9, d9, a, b, rfl, hst⟩ <;> first | (simp only [TH.nt, I5, Nt.mk.injEq, Cn.mk.injEq, if_true, Bool.false_eq_true, if_false] at ht; omega) | (cases s <;> (simp only [TH.nt, I5, Nt.mk.injEq, Cn.mk.injEq, if_true, Bool.false_eq_true, if_false] at ht; omega)) | exact absurd rfl h9)
theorem B9F {k : Int} {nm : ByteArray} {num : Int} {co : Cn} {ks : List Nt} (h : t.nt = .mk k nm num co ks) (hc : t.cnv = false) : co = I5 := by
 cases t <;> first | (simp only [TH.nt, Nt.mk.injEq] at h; exact h.2.2.2.1.symm) | cases hc
theorem B9G {t : TH} {A : GT} (hT : ST D1 t A) (hc : t.cnv = false) (hv : t.val = false) (hj : ∀ j, j < t.cnt → (h : j < t.kids.length) → t.kids[j].val = true) : t.stp.2.1 = 1 ∧ t.stp.2.2 = 0 ∧ 0 < t.cnt := by
 rcases A11 hT hc hv hj with ⟨x, B, e, w, rfl, h⟩ | ⟨c9, d9, x, B, e, w, rfl, h⟩ | ⟨s, m, n, rfl, h⟩ | ⟨s, x, y, rfl, h⟩ | ⟨s, a, b, rfl, h⟩ | ⟨s, c9, d9, a, b, rfl, h⟩ <;> (rw [h]; exact ⟨rfl, rfl, by simp [TH.cnt, TH.kids]⟩)
theorem B3J {k : Int} {nm : ByteArray} {num : Int} {co : Cn} {ks : List Nt} (h : t.nt = .mk k nm num co ks) (hk : k = 9) : ∃ c a b, t = .ite c a b := by
 cases t <;> simp only [TH.nt, Nt.mk.injEq] at h <;> first | exact ⟨_, _, _, rfl⟩ | (exfalso; omega) | (exfalso; have := h.1; split at this <;> omega)
theorem A24 (t : TH) (ih : ∀ u ∈ t.kids, A6L u) : A6L t := by
 intro G cells A hT hv hnk hr
 have hm0 : True := trivial
 have hone : True := trivial
 have hr0 := hr
 have hkn := B27 hnk
 obtain ⟨k, nm, num, ck, ctg, clb, cks, ks, ht⟩ := A1t t
 have hks := A6E ht
 have hlen : ks.length = t.kids.length := by rw [hks, List.length_map]
 have hCo : k = 14 → Fn prog 138 [.agg ⟨cells⟩] [] G (P6 t.stp) := by
  intro h
  obtain ⟨c, e, rfl, _⟩ := @A33 t nm num (.mk ck ctg clb cks) ks (by rw [← h]; exact ht)
  exact B9D c e G cells A hT hnk (ih e List.mem_cons_self) hr0
 have hnc := fun (h : k ≠ 14) => A3m ht h
 have hco0 := fun (h : k ≠ 14) => B9F ht (hnc h)
 have hcn9 := B3a ht
 obtain ⟨C, hC⟩ : ∃ C : Nat, t.cnt = C := ⟨_, rfl⟩
 have hIO : k ≠ 14 → ∀ i, i < C → (hl : i < t.kids.length) → (∀ j, j < i → (h : j < t.kids.length) → t.kids[j].val = true) → t.kids[i].val = false → A6F t i t.kids[i] ∧ ∀ (G : IM) (cs : List Value), D3 G t.kids[i].nt cs → Fn prog 84 [.agg ⟨cs⟩] [] G (P6 t.kids[i].stp) := by
  intro h i hi hl hj hn
  obtain ⟨hK, B, hB⟩ := B3b hT (hnc h) hv zO0 hl hj hn
  exact ⟨hK, fun G' cs h' => ih _ (List.getElem_mem hl) G' cs B hB hn (hkn _ (List.getElem_mem hl)) h'⟩
 have hC1 : k = 9 → C = 1 := fun h => by rw [← hC, hcn9, if_pos h]
 have hC2 : k ≠ 9 → C = ks.length := fun h => by rw [← hC, hcn9, if_neg h]
 have hC9 : C ≤ ks.length := by
  by_cases h9 : k = 9
  ·have h1 := hC1 h9
   have h2 : 1 ≤ t.kids.length := by
    obtain ⟨c, a, b, rfl⟩ := B3J ht h9
    show 1 ≤ 3
    decide
   omega
  ·exact Nat.le_of_eq (hC2 h9)
 have hnt : ∀ i, (h : i < ks.length) → (h' : i < t.kids.length) → ks[i] = t.kids[i].nt := by
  intro i h h'
  subst hks
  rw [List.getElem_map]
 have hRd := fun (h : k ≠ 14) (h9 : k ≠ 9) hall => B9E t G cells A hT (hnc h) hv hnk hall (by rw [ht]; exact h9) hr0
 have hRc := fun (h : k ≠ 14) hall => @B9G t A hT (hnc h) hv hall
 have hred := fun (h : k ≠ 14) => @A11 t A hT (hnc h) hv
 rw [hC] at hRd hRc hred
 rw [ht] at hr
 obtain ⟨tk, tks, fk, fks, lb, pt, ct, pf, cf, p0, c0, pc, cc, p, c, es, rfl, hnd, hco, hn3, hk14, hsl, hkl⟩ := hr.open14
 have hn := hsl.le
 have hnc' := hsl.sl.2.1
 have hes1 : ∀ u ∈ es.flatten, u.oneCell' = true := by
  intro u hu
  obtain ⟨e, he, hue⟩ := List.mem_flatten.1 hu
  exact List.all_eq_true.1 (hsl.one e he) u hue
 refine C4 func84 rfl ntmps84 results84 rfl ?_
 intro w0
 refine A5 ?_
 refine zf2 (fun b3 => ?_)
 refine zf1 (fun b4 => ?_)
 refine I9 ?_
 refine zf0 (fun h15 => ?_) (fun h15 => ?_)
 refine A7 ?_
 (refine H6 rfl (hCo zO0) rfl rfl (fun v G1 hle1 hh => ?_); obtain ⟨vc, n1, rfl, hrv, hn1⟩ := hh; have hvl := hrv.len; have hvo := hrv.one)
 refine B5 ?_
 refine sS rfl rfl rfl hvl hvo rfl ?_ (hu := by exact E0 hvl.symm)
 refine A7 ?_
 refine E5 (rC rfl (A3 rfl rfl (B9 zG0) hvl)) (rT rfl) (rT rfl) ?_
 (exact ⟨rfl, vc, n1, rfl, hrv, hn1⟩)
 refine A7 ?_
 (clear hm0; have hkn14 : k ≠ 14 := zO0; have hm1 : True := trivial; refine tR ?_)
 refine A7 ?_
 (clear hm1; refine tS ?_; refine P4 (fun (_ : Unit) => ⟨[(5, .int .i64 (C : Int)), (1, .pointer (some ⟨b3, 0, none⟩)), (2, .pointer (some ⟨b4, 0, none⟩))], [.blk b4 zq14, .blk b3 [.int .i64 k, .string nm, .int .i64 num, .int .i64 tk, .slice pt tks.length ct, .int .i64 fk, .slice pf fks.length cf, .int .i64 lb, .slice p0 0 c0, .int .i64 ck, .int .i64 ctg, .int .i64 clb, .slice pc cks.length cc, .slice p ks.length c]], G⟩) (fun _ => True) ?_ ?_)
 refine B1 ?_
 refine zf0 (fun h54 => ?_) (fun h54 => ?_)
 refine A7 ?_
 (have hCC := hC1 zO0; subst hCC; refine E2 () (D6 zA0 zQ) trivial)
 refine B6 ?_
 (have hCC := hC2 zO0; subst hCC; refine E2 () (D6 zA0 zQ) trivial)
 (rintro (_ : Unit) _)
 refine A7 ?_
 refine C2 ?_
 (refine K2 (fun (i : Nat) => ⟨[(6, .int .i64 (i : Int)), (5, .int .i64 (C : Int)), (1, .pointer (some ⟨b3, 0, none⟩)), (2, .pointer (some ⟨b4, 0, none⟩))], [.blk b4 zq14, .blk b3 [.int .i64 k, .string nm, .int .i64 num, .int .i64 tk, .slice pt tks.length ct, .int .i64 fk, .slice pf fks.length cf, .int .i64 lb, .slice p0 0 c0, .int .i64 ck, .int .i64 ctg, .int .i64 clb, .slice pc cks.length cc, .slice p ks.length c]], G⟩) (fun i => i ≤ C ∧ ∀ j, j < i → (h : j < t.kids.length) → t.kids[j].val = true) (fun i => C - i) 0 ?_ ?_ ?_)
 exact E3
 (exact ⟨Nat.zero_le _, fun j hj => absurd hj (Nat.not_lt_zero j)⟩)
 (rintro i ⟨hi, hj⟩)
 refine B1 ?_
 refine zf8 (fun h84 => ?_) (fun h84 => ?_)
 refine A7 ?_
 refine C2 ?_
 refine A7 ?_
 (have hiC : i < C := zO0; obtain ⟨bx, ox, ei, rfl, hli, hoi, hati, hrei, _, hgbi⟩ := hsl.kidR hkl (i := i) zO0 zO0; rw [hnt i zO0 zO0] at hrei; have hVi := (A8I _).2 G ei hrei; refine sP (B2 (j := i) rfl rfl rfl zO0) rfl rfl ?_)
 refine sL (A3 rfl rfl (hati _) hli) rfl rfl ?_
 refine L4 rfl (hVi) rfl rfl (fun h100 => ?_) (fun h100 => ?_)
 refine E1 ?_
 refine zf4 ?_
 refine A5 ?_
 refine J7 (i + 1) ?_ ?_ ?_
 exact E3
 (exact ⟨by omega, fun j hji hl2 => (by by_cases he : j = i; (subst he; assumption); exact hj j zO0 hl2)⟩)
 (show C - (i + 1) < C - i; omega)
 refine I9 ?_
 (have hiC9 := hiC; refine sP (B2 (j := i) rfl rfl rfl zO0) rfl rfl ?_)
 refine sL (A3 rfl rfl (hati _) hli) rfl rfl ?_
 (obtain ⟨⟨_, D, hD, hDn⟩, hS⟩ := hIO zO0 i hiC zO0 hj zL0; refine H6 rfl (hS G ei hrei) rfl rfl (fun v G1 hle1 hh => ?_); obtain ⟨uc, n1, rfl, hru, hu1⟩ := hh; have hul := hru.len; have huo := hru.one; have hEE := hco0 zO0; simp only [I5, Cn.mk.injEq] at hEE; obtain ⟨rfl, rfl, rfl, rfl⟩ := hEE)
 refine B6 ?_
 refine zf1 (fun b134 => ?_)
 refine sS rfl rfl rfl hul huo rfl ?_ (hu := by exact E0 hul.symm)
 refine B1 ?_
 refine zf6 ?_
 refine xx4 0 1 3 4 ?_
 refine N5 (j := 2) (j' := 7) zM0 ?_ ?_
 refine zf3 (fun b147 => ?_)
 refine N5 (j := 5) (j' := 7) zM0 ?_ ?_
 (refine A2m rfl rfl rfl rfl rfl rfl (fun _ _ => by repeat (first | exact Sw.here | apply Sw.there)) (hsl.mono hle1).sl hes1 (Nat.zero_le _) zJ0 zO0 rfl rfl zI (fun p4 c4 => ?_); simp only [Nat.zero_add, List.nil_append])
 refine xx1 6 ?_
 refine A2 7 ?_
 refine zf10 (fun b152 => ?_)
 refine A2 8 ?_
 refine E9 rfl ?_
 refine B8 ?_
 refine sL (A3 rfl rfl (B9 zG0) hul) rfl rfl ?_
 (have hdone := hru; refine A3j (p := p4) (cs := es.flatten) zB0 zO0 (fun bc Cc hpc hnc9 hmc => ?_); subst hpc; refine sP (B2 (j := i) rfl rfl rfl zO0) rfl rfl ?_)
 refine Y2 rfl rfl rfl hul huo rfl zC0 (by exact A3k (by rw [hsl.len]; omega) (fun e he => (hsl.all e he)) hul) ?_
 refine P3 ?_
 (refine A2i (bs := [(bc, (es.set i uc).flatten ++ Cc)]) (Pk.perm zB0) (fun hn2 hd2 hle2 => ?_))
 refine A7 ?_
 refine zf15 ?_
 (have hks2 : KR (D3 _) (ks.set i n1) (es.set i uc) := KR.set (KR.imp hkl fun a e h => (h.mono hle1).mono hle2) (hru.mono hle2); have hes2 : ∀ x ∈ es.set i uc, x.length = 14 ∧ x.all (·.oneCell') = true := KR.each hks2 (by rw [List.length_set, List.length_set, hsl.len]); exact P6.mk (by rw [hD]; rfl) (by rw [hD]; rfl) (D3.put (us := ks.set i n1) (es := es.set i uc) ((hnd.mono hle1).mono hle2) (A09 _) (by rw [List.length_set]; exact hn3) (fun h => by rw [List.length_set]; exact hk14 h) (by rw [List.length_set]) (D7.of (Sl.of_blk (A := []) (by rw [A0S (fun x hx => (hes2 x hx).1), List.length_set, hsl.len]) zO0 hmc (Wi.in hn2 List.mem_cons_self)) (by rw [List.length_set, hsl.len]) (fun x hx => (hes2 x hx).1) (fun x hx => (hes2 x hx).2)) hks2) (fun h => by rw [hD] at h ⊢; show _ = (D t.kids[i].stp.1).nt; rw [hDn _ _ _ _ _ _ ht, hu1 h]))
 refine zf10 (fun b186 => ?_)
 refine A2 5 ?_
 (refine A2m rfl rfl rfl rfl rfl rfl (fun _ _ => by repeat (first | exact Sw.here | apply Sw.there)) (hsl.mono hle1).sl hes1 (Nat.zero_le _) zJ0 zO0 rfl rfl zI (fun p4 c4 => ?_); simp only [Nat.zero_add, List.nil_append])
 refine xx1 6 ?_
 refine A2 8 ?_
 refine E9 rfl ?_
 refine B8 ?_
 refine sL (A3 rfl rfl (B9 zG0) hul) rfl rfl ?_
 (have hdone := hru; refine A3j (p := p4) (cs := es.flatten) zB0 zO0 (fun bc Cc hpc hnc9 hmc => ?_); subst hpc; refine sP (B2 (j := i) rfl rfl rfl zO0) rfl rfl ?_)
 refine Y2 rfl rfl rfl hul huo rfl zC0 (by exact A3k (by rw [hsl.len]; omega) (fun e he => (hsl.all e he)) hul) ?_
 refine P3 ?_
 (refine A2i (bs := [(bc, (es.set i uc).flatten ++ Cc)]) (Pk.perm zB0) (fun hn2 hd2 hle2 => ?_))
 refine A7 ?_
 refine zf15 ?_
 (have hks2 : KR (D3 _) (ks.set i n1) (es.set i uc) := KR.set (KR.imp hkl fun a e h => (h.mono hle1).mono hle2) (hru.mono hle2); have hes2 : ∀ x ∈ es.set i uc, x.length = 14 ∧ x.all (·.oneCell') = true := KR.each hks2 (by rw [List.length_set, List.length_set, hsl.len]); exact P6.mk (by rw [hD]; rfl) (by rw [hD]; rfl) (D3.put (us := ks.set i n1) (es := es.set i uc) ((hnd.mono hle1).mono hle2) (A09 _) (by rw [List.length_set]; exact hn3) (fun h => by rw [List.length_set]; exact hk14 h) (by rw [List.length_set]) (D7.of (Sl.of_blk (A := []) (by rw [A0S (fun x hx => (hes2 x hx).1), List.length_set, hsl.len]) zO0 hmc (Wi.in hn2 List.mem_cons_self)) (by rw [List.length_set, hsl.len]) (fun x hx => (hes2 x hx).1) (fun x hx => (hes2 x hx).2)) hks2) (fun h => by rw [hD] at h ⊢; show _ = (D t.kids[i].stp.1).nt; rw [hDn _ _ _ _ _ _ ht, hu1 h]))
 refine zf10 (fun b223 => ?_)
 refine A2 2 ?_
 refine zf3 (fun b225 => ?_)
 refine A2 5 ?_
 (refine A2m rfl rfl rfl rfl rfl rfl (fun _ _ => by repeat (first | exact Sw.here | apply Sw.there)) (hsl.mono hle1).sl hes1 (Nat.zero_le _) zJ0 zO0 rfl rfl zI (fun p4 c4 => ?_); simp only [Nat.zero_add, List.nil_append])
 refine xx1 6 ?_
 refine A2 8 ?_
 refine E9 rfl ?_
 refine B8 ?_
 refine sL (A3 rfl rfl (B9 zG0) hul) rfl rfl ?_
 (have hdone := hru; refine A3j (p := p4) (cs := es.flatten) zB0 zO0 (fun bc Cc hpc hnc9 hmc => ?_); subst hpc; refine sP (B2 (j := i) rfl rfl rfl zO0) rfl rfl ?_)
 refine Y2 rfl rfl rfl hul huo rfl zC0 (by exact A3k (by rw [hsl.len]; omega) (fun e he => (hsl.all e he)) hul) ?_
 refine P3 ?_
 (refine A2i (bs := [(bc, (es.set i uc).flatten ++ Cc)]) (Pk.perm zB0) (fun hn2 hd2 hle2 => ?_))
 refine A7 ?_
 refine zf15 ?_
 (have hks2 : KR (D3 _) (ks.set i n1) (es.set i uc) := KR.set (KR.imp hkl fun a e h => (h.mono hle1).mono hle2) (hru.mono hle2); have hes2 : ∀ x ∈ es.set i uc, x.length = 14 ∧ x.all (·.oneCell') = true := KR.each hks2 (by rw [List.length_set, List.length_set, hsl.len]); exact P6.mk (by rw [hD]; rfl) (by rw [hD]; rfl) (D3.put (us := ks.set i n1) (es := es.set i uc) ((hnd.mono hle1).mono hle2) (A09 _) (by rw [List.length_set]; exact hn3) (fun h => by rw [List.length_set]; exact hk14 h) (by rw [List.length_set]) (D7.of (Sl.of_blk (A := []) (by rw [A0S (fun x hx => (hes2 x hx).1), List.length_set, hsl.len]) zO0 hmc (Wi.in hn2 List.mem_cons_self)) (by rw [List.length_set, hsl.len]) (fun x hx => (hes2 x hx).1) (fun x hx => (hes2 x hx).2)) hks2) (fun h => by rw [hD] at h ⊢; show _ = (D t.kids[i].stp.1).nt; rw [hDn _ _ _ _ _ _ ht, hu1 h]))
 refine K5 ?_
 refine zf0 (fun h276 => ?_) (fun h276 => ?_)
 refine B1 ?_
 focus (have hz9 : k = 9 := zO0; have hone2 := hone; clear hone; have hA := hred zO0 (fun j hjc hl => hj j zO0 hl); obtain ⟨i1, i2, i3, rfl⟩ := B3J ht hz9; obtain ⟨s, x, y, hxx, hst⟩ : ∃ (b : Bool) (x y : TH), TH.ite i1 i2 i3 = .ite (.tru b) x y ∧ (TH.ite i1 i2 i3).stp = (if b = true then x else y, 1, 0) := (by rcases hA with ⟨_, _, _, _, h, _⟩ | ⟨_, _, _, _, _, _, h, _⟩ | ⟨_, _, _, h, _⟩ | ⟨s, x, y, h1, h2⟩ | ⟨_, _, _, h, _⟩ | ⟨_, _, _, _, _, h, _⟩; cases h; cases h; cases h; exact ⟨s, x, y, h1, h2⟩; cases h; cases h); simp only [TH.ite.injEq] at hxx; obtain ⟨rfl, rfl, rfl⟩ := hxx; clear hA hred hRc hRd hIO hCo; cases s; simp only [TH.nt, I5, Nt.mk.injEq, Cn.mk.injEq, if_true, Bool.false_eq_true, if_false] at ht; obtain ⟨rfl, rfl, rfl, ⟨rfl, rfl, rfl, rfl⟩, rfl⟩ := ht; have hq4 : True := trivial; obtain ⟨b0, o0, e0, rfl, hl0, ho0, hat0, hre0, _, hgb0⟩ := hsl.kidR hkl (i := 0) zP0 zP0; replace hre0 : D3 G (.mk 4 ⟨⟨[]⟩⟩ 0 (.mk 0 0 0 []) []) e0 := hre0; obtain ⟨_, _, e1, hE1, hl1, ho1, hat1, hre1, _, hgb1⟩ := hsl.kidR hkl (i := 1) zP0 zP0; cases hE1; replace hre1 : D3 G i2.nt e1 := hre1; obtain ⟨_, _, e2, hE2, hl2, ho2, hat2, hre2, _, hgb2⟩ := hsl.kidR hkl (i := 2) zP0 zP0; cases hE2; replace hre2 : D3 G i3.nt e2 := hre2; obtain ⟨tkA, tksA, fkA, fksA, lbA, ptA, ctA, pfA, cfA, p0A, c0A, pcA, ccA, pA, cA, esA, rfl, hndA, hcoA, _, _, hslA, hklA⟩ := hre0.open14; rotate_left; simp only [TH.nt, I5, Nt.mk.injEq, Cn.mk.injEq, if_true, Bool.false_eq_true, if_false] at ht; obtain ⟨rfl, rfl, rfl, ⟨rfl, rfl, rfl, rfl⟩, rfl⟩ := ht; have hq4 : True := trivial; obtain ⟨b0, o0, e0, rfl, hl0, ho0, hat0, hre0, _, hgb0⟩ := hsl.kidR hkl (i := 0) zP0 zP0; replace hre0 : D3 G (.mk 3 ⟨⟨[]⟩⟩ 0 (.mk 0 0 0 []) []) e0 := hre0; obtain ⟨_, _, e1, hE1, hl1, ho1, hat1, hre1, _, hgb1⟩ := hsl.kidR hkl (i := 1) zP0 zP0; cases hE1; replace hre1 : D3 G i2.nt e1 := hre1; obtain ⟨_, _, e2, hE2, hl2, ho2, hat2, hre2, _, hgb2⟩ := hsl.kidR hkl (i := 2) zP0 zP0; cases hE2; replace hre2 : D3 G i3.nt e2 := hre2; obtain ⟨tkA, tksA, fkA, fksA, lbA, ptA, ctA, pfA, cfA, p0A, c0A, pcA, ccA, pA, cA, esA, rfl, hndA, hcoA, _, _, hslA, hklA⟩ := hre0.open14; rotate_left)
 refine B5 ?_
 refine zf18 ?_
 refine A5 ?_
 refine sL (A0t rfl rfl (At.sub2 (hat0 _) (j := 0) (j' := 0) rfl)) rfl rfl ?_
 refine A5 ?_
 refine C2 ?_
 refine A5 ?_
 refine zf11 ?_
 refine A7 ?_
 refine zf12 ?_
 refine D4 ?_
 refine sP (B2 (j := 2) rfl rfl rfl zP0) rfl rfl ?_
 refine sL (A3 rfl rfl (hat2 _) hl2) rfl rfl ?_
 refine sS rfl rfl rfl hl2 ho2 rfl ?_ (hu := by exact E0 hl2.symm)
 refine D4 ?_
 refine E5 (rC rfl (A3 rfl rfl (B9 zG0) hl2)) (rT rfl) (rT rfl) ?_
 (exact P6.ok (t := i3) hst hre2)
 refine B5 ?_
 refine zf18 ?_
 refine A5 ?_
 refine sL (A0t rfl rfl (At.sub2 (hat0 _) (j := 0) (j' := 0) rfl)) rfl rfl ?_
 refine A5 ?_
 refine C2 ?_
 refine A5 ?_
 refine zf12 ?_
 refine D4 ?_
 refine zf21 ?_
 refine sL (A3 rfl rfl (hat1 _) hl1) rfl rfl ?_
 refine sS rfl rfl rfl hl1 ho1 rfl ?_ (hu := by exact E0 hl1.symm)
 refine D4 ?_
 refine E5 (rC rfl (A3 rfl rfl (B9 zG0) hl1)) (rT rfl) (rT rfl) ?_
 (exact P6.ok (t := i2) hst hre1)
 refine E1 ?_
 refine zf0 (fun h367 => ?_) (fun h367 => ?_)
 refine K7 ?_
 refine zf15 ?_
 (exfalso; have hcd := hRc zO0 (fun j hjc hl => hj j zO0 hl); omega)
 refine D4 ?_
 (have hall := (fun (j : Nat) (hjc : j < C) (hl : j < t.kids.length) => hj j zO0 hl); have hcd := hRc zO0 hall; refine H6 rfl (hRd zO0 zO0 hall) rfl rfl (fun v G1 hle1 hh => ?_); obtain ⟨vc, rfl, hrv⟩ := hh; have hvl := hrv.len; have hvo := hrv.one)
 refine B5 ?_
 refine zf1 (fun b395 => ?_)
 refine sS rfl rfl rfl hvl hvo rfl ?_ (hu := by exact E0 hvl.symm)
 refine B1 ?_
 refine sL (A3 rfl rfl (B9 zG0) hvl) rfl rfl ?_
 refine I0 ?_
 refine sS rfl rfl rfl hvl hvo rfl ?_ (hu := by exact E0 hvl.symm)
 refine B1 ?_
 refine E5 (rC rfl (A3 rfl rfl (B9 zG0) hvl)) (rT rfl) (rT rfl) ?_
 (exact P6.mk hcd.1.symm hcd.2.1.symm hrv (fun _ => rfl))
theorem B9H : ∀ t : TH, A6L t := by
 intro t
 induction t with
 | lam x A e i => exact A24 _ fun u hu => by obtain rfl := List.mem_singleton.1 hu; exact i
 | app f a i j => exact A24 _ fun u hu => by simp only [TH.kids, List.mem_cons, List.not_mem_nil, or_false] at hu; rcases hu with rfl | rfl; exact i; exact j
 | ar s f a i j => exact A24 _ fun u hu => by simp only [TH.kids, List.mem_cons, List.not_mem_nil, or_false] at hu; rcases hu with rfl | rfl; exact i; exact j
 | pair f a i j => exact A24 _ fun u hu => by simp only [TH.kids, List.mem_cons, List.not_mem_nil, or_false] at hu; rcases hu with rfl | rfl; exact i; exact j
 | ite c f a i j l => exact A24 _ fun u hu => by simp only [TH.kids, List.mem_cons, List.not_mem_nil, or_false] at hu; rcases hu with rfl | rfl | rfl; exact i; exact j; exact l
 | part s e i => exact A24 _ fun u hu => by obtain rfl := List.mem_singleton.1 hu; exact i
 | conv c e i => exact A24 _ fun u hu => by obtain rfl := List.mem_singleton.1 hu; exact i
 | _ => refine A24 _ ?_; intro u hu; cases hu
theorem B9I : ∀ (n : Nat) (A B : GT) (l : Int) (G : IM) (ac bc : List Value), Z6 A B < n → Co A B → -99 ≤ l ∧ l ≤ 99 → C6 G A.ty ac → C6 G B.ty bc → Fn prog 134 [.agg ⟨ac⟩, .agg ⟨bc⟩, .int .i64 l] [] G (CnP (kc A B l).cn) := by
 intro n
 induction n with
 | zero => intro A B l G ac bc h; omega
 | succ n ih =>
  intro A B l G ac bc hmu hco hl hra hrb
  obtain ⟨ak, aks, hA⟩ : ∃ ak aks, A.ty = .mk ak aks := by cases A.ty; exact ⟨_, _, rfl⟩
  obtain ⟨bk, bks, hB⟩ : ∃ ak aks, B.ty = .mk ak aks := by cases B.ty; exact ⟨_, _, rfl⟩
  have fA := A6r hA
  have fB := A6r hB
  have hAa : ak ≠ 1 → A ≠ .any := fun h e => h (fA.2.2.1.2 (A20.2 e))
  have hBa : bk ≠ 1 → B ≠ .any := fun h e => h (fB.2.2.1.2 (A20.2 e))
  have hAb : ak = 1 → A = .any := fun h => A20.1 (fA.2.2.1.1 h)
  have hBb : bk = 1 → B = .any := fun h => A20.1 (fB.2.2.1.1 h)
  have hF := fun (h : ak = 4) (hb : bk ≠ 1) => B2K hco (by rw [hA, h]) hB hb
  have hP := fun (h : ak = 5) (hb : bk ≠ 1) => B2L hco (by rw [hA, h]) hB hb
  have h55 := B2N hco hA hB
  have hsm := fun (h : bk = ak) (hn : aks.length = 0) => B2H hA (by rw [hB, h]) hn l
  have hbase := B9p hco hA hB
  have hra0 := hra
  have hrb0 := hrb
  rw [hA] at hra
  rw [hB] at hrb
  obtain ⟨pa, ca, ea, rfl, hak, hsa, hla⟩ := hra.open
  obtain ⟨pb, cb, eb, rfl, hbk, hsb, hlb⟩ := hrb.open
  simp only [Ty.k, Ty.ks] at hak hsa hla hbk hsb hlb hra0 hrb0 ⊢
  have h0 : F8 0 := ⟨by decide, by decide⟩
  have hl64 : F8 l := ⟨by omega, by omega⟩
  refine C4 func134 rfl ntmps134 results134 rfl ?_
  intro w0
  refine A5 ?_
  refine zf2 (fun b3 => ?_)
  refine zf2 (fun b4 => ?_)
  refine zf1 (fun b5 => ?_)
  refine B5 ?_
  refine C2 ?_
  refine B6 ?_
  refine zf0 (fun h14 => ?_) (fun h14 => ?_)
  refine B5 ?_
  refine zf0 (fun h18 => ?_) (fun h18 => ?_)
  refine B8 ?_
  refine F0 rfl ((A6H _ _)) rfl rfl ?_
  refine A7 ?_
  refine zf9 ?_
  (exact CnP.mk (by obtain rfl := hAb zO0; obtain rfl := hBb zO0; rw [Z1, R0]; exact H3.put (ks := []) (es := []) ⟨by decide, by decide⟩ ⟨by decide, by decide⟩ h0 zN0 zN0 zN0 rfl (D7.nil _ _) KR.nil))
  refine E1 ?_
  refine zf11 ?_
  refine D4 ?_
  refine zf12 ?_
  refine B1 ?_
  refine zf6 ?_
  refine xx4 0 1 3 4 ?_
  refine A2 2 ?_
  (refine E6 rfl rfl (B2g B.ty G _ (A4l B) hrb0) rfl rfl rfl (fun u G1 hle1 hh => ?_); obtain ⟨gc, rfl, hrg⟩ := hh; rw [A47] at hrg; have hBn := hBa zO0; obtain rfl := hAb zO0)
  refine A2 5 ?_
  (refine E6 rfl rfl (ih B.gr B l G1 _ _ (by have := B2G hBn; omega) Co.gr.symm hl hrg (hrb0.mono hle1)) rfl rfl rfl (fun u G2 hle2 hh => ?_); obtain ⟨uc, rfl, hru⟩ := hh; obtain ⟨x1, x2, x3, x4, rfl⟩ := A0z hru.len)
  refine A2 6 ?_
  refine zf3 (fun b69 => ?_)
  refine xx1 7 ?_
  refine A2 8 ?_
  refine E9 rfl ?_
  refine A5 ?_
  (refine H1 (cs := [x1, x2, x3, x4]) zB0 (fun G5 hle5 hsl5 hno5 => ?_))
  refine B5 ?_
  refine zf9 ?_
  (exact CnP.mk (by rw [B2J hBn, GK.cn]; exact A1r (hru.mono hle5) hsl5 ⟨by decide, by decide⟩ h0 hl64 zN0))
  refine K7 ?_
  refine zf0 (fun h94 => ?_) (fun h94 => ?_)
  refine B1 ?_
  refine zf6 ?_
  refine xx3 0 1 3 ?_
  refine A2 2 ?_
  (refine E6 rfl rfl (B2g A.ty G _ (A4l A) hra0) rfl rfl rfl (fun u G1 hle1 hh => ?_); obtain ⟨gc, rfl, hrg⟩ := hh; rw [A47] at hrg; have hAn := hAa zO0; obtain rfl := hBb zO0)
  refine A2 4 ?_
  (refine E6 rfl rfl (ih A A.gr l G1 _ _ (by have := B2F hAn; omega) Co.gr hl (hra0.mono hle1) hrg) rfl rfl rfl (fun u G2 hle2 hh => ?_); obtain ⟨uc, rfl, hru⟩ := hh; obtain ⟨x1, x2, x3, x4, rfl⟩ := A0z hru.len)
  refine A2 5 ?_
  refine zf3 (fun b109 => ?_)
  refine xx1 6 ?_
  refine A2 7 ?_
  refine E9 rfl ?_
  refine A5 ?_
  (refine H1 (cs := [x1, x2, x3, x4]) zB0 (fun G5 hle5 hsl5 hno5 => ?_))
  refine B5 ?_
  refine zf9 ?_
  (exact CnP.mk (by rw [B2I hAn, GK.cn]; exact A1r (hru.mono hle5) hsl5 ⟨by decide, by decide⟩ h0 h0 zN0))
  refine D4 ?_
  refine zf11 ?_
  refine D4 ?_
  refine zf0 (fun h138 => ?_) (fun h138 => ?_)
  refine B1 ?_
  (have hg : aks.length = 2 := fA.2.1 zO0; obtain ⟨a, b, c, d, rfl, rfl, rfl, rfl, hc1, hc2⟩ := hF zO0 zO0; have hm := A8p a b c d; obtain ⟨b1, o1, q1, d1, rfl, hat1, hre1, hgb1⟩ := hsa.kidTy hla (i := 0) zP0 zP0; obtain ⟨b2, o2, q2, d2, hE2, hat2, hre2, hgb2⟩ := hsa.kidTy hla (i := 1) zP0 zP0; cases hE2; obtain ⟨b3, o3, q3, d3, rfl, hat3, hre3, hgb3⟩ := hsb.kidTy hlb (i := 0) zP0 zP0; obtain ⟨b4, o4, q4, d4, hE4, hat4, hre4, hgb4⟩ := hsb.kidTy hlb (i := 1) zP0 zP0; cases hE4; refine zdd D9 rfl ?_)
  refine xx9 0 1 2 3 4 5 6 7 8 ?_
  refine aP 9 rfl (A3B rfl zO0 zO0) rfl ?_
  refine xx9 11 12 13 14 15 16 17 18 19 ?_
  refine A2 10 ?_
  (refine E6 rfl rfl (ih c a (-l) G _ _ zO0 hc1 ⟨by omega, by omega⟩ hre3 hre1) rfl rfl rfl (fun u G1 hle1 hh => ?_); obtain ⟨uc, rfl, hru⟩ := hh; obtain ⟨x1, x2, x3, x4, rfl⟩ := A0z hru.len)
  refine A2 20 ?_
  (refine E6 rfl rfl (ih b d l G1 _ _ zO0 hc2 hl (hre2.mono hle1) (hre4.mono hle1)) rfl rfl rfl (fun u G2 hle2 hh => ?_); obtain ⟨vc, rfl, hrv⟩ := hh; obtain ⟨y1, y2, y3, y4, rfl⟩ := A0z hrv.len)
  refine A2 21 ?_
  refine zf3 (fun b169 => ?_)
  refine xx1 22 ?_
  refine A2 23 ?_
  refine E9 rfl ?_
  refine A5 ?_
  (refine H1 (cs := [x1, x2, x3, x4, y1, y2, y3, y4]) zB0 (fun G5 hle5 hsl5 hno5 => ?_))
  refine B5 ?_
  refine zf9 ?_
  (exact CnP.mk (by rw [A1j, GK.cn]; exact A2y (hru.mono (hle2.trans hle5)) (hrv.mono hle5) hsl5 ⟨by decide, by decide⟩ h0 h0 zN0))
  refine D4 ?_
  refine zf0 (fun h189 => ?_) (fun h189 => ?_)
  refine B1 ?_
  (have hg : aks.length = 2 := fA.2.1 zO0; obtain ⟨a, b, c, d, rfl, rfl, rfl, rfl, hc1, hc2⟩ := hP zO0 zO0; have hm := A8q a b c d; obtain ⟨b1, o1, q1, d1, rfl, hat1, hre1, hgb1⟩ := hsa.kidTy hla (i := 0) zP0 zP0; obtain ⟨b2, o2, q2, d2, hE2, hat2, hre2, hgb2⟩ := hsa.kidTy hla (i := 1) zP0 zP0; cases hE2; obtain ⟨b3, o3, q3, d3, rfl, hat3, hre3, hgb3⟩ := hsb.kidTy hlb (i := 0) zP0 zP0; obtain ⟨b4, o4, q4, d4, hE4, hat4, hre4, hgb4⟩ := hsb.kidTy hlb (i := 1) zP0 zP0; cases hE4; refine zdd D9 rfl ?_)
  refine xx18 0 1 2 3 4 5 6 7 8 10 11 12 13 14 15 16 17 18 ?_
  refine A2 9 ?_
  (refine E6 rfl rfl (ih a c l G _ _ zO0 hc1 hl hre1 hre3) rfl rfl rfl (fun u G1 hle1 hh => ?_); obtain ⟨uc, rfl, hru⟩ := hh; obtain ⟨x1, x2, x3, x4, rfl⟩ := A0z hru.len)
  refine A2 19 ?_
  (refine E6 rfl rfl (ih b d l G1 _ _ zO0 hc2 hl (hre2.mono hle1) (hre4.mono hle1)) rfl rfl rfl (fun u G2 hle2 hh => ?_); obtain ⟨vc, rfl, hrv⟩ := hh; obtain ⟨y1, y2, y3, y4, rfl⟩ := A0z hrv.len)
  refine A2 20 ?_
  refine zf3 (fun b219 => ?_)
  refine xx1 21 ?_
  refine A2 22 ?_
  refine E9 rfl ?_
  refine A5 ?_
  (refine H1 (cs := [x1, x2, x3, x4, y1, y2, y3, y4]) zB0 (fun G5 hle5 hsl5 hno5 => ?_))
  refine B5 ?_
  refine zf9 ?_
  (exact CnP.mk (by rw [A1k, GK.cn]; exact A2y (hru.mono (hle2.trans hle5)) (hrv.mono hle5) hsl5 ⟨by decide, by decide⟩ h0 h0 zN0))
  refine J3 ?_
  refine F0 rfl ((A6H _ _)) rfl rfl ?_
  refine B6 ?_
  refine zf9 ?_
  (exact CnP.mk (by rw [hsm (hbase zO0 zO0 zO0 zO0) (fA.1 (by have := fA.2.2.2; omega))]; exact H3.put (ks := []) (es := []) ⟨by decide, by decide⟩ hak h0 zN0 zN0 zN0 rfl (D7.nil _ _) KR.nil))
theorem B9J : ∀ (t : Tm) (G : IM) (cells : List Value), cv t → B7 G t cells → Fn prog 80 [.agg ⟨cells⟩] [] G (Z7 (X9 t)) := by
 refine Tm.ind fun k nm num ty fr lb ks ih G cells hcv hr => ?_
 obtain ⟨hN, hkk⟩ := hcv.node
 have hops := hN.ops
 have hle3 := A1G k
 have h14 : k = 14 → ks.length = 1 := fun h => by have := B2Y h; omega
 have hC : k = 14 → ∃ A B : GT, fr = A.ty ∧ ty = B.ty ∧ Co A B := by
  intro h
  obtain ⟨h1, h2, h3⟩ := hN.c14 h
  obtain ⟨A, rfl⟩ := A10 fr h3
  obtain ⟨B, rfl⟩ := A10 ty h2
  exact ⟨A, B, rfl, rfl, (A8s A B).1 h1⟩
 have hlb9 := hN.lbB
 have hmt : X9 (.mk k nm num ty fr lb ks) = .mk k nm num (if k = 14 then (kc (A0N fr) (A0N ty) lb).cn else I5) (Q4 ks) := by rw [X9]
 rw [hmt]
 obtain ⟨tk, tks⟩ := ty
 obtain ⟨fk, fks⟩ := fr
 obtain ⟨pt, ct, pf, cf, p, c, es, rfl, hk, hnum, hlb, hty, hfr, hsl, hkl⟩ := hr.open9
 have hn := hsl.le
 refine C4 func80 rfl ntmps80 results80 rfl ?_
 intro w0
 refine A5 ?_
 refine zf2 (fun b3 => ?_)
 refine zf1 (fun b4 => ?_)
 refine P3 ?_
 refine zf1 (fun b17 => ?_)
 refine D4 ?_
 refine zf0 (fun h26 => ?_) (fun h26 => ?_)
 refine I9 ?_
 (obtain ⟨A, B, eA, eB, hco⟩ := hC zO0; refine H6 rfl (B9I _ A B lb G _ _ (Nat.lt_succ_self _) hco hlb9 (by rw [← eA]; exact hfr) (by rw [← eB]; exact hty)) rfl rfl (fun u G1 hle1 hh => ?_); obtain ⟨uc, rfl, hru⟩ := hh; obtain ⟨x1, x2, x3, p4, n4, c4, rfl⟩ := hru.ints)
 refine I9 ?_
 refine C2 ?_
 (have hco := hru; refine V1 114 14 ?_; refine K2 (fun (x : Nat × Option Addr × Nat × List (List Value) × IM) => ⟨[(4, .int .i64 x.1), (1, .pointer (some ⟨b3, 0, none⟩)), (2, .pointer (some ⟨b4, 0, none⟩)), (3, .pointer (some ⟨b17, 0, none⟩))], [.blk b17 [.int .i64 k, .string nm, .int .i64 num, .int .i64 0, .slice none 0 0, .int .i64 0, .slice none 0 0, .int .i64 0, .slice none 0 0, .int .i64 x1, .int .i64 x2, .int .i64 x3, .slice p4 n4 c4, .slice x.2.1 x.1 x.2.2.1], .slc x.2.1 x.2.2.1 114 14 x.1 x.2.2.2.1.flatten, .blk b4 zq14, .blk b3 [.int .i64 k, .string nm, .int .i64 num, .int .i64 tk, .slice pt tks.length ct, .int .i64 fk, .slice pf fks.length cf, .int .i64 lb, .slice p ks.length c]], x.2.2.2.2⟩) (fun x => x.1 ≤ ks.length ∧ C3 G1 x.2.2.2.2 ∧ x.2.2.2.1.length = x.1 ∧ KR (D3 x.2.2.2.2) ((Q4 ks).take x.1) x.2.2.2.1) (fun x => ks.length - x.1) (0, none, 0, [], G1) ?_ ?_ ?_)
 (simp only [J5]; exact E3)
 (exact ⟨Nat.zero_le _, C3.refl _, rfl, by rw [List.take_zero]; exact KR.nil⟩)
 (rintro ⟨i, pn, cn, es', Gi⟩ ⟨hi, hle, hel', hst⟩; simp only [] at hi hle hel' hst ⊢; replace hsl := hsl.mono zE0; replace hkl := hkl.mono zE0; replace hco := hco.mono hle)
 refine B8 ?_
 refine zf8 (fun h60 => ?_) (fun h60 => ?_)
 refine A7 ?_
 refine C2 ?_
 (have hil : i < ks.length := zO0; obtain ⟨bx, ox, e, rfl, hl, hat, hre, hgb⟩ := hsl.kidTm hkl (i := i) zO0 zO0; have hel := hre.len; have heo := hre.one; refine zdd D9 rfl ?_)
 refine xx5 0 1 2 3 4 ?_
 refine aP 5 rfl (B2 (j := i) rfl rfl rfl hil) rfl ?_
 refine aL 6 rfl (A3 rfl rfl (hat _) hl) rfl ?_
 refine A2 7 ?_
 (refine E6 rfl rfl (ih ks[i] (List.getElem_mem zO0) Gi _ (hkk _ (List.getElem_mem zO0)) hre) rfl rfl rfl (fun u G3 hle3 hh => ?_); obtain ⟨uc, rfl, hrv⟩ := hh; have hul := hrv.len; have huo := hrv.one; obtain ⟨v1, v2, v3, v4, v5, v6, v7, v8, v9, w1, w2, w3, w4, w5, rfl⟩ := A1p hul)
 refine A2 8 ?_
 refine zf3 (fun b79 => ?_)
 refine A2 9 ?_
 (refine R4 rfl rfl rfl rfl rfl rfl (fun _ _ => by repeat (first | exact Sw.here | apply Sw.there)) (O4 zG0) rfl (fun u hu => List.all_eq_true.1 huo u hu) zJ0 zO0 rfl rfl zI (fun p7 c7 => ?_))
 refine xx1 10 ?_
 refine A2 11 ?_
 refine R8 rfl rfl rfl rfl rfl rfl rfl rfl zK0 zC0 (by rfl) ?_
 refine B1 ?_
 refine zf4 ?_
 refine A5 ?_
 refine J7 (i + 1, p7, c7, es' ++ [[v1, v2, v3, v4, v5, v6, v7, v8, v9, w1, w2, w3, w4, w5]], G3) ?_ ?_ ?_
 (simp only [J5]; exact E3)
 (dsimp only; exact ⟨by omega, hle.trans hle3, by rw [List.length_append]; simp only [List.length_singleton]; omega, by rw [A6y zO0]; exact KR.snoc (KR.imp hst fun a e h => h.mono hle3) (by rw [List.length_take, T9]; omega) hrv⟩)
 (show ks.length - (i + 1) < ks.length - i; omega)
 refine K5 ?_
 (obtain rfl : i = ks.length := zO0; refine H1 (cs := es'.flatten) zB0 (fun G5 hle5 hsl5 hno5 => ?_))
 refine tT ?_
 refine zf9 ?_
 (rw [List.take_of_length_le (by rw [T9]; omega)] at hst; rw [if_pos zO0, eA, eB, A1s, A1s]; exact Z7.mk (D3.put' (tks := []) (fks := []) (us := Q4 ks) (A4T _ hk hnum) (hco.mono hle5) (by rw [T9]; omega) (fun h => by rw [T9]; exact h14 h) (by rw [T9]) (D7.of hsl5 zO0 (fun e he => (hst.each (by rw [T9]; omega) e he).1) (fun e he => (hst.each (by rw [T9]; omega) e he).2)) (KR.imp hst fun a e h => h.mono hle5)))
 refine J3 ?_
 refine C2 ?_
 (have hco := A09 G; refine V1 114 14 ?_; refine K2 (fun (x : Nat × Option Addr × Nat × List (List Value) × IM) => ⟨[(4, .int .i64 x.1), (1, .pointer (some ⟨b3, 0, none⟩)), (2, .pointer (some ⟨b4, 0, none⟩)), (3, .pointer (some ⟨b17, 0, none⟩))], [.blk b17 [.int .i64 k, .string nm, .int .i64 num, .int .i64 0, .slice none 0 0, .int .i64 0, .slice none 0 0, .int .i64 0, .slice none 0 0, .int .i64 0, .int .i64 0, .int .i64 0, .slice none 0 0, .slice x.2.1 x.1 x.2.2.1], .slc x.2.1 x.2.2.1 114 14 x.1 x.2.2.2.1.flatten, .blk b4 zq14, .blk b3 [.int .i64 k, .string nm, .int .i64 num, .int .i64 tk, .slice pt tks.length ct, .int .i64 fk, .slice pf fks.length cf, .int .i64 lb, .slice p ks.length c]], x.2.2.2.2⟩) (fun x => x.1 ≤ ks.length ∧ C3 G x.2.2.2.2 ∧ x.2.2.2.1.length = x.1 ∧ KR (D3 x.2.2.2.2) ((Q4 ks).take x.1) x.2.2.2.1) (fun x => ks.length - x.1) (0, none, 0, [], G) ?_ ?_ ?_)
 (simp only [J5]; exact E3)
 (exact ⟨Nat.zero_le _, C3.refl _, rfl, by rw [List.take_zero]; exact KR.nil⟩)
 (rintro ⟨i, pn, cn, es', Gi⟩ ⟨hi, hle, hel', hst⟩; simp only [] at hi hle hel' hst ⊢; replace hsl := hsl.mono zE0; replace hkl := hkl.mono zE0; replace hco := hco.mono hle)
 refine B8 ?_
 refine zf8 (fun h138 => ?_) (fun h138 => ?_)
 refine A7 ?_
 refine C2 ?_
 (have hil : i < ks.length := zO0; obtain ⟨bx, ox, e, rfl, hl, hat, hre, hgb⟩ := hsl.kidTm hkl (i := i) zO0 zO0; have hel := hre.len; have heo := hre.one; refine zdd D9 rfl ?_)
 refine xx5 0 1 2 3 4 ?_
 refine aP 5 rfl (B2 (j := i) rfl rfl rfl hil) rfl ?_
 refine aL 6 rfl (A3 rfl rfl (hat _) hl) rfl ?_
 refine A2 7 ?_
 (refine E6 rfl rfl (ih ks[i] (List.getElem_mem zO0) Gi _ (hkk _ (List.getElem_mem zO0)) hre) rfl rfl rfl (fun u G3 hle3 hh => ?_); obtain ⟨uc, rfl, hrv⟩ := hh; have hul := hrv.len; have huo := hrv.one; obtain ⟨v1, v2, v3, v4, v5, v6, v7, v8, v9, w1, w2, w3, w4, w5, rfl⟩ := A1p hul)
 refine A2 8 ?_
 refine zf3 (fun b157 => ?_)
 refine A2 9 ?_
 (refine R4 rfl rfl rfl rfl rfl rfl (fun _ _ => by repeat (first | exact Sw.here | apply Sw.there)) (O4 zG0) rfl (fun u hu => List.all_eq_true.1 huo u hu) zJ0 zO0 rfl rfl zI (fun p7 c7 => ?_))
 refine xx1 10 ?_
 refine A2 11 ?_
 refine R8 rfl rfl rfl rfl rfl rfl rfl rfl zK0 zC0 (by rfl) ?_
 refine B1 ?_
 refine zf4 ?_
 refine A5 ?_
 refine J7 (i + 1, p7, c7, es' ++ [[v1, v2, v3, v4, v5, v6, v7, v8, v9, w1, w2, w3, w4, w5]], G3) ?_ ?_ ?_
 (simp only [J5]; exact E3)
 (dsimp only; exact ⟨by omega, hle.trans hle3, by rw [List.length_append]; simp only [List.length_singleton]; omega, by rw [A6y zO0]; exact KR.snoc (KR.imp hst fun a e h => h.mono hle3) (by rw [List.length_take, T9]; omega) hrv⟩)
 (show ks.length - (i + 1) < ks.length - i; omega)
 refine K5 ?_
 (obtain rfl : i = ks.length := zO0; refine H1 (cs := es'.flatten) zB0 (fun G5 hle5 hsl5 hno5 => ?_))
 refine tT ?_
 refine zf9 ?_
 (rw [List.take_of_length_le (by rw [T9]; omega)] at hst; rw [if_neg zO0]; exact Z7.mk (D3.put' (tks := []) (fks := []) (us := Q4 ks) (A4T _ hk hnum) (hco.mono hle5) (by rw [T9]; omega) (fun h => by rw [T9]; exact h14 h) (by rw [T9]) (D7.of hsl5 zO0 (fun e he => (hst.each (by rw [T9]; omega) e he).1) (fun e he => (hst.each (by rw [T9]; omega) e he).2)) (KR.imp hst fun a e h => h.mono hle5)))
theorem B9K (e : Tm) (g : GE) (A : GT) (fuel : Int) (G : IM) (cells : List Value) (hv : P7 e = true) (hs : SpT e g A) (hr : B7 G e cells) : Fn prog 41 [.agg ⟨cells⟩, .int .i64 fuel] [] G (A0P (A00 g.th fuel)) := by
 have hRl := hr.len
 have hRo := hr.one
 have hV := B52 e G cells (by have := (A1S hv).2; omega) hr
 rw [hv] at hV
 have hno := @B3s g.th fuel
 have hTo := B9J e G cells (A1S hv).1 hr
 have hmt : X9 e = g.th.nt := by rw [hs.eq, B3n]
 rw [hmt] at hTo
 obtain ⟨F, hF⟩ : ∃ F : Nat, Q5 fuel 0 300 = true → fuel = (F : Int) ∧ F ≤ 300 ∧ A00 g.th fuel = U9 F g.th := ⟨fuel.toNat, fun h => by
  have h2 := A2J h
  exact ⟨by omega, by omega, by unfold A00; rw [if_pos h2]⟩⟩
 generalize A00 g.th fuel = R at hno hF ⊢
 refine C4 func41 rfl ntmps41 results41 rfl ?_
 intro w0
 refine A5 ?_
 refine zf2 (fun b3 => ?_)
 refine E1 ?_
 refine sL (A3 rfl rfl (B9 zG0) hRl) rfl rfl ?_
 refine F0 rfl (hV) rfl rfl ?_
 refine B5 ?_
 refine zf8 (fun h18 => ?_) (fun h18 => ?_)
 refine A0H ?_
 refine A1a (rT rfl) (rT rfl) (rT rfl) (rT rfl) ?_
 (exact A0P.mk (hno (decide_eq_false zO0)))
 refine B5 ?_
 refine zf17 (fun h42 => ?_) (fun h42 => ?_)
 refine K5 ?_
 refine A1a (rT rfl) (rT rfl) (rT rfl) (rT rfl) ?_
 (exact A0P.mk (hno (decide_eq_false zO0)))
 refine D4 ?_
 refine sL (A3 rfl rfl (B9 zG0) hRl) rfl rfl ?_
 (obtain ⟨rfl, hF3, rfl⟩ := hF (decide_eq_true zO0); refine H6 rfl hTo rfl rfl (fun v G1 hle1 hh => ?_); obtain ⟨wc, rfl, hrw⟩ := hh; have hwl := hrw.len; have hwo := hrw.one)
 refine zf1 (fun b69 => ?_)
 refine sS rfl rfl rfl hwl hwo rfl ?_ (hu := by exact E0 hwl.symm)
 refine B6 ?_
 refine sL (A3 rfl rfl (B9 zG0) hwl) rfl rfl ?_
 refine F0 rfl ((B3x _ _ _ hrw)) rfl rfl ?_
 refine D4 ?_
 refine C2 ?_
 (refine K2 (fun (x : Nat × TH × List Value × Int × IM) => ⟨[(10, .int .i64 (x.1 : Int)), (9, .int .i64 x.2.2.2.1), (8, .pointer (some ⟨b69, 0, none⟩)), (1, .int .i64 (F : Int))], [.blk b69 x.2.2.1], x.2.2.2.2⟩) (fun x => x.1 ≤ F ∧ U9 F g.th = U9 (F - x.1) x.2.1 ∧ ST D1 x.2.1 A ∧ x.2.1.nk ∧ x.2.1.z ≤ 200 ∧ D3 x.2.2.2.2 x.2.1.nt x.2.2.1 ∧ C3 G1 x.2.2.2.2) (fun x => F - x.1) (0, g.th, wc, g.th.nt.hs, G1) ?_ ?_ ?_)
 (simp only [J5]; exact E3)
 (exact ⟨Nat.zero_le _, rfl, hs.st, hs.nk, hs.z, hrw, C3.refl _⟩)
 (rintro ⟨s, t, uc, h, Gi⟩ ⟨hsF, hrun, hT, hnk, hz, hru, hlei⟩; simp only [] at hsF hrun hT hnk hz hru hlei ⊢; have hul := hru.len; have huo := hru.one; have hVal := (A8I t).2 Gi uc hru)
 refine tS ?_
 refine C2 ?_
 refine B5 ?_
 refine sL (A3 rfl rfl (B9 zG0) hul) rfl rfl ?_
 focus (cases hvl : t.val; all_goals (rw [hvl] at hVal; refine F0 rfl hVal rfl rfl ?_))
 refine B8 ?_
 refine sL (A3 rfl rfl (B9 zG0) hul) rfl rfl ?_
 (refine H6 rfl (B9H t Gi uc A hT hvl hnk hru) rfl rfl (fun v G3 hle3 hh => ?_); obtain ⟨nc, n1, rfl, hrn, hn1⟩ := hh; have hnl := hrn.len; have hno2 := hrn.one; have hok := B3l t hnk)
 refine B6 ?_
 refine zf1 (fun b110 => ?_)
 refine sS rfl rfl rfl hnl hno2 rfl ?_ (hu := by exact E0 hnl.symm)
 refine B1 ?_
 refine C2 ?_
 refine B5 ?_
 refine zf16 (fun h121 => ?_) (fun h121 => ?_)
 refine A2H ?_
 refine A1a (rT rfl) (rT rfl) (rT rfl) (rT rfl) ?_
 (exact A0P.mk (by rw [hrun]; exact B3p hvl zO0))
 refine A7 ?_
 refine sL (A3 rfl rfl (B9 zG0) hnl) rfl rfl ?_
 (have hc1 : t.stp.2.1 = 1 := zO0; obtain rfl := hn1 hc1; have hzz : zb t.z ≤ zb 200 := (by unfold zb; have := Nat.mul_le_mul hz hz; omega); have hzb : zb 200 = 40205 := rfl; have hsz := B3k t.stp.1; have hsX := B3A t.stp.1.nt 200; unfold szX at hsX; refine F0 rfl (B9y _ 200 G3 nc zO0 ⟨by omega, by omega⟩ hrn) rfl rfl ?_)
 refine zf17 (fun h154 => ?_) (fun h154 => ?_)
 refine A1A ?_
 refine A1a (rT rfl) (rT rfl) (rT rfl) (rT rfl) ?_
 (exact A0P.mk (by rw [hrun]; exact B3q hvl hc1 zO0))
 refine D4 ?_
 refine zf0 (fun h185 => ?_) (fun h185 => ?_)
 refine A1A ?_
 refine A1a (rT rfl) (rT rfl) (rT rfl) (rT rfl) ?_
 (exact A0P.mk (by rw [hrun]; exact B3r hvl hc1 zO0 zO0))
 refine E1 ?_
 refine sL (A3 rfl rfl (B9 zG0) hnl) rfl rfl ?_
 refine Y2 rfl rfl rfl hnl hno2 rfl zC0 (by exact E0 (hul.trans hnl.symm)) ?_
 refine B6 ?_
 refine sL (A3 rfl rfl (B9 zG0) hnl) rfl rfl ?_
 refine F0 rfl ((B3x _ _ _ hrn)) rfl rfl ?_
 refine B8 ?_
 refine zf17 (fun h232 => ?_) (fun h232 => ?_)
 refine J3 ?_
 refine zf4 ?_
 refine A5 ?_
 (have hzz9 : h < t.stp.1.nt.hs := zO0; refine J7 (s + 1, t.stp.1, nc, t.stp.1.nt.hs, G3) ?_ ?_ ?_)
 (simp only [J5]; exact E3)
 (dsimp only; exact ⟨by omega, by rw [hrun, A8D hvl hc1 zO0 zO0, show F - (s + 1) = F - s - 1 by omega], A8E hT hvl hc1, hok.1, by omega, hrn, hlei.trans hle3⟩)
 (show F - (s + 1) < F - s; omega)
 refine D4 ?_
 refine zf4 ?_
 refine A5 ?_
 refine J7 (s + 1, t.stp.1, nc, h, G3) ?_ ?_ ?_
 (simp only [J5]; exact E3)
 (dsimp only; exact ⟨by omega, by rw [hrun, A8D hvl hc1 zO0 zO0, show F - (s + 1) = F - s - 1 by omega], A8E hT hvl hc1, hok.1, by omega, hrn, hlei.trans hle3⟩)
 (show F - (s + 1) < F - s; omega)
 refine B1 ?_
 refine sL (A3 rfl rfl (B9 zG0) hul) rfl rfl ?_
 refine F0 rfl ((B9u t Gi uc hvl hnk hru)) rfl rfl ?_
 refine K7 ?_
 refine A1a (rT rfl) (rT rfl) (rT rfl) (rT rfl) ?_
 (exact A0P.mk (by rw [hrun]; exact B3o hvl))
theorem B9L (e : Tm) (fuel : Int) (G : IM) (cells : List Value) (hcnt : H9 e ≤ 4294967296) (hr : B7 G e cells) : Fn prog 14 [.agg ⟨cells⟩, .int .i64 fuel] [] G (A8h (A12 e fuel) G) := by
 have hRl := hr.len
 have hRo := hr.one
 have hno := @A8B e fuel
 have hys := fun u t => @A8C e u t fuel
 refine C4 func14 rfl ntmps14 results14 rfl ?_
 intro w0
 refine A5 ?_
 refine zf2 (fun b3 => ?_)
 refine B8 ?_
 refine sL (A3 rfl rfl (B9 zG0) hRl) rfl rfl ?_
 focus (refine H6 rfl (B8k e G cells hcnt hr) rfl rfl (fun v G1 hle1 hh => ?_); obtain ⟨cu, ct, rfl, hru, hrt⟩ := hh; rcases hI : S4 e with _ | ⟨u, t⟩; rotate_left; rw [hI] at hru hrt; simp only [Option.getD_some] at hru hrt; rotate_left; rw [hI] at hru hrt; simp only [Option.getD_none] at hru hrt; simp only [Option.isSome]; rotate_left; simp only [Option.isSome]; rotate_left; all_goals (have hul := hru.len; have huo := hru.one; obtain ⟨p3, c3, e3, rfl, _⟩ := hrt.open))
 refine B6 ?_
 refine zf1 (fun b17 => ?_)
 refine zf1 (fun b18 => ?_)
 refine sS rfl rfl rfl hul huo rfl ?_ (hu := by exact E0 hul.symm)
 refine A1i ?_
 refine zf22 ?_
 (exact ⟨rfl, by rw [hno (by first | exact hI | rfl | assumption)]⟩)
 refine B6 ?_
 refine zf1 (fun b47 => ?_)
 refine zf1 (fun b48 => ?_)
 refine sS rfl rfl rfl hul huo rfl ?_ (hu := by exact E0 hul.symm)
 refine L9 ?_
 refine sL (A3 rfl rfl (B9 zG0) hul) rfl rfl ?_
 refine I0 ?_
 (obtain ⟨hcv, hct, _⟩ := A45 hI; obtain ⟨A, _, hsp⟩ := spT hcv hct; refine H6 rfl (B9K u _ A fuel G1 cu hcv hsp hru) rfl rfl (fun v G2 hle2 hh => ?_); obtain ⟨h, rfl⟩ := hh)
 refine A2H ?_
 refine zf22 ?_
 (exact ⟨rfl, by rw [hys _ _ hI]⟩)
end Gw
end Go.Proofs.YtmceanphadildaaGreatDoor
namespace Go.Proofs.YtmceanphadildaaGreatDoor
namespace Gw
inductive WW : GC → TH → TH → GT → Prop
 | var {Γ x A} : Γ x = some (A, A) → WW Γ (.var x) (.var x) A
 | num {Γ n} : WW Γ (.num n) (.num n) .int
 | tru {Γ b} : WW Γ (.tru b) (.tru b) .bool
 | lam {Γ x A B e e'} : WW (O8 Γ x A A) e e' B → WW Γ (.lam x A e) (.lam x A e') (.fn A B)
 | app {Γ f a f' a' A B} : WW Γ f f' (.fn A B) → WW Γ a a' A → WW Γ (.app f a) (.app f' a') B
 | ar {Γ s a b a' b' T} : WW Γ a a' .int → WW Γ b b' .int → T = A3O s → WW Γ (.ar s a b) (.ar s a' b') T
 | ite {Γ c a b c' a' b' A} : WW Γ c c' .bool → WW Γ a a' A → WW Γ b b' A → WW Γ (.ite c a b) (.ite c' a' b') A
 | pair {Γ a b a' b' A B} : WW Γ a a' A → WW Γ b b' B → WW Γ (.pair a b) (.pair a' b') (.pr A B)
 | part {Γ s e e' A B T} : WW Γ e e' (.pr A B) → T = (if s = true then B else A) → WW Γ (.part s e) (.part s e') T
 | conv {Γ c e e' A B} : WW Γ e e' A → CT c A B → WW Γ (.conv c e) (.conv c e') B
 | mrg {Γ c d e u A B} : WW Γ e (.conv d u) A → CT c A B → WW Γ (.conv c e) (.conv (cmp d c) u) B
 | idr {Γ c t t' A} : WW Γ t t' A → CT c A A → c.idn = true → WW Γ t (.conv c t') A
variable {A : GT} {t t' : TH} {Γ : GC}
theorem WW.L (h : WW Γ t t' A) : ST Γ t A := by
 induction h with
 | var h => exact .var h
 | num => exact .num
 | tru => exact .tru
 | lam _ i => exact .lam i
 | app _ _ i j => exact .app i j
 | ar _ _ hT i j => exact .ar i j hT
 | ite _ _ _ i j k => exact .ite i j k
 | pair _ _ i j => exact .pair i j
 | part _ hT i => exact .part i hT
 | conv _ c i => exact .conv i c
 | mrg _ c i => exact .conv i c
 | idr _ _ _ i => exact i
theorem WW.R (h : WW Γ t t' A) : ST Γ t' A := by
 induction h with
 | var h => exact .var h
 | num => exact .num
 | tru => exact .tru
 | lam _ i => exact .lam i
 | app _ _ i j => exact .app i j
 | ar _ _ hT i j => exact .ar i j hT
 | ite _ _ _ i j k => exact .ite i j k
 | pair _ _ i j => exact .pair i j
 | part _ hT i => exact .part i hT
 | conv _ c i => exact .conv i c
 | mrg _ c i => obtain ⟨X, h1, h2⟩ := A0K i; exact .conv h1 (h2.cmp c)
 | idr _ c _ i => exact .conv i c
theorem WW.refl {Γ : GC} {t : TH} {A : GT} (h : ST Γ t A) : WW Γ t t A := by
 induction h with
 | var h => exact .var h
 | num => exact .num
 | tru => exact .tru
 | lam _ i => exact .lam i
 | app _ _ i j => exact .app i j
 | ar _ _ hT i j => exact .ar i j hT
 | ite _ _ _ i j k => exact .ite i j k
 | pair _ _ i j => exact .pair i j
 | part _ hT i => exact .part i hT
 | conv _ c i => exact .conv i c
variable {e : TH}
theorem WW.weak {e' : TH} (h : WW Γ e e' A) : ∀ {Δ : GC}, (∀ y p, Γ y = some p → Δ y = some p) → WW Δ e e' A := by
 induction h with
 | var h => intro Δ hD; exact .var (hD _ _ h)
 | num => intro _ _; exact .num
 | tru => intro _ _; exact .tru
 | lam _ i =>
  intro Δ hD
  refine .lam (i fun y p hy => ?_)
  unfold O8 at hy ⊢
  split
  ·rename_i h; rw [if_pos h] at hy; exact hy
  ·rename_i h; rw [if_neg h] at hy; exact hD _ _ hy
 | app _ _ i j => intro Δ hD; exact .app (i hD) (j hD)
 | ar _ _ hT i j => intro Δ hD; exact .ar (i hD) (j hD) hT
 | ite _ _ _ i j k => intro Δ hD; exact .ite (i hD) (j hD) (k hD)
 | pair _ _ i j => intro Δ hD; exact .pair (i hD) (j hD)
 | part _ hT i => intro Δ hD; exact .part (i hD) hT
 | conv _ c i => intro Δ hD; exact .conv (i hD) c
 | mrg _ c i => intro Δ hD; exact .mrg (i hD) c
 | idr _ c h i => intro Δ hD; exact .idr (i hD) c h
theorem WW.sub {x : ByteArray} {v v' : TH} {A : GT} (hv : WW D1 v v' A) {Γ : GC} {e e' : TH} {B : GT} (h : WW Γ e e' B) :
  ∀ {Δ : GC}, (∀ y, x ≠ y → Γ y = Δ y) → Γ x = some (A, A) → WW Δ (e.sub x v) (e'.sub x v') B := by
 induction h with
 | @var Γ y C hy =>
  intro Δ hD hx
  simp only [TH.sub]
  split
  ·rename_i he
   subst he
   rw [hx] at hy
   cases hy
   exact hv.weak fun z p hz => by cases hz
  ·rename_i he
   exact .var (by rw [← hD y (fun e => he e.symm)]; exact hy)
 | num => intro _ _ _; exact .num
 | tru => intro _ _ _; exact .tru
 | @lam Γ y C D e e' h i =>
  intro Δ hD hx
  simp only [TH.sub]
  by_cases he : y = x
  ·rw [if_pos he, if_pos he]
   refine .lam (h.weak fun z p hz => ?_)
   unfold O8 at hz ⊢
   split
   ·rename_i h2; rw [if_pos h2] at hz; exact hz
   ·rename_i h2; rw [if_neg h2] at hz; rw [← hD z (fun e => h2 (he.trans e))]; exact hz
  ·rw [if_neg he, if_neg he]
   refine .lam (i (fun z hz => ?_) ?_)
   ·unfold O8
    split
    ·rfl
    ·exact hD z hz
   ·unfold O8; rw [if_neg he]; exact hx
 | app _ _ i j => intro Δ hD hx; exact .app (i hD hx) (j hD hx)
 | ar _ _ hT i j => intro Δ hD hx; exact .ar (i hD hx) (j hD hx) hT
 | ite _ _ _ i j k => intro Δ hD hx; exact .ite (i hD hx) (j hD hx) (k hD hx)
 | pair _ _ i j => intro Δ hD hx; exact .pair (i hD hx) (j hD hx)
 | part _ hT i => intro Δ hD hx; exact .part (i hD hx) hT
 | conv _ c i => intro Δ hD hx; exact .conv (i hD hx) c
 | mrg _ c i => intro Δ hD hx; exact .mrg (i hD hx) c
 | idr _ c h i => intro Δ hD hx; exact .idr (i hD hx) c h
variable {B : GT}
theorem WW.bsub {x : ByteArray} {v v' e' : TH} (hv : WW D1 v v' A) (h : WW (O8 D1 x A A) e e' B) : WW D1 (e.sub x v) (e'.sub x v') B :=
 hv.sub h (fun y hy => by unfold O8; rw [if_neg hy]) (by unfold O8; rw [if_pos rfl])
inductive W1 : TH → TH → GT → Prop
 | num {n : _} : W1 (.num n) (.num n) .int
 | tru {b : _} : W1 (.tru b) (.tru b) .bool
 | lam {x A B e e' : _} : WW (O8 D1 x A A) e e' B → W1 (.lam x A e) (.lam x A e') (.fn A B)
 | app {f a f' a' A B : _} : WW D1 f f' (.fn A B) → WW D1 a a' A → W1 (.app f a) (.app f' a') B
 | ar {s a b a' b' T : _} : WW D1 a a' .int → WW D1 b b' .int → T = A3O s → W1 (.ar s a b) (.ar s a' b') T
 | ite {c a b c' a' b' A : _} : WW D1 c c' .bool → WW D1 a a' A → WW D1 b b' A → W1 (.ite c a b) (.ite c' a' b') A
 | pair {a b a' b' A B : _} : WW D1 a a' A → WW D1 b b' B → W1 (.pair a b) (.pair a' b') (.pr A B)
 | part {s e e' A B T : _} : WW D1 e e' (.pr A B) → T = (if s = true then B else A) → W1 (.part s e) (.part s e') T
 | conv {c e e' A B : _} : WW D1 e e' A → CT c A B → W1 (.conv c e) (.conv c e') B
 | mrg {c d e u A B : _} : WW D1 e (.conv d u) A → CT c A B → W1 (.conv c e) (.conv (cmp d c) u) B
theorem WW.peel (h : WW Γ t t' A) : Γ = D1 → ∀ (P : TH → Prop), (∀ t0, W1 t t0 A → P t0) → (∀ t0 c, WW D1 t t0 A → P t0 → CT c A A → c.idn = true → P (.conv c t0)) → P t' := by
 induction h with
 | var h => intro hE; subst hE; cases h
 | num => intro _ P h1 _; exact h1 _ .num
 | tru => intro _ P h1 _; exact h1 _ .tru
 | lam h _ => intro hE P h1 _; subst hE; exact h1 _ (.lam h)
 | app h h' _ _ => intro hE P h1 _; subst hE; exact h1 _ (.app h h')
 | ar h h' hT _ _ => intro hE P h1 _; subst hE; exact h1 _ (.ar h h' hT)
 | ite h h' h'' _ _ _ => intro hE P h1 _; subst hE; exact h1 _ (.ite h h' h'')
 | pair h h' _ _ => intro hE P h1 _; subst hE; exact h1 _ (.pair h h')
 | part h hT _ => intro hE P h1 _; subst hE; exact h1 _ (.part h hT)
 | conv h c _ => intro hE P h1 _; subst hE; exact h1 _ (.conv h c)
 | mrg h c _ => intro hE P h1 _; subst hE; exact h1 _ (.mrg h c)
 | idr h c hi i => intro hE P h1 h2; subst hE; exact h2 _ _ h (i rfl P h1 h2) c hi
inductive WR (A : GT) : Rs → Rs → Prop
 | v {t t' : _} : WW D1 t t' A → WR A (.v t) (.v t')
 | b {l : _} : WR A (.b l) (.b l)
variable {x' : TH}
theorem A5e {x : TH} (h : WW D1 x x' A) (hv : x.val = true) (hv' : x'.val = true) :
  (x.cnv = false ∧ x'.cnv = false) ∨ (x.cnv = false ∧ ∃ c u', x' = .conv c u' ∧ u'.cnv = false ∧ c.idn = true ∧ CT c A A ∧ WW D1 x u' A) ∨
  (∃ c u u' X, x = .conv c u ∧ x' = .conv c u' ∧ u.cnv = false ∧ u'.cnv = false ∧ CT c X A ∧ WW D1 u u' X) := by
 cases hc : x.cnv with
 | false =>
  cases h with
  | idr h1 h2 h3 => exact .inr (.inl ⟨rfl, _, _, rfl, A1l (A0x hv').2, h3, h2, h1⟩)
  | conv _ _ => cases hc
  | mrg _ _ => cases hc
  | _ => exact .inl ⟨rfl, rfl⟩
 | true =>
  cases x <;> first | cases hc | skip
  rename_i c u
  have hu := A1l (A0x hv).2
  refine .inr (.inr ?_)
  cases h with
  | conv h1 h2 => exact ⟨c, u, _, _, rfl, rfl, hu, A1l (A0x hv').2, h2, h1⟩
  | mrg h1 h2 =>
   have hu' := A1l (A0x hv').2
   cases h1 with
   | conv _ _ => cases hu
   | mrg _ _ => cases hu
   | idr h3 h4 h5 => exact ⟨c, u, _, _, rfl, by rw [A94 h2 h4 h5], hu, hu', h2, h3⟩
  | idr h1 h2 h3 =>
   have hu' := A1l (A0x hv').2
   cases h1 <;> cases hu'
variable {r : Rs} {c : GK}
theorem A8M {u u' : TH} (h : WW D1 u u' A) (hc : CT c A B) (hf : fin u c = some r) : ∃ r', fin u' c = some r' ∧ WR B r r' := by
 cases c with
 | ida => cases hf; cases hc; exact ⟨_, rfl, .v h⟩
 | idi => cases hf; cases hc; exact ⟨_, rfl, .v h⟩
 | idb => cases hf; cases hc; exact ⟨_, rfl, .v h⟩
 | fl l t => cases hf; exact ⟨_, rfl, .b⟩
 | prj l c => cases hf
 | inj c => cases hf; exact ⟨_, rfl, .v (.conv h hc)⟩
 | fn c d => cases hf; exact ⟨_, rfl, .v (.conv h hc)⟩
 | pr c d => cases hf; exact ⟨_, rfl, .v (.conv h hc)⟩
theorem A3z {x : TH} {k : GK} (h : WW D1 x x' A) (hv : x.val = true) (hv' : x'.val = true) (hk : CT k A B) (hf : Z2 k x = some r) : ∃ r', Z2 k x' = some r' ∧ WR B r r' := by
 rcases A5e h hv hv' with ⟨h1, h2⟩ | ⟨h1, c, u', rfl, h3, h4, h5, h6⟩ | ⟨c, u, u', X, rfl, rfl, h1, h2, h3, h4⟩
 ·rw [A0V h1] at hf; rw [A0V h2]; exact A8M h hk hf
 ·rw [A0V h1] at hf
  show ∃ r', fin u' (cmp c k) = some r' ∧ _
  rw [A94 hk h5 h4]
  exact A8M h6 hk hf
 ·exact A8M h4 (h3.cmp hk) hf
theorem A5f {x : TH} (h : WW D1 x x' A) (hv' : x'.val = true) (hc : CT c A A) (hi : c.idn = true) (hf : Z2 c x' = some r) : WR A (.v x) r := by
 rcases B5y hv' h.R hc hi hf with rfl | ⟨rfl, _⟩
 ·exact .v h
 ·exact .v (.idr h hc hi)
theorem WR.v_inv (h : WR A (.v t) r) : ∃ t', r = .v t' ∧ WW D1 t t' A := by cases h with | v h => exact ⟨_, rfl, h⟩
variable {l : Int}
theorem WR.b_inv (h : WR A (.b l) r) : r = .b l := by cases h; rfl
theorem Y0 {t0 : TH} (h0 : WW D1 t t0 A) (hp : ∃ r', F9 t0 r' ∧ WR A r r') (hc : CT c A A) (hi : c.idn = true) : ∃ r', F9 (.conv c t0) r' ∧ WR A r r' := by
 obtain ⟨r', e1, q1⟩ := hp
 cases q1 with
 | b => exact ⟨_, .conv1 e1, .b⟩
 | v q1 =>
  obtain ⟨t1, t2⟩ := e1.T h0.R _ rfl
  obtain ⟨r2, g1, _⟩ := A1P t2 t1 hc
  exact ⟨r2, .conv e1 g1, A5f q1 t2 hc hi g1⟩
variable {y : TH}
theorem B9M {x : ByteArray} {C : GT} (h : WW D1 (.lam x A e) y (.fn C B)) (hv : y.val = true) : A = C ∧ ((∃ e', y = .lam x A e' ∧ WW (O8 D1 x A A) e e' B) ∨ ∃ c d e', y = .conv (.fn c d) (.lam x A e') ∧ c.idn = true ∧ d.idn = true ∧ CT c C C ∧ CT d B B ∧ WW (O8 D1 x A A) e e' B) := by
 cases h with
 | lam h => exact ⟨rfl, .inl ⟨_, rfl, h⟩⟩
 | idr h hc hi =>
  have hu := A1l (A0x hv).2
  cases h with
  | lam h =>
   refine ⟨rfl, .inr ?_⟩
   cases hc with
   | fn k1 k2 => rw [GK.idn, Bool.and_eq_true] at hi; exact ⟨_, _, _, rfl, hi.1, hi.2, k1, k2, h⟩
   | _ => cases hi
  | idr _ _ _ => cases hu
theorem B9N {a b : TH} (h : WW D1 (.pair a b) y (.pr A B)) (hv : y.val = true) : (∃ a' b', y = .pair a' b' ∧ WW D1 a a' A ∧ WW D1 b b' B) ∨ ∃ c d a' b', y = .conv (.pr c d) (.pair a' b') ∧ c.idn = true ∧ d.idn = true ∧ CT c A A ∧ CT d B B ∧ WW D1 a a' A ∧ WW D1 b b' B := by
 cases h with
 | pair h h' => exact .inl ⟨_, _, rfl, h, h'⟩
 | idr h hc hi =>
  have hu := A1l (A0x hv).2
  refine .inr ?_
  cases h with
  | pair h h' =>
   cases hc with
   | pr k1 k2 => rw [GK.idn, Bool.and_eq_true] at hi; exact ⟨_, _, _, _, rfl, hi.1, hi.2, k1, k2, h, h'⟩
   | _ => cases hi
  | idr _ _ _ => cases hu
theorem B3K {n : Int} (h : WW D1 (.num n) y .int) (hv : y.val = true) : y = .num n := by
 cases h with
 | num => rfl
 | idr h hc hi => cases hc <;> first | (cases hi; done) | (have := (A0x hv).1; cases this)
theorem B9O {n : Bool} (h : WW D1 (.tru n) y .bool) (hv : y.val = true) : y = .tru n := by
 cases h with
 | tru => rfl
 | idr h hc hi => cases hc <;> first | (cases hi; done) | (have := (A0x hv).1; cases this)
theorem WW.ev (h : F9 t r) : ∀ {t' A}, WW D1 t t' A → ∃ r', F9 t' r' ∧ WR A r r' := by
 induction h with
 | num =>
  intro t' A h
  refine h.peel rfl _ (fun t0 h1 => ?_) (fun t0 c h0 hp hc hi => Y0 h0 hp hc hi)
  cases h1; exact ⟨_, .num, .v .num⟩
 | tru =>
  intro t' A h
  refine h.peel rfl _ (fun t0 h1 => ?_) (fun t0 c h0 hp hc hi => Y0 h0 hp hc hi)
  cases h1; exact ⟨_, .tru, .v .tru⟩
 | lam =>
  intro t' A h
  refine h.peel rfl _ (fun t0 h1 => ?_) (fun t0 c h0 hp hc hi => Y0 h0 hp hc hi)
  cases h1 with | lam h1 => exact ⟨_, .lam, .v (.lam h1)⟩
 | pair _ _ i j =>
  intro t' A h
  refine h.peel rfl _ (fun t0 h1 => ?_) (fun t0 c h0 hp hc hi => Y0 h0 hp hc hi)
  cases h1 with | pair u1 u2 =>
  obtain ⟨r1, e1, q1⟩ := i u1
  obtain ⟨x1, rfl, p1⟩ := q1.v_inv
  obtain ⟨r2, e2, q2⟩ := j u2
  obtain ⟨x2, rfl, p2⟩ := q2.v_inv
  exact ⟨_, .pair e1 e2, .v (.pair p1 p2)⟩
 | pair1 _ i =>
  intro t' A h
  refine h.peel rfl _ (fun t0 h1 => ?_) (fun t0 c h0 hp hc hi => Y0 h0 hp hc hi)
  cases h1 with | pair u1 u2 =>
  obtain ⟨r1, e1, q1⟩ := i u1
  obtain rfl := q1.b_inv
  exact ⟨_, .pair1 e1, .b⟩
 | pair2 _ _ i j =>
  intro t' A h
  refine h.peel rfl _ (fun t0 h1 => ?_) (fun t0 c h0 hp hc hi => Y0 h0 hp hc hi)
  cases h1 with | pair u1 u2 =>
  obtain ⟨r1, e1, q1⟩ := i u1
  obtain ⟨x1, rfl, p1⟩ := q1.v_inv
  obtain ⟨r2, e2, q2⟩ := j u2
  obtain rfl := q2.b_inv
  exact ⟨_, .pair2 e1 e2, .b⟩
 | @conv c e x r he hc i =>
  intro t' A h
  refine h.peel rfl _ (fun t0 h1 => ?_) (fun t0 c h0 hp hc hi => Y0 h0 hp hc hi)
  cases h1 with
  | conv u1 k1 =>
   obtain ⟨v1, v2⟩ := he.T u1.L _ rfl
   obtain ⟨r1, e1, q1⟩ := i u1
   obtain ⟨x1, rfl, p1⟩ := q1.v_inv
   obtain ⟨r', e2, q2⟩ := A3z p1 v2 (e1.T u1.R _ rfl).2 k1 hc
   exact ⟨r', .conv e1 e2, q2⟩
  | mrg u1 k1 =>
   obtain ⟨v1, v2⟩ := he.T u1.L _ rfl
   obtain ⟨r1, e1, q1⟩ := i u1
   obtain ⟨x1, rfl, p1⟩ := q1.v_inv
   obtain ⟨r', e2, q2⟩ := A3z p1 v2 (e1.T u1.R _ rfl).2 k1 hc
   obtain ⟨C, t3, t4⟩ := A0K u1.R
   exact ⟨r', A7p t3 t4 k1 (.conv e1 e2), q2⟩
 | conv1 he i =>
  intro t' A h
  refine h.peel rfl _ (fun t0 h1 => ?_) (fun t0 c h0 hp hc hi => Y0 h0 hp hc hi)
  cases h1 with
  | conv u1 k1 =>
   obtain ⟨r1, e1, q1⟩ := i u1
   obtain rfl := q1.b_inv
   exact ⟨_, .conv1 e1, .b⟩
  | mrg u1 k1 =>
   obtain ⟨r1, e1, q1⟩ := i u1
   obtain rfl := q1.b_inv
   obtain ⟨C, t3, t4⟩ := A0K u1.R
   exact ⟨_, A7p t3 t4 k1 (.conv1 e1), .b⟩
 | @app f a x A e w r hf ha hb i j k =>
  intro t' B h
  refine h.peel rfl _ (fun t0 h1 => ?_) (fun t0 c h0 hp hc hi => Y0 h0 hp hc hi)
  cases h1 with | app u1 u2 =>
  obtain ⟨r1, e1, q1⟩ := i u1
  obtain ⟨y, rfl, p1⟩ := q1.v_inv
  obtain ⟨r2, e2, q2⟩ := j u2
  obtain ⟨w', rfl, p2⟩ := q2.v_inv
  obtain ⟨rfl, hy⟩ := B9M p1 (e1.T u1.R _ rfl).2
  rcases hy with ⟨e', rfl, he⟩ | ⟨c, d, e', rfl, hic, hid, k1, k2, he⟩
  ·obtain ⟨r', e3, q3⟩ := k (p2.bsub he)
   exact ⟨r', .app e1 e2 e3, q3⟩
  ·obtain ⟨t1, t2⟩ := e2.T u2.R _ rfl
   obtain ⟨z, g1, _⟩ := A1P t2 t1 k1
   obtain ⟨z', rfl, g2⟩ := (A5f p2 t2 k1 hic g1).v_inv
   obtain ⟨r', e3, q3⟩ := k (g2.bsub he)
   cases q3 with
   | b => exact ⟨_, .appc e1 e2 g1 e3 rfl, .b⟩
   | v q3 =>
    obtain ⟨t3, t4⟩ := e3.T (g2.bsub he).R _ rfl
    obtain ⟨r4, g4, _⟩ := A1P t4 t3 k2
    exact ⟨r4, .appc e1 e2 g1 e3 g4, A5f q3 t4 k2 hid g4⟩
 | @appc f a c d x A e w z r r' hf ha hc hb hd i j k =>
  intro t' B h
  refine h.peel rfl _ (fun t0 h1 => ?_) (fun t0 c h0 hp hc hi => Y0 h0 hp hc hi)
  cases h1 with | app u1 u2 =>
  obtain ⟨r1, e1, q1⟩ := i u1
  obtain ⟨y, rfl, p1⟩ := q1.v_inv
  obtain ⟨r2, e2, q2⟩ := j u2
  obtain ⟨w', rfl, p2⟩ := q2.v_inv
  have hfv := (hf.T u1.L _ rfl).2
  rcases A5e p1 hfv (e1.T u1.R _ rfl).2 with ⟨h0, _⟩ | ⟨h0, _⟩ | ⟨c', u, u', X, hE, rfl, h1, h2, h3, h4⟩
  ·cases h0
  ·cases h0
  ·cases hE
   cases h4 with
   | idr _ _ _ => cases h2
   | lam he => cases h3 with
    | fn k1 k2 =>
     obtain ⟨rz, e4, q4⟩ := A3z p2 (ha.T u2.L _ rfl).2 (e2.T u2.R _ rfl).2 k1 hc
     obtain ⟨z', rfl, p4⟩ := q4.v_inv
     obtain ⟨r3, e3, q3⟩ := k (p4.bsub he)
     cases q3 with
     | v q3 =>
      obtain ⟨r6, e6, q6⟩ := A3z q3 (hb.T (p4.bsub he).L _ rfl).2 (e3.T (p4.bsub he).R _ rfl).2 k2 hd
      exact ⟨r6, .appc e1 e2 e4 e3 e6, q6⟩
     | b => cases hd; exact ⟨_, .appc e1 e2 e4 e3 rfl, .b⟩
 | @appb f a c d x A e w l hf ha hc i j =>
  intro t' B h
  refine h.peel rfl _ (fun t0 h1 => ?_) (fun t0 c h0 hp hc hi => Y0 h0 hp hc hi)
  cases h1 with | app u1 u2 =>
  obtain ⟨r1, e1, q1⟩ := i u1
  obtain ⟨y, rfl, p1⟩ := q1.v_inv
  obtain ⟨r2, e2, q2⟩ := j u2
  obtain ⟨w', rfl, p2⟩ := q2.v_inv
  have hfv := (hf.T u1.L _ rfl).2
  rcases A5e p1 hfv (e1.T u1.R _ rfl).2 with ⟨h0, _⟩ | ⟨h0, _⟩ | ⟨c', u, u', X, hE, rfl, h1, h2, h3, h4⟩
  ·cases h0
  ·cases h0
  ·cases hE
   cases h4 with
   | idr _ _ _ => cases h2
   | lam he => cases h3 with
    | fn k1 k2 =>
     obtain ⟨rz, e4, q4⟩ := A3z p2 (ha.T u2.L _ rfl).2 (e2.T u2.R _ rfl).2 k1 hc
     obtain rfl := q4.b_inv
     exact ⟨_, .appb e1 e2 e4, .b⟩
 | app1 _ i =>
  intro t' B h
  refine h.peel rfl _ (fun t0 h1 => ?_) (fun t0 c h0 hp hc hi => Y0 h0 hp hc hi)
  cases h1 with | app u1 u2 =>
  obtain ⟨r1, e1, q1⟩ := i u1
  obtain rfl := q1.b_inv
  exact ⟨_, .app1 e1, .b⟩
 | app2 _ _ i j =>
  intro t' B h
  refine h.peel rfl _ (fun t0 h1 => ?_) (fun t0 c h0 hp hc hi => Y0 h0 hp hc hi)
  cases h1 with | app u1 u2 =>
  obtain ⟨r1, e1, q1⟩ := i u1
  obtain ⟨y, rfl, p1⟩ := q1.v_inv
  obtain ⟨r2, e2, q2⟩ := j u2
  obtain rfl := q2.b_inv
  exact ⟨_, .app2 e1 e2, .b⟩
 | @ar s a b m n _ _ i j =>
  intro t' B h
  refine h.peel rfl _ (fun t0 h1 => ?_) (fun t0 c h0 hp hc hi => Y0 h0 hp hc hi)
  cases h1 with | ar u1 u2 hT =>
  subst hT
  obtain ⟨r1, e1, q1⟩ := i u1
  obtain ⟨x1, rfl, p1⟩ := q1.v_inv
  obtain rfl := B3K p1 (e1.T u1.R _ rfl).2
  obtain ⟨r2, e2, q2⟩ := j u2
  obtain ⟨x2, rfl, p2⟩ := q2.v_inv
  obtain rfl := B3K p2 (e2.T u2.R _ rfl).2
  refine ⟨_, .ar e1 e2, .v ?_⟩
  unfold arT
  cases s
  ·exact .num
  ·exact .tru
 | ar1 _ i =>
  intro t' B h
  refine h.peel rfl _ (fun t0 h1 => ?_) (fun t0 c h0 hp hc hi => Y0 h0 hp hc hi)
  cases h1 with | ar u1 u2 hT =>
  obtain ⟨r1, e1, q1⟩ := i u1
  obtain rfl := q1.b_inv
  exact ⟨_, .ar1 e1, .b⟩
 | ar2 _ _ i j =>
  intro t' B h
  refine h.peel rfl _ (fun t0 h1 => ?_) (fun t0 c h0 hp hc hi => Y0 h0 hp hc hi)
  cases h1 with | ar u1 u2 hT =>
  obtain ⟨r1, e1, q1⟩ := i u1
  obtain ⟨x1, rfl, p1⟩ := q1.v_inv
  obtain ⟨r2, e2, q2⟩ := j u2
  obtain rfl := q2.b_inv
  exact ⟨_, .ar2 e1 e2, .b⟩
 | @ite c a b s r _ _ i j =>
  intro t' B h
  refine h.peel rfl _ (fun t0 h1 => ?_) (fun t0 c h0 hp hc hi => Y0 h0 hp hc hi)
  cases h1 with | ite u1 u2 u3 =>
  obtain ⟨r1, e1, q1⟩ := i u1
  obtain ⟨x1, rfl, p1⟩ := q1.v_inv
  obtain rfl := B9O p1 (e1.T u1.R _ rfl).2
  cases s with
  | true => obtain ⟨r2, e2, q2⟩ := j u2; exact ⟨r2, .ite e1 e2, q2⟩
  | false => obtain ⟨r2, e2, q2⟩ := j u3; exact ⟨r2, .ite e1 e2, q2⟩
 | ite1 _ i =>
  intro t' B h
  refine h.peel rfl _ (fun t0 h1 => ?_) (fun t0 c h0 hp hc hi => Y0 h0 hp hc hi)
  cases h1 with | ite u1 u2 u3 =>
  obtain ⟨r1, e1, q1⟩ := i u1
  obtain rfl := q1.b_inv
  exact ⟨_, .ite1 e1, .b⟩
 | @part s e a b r he hr i =>
  intro t' B h
  subst hr
  refine h.peel rfl _ (fun t0 h1 => ?_) (fun t0 c h0 hp hc hi => Y0 h0 hp hc hi)
  cases h1 with | part u1 hT =>
  subst hT
  obtain ⟨r1, e1, q1⟩ := i u1
  obtain ⟨x1, rfl, p1⟩ := q1.v_inv
  have hxv := (e1.T u1.R _ rfl).2
  rcases B9N p1 hxv with ⟨a', b', rfl, q2, q3⟩ | ⟨c, d, a', b', rfl, hic, hid, k1, k2, q2, q3⟩
  ·exact ⟨_, .part e1 rfl, .v (by cases s <;> assumption)⟩
  ·have hpl := (A0x hxv).2
   rw [TH.pln, Bool.and_eq_true] at hpl
   cases s with
   | true =>
    obtain ⟨z, g1, _⟩ := A1P hpl.2 q3.R k2
    exact ⟨z, .partc e1 g1, A5f q3 hpl.2 k2 hid g1⟩
   | false =>
    obtain ⟨z, g1, _⟩ := A1P hpl.1 q2.R k1
    exact ⟨z, .partc e1 g1, A5f q2 hpl.1 k1 hic g1⟩
 | @partc s e c d a b r he hr i =>
  intro t' B h
  refine h.peel rfl _ (fun t0 h1 => ?_) (fun t0 c h0 hp hc hi => Y0 h0 hp hc hi)
  cases h1 with | part u1 hT =>
  subst hT
  obtain ⟨r1, e1, q1⟩ := i u1
  obtain ⟨x1, rfl, p1⟩ := q1.v_inv
  have hxv := (e1.T u1.R _ rfl).2
  have hev := (he.T u1.L _ rfl).2
  rcases A5e p1 hev hxv with ⟨h0, _⟩ | ⟨h0, _⟩ | ⟨c', u, u', X, hE, rfl, h1, h2, h3, h4⟩
  ·cases h0
  ·cases h0
  ·cases hE
   have hp1 := (A0x hev).2
   have hp2 := (A0x hxv).2
   cases h4 with
   | idr _ _ _ => cases h2
   | pair q2 q3 => cases h3 with
    | pr k1 k2 =>
     rw [TH.pln, Bool.and_eq_true] at hp1 hp2
     cases s with
     | true => obtain ⟨r5, e5, q5⟩ := A3z q3 hp1.2 hp2.2 k2 hr; exact ⟨r5, .partc e1 e5, q5⟩
     | false => obtain ⟨r5, e5, q5⟩ := A3z q2 hp1.1 hp2.1 k1 hr; exact ⟨r5, .partc e1 e5, q5⟩
 | part1 _ i =>
  intro t' B h
  refine h.peel rfl _ (fun t0 h1 => ?_) (fun t0 c h0 hp hc hi => Y0 h0 hp hc hi)
  cases h1 with | part u1 hT =>
  obtain ⟨r1, e1, q1⟩ := i u1
  obtain rfl := q1.b_inv
  exact ⟨_, .part1 e1, .b⟩
end Gw
end Go.Proofs.YtmceanphadildaaGreatDoor
