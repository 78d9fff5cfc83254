/-
  Terms with casts read off their nodes; what EvalSpace, TermHeight and RunSpace g.
-/
import Derived.Test.YtmceanphadildaaGreatDoorKb6
import Derived.Test.YtmceanphadildaaGreatDoorKb5
import Derived.Test.YtmceanphadildaaGreatDoorKb4
set_option linter.unusedVariables false
set_option linter.unusedSimpArgs false
set_option maxHeartbeats 0
set_option maxRecDepth 100000
set_option synthInstance.maxSize 4000
set_option synthInstance.maxHeartbeats 0
namespace Go.Proofs.YtmceanphadildaaGreatDoor
open Go Go.RowKit
namespace Gw
def A0I (k : Int) (nm : ByteArray) (num : Int) (ty fr : GT) (lb : Int) (l : List GE) : GE :=
 let a := l.getD 0 (.num 0)
 let b := l.getD 1 (.num 0)
 if k = 1 then .var nm else if k = 2 then .num num else if k = 3 then .tru true else if k = 4 then .tru false
 else if k = 5 then .lam nm ty a else if k = 6 then .app a b else if k = 7 then .ar false a b else if k = 8 then .ar true a b
 else if k = 9 then .ite a b (l.getD 2 (.num 0)) else if k = 10 then .pair a b else if k = 11 then .part false a else if k = 12 then .part true a
 else .cast fr ty lb a
mutual
def Y5 : Tm → GE
 | .mk k nm num ty fr lb ks => A0I k nm num (Y3 ty) (Y3 fr) lb (A0r ks)
def A0r : List Tm → List GE
 | [] => []
 | t :: ts => Y5 t :: A0r ts
end
theorem B4v : ∀ g : GE, Y5 g.tm = g := by
 intro g
 induction g with
 | var x => simp [GE.tm, Y5, A0r, A0I]
 | num n => simp [GE.tm, Y5, A0r, A0I]
 | tru b => cases b <;> simp [GE.tm, Y5, A0r, A0I]
 | lam x A e i => simp [GE.tm, Y5, A0r, A0I, i, A0o]
 | app f a i j => simp [GE.tm, Y5, A0r, A0I, i, j]
 | ar s a b i j => cases s <;> simp [GE.tm, Y5, A0r, A0I, i, j]
 | ite c a b i j k => simp [GE.tm, Y5, A0r, A0I, i, j, k]
 | pair a b i j => simp [GE.tm, Y5, A0r, A0I, i, j]
 | part s e i => cases s <;> simp [GE.tm, Y5, A0r, A0I, i]
 | cast A B l e i => simp [GE.tm, Y5, A0r, A0I, i, A0o]
theorem A9y : ∀ g : GE, S6 g.tm = g.th.nt := by
 intro g
 induction g with
 | var x => rw [GE.tm, S6, N6, if_neg zU]; rfl
 | num n => rw [GE.tm, S6, N6, if_neg zU]; rfl
 | tru b => cases b <;> simp [GE.tm, S6, N6, TH.nt, GE.th, ByteArray.empty, ByteArray.emptyWithCapacity]
 | lam x A e i => rw [GE.tm, S6, N6, N6, if_neg zU, i]; rfl
 | app f a i j => rw [GE.tm, S6, N6, N6, N6, if_neg zU, i, j]; rfl
 | ar s a b i j => cases s <;> simp [GE.tm, S6, N6, TH.nt, GE.th, i, j]
 | ite c a b i j k => rw [GE.tm, S6, N6, N6, N6, N6, if_neg zU, i, j, k]; rfl
 | pair a b i j => rw [GE.tm, S6, N6, N6, N6, if_neg zU, i, j]; rfl
 | part s e i => cases s <;> simp [GE.tm, S6, N6, TH.nt, GE.th, i]
 | cast A B l e i => rw [GE.tm, S6, N6, N6, if_pos rfl, i, A0o, A0o]; rfl
structure SpT (e : Tm) (g : GE) (A : GT) : Prop where
 eq : e = g.tm
 st : ST M9 g.th A
 nk : g.th.nk
 z : g.th.z ≤ 200
 wt : WT M9 g A
theorem spT {e : Tm} {T : Ty} (hv : T5 e = true) (hT : M1 [] e = some T) : ∃ A, T = A.ty ∧ SpT e (Y5 e) A := by
 obtain ⟨hs, hc⟩ := (A3R e).1 hv
 obtain ⟨g, A, rfl, rfl, hw⟩ := B4n e 1 [] M9 T hs B36 hT
 rw [B4v]
 have hlk := B4r g (A28 hv).1
 exact ⟨A, rfl, ⟨rfl, B4p hw hlk, B4q hlk, by rw [← B4s]; exact hc, hw⟩⟩
def A0s (t : TH) (fuel : Int) : SRn := if 0 ≤ fuel ∧ fuel ≤ 300 then U6 fuel.toNat t else (⟨⟨[]⟩⟩, 3, 0)
def A2a (e : Tm) (fuel : Int) : SRn := match S4 e with
 | none => (⟨⟨[]⟩⟩, 3, 0)
 | some (u, _) => A0s (Y5 u).th fuel
theorem A9z {e : Tm} {fuel : Int} (h : S4 e = none) : A2a e fuel = (⟨⟨[]⟩⟩, 3, 0) := by unfold A2a; rw [h]
theorem A9A {e u : Tm} {t : Ty} {fuel : Int} (h : S4 e = some (u, t)) : A2a e fuel = A0s (Y5 u).th fuel := by unfold A2a; rw [h]
theorem A9B {n : Nat} {t : TH} (h : t.val = true) : U6 n t = (t.tx, 0, 0) := by cases n <;> (rw [U6, if_pos h])
theorem A9C {n : Nat} {t : TH} (h : t.val = false) (h2 : t.stp.2.1 ≠ 1) : U6 n t = (⟨⟨[]⟩⟩, t.stp.2.1, t.stp.2.2) := by cases n <;> (rw [U6, if_neg (by rw [h]; decide), if_pos h2])
theorem A9D {n : Nat} {t : TH} (h : t.val = false) (h2 : t.stp.2.1 = 1) (h3 : 200 < t.stp.1.z) : U6 n t = (⟨⟨[]⟩⟩, 4, 0) := by cases n <;> (rw [U6, if_neg (by rw [h]; decide), if_neg zV, if_pos h3])
theorem A9E {n : Nat} {t : TH} (h : t.val = false) (h2 : t.stp.2.1 = 1) (h3 : ¬200 < t.stp.1.z) (hn : n = 0) : U6 n t = (⟨⟨[]⟩⟩, 5, 0) := by subst hn; rw [U6, if_neg (by rw [h]; decide), if_neg zV, if_neg h3]
theorem A5W {n : Nat} {t : TH} (h : t.val = false) (h2 : t.stp.2.1 = 1) (h3 : ¬200 < t.stp.1.z) (hn : n ≠ 0) : U6 n t = U6 (n - 1) t.stp.1 := by
 obtain ⟨m, rfl⟩ : ∃ m, n = m + 1 := ⟨n - 1, by omega⟩
 rw [U6, if_neg (by rw [h]; decide), if_neg zV, if_neg h3]; rfl
theorem A5X {t : TH} {A : GT} (hT : ST M9 t A) (hv : t.val = false) (h : t.stp.2.1 = 1) : ST M9 t.stp.1 A := by
 rcases B1s hT rfl hv with ⟨_, _, h⟩ | ⟨h2, _⟩
 ·exact h
 ·rw [h] at h2; exact absurd h2 zU
def Y6 (r : SRn) : IM → Value → List A5 → Prop := K9 fun _ v => ∃ h : Int, v = .tuple ⟨[.string r.1, .int .i64 r.2.1, .int .i64 r.2.2, .int .i64 h]⟩
theorem Y6.mk {G : IM} {r : SRn} {s : ByteArray} {c l h : Int} (e : r = (s, c, l)) : Y6 r G (.tuple ⟨[.string s, .int .i64 c, .int .i64 l, .int .i64 h]⟩) [] := by subst e; exact ⟨rfl, h, rfl⟩
theorem A9F {t : TH} {fuel : Int} (h : Q6 fuel 0 300 = false) : A0s t fuel = (⟨⟨[]⟩⟩, 3, 0) := by
 unfold A0s; rw [if_neg (A6x h)]
theorem B4w (e : Tm) (g : GE) (A : GT) (fuel : Int) (G : IM) (cells : List Value) (hTab : A0z G) (hv : T5 e = true) (hs : SpT e g A) (hr : D1 G e cells) : Fn Tryz.prog 11 [.agg ⟨cells⟩, .int .i64 fuel] [] G (Y6 (A0s g.th fuel)) := by
 have hRl := hr.len
 have hRo := hr.one
 have hV := B1C e G cells hr
 rw [hv] at hV
 have hno := @A9F g.th fuel
 have hTo := B38 e G cells (A28 hv).1 hr
 have hmt : S6 e = g.th.nt := by rw [hs.eq, A9y]
 rw [hmt] at hTo
 obtain ⟨F, hF⟩ : ∃ F : Nat, Q6 fuel 0 300 = true → fuel = (F : Int) ∧ F ≤ 300 ∧ A0s g.th fuel = U6 F g.th := ⟨fuel.toNat, fun h => by
  have h2 := A40 h
  exact ⟨by omega, by omega, by unfold A0s; rw [if_pos h2]⟩⟩
 generalize A0s g.th fuel = R at hno hF ⊢
 refine D5 Tryz.func11 rfl Tryz.ntmps11 Tryz.results11 rfl ?_
 intro w0
 refine A3 ?_
 refine sE (D8 rfl rfl) rfl (fun b3 => ?_)
 refine C2 ?_
 refine sL (A2 rfl rfl (C9 zO) hRl) rfl rfl ?_
 refine E5 rfl (hV) rfl rfl ?_
 refine B2 ?_
 refine I5 rfl ((B2S fuel _)) rfl rfl (fun h18 => ?_) (fun h18 => ?_)
 refine C2 ?_
 refine sL (A2 rfl rfl (C9 zO) hRl) rfl rfl ?_
 (obtain ⟨rfl, hF3, rfl⟩ := hF zS; refine E7 rfl hTo rfl rfl (fun v G1 hle1 hh => ?_); obtain ⟨wc, rfl, hrw⟩ := hh; have hwl := hrw.len; have hwo := hrw.one)
 refine sE (A4 rfl) rfl (fun b30 => ?_)
 refine sS rfl rfl rfl hwl hwo rfl ?_ (hu := by exact D7 hwl.symm)
 refine C3 ?_
 refine sL (A2 rfl rfl (C9 zO) hwl) rfl rfl ?_
 refine E5 rfl ((A9a _ _ _ hrw)) rfl rfl ?_
 refine B4 ?_
 refine B7 ?_
 (refine J3 (fun (x : Nat × TH × List Value × Int × IM) => ⟨[(10, .int .i64 (x.1 : Int)), (9, .int .i64 x.2.2.2.1), (8, .pointer (some ⟨b30, 0, none⟩)), (1, .int .i64 (F : Int))], [.blk b30 x.2.2.1], x.2.2.2.2⟩) (fun x => x.1 ≤ F ∧ U6 F g.th = U6 (F - x.1) x.2.1 ∧ ST M9 x.2.1 A ∧ x.2.1.nk ∧ x.2.1.z ≤ 200 ∧ B1 x.2.2.2.2 x.2.1.nt x.2.2.1 ∧ D2 G1 x.2.2.2.2) (fun x => F - x.1) (0, g.th, wc, g.th.nt.ht, G1) ?_ ?_ ?_)
 (simp only [J4]; exact E3)
 (exact ⟨Nat.zero_le _, rfl, hs.st, hs.nk, hs.z, hrw, D2.refl _⟩)
 (rintro ⟨s, t, uc, h, Gi⟩ ⟨hsF, hrun, hT, hnk, hz, hru, hlei⟩; simp only [] at hsF hrun hT hnk hz hru hlei ⊢; have hul := hru.len; have huo := hru.one; have hVal := (A5U t).2 Gi uc hru)
 refine tS ?_
 refine B7 ?_
 refine B2 ?_
 refine sL (A2 rfl rfl (C9 zO) hul) rfl rfl ?_
 focus (cases hvl : t.val; all_goals (rw [hvl] at hVal; refine E5 rfl hVal rfl rfl ?_))
 refine A8 ?_
 refine sL (A2 rfl rfl (C9 zO) hul) rfl rfl ?_
 (refine E7 rfl (B4j t Gi uc A hT hvl hnk hru) rfl rfl (fun v G3 hle3 hh => ?_); obtain ⟨nc, n1, rfl, hrn, hn1⟩ := hh; have hnl := hrn.len; have hno2 := hrn.one; have hok := A9x t hnk)
 refine C3 ?_
 refine sE (A4 rfl) rfl (fun b71 => ?_)
 refine sS rfl rfl rfl hnl hno2 rfl ?_ (hu := by exact D7 hnl.symm)
 refine A9 ?_
 refine B7 ?_
 refine B2 ?_
 refine sB (O6 rfl rfl) rfl rfl (fun h82 => ?_) (fun h82 => ?_)
 refine A2R ?_
 refine A0D (rT rfl) (rT rfl) (rT rfl) (rT rfl) ?_
 (exact Y6.mk (by rw [hrun]; exact A9C hvl zV))
 refine A7 ?_
 refine sL (A2 rfl rfl (C9 zO) hnl) rfl rfl ?_
 (have hc1 : t.stp.2.1 = 1 := zV; obtain rfl := hn1 hc1; have hzz : zb t.z ≤ zb 200 := (by unfold zb; have := Nat.mul_le_mul hz hz; omega); have hzb : zb 200 = 40205 := rfl; have hsz := A9w t.stp.1; refine E5 rfl (B32 _ G3 nc zV hrn) rfl rfl ?_)
 refine sB (A0h rfl rfl) rfl rfl (fun h115 => ?_) (fun h115 => ?_)
 refine Z0 ?_
 refine A0D (rT rfl) (rT rfl) (rT rfl) (rT rfl) ?_
 (exact Y6.mk (by rw [hrun]; exact A9D hvl hc1 zV))
 refine B4 ?_
 refine sB (qE rfl rfl) rfl rfl (fun h146 => ?_) (fun h146 => ?_)
 refine Z0 ?_
 refine A0D (rT rfl) (rT rfl) (rT rfl) (rT rfl) ?_
 (exact Y6.mk (by rw [hrun]; exact A9E hvl hc1 zV zV))
 refine C2 ?_
 refine sL (A2 rfl rfl (C9 zO) hnl) rfl rfl ?_
 refine U8 rfl rfl rfl hnl hno2 rfl zN (by exact D7 (hul.trans hnl.symm)) ?_
 refine C3 ?_
 refine sL (A2 rfl rfl (C9 zO) hnl) rfl rfl ?_
 refine E5 rfl ((A9a _ _ _ hrn)) rfl rfl ?_
 refine sQ (A4j rfl rfl) rfl ?_
 refine A7 ?_
 refine sP (H9 rfl rfl zV zV) rfl rfl ?_
 refine A3 ?_
 refine I6 (s + 1, t.stp.1, nc, (if h < t.stp.1.nt.ht then t.stp.1.nt.ht else h), G3) ?_ ?_ ?_
 (simp only [J4]; exact E3)
 (dsimp only; exact ⟨by omega, by rw [hrun, A5W hvl hc1 zV zV, show F - (s + 1) = F - s - 1 by omega], A5X hT hvl hc1, hok.1, by omega, hrn, hlei.trans hle3⟩)
 (show F - (s + 1) < F - s; omega)
 refine A9 ?_
 refine sL (A2 rfl rfl (C9 zO) hul) rfl rfl ?_
 refine E5 rfl ((B4g t Gi uc (hTab.mono (hle1.trans hlei)) hvl hnk hru)) rfl rfl ?_
 refine G9 ?_
 refine A0D (rT rfl) (rT rfl) (rT rfl) (rT rfl) ?_
 (exact Y6.mk (by rw [hrun]; exact A9B hvl))
 refine I9 ?_
 refine A0D (rT rfl) (rT rfl) (rT rfl) (rT rfl) ?_
 (exact Y6.mk (hno zS))
theorem B4x (e : Tm) (fuel : Int) (G : IM) (cells : List Value) (hT : A0z G) (hr : D1 G e cells) : Fn Tryz.prog 16 [.agg ⟨cells⟩, .int .i64 fuel] [] G (A8P (A2a e fuel) G) := by
 have hRl := hr.len
 have hRo := hr.one
 have hno := @A9z e fuel
 have hys := fun u t => @A9A e u t fuel
 refine D5 Tryz.func16 rfl Tryz.ntmps16 Tryz.results16 rfl ?_
 intro w0
 refine A3 ?_
 refine sE (D8 rfl rfl) rfl (fun b3 => ?_)
 refine A8 ?_
 refine sL (A2 rfl rfl (C9 zO) hRl) rfl rfl ?_
 focus (refine E7 rfl (B3a e G cells hr) rfl rfl (fun v G1 hle1 hh => ?_); obtain ⟨cu, ct, rfl, hru, hrt⟩ := hh; rcases hI : S4 e with _ | ⟨u, t⟩; rotate_left; rw [hI] at hru hrt; simp only [Option.getD_some] at hru hrt; rotate_left; rw [hI] at hru hrt; simp only [Option.getD_none] at hru hrt; simp only [Option.isSome]; rotate_left; simp only [Option.isSome]; rotate_left; all_goals (have hul := hru.len; have huo := hru.one; obtain ⟨p3, c3, e3, rfl, _⟩ := hrt.open))
 refine C3 ?_
 refine sE (A4 rfl) rfl (fun b17 => ?_)
 refine sE (A4 rfl) rfl (fun b18 => ?_)
 refine sS rfl rfl rfl hul huo rfl ?_ (hu := by exact D7 hul.symm)
 refine Z1 ?_
 refine E4 (rT rfl) (rT rfl) (rT rfl) ?_
 (exact ⟨rfl, by rw [hno (by first | exact hI | rfl | assumption)]⟩)
 refine C3 ?_
 refine sE (A4 rfl) rfl (fun b47 => ?_)
 refine sE (A4 rfl) rfl (fun b48 => ?_)
 refine sS rfl rfl rfl hul huo rfl ?_ (hu := by exact D7 hul.symm)
 refine K0 ?_
 refine sL (A2 rfl rfl (C9 zO) hul) rfl rfl ?_
 refine I0 ?_
 (obtain ⟨hcv, hct, _⟩ := A5G hI; obtain ⟨A, _, hsp⟩ := spT hcv hct; refine E7 rfl (B4w u _ A fuel G1 cu (hT.mono hle1) hcv hsp hru) rfl rfl (fun v G2 hle2 hh => ?_); obtain ⟨h, rfl⟩ := hh)
 refine A2R ?_
 refine E4 (rT rfl) (rT rfl) (rT rfl) ?_
 (exact ⟨rfl, by rw [hys _ _ hI]⟩)
theorem A2I : ∀ A : GT, H1 A.ty
 | .any => P8 zU zU
 | .int => P8 zU zU
 | .bool => P8 zU zU
 | .fn a b => by rw [GT.ty, H1]; exact ⟨fun _ => rfl, fun h => absurd rfl h, by rw [V3, V3, V3]; exact ⟨A2I a, A2I b, trivial⟩⟩
 | .pr a b => by rw [GT.ty, H1]; exact ⟨fun _ => rfl, fun _ h => absurd rfl h, by rw [V3, V3, V3]; exact ⟨A2I a, A2I b, trivial⟩⟩
theorem B4y {A B : GT} (h : Co A B) {k bk : Int} {ks bks : List Ty} (hA : A.ty = .mk k ks) (hB : B.ty = .mk bk bks) (h2 : bk ≠ 1) (h3 : k ≠ 1) (h4 : k ≠ 4) (h5 : k ≠ 5) : bk = k := by
 cases h with
 | l => simp only [GT.ty, Ty.mk.injEq] at hA; exact absurd hA.1.symm h3
 | r => simp only [GT.ty, Ty.mk.injEq] at hB; exact absurd hB.1.symm h2
 | int => simp only [GT.ty, Ty.mk.injEq] at hA hB; exact hB.1.symm.trans hA.1
 | bool => simp only [GT.ty, Ty.mk.injEq] at hA hB; exact hB.1.symm.trans hA.1
 | fn _ _ => simp only [GT.ty, Ty.mk.injEq] at hA; exact absurd hA.1.symm h4
 | pr _ _ => simp only [GT.ty, Ty.mk.injEq] at hA; exact absurd hA.1.symm h5
theorem A4z (k : Int) (G : IM) : Fn Tryz.prog 176 [.int .i64 k] [] G (F8 (.agg ⟨[.int .i64 1, .int .i64 k, .int .i64 0, .slice none 0 0]⟩) G) := by
 refine D5 Tryz.func176 rfl Tryz.ntmps176 Tryz.results176 rfl ?_
 intro w0
 refine A3 ?_
 refine sE (A4 rfl) rfl (fun b3 => ?_)
 refine H3 ?_
 refine I7 (rC rfl (A1 rfl rfl)) ?_
 (exact ⟨rfl, rfl, rfl⟩)
theorem A9G (c : GK) (ih : ∀ d, c = .inj d → ∀ (G : IM) (cells : List Value), E6 G d.cn cells → Fn Tryz.prog 196 [.agg ⟨cells⟩] [] G (F8 (.int .i64 d.tg) G)) (G : IM) (cells : List Value) (hr : E6 G c.cn cells) : Fn Tryz.prog 196 [.agg ⟨cells⟩] [] G (F8 (.int .i64 c.tg) G) := by
 obtain ⟨k, tg, lb, ks, hc⟩ := A0U c
 obtain ⟨t2, t3, t1, t5, t4, _, t0⟩ := A8T hc
 have t50 : k = 5 → tg = 0 := fun h => by cases c <;> simp only [GK.cn, Cn.mk.injEq] at hc <;> omega
 rw [hc] at hr
 obtain ⟨p, cp, es, rfl, hk, htg, hlb, hn2, har2, har4, hsl, hkl⟩ := hr.open4
 refine D5 Tryz.func196 rfl Tryz.ntmps196 Tryz.results196 rfl ?_
 intro w0
 refine A3 ?_
 refine sE (D8 rfl rfl) rfl (fun b3 => ?_)
 refine H3 ?_
 refine B7 (tS (tR (sB (qE rfl rfl) rfl rfl (fun h17 => ?_) (fun h17 => ?_))))
 refine G9 ?_
 (exact ⟨rfl, by rw [t2 zV], rfl⟩)
 refine A7 ?_
 refine sB (qE rfl rfl) rfl rfl (fun h38 => ?_) (fun h38 => ?_)
 refine G9 ?_
 (exact ⟨rfl, by rw [t3 zV], rfl⟩)
 refine A7 ?_
 refine sB (qE rfl rfl) rfl rfl (fun h59 => ?_) (fun h59 => ?_)
 refine B4 ?_
 (obtain ⟨d, rfl, hks⟩ := t4 zV; subst hks; obtain ⟨b, o, e, rfl, hl, ho, hat, hre, _, hgb⟩ := hsl.kidR hkl (i := 0) zW zW; replace hre : E6 G d.cn e := hre; refine sP (A6 (j := 0) rfl rfl rfl zW) rfl rfl ?_)
 refine sL (A2 rfl rfl (hat _) hl) rfl rfl ?_
 (refine E5 rfl (ih d rfl G _ hre) rfl rfl ?_)
 refine A8 ?_
 (exact ⟨rfl, rfl, rfl⟩)
 refine K0 ?_
 (exact ⟨rfl, by (by_cases h5 : k = 5); (rw [t5 h5, t50 h5]); (rw [t1 zV]), rfl⟩)
theorem A4A : ∀ (c : GK) (G : IM) (cells : List Value), E6 G c.cn cells → Fn Tryz.prog 196 [.agg ⟨cells⟩] [] G (F8 (.int .i64 c.tg) G) := by
 intro c
 induction c with
 | inj d ih => exact A9G _ fun d' h => by cases h; exact ih
 | _ => exact A9G _ fun d' h => by cases h
mutual
def Cn.hs : Cn → Int
 | .mk k _ _ ks => if k = 2 ∨ k = 3 ∨ ks.length = 0 then IntKind.i64.wrap (Cn.hsL 0 ks + 1) else Cn.hsL 0 ks
def Cn.hsL (m : Int) : List Cn → Int
 | [] => m
 | t :: ts => Cn.hsL (Z5 m t.hs) ts
end
mutual
def Nt.hs : Nt → Int
 | .mk k _ _ co ks => Nt.hsL (if k = 14 then co.hs else 0) ks
def Nt.hsL (m : Int) : List Nt → Int
 | [] => m
 | t :: ts => Nt.hsL (Z5 m t.hs) ts
end
theorem A9H : ∀ (a : List Cn) (m : Int) (t : Cn), Cn.hsL m (a ++ [t]) = Z5 (Cn.hsL m a) t.hs
 | [], m, t => by simp [Cn.hsL]
 | x :: xs, m, t => by rw [List.cons_append, Cn.hsL, Cn.hsL, A9H xs]
theorem B4z {ks : List Cn} {m : Int} {i : Nat} (h : i < ks.length) : Cn.hsL m (ks.take (i + 1)) = Z5 (Cn.hsL m (ks.take i)) ks[i].hs := by
 rw [List.take_succ_eq_append_getElem h, A9H]
theorem A9I : ∀ (a : List Nt) (m : Int) (t : Nt), Nt.hsL m (a ++ [t]) = Z5 (Nt.hsL m a) t.hs
 | [], m, t => by simp [Nt.hsL]
 | x :: xs, m, t => by rw [List.cons_append, Nt.hsL, Nt.hsL, A9I xs]
theorem A9J {ks : List Nt} {m : Int} {i : Nat} (h : i < ks.length) : Nt.hsL m (ks.take (i + 1)) = Z5 (Nt.hsL m (ks.take i)) ks[i].hs := by
 rw [List.take_succ_eq_append_getElem h, A9I]
theorem A5Y {a b : Int} (h : a < b) : Z5 a b = b := if_pos h
theorem A5Z {a b : Int} (h : ¬a < b) : Z5 a b = a := if_neg h
theorem B4A {k tg lb : Int} {ks : List Cn} (h : k = 2 ∨ k = 3 ∨ ks.length = 0) : (Cn.mk k tg lb ks).hs = IntKind.i64.wrap (Cn.hsL 0 ks + 1) := by rw [Cn.hs, if_pos h]
theorem B4B {k tg lb : Int} {ks : List Cn} (h : ¬(k = 2 ∨ k = 3 ∨ ks.length = 0)) : (Cn.mk k tg lb ks).hs = Cn.hsL 0 ks := by rw [Cn.hs, if_neg h]
theorem B4C : ∀ (t : Cn) (G : IM) (cells : List Value), E6 G t cells → Fn Tryz.prog 135 [.agg ⟨cells⟩] [] G (F8 (.int .i64 t.hs) G) := by
 refine Cn.ind fun k tg lb ks ih G cells hr => ?_
 obtain ⟨p, c, es, rfl, hk, htg, hlb, hn2, _, _, hsl, hkl⟩ := hr.open4
 have hy := @B4A k tg lb ks
 have hn' := @B4B k tg lb ks
 generalize (Cn.mk k tg lb ks).hs = R at hy hn' ⊢
 clear hr
 have hn := hsl.le
 refine D5 Tryz.func135 rfl Tryz.ntmps135 Tryz.results135 rfl ?_
 intro w0
 refine A3 ?_
 refine sE (D8 rfl rfl) rfl (fun b3 => ?_)
 refine J5 ?_
 refine B7 ?_
 (refine J3 (fun (i : Nat) => ⟨[(4, .int .i64 (i : Int)), (3, .int .i64 (Cn.hsL 0 (ks.take i))), (1, .pointer (some ⟨b3, 0, none⟩))], [.blk b3 [.int .i64 k, .int .i64 tg, .int .i64 lb, .slice p ks.length c]], G⟩) (fun i => i ≤ ks.length) (fun i => ks.length - i) 0 ?_ ?_ ?_)
 exact E3
 exact Nat.zero_le _
 (rintro i hi)
 refine A8 ?_
 refine sB (I3 rfl rfl) rfl rfl (fun h30 => ?_) (fun h30 => ?_)
 refine A7 ?_
 refine B7 ?_
 refine A9 ?_
 (obtain ⟨b, o, e, rfl, hl, ho, hat, hre, _, hgb⟩ := hsl.kidR hkl (i := i) zV zV; have hsx := @B4z ks 0 i zV; refine sP (A6 (j := i) rfl rfl rfl zV) rfl rfl ?_)
 refine sL (A2 rfl rfl (hat _) hl) rfl rfl ?_
 (refine E5 rfl (ih ks[i] (List.getElem_mem zV) G _ hre) rfl rfl ?_)
 refine A8 ?_
 refine sB (A0h rfl rfl) rfl rfl (fun h53 => ?_) (fun h53 => ?_)
 refine E8 ?_
 refine sP (H9 rfl rfl zV zV) rfl rfl ?_
 refine A3 ?_
 (rw [A5Y zV] at hsx; refine I6 (i + 1) ?_ ?_ ?_; rw [hsx])
 exact E3
 omega
 omega
 refine B4 ?_
 refine sP (H9 rfl rfl zV zV) rfl rfl ?_
 refine A3 ?_
 (rw [A5Z zV] at hsx; refine I6 (i + 1) ?_ ?_ ?_; rw [hsx])
 exact E3
 omega
 omega
 refine G9 ?_
 refine sB (qE rfl rfl) rfl rfl (fun h100 => ?_) (fun h100 => ?_)
 refine K0 ?_
 refine sP (A4k (m := Cn.hsL 0 (ks.take i)) rfl rfl) rfl rfl ?_
 refine E8 ?_
 (obtain rfl : i = ks.length := zV; rw [List.take_length]; exact ⟨rfl, by rw [hy zV], rfl⟩)
 refine B2 ?_
 refine sB (qE rfl rfl) rfl rfl (fun h133 => ?_) (fun h133 => ?_)
 refine K1 ?_
 refine sP (A4k (m := Cn.hsL 0 (ks.take i)) rfl rfl) rfl rfl ?_
 refine E8 ?_
 (obtain rfl : i = ks.length := zV; rw [List.take_length]; exact ⟨rfl, by rw [hy zV], rfl⟩)
 refine A9 ?_
 refine sB (qE rfl rfl) rfl rfl (fun h164 => ?_) (fun h164 => ?_)
 refine A7 ?_
 refine sP (A4k (m := Cn.hsL 0 (ks.take i)) rfl rfl) rfl rfl ?_
 refine E8 ?_
 (obtain rfl : i = ks.length := zV; rw [List.take_length]; exact ⟨rfl, by rw [hy zV], rfl⟩)
 refine J5 ?_
 (obtain rfl : i = ks.length := zV; rw [List.take_length]; exact ⟨rfl, by rw [hn' zV], rfl⟩)
theorem A9K : ∀ (t : Nt) (G : IM) (cells : List Value), B1 G t cells → Fn Tryz.prog 81 [.agg ⟨cells⟩] [] G (F8 (.int .i64 t.hs) G) := by
 refine Nt.ind fun k nm num co ks ih G cells hr => ?_
 have hCh := fun cs => B4C co G cs
 rw [Nt.hs]
 obtain ⟨ck, ctg, clb, cks⟩ := co
 generalize (Cn.mk ck ctg clb cks).hs = CH at hCh ⊢
 obtain ⟨tk, tks, fk, fks, lb, pt, ct, pf, cf, p0, c0, pc, cc, p, c, es, rfl, hnd, hco, hn3, h14, hsl, hkl⟩ := hr.open14
 replace hCh := hCh _ hco
 have hn := hsl.le
 refine D5 Tryz.func81 rfl Tryz.ntmps81 Tryz.results81 rfl ?_
 intro w0
 refine A3 ?_
 refine sE (D8 rfl rfl) rfl (fun b3 => ?_)
 refine J5 ?_
 refine sB (qE rfl rfl) rfl rfl (fun h18 => ?_) (fun h18 => ?_)
 refine A7 ?_
 refine E5 rfl (hCh) rfl rfl ?_
 refine C2 ?_
 refine B7 ?_
 (have hz : k = 14 := zV; refine J3 (fun (i : Nat) => ⟨[(4, .int .i64 (i : Int)), (3, .int .i64 (Nt.hsL CH (ks.take i))), (1, .pointer (some ⟨b3, 0, none⟩))], [.blk b3 [.int .i64 k, .string nm, .int .i64 num, .int .i64 tk, .slice pt tks.length ct, .int .i64 fk, .slice pf fks.length cf, .int .i64 lb, .slice p0 0 c0, .int .i64 ck, .int .i64 ctg, .int .i64 clb, .slice pc cks.length cc, .slice p ks.length c]], G⟩) (fun i => i ≤ ks.length) (fun i => ks.length - i) 0 ?_ ?_ ?_)
 exact E3
 exact Nat.zero_le _
 (rintro i hi)
 refine A8 ?_
 refine sB (I3 rfl rfl) rfl rfl (fun h47 => ?_) (fun h47 => ?_)
 refine A7 ?_
 refine B7 ?_
 refine A9 ?_
 (have hz2 : k = 14 := hz; obtain ⟨b, o, e, rfl, hl, ho, hat, hre, _, hgb⟩ := hsl.kidR hkl (i := i) zV zV; have hsx := @A9J ks CH i zV; refine sP (A6 (j := i) rfl rfl rfl zV) rfl rfl ?_)
 refine sL (A2 rfl rfl (hat _) hl) rfl rfl ?_
 (refine E5 rfl (ih ks[i] (List.getElem_mem zV) G _ hre) rfl rfl ?_)
 refine A8 ?_
 refine sB (A0h rfl rfl) rfl rfl (fun h70 => ?_) (fun h70 => ?_)
 refine E8 ?_
 refine sP (H9 rfl rfl zV zV) rfl rfl ?_
 refine A3 ?_
 (rw [A5Y zV] at hsx; refine I6 (i + 1) ?_ ?_ ?_; rw [hsx])
 exact E3
 omega
 omega
 refine B4 ?_
 refine sP (H9 rfl rfl zV zV) rfl rfl ?_
 refine A3 ?_
 (rw [A5Z zV] at hsx; refine I6 (i + 1) ?_ ?_ ?_; rw [hsx])
 exact E3
 omega
 omega
 refine K0 ?_
 (obtain rfl : i = ks.length := zV; rw [List.take_length]; exact ⟨rfl, by rw [if_pos hz], rfl⟩)
 refine E8 ?_
 refine B7 ?_
 (have hz : k ≠ 14 := zV; refine J3 (fun (i : Nat) => ⟨[(4, .int .i64 (i : Int)), (3, .int .i64 (Nt.hsL 0 (ks.take i))), (1, .pointer (some ⟨b3, 0, none⟩))], [.blk b3 [.int .i64 k, .string nm, .int .i64 num, .int .i64 tk, .slice pt tks.length ct, .int .i64 fk, .slice pf fks.length cf, .int .i64 lb, .slice p0 0 c0, .int .i64 ck, .int .i64 ctg, .int .i64 clb, .slice pc cks.length cc, .slice p ks.length c]], G⟩) (fun i => i ≤ ks.length) (fun i => ks.length - i) 0 ?_ ?_ ?_)
 exact E3
 exact Nat.zero_le _
 (rintro i hi)
 refine A8 ?_
 refine sB (I3 rfl rfl) rfl rfl (fun h144 => ?_) (fun h144 => ?_)
 refine A7 ?_
 refine B7 ?_
 refine A9 ?_
 (obtain ⟨b, o, e, rfl, hl, ho, hat, hre, _, hgb⟩ := hsl.kidR hkl (i := i) zV zV; have hsx := @A9J ks 0 i zV; refine sP (A6 (j := i) rfl rfl rfl zV) rfl rfl ?_)
 refine sL (A2 rfl rfl (hat _) hl) rfl rfl ?_
 (refine E5 rfl (ih ks[i] (List.getElem_mem zV) G _ hre) rfl rfl ?_)
 refine A8 ?_
 refine sB (A0h rfl rfl) rfl rfl (fun h167 => ?_) (fun h167 => ?_)
 refine E8 ?_
 refine sP (H9 rfl rfl zV zV) rfl rfl ?_
 refine A3 ?_
 (rw [A5Y zV] at hsx; refine I6 (i + 1) ?_ ?_ ?_; rw [hsx])
 exact E3
 omega
 omega
 refine B4 ?_
 refine sP (H9 rfl rfl zV zV) rfl rfl ?_
 refine A3 ?_
 (rw [A5Z zV] at hsx; refine I6 (i + 1) ?_ ?_ ?_; rw [hsx])
 exact E3
 omega
 omega
 refine K0 ?_
 (obtain rfl : i = ks.length := zV; rw [List.take_length]; exact ⟨rfl, by rw [if_neg hz], rfl⟩)
def SPl (t : TH) : Prop := ∀ (G : IM) (cells : List Value), B1 G t.nt cells → Fn Tryz.prog 136 [.agg ⟨cells⟩] [] G (F8 (.bool t.pln) G)
def SVl (t : TH) : Prop := ∀ (G : IM) (cells : List Value), B1 G t.nt cells → Fn Tryz.prog 82 [.agg ⟨cells⟩] [] G (F8 (.bool t.val) G)
theorem A4B (t : TH) (hk : ∀ a b, t = .pair a b → SVl a ∧ SVl b) : SPl t := by
 intro G cells hr
 obtain ⟨k, nm, num, ck, ctg, clb, cks, ks, ht⟩ := A0q t
 rw [ht] at hr
 have hpl := @A8c t k nm num _ ks ht
 have hpr := fun (h : k = 10) => @A8d t nm num (.mk ck ctg clb cks) ks (by rw [← h]; exact ht)
 obtain ⟨tk, tks, fk, fks, lb, pt, ct, pf, cf, p0, c0, pc, cc, p, c, es, rfl, hnd, hco, hn3, h14, hsl, hkl⟩ := hr.open14
 refine D5 Tryz.func136 rfl Tryz.ntmps136 Tryz.results136 rfl ?_
 intro w0
 refine A3 ?_
 refine sE (D8 rfl rfl) rfl (fun b3 => ?_)
 refine E8 ?_
 refine B7 (tS (tS (tR (sB (qE rfl rfl) rfl rfl (fun h19 => ?_) (fun h19 => ?_)))))
 refine K0 ?_
 (exact ⟨rfl, by rw [hpl zV, decide_eq_true zV], rfl⟩)
 refine A7 ?_
 refine sB (qE rfl rfl) rfl rfl (fun h43 => ?_) (fun h43 => ?_)
 refine K0 ?_
 (exact ⟨rfl, by rw [hpl zV, decide_eq_true zV], rfl⟩)
 refine A7 ?_
 refine sB (qE rfl rfl) rfl rfl (fun h67 => ?_) (fun h67 => ?_)
 refine K0 ?_
 (exact ⟨rfl, by rw [hpl zV, decide_eq_true zV], rfl⟩)
 refine A9 ?_
 refine sB (qE rfl rfl) rfl rfl (fun h90 => ?_) (fun h90 => ?_)
 refine G9 ?_
 (exact ⟨rfl, by rw [hpl zV, decide_eq_true zV], rfl⟩)
 refine A7 ?_
 refine sB (qE rfl rfl) rfl rfl (fun h111 => ?_) (fun h111 => ?_)
 refine A9 ?_
 (have hz : k = 10 := zV; obtain ⟨a, b, rfl, rfl⟩ := hpr hz; obtain ⟨ha, hb⟩ := hk a b rfl; obtain ⟨b0, o0, e0, rfl, hl0, ho0, hat0, hre0, _, hgb0⟩ := hsl.kidR hkl (i := 0) zW zW; obtain ⟨_, _, e1, hE1, hl1, ho1, hat1, hre1, _, hgb1⟩ := hsl.kidR hkl (i := 1) zW zW; cases hE1; replace hre0 : B1 G a.nt e0 := hre0; replace hre1 : B1 G b.nt e1 := hre1; have hV0 := ha G e0 hre0; have hV1 := hb G e1 hre1; have hqq : (TH.pair a b).pln = (a.val && b.val) := (by rw [TH.pln]); rw [hqq]; clear hpr)
 refine B2 ?_
 refine sP (A6 (j := 0) rfl rfl rfl zW) rfl rfl ?_
 refine sL (A2 rfl rfl (hat0 _) hl0) rfl rfl ?_
 focus (cases hva : a.val; all_goals (rw [hva] at hV0; refine E5 rfl hV0 rfl rfl ?_))
 refine J5 ?_
 (exact ⟨rfl, rfl, rfl⟩)
 refine B2 ?_
 refine sP (A6 (j := 1) rfl rfl rfl zW) rfl rfl ?_
 refine sL (A2 rfl rfl (hat1 _) hl1) rfl rfl ?_
 refine E5 rfl (hV1) rfl rfl ?_
 refine B4 ?_
 (exact ⟨rfl, rfl, rfl⟩)
 refine J5 ?_
 (exact ⟨rfl, by rw [hpl zV, decide_eq_false zV], rfl⟩)
theorem A50 (t : TH) (hP : SPl t) (hk : ∀ c e, t = .conv c e → SPl e) : SVl t := by
 intro G cells hr
 have hPl := hP G cells hr
 obtain ⟨k, nm, num, ck, ctg, clb, cks, ks, ht⟩ := A0q t
 rw [ht] at hr
 have hcv := fun (h : k = 14) => @A2x t nm num (.mk ck ctg clb cks) ks (by rw [← h]; exact ht)
 have hnc := fun (h : k ≠ 14) => A8e (A11 ht h)
 have hno : k = 14 → ¬(ck = 4 ∨ ck = 2 ∨ ck = 3) → t.val = false := by
  intro h hn
  obtain ⟨g, e, rfl, rfl, hE⟩ := hcv h
  have := A32 g
  rw [← hE, show (Cn.mk ck ctg clb cks).k = ck from rfl] at this
  rw [TH.val]
  cases hv : g.vl with
  | false => rfl
  | true => exact absurd (this.2 hv) hn
 have hyes : k = 14 → (ck = 4 ∨ ck = 2 ∨ ck = 3) → ∃ e, ks = [e.nt] ∧ t.val = e.pln ∧ SPl e := by
  intro h hn
  obtain ⟨g, e, rfl, rfl, hE⟩ := hcv h
  have := A32 g
  rw [← hE, show (Cn.mk ck ctg clb cks).k = ck from rfl] at this
  exact ⟨e, rfl, by rw [TH.val, this.1 hn, Bool.true_and], hk g e rfl⟩
 generalize t.val = T at hno hyes hnc ⊢
 generalize t.pln = T2 at hnc hPl
 obtain ⟨tk, tks, fk, fks, lb, pt, ct, pf, cf, p0, c0, pc, cc, p, c, es, rfl, hnd, hco, hn3, h14, hsl, hkl⟩ := hr.open14
 refine D5 Tryz.func82 rfl Tryz.ntmps82 Tryz.results82 rfl ?_
 intro w0
 refine A3 ?_
 refine sE (D8 rfl rfl) rfl (fun b3 => ?_)
 refine C2 ?_
 refine sB (O6 rfl rfl) rfl rfl (fun h13 => ?_) (fun h13 => ?_)
 refine A7 ?_
 refine E5 rfl (hPl) rfl rfl ?_
 refine A7 ?_
 (exact ⟨rfl, by rw [hnc zV], rfl⟩)
 refine H3 ?_
 refine sB (qE rfl rfl) rfl rfl (fun h38 => ?_) (fun h38 => ?_)
 refine I9 ?_
 (obtain ⟨e1, hks, hT, hPe⟩ := hyes zV zV; subst hks hT; obtain ⟨b, o, e, rfl, hl, ho, hat, hre, _, hgb⟩ := hsl.kidR hkl (i := 0) zW zW; replace hre : B1 G e1.nt e := hre; refine sP (A6 (j := 0) rfl rfl rfl zW) rfl rfl ?_)
 refine sL (A2 rfl rfl (hat _) hl) rfl rfl ?_
 refine E5 rfl ((hPe G e hre)) rfl rfl ?_
 refine A7 ?_
 (exact ⟨rfl, rfl, rfl⟩)
 refine C3 ?_
 refine sB (qE rfl rfl) rfl rfl (fun h68 => ?_) (fun h68 => ?_)
 refine H3 ?_
 (obtain ⟨e1, hks, hT, hPe⟩ := hyes zV zV; subst hks hT; obtain ⟨b, o, e, rfl, hl, ho, hat, hre, _, hgb⟩ := hsl.kidR hkl (i := 0) zW zW; replace hre : B1 G e1.nt e := hre; refine sP (A6 (j := 0) rfl rfl rfl zW) rfl rfl ?_)
 refine sL (A2 rfl rfl (hat _) hl) rfl rfl ?_
 refine E5 rfl ((hPe G e hre)) rfl rfl ?_
 refine A7 ?_
 (exact ⟨rfl, rfl, rfl⟩)
 refine A9 ?_
 refine sB (qE rfl rfl) rfl rfl (fun h94 => ?_) (fun h94 => ?_)
 refine C3 ?_
 (obtain ⟨e1, hks, hT, hPe⟩ := hyes zV zV; subst hks hT; obtain ⟨b, o, e, rfl, hl, ho, hat, hre, _, hgb⟩ := hsl.kidR hkl (i := 0) zW zW; replace hre : B1 G e1.nt e := hre; refine sP (A6 (j := 0) rfl rfl rfl zW) rfl rfl ?_)
 refine sL (A2 rfl rfl (hat _) hl) rfl rfl ?_
 refine E5 rfl ((hPe G e hre)) rfl rfl ?_
 refine A7 ?_
 (exact ⟨rfl, rfl, rfl⟩)
 refine G9 ?_
 (exact ⟨rfl, by rw [hno zV zV], rfl⟩)
theorem A4C : ∀ t : TH, SPl t ∧ SVl t := by
 intro t
 induction t with
 | pair a b i j =>
  have hp : SPl (.pair a b) := A4B _ fun a' b' h => by cases h; exact ⟨i.2, j.2⟩
  exact ⟨hp, A50 _ hp fun c e h => by cases h⟩
 | conv c e i =>
  have hp : SPl (.conv c e) := A4B _ fun a' b' h => by cases h
  exact ⟨hp, A50 _ hp fun c' e' h => by cases h; exact i.1⟩
 | _ => refine ⟨A4B _ ?_, A50 _ (A4B _ ?_) ?_⟩ <;> (intro a b h; cases h)
def STx (t : TH) : Prop := ∀ (G : IM) (cells : List Value), t.val = true → t.nk → B1 G t.nt cells → Fn Tryz.prog 83 [.agg ⟨cells⟩] [] G (F8 (.string t.tx) G)
theorem A9L (t : TH) (ih : ∀ c e, t = .conv c e → STx e) : STx t := by
 intro G cells hv hnk hr
 obtain ⟨k, nm, num, ck, ctg, clb, cks, ks, ht⟩ := A0q t
 obtain ⟨h14, h10, h5, hlf⟩ := A9l hv hnk ht
 rw [ht] at hr
 obtain ⟨tk, tks, fk, fks, lb, pt, ct, pf, cf, p0, c0, pc, cc, p, c, es, rfl, hnd, hco, hn3, _, hsl, hkl⟩ := hr.open14
 have hD : k ≠ 14 → k ≠ 10 → k ≠ 5 → Fn Tryz.prog 137 [.int .i64 num] [] G (F8 (.string (A5K num)) G) := by
  intro h1 h2 h3
  obtain ⟨_, _, h4, h5⟩ := hlf h1 h2 h3
  have := B3T num.toNat zV G
  rw [show ((num.toNat : Nat) : Int) = num from by omega] at this
  exact this
 refine D5 Tryz.func83 rfl Tryz.ntmps83 Tryz.results83 rfl ?_
 intro w0
 refine A3 ?_
 refine sE (D8 rfl rfl) rfl (fun b3 => ?_)
 refine E8 ?_
 refine B7 (tS (tR (sB (qE rfl rfl) rfl rfl (fun h18 => ?_) (fun h18 => ?_))))
 refine C2 ?_
 refine E5 rfl ((hD zV zV zV)) rfl rfl ?_
 refine A8 ?_
 (exact ⟨rfl, by rw [(hlf zV zV zV).2.1]; unfold A0G; rw [if_pos zV], rfl⟩)
 refine A7 ?_
 refine sB (qE rfl rfl) rfl rfl (fun h43 => ?_) (fun h43 => ?_)
 refine G9 ?_
 (exact ⟨rfl, by rw [(hlf zV zV zV).2.1]; unfold A0G; rw [if_neg zV, if_pos zV]; rfl, rfl⟩)
 refine A7 ?_
 refine sB (qE rfl rfl) rfl rfl (fun h64 => ?_) (fun h64 => ?_)
 refine G9 ?_
 (exact ⟨rfl, by rw [(hlf zV zV zV).2.1]; unfold A0G; rw [if_neg zV, if_neg zV]; rfl, rfl⟩)
 refine A7 ?_
 refine sB (qE rfl rfl) rfl rfl (fun h85 => ?_) (fun h85 => ?_)
 refine G9 ?_
 (exact ⟨rfl, by rw [h10 zV]; rfl, rfl⟩)
 refine A7 ?_
 refine sB (qE rfl rfl) rfl rfl (fun h106 => ?_) (fun h106 => ?_)
 refine B4 ?_
 (obtain ⟨g, e1, rfl, hks, hv1, hn1⟩ := h14 zV; subst hks; obtain ⟨b, o, e, rfl, hl, ho, hat, hre, _, hgb⟩ := hsl.kidR hkl (i := 0) zW zW; replace hre : B1 G e1.nt e := hre; have hih := ih g e1 rfl G e hv1 hn1 hre; refine sP (A6 (j := 0) rfl rfl rfl zW) rfl rfl ?_)
 refine sL (A2 rfl rfl (hat _) hl) rfl rfl ?_
 refine E5 rfl (hih) rfl rfl ?_
 refine A8 ?_
 (exact ⟨rfl, by rw [TH.tx], rfl⟩)
 refine J5 ?_
 (exact ⟨rfl, by rw [h5 (by have := hlf; omega)]; rfl, rfl⟩)
theorem B4D : ∀ t : TH, STx t := by
 intro t
 induction t with
 | conv c e i => exact A9L _ fun c' e' h => by cases h; exact i
 | _ => refine A9L _ ?_; intro a b h; cases h
theorem KR.eachC {G : IM} {ks : List Cn} {es : List (List Value)} (h : KR (E6 G) ks es) (hl : ks.length = es.length) : ∀ e ∈ es, e.length = 4 ∧ e.all (·.oneCell') = true := by
 intro e he
 obtain ⟨i, hi, rfl⟩ := List.getElem_of_mem he
 have := h i (ks[i]'zV) es[i] (List.getElem?_eq_getElem zV) (List.getElem?_eq_getElem hi)
 exact ⟨this.len, this.one⟩
theorem A0f : ∀ (t : Cn) (G : IM) (cells : List Value), E6 G t cells → Fn Tryz.prog 195 [.agg ⟨cells⟩] [] G (U5 t) := by
 refine Cn.ind fun k tg lb ks ih G cells hr => ?_
 obtain ⟨p, c, es, rfl, hk, htg, hlb, hn2, har2, har4, hsl, hkl⟩ := hr.open4
 have hn := hsl.le
 refine D5 Tryz.func195 rfl Tryz.ntmps195 Tryz.results195 rfl ?_
 intro w0
 refine A3 ?_
 refine sE (D8 rfl rfl) rfl (fun b3 => ?_)
 refine sE (A4 rfl) rfl (fun b4 => ?_)
 refine E8 ?_
 refine sE (A4 rfl) rfl (fun b16 => ?_)
 refine C2 ?_
 refine B7 ?_
 (refine S7 65 4 ?_; refine J3 (fun (x : Nat × Option Addr × Nat × List (List Value) × IM) => ⟨[(4, .int .i64 x.1), (1, .pointer (some ⟨b3, 0, none⟩)), (2, .pointer (some ⟨b4, 0, none⟩)), (3, .pointer (some ⟨b16, 0, none⟩))], [.blk b16 [.int .i64 k, .int .i64 tg, .int .i64 lb, .slice x.2.1 x.1 x.2.2.1], .slc x.2.1 x.2.2.1 65 4 x.1 x.2.2.2.1.flatten, .blk b4 [.int .i64 0, .int .i64 0, .int .i64 0, .slice none 0 0], .blk b3 [.int .i64 k, .int .i64 tg, .int .i64 lb, .slice p ks.length c]], x.2.2.2.2⟩) (fun x => x.1 ≤ ks.length ∧ D2 G x.2.2.2.2 ∧ x.2.2.2.1.length = x.1 ∧ KR (E6 x.2.2.2.2) (ks.take x.1) x.2.2.2.1) (fun x => ks.length - x.1) (0, none, 0, [], G) ?_ ?_ ?_)
 (simp only [J4]; exact E3)
 (exact ⟨Nat.zero_le _, D2.refl _, rfl, by rw [List.take_zero]; exact KR.nil⟩)
 (rintro ⟨i, pn, cn, es', Gi⟩ ⟨hi, hle, hel', hst⟩; simp only [] at hi hle hel' hst ⊢; replace hsl := hsl.mono hle; replace hkl := KR.imp hkl (fun a e h => h.mono hle))
 refine A8 ?_
 refine sB (I3 rfl rfl) rfl rfl (fun h38 => ?_) (fun h38 => ?_)
 refine A7 ?_
 refine B7 ?_
 (have hil : i < ks.length := zV; obtain ⟨bx, ox, e, rfl, hel, heo, hat, hre, _, hgb⟩ := hsl.kidR hkl (i := i) zV zV; refine D3 D4 rfl ?_)
 refine E9 (i := 0) (l' := [tt,ff,ff,ff,ff,ff,ff,ff,ff,ff,ff,ff]) rfl C1 (B0 rfl) rfl zT rfl rfl ?_
 refine aL 1 rfl (B3 rfl rfl) rfl ?_
 refine aP 2 rfl (B0 rfl) rfl ?_
 refine aL 3 rfl (B3 rfl rfl) rfl ?_
 refine aP 4 rfl (qM rfl) rfl ?_
 refine aP 5 rfl (A6 (j := i) rfl rfl rfl hil) rfl ?_
 refine aL 6 rfl (A2 rfl rfl (hat _) hel) rfl ?_
 refine A0 7 ?_
 (refine D6 rfl rfl (ih ks[i] (List.getElem_mem zV) Gi _ hre) rfl rfl rfl (fun u G1 hle1 hh => ?_); obtain ⟨uc, rfl, hru⟩ := hh; have huo := hru.one; obtain ⟨v1, v2, v3, v4, rfl⟩ := W3 hru.len)
 refine A0 8 ?_
 (refine B6 rfl (C0 rfl rfl rfl zV zQ rfl) rfl rfl ?_; rintro _ ⟨b57, rfl⟩)
 refine A0 9 ?_
 (refine P5 rfl rfl rfl rfl rfl rfl (fun _ _ => by repeat (first | exact Sw.here | apply Sw.there)) (O1 zO) rfl (fun u hu => List.all_eq_true.1 huo u hu) zQ zV rfl rfl zG (fun p7 c7 => ?_))
 refine aP 10 rfl (B0 rfl) rfl ?_
 refine A0 11 ?_
 refine S2 rfl rfl rfl rfl rfl rfl rfl rfl zR zN (by rfl) ?_
 refine A9 ?_
 refine sP (H9 rfl rfl zV zV) rfl rfl ?_
 refine A3 ?_
 refine I6 (i + 1, p7, c7, es' ++ [[v1, v2, v3, v4]], G1) ?_ ?_ ?_
 (simp only [J4]; exact E3)
 (dsimp only; exact ⟨by omega, hle.trans hle1, by rw [List.length_append]; simp only [List.length_singleton]; omega, by rw [List.take_succ_eq_append_getElem hil]; exact KR.snoc (KR.imp hst fun a e h => h.mono hle1) (by rw [List.length_take]; omega) hru⟩)
 (show ks.length - (i + 1) < ks.length - i; omega)
 refine J5 ?_
 (obtain rfl : i = ks.length := zV; refine E0 (cs := es'.flatten) zM (fun G5 hle5 hsl5 hno5 => ?_))
 refine tT ?_
 refine I7 (rC rfl (A1 rfl rfl)) ?_
 (rw [List.take_length] at hst; exact U5.mk (E6.put hk htg hlb hn2 har2 har4 rfl (C8.of hsl5 zV (fun e he => (hst.eachC zV e he).1) (fun e he => (hst.eachC zV e he).2)) (KR.imp hst fun a e h => h.mono hle5)))
theorem B4E (y : ByteArray) (v : Nt) (vc : List Value) : ∀ (t : Nt) (G : IM) (cells : List Value), B1 G t cells → B1 G v vc → Fn Tryz.prog 180 [.agg ⟨cells⟩, .string y, .agg ⟨vc⟩] [] G (Q8 (U4 y v t)) := by
 refine Nt.ind fun k nm num co ks ih G cells hr hv => ?_
 have hr0 := hr
 have hvl := hv.len
 have hvo := hv.one
 rw [U4]
 obtain ⟨ck, ctg, clb, cks⟩ := co
 obtain ⟨tk, tks, fk, fks, lb, pt, ct, pf, cf, p0, c0, pc, cc, p, c, es, rfl, hnd, hco, hn3, hk14, hsl, hkl⟩ := hr.open14
 have hn := hsl.le
 refine D5 Tryz.func180 rfl Tryz.ntmps180 Tryz.results180 rfl ?_
 intro w0
 refine A3 ?_
 refine sE (D8 rfl rfl) rfl (fun b3 => ?_)
 refine sE (D8 rfl rfl) rfl (fun b4 => ?_)
 refine sE (A4 rfl) rfl (fun b5 => ?_)
 refine B4 ?_
 refine sB (qE rfl rfl) rfl rfl (fun h14 => ?_) (fun h14 => ?_)
 refine A9 ?_
 refine sB (A1H rfl rfl) rfl rfl (fun h20 => ?_) (fun h20 => ?_)
 refine A7 ?_
 refine sL (A2 rfl rfl (C9 zO) hvl) rfl rfl ?_
 refine sS rfl rfl rfl hvl hvo rfl ?_ (hu := by exact D7 hvl.symm)
 refine C3 ?_
 refine I7 (rC rfl (A2 rfl rfl (C9 zO) hvl)) ?_
 (rw [if_pos (by refine ⟨by omega, by assumption⟩)]; exact Q8.mk hv)
 refine K1 ?_
 refine sP (E1 rfl rfl zV) rfl rfl ?_
 refine Z7 ?_
 refine sE (A4 rfl) rfl (fun b67 => ?_)
 refine C2 ?_
 refine B7 ?_
 (refine S7 114 14 ?_; refine J3 (fun (x : Nat × Option Addr × Nat × List (List Value) × IM) => ⟨[(8, .int .i64 x.1), (1, .string y), (3, .pointer (some ⟨b3, 0, none⟩)), (5, .pointer (some ⟨b4, 0, none⟩)), (6, .pointer (some ⟨b5, 0, none⟩)), (7, .pointer (some ⟨b67, 0, none⟩))], [.blk b67 [.int .i64 k, .string nm, .int .i64 num, .int .i64 tk, .slice pt tks.length ct, .int .i64 fk, .slice pf fks.length cf, .int .i64 lb, .slice p0 0 c0, .int .i64 ck, .int .i64 ctg, .int .i64 clb, .slice pc cks.length cc, .slice x.2.1 x.1 x.2.2.1], .slc x.2.1 x.2.2.1 114 14 x.1 x.2.2.2.1.flatten, .blk b5 [.int .i64 0, .string ⟨⟨[]⟩⟩, .int .i64 0, .int .i64 0, .slice none 0 0, .int .i64 0, .slice none 0 0, .int .i64 0, .slice none 0 0, .int .i64 0, .int .i64 0, .int .i64 0, .slice none 0 0, .slice none 0 0], .blk b4 vc, .blk b3 [.int .i64 k, .string nm, .int .i64 num, .int .i64 tk, .slice pt tks.length ct, .int .i64 fk, .slice pf fks.length cf, .int .i64 lb, .slice p0 0 c0, .int .i64 ck, .int .i64 ctg, .int .i64 clb, .slice pc cks.length cc, .slice p ks.length c]], x.2.2.2.2⟩) (fun x => x.1 ≤ ks.length ∧ D2 G x.2.2.2.2 ∧ x.2.2.2.1.length = x.1 ∧ KR (B1 x.2.2.2.2) ((N3 y v ks).take x.1) x.2.2.2.1) (fun x => ks.length - x.1) (0, none, 0, [], G) ?_ ?_ ?_)
 (simp only [J4]; exact E3)
 (exact ⟨Nat.zero_le _, D2.refl _, rfl, by rw [List.take_zero]; exact KR.nil⟩)
 (rintro ⟨i, pn, cn, es', Gi⟩ ⟨hi, hle, hel', hst⟩; simp only [] at hi hle hel' hst ⊢; replace hsl := hsl.mono hle; replace hkl := KR.imp hkl (fun a e h => h.mono hle); replace hv := hv.mono hle; replace hnd := hnd.mono hle; replace hco := hco.mono hle)
 refine A8 ?_
 refine sB (I3 rfl rfl) rfl rfl (fun h89 => ?_) (fun h89 => ?_)
 refine A7 ?_
 refine B7 ?_
 (have hil : i < ks.length := zV; obtain ⟨bx, ox, e, rfl, hel, heo, hat, hre, _, hgb⟩ := hsl.kidR hkl (i := i) zV zV; refine D3 D4 rfl ?_)
 refine K3 (i := 8) (l' := [ff,ff,ff,ff,ff,ff,ff,ff,tt,ff,ff,ff,ff,ff]) rfl C1 (A2 rfl rfl (C9 zO) hvl) rfl zT rfl rfl ?_
 refine aP 0 rfl (B0 rfl) rfl ?_
 refine aL 1 rfl (B3 rfl rfl) rfl ?_
 refine aP 2 rfl (B0 rfl) rfl ?_
 refine aL 3 rfl (B3 rfl rfl) rfl ?_
 refine aP 4 rfl (qM rfl) rfl ?_
 refine aP 5 rfl (A6 (j := i) rfl rfl rfl hil) rfl ?_
 refine aL 6 rfl (A2 rfl rfl (hat _) hel) rfl ?_
 refine aP 7 rfl (qM rfl) rfl ?_
 refine A0 9 ?_
 (refine D6 rfl rfl (ih ks[i] (List.getElem_mem zV) Gi _ hre hv) rfl rfl rfl (fun u G1 hle1 hh => ?_); obtain ⟨uc, rfl, hru⟩ := hh; have hul := hru.len; have huo := hru.one; obtain ⟨v1, v2, v3, v4, v5, v6, v7, v8, v9, w1, w2, w3, w4, w5, rfl⟩ := X4 hul)
 refine A0 10 ?_
 (refine B6 rfl (C0 rfl rfl rfl zV zQ rfl) rfl rfl ?_; rintro _ ⟨b110, rfl⟩)
 refine A0 11 ?_
 (refine P5 rfl rfl rfl rfl rfl rfl (fun _ _ => by repeat (first | exact Sw.here | apply Sw.there)) (O1 zO) rfl (fun u hu => List.all_eq_true.1 huo u hu) zQ zV rfl rfl zG (fun p7 c7 => ?_))
 refine aP 12 rfl (B0 rfl) rfl ?_
 refine A0 13 ?_
 refine S2 rfl rfl rfl rfl rfl rfl rfl rfl zR zN (by rfl) ?_
 refine A9 ?_
 refine sP (H9 rfl rfl zV zV) rfl rfl ?_
 refine A3 ?_
 refine I6 (i + 1, p7, c7, es' ++ [[v1, v2, v3, v4, v5, v6, v7, v8, v9, w1, w2, w3, w4, w5]], G1) ?_ ?_ ?_
 (simp only [J4]; exact E3)
 (dsimp only; exact ⟨by omega, hle.trans hle1, by rw [List.length_append]; simp only [List.length_singleton]; omega, by rw [A2w zV]; exact KR.snoc (KR.imp hst fun a e h => h.mono hle1) (by rw [List.length_take, M7]; omega) hru⟩)
 (show ks.length - (i + 1) < ks.length - i; omega)
 refine J5 ?_
 (refine E0 (cs := es'.flatten) zM (fun G2 hle2 hsl2 hno2 => ?_); obtain rfl : i = ks.length := zV)
 refine tT ?_
 refine I7 (rC rfl (A1 rfl rfl)) ?_
 (rw [if_neg (by rintro ⟨h1, h2⟩; first | omega | contradiction), if_neg (by rintro ⟨h1, h2⟩; first | omega | contradiction)]; rw [List.take_of_length_le (by rw [M7]; omega)] at hst; exact Q8.mk (B1.put (us := N3 y v ks) (hnd.mono hle2) (hco.mono hle2) (by rw [M7]; omega) (fun h => by rw [M7]; exact hk14 h) (by rw [M7]) (C8.of hsl2 zV (fun e he => (hst.each (by rw [M7]; omega) e he).1) (fun e he => (hst.each (by rw [M7]; omega) e he).2)) (KR.imp hst fun a e h => h.mono hle2)))
 refine U9 ?_
 refine sB (qE rfl rfl) rfl rfl (fun h164 => ?_) (fun h164 => ?_)
 refine A9 ?_
 refine sB (A1H rfl rfl) rfl rfl (fun h170 => ?_) (fun h170 => ?_)
 refine K1 ?_
 refine I7 (rC rfl (A1 rfl rfl)) ?_
 (rw [if_neg (by rintro ⟨h1, h2⟩; first | omega | contradiction), if_pos (by refine ⟨by omega, by assumption⟩)]; exact Q8.mk hr0)
 refine G9 ?_
 refine sE (A4 rfl) rfl (fun b198 => ?_)
 refine C2 ?_
 refine B7 ?_
 (refine S7 114 14 ?_; refine J3 (fun (x : Nat × Option Addr × Nat × List (List Value) × IM) => ⟨[(8, .int .i64 x.1), (1, .string y), (3, .pointer (some ⟨b3, 0, none⟩)), (5, .pointer (some ⟨b4, 0, none⟩)), (6, .pointer (some ⟨b5, 0, none⟩)), (7, .pointer (some ⟨b198, 0, none⟩))], [.blk b198 [.int .i64 k, .string nm, .int .i64 num, .int .i64 tk, .slice pt tks.length ct, .int .i64 fk, .slice pf fks.length cf, .int .i64 lb, .slice p0 0 c0, .int .i64 ck, .int .i64 ctg, .int .i64 clb, .slice pc cks.length cc, .slice x.2.1 x.1 x.2.2.1], .slc x.2.1 x.2.2.1 114 14 x.1 x.2.2.2.1.flatten, .blk b5 [.int .i64 0, .string ⟨⟨[]⟩⟩, .int .i64 0, .int .i64 0, .slice none 0 0, .int .i64 0, .slice none 0 0, .int .i64 0, .slice none 0 0, .int .i64 0, .int .i64 0, .int .i64 0, .slice none 0 0, .slice none 0 0], .blk b4 vc, .blk b3 [.int .i64 k, .string nm, .int .i64 num, .int .i64 tk, .slice pt tks.length ct, .int .i64 fk, .slice pf fks.length cf, .int .i64 lb, .slice p0 0 c0, .int .i64 ck, .int .i64 ctg, .int .i64 clb, .slice pc cks.length cc, .slice p ks.length c]], x.2.2.2.2⟩) (fun x => x.1 ≤ ks.length ∧ D2 G x.2.2.2.2 ∧ x.2.2.2.1.length = x.1 ∧ KR (B1 x.2.2.2.2) ((N3 y v ks).take x.1) x.2.2.2.1) (fun x => ks.length - x.1) (0, none, 0, [], G) ?_ ?_ ?_)
 (simp only [J4]; exact E3)
 (exact ⟨Nat.zero_le _, D2.refl _, rfl, by rw [List.take_zero]; exact KR.nil⟩)
 (rintro ⟨i, pn, cn, es', Gi⟩ ⟨hi, hle, hel', hst⟩; simp only [] at hi hle hel' hst ⊢; replace hsl := hsl.mono hle; replace hkl := KR.imp hkl (fun a e h => h.mono hle); replace hv := hv.mono hle; replace hnd := hnd.mono hle; replace hco := hco.mono hle)
 refine A8 ?_
 refine sB (I3 rfl rfl) rfl rfl (fun h220 => ?_) (fun h220 => ?_)
 refine A7 ?_
 refine B7 ?_
 (have hil : i < ks.length := zV; obtain ⟨bx, ox, e, rfl, hel, heo, hat, hre, _, hgb⟩ := hsl.kidR hkl (i := i) zV zV; refine D3 D4 rfl ?_)
 refine K3 (i := 8) (l' := [ff,ff,ff,ff,ff,ff,ff,ff,tt,ff,ff,ff,ff,ff]) rfl C1 (A2 rfl rfl (C9 zO) hvl) rfl zT rfl rfl ?_
 refine aP 0 rfl (B0 rfl) rfl ?_
 refine aL 1 rfl (B3 rfl rfl) rfl ?_
 refine aP 2 rfl (B0 rfl) rfl ?_
 refine aL 3 rfl (B3 rfl rfl) rfl ?_
 refine aP 4 rfl (qM rfl) rfl ?_
 refine aP 5 rfl (A6 (j := i) rfl rfl rfl hil) rfl ?_
 refine aL 6 rfl (A2 rfl rfl (hat _) hel) rfl ?_
 refine aP 7 rfl (qM rfl) rfl ?_
 refine A0 9 ?_
 (refine D6 rfl rfl (ih ks[i] (List.getElem_mem zV) Gi _ hre hv) rfl rfl rfl (fun u G1 hle1 hh => ?_); obtain ⟨uc, rfl, hru⟩ := hh; have hul := hru.len; have huo := hru.one; obtain ⟨v1, v2, v3, v4, v5, v6, v7, v8, v9, w1, w2, w3, w4, w5, rfl⟩ := X4 hul)
 refine A0 10 ?_
 (refine B6 rfl (C0 rfl rfl rfl zV zQ rfl) rfl rfl ?_; rintro _ ⟨b241, rfl⟩)
 refine A0 11 ?_
 (refine P5 rfl rfl rfl rfl rfl rfl (fun _ _ => by repeat (first | exact Sw.here | apply Sw.there)) (O1 zO) rfl (fun u hu => List.all_eq_true.1 huo u hu) zQ zV rfl rfl zG (fun p7 c7 => ?_))
 refine aP 12 rfl (B0 rfl) rfl ?_
 refine A0 13 ?_
 refine S2 rfl rfl rfl rfl rfl rfl rfl rfl zR zN (by rfl) ?_
 refine A9 ?_
 refine sP (H9 rfl rfl zV zV) rfl rfl ?_
 refine A3 ?_
 refine I6 (i + 1, p7, c7, es' ++ [[v1, v2, v3, v4, v5, v6, v7, v8, v9, w1, w2, w3, w4, w5]], G1) ?_ ?_ ?_
 (simp only [J4]; exact E3)
 (dsimp only; exact ⟨by omega, hle.trans hle1, by rw [List.length_append]; simp only [List.length_singleton]; omega, by rw [A2w zV]; exact KR.snoc (KR.imp hst fun a e h => h.mono hle1) (by rw [List.length_take, M7]; omega) hru⟩)
 (show ks.length - (i + 1) < ks.length - i; omega)
 refine J5 ?_
 (refine E0 (cs := es'.flatten) zM (fun G2 hle2 hsl2 hno2 => ?_); obtain rfl : i = ks.length := zV)
 refine tT ?_
 refine I7 (rC rfl (A1 rfl rfl)) ?_
 (rw [if_neg (by rintro ⟨h1, h2⟩; first | omega | contradiction), if_neg (by rintro ⟨h1, h2⟩; first | omega | contradiction)]; rw [List.take_of_length_le (by rw [M7]; omega)] at hst; exact Q8.mk (B1.put (us := N3 y v ks) (hnd.mono hle2) (hco.mono hle2) (by rw [M7]; omega) (fun h => by rw [M7]; exact hk14 h) (by rw [M7]) (C8.of hsl2 zV (fun e he => (hst.each (by rw [M7]; omega) e he).1) (fun e he => (hst.each (by rw [M7]; omega) e he).2)) (KR.imp hst fun a e h => h.mono hle2)))
 refine Z7 ?_
 refine sE (A4 rfl) rfl (fun b296 => ?_)
 refine C2 ?_
 refine B7 ?_
 (refine S7 114 14 ?_; refine J3 (fun (x : Nat × Option Addr × Nat × List (List Value) × IM) => ⟨[(8, .int .i64 x.1), (1, .string y), (3, .pointer (some ⟨b3, 0, none⟩)), (5, .pointer (some ⟨b4, 0, none⟩)), (6, .pointer (some ⟨b5, 0, none⟩)), (7, .pointer (some ⟨b296, 0, none⟩))], [.blk b296 [.int .i64 k, .string nm, .int .i64 num, .int .i64 tk, .slice pt tks.length ct, .int .i64 fk, .slice pf fks.length cf, .int .i64 lb, .slice p0 0 c0, .int .i64 ck, .int .i64 ctg, .int .i64 clb, .slice pc cks.length cc, .slice x.2.1 x.1 x.2.2.1], .slc x.2.1 x.2.2.1 114 14 x.1 x.2.2.2.1.flatten, .blk b5 [.int .i64 0, .string ⟨⟨[]⟩⟩, .int .i64 0, .int .i64 0, .slice none 0 0, .int .i64 0, .slice none 0 0, .int .i64 0, .slice none 0 0, .int .i64 0, .int .i64 0, .int .i64 0, .slice none 0 0, .slice none 0 0], .blk b4 vc, .blk b3 [.int .i64 k, .string nm, .int .i64 num, .int .i64 tk, .slice pt tks.length ct, .int .i64 fk, .slice pf fks.length cf, .int .i64 lb, .slice p0 0 c0, .int .i64 ck, .int .i64 ctg, .int .i64 clb, .slice pc cks.length cc, .slice p ks.length c]], x.2.2.2.2⟩) (fun x => x.1 ≤ ks.length ∧ D2 G x.2.2.2.2 ∧ x.2.2.2.1.length = x.1 ∧ KR (B1 x.2.2.2.2) ((N3 y v ks).take x.1) x.2.2.2.1) (fun x => ks.length - x.1) (0, none, 0, [], G) ?_ ?_ ?_)
 (simp only [J4]; exact E3)
 (exact ⟨Nat.zero_le _, D2.refl _, rfl, by rw [List.take_zero]; exact KR.nil⟩)
 (rintro ⟨i, pn, cn, es', Gi⟩ ⟨hi, hle, hel', hst⟩; simp only [] at hi hle hel' hst ⊢; replace hsl := hsl.mono hle; replace hkl := KR.imp hkl (fun a e h => h.mono hle); replace hv := hv.mono hle; replace hnd := hnd.mono hle; replace hco := hco.mono hle)
 refine A8 ?_
 refine sB (I3 rfl rfl) rfl rfl (fun h318 => ?_) (fun h318 => ?_)
 refine A7 ?_
 refine B7 ?_
 (have hil : i < ks.length := zV; obtain ⟨bx, ox, e, rfl, hel, heo, hat, hre, _, hgb⟩ := hsl.kidR hkl (i := i) zV zV; refine D3 D4 rfl ?_)
 refine K3 (i := 8) (l' := [ff,ff,ff,ff,ff,ff,ff,ff,tt,ff,ff,ff,ff,ff]) rfl C1 (A2 rfl rfl (C9 zO) hvl) rfl zT rfl rfl ?_
 refine aP 0 rfl (B0 rfl) rfl ?_
 refine aL 1 rfl (B3 rfl rfl) rfl ?_
 refine aP 2 rfl (B0 rfl) rfl ?_
 refine aL 3 rfl (B3 rfl rfl) rfl ?_
 refine aP 4 rfl (qM rfl) rfl ?_
 refine aP 5 rfl (A6 (j := i) rfl rfl rfl hil) rfl ?_
 refine aL 6 rfl (A2 rfl rfl (hat _) hel) rfl ?_
 refine aP 7 rfl (qM rfl) rfl ?_
 refine A0 9 ?_
 (refine D6 rfl rfl (ih ks[i] (List.getElem_mem zV) Gi _ hre hv) rfl rfl rfl (fun u G1 hle1 hh => ?_); obtain ⟨uc, rfl, hru⟩ := hh; have hul := hru.len; have huo := hru.one; obtain ⟨v1, v2, v3, v4, v5, v6, v7, v8, v9, w1, w2, w3, w4, w5, rfl⟩ := X4 hul)
 refine A0 10 ?_
 (refine B6 rfl (C0 rfl rfl rfl zV zQ rfl) rfl rfl ?_; rintro _ ⟨b339, rfl⟩)
 refine A0 11 ?_
 (refine P5 rfl rfl rfl rfl rfl rfl (fun _ _ => by repeat (first | exact Sw.here | apply Sw.there)) (O1 zO) rfl (fun u hu => List.all_eq_true.1 huo u hu) zQ zV rfl rfl zG (fun p7 c7 => ?_))
 refine aP 12 rfl (B0 rfl) rfl ?_
 refine A0 13 ?_
 refine S2 rfl rfl rfl rfl rfl rfl rfl rfl zR zN (by rfl) ?_
 refine A9 ?_
 refine sP (H9 rfl rfl zV zV) rfl rfl ?_
 refine A3 ?_
 refine I6 (i + 1, p7, c7, es' ++ [[v1, v2, v3, v4, v5, v6, v7, v8, v9, w1, w2, w3, w4, w5]], G1) ?_ ?_ ?_
 (simp only [J4]; exact E3)
 (dsimp only; exact ⟨by omega, hle.trans hle1, by rw [List.length_append]; simp only [List.length_singleton]; omega, by rw [A2w zV]; exact KR.snoc (KR.imp hst fun a e h => h.mono hle1) (by rw [List.length_take, M7]; omega) hru⟩)
 (show ks.length - (i + 1) < ks.length - i; omega)
 refine J5 ?_
 (refine E0 (cs := es'.flatten) zM (fun G2 hle2 hsl2 hno2 => ?_); obtain rfl : i = ks.length := zV)
 refine tT ?_
 refine I7 (rC rfl (A1 rfl rfl)) ?_
 (rw [if_neg (by rintro ⟨h1, h2⟩; first | omega | contradiction), if_neg (by rintro ⟨h1, h2⟩; first | omega | contradiction)]; rw [List.take_of_length_le (by rw [M7]; omega)] at hst; exact Q8.mk (B1.put (us := N3 y v ks) (hnd.mono hle2) (hco.mono hle2) (by rw [M7]; omega) (fun h => by rw [M7]; exact hk14 h) (by rw [M7]) (C8.of hsl2 zV (fun e he => (hst.each (by rw [M7]; omega) e he).1) (fun e he => (hst.each (by rw [M7]; omega) e he).2)) (KR.imp hst fun a e h => h.mono hle2)))
theorem A1o (t : Nt) (C : Cn) (G : IM) (cells cc : List Value) (hr : B1 G t cells) (hc : E6 G C cc) : Fn Tryz.prog 179 [.agg ⟨cells⟩, .agg ⟨cc⟩] [] G (Q8 (.mk 14 ⟨⟨[]⟩⟩ 0 C [t])) := by
 obtain ⟨x1, x2, x3, p4, n4, c4, rfl⟩ := hc.ints
 obtain ⟨v1, v2, v3, v4, v5, v6, v7, v8, v9, w1, w2, w3, w4, w5, rfl⟩ := X4 hr.len
 refine D5 Tryz.func179 rfl Tryz.ntmps179 Tryz.results179 rfl ?_
 intro w0
 refine A3 ?_
 refine sE (D8 rfl rfl) rfl (fun b3 => ?_)
 refine sE (D8 rfl rfl) rfl (fun b4 => ?_)
 refine sE (A4 rfl) rfl (fun b5 => ?_)
 refine A9 ?_
 refine sL (A2 rfl rfl (C9 zO) rfl) rfl rfl ?_
 refine sL (A2 rfl rfl (C9 zO) rfl) rfl rfl ?_
 (refine F0 (C0 rfl rfl rfl zV zQ rfl) rfl ?_; rintro _ ⟨b13, rfl⟩)
 refine C3 ?_
 (refine E0 (cs := [v1, v2, v3, v4, v5, v6, v7, v8, v9, w1, w2, w3, w4, w5]) zM (fun G2 hle2 hsl2 hno2 => ?_))
 refine tT ?_
 refine I7 (rC rfl (A1 rfl rfl)) ?_
 (exact Q8.mk (A4p ⟨by decide, by decide⟩ (hc.mono hle2) (hr.mono hle2) hsl2))
def szX (r : Int) (n : Nat) (m : Int) : Prop := 1 ≤ r ∧ r ≤ n ∧ ((n : Int) ≤ m → r = n) ∧ (m < n → m < r)
mutual
def Nt.sf : Nt → Int → Int
 | .mk _ _ _ _ ks, m => Nt.sfL ks m 1
def Nt.sfL : List Nt → Int → Int → Int
 | [], _, n => n
 | t :: ts, m, n => if n ≤ m then Nt.sfL ts m (n + t.sf (m - n)) else n
end
theorem A9M : ∀ (ks : List Nt), (∀ t ∈ ks, ∀ m, szX (t.sf m) t.sz m) → ∀ (m n : Int) (N : Nat), szX n N m → szX (Nt.sfL ks m n) (N + Nt.szL ks) m
 | [], _, m, n, N, h => by rw [Nt.sfL, Nt.szL]; exact h
 | t :: ts, hk, m, n, N, h => by
  rw [Nt.sfL, Nt.szL]
  have ht := hk t List.mem_cons_self (m - n)
  have hz := t.sz_pos
  by_cases hnm : n ≤ m
  ·rw [if_pos hnm, show N + (t.sz + Nt.szL ts) = (N + t.sz) + Nt.szL ts by omega]
   refine A9M ts (fun u hu => hk u (List.mem_cons_of_mem _ hu)) m _ _ ?_
   unfold szX at h ht ⊢
   omega
  ·rw [if_neg hnm]
   unfold szX at h ⊢
   omega
theorem A9N : ∀ (t : Nt) (m : Int), szX (t.sf m) t.sz m := by
 refine Nt.ind fun k nm num co ks ih m => ?_
 rw [Nt.sf, Nt.sz, Nat.add_comm]
 exact A9M ks ih m 1 1 (by unfold szX; omega)
theorem B4F {ks : List Nt} {i : Nat} {m q : Int} (h : i < ks.length) (hq : q ≤ m) : Nt.sfL (ks.drop i) m q = Nt.sfL (ks.drop (i + 1)) m (q + ks[i].sf (m - q)) := by
 rw [List.drop_eq_getElem_cons h, Nt.sfL, if_pos hq]
theorem B4G {ks : List Nt} {i : Nat} {m q : Int} (h : i < ks.length) (hq : ¬q ≤ m) : Nt.sfL (ks.drop i) m q = q := by
 rw [List.drop_eq_getElem_cons h, Nt.sfL, if_neg hq]
theorem B4H : ∀ (t : Nt) (m : Int) (G : IM) (cells : List Value), t.sz ≤ 4294967296 → -4294967296 ≤ m ∧ m ≤ 4294967296 → B1 G t cells → Fn Tryz.prog 85 [.agg ⟨cells⟩, .int .i64 m] [] G (F8 (.int .i64 (t.sf m)) G) := by
 refine Nt.ind fun k nm num co ks ih m G cells hcnt hm hr => ?_
 obtain ⟨ck, ctg, clb, cks⟩ := co
 obtain ⟨tk, tks, fk, fks, lb, pt, ct, pf, cf, p0, c0, pc, cc, p, c, es, rfl, hnd, hco, hn3, h14, hsl, hkl⟩ := hr.open14
 have hszT := A5x ks
 have hgo := @B4F ks
 have hsno := @B4G ks
 rw [Nt.sz] at hcnt
 rw [Nt.sf]
 refine D5 Tryz.func85 rfl Tryz.ntmps85 Tryz.results85 rfl ?_
 intro w0
 refine A3 ?_
 refine sE (D8 rfl rfl) rfl (fun b3 => ?_)
 refine J5 ?_
 refine B7 ?_
 (refine J3 (fun (x : Nat × Int) => ⟨[(6, .int .i64 (x.1 : Int)), (5, .int .i64 x.2), (1, .int .i64 m), (2, .pointer (some ⟨b3, 0, none⟩))], [.blk b3 [.int .i64 k, .string nm, .int .i64 num, .int .i64 tk, .slice pt tks.length ct, .int .i64 fk, .slice pf fks.length cf, .int .i64 lb, .slice p0 0 c0, .int .i64 ck, .int .i64 ctg, .int .i64 clb, .slice pc cks.length cc, .slice p ks.length c]], G⟩) (fun x => x.1 ≤ ks.length ∧ szX x.2 (Nt.szL (ks.take x.1) + 1) m ∧ Nt.sfL ks m 1 = Nt.sfL (ks.drop x.1) m x.2) (fun x => ks.length - x.1) (0, 1) ?_ ?_ ?_)
 (simp only [J4]; exact E3)
 (exact ⟨Nat.zero_le _, by rw [List.take_zero, Nt.szL]; unfold szX; omega, rfl⟩)
 (rintro ⟨i, q⟩ ⟨hi, hq, hsf⟩; simp only [] at hi hq hsf ⊢; have hti := hszT i; unfold szX at hq)
 refine A8 ?_
 refine sB (I3 rfl rfl) rfl rfl (fun h30 => ?_) (fun h30 => ?_)
 refine B2 ?_
 refine sB (W8 rfl rfl) rfl rfl (fun h34 => ?_) (fun h34 => ?_)
 refine A8 ?_
 refine B7 ?_
 refine A9 ?_
 (have hil : i < ks.length := zV; obtain ⟨b, o, e, rfl, hl, hone, hat, hre, _, hgb⟩ := hsl.kidR hkl (i := i) zV zV; have htk := A76 (ks := ks) (i := i) zV; have hsc := @A5w ks i zV; have hrx := A9N ks[i] (m - q); unfold szX at hrx; refine sP (A6 (j := i) rfl rfl rfl zV) rfl rfl ?_)
 refine sL (A2 rfl rfl (hat _) hl) rfl rfl ?_
 refine A3 ?_
 refine sP (R9 rfl rfl zV zV) rfl rfl ?_
 (refine E5 rfl (ih ks[i] (List.getElem_mem zV) (m - q) G _ zV ⟨by omega, by omega⟩ hre) rfl rfl ?_)
 refine sP (H9 rfl rfl zV zV) rfl rfl ?_
 refine A7 ?_
 refine sP (H9 rfl rfl zV zV) rfl rfl ?_
 refine A3 ?_
 refine I6 (i + 1, q + ks[i].sf (m - q)) ?_ ?_ ?_
 (simp only [J4]; exact E3)
 (exact ⟨by omega, by rw [hsc]; unfold szX; omega, by rw [hsf]; exact hgo zV zV⟩)
 (show ks.length - (i + 1) < ks.length - i; omega)
 refine R0 ?_
 (rw [hsf, hsno zV zV]; exact ⟨rfl, rfl, rfl⟩)
 refine Z1 ?_
 (obtain rfl : i = ks.length := zV; rw [List.drop_length] at hsf; rw [hsf, Nt.sfL]; exact ⟨rfl, rfl, rfl⟩)
def W6 (a b : GK) : Prop := ∃ A B C, CT a A B ∧ CT b B C
def H5 (P : Prop) (c : GK) : IM → Value → List A5 → Prop := K9 fun G' v => ∃ cells n bo, v = .tuple ⟨[.agg ⟨cells⟩, .bool bo]⟩ ∧ E6 G' n cells ∧ (P → n = c.cn ∧ bo = true)
theorem H5.mk {P : Prop} {c : GK} {G : IM} {n : Cn} {cells : List Value} {bo : Bool} (hr : E6 G n cells) (h : P → n = c.cn ∧ bo = true) : H5 P c G (.tuple ⟨[.agg ⟨cells⟩, .bool bo]⟩) [] := ⟨rfl, cells, n, bo, rfl, hr, h⟩
def SCo (a b : GK) : Prop := ∀ (G : IM) (ca cb : List Value), E6 G a.cn ca → E6 G b.cn cb → Fn Tryz.prog 178 [.agg ⟨ca⟩, .agg ⟨cb⟩] [] G (H5 (W6 a b) (cmp a b))
theorem A0t {a b : GK} (h : W6 a b) : fit a b = true := by obtain ⟨A, B, C, h1, h2⟩ := h; exact h1.fit h2
theorem X5 {c d c' d' : GK} (h : W6 (.fn c d) (.fn c' d')) : W6 c' c ∧ W6 d d' := by
 obtain ⟨A, B, C, h1, h2⟩ := h
 cases h1 with
 | fn h3 h4 => cases h2 with
  | fn h5 h6 => exact ⟨⟨_, _, _, h5, h3⟩, ⟨_, _, _, h4, h6⟩⟩
theorem X6 {c d c' d' : GK} (h : W6 (.pr c d) (.pr c' d')) : W6 c c' ∧ W6 d d' := by
 obtain ⟨A, B, C, h1, h2⟩ := h
 cases h1 with
 | pr h3 h4 => cases h2 with
  | pr h5 h6 => exact ⟨⟨_, _, _, h3, h5⟩, ⟨_, _, _, h4, h6⟩⟩
theorem A1E {l : Int} {c b : GK} (h : W6 (.prj l c) b) : W6 c b := by
 obtain ⟨A, B, C, h1, h2⟩ := h
 cases h1 with | prj h3 _ _ _ => exact ⟨_, _, _, h3, h2⟩
theorem B4I {l : Int} {c d : GK} (h : W6 (.inj c) (.prj l d)) (ht : c.tg = d.tg) : W6 c d := by
 obtain ⟨A, B, C, h1, h2⟩ := h
 cases h1 with
 | @inj _ _ G h3 hp hG => cases h2 with
  | @prj _ _ H _ h5 hm hH hl =>
   obtain ⟨q1, q2⟩ := h5.src hm
   obtain ⟨p1, p2, p3, p4, p5⟩ := h3.plg hp
   have : G = H := A67 hG hH (by rw [← p5, ← p4, ht, q2])
   subst this
   exact ⟨_, _, _, h3, h5⟩
theorem A4D {a d : GK} (h : W6 a (.inj d)) : d.pl = true ∧ W6 a d := by
 obtain ⟨A, B, C, h1, h2⟩ := h
 cases h2 with | inj h3 hp _ => exact ⟨hp, _, _, _, h1, h3⟩
theorem A1F {a b : GK} {bk btg blb : Int} {bks : List Cn} (hb : b.cn = .mk bk btg blb bks) (hp : a.pl = true) (h4 : bk ≠ 4) (h6 : bk ≠ 6) (h : W6 a b) : b.pl = true := by
 obtain ⟨A, B, C, h1, h2⟩ := h
 have hB := (h1.plg hp).2.1
 cases h2 <;> simp only [GK.cn, Cn.mk.injEq] at hb <;> first | rfl | (exfalso; omega) | exact absurd rfl hB
theorem A9O {a : GK} {ak atg alb : Int} {aks : List Cn} (h : a.cn = .mk ak atg alb aks) (h1 : ak = 1) : alb = 0 ∧ aks = [] := by
 cases a <;> simp only [GK.cn, Cn.mk.injEq] at h <;> first | (exfalso; omega) | exact ⟨h.2.2.1.symm, h.2.2.2.symm⟩
theorem A51 {a : GK} {ak atg alb : Int} {aks : List Cn} (h : a.cn = .mk ak atg alb aks) (hp : a.pl = true) : ak = 1 ∨ ak = 2 ∨ ak = 3 := by
 cases a <;> simp only [GK.cn, Cn.mk.injEq] at h <;> first | (cases hp; done) | (obtain ⟨rfl, _⟩ := h; simp)
theorem A3p (n : Nat) (ih : ∀ a b : GK, a.z + b.z ≤ n → SCo a b) (a b : GK) (hz : a.z + b.z ≤ n + 1) (hp : a.pl = true) (G : IM) (ca cb : List Value) (hra : E6 G a.cn ca) (hrb : E6 G b.cn cb) :
  Fn Tryz.prog 197 [.agg ⟨ca⟩, .agg ⟨cb⟩] [] G (H5 (b.pl = true ∧ W6 a b) (cmp a b)) := by
 obtain ⟨ak, atg, alb, aks, ha⟩ := A0U a
 obtain ⟨bk, btg, blb, bks, hb⟩ := A0U b
 have hkA := A51 ha hp
 have hPP : b.pl = true ∧ W6 a b → ak = bk ∧ atg = btg ∧ (ak = 1 → cmp a b = a) := fun h => A4u ha hb hp (by have := A51 hb h.1; omega) (by have := A51 hb h.1; omega) (A0t h.2)
 rw [ha] at hra
 rw [hb] at hrb
 obtain ⟨pa, cpa, ea, rfl, hak, hatg, halb, hna, _, _, hsa, hka⟩ := hra.open4
 obtain ⟨pb, cpb, eb, rfl, hbk, hbtg, hblb, hnb, _, _, hsb, hkb⟩ := hrb.open4
 have h0 : F9 0 := ⟨by decide, by decide⟩
 refine D5 Tryz.func197 rfl Tryz.ntmps197 Tryz.results197 rfl ?_
 intro w0
 refine A3 ?_
 refine sE (D8 rfl rfl) rfl (fun b3 => ?_)
 refine sE (D8 rfl rfl) rfl (fun b4 => ?_)
 refine sE (A4 rfl) rfl (fun b5 => ?_)
 refine H3 ?_
 refine sB (O6 rfl rfl) rfl rfl (fun h16 => ?_) (fun h16 => ?_)
 refine K1 ?_
 refine C5 (rC rfl (A1 rfl rfl)) (rT rfl) ?_
 (exact H5.mk (X3 _) (fun h => by have := hPP h; omega))
 refine H3 ?_
 refine sB (qE rfl rfl) rfl rfl (fun h41 => ?_) (fun h41 => ?_)
 refine C3 ?_
 refine D3 D4 rfl ?_
 refine E9 (i := 0) (l' := [tt,ff,ff,ff,ff,ff,ff,ff,ff,ff]) rfl C1 (B0 rfl) rfl zT rfl rfl ?_
 refine aL 1 rfl (B3 rfl rfl) rfl ?_
 refine aP 3 rfl (B0 rfl) rfl ?_
 refine aL 4 rfl (B3 rfl rfl) rfl ?_
 refine aP 5 rfl (B0 rfl) rfl ?_
 refine aL 6 rfl (B3 rfl rfl) rfl ?_
 refine V4 (i := 7) (l' := [tt,tt,ff,tt,tt,tt,tt,tt,ff,ff]) rfl C1 (qE rfl rfl) rfl zT rfl rfl (fun h53 => ?_) (fun h53 => ?_)
 refine A0 2 ?_
 refine M8 rfl rfl ((A4z _ _)) rfl rfl rfl ?_
 refine A0 8 ?_
 refine B8 rfl ?_
 refine aP 9 rfl (qA rfl) rfl ?_
 refine C3 ?_
 refine C5 (rC rfl (A1 rfl rfl)) (rT rfl) ?_
 (exact H5.mk (E6.put (ks := []) (es := []) ⟨by decide, by decide⟩ hatg h0 zU zU zU rfl (C8.nil _ _) KR.nil) (fun h => by have h9 := hPP h; have h8 := A9O ha zV; first | (exfalso; omega) | (refine ⟨?_, rfl⟩; rw [h9.2.2 zV, ha, h8.1, h8.2]; congr 1; omega)))
 refine A0 2 ?_
 refine M8 rfl rfl ((A4z _ _)) rfl rfl rfl ?_
 refine A0 8 ?_
 refine B8 rfl ?_
 refine aP 9 rfl (qA rfl) rfl ?_
 refine C3 ?_
 refine C5 (rC rfl (A1 rfl rfl)) (rT rfl) ?_
 (exact H5.mk (E6.put (ks := []) (es := []) ⟨by decide, by decide⟩ hatg h0 zU zU zU rfl (C8.nil _ _) KR.nil) (fun h => by have h9 := hPP h; have h8 := A9O ha zV; first | (exfalso; omega) | (refine ⟨?_, rfl⟩; rw [h9.2.2 zV, ha, h8.1, h8.2]; congr 1; omega)))
 refine A7 ?_
 focus (have hg : ak = 2 ∨ ak = 3 := zV; have hgb : bk = ak := zV; rcases hg with hg | hg; obtain ⟨a1, a2, rfl, rfl, rfl, rfl⟩ := A4s ha hg; obtain ⟨b1, b2, rfl, rfl, rfl, rfl⟩ := A4s hb zV; subst hgb; subst hg; rotate_left; obtain ⟨a1, a2, rfl, rfl, rfl, rfl⟩ := A4t ha hg; obtain ⟨b1, b2, rfl, rfl, rfl, rfl⟩ := A4t hb zV; subst hgb; subst hg; rotate_left; all_goals (obtain ⟨q1, o1, e1, rfl, hl1, ho1, hat1, hre1, _, hgb1⟩ := hsa.kidR hka (i := 0) zW zW; obtain ⟨q2, o2, e2, hE2, hl2, ho2, hat2, hre2, _, hgb2⟩ := hsa.kidR hka (i := 1) zW zW; cases hE2; obtain ⟨q3, o3, e3, rfl, hl3, ho3, hat3, hre3, _, hgb3⟩ := hsb.kidR hkb (i := 0) zW zW; obtain ⟨q4, o4, e4, hE4, hl4, ho4, hat4, hre4, _, hgb4⟩ := hsb.kidR hkb (i := 1) zW zW; cases hE4; replace hre1 : E6 G a1.cn e1 := hre1; replace hre2 : E6 G a2.cn e2 := hre2; replace hre3 : E6 G b1.cn e3 := hre3; replace hre4 : E6 G b2.cn e4 := hre4; have hc1 : True := trivial; refine D3 D4 rfl ?_))
 refine E9 (i := 0) (l' := [tt,ff,ff,ff,ff,ff,ff,ff,ff,ff,ff,ff,ff,ff,ff]) rfl C1 (B0 rfl) rfl zT rfl rfl ?_
 refine aL 1 rfl (B3 rfl rfl) rfl ?_
 refine aP 2 rfl (A6 (j := 0) rfl rfl rfl zW) rfl ?_
 refine aL 3 rfl (A2 rfl rfl (hat1 _) hl1) rfl ?_
 refine aP 4 rfl (B0 rfl) rfl ?_
 refine aL 5 rfl (B3 rfl rfl) rfl ?_
 refine aP 6 rfl (A6 (j := 0) rfl rfl rfl zW) rfl ?_
 refine aL 7 rfl (A2 rfl rfl (hat3 _) hl3) rfl ?_
 refine J8 (j := 8) (j' := 12) zT ?_ ?_
 (clear hc1; refine D6 rfl rfl (ih a1 b1 (by simp [GK.z] at hz; omega) G _ _ hre1 hre3) rfl rfl rfl (fun u G1 hle1 hh => ?_); obtain ⟨uc, n1, bo1, rfl, hru, hu1⟩ := hh; obtain ⟨x1, x2, x3, p4, n4, c4, rfl⟩ := hru.ints)
 refine aP 9 rfl (qM rfl) rfl ?_
 refine aP 10 rfl (pX rfl rfl) rfl ?_
 refine aP 11 rfl (pX rfl rfl) rfl ?_
 refine A0 12 ?_
 (refine B6 rfl (A4 rfl) rfl rfl ?_; rintro _ ⟨b97, rfl⟩)
 refine A0 13 ?_
 refine B8 rfl ?_
 refine aP 14 rfl (qA rfl) rfl ?_
 refine A8 ?_
 refine sP (I1 rfl rfl zV) rfl rfl ?_
 refine B2 ?_
 refine D3 D4 rfl ?_
 refine E9 (i := 0) (l' := [tt,ff,ff,ff,ff,ff,ff,ff,ff,ff,ff,ff,ff,ff]) rfl C1 (B0 rfl) rfl zT rfl rfl ?_
 refine aL 1 rfl (B3 rfl rfl) rfl ?_
 refine aP 2 rfl (A6 (j := 0) rfl rfl rfl zW) rfl ?_
 refine aL 3 rfl (A2 rfl rfl (At.moS hle1 (hat3 [])) hl3) rfl ?_
 refine aP 4 rfl (B0 rfl) rfl ?_
 refine aL 5 rfl (B3 rfl rfl) rfl ?_
 refine aP 6 rfl (A6 (j := 0) rfl rfl rfl zW) rfl ?_
 refine aL 7 rfl (A2 rfl rfl (At.moS hle1 (hat1 [])) hl1) rfl ?_
 refine A0 8 ?_
 (have hdup := hu1; clear hu1; refine D6 rfl rfl (ih b1 a1 (by simp [GK.z] at hz; omega) G1 _ _ (hre3.mono hle1) (hre1.mono hle1)) rfl rfl rfl (fun u G2 hle2 hh => ?_); obtain ⟨wc, n2, bo2, rfl, hrw, hu2⟩ := hh; obtain ⟨w1, w2, w3, p6, n6, c6, rfl⟩ := hrw.ints)
 refine aP 9 rfl (qM rfl) rfl ?_
 refine aP 10 rfl (pX rfl rfl) rfl ?_
 refine aP 11 rfl (pX rfl rfl) rfl ?_
 refine A0 12 ?_
 refine B8 rfl ?_
 refine aP 13 rfl (qA rfl) rfl ?_
 refine B2 ?_
 refine D3 D4 rfl ?_
 refine E9 (i := 0) (l' := [tt,ff,ff,ff,ff,ff,ff,ff,ff,ff,ff,ff,ff,ff,ff]) rfl C1 (B0 rfl) rfl zT rfl rfl ?_
 refine aL 1 rfl (B3 rfl rfl) rfl ?_
 refine aP 2 rfl (A6 (j := 1) rfl rfl rfl zW) rfl ?_
 refine aL 3 rfl (A2 rfl rfl (At.moS (hle1.trans hle2) (hat2 [])) hl2) rfl ?_
 refine aP 4 rfl (B0 rfl) rfl ?_
 refine aL 5 rfl (B3 rfl rfl) rfl ?_
 refine aP 6 rfl (A6 (j := 1) rfl rfl rfl zW) rfl ?_
 refine aL 7 rfl (A2 rfl rfl (At.moS (hle1.trans hle2) (hat4 [])) hl4) rfl ?_
 refine J8 (j := 8) (j' := 12) zT ?_ ?_
 (refine D6 rfl rfl (ih a2 b2 (by simp [GK.z] at hz; omega) G2 _ _ (hre2.mono (hle1.trans hle2)) (hre4.mono (hle1.trans hle2))) rfl rfl rfl (fun u G3 hle3 hh => ?_); obtain ⟨vc, n3, bo3, rfl, hrv, hu3⟩ := hh; obtain ⟨y1, y2, y3, p5, n5, c5, rfl⟩ := hrv.ints; cases bo2 <;> cases bo3)
 refine aP 9 rfl (qM rfl) rfl ?_
 refine aP 10 rfl (pX rfl rfl) rfl ?_
 refine aP 11 rfl (pX rfl rfl) rfl ?_
 refine A0 12 ?_
 (refine B6 rfl (A4 rfl) rfl rfl ?_; rintro _ ⟨b147, rfl⟩)
 refine A0 13 ?_
 refine B8 rfl ?_
 refine aP 14 rfl (qA rfl) rfl ?_
 refine B4 ?_
 (refine F0 (C0 rfl rfl rfl zV zQ rfl) rfl ?_; rintro _ ⟨b159, rfl⟩)
 refine C2 ?_
 (refine E0 (cs := [.int .i64 w1, .int .i64 w2, .int .i64 w3, .slice p6 n6 c6, .int .i64 y1, .int .i64 y2, .int .i64 y3, .slice p5 n5 c5]) zM (fun G5 hle5 hsl5 hno5 => ?_))
 refine tT ?_
 refine C5 (rC rfl (A1 rfl rfl)) (rT rfl) ?_
 (exact H5.mk (L7 (hrw.mono (hle3.trans hle5)) (hrv.mono hle5) hsl5 ⟨by decide, by decide⟩ h0 h0 zU) (fun h => by have hq := X5 h.2; have e1 := hu2 hq.1; have e2 := hu3 hq.2; first | exact absurd e1.2 zU | exact absurd e2.2 zU | exact ⟨by rw [cmp, GK.cn, e1.1, e2.1], rfl⟩))
 refine aP 9 rfl (qM rfl) rfl ?_
 refine aP 10 rfl (pX rfl rfl) rfl ?_
 refine aP 11 rfl (pX rfl rfl) rfl ?_
 refine A0 12 ?_
 (refine B6 rfl (A4 rfl) rfl rfl ?_; rintro _ ⟨b177, rfl⟩)
 refine A0 13 ?_
 refine B8 rfl ?_
 refine aP 14 rfl (qA rfl) rfl ?_
 refine B4 ?_
 (refine F0 (C0 rfl rfl rfl zV zQ rfl) rfl ?_; rintro _ ⟨b189, rfl⟩)
 refine C2 ?_
 (refine E0 (cs := [.int .i64 w1, .int .i64 w2, .int .i64 w3, .slice p6 n6 c6, .int .i64 y1, .int .i64 y2, .int .i64 y3, .slice p5 n5 c5]) zM (fun G5 hle5 hsl5 hno5 => ?_))
 refine tT ?_
 refine C5 (rC rfl (A1 rfl rfl)) (rT rfl) ?_
 (exact H5.mk (L7 (hrw.mono (hle3.trans hle5)) (hrv.mono hle5) hsl5 ⟨by decide, by decide⟩ h0 h0 zU) (fun h => by have hq := X5 h.2; have e1 := hu2 hq.1; have e2 := hu3 hq.2; first | exact absurd e1.2 zU | exact absurd e2.2 zU | exact ⟨by rw [cmp, GK.cn, e1.1, e2.1], rfl⟩))
 refine aP 9 rfl (qM rfl) rfl ?_
 refine aP 10 rfl (pX rfl rfl) rfl ?_
 refine aP 11 rfl (pX rfl rfl) rfl ?_
 refine A0 12 ?_
 (refine B6 rfl (A4 rfl) rfl rfl ?_; rintro _ ⟨b207, rfl⟩)
 refine A0 13 ?_
 refine B8 rfl ?_
 refine aP 14 rfl (qA rfl) rfl ?_
 refine B4 ?_
 (refine F0 (C0 rfl rfl rfl zV zQ rfl) rfl ?_; rintro _ ⟨b219, rfl⟩)
 refine C2 ?_
 (refine E0 (cs := [.int .i64 w1, .int .i64 w2, .int .i64 w3, .slice p6 n6 c6, .int .i64 y1, .int .i64 y2, .int .i64 y3, .slice p5 n5 c5]) zM (fun G5 hle5 hsl5 hno5 => ?_))
 refine tT ?_
 refine C5 (rC rfl (A1 rfl rfl)) (rT rfl) ?_
 (exact H5.mk (L7 (hrw.mono (hle3.trans hle5)) (hrv.mono hle5) hsl5 ⟨by decide, by decide⟩ h0 h0 zU) (fun h => by have hq := X5 h.2; have e1 := hu2 hq.1; have e2 := hu3 hq.2; first | exact absurd e1.2 zU | exact absurd e2.2 zU | exact ⟨by rw [cmp, GK.cn, e1.1, e2.1], rfl⟩))
 refine aP 9 rfl (qM rfl) rfl ?_
 refine aP 10 rfl (pX rfl rfl) rfl ?_
 refine aP 11 rfl (pX rfl rfl) rfl ?_
 refine A0 12 ?_
 (refine B6 rfl (A4 rfl) rfl rfl ?_; rintro _ ⟨b237, rfl⟩)
 refine A0 13 ?_
 refine B8 rfl ?_
 refine aP 14 rfl (qA rfl) rfl ?_
 refine B4 ?_
 (refine F0 (C0 rfl rfl rfl zV zQ rfl) rfl ?_; rintro _ ⟨b249, rfl⟩)
 refine C2 ?_
 (refine E0 (cs := [.int .i64 w1, .int .i64 w2, .int .i64 w3, .slice p6 n6 c6, .int .i64 y1, .int .i64 y2, .int .i64 y3, .slice p5 n5 c5]) zM (fun G5 hle5 hsl5 hno5 => ?_))
 refine tT ?_
 refine C5 (rC rfl (A1 rfl rfl)) (rT rfl) ?_
 (exact H5.mk (L7 (hrw.mono (hle3.trans hle5)) (hrv.mono hle5) hsl5 ⟨by decide, by decide⟩ h0 h0 zU) (fun h => by have hq := X5 h.2; have e1 := hu2 hq.1; have e2 := hu3 hq.2; first | exact absurd e1.2 zU | exact absurd e2.2 zU | exact ⟨by rw [cmp, GK.cn, e1.1, e2.1], rfl⟩))
 (refine B6 rfl (A4 rfl) rfl rfl ?_; rintro _ ⟨b263, rfl⟩)
 refine A0 8 ?_
 (refine D6 rfl rfl (ih a2 b2 (by simp [GK.z] at hz; omega) G2 _ _ (hre2.mono (hle1.trans hle2)) (hre4.mono (hle1.trans hle2))) rfl rfl rfl (fun u G3 hle3 hh => ?_); obtain ⟨vc, n3, bo3, rfl, hrv, hu3⟩ := hh; obtain ⟨y1, y2, y3, p5, n5, c5, rfl⟩ := hrv.ints; cases bo2 <;> cases bo3)
 refine aP 9 rfl (qM rfl) rfl ?_
 refine aP 10 rfl (pX rfl rfl) rfl ?_
 refine aP 11 rfl (pX rfl rfl) rfl ?_
 refine A0 13 ?_
 refine B8 rfl ?_
 refine aP 14 rfl (qA rfl) rfl ?_
 refine B4 ?_
 (refine F0 (C0 rfl rfl rfl zV zQ rfl) rfl ?_; rintro _ ⟨b280, rfl⟩)
 refine C2 ?_
 (refine E0 (cs := [.int .i64 w1, .int .i64 w2, .int .i64 w3, .slice p6 n6 c6, .int .i64 y1, .int .i64 y2, .int .i64 y3, .slice p5 n5 c5]) zM (fun G5 hle5 hsl5 hno5 => ?_))
 refine tT ?_
 refine C5 (rC rfl (A1 rfl rfl)) (rT rfl) ?_
 (exact H5.mk (L7 (hrw.mono (hle3.trans hle5)) (hrv.mono hle5) hsl5 ⟨by decide, by decide⟩ h0 h0 zU) (fun h => by have hq := X5 h.2; have e1 := hu2 hq.1; have e2 := hu3 hq.2; first | exact absurd e1.2 zU | exact absurd e2.2 zU | exact ⟨by rw [cmp, GK.cn, e1.1, e2.1], rfl⟩))
 refine aP 9 rfl (qM rfl) rfl ?_
 refine aP 10 rfl (pX rfl rfl) rfl ?_
 refine aP 11 rfl (pX rfl rfl) rfl ?_
 refine A0 13 ?_
 refine B8 rfl ?_
 refine aP 14 rfl (qA rfl) rfl ?_
 refine B4 ?_
 (refine F0 (C0 rfl rfl rfl zV zQ rfl) rfl ?_; rintro _ ⟨b308, rfl⟩)
 refine C2 ?_
 (refine E0 (cs := [.int .i64 w1, .int .i64 w2, .int .i64 w3, .slice p6 n6 c6, .int .i64 y1, .int .i64 y2, .int .i64 y3, .slice p5 n5 c5]) zM (fun G5 hle5 hsl5 hno5 => ?_))
 refine tT ?_
 refine C5 (rC rfl (A1 rfl rfl)) (rT rfl) ?_
 (exact H5.mk (L7 (hrw.mono (hle3.trans hle5)) (hrv.mono hle5) hsl5 ⟨by decide, by decide⟩ h0 h0 zU) (fun h => by have hq := X5 h.2; have e1 := hu2 hq.1; have e2 := hu3 hq.2; first | exact absurd e1.2 zU | exact absurd e2.2 zU | exact ⟨by rw [cmp, GK.cn, e1.1, e2.1], rfl⟩))
 refine aP 9 rfl (qM rfl) rfl ?_
 refine aP 10 rfl (pX rfl rfl) rfl ?_
 refine aP 11 rfl (pX rfl rfl) rfl ?_
 refine A0 13 ?_
 refine B8 rfl ?_
 refine aP 14 rfl (qA rfl) rfl ?_
 refine B4 ?_
 (refine F0 (C0 rfl rfl rfl zV zQ rfl) rfl ?_; rintro _ ⟨b336, rfl⟩)
 refine C2 ?_
 (refine E0 (cs := [.int .i64 w1, .int .i64 w2, .int .i64 w3, .slice p6 n6 c6, .int .i64 y1, .int .i64 y2, .int .i64 y3, .slice p5 n5 c5]) zM (fun G5 hle5 hsl5 hno5 => ?_))
 refine tT ?_
 refine C5 (rC rfl (A1 rfl rfl)) (rT rfl) ?_
 (exact H5.mk (L7 (hrw.mono (hle3.trans hle5)) (hrv.mono hle5) hsl5 ⟨by decide, by decide⟩ h0 h0 zU) (fun h => by have hq := X5 h.2; have e1 := hu2 hq.1; have e2 := hu3 hq.2; first | exact absurd e1.2 zU | exact absurd e2.2 zU | exact ⟨by rw [cmp, GK.cn, e1.1, e2.1], rfl⟩))
 refine aP 9 rfl (qM rfl) rfl ?_
 refine aP 10 rfl (pX rfl rfl) rfl ?_
 refine aP 11 rfl (pX rfl rfl) rfl ?_
 refine A0 13 ?_
 refine B8 rfl ?_
 refine aP 14 rfl (qA rfl) rfl ?_
 refine B4 ?_
 (refine F0 (C0 rfl rfl rfl zV zQ rfl) rfl ?_; rintro _ ⟨b364, rfl⟩)
 refine C2 ?_
 (refine E0 (cs := [.int .i64 w1, .int .i64 w2, .int .i64 w3, .slice p6 n6 c6, .int .i64 y1, .int .i64 y2, .int .i64 y3, .slice p5 n5 c5]) zM (fun G5 hle5 hsl5 hno5 => ?_))
 refine tT ?_
 refine C5 (rC rfl (A1 rfl rfl)) (rT rfl) ?_
 (exact H5.mk (L7 (hrw.mono (hle3.trans hle5)) (hrv.mono hle5) hsl5 ⟨by decide, by decide⟩ h0 h0 zU) (fun h => by have hq := X5 h.2; have e1 := hu2 hq.1; have e2 := hu3 hq.2; first | exact absurd e1.2 zU | exact absurd e2.2 zU | exact ⟨by rw [cmp, GK.cn, e1.1, e2.1], rfl⟩))
 (refine B6 rfl (A4 rfl) rfl rfl ?_; rintro _ ⟨b378, rfl⟩)
 refine A0 8 ?_
 (clear hc1; refine D6 rfl rfl (ih a1 b1 (by simp [GK.z] at hz; omega) G _ _ hre1 hre3) rfl rfl rfl (fun u G1 hle1 hh => ?_); obtain ⟨uc, n1, bo1, rfl, hru, hu1⟩ := hh; obtain ⟨x1, x2, x3, p4, n4, c4, rfl⟩ := hru.ints)
 refine aP 9 rfl (qM rfl) rfl ?_
 refine aP 10 rfl (pX rfl rfl) rfl ?_
 refine aP 11 rfl (pX rfl rfl) rfl ?_
 refine A0 13 ?_
 refine B8 rfl ?_
 refine aP 14 rfl (qA rfl) rfl ?_
 refine A8 ?_
 refine sP (I1 rfl rfl zV) rfl rfl ?_
 refine B2 ?_
 refine D3 D4 rfl ?_
 refine E9 (i := 0) (l' := [tt,ff,ff,ff,ff,ff,ff,ff,ff,ff,ff,ff,ff,ff]) rfl C1 (B0 rfl) rfl zT rfl rfl ?_
 refine aL 1 rfl (B3 rfl rfl) rfl ?_
 refine aP 2 rfl (A6 (j := 0) rfl rfl rfl zW) rfl ?_
 refine aL 3 rfl (A2 rfl rfl (At.moS hle1 (hat3 [])) hl3) rfl ?_
 refine aP 4 rfl (B0 rfl) rfl ?_
 refine aL 5 rfl (B3 rfl rfl) rfl ?_
 refine aP 6 rfl (A6 (j := 0) rfl rfl rfl zW) rfl ?_
 refine aL 7 rfl (A2 rfl rfl (At.moS hle1 (hat1 [])) hl1) rfl ?_
 refine A0 8 ?_
 (have hdup := hu1; clear hu1; refine D6 rfl rfl (ih b1 a1 (by simp [GK.z] at hz; omega) G1 _ _ (hre3.mono hle1) (hre1.mono hle1)) rfl rfl rfl (fun u G2 hle2 hh => ?_); obtain ⟨wc, n2, bo2, rfl, hrw, hu2⟩ := hh; obtain ⟨w1, w2, w3, p6, n6, c6, rfl⟩ := hrw.ints)
 refine aP 9 rfl (qM rfl) rfl ?_
 refine aP 10 rfl (pX rfl rfl) rfl ?_
 refine aP 11 rfl (pX rfl rfl) rfl ?_
 refine A0 12 ?_
 refine B8 rfl ?_
 refine aP 13 rfl (qA rfl) rfl ?_
 refine B2 ?_
 refine D3 D4 rfl ?_
 refine E9 (i := 0) (l' := [tt,ff,ff,ff,ff,ff,ff,ff,ff,ff,ff,ff,ff,ff,ff]) rfl C1 (B0 rfl) rfl zT rfl rfl ?_
 refine aL 1 rfl (B3 rfl rfl) rfl ?_
 refine aP 2 rfl (A6 (j := 1) rfl rfl rfl zW) rfl ?_
 refine aL 3 rfl (A2 rfl rfl (At.moS (hle1.trans hle2) (hat2 [])) hl2) rfl ?_
 refine aP 4 rfl (B0 rfl) rfl ?_
 refine aL 5 rfl (B3 rfl rfl) rfl ?_
 refine aP 6 rfl (A6 (j := 1) rfl rfl rfl zW) rfl ?_
 refine aL 7 rfl (A2 rfl rfl (At.moS (hle1.trans hle2) (hat4 [])) hl4) rfl ?_
 refine J8 (j := 8) (j' := 12) zT ?_ ?_
 (refine D6 rfl rfl (ih a2 b2 (by simp [GK.z] at hz; omega) G2 _ _ (hre2.mono (hle1.trans hle2)) (hre4.mono (hle1.trans hle2))) rfl rfl rfl (fun u G3 hle3 hh => ?_); obtain ⟨vc, n3, bo3, rfl, hrv, hu3⟩ := hh; obtain ⟨y1, y2, y3, p5, n5, c5, rfl⟩ := hrv.ints; cases bo2 <;> cases bo3)
 refine aP 9 rfl (qM rfl) rfl ?_
 refine aP 10 rfl (pX rfl rfl) rfl ?_
 refine aP 11 rfl (pX rfl rfl) rfl ?_
 refine A0 12 ?_
 (refine B6 rfl (A4 rfl) rfl rfl ?_; rintro _ ⟨b433, rfl⟩)
 refine A0 13 ?_
 refine B8 rfl ?_
 refine aP 14 rfl (qA rfl) rfl ?_
 refine B4 ?_
 (refine F0 (C0 rfl rfl rfl zV zQ rfl) rfl ?_; rintro _ ⟨b445, rfl⟩)
 refine C2 ?_
 (refine E0 (cs := [.int .i64 w1, .int .i64 w2, .int .i64 w3, .slice p6 n6 c6, .int .i64 y1, .int .i64 y2, .int .i64 y3, .slice p5 n5 c5]) zM (fun G5 hle5 hsl5 hno5 => ?_))
 refine tT ?_
 refine C5 (rC rfl (A1 rfl rfl)) (rT rfl) ?_
 (exact H5.mk (L7 (hrw.mono (hle3.trans hle5)) (hrv.mono hle5) hsl5 ⟨by decide, by decide⟩ h0 h0 zU) (fun h => by have hq := X5 h.2; have e1 := hu2 hq.1; have e2 := hu3 hq.2; first | exact absurd e1.2 zU | exact absurd e2.2 zU | exact ⟨by rw [cmp, GK.cn, e1.1, e2.1], rfl⟩))
 refine aP 9 rfl (qM rfl) rfl ?_
 refine aP 10 rfl (pX rfl rfl) rfl ?_
 refine aP 11 rfl (pX rfl rfl) rfl ?_
 refine A0 12 ?_
 (refine B6 rfl (A4 rfl) rfl rfl ?_; rintro _ ⟨b463, rfl⟩)
 refine A0 13 ?_
 refine B8 rfl ?_
 refine aP 14 rfl (qA rfl) rfl ?_
 refine B4 ?_
 (refine F0 (C0 rfl rfl rfl zV zQ rfl) rfl ?_; rintro _ ⟨b475, rfl⟩)
 refine C2 ?_
 (refine E0 (cs := [.int .i64 w1, .int .i64 w2, .int .i64 w3, .slice p6 n6 c6, .int .i64 y1, .int .i64 y2, .int .i64 y3, .slice p5 n5 c5]) zM (fun G5 hle5 hsl5 hno5 => ?_))
 refine tT ?_
 refine C5 (rC rfl (A1 rfl rfl)) (rT rfl) ?_
 (exact H5.mk (L7 (hrw.mono (hle3.trans hle5)) (hrv.mono hle5) hsl5 ⟨by decide, by decide⟩ h0 h0 zU) (fun h => by have hq := X5 h.2; have e1 := hu2 hq.1; have e2 := hu3 hq.2; first | exact absurd e1.2 zU | exact absurd e2.2 zU | exact ⟨by rw [cmp, GK.cn, e1.1, e2.1], rfl⟩))
 refine aP 9 rfl (qM rfl) rfl ?_
 refine aP 10 rfl (pX rfl rfl) rfl ?_
 refine aP 11 rfl (pX rfl rfl) rfl ?_
 refine A0 12 ?_
 (refine B6 rfl (A4 rfl) rfl rfl ?_; rintro _ ⟨b493, rfl⟩)
 refine A0 13 ?_
 refine B8 rfl ?_
 refine aP 14 rfl (qA rfl) rfl ?_
 refine B4 ?_
 (refine F0 (C0 rfl rfl rfl zV zQ rfl) rfl ?_; rintro _ ⟨b505, rfl⟩)
 refine C2 ?_
 (refine E0 (cs := [.int .i64 w1, .int .i64 w2, .int .i64 w3, .slice p6 n6 c6, .int .i64 y1, .int .i64 y2, .int .i64 y3, .slice p5 n5 c5]) zM (fun G5 hle5 hsl5 hno5 => ?_))
 refine tT ?_
 refine C5 (rC rfl (A1 rfl rfl)) (rT rfl) ?_
 (exact H5.mk (L7 (hrw.mono (hle3.trans hle5)) (hrv.mono hle5) hsl5 ⟨by decide, by decide⟩ h0 h0 zU) (fun h => by have hq := X5 h.2; have e1 := hu2 hq.1; have e2 := hu3 hq.2; first | exact absurd e1.2 zU | exact absurd e2.2 zU | exact ⟨by rw [cmp, GK.cn, e1.1, e2.1], rfl⟩))
 refine aP 9 rfl (qM rfl) rfl ?_
 refine aP 10 rfl (pX rfl rfl) rfl ?_
 refine aP 11 rfl (pX rfl rfl) rfl ?_
 refine A0 12 ?_
 (refine B6 rfl (A4 rfl) rfl rfl ?_; rintro _ ⟨b523, rfl⟩)
 refine A0 13 ?_
 refine B8 rfl ?_
 refine aP 14 rfl (qA rfl) rfl ?_
 refine B4 ?_
 (refine F0 (C0 rfl rfl rfl zV zQ rfl) rfl ?_; rintro _ ⟨b535, rfl⟩)
 refine C2 ?_
 (refine E0 (cs := [.int .i64 w1, .int .i64 w2, .int .i64 w3, .slice p6 n6 c6, .int .i64 y1, .int .i64 y2, .int .i64 y3, .slice p5 n5 c5]) zM (fun G5 hle5 hsl5 hno5 => ?_))
 refine tT ?_
 refine C5 (rC rfl (A1 rfl rfl)) (rT rfl) ?_
 (exact H5.mk (L7 (hrw.mono (hle3.trans hle5)) (hrv.mono hle5) hsl5 ⟨by decide, by decide⟩ h0 h0 zU) (fun h => by have hq := X5 h.2; have e1 := hu2 hq.1; have e2 := hu3 hq.2; first | exact absurd e1.2 zU | exact absurd e2.2 zU | exact ⟨by rw [cmp, GK.cn, e1.1, e2.1], rfl⟩))
 (refine B6 rfl (A4 rfl) rfl rfl ?_; rintro _ ⟨b549, rfl⟩)
 refine A0 8 ?_
 (refine D6 rfl rfl (ih a2 b2 (by simp [GK.z] at hz; omega) G2 _ _ (hre2.mono (hle1.trans hle2)) (hre4.mono (hle1.trans hle2))) rfl rfl rfl (fun u G3 hle3 hh => ?_); obtain ⟨vc, n3, bo3, rfl, hrv, hu3⟩ := hh; obtain ⟨y1, y2, y3, p5, n5, c5, rfl⟩ := hrv.ints; cases bo2 <;> cases bo3)
 refine aP 9 rfl (qM rfl) rfl ?_
 refine aP 10 rfl (pX rfl rfl) rfl ?_
 refine aP 11 rfl (pX rfl rfl) rfl ?_
 refine A0 13 ?_
 refine B8 rfl ?_
 refine aP 14 rfl (qA rfl) rfl ?_
 refine B4 ?_
 (refine F0 (C0 rfl rfl rfl zV zQ rfl) rfl ?_; rintro _ ⟨b566, rfl⟩)
 refine C2 ?_
 (refine E0 (cs := [.int .i64 w1, .int .i64 w2, .int .i64 w3, .slice p6 n6 c6, .int .i64 y1, .int .i64 y2, .int .i64 y3, .slice p5 n5 c5]) zM (fun G5 hle5 hsl5 hno5 => ?_))
 refine tT ?_
 refine C5 (rC rfl (A1 rfl rfl)) (rT rfl) ?_
 (exact H5.mk (L7 (hrw.mono (hle3.trans hle5)) (hrv.mono hle5) hsl5 ⟨by decide, by decide⟩ h0 h0 zU) (fun h => by have hq := X5 h.2; have e1 := hu2 hq.1; have e2 := hu3 hq.2; first | exact absurd e1.2 zU | exact absurd e2.2 zU | exact ⟨by rw [cmp, GK.cn, e1.1, e2.1], rfl⟩))
 refine aP 9 rfl (qM rfl) rfl ?_
 refine aP 10 rfl (pX rfl rfl) rfl ?_
 refine aP 11 rfl (pX rfl rfl) rfl ?_
 refine A0 13 ?_
 refine B8 rfl ?_
 refine aP 14 rfl (qA rfl) rfl ?_
 refine B4 ?_
 (refine F0 (C0 rfl rfl rfl zV zQ rfl) rfl ?_; rintro _ ⟨b594, rfl⟩)
 refine C2 ?_
 (refine E0 (cs := [.int .i64 w1, .int .i64 w2, .int .i64 w3, .slice p6 n6 c6, .int .i64 y1, .int .i64 y2, .int .i64 y3, .slice p5 n5 c5]) zM (fun G5 hle5 hsl5 hno5 => ?_))
 refine tT ?_
 refine C5 (rC rfl (A1 rfl rfl)) (rT rfl) ?_
 (exact H5.mk (L7 (hrw.mono (hle3.trans hle5)) (hrv.mono hle5) hsl5 ⟨by decide, by decide⟩ h0 h0 zU) (fun h => by have hq := X5 h.2; have e1 := hu2 hq.1; have e2 := hu3 hq.2; first | exact absurd e1.2 zU | exact absurd e2.2 zU | exact ⟨by rw [cmp, GK.cn, e1.1, e2.1], rfl⟩))
 refine aP 9 rfl (qM rfl) rfl ?_
 refine aP 10 rfl (pX rfl rfl) rfl ?_
 refine aP 11 rfl (pX rfl rfl) rfl ?_
 refine A0 13 ?_
 refine B8 rfl ?_
 refine aP 14 rfl (qA rfl) rfl ?_
 refine B4 ?_
 (refine F0 (C0 rfl rfl rfl zV zQ rfl) rfl ?_; rintro _ ⟨b622, rfl⟩)
 refine C2 ?_
 (refine E0 (cs := [.int .i64 w1, .int .i64 w2, .int .i64 w3, .slice p6 n6 c6, .int .i64 y1, .int .i64 y2, .int .i64 y3, .slice p5 n5 c5]) zM (fun G5 hle5 hsl5 hno5 => ?_))
 refine tT ?_
 refine C5 (rC rfl (A1 rfl rfl)) (rT rfl) ?_
 (exact H5.mk (L7 (hrw.mono (hle3.trans hle5)) (hrv.mono hle5) hsl5 ⟨by decide, by decide⟩ h0 h0 zU) (fun h => by have hq := X5 h.2; have e1 := hu2 hq.1; have e2 := hu3 hq.2; first | exact absurd e1.2 zU | exact absurd e2.2 zU | exact ⟨by rw [cmp, GK.cn, e1.1, e2.1], rfl⟩))
 refine aP 9 rfl (qM rfl) rfl ?_
 refine aP 10 rfl (pX rfl rfl) rfl ?_
 refine aP 11 rfl (pX rfl rfl) rfl ?_
 refine A0 13 ?_
 refine B8 rfl ?_
 refine aP 14 rfl (qA rfl) rfl ?_
 refine B4 ?_
 (refine F0 (C0 rfl rfl rfl zV zQ rfl) rfl ?_; rintro _ ⟨b650, rfl⟩)
 refine C2 ?_
 (refine E0 (cs := [.int .i64 w1, .int .i64 w2, .int .i64 w3, .slice p6 n6 c6, .int .i64 y1, .int .i64 y2, .int .i64 y3, .slice p5 n5 c5]) zM (fun G5 hle5 hsl5 hno5 => ?_))
 refine tT ?_
 refine C5 (rC rfl (A1 rfl rfl)) (rT rfl) ?_
 (exact H5.mk (L7 (hrw.mono (hle3.trans hle5)) (hrv.mono hle5) hsl5 ⟨by decide, by decide⟩ h0 h0 zU) (fun h => by have hq := X5 h.2; have e1 := hu2 hq.1; have e2 := hu3 hq.2; first | exact absurd e1.2 zU | exact absurd e2.2 zU | exact ⟨by rw [cmp, GK.cn, e1.1, e2.1], rfl⟩))
 refine E9 (i := 0) (l' := [tt,ff,ff,ff,ff,ff,ff,ff,ff,ff,ff,ff,ff,ff,ff]) rfl C1 (B0 rfl) rfl zT rfl rfl ?_
 refine aL 1 rfl (B3 rfl rfl) rfl ?_
 refine aP 2 rfl (A6 (j := 0) rfl rfl rfl zW) rfl ?_
 refine aL 3 rfl (A2 rfl rfl (hat1 _) hl1) rfl ?_
 refine aP 4 rfl (B0 rfl) rfl ?_
 refine aL 5 rfl (B3 rfl rfl) rfl ?_
 refine aP 6 rfl (A6 (j := 0) rfl rfl rfl zW) rfl ?_
 refine aL 7 rfl (A2 rfl rfl (hat3 _) hl3) rfl ?_
 refine J8 (j := 8) (j' := 12) zT ?_ ?_
 (clear hc1; refine D6 rfl rfl (ih a1 b1 (by simp [GK.z] at hz; omega) G _ _ hre1 hre3) rfl rfl rfl (fun u G1 hle1 hh => ?_); obtain ⟨uc, n1, bo1, rfl, hru, hu1⟩ := hh; obtain ⟨x1, x2, x3, p4, n4, c4, rfl⟩ := hru.ints)
 refine aP 9 rfl (qM rfl) rfl ?_
 refine aP 10 rfl (pX rfl rfl) rfl ?_
 refine aP 11 rfl (pX rfl rfl) rfl ?_
 refine A0 12 ?_
 (refine B6 rfl (A4 rfl) rfl rfl ?_; rintro _ ⟨b678, rfl⟩)
 refine A0 13 ?_
 refine B8 rfl ?_
 refine aP 14 rfl (qA rfl) rfl ?_
 refine A8 ?_
 refine sP (E1 rfl rfl zV) rfl rfl ?_
 refine A7 ?_
 refine D3 D4 rfl ?_
 refine E9 (i := 0) (l' := [tt,ff,ff,ff,ff,ff,ff,ff,ff,ff,ff,ff,ff,ff,ff]) rfl C1 (B0 rfl) rfl zT rfl rfl ?_
 refine aL 1 rfl (B3 rfl rfl) rfl ?_
 refine aP 2 rfl (A6 (j := 1) rfl rfl rfl zW) rfl ?_
 refine aL 3 rfl (A2 rfl rfl (At.moS hle1 (hat2 [])) hl2) rfl ?_
 refine aP 4 rfl (B0 rfl) rfl ?_
 refine aL 5 rfl (B3 rfl rfl) rfl ?_
 refine aP 6 rfl (A6 (j := 1) rfl rfl rfl zW) rfl ?_
 refine aL 7 rfl (A2 rfl rfl (At.moS hle1 (hat4 [])) hl4) rfl ?_
 refine J8 (j := 8) (j' := 12) zT ?_ ?_
 (refine D6 rfl rfl (ih a2 b2 (by simp [GK.z] at hz; omega) G1 _ _ (hre2.mono hle1) (hre4.mono hle1)) rfl rfl rfl (fun u G2 hle2 hh => ?_); obtain ⟨vc, n3, bo3, rfl, hrv, hu3⟩ := hh; obtain ⟨y1, y2, y3, p5, n5, c5, rfl⟩ := hrv.ints; cases bo1 <;> cases bo3)
 refine aP 9 rfl (qM rfl) rfl ?_
 refine aP 10 rfl (pX rfl rfl) rfl ?_
 refine aP 11 rfl (pX rfl rfl) rfl ?_
 refine A0 12 ?_
 (refine B6 rfl (A4 rfl) rfl rfl ?_; rintro _ ⟨b711, rfl⟩)
 refine A0 13 ?_
 refine B8 rfl ?_
 refine aP 14 rfl (qA rfl) rfl ?_
 refine B4 ?_
 (refine F0 (C0 rfl rfl rfl zV zQ rfl) rfl ?_; rintro _ ⟨b723, rfl⟩)
 refine C2 ?_
 (refine E0 (cs := [.int .i64 x1, .int .i64 x2, .int .i64 x3, .slice p4 n4 c4, .int .i64 y1, .int .i64 y2, .int .i64 y3, .slice p5 n5 c5]) zM (fun G5 hle5 hsl5 hno5 => ?_))
 refine tT ?_
 refine C5 (rC rfl (A1 rfl rfl)) (rT rfl) ?_
 (exact H5.mk (L7 (hru.mono (hle2.trans hle5)) (hrv.mono hle5) hsl5 ⟨by decide, by decide⟩ h0 h0 zU) (fun h => by have hq := X6 h.2; have e1 := hu1 hq.1; have e2 := hu3 hq.2; first | exact absurd e1.2 zU | exact absurd e2.2 zU | exact ⟨by rw [cmp, GK.cn, e1.1, e2.1], rfl⟩))
 refine aP 9 rfl (qM rfl) rfl ?_
 refine aP 10 rfl (pX rfl rfl) rfl ?_
 refine aP 11 rfl (pX rfl rfl) rfl ?_
 refine A0 12 ?_
 (refine B6 rfl (A4 rfl) rfl rfl ?_; rintro _ ⟨b741, rfl⟩)
 refine A0 13 ?_
 refine B8 rfl ?_
 refine aP 14 rfl (qA rfl) rfl ?_
 refine B4 ?_
 (refine F0 (C0 rfl rfl rfl zV zQ rfl) rfl ?_; rintro _ ⟨b753, rfl⟩)
 refine C2 ?_
 (refine E0 (cs := [.int .i64 x1, .int .i64 x2, .int .i64 x3, .slice p4 n4 c4, .int .i64 y1, .int .i64 y2, .int .i64 y3, .slice p5 n5 c5]) zM (fun G5 hle5 hsl5 hno5 => ?_))
 refine tT ?_
 refine C5 (rC rfl (A1 rfl rfl)) (rT rfl) ?_
 (exact H5.mk (L7 (hru.mono (hle2.trans hle5)) (hrv.mono hle5) hsl5 ⟨by decide, by decide⟩ h0 h0 zU) (fun h => by have hq := X6 h.2; have e1 := hu1 hq.1; have e2 := hu3 hq.2; first | exact absurd e1.2 zU | exact absurd e2.2 zU | exact ⟨by rw [cmp, GK.cn, e1.1, e2.1], rfl⟩))
 refine aP 9 rfl (qM rfl) rfl ?_
 refine aP 10 rfl (pX rfl rfl) rfl ?_
 refine aP 11 rfl (pX rfl rfl) rfl ?_
 refine A0 12 ?_
 (refine B6 rfl (A4 rfl) rfl rfl ?_; rintro _ ⟨b771, rfl⟩)
 refine A0 13 ?_
 refine B8 rfl ?_
 refine aP 14 rfl (qA rfl) rfl ?_
 refine B4 ?_
 (refine F0 (C0 rfl rfl rfl zV zQ rfl) rfl ?_; rintro _ ⟨b783, rfl⟩)
 refine C2 ?_
 (refine E0 (cs := [.int .i64 x1, .int .i64 x2, .int .i64 x3, .slice p4 n4 c4, .int .i64 y1, .int .i64 y2, .int .i64 y3, .slice p5 n5 c5]) zM (fun G5 hle5 hsl5 hno5 => ?_))
 refine tT ?_
 refine C5 (rC rfl (A1 rfl rfl)) (rT rfl) ?_
 (exact H5.mk (L7 (hru.mono (hle2.trans hle5)) (hrv.mono hle5) hsl5 ⟨by decide, by decide⟩ h0 h0 zU) (fun h => by have hq := X6 h.2; have e1 := hu1 hq.1; have e2 := hu3 hq.2; first | exact absurd e1.2 zU | exact absurd e2.2 zU | exact ⟨by rw [cmp, GK.cn, e1.1, e2.1], rfl⟩))
 refine aP 9 rfl (qM rfl) rfl ?_
 refine aP 10 rfl (pX rfl rfl) rfl ?_
 refine aP 11 rfl (pX rfl rfl) rfl ?_
 refine A0 12 ?_
 (refine B6 rfl (A4 rfl) rfl rfl ?_; rintro _ ⟨b801, rfl⟩)
 refine A0 13 ?_
 refine B8 rfl ?_
 refine aP 14 rfl (qA rfl) rfl ?_
 refine B4 ?_
 (refine F0 (C0 rfl rfl rfl zV zQ rfl) rfl ?_; rintro _ ⟨b813, rfl⟩)
 refine C2 ?_
 (refine E0 (cs := [.int .i64 x1, .int .i64 x2, .int .i64 x3, .slice p4 n4 c4, .int .i64 y1, .int .i64 y2, .int .i64 y3, .slice p5 n5 c5]) zM (fun G5 hle5 hsl5 hno5 => ?_))
 refine tT ?_
 refine C5 (rC rfl (A1 rfl rfl)) (rT rfl) ?_
 (exact H5.mk (L7 (hru.mono (hle2.trans hle5)) (hrv.mono hle5) hsl5 ⟨by decide, by decide⟩ h0 h0 zU) (fun h => by have hq := X6 h.2; have e1 := hu1 hq.1; have e2 := hu3 hq.2; first | exact absurd e1.2 zU | exact absurd e2.2 zU | exact ⟨by rw [cmp, GK.cn, e1.1, e2.1], rfl⟩))
 (refine B6 rfl (A4 rfl) rfl rfl ?_; rintro _ ⟨b827, rfl⟩)
 refine A0 8 ?_
 (refine D6 rfl rfl (ih a2 b2 (by simp [GK.z] at hz; omega) G1 _ _ (hre2.mono hle1) (hre4.mono hle1)) rfl rfl rfl (fun u G2 hle2 hh => ?_); obtain ⟨vc, n3, bo3, rfl, hrv, hu3⟩ := hh; obtain ⟨y1, y2, y3, p5, n5, c5, rfl⟩ := hrv.ints; cases bo1 <;> cases bo3)
 refine aP 9 rfl (qM rfl) rfl ?_
 refine aP 10 rfl (pX rfl rfl) rfl ?_
 refine aP 11 rfl (pX rfl rfl) rfl ?_
 refine A0 13 ?_
 refine B8 rfl ?_
 refine aP 14 rfl (qA rfl) rfl ?_
 refine B4 ?_
 (refine F0 (C0 rfl rfl rfl zV zQ rfl) rfl ?_; rintro _ ⟨b844, rfl⟩)
 refine C2 ?_
 (refine E0 (cs := [.int .i64 x1, .int .i64 x2, .int .i64 x3, .slice p4 n4 c4, .int .i64 y1, .int .i64 y2, .int .i64 y3, .slice p5 n5 c5]) zM (fun G5 hle5 hsl5 hno5 => ?_))
 refine tT ?_
 refine C5 (rC rfl (A1 rfl rfl)) (rT rfl) ?_
 (exact H5.mk (L7 (hru.mono (hle2.trans hle5)) (hrv.mono hle5) hsl5 ⟨by decide, by decide⟩ h0 h0 zU) (fun h => by have hq := X6 h.2; have e1 := hu1 hq.1; have e2 := hu3 hq.2; first | exact absurd e1.2 zU | exact absurd e2.2 zU | exact ⟨by rw [cmp, GK.cn, e1.1, e2.1], rfl⟩))
 refine aP 9 rfl (qM rfl) rfl ?_
 refine aP 10 rfl (pX rfl rfl) rfl ?_
 refine aP 11 rfl (pX rfl rfl) rfl ?_
 refine A0 13 ?_
 refine B8 rfl ?_
 refine aP 14 rfl (qA rfl) rfl ?_
 refine B4 ?_
 (refine F0 (C0 rfl rfl rfl zV zQ rfl) rfl ?_; rintro _ ⟨b872, rfl⟩)
 refine C2 ?_
 (refine E0 (cs := [.int .i64 x1, .int .i64 x2, .int .i64 x3, .slice p4 n4 c4, .int .i64 y1, .int .i64 y2, .int .i64 y3, .slice p5 n5 c5]) zM (fun G5 hle5 hsl5 hno5 => ?_))
 refine tT ?_
 refine C5 (rC rfl (A1 rfl rfl)) (rT rfl) ?_
 (exact H5.mk (L7 (hru.mono (hle2.trans hle5)) (hrv.mono hle5) hsl5 ⟨by decide, by decide⟩ h0 h0 zU) (fun h => by have hq := X6 h.2; have e1 := hu1 hq.1; have e2 := hu3 hq.2; first | exact absurd e1.2 zU | exact absurd e2.2 zU | exact ⟨by rw [cmp, GK.cn, e1.1, e2.1], rfl⟩))
 refine aP 9 rfl (qM rfl) rfl ?_
 refine aP 10 rfl (pX rfl rfl) rfl ?_
 refine aP 11 rfl (pX rfl rfl) rfl ?_
 refine A0 13 ?_
 refine B8 rfl ?_
 refine aP 14 rfl (qA rfl) rfl ?_
 refine B4 ?_
 (refine F0 (C0 rfl rfl rfl zV zQ rfl) rfl ?_; rintro _ ⟨b900, rfl⟩)
 refine C2 ?_
 (refine E0 (cs := [.int .i64 x1, .int .i64 x2, .int .i64 x3, .slice p4 n4 c4, .int .i64 y1, .int .i64 y2, .int .i64 y3, .slice p5 n5 c5]) zM (fun G5 hle5 hsl5 hno5 => ?_))
 refine tT ?_
 refine C5 (rC rfl (A1 rfl rfl)) (rT rfl) ?_
 (exact H5.mk (L7 (hru.mono (hle2.trans hle5)) (hrv.mono hle5) hsl5 ⟨by decide, by decide⟩ h0 h0 zU) (fun h => by have hq := X6 h.2; have e1 := hu1 hq.1; have e2 := hu3 hq.2; first | exact absurd e1.2 zU | exact absurd e2.2 zU | exact ⟨by rw [cmp, GK.cn, e1.1, e2.1], rfl⟩))
 refine aP 9 rfl (qM rfl) rfl ?_
 refine aP 10 rfl (pX rfl rfl) rfl ?_
 refine aP 11 rfl (pX rfl rfl) rfl ?_
 refine A0 13 ?_
 refine B8 rfl ?_
 refine aP 14 rfl (qA rfl) rfl ?_
 refine B4 ?_
 (refine F0 (C0 rfl rfl rfl zV zQ rfl) rfl ?_; rintro _ ⟨b928, rfl⟩)
 refine C2 ?_
 (refine E0 (cs := [.int .i64 x1, .int .i64 x2, .int .i64 x3, .slice p4 n4 c4, .int .i64 y1, .int .i64 y2, .int .i64 y3, .slice p5 n5 c5]) zM (fun G5 hle5 hsl5 hno5 => ?_))
 refine tT ?_
 refine C5 (rC rfl (A1 rfl rfl)) (rT rfl) ?_
 (exact H5.mk (L7 (hru.mono (hle2.trans hle5)) (hrv.mono hle5) hsl5 ⟨by decide, by decide⟩ h0 h0 zU) (fun h => by have hq := X6 h.2; have e1 := hu1 hq.1; have e2 := hu3 hq.2; first | exact absurd e1.2 zU | exact absurd e2.2 zU | exact ⟨by rw [cmp, GK.cn, e1.1, e2.1], rfl⟩))
 (refine B6 rfl (A4 rfl) rfl rfl ?_; rintro _ ⟨b942, rfl⟩)
 refine A0 8 ?_
 (clear hc1; refine D6 rfl rfl (ih a1 b1 (by simp [GK.z] at hz; omega) G _ _ hre1 hre3) rfl rfl rfl (fun u G1 hle1 hh => ?_); obtain ⟨uc, n1, bo1, rfl, hru, hu1⟩ := hh; obtain ⟨x1, x2, x3, p4, n4, c4, rfl⟩ := hru.ints)
 refine aP 9 rfl (qM rfl) rfl ?_
 refine aP 10 rfl (pX rfl rfl) rfl ?_
 refine aP 11 rfl (pX rfl rfl) rfl ?_
 refine A0 13 ?_
 refine B8 rfl ?_
 refine aP 14 rfl (qA rfl) rfl ?_
 refine A8 ?_
 refine sP (E1 rfl rfl zV) rfl rfl ?_
 refine A7 ?_
 refine D3 D4 rfl ?_
 refine E9 (i := 0) (l' := [tt,ff,ff,ff,ff,ff,ff,ff,ff,ff,ff,ff,ff,ff,ff]) rfl C1 (B0 rfl) rfl zT rfl rfl ?_
 refine aL 1 rfl (B3 rfl rfl) rfl ?_
 refine aP 2 rfl (A6 (j := 1) rfl rfl rfl zW) rfl ?_
 refine aL 3 rfl (A2 rfl rfl (At.moS hle1 (hat2 [])) hl2) rfl ?_
 refine aP 4 rfl (B0 rfl) rfl ?_
 refine aL 5 rfl (B3 rfl rfl) rfl ?_
 refine aP 6 rfl (A6 (j := 1) rfl rfl rfl zW) rfl ?_
 refine aL 7 rfl (A2 rfl rfl (At.moS hle1 (hat4 [])) hl4) rfl ?_
 refine J8 (j := 8) (j' := 12) zT ?_ ?_
 (refine D6 rfl rfl (ih a2 b2 (by simp [GK.z] at hz; omega) G1 _ _ (hre2.mono hle1) (hre4.mono hle1)) rfl rfl rfl (fun u G2 hle2 hh => ?_); obtain ⟨vc, n3, bo3, rfl, hrv, hu3⟩ := hh; obtain ⟨y1, y2, y3, p5, n5, c5, rfl⟩ := hrv.ints; cases bo1 <;> cases bo3)
 refine aP 9 rfl (qM rfl) rfl ?_
 refine aP 10 rfl (pX rfl rfl) rfl ?_
 refine aP 11 rfl (pX rfl rfl) rfl ?_
 refine A0 12 ?_
 (refine B6 rfl (A4 rfl) rfl rfl ?_; rintro _ ⟨b980, rfl⟩)
 refine A0 13 ?_
 refine B8 rfl ?_
 refine aP 14 rfl (qA rfl) rfl ?_
 refine B4 ?_
 (refine F0 (C0 rfl rfl rfl zV zQ rfl) rfl ?_; rintro _ ⟨b992, rfl⟩)
 refine C2 ?_
 (refine E0 (cs := [.int .i64 x1, .int .i64 x2, .int .i64 x3, .slice p4 n4 c4, .int .i64 y1, .int .i64 y2, .int .i64 y3, .slice p5 n5 c5]) zM (fun G5 hle5 hsl5 hno5 => ?_))
 refine tT ?_
 refine C5 (rC rfl (A1 rfl rfl)) (rT rfl) ?_
 (exact H5.mk (L7 (hru.mono (hle2.trans hle5)) (hrv.mono hle5) hsl5 ⟨by decide, by decide⟩ h0 h0 zU) (fun h => by have hq := X6 h.2; have e1 := hu1 hq.1; have e2 := hu3 hq.2; first | exact absurd e1.2 zU | exact absurd e2.2 zU | exact ⟨by rw [cmp, GK.cn, e1.1, e2.1], rfl⟩))
 refine aP 9 rfl (qM rfl) rfl ?_
 refine aP 10 rfl (pX rfl rfl) rfl ?_
 refine aP 11 rfl (pX rfl rfl) rfl ?_
 refine A0 12 ?_
 (refine B6 rfl (A4 rfl) rfl rfl ?_; rintro _ ⟨b1010, rfl⟩)
 refine A0 13 ?_
 refine B8 rfl ?_
 refine aP 14 rfl (qA rfl) rfl ?_
 refine B4 ?_
 (refine F0 (C0 rfl rfl rfl zV zQ rfl) rfl ?_; rintro _ ⟨b1022, rfl⟩)
 refine C2 ?_
 (refine E0 (cs := [.int .i64 x1, .int .i64 x2, .int .i64 x3, .slice p4 n4 c4, .int .i64 y1, .int .i64 y2, .int .i64 y3, .slice p5 n5 c5]) zM (fun G5 hle5 hsl5 hno5 => ?_))
 refine tT ?_
 refine C5 (rC rfl (A1 rfl rfl)) (rT rfl) ?_
 (exact H5.mk (L7 (hru.mono (hle2.trans hle5)) (hrv.mono hle5) hsl5 ⟨by decide, by decide⟩ h0 h0 zU) (fun h => by have hq := X6 h.2; have e1 := hu1 hq.1; have e2 := hu3 hq.2; first | exact absurd e1.2 zU | exact absurd e2.2 zU | exact ⟨by rw [cmp, GK.cn, e1.1, e2.1], rfl⟩))
 refine aP 9 rfl (qM rfl) rfl ?_
 refine aP 10 rfl (pX rfl rfl) rfl ?_
 refine aP 11 rfl (pX rfl rfl) rfl ?_
 refine A0 12 ?_
 (refine B6 rfl (A4 rfl) rfl rfl ?_; rintro _ ⟨b1040, rfl⟩)
 refine A0 13 ?_
 refine B8 rfl ?_
 refine aP 14 rfl (qA rfl) rfl ?_
 refine B4 ?_
 (refine F0 (C0 rfl rfl rfl zV zQ rfl) rfl ?_; rintro _ ⟨b1052, rfl⟩)
 refine C2 ?_
 (refine E0 (cs := [.int .i64 x1, .int .i64 x2, .int .i64 x3, .slice p4 n4 c4, .int .i64 y1, .int .i64 y2, .int .i64 y3, .slice p5 n5 c5]) zM (fun G5 hle5 hsl5 hno5 => ?_))
 refine tT ?_
 refine C5 (rC rfl (A1 rfl rfl)) (rT rfl) ?_
 (exact H5.mk (L7 (hru.mono (hle2.trans hle5)) (hrv.mono hle5) hsl5 ⟨by decide, by decide⟩ h0 h0 zU) (fun h => by have hq := X6 h.2; have e1 := hu1 hq.1; have e2 := hu3 hq.2; first | exact absurd e1.2 zU | exact absurd e2.2 zU | exact ⟨by rw [cmp, GK.cn, e1.1, e2.1], rfl⟩))
 refine aP 9 rfl (qM rfl) rfl ?_
 refine aP 10 rfl (pX rfl rfl) rfl ?_
 refine aP 11 rfl (pX rfl rfl) rfl ?_
 refine A0 12 ?_
 (refine B6 rfl (A4 rfl) rfl rfl ?_; rintro _ ⟨b1070, rfl⟩)
 refine A0 13 ?_
 refine B8 rfl ?_
 refine aP 14 rfl (qA rfl) rfl ?_
 refine B4 ?_
 (refine F0 (C0 rfl rfl rfl zV zQ rfl) rfl ?_; rintro _ ⟨b1082, rfl⟩)
 refine C2 ?_
 (refine E0 (cs := [.int .i64 x1, .int .i64 x2, .int .i64 x3, .slice p4 n4 c4, .int .i64 y1, .int .i64 y2, .int .i64 y3, .slice p5 n5 c5]) zM (fun G5 hle5 hsl5 hno5 => ?_))
 refine tT ?_
 refine C5 (rC rfl (A1 rfl rfl)) (rT rfl) ?_
 (exact H5.mk (L7 (hru.mono (hle2.trans hle5)) (hrv.mono hle5) hsl5 ⟨by decide, by decide⟩ h0 h0 zU) (fun h => by have hq := X6 h.2; have e1 := hu1 hq.1; have e2 := hu3 hq.2; first | exact absurd e1.2 zU | exact absurd e2.2 zU | exact ⟨by rw [cmp, GK.cn, e1.1, e2.1], rfl⟩))
 (refine B6 rfl (A4 rfl) rfl rfl ?_; rintro _ ⟨b1096, rfl⟩)
 refine A0 8 ?_
 (refine D6 rfl rfl (ih a2 b2 (by simp [GK.z] at hz; omega) G1 _ _ (hre2.mono hle1) (hre4.mono hle1)) rfl rfl rfl (fun u G2 hle2 hh => ?_); obtain ⟨vc, n3, bo3, rfl, hrv, hu3⟩ := hh; obtain ⟨y1, y2, y3, p5, n5, c5, rfl⟩ := hrv.ints; cases bo1 <;> cases bo3)
 refine aP 9 rfl (qM rfl) rfl ?_
 refine aP 10 rfl (pX rfl rfl) rfl ?_
 refine aP 11 rfl (pX rfl rfl) rfl ?_
 refine A0 13 ?_
 refine B8 rfl ?_
 refine aP 14 rfl (qA rfl) rfl ?_
 refine B4 ?_
 (refine F0 (C0 rfl rfl rfl zV zQ rfl) rfl ?_; rintro _ ⟨b1113, rfl⟩)
 refine C2 ?_
 (refine E0 (cs := [.int .i64 x1, .int .i64 x2, .int .i64 x3, .slice p4 n4 c4, .int .i64 y1, .int .i64 y2, .int .i64 y3, .slice p5 n5 c5]) zM (fun G5 hle5 hsl5 hno5 => ?_))
 refine tT ?_
 refine C5 (rC rfl (A1 rfl rfl)) (rT rfl) ?_
 (exact H5.mk (L7 (hru.mono (hle2.trans hle5)) (hrv.mono hle5) hsl5 ⟨by decide, by decide⟩ h0 h0 zU) (fun h => by have hq := X6 h.2; have e1 := hu1 hq.1; have e2 := hu3 hq.2; first | exact absurd e1.2 zU | exact absurd e2.2 zU | exact ⟨by rw [cmp, GK.cn, e1.1, e2.1], rfl⟩))
 refine aP 9 rfl (qM rfl) rfl ?_
 refine aP 10 rfl (pX rfl rfl) rfl ?_
 refine aP 11 rfl (pX rfl rfl) rfl ?_
 refine A0 13 ?_
 refine B8 rfl ?_
 refine aP 14 rfl (qA rfl) rfl ?_
 refine B4 ?_
 (refine F0 (C0 rfl rfl rfl zV zQ rfl) rfl ?_; rintro _ ⟨b1141, rfl⟩)
 refine C2 ?_
 (refine E0 (cs := [.int .i64 x1, .int .i64 x2, .int .i64 x3, .slice p4 n4 c4, .int .i64 y1, .int .i64 y2, .int .i64 y3, .slice p5 n5 c5]) zM (fun G5 hle5 hsl5 hno5 => ?_))
 refine tT ?_
 refine C5 (rC rfl (A1 rfl rfl)) (rT rfl) ?_
 (exact H5.mk (L7 (hru.mono (hle2.trans hle5)) (hrv.mono hle5) hsl5 ⟨by decide, by decide⟩ h0 h0 zU) (fun h => by have hq := X6 h.2; have e1 := hu1 hq.1; have e2 := hu3 hq.2; first | exact absurd e1.2 zU | exact absurd e2.2 zU | exact ⟨by rw [cmp, GK.cn, e1.1, e2.1], rfl⟩))
 refine aP 9 rfl (qM rfl) rfl ?_
 refine aP 10 rfl (pX rfl rfl) rfl ?_
 refine aP 11 rfl (pX rfl rfl) rfl ?_
 refine A0 13 ?_
 refine B8 rfl ?_
 refine aP 14 rfl (qA rfl) rfl ?_
 refine B4 ?_
 (refine F0 (C0 rfl rfl rfl zV zQ rfl) rfl ?_; rintro _ ⟨b1169, rfl⟩)
 refine C2 ?_
 (refine E0 (cs := [.int .i64 x1, .int .i64 x2, .int .i64 x3, .slice p4 n4 c4, .int .i64 y1, .int .i64 y2, .int .i64 y3, .slice p5 n5 c5]) zM (fun G5 hle5 hsl5 hno5 => ?_))
 refine tT ?_
 refine C5 (rC rfl (A1 rfl rfl)) (rT rfl) ?_
 (exact H5.mk (L7 (hru.mono (hle2.trans hle5)) (hrv.mono hle5) hsl5 ⟨by decide, by decide⟩ h0 h0 zU) (fun h => by have hq := X6 h.2; have e1 := hu1 hq.1; have e2 := hu3 hq.2; first | exact absurd e1.2 zU | exact absurd e2.2 zU | exact ⟨by rw [cmp, GK.cn, e1.1, e2.1], rfl⟩))
 refine aP 9 rfl (qM rfl) rfl ?_
 refine aP 10 rfl (pX rfl rfl) rfl ?_
 refine aP 11 rfl (pX rfl rfl) rfl ?_
 refine A0 13 ?_
 refine B8 rfl ?_
 refine aP 14 rfl (qA rfl) rfl ?_
 refine B4 ?_
 (refine F0 (C0 rfl rfl rfl zV zQ rfl) rfl ?_; rintro _ ⟨b1197, rfl⟩)
 refine C2 ?_
 (refine E0 (cs := [.int .i64 x1, .int .i64 x2, .int .i64 x3, .slice p4 n4 c4, .int .i64 y1, .int .i64 y2, .int .i64 y3, .slice p5 n5 c5]) zM (fun G5 hle5 hsl5 hno5 => ?_))
 refine tT ?_
 refine C5 (rC rfl (A1 rfl rfl)) (rT rfl) ?_
 (exact H5.mk (L7 (hru.mono (hle2.trans hle5)) (hrv.mono hle5) hsl5 ⟨by decide, by decide⟩ h0 h0 zU) (fun h => by have hq := X6 h.2; have e1 := hu1 hq.1; have e2 := hu3 hq.2; first | exact absurd e1.2 zU | exact absurd e2.2 zU | exact ⟨by rw [cmp, GK.cn, e1.1, e2.1], rfl⟩))
theorem B4J : ∀ (n : Nat) (a b : GK), a.z + b.z ≤ n → SCo a b := by
 intro n
 induction n with
 | zero => intro a b h; exfalso; cases a <;> simp [GK.z] at h
 | succ n ih =>
  intro a b hz G ca cb hra hrb
  have htg64 := A9j a hra
  have hra0 := hra
  have hrb0 := hrb
  obtain ⟨ak, atg, alb, aks, ha⟩ := A0U a
  obtain ⟨bk, btg, blb, bks, hb⟩ := A0U b
  have hkA := A5S ha
  have hTa := fun G1 (h : D2 G G1) => A4A a G1 ca (hra.mono h)
  have hTw := fun (h : a.pl = true) => A3p n ih a b hz h G ca cb hra hrb
  rw [ha] at hra
  rw [hb] at hrb
  obtain ⟨pa, cpa, ea, rfl, hak, hatg, halb, hna, _, _, hsa, hka⟩ := hra.open4
  obtain ⟨pb, cpb, eb, rfl, hbk, hbtg, hblb, hnb, _, _, hsb, hkb⟩ := hrb.open4
  have hpl := fun h1 h4 h5 h6 => @A19 a ak atg alb aks ha h1 h4 h5 h6
  have h0 : F9 0 := ⟨by decide, by decide⟩
  refine D5 Tryz.func178 rfl Tryz.ntmps178 Tryz.results178 rfl ?_
  intro w0
  refine A3 ?_
  refine sE (D8 rfl rfl) rfl (fun b3 => ?_)
  refine sE (D8 rfl rfl) rfl (fun b4 => ?_)
  refine sE (A4 rfl) rfl (fun b5 => ?_)
  refine A8 ?_
  refine sB (qE rfl rfl) rfl rfl (fun h13 => ?_) (fun h13 => ?_)
  refine J5 ?_
  refine B7 ?_
  refine C3 ?_
  refine sB (qE rfl rfl) rfl rfl (fun h33 => ?_) (fun h33 => ?_)
  refine B2 ?_
  refine sB (qE rfl rfl) rfl rfl (fun h37 => ?_) (fun h37 => ?_)
  refine B4 ?_
  (refine E7 rfl (A0f _ G _ hrb0) rfl rfl (fun u G1 hle1 hh => ?_); obtain ⟨uc, rfl, hru⟩ := hh; obtain ⟨x1, x2, x3, p4, n4, c4, rfl⟩ := hru.ints)
  refine B4 ?_
  refine C5 (rC rfl (A1 rfl rfl)) (rT rfl) ?_
  (exact H5.mk hru (fun h => ⟨by obtain rfl := A0H ha zV; rw [cmp], by first | rfl | (exfalso; obtain rfl := A0H ha zV; have := A3l hb (A0t h); omega)⟩))
  refine C2 ?_
  refine sP (E1 rfl rfl zV) rfl rfl ?_
  refine B4 ?_
  refine sP (E1 rfl rfl zV) rfl rfl ?_
  refine B4 ?_
  refine sP (E1 rfl rfl zV) rfl rfl ?_
  refine G9 ?_
  refine sP (E1 rfl rfl zV) rfl rfl ?_
  refine B4 ?_
  refine sP (E1 rfl rfl zV) rfl rfl ?_
  refine B4 ?_
  refine sP (E1 rfl rfl zV) rfl rfl ?_
  refine E8 ?_
  (have hplA := hpl zV zV zV zV; refine E7 rfl (hTw hplA) rfl rfl (fun u G1 hle1 hh => ?_); obtain ⟨uc, n1, bo1, rfl, hru, hu1⟩ := hh; obtain ⟨x1, x2, x3, p4, n4, c4, rfl⟩ := hru.ints)
  refine A8 ?_
  refine C5 (rC rfl (A1 rfl rfl)) (rT rfl) ?_
  (exact H5.mk hru (fun h => hu1 ⟨A1F hb hplA zV zV h, h⟩))
  refine G9 ?_
  refine sB (qE rfl rfl) rfl rfl (fun h151 => ?_) (fun h151 => ?_)
  refine A9 ?_
  (have hg : ak = 5 := zV; obtain ⟨c, rfl, rfl, rfl⟩ := A18 ha hg; subst hg; obtain ⟨b1, o1, e1, rfl, hl1, ho1, hat1, hre1, _, hgb1⟩ := hsa.kidR hka (i := 0) zW zW; replace hre1 : E6 G c.cn e1 := hre1; clear hTw; refine D3 D4 rfl ?_)
  refine E9 (i := 0) (l' := [tt,ff,ff,ff,ff,ff,ff,ff,ff,ff,ff,ff]) rfl C1 (B0 rfl) rfl zT rfl rfl ?_
  refine aL 1 rfl (B3 rfl rfl) rfl ?_
  refine aP 2 rfl (A6 (j := 0) rfl rfl rfl zW) rfl ?_
  refine aL 3 rfl (A2 rfl rfl (hat1 _) hl1) rfl ?_
  refine aL 4 rfl (A1 rfl rfl) rfl ?_
  refine J8 (j := 5) (j' := 9) zT ?_ ?_
  (refine D6 rfl rfl (ih c b (by simp [GK.z] at hz; omega) G _ _ hre1 hrb0) rfl rfl rfl (fun u G1 hle1 hh => ?_); obtain ⟨uc, n1, bo1, rfl, hru, hu1⟩ := hh; obtain ⟨x1, x2, x3, p4, n4, c4, rfl⟩ := hru.ints)
  refine aP 6 rfl (qM rfl) rfl ?_
  refine aP 7 rfl (pX rfl rfl) rfl ?_
  refine aP 8 rfl (pX rfl rfl) rfl ?_
  refine A0 9 ?_
  (refine B6 rfl (A4 rfl) rfl rfl ?_; rintro _ ⟨b169, rfl⟩)
  refine A0 10 ?_
  refine B8 rfl ?_
  refine aP 11 rfl (qA rfl) rfl ?_
  refine A8 ?_
  (refine F0 (C0 rfl rfl rfl zV zQ rfl) rfl ?_; rintro _ ⟨b180, rfl⟩)
  refine A7 ?_
  (refine E0 (cs := [.int .i64 x1, .int .i64 x2, .int .i64 x3, .slice p4 n4 c4]) zM (fun G5 hle5 hsl5 hno5 => ?_))
  refine B2 ?_
  refine C5 (rC rfl (A1 rfl rfl)) (rT rfl) ?_
  (exact H5.mk (U1 (hru.mono hle5) hsl5 ⟨by decide, by decide⟩ h0 halb zU) (fun h => by have e1 := hu1 (A1E h); exact ⟨by rw [cmp, GK.cn, e1.1], e1.2⟩))
  (refine B6 rfl (A4 rfl) rfl rfl ?_; rintro _ ⟨b193, rfl⟩)
  refine A0 5 ?_
  (refine D6 rfl rfl (ih c b (by simp [GK.z] at hz; omega) G _ _ hre1 hrb0) rfl rfl rfl (fun u G1 hle1 hh => ?_); obtain ⟨uc, n1, bo1, rfl, hru, hu1⟩ := hh; obtain ⟨x1, x2, x3, p4, n4, c4, rfl⟩ := hru.ints)
  refine aP 6 rfl (qM rfl) rfl ?_
  refine aP 7 rfl (pX rfl rfl) rfl ?_
  refine aP 8 rfl (pX rfl rfl) rfl ?_
  refine A0 10 ?_
  refine B8 rfl ?_
  refine aP 11 rfl (qA rfl) rfl ?_
  refine A8 ?_
  (refine F0 (C0 rfl rfl rfl zV zQ rfl) rfl ?_; rintro _ ⟨b209, rfl⟩)
  refine A7 ?_
  (refine E0 (cs := [.int .i64 x1, .int .i64 x2, .int .i64 x3, .slice p4 n4 c4]) zM (fun G5 hle5 hsl5 hno5 => ?_))
  refine B2 ?_
  refine C5 (rC rfl (A1 rfl rfl)) (rT rfl) ?_
  (exact H5.mk (U1 (hru.mono hle5) hsl5 ⟨by decide, by decide⟩ h0 halb zU) (fun h => by have e1 := hu1 (A1E h); exact ⟨by rw [cmp, GK.cn, e1.1], e1.2⟩))
  refine B4 ?_
  refine sB (qE rfl rfl) rfl rfl (fun h230 => ?_) (fun h230 => ?_)
  refine A8 ?_
  (refine E7 rfl (A0f _ G _ hra0) rfl rfl (fun u G1 hle1 hh => ?_); obtain ⟨uc, rfl, hru⟩ := hh; obtain ⟨x1, x2, x3, p4, n4, c4, rfl⟩ := hru.ints)
  refine A8 ?_
  refine C5 (rC rfl (A1 rfl rfl)) (rT rfl) ?_
  (exact H5.mk hru (fun h => ⟨by obtain ⟨rfl, _⟩ := A0p ha zV; rw [cmp], rfl⟩))
  refine B4 ?_
  refine sB (qE rfl rfl) rfl rfl (fun h256 => ?_) (fun h256 => ?_)
  refine B2 ?_
  refine sP (I1 rfl rfl zV) rfl rfl ?_
  refine A8 ?_
  (have hg : ak = 4 := zV; have hg2 : bk = 5 := zV; obtain ⟨c, rfl, rfl, rfl, rfl⟩ := A0W ha hg; obtain ⟨d, rfl, rfl, rfl⟩ := A18 hb hg2; subst hg; subst hg2; obtain ⟨b1, o1, e1, rfl, hl1, ho1, hat1, hre1, _, hgb1⟩ := hsa.kidR hka (i := 0) zW zW; replace hre1 : E6 G c.cn e1 := hre1; obtain ⟨b3, o3, e3, rfl, hl3, ho3, hat3, hre3, _, hgb3⟩ := hsb.kidR hkb (i := 0) zW zW; replace hre3 : E6 G d.cn e3 := hre3; clear hTw; refine D3 D4 rfl ?_)
  refine E9 (i := 0) (l' := [tt,ff,ff,ff,ff,ff,ff,ff,ff,ff,ff]) rfl C1 (B0 rfl) rfl zT rfl rfl ?_
  refine aL 1 rfl (B3 rfl rfl) rfl ?_
  refine aP 2 rfl (A6 (j := 0) rfl rfl rfl zW) rfl ?_
  refine aL 3 rfl (A2 rfl rfl (hat1 _) hl1) rfl ?_
  refine aP 5 rfl (B0 rfl) rfl ?_
  refine aL 6 rfl (B3 rfl rfl) rfl ?_
  refine aP 7 rfl (A6 (j := 0) rfl rfl rfl zW) rfl ?_
  refine aL 8 rfl (A2 rfl rfl (hat3 _) hl3) rfl ?_
  refine A0 4 ?_
  refine M8 rfl rfl ((A4A c G e1 hre1)) rfl rfl rfl ?_
  refine A0 9 ?_
  refine M8 rfl rfl ((A4A d G e3 hre3)) rfl rfl rfl ?_
  refine V4 (i := 10) (l' := [tt,tt,tt,tt,tt,tt,tt,tt,tt,tt,tt]) rfl C1 (qE rfl rfl) rfl zT rfl rfl (fun h281 => ?_) (fun h281 => ?_)
  refine C3 ?_
  refine D3 D4 rfl ?_
  refine E9 (i := 0) (l' := [tt,ff,ff,ff,ff,ff,ff,ff,ff,ff,ff,ff,ff]) rfl C1 (B0 rfl) rfl zT rfl rfl ?_
  refine aL 1 rfl (B3 rfl rfl) rfl ?_
  refine aP 2 rfl (A6 (j := 0) rfl rfl rfl zW) rfl ?_
  refine aL 3 rfl (A2 rfl rfl (hat1 _) hl1) rfl ?_
  refine aP 4 rfl (B0 rfl) rfl ?_
  refine aL 5 rfl (B3 rfl rfl) rfl ?_
  refine aP 6 rfl (A6 (j := 0) rfl rfl rfl zW) rfl ?_
  refine aL 7 rfl (A2 rfl rfl (hat3 _) hl3) rfl ?_
  refine A0 8 ?_
  (refine D6 rfl rfl (ih c d (by simp [GK.z] at hz; omega) G _ _ hre1 hre3) rfl rfl rfl (fun u G1 hle1 hh => ?_); obtain ⟨uc, n1, bo1, rfl, hru, hu1⟩ := hh; obtain ⟨x1, x2, x3, p4, n4, c4, rfl⟩ := hru.ints)
  refine aP 9 rfl (pX rfl rfl) rfl ?_
  refine aP 10 rfl (pX rfl rfl) rfl ?_
  refine A0 11 ?_
  refine B8 rfl ?_
  refine aP 12 rfl (qA rfl) rfl ?_
  refine A7 ?_
  refine C5 (rC rfl (A1 rfl rfl)) (rT rfl) ?_
  (exact H5.mk hru (fun h => by have e1 := hu1 (B4I h zS); exact ⟨by rw [cmp, if_pos zS]; exact e1.1, e1.2⟩))
  refine A7 ?_
  refine D3 D4 rfl ?_
  refine E9 (i := 0) (l' := [tt,ff,ff,ff,ff,ff,ff,ff,ff,ff]) rfl C1 (B0 rfl) rfl zT rfl rfl ?_
  refine aL 1 rfl (B3 rfl rfl) rfl ?_
  refine aP 2 rfl (A6 (j := 0) rfl rfl rfl zW) rfl ?_
  refine aL 3 rfl (A2 rfl rfl (hat1 _) hl1) rfl ?_
  refine aP 5 rfl (B0 rfl) rfl ?_
  refine aL 6 rfl (B3 rfl rfl) rfl ?_
  refine A0 4 ?_
  refine M8 rfl rfl ((A4A c G e1 hre1)) rfl rfl rfl ?_
  refine aP 7 rfl (K8 rfl rfl) rfl ?_
  refine A0 8 ?_
  refine B8 rfl ?_
  refine aP 9 rfl (qA rfl) rfl ?_
  refine A9 ?_
  refine C5 (rC rfl (A1 rfl rfl)) (rT rfl) ?_
  (exact H5.mk (A9i hblb htg64) (fun h => ⟨by rw [cmp, if_neg zS], rfl⟩))
  refine G9 ?_
  refine sP (E1 rfl rfl zV) rfl rfl ?_
  refine B4 ?_
  refine sP (E1 rfl rfl zV) rfl rfl ?_
  refine B4 ?_
  refine sP (E1 rfl rfl zV) rfl rfl ?_
  refine E8 ?_
  (have hplA := hpl zV zV zV zV; refine E7 rfl (hTw hplA) rfl rfl (fun u G1 hle1 hh => ?_); obtain ⟨uc, n1, bo1, rfl, hru, hu1⟩ := hh; obtain ⟨x1, x2, x3, p4, n4, c4, rfl⟩ := hru.ints)
  refine A8 ?_
  refine C5 (rC rfl (A1 rfl rfl)) (rT rfl) ?_
  (exact H5.mk hru (fun h => hu1 ⟨A1F hb hplA zV zV h, h⟩))
  refine B2 ?_
  refine sB (qE rfl rfl) rfl rfl (fun h392 => ?_) (fun h392 => ?_)
  refine B2 ?_
  refine sB (qE rfl rfl) rfl rfl (fun h396 => ?_) (fun h396 => ?_)
  refine A7 ?_
  refine B7 ?_
  refine C3 ?_
  refine sB (qE rfl rfl) rfl rfl (fun h408 => ?_) (fun h408 => ?_)
  refine B2 ?_
  refine sB (qE rfl rfl) rfl rfl (fun h412 => ?_) (fun h412 => ?_)
  refine B4 ?_
  (refine E7 rfl (A0f _ G _ hrb0) rfl rfl (fun u G1 hle1 hh => ?_); obtain ⟨uc, rfl, hru⟩ := hh; obtain ⟨x1, x2, x3, p4, n4, c4, rfl⟩ := hru.ints)
  refine B4 ?_
  refine C5 (rC rfl (A1 rfl rfl)) (rT rfl) ?_
  (exact H5.mk hru (fun h => ⟨by obtain rfl := A0H ha zV; rw [cmp], by first | rfl | (exfalso; obtain rfl := A0H ha zV; have := A3l hb (A0t h); omega)⟩))
  refine C2 ?_
  refine sP (E1 rfl rfl zV) rfl rfl ?_
  refine B4 ?_
  refine sP (E1 rfl rfl zV) rfl rfl ?_
  refine B4 ?_
  refine sP (E1 rfl rfl zV) rfl rfl ?_
  refine G9 ?_
  refine sP (E1 rfl rfl zV) rfl rfl ?_
  refine B4 ?_
  refine sP (E1 rfl rfl zV) rfl rfl ?_
  refine B4 ?_
  refine sP (E1 rfl rfl zV) rfl rfl ?_
  refine E8 ?_
  (have hplA := hpl zV zV zV zV; refine E7 rfl (hTw hplA) rfl rfl (fun u G1 hle1 hh => ?_); obtain ⟨uc, n1, bo1, rfl, hru, hu1⟩ := hh; obtain ⟨x1, x2, x3, p4, n4, c4, rfl⟩ := hru.ints)
  refine A8 ?_
  refine C5 (rC rfl (A1 rfl rfl)) (rT rfl) ?_
  (exact H5.mk hru (fun h => hu1 ⟨A1F hb hplA zV zV h, h⟩))
  refine G9 ?_
  refine sB (qE rfl rfl) rfl rfl (fun h526 => ?_) (fun h526 => ?_)
  refine A9 ?_
  (have hg : ak = 5 := zV; obtain ⟨c, rfl, rfl, rfl⟩ := A18 ha hg; subst hg; obtain ⟨b1, o1, e1, rfl, hl1, ho1, hat1, hre1, _, hgb1⟩ := hsa.kidR hka (i := 0) zW zW; replace hre1 : E6 G c.cn e1 := hre1; clear hTw; refine D3 D4 rfl ?_)
  refine E9 (i := 0) (l' := [tt,ff,ff,ff,ff,ff,ff,ff,ff,ff,ff,ff]) rfl C1 (B0 rfl) rfl zT rfl rfl ?_
  refine aL 1 rfl (B3 rfl rfl) rfl ?_
  refine aP 2 rfl (A6 (j := 0) rfl rfl rfl zW) rfl ?_
  refine aL 3 rfl (A2 rfl rfl (hat1 _) hl1) rfl ?_
  refine aL 4 rfl (A1 rfl rfl) rfl ?_
  refine J8 (j := 5) (j' := 9) zT ?_ ?_
  (refine D6 rfl rfl (ih c b (by simp [GK.z] at hz; omega) G _ _ hre1 hrb0) rfl rfl rfl (fun u G1 hle1 hh => ?_); obtain ⟨uc, n1, bo1, rfl, hru, hu1⟩ := hh; obtain ⟨x1, x2, x3, p4, n4, c4, rfl⟩ := hru.ints)
  refine aP 6 rfl (qM rfl) rfl ?_
  refine aP 7 rfl (pX rfl rfl) rfl ?_
  refine aP 8 rfl (pX rfl rfl) rfl ?_
  refine A0 9 ?_
  (refine B6 rfl (A4 rfl) rfl rfl ?_; rintro _ ⟨b544, rfl⟩)
  refine A0 10 ?_
  refine B8 rfl ?_
  refine aP 11 rfl (qA rfl) rfl ?_
  refine A8 ?_
  (refine F0 (C0 rfl rfl rfl zV zQ rfl) rfl ?_; rintro _ ⟨b555, rfl⟩)
  refine A7 ?_
  (refine E0 (cs := [.int .i64 x1, .int .i64 x2, .int .i64 x3, .slice p4 n4 c4]) zM (fun G5 hle5 hsl5 hno5 => ?_))
  refine B2 ?_
  refine C5 (rC rfl (A1 rfl rfl)) (rT rfl) ?_
  (exact H5.mk (U1 (hru.mono hle5) hsl5 ⟨by decide, by decide⟩ h0 halb zU) (fun h => by have e1 := hu1 (A1E h); exact ⟨by rw [cmp, GK.cn, e1.1], e1.2⟩))
  (refine B6 rfl (A4 rfl) rfl rfl ?_; rintro _ ⟨b568, rfl⟩)
  refine A0 5 ?_
  (refine D6 rfl rfl (ih c b (by simp [GK.z] at hz; omega) G _ _ hre1 hrb0) rfl rfl rfl (fun u G1 hle1 hh => ?_); obtain ⟨uc, n1, bo1, rfl, hru, hu1⟩ := hh; obtain ⟨x1, x2, x3, p4, n4, c4, rfl⟩ := hru.ints)
  refine aP 6 rfl (qM rfl) rfl ?_
  refine aP 7 rfl (pX rfl rfl) rfl ?_
  refine aP 8 rfl (pX rfl rfl) rfl ?_
  refine A0 10 ?_
  refine B8 rfl ?_
  refine aP 11 rfl (qA rfl) rfl ?_
  refine A8 ?_
  (refine F0 (C0 rfl rfl rfl zV zQ rfl) rfl ?_; rintro _ ⟨b584, rfl⟩)
  refine A7 ?_
  (refine E0 (cs := [.int .i64 x1, .int .i64 x2, .int .i64 x3, .slice p4 n4 c4]) zM (fun G5 hle5 hsl5 hno5 => ?_))
  refine B2 ?_
  refine C5 (rC rfl (A1 rfl rfl)) (rT rfl) ?_
  (exact H5.mk (U1 (hru.mono hle5) hsl5 ⟨by decide, by decide⟩ h0 halb zU) (fun h => by have e1 := hu1 (A1E h); exact ⟨by rw [cmp, GK.cn, e1.1], e1.2⟩))
  refine B4 ?_
  refine sB (qE rfl rfl) rfl rfl (fun h605 => ?_) (fun h605 => ?_)
  refine A8 ?_
  (refine E7 rfl (A0f _ G _ hra0) rfl rfl (fun u G1 hle1 hh => ?_); obtain ⟨uc, rfl, hru⟩ := hh; obtain ⟨x1, x2, x3, p4, n4, c4, rfl⟩ := hru.ints)
  refine A8 ?_
  refine C5 (rC rfl (A1 rfl rfl)) (rT rfl) ?_
  (exact H5.mk hru (fun h => ⟨by obtain ⟨rfl, _⟩ := A0p ha zV; rw [cmp], rfl⟩))
  refine B4 ?_
  refine sB (qE rfl rfl) rfl rfl (fun h631 => ?_) (fun h631 => ?_)
  refine B2 ?_
  refine sP (E1 rfl rfl zV) rfl rfl ?_
  refine C2 ?_
  refine sP (I1 rfl rfl zV) rfl rfl ?_
  refine A8 ?_
  (refine E7 rfl (A0f _ G _ hra0) rfl rfl (fun u G1 hle1 hh => ?_); obtain ⟨uc, rfl, hru⟩ := hh; obtain ⟨x1, x2, x3, p4, n4, c4, rfl⟩ := hru.ints)
  refine B4 ?_
  refine C5 (rC rfl (A1 rfl rfl)) (rT rfl) ?_
  (exact H5.mk hru (fun h => by obtain ⟨c, rfl, _⟩ := A0W ha zV; obtain rfl := A3m hb zV (A0t h); exact ⟨by rw [A2V], by first | rfl | (exfalso; simp only [GK.cn, Cn.mk.injEq] at hb; omega)⟩))
  refine G9 ?_
  refine sP (E1 rfl rfl zV) rfl rfl ?_
  refine B4 ?_
  refine sP (E1 rfl rfl zV) rfl rfl ?_
  refine B4 ?_
  refine sP (E1 rfl rfl zV) rfl rfl ?_
  refine E8 ?_
  (have hplA := hpl zV zV zV zV; refine E7 rfl (hTw hplA) rfl rfl (fun u G1 hle1 hh => ?_); obtain ⟨uc, n1, bo1, rfl, hru, hu1⟩ := hh; obtain ⟨x1, x2, x3, p4, n4, c4, rfl⟩ := hru.ints)
  refine A8 ?_
  refine C5 (rC rfl (A1 rfl rfl)) (rT rfl) ?_
  (exact H5.mk hru (fun h => hu1 ⟨A1F hb hplA zV zV h, h⟩))
  refine A7 ?_
  refine B7 ?_
  refine C3 ?_
  refine sB (qE rfl rfl) rfl rfl (fun h728 => ?_) (fun h728 => ?_)
  refine B2 ?_
  refine sB (qE rfl rfl) rfl rfl (fun h732 => ?_) (fun h732 => ?_)
  refine B4 ?_
  (refine E7 rfl (A0f _ G _ hrb0) rfl rfl (fun u G1 hle1 hh => ?_); obtain ⟨uc, rfl, hru⟩ := hh; obtain ⟨x1, x2, x3, p4, n4, c4, rfl⟩ := hru.ints)
  refine B4 ?_
  refine C5 (rC rfl (A1 rfl rfl)) (rT rfl) ?_
  (exact H5.mk hru (fun h => ⟨by obtain rfl := A0H ha zV; rw [cmp], by first | rfl | (exfalso; obtain rfl := A0H ha zV; have := A3l hb (A0t h); omega)⟩))
  refine C2 ?_
  refine sP (E1 rfl rfl zV) rfl rfl ?_
  refine B4 ?_
  refine sP (E1 rfl rfl zV) rfl rfl ?_
  refine B4 ?_
  refine sP (E1 rfl rfl zV) rfl rfl ?_
  refine G9 ?_
  refine sP (E1 rfl rfl zV) rfl rfl ?_
  refine B4 ?_
  refine sP (E1 rfl rfl zV) rfl rfl ?_
  refine B4 ?_
  refine sP (E1 rfl rfl zV) rfl rfl ?_
  refine E8 ?_
  (have hplA := hpl zV zV zV zV; refine E7 rfl (hTw hplA) rfl rfl (fun u G1 hle1 hh => ?_); obtain ⟨uc, n1, bo1, rfl, hru, hu1⟩ := hh; obtain ⟨x1, x2, x3, p4, n4, c4, rfl⟩ := hru.ints)
  refine A8 ?_
  refine C5 (rC rfl (A1 rfl rfl)) (rT rfl) ?_
  (exact H5.mk hru (fun h => hu1 ⟨A1F hb hplA zV zV h, h⟩))
  refine G9 ?_
  refine sB (qE rfl rfl) rfl rfl (fun h846 => ?_) (fun h846 => ?_)
  refine A9 ?_
  (have hg : ak = 5 := zV; obtain ⟨c, rfl, rfl, rfl⟩ := A18 ha hg; subst hg; obtain ⟨b1, o1, e1, rfl, hl1, ho1, hat1, hre1, _, hgb1⟩ := hsa.kidR hka (i := 0) zW zW; replace hre1 : E6 G c.cn e1 := hre1; clear hTw; refine D3 D4 rfl ?_)
  refine E9 (i := 0) (l' := [tt,ff,ff,ff,ff,ff,ff,ff,ff,ff,ff,ff]) rfl C1 (B0 rfl) rfl zT rfl rfl ?_
  refine aL 1 rfl (B3 rfl rfl) rfl ?_
  refine aP 2 rfl (A6 (j := 0) rfl rfl rfl zW) rfl ?_
  refine aL 3 rfl (A2 rfl rfl (hat1 _) hl1) rfl ?_
  refine aL 4 rfl (A1 rfl rfl) rfl ?_
  refine J8 (j := 5) (j' := 9) zT ?_ ?_
  (refine D6 rfl rfl (ih c b (by simp [GK.z] at hz; omega) G _ _ hre1 hrb0) rfl rfl rfl (fun u G1 hle1 hh => ?_); obtain ⟨uc, n1, bo1, rfl, hru, hu1⟩ := hh; obtain ⟨x1, x2, x3, p4, n4, c4, rfl⟩ := hru.ints)
  refine aP 6 rfl (qM rfl) rfl ?_
  refine aP 7 rfl (pX rfl rfl) rfl ?_
  refine aP 8 rfl (pX rfl rfl) rfl ?_
  refine A0 9 ?_
  (refine B6 rfl (A4 rfl) rfl rfl ?_; rintro _ ⟨b864, rfl⟩)
  refine A0 10 ?_
  refine B8 rfl ?_
  refine aP 11 rfl (qA rfl) rfl ?_
  refine A8 ?_
  (refine F0 (C0 rfl rfl rfl zV zQ rfl) rfl ?_; rintro _ ⟨b875, rfl⟩)
  refine A7 ?_
  (refine E0 (cs := [.int .i64 x1, .int .i64 x2, .int .i64 x3, .slice p4 n4 c4]) zM (fun G5 hle5 hsl5 hno5 => ?_))
  refine B2 ?_
  refine C5 (rC rfl (A1 rfl rfl)) (rT rfl) ?_
  (exact H5.mk (U1 (hru.mono hle5) hsl5 ⟨by decide, by decide⟩ h0 halb zU) (fun h => by have e1 := hu1 (A1E h); exact ⟨by rw [cmp, GK.cn, e1.1], e1.2⟩))
  (refine B6 rfl (A4 rfl) rfl rfl ?_; rintro _ ⟨b888, rfl⟩)
  refine A0 5 ?_
  (refine D6 rfl rfl (ih c b (by simp [GK.z] at hz; omega) G _ _ hre1 hrb0) rfl rfl rfl (fun u G1 hle1 hh => ?_); obtain ⟨uc, n1, bo1, rfl, hru, hu1⟩ := hh; obtain ⟨x1, x2, x3, p4, n4, c4, rfl⟩ := hru.ints)
  refine aP 6 rfl (qM rfl) rfl ?_
  refine aP 7 rfl (pX rfl rfl) rfl ?_
  refine aP 8 rfl (pX rfl rfl) rfl ?_
  refine A0 10 ?_
  refine B8 rfl ?_
  refine aP 11 rfl (qA rfl) rfl ?_
  refine A8 ?_
  (refine F0 (C0 rfl rfl rfl zV zQ rfl) rfl ?_; rintro _ ⟨b904, rfl⟩)
  refine A7 ?_
  (refine E0 (cs := [.int .i64 x1, .int .i64 x2, .int .i64 x3, .slice p4 n4 c4]) zM (fun G5 hle5 hsl5 hno5 => ?_))
  refine B2 ?_
  refine C5 (rC rfl (A1 rfl rfl)) (rT rfl) ?_
  (exact H5.mk (U1 (hru.mono hle5) hsl5 ⟨by decide, by decide⟩ h0 halb zU) (fun h => by have e1 := hu1 (A1E h); exact ⟨by rw [cmp, GK.cn, e1.1], e1.2⟩))
  refine B4 ?_
  refine sB (qE rfl rfl) rfl rfl (fun h925 => ?_) (fun h925 => ?_)
  refine A8 ?_
  (refine E7 rfl (A0f _ G _ hra0) rfl rfl (fun u G1 hle1 hh => ?_); obtain ⟨uc, rfl, hru⟩ := hh; obtain ⟨x1, x2, x3, p4, n4, c4, rfl⟩ := hru.ints)
  refine A8 ?_
  refine C5 (rC rfl (A1 rfl rfl)) (rT rfl) ?_
  (exact H5.mk hru (fun h => ⟨by obtain ⟨rfl, _⟩ := A0p ha zV; rw [cmp], rfl⟩))
  refine B4 ?_
  refine sB (qE rfl rfl) rfl rfl (fun h951 => ?_) (fun h951 => ?_)
  refine B2 ?_
  refine sP (E1 rfl rfl zV) rfl rfl ?_
  refine C2 ?_
  refine sP (I1 rfl rfl zV) rfl rfl ?_
  refine A8 ?_
  (refine E7 rfl (A0f _ G _ hra0) rfl rfl (fun u G1 hle1 hh => ?_); obtain ⟨uc, rfl, hru⟩ := hh; obtain ⟨x1, x2, x3, p4, n4, c4, rfl⟩ := hru.ints)
  refine B4 ?_
  refine C5 (rC rfl (A1 rfl rfl)) (rT rfl) ?_
  (exact H5.mk hru (fun h => by obtain ⟨c, rfl, _⟩ := A0W ha zV; obtain rfl := A3m hb zV (A0t h); exact ⟨by rw [A2V], by first | rfl | (exfalso; simp only [GK.cn, Cn.mk.injEq] at hb; omega)⟩))
  refine G9 ?_
  refine sP (E1 rfl rfl zV) rfl rfl ?_
  refine B4 ?_
  refine sP (E1 rfl rfl zV) rfl rfl ?_
  refine B4 ?_
  refine sP (E1 rfl rfl zV) rfl rfl ?_
  refine E8 ?_
  (have hplA := hpl zV zV zV zV; refine E7 rfl (hTw hplA) rfl rfl (fun u G1 hle1 hh => ?_); obtain ⟨uc, n1, bo1, rfl, hru, hu1⟩ := hh; obtain ⟨x1, x2, x3, p4, n4, c4, rfl⟩ := hru.ints)
  refine A8 ?_
  refine C5 (rC rfl (A1 rfl rfl)) (rT rfl) ?_
  (exact H5.mk hru (fun h => hu1 ⟨A1F hb hplA zV zV h, h⟩))
  refine H3 ?_
  refine B7 ?_
  refine C3 ?_
  refine sB (qE rfl rfl) rfl rfl (fun h1052 => ?_) (fun h1052 => ?_)
  refine B2 ?_
  refine sB (qE rfl rfl) rfl rfl (fun h1056 => ?_) (fun h1056 => ?_)
  refine B4 ?_
  (refine E7 rfl (A0f _ G _ hrb0) rfl rfl (fun u G1 hle1 hh => ?_); obtain ⟨uc, rfl, hru⟩ := hh; obtain ⟨x1, x2, x3, p4, n4, c4, rfl⟩ := hru.ints)
  refine B4 ?_
  refine C5 (rC rfl (A1 rfl rfl)) (rT rfl) ?_
  (exact H5.mk hru (fun h => ⟨by obtain rfl := A0H ha zV; rw [cmp], by first | rfl | (exfalso; obtain rfl := A0H ha zV; have := A3l hb (A0t h); omega)⟩))
  refine C2 ?_
  refine sP (E1 rfl rfl zV) rfl rfl ?_
  refine B4 ?_
  refine sP (E1 rfl rfl zV) rfl rfl ?_
  refine B4 ?_
  refine sP (E1 rfl rfl zV) rfl rfl ?_
  refine G9 ?_
  refine sP (E1 rfl rfl zV) rfl rfl ?_
  refine B4 ?_
  refine sB (qE rfl rfl) rfl rfl (fun h1126 => ?_) (fun h1126 => ?_)
  refine A9 ?_
  refine D3 D4 rfl ?_
  refine K3 (i := 0) (l' := [tt,ff,ff,ff,ff,ff,ff,ff,ff]) rfl C1 (A1 rfl rfl) rfl zT rfl rfl ?_
  refine aL 2 rfl (A1 rfl rfl) rfl ?_
  refine aP 4 rfl (B0 rfl) rfl ?_
  refine aL 5 rfl (B3 rfl rfl) rfl ?_
  refine A0 1 ?_
  (refine D6 rfl rfl (A0f _ G _ hrb0) rfl rfl rfl (fun u G1 hle1 hh => ?_); obtain ⟨uc, rfl, hru⟩ := hh; obtain ⟨x1, x2, x3, p4, n4, c4, rfl⟩ := hru.ints)
  refine A0 3 ?_
  refine M8 rfl rfl ((hTa _ (by first | exact D2.refl _ | assumption))) rfl rfl rfl ?_
  refine V4 (i := 6) (l' := [tt,tt,tt,tt,tt,tt,tt,ff,ff]) rfl C1 (qE rfl rfl) rfl zT rfl rfl (fun h1141 => ?_) (fun h1141 => ?_)
  refine A0 7 ?_
  refine B8 rfl ?_
  refine aP 8 rfl (qA rfl) rfl ?_
  refine A9 ?_
  refine C5 (rC rfl (A1 rfl rfl)) (rT rfl) ?_
  (exact H5.mk hru (fun h => by have hplA := hpl zV zV zV zV; obtain ⟨rfl, _⟩ := A0p hb zV; have hq := A3n hplA (A0t h); first | exact ⟨by rw [A2W hplA], rfl⟩ | (exfalso; exact absurd hq zS)))
  refine A0 7 ?_
  refine B8 rfl ?_
  refine aP 8 rfl (qA rfl) rfl ?_
  refine A9 ?_
  refine C5 (rC rfl (A1 rfl rfl)) (rT rfl) ?_
  (exact H5.mk hru (fun h => by have hplA := hpl zV zV zV zV; obtain ⟨rfl, _⟩ := A0p hb zV; have hq := A3n hplA (A0t h); first | exact ⟨by rw [A2W hplA], rfl⟩ | (exfalso; exact absurd hq zS)))
  refine B4 ?_
  refine sB (qE rfl rfl) rfl rfl (fun h1170 => ?_) (fun h1170 => ?_)
  refine A9 ?_
  (have hg : bk = 4 := zV; have hplA := hpl zV zV zV zV; obtain ⟨d, rfl, rfl, rfl, rfl⟩ := A0W hb hg; subst hg; obtain ⟨b3, o3, e3, rfl, hl3, ho3, hat3, hre3, _, hgb3⟩ := hsb.kidR hkb (i := 0) zW zW; replace hre3 : E6 G d.cn e3 := hre3; clear hTw; refine D3 D4 rfl ?_)
  refine K3 (i := 0) (l' := [tt,ff,ff,ff,ff,ff,ff,ff,ff,ff,ff,ff]) rfl C1 (A1 rfl rfl) rfl zT rfl rfl ?_
  refine aP 1 rfl (B0 rfl) rfl ?_
  refine aL 2 rfl (B3 rfl rfl) rfl ?_
  refine aP 3 rfl (A6 (j := 0) rfl rfl rfl zW) rfl ?_
  refine aL 4 rfl (A2 rfl rfl (hat3 _) hl3) rfl ?_
  refine J8 (j := 5) (j' := 9) zT ?_ ?_
  (refine D6 rfl rfl (A3p n ih a d (by simp [GK.z] at hz; omega) hplA G _ _ hra0 hre3) rfl rfl rfl (fun u G1 hle1 hh => ?_); obtain ⟨uc, n1, bo1, rfl, hru, hu1⟩ := hh; obtain ⟨x1, x2, x3, p4, n4, c4, rfl⟩ := hru.ints)
  refine aP 6 rfl (qM rfl) rfl ?_
  refine aP 7 rfl (pX rfl rfl) rfl ?_
  refine aP 8 rfl (pX rfl rfl) rfl ?_
  refine A0 9 ?_
  (refine B6 rfl (A4 rfl) rfl rfl ?_; rintro _ ⟨b1188, rfl⟩)
  refine A0 10 ?_
  refine B8 rfl ?_
  refine aP 11 rfl (qA rfl) rfl ?_
  refine A9 ?_
  (refine F0 (C0 rfl rfl rfl zV zQ rfl) rfl ?_; rintro _ ⟨b1197, rfl⟩)
  refine A7 ?_
  (refine E0 (cs := [.int .i64 x1, .int .i64 x2, .int .i64 x3, .slice p4 n4 c4]) zM (fun G5 hle5 hsl5 hno5 => ?_))
  refine B2 ?_
  refine C5 (rC rfl (A1 rfl rfl)) (rT rfl) ?_
  (exact H5.mk (U1 (hru.mono hle5) hsl5 ⟨by decide, by decide⟩ h0 h0 zU) (fun h => by have e1 := hu1 (A4D h); exact ⟨by rw [A2k hplA, GK.cn, e1.1], e1.2⟩))
  (refine B6 rfl (A4 rfl) rfl rfl ?_; rintro _ ⟨b1210, rfl⟩)
  refine A0 5 ?_
  (refine D6 rfl rfl (A3p n ih a d (by simp [GK.z] at hz; omega) hplA G _ _ hra0 hre3) rfl rfl rfl (fun u G1 hle1 hh => ?_); obtain ⟨uc, n1, bo1, rfl, hru, hu1⟩ := hh; obtain ⟨x1, x2, x3, p4, n4, c4, rfl⟩ := hru.ints)
  refine aP 6 rfl (qM rfl) rfl ?_
  refine aP 7 rfl (pX rfl rfl) rfl ?_
  refine aP 8 rfl (pX rfl rfl) rfl ?_
  refine A0 10 ?_
  refine B8 rfl ?_
  refine aP 11 rfl (qA rfl) rfl ?_
  refine A9 ?_
  (refine F0 (C0 rfl rfl rfl zV zQ rfl) rfl ?_; rintro _ ⟨b1224, rfl⟩)
  refine A7 ?_
  (refine E0 (cs := [.int .i64 x1, .int .i64 x2, .int .i64 x3, .slice p4 n4 c4]) zM (fun G5 hle5 hsl5 hno5 => ?_))
  refine B2 ?_
  refine C5 (rC rfl (A1 rfl rfl)) (rT rfl) ?_
  (exact H5.mk (U1 (hru.mono hle5) hsl5 ⟨by decide, by decide⟩ h0 h0 zU) (fun h => by have e1 := hu1 (A4D h); exact ⟨by rw [A2k hplA, GK.cn, e1.1], e1.2⟩))
  refine E8 ?_
  (have hplA := hpl zV zV zV zV; refine E7 rfl (hTw hplA) rfl rfl (fun u G1 hle1 hh => ?_); obtain ⟨uc, n1, bo1, rfl, hru, hu1⟩ := hh; obtain ⟨x1, x2, x3, p4, n4, c4, rfl⟩ := hru.ints)
  refine A8 ?_
  refine C5 (rC rfl (A1 rfl rfl)) (rT rfl) ?_
  (exact H5.mk hru (fun h => hu1 ⟨A1F hb hplA zV zV h, h⟩))
  refine G9 ?_
  refine sB (qE rfl rfl) rfl rfl (fun h1271 => ?_) (fun h1271 => ?_)
  refine A9 ?_
  (have hg : ak = 5 := zV; obtain ⟨c, rfl, rfl, rfl⟩ := A18 ha hg; subst hg; obtain ⟨b1, o1, e1, rfl, hl1, ho1, hat1, hre1, _, hgb1⟩ := hsa.kidR hka (i := 0) zW zW; replace hre1 : E6 G c.cn e1 := hre1; clear hTw; refine D3 D4 rfl ?_)
  refine E9 (i := 0) (l' := [tt,ff,ff,ff,ff,ff,ff,ff,ff,ff,ff,ff]) rfl C1 (B0 rfl) rfl zT rfl rfl ?_
  refine aL 1 rfl (B3 rfl rfl) rfl ?_
  refine aP 2 rfl (A6 (j := 0) rfl rfl rfl zW) rfl ?_
  refine aL 3 rfl (A2 rfl rfl (hat1 _) hl1) rfl ?_
  refine aL 4 rfl (A1 rfl rfl) rfl ?_
  refine J8 (j := 5) (j' := 9) zT ?_ ?_
  (refine D6 rfl rfl (ih c b (by simp [GK.z] at hz; omega) G _ _ hre1 hrb0) rfl rfl rfl (fun u G1 hle1 hh => ?_); obtain ⟨uc, n1, bo1, rfl, hru, hu1⟩ := hh; obtain ⟨x1, x2, x3, p4, n4, c4, rfl⟩ := hru.ints)
  refine aP 6 rfl (qM rfl) rfl ?_
  refine aP 7 rfl (pX rfl rfl) rfl ?_
  refine aP 8 rfl (pX rfl rfl) rfl ?_
  refine A0 9 ?_
  (refine B6 rfl (A4 rfl) rfl rfl ?_; rintro _ ⟨b1289, rfl⟩)
  refine A0 10 ?_
  refine B8 rfl ?_
  refine aP 11 rfl (qA rfl) rfl ?_
  refine A8 ?_
  (refine F0 (C0 rfl rfl rfl zV zQ rfl) rfl ?_; rintro _ ⟨b1300, rfl⟩)
  refine A7 ?_
  (refine E0 (cs := [.int .i64 x1, .int .i64 x2, .int .i64 x3, .slice p4 n4 c4]) zM (fun G5 hle5 hsl5 hno5 => ?_))
  refine B2 ?_
  refine C5 (rC rfl (A1 rfl rfl)) (rT rfl) ?_
  (exact H5.mk (U1 (hru.mono hle5) hsl5 ⟨by decide, by decide⟩ h0 halb zU) (fun h => by have e1 := hu1 (A1E h); exact ⟨by rw [cmp, GK.cn, e1.1], e1.2⟩))
  (refine B6 rfl (A4 rfl) rfl rfl ?_; rintro _ ⟨b1313, rfl⟩)
  refine A0 5 ?_
  (refine D6 rfl rfl (ih c b (by simp [GK.z] at hz; omega) G _ _ hre1 hrb0) rfl rfl rfl (fun u G1 hle1 hh => ?_); obtain ⟨uc, n1, bo1, rfl, hru, hu1⟩ := hh; obtain ⟨x1, x2, x3, p4, n4, c4, rfl⟩ := hru.ints)
  refine aP 6 rfl (qM rfl) rfl ?_
  refine aP 7 rfl (pX rfl rfl) rfl ?_
  refine aP 8 rfl (pX rfl rfl) rfl ?_
  refine A0 10 ?_
  refine B8 rfl ?_
  refine aP 11 rfl (qA rfl) rfl ?_
  refine A8 ?_
  (refine F0 (C0 rfl rfl rfl zV zQ rfl) rfl ?_; rintro _ ⟨b1329, rfl⟩)
  refine A7 ?_
  (refine E0 (cs := [.int .i64 x1, .int .i64 x2, .int .i64 x3, .slice p4 n4 c4]) zM (fun G5 hle5 hsl5 hno5 => ?_))
  refine B2 ?_
  refine C5 (rC rfl (A1 rfl rfl)) (rT rfl) ?_
  (exact H5.mk (U1 (hru.mono hle5) hsl5 ⟨by decide, by decide⟩ h0 halb zU) (fun h => by have e1 := hu1 (A1E h); exact ⟨by rw [cmp, GK.cn, e1.1], e1.2⟩))
  refine B4 ?_
  refine sB (qE rfl rfl) rfl rfl (fun h1350 => ?_) (fun h1350 => ?_)
  refine A8 ?_
  (refine E7 rfl (A0f _ G _ hra0) rfl rfl (fun u G1 hle1 hh => ?_); obtain ⟨uc, rfl, hru⟩ := hh; obtain ⟨x1, x2, x3, p4, n4, c4, rfl⟩ := hru.ints)
  refine A8 ?_
  refine C5 (rC rfl (A1 rfl rfl)) (rT rfl) ?_
  (exact H5.mk hru (fun h => ⟨by obtain ⟨rfl, _⟩ := A0p ha zV; rw [cmp], rfl⟩))
  refine B4 ?_
  refine sB (qE rfl rfl) rfl rfl (fun h1376 => ?_) (fun h1376 => ?_)
  refine B2 ?_
  refine sP (E1 rfl rfl zV) rfl rfl ?_
  refine C2 ?_
  refine sP (I1 rfl rfl zV) rfl rfl ?_
  refine A8 ?_
  (refine E7 rfl (A0f _ G _ hra0) rfl rfl (fun u G1 hle1 hh => ?_); obtain ⟨uc, rfl, hru⟩ := hh; obtain ⟨x1, x2, x3, p4, n4, c4, rfl⟩ := hru.ints)
  refine B4 ?_
  refine C5 (rC rfl (A1 rfl rfl)) (rT rfl) ?_
  (exact H5.mk hru (fun h => by obtain ⟨c, rfl, _⟩ := A0W ha zV; obtain rfl := A3m hb zV (A0t h); exact ⟨by rw [A2V], by first | rfl | (exfalso; simp only [GK.cn, Cn.mk.injEq] at hb; omega)⟩))
  refine G9 ?_
  refine sP (E1 rfl rfl zV) rfl rfl ?_
  refine B4 ?_
  refine sB (qE rfl rfl) rfl rfl (fun h1431 => ?_) (fun h1431 => ?_)
  refine A9 ?_
  refine D3 D4 rfl ?_
  refine K3 (i := 0) (l' := [tt,ff,ff,ff,ff,ff,ff,ff,ff]) rfl C1 (A1 rfl rfl) rfl zT rfl rfl ?_
  refine aL 2 rfl (A1 rfl rfl) rfl ?_
  refine aP 4 rfl (B0 rfl) rfl ?_
  refine aL 5 rfl (B3 rfl rfl) rfl ?_
  refine A0 1 ?_
  (refine D6 rfl rfl (A0f _ G _ hrb0) rfl rfl rfl (fun u G1 hle1 hh => ?_); obtain ⟨uc, rfl, hru⟩ := hh; obtain ⟨x1, x2, x3, p4, n4, c4, rfl⟩ := hru.ints)
  refine A0 3 ?_
  refine M8 rfl rfl ((hTa _ (by first | exact D2.refl _ | assumption))) rfl rfl rfl ?_
  refine V4 (i := 6) (l' := [tt,tt,tt,tt,tt,tt,tt,ff,ff]) rfl C1 (qE rfl rfl) rfl zT rfl rfl (fun h1446 => ?_) (fun h1446 => ?_)
  refine A0 7 ?_
  refine B8 rfl ?_
  refine aP 8 rfl (qA rfl) rfl ?_
  refine A9 ?_
  refine C5 (rC rfl (A1 rfl rfl)) (rT rfl) ?_
  (exact H5.mk hru (fun h => by have hplA := hpl zV zV zV zV; obtain ⟨rfl, _⟩ := A0p hb zV; have hq := A3n hplA (A0t h); first | exact ⟨by rw [A2W hplA], rfl⟩ | (exfalso; exact absurd hq zS)))
  refine A0 7 ?_
  refine B8 rfl ?_
  refine aP 8 rfl (qA rfl) rfl ?_
  refine A9 ?_
  refine C5 (rC rfl (A1 rfl rfl)) (rT rfl) ?_
  (exact H5.mk hru (fun h => by have hplA := hpl zV zV zV zV; obtain ⟨rfl, _⟩ := A0p hb zV; have hq := A3n hplA (A0t h); first | exact ⟨by rw [A2W hplA], rfl⟩ | (exfalso; exact absurd hq zS)))
  refine B4 ?_
  refine sB (qE rfl rfl) rfl rfl (fun h1475 => ?_) (fun h1475 => ?_)
  refine A9 ?_
  (have hg : bk = 4 := zV; have hplA := hpl zV zV zV zV; obtain ⟨d, rfl, rfl, rfl, rfl⟩ := A0W hb hg; subst hg; obtain ⟨b3, o3, e3, rfl, hl3, ho3, hat3, hre3, _, hgb3⟩ := hsb.kidR hkb (i := 0) zW zW; replace hre3 : E6 G d.cn e3 := hre3; clear hTw; refine D3 D4 rfl ?_)
  refine K3 (i := 0) (l' := [tt,ff,ff,ff,ff,ff,ff,ff,ff,ff,ff,ff]) rfl C1 (A1 rfl rfl) rfl zT rfl rfl ?_
  refine aP 1 rfl (B0 rfl) rfl ?_
  refine aL 2 rfl (B3 rfl rfl) rfl ?_
  refine aP 3 rfl (A6 (j := 0) rfl rfl rfl zW) rfl ?_
  refine aL 4 rfl (A2 rfl rfl (hat3 _) hl3) rfl ?_
  refine J8 (j := 5) (j' := 9) zT ?_ ?_
  (refine D6 rfl rfl (A3p n ih a d (by simp [GK.z] at hz; omega) hplA G _ _ hra0 hre3) rfl rfl rfl (fun u G1 hle1 hh => ?_); obtain ⟨uc, n1, bo1, rfl, hru, hu1⟩ := hh; obtain ⟨x1, x2, x3, p4, n4, c4, rfl⟩ := hru.ints)
  refine aP 6 rfl (qM rfl) rfl ?_
  refine aP 7 rfl (pX rfl rfl) rfl ?_
  refine aP 8 rfl (pX rfl rfl) rfl ?_
  refine A0 9 ?_
  (refine B6 rfl (A4 rfl) rfl rfl ?_; rintro _ ⟨b1493, rfl⟩)
  refine A0 10 ?_
  refine B8 rfl ?_
  refine aP 11 rfl (qA rfl) rfl ?_
  refine A9 ?_
  (refine F0 (C0 rfl rfl rfl zV zQ rfl) rfl ?_; rintro _ ⟨b1502, rfl⟩)
  refine A7 ?_
  (refine E0 (cs := [.int .i64 x1, .int .i64 x2, .int .i64 x3, .slice p4 n4 c4]) zM (fun G5 hle5 hsl5 hno5 => ?_))
  refine B2 ?_
  refine C5 (rC rfl (A1 rfl rfl)) (rT rfl) ?_
  (exact H5.mk (U1 (hru.mono hle5) hsl5 ⟨by decide, by decide⟩ h0 h0 zU) (fun h => by have e1 := hu1 (A4D h); exact ⟨by rw [A2k hplA, GK.cn, e1.1], e1.2⟩))
  (refine B6 rfl (A4 rfl) rfl rfl ?_; rintro _ ⟨b1515, rfl⟩)
  refine A0 5 ?_
  (refine D6 rfl rfl (A3p n ih a d (by simp [GK.z] at hz; omega) hplA G _ _ hra0 hre3) rfl rfl rfl (fun u G1 hle1 hh => ?_); obtain ⟨uc, n1, bo1, rfl, hru, hu1⟩ := hh; obtain ⟨x1, x2, x3, p4, n4, c4, rfl⟩ := hru.ints)
  refine aP 6 rfl (qM rfl) rfl ?_
  refine aP 7 rfl (pX rfl rfl) rfl ?_
  refine aP 8 rfl (pX rfl rfl) rfl ?_
  refine A0 10 ?_
  refine B8 rfl ?_
  refine aP 11 rfl (qA rfl) rfl ?_
  refine A9 ?_
  (refine F0 (C0 rfl rfl rfl zV zQ rfl) rfl ?_; rintro _ ⟨b1529, rfl⟩)
  refine A7 ?_
  (refine E0 (cs := [.int .i64 x1, .int .i64 x2, .int .i64 x3, .slice p4 n4 c4]) zM (fun G5 hle5 hsl5 hno5 => ?_))
  refine B2 ?_
  refine C5 (rC rfl (A1 rfl rfl)) (rT rfl) ?_
  (exact H5.mk (U1 (hru.mono hle5) hsl5 ⟨by decide, by decide⟩ h0 h0 zU) (fun h => by have e1 := hu1 (A4D h); exact ⟨by rw [A2k hplA, GK.cn, e1.1], e1.2⟩))
  refine E8 ?_
  (have hplA := hpl zV zV zV zV; refine E7 rfl (hTw hplA) rfl rfl (fun u G1 hle1 hh => ?_); obtain ⟨uc, n1, bo1, rfl, hru, hu1⟩ := hh; obtain ⟨x1, x2, x3, p4, n4, c4, rfl⟩ := hru.ints)
  refine A8 ?_
  refine C5 (rC rfl (A1 rfl rfl)) (rT rfl) ?_
  (exact H5.mk hru (fun h => hu1 ⟨A1F hb hplA zV zV h, h⟩))
end Gw
end Go.Proofs.YtmceanphadildaaGreatDoor
