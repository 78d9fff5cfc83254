/-
  The program's composition of coercions.
-/
import Derived.Test.YtmceanphadildaaGreatDoorKb5
import Derived.Test.YtmceanphadildaaGreatDoorKb3
import Derived.Test.YtmceanphadildaaGreatDoorKb2
import Derived.Test.YtmceanphadildaaGreatDoorKb4
import Derived.Test.YtmceanphadildaaGreatDoorKb1
set_option linter.unusedVariables false
set_option linter.unusedSimpArgs false
set_option maxHeartbeats 0
set_option maxRecDepth 100000
set_option synthInstance.maxSize 4000
set_option synthInstance.maxHeartbeats 0
namespace Go.Proofs.YtmceanphadildaaGreatDoor
open Go Go.RowKit
namespace Gw
def R8 (c : GK) : IM → Value → List A5 → Prop := K9 fun G' v => ∃ cells, v = .tuple ⟨[.agg ⟨cells⟩, .bool true]⟩ ∧ E6 G' c.cn cells
theorem R8.mk {G : IM} {c : GK} {cells : List Value} (h : E6 G c.cn cells) : R8 c G (.tuple ⟨[.agg ⟨cells⟩, .bool true]⟩) [] := ⟨rfl, cells, rfl, h⟩
theorem A9i {G : IM} {l t : Int} (hl : F9 l) (ht : F9 t) : E6 G (GK.fl l t).cn [.int .i64 6, .int .i64 t, .int .i64 l, .slice none 0 0] :=
 E6.put (ks := []) (es := []) ⟨by decide, by decide⟩ ht hl zU zU zU rfl (C8.nil _ _) KR.nil
theorem A9j : ∀ (a : GK) {G : IM} {cells : List Value}, E6 G a.cn cells → F9 a.tg := by
 intro a
 induction a with
 | inj c i =>
  intro G cells h
  obtain ⟨p, cp, es, rfl, _, _, _, _, _, _, hs, hk⟩ := h.open4
  obtain ⟨_, _, e, _, _, _, _, hre, _, _⟩ := hs.kidR hk (i := 0) zW zW
  exact i hre
 | fl l t => intro G cells h; obtain ⟨p, cp, es, rfl, _, ht, _⟩ := h.open4; exact ht
 | _ => intro G cells _; exact ⟨by simp [GK.tg], by simp [GK.tg]⟩
theorem B4c : ∀ (n : Nat) (a b : GK) (G : IM) (ca cb : List Value), a.z + b.z ≤ n → fit a b = true → E6 G a.cn ca → E6 G b.cn cb → Fn Tryz.prog 126 [.agg ⟨ca⟩, .agg ⟨cb⟩] [] G (R8 (cmp a b)) := by
 intro n
 induction n with
 | zero => intro a b G ca cb h; exfalso; cases a <;> simp [GK.z] at h
 | succ n ih =>
  intro a b G ca cb hz hf hra hrb
  have htg64 := A9j a hra
  have hra0 := hra
  have hrb0 := hrb
  obtain ⟨ak, atg, alb, aks, ha⟩ := A0U a
  obtain ⟨bk, btg, blb, bks, hb⟩ := A0U b
  have hkA := A5S ha
  have hkB := A5S hb
  have hTa := fun G1 (h : D2 G G1) => A5N a G1 ca (hra.mono h)
  have hTb := fun G1 (h : D2 G G1) => A5N b G1 cb (hrb.mono h)
  have hAa := A8V _ G _ hra
  have hAb := A8V _ G _ hrb
  rw [ha] at hAa hra
  rw [hb] at hAb hrb
  rw [Cn.any] at hAa hAb
  obtain ⟨pa, cpa, ea, rfl, hak, hatg, halb, hna, _, _, hsa, hka⟩ := hra.open4
  obtain ⟨pb, cpb, eb, rfl, hbk, hbtg, hblb, hnb, _, _, hsb, hkb⟩ := hrb.open4
  have h0 : F9 0 := ⟨by decide, by decide⟩
  refine D5 Tryz.func126 rfl Tryz.ntmps126 Tryz.results126 rfl ?_
  intro w0
  refine A3 ?_
  refine sE (D8 rfl rfl) rfl (fun b3 => ?_)
  refine sE (D8 rfl rfl) rfl (fun b4 => ?_)
  refine sE (A4 rfl) rfl (fun b5 => ?_)
  refine C3 ?_
  refine B7 ?_
  refine B2 ?_
  focus (by_cases g1 : ak = 1 ∧ atg = 1; rw [decide_eq_true g1] at hAa; rotate_left; rw [decide_eq_false g1] at hAa; rotate_left; all_goals (refine E5 rfl hAa rfl rfl ?_))
  refine A9 ?_
  refine D3 D4 rfl ?_
  refine K3 (i := 0) (l' := [tt,ff,ff,ff,ff,ff,ff,ff,ff,ff]) rfl C1 (A1 rfl rfl) rfl zT rfl rfl ?_
  refine aP 1 rfl (B0 rfl) rfl ?_
  refine aL 2 rfl (B3 rfl rfl) rfl ?_
  refine V4 (i := 3) (l' := [tt,tt,tt,tt,ff,ff,ff,ff,ff,ff]) rfl C1 (qE rfl rfl) rfl zT rfl rfl (fun h24 => ?_) (fun h24 => ?_)
  refine aP 4 rfl (qM rfl) rfl ?_
  refine C4 5 rfl rfl rfl ?_
  refine C4 6 rfl rfl rfl ?_
  refine aP 7 rfl (M2 rfl rfl) rfl ?_
  refine A0 8 ?_
  refine B8 rfl ?_
  refine aP 9 rfl (qA rfl) rfl ?_
  refine A9 ?_
  refine C5 (rC rfl (A1 rfl rfl)) (rT rfl) ?_
  (exact R8.mk (by obtain rfl := A0H ha zV; rw [cmp]; exact hrb0))
  refine aP 4 rfl (qM rfl) rfl ?_
  refine aL 5 rfl (A1 rfl rfl) rfl ?_
  refine A0 6 ?_
  (have g2 : bk = 1 ∧ btg = 1 := (by obtain rfl := A0H ha zV; have := A3l hb hf; omega); rw [decide_eq_true g2] at hAb; refine M8 rfl rfl hAb rfl rfl rfl ?_)
  refine aP 7 rfl (N7 rfl rfl) rfl ?_
  refine A0 8 ?_
  refine B8 rfl ?_
  refine aP 9 rfl (qA rfl) rfl ?_
  refine A9 ?_
  refine C5 (rC rfl (A1 rfl rfl)) (rT rfl) ?_
  (exact R8.mk (by obtain rfl := A0H ha zV; rw [cmp]; exact hrb0))
  refine B4 ?_
  refine sB (qE rfl rfl) rfl rfl (fun h62 => ?_) (fun h62 => ?_)
  refine A9 ?_
  (have hg : ak = 5 := zV; obtain ⟨c, rfl, rfl, rfl⟩ := A18 ha hg; subst hg; obtain ⟨b1, o1, e1, rfl, hl1, ho1, hat1, hre1, _, hgb1⟩ := hsa.kidR hka (i := 0) zW zW; replace hre1 : E6 G c.cn e1 := hre1; refine D3 D4 rfl ?_)
  refine E9 (i := 0) (l' := [tt,ff,ff,ff,ff,ff,ff,ff,ff,ff,ff,ff]) rfl C1 (B0 rfl) rfl zT rfl rfl ?_
  refine aL 1 rfl (B3 rfl rfl) rfl ?_
  refine aP 2 rfl (A6 (j := 0) rfl rfl rfl zW) rfl ?_
  refine aL 3 rfl (A2 rfl rfl (hat1 _) hl1) rfl ?_
  refine aL 4 rfl (A1 rfl rfl) rfl ?_
  refine J8 (j := 5) (j' := 9) zT ?_ ?_
  (refine D6 rfl rfl (ih c b G _ _ (by simp [GK.z] at hz; omega) (A9h hf) hre1 hrb0) rfl rfl rfl (fun u G1 hle1 hh => ?_); obtain ⟨uc, rfl, hru⟩ := hh; obtain ⟨x1, x2, x3, p4, n4, c4, rfl⟩ := hru.ints)
  refine aP 6 rfl (qM rfl) rfl ?_
  refine aP 7 rfl (pX rfl rfl) rfl ?_
  refine aP 8 rfl (pX rfl rfl) rfl ?_
  refine A0 9 ?_
  (refine B6 rfl (A4 rfl) rfl rfl ?_; rintro _ ⟨b80, rfl⟩)
  refine A0 10 ?_
  refine B8 rfl ?_
  refine aP 11 rfl (qA rfl) rfl ?_
  refine A8 ?_
  (refine F0 (C0 rfl rfl rfl zV zQ rfl) rfl ?_; rintro _ ⟨b91, rfl⟩)
  refine E5 rfl ((A0n _ _ _ _ _ _ _ _ _ _ _)) rfl rfl ?_
  refine A7 ?_
  (refine E0 (cs := [.int .i64 x1, .int .i64 x2, .int .i64 x3, .slice p4 n4 c4]) zM (fun G5 hle5 hsl5 hno5 => ?_))
  refine B2 ?_
  refine C5 (rC rfl (A1 rfl rfl)) (rT rfl) ?_
  (exact R8.mk (by rw [cmp, GK.cn]; exact U1 (hru.mono hle5) hsl5 hak hatg halb zU))
  (refine B6 rfl (A4 rfl) rfl rfl ?_; rintro _ ⟨b105, rfl⟩)
  refine A0 5 ?_
  (refine D6 rfl rfl (ih c b G _ _ (by simp [GK.z] at hz; omega) (A9h hf) hre1 hrb0) rfl rfl rfl (fun u G1 hle1 hh => ?_); obtain ⟨uc, rfl, hru⟩ := hh; obtain ⟨x1, x2, x3, p4, n4, c4, rfl⟩ := hru.ints)
  refine aP 6 rfl (qM rfl) rfl ?_
  refine aP 7 rfl (pX rfl rfl) rfl ?_
  refine aP 8 rfl (pX rfl rfl) rfl ?_
  refine A0 10 ?_
  refine B8 rfl ?_
  refine aP 11 rfl (qA rfl) rfl ?_
  refine A8 ?_
  (refine F0 (C0 rfl rfl rfl zV zQ rfl) rfl ?_; rintro _ ⟨b121, rfl⟩)
  refine E5 rfl ((A0n _ _ _ _ _ _ _ _ _ _ _)) rfl rfl ?_
  refine A7 ?_
  (refine E0 (cs := [.int .i64 x1, .int .i64 x2, .int .i64 x3, .slice p4 n4 c4]) zM (fun G5 hle5 hsl5 hno5 => ?_))
  refine B2 ?_
  refine C5 (rC rfl (A1 rfl rfl)) (rT rfl) ?_
  (exact R8.mk (by rw [cmp, GK.cn]; exact U1 (hru.mono hle5) hsl5 hak hatg halb zU))
  refine B4 ?_
  refine sB (qE rfl rfl) rfl rfl (fun h143 => ?_) (fun h143 => ?_)
  refine J5 ?_
  refine C5 (rC rfl (A1 rfl rfl)) (rT rfl) ?_
  (exact R8.mk (by obtain ⟨rfl, _⟩ := A0p ha zV; rw [cmp]; exact hra0))
  refine B4 ?_
  refine sB (qE rfl rfl) rfl rfl (fun h168 => ?_) (fun h168 => ?_)
  refine B2 ?_
  refine sB (qE rfl rfl) rfl rfl (fun h172 => ?_) (fun h172 => ?_)
  refine A8 ?_
  (have hg : ak = 4 := zV; have hg2 : bk = 5 := zV; obtain ⟨c, rfl, rfl, rfl, rfl⟩ := A0W ha hg; obtain ⟨d, rfl, rfl, rfl⟩ := A18 hb hg2; subst hg; subst hg2; obtain ⟨b1, o1, e1, rfl, hl1, ho1, hat1, hre1, _, hgb1⟩ := hsa.kidR hka (i := 0) zW zW; replace hre1 : E6 G c.cn e1 := hre1; obtain ⟨b3, o3, e3, rfl, hl3, ho3, hat3, hre3, _, hgb3⟩ := hsb.kidR hkb (i := 0) zW zW; replace hre3 : E6 G d.cn e3 := hre3; refine D3 D4 rfl ?_)
  refine K3 (i := 0) (l' := [tt,ff,ff,ff,ff,ff,ff,ff]) rfl C1 (A1 rfl rfl) rfl zT rfl rfl ?_
  refine aP 2 rfl (B0 rfl) rfl ?_
  refine aL 3 rfl (B3 rfl rfl) rfl ?_
  refine aP 4 rfl (A6 (j := 0) rfl rfl rfl zW) rfl ?_
  refine aL 5 rfl (A2 rfl rfl (hat3 _) hl3) rfl ?_
  refine A0 1 ?_
  refine M8 rfl rfl ((hTa G (D2.refl _))) rfl rfl rfl ?_
  refine A0 6 ?_
  refine M8 rfl rfl ((A5N d G e3 hre3)) rfl rfl rfl ?_
  refine V4 (i := 7) (l' := [tt,tt,tt,tt,tt,tt,tt,tt]) rfl C1 (qE rfl rfl) rfl zT rfl rfl (fun h190 => ?_) (fun h190 => ?_)
  refine C3 ?_
  refine D3 D4 rfl ?_
  refine E9 (i := 0) (l' := [tt,ff,ff,ff,ff,ff,ff,ff,ff,ff,ff,ff,ff]) rfl C1 (B0 rfl) rfl zT rfl rfl ?_
  refine aL 1 rfl (B3 rfl rfl) rfl ?_
  refine aP 2 rfl (A6 (j := 0) rfl rfl rfl zW) rfl ?_
  refine aL 3 rfl (A2 rfl rfl (hat1 _) hl1) rfl ?_
  refine aP 4 rfl (B0 rfl) rfl ?_
  refine aL 5 rfl (B3 rfl rfl) rfl ?_
  refine aP 6 rfl (A6 (j := 0) rfl rfl rfl zW) rfl ?_
  refine aL 7 rfl (A2 rfl rfl (hat3 _) hl3) rfl ?_
  refine A0 8 ?_
  (refine D6 rfl rfl (ih c d G _ _ (by simp [GK.z] at hz; omega) (B4b hf zS) hre1 hre3) rfl rfl rfl (fun u G1 hle1 hh => ?_); obtain ⟨uc, rfl, hru⟩ := hh; obtain ⟨x1, x2, x3, p4, n4, c4, rfl⟩ := hru.ints)
  refine aP 9 rfl (pX rfl rfl) rfl ?_
  refine aP 10 rfl (pX rfl rfl) rfl ?_
  refine A0 11 ?_
  refine B8 rfl ?_
  refine aP 12 rfl (qA rfl) rfl ?_
  refine A7 ?_
  refine C5 (rC rfl (A1 rfl rfl)) (rT rfl) ?_
  (exact R8.mk (by rw [cmp, if_pos zS]; exact hru))
  refine A7 ?_
  refine D3 D4 rfl ?_
  refine E9 (i := 0) (l' := [tt,ff,ff,ff,ff,ff,ff]) rfl C1 (B0 rfl) rfl zT rfl rfl ?_
  refine aL 1 rfl (B3 rfl rfl) rfl ?_
  refine aL 2 rfl (A1 rfl rfl) rfl ?_
  refine A0 3 ?_
  refine M8 rfl rfl ((hTa G (D2.refl _))) rfl rfl rfl ?_
  refine aP 4 rfl (K8 rfl rfl) rfl ?_
  refine A0 5 ?_
  refine B8 rfl ?_
  refine aP 6 rfl (qA rfl) rfl ?_
  refine A9 ?_
  refine C5 (rC rfl (A1 rfl rfl)) (rT rfl) ?_
  (exact R8.mk (by rw [cmp, if_neg zS]; exact A9i hblb htg64))
  refine C2 ?_
  refine sP (I1 rfl rfl zV) rfl rfl ?_
  refine A9 ?_
  refine D3 D4 rfl ?_
  refine K3 (i := 0) (l' := [tt,ff,ff,ff,ff]) rfl C1 (A1 rfl rfl) rfl zT rfl rfl ?_
  refine aL 1 rfl (A1 rfl rfl) rfl ?_
  refine A0 2 ?_
  (have g2 : bk = 1 ∧ btg = 1 := (by obtain ⟨c, rfl, _⟩ := A0W ha zV; obtain rfl := A3m hb zV hf; simp only [GK.cn, Cn.mk.injEq] at hb; omega); rw [decide_eq_true g2] at hAb; refine M8 rfl rfl hAb rfl rfl rfl ?_)
  refine A0 3 ?_
  refine B8 rfl ?_
  refine aP 4 rfl (qA rfl) rfl ?_
  refine A9 ?_
  refine C5 (rC rfl (A1 rfl rfl)) (rT rfl) ?_
  (exact R8.mk (by obtain ⟨c, rfl, _⟩ := A0W ha zV; obtain rfl := A3m hb zV hf; rw [A2V]; exact hra0))
  refine G9 ?_
  refine sP (E1 rfl rfl zV) rfl rfl ?_
  refine B4 ?_
  refine sB (qE rfl rfl) rfl rfl (fun h294 => ?_) (fun h294 => ?_)
  refine A9 ?_
  refine D3 D4 rfl ?_
  refine K3 (i := 0) (l' := [tt,ff,ff,ff,ff,ff,ff,ff]) rfl C1 (A1 rfl rfl) rfl zT rfl rfl ?_
  refine aL 1 rfl (A1 rfl rfl) rfl ?_
  refine aL 3 rfl (A1 rfl rfl) rfl ?_
  refine A0 2 ?_
  refine M8 rfl rfl ((hTa G (D2.refl _))) rfl rfl rfl ?_
  refine A0 4 ?_
  refine M8 rfl rfl ((hTb G (D2.refl _))) rfl rfl rfl ?_
  refine V4 (i := 5) (l' := [tt,tt,tt,tt,tt,tt,ff,ff]) rfl C1 (qE rfl rfl) rfl zT rfl rfl (fun h308 => ?_) (fun h308 => ?_)
  refine A0 6 ?_
  refine B8 rfl ?_
  refine aP 7 rfl (qA rfl) rfl ?_
  refine A9 ?_
  refine C5 (rC rfl (A1 rfl rfl)) (rT rfl) ?_
  (exact R8.mk (by have hpl := A19 ha zV zV zV zV; obtain ⟨rfl, _⟩ := A0p hb zV; rw [A2W hpl]; exact hrb0))
  refine A0 6 ?_
  refine B8 rfl ?_
  refine aP 7 rfl (qA rfl) rfl ?_
  refine A9 ?_
  refine C5 (rC rfl (A1 rfl rfl)) (rT rfl) ?_
  (exfalso; have hpl := A19 ha zV zV zV zV; obtain ⟨rfl, _⟩ := A0p hb zV; have hq := A3n hpl hf; exact absurd hq zS)
  refine B4 ?_
  refine sB (qE rfl rfl) rfl rfl (fun h337 => ?_) (fun h337 => ?_)
  refine A9 ?_
  (have hg : bk = 4 := zV; have hpl := A19 ha zV zV zV zV; obtain ⟨d, rfl, rfl, rfl, rfl⟩ := A0W hb hg; subst hg; obtain ⟨b3, o3, e3, rfl, hl3, ho3, hat3, hre3, _, hgb3⟩ := hsb.kidR hkb (i := 0) zW zW; replace hre3 : E6 G d.cn e3 := hre3; refine D3 D4 rfl ?_)
  refine K3 (i := 0) (l' := [tt,ff,ff,ff,ff,ff,ff,ff,ff,ff,ff,ff]) rfl C1 (A1 rfl rfl) rfl zT rfl rfl ?_
  refine aP 1 rfl (B0 rfl) rfl ?_
  refine aL 2 rfl (B3 rfl rfl) rfl ?_
  refine aP 3 rfl (A6 (j := 0) rfl rfl rfl zW) rfl ?_
  refine aL 4 rfl (A2 rfl rfl (hat3 _) hl3) rfl ?_
  refine J8 (j := 5) (j' := 9) zT ?_ ?_
  (refine D6 rfl rfl (ih a d G _ _ (by simp [GK.z] at hz; omega) (A9g hpl hf) hra0 hre3) rfl rfl rfl (fun u G1 hle1 hh => ?_); obtain ⟨uc, rfl, hru⟩ := hh; obtain ⟨x1, x2, x3, p4, n4, c4, rfl⟩ := hru.ints)
  refine aP 6 rfl (qM rfl) rfl ?_
  refine aP 7 rfl (pX rfl rfl) rfl ?_
  refine aP 8 rfl (pX rfl rfl) rfl ?_
  refine A0 9 ?_
  (refine B6 rfl (A4 rfl) rfl rfl ?_; rintro _ ⟨b355, rfl⟩)
  refine A0 10 ?_
  refine B8 rfl ?_
  refine aP 11 rfl (qA rfl) rfl ?_
  refine A8 ?_
  (refine F0 (C0 rfl rfl rfl zV zQ rfl) rfl ?_; rintro _ ⟨b366, rfl⟩)
  refine E5 rfl ((A0n _ _ _ _ _ _ _ _ _ _ _)) rfl rfl ?_
  refine A7 ?_
  (refine E0 (cs := [.int .i64 x1, .int .i64 x2, .int .i64 x3, .slice p4 n4 c4]) zM (fun G5 hle5 hsl5 hno5 => ?_))
  refine B2 ?_
  refine C5 (rC rfl (A1 rfl rfl)) (rT rfl) ?_
  (exact R8.mk (by rw [A2k hpl, GK.cn]; exact U1 (hru.mono hle5) hsl5 hbk hbtg hblb zU))
  (refine B6 rfl (A4 rfl) rfl rfl ?_; rintro _ ⟨b380, rfl⟩)
  refine A0 5 ?_
  (refine D6 rfl rfl (ih a d G _ _ (by simp [GK.z] at hz; omega) (A9g hpl hf) hra0 hre3) rfl rfl rfl (fun u G1 hle1 hh => ?_); obtain ⟨uc, rfl, hru⟩ := hh; obtain ⟨x1, x2, x3, p4, n4, c4, rfl⟩ := hru.ints)
  refine aP 6 rfl (qM rfl) rfl ?_
  refine aP 7 rfl (pX rfl rfl) rfl ?_
  refine aP 8 rfl (pX rfl rfl) rfl ?_
  refine A0 10 ?_
  refine B8 rfl ?_
  refine aP 11 rfl (qA rfl) rfl ?_
  refine A8 ?_
  (refine F0 (C0 rfl rfl rfl zV zQ rfl) rfl ?_; rintro _ ⟨b396, rfl⟩)
  refine E5 rfl ((A0n _ _ _ _ _ _ _ _ _ _ _)) rfl rfl ?_
  refine A7 ?_
  (refine E0 (cs := [.int .i64 x1, .int .i64 x2, .int .i64 x3, .slice p4 n4 c4]) zM (fun G5 hle5 hsl5 hno5 => ?_))
  refine B2 ?_
  refine C5 (rC rfl (A1 rfl rfl)) (rT rfl) ?_
  (exact R8.mk (by rw [A2k hpl, GK.cn]; exact U1 (hru.mono hle5) hsl5 hbk hbtg hblb zU))
  refine H3 ?_
  refine sB (O6 rfl rfl) rfl rfl (fun h420 => ?_) (fun h420 => ?_)
  refine Z1 ?_
  refine C5 (rC rfl (A1 rfl rfl)) (rT rfl) ?_
  (exfalso; have hq := A4u ha hb (A19 ha zV zV zV zV) zV zV hf; omega)
  refine A9 ?_
  refine sB (O6 rfl rfl) rfl rfl (fun h449 => ?_) (fun h449 => ?_)
  refine I9 ?_
  refine C5 (rC rfl (A1 rfl rfl)) (rT rfl) ?_
  (exfalso; have hq := A4u ha hb (A19 ha zV zV zV zV) zV zV hf; omega)
  refine C2 ?_
  refine sB (qE rfl rfl) rfl rfl (fun h476 => ?_) (fun h476 => ?_)
  refine J5 ?_
  refine C5 (rC rfl (A1 rfl rfl)) (rT rfl) ?_
  (exact R8.mk (by rw [(A4u ha hb (A19 ha zV zV zV zV) zV zV hf).2.2 zV]; exact hra0))
  refine B4 ?_
  focus (have hg : ak = 2 ∨ ak = 3 := zV; have hgb : bk = ak := zV; rcases hg with hg | hg; obtain ⟨a1, a2, b1, b2, rfl, rfl, rfl, rfl, hf1, hf2, rfl, rfl⟩ := B39 ha hb hg hgb hf; subst hgb; subst hg; rotate_left; obtain ⟨a1, a2, b1, b2, rfl, rfl, rfl, rfl, hf1, hf2, rfl, rfl⟩ := B4a ha hb hg hgb hf; subst hgb; subst hg; rotate_left; all_goals (obtain ⟨q1, o1, e1, rfl, hl1, ho1, hat1, hre1, _, hgb1⟩ := hsa.kidR hka (i := 0) zW zW; obtain ⟨q2, o2, e2, hE2, hl2, ho2, hat2, hre2, _, hgb2⟩ := hsa.kidR hka (i := 1) zW zW; cases hE2; obtain ⟨q3, o3, e3, rfl, hl3, ho3, hat3, hre3, _, hgb3⟩ := hsb.kidR hkb (i := 0) zW zW; obtain ⟨q4, o4, e4, hE4, hl4, ho4, hat4, hre4, _, hgb4⟩ := hsb.kidR hkb (i := 1) zW zW; cases hE4; replace hre1 : E6 G a1.cn e1 := hre1; replace hre2 : E6 G a2.cn e2 := hre2; replace hre3 : E6 G b1.cn e3 := hre3; replace hre4 : E6 G b2.cn e4 := hre4; obtain ⟨f1, f2, f3, r1, m1, z1, rfl⟩ := hre1.ints; obtain ⟨g1, g2, g3, r2, m2, z2, rfl⟩ := hre2.ints; obtain ⟨h1, h2, h3, r3, m3, z3, rfl⟩ := hre3.ints; obtain ⟨j1, j2, j3, r4, m4, z4, rfl⟩ := hre4.ints; refine D3 D4 rfl ?_))
  refine E9 (i := 0) (l' := [tt,ff,ff,ff,ff,ff,ff,ff,ff,ff,ff,ff]) rfl C1 (B0 rfl) rfl zT rfl rfl ?_
  refine aL 1 rfl (B3 rfl rfl) rfl ?_
  refine aP 2 rfl (A6 (j := 0) rfl rfl rfl zW) rfl ?_
  refine aL 3 rfl (A2 rfl rfl (hat1 _) hl1) rfl ?_
  refine aP 4 rfl (B0 rfl) rfl ?_
  refine aL 5 rfl (B3 rfl rfl) rfl ?_
  refine aP 6 rfl (A6 (j := 0) rfl rfl rfl zW) rfl ?_
  refine aL 7 rfl (A2 rfl rfl (hat3 _) hl3) rfl ?_
  refine J8 (j := 8) (j' := 9) zT ?_ ?_
  (refine B6 rfl (A4 rfl) rfl rfl ?_; rintro _ ⟨b511, rfl⟩)
  refine A0 9 ?_
  (refine B6 rfl (A4 rfl) rfl rfl ?_; rintro _ ⟨b513, rfl⟩)
  refine A0 10 ?_
  (refine oS rfl rfl rfl rfl hl1 ho1 rfl rfl ?_ (hu := by exact D7 hl1.symm))
  refine A0 11 ?_
  (refine oS rfl rfl rfl rfl hl1 ho1 rfl rfl ?_ (hu := by exact D7 hl1.symm))
  refine A8 ?_
  refine sP (I1 rfl rfl zV) rfl rfl ?_
  refine C3 ?_
  refine sL (A2 rfl rfl (C9 zO) hl3) rfl rfl ?_
  refine sL (A2 rfl rfl (C9 zO) hl1) rfl rfl ?_
  refine sS rfl rfl rfl hl1 ho1 rfl ?_ (hu := by exact D7 hl1.symm)
  refine sS rfl rfl rfl hl1 ho1 rfl ?_ (hu := by exact D7 hl1.symm)
  refine C3 ?_
  refine sL (A2 rfl rfl (C9 zO) hl3) rfl rfl ?_
  refine sL (A2 rfl rfl (C9 zO) hl1) rfl rfl ?_
  (refine E7 rfl (ih b1 a1 G _ _ (by simp [GK.z] at hz; omega) hf1 hre3 hre1) rfl rfl (fun u G1 hle1 hh => ?_); obtain ⟨uc, rfl, hru⟩ := hh; obtain ⟨x1, x2, x3, p4, n4, c4, rfl⟩ := hru.ints)
  refine B2 ?_
  refine sE (A4 rfl) rfl (fun b544 => ?_)
  refine sS rfl rfl rfl hl1 ho1 rfl ?_ (hu := by exact D7 hl1.symm)
  refine C3 ?_
  refine D3 D4 rfl ?_
  refine E9 (i := 0) (l' := [tt,ff,ff,ff,ff,ff,ff,ff,ff,ff,ff,ff,ff,ff,ff]) rfl C1 (B0 rfl) rfl zT rfl rfl ?_
  refine aL 1 rfl (B3 rfl rfl) rfl ?_
  refine aP 2 rfl (A6 (j := 1) rfl rfl rfl zW) rfl ?_
  refine aL 3 rfl (A2 rfl rfl (At.moS hle1 (hat2 [])) hl2) rfl ?_
  refine aP 4 rfl (B0 rfl) rfl ?_
  refine aL 5 rfl (B3 rfl rfl) rfl ?_
  refine aP 6 rfl (A6 (j := 1) rfl rfl rfl zW) rfl ?_
  refine aL 7 rfl (A2 rfl rfl (At.moS hle1 (hat4 [])) hl4) rfl ?_
  refine J8 (j := 8) (j' := 12) zT ?_ ?_
  (refine D6 rfl rfl (ih a2 b2 G1 _ _ (by simp [GK.z] at hz; omega) hf2 (hre2.mono hle1) (hre4.mono hle1)) rfl rfl rfl (fun u G2 hle2 hh => ?_); obtain ⟨vc, rfl, hrv⟩ := hh; obtain ⟨y1, y2, y3, p5, n5, c5, rfl⟩ := hrv.ints)
  refine aP 9 rfl (qM rfl) rfl ?_
  refine aP 10 rfl (pX rfl rfl) rfl ?_
  refine aP 11 rfl (pX rfl rfl) rfl ?_
  refine A0 12 ?_
  (refine B6 rfl (A4 rfl) rfl rfl ?_; rintro _ ⟨b565, rfl⟩)
  refine A0 13 ?_
  (refine oS rfl rfl rfl rfl hl1 ho1 rfl rfl ?_ (hu := by exact D7 hl1.symm))
  refine aP 14 rfl (qA rfl) rfl ?_
  refine E8 ?_
  (refine F0 (C0 rfl rfl rfl zV zQ rfl) rfl ?_; rintro _ ⟨b580, rfl⟩)
  refine E5 rfl ((A0n _ _ _ _ _ _ _ _ _ _ _)) rfl rfl ?_
  refine A3 ?_
  refine sS rfl rfl rfl hl1 ho1 rfl ?_ (hu := by exact D7 hl1.symm)
  refine B2 ?_
  (refine E0 (cs := [.int .i64 x1, .int .i64 x2, .int .i64 x3, .slice p4 n4 c4, .int .i64 y1, .int .i64 y2, .int .i64 y3, .slice p5 n5 c5]) zM (fun G5 hle5 hsl5 hno5 => ?_))
  refine tT ?_
  refine C5 (rC rfl (A1 rfl rfl)) (rT rfl) ?_
  (exact R8.mk (by rw [cmp, GK.cn]; exact L7 (hru.mono (hle2.trans hle5)) (hrv.mono hle5) hsl5 ⟨by decide, by decide⟩ h0 h0 zU))
  (refine B6 rfl (A4 rfl) rfl rfl ?_; rintro _ ⟨b592, rfl⟩)
  refine A0 8 ?_
  (refine D6 rfl rfl (ih a2 b2 G1 _ _ (by simp [GK.z] at hz; omega) hf2 (hre2.mono hle1) (hre4.mono hle1)) rfl rfl rfl (fun u G2 hle2 hh => ?_); obtain ⟨vc, rfl, hrv⟩ := hh; obtain ⟨y1, y2, y3, p5, n5, c5, rfl⟩ := hrv.ints)
  refine aP 9 rfl (qM rfl) rfl ?_
  refine aP 10 rfl (pX rfl rfl) rfl ?_
  refine aP 11 rfl (pX rfl rfl) rfl ?_
  refine A0 13 ?_
  (refine oS rfl rfl rfl rfl hl1 ho1 rfl rfl ?_ (hu := by exact D7 hl1.symm))
  refine aP 14 rfl (qA rfl) rfl ?_
  refine E8 ?_
  (refine F0 (C0 rfl rfl rfl zV zQ rfl) rfl ?_; rintro _ ⟨b612, rfl⟩)
  refine E5 rfl ((A0n _ _ _ _ _ _ _ _ _ _ _)) rfl rfl ?_
  refine A3 ?_
  refine sS rfl rfl rfl hl1 ho1 rfl ?_ (hu := by exact D7 hl1.symm)
  refine B2 ?_
  (refine E0 (cs := [.int .i64 x1, .int .i64 x2, .int .i64 x3, .slice p4 n4 c4, .int .i64 y1, .int .i64 y2, .int .i64 y3, .slice p5 n5 c5]) zM (fun G5 hle5 hsl5 hno5 => ?_))
  refine tT ?_
  refine C5 (rC rfl (A1 rfl rfl)) (rT rfl) ?_
  (exact R8.mk (by rw [cmp, GK.cn]; exact L7 (hru.mono (hle2.trans hle5)) (hrv.mono hle5) hsl5 ⟨by decide, by decide⟩ h0 h0 zU))
  (refine B6 rfl (A4 rfl) rfl rfl ?_; rintro _ ⟨b624, rfl⟩)
  refine A0 8 ?_
  (refine B6 rfl (A4 rfl) rfl rfl ?_; rintro _ ⟨b626, rfl⟩)
  refine A0 10 ?_
  (refine oS rfl rfl rfl rfl hl1 ho1 rfl rfl ?_ (hu := by exact D7 hl1.symm))
  refine A0 11 ?_
  (refine oS rfl rfl rfl rfl hl1 ho1 rfl rfl ?_ (hu := by exact D7 hl1.symm))
  refine A8 ?_
  refine sP (I1 rfl rfl zV) rfl rfl ?_
  refine C3 ?_
  refine sL (A2 rfl rfl (C9 zO) hl3) rfl rfl ?_
  refine sL (A2 rfl rfl (C9 zO) hl1) rfl rfl ?_
  refine sS rfl rfl rfl hl1 ho1 rfl ?_ (hu := by exact D7 hl1.symm)
  refine sS rfl rfl rfl hl1 ho1 rfl ?_ (hu := by exact D7 hl1.symm)
  refine C3 ?_
  refine sL (A2 rfl rfl (C9 zO) hl3) rfl rfl ?_
  refine sL (A2 rfl rfl (C9 zO) hl1) rfl rfl ?_
  (refine E7 rfl (ih b1 a1 G _ _ (by simp [GK.z] at hz; omega) hf1 hre3 hre1) rfl rfl (fun u G1 hle1 hh => ?_); obtain ⟨uc, rfl, hru⟩ := hh; obtain ⟨x1, x2, x3, p4, n4, c4, rfl⟩ := hru.ints)
  refine B2 ?_
  refine sE (A4 rfl) rfl (fun b657 => ?_)
  refine sS rfl rfl rfl hl1 ho1 rfl ?_ (hu := by exact D7 hl1.symm)
  refine C3 ?_
  refine D3 D4 rfl ?_
  refine E9 (i := 0) (l' := [tt,ff,ff,ff,ff,ff,ff,ff,ff,ff,ff,ff,ff,ff,ff]) rfl C1 (B0 rfl) rfl zT rfl rfl ?_
  refine aL 1 rfl (B3 rfl rfl) rfl ?_
  refine aP 2 rfl (A6 (j := 1) rfl rfl rfl zW) rfl ?_
  refine aL 3 rfl (A2 rfl rfl (At.moS hle1 (hat2 [])) hl2) rfl ?_
  refine aP 4 rfl (B0 rfl) rfl ?_
  refine aL 5 rfl (B3 rfl rfl) rfl ?_
  refine aP 6 rfl (A6 (j := 1) rfl rfl rfl zW) rfl ?_
  refine aL 7 rfl (A2 rfl rfl (At.moS hle1 (hat4 [])) hl4) rfl ?_
  refine J8 (j := 8) (j' := 12) zT ?_ ?_
  (refine D6 rfl rfl (ih a2 b2 G1 _ _ (by simp [GK.z] at hz; omega) hf2 (hre2.mono hle1) (hre4.mono hle1)) rfl rfl rfl (fun u G2 hle2 hh => ?_); obtain ⟨vc, rfl, hrv⟩ := hh; obtain ⟨y1, y2, y3, p5, n5, c5, rfl⟩ := hrv.ints)
  refine aP 9 rfl (qM rfl) rfl ?_
  refine aP 10 rfl (pX rfl rfl) rfl ?_
  refine aP 11 rfl (pX rfl rfl) rfl ?_
  refine A0 12 ?_
  (refine B6 rfl (A4 rfl) rfl rfl ?_; rintro _ ⟨b678, rfl⟩)
  refine A0 13 ?_
  (refine oS rfl rfl rfl rfl hl1 ho1 rfl rfl ?_ (hu := by exact D7 hl1.symm))
  refine aP 14 rfl (qA rfl) rfl ?_
  refine E8 ?_
  (refine F0 (C0 rfl rfl rfl zV zQ rfl) rfl ?_; rintro _ ⟨b693, rfl⟩)
  refine E5 rfl ((A0n _ _ _ _ _ _ _ _ _ _ _)) rfl rfl ?_
  refine A3 ?_
  refine sS rfl rfl rfl hl1 ho1 rfl ?_ (hu := by exact D7 hl1.symm)
  refine B2 ?_
  (refine E0 (cs := [.int .i64 x1, .int .i64 x2, .int .i64 x3, .slice p4 n4 c4, .int .i64 y1, .int .i64 y2, .int .i64 y3, .slice p5 n5 c5]) zM (fun G5 hle5 hsl5 hno5 => ?_))
  refine tT ?_
  refine C5 (rC rfl (A1 rfl rfl)) (rT rfl) ?_
  (exact R8.mk (by rw [cmp, GK.cn]; exact L7 (hru.mono (hle2.trans hle5)) (hrv.mono hle5) hsl5 ⟨by decide, by decide⟩ h0 h0 zU))
  (refine B6 rfl (A4 rfl) rfl rfl ?_; rintro _ ⟨b705, rfl⟩)
  refine A0 8 ?_
  (refine D6 rfl rfl (ih a2 b2 G1 _ _ (by simp [GK.z] at hz; omega) hf2 (hre2.mono hle1) (hre4.mono hle1)) rfl rfl rfl (fun u G2 hle2 hh => ?_); obtain ⟨vc, rfl, hrv⟩ := hh; obtain ⟨y1, y2, y3, p5, n5, c5, rfl⟩ := hrv.ints)
  refine aP 9 rfl (qM rfl) rfl ?_
  refine aP 10 rfl (pX rfl rfl) rfl ?_
  refine aP 11 rfl (pX rfl rfl) rfl ?_
  refine A0 13 ?_
  (refine oS rfl rfl rfl rfl hl1 ho1 rfl rfl ?_ (hu := by exact D7 hl1.symm))
  refine aP 14 rfl (qA rfl) rfl ?_
  refine E8 ?_
  (refine F0 (C0 rfl rfl rfl zV zQ rfl) rfl ?_; rintro _ ⟨b725, rfl⟩)
  refine E5 rfl ((A0n _ _ _ _ _ _ _ _ _ _ _)) rfl rfl ?_
  refine A3 ?_
  refine sS rfl rfl rfl hl1 ho1 rfl ?_ (hu := by exact D7 hl1.symm)
  refine B2 ?_
  (refine E0 (cs := [.int .i64 x1, .int .i64 x2, .int .i64 x3, .slice p4 n4 c4, .int .i64 y1, .int .i64 y2, .int .i64 y3, .slice p5 n5 c5]) zM (fun G5 hle5 hsl5 hno5 => ?_))
  refine tT ?_
  refine C5 (rC rfl (A1 rfl rfl)) (rT rfl) ?_
  (exact R8.mk (by rw [cmp, GK.cn]; exact L7 (hru.mono (hle2.trans hle5)) (hrv.mono hle5) hsl5 ⟨by decide, by decide⟩ h0 h0 zU))
  refine E9 (i := 0) (l' := [tt,ff,ff,ff,ff,ff,ff,ff,ff,ff,ff,ff]) rfl C1 (B0 rfl) rfl zT rfl rfl ?_
  refine aL 1 rfl (B3 rfl rfl) rfl ?_
  refine aP 2 rfl (A6 (j := 0) rfl rfl rfl zW) rfl ?_
  refine aL 3 rfl (A2 rfl rfl (hat1 _) hl1) rfl ?_
  refine aP 4 rfl (B0 rfl) rfl ?_
  refine aL 5 rfl (B3 rfl rfl) rfl ?_
  refine aP 6 rfl (A6 (j := 0) rfl rfl rfl zW) rfl ?_
  refine aL 7 rfl (A2 rfl rfl (hat3 _) hl3) rfl ?_
  refine J8 (j := 8) (j' := 9) zT ?_ ?_
  (refine B6 rfl (A4 rfl) rfl rfl ?_; rintro _ ⟨b746, rfl⟩)
  refine A0 9 ?_
  (refine B6 rfl (A4 rfl) rfl rfl ?_; rintro _ ⟨b748, rfl⟩)
  refine A0 10 ?_
  (refine oS rfl rfl rfl rfl hl1 ho1 rfl rfl ?_ (hu := by exact D7 hl1.symm))
  refine A0 11 ?_
  (refine oS rfl rfl rfl rfl hl1 ho1 rfl rfl ?_ (hu := by exact D7 hl1.symm))
  refine A8 ?_
  refine sP (E1 rfl rfl zV) rfl rfl ?_
  refine A8 ?_
  refine sL (A2 rfl rfl (C9 zO) hl1) rfl rfl ?_
  refine sL (A2 rfl rfl (C9 zO) hl3) rfl rfl ?_
  (refine E7 rfl (ih a1 b1 G _ _ (by simp [GK.z] at hz; omega) hf1 hre1 hre3) rfl rfl (fun u G1 hle1 hh => ?_); obtain ⟨uc, rfl, hru⟩ := hh; obtain ⟨x1, x2, x3, p4, n4, c4, rfl⟩ := hru.ints)
  refine B2 ?_
  refine sE (A4 rfl) rfl (fun b774 => ?_)
  refine sS rfl rfl rfl hl1 ho1 rfl ?_ (hu := by exact D7 hl1.symm)
  refine C3 ?_
  refine D3 D4 rfl ?_
  refine E9 (i := 0) (l' := [tt,ff,ff,ff,ff,ff,ff,ff,ff,ff,ff,ff,ff,ff,ff]) rfl C1 (B0 rfl) rfl zT rfl rfl ?_
  refine aL 1 rfl (B3 rfl rfl) rfl ?_
  refine aP 2 rfl (A6 (j := 1) rfl rfl rfl zW) rfl ?_
  refine aL 3 rfl (A2 rfl rfl (At.moS hle1 (hat2 [])) hl2) rfl ?_
  refine aP 4 rfl (B0 rfl) rfl ?_
  refine aL 5 rfl (B3 rfl rfl) rfl ?_
  refine aP 6 rfl (A6 (j := 1) rfl rfl rfl zW) rfl ?_
  refine aL 7 rfl (A2 rfl rfl (At.moS hle1 (hat4 [])) hl4) rfl ?_
  refine J8 (j := 8) (j' := 12) zT ?_ ?_
  (refine D6 rfl rfl (ih a2 b2 G1 _ _ (by simp [GK.z] at hz; omega) hf2 (hre2.mono hle1) (hre4.mono hle1)) rfl rfl rfl (fun u G2 hle2 hh => ?_); obtain ⟨vc, rfl, hrv⟩ := hh; obtain ⟨y1, y2, y3, p5, n5, c5, rfl⟩ := hrv.ints)
  refine aP 9 rfl (qM rfl) rfl ?_
  refine aP 10 rfl (pX rfl rfl) rfl ?_
  refine aP 11 rfl (pX rfl rfl) rfl ?_
  refine A0 12 ?_
  (refine B6 rfl (A4 rfl) rfl rfl ?_; rintro _ ⟨b795, rfl⟩)
  refine A0 13 ?_
  (refine oS rfl rfl rfl rfl hl1 ho1 rfl rfl ?_ (hu := by exact D7 hl1.symm))
  refine aP 14 rfl (qA rfl) rfl ?_
  refine E8 ?_
  (refine F0 (C0 rfl rfl rfl zV zQ rfl) rfl ?_; rintro _ ⟨b810, rfl⟩)
  refine E5 rfl ((A0n _ _ _ _ _ _ _ _ _ _ _)) rfl rfl ?_
  refine A3 ?_
  refine sS rfl rfl rfl hl1 ho1 rfl ?_ (hu := by exact D7 hl1.symm)
  refine B2 ?_
  (refine E0 (cs := [.int .i64 x1, .int .i64 x2, .int .i64 x3, .slice p4 n4 c4, .int .i64 y1, .int .i64 y2, .int .i64 y3, .slice p5 n5 c5]) zM (fun G5 hle5 hsl5 hno5 => ?_))
  refine tT ?_
  refine C5 (rC rfl (A1 rfl rfl)) (rT rfl) ?_
  (exact R8.mk (by rw [cmp, GK.cn]; exact L7 (hru.mono (hle2.trans hle5)) (hrv.mono hle5) hsl5 ⟨by decide, by decide⟩ h0 h0 zU))
  (refine B6 rfl (A4 rfl) rfl rfl ?_; rintro _ ⟨b822, rfl⟩)
  refine A0 8 ?_
  (refine D6 rfl rfl (ih a2 b2 G1 _ _ (by simp [GK.z] at hz; omega) hf2 (hre2.mono hle1) (hre4.mono hle1)) rfl rfl rfl (fun u G2 hle2 hh => ?_); obtain ⟨vc, rfl, hrv⟩ := hh; obtain ⟨y1, y2, y3, p5, n5, c5, rfl⟩ := hrv.ints)
  refine aP 9 rfl (qM rfl) rfl ?_
  refine aP 10 rfl (pX rfl rfl) rfl ?_
  refine aP 11 rfl (pX rfl rfl) rfl ?_
  refine A0 13 ?_
  (refine oS rfl rfl rfl rfl hl1 ho1 rfl rfl ?_ (hu := by exact D7 hl1.symm))
  refine aP 14 rfl (qA rfl) rfl ?_
  refine E8 ?_
  (refine F0 (C0 rfl rfl rfl zV zQ rfl) rfl ?_; rintro _ ⟨b842, rfl⟩)
  refine E5 rfl ((A0n _ _ _ _ _ _ _ _ _ _ _)) rfl rfl ?_
  refine A3 ?_
  refine sS rfl rfl rfl hl1 ho1 rfl ?_ (hu := by exact D7 hl1.symm)
  refine B2 ?_
  (refine E0 (cs := [.int .i64 x1, .int .i64 x2, .int .i64 x3, .slice p4 n4 c4, .int .i64 y1, .int .i64 y2, .int .i64 y3, .slice p5 n5 c5]) zM (fun G5 hle5 hsl5 hno5 => ?_))
  refine tT ?_
  refine C5 (rC rfl (A1 rfl rfl)) (rT rfl) ?_
  (exact R8.mk (by rw [cmp, GK.cn]; exact L7 (hru.mono (hle2.trans hle5)) (hrv.mono hle5) hsl5 ⟨by decide, by decide⟩ h0 h0 zU))
  (refine B6 rfl (A4 rfl) rfl rfl ?_; rintro _ ⟨b854, rfl⟩)
  refine A0 8 ?_
  (refine B6 rfl (A4 rfl) rfl rfl ?_; rintro _ ⟨b856, rfl⟩)
  refine A0 10 ?_
  (refine oS rfl rfl rfl rfl hl1 ho1 rfl rfl ?_ (hu := by exact D7 hl1.symm))
  refine A0 11 ?_
  (refine oS rfl rfl rfl rfl hl1 ho1 rfl rfl ?_ (hu := by exact D7 hl1.symm))
  refine A8 ?_
  refine sP (E1 rfl rfl zV) rfl rfl ?_
  refine A8 ?_
  refine sL (A2 rfl rfl (C9 zO) hl1) rfl rfl ?_
  refine sL (A2 rfl rfl (C9 zO) hl3) rfl rfl ?_
  (refine E7 rfl (ih a1 b1 G _ _ (by simp [GK.z] at hz; omega) hf1 hre1 hre3) rfl rfl (fun u G1 hle1 hh => ?_); obtain ⟨uc, rfl, hru⟩ := hh; obtain ⟨x1, x2, x3, p4, n4, c4, rfl⟩ := hru.ints)
  refine B2 ?_
  refine sE (A4 rfl) rfl (fun b882 => ?_)
  refine sS rfl rfl rfl hl1 ho1 rfl ?_ (hu := by exact D7 hl1.symm)
  refine C3 ?_
  refine D3 D4 rfl ?_
  refine E9 (i := 0) (l' := [tt,ff,ff,ff,ff,ff,ff,ff,ff,ff,ff,ff,ff,ff,ff]) rfl C1 (B0 rfl) rfl zT rfl rfl ?_
  refine aL 1 rfl (B3 rfl rfl) rfl ?_
  refine aP 2 rfl (A6 (j := 1) rfl rfl rfl zW) rfl ?_
  refine aL 3 rfl (A2 rfl rfl (At.moS hle1 (hat2 [])) hl2) rfl ?_
  refine aP 4 rfl (B0 rfl) rfl ?_
  refine aL 5 rfl (B3 rfl rfl) rfl ?_
  refine aP 6 rfl (A6 (j := 1) rfl rfl rfl zW) rfl ?_
  refine aL 7 rfl (A2 rfl rfl (At.moS hle1 (hat4 [])) hl4) rfl ?_
  refine J8 (j := 8) (j' := 12) zT ?_ ?_
  (refine D6 rfl rfl (ih a2 b2 G1 _ _ (by simp [GK.z] at hz; omega) hf2 (hre2.mono hle1) (hre4.mono hle1)) rfl rfl rfl (fun u G2 hle2 hh => ?_); obtain ⟨vc, rfl, hrv⟩ := hh; obtain ⟨y1, y2, y3, p5, n5, c5, rfl⟩ := hrv.ints)
  refine aP 9 rfl (qM rfl) rfl ?_
  refine aP 10 rfl (pX rfl rfl) rfl ?_
  refine aP 11 rfl (pX rfl rfl) rfl ?_
  refine A0 12 ?_
  (refine B6 rfl (A4 rfl) rfl rfl ?_; rintro _ ⟨b903, rfl⟩)
  refine A0 13 ?_
  (refine oS rfl rfl rfl rfl hl1 ho1 rfl rfl ?_ (hu := by exact D7 hl1.symm))
  refine aP 14 rfl (qA rfl) rfl ?_
  refine E8 ?_
  (refine F0 (C0 rfl rfl rfl zV zQ rfl) rfl ?_; rintro _ ⟨b918, rfl⟩)
  refine E5 rfl ((A0n _ _ _ _ _ _ _ _ _ _ _)) rfl rfl ?_
  refine A3 ?_
  refine sS rfl rfl rfl hl1 ho1 rfl ?_ (hu := by exact D7 hl1.symm)
  refine B2 ?_
  (refine E0 (cs := [.int .i64 x1, .int .i64 x2, .int .i64 x3, .slice p4 n4 c4, .int .i64 y1, .int .i64 y2, .int .i64 y3, .slice p5 n5 c5]) zM (fun G5 hle5 hsl5 hno5 => ?_))
  refine tT ?_
  refine C5 (rC rfl (A1 rfl rfl)) (rT rfl) ?_
  (exact R8.mk (by rw [cmp, GK.cn]; exact L7 (hru.mono (hle2.trans hle5)) (hrv.mono hle5) hsl5 ⟨by decide, by decide⟩ h0 h0 zU))
  (refine B6 rfl (A4 rfl) rfl rfl ?_; rintro _ ⟨b930, rfl⟩)
  refine A0 8 ?_
  (refine D6 rfl rfl (ih a2 b2 G1 _ _ (by simp [GK.z] at hz; omega) hf2 (hre2.mono hle1) (hre4.mono hle1)) rfl rfl rfl (fun u G2 hle2 hh => ?_); obtain ⟨vc, rfl, hrv⟩ := hh; obtain ⟨y1, y2, y3, p5, n5, c5, rfl⟩ := hrv.ints)
  refine aP 9 rfl (qM rfl) rfl ?_
  refine aP 10 rfl (pX rfl rfl) rfl ?_
  refine aP 11 rfl (pX rfl rfl) rfl ?_
  refine A0 13 ?_
  (refine oS rfl rfl rfl rfl hl1 ho1 rfl rfl ?_ (hu := by exact D7 hl1.symm))
  refine aP 14 rfl (qA rfl) rfl ?_
  refine E8 ?_
  (refine F0 (C0 rfl rfl rfl zV zQ rfl) rfl ?_; rintro _ ⟨b950, rfl⟩)
  refine E5 rfl ((A0n _ _ _ _ _ _ _ _ _ _ _)) rfl rfl ?_
  refine A3 ?_
  refine sS rfl rfl rfl hl1 ho1 rfl ?_ (hu := by exact D7 hl1.symm)
  refine B2 ?_
  (refine E0 (cs := [.int .i64 x1, .int .i64 x2, .int .i64 x3, .slice p4 n4 c4, .int .i64 y1, .int .i64 y2, .int .i64 y3, .slice p5 n5 c5]) zM (fun G5 hle5 hsl5 hno5 => ?_))
  refine tT ?_
  refine C5 (rC rfl (A1 rfl rfl)) (rT rfl) ?_
  (exact R8.mk (by rw [cmp, GK.cn]; exact L7 (hru.mono (hle2.trans hle5)) (hrv.mono hle5) hsl5 ⟨by decide, by decide⟩ h0 h0 zU))
theorem B4d (G : IM) (p : Option Addr) (n c : Nat) (es : List (List Value)) (hsl : C8 G p n c 14 es) (fid : FuncId) [B9 Tryz.prog fid] (us cs : List Value) (ins : List A5) (q : Nat → Bool)
  (hq : ∀ i e, es[i]? = some e → Fn Tryz.prog fid (us ++ [.agg ⟨e⟩] ++ cs) ins G (S0 (.bool (q i)) ins G)) :
  Fn Tryz.prog 162 [.slice p n c, .func (.func fid) ⟨us⟩ ⟨cs⟩] ins G (S0 (.int .i64 (X9 q n)) ins G) := by
 have hn := hsl.le
 refine D5 Tryz.func162 rfl Tryz.ntmps162 Tryz.results162 rfl ?_
 intro w0
 refine G9 ?_
 refine B7 ?_
 refine J3 (fun i : Nat => ⟨[(8, .int .i64 i), (7, .int .i64 n), (1, .func (.func fid) ⟨us⟩ ⟨cs⟩), (0, .slice p n c)], ins, G⟩) (fun i => i ≤ n ∧ ∀ j, j < i → q j = false) (fun i => n - i) 0 ?_ ?_ ?_
 exact E3
 exact ⟨by omega, by omega⟩
 rintro i ⟨hi, hf⟩
 refine A3 ?_
 refine sB (I3 rfl rfl) rfl rfl (fun h21 => ?_) (fun h21 => ?_)
 refine A8 ?_
 refine B7 ?_
 refine E8 ?_
 (obtain ⟨e, b, o, he, rfl, hl, _, hat, _⟩ := hsl.get (i := i) zV; refine sP (A6 rfl rfl rfl zV) rfl rfl ?_)
 refine sL (A2 rfl rfl (hat _) hl) rfl rfl ?_
 refine A4V rfl rfl (hq i e he) A0k rfl rfl (fun h43 => ?_) (fun h43 => ?_)
 refine I9 ?_
 refine S1 (rT rfl) D0.refl ?_
 exact ⟨rfl, by rw [A6w zV hf zS], rfl⟩
 refine A8 ?_
 refine sP (H9 rfl rfl zV zV) rfl rfl ?_
 refine A3 ?_
 refine I6 (i + 1) ?_ ?_ ?_
 exact E3
 exact ⟨by omega, fun j hj => by by_cases hji : j = i; (subst hji; assumption); exact hf j zV⟩
 omega
 refine I9 ?_
 refine S1 (rT rfl) D0.refl ?_
 exact ⟨rfl, by rw [A4Z (fun j hj => hf j zV)], rfl⟩
theorem B4e (G : IM) (p : Option Addr) (n c : Nat) (es : List (List Value)) (hsl : C8 G p n c 14 es) (fid : FuncId) [B9 Tryz.prog fid] (us cs : List Value) (ins : List A5) (q : Nat → Bool)
  (hq : ∀ i e, es[i]? = some e → Fn Tryz.prog fid (us ++ [.agg ⟨e⟩] ++ cs) ins G (S0 (.bool (q i)) ins G)) :
  Fn Tryz.prog 120 [.slice p n c, .func (.func fid) ⟨us⟩ ⟨cs⟩] ins G (S0 (.bool (decide (0 ≤ X9 q n))) ins G) := by
 refine D5 Tryz.func120 rfl Tryz.ntmps120 Tryz.results120 rfl ?_
 intro w0
 refine C2 ?_
 refine A2P rfl (B4d G p n c es hsl fid us cs ins q hq) A0k rfl rfl ?_
 refine sQ (A1p rfl rfl) rfl ?_
 refine C3 ?_
 refine S1 (rT rfl) D0.refl ?_
 exact ⟨rfl, rfl, rfl⟩
def PlC (t : TH) : Prop := ∀ (G : IM) (cells : List Value), B1 G t.nt cells → Fn Tryz.prog 70 [.agg ⟨cells⟩] [] G (F8 (.bool t.pln) G)
def VlC (t : TH) : Prop := ∀ (G : IM) (cells : List Value), B1 G t.nt cells → Fn Tryz.prog 34 [.agg ⟨cells⟩] [] G (F8 (.bool t.val) G)
theorem A9k (b : Bool) (G : IM) (cells : List Value) (hl : cells.length = 14) (ho : cells.all (·.oneCell') = true) (h : Fn Tryz.prog 34 [.agg ⟨cells⟩] [] G (F8 (.bool b) G)) :
  Fn Tryz.prog 121 [.agg ⟨cells⟩] [] G (S0 (.bool (!b)) [] G) := by
 refine D5 Tryz.func121 rfl Tryz.ntmps121 Tryz.results121 rfl ?_
 intro w0
 refine A3 ?_
 refine sE (D8 rfl rfl) rfl (fun b3 => ?_)
 refine A9 ?_
 refine sL (A2 rfl rfl (C9 zO) hl) rfl rfl ?_
 refine E5 rfl (h) rfl rfl ?_
 refine sQ (A3t rfl) rfl ?_
 refine A9 ?_
 (exact ⟨rfl, rfl, rfl⟩)
theorem A0q (t : TH) : ∃ k nm num ck ctg clb cks ks, t.nt = .mk k nm num (.mk ck ctg clb cks) ks := by
 rcases t.nt with ⟨k, nm, num, ⟨ck, ctg, clb, cks⟩, ks⟩
 exact ⟨_, _, _, _, _, _, _, _, rfl⟩
theorem B4f (a b : Bool) (q : Nat → Bool) (h0 : q 0 = !a) (h1 : q 1 = !b) : (!decide (0 ≤ X9 q 2)) = (a && b) := by
 cases a <;> cases b <;> simp [X9, List.range, List.range.loop, h0, h1]
theorem A4v (t : TH) (hk : ∀ a b, t = .pair a b → VlC a ∧ VlC b) : PlC t := by
 intro G cells hr
 obtain ⟨k, nm, num, ck, ctg, clb, cks, ks, ht⟩ := A0q t
 rw [ht] at hr
 have hpl := @A8c t k nm num _ ks ht
 have hpr := fun (h : k = 10) => @A8d t nm num (.mk ck ctg clb cks) ks (by rw [← h]; exact ht)
 obtain ⟨tk, tks, fk, fks, lb, pt, ct, pf, cf, p0, c0, pc, cc, p, c, es, rfl, hnd, hco, hn3, h14, hsl, hkl⟩ := hr.open14
 have hIP := B2o _ G _ hnd
 rw [show (Tm.mk k nm num (.mk tk tks) (.mk fk fks) lb []).k = k from rfl] at hIP
 have hC : k = 10 → Fn Tryz.prog 120 [.slice p ks.length c, .func (.func 121) ⟨[]⟩ ⟨[]⟩] [] G (S0 (.bool (!t.pln)) [] G) := by
  intro h
  obtain ⟨a, b, rfl, rfl⟩ := hpr h
  obtain ⟨ha, hb⟩ := hk a b rfl
  have := B4e G p 2 c es hsl 121 [] [] [] (fun i => if i = 0 then !a.val else !b.val) (by
   intro i e he
   have hlt : i < 2 := by have := (List.getElem?_eq_some_iff.1 he).1; rw [hsl.len] at this; exact this
   match i, hlt with
   | 0, _ => have hre := hkl 0 a.nt e rfl he; exact A9k _ G e hre.len hre.one (ha G e hre)
   | 1, _ => have hre := hkl 1 b.nt e rfl he; exact A9k _ G e hre.len hre.one (hb G e hre))
  have e2 := B4f a.val b.val (fun i => if i = 0 then !a.val else !b.val) rfl rfl
  rw [show (TH.pair a b).pln = (a.val && b.val) from by rw [TH.pln], ← e2, Bool.not_not]
  exact this
 generalize t.pln = T at hpl hC ⊢
 refine D5 Tryz.func70 rfl Tryz.ntmps70 Tryz.results70 rfl ?_
 intro w0
 refine A3 ?_
 refine sE (D8 rfl rfl) rfl (fun b3 => ?_)
 refine C2 ?_
 refine sB (qE rfl rfl) rfl rfl (fun h13 => ?_) (fun h13 => ?_)
 refine A8 ?_
 refine A2P rfl (hC zV) A0k rfl rfl ?_
 refine sQ (A3t rfl) rfl ?_
 refine A7 ?_
 (exact ⟨rfl, by rw [Bool.not_not], rfl⟩)
 refine C2 ?_
 refine E5 rfl (hIP) rfl rfl ?_
 refine A9 ?_
 (exact ⟨rfl, by rw [hpl zV], rfl⟩)
theorem A5T (t : TH) (hP : PlC t) (hk : ∀ c e, t = .conv c e → PlC e) : VlC t := by
 intro G cells hr
 have hPl := hP G cells hr
 have hRo := hr.one
 obtain ⟨k, nm, num, ck, ctg, clb, cks, ks, ht⟩ := A0q t
 rw [ht] at hr
 have h1 := A4o _ 4 G cells hr
 have h2 := A4o _ 2 G cells hr
 have h3 := A4o _ 3 G cells hr
 rw [show (Nt.mk k nm num (.mk ck ctg clb cks) ks).k = k from rfl, show (Nt.mk k nm num (.mk ck ctg clb cks) ks).co.k = ck from rfl] at h1 h2 h3
 have hcv := fun (h : k = 14) => @A2x t nm num (.mk ck ctg clb cks) ks (by rw [← h]; exact ht)
 have hnc := fun (h : k ≠ 14) => A8e (A11 ht h)
 have hno : k = 14 → ¬(ck = 4 ∨ ck = 2 ∨ ck = 3) → t.val = t.pln := by
  intro h hn
  obtain ⟨g, e, rfl, rfl, hE⟩ := hcv h
  have := A32 g
  rw [← hE, show (Cn.mk ck ctg clb cks).k = ck from rfl] at this
  rw [TH.val, TH.pln]
  cases hv : g.vl with
  | false => rfl
  | true => exact absurd (this.2 hv) hn
 have hyes : k = 14 → (ck = 4 ∨ ck = 2 ∨ ck = 3) → ∃ e, ks = [e.nt] ∧ t.val = e.pln ∧ PlC e := by
  intro h hn
  obtain ⟨g, e, rfl, rfl, hE⟩ := hcv h
  have := A32 g
  rw [← hE, show (Cn.mk ck ctg clb cks).k = ck from rfl] at this
  exact ⟨e, rfl, by rw [TH.val, this.1 hn, Bool.true_and], hk g e rfl⟩
 generalize t.val = T at hno hyes hnc ⊢
 generalize t.pln = T2 at hno hnc hPl
 obtain ⟨tk, tks, fk, fks, lb, pt, ct, pf, cf, p0, c0, pc, cc, p, c, es, rfl, hnd, hco, hn3, h14, hsl, hkl⟩ := hr.open14
 refine D5 Tryz.func34 rfl Tryz.ntmps34 Tryz.results34 rfl ?_
 intro w0
 refine A3 ?_
 refine sE (D8 rfl rfl) rfl (fun b3 => ?_)
 refine A8 ?_
 focus (by_cases g1 : k = 14 ∧ ck = 4; rw [decide_eq_true g1] at h1; rotate_left; rw [decide_eq_false g1] at h1; rotate_left; all_goals (refine E5 rfl h1 rfl rfl ?_))
 refine I9 ?_
 (obtain ⟨e1, hks, hT, hPe⟩ := hyes zV zV; subst hks hT; obtain ⟨b, o, e, rfl, hl, ho, hat, hre, _, hgb⟩ := hsl.kidR hkl (i := 0) zW zW; replace hre : B1 G e1.nt e := hre; refine sP (A6 (j := 0) rfl rfl rfl zW) rfl rfl ?_)
 refine sL (A2 rfl rfl (hat _) hl) rfl rfl ?_
 refine E5 rfl ((hPe G e hre)) rfl rfl ?_
 refine A7 ?_
 (exact ⟨rfl, rfl, rfl⟩)
 refine A3 ?_
 focus (by_cases g2 : k = 14 ∧ ck = 2; rw [decide_eq_true g2] at h2; rotate_left; rw [decide_eq_false g2] at h2; rotate_left; all_goals (refine E5 rfl h2 rfl rfl ?_))
 refine K1 ?_
 (obtain ⟨e1, hks, hT, hPe⟩ := hyes zV zV; subst hks hT; obtain ⟨b, o, e, rfl, hl, ho, hat, hre, _, hgb⟩ := hsl.kidR hkl (i := 0) zW zW; replace hre : B1 G e1.nt e := hre; refine sP (A6 (j := 0) rfl rfl rfl zW) rfl rfl ?_)
 refine sL (A2 rfl rfl (hat _) hl) rfl rfl ?_
 refine E5 rfl ((hPe G e hre)) rfl rfl ?_
 refine A7 ?_
 (exact ⟨rfl, rfl, rfl⟩)
 refine B2 ?_
 focus (by_cases g3 : k = 14 ∧ ck = 3; rw [decide_eq_true g3] at h3; rotate_left; rw [decide_eq_false g3] at h3; rotate_left; all_goals (refine E5 rfl h3 rfl rfl ?_))
 refine B4 ?_
 (obtain ⟨e1, hks, hT, hPe⟩ := hyes zV zV; subst hks hT; obtain ⟨b, o, e, rfl, hl, ho, hat, hre, _, hgb⟩ := hsl.kidR hkl (i := 0) zW zW; replace hre : B1 G e1.nt e := hre; refine sP (A6 (j := 0) rfl rfl rfl zW) rfl rfl ?_)
 refine sL (A2 rfl rfl (hat _) hl) rfl rfl ?_
 refine E5 rfl ((hPe G e hre)) rfl rfl ?_
 refine A7 ?_
 (exact ⟨rfl, rfl, rfl⟩)
 refine C2 ?_
 refine E5 rfl (hPl) rfl rfl ?_
 refine A9 ?_
 (exact ⟨rfl, by (by_cases hz : k = 14); (rw [hno hz zV]); (rw [hnc hz]), rfl⟩)
theorem A5U : ∀ t : TH, PlC t ∧ VlC t := by
 intro t
 induction t with
 | pair a b i j =>
  have hp : PlC (.pair a b) := A4v _ fun a' b' h => by cases h; exact ⟨i.2, j.2⟩
  exact ⟨hp, A5T _ hp fun c e h => by cases h⟩
 | conv c e i =>
  have hp : PlC (.conv c e) := A4v _ fun a' b' h => by cases h
  exact ⟨hp, A5T _ hp fun c' e' h => by cases h; exact i.1⟩
 | _ => refine ⟨A4v _ ?_, A5T _ (A4v _ ?_) ?_⟩ <;> (intro a b h; cases h)
def TH.tx : TH → ByteArray
 | .conv _ e => e.tx
 | .pair _ _ => A4e
 | .lam _ _ _ => A4f
 | .num n => A0G 2 n
 | .tru b => A0G (if b = true then 3 else 4) 0
 | _ => ⟨⟨[]⟩⟩
def TH.nk : TH → Prop
 | .var _ => True
 | .num n => 0 ≤ n ∧ n ≤ 999
 | .tru _ => True
 | .lam _ _ e => e.nk
 | .app f a => f.nk ∧ a.nk
 | .ar _ a b => a.nk ∧ b.nk
 | .ite c a b => c.nk ∧ a.nk ∧ b.nk
 | .pair a b => a.nk ∧ b.nk
 | .part _ e => e.nk
 | .conv _ e => e.nk
theorem A9l {t : TH} {k : Int} {nm : ByteArray} {num : Int} {co : Cn} {ks : List Nt} (hv : t.val = true) (hn : t.nk) (h : t.nt = .mk k nm num co ks) : (k = 14 → ∃ c e, t = .conv c e ∧ ks = [e.nt] ∧ e.val = true ∧ e.nk) ∧ (k = 10 → t.tx = A4e) ∧ (k = 5 → t.tx = A4f) ∧ (k ≠ 14 → k ≠ 10 → k ≠ 5 → (k = 2 ∨ k = 3 ∨ k = 4) ∧ t.tx = A0G k num ∧ 0 ≤ num ∧ num ≤ 999) := by
 cases t with
 | var x => cases hv
 | num n => simp only [TH.nt, Nt.mk.injEq] at h; obtain ⟨rfl, rfl, rfl, rfl, rfl⟩ := h; exact ⟨by simp, by simp, by simp, fun _ _ _ => ⟨.inl rfl, rfl, hn⟩⟩
 | tru b => simp only [TH.nt, Nt.mk.injEq] at h; obtain ⟨rfl, rfl, rfl, rfl, rfl⟩ := h; exact ⟨by cases b <;> simp, by cases b <;> simp, by cases b <;> simp, fun _ _ _ => ⟨by cases b <;> simp, rfl, by decide, by decide⟩⟩
 | lam x A e => simp only [TH.nt, Nt.mk.injEq] at h; obtain ⟨rfl, rfl, rfl, rfl, rfl⟩ := h; exact ⟨by simp, by simp, fun _ => rfl, by simp⟩
 | pair a b => simp only [TH.nt, Nt.mk.injEq] at h; obtain ⟨rfl, rfl, rfl, rfl, rfl⟩ := h; exact ⟨by simp, fun _ => rfl, by simp, by simp⟩
 | conv c e =>
  simp only [TH.nt, Nt.mk.injEq] at h; obtain ⟨rfl, rfl, rfl, rfl, rfl⟩ := h
  exact ⟨fun _ => ⟨c, e, rfl, rfl, B1p (B1t hv).2, hn⟩, by simp, by simp, by simp⟩
 | app f a => rw [TH.val] at hv; cases hv
 | ar s a b => rw [TH.val] at hv; cases hv
 | ite c a b => rw [TH.val] at hv; cases hv
 | part s e => rw [TH.val] at hv; cases hv
def TxC (t : TH) : Prop := ∀ (G : IM) (cells : List Value), A0z G → t.val = true → t.nk → B1 G t.nt cells → Fn Tryz.prog 35 [.agg ⟨cells⟩] [] G (F8 (.string t.tx) G)
theorem A9m (t : TH) (ih : ∀ c e, t = .conv c e → TxC e) : TxC t := by
 intro G cells hT hv hnk hr
 obtain ⟨k, nm, num, ck, ctg, clb, cks, ks, ht⟩ := A0q t
 obtain ⟨h14, h10, h5, hlf⟩ := A9l hv hnk ht
 rw [ht] at hr
 obtain ⟨tk, tks, fk, fks, lb, pt, ct, pf, cf, p0, c0, pc, cc, p, c, es, rfl, hnd, hco, hn3, _, hsl, hkl⟩ := hr.open14
 have hL := fun h1 h2 h3 => B3U k nm num _ _ lb [] G _ hT (hlf h1 h2 h3).1 (hlf h1 h2 h3).2.2 hnd
 refine D5 Tryz.func35 rfl Tryz.ntmps35 Tryz.results35 rfl ?_
 intro w0
 refine A3 ?_
 refine sE (D8 rfl rfl) rfl (fun b3 => ?_)
 refine E8 ?_
 refine B7 (tS (tR (sB (qE rfl rfl) rfl rfl (fun h18 => ?_) (fun h18 => ?_))))
 refine B4 ?_
 (obtain ⟨g, e1, rfl, hks, hv1, hn1⟩ := h14 zV; subst hks; obtain ⟨b, o, e, rfl, hl, ho, hat, hre, _, hgb⟩ := hsl.kidR hkl (i := 0) zW zW; replace hre : B1 G e1.nt e := hre; have hih := ih g e1 rfl G e hT hv1 hn1 hre; refine sP (A6 (j := 0) rfl rfl rfl zW) rfl rfl ?_)
 refine sL (A2 rfl rfl (hat _) hl) rfl rfl ?_
 refine E5 rfl (hih) rfl rfl ?_
 refine A8 ?_
 (exact ⟨rfl, by rw [TH.tx], rfl⟩)
 refine A7 ?_
 refine sB (qE rfl rfl) rfl rfl (fun h44 => ?_) (fun h44 => ?_)
 refine G9 ?_
 (exact ⟨rfl, by rw [h10 zV]; rfl, rfl⟩)
 refine A7 ?_
 refine sB (qE rfl rfl) rfl rfl (fun h65 => ?_) (fun h65 => ?_)
 refine G9 ?_
 (exact ⟨rfl, by rw [h5 zV]; rfl, rfl⟩)
 refine E8 ?_
 refine E5 rfl ((hL zV zV zV)) rfl rfl ?_
 refine A9 ?_
 (exact ⟨rfl, by rw [(hlf zV zV zV).2.1], rfl⟩)
theorem B4g : ∀ t : TH, TxC t := by
 intro t
 induction t with
 | conv c e i => exact A9m _ fun c' e' h => by cases h; exact i
 | _ => refine A9m _ ?_; intro a b h; cases h
def TH.kids : TH → List TH
 | .lam _ _ e => [e]
 | .app f a => [f, a]
 | .ar _ a b => [a, b]
 | .ite c a b => [c, a, b]
 | .pair a b => [a, b]
 | .part _ e => [e]
 | .conv _ e => [e]
 | _ => []
theorem A4w {t : TH} {k : Int} {nm : ByteArray} {num : Int} {co : Cn} {ks : List Nt} (h : t.nt = .mk k nm num co ks) : ks = t.kids.map TH.nt := by
 cases t <;> simp only [TH.nt, Nt.mk.injEq] at h <;> obtain ⟨_, _, _, _, rfl⟩ := h <;> rfl
theorem A9n {t : TH} (h : t.nk) : ∀ u ∈ t.kids, u.nk := by
 intro u hu
 cases t with
 | lam x A e => obtain rfl := List.mem_singleton.1 hu; exact h
 | part s e => obtain rfl := List.mem_singleton.1 hu; exact h
 | conv s e => obtain rfl := List.mem_singleton.1 hu; exact h
 | app f a => simp only [TH.kids, List.mem_cons, List.not_mem_nil, or_false] at hu; rcases hu with rfl | rfl; exact h.1; exact h.2
 | ar s f a => simp only [TH.kids, List.mem_cons, List.not_mem_nil, or_false] at hu; rcases hu with rfl | rfl; exact h.1; exact h.2
 | pair f a => simp only [TH.kids, List.mem_cons, List.not_mem_nil, or_false] at hu; rcases hu with rfl | rfl; exact h.1; exact h.2
 | ite c f a => simp only [TH.kids, List.mem_cons, List.not_mem_nil, or_false] at hu; rcases hu with rfl | rfl | rfl; exact h.1; exact h.2.1; exact h.2.2
 | _ => cases hu
def A4x (t : TH) (i : Nat) (u : TH) : Prop := t.kids[i]? = some u ∧ ∃ C : TH → TH, t.stp = S9 C u.stp ∧ ∀ (x : TH) (k : Int) (nm : ByteArray) (num : Int) (co : Cn) (ks : List Nt), t.nt = .mk k nm num co ks → (C x).nt = .mk k nm num co (ks.set i x.nt)
def L0 (r : V2) : IM → Value → List A5 → Prop := K9 fun G' v => ∃ cells n, v = .tuple ⟨[.agg ⟨cells⟩, .int .i64 r.2.1, .int .i64 r.2.2]⟩ ∧ B1 G' n cells ∧ (r.2.1 = 1 → n = r.1.nt)
theorem L0.mk {G : IM} {r : V2} {n : Nt} {cells : List Value} {c l : Int} (h1 : c = r.2.1) (h2 : l = r.2.2) (hr : B1 G n cells) (hn : r.2.1 = 1 → n = r.1.nt) : L0 r G (.tuple ⟨[.agg ⟨cells⟩, .int .i64 c, .int .i64 l]⟩) [] := by
 subst h1 h2; exact ⟨rfl, cells, n, rfl, hr, hn⟩
theorem L0.ok {G : IM} {r : V2} {t : TH} {cells : List Value} (h : r = (t, 1, 0)) (hr : B1 G t.nt cells) : L0 r G (.tuple ⟨[.agg ⟨cells⟩, .int .i64 1, .int .i64 0]⟩) [] := by
 subst h; exact ⟨rfl, cells, _, rfl, hr, fun _ => rfl⟩
def A4y (t : TH) : Prop := ∀ (G : IM) (cells : List Value) (A : GT), ST M9 t A → t.val = false → t.nk → B1 G t.nt cells → Fn Tryz.prog 36 [.agg ⟨cells⟩] [] G (L0 t.stp)
theorem A9o (t u : TH) (i : Nat) (G : IM) (cells : List Value) (hK : A4x t i u) (hS : ∀ (G : IM) (cells : List Value), B1 G u.nt cells → Fn Tryz.prog 36 [.agg ⟨cells⟩] [] G (L0 u.stp)) (hr : B1 G t.nt cells) :
  Fn Tryz.prog 73 [.agg ⟨cells⟩, .int .i64 (i : Int)] [] G (L0 t.stp) := by
 obtain ⟨hu, C, hC, hCn⟩ := hK
 obtain ⟨k, nm, num, ck, ctg, clb, cks, ks, ht⟩ := A0q t
 have hks := A4w ht
 have hCn' := fun x => hCn x _ _ _ _ _ ht
 rw [ht] at hr
 have hiu : ks[i]? = some u.nt := by rw [hks, List.getElem?_map, hu]; rfl
 have hik : i < ks.length := (List.getElem?_eq_some_iff.1 hiu).1
 obtain ⟨tk, tks, fk, fks, lb, pt, ct, pf, cf, p0, c0, pc, cc, p, c, es, rfl, hnd, hco, hn3, h14, hsl, hkl⟩ := hr.open14
 obtain ⟨bx, ox, e, rfl, hel, heo, hat, hre, _, hgb⟩ := hsl.kidR hkl (i := i) hik hik
 have hre' : B1 G u.nt e := by
  have := (List.getElem?_eq_some_iff.1 hiu).2
  rw [this] at hre
  exact hre
 have hn := hsl.le
 have hnc := hsl.sl.2.1
 refine D5 Tryz.func73 rfl Tryz.ntmps73 Tryz.results73 rfl ?_
 intro w0
 refine A3 ?_
 refine sE (D8 rfl rfl) rfl (fun b3 => ?_)
 refine sE (A4 rfl) rfl (fun b4 => ?_)
 refine C2 ?_
 (have hg : True := trivial; refine sP (A6 (j := i) rfl rfl rfl hik) rfl rfl ?_)
 refine sL (A2 rfl rfl (hat _) hel) rfl rfl ?_
 (refine E7 rfl (hS G e hre') rfl rfl (fun v G1 hle1 hh => ?_); obtain ⟨uc, n1, rfl, hru, hu1⟩ := hh; have hul := hru.len; have huo := hru.one; have hClo := B33 G1 _ ks.length c es (hsl.mono hle1) zV zV)
 refine C3 ?_
 refine sE (A4 rfl) rfl (fun b21 => ?_)
 refine sS rfl rfl rfl hul huo rfl ?_ (hu := by exact D7 hul.symm)
 refine A8 ?_
 refine sE (A4 rfl) rfl (fun b30 => ?_)
 refine A8 ?_
 (refine B0w rfl hClo rfl rfl (fun v38 G38 outs38 hle38 h38 => ?_); obtain ⟨hG, p1, c1, rfl, rfl⟩ := h38; replace hG := hG.symm; subst hG; refine A1e (cs := es.flatten) zM zV (fun bc Cc hpe hnc1 hcm => ?_); subst hpe)
 refine C2 ?_
 refine sL (A2 rfl rfl (C9 zO) hul) rfl rfl ?_
 (have hg : True := trivial; refine sP (A6 (j := i) rfl rfl rfl hik) rfl rfl ?_)
 refine U8 rfl rfl rfl hul huo rfl zN (by exact A1f (by rw [hsl.len]; omega) (fun e he => (hsl.all e he)) hul) ?_
 refine K1 ?_
 (refine Z8 (bs := [(bc, (es.set i uc).flatten ++ Cc)]) (Pk.perm zM) (fun hn2 hd2 hle2 => ?_))
 refine tT ?_
 refine E4 (rC rfl (A1 rfl rfl)) (rT rfl) (rT rfl) ?_
 (have hks2 : KR (B1 _) (ks.set i n1) (es.set i uc) := KR.set (KR.imp hkl fun a e h => (h.mono hle1).mono hle2) (hru.mono hle2); have hes2 : ∀ x ∈ es.set i uc, x.length = 14 ∧ x.all (·.oneCell') = true := KR.each hks2 (by rw [List.length_set, List.length_set, hsl.len]); exact L0.mk (by rw [hC]; rfl) (by rw [hC]; rfl) (B1.put (us := ks.set i n1) (es := es.set i uc) ((hnd.mono hle1).mono hle2) ((hco.mono hle1).mono hle2) (by rw [List.length_set]; exact hn3) (fun h => by rw [List.length_set]; exact h14 h) (by rw [List.length_set]) (C8.of (Sl.of_blk (A := []) (by rw [V8 (fun x hx => (hes2 x hx).1), List.length_set, hsl.len]) zV hcm (Wi.in hn2 List.mem_cons_self)) (by rw [List.length_set, hsl.len]) (fun x hx => (hes2 x hx).1) (fun x hx => (hes2 x hx).2)) hks2) (fun h => by rw [hC] at h ⊢; show _ = (C u.stp.1).nt; rw [hCn', hu1 h]))
theorem B4h {c : GK} {e : TH} (hc : e.cnv = false) (hp : e.pln = false) : A4x (.conv c e) 0 e := by
 refine ⟨rfl, fun x => .conv c x, ?_, ?_⟩
 ·rw [TH.stp, T6 hc, if_pos hp]
 ·intro x k nm num co ks h
  simp only [TH.nt, Nt.mk.injEq] at h
  obtain ⟨rfl, rfl, rfl, rfl, rfl⟩ := h
  rfl
theorem A9p {c : GK} {k tg lb : Int} {ks : List Cn} (h : c.cn = .mk k tg lb ks) (hk : k = 1) (e : TH) : plS e c = (e, 1, 0) := by
 cases c <;> simp only [GK.cn, Cn.mk.injEq] at h <;> first | rfl | (exfalso; omega)
theorem A2E {c : GK} {k tg lb : Int} {ks : List Cn} (h : c.cn = .mk k tg lb ks) (hk : k = 6) (e : TH) : plS e c = (.nul, 2, lb) := by
 obtain ⟨rfl, _⟩ := A0p h hk
 rfl
theorem A2F {c : GK} {k tg lb : Int} {ks : List Cn} (h : c.cn = .mk k tg lb ks) (h1 : k ≠ 1) (h6 : k ≠ 6) (e : TH) : plS e c = (.nul, 3, 0) := by
 cases c <;> simp only [GK.cn, Cn.mk.injEq] at h <;> first | rfl | (exfalso; omega)
theorem B4i (c : GK) (e : TH) (G : IM) (cells : List Value) (A : GT) (hT : ST M9 (.conv c e) A) (hnk : e.nk) (ih : A4y e) (hr : B1 G (TH.conv c e).nt cells) : Fn Tryz.prog 72 [.agg ⟨cells⟩] [] G (L0 (TH.conv c e).stp) := by
 obtain ⟨B, hTe, hTc⟩ := A3M hT
 have hr0 := hr
 obtain ⟨ck, ctg, clb, cks, hc⟩ := A0U c
 obtain ⟨ek, enm, enum, eck, ectg, eclb, ecks, eks, he⟩ := A0q e
 rw [TH.nt, hc] at hr
 obtain ⟨tk, tks, fk, fks, lb, pt, ct, pf, cf, p0, c0, pc, cc, p, cp, es, rfl, hnd, hco, hn3, h14, hsl, hkl⟩ := hr.open14
 obtain ⟨bx, ox, e0, rfl, hel, heo, hat, hre, _, hgb⟩ := hsl.kidR hkl (i := 0) zW zW
 replace hre : B1 G e.nt e0 := hre
 have hPl := (A5U e).1 G e0 hre
 have hcv := fun (h : ek = 14) => @A2x e enm enum (.mk eck ectg eclb ecks) eks (by rw [← h]; exact he)
 have hnc := fun (h : ek ≠ 14) => A11 he h
 have hIO := fun (h1 : e.cnv = false) (h2 : e.pln = false) => A9o (.conv c e) e 0 G _ (B4h h1 h2) (fun G' cs h => ih G' cs B hTe (by
  cases hv : e.val with
  | false => rfl
  | true => rw [A1T hv h1] at h2; cases h2) hnk h) hr0
 have hre0 := hre
 rw [he] at hre
 obtain ⟨tk1, tks1, fk1, fks1, lb1, pt1, ct1, pf1, cf1, p01, c01, pc1, cc1, p1, cp1, es1, rfl, hnd1, hco1, hn31, h141, hsl1, hkl1⟩ := hre.open14
 rw [← hc] at hco
 refine D5 Tryz.func72 rfl Tryz.ntmps72 Tryz.results72 rfl ?_
 intro w0
 refine A3 ?_
 refine sE (D8 rfl rfl) rfl (fun b3 => ?_)
 refine sE (A4 rfl) rfl (fun b4 => ?_)
 refine B4 ?_
 (have hg : True := trivial; refine sP (A6 (j := 0) rfl rfl rfl zW) rfl rfl ?_)
 refine sL (A2 rfl rfl (hat _) rfl) rfl rfl ?_
 refine sE (A4 rfl) rfl (fun b15 => ?_)
 refine C2 ?_
 refine sB (qE rfl rfl) rfl rfl (fun h25 => ?_) (fun h25 => ?_)
 refine C2 ?_
 (obtain ⟨d, u, rfl, rfl, hE⟩ := hcv zV; obtain ⟨X, hTu, hTd⟩ := A3M hTe; rw [hE] at hco1; obtain ⟨bu, ou, e2, rfl, hul, huo, hat2, hru, _, hgb2⟩ := hsl1.kidR hkl1 (i := 0) zW zW; replace hru : B1 G u.nt e2 := hru; refine E7 rfl (B4c _ d c G _ _ (Nat.le_refl _) (hTd.fit hTc) hco1 hco) rfl rfl (fun v G1 hle1 hh => ?_); obtain ⟨uc, rfl, hrc⟩ := hh; obtain ⟨x1, x2, x3, p4, n4, c4, rfl⟩ := hrc.ints)
 refine B2 ?_
 refine sE (A4 rfl) rfl (fun b39 => ?_)
 refine I9 ?_
 refine D3 D4 rfl ?_
 refine E9 (i := 0) (l' := [tt,ff,ff,ff,ff,ff,ff,ff,ff]) rfl C1 (B0 rfl) rfl zT rfl rfl ?_
 refine aL 1 rfl (B3 rfl rfl) rfl ?_
 refine aP 2 rfl (A6 (j := 0) rfl rfl rfl zW) rfl ?_
 refine aL 3 rfl (A2 rfl rfl (At.moS hle1 (hat2 [])) hul) rfl ?_
 refine aL 4 rfl (A1 rfl rfl) rfl ?_
 refine A0 5 ?_
 (refine D6 rfl rfl (A17 u.nt _ G1 _ _ (hru.mono hle1) hrc) rfl rfl rfl (fun v G2 hle2 hh => ?_); obtain ⟨vc, rfl, hrv⟩ := hh; have hvl := hrv.len; have hvo := hrv.one)
 refine A0 6 ?_
 (refine oS rfl rfl rfl rfl hvl hvo rfl rfl ?_ (hu := by exact D7 hvl.symm))
 refine aP 7 rfl (qA rfl) rfl ?_
 refine aP 8 rfl (qA rfl) rfl ?_
 refine C3 ?_
 refine E4 (rC rfl (A2 rfl rfl (C9 zO) hvl)) (rT rfl) (rT rfl) ?_
 (exact L0.ok (t := .conv (cmp d c) u) (by rw [TH.stp, A5f (hTd.fit hTc)]) hrv)
 refine C2 ?_
 focus (have hcn := hnc zV; cases hpp : e.pln; all_goals (rw [hpp] at hPl; refine E5 rfl hPl rfl rfl ?_))
 refine A8 ?_
 (refine E7 rfl (hIO hcn hpp) rfl rfl (fun v G1 hle1 hh => ?_); obtain ⟨vc, n1, rfl, hrv, hn1⟩ := hh; have hvl := hrv.len; have hvo := hrv.one)
 refine B2 ?_
 refine sS rfl rfl rfl hvl hvo rfl ?_ (hu := by exact D7 hvl.symm)
 refine A7 ?_
 refine E4 (rC rfl (A2 rfl rfl (C9 zO) hvl)) (rT rfl) (rT rfl) ?_
 (exact ⟨rfl, vc, n1, rfl, hrv, hn1⟩)
 refine J5 ?_
 refine B7 (tS (tR (sB (qE rfl rfl) rfl rfl (fun h120 => ?_) (fun h120 => ?_))))
 refine I9 ?_
 refine E4 (rC rfl (A1 rfl rfl)) (rT rfl) (rT rfl) ?_
 (exact L0.ok (t := e) (by rw [TH.stp, T6 hcn, if_neg (by rw [hpp]; decide), A9p hc zV]) hre0)
 refine A7 ?_
 refine sB (qE rfl rfl) rfl rfl (fun h144 => ?_) (fun h144 => ?_)
 refine A9 ?_
 refine D3 D4 rfl ?_
 refine E9 (i := 0) (l' := [tt,ff,ff,ff,ff,ff,ff]) rfl C1 (K8 rfl rfl) rfl zT rfl rfl ?_
 refine aP 1 rfl (B0 rfl) rfl ?_
 refine aP 2 rfl (qF rfl) rfl ?_
 refine aL 3 rfl (B3 rfl rfl) rfl ?_
 refine A0 4 ?_
 refine B8 rfl ?_
 refine aP 5 rfl (qA rfl) rfl ?_
 refine aP 6 rfl (qA rfl) rfl ?_
 refine A9 ?_
 refine E4 (rC rfl (A1 rfl rfl)) (rT rfl) (rT rfl) ?_
 (exact L0.mk (by rw [TH.stp, T6 hcn, if_neg (by rw [hpp]; decide), A2E hc zV]) (by rw [TH.stp, T6 hcn, if_neg (by rw [hpp]; decide), A2E hc zV]) (A31 _) (by rw [TH.stp, T6 hcn, if_neg (by rw [hpp]; decide), A2E hc zV]; intro h; simp at h))
 refine K0 ?_
 refine E4 (rC rfl (A1 rfl rfl)) (rT rfl) (rT rfl) ?_
 (exact L0.mk (by rw [TH.stp, T6 hcn, if_neg (by rw [hpp]; decide), A2F hc zV zV]) (by rw [TH.stp, T6 hcn, if_neg (by rw [hpp]; decide), A2F hc zV zV]) (A31 _) (by rw [TH.stp, T6 hcn, if_neg (by rw [hpp]; decide), A2F hc zV zV]; intro h; simp at h))
def TH.cnt (t : TH) : Nat := match t with
 | .ite _ _ _ => 1
 | _ => t.kids.length
theorem A9q {t : TH} {k : Int} {nm : ByteArray} {num : Int} {co : Cn} {ks : List Nt} (h : t.nt = .mk k nm num co ks) : t.cnt = if k = 9 then 1 else ks.length := by
 cases t with
 | ar s a b => simp only [TH.nt, Nt.mk.injEq] at h; obtain ⟨rfl, _, _, _, rfl⟩ := h; cases s <;> rfl
 | part s a => simp only [TH.nt, Nt.mk.injEq] at h; obtain ⟨rfl, _, _, _, rfl⟩ := h; cases s <;> rfl
 | tru s => simp only [TH.nt, Nt.mk.injEq] at h; obtain ⟨rfl, _, _, _, rfl⟩ := h; cases s <;> rfl
 | _ => simp only [TH.nt, Nt.mk.injEq] at h; obtain ⟨rfl, _, _, _, rfl⟩ := h; rfl
theorem A9r {t : TH} {A : GT} (hT : ST M9 t A) (hc : t.cnv = false) (hv : t.val = false) {i : Nat} (hi : i < t.cnt) (hl : i < t.kids.length) (hj : ∀ j, j < i → (h : j < t.kids.length) → t.kids[j].val = true) (hn : t.kids[i].val = false) : A4x t i t.kids[i] ∧ ∃ B, ST M9 t.kids[i] B := by
 have nn : ∀ {b : Bool}, b = true → ¬b = false := fun h h' => by rw [h] at h'; cases h'
 cases t with
 | var x => exact absurd hl (by simp [TH.kids])
 | num n => cases hv
 | tru b => cases hv
 | lam x A e => cases hv
 | conv c e => cases hc
 | app f a =>
  cases hT with
  | app h1 h2 =>
   match i, hl with
   | 0, _ => exact ⟨⟨rfl, fun x => .app x a, by rw [TH.stp]; exact if_pos hn, fun x k nm num co ks h => by simp only [TH.nt, Nt.mk.injEq] at h; obtain ⟨rfl, rfl, rfl, rfl, rfl⟩ := h; rfl⟩, _, h1⟩
   | 1, _ => exact ⟨⟨rfl, fun x => .app f x, by rw [TH.stp]; exact (if_neg (nn (hj 0 zU (by simp [TH.kids])))).trans (if_pos hn), fun x k nm num co ks h => by simp only [TH.nt, Nt.mk.injEq] at h; obtain ⟨rfl, rfl, rfl, rfl, rfl⟩ := h; rfl⟩, _, h2⟩
 | ar s f a =>
  cases hT with
  | ar h1 h2 _ =>
   match i, hl with
   | 0, _ => exact ⟨⟨rfl, fun x => .ar s x a, by rw [TH.stp]; exact if_pos hn, fun x k nm num co ks h => by simp only [TH.nt, Nt.mk.injEq] at h; obtain ⟨rfl, rfl, rfl, rfl, rfl⟩ := h; rfl⟩, _, h1⟩
   | 1, _ => exact ⟨⟨rfl, fun x => .ar s f x, by rw [TH.stp]; exact (if_neg (nn (hj 0 zU (by simp [TH.kids])))).trans (if_pos hn), fun x k nm num co ks h => by simp only [TH.nt, Nt.mk.injEq] at h; obtain ⟨rfl, rfl, rfl, rfl, rfl⟩ := h; rfl⟩, _, h2⟩
 | pair f a =>
  cases hT with
  | pair h1 h2 =>
   match i, hl with
   | 0, _ => exact ⟨⟨rfl, fun x => .pair x a, by rw [TH.stp]; exact if_pos hn, fun x k nm num co ks h => by simp only [TH.nt, Nt.mk.injEq] at h; obtain ⟨rfl, rfl, rfl, rfl, rfl⟩ := h; rfl⟩, _, h1⟩
   | 1, _ => exact ⟨⟨rfl, fun x => .pair f x, by rw [TH.stp]; exact if_neg (nn (hj 0 zU (by simp [TH.kids]))), fun x k nm num co ks h => by simp only [TH.nt, Nt.mk.injEq] at h; obtain ⟨rfl, rfl, rfl, rfl, rfl⟩ := h; rfl⟩, _, h2⟩
 | ite c f a =>
  cases hT with
  | ite h1 h2 h3 =>
   have hi0 : i = 0 := by have : i < 1 := hi; omega
   subst hi0
   exact ⟨⟨rfl, fun x => .ite x f a, by rw [TH.stp]; exact if_pos hn, fun x k nm num co ks h => by simp only [TH.nt, Nt.mk.injEq] at h; obtain ⟨rfl, rfl, rfl, rfl, rfl⟩ := h; rfl⟩, _, h1⟩
 | part s e =>
  cases hT with
  | part h1 _ =>
   match i, hl with
   | 0, _ => exact ⟨⟨rfl, fun x => .part s x, by rw [TH.stp]; exact if_pos hn, fun x k nm num co ks h => by simp only [TH.nt, Nt.mk.injEq] at h; obtain ⟨rfl, rfl, rfl, rfl, rfl⟩ := h; rfl⟩, _, h1⟩
theorem A3o {t : TH} {A : GT} (hT : ST M9 t A) (hc : t.cnv = false) (hv : t.val = false) (hj : ∀ j, j < t.cnt → (h : j < t.kids.length) → t.kids[j].val = true) :
  (∃ x B e w, t = .app (.lam x B e) w ∧ t.stp = (e.sub x w, 1, 0)) ∨
  (∃ c d x B e w, t = .app (.conv (.fn c d) (.lam x B e)) w ∧ t.stp = (.conv d (.app (.lam x B e) (.conv c w)), 1, 0)) ∨
  (∃ s m n, t = .ar s (.num m) (.num n) ∧ t.stp = (arT s m n, 1, 0)) ∨
  (∃ b x y, t = .ite (.tru b) x y ∧ t.stp = (if b = true then x else y, 1, 0)) ∨
  (∃ s a b, t = .part s (.pair a b) ∧ t.stp = (if s = true then b else a, 1, 0)) ∨
  (∃ s c d a b, t = .part s (.conv (.pr c d) (.pair a b)) ∧ t.stp = (.conv (if s = true then d else c) (.part s (.pair a b)), 1, 0)) := by
 have nn : ∀ {b : Bool}, b = true → ¬b = false := fun h h' => by rw [h] at h'; cases h'
 cases t with
 | var x => cases hT with | var h => cases h
 | num n => cases hv
 | tru b => cases hv
 | lam x A e => cases hv
 | conv c e => cases hc
 | app f a =>
  have h0 := hj 0 (by show 0 < 2; decide) (by show 0 < 2; decide)
  have h1 := hj 1 (by show 1 < 2; decide) (by show 1 < 2; decide)
  have hs : (TH.app f a).stp = apS a f := by rw [TH.stp]; exact (if_neg (nn h0)).trans (if_neg (nn h1))
  cases hT with
  | app t1 t2 =>
   rcases A7j t1 h0 with ⟨x, e, rfl, _⟩ | ⟨c, d, x, e, A', B', rfl, _⟩
   ·exact .inl ⟨_, _, _, _, rfl, hs⟩
   ·exact .inr (.inl ⟨_, _, _, _, _, _, rfl, hs⟩)
 | ar s f a =>
  have h0 := hj 0 (by show 0 < 2; decide) (by show 0 < 2; decide)
  have h1 := hj 1 (by show 1 < 2; decide) (by show 1 < 2; decide)
  have hs : (TH.ar s f a).stp = arS s f a := by rw [TH.stp]; exact (if_neg (nn h0)).trans (if_neg (nn h1))
  cases hT with
  | ar t1 t2 _ =>
   obtain ⟨m, rfl⟩ := A3K t1 h0
   obtain ⟨n, rfl⟩ := A3K t2 h1
   exact .inr (.inr (.inl ⟨_, _, _, rfl, hs⟩))
 | ite c f a =>
  have h0 := hj 0 (by show 0 < 1; decide) (by show 0 < 3; decide)
  have hs : (TH.ite c f a).stp = itS f a c := by rw [TH.stp]; exact if_neg (nn h0)
  cases hT with
  | ite t1 _ _ =>
   obtain ⟨m, rfl⟩ := A7i t1 h0
   exact .inr (.inr (.inr (.inl ⟨_, _, _, rfl, hs⟩)))
 | pair f a =>
  have h0 := hj 0 (by show 0 < 2; decide) (by show 0 < 2; decide)
  have h1 := hj 1 (by show 1 < 2; decide) (by show 1 < 2; decide)
  have h0' : f.val = true := h0
  have h1' : a.val = true := h1
  rw [TH.val, h0', h1'] at hv
  cases hv
 | part s e =>
  have h0 := hj 0 (by show 0 < 1; decide) (by show 0 < 1; decide)
  have hs : (TH.part s e).stp = ptS s e := by rw [TH.stp]; exact if_neg (nn h0)
  cases hT with
  | part t1 _ =>
   rcases A7k t1 h0 with ⟨a, b, rfl, _⟩ | ⟨c, d, a, b, A', B', rfl, _⟩
   ·exact .inr (.inr (.inr (.inr (.inl ⟨_, _, _, rfl, hs⟩))))
   ·exact .inr (.inr (.inr (.inr (.inr ⟨_, _, _, _, _, rfl, hs⟩))))
theorem At.pfx {hp : List A5} {G : IM} {b o : Nat} {l1 l2 : List Value} (h : At hp G b o (l1 ++ l2)) : At hp G b (o + 0) l1 := by
 have key : ∀ {cs : List Value}, (∀ i u, (l1 ++ l2)[i]? = some u → cs[o + i]? = some u) → ∀ i u, l1[i]? = some u → cs[o + 0 + i]? = some u := by
  intro cs hc i u hu
  have hi : i < l1.length := (List.getElem?_eq_some_iff.1 hu).1
  exact hc i u (by rw [List.getElem?_append, if_pos hi]; exact hu)
 rcases h with ⟨cs, hm, hv⟩ | ⟨n, c, el, sz, cs, hm, hv⟩ | ⟨full, hg, hv⟩
 ·exact .inl ⟨cs, hm, key hv⟩
 ·exact .inr (.inl ⟨n, c, el, sz, cs, hm, key hv⟩)
 ·exact .inr (.inr ⟨full, hg, key hv⟩)
theorem A5V {nm : ByteArray} {num kd tg lb : Int} {cks : List Cn} {ks : List Nt} {G : IM} {cells : List Value} (hr : B1 G (.mk 14 nm num (.mk kd tg lb cks) ks) cells) : Fn Tryz.prog 69 [.agg ⟨cells⟩, .int .i64 kd] [] G (F8 (.bool true) G) := by
 have h := A4o _ kd G cells hr
 rw [show decide ((Nt.mk 14 nm num (.mk kd tg lb cks) ks).k = 14 ∧ (Nt.mk 14 nm num (.mk kd tg lb cks) ks).co.k = kd) = true from decide_eq_true ⟨rfl, rfl⟩] at h
 exact h
theorem A9s {G : IM} {t u : Nt} {k : Int} {v1 v2 v3 v4 v5 v6 v7 v8 v9 w1 w2 w3 w4 w5 x1 x2 x3 x4 x5 x6 x7 x8 x9 y1 y2 y3 y4 y5 : Value} {p : Option Addr} {cp : Nat} (hk : F9 k) (hk4 : k ≠ 14) (h : B1 G t [v1, v2, v3, v4, v5, v6, v7, v8, v9, w1, w2, w3, w4, w5]) (h' : B1 G u [x1, x2, x3, x4, x5, x6, x7, x8, x9, y1, y2, y3, y4, y5])
  (hs : Sl G p 2 cp 14 [v1, v2, v3, v4, v5, v6, v7, v8, v9, w1, w2, w3, w4, w5, x1, x2, x3, x4, x5, x6, x7, x8, x9, y1, y2, y3, y4, y5]) :
  B1 G (.mk k ⟨⟨[]⟩⟩ 0 K5 [t, u]) [.int .i64 k, .string ⟨⟨[]⟩⟩, .int .i64 0, .int .i64 0, .slice none 0 0, .int .i64 0, .slice none 0 0, .int .i64 0, .slice none 0 0, .int .i64 0, .int .i64 0, .int .i64 0, .slice none 0 0, .slice p 2 cp] :=
 .mk (tks := []) (fks := []) (ks := [t, u]) (es := [[v1, v2, v3, v4, v5, v6, v7, v8, v9, w1, w2, w3, w4, w5], [x1, x2, x3, x4, x5, x6, x7, x8, x9, y1, y2, y3, y4, y5]]) (A29 _ hk ⟨by decide, by decide⟩) (X3 G) zW (fun h => absurd h hk4) (C8.of hs rfl (by intro x hx; simp only [List.mem_cons, List.not_mem_nil, or_false] at hx; rcases hx with rfl | rfl <;> rfl) (by intro x hx; simp only [List.mem_cons, List.not_mem_nil, or_false] at hx; rcases hx with rfl | rfl; exact h.one; exact h'.one)) (KR.cons h (KR.cons h' KR.nil))
theorem A0X {G : IM} {k num : Int} {nm : ByteArray} {tk fk lb : Int} {tks fks : List Ty} {pt pf p0 : Option Addr} {ct cf c0 : Nat} (hnd : D1 G (.mk k nm num (.mk tk tks) (.mk fk fks) lb []) [.int .i64 k, .string nm, .int .i64 num, .int .i64 tk, .slice pt tks.length ct, .int .i64 fk, .slice pf fks.length cf, .int .i64 lb, .slice p0 0 c0]) (hk4 : k ≠ 14) :
  B1 G (.mk k nm num K5 []) [.int .i64 k, .string nm, .int .i64 num, .int .i64 tk, .slice pt tks.length ct, .int .i64 fk, .slice pf fks.length cf, .int .i64 lb, .slice p0 0 c0, .int .i64 0, .int .i64 0, .int .i64 0, .slice none 0 0, .slice none 0 0] :=
 B1.put' (us := []) (es := []) hnd (X3 G) zU (fun h => absurd h hk4) rfl (C8.nil _ _) KR.nil
theorem A2G {G : IM} {a b : Tm} {k : Int} {v1 v2 v3 v4 v5 v6 v7 v8 v9 x1 x2 x3 x4 x5 x6 x7 x8 x9 : Value} {p : Option Addr} {cp : Nat} (hk : F9 k) (h : D1 G a [v1, v2, v3, v4, v5, v6, v7, v8, v9]) (h' : D1 G b [x1, x2, x3, x4, x5, x6, x7, x8, x9]) (hs : Sl G p 2 cp 9 [v1, v2, v3, v4, v5, v6, v7, v8, v9, x1, x2, x3, x4, x5, x6, x7, x8, x9]) :
  D1 G (.mk k ⟨⟨[]⟩⟩ 0 (.mk 0 []) (.mk 0 []) 0 [a, b]) [.int .i64 k, .string ⟨⟨[]⟩⟩, .int .i64 0, .int .i64 0, .slice none 0 0, .int .i64 0, .slice none 0 0, .int .i64 0, .slice p 2 cp] :=
 A70 (ks := [a, b]) (es := [[v1, v2, v3, v4, v5, v6, v7, v8, v9], [x1, x2, x3, x4, x5, x6, x7, x8, x9]]) hk rfl (C8.of hs rfl (by intro x hx; simp only [List.mem_cons, List.not_mem_nil, or_false] at hx; rcases hx with rfl | rfl <;> rfl) (by intro x hx; simp only [List.mem_cons, List.not_mem_nil, or_false] at hx; rcases hx with rfl | rfl; exact h.one; exact h'.one)) (by simp only [H4]; exact ⟨_, _, rfl, h, _, _, rfl, h', rfl⟩)
theorem A2H (k : Int) (m n : Int) (tyA frA tyB frB : Ty) (lbA lbB : Int) (G : IM) (cells : List Value) (hk78 : k = 7 ∨ k = 8) (hm : 0 ≤ m ∧ m ≤ 999) (hn : 0 ≤ n ∧ n ≤ 999) (hr : D1 G (.mk k ⟨⟨[]⟩⟩ 0 (.mk 0 []) (.mk 0 []) 0 [.mk 2 ⟨⟨[]⟩⟩ m tyA frA lbA [], .mk 2 ⟨⟨[]⟩⟩ n tyB frB lbB []]) cells) : Fn Tryz.prog 76 [.agg ⟨cells⟩] [] G (K9 fun G' v => ∃ uc, v = .tuple ⟨[.agg ⟨uc⟩, .int .i64 1]⟩ ∧ D1 G' (if k = 7 then A2s ((m + n) % 1000) else T7 (m < n)) uc) := by
 obtain ⟨atk, atks⟩ := tyA
 obtain ⟨afk, afks⟩ := frA
 obtain ⟨btk, btks⟩ := tyB
 obtain ⟨bfk, bfks⟩ := frB
 obtain ⟨pt, ct, pf, cf, p, c, es, rfl, hk, hnum, hlb, hty, hfr, hsl, hkl⟩ := hr.open9
 obtain ⟨bx, ox, e0, rfl, hl0, hat0, hre0, hgb0⟩ := hsl.kidTm hkl (i := 0) zW zW
 replace hre0 : D1 G (.mk 2 ⟨⟨[]⟩⟩ m (.mk atk atks) (.mk afk afks) lbA []) e0 := hre0
 obtain ⟨apt, act, apf, acf, ap, ac, aes, rfl, hak, hanum, halb, haty, hafr, hasl, hakl⟩ := hre0.open9
 obtain ⟨_, _, e1, hp1, hl1, hat1, hre1, hgb1⟩ := hsl.kidTm hkl (i := 1) zW zW
 cases hp1
 replace hre1 : D1 G (.mk 2 ⟨⟨[]⟩⟩ n (.mk btk btks) (.mk bfk bfks) lbB []) e1 := hre1
 obtain ⟨bpt, bct, bpf, bcf, bp, bc, bes, rfl, hbk, hbnum, hblb, hbty, hbfr, hbsl, hbkl⟩ := hre1.open9
 have hL : ([Tm.mk 2 ⟨⟨[]⟩⟩ m (.mk atk atks) (.mk afk afks) lbA [], Tm.mk 2 ⟨⟨[]⟩⟩ n (.mk btk btks) (.mk bfk bfks) lbB []] : List Tm).length = 2 := rfl
 have htm : (m + n).tmod 1000 = (m + n) % 1000 := A74 hm hn
 have hb : F9 ((m + n) % 1000) := ⟨by omega, by omega⟩
 refine D5 Tryz.func76 rfl Tryz.ntmps76 Tryz.results76 rfl ?_
 intro w0
 refine A3 ?_
 refine sE (D8 rfl rfl) rfl (fun b3 => ?_)
 refine sE (A4 rfl) rfl (fun b4 => ?_)
 refine A7 ?_
 refine sE (A4 rfl) rfl (fun b11 => ?_)
 refine C2 ?_
 refine sP (A6h rfl rfl zV) rfl rfl ?_
 refine A7 ?_
 refine sP (A6 (j := 0) rfl rfl rfl zW) rfl rfl ?_
 refine sL (A2 rfl rfl (hat0 _) rfl) rfl rfl ?_
 refine H3 ?_
 refine B7 ?_
 refine A3 ?_
 refine sP (E1 rfl rfl zV) rfl rfl ?_
 refine A8 ?_
 refine sB (qE rfl rfl) rfl rfl (fun h51 => ?_) (fun h51 => ?_)
 refine E8 ?_
 refine sP (A6 (j := 1) rfl rfl rfl zW) rfl rfl ?_
 refine sL (A2 rfl rfl (hat1 _) rfl) rfl rfl ?_
 refine sE (A4 rfl) rfl (fun b65 => ?_)
 refine B2 ?_
 refine B7 ?_
 refine C3 ?_
 refine sP (Y9 rfl rfl zV) rfl rfl ?_
 refine B2 ?_
 refine sP (Y9 rfl rfl zV) rfl rfl ?_
 refine C2 ?_
 refine sP (I1 rfl rfl zV) rfl rfl ?_
 refine H3 ?_
 refine sP (H9 rfl rfl zV zV) rfl rfl ?_
 refine sP (A4J rfl rfl zV) rfl rfl ?_
 refine I0 ?_
 (rw [htm]; refine sS' ?_)
 refine A8 ?_
 refine C5 (rC rfl (A1 rfl rfl)) (rT rfl) ?_
 (exact ⟨rfl, _, rfl, by rw [if_pos zV]; exact D1.put (us := []) ⟨by decide, by decide⟩ hb ⟨by decide, by decide⟩ (A2q _) (A2q _) rfl (C8.nil _ _) rfl⟩)
 refine A9 ?_
 refine sP (I1 rfl rfl zV) rfl rfl ?_
 refine B4 ?_
 refine sP (A6 (j := 1) rfl rfl rfl zW) rfl rfl ?_
 refine sL (A2 rfl rfl (hat1 _) rfl) rfl rfl ?_
 refine sE (A4 rfl) rfl (fun b128 => ?_)
 refine B2 ?_
 refine B7 ?_
 refine C3 ?_
 refine sP (Y9 rfl rfl zV) rfl rfl ?_
 refine B2 ?_
 refine sP (Y9 rfl rfl zV) rfl rfl ?_
 refine C2 ?_
 refine sP (E1 rfl rfl zV) rfl rfl ?_
 refine H3 ?_
 (refine sB (I3 rfl rfl) rfl rfl (fun h162 => ?_) (fun h162 => ?_))
 (refine E7 rfl (A73 _ _) rfl rfl (fun u G1 hle1 hh => ?_); obtain ⟨uc, rfl, hru⟩ := hh; have hul := hru.len; have huo := hru.one)
 refine sS rfl rfl rfl hul huo rfl ?_ (hu := by exact D7 hul.symm)
 refine A8 ?_
 refine C5 (rC rfl (A2 rfl rfl (C9 zO) hul)) (rT rfl) ?_
 (exact ⟨rfl, _, rfl, by rw [if_neg zV]; unfold T7 at hru ⊢; rw [if_pos rfl] at hru; rw [if_pos zV]; exact hru⟩)
 (refine E7 rfl (A73 _ _) rfl rfl (fun u G1 hle1 hh => ?_); obtain ⟨uc, rfl, hru⟩ := hh; have hul := hru.len; have huo := hru.one)
 refine sS rfl rfl rfl hul huo rfl ?_ (hu := by exact D7 hul.symm)
 refine A8 ?_
 refine C5 (rC rfl (A2 rfl rfl (C9 zO) hul)) (rT rfl) ?_
 (exact ⟨rfl, _, rfl, by rw [if_neg zV]; unfold T7 at hru ⊢; rw [if_neg zU] at hru; rw [if_neg zV]; exact hru⟩)
theorem A1C (t : TH) (ih : ∀ u ∈ t.kids, A4y u) : A4y t := by
 intro G cells A hT hv hnk hr
 have hone : True := trivial
 have hr0 := hr
 have hkn := A9n hnk
 obtain ⟨k, nm, num, ck, ctg, clb, cks, ks, ht⟩ := A0q t
 have hks := A4w ht
 have hlen : ks.length = t.kids.length := by rw [hks, List.length_map]
 have hCo : k = 14 → Fn Tryz.prog 72 [.agg ⟨cells⟩] [] G (L0 t.stp) := by
  intro h
  obtain ⟨c, e, rfl, _⟩ := @A2x t nm num (.mk ck ctg clb cks) ks (by rw [← h]; exact ht)
  exact B4i c e G cells A hT hnk (ih e List.mem_cons_self) hr0
 have hIO : k ≠ 14 → ∀ i, i < t.cnt → (hl : i < t.kids.length) → (∀ j, j < i → (h : j < t.kids.length) → t.kids[j].val = true) → t.kids[i].val = false → Fn Tryz.prog 73 [.agg ⟨cells⟩, .int .i64 (i : Int)] [] G (L0 t.stp) := by
  intro h i hi hl hj hn
  obtain ⟨hK, B, hB⟩ := A9r hT (A11 ht h) hv hi hl hj hn
  exact A9o t _ i G cells hK (fun G' cs h' => ih _ (List.getElem_mem hl) G' cs B hB hn (hkn _ (List.getElem_mem hl)) h') hr0
 have hnc := fun (h : k ≠ 14) => A11 ht h
 have hcn9 := A9q ht
 obtain ⟨C, hC⟩ : ∃ C : Nat, t.cnt = C := ⟨_, rfl⟩
 have hC1 : k = 9 → C = 1 := fun h => by rw [← hC, hcn9, if_pos h]
 have hC2 : k ≠ 9 → C = ks.length := fun h => by rw [← hC, hcn9, if_neg h]
 have hC9 : C ≤ ks.length := by
  by_cases h9 : k = 9
  ·have h1 := hC1 h9
   have h2 : 1 ≤ t.kids.length := by
    cases t <;> simp only [TH.nt, Nt.mk.injEq] at ht <;> first | (exfalso; omega) | (show 1 ≤ 3; decide) | (exfalso; have := ht.1; split at this <;> omega)
   omega
  ·exact Nat.le_of_eq (hC2 h9)
 have hVal : ∀ i, (h : i < ks.length) → (h' : i < t.kids.length) → ∀ e, B1 G ks[i] e → Fn Tryz.prog 34 [.agg ⟨e⟩] [] G (F8 (.bool t.kids[i].val) G) := by
  intro i h h' e he
  refine (A5U _).2 G e ?_
  have : ks[i] = t.kids[i].nt := by subst hks; rw [List.getElem_map]
  rw [← this]; exact he
 rw [ht] at hr
 rw [hC] at hIO
 have hred := fun (h : k ≠ 14) => @A3o t A hT (hnc h) hv
 rw [hC] at hred
 obtain ⟨tk, tks, fk, fks, lb, pt, ct, pf, cf, p0, c0, pc, cc, p, c, es, rfl, hnd, hco, hn3, h14, hsl, hkl⟩ := hr.open14
 have hn := hsl.le
 have hnc' := hsl.sl.2.1
 refine D5 Tryz.func36 rfl Tryz.ntmps36 Tryz.results36 rfl ?_
 intro w0
 refine A3 ?_
 refine sE (D8 rfl rfl) rfl (fun b3 => ?_)
 refine sE (A4 rfl) rfl (fun b4 => ?_)
 refine H3 ?_
 refine sB (qE rfl rfl) rfl rfl (fun h15 => ?_) (fun h15 => ?_)
 refine A7 ?_
 (refine E7 rfl (hCo zV) rfl rfl (fun v G1 hle1 hh => ?_); obtain ⟨vc, n1, rfl, hrv, hn1⟩ := hh; have hvl := hrv.len; have hvo := hrv.one)
 refine B2 ?_
 refine sS rfl rfl rfl hvl hvo rfl ?_ (hu := by exact D7 hvl.symm)
 refine A7 ?_
 refine E4 (rC rfl (A2 rfl rfl (C9 zO) hvl)) (rT rfl) (rT rfl) ?_
 (exact ⟨rfl, vc, n1, rfl, hrv, hn1⟩)
 refine Z7 ?_
 refine sB (qE rfl rfl) rfl rfl (fun h54 => ?_) (fun h54 => ?_)
 refine A3 ?_
 (show J7 _ _ (.cond (.tmp 28) _ _) _ _; refine A1X (fun (_ : Unit) => ⟨[(5, .int .i64 (C : Int)), (1, .pointer (some ⟨b3, 0, none⟩)), (2, .pointer (some ⟨b4, 0, none⟩))], [.blk b4 [.int .i64 0, .string ⟨⟨[]⟩⟩, .int .i64 0, .int .i64 0, .slice none 0 0, .int .i64 0, .slice none 0 0, .int .i64 0, .slice none 0 0, .int .i64 0, .int .i64 0, .int .i64 0, .slice none 0 0, .slice none 0 0], .blk b3 [.int .i64 k, .string nm, .int .i64 num, .int .i64 tk, .slice pt tks.length ct, .int .i64 fk, .slice pf fks.length cf, .int .i64 lb, .slice p0 0 c0, .int .i64 ck, .int .i64 ctg, .int .i64 clb, .slice pc cks.length cc, .slice p ks.length c]], G⟩) (fun _ => True) (qT rfl ?_) ?_)
 refine B2 ?_
 (have hCC := hC1 zV; subst hCC; refine A0C () (T4 zL zI) trivial)
 (rintro (_ : Unit) _)
 refine A7 ?_
 refine sP (A7M (l := C) rfl rfl rfl zV) rfl rfl ?_
 refine C3 ?_
 refine B7 ?_
 (refine J3 (fun (i : Nat) => ⟨[(34, .int .i64 (i : Int)), (33, .int .i64 (C : Int)), (32, .slice p C c), (5, .int .i64 (C : Int)), (1, .pointer (some ⟨b3, 0, none⟩)), (2, .pointer (some ⟨b4, 0, none⟩))], [.blk b4 [.int .i64 0, .string ⟨⟨[]⟩⟩, .int .i64 0, .int .i64 0, .slice none 0 0, .int .i64 0, .slice none 0 0, .int .i64 0, .slice none 0 0, .int .i64 0, .int .i64 0, .int .i64 0, .slice none 0 0, .slice none 0 0], .blk b3 [.int .i64 k, .string nm, .int .i64 num, .int .i64 tk, .slice pt tks.length ct, .int .i64 fk, .slice pf fks.length cf, .int .i64 lb, .slice p0 0 c0, .int .i64 ck, .int .i64 ctg, .int .i64 clb, .slice pc cks.length cc, .slice p ks.length c]], G⟩) (fun i => i ≤ C ∧ ∀ j, j < i → (h : j < t.kids.length) → t.kids[j].val = true) (fun i => C - i) 0 ?_ ?_ ?_)
 exact E3
 (exact ⟨Nat.zero_le _, fun j hj => absurd hj (Nat.not_lt_zero j)⟩)
 (rintro i ⟨hi, hj⟩)
 refine A3 ?_
 refine sB (I3 rfl rfl) rfl rfl (fun h81 => ?_) (fun h81 => ?_)
 refine A8 ?_
 refine B7 ?_
 refine B2 ?_
 (have hiC : i < C := zV; obtain ⟨bx, ox, ei, rfl, hli, hoi, hati, hrei, _, hgbi⟩ := hsl.kidR hkl (i := i) zV zV; have hVi := hVal i zV zV ei hrei; refine sP (A6 (j := i) rfl rfl rfl hiC) rfl rfl ?_)
 refine sL (A2 rfl rfl (hati _) hli) rfl rfl ?_
 refine sE (A4 rfl) rfl (fun b95 => ?_)
 refine I0 ?_
 refine sS rfl rfl rfl hli hoi rfl ?_ (hu := by exact D7 hli.symm)
 refine C3 ?_
 refine sL (A2 rfl rfl (C9 zO) hli) rfl rfl ?_
 refine I5 rfl (hVi) rfl rfl (fun h103 => ?_) (fun h103 => ?_)
 refine B4 ?_
 refine sP (H9 rfl rfl zV zV) rfl rfl ?_
 refine A3 ?_
 refine I6 (i + 1) ?_ ?_ ?_
 exact E3
 (exact ⟨by omega, fun j hji hl2 => (by by_cases he : j = i; (subst he; assumption); exact hj j zV hl2)⟩)
 (show C - (i + 1) < C - i; omega)
 refine B4 ?_
 (refine E7 rfl (hIO zV i hiC zV hj zS) rfl rfl (fun v G1 hle1 hh => ?_); obtain ⟨vc, n1, rfl, hrv, hn1⟩ := hh; have hvl := hrv.len; have hvo := hrv.one)
 refine B2 ?_
 refine sS rfl rfl rfl hvl hvo rfl ?_ (hu := by exact D7 hvl.symm)
 refine H3 ?_
 refine E4 (rC rfl (A2 rfl rfl (C9 zO) hvl)) (rT rfl) (rT rfl) ?_
 (exact ⟨rfl, vc, n1, rfl, hrv, hn1⟩)
 refine E8 ?_
 focus (have hone2 := hone; clear hone; have hA := hred zV (fun j hjc hl => hj j zV hl); rcases hA with ⟨x, B, e, w, rfl, hst⟩ | ⟨c9, d9, x, B, e, w, rfl, hst⟩ | ⟨s, m, n, rfl, hst⟩ | ⟨s, x, y, rfl, hst⟩ | ⟨s, a, b, rfl, hst⟩ | ⟨s, c9, d9, a, b, rfl, hst⟩; simp only [TH.nt, K5, Nt.mk.injEq, Cn.mk.injEq, if_true, Bool.false_eq_true, if_false] at ht; obtain ⟨rfl, rfl, rfl, ⟨rfl, rfl, rfl, rfl⟩, rfl⟩ := ht; have hq1 : True := trivial; obtain ⟨b0, o0, e0, rfl, hl0, ho0, hat0, hre0, _, hgb0⟩ := hsl.kidR hkl (i := 0) zW zW; replace hre0 : B1 G (.mk 5 x 0 (.mk 0 0 0 []) [e.nt]) e0 := hre0; obtain ⟨_, _, e1, hE1, hl1, ho1, hat1, hre1, _, hgb1⟩ := hsl.kidR hkl (i := 1) zW zW; cases hE1; replace hre1 : B1 G w.nt e1 := hre1; obtain ⟨tkA, tksA, fkA, fksA, lbA, ptA, ctA, pfA, cfA, p0A, c0A, pcA, ccA, pA, cA, esA, rfl, hndA, hcoA, _, _, hslA, hklA⟩ := hre0.open14; obtain ⟨b2, o2, e2, rfl, hl2, ho2, hat2, hre2, _, hgb2⟩ := hslA.kidR hklA (i := 0) zW zW; replace hre2 : B1 G e.nt e2 := hre2; rotate_left; simp only [TH.nt, K5, Nt.mk.injEq, Cn.mk.injEq, if_true, Bool.false_eq_true, if_false] at ht; obtain ⟨rfl, rfl, rfl, ⟨rfl, rfl, rfl, rfl⟩, rfl⟩ := ht; have hq2 : True := trivial; obtain ⟨b0, o0, e0, rfl, hl0, ho0, hat0, hre0, _, hgb0⟩ := hsl.kidR hkl (i := 0) zW zW; replace hre0 : B1 G (.mk 14 ⟨⟨[]⟩⟩ 0 (.mk 2 0 0 [c9.cn, d9.cn]) [(.mk 5 x 0 (.mk 0 0 0 []) [e.nt])]) e0 := hre0; obtain ⟨_, _, e1, hE1, hl1, ho1, hat1, hre1, _, hgb1⟩ := hsl.kidR hkl (i := 1) zW zW; cases hE1; replace hre1 : B1 G w.nt e1 := hre1; have hre0' := hre0; obtain ⟨tkA, tksA, fkA, fksA, lbA, ptA, ctA, pfA, cfA, p0A, c0A, pcA, ccA, pA, cA, esA, rfl, hndA, hcoA, _, _, hslA, hklA⟩ := hre0.open14; obtain ⟨b2, o2, e2, rfl, hl2, ho2, hat2, hre2, _, hgb2⟩ := hslA.kidR hklA (i := 0) zW zW; replace hre2 : B1 G (.mk 5 x 0 (.mk 0 0 0 []) [e.nt]) e2 := hre2; have hre2' := hre2; obtain ⟨tkB, tksB, fkB, fksB, lbB, ptB, ctB, pfB, cfB, p0B, c0B, pcB, ccB, pB, cB, esB, rfl, hndB, hcoB, _, _, hslB, hklB⟩ := hre2.open14; obtain ⟨_, _, esc, hEc, _, _, _, _, _, _, hslc, hklc⟩ := hcoA.open4; cases hEc; obtain ⟨b3, o3, e3, rfl, hl3, ho3, hat3, hre3, _, hgb3⟩ := hslc.kidR hklc (i := 0) zW zW; replace hre3 : E6 G c9.cn e3 := hre3; obtain ⟨_, _, e4, hE4, hl4, ho4, hat4, hre4, _, hgb4⟩ := hslc.kidR hklc (i := 1) zW zW; cases hE4; replace hre4 : E6 G d9.cn e4 := hre4; rotate_left; cases s; simp only [TH.nt, K5, Nt.mk.injEq, Cn.mk.injEq, if_true, Bool.false_eq_true, if_false] at ht; obtain ⟨rfl, rfl, rfl, ⟨rfl, rfl, rfl, rfl⟩, rfl⟩ := ht; have hq3 : True := trivial; obtain ⟨b0, o0, e0, rfl, hl0, ho0, hat0, hre0, _, hgb0⟩ := hsl.kidR hkl (i := 0) zW zW; replace hre0 : B1 G (.mk 2 ⟨⟨[]⟩⟩ m (.mk 0 0 0 []) []) e0 := hre0; obtain ⟨_, _, e1, hE1, hl1, ho1, hat1, hre1, _, hgb1⟩ := hsl.kidR hkl (i := 1) zW zW; cases hE1; replace hre1 : B1 G (.mk 2 ⟨⟨[]⟩⟩ n (.mk 0 0 0 []) []) e1 := hre1; obtain ⟨tkA, tksA, fkA, fksA, lbA, ptA, ctA, pfA, cfA, p0A, c0A, pcA, ccA, pA, cA, esA, rfl, hndA, hcoA, _, _, hslA, hklA⟩ := hre0.open14; obtain ⟨tkB, tksB, fkB, fksB, lbB, ptB, ctB, pfB, cfB, p0B, c0B, pcB, ccB, pB, cB, esB, rfl, hndB, hcoB, _, _, hslB, hklB⟩ := hre1.open14; replace hat1 := fun hp => At.pfx (l1 := [.int .i64 2, .string ⟨⟨[]⟩⟩, .int .i64 n, .int .i64 tkB, .slice ptB tksB.length ctB, .int .i64 fkB, .slice pfB fksB.length cfB, .int .i64 lbB, .slice p0B 0 c0B]) (l2 := [.int .i64 0, .int .i64 0, .int .i64 0, .slice pcB 0 ccB, .slice pB 0 cB]) (hat1 hp); rotate_left; simp only [TH.nt, K5, Nt.mk.injEq, Cn.mk.injEq, if_true, Bool.false_eq_true, if_false] at ht; obtain ⟨rfl, rfl, rfl, ⟨rfl, rfl, rfl, rfl⟩, rfl⟩ := ht; have hq3 : True := trivial; obtain ⟨b0, o0, e0, rfl, hl0, ho0, hat0, hre0, _, hgb0⟩ := hsl.kidR hkl (i := 0) zW zW; replace hre0 : B1 G (.mk 2 ⟨⟨[]⟩⟩ m (.mk 0 0 0 []) []) e0 := hre0; obtain ⟨_, _, e1, hE1, hl1, ho1, hat1, hre1, _, hgb1⟩ := hsl.kidR hkl (i := 1) zW zW; cases hE1; replace hre1 : B1 G (.mk 2 ⟨⟨[]⟩⟩ n (.mk 0 0 0 []) []) e1 := hre1; obtain ⟨tkA, tksA, fkA, fksA, lbA, ptA, ctA, pfA, cfA, p0A, c0A, pcA, ccA, pA, cA, esA, rfl, hndA, hcoA, _, _, hslA, hklA⟩ := hre0.open14; obtain ⟨tkB, tksB, fkB, fksB, lbB, ptB, ctB, pfB, cfB, p0B, c0B, pcB, ccB, pB, cB, esB, rfl, hndB, hcoB, _, _, hslB, hklB⟩ := hre1.open14; replace hat1 := fun hp => At.pfx (l1 := [.int .i64 2, .string ⟨⟨[]⟩⟩, .int .i64 n, .int .i64 tkB, .slice ptB tksB.length ctB, .int .i64 fkB, .slice pfB fksB.length cfB, .int .i64 lbB, .slice p0B 0 c0B]) (l2 := [.int .i64 0, .int .i64 0, .int .i64 0, .slice pcB 0 ccB, .slice pB 0 cB]) (hat1 hp); rotate_left; cases s; simp only [TH.nt, K5, Nt.mk.injEq, Cn.mk.injEq, if_true, Bool.false_eq_true, if_false] at ht; obtain ⟨rfl, rfl, rfl, ⟨rfl, rfl, rfl, rfl⟩, rfl⟩ := ht; have hq4 : True := trivial; obtain ⟨b0, o0, e0, rfl, hl0, ho0, hat0, hre0, _, hgb0⟩ := hsl.kidR hkl (i := 0) zW zW; replace hre0 : B1 G (.mk 4 ⟨⟨[]⟩⟩ 0 (.mk 0 0 0 []) []) e0 := hre0; obtain ⟨_, _, e1, hE1, hl1, ho1, hat1, hre1, _, hgb1⟩ := hsl.kidR hkl (i := 1) zW zW; cases hE1; replace hre1 : B1 G x.nt e1 := hre1; obtain ⟨_, _, e2, hE2, hl2, ho2, hat2, hre2, _, hgb2⟩ := hsl.kidR hkl (i := 2) zW zW; cases hE2; replace hre2 : B1 G y.nt e2 := hre2; obtain ⟨tkA, tksA, fkA, fksA, lbA, ptA, ctA, pfA, cfA, p0A, c0A, pcA, ccA, pA, cA, esA, rfl, hndA, hcoA, _, _, hslA, hklA⟩ := hre0.open14; rotate_left; simp only [TH.nt, K5, Nt.mk.injEq, Cn.mk.injEq, if_true, Bool.false_eq_true, if_false] at ht; obtain ⟨rfl, rfl, rfl, ⟨rfl, rfl, rfl, rfl⟩, rfl⟩ := ht; have hq4 : True := trivial; obtain ⟨b0, o0, e0, rfl, hl0, ho0, hat0, hre0, _, hgb0⟩ := hsl.kidR hkl (i := 0) zW zW; replace hre0 : B1 G (.mk 3 ⟨⟨[]⟩⟩ 0 (.mk 0 0 0 []) []) e0 := hre0; obtain ⟨_, _, e1, hE1, hl1, ho1, hat1, hre1, _, hgb1⟩ := hsl.kidR hkl (i := 1) zW zW; cases hE1; replace hre1 : B1 G x.nt e1 := hre1; obtain ⟨_, _, e2, hE2, hl2, ho2, hat2, hre2, _, hgb2⟩ := hsl.kidR hkl (i := 2) zW zW; cases hE2; replace hre2 : B1 G y.nt e2 := hre2; obtain ⟨tkA, tksA, fkA, fksA, lbA, ptA, ctA, pfA, cfA, p0A, c0A, pcA, ccA, pA, cA, esA, rfl, hndA, hcoA, _, _, hslA, hklA⟩ := hre0.open14; rotate_left; cases s; simp only [TH.nt, K5, Nt.mk.injEq, Cn.mk.injEq, if_true, Bool.false_eq_true, if_false] at ht; obtain ⟨rfl, rfl, rfl, ⟨rfl, rfl, rfl, rfl⟩, rfl⟩ := ht; have hq5 : True := trivial; obtain ⟨b0, o0, e0, rfl, hl0, ho0, hat0, hre0, _, hgb0⟩ := hsl.kidR hkl (i := 0) zW zW; replace hre0 : B1 G (.mk 10 ⟨⟨[]⟩⟩ 0 (.mk 0 0 0 []) [a.nt, b.nt]) e0 := hre0; obtain ⟨tkA, tksA, fkA, fksA, lbA, ptA, ctA, pfA, cfA, p0A, c0A, pcA, ccA, pA, cA, esA, rfl, hndA, hcoA, _, _, hslA, hklA⟩ := hre0.open14; obtain ⟨b1, o1, e1, rfl, hl1, ho1, hat1, hre1, _, hgb1⟩ := hslA.kidR hklA (i := 0) zW zW; replace hre1 : B1 G a.nt e1 := hre1; obtain ⟨_, _, e2, hE2, hl2, ho2, hat2, hre2, _, hgb2⟩ := hslA.kidR hklA (i := 1) zW zW; cases hE2; replace hre2 : B1 G b.nt e2 := hre2; rotate_left; simp only [TH.nt, K5, Nt.mk.injEq, Cn.mk.injEq, if_true, Bool.false_eq_true, if_false] at ht; obtain ⟨rfl, rfl, rfl, ⟨rfl, rfl, rfl, rfl⟩, rfl⟩ := ht; have hq5 : True := trivial; obtain ⟨b0, o0, e0, rfl, hl0, ho0, hat0, hre0, _, hgb0⟩ := hsl.kidR hkl (i := 0) zW zW; replace hre0 : B1 G (.mk 10 ⟨⟨[]⟩⟩ 0 (.mk 0 0 0 []) [a.nt, b.nt]) e0 := hre0; obtain ⟨tkA, tksA, fkA, fksA, lbA, ptA, ctA, pfA, cfA, p0A, c0A, pcA, ccA, pA, cA, esA, rfl, hndA, hcoA, _, _, hslA, hklA⟩ := hre0.open14; obtain ⟨b1, o1, e1, rfl, hl1, ho1, hat1, hre1, _, hgb1⟩ := hslA.kidR hklA (i := 0) zW zW; replace hre1 : B1 G a.nt e1 := hre1; obtain ⟨_, _, e2, hE2, hl2, ho2, hat2, hre2, _, hgb2⟩ := hslA.kidR hklA (i := 1) zW zW; cases hE2; replace hre2 : B1 G b.nt e2 := hre2; rotate_left; cases s; simp only [TH.nt, K5, Nt.mk.injEq, Cn.mk.injEq, if_true, Bool.false_eq_true, if_false] at ht; obtain ⟨rfl, rfl, rfl, ⟨rfl, rfl, rfl, rfl⟩, rfl⟩ := ht; have hq6 : True := trivial; obtain ⟨b0, o0, e0, rfl, hl0, ho0, hat0, hre0, _, hgb0⟩ := hsl.kidR hkl (i := 0) zW zW; replace hre0 : B1 G (.mk 14 ⟨⟨[]⟩⟩ 0 (.mk 3 0 0 [c9.cn, d9.cn]) [(.mk 10 ⟨⟨[]⟩⟩ 0 (.mk 0 0 0 []) [a.nt, b.nt])]) e0 := hre0; have hre0' := hre0; obtain ⟨tkA, tksA, fkA, fksA, lbA, ptA, ctA, pfA, cfA, p0A, c0A, pcA, ccA, pA, cA, esA, rfl, hndA, hcoA, _, _, hslA, hklA⟩ := hre0.open14; obtain ⟨b2, o2, e2, rfl, hl2, ho2, hat2, hre2, _, hgb2⟩ := hslA.kidR hklA (i := 0) zW zW; replace hre2 : B1 G (.mk 10 ⟨⟨[]⟩⟩ 0 (.mk 0 0 0 []) [a.nt, b.nt]) e2 := hre2; have hre2' := hre2; obtain ⟨tkB, tksB, fkB, fksB, lbB, ptB, ctB, pfB, cfB, p0B, c0B, pcB, ccB, pB, cB, esB, rfl, hndB, hcoB, _, _, hslB, hklB⟩ := hre2.open14; obtain ⟨_, _, esc, hEc, _, _, _, _, _, _, hslc, hklc⟩ := hcoA.open4; cases hEc; obtain ⟨b3, o3, e3, rfl, hl3, ho3, hat3, hre3, _, hgb3⟩ := hslc.kidR hklc (i := 0) zW zW; replace hre3 : E6 G c9.cn e3 := hre3; obtain ⟨_, _, e4, hE4, hl4, ho4, hat4, hre4, _, hgb4⟩ := hslc.kidR hklc (i := 1) zW zW; cases hE4; replace hre4 : E6 G d9.cn e4 := hre4; rotate_left; simp only [TH.nt, K5, Nt.mk.injEq, Cn.mk.injEq, if_true, Bool.false_eq_true, if_false] at ht; obtain ⟨rfl, rfl, rfl, ⟨rfl, rfl, rfl, rfl⟩, rfl⟩ := ht; have hq6 : True := trivial; obtain ⟨b0, o0, e0, rfl, hl0, ho0, hat0, hre0, _, hgb0⟩ := hsl.kidR hkl (i := 0) zW zW; replace hre0 : B1 G (.mk 14 ⟨⟨[]⟩⟩ 0 (.mk 3 0 0 [c9.cn, d9.cn]) [(.mk 10 ⟨⟨[]⟩⟩ 0 (.mk 0 0 0 []) [a.nt, b.nt])]) e0 := hre0; have hre0' := hre0; obtain ⟨tkA, tksA, fkA, fksA, lbA, ptA, ctA, pfA, cfA, p0A, c0A, pcA, ccA, pA, cA, esA, rfl, hndA, hcoA, _, _, hslA, hklA⟩ := hre0.open14; obtain ⟨b2, o2, e2, rfl, hl2, ho2, hat2, hre2, _, hgb2⟩ := hslA.kidR hklA (i := 0) zW zW; replace hre2 : B1 G (.mk 10 ⟨⟨[]⟩⟩ 0 (.mk 0 0 0 []) [a.nt, b.nt]) e2 := hre2; have hre2' := hre2; obtain ⟨tkB, tksB, fkB, fksB, lbB, ptB, ctB, pfB, cfB, p0B, c0B, pcB, ccB, pB, cB, esB, rfl, hndB, hcoB, _, _, hslB, hklB⟩ := hre2.open14; obtain ⟨_, _, esc, hEc, _, _, _, _, _, _, hslc, hklc⟩ := hcoA.open4; cases hEc; obtain ⟨b3, o3, e3, rfl, hl3, ho3, hat3, hre3, _, hgb3⟩ := hslc.kidR hklc (i := 0) zW zW; replace hre3 : E6 G c9.cn e3 := hre3; obtain ⟨_, _, e4, hE4, hl4, ho4, hat4, hre4, _, hgb4⟩ := hslc.kidR hklc (i := 1) zW zW; cases hE4; replace hre4 : E6 G d9.cn e4 := hre4; rotate_left; all_goals (have hC0 : C ≠ 0 := (by rw [← hC]; simp only [TH.cnt, TH.kids, List.length_cons, List.length_nil]; omega); clear hred hIO hCo hVal ih hkn hr0))
 refine A3 ?_
 refine sP (I1 rfl rfl zV) rfl rfl ?_
 refine G9 ?_
 refine E4 (rC rfl (A1 rfl rfl)) (rT rfl) (rT rfl) ?_
 (exfalso; omega)
 refine A3 ?_
 refine sP (I1 rfl rfl zV) rfl rfl ?_
 refine A7 ?_
 refine sS rfl rfl rfl hl2 ho2 rfl ?_ (hu := by exact D7 hl2.symm)
 refine A7 ?_
 refine E4 (rC rfl (A1 rfl rfl)) (rT rfl) (rT rfl) ?_
 (exfalso; omega)
 refine A3 ?_
 refine sP (I1 rfl rfl zV) rfl rfl ?_
 refine A7 ?_
 refine sS rfl rfl rfl hl1 ho1 rfl ?_ (hu := by exact D7 hl1.symm)
 refine A7 ?_
 refine E4 (rC rfl (A1 rfl rfl)) (rT rfl) (rT rfl) ?_
 (exfalso; omega)
 refine A3 ?_
 refine sP (I1 rfl rfl zV) rfl rfl ?_
 refine A7 ?_
 refine sS rfl rfl rfl hl1 ho1 rfl ?_ (hu := by exact D7 hl1.symm)
 refine A7 ?_
 refine E4 (rC rfl (A1 rfl rfl)) (rT rfl) (rT rfl) ?_
 (exfalso; omega)
 refine A3 ?_
 refine sP (E1 rfl rfl zV) rfl rfl ?_
 refine C2 ?_
 refine sP (A6 (j := 0) rfl rfl rfl zW) rfl rfl ?_
 refine sL (A2 rfl rfl (hat0 _) hl0) rfl rfl ?_
 refine sE (A4 rfl) rfl (fun b242 => ?_)
 refine E8 ?_
 refine B7 ?_
 refine A3 ?_
 refine sP (E1 rfl rfl zV) rfl rfl ?_
 refine A8 ?_
 refine sP (E1 rfl rfl zV) rfl rfl ?_
 refine A9 ?_
 refine sP (E1 rfl rfl zV) rfl rfl ?_
 refine A7 ?_
 refine sP (I1 rfl rfl zV) rfl rfl ?_
 refine E8 ?_
 refine B7 ?_
 refine A3 ?_
 refine sP (E1 rfl rfl zV) rfl rfl ?_
 refine A7 ?_
 refine sP (I1 rfl rfl zV) rfl rfl ?_
 refine B4 ?_
 refine sP (A6 (j := 2) rfl rfl rfl zW) rfl rfl ?_
 refine sL (A2 rfl rfl (hat2 _) hl2) rfl rfl ?_
 refine sS rfl rfl rfl hl2 ho2 rfl ?_ (hu := by exact D7 hl2.symm)
 refine B4 ?_
 refine E4 (rC rfl (A2 rfl rfl (C9 zO) hl2)) (rT rfl) (rT rfl) ?_
 (exact L0.ok (t := y) hst hre2)
 refine A3 ?_
 refine sP (E1 rfl rfl zV) rfl rfl ?_
 refine C2 ?_
 refine sP (A6 (j := 0) rfl rfl rfl zW) rfl rfl ?_
 refine sL (A2 rfl rfl (hat0 _) hl0) rfl rfl ?_
 refine sE (A4 rfl) rfl (fun b336 => ?_)
 refine E8 ?_
 refine B7 ?_
 refine A3 ?_
 refine sP (E1 rfl rfl zV) rfl rfl ?_
 refine A8 ?_
 refine sP (E1 rfl rfl zV) rfl rfl ?_
 refine A9 ?_
 refine sP (E1 rfl rfl zV) rfl rfl ?_
 refine A7 ?_
 refine sP (I1 rfl rfl zV) rfl rfl ?_
 refine E8 ?_
 refine B7 ?_
 refine A3 ?_
 refine sP (I1 rfl rfl zV) rfl rfl ?_
 refine B4 ?_
 refine sP (A6 (j := 1) rfl rfl rfl zW) rfl rfl ?_
 refine sL (A2 rfl rfl (hat1 _) hl1) rfl rfl ?_
 refine sS rfl rfl rfl hl1 ho1 rfl ?_ (hu := by exact D7 hl1.symm)
 refine B4 ?_
 refine E4 (rC rfl (A2 rfl rfl (C9 zO) hl1)) (rT rfl) (rT rfl) ?_
 (exact L0.ok (t := x) hst hre1)
 refine A3 ?_
 refine sP (I1 rfl rfl zV) rfl rfl ?_
 refine G9 ?_
 refine E4 (rC rfl (A1 rfl rfl)) (rT rfl) (rT rfl) ?_
 (exfalso; omega)
 refine A3 ?_
 refine sP (I1 rfl rfl zV) rfl rfl ?_
 refine G9 ?_
 refine E4 (rC rfl (A1 rfl rfl)) (rT rfl) (rT rfl) ?_
 (exfalso; omega)
 refine A3 ?_
 refine sP (I1 rfl rfl zV) rfl rfl ?_
 refine A7 ?_
 refine sS rfl rfl rfl hl2 ho2 rfl ?_ (hu := by exact D7 hl2.symm)
 refine A7 ?_
 refine E4 (rC rfl (A1 rfl rfl)) (rT rfl) (rT rfl) ?_
 (exfalso; omega)
 refine A3 ?_
 refine sP (I1 rfl rfl zV) rfl rfl ?_
 refine A7 ?_
 refine sS rfl rfl rfl hl2 ho2 rfl ?_ (hu := by exact D7 hl2.symm)
 refine A7 ?_
 refine E4 (rC rfl (A1 rfl rfl)) (rT rfl) (rT rfl) ?_
 (exfalso; omega)
 refine A3 ?_
 (show J7 _ _ (.cond (.tmp 28) _ _) _ _; refine A1X (fun (_ : Unit) => ⟨[(5, .int .i64 (C : Int)), (1, .pointer (some ⟨b3, 0, none⟩)), (2, .pointer (some ⟨b4, 0, none⟩))], [.blk b4 [.int .i64 0, .string ⟨⟨[]⟩⟩, .int .i64 0, .int .i64 0, .slice none 0 0, .int .i64 0, .slice none 0 0, .int .i64 0, .slice none 0 0, .int .i64 0, .int .i64 0, .int .i64 0, .slice none 0 0, .slice none 0 0], .blk b3 [.int .i64 k, .string nm, .int .i64 num, .int .i64 tk, .slice pt tks.length ct, .int .i64 fk, .slice pf fks.length cf, .int .i64 lb, .slice p0 0 c0, .int .i64 ck, .int .i64 ctg, .int .i64 clb, .slice pc cks.length cc, .slice p ks.length c]], G⟩) (fun _ => True) (cF rfl ?_) ?_)
 refine tK ?_
 (have hCC := hC2 zV; subst hCC; refine A0C () (T4 zL zI) trivial)
 (rintro (_ : Unit) _)
 refine A7 ?_
 refine sP (A7M (l := C) rfl rfl rfl zV) rfl rfl ?_
 refine C3 ?_
 refine B7 ?_
 (refine J3 (fun (i : Nat) => ⟨[(34, .int .i64 (i : Int)), (33, .int .i64 (C : Int)), (32, .slice p C c), (5, .int .i64 (C : Int)), (1, .pointer (some ⟨b3, 0, none⟩)), (2, .pointer (some ⟨b4, 0, none⟩))], [.blk b4 [.int .i64 0, .string ⟨⟨[]⟩⟩, .int .i64 0, .int .i64 0, .slice none 0 0, .int .i64 0, .slice none 0 0, .int .i64 0, .slice none 0 0, .int .i64 0, .int .i64 0, .int .i64 0, .slice none 0 0, .slice none 0 0], .blk b3 [.int .i64 k, .string nm, .int .i64 num, .int .i64 tk, .slice pt tks.length ct, .int .i64 fk, .slice pf fks.length cf, .int .i64 lb, .slice p0 0 c0, .int .i64 ck, .int .i64 ctg, .int .i64 clb, .slice pc cks.length cc, .slice p ks.length c]], G⟩) (fun i => i ≤ C ∧ ∀ j, j < i → (h : j < t.kids.length) → t.kids[j].val = true) (fun i => C - i) 0 ?_ ?_ ?_)
 exact E3
 (exact ⟨Nat.zero_le _, fun j hj => absurd hj (Nat.not_lt_zero j)⟩)
 (rintro i ⟨hi, hj⟩)
 refine A3 ?_
 refine sB (I3 rfl rfl) rfl rfl (fun h505 => ?_) (fun h505 => ?_)
 refine A8 ?_
 refine B7 ?_
 refine B2 ?_
 (have hiC : i < C := zV; obtain ⟨bx, ox, ei, rfl, hli, hoi, hati, hrei, _, hgbi⟩ := hsl.kidR hkl (i := i) zV zV; have hVi := hVal i zV zV ei hrei; refine sP (A6 (j := i) rfl rfl rfl hiC) rfl rfl ?_)
 refine sL (A2 rfl rfl (hati _) hli) rfl rfl ?_
 refine sE (A4 rfl) rfl (fun b519 => ?_)
 refine I0 ?_
 refine sS rfl rfl rfl hli hoi rfl ?_ (hu := by exact D7 hli.symm)
 refine C3 ?_
 refine sL (A2 rfl rfl (C9 zO) hli) rfl rfl ?_
 refine I5 rfl (hVi) rfl rfl (fun h527 => ?_) (fun h527 => ?_)
 refine B4 ?_
 refine sP (H9 rfl rfl zV zV) rfl rfl ?_
 refine A3 ?_
 refine I6 (i + 1) ?_ ?_ ?_
 exact E3
 (exact ⟨by omega, fun j hji hl2 => (by by_cases he : j = i; (subst he; assumption); exact hj j zV hl2)⟩)
 (show C - (i + 1) < C - i; omega)
 refine B4 ?_
 (refine E7 rfl (hIO zV i hiC zV hj zS) rfl rfl (fun v G1 hle1 hh => ?_); obtain ⟨vc, n1, rfl, hrv, hn1⟩ := hh; have hvl := hrv.len; have hvo := hrv.one)
 refine B2 ?_
 refine sS rfl rfl rfl hvl hvo rfl ?_ (hu := by exact D7 hvl.symm)
 refine H3 ?_
 refine E4 (rC rfl (A2 rfl rfl (C9 zO) hvl)) (rT rfl) (rT rfl) ?_
 (exact ⟨rfl, vc, n1, rfl, hrv, hn1⟩)
 refine E8 ?_
 focus (have hone2 := hone; clear hone; have hA := hred zV (fun j hjc hl => hj j zV hl); rcases hA with ⟨x, B, e, w, rfl, hst⟩ | ⟨c9, d9, x, B, e, w, rfl, hst⟩ | ⟨s, m, n, rfl, hst⟩ | ⟨s, x, y, rfl, hst⟩ | ⟨s, a, b, rfl, hst⟩ | ⟨s, c9, d9, a, b, rfl, hst⟩; simp only [TH.nt, K5, Nt.mk.injEq, Cn.mk.injEq, if_true, Bool.false_eq_true, if_false] at ht; obtain ⟨rfl, rfl, rfl, ⟨rfl, rfl, rfl, rfl⟩, rfl⟩ := ht; have hq1 : True := trivial; obtain ⟨b0, o0, e0, rfl, hl0, ho0, hat0, hre0, _, hgb0⟩ := hsl.kidR hkl (i := 0) zW zW; replace hre0 : B1 G (.mk 5 x 0 (.mk 0 0 0 []) [e.nt]) e0 := hre0; obtain ⟨_, _, e1, hE1, hl1, ho1, hat1, hre1, _, hgb1⟩ := hsl.kidR hkl (i := 1) zW zW; cases hE1; replace hre1 : B1 G w.nt e1 := hre1; obtain ⟨tkA, tksA, fkA, fksA, lbA, ptA, ctA, pfA, cfA, p0A, c0A, pcA, ccA, pA, cA, esA, rfl, hndA, hcoA, _, _, hslA, hklA⟩ := hre0.open14; obtain ⟨b2, o2, e2, rfl, hl2, ho2, hat2, hre2, _, hgb2⟩ := hslA.kidR hklA (i := 0) zW zW; replace hre2 : B1 G e.nt e2 := hre2; rotate_left; simp only [TH.nt, K5, Nt.mk.injEq, Cn.mk.injEq, if_true, Bool.false_eq_true, if_false] at ht; obtain ⟨rfl, rfl, rfl, ⟨rfl, rfl, rfl, rfl⟩, rfl⟩ := ht; have hq2 : True := trivial; obtain ⟨b0, o0, e0, rfl, hl0, ho0, hat0, hre0, _, hgb0⟩ := hsl.kidR hkl (i := 0) zW zW; replace hre0 : B1 G (.mk 14 ⟨⟨[]⟩⟩ 0 (.mk 2 0 0 [c9.cn, d9.cn]) [(.mk 5 x 0 (.mk 0 0 0 []) [e.nt])]) e0 := hre0; obtain ⟨_, _, e1, hE1, hl1, ho1, hat1, hre1, _, hgb1⟩ := hsl.kidR hkl (i := 1) zW zW; cases hE1; replace hre1 : B1 G w.nt e1 := hre1; have hre0' := hre0; obtain ⟨tkA, tksA, fkA, fksA, lbA, ptA, ctA, pfA, cfA, p0A, c0A, pcA, ccA, pA, cA, esA, rfl, hndA, hcoA, _, _, hslA, hklA⟩ := hre0.open14; obtain ⟨b2, o2, e2, rfl, hl2, ho2, hat2, hre2, _, hgb2⟩ := hslA.kidR hklA (i := 0) zW zW; replace hre2 : B1 G (.mk 5 x 0 (.mk 0 0 0 []) [e.nt]) e2 := hre2; have hre2' := hre2; obtain ⟨tkB, tksB, fkB, fksB, lbB, ptB, ctB, pfB, cfB, p0B, c0B, pcB, ccB, pB, cB, esB, rfl, hndB, hcoB, _, _, hslB, hklB⟩ := hre2.open14; obtain ⟨_, _, esc, hEc, _, _, _, _, _, _, hslc, hklc⟩ := hcoA.open4; cases hEc; obtain ⟨b3, o3, e3, rfl, hl3, ho3, hat3, hre3, _, hgb3⟩ := hslc.kidR hklc (i := 0) zW zW; replace hre3 : E6 G c9.cn e3 := hre3; obtain ⟨_, _, e4, hE4, hl4, ho4, hat4, hre4, _, hgb4⟩ := hslc.kidR hklc (i := 1) zW zW; cases hE4; replace hre4 : E6 G d9.cn e4 := hre4; rotate_left; cases s; simp only [TH.nt, K5, Nt.mk.injEq, Cn.mk.injEq, if_true, Bool.false_eq_true, if_false] at ht; obtain ⟨rfl, rfl, rfl, ⟨rfl, rfl, rfl, rfl⟩, rfl⟩ := ht; have hq3 : True := trivial; obtain ⟨b0, o0, e0, rfl, hl0, ho0, hat0, hre0, _, hgb0⟩ := hsl.kidR hkl (i := 0) zW zW; replace hre0 : B1 G (.mk 2 ⟨⟨[]⟩⟩ m (.mk 0 0 0 []) []) e0 := hre0; obtain ⟨_, _, e1, hE1, hl1, ho1, hat1, hre1, _, hgb1⟩ := hsl.kidR hkl (i := 1) zW zW; cases hE1; replace hre1 : B1 G (.mk 2 ⟨⟨[]⟩⟩ n (.mk 0 0 0 []) []) e1 := hre1; obtain ⟨tkA, tksA, fkA, fksA, lbA, ptA, ctA, pfA, cfA, p0A, c0A, pcA, ccA, pA, cA, esA, rfl, hndA, hcoA, _, _, hslA, hklA⟩ := hre0.open14; obtain ⟨tkB, tksB, fkB, fksB, lbB, ptB, ctB, pfB, cfB, p0B, c0B, pcB, ccB, pB, cB, esB, rfl, hndB, hcoB, _, _, hslB, hklB⟩ := hre1.open14; replace hat1 := fun hp => At.pfx (l1 := [.int .i64 2, .string ⟨⟨[]⟩⟩, .int .i64 n, .int .i64 tkB, .slice ptB tksB.length ctB, .int .i64 fkB, .slice pfB fksB.length cfB, .int .i64 lbB, .slice p0B 0 c0B]) (l2 := [.int .i64 0, .int .i64 0, .int .i64 0, .slice pcB 0 ccB, .slice pB 0 cB]) (hat1 hp); rotate_left; simp only [TH.nt, K5, Nt.mk.injEq, Cn.mk.injEq, if_true, Bool.false_eq_true, if_false] at ht; obtain ⟨rfl, rfl, rfl, ⟨rfl, rfl, rfl, rfl⟩, rfl⟩ := ht; have hq3 : True := trivial; obtain ⟨b0, o0, e0, rfl, hl0, ho0, hat0, hre0, _, hgb0⟩ := hsl.kidR hkl (i := 0) zW zW; replace hre0 : B1 G (.mk 2 ⟨⟨[]⟩⟩ m (.mk 0 0 0 []) []) e0 := hre0; obtain ⟨_, _, e1, hE1, hl1, ho1, hat1, hre1, _, hgb1⟩ := hsl.kidR hkl (i := 1) zW zW; cases hE1; replace hre1 : B1 G (.mk 2 ⟨⟨[]⟩⟩ n (.mk 0 0 0 []) []) e1 := hre1; obtain ⟨tkA, tksA, fkA, fksA, lbA, ptA, ctA, pfA, cfA, p0A, c0A, pcA, ccA, pA, cA, esA, rfl, hndA, hcoA, _, _, hslA, hklA⟩ := hre0.open14; obtain ⟨tkB, tksB, fkB, fksB, lbB, ptB, ctB, pfB, cfB, p0B, c0B, pcB, ccB, pB, cB, esB, rfl, hndB, hcoB, _, _, hslB, hklB⟩ := hre1.open14; replace hat1 := fun hp => At.pfx (l1 := [.int .i64 2, .string ⟨⟨[]⟩⟩, .int .i64 n, .int .i64 tkB, .slice ptB tksB.length ctB, .int .i64 fkB, .slice pfB fksB.length cfB, .int .i64 lbB, .slice p0B 0 c0B]) (l2 := [.int .i64 0, .int .i64 0, .int .i64 0, .slice pcB 0 ccB, .slice pB 0 cB]) (hat1 hp); rotate_left; cases s; simp only [TH.nt, K5, Nt.mk.injEq, Cn.mk.injEq, if_true, Bool.false_eq_true, if_false] at ht; obtain ⟨rfl, rfl, rfl, ⟨rfl, rfl, rfl, rfl⟩, rfl⟩ := ht; have hq4 : True := trivial; obtain ⟨b0, o0, e0, rfl, hl0, ho0, hat0, hre0, _, hgb0⟩ := hsl.kidR hkl (i := 0) zW zW; replace hre0 : B1 G (.mk 4 ⟨⟨[]⟩⟩ 0 (.mk 0 0 0 []) []) e0 := hre0; obtain ⟨_, _, e1, hE1, hl1, ho1, hat1, hre1, _, hgb1⟩ := hsl.kidR hkl (i := 1) zW zW; cases hE1; replace hre1 : B1 G x.nt e1 := hre1; obtain ⟨_, _, e2, hE2, hl2, ho2, hat2, hre2, _, hgb2⟩ := hsl.kidR hkl (i := 2) zW zW; cases hE2; replace hre2 : B1 G y.nt e2 := hre2; obtain ⟨tkA, tksA, fkA, fksA, lbA, ptA, ctA, pfA, cfA, p0A, c0A, pcA, ccA, pA, cA, esA, rfl, hndA, hcoA, _, _, hslA, hklA⟩ := hre0.open14; rotate_left; simp only [TH.nt, K5, Nt.mk.injEq, Cn.mk.injEq, if_true, Bool.false_eq_true, if_false] at ht; obtain ⟨rfl, rfl, rfl, ⟨rfl, rfl, rfl, rfl⟩, rfl⟩ := ht; have hq4 : True := trivial; obtain ⟨b0, o0, e0, rfl, hl0, ho0, hat0, hre0, _, hgb0⟩ := hsl.kidR hkl (i := 0) zW zW; replace hre0 : B1 G (.mk 3 ⟨⟨[]⟩⟩ 0 (.mk 0 0 0 []) []) e0 := hre0; obtain ⟨_, _, e1, hE1, hl1, ho1, hat1, hre1, _, hgb1⟩ := hsl.kidR hkl (i := 1) zW zW; cases hE1; replace hre1 : B1 G x.nt e1 := hre1; obtain ⟨_, _, e2, hE2, hl2, ho2, hat2, hre2, _, hgb2⟩ := hsl.kidR hkl (i := 2) zW zW; cases hE2; replace hre2 : B1 G y.nt e2 := hre2; obtain ⟨tkA, tksA, fkA, fksA, lbA, ptA, ctA, pfA, cfA, p0A, c0A, pcA, ccA, pA, cA, esA, rfl, hndA, hcoA, _, _, hslA, hklA⟩ := hre0.open14; rotate_left; cases s; simp only [TH.nt, K5, Nt.mk.injEq, Cn.mk.injEq, if_true, Bool.false_eq_true, if_false] at ht; obtain ⟨rfl, rfl, rfl, ⟨rfl, rfl, rfl, rfl⟩, rfl⟩ := ht; have hq5 : True := trivial; obtain ⟨b0, o0, e0, rfl, hl0, ho0, hat0, hre0, _, hgb0⟩ := hsl.kidR hkl (i := 0) zW zW; replace hre0 : B1 G (.mk 10 ⟨⟨[]⟩⟩ 0 (.mk 0 0 0 []) [a.nt, b.nt]) e0 := hre0; obtain ⟨tkA, tksA, fkA, fksA, lbA, ptA, ctA, pfA, cfA, p0A, c0A, pcA, ccA, pA, cA, esA, rfl, hndA, hcoA, _, _, hslA, hklA⟩ := hre0.open14; obtain ⟨b1, o1, e1, rfl, hl1, ho1, hat1, hre1, _, hgb1⟩ := hslA.kidR hklA (i := 0) zW zW; replace hre1 : B1 G a.nt e1 := hre1; obtain ⟨_, _, e2, hE2, hl2, ho2, hat2, hre2, _, hgb2⟩ := hslA.kidR hklA (i := 1) zW zW; cases hE2; replace hre2 : B1 G b.nt e2 := hre2; rotate_left; simp only [TH.nt, K5, Nt.mk.injEq, Cn.mk.injEq, if_true, Bool.false_eq_true, if_false] at ht; obtain ⟨rfl, rfl, rfl, ⟨rfl, rfl, rfl, rfl⟩, rfl⟩ := ht; have hq5 : True := trivial; obtain ⟨b0, o0, e0, rfl, hl0, ho0, hat0, hre0, _, hgb0⟩ := hsl.kidR hkl (i := 0) zW zW; replace hre0 : B1 G (.mk 10 ⟨⟨[]⟩⟩ 0 (.mk 0 0 0 []) [a.nt, b.nt]) e0 := hre0; obtain ⟨tkA, tksA, fkA, fksA, lbA, ptA, ctA, pfA, cfA, p0A, c0A, pcA, ccA, pA, cA, esA, rfl, hndA, hcoA, _, _, hslA, hklA⟩ := hre0.open14; obtain ⟨b1, o1, e1, rfl, hl1, ho1, hat1, hre1, _, hgb1⟩ := hslA.kidR hklA (i := 0) zW zW; replace hre1 : B1 G a.nt e1 := hre1; obtain ⟨_, _, e2, hE2, hl2, ho2, hat2, hre2, _, hgb2⟩ := hslA.kidR hklA (i := 1) zW zW; cases hE2; replace hre2 : B1 G b.nt e2 := hre2; rotate_left; cases s; simp only [TH.nt, K5, Nt.mk.injEq, Cn.mk.injEq, if_true, Bool.false_eq_true, if_false] at ht; obtain ⟨rfl, rfl, rfl, ⟨rfl, rfl, rfl, rfl⟩, rfl⟩ := ht; have hq6 : True := trivial; obtain ⟨b0, o0, e0, rfl, hl0, ho0, hat0, hre0, _, hgb0⟩ := hsl.kidR hkl (i := 0) zW zW; replace hre0 : B1 G (.mk 14 ⟨⟨[]⟩⟩ 0 (.mk 3 0 0 [c9.cn, d9.cn]) [(.mk 10 ⟨⟨[]⟩⟩ 0 (.mk 0 0 0 []) [a.nt, b.nt])]) e0 := hre0; have hre0' := hre0; obtain ⟨tkA, tksA, fkA, fksA, lbA, ptA, ctA, pfA, cfA, p0A, c0A, pcA, ccA, pA, cA, esA, rfl, hndA, hcoA, _, _, hslA, hklA⟩ := hre0.open14; obtain ⟨b2, o2, e2, rfl, hl2, ho2, hat2, hre2, _, hgb2⟩ := hslA.kidR hklA (i := 0) zW zW; replace hre2 : B1 G (.mk 10 ⟨⟨[]⟩⟩ 0 (.mk 0 0 0 []) [a.nt, b.nt]) e2 := hre2; have hre2' := hre2; obtain ⟨tkB, tksB, fkB, fksB, lbB, ptB, ctB, pfB, cfB, p0B, c0B, pcB, ccB, pB, cB, esB, rfl, hndB, hcoB, _, _, hslB, hklB⟩ := hre2.open14; obtain ⟨_, _, esc, hEc, _, _, _, _, _, _, hslc, hklc⟩ := hcoA.open4; cases hEc; obtain ⟨b3, o3, e3, rfl, hl3, ho3, hat3, hre3, _, hgb3⟩ := hslc.kidR hklc (i := 0) zW zW; replace hre3 : E6 G c9.cn e3 := hre3; obtain ⟨_, _, e4, hE4, hl4, ho4, hat4, hre4, _, hgb4⟩ := hslc.kidR hklc (i := 1) zW zW; cases hE4; replace hre4 : E6 G d9.cn e4 := hre4; rotate_left; simp only [TH.nt, K5, Nt.mk.injEq, Cn.mk.injEq, if_true, Bool.false_eq_true, if_false] at ht; obtain ⟨rfl, rfl, rfl, ⟨rfl, rfl, rfl, rfl⟩, rfl⟩ := ht; have hq6 : True := trivial; obtain ⟨b0, o0, e0, rfl, hl0, ho0, hat0, hre0, _, hgb0⟩ := hsl.kidR hkl (i := 0) zW zW; replace hre0 : B1 G (.mk 14 ⟨⟨[]⟩⟩ 0 (.mk 3 0 0 [c9.cn, d9.cn]) [(.mk 10 ⟨⟨[]⟩⟩ 0 (.mk 0 0 0 []) [a.nt, b.nt])]) e0 := hre0; have hre0' := hre0; obtain ⟨tkA, tksA, fkA, fksA, lbA, ptA, ctA, pfA, cfA, p0A, c0A, pcA, ccA, pA, cA, esA, rfl, hndA, hcoA, _, _, hslA, hklA⟩ := hre0.open14; obtain ⟨b2, o2, e2, rfl, hl2, ho2, hat2, hre2, _, hgb2⟩ := hslA.kidR hklA (i := 0) zW zW; replace hre2 : B1 G (.mk 10 ⟨⟨[]⟩⟩ 0 (.mk 0 0 0 []) [a.nt, b.nt]) e2 := hre2; have hre2' := hre2; obtain ⟨tkB, tksB, fkB, fksB, lbB, ptB, ctB, pfB, cfB, p0B, c0B, pcB, ccB, pB, cB, esB, rfl, hndB, hcoB, _, _, hslB, hklB⟩ := hre2.open14; obtain ⟨_, _, esc, hEc, _, _, _, _, _, _, hslc, hklc⟩ := hcoA.open4; cases hEc; obtain ⟨b3, o3, e3, rfl, hl3, ho3, hat3, hre3, _, hgb3⟩ := hslc.kidR hklc (i := 0) zW zW; replace hre3 : E6 G c9.cn e3 := hre3; obtain ⟨_, _, e4, hE4, hl4, ho4, hat4, hre4, _, hgb4⟩ := hslc.kidR hklc (i := 1) zW zW; cases hE4; replace hre4 : E6 G d9.cn e4 := hre4; rotate_left; all_goals (have hC0 : C ≠ 0 := (by rw [← hC]; simp only [TH.cnt, TH.kids, List.length_cons, List.length_nil]; omega); clear hred hIO hCo hVal ih hkn hr0))
 refine A3 ?_
 refine sP (E1 rfl rfl zV) rfl rfl ?_
 refine C2 ?_
 refine sP (A6 (j := 0) rfl rfl rfl zW) rfl rfl ?_
 refine sL (A2 rfl rfl (hat0 _) hl0) rfl rfl ?_
 refine sE (A4 rfl) rfl (fun b594 => ?_)
 refine E8 ?_
 refine B7 ?_
 refine A3 ?_
 refine sP (I1 rfl rfl zV) rfl rfl ?_
 refine H3 ?_
 refine sP (I1 rfl rfl zV) rfl rfl ?_
 refine C3 ?_
 refine D3 D4 rfl ?_
 refine E9 (i := 0) (l' := [tt,ff,ff,ff,ff,ff,ff,ff,ff,ff,ff,ff,ff,ff,ff]) rfl C1 (B0 rfl) rfl zT rfl rfl ?_
 refine aL 1 rfl (B3 rfl rfl) rfl ?_
 refine aP 2 rfl (A6 (j := 0) rfl rfl rfl zW) rfl ?_
 refine aL 3 rfl (A2 rfl rfl (hat2 _) hl2) rfl ?_
 refine aP 4 rfl (B0 rfl) rfl ?_
 refine aP 5 rfl (B0 rfl) rfl ?_
 refine aL 6 rfl (B3 rfl rfl) rfl ?_
 refine aP 7 rfl (B0 rfl) rfl ?_
 refine aL 8 rfl (B3 rfl rfl) rfl ?_
 refine aP 9 rfl (A6 (j := 1) rfl rfl rfl zW) rfl ?_
 refine aL 10 rfl (A2 rfl rfl (hat1 _) hl1) rfl ?_
 refine A0 11 ?_
 (refine D6 rfl rfl (B34 x w.nt e1 e.nt G e2 hre2 hre1) rfl rfl rfl (fun v G1 hle1 hh => ?_); obtain ⟨vc, rfl, hrv⟩ := hh; have hvl := hrv.len; have hvo := hrv.one)
 refine A0 12 ?_
 (refine oS rfl rfl rfl rfl hvl hvo rfl rfl ?_ (hu := by exact D7 hvl.symm))
 refine aP 13 rfl (qA rfl) rfl ?_
 refine aP 14 rfl (qA rfl) rfl ?_
 refine A7 ?_
 refine E4 (rC rfl (A2 rfl rfl (C9 zO) hvl)) (rT rfl) (rT rfl) ?_
 (have hq := hq1; exact L0.ok (t := e.sub x w) hst (by rw [A8a]; exact hrv))
 refine A3 ?_
 refine sP (E1 rfl rfl zV) rfl rfl ?_
 refine C2 ?_
 refine sP (A6 (j := 0) rfl rfl rfl zW) rfl rfl ?_
 refine sL (A2 rfl rfl (hat0 _) hl0) rfl rfl ?_
 refine sE (A4 rfl) rfl (fun b665 => ?_)
 refine sS rfl rfl rfl hl2 ho2 rfl ?_ (hu := by exact D7 hl2.symm)
 refine H3 ?_
 refine B7 ?_
 refine A3 ?_
 refine sP (I1 rfl rfl zV) rfl rfl ?_
 refine H3 ?_
 refine sP (E1 rfl rfl zV) rfl rfl ?_
 refine B4 ?_
 refine E5 rfl ((A5V hre0')) rfl rfl ?_
 refine B2 ?_
 refine sP (A6 (j := 0) rfl rfl rfl zW) rfl rfl ?_
 refine A3 ?_
 refine sL (A03 rfl rfl (At.sub2 (hat2 _) (j := 0) (j' := 0) rfl)) rfl rfl ?_
 refine sP (I1 rfl rfl zV) rfl rfl ?_
 refine A9 ?_
 refine D3 D4 rfl ?_
 refine E9 (i := 0) (l' := [tt,ff,ff,ff,ff,ff,ff,ff,ff,ff,ff,ff]) rfl C1 (B0 rfl) rfl zT rfl rfl ?_
 refine aL 1 rfl (B3 rfl rfl) rfl ?_
 refine aP 2 rfl (A6 (j := 1) rfl rfl rfl zW) rfl ?_
 refine aL 3 rfl (A2 rfl rfl (hat1 _) hl1) rfl ?_
 refine aP 4 rfl (B0 rfl) rfl ?_
 refine aP 5 rfl (qF rfl) rfl ?_
 refine aL 6 rfl (B3 rfl rfl) rfl ?_
 refine aP 7 rfl (A6 (j := 0) rfl rfl rfl zW) rfl ?_
 refine aL 8 rfl (A2 rfl rfl (hat3 _) hl3) rfl ?_
 refine J8 (j := 9) (j' := 10) zT ?_ ?_
 (have hq := hq2; clear hq2; refine D6 rfl rfl (A17 w.nt c9.cn G _ _ hre1 hre3) rfl rfl rfl (fun v G1 hle1 hh => ?_); obtain ⟨vc, rfl, hrw⟩ := hh; have hwl := hrw.len; have hwo := hrw.one; obtain ⟨v1, v2, v3, v4, v5, v6, v7, v8, v9, u1, u2, u3, u4, u5, rfl⟩ := X4 hwl; have hq7 : True := trivial)
 refine A0 10 ?_
 (refine B6 rfl (A4 rfl) rfl rfl ?_; rintro _ ⟨b727, rfl⟩)
 refine A0 11 ?_
 (refine oS rfl rfl rfl rfl hwl hwo rfl rfl ?_ (hu := by exact D7 hwl.symm))
 refine B2 ?_
 refine D3 D4 rfl ?_
 refine E9 (i := 0) (l' := [tt,ff,ff,ff,ff,ff,ff,ff,ff,ff,ff,ff,ff,ff,ff,ff,ff]) rfl C1 (K8 rfl rfl) rfl zT rfl rfl ?_
 refine aP 1 rfl (B0 rfl) rfl ?_
 refine aL 2 rfl (B3 rfl rfl) rfl ?_
 refine aP 3 rfl (A6 (j := 0) rfl rfl rfl zW) rfl ?_
 refine aL 4 rfl (A2 rfl rfl (At.moS hle1 (hat2 [])) hl2) rfl ?_
 refine aL 5 rfl (A1 rfl rfl) rfl ?_
 refine aP 8 rfl (B0 rfl) rfl ?_
 refine aP 9 rfl (qF rfl) rfl ?_
 refine aL 10 rfl (B3 rfl rfl) rfl ?_
 refine aP 11 rfl (A6 (j := 1) rfl rfl rfl zW) rfl ?_
 refine aL 12 rfl (A2 rfl rfl (At.moS hle1 (hat4 [])) hl4) rfl ?_
 refine A0 6 ?_
 (refine B6 rfl (C0 rfl rfl rfl zV zQ rfl) rfl rfl ?_; rintro _ ⟨b746, rfl⟩)
 refine aP 7 rfl (K8 rfl rfl) rfl ?_
 refine A0 13 ?_
 (have hq := hq7; refine Y2 (cs := [.int .i64 5, .string x, .int .i64 0, .int .i64 tkB, .slice ptB tksB.length ctB, .int .i64 fkB, .slice pfB fksB.length cfB, .int .i64 lbB, .slice p0B 0 c0B, .int .i64 0, .int .i64 0, .int .i64 0, .slice pcB 0 ccB, .slice pB 1 cB, v1, v2, v3, v4, v5, v6, v7, v8, v9, u1, u2, u3, u4, u5]) zM (fun G2 hle2 hsl2 hno2 => ?_); have hrN := A9s (k := 6) ⟨by decide, by decide⟩ zU (hre2'.mono (hle1.trans hle2)) (hrw.mono hle2) hsl2; refine D6 rfl rfl (A17 _ d9.cn G2 _ _ hrN (hre4.mono (hle1.trans hle2))) rfl rfl rfl (fun v G3 hle3 hh => ?_); obtain ⟨vc, rfl, hrv⟩ := hh; have hvl := hrv.len; have hvo := hrv.one)
 refine A0 14 ?_
 (refine oS rfl rfl rfl rfl hvl hvo rfl rfl ?_ (hu := by exact D7 hvl.symm))
 refine aP 15 rfl (qA rfl) rfl ?_
 refine aP 16 rfl (qA rfl) rfl ?_
 refine A9 ?_
 refine E4 (rC rfl (A2 rfl rfl (C9 zO) hvl)) (rT rfl) (rT rfl) ?_
 (have hq := hq7; exact L0.ok (t := .conv d9 (.app (.lam x B e) (.conv c9 w))) hst hrv)
 (refine B6 rfl (A4 rfl) rfl rfl ?_; rintro _ ⟨b761, rfl⟩)
 refine A0 9 ?_
 (have hq := hq2; clear hq2; refine D6 rfl rfl (A17 w.nt c9.cn G _ _ hre1 hre3) rfl rfl rfl (fun v G1 hle1 hh => ?_); obtain ⟨vc, rfl, hrw⟩ := hh; have hwl := hrw.len; have hwo := hrw.one; obtain ⟨v1, v2, v3, v4, v5, v6, v7, v8, v9, u1, u2, u3, u4, u5, rfl⟩ := X4 hwl; have hq7 : True := trivial)
 refine A0 11 ?_
 (refine oS rfl rfl rfl rfl hwl hwo rfl rfl ?_ (hu := by exact D7 hwl.symm))
 refine B2 ?_
 refine D3 D4 rfl ?_
 refine E9 (i := 0) (l' := [tt,ff,ff,ff,ff,ff,ff,ff,ff,ff,ff,ff,ff,ff,ff,ff,ff]) rfl C1 (K8 rfl rfl) rfl zT rfl rfl ?_
 refine aP 1 rfl (B0 rfl) rfl ?_
 refine aL 2 rfl (B3 rfl rfl) rfl ?_
 refine aP 3 rfl (A6 (j := 0) rfl rfl rfl zW) rfl ?_
 refine aL 4 rfl (A2 rfl rfl (At.moS hle1 (hat2 [])) hl2) rfl ?_
 refine aL 5 rfl (A1 rfl rfl) rfl ?_
 refine aP 8 rfl (B0 rfl) rfl ?_
 refine aP 9 rfl (qF rfl) rfl ?_
 refine aL 10 rfl (B3 rfl rfl) rfl ?_
 refine aP 11 rfl (A6 (j := 1) rfl rfl rfl zW) rfl ?_
 refine aL 12 rfl (A2 rfl rfl (At.moS hle1 (hat4 [])) hl4) rfl ?_
 refine A0 6 ?_
 (refine B6 rfl (C0 rfl rfl rfl zV zQ rfl) rfl rfl ?_; rintro _ ⟨b782, rfl⟩)
 refine aP 7 rfl (K8 rfl rfl) rfl ?_
 refine A0 13 ?_
 (have hq := hq7; refine Y2 (cs := [.int .i64 5, .string x, .int .i64 0, .int .i64 tkB, .slice ptB tksB.length ctB, .int .i64 fkB, .slice pfB fksB.length cfB, .int .i64 lbB, .slice p0B 0 c0B, .int .i64 0, .int .i64 0, .int .i64 0, .slice pcB 0 ccB, .slice pB 1 cB, v1, v2, v3, v4, v5, v6, v7, v8, v9, u1, u2, u3, u4, u5]) zM (fun G2 hle2 hsl2 hno2 => ?_); have hrN := A9s (k := 6) ⟨by decide, by decide⟩ zU (hre2'.mono (hle1.trans hle2)) (hrw.mono hle2) hsl2; refine D6 rfl rfl (A17 _ d9.cn G2 _ _ hrN (hre4.mono (hle1.trans hle2))) rfl rfl rfl (fun v G3 hle3 hh => ?_); obtain ⟨vc, rfl, hrv⟩ := hh; have hvl := hrv.len; have hvo := hrv.one)
 refine A0 14 ?_
 (refine oS rfl rfl rfl rfl hvl hvo rfl rfl ?_ (hu := by exact D7 hvl.symm))
 refine aP 15 rfl (qA rfl) rfl ?_
 refine aP 16 rfl (qA rfl) rfl ?_
 refine A9 ?_
 refine E4 (rC rfl (A2 rfl rfl (C9 zO) hvl)) (rT rfl) (rT rfl) ?_
 (have hq := hq7; exact L0.ok (t := .conv d9 (.app (.lam x B e) (.conv c9 w))) hst hrv)
 refine A3 ?_
 refine sP (E1 rfl rfl zV) rfl rfl ?_
 refine C2 ?_
 refine sP (A6 (j := 0) rfl rfl rfl zW) rfl rfl ?_
 refine sL (A2 rfl rfl (hat0 _) hl0) rfl rfl ?_
 refine sE (A4 rfl) rfl (fun b811 => ?_)
 refine sS rfl rfl rfl hl1 ho1 rfl ?_ (hu := by exact D7 hl1.symm)
 refine H3 ?_
 refine B7 ?_
 refine A3 ?_
 refine sP (E1 rfl rfl zV) rfl rfl ?_
 refine A8 ?_
 refine sP (I1 rfl rfl zV) rfl rfl ?_
 refine B4 ?_
 refine D3 D4 rfl ?_
 refine E9 (i := 0) (l' := [tt,ff,ff,ff,ff,ff,ff,ff,ff,ff,ff,ff,ff,ff,ff,ff,ff,ff,ff]) rfl C1 (B0 rfl) rfl zT rfl rfl ?_
 refine aP 1 rfl (B0 rfl) rfl ?_
 refine aL 2 rfl (B3 rfl rfl) rfl ?_
 refine aP 3 rfl (B0 rfl) rfl ?_
 refine aL 4 rfl (A1 rfl rfl) rfl ?_
 refine aP 5 rfl (B0 rfl) rfl ?_
 refine aL 6 rfl (B3 rfl rfl) rfl ?_
 refine aP 7 rfl (A6 (j := 1) rfl rfl rfl zW) rfl ?_
 refine aP 8 rfl (qF rfl) rfl ?_
 refine aL 9 rfl (A2 rfl rfl (hat1 _) rfl) rfl ?_
 refine J8 (j := 10) (j' := 16) zT ?_ ?_
 (refine B6 rfl (C0 rfl rfl rfl zV zQ rfl) rfl rfl ?_; rintro _ ⟨b855, rfl⟩)
 refine aP 11 rfl (K8 rfl rfl) rfl ?_
 refine J8 (j := 12) (j' := 16) zT ?_ ?_
 (have hq := hq3; refine Y2 (cs := [.int .i64 2, .string ⟨⟨[]⟩⟩, .int .i64 m, .int .i64 tkA, .slice ptA tksA.length ctA, .int .i64 fkA, .slice pfA fksA.length cfA, .int .i64 lbA, .slice p0A 0 c0A, .int .i64 2, .string ⟨⟨[]⟩⟩, .int .i64 n, .int .i64 tkB, .slice ptB tksB.length ctB, .int .i64 fkB, .slice pfB fksB.length cfB, .int .i64 lbB, .slice p0B 0 c0B]) zM (fun G1 hle1 hsl2 hno2 => ?_); have hrN := A2G (k := 7) ⟨by decide, by decide⟩ (hndA.mono hle1) (hndB.mono hle1) hsl2; refine D6 rfl rfl (A2H 7 m n _ _ _ _ _ _ G1 _ zU hnk.1 hnk.2 hrN) rfl rfl rfl (fun v G3 hle3 hh => ?_); obtain ⟨uc, rfl, hru⟩ := hh; replace hru : D1 G3 (.mk 2 ⟨⟨[]⟩⟩ (HMod.hMod (m + n) 1000) (.mk 0 []) (.mk 0 []) 0 []) uc := hru; obtain ⟨ptR, ctR, pfR, cfR, pR, cR, esR, rfl, _, _, _, _, _, _, _⟩ := hru.open9; have hru2 := hru)
 refine aP 13 rfl (qM rfl) rfl ?_
 refine aP 14 rfl (pX rfl rfl) rfl ?_
 refine aP 15 rfl (pX rfl rfl) rfl ?_
 refine A0 16 ?_
 (refine B6 rfl (A4 rfl) rfl rfl ?_; rintro _ ⟨b863, rfl⟩)
 refine A0 17 ?_
 refine B8 rfl ?_
 refine aP 18 rfl (qA rfl) rfl ?_
 refine A8 ?_
 refine sS rfl rfl rfl hl1 ho1 rfl ?_ (hu := by exact D7 hl1.symm)
 refine A8 ?_
 refine E4 (rC rfl (A1 rfl rfl)) (rT rfl) (rT rfl) ?_
 (exact L0.ok (t := .num (HMod.hMod (m + n) 1000)) hst (A0X hru2 zU))
 (refine B6 rfl (A4 rfl) rfl rfl ?_; rintro _ ⟨b884, rfl⟩)
 refine A0 12 ?_
 (have hq := hq3; refine Y2 (cs := [.int .i64 2, .string ⟨⟨[]⟩⟩, .int .i64 m, .int .i64 tkA, .slice ptA tksA.length ctA, .int .i64 fkA, .slice pfA fksA.length cfA, .int .i64 lbA, .slice p0A 0 c0A, .int .i64 2, .string ⟨⟨[]⟩⟩, .int .i64 n, .int .i64 tkB, .slice ptB tksB.length ctB, .int .i64 fkB, .slice pfB fksB.length cfB, .int .i64 lbB, .slice p0B 0 c0B]) zM (fun G1 hle1 hsl2 hno2 => ?_); have hrN := A2G (k := 7) ⟨by decide, by decide⟩ (hndA.mono hle1) (hndB.mono hle1) hsl2; refine D6 rfl rfl (A2H 7 m n _ _ _ _ _ _ G1 _ zU hnk.1 hnk.2 hrN) rfl rfl rfl (fun v G3 hle3 hh => ?_); obtain ⟨uc, rfl, hru⟩ := hh; replace hru : D1 G3 (.mk 2 ⟨⟨[]⟩⟩ (HMod.hMod (m + n) 1000) (.mk 0 []) (.mk 0 []) 0 []) uc := hru; obtain ⟨ptR, ctR, pfR, cfR, pR, cR, esR, rfl, _, _, _, _, _, _, _⟩ := hru.open9; have hru2 := hru)
 refine aP 13 rfl (qM rfl) rfl ?_
 refine aP 14 rfl (pX rfl rfl) rfl ?_
 refine aP 15 rfl (pX rfl rfl) rfl ?_
 refine A0 17 ?_
 refine B8 rfl ?_
 refine aP 18 rfl (qA rfl) rfl ?_
 refine A8 ?_
 refine sS rfl rfl rfl hl1 ho1 rfl ?_ (hu := by exact D7 hl1.symm)
 refine A8 ?_
 refine E4 (rC rfl (A1 rfl rfl)) (rT rfl) (rT rfl) ?_
 (exact L0.ok (t := .num (HMod.hMod (m + n) 1000)) hst (A0X hru2 zU))
 (refine B6 rfl (A4 rfl) rfl rfl ?_; rintro _ ⟨b910, rfl⟩)
 refine A0 10 ?_
 (refine B6 rfl (C0 rfl rfl rfl zV zQ rfl) rfl rfl ?_; rintro _ ⟨b912, rfl⟩)
 refine aP 11 rfl (K8 rfl rfl) rfl ?_
 refine A0 12 ?_
 (have hq := hq3; refine Y2 (cs := [.int .i64 2, .string ⟨⟨[]⟩⟩, .int .i64 m, .int .i64 tkA, .slice ptA tksA.length ctA, .int .i64 fkA, .slice pfA fksA.length cfA, .int .i64 lbA, .slice p0A 0 c0A, .int .i64 2, .string ⟨⟨[]⟩⟩, .int .i64 n, .int .i64 tkB, .slice ptB tksB.length ctB, .int .i64 fkB, .slice pfB fksB.length cfB, .int .i64 lbB, .slice p0B 0 c0B]) zM (fun G1 hle1 hsl2 hno2 => ?_); have hrN := A2G (k := 7) ⟨by decide, by decide⟩ (hndA.mono hle1) (hndB.mono hle1) hsl2; refine D6 rfl rfl (A2H 7 m n _ _ _ _ _ _ G1 _ zU hnk.1 hnk.2 hrN) rfl rfl rfl (fun v G3 hle3 hh => ?_); obtain ⟨uc, rfl, hru⟩ := hh; replace hru : D1 G3 (.mk 2 ⟨⟨[]⟩⟩ (HMod.hMod (m + n) 1000) (.mk 0 []) (.mk 0 []) 0 []) uc := hru; obtain ⟨ptR, ctR, pfR, cfR, pR, cR, esR, rfl, _, _, _, _, _, _, _⟩ := hru.open9; have hru2 := hru)
 refine aP 13 rfl (qM rfl) rfl ?_
 refine aP 14 rfl (pX rfl rfl) rfl ?_
 refine aP 15 rfl (pX rfl rfl) rfl ?_
 refine A0 17 ?_
 refine B8 rfl ?_
 refine aP 18 rfl (qA rfl) rfl ?_
 refine A8 ?_
 refine sS rfl rfl rfl hl1 ho1 rfl ?_ (hu := by exact D7 hl1.symm)
 refine A8 ?_
 refine E4 (rC rfl (A1 rfl rfl)) (rT rfl) (rT rfl) ?_
 (exact L0.ok (t := .num (HMod.hMod (m + n) 1000)) hst (A0X hru2 zU))
 refine A3 ?_
 refine sP (E1 rfl rfl zV) rfl rfl ?_
 refine C2 ?_
 refine sP (A6 (j := 0) rfl rfl rfl zW) rfl rfl ?_
 refine sL (A2 rfl rfl (hat0 _) hl0) rfl rfl ?_
 refine sE (A4 rfl) rfl (fun b953 => ?_)
 refine sS rfl rfl rfl hl1 ho1 rfl ?_ (hu := by exact D7 hl1.symm)
 refine H3 ?_
 refine B7 ?_
 refine A3 ?_
 refine sP (E1 rfl rfl zV) rfl rfl ?_
 refine A8 ?_
 refine sP (E1 rfl rfl zV) rfl rfl ?_
 refine A9 ?_
 refine sP (I1 rfl rfl zV) rfl rfl ?_
 refine A9 ?_
 refine D3 D4 rfl ?_
 refine E9 (i := 0) (l' := [tt,ff,ff,ff,ff,ff,ff,ff,ff,ff,ff,ff,ff,ff,ff,ff,ff,ff,ff]) rfl C1 (B0 rfl) rfl zT rfl rfl ?_
 refine aP 1 rfl (B0 rfl) rfl ?_
 refine aL 2 rfl (B3 rfl rfl) rfl ?_
 refine aP 3 rfl (B0 rfl) rfl ?_
 refine aL 4 rfl (A1 rfl rfl) rfl ?_
 refine aP 5 rfl (B0 rfl) rfl ?_
 refine aL 6 rfl (B3 rfl rfl) rfl ?_
 refine aP 7 rfl (A6 (j := 1) rfl rfl rfl zW) rfl ?_
 refine aP 8 rfl (qF rfl) rfl ?_
 refine aL 9 rfl (A2 rfl rfl (hat1 _) rfl) rfl ?_
 refine J8 (j := 10) (j' := 16) zT ?_ ?_
 (refine B6 rfl (C0 rfl rfl rfl zV zQ rfl) rfl rfl ?_; rintro _ ⟨b1000, rfl⟩)
 refine aP 11 rfl (K8 rfl rfl) rfl ?_
 refine J8 (j := 12) (j' := 16) zT ?_ ?_
 (have hq := hq3; refine Y2 (cs := [.int .i64 2, .string ⟨⟨[]⟩⟩, .int .i64 m, .int .i64 tkA, .slice ptA tksA.length ctA, .int .i64 fkA, .slice pfA fksA.length cfA, .int .i64 lbA, .slice p0A 0 c0A, .int .i64 2, .string ⟨⟨[]⟩⟩, .int .i64 n, .int .i64 tkB, .slice ptB tksB.length ctB, .int .i64 fkB, .slice pfB fksB.length cfB, .int .i64 lbB, .slice p0B 0 c0B]) zM (fun G1 hle1 hsl2 hno2 => ?_); have hrN := A2G (k := 8) ⟨by decide, by decide⟩ (hndA.mono hle1) (hndB.mono hle1) hsl2; refine D6 rfl rfl (A2H 8 m n _ _ _ _ _ _ G1 _ zU hnk.1 hnk.2 hrN) rfl rfl rfl (fun v G3 hle3 hh => ?_); obtain ⟨uc, rfl, hru⟩ := hh; replace hru : D1 G3 (.mk (if m < n then 3 else 4) ⟨⟨[]⟩⟩ 0 (.mk 0 []) (.mk 0 []) 0 []) uc := (by unfold T7 A0c at hru; exact hru); obtain ⟨ptR, ctR, pfR, cfR, pR, cR, esR, rfl, _, _, _, _, _, _, _⟩ := hru.open9; have hru2 := hru)
 refine aP 13 rfl (qM rfl) rfl ?_
 refine aP 14 rfl (pX rfl rfl) rfl ?_
 refine aP 15 rfl (pX rfl rfl) rfl ?_
 refine A0 16 ?_
 (refine B6 rfl (A4 rfl) rfl rfl ?_; rintro _ ⟨b1008, rfl⟩)
 refine A0 17 ?_
 refine B8 rfl ?_
 refine aP 18 rfl (qA rfl) rfl ?_
 refine A8 ?_
 refine sS rfl rfl rfl hl1 ho1 rfl ?_ (hu := by exact D7 hl1.symm)
 refine A8 ?_
 refine E4 (rC rfl (A1 rfl rfl)) (rT rfl) (rT rfl) ?_
 (exact L0.ok (t := .tru (decide (m < n))) hst (by have hz := A0X hru2 (by split <;> decide); by_cases hmn : m < n; (rw [if_pos hmn] at hz ⊢; rw [decide_eq_true hmn]; exact hz); (rw [if_neg hmn] at hz ⊢; rw [decide_eq_false hmn]; exact hz)))
 (refine B6 rfl (A4 rfl) rfl rfl ?_; rintro _ ⟨b1029, rfl⟩)
 refine A0 12 ?_
 (have hq := hq3; refine Y2 (cs := [.int .i64 2, .string ⟨⟨[]⟩⟩, .int .i64 m, .int .i64 tkA, .slice ptA tksA.length ctA, .int .i64 fkA, .slice pfA fksA.length cfA, .int .i64 lbA, .slice p0A 0 c0A, .int .i64 2, .string ⟨⟨[]⟩⟩, .int .i64 n, .int .i64 tkB, .slice ptB tksB.length ctB, .int .i64 fkB, .slice pfB fksB.length cfB, .int .i64 lbB, .slice p0B 0 c0B]) zM (fun G1 hle1 hsl2 hno2 => ?_); have hrN := A2G (k := 8) ⟨by decide, by decide⟩ (hndA.mono hle1) (hndB.mono hle1) hsl2; refine D6 rfl rfl (A2H 8 m n _ _ _ _ _ _ G1 _ zU hnk.1 hnk.2 hrN) rfl rfl rfl (fun v G3 hle3 hh => ?_); obtain ⟨uc, rfl, hru⟩ := hh; replace hru : D1 G3 (.mk (if m < n then 3 else 4) ⟨⟨[]⟩⟩ 0 (.mk 0 []) (.mk 0 []) 0 []) uc := (by unfold T7 A0c at hru; exact hru); obtain ⟨ptR, ctR, pfR, cfR, pR, cR, esR, rfl, _, _, _, _, _, _, _⟩ := hru.open9; have hru2 := hru)
 refine aP 13 rfl (qM rfl) rfl ?_
 refine aP 14 rfl (pX rfl rfl) rfl ?_
 refine aP 15 rfl (pX rfl rfl) rfl ?_
 refine A0 17 ?_
 refine B8 rfl ?_
 refine aP 18 rfl (qA rfl) rfl ?_
 refine A8 ?_
 refine sS rfl rfl rfl hl1 ho1 rfl ?_ (hu := by exact D7 hl1.symm)
 refine A8 ?_
 refine E4 (rC rfl (A1 rfl rfl)) (rT rfl) (rT rfl) ?_
 (exact L0.ok (t := .tru (decide (m < n))) hst (by have hz := A0X hru2 (by split <;> decide); by_cases hmn : m < n; (rw [if_pos hmn] at hz ⊢; rw [decide_eq_true hmn]; exact hz); (rw [if_neg hmn] at hz ⊢; rw [decide_eq_false hmn]; exact hz)))
 (refine B6 rfl (A4 rfl) rfl rfl ?_; rintro _ ⟨b1055, rfl⟩)
 refine A0 10 ?_
 (refine B6 rfl (C0 rfl rfl rfl zV zQ rfl) rfl rfl ?_; rintro _ ⟨b1057, rfl⟩)
 refine aP 11 rfl (K8 rfl rfl) rfl ?_
 refine A0 12 ?_
 (have hq := hq3; refine Y2 (cs := [.int .i64 2, .string ⟨⟨[]⟩⟩, .int .i64 m, .int .i64 tkA, .slice ptA tksA.length ctA, .int .i64 fkA, .slice pfA fksA.length cfA, .int .i64 lbA, .slice p0A 0 c0A, .int .i64 2, .string ⟨⟨[]⟩⟩, .int .i64 n, .int .i64 tkB, .slice ptB tksB.length ctB, .int .i64 fkB, .slice pfB fksB.length cfB, .int .i64 lbB, .slice p0B 0 c0B]) zM (fun G1 hle1 hsl2 hno2 => ?_); have hrN := A2G (k := 8) ⟨by decide, by decide⟩ (hndA.mono hle1) (hndB.mono hle1) hsl2; refine D6 rfl rfl (A2H 8 m n _ _ _ _ _ _ G1 _ zU hnk.1 hnk.2 hrN) rfl rfl rfl (fun v G3 hle3 hh => ?_); obtain ⟨uc, rfl, hru⟩ := hh; replace hru : D1 G3 (.mk (if m < n then 3 else 4) ⟨⟨[]⟩⟩ 0 (.mk 0 []) (.mk 0 []) 0 []) uc := (by unfold T7 A0c at hru; exact hru); obtain ⟨ptR, ctR, pfR, cfR, pR, cR, esR, rfl, _, _, _, _, _, _, _⟩ := hru.open9; have hru2 := hru)
 refine aP 13 rfl (qM rfl) rfl ?_
 refine aP 14 rfl (pX rfl rfl) rfl ?_
 refine aP 15 rfl (pX rfl rfl) rfl ?_
 refine A0 17 ?_
 refine B8 rfl ?_
 refine aP 18 rfl (qA rfl) rfl ?_
 refine A8 ?_
 refine sS rfl rfl rfl hl1 ho1 rfl ?_ (hu := by exact D7 hl1.symm)
 refine A8 ?_
 refine E4 (rC rfl (A1 rfl rfl)) (rT rfl) (rT rfl) ?_
 (exact L0.ok (t := .tru (decide (m < n))) hst (by have hz := A0X hru2 (by split <;> decide); by_cases hmn : m < n; (rw [if_pos hmn] at hz ⊢; rw [decide_eq_true hmn]; exact hz); (rw [if_neg hmn] at hz ⊢; rw [decide_eq_false hmn]; exact hz)))
 refine A3 ?_
 refine sP (I1 rfl rfl zV) rfl rfl ?_
 refine G9 ?_
 refine E4 (rC rfl (A1 rfl rfl)) (rT rfl) (rT rfl) ?_
 (exfalso; omega)
 refine A3 ?_
 refine sP (I1 rfl rfl zV) rfl rfl ?_
 refine G9 ?_
 refine E4 (rC rfl (A1 rfl rfl)) (rT rfl) (rT rfl) ?_
 (exfalso; omega)
 refine A3 ?_
 refine sP (E1 rfl rfl zV) rfl rfl ?_
 refine C2 ?_
 refine sP (A6 (j := 0) rfl rfl rfl zW) rfl rfl ?_
 refine sL (A2 rfl rfl (hat0 _) hl0) rfl rfl ?_
 refine sE (A4 rfl) rfl (fun b1134 => ?_)
 refine E8 ?_
 refine B7 ?_
 refine A3 ?_
 refine sP (E1 rfl rfl zV) rfl rfl ?_
 refine A8 ?_
 refine sP (E1 rfl rfl zV) rfl rfl ?_
 refine A9 ?_
 refine sP (E1 rfl rfl zV) rfl rfl ?_
 refine A7 ?_
 refine sP (E1 rfl rfl zV) rfl rfl ?_
 refine A8 ?_
 refine sP (I1 rfl rfl zV) rfl rfl ?_
 refine K1 ?_
 refine sP (R9 rfl rfl zV zV) rfl rfl ?_
 refine C2 ?_
 refine sP (I1 rfl rfl zV) rfl rfl ?_
 refine B4 ?_
 refine sP (A6 (j := 0) rfl rfl rfl zW) rfl rfl ?_
 refine sL (A2 rfl rfl (hat1 _) hl1) rfl rfl ?_
 refine sS rfl rfl rfl hl1 ho1 rfl ?_ (hu := by exact D7 hl1.symm)
 refine B4 ?_
 refine E4 (rC rfl (A2 rfl rfl (C9 zO) hl1)) (rT rfl) (rT rfl) ?_
 (exact L0.ok (t := a) hst hre1)
 refine A3 ?_
 refine sP (E1 rfl rfl zV) rfl rfl ?_
 refine C2 ?_
 refine sP (A6 (j := 0) rfl rfl rfl zW) rfl rfl ?_
 refine sL (A2 rfl rfl (hat0 _) hl0) rfl rfl ?_
 refine sE (A4 rfl) rfl (fun b1237 => ?_)
 refine E8 ?_
 refine B7 ?_
 refine A3 ?_
 refine sP (E1 rfl rfl zV) rfl rfl ?_
 refine A8 ?_
 refine sP (E1 rfl rfl zV) rfl rfl ?_
 refine A9 ?_
 refine sP (E1 rfl rfl zV) rfl rfl ?_
 refine A7 ?_
 refine sP (E1 rfl rfl zV) rfl rfl ?_
 refine A8 ?_
 refine sP (E1 rfl rfl zV) rfl rfl ?_
 refine A9 ?_
 refine sP (I1 rfl rfl zV) rfl rfl ?_
 refine C2 ?_
 refine sP (R9 rfl rfl zV zV) rfl rfl ?_
 refine C2 ?_
 refine sP (I1 rfl rfl zV) rfl rfl ?_
 refine B4 ?_
 refine sP (A6 (j := 1) rfl rfl rfl zW) rfl rfl ?_
 refine sL (A2 rfl rfl (hat2 _) hl2) rfl rfl ?_
 refine sS rfl rfl rfl hl2 ho2 rfl ?_ (hu := by exact D7 hl2.symm)
 refine B4 ?_
 refine E4 (rC rfl (A2 rfl rfl (C9 zO) hl2)) (rT rfl) (rT rfl) ?_
 (exact L0.ok (t := b) hst hre2)
 refine A3 ?_
 refine sP (E1 rfl rfl zV) rfl rfl ?_
 refine C2 ?_
 refine sP (A6 (j := 0) rfl rfl rfl zW) rfl rfl ?_
 refine sL (A2 rfl rfl (hat0 _) hl0) rfl rfl ?_
 refine sE (A4 rfl) rfl (fun b1343 => ?_)
 refine sS rfl rfl rfl hl2 ho2 rfl ?_ (hu := by exact D7 hl2.symm)
 refine H3 ?_
 refine B7 ?_
 refine A3 ?_
 refine sP (E1 rfl rfl zV) rfl rfl ?_
 refine A8 ?_
 refine sP (E1 rfl rfl zV) rfl rfl ?_
 refine A9 ?_
 refine sP (E1 rfl rfl zV) rfl rfl ?_
 refine A7 ?_
 refine sP (E1 rfl rfl zV) rfl rfl ?_
 refine A8 ?_
 refine sP (I1 rfl rfl zV) rfl rfl ?_
 refine K1 ?_
 refine sP (R9 rfl rfl zV zV) rfl rfl ?_
 refine C2 ?_
 refine sP (E1 rfl rfl zV) rfl rfl ?_
 refine B4 ?_
 refine E5 rfl ((A5V hre0')) rfl rfl ?_
 refine B2 ?_
 refine sP (A6 (j := 0) rfl rfl rfl zW) rfl rfl ?_
 refine A3 ?_
 refine sL (A03 rfl rfl (At.sub2 (hat2 _) (j := 0) (j' := 0) rfl)) rfl rfl ?_
 refine sP (I1 rfl rfl zV) rfl rfl ?_
 refine A9 ?_
 refine D3 D4 rfl ?_
 refine E9 (i := 0) (l' := [tt,ff,ff,ff,ff,ff,ff,ff,ff,ff,ff,ff,ff,ff,ff,ff,ff,ff,ff,ff]) rfl C1 (B0 rfl) rfl zT rfl rfl ?_
 refine aP 1 rfl (B0 rfl) rfl ?_
 refine aL 2 rfl (B3 rfl rfl) rfl ?_
 refine aP 3 rfl (K8 rfl rfl) rfl ?_
 refine aP 4 rfl (B0 rfl) rfl ?_
 refine aL 5 rfl (B3 rfl rfl) rfl ?_
 refine aP 6 rfl (A6 (j := 0) rfl rfl rfl zW) rfl ?_
 refine aL 7 rfl (A2 rfl rfl (hat2 _) hl2) rfl ?_
 refine aP 10 rfl (B0 rfl) rfl ?_
 refine aP 11 rfl (qF rfl) rfl ?_
 refine aL 12 rfl (B3 rfl rfl) rfl ?_
 refine aP 13 rfl (qM rfl) rfl ?_
 refine aP 14 rfl (A6 (j := 0) rfl rfl rfl zW) rfl ?_
 refine aL 15 rfl (A2 rfl rfl (hat3 _) hl3) rfl ?_
 refine A0 8 ?_
 (refine B6 rfl (C0 rfl rfl rfl zV zQ rfl) rfl rfl ?_; rintro _ ⟨b1449, rfl⟩)
 refine aP 9 rfl (K8 rfl rfl) rfl ?_
 refine A0 16 ?_
 (have hq := hq6; refine Y2 (cs := [.int .i64 10, .string ⟨⟨[]⟩⟩, .int .i64 0, .int .i64 tkB, .slice ptB tksB.length ctB, .int .i64 fkB, .slice pfB fksB.length cfB, .int .i64 lbB, .slice p0B 0 c0B, .int .i64 0, .int .i64 0, .int .i64 0, .slice pcB 0 ccB, .slice pB 2 cB]) zM (fun G1 hle1 hsl2 hno2 => ?_); have hrN := A4p (k := 11) ⟨by decide, by decide⟩ (X3 G1) (hre2'.mono hle1) hsl2; refine D6 rfl rfl (A17 _ c9.cn G1 _ _ hrN (hre3.mono hle1)) rfl rfl rfl (fun v G3 hle3 hh => ?_); obtain ⟨vc, rfl, hrv⟩ := hh; have hvl := hrv.len; have hvo := hrv.one)
 refine A0 17 ?_
 (refine oS rfl rfl rfl rfl hvl hvo rfl rfl ?_ (hu := by exact D7 hvl.symm))
 refine aP 18 rfl (qA rfl) rfl ?_
 refine aP 19 rfl (qA rfl) rfl ?_
 refine A9 ?_
 refine E4 (rC rfl (A2 rfl rfl (C9 zO) hvl)) (rT rfl) (rT rfl) ?_
 (have hq := hq6; exact L0.ok (t := .conv c9 (.part false (.pair a b))) hst hrv)
 refine A3 ?_
 refine sP (E1 rfl rfl zV) rfl rfl ?_
 refine C2 ?_
 refine sP (A6 (j := 0) rfl rfl rfl zW) rfl rfl ?_
 refine sL (A2 rfl rfl (hat0 _) hl0) rfl rfl ?_
 refine sE (A4 rfl) rfl (fun b1478 => ?_)
 refine sS rfl rfl rfl hl2 ho2 rfl ?_ (hu := by exact D7 hl2.symm)
 refine H3 ?_
 refine B7 ?_
 refine A3 ?_
 refine sP (E1 rfl rfl zV) rfl rfl ?_
 refine A8 ?_
 refine sP (E1 rfl rfl zV) rfl rfl ?_
 refine A9 ?_
 refine sP (E1 rfl rfl zV) rfl rfl ?_
 refine A7 ?_
 refine sP (E1 rfl rfl zV) rfl rfl ?_
 refine A8 ?_
 refine sP (E1 rfl rfl zV) rfl rfl ?_
 refine A9 ?_
 refine sP (I1 rfl rfl zV) rfl rfl ?_
 refine C2 ?_
 refine sP (R9 rfl rfl zV zV) rfl rfl ?_
 refine C2 ?_
 refine sP (E1 rfl rfl zV) rfl rfl ?_
 refine B4 ?_
 refine E5 rfl ((A5V hre0')) rfl rfl ?_
 refine B2 ?_
 refine sP (A6 (j := 0) rfl rfl rfl zW) rfl rfl ?_
 refine A3 ?_
 refine sL (A03 rfl rfl (At.sub2 (hat2 _) (j := 0) (j' := 0) rfl)) rfl rfl ?_
 refine sP (I1 rfl rfl zV) rfl rfl ?_
 refine A9 ?_
 refine D3 D4 rfl ?_
 refine E9 (i := 0) (l' := [tt,ff,ff,ff,ff,ff,ff,ff,ff,ff,ff,ff,ff,ff,ff,ff,ff,ff,ff,ff]) rfl C1 (B0 rfl) rfl zT rfl rfl ?_
 refine aP 1 rfl (B0 rfl) rfl ?_
 refine aL 2 rfl (B3 rfl rfl) rfl ?_
 refine aP 3 rfl (K8 rfl rfl) rfl ?_
 refine aP 4 rfl (B0 rfl) rfl ?_
 refine aL 5 rfl (B3 rfl rfl) rfl ?_
 refine aP 6 rfl (A6 (j := 0) rfl rfl rfl zW) rfl ?_
 refine aL 7 rfl (A2 rfl rfl (hat2 _) hl2) rfl ?_
 refine aP 10 rfl (B0 rfl) rfl ?_
 refine aP 11 rfl (qF rfl) rfl ?_
 refine aL 12 rfl (B3 rfl rfl) rfl ?_
 refine aP 13 rfl (qM rfl) rfl ?_
 refine aP 14 rfl (A6 (j := 1) rfl rfl rfl zW) rfl ?_
 refine aL 15 rfl (A2 rfl rfl (hat4 _) hl4) rfl ?_
 refine A0 8 ?_
 (refine B6 rfl (C0 rfl rfl rfl zV zQ rfl) rfl rfl ?_; rintro _ ⟨b1587, rfl⟩)
 refine aP 9 rfl (K8 rfl rfl) rfl ?_
 refine A0 16 ?_
 (have hq := hq6; refine Y2 (cs := [.int .i64 10, .string ⟨⟨[]⟩⟩, .int .i64 0, .int .i64 tkB, .slice ptB tksB.length ctB, .int .i64 fkB, .slice pfB fksB.length cfB, .int .i64 lbB, .slice p0B 0 c0B, .int .i64 0, .int .i64 0, .int .i64 0, .slice pcB 0 ccB, .slice pB 2 cB]) zM (fun G1 hle1 hsl2 hno2 => ?_); have hrN := A4p (k := 12) ⟨by decide, by decide⟩ (X3 G1) (hre2'.mono hle1) hsl2; refine D6 rfl rfl (A17 _ d9.cn G1 _ _ hrN (hre4.mono hle1)) rfl rfl rfl (fun v G3 hle3 hh => ?_); obtain ⟨vc, rfl, hrv⟩ := hh; have hvl := hrv.len; have hvo := hrv.one)
 refine A0 17 ?_
 (refine oS rfl rfl rfl rfl hvl hvo rfl rfl ?_ (hu := by exact D7 hvl.symm))
 refine aP 18 rfl (qA rfl) rfl ?_
 refine aP 19 rfl (qA rfl) rfl ?_
 refine A9 ?_
 refine E4 (rC rfl (A2 rfl rfl (C9 zO) hvl)) (rT rfl) (rT rfl) ?_
 (have hq := hq6; exact L0.ok (t := .conv d9 (.part true (.pair a b))) hst hrv)
theorem B4j : ∀ t : TH, A4y t := by
 intro t
 induction t with
 | lam x A e i => exact A1C _ fun u hu => by obtain rfl := List.mem_singleton.1 hu; exact i
 | app f a i j => exact A1C _ fun u hu => by simp only [TH.kids, List.mem_cons, List.not_mem_nil, or_false] at hu; rcases hu with rfl | rfl; exact i; exact j
 | ar s f a i j => exact A1C _ fun u hu => by simp only [TH.kids, List.mem_cons, List.not_mem_nil, or_false] at hu; rcases hu with rfl | rfl; exact i; exact j
 | pair f a i j => exact A1C _ fun u hu => by simp only [TH.kids, List.mem_cons, List.not_mem_nil, or_false] at hu; rcases hu with rfl | rfl; exact i; exact j
 | ite c f a i j l => exact A1C _ fun u hu => by simp only [TH.kids, List.mem_cons, List.not_mem_nil, or_false] at hu; rcases hu with rfl | rfl | rfl; exact i; exact j; exact l
 | part s e i => exact A1C _ fun u hu => by obtain rfl := List.mem_singleton.1 hu; exact i
 | conv c e i => exact A1C _ fun u hu => by obtain rfl := List.mem_singleton.1 hu; exact i
 | _ => refine A1C _ ?_; intro u hu; cases hu
def B4k (r s : ByteArray × Int × Int) : Int := if r.2.1 = 2 then 2 else if r.2.1 ≠ 0 ∨ s.2.1 = 4 ∨ s.2.1 = 5 then 3 else if s.2.1 = 0 ∧ r.1 = s.1 then 1 else 4
def B5k (a b : Tm) (fuel : Int) : Int := if (A0F a).isSome = true ∧ B35 a b = true ∧ Q6 fuel 0 300 = true then B4k (A2C a fuel) (A2C b fuel) else 0
def gxT : GX → ByteArray
 | .n n => A5K n
 | .b b => if b = true then txT else txF
 | .p => A4e
 | .f => A4f
theorem A9t {k : Int} {nm : ByteArray} {num : Int} {ty fr : Ty} {lb : Int} {ks : List Tm} {d : Int} (h : N1 40 13 (.mk k nm num ty fr lb ks) d = true) :
  H8 k = ks.length ∧ k ≠ 13 ∧ (¬(k = 1 ∨ k = 5) → nm = ⟨#[]⟩) ∧ (k ≠ 2 → num = 0) ∧ (k = 5 ∨ k = 14 → H0 ty = true) ∧ (¬(k = 5 ∨ k = 14) → ty = C6) ∧ (k = 14 → A0a fr ty = true ∧ A0b lb = true) ∧ (k ≠ 14 → fr = C6 ∧ lb = 0) ∧ N2 40 13 ks (d + 1) = true := by
 obtain ⟨_, h2, h3, h4⟩ := A0Q h
 obtain ⟨n1, n2, n3, n4, n5, n6, n7, n8, n9⟩ := S8.1 h3
 exact ⟨n1, h2, n3, fun hk => by have := A2t.1 (n5 hk); omega, fun hk => n6 zV, fun hk => A1Z (n7 zV), n8, fun hk => ⟨A1Z (n9 hk).1, (n9 hk).2⟩, h4⟩
theorem A9u {D N d : Int} : ∀ {ks : List Tm}, N2 D N ks d = true → ∀ t ∈ ks, N1 D N t d = true
 | [], _, t, ht => by cases ht
 | u :: us, h, t, ht => by
  rw [N2, Bool.and_eq_true] at h
  rcases List.mem_cons.1 ht with rfl | ht
  ·exact h.1
  ·exact A9u h.2 t ht
theorem kl2 {α : Type} {l : List α} (h : (l.length : Int) = 2) : ∃ a b, l = [a, b] := by
 match l, h with
 | [a, b], _ => exact ⟨a, b, rfl⟩
 | [], h => simp at h
 | [_], h => simp at h
 | _ :: _ :: _ :: _, h => simp only [List.length_cons] at h; omega
theorem kl1 {α : Type} {l : List α} (h : (l.length : Int) = 1) : ∃ a, l = [a] := by
 match l, h with
 | [a], _ => exact ⟨a, rfl⟩
 | [], h => simp at h
 | _ :: _ :: _, h => simp only [List.length_cons] at h; omega
theorem kl3 {α : Type} {l : List α} (h : (l.length : Int) = 3) : ∃ a b c, l = [a, b, c] := by
 match l, h with
 | [a, b, c], _ => exact ⟨a, b, c, rfl⟩
 | [], h => simp at h
 | [_], h => simp at h
 | [_, _], h => simp at h
 | _ :: _ :: _ :: _ :: _, h => simp only [List.length_cons] at h; omega
theorem B4l {A : GT} {x y : Ty} (h : Ty.mk 4 [x, y] = A.ty) : ∃ B C : GT, x = B.ty ∧ y = C.ty ∧ A = .fn B C := by
 cases A <;> simp [GT.ty] at h
 exact ⟨_, _, h.1, h.2, rfl⟩
theorem B4m {A : GT} {x y : Ty} (h : Ty.mk 5 [x, y] = A.ty) : ∃ B C : GT, x = B.ty ∧ y = C.ty ∧ A = .pr B C := by
 cases A <;> simp [GT.ty] at h
 exact ⟨_, _, h.1, h.2, rfl⟩
inductive Sm : Nat → GE → GE → Prop
 | refl {e} : Sm 0 e e
 | step {n a b c} : GS a b → Sm n b c → Sm (n + 1) a c
inductive Bl : GE → Int → Prop
 | app1 {f a L} : Bl f L → Bl (.app f a) L
 | app2 {f a L} : GV f → Bl a L → Bl (.app f a) L
 | ar1 {s a b L} : Bl a L → Bl (.ar s a b) L
 | ar2 {s a b L} : GV a → Bl b L → Bl (.ar s a b) L
 | ite1 {c a b L} : Bl c L → Bl (.ite c a b) L
 | pair1 {a b L} : Bl a L → Bl (.pair a b) L
 | pair2 {a b L} : GV a → Bl b L → Bl (.pair a b) L
 | part1 {s e L} : Bl e L → Bl (.part s e) L
 | cast1 {A B l e L} : Bl e L → Bl (.cast A B l e) L
 | fail {G H l m w} : GV w → G.Gd → H.Gd → G ≠ H → Bl (.cast .any G l (.cast H .any m w)) l
section
variable {k : Int} {nm : ByteArray} {num : Int} {ty fr : Ty} {lb : Int} {a b : Tm} {l : Int}
end
def GT.cp : GT → Prop
 | .fn _ _ => True
 | .pr _ _ => True
 | _ => False
def A9v : List Int → GE → GE
 | [], y => y
 | k :: ks, y => .cast .any .any k (A9v ks y)
inductive HR : GC → GE → GE → GT → Prop
 | var {Γ x A} : Γ x = some (A, A) → HR Γ (.var x) (.var x) A
 | num {Γ n} : HR Γ (.num n) (.num n) .int
 | tru {Γ b} : HR Γ (.tru b) (.tru b) .bool
 | lam {Γ x A B e e'} : HR (Y0 Γ x A A) e e' B → HR Γ (.lam x A e) (.lam x A e') (.fn A B)
 | app {Γ f f' a a' A B} : HR Γ f f' (.fn A B) → HR Γ a a' A → HR Γ (.app f a) (.app f' a') B
 | ar {Γ s a a' b b'} : HR Γ a a' .int → HR Γ b b' .int → HR Γ (.ar s a b) (.ar s a' b') (if s = true then .bool else .int)
 | ite {Γ c c' a a' b b' A} : HR Γ c c' .bool → HR Γ a a' A → HR Γ b b' A → HR Γ (.ite c a b) (.ite c' a' b') A
 | pair {Γ a a' b b' A B} : HR Γ a a' A → HR Γ b b' B → HR Γ (.pair a b) (.pair a' b') (.pr A B)
 | part {Γ s e e' A B} : HR Γ e e' (.pr A B) → HR Γ (.part s e) (.part s e') (if s = true then B else A)
 | cast {Γ e x A B l} : HR Γ e x A → Co A B → HR Γ (.cast A B l e) (.cast A B l x) B
 | idR {Γ e x A l} : HR Γ e x A → HR Γ e (.cast A A l x) A
 | idL {Γ e x A l} : HR Γ e x A → HR Γ (.cast A A l e) x A
 | back {Γ e x B l m} (ks : List Int) : HR Γ e x B → HR Γ e (.cast .any B l (A9v ks (.cast B .any m x))) B
 | backG {Γ e x B l m} : HR Γ e x B → B.cp → HR Γ e (.cast B.gr B l (.cast B B.gr m x)) B
 | dyn {Γ e x A B l} : HR Γ e x A → Co A B → HR Γ (.cast A B l e) (.cast .any B l (.cast A .any l x)) B
 | dynG {Γ e x A B l} : HR Γ e x A → Co A B → A.cp → B.cp → HR Γ (.cast A B l e) (.cast B.gr B l (.cast A A.gr l x)) B
 | dynU {Γ e x A B l} : HR Γ e x A → Co A B → A.cp → HR Γ (.cast A B l e) (.cast .any B l (.cast A.gr .any l (.cast A A.gr l x))) B
inductive WT : GC → GE → GT → Prop
 | var {Γ x A} : Γ x = some (A, A) → WT Γ (.var x) A
 | num {Γ n} : WT Γ (.num n) .int
 | tru {Γ b} : WT Γ (.tru b) .bool
 | lam {Γ x A B e} : WT (Y0 Γ x A A) e B → WT Γ (.lam x A e) (.fn A B)
 | app {Γ f a A B} : WT Γ f (.fn A B) → WT Γ a A → WT Γ (.app f a) B
 | ar {Γ s a b} : WT Γ a .int → WT Γ b .int → WT Γ (.ar s a b) (if s = true then .bool else .int)
 | ite {Γ c a b A} : WT Γ c .bool → WT Γ a A → WT Γ b A → WT Γ (.ite c a b) A
 | pair {Γ a b A B} : WT Γ a A → WT Γ b B → WT Γ (.pair a b) (.pr A B)
 | part {Γ s e A B} : WT Γ e (.pr A B) → WT Γ (.part s e) (if s = true then B else A)
 | cast {Γ e A B l} : WT Γ e A → Co A B → WT Γ (.cast A B l e) B
theorem B4n : ∀ (t : Tm) (d : Int) (cx : Cx) (Γ : GC) (T : Ty), N1 40 13 t d = true → CxR cx cx Γ → M1 cx t = some T → ∃ (g : GE) (A : GT), t = g.tm ∧ T = A.ty ∧ WT Γ g A := by
 refine Tm.ind fun k nm num ty fr lb ks ih d cx Γ T hs hcx hT => ?_
 obtain ⟨n1, n2, n3, n4, n5, n6, n7, n8, n9⟩ := A9t hs
 have hk : 1 ≤ k ∧ k ≤ 14 := by
  apply Classical.byContradiction
  intro hk
  rw [A3E hk] at n1; omega
 have S := A9u n9
 by_cases h5 : k = 5
 ·subst h5
  obtain rfl := n4 zU
  obtain ⟨rfl, rfl⟩ := n8 zU
  obtain ⟨x, rfl⟩ := kl1 (l := ks) (by have : H8 5 = 1 := rfl; omega)
  obtain ⟨A, rfl⟩ := A0V ty (n5 (.inl rfl))
  obtain ⟨B, hB, rfl⟩ := B2N hT
  obtain ⟨g, B', rfl, rfl, hp⟩ := ih x List.mem_cons_self (d + 1) _ _ B (S x List.mem_cons_self) (B37 hcx (Le.refl (a := A)) nm) hB
  exact ⟨.lam nm A g, .fn A B', rfl, rfl, .lam hp⟩
 have I : ∀ t ∈ ks, ∀ T, M1 cx t = some T → ∃ (g : GE) (A : GT), t = g.tm ∧ T = A.ty ∧ WT Γ g A := fun t ht T h => ih t ht (d + 1) cx Γ T (S t ht) hcx h
 by_cases h14 : k = 14
 ·subst h14
  obtain rfl := n4 zU
  obtain rfl := n3 zU
  obtain ⟨x, rfl⟩ := kl1 (l := ks) (by have : H8 14 = 1 := rfl; omega)
  obtain ⟨B, rfl⟩ := A0V ty (n5 (.inr rfl))
  obtain ⟨h1, rfl⟩ := B2L hT
  obtain ⟨g, A, rfl, rfl, hp⟩ := I x List.mem_cons_self _ h1
  have hc : Co A B := by
   have := (n7 rfl).1
   unfold A0a at this
   simp only [Bool.and_eq_true] at this
   exact (A5Q A B).1 this.2
  exact ⟨.cast A B lb g, B, rfl, rfl, .cast hp hc⟩
 obtain ⟨rfl, rfl⟩ := n8 h14
 obtain rfl := n6 zV
 by_cases h1 : k = 1
 ·subst h1
  obtain rfl := n4 zU
  obtain rfl : ks = [] := List.length_eq_zero_iff.1 (by have : H8 1 = 0 := rfl; omega)
  obtain ⟨A, A', rfl, h2, h3, h4⟩ := hcx _ _ (A8o hT)
  have h5 := A8o hT
  rw [h2] at h5
  obtain rfl := GT.inj (Option.some.inj h5)
  exact ⟨.var nm, A', rfl, rfl, .var h3⟩
 obtain rfl := n3 zV
 by_cases h2 : k = 2
 ·subst h2
  obtain rfl : ks = [] := List.length_eq_zero_iff.1 (by have : H8 2 = 0 := rfl; omega)
  obtain rfl := B2O hT
  exact ⟨.num num, .int, rfl, rfl, .num⟩
 obtain rfl := n4 h2
 by_cases h34 : k = 3 ∨ k = 4
 ·obtain ⟨b, rfl⟩ : ∃ b : Bool, k = if b = true then 3 else 4 := by rcases h34 with h | h; exact ⟨true, h⟩; exact ⟨false, h⟩
  obtain rfl : ks = [] := List.length_eq_zero_iff.1 (by have : H8 (if b = true then 3 else 4) = 0 := (by cases b <;> rfl); omega)
  obtain rfl := B2P h34 hT
  exact ⟨.tru b, .bool, rfl, rfl, .tru⟩
 by_cases h6 : k = 6
 ·subst h6
  obtain ⟨x, y, rfl⟩ := kl2 (l := ks) (by have : H8 6 = 2 := rfl; omega)
  obtain ⟨A, h1, h2⟩ := B2G hT
  obtain ⟨g, U, rfl, hU, hp⟩ := I x zW _ h1
  obtain ⟨B, C, rfl, rfl, rfl⟩ := B4l hU
  obtain ⟨g2, U, rfl, hU2, hp2⟩ := I y zW _ h2
  obtain rfl := GT.inj hU2
  exact ⟨.app g g2, C, rfl, rfl, .app hp hp2⟩
 by_cases h78 : k = 7 ∨ k = 8
 ·obtain ⟨b, rfl⟩ : ∃ b : Bool, k = if b = true then 8 else 7 := by rcases h78 with h | h; exact ⟨false, h⟩; exact ⟨true, h⟩
  obtain ⟨x, y, rfl⟩ := kl2 (l := ks) (by have : H8 (if b = true then 8 else 7) = 2 := (by cases b <;> rfl); omega)
  obtain ⟨h1, h2, rfl⟩ := B2H h78 hT
  obtain ⟨g, U, rfl, hU, hp⟩ := I x zW _ h1
  obtain rfl : U = .int := GT.inj (b := .int) hU.symm
  obtain ⟨g2, U, rfl, hU2, hp2⟩ := I y zW _ h2
  obtain rfl : U = .int := GT.inj (b := .int) hU2.symm
  exact ⟨.ar b g g2, if b = true then .bool else .int, rfl, by cases b <;> rfl, .ar hp hp2⟩
 by_cases h9 : k = 9
 ·subst h9
  obtain ⟨x, y, z, rfl⟩ := kl3 (l := ks) (by have : H8 9 = 3 := rfl; omega)
  obtain ⟨h1, h2, h3⟩ := B2I hT
  obtain ⟨g, U, rfl, hU, hp⟩ := I x zW _ h1
  obtain rfl : U = .bool := GT.inj (b := .bool) hU.symm
  obtain ⟨g2, U, rfl, rfl, hp2⟩ := I y zW _ h2
  obtain ⟨g3, V, rfl, hV, hp3⟩ := I z zW _ h3
  obtain rfl := GT.inj hV
  exact ⟨.ite g g2 g3, U, rfl, rfl, .ite hp hp2 hp3⟩
 by_cases h10 : k = 10
 ·subst h10
  obtain ⟨x, y, rfl⟩ := kl2 (l := ks) (by have : H8 10 = 2 := rfl; omega)
  obtain ⟨A, B, h1, h2, rfl⟩ := B2J hT
  obtain ⟨g, U, rfl, rfl, hp⟩ := I x zW _ h1
  obtain ⟨g2, V, rfl, rfl, hp2⟩ := I y zW _ h2
  exact ⟨.pair g g2, .pr U V, rfl, rfl, .pair hp hp2⟩
 have h11 : k = 11 ∨ k = 12 := by omega
 obtain ⟨b, rfl⟩ : ∃ b : Bool, k = if b = true then 12 else 11 := by rcases h11 with h | h; exact ⟨false, h⟩; exact ⟨true, h⟩
 obtain ⟨x, rfl⟩ := kl1 (l := ks) (by have : H8 (if b = true then 12 else 11) = 1 := (by cases b <;> rfl); omega)
 obtain ⟨A, B, h1, rfl⟩ := B2K h11 hT
 obtain ⟨g, U, rfl, hU, hp⟩ := I x zW _ h1
 obtain ⟨B', C, rfl, rfl, rfl⟩ := B4m hU
 exact ⟨.part b g, if b = true then C else B', rfl, by cases b <;> rfl, .part hp⟩
def gbk (A B : GT) (l : Int) (a : GE) : GE := if M5 A.ty B.ty = true then a else match a with
 | .cast C D m x => if A.ty.k = 1 ∧ D.ty.k = 1 ∧ M5 B.ty C.ty = true then x else .cast A B l (.cast C D m x)
 | a => .cast A B l a
def GE.simp : GE → GE
 | .var x => .var x
 | .num n => .num n
 | .tru b => .tru b
 | .lam x A e => .lam x A e.simp
 | .app f a => .app f.simp a.simp
 | .ar s a b => .ar s a.simp b.simp
 | .ite c a b => .ite c.simp a.simp b.simp
 | .pair a b => .pair a.simp b.simp
 | .part s e => .part s e.simp
 | .cast A B l e => gbk A B l e.simp
def GE.dynm : GE → GE
 | .var x => .var x
 | .num n => .num n
 | .tru b => .tru b
 | .lam x A e => .lam x A e.dynm
 | .app f a => .app f.dynm a.dynm
 | .ar s a b => .ar s a.dynm b.dynm
 | .ite c a b => .ite c.dynm a.dynm b.dynm
 | .pair a b => .pair a.dynm b.dynm
 | .part s e => .part s e.dynm
 | .cast A B l e => if A.ty.k = 1 ∨ B.ty.k = 1 then .cast A B l e.dynm else .cast .any B l (.cast A .any l e.dynm)
def B4o (t : Tm) : Tm := if t.k ≠ 14 then t else if M5 t.fr t.ty = true then kd t.ks 0 else if t.fr.k = 1 ∧ (kd t.ks 0).k = 14 ∧ (kd t.ks 0).ty.k = 1 ∧ M5 t.ty (kd t.ks 0).fr = true then kd (kd t.ks 0).ks 0 else t
def B5l (t : Tm) : Tm := if t.k ≠ 14 ∨ t.fr.k = 1 ∨ t.ty.k = 1 then t else P3 (P3 (kd t.ks 0) t.fr P7 t.lb) P7 t.ty t.lb
section
variable {cx : Cx} {k : Int} {nm : ByteArray} {num : Int} {ty fr : Ty} {lb : Int} {a b c a' b' c' : Tm} {T : Ty}
end
section
variable {D N : Int} {k : Int} {nm : ByteArray} {num : Int} {ty fr : Ty} {lb : Int} {a b c a' b' c' : Tm} {d d' : Int}
end
def Agr (a b : Tm) (n m : Int) : Prop := (X2 a n).2.1 = 4 ∨ (X2 a n).2.1 = 5 ∨ (X2 b m).2.1 = 4 ∨ (X2 b m).2.1 = 5 ∨
 ((X2 a n).2.1 = 0 ∧ (X2 b m).2.1 = 0 ∧ A4g (X2 a n).1 = A4g (X2 b m).1) ∨
 ((X2 a n).2.1 = 2 ∧ (X2 b m).2.1 = 2 ∧ (X2 a n).2.2 = (X2 b m).2.2)
def B5m (e : Tm) : Tm × Bool := if T5 e = true then (A1v B4o e, true) else (P2, false)
def GE.th : GE → TH
 | .var x => .var x
 | .num n => .num n
 | .tru b => .tru b
 | .lam x A e => .lam x A e.th
 | .app f a => .app f.th a.th
 | .ar s a b => .ar s a.th b.th
 | .ite c a b => .ite c.th a.th b.th
 | .pair a b => .pair a.th b.th
 | .part s e => .part s e.th
 | .cast A B l e => .conv (kc A B l) e.th
def GE.lk : GE → Prop
 | .var _ => True
 | .num n => 0 ≤ n ∧ n ≤ 999
 | .tru _ => True
 | .lam _ _ e => e.lk
 | .app f a => f.lk ∧ a.lk
 | .ar _ a b => a.lk ∧ b.lk
 | .ite c a b => c.lk ∧ a.lk ∧ b.lk
 | .pair a b => a.lk ∧ b.lk
 | .part _ e => e.lk
 | .cast _ _ l e => l ≠ 0 ∧ e.lk
theorem B4p {Γ : GC} {g : GE} {A : GT} (h : WT Γ g A) : g.lk → ST Γ g.th A := by
 induction h with
 | var h => intro _; exact .var h
 | num => intro _; exact .num
 | tru => intro _; exact .tru
 | lam _ i => intro h; exact .lam (i h)
 | app _ _ i j => intro h; exact .app (i h.1) (j h.2)
 | ar _ _ i j => intro h; exact .ar (i h.1) (j h.2) rfl
 | ite _ _ _ i j k => intro h; exact .ite (i h.1) (j h.2.1) (k h.2.2)
 | pair _ _ i j => intro h; exact .pair (i h.1) (j h.2)
 | part _ i => intro h; exact .part (i h) rfl
 | cast _ hc i => intro h; exact .conv (i h.2) (B1o hc _ h.1)
theorem B4q : ∀ {g : GE}, g.lk → g.th.nk := by
 intro g
 induction g with
 | var x => exact fun h => h
 | num n => exact fun h => h
 | tru b => exact fun h => h
 | lam x A e i => exact fun h => i h
 | app f a i j => exact fun h => ⟨i h.1, j h.2⟩
 | ar s a b i j => exact fun h => ⟨i h.1, j h.2⟩
 | ite c a b i j k => exact fun h => ⟨i h.1, j h.2.1, k h.2.2⟩
 | pair a b i j => exact fun h => ⟨i h.1, j h.2⟩
 | part s e i => exact fun h => i h
 | cast A B l e i => exact fun h => i h.2
theorem B4r : ∀ (g : GE), cv g.tm → g.lk := by
 intro g
 induction g with
 | var x => exact fun _ => trivial
 | num n => exact fun h => h.node.1.num0
 | tru b => exact fun _ => trivial
 | lam x A e i => exact fun h => i (h.node.2 _ List.mem_cons_self)
 | app f a i j => exact fun h => ⟨i (h.node.2 _ List.mem_cons_self), j (h.node.2 _ (List.mem_cons_of_mem _ List.mem_cons_self))⟩
 | ar s a b i j => exact fun h => ⟨i (h.node.2 _ List.mem_cons_self), j (h.node.2 _ (List.mem_cons_of_mem _ List.mem_cons_self))⟩
 | ite c a b i j k => exact fun h => ⟨i (h.node.2 _ List.mem_cons_self), j (h.node.2 _ (List.mem_cons_of_mem _ List.mem_cons_self)), k (h.node.2 _ (List.mem_cons_of_mem _ (List.mem_cons_of_mem _ List.mem_cons_self)))⟩
 | pair a b i j => exact fun h => ⟨i (h.node.2 _ List.mem_cons_self), j (h.node.2 _ (List.mem_cons_of_mem _ List.mem_cons_self))⟩
 | part s e i => exact fun h => i (h.node.2 _ List.mem_cons_self)
 | cast A B l e i =>
  intro h
  refine ⟨?_, i (h.node.2 _ List.mem_cons_self)⟩
  obtain ⟨d, h⟩ := h
  have := ((A9t h).2.2.2.2.2.2.1 rfl).2
  simp only [A0b, Bool.or_eq_true, A2t] at this
  omega
def TH.z : TH → Nat
 | .lam _ _ e => e.z + 1
 | .app f a => f.z + a.z + 1
 | .ar _ a b => a.z + b.z + 1
 | .ite c a b => c.z + a.z + b.z + 1
 | .pair a b => a.z + b.z + 1
 | .part _ e => e.z + 1
 | .conv _ e => e.z + 1
 | _ => 1
theorem TH.z_pos (t : TH) : 1 ≤ t.z := by cases t <;> simp [TH.z]
theorem A9w : ∀ t : TH, t.nt.sz = t.z := by
 intro t
 induction t with
 | lam x A e i => simp only [TH.nt, Nt.sz, Nt.szL, TH.z]; omega
 | app f a i j => simp only [TH.nt, Nt.sz, Nt.szL, TH.z]; omega
 | ar s f a i j => simp only [TH.nt, Nt.sz, Nt.szL, TH.z]; omega
 | ite c f a i j k => simp only [TH.nt, Nt.sz, Nt.szL, TH.z]; omega
 | pair f a i j => simp only [TH.nt, Nt.sz, Nt.szL, TH.z]; omega
 | part s e i => simp only [TH.nt, Nt.sz, Nt.szL, TH.z]; omega
 | conv c e i => simp only [TH.nt, Nt.sz, Nt.szL, TH.z]; omega
 | _ => simp only [TH.nt, Nt.sz, Nt.szL, TH.z]
theorem B4s : ∀ g : GE, J1 g.tm = g.th.z := by
 intro g
 induction g with
 | lam x A e i => simp only [GE.tm, GE.th, J1, I4, TH.z]; omega
 | app f a i j => simp only [GE.tm, GE.th, J1, I4, TH.z]; omega
 | ar s f a i j => simp only [GE.tm, GE.th, J1, I4, TH.z]; omega
 | ite c f a i j k => simp only [GE.tm, GE.th, J1, I4, TH.z]; omega
 | pair f a i j => simp only [GE.tm, GE.th, J1, I4, TH.z]; omega
 | part s e i => simp only [GE.tm, GE.th, J1, I4, TH.z]; omega
 | cast A B l e i => simp only [GE.tm, GE.th, J1, I4, TH.z]; omega
 | _ => simp only [GE.tm, GE.th, J1, I4, TH.z]
theorem B4t (x : ByteArray) (v : TH) : ∀ t : TH, (t.sub x v).z ≤ t.z * v.z := by
 have hv := v.z_pos
 have one : ∀ a : Nat, 1 ≤ a → a ≤ a * v.z := fun a _ => Nat.le_mul_of_pos_right a hv
 intro t
 induction t with
 | var y => rw [TH.sub]; split; simp [TH.z]; simp [TH.z]; omega
 | num n => simp [TH.sub, TH.z]; omega
 | tru n => simp [TH.sub, TH.z]; omega
 | lam y A e i =>
  rw [TH.sub]
  split
  ·exact one _ (TH.z_pos _)
  ·simp only [TH.z, Nat.add_mul, Nat.one_mul]; omega
 | app f a i j => simp only [TH.sub, TH.z, Nat.add_mul, Nat.one_mul]; omega
 | ar s f a i j => simp only [TH.sub, TH.z, Nat.add_mul, Nat.one_mul]; omega
 | ite c f a i j k => simp only [TH.sub, TH.z, Nat.add_mul, Nat.one_mul]; omega
 | pair f a i j => simp only [TH.sub, TH.z, Nat.add_mul, Nat.one_mul]; omega
 | part s e i => simp only [TH.sub, TH.z, Nat.add_mul, Nat.one_mul]; omega
 | conv c e i => simp only [TH.sub, TH.z, Nat.add_mul, Nat.one_mul]; omega
theorem B4u {x : ByteArray} {v : TH} (hv : v.nk) : ∀ {t : TH}, t.nk → (t.sub x v).nk := by
 intro t
 induction t with
 | var y => intro _; rw [TH.sub]; split; exact hv; trivial
 | num n => exact fun h => h
 | tru b => exact fun h => h
 | lam y A e i => intro h; rw [TH.sub]; split; exact h; exact i h
 | app f a i j => exact fun h => ⟨i h.1, j h.2⟩
 | ar s a b i j => exact fun h => ⟨i h.1, j h.2⟩
 | ite c a b i j k => exact fun h => ⟨i h.1, j h.2.1, k h.2.2⟩
 | pair a b i j => exact fun h => ⟨i h.1, j h.2⟩
 | part s e i => exact fun h => i h
 | conv c e i => exact fun h => i h
def zb (n : Nat) : Nat := n * n + n + 5
theorem A1n {a b c a' c0' : Nat} (h : a ≤ zb b) (c0 : b + c ≤ c0') (h1 : a' ≤ a + c) : a' ≤ zb c0' := by
 have : zb b + c ≤ zb (b + c) := by
  unfold zb
  have : (b + c) * (b + c) = b * b + b * c + (c * b + c * c) := by rw [Nat.add_mul, Nat.mul_add, Nat.mul_add]
  omega
 have h2 : zb (b + c) ≤ zb c0' := by
  unfold zb
  have := Nat.mul_le_mul c0 c0
  omega
 omega
theorem A1D (n : Nat) : n + 5 ≤ zb n := by unfold zb; omega
theorem Y4 {t : TH} : TH.nul.nk ∧ TH.nul.z ≤ zb t.z := ⟨⟨by decide, by decide⟩, by have := A1D t.z; simp only [TH.nul, TH.z]; omega⟩
theorem A9x : ∀ (t : TH), t.nk → t.stp.1.nk ∧ t.stp.1.z ≤ zb t.z := by
 intro t
 induction t with
 | var x => intro _; exact Y4
 | num n => intro _; exact Y4
 | tru b => intro _; exact Y4
 | lam x A e _ => intro _; exact Y4
 | app f a i j =>
  intro h
  rw [TH.stp]
  split
  ·exact ⟨⟨(i h.1).1, h.2⟩, A1n (i h.1).2 (c := a.z + 1) (by simp only [TH.z]; omega) (by simp only [S9, TH.z]; omega)⟩
  ·split
   ·exact ⟨⟨h.1, (j h.2).1⟩, A1n (j h.2).2 (c := f.z + 1) (by simp only [TH.z]; omega) (by simp only [S9, TH.z]; omega)⟩
   ·cases f with
    | lam x A b =>
     refine ⟨B4u h.2 h.1, ?_⟩
     have h1 := B4t x a b
     have h2 : b.z * a.z ≤ (b.z + 1 + a.z + 1) * (b.z + 1 + a.z + 1) := Nat.mul_le_mul zV zV
     show (b.sub x a).z ≤ zb (b.z + 1 + a.z + 1)
     unfold zb
     omega
    | conv c e =>
     cases c with
     | fn c d =>
      cases e with
      | lam x A b =>
       refine ⟨⟨h.1, h.2⟩, ?_⟩
       have := A1D (TH.app (.conv (.fn c d) (.lam x A b)) a).z
       simp only [apS, TH.z] at this ⊢
       omega
      | _ => exact Y4
     | _ => exact Y4
    | _ => exact Y4
 | ar s a b i j =>
  intro h
  rw [TH.stp]
  split
  ·exact ⟨⟨(i h.1).1, h.2⟩, A1n (i h.1).2 (c := b.z + 1) (by simp only [TH.z]; omega) (by simp only [S9, TH.z]; omega)⟩
  ·split
   ·exact ⟨⟨h.1, (j h.2).1⟩, A1n (j h.2).2 (c := a.z + 1) (by simp only [TH.z]; omega) (by simp only [S9, TH.z]; omega)⟩
   ·cases a with
    | num m =>
     cases b with
     | num n =>
      have := A1D (TH.ar s (.num m) (.num n)).z
      cases s with
      | true => exact ⟨trivial, by simp only [arS, arT, if_true, TH.z] at this ⊢; omega⟩
      | false => exact ⟨by simp only [arS, arT, Bool.false_eq_true, if_false, TH.nk]; omega, by simp only [arS, arT, Bool.false_eq_true, if_false, TH.z] at this ⊢; omega⟩
     | _ => exact Y4
    | _ => exact Y4
 | ite c a b i _ _ =>
  intro h
  rw [TH.stp]
  split
  ·exact ⟨⟨(i h.1).1, h.2⟩, A1n (i h.1).2 (c := a.z + b.z + 1) (by simp only [TH.z]; omega) (by simp only [S9, TH.z]; omega)⟩
  ·cases c with
   | tru m =>
    have := A1D (TH.ite (.tru m) a b).z
    cases m with
    | true => exact ⟨h.2.1, by simp only [itS, if_true, TH.z] at this ⊢; omega⟩
    | false => exact ⟨h.2.2, by simp only [itS, Bool.false_eq_true, if_false, TH.z] at this ⊢; omega⟩
   | _ => exact Y4
 | pair f a i j =>
  intro h
  rw [TH.stp]
  split
  ·exact ⟨⟨(i h.1).1, h.2⟩, A1n (i h.1).2 (c := a.z + 1) (by simp only [TH.z]; omega) (by simp only [S9, TH.z]; omega)⟩
  ·exact ⟨⟨h.1, (j h.2).1⟩, A1n (j h.2).2 (c := f.z + 1) (by simp only [TH.z]; omega) (by simp only [S9, TH.z]; omega)⟩
 | part s e i =>
  intro h
  rw [TH.stp]
  split
  ·exact ⟨(i h).1, A1n (i h).2 (c := 1) (by simp only [TH.z]; omega) (by simp only [S9, TH.z]; omega)⟩
  ·cases e with
   | pair a b =>
    have := A1D (TH.part s (.pair a b)).z
    cases s with
    | true => exact ⟨h.2, by simp only [ptS, if_true, TH.z] at this ⊢; omega⟩
    | false => exact ⟨h.1, by simp only [ptS, Bool.false_eq_true, if_false, TH.z] at this ⊢; omega⟩
   | conv c e =>
    cases c with
    | pr c d =>
     cases e with
     | pair a b => exact ⟨h, by have := A1D (TH.part s (.conv (.pr c d) (.pair a b))).z; simp only [ptS, TH.z] at this ⊢; omega⟩
     | _ => exact Y4
    | _ => exact Y4
   | _ => exact Y4
 | conv c e i =>
  intro h
  rw [TH.stp]
  by_cases hc : e.cnv = false
  ·rw [T6 hc]
   split
   ·exact ⟨(i h).1, A1n (i h).2 (c := 1) (by simp only [TH.z]; omega) (by simp only [S9, TH.z]; omega)⟩
   ·have := A1D (TH.conv c e).z
    cases c <;> first | exact Y4 | exact ⟨h, by simp only [plS, TH.z] at this ⊢; omega⟩
  ·cases e with
   | conv c0 u =>
    show (cvS c (.conv c0 u) _).1.nk ∧ _
    rw [cvS]
    split
    ·exact ⟨h, by have := A1D (TH.conv c (.conv c0 u)).z; simp only [TH.z] at this ⊢; omega⟩
    ·exact Y4
   | _ => exact absurd rfl hc
abbrev SRn := ByteArray × Int × Int
def U6 : Nat → TH → SRn
 | 0, t => if t.val = true then (t.tx, 0, 0) else if t.stp.2.1 ≠ 1 then (⟨⟨[]⟩⟩, t.stp.2.1, t.stp.2.2) else if 200 < t.stp.1.z then (⟨⟨[]⟩⟩, 4, 0) else (⟨⟨[]⟩⟩, 5, 0)
 | n + 1, t => if t.val = true then (t.tx, 0, 0) else if t.stp.2.1 ≠ 1 then (⟨⟨[]⟩⟩, t.stp.2.1, t.stp.2.2) else if 200 < t.stp.1.z then (⟨⟨[]⟩⟩, 4, 0) else U6 n t.stp.1
end Gw
end Go.Proofs.YtmceanphadildaaGreatDoor
