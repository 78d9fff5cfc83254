/-
  The reference model's drawn terms.
-/
import Derived.Test.YtmceanphadildaaGreatDoorKa2
import Derived.Test.YtmceanphadildaaGreatDoorKa1
import Derived.Laws.Slices
set_option linter.unusedVariables false
set_option linter.unusedSimpArgs false
set_option maxHeartbeats 0
set_option maxRecDepth 100000
set_option synthInstance.maxSize 4000
set_option synthInstance.maxHeartbeats 0
namespace Go.Proofs.YtmceanphadildaaGreatDoor
open Go Go.RowKit
namespace Gw
theorem y10 {p : Prop} (h : p := by
  refine A1 8 ?_
  refine N9 rfl rfl rfl rfl rfl rfl rfl rfl zU zO (by rfl) ?_
  refine B3 ?_
  (have hr1' := hr1; refine A0y zN (fun G5 hle5 hsl5 hno5 => ?_); have hRT : B8 G5 (.mk k [.mk ak aks, .mk bk bks]) _ := E9.ty (ts := [.mk ak aks, .mk bk bks]) (es := [[.int .i64 ak, .slice p1 aks.length c1], [.int .i64 bk, .slice p2 bks.length c2]]) ⟨_, _, rfl, hr1.mono hle5, _, _, rfl, hr2.mono hle5, rfl⟩ rfl hsl5 hki; have hV := A0I _ G5 _ hRT; refine D2 D3 rfl ?_)
  refine M3 (i := 0) (l' := [tt,ff,ff,ff,ff]) rfl C8 (A3 rfl rfl) rfl zU rfl rfl ?_
  refine aL 1 rfl (A3 rfl rfl) rfl ?_
  refine A1 2 ?_
  refine L1 rfl rfl (hV) rfl rfl rfl ?_
  refine A1 3 ?_
  refine N9 rfl rfl rfl rfl rfl rfl rfl rfl zU zO (by rfl) ?_
  refine aP 4 rfl (qA rfl) rfl ?_
  refine B3 ?_
  refine E0 (rC rfl (A3 rfl rfl)) (rT rfl) ?_
  (exact ⟨rfl, _, _, _, rfl, hRT, A10 hk ha hb, by rw [A41]; omega⟩)
) : p := h
theorem y11 {p : Prop} (h : p := by
  refine E0 (rC rfl (A3 rfl rfl)) (rT rfl) ?_
  (exact ⟨rfl, _, _, _, rfl, J8 _ ⟨by omega, by omega⟩, M6 zW zW, by rw [X5]; omega⟩)
) : p := h
theorem y12 {p : Prop} (h : p := by
  refine A1 7 ?_
  (refine T9 rfl rfl rfl rfl rfl rfl (fun _ _ => by repeat (first | exact Sw.here | apply Sw.there)) (R2 zP) rfl zQ zR zW rfl rfl zG (fun p5 c5 => ?_))
  refine aP 8 rfl (qA rfl) rfl ?_
  refine A4 ?_
  (refine F6 (cs := es.flatten ++ [.string nm, .int .i64 k, .slice q ks.length d]) zN (fun G5 hle5 hsl5 hno5 => ?_))
  refine A4 ?_
  (exact ⟨rfl, _, _, rfl, S4.snoc h1 h2 h3 hle5 (A6w (hr.mono hle5) ha hs hnm) hsl5⟩)
) : p := h
theorem y13 {p : Prop} (h : p := by
  refine A1 15 ?_
  refine E4 rfl ?_
  refine aP 16 rfl (qA rfl) rfl ?_
  refine P6 ?_
  (refine F9 rfl (A2B 4 (.mk tk tks) mt _ _ _ (.inl rfl) hta hma htyN hmr) rfl rfl (fun v G3 hle3 hh => ?_); obtain ⟨mt2, mc2, mx2, rfl, hmr2, hma2, hms2⟩ := hh; obtain ⟨p2, c2, e2, rfl, _⟩ := hmr2.open)
  refine D9 ?_
  refine E0 (rC rfl (A3 rfl rfl)) (rT rfl) ?_
  (exact ⟨rfl, _, _, _, rfl, hmr2, hma2, by omega⟩)
) : p := h
theorem y14 {p : Prop} (h : p := by
  refine aP 6 rfl (qM rfl) rfl ?_
  refine aP 7 rfl (qM rfl) rfl ?_
  refine aP 8 rfl (B1 (j := 1) rfl rfl rfl zW) rfl ?_
  refine aL 9 rfl (A5 rfl rfl (hat1 _) rfl) rfl ?_
  refine A1 10 ?_
  refine L1 rfl rfl ((V8 _)) rfl rfl rfl ?_
  refine A1 11 ?_
  refine L1 rfl rfl ((A05 ts[1] (.mk 2 []) _ _ _ (ha1 zW) (M6 zV zV) hre1 (J8 _ ⟨by omega, by omega⟩))) rfl rfl rfl ?_
  refine aP 12 rfl (M4 rfl rfl) rfl ?_
  refine A1 13 ?_
  refine E4 rfl ?_
  refine aP 14 rfl (qA rfl) rfl ?_
  refine A9 ?_
  exact y11
) : p := h
theorem y15 {p : Prop} (h : p := by
  refine aP 6 rfl (qM rfl) rfl ?_
  refine B9 7 rfl rfl rfl ?_
  refine B9 8 rfl rfl rfl ?_
  refine B9 9 rfl rfl rfl ?_
  refine B9 10 rfl rfl rfl ?_
  refine B9 11 rfl rfl rfl ?_
  refine aP 12 rfl (O2 rfl rfl) rfl ?_
  refine A1 13 ?_
  refine E4 rfl ?_
  refine aP 14 rfl (qA rfl) rfl ?_
  refine A9 ?_
  exact y11
) : p := h
def tB : Nat → Nat
 | 0 => 3
 | d + 1 => 3 * tB d + 20
theorem A86 (d : Nat) : 3 ≤ tB d := by cases d <;> simp only [tB] <;> omega
theorem B33 (br : Nat) (pb : Option Addr) (nb cb : Nat) (bs : List UInt8) (hnb : nb ≤ 2000) : ∀ (d p : Nat) (G : IM) (s : ByteArray), d ≤ 900 → s.size + d ≤ 950 → Sl G pb nb cb 1 (N5 bs) → p + tB d < 1099511627776 →
  Fn Tryz.prog 185 [.pointer (some ⟨br, 0, none⟩), .string s, .int .i64 ((d + 1 : Nat) : Int)] [rd br pb nb cb p] G
   (Y9 br pb nb cb p (tB d) (fun G' v => ∃ t cells, v = .agg ⟨cells⟩ ∧ B6 G' t cells ∧ A0f t ≤ ((tB d : Nat) : Int))) := by
 refine fun d => Nat.strongRecOn d fun d ih p G s hd hs hb hp => ?_
 have hge := A86 d
 refine C7 Tryz.func185 rfl Tryz.ntmps185 Tryz.results185 rfl ?_
 intro w0
 refine A4 ?_
 refine sE (A8 rfl) rfl (fun b3 => ?_)
 refine A7 ?_
 refine sB (K6 rfl rfl) rfl rfl (fun h10 => ?_) (fun h10 => ?_)
 ·refine N8 ?_
  (refine I0 rfl (A85 br pb nb cb bs hnb p _ hb zW s zW) (Pk.perm zN) rfl rfl (fun v Ga outs hlea hh => ?_); obtain ⟨pa, hpa1, hpa2, rfl, ta, cellsa, rfl, hra, hsa⟩ := hh; have hl9 := hra.len; have ho9 := hra.one)
  refine sS rfl rfl rfl hl9 ho9 rfl ?_ (hu := by exact C6 hl9.symm)
  refine C3 ?_
  refine H7 (outs := [rd br pb nb cb pa]) (rC rfl (A5 rfl rfl (B7 zP) hl9)) zH ?_
  (exact ⟨pa, by omega, by omega, rfl, ta, cellsa, rfl, hra, by omega⟩)
 ·refine A4 ?_
  (have hB4 : 4 ≤ tB d := (by obtain ⟨d1, rfl⟩ : ∃ d1, d = d1 + 1 := ⟨d - 1, by omega⟩; simp only [tB]; have := A86 d1; omega); refine I0 rfl (S2 _ br pb nb cb p bs _ hb hnb zW) (Pk.perm zN) rfl rfl (fun v33 G33 outs33 hle33 hh => ?_); obtain ⟨rfl, rfl, j33, rfl, hj33, hk33⟩ := hh)
  replace hb := hb.mono hle33
  refine sB (qE rfl rfl) rfl rfl (fun h34 => ?_) (fun h34 => ?_)
  ·refine E7 ?_
   (refine I0 rfl (A85 br pb nb cb bs hnb (p + 1) _ hb zW s zW) (Pk.perm zN) rfl rfl (fun v Ga outs hlea hh => ?_); obtain ⟨pa, hpa1, hpa2, rfl, ta, cellsa, rfl, hra, hsa⟩ := hh; have hl9 := hra.len; have ho9 := hra.one)
   refine sS rfl rfl rfl hl9 ho9 rfl ?_ (hu := by exact C6 hl9.symm)
   refine C3 ?_
   refine H7 (outs := [rd br pb nb cb pa]) (rC rfl (A5 rfl rfl (B7 zP) hl9)) zH ?_
   (exact ⟨pa, by omega, by omega, rfl, ta, cellsa, rfl, hra, by omega⟩)
  ·refine D9 ?_
   (refine J1 (C9 rfl rfl rfl zW zR rfl) rfl ?_; rintro _ ⟨b60, rfl⟩)
   (refine S9 zN (fun Gf hlef hslf _ => ?_); refine I0 rfl (Z4 Gf br pb nb cb (p + 1) bs _ _ _ _ (hb.mono hlef) hnb zW hslf zV) (Pk.perm zN) rfl rfl (fun v Gk outs hlek hh => ?_); obtain ⟨rfl, rfl, hv⟩ := hh; replace hb := hb.mono hlef; obtain ⟨k, rfl, hk1, hk2⟩ : ∃ k, v = .int .i64 k ∧ 5 ≤ k ∧ k ≤ 13 := (by simp only [List.mem_cons, List.not_mem_nil, or_false] at hv; rcases hv with rfl | rfl | rfl | rfl | rfl | rfl | rfl | rfl | rfl | rfl | rfl <;> exact ⟨_, rfl, by decide, by decide⟩); obtain ⟨d1, rfl⟩ : ∃ d1, d = d1 + 1 := ⟨d - 1, by omega⟩; have hB : tB (d1 + 1) = 3 * tB d1 + 20 := rfl)
   refine B5 ?_
   refine sE (A8 rfl) rfl (fun b69 => ?_)
   refine B5 ?_
   refine sB (qE rfl rfl) rfl rfl (fun h77 => ?_) (fun h77 => ?_)
   ·refine A4 ?_
    (show I9 _ _ (.cond (.tmp 26) _ _) _ _; refine Z3 (fun (x : ByteArray × ByteArray × Nat × IM) => ⟨[(7, .int .i64 k), (8, .pointer (some ⟨b69, 0, none⟩)), (6, .pointer (some ⟨b3, 0, none⟩)), (0, .pointer (some ⟨br, 0, none⟩)), (1, .string x.2.1), (2, .int .i64 ((d1 + 1 + 1 : Nat) : Int))], [.blk b69 [.int .i64 k, .string x.1, .int .i64 0, .int .i64 0, .slice none 0 0, .int .i64 0, .slice none 0 0, .int .i64 0, .slice none 0 0], .blk b3 [.int .i64 0, .string ⟨⟨[]⟩⟩, .int .i64 0, .int .i64 0, .slice none 0 0, .int .i64 0, .slice none 0 0, .int .i64 0, .slice none 0 0], rd br pb nb cb x.2.2.1], x.2.2.2⟩) (fun x => C1 Gk x.2.2.2 ∧ x.1.size ≤ 1 ∧ x.2.1.size ≤ s.size + 1 ∧ p + 2 ≤ x.2.2.1 ∧ x.2.2.1 ≤ p + 3) ?_ ?_)
    ·refine C3 ?_
     (refine J1 (C9 rfl rfl rfl zW zR rfl) rfl ?_; rintro _ ⟨b85, rfl⟩)
     (refine S9 zN (fun Gf2 hlef2 hslf2 _ => ?_); refine I0 rfl (A6m Gf2 br pb nb cb (p + 1 + 1) bs _ _ _ _ (hb.mono hlef2) hnb zW hslf2 zV) (Pk.perm zN) rfl rfl (fun v Go outs hleo hh => ?_); obtain ⟨rfl, rfl, hv2⟩ := hh; obtain ⟨nmA, rfl, hnA⟩ : ∃ nm, v = .string nm ∧ nm.size ≤ 1 := (by simp only [List.mem_cons, List.not_mem_nil, or_false] at hv2; rcases hv2 with rfl | rfl | rfl | rfl <;> exact ⟨_, rfl, by decide⟩))
     refine E7 ?_
     (refine A4D rfl (B32 s nmA _ zW zW) rfl rfl (fun v Ga outs hlea hh => ?_); obtain ⟨rfl, rfl, sA, rfl, hsA⟩ := hh)
     refine A4 ?_
     refine P1 (nmA, sA, p + 1 + 1 + 1, Ga) (O3 zM zI) ?_
     (dsimp only; exact ⟨hlef2, hnA, by omega, by omega, by omega⟩)
    ·(rintro ⟨(nm : ByteArray), s', p1, G1⟩ ⟨hleA, hnm, hss, hpA, hpB⟩; simp only [] at hleA hnm hss hpA hpB ⊢; replace hb := hb.mono hleA; have hmark := hleA)
     refine A4 ?_
     (have hm' := hmark; refine Z3 (fun (x : Bool) => ⟨(40, .bool x) :: [(7, .int .i64 k), (8, .pointer (some ⟨b69, 0, none⟩)), (6, .pointer (some ⟨b3, 0, none⟩)), (0, .pointer (some ⟨br, 0, none⟩)), (1, .string s'), (2, .int .i64 ((d1 + 1 + 1 : Nat) : Int))], [.blk b69 [.int .i64 k, .string nm, .int .i64 0, .int .i64 0, .slice none 0 0, .int .i64 0, .slice none 0 0, .int .i64 0, .slice none 0 0], .blk b3 [.int .i64 0, .string ⟨⟨[]⟩⟩, .int .i64 0, .int .i64 0, .slice none 0 0, .int .i64 0, .slice none 0 0, .int .i64 0, .slice none 0 0], rd br pb nb cb p1], G1⟩) (fun x => True) ?_ ?_)
     ·refine A4 ?_
      refine sP (L9 rfl rfl zW) rfl rfl ?_
      refine A9 ?_
      refine P1 true (O3 zM zI) ?_
      trivial
     ·(rintro x _; clear hmark)
      (show I9 _ _ (.cond (.tmp 40) _ _) _ _; refine Z3 (fun (x : Ty × Option Addr × Nat × Nat × IM) => ⟨[(7, .int .i64 k), (8, .pointer (some ⟨b69, 0, none⟩)), (6, .pointer (some ⟨b3, 0, none⟩)), (0, .pointer (some ⟨br, 0, none⟩)), (1, .string s'), (2, .int .i64 ((d1 + 1 + 1 : Nat) : Int))], [.blk b69 [.int .i64 k, .string nm, .int .i64 0, .int .i64 x.1.k, .slice x.2.1 x.1.ks.length x.2.2.1, .int .i64 0, .slice none 0 0, .int .i64 0, .slice none 0 0], .blk b3 [.int .i64 0, .string ⟨⟨[]⟩⟩, .int .i64 0, .int .i64 0, .slice none 0 0, .int .i64 0, .slice none 0 0, .int .i64 0, .slice none 0 0], rd br pb nb cb x.2.2.2.1], x.2.2.2.2⟩) (fun x => C1 G1 x.2.2.2.2 ∧ B8 x.2.2.2.2 x.1 [.int .i64 x.1.k, .slice x.2.1 x.1.ks.length x.2.2.1] ∧ H6 x.1 ≤ 14 ∧ p1 ≤ x.2.2.2.1 ∧ x.2.2.2.1 ≤ p1 + 15) (A3C rfl (fun hxt => ?_) (fun hxf => ?_)) ?_)
      ·refine B3 ?_
       (refine J1 (C9 rfl rfl rfl zW zR rfl) rfl ?_; rintro _ ⟨b119, rfl⟩)
       (refine S9 zN (fun Gf hlef3 hslf _ => ?_); refine I0 rfl (Z4 Gf br pb nb cb p1 bs _ _ _ _ (hb.mono hlef3) hnb zW hslf zV) (Pk.perm zN) rfl rfl (fun v Gn outs hlen hh => ?_); obtain ⟨rfl, rfl, hv⟩ := hh; replace hb := hb.mono hlef3; obtain ⟨dd, rfl, hdd⟩ : ∃ d : Nat, v = .int .i64 ((d + 1 : Nat) : Int) ∧ d ≤ 2 := (by simp only [List.mem_cons, List.not_mem_nil, or_false] at hv; rcases hv with rfl | rfl | rfl | rfl <;> first | exact ⟨0, rfl, by decide⟩ | exact ⟨1, rfl, by decide⟩ | exact ⟨2, rfl, by decide⟩))
       (have hdB := A6s hdd; refine I0 rfl (A8Z br pb nb cb bs hnb dd (p1 + 1) _ zW hb zW) (Pk.perm zN) rfl rfl (fun v G3 outs hle3 hh => ?_); obtain ⟨p3, hp31, hp32, rfl, t3, cells3, rfl, hr3, hs3⟩ := hh; obtain ⟨q3, c3, es3, rfl, _⟩ := hr3.open)
       refine B3 ?_
       refine P1 (t3, q3, c3, p3, G3) (O3 zM zI) ?_
       (dsimp only; exact ⟨hlef3.trans hle3, hr3, by omega, by omega, by omega⟩)
      ·refine tK ?_
       refine P1 (B4, none, 0, p1, G1) (O3 zM zI) ?_
       (dsimp only; exact ⟨C1.refl _, A1Z _, by decide, by omega, by omega⟩)
      ·(rintro ⟨(t' : Ty), q', c', p2, G2⟩ ⟨hleB, hrB, hsB, hpC, hpD⟩; simp only [] at hleB hrB hsB hpC hpD ⊢; replace hb := hb.mono hleB; have hop := A1J k; have hK := A4U k)
       refine A7 ?_
       refine C2 ?_
       (refine X0 28 9 ?_; refine L4 (fun (x : Nat × Option Addr × Nat × List Tm × List (List Value) × Nat × IM) => ⟨[(9, .int .i64 x.1), (7, .int .i64 k), (8, .pointer (some ⟨b69, 0, none⟩)), (6, .pointer (some ⟨b3, 0, none⟩)), (0, .pointer (some ⟨br, 0, none⟩)), (1, .string s'), (2, .int .i64 ((d1 + 1 + 1 : Nat) : Int))], [.blk b69 [.int .i64 k, .string nm, .int .i64 0, .int .i64 t'.k, .slice q' t'.ks.length c', .int .i64 0, .slice none 0 0, .int .i64 0, .slice x.2.1 x.1 x.2.2.1], .slc x.2.1 x.2.2.1 28 9 x.1 x.2.2.2.2.1.flatten, rd br pb nb cb x.2.2.2.2.2.1, .blk b3 [.int .i64 0, .string ⟨⟨[]⟩⟩, .int .i64 0, .int .i64 0, .slice none 0 0, .int .i64 0, .slice none 0 0, .int .i64 0, .slice none 0 0]], x.2.2.2.2.2.2⟩) (fun x => ((x.1 : Int) ≤ F7 k ∨ x.1 = 0) ∧ C1 G2 x.2.2.2.2.2.2 ∧ x.2.2.2.1.length = x.1 ∧ H3 x.2.2.2.2.2.2 x.2.2.2.1 x.2.2.2.2.1 ∧ W4 x.2.2.2.1 ≤ ((x.1 * tB d1 : Nat) : Int) ∧ p2 ≤ x.2.2.2.2.2.1 ∧ x.2.2.2.2.2.1 ≤ p2 + x.1 * tB d1) (fun x => (F7 k).toNat - x.1) (0, none, 0, [], [], p2, G2) ?_ ?_ ?_)
       ·(simp only [J7]; exact E3)
       ·(exact ⟨.inr rfl, C1.refl _, rfl, by simp [H3], by simp [W4], by dsimp only; omega, by dsimp only; omega⟩)
       ·(rintro ⟨i, pn, cn, ts, es', p', Gi⟩ ⟨hi, hle, hlt, hst, hsum, hq1, hq2⟩; simp only [] at hi hle hlt hst hsum hq1 hq2 ⊢; have hid : i * tB d1 ≤ 3 * tB d1 := Nat.mul_le_mul_right _ zW)
        refine A9 ?_
        refine E6 rfl ((hK _)) rfl rfl ?_
        refine sB (K6 rfl rfl) rfl rfl (fun h148 => ?_) (fun h148 => ?_)
        ·refine A7 ?_
         refine C2 ?_
         (have hih := ih d1 zW p' Gi s' zW zW (hb.mono hle) (by have := Nat.mul_le_mul_right (tB d1) (show i + 1 ≤ 3 by omega); rw [Nat.succ_mul] at this; omega); refine D2 D3 rfl ?_)
         refine H1 (i := 0) (l' := [tt,ff,ff,ff,ff,ff,ff,ff,ff,ff,ff]) rfl C8 (C0 rfl) rfl zU rfl rfl ?_
         refine aL 1 rfl (D4 rfl rfl) rfl ?_
         refine aP 2 rfl (qM rfl) rfl ?_
         refine aP 3 rfl (qM rfl) rfl ?_
         refine aP 4 rfl (qM rfl) rfl ?_
         refine aP 5 rfl (A1e rfl rfl zW) rfl ?_
         refine A1 6 ?_
         (refine Z2 (l' := [tt,tt,tt,tt,tt,tt,tt,ff,ff,ff,ff]) rfl rfl hih (Pk.perm zN) rfl rfl rfl zG (fun v G3 outs hle3 hh => ?_); obtain ⟨p3, hp31, hp32, rfl, t3, cells3, rfl, hr3, hs3⟩ := hh; obtain ⟨qt, dt, et, qf, df, ef, q3, d3, es3, rfl, _⟩ := hr3.open)
         refine A1 7 ?_
         (refine D1 rfl (C9 rfl rfl rfl zW zR rfl) rfl rfl ?_; rintro _ ⟨b166, rfl⟩)
         refine A1 8 ?_
         refine T9 rfl rfl rfl rfl rfl rfl (fun _ _ => by repeat (first | exact Sw.here | apply Sw.there)) (R2 zP) rfl zQ zR zW rfl rfl zG (fun pn' cn' => ?_)
         refine aP 9 rfl (C0 rfl) rfl ?_
         refine A1 10 ?_
         refine N9 rfl rfl rfl rfl rfl rfl rfl rfl zU zO (by rfl) ?_
         refine A9 ?_
         refine sP (K9 rfl rfl zW zW) rfl rfl ?_
         refine A4 ?_
         refine K3 (i + 1, pn', cn', ts ++ [t3], es' ++ [[.int .i64 t3.k, .string t3.nm, .int .i64 t3.num, .int .i64 t3.ty.k, .slice qt t3.ty.ks.length dt, .int .i64 t3.fr.k, .slice qf t3.fr.ks.length df, .int .i64 t3.lb, .slice q3 t3.ks.length d3]], p3, G3) ?_ ?_ ?_
         ·(simp only [J7]; exact E3)
         ·(dsimp only; have e1 : (i + 1) * tB d1 = i * tB d1 + tB d1 := Nat.succ_mul _ _; have e2 := A6r ts t3; exact ⟨.inl zW, hle.trans hle3, by simp [hlt], H3.snoc (hst.mono hle3) hr3, by omega, by omega, by omega⟩)
         ·(show (F7 k).toNat - (i + 1) < (F7 k).toNat - i; omega)
        ·refine N1 ?_
         (refine F6 zN (fun G5 hle5 hsl5 hno5 => ?_))
         refine tT ?_
         refine H7 (outs := [rd br pb nb cb p']) (rC rfl (A3 rfl rfl)) zH ?_
         (refine ⟨p', by omega, by omega, rfl, .mk k nm 0 t' B4 0 ts, _, rfl, (hst.mono hle5).tm hlt hsl5 ⟨by omega, by omega⟩ ⟨by omega, by omega⟩ (hrB.mono (hle.trans hle5)), ?_⟩; rw [A0f, A6q]; omega)
   ·refine A4 ?_
    (show I9 _ _ (.cond (.tmp 26) _ _) _ _; refine Z3 (fun (x : ByteArray × ByteArray × Nat × IM) => ⟨[(7, .int .i64 k), (8, .pointer (some ⟨b69, 0, none⟩)), (6, .pointer (some ⟨b3, 0, none⟩)), (0, .pointer (some ⟨br, 0, none⟩)), (1, .string x.2.1), (2, .int .i64 ((d1 + 1 + 1 : Nat) : Int))], [.blk b69 [.int .i64 k, .string x.1, .int .i64 0, .int .i64 0, .slice none 0 0, .int .i64 0, .slice none 0 0, .int .i64 0, .slice none 0 0], .blk b3 [.int .i64 0, .string ⟨⟨[]⟩⟩, .int .i64 0, .int .i64 0, .slice none 0 0, .int .i64 0, .slice none 0 0, .int .i64 0, .slice none 0 0], rd br pb nb cb x.2.2.1], x.2.2.2⟩) (fun x => C1 Gk x.2.2.2 ∧ x.1.size ≤ 1 ∧ x.2.1.size ≤ s.size + 1 ∧ p + 2 ≤ x.2.2.1 ∧ x.2.2.1 ≤ p + 3) ?_ ?_)
    ·refine A4 ?_
     refine P1 (⟨⟨[]⟩⟩, s, p + 1 + 1, Gk) (O3 zM zI) ?_
     (dsimp only; exact ⟨C1.refl _, by decide, by omega, by omega, by omega⟩)
    ·(rintro ⟨(nm : ByteArray), s', p1, G1⟩ ⟨hleA, hnm, hss, hpA, hpB⟩; simp only [] at hleA hnm hss hpA hpB ⊢; replace hb := hb.mono hleA; have hmark := hleA)
     refine A4 ?_
     (have hm' := hmark; refine Z3 (fun (x : Bool) => ⟨(40, .bool x) :: [(7, .int .i64 k), (8, .pointer (some ⟨b69, 0, none⟩)), (6, .pointer (some ⟨b3, 0, none⟩)), (0, .pointer (some ⟨br, 0, none⟩)), (1, .string s'), (2, .int .i64 ((d1 + 1 + 1 : Nat) : Int))], [.blk b69 [.int .i64 k, .string nm, .int .i64 0, .int .i64 0, .slice none 0 0, .int .i64 0, .slice none 0 0, .int .i64 0, .slice none 0 0], .blk b3 [.int .i64 0, .string ⟨⟨[]⟩⟩, .int .i64 0, .int .i64 0, .slice none 0 0, .int .i64 0, .slice none 0 0, .int .i64 0, .slice none 0 0], rd br pb nb cb p1], G1⟩) (fun x => True) ?_ ?_)
     ·refine A4 ?_
      refine sP (F0 rfl rfl zW) rfl rfl ?_
      refine A4 ?_
      refine sB (qE rfl rfl) rfl rfl (fun h218 => ?_) (fun h218 => ?_)
      ·refine A4 ?_
       refine P1 true (O3 zM zI) ?_
       trivial
      ·refine A4 ?_
       refine P1 false (O3 zM zI) ?_
       trivial
     ·(rintro x _; clear hmark)
      (show I9 _ _ (.cond (.tmp 40) _ _) _ _; refine Z3 (fun (x : Ty × Option Addr × Nat × Nat × IM) => ⟨[(7, .int .i64 k), (8, .pointer (some ⟨b69, 0, none⟩)), (6, .pointer (some ⟨b3, 0, none⟩)), (0, .pointer (some ⟨br, 0, none⟩)), (1, .string s'), (2, .int .i64 ((d1 + 1 + 1 : Nat) : Int))], [.blk b69 [.int .i64 k, .string nm, .int .i64 0, .int .i64 x.1.k, .slice x.2.1 x.1.ks.length x.2.2.1, .int .i64 0, .slice none 0 0, .int .i64 0, .slice none 0 0], .blk b3 [.int .i64 0, .string ⟨⟨[]⟩⟩, .int .i64 0, .int .i64 0, .slice none 0 0, .int .i64 0, .slice none 0 0, .int .i64 0, .slice none 0 0], rd br pb nb cb x.2.2.2.1], x.2.2.2.2⟩) (fun x => C1 G1 x.2.2.2.2 ∧ B8 x.2.2.2.2 x.1 [.int .i64 x.1.k, .slice x.2.1 x.1.ks.length x.2.2.1] ∧ H6 x.1 ≤ 14 ∧ p1 ≤ x.2.2.2.1 ∧ x.2.2.2.1 ≤ p1 + 15) (A3C rfl (fun hxt => ?_) (fun hxf => ?_)) ?_)
      ·refine B3 ?_
       (refine J1 (C9 rfl rfl rfl zW zR rfl) rfl ?_; rintro _ ⟨b232, rfl⟩)
       (refine S9 zN (fun Gf hlef3 hslf _ => ?_); refine I0 rfl (Z4 Gf br pb nb cb p1 bs _ _ _ _ (hb.mono hlef3) hnb zW hslf zV) (Pk.perm zN) rfl rfl (fun v Gn outs hlen hh => ?_); obtain ⟨rfl, rfl, hv⟩ := hh; replace hb := hb.mono hlef3; obtain ⟨dd, rfl, hdd⟩ : ∃ d : Nat, v = .int .i64 ((d + 1 : Nat) : Int) ∧ d ≤ 2 := (by simp only [List.mem_cons, List.not_mem_nil, or_false] at hv; rcases hv with rfl | rfl | rfl | rfl <;> first | exact ⟨0, rfl, by decide⟩ | exact ⟨1, rfl, by decide⟩ | exact ⟨2, rfl, by decide⟩))
       (have hdB := A6s hdd; refine I0 rfl (A8Z br pb nb cb bs hnb dd (p1 + 1) _ zW hb zW) (Pk.perm zN) rfl rfl (fun v G3 outs hle3 hh => ?_); obtain ⟨p3, hp31, hp32, rfl, t3, cells3, rfl, hr3, hs3⟩ := hh; obtain ⟨q3, c3, es3, rfl, _⟩ := hr3.open)
       refine B3 ?_
       refine P1 (t3, q3, c3, p3, G3) (O3 zM zI) ?_
       (dsimp only; exact ⟨hlef3.trans hle3, hr3, by omega, by omega, by omega⟩)
      ·refine tK ?_
       refine P1 (B4, none, 0, p1, G1) (O3 zM zI) ?_
       (dsimp only; exact ⟨C1.refl _, A1Z _, by decide, by omega, by omega⟩)
      ·(rintro ⟨(t' : Ty), q', c', p2, G2⟩ ⟨hleB, hrB, hsB, hpC, hpD⟩; simp only [] at hleB hrB hsB hpC hpD ⊢; replace hb := hb.mono hleB; have hop := A1J k; have hK := A4U k)
       refine A7 ?_
       refine C2 ?_
       (refine X0 28 9 ?_; refine L4 (fun (x : Nat × Option Addr × Nat × List Tm × List (List Value) × Nat × IM) => ⟨[(9, .int .i64 x.1), (7, .int .i64 k), (8, .pointer (some ⟨b69, 0, none⟩)), (6, .pointer (some ⟨b3, 0, none⟩)), (0, .pointer (some ⟨br, 0, none⟩)), (1, .string s'), (2, .int .i64 ((d1 + 1 + 1 : Nat) : Int))], [.blk b69 [.int .i64 k, .string nm, .int .i64 0, .int .i64 t'.k, .slice q' t'.ks.length c', .int .i64 0, .slice none 0 0, .int .i64 0, .slice x.2.1 x.1 x.2.2.1], .slc x.2.1 x.2.2.1 28 9 x.1 x.2.2.2.2.1.flatten, rd br pb nb cb x.2.2.2.2.2.1, .blk b3 [.int .i64 0, .string ⟨⟨[]⟩⟩, .int .i64 0, .int .i64 0, .slice none 0 0, .int .i64 0, .slice none 0 0, .int .i64 0, .slice none 0 0]], x.2.2.2.2.2.2⟩) (fun x => ((x.1 : Int) ≤ F7 k ∨ x.1 = 0) ∧ C1 G2 x.2.2.2.2.2.2 ∧ x.2.2.2.1.length = x.1 ∧ H3 x.2.2.2.2.2.2 x.2.2.2.1 x.2.2.2.2.1 ∧ W4 x.2.2.2.1 ≤ ((x.1 * tB d1 : Nat) : Int) ∧ p2 ≤ x.2.2.2.2.2.1 ∧ x.2.2.2.2.2.1 ≤ p2 + x.1 * tB d1) (fun x => (F7 k).toNat - x.1) (0, none, 0, [], [], p2, G2) ?_ ?_ ?_)
       ·(simp only [J7]; exact E3)
       ·(exact ⟨.inr rfl, C1.refl _, rfl, by simp [H3], by simp [W4], by dsimp only; omega, by dsimp only; omega⟩)
       ·(rintro ⟨i, pn, cn, ts, es', p', Gi⟩ ⟨hi, hle, hlt, hst, hsum, hq1, hq2⟩; simp only [] at hi hle hlt hst hsum hq1 hq2 ⊢; have hid : i * tB d1 ≤ 3 * tB d1 := Nat.mul_le_mul_right _ zW)
        refine A9 ?_
        refine E6 rfl ((hK _)) rfl rfl ?_
        refine sB (K6 rfl rfl) rfl rfl (fun h261 => ?_) (fun h261 => ?_)
        ·refine A7 ?_
         refine C2 ?_
         (have hih := ih d1 zW p' Gi s' zW zW (hb.mono hle) (by have := Nat.mul_le_mul_right (tB d1) (show i + 1 ≤ 3 by omega); rw [Nat.succ_mul] at this; omega); refine D2 D3 rfl ?_)
         refine H1 (i := 0) (l' := [tt,ff,ff,ff,ff,ff,ff,ff,ff,ff,ff]) rfl C8 (C0 rfl) rfl zU rfl rfl ?_
         refine aL 1 rfl (D4 rfl rfl) rfl ?_
         refine aP 2 rfl (qM rfl) rfl ?_
         refine aP 3 rfl (qM rfl) rfl ?_
         refine aP 4 rfl (qM rfl) rfl ?_
         refine aP 5 rfl (A1e rfl rfl zW) rfl ?_
         refine A1 6 ?_
         (refine Z2 (l' := [tt,tt,tt,tt,tt,tt,tt,ff,ff,ff,ff]) rfl rfl hih (Pk.perm zN) rfl rfl rfl zG (fun v G3 outs hle3 hh => ?_); obtain ⟨p3, hp31, hp32, rfl, t3, cells3, rfl, hr3, hs3⟩ := hh; obtain ⟨qt, dt, et, qf, df, ef, q3, d3, es3, rfl, _⟩ := hr3.open)
         refine A1 7 ?_
         (refine D1 rfl (C9 rfl rfl rfl zW zR rfl) rfl rfl ?_; rintro _ ⟨b279, rfl⟩)
         refine A1 8 ?_
         refine T9 rfl rfl rfl rfl rfl rfl (fun _ _ => by repeat (first | exact Sw.here | apply Sw.there)) (R2 zP) rfl zQ zR zW rfl rfl zG (fun pn' cn' => ?_)
         refine aP 9 rfl (C0 rfl) rfl ?_
         refine A1 10 ?_
         refine N9 rfl rfl rfl rfl rfl rfl rfl rfl zU zO (by rfl) ?_
         refine A9 ?_
         refine sP (K9 rfl rfl zW zW) rfl rfl ?_
         refine A4 ?_
         refine K3 (i + 1, pn', cn', ts ++ [t3], es' ++ [[.int .i64 t3.k, .string t3.nm, .int .i64 t3.num, .int .i64 t3.ty.k, .slice qt t3.ty.ks.length dt, .int .i64 t3.fr.k, .slice qf t3.fr.ks.length df, .int .i64 t3.lb, .slice q3 t3.ks.length d3]], p3, G3) ?_ ?_ ?_
         ·(simp only [J7]; exact E3)
         ·(dsimp only; have e1 : (i + 1) * tB d1 = i * tB d1 + tB d1 := Nat.succ_mul _ _; have e2 := A6r ts t3; exact ⟨.inl zW, hle.trans hle3, by simp [hlt], H3.snoc (hst.mono hle3) hr3, by omega, by omega, by omega⟩)
         ·(show (F7 k).toNat - (i + 1) < (F7 k).toNat - i; omega)
        ·refine N1 ?_
         (refine F6 zN (fun G5 hle5 hsl5 hno5 => ?_))
         refine tT ?_
         refine H7 (outs := [rd br pb nb cb p']) (rC rfl (A3 rfl rfl)) zH ?_
         (refine ⟨p', by omega, by omega, rfl, .mk k nm 0 t' B4 0 ts, _, rfl, (hst.mono hle5).tm hlt hsl5 ⟨by omega, by omega⟩ ⟨by omega, by omega⟩ (hrB.mono (hle.trans hle5)), ?_⟩; rw [A0f, A6q]; omega)
theorem Sl.pre {G : IM} {p : Option Addr} {n c m : Nat} {cs : List Value} (h : Sl G p n c 1 cs) (hm : m ≤ n) : Sl G p m c 1 (cs.take m) := by
 obtain ⟨h1, h2, h3, h4⟩ := h
 refine ⟨by rw [List.length_take]; omega, by omega, h3, ?_⟩
 rcases h4 with h4 | ⟨b, o, full, e1, e2, e3⟩
 ·exact .inl zW
 ·refine .inr ⟨b, o, full, e1, e2, fun j v hj => e3 j v ?_⟩
  rw [List.getElem?_take] at hj
  split at hj
  ·exact hj
  ·cases hj
theorem B34 (bs : List UInt8) (m : Nat) : N5 (bs.take m) = (N5 bs).take m := by unfold N5; rw [List.map_take]
theorem B35 {d : Nat} (h : d ≤ 4) : tB d ≤ 1043 := by
 have : d = 0 ∨ d = 1 ∨ d = 2 ∨ d = 3 ∨ d = 4 := by omega
 rcases this with rfl | rfl | rfl | rfl | rfl <;> decide
def A3Y (G : IM) : IM → Value → List A6 → Prop := fun G' v outs => G' = G ∧ ∃ br pb nb cb bs, v = .pointer (some ⟨br, 0, none⟩) ∧ outs = [rd br pb nb cb 0] ∧ nb ≤ 2000 ∧ Sl G pb nb cb 1 (N5 bs)
theorem A3Y.mk {G : IM} {b : Nat} {pb : Option Addr} {nb cb : Nat} {bs : List UInt8} (h : nb ≤ 2000) (hb : Sl G pb nb cb 1 (N5 bs)) : A3Y G G (.pointer (some ⟨b, 0, none⟩)) [.blk b [.slice pb nb cb, .int .i64 0]] := ⟨rfl, _, _, _, _, bs, rfl, rfl, h, hb⟩
theorem B36 (G : IM) (q : Option Addr) (n c : Nat) (bs : List UInt8) (hb : Sl G q n c 1 (N5 bs)) :
  Fn Tryz.prog 21 [.slice q n c] [] G (A3Y G) := by
 have hn := hb.le
 have hnc := hb.2.1
 have hpre := fun h : 2000 ≤ n => hb.pre h
 refine C7 Tryz.func21 rfl Tryz.ntmps21 Tryz.results21 rfl ?_
 intro w0
 refine I2 ?_
 refine sB (A0l rfl rfl) rfl rfl (fun h11 => ?_) (fun h11 => ?_)
 refine A9 ?_
 refine sP (A6e (l := 2000) rfl rfl rfl zW) rfl rfl ?_
 refine B5 ?_
 refine sE (D5 rfl rfl) rfl (fun b25 => ?_)
 refine C3 ?_
 refine H7 (rT rfl) A2.refl ?_
 exact A3Y.mk (Nat.le_refl _) (by rw [B34]; exact hpre zW)
 refine D9 ?_
 refine sE (D5 rfl rfl) rfl (fun b41 => ?_)
 refine C3 ?_
 refine H7 (rT rfl) A2.refl ?_
 exact A3Y.mk zW hb
theorem B37 (br : Nat) (pb : Option Addr) (nb cb : Nat) (bs : List UInt8) (hnb : nb ≤ 2000) (p : Nat) (G : IM) (hb : Sl G pb nb cb 1 (N5 bs)) (hp : p + 1100 < 1099511627776) :
  Fn Tryz.prog 145 [.pointer (some ⟨br, 0, none⟩)] [rd br pb nb cb p] G
   (Y9 br pb nb cb p 1100 (fun G' v => ∃ t cells, v = .agg ⟨cells⟩ ∧ B6 G' t cells ∧ A0f t ≤ 1043)) := by
 refine C7 Tryz.func145 rfl Tryz.ntmps145 Tryz.results145 rfl ?_
 intro w0
 refine A4 ?_
 refine sE (A8 rfl) rfl (fun b3 => ?_)
 refine A7 ?_
 (refine J1 (C9 rfl rfl rfl zW zR rfl) rfl ?_; rintro _ ⟨b10, rfl⟩)
 (refine S9 zN (fun Gf hlef hslf _ => ?_); refine I0 rfl (Z4 Gf br pb nb cb p bs _ _ _ _ (hb.mono hlef) hnb zW hslf zV) (Pk.perm zN) rfl rfl (fun v Gn outs hlen hh => ?_); obtain ⟨rfl, rfl, hv⟩ := hh; replace hb := hb.mono hlef; obtain ⟨dd, rfl, hdd⟩ : ∃ d : Nat, v = .int .i64 ((d + 1 : Nat) : Int) ∧ d ≤ 4 := (by simp only [List.mem_cons, List.not_mem_nil, or_false] at hv; rcases hv with rfl | rfl | rfl | rfl | rfl <;> first | exact ⟨3, rfl, by decide⟩ | exact ⟨2, rfl, by decide⟩ | exact ⟨4, rfl, by decide⟩ | exact ⟨1, rfl, by decide⟩); have htB := B35 hdd)
 (refine I0 rfl (B33 br pb nb cb bs hnb dd (p + 1) Gn ⟨⟨[]⟩⟩ zW (by have hz : (⟨⟨[]⟩⟩ : ByteArray).size ≤ 2 := zV; omega) hb zW) (Pk.perm zN) rfl rfl (fun v G3 outs hle3 hh => ?_); obtain ⟨p3, hp31, hp32, rfl, t3, cells3, rfl, hr3, hs3⟩ := hh; have hl3 := hr3.len; have ho3 := hr3.one; have hc3 := A6g t3; have hv3 := A8X t3 G3 cells3 zW hr3)
 refine sE (A8 rfl) rfl (fun b13 => ?_)
 refine sS rfl rfl rfl hl3 ho3 rfl ?_ (hu := by exact C6 hl3.symm)
 refine A9 ?_
 refine sL (A5 rfl rfl (B7 zP) hl3) rfl rfl ?_
 refine J0 rfl (hv3) rfl rfl (fun h21 => ?_) (fun h21 => ?_)
 refine A9 ?_
 refine sL (A5 rfl rfl (B7 zP) hl3) rfl rfl ?_
 refine sS rfl rfl rfl hl3 ho3 rfl ?_ (hu := by exact C6 hl3.symm)
 refine C3 ?_
 refine H7 (outs := [rd br pb nb cb p3]) (rC rfl (A5 rfl rfl (B7 zP) hl3)) zH ?_
 (exact ⟨p3, by omega, by omega, rfl, t3, cells3, rfl, hr3, by omega⟩)
 refine B5 ?_
 refine E6 rfl ((A2z _ _)) rfl rfl ?_
 refine C3 ?_
 refine H7 (outs := [rd br pb nb cb p3]) (rC rfl (A3 rfl rfl)) zH ?_
 (exact ⟨p3, by omega, by omega, rfl, _, _, rfl, A1h ⟨by omega, by omega⟩ ⟨by omega, by omega⟩, by rw [A1I]; decide⟩)
theorem V8 (G : IM) : Fn Tryz.prog 172 [] [] G (J5 (.agg ⟨[.int .i64 2, .slice none 0 0]⟩) G) := by
 refine C7 Tryz.func172 rfl Tryz.ntmps172 Tryz.results172 rfl ?_
 intro w0
 refine A4 ?_
 refine sE (A8 rfl) rfl (fun b3 => ?_)
 refine D9 ?_
 refine L0 (rC rfl (A3 rfl rfl)) ?_
 exact ⟨rfl, rfl, rfl⟩
theorem A1i (G : IM) : Fn Tryz.prog 173 [] [] G (J5 (.agg ⟨[.int .i64 3, .slice none 0 0]⟩) G) := by
 refine C7 Tryz.func173 rfl Tryz.ntmps173 Tryz.results173 rfl ?_
 intro w0
 refine A4 ?_
 refine sE (A8 rfl) rfl (fun b3 => ?_)
 refine D9 ?_
 refine L0 (rC rfl (A3 rfl rfl)) ?_
 exact ⟨rfl, rfl, rfl⟩
theorem A2A (G : IM) (k : Int) (p : Option Addr) (n c : Nat) : Fn Tryz.prog 182 [.int .i64 k, .slice p n c] [] G (J5 (.agg ⟨[.int .i64 k, .string ⟨⟨[]⟩⟩, .int .i64 0, .int .i64 0, .slice none 0 0, .int .i64 0, .slice none 0 0, .int .i64 0, .slice p n c]⟩) G) := by
 refine C7 Tryz.func182 rfl Tryz.ntmps182 Tryz.results182 rfl ?_
 intro w0
 refine A4 ?_
 refine sE (A8 rfl) rfl (fun b3 => ?_)
 refine I3 ?_
 refine L0 (rC rfl (A3 rfl rfl)) ?_
 exact ⟨rfl, rfl, rfl⟩
theorem J8 (G : IM) {k : Int} (hk : E8 k) : B8 G (.mk k []) [.int .i64 k, .slice none 0 0] := by
 simp only [B8]
 exact ⟨none, 0, [], rfl, hk, D0.of (Sl.nil _ _) rfl zX zX, by simp [E9]⟩
theorem X5 (k : Int) : H6 (.mk k []) = 0 := rfl
def TyB (B : Int) (G : IM) : IM → Value → List A6 → Prop := K1 fun G' v => ∃ t cells b, v = .tuple ⟨[.agg ⟨cells⟩, .bool b]⟩ ∧ B8 G' t cells ∧ E5 t ∧ H6 t ≤ B
theorem A10 {k : Int} {a b : Ty} (hk : k = 4 ∨ k = 5) (ha : E5 a) (hb : E5 b) : E5 (.mk k [a, b]) := by
 rw [E5]
 exact ⟨fun _ => rfl, fun h4 h5 => by omega, by simp [A0H, ha, hb]⟩
theorem A41 (k : Int) (a b : Ty) : H6 (.mk k [a, b]) = H6 a + H6 b + 2 := by
 simp only [H6, L5, List.length_cons, List.length_nil]; omega
theorem M6 {k : Int} (h4 : k ≠ 4) (h5 : k ≠ 5) : E5 (.mk k []) := (A2Z 0 h4 h5).ar
theorem E5.kid {k : Int} {ks : List Ty} (h : E5 (.mk k ks)) : ∀ t ∈ ks, E5 t := by
 rw [E5] at h; exact A3S.1 h.2.2
theorem E5.two {k : Int} {ks : List Ty} (h : E5 (.mk k ks)) : ks.length ≤ 2 := by
 rw [E5] at h
 have h1 := h.1
 have h2 := h.2.1
 omega
theorem A6t : ∀ {ks : List Ty} {t : Ty}, t ∈ ks → H6 t ≤ L5 ks
 | [], t, h => by simp at h
 | t' :: ts, t, h => by
  rw [L5]
  have := A0g t'
  have := A1c ts
  rcases List.mem_cons.1 h with rfl | h
  ·omega
  ·have := A6t h; omega
theorem A6u {k : Int} {ks : List Ty} {t : Ty} (h : t ∈ ks) : H6 t ≤ H6 (.mk k ks) := by
 have := A6t h
 rw [H6]; omega
theorem A2B (k : Int) (a b : Ty) (G : IM) (ca cb : List Value) (hk : k = 4 ∨ k = 5) (ha : E5 a) (hb : E5 b) (hra : B8 G a ca) (hrb : B8 G b cb) :
  Fn Tryz.prog 149 [.int .i64 k, .agg ⟨ca⟩, .agg ⟨cb⟩] [] G (TyB (H6 a + H6 b + 2) G) := by
 obtain ⟨ak, aks⟩ := a
 obtain ⟨bk, bks⟩ := b
 obtain ⟨pa, cca, ea, rfl, _⟩ := hra.open
 obtain ⟨pb, ccb, eb, rfl, _⟩ := hrb.open
 have hki : E8 k := ⟨by omega, by omega⟩
 refine C7 Tryz.func149 rfl Tryz.ntmps149 Tryz.results149 rfl ?_
 intro w0
 refine A4 ?_
 refine sE (D5 rfl rfl) rfl (fun b3 => ?_)
 refine sE (D5 rfl rfl) rfl (fun b4 => ?_)
 refine sE (A8 rfl) rfl (fun b5 => ?_)
 refine C3 ?_
 refine D2 D3 rfl ?_
 refine H1 (i := 0) (l' := [tt,ff,ff,ff,ff,ff,ff,ff,ff]) rfl C8 (qM rfl) rfl zU rfl rfl ?_
 refine aL 1 rfl (A3 rfl rfl) rfl ?_
 refine aL 3 rfl (A3 rfl rfl) rfl ?_
 refine N3 (j := 2) (j' := 7) zU ?_ ?_
 (refine E1 rfl rfl (P8 _ G _ ha.small hra) rfl rfl rfl (fun v G1 hle1 hh => ?_); obtain ⟨L7, F1, rfl, hs1, hn1⟩ := hh; obtain ⟨p1, c1, rfl, _⟩ := hs1.open; have hC2 := P8 _ G1 _ hb.small (hrb.mono hle1))
 refine N3 (j := 4) (j' := 7) zU ?_ ?_
 (refine E1 rfl rfl hC2 rfl rfl rfl (fun v G2 hle2 hh => ?_); obtain ⟨cs2, F2, rfl, hs2, hn2⟩ := hh; obtain ⟨p2, c2, rfl, _⟩ := hs2.open; have hr1 := hs1.R.mono ((D7.le G1 G).trans hle2); have hr2 := hs2.R.mono (D7.le G2 G1))
 refine N3 (j := 5) (j' := 7) zU ?_ ?_
 (refine D1 rfl (C9 rfl rfl rfl zW zR rfl) rfl rfl ?_; rintro _ ⟨b19, rfl⟩)
 refine aP 6 rfl (N7 rfl rfl) rfl ?_
 refine A1 7 ?_
 (refine D1 rfl (A8 rfl) rfl rfl ?_; rintro _ ⟨b22, rfl⟩)
 exact y10
 (refine D1 rfl (A8 rfl) rfl rfl ?_; rintro _ ⟨b41, rfl⟩)
 refine A1 5 ?_
 (refine D1 rfl (C9 rfl rfl rfl zW zR rfl) rfl rfl ?_; rintro _ ⟨b43, rfl⟩)
 refine aP 6 rfl (N7 rfl rfl) rfl ?_
 exact y10
 (refine D1 rfl (A8 rfl) rfl rfl ?_; rintro _ ⟨b63, rfl⟩)
 refine A1 4 ?_
 (refine E1 rfl rfl hC2 rfl rfl rfl (fun v G2 hle2 hh => ?_); obtain ⟨cs2, F2, rfl, hs2, hn2⟩ := hh; obtain ⟨p2, c2, rfl, _⟩ := hs2.open; have hr1 := hs1.R.mono ((D7.le G1 G).trans hle2); have hr2 := hs2.R.mono (D7.le G2 G1))
 refine A1 5 ?_
 (refine D1 rfl (C9 rfl rfl rfl zW zR rfl) rfl rfl ?_; rintro _ ⟨b67, rfl⟩)
 refine aP 6 rfl (N7 rfl rfl) rfl ?_
 exact y10
 (refine D1 rfl (A8 rfl) rfl rfl ?_; rintro _ ⟨b87, rfl⟩)
 refine A1 2 ?_
 (refine E1 rfl rfl (P8 _ G _ ha.small hra) rfl rfl rfl (fun v G1 hle1 hh => ?_); obtain ⟨L7, F1, rfl, hs1, hn1⟩ := hh; obtain ⟨p1, c1, rfl, _⟩ := hs1.open; have hC2 := P8 _ G1 _ hb.small (hrb.mono hle1))
 refine A1 4 ?_
 (refine E1 rfl rfl hC2 rfl rfl rfl (fun v G2 hle2 hh => ?_); obtain ⟨cs2, F2, rfl, hs2, hn2⟩ := hh; obtain ⟨p2, c2, rfl, _⟩ := hs2.open; have hr1 := hs1.R.mono ((D7.le G1 G).trans hle2); have hr2 := hs2.R.mono (D7.le G2 G1))
 refine A1 5 ?_
 (refine D1 rfl (C9 rfl rfl rfl zW zR rfl) rfl rfl ?_; rintro _ ⟨b93, rfl⟩)
 refine aP 6 rfl (N7 rfl rfl) rfl ?_
 exact y10
def B38 (B : Int) (G : IM) : IM → Value → List A6 → Prop := K1 fun G' v => ∃ a ca b cb x, v = .tuple ⟨[.agg ⟨ca⟩, .agg ⟨cb⟩, .bool x]⟩ ∧ B8 G' a ca ∧ E5 a ∧ H6 a ≤ B ∧ B8 G' b cb ∧ E5 b ∧ H6 b ≤ B
theorem A24 (k : Int) (t : Ty) (G : IM) (cells : List Value) (hk : k = 4 ∨ k = 5) (ha : E5 t) (hr : B8 G t cells) :
  Fn Tryz.prog 175 [.int .i64 k, .agg ⟨cells⟩] [] G (B38 (H6 t) G) := by
 obtain ⟨tk, ks⟩ := t
 have hnn := A0g (.mk tk ks)
 have ha2 := ha
 rw [E5] at ha2
 have hkid := ha.kid
 obtain ⟨p, c, es, rfl, htk, hsl, hkl⟩ := hr.open
 simp only [Ty.k, Ty.ks] at htk hsl hkl ⊢
 refine C7 Tryz.func175 rfl Tryz.ntmps175 Tryz.results175 rfl ?_
 intro w0
 refine A4 ?_
 refine sE (D5 rfl rfl) rfl (fun b3 => ?_)
 refine sE (A8 rfl) rfl (fun b4 => ?_)
 refine sE (A8 rfl) rfl (fun b5 => ?_)
 refine E7 ?_
 refine sB (qE rfl rfl) rfl rfl (fun h14 => ?_) (fun h14 => ?_)
 refine A9 ?_
 refine E6 rfl ((A0J _)) rfl rfl ?_
 refine E6 rfl ((A0J _)) rfl rfl ?_
 refine B5 ?_
 refine H5 (rC rfl (A3 rfl rfl)) (rC rfl (A3 rfl rfl)) (rT rfl) ?_
 (exact ⟨rfl, _, _, _, _, _, rfl, A0K _, A3T, hnn, A0K _, A3T, hnn⟩)
 refine I3 ?_
 refine sB (R7 rfl rfl) rfl rfl (fun h42 => ?_) (fun h42 => ?_)
 refine N1 ?_
 refine H5 (rC rfl (A3 rfl rfl)) (rC rfl (A3 rfl rfl)) (rT rfl) ?_
 (exact ⟨rfl, _, _, _, _, _, rfl, J8 _ ⟨by omega, by omega⟩, M6 zW zW, hnn, J8 _ ⟨by omega, by omega⟩, M6 zW zW, hnn⟩)
 refine A7 ?_
 (have hlen : ks.length = 2 := ha2.1 zW; obtain ⟨b, o, q0, d0, hp0, hat0, hre0, hg0⟩ := hsl.kidTy hkl (i := 0) zW zW; obtain ⟨b', o', q1, d1, hp1, hat1, hre1, hg1⟩ := hsl.kidTy hkl (i := 1) zW zW; subst hp0; cases hp1; have hC1 := P8 _ G _ (hkid _ (List.getElem_mem zW)).small hre0; refine D2 D3 rfl ?_)
 refine H1 (i := 0) (l' := [tt,ff,ff,ff,ff,ff,ff,ff,ff,ff,ff,ff,ff]) rfl C8 (C0 rfl) rfl zU rfl rfl ?_
 refine aL 1 rfl (D4 rfl rfl) rfl ?_
 refine aP 2 rfl (B1 (j := 0) rfl rfl rfl zW) rfl ?_
 refine aL 3 rfl (A5 rfl rfl (hat0 _) rfl) rfl ?_
 refine aP 5 rfl (C0 rfl) rfl ?_
 refine aL 6 rfl (D4 rfl rfl) rfl ?_
 refine aP 7 rfl (B1 (j := 1) rfl rfl rfl zW) rfl ?_
 refine aL 8 rfl (A5 rfl rfl (hat1 _) rfl) rfl ?_
 refine A1 4 ?_
 (refine E1 rfl rfl hC1 rfl rfl rfl (fun v G1 hle1 hh => ?_); obtain ⟨L7, F1, rfl, hs1, hn1⟩ := hh; obtain ⟨p1, c1, rfl, _⟩ := hs1.open; have hC2 := P8 _ G1 _ (hkid _ (List.getElem_mem zW)).small (hre1.mono hle1))
 refine A1 9 ?_
 (refine E1 rfl rfl hC2 rfl rfl rfl (fun v G2 hle2 hh => ?_); obtain ⟨cs2, F2, rfl, hs2, hn2⟩ := hh; obtain ⟨p2, c2, rfl, _⟩ := hs2.open; have hr1 := hs1.R.mono ((D7.le G1 G).trans hle2); have hr2 := hs2.R.mono (D7.le G2 G1))
 refine A1 10 ?_
 refine N9 rfl rfl rfl rfl rfl rfl rfl rfl zU zO (by rfl) ?_
 refine A1 11 ?_
 refine N9 rfl rfl rfl rfl rfl rfl rfl rfl zU zO (by rfl) ?_
 refine aP 12 rfl (qA rfl) rfl ?_
 refine B3 ?_
 refine H5 (rC rfl (A3 rfl rfl)) (rC rfl (A3 rfl rfl)) (rT rfl) ?_
 (exact ⟨rfl, _, _, _, _, _, rfl, hr1, hkid _ (List.getElem_mem zW), A6u (List.getElem_mem _), hr2, hkid _ (List.getElem_mem zW), A6u (List.getElem_mem _)⟩)
def TyP (B : Int) (Q : Ty → Prop) (G : IM) : IM → Value → List A6 → Prop := K1 fun G' v => ∃ t cells, v = .agg ⟨cells⟩ ∧ B8 G' t cells ∧ E5 t ∧ H6 t ≤ B ∧ Q t
theorem A87 {k : Int} {ks us : List Ty} (h : E5 (.mk k ks)) (hl : us.length = ks.length) (hu : ∀ u ∈ us, E5 u) : E5 (.mk k us) := by
 rw [E5] at h ⊢
 exact ⟨fun hk => by rw [hl]; exact h.1 hk, fun a b => by rw [hl]; exact h.2.1 a b, A3S.2 hu⟩
theorem A11 {P : Ty → Prop} {us : List Ty} {u : Ty} (h : ∀ x ∈ us, P x) (hu : P u) : ∀ x ∈ us ++ [u], P x := by
 simp only [List.forall_mem_append, List.forall_mem_singleton]; exact ⟨h, hu⟩
theorem A05 : ∀ (t t' : Ty) (G : IM) (cells cells' : List Value), E5 t → E5 t' → B8 G t cells → B8 G t' cells' →
  Fn Tryz.prog 101 [.agg ⟨cells⟩, .agg ⟨cells'⟩] [] G (J5 (.bool (O8 t t')) G) := by
 refine Ty.ind fun k ks ih t' G cells cells' ha ha' hr hr' => ?_
 obtain ⟨k', ks'⟩ := t'
 obtain ⟨p, c, es, rfl, hk, hsl, hkl⟩ := hr.open
 obtain ⟨p', c', es', rfl, hk', hsl', hkl'⟩ := hr'.open
 simp only [Ty.k, Ty.ks] at hk hsl hkl hk' hsl' hkl' ⊢
 have hn := hsl.le
 have hn' := hsl'.le
 have hv2 := ha.kid
 have hv2' := ha'.kid
 rw [E5] at ha ha'
 have hle : k = k' → ks.length = ks'.length := by
  rintro rfl
  have h1 := ha.1
  have h2 := ha.2.1
  have h3 := ha'.1
  have h4 := ha'.2.1
  omega
 refine C7 Tryz.func101 rfl Tryz.ntmps101 Tryz.results101 rfl ?_
 intro w0
 refine A4 ?_
 refine sE (D5 rfl rfl) rfl (fun b3 => ?_)
 refine sE (D5 rfl rfl) rfl (fun b4 => ?_)
 refine E7 ?_
 refine sB (qE rfl rfl) rfl rfl (fun h13 => ?_) (fun h13 => ?_)
 refine N4 ?_
 (rw [A4W zW]; exact ⟨rfl, rfl, rfl⟩)
 refine B3 ?_
 refine sB (qE rfl rfl) rfl rfl (fun h34 => ?_) (fun h34 => ?_)
 refine N8 ?_
 (rw [A4W zW]; exact ⟨rfl, rfl, rfl⟩)
 refine J2 ?_
 refine sB (R7 rfl rfl) rfl rfl (fun h61 => ?_) (fun h61 => ?_)
 refine I3 ?_
 (rw [A8N zW zW zW]; exact ⟨rfl, rfl, rfl⟩)
 refine I3 ?_
 refine C2 ?_
 (have hll : ks.length = ks'.length := hle zW; refine L4 (fun (i : Nat) => ⟨[(5, .int .i64 i), (3, .pointer (some ⟨b4, 0, none⟩)), (2, .pointer (some ⟨b3, 0, none⟩))], [.blk b3 [.int .i64 k, .slice p ks.length c], .blk b4 [.int .i64 k', .slice p' ks'.length c']], G⟩) (fun i => i ≤ ks.length ∧ ∀ j (h : j < ks.length) (h' : j < ks'.length), j < i → O8 ks[j] ks'[j] = true) (fun i => ks.length - i) 0 ?_ ?_ ?_)
 exact E3
 exact ⟨by omega, by omega⟩
 (rintro i ⟨hi, hf⟩)
 refine B5 ?_
 refine sB (K6 rfl rfl) rfl rfl (fun h97 => ?_) (fun h97 => ?_)
 refine A7 ?_
 refine C2 ?_
 refine tS ?_
 (obtain ⟨b, o, p2, c2, rfl, hat, hre, hgb⟩ := hsl.kidTy hkl (i := i) zW zW; obtain ⟨b', o', p2', c2', rfl, hat', hre', hgb'⟩ := hsl'.kidTy hkl' (i := i) zW zW; refine D2 D3 rfl ?_)
 refine H1 (i := 0) (l' := [tt,ff,ff,ff,ff,ff,ff,ff,ff,ff,ff,ff]) rfl C8 (C0 rfl) rfl zU rfl rfl ?_
 refine aL 1 rfl (D4 rfl rfl) rfl ?_
 refine aP 2 rfl (qM rfl) rfl ?_
 refine aP 3 rfl (B1 rfl rfl rfl zW) rfl ?_
 refine aL 4 rfl (A5 rfl rfl (hat _) rfl) rfl ?_
 refine aP 5 rfl (C0 rfl) rfl ?_
 refine aL 6 rfl (D4 rfl rfl) rfl ?_
 refine aP 7 rfl (qM rfl) rfl ?_
 refine aP 8 rfl (B1 rfl rfl rfl zW) rfl ?_
 refine aL 9 rfl (A5 rfl rfl (hat' _) rfl) rfl ?_
 refine A1 10 ?_
 refine Q3 rfl rfl (ih ks[i] (List.getElem_mem zW) ks'[i] G _ _ (hv2 _ (List.getElem_mem zW)) (hv2' _ (List.getElem_mem zW)) hre hre') rfl rfl rfl (fun h118 => ?_) (fun h118 => ?_)
 refine aP 11 rfl (pNt rfl) rfl ?_
 refine E7 ?_
 refine sP (K9 rfl rfl zW zW) rfl rfl ?_
 refine A4 ?_
 refine K3 (i + 1) ?_ ?_ ?_
 exact E3
 exact ⟨by omega, fun j hj hj' hji => by (by_cases he : j = i; (subst he; assumption); exact hf j hj hj' zW)⟩
 omega
 refine aP 11 rfl (pNf rfl) rfl ?_
 refine K4 ?_
 (rw [A4X zW zW zW, A8O (i := i) zW zW zT]; exact ⟨rfl, rfl, rfl⟩)
 refine K4 ?_
 (rw [A4X zW zW zW, (A2u ks _).2 ⟨hll, fun j hj hj' => hf j hj hj' zW⟩]; exact ⟨rfl, rfl, rfl⟩)
theorem B39 : ∀ (a b : Ty) (G : IM) (ca cb : List Value), O8 a b = true → E5 a → E5 b → B8 G a ca → B8 G b cb → Fn Tryz.prog 194 [.agg ⟨ca⟩, .agg ⟨cb⟩] [] G (TyP (H6 a + H6 b) (fun _ => True) G) := by
 refine Ty.ind fun ak aks ih b G ca cb hc ha hb hra hrb => ?_
 obtain ⟨bk, bks⟩ := b
 have hka := ha.kid
 have hkb := hb.kid
 have hsa := A0g (.mk ak aks)
 have hsb := A0g (.mk bk bks)
 have hza : H6 (.mk ak aks) = aks.length + L5 aks := by rw [H6]
 have hzb : H6 (.mk bk bks) = bks.length + L5 bks := by rw [H6]
 have hca := P8 _ G _ ha.small hra
 have hcb := P8 _ G _ hb.small hrb
 have hcc : ak ≠ 1 → bk ≠ 1 → aks.length = bks.length ∧ ∀ i, (h : i < aks.length) → (h' : i < bks.length) → O8 aks[i] bks[i] = true := by
  intro h1 h2
  rw [V1, decide_eq_false h1, decide_eq_false h2] at hc
  simp only [Bool.false_or, Bool.and_eq_true, decide_eq_true_eq] at hc
  exact (A2u _ _).1 hc.2
 obtain ⟨pa, cca, ea, rfl, hak, hsla, hkla⟩ := hra.open
 obtain ⟨pb, ccb, eb, rfl, hbk, hslb, hklb⟩ := hrb.open
 simp only [Ty.k, Ty.ks] at hak hsla hkla hbk hslb hklb ⊢
 have hna := hsla.le
 have hnb := hslb.le
 have hl2 := ha.two
 refine C7 Tryz.func194 rfl Tryz.ntmps194 Tryz.results194 rfl ?_
 intro w0
 refine A4 ?_
 refine sE (D5 rfl rfl) rfl (fun b3 => ?_)
 refine sE (D5 rfl rfl) rfl (fun b4 => ?_)
 refine sE (A8 rfl) rfl (fun b5 => ?_)
 refine B5 ?_
 refine sB (qE rfl rfl) rfl rfl (fun h13 => ?_) (fun h13 => ?_)
 refine A7 ?_
 (refine F9 rfl (by first | exact hcb | exact hca) rfl rfl (fun v G1 hle1 hh => ?_); obtain ⟨L7, F1, rfl, hs1, hn1⟩ := hh; obtain ⟨p1, c1, rfl, _⟩ := hs1.open; have hr1 := hs1.R.mono (D7.le G1 G))
 refine A9 ?_
 refine L0 (rC rfl (A3 rfl rfl)) ?_
 (exact ⟨rfl, _, _, rfl, hr1, hb, by omega, trivial⟩)
 refine I2 ?_
 refine sB (qE rfl rfl) rfl rfl (fun h38 => ?_) (fun h38 => ?_)
 refine A7 ?_
 (refine F9 rfl (by first | exact hcb | exact hca) rfl rfl (fun v G1 hle1 hh => ?_); obtain ⟨L7, F1, rfl, hs1, hn1⟩ := hh; obtain ⟨p1, c1, rfl, _⟩ := hs1.open; have hr1 := hs1.R.mono (D7.le G1 G))
 refine A9 ?_
 refine L0 (rC rfl (A3 rfl rfl)) ?_
 (exact ⟨rfl, _, _, rfl, hr1, ha, by omega, trivial⟩)
 refine I2 ?_
 refine sE (A8 rfl) rfl (fun b63 => ?_)
 refine D9 ?_
 refine C2 ?_
 (obtain ⟨hlab, hcab⟩ := hcc zW zW; refine X0 25 2 ?_; refine L4 (fun (x : Nat × Option Addr × Nat × List Ty × List (List Value) × IM) => ⟨[(6, .int .i64 x.1), (5, .pointer (some ⟨b63, 0, none⟩)), (4, .pointer (some ⟨b5, 0, none⟩)), (2, .pointer (some ⟨b3, 0, none⟩)), (3, .pointer (some ⟨b4, 0, none⟩))], [.blk b63 [.int .i64 ak, .slice x.2.1 x.1 x.2.2.1], .slc x.2.1 x.2.2.1 25 2 x.1 x.2.2.2.2.1.flatten, .blk b5 [.int .i64 0, .slice none 0 0], .blk b4 [.int .i64 bk, .slice pb bks.length ccb], .blk b3 [.int .i64 ak, .slice pa aks.length cca]], x.2.2.2.2.2⟩) (fun x => x.1 ≤ aks.length ∧ C1 G x.2.2.2.2.2 ∧ x.2.2.2.1.length = x.1 ∧ E9 x.2.2.2.2.2 x.2.2.2.1 x.2.2.2.2.1 ∧ (∀ u ∈ x.2.2.2.1, E5 u) ∧ L5 x.2.2.2.1 ≤ L5 (aks.take x.1) + L5 (bks.take x.1)) (fun x => aks.length - x.1) (0, none, 0, [], [], G) ?_ ?_ ?_)
 (simp only [J7]; exact E3)
 (exact ⟨by simp, C1.refl _, rfl, by simp [E9], by simp, by simp [L5]⟩)
 (rintro ⟨i, pn, cn, us, es', Gi⟩ ⟨hi, hle, hlu, hst, hau, hsu⟩; simp only [] at hi hle hlu hst hau hsu ⊢; replace hsla := hsla.mono hle; replace hkla := hkla.mono hle; replace hslb := hslb.mono hle; replace hklb := hklb.mono hle)
 refine B5 ?_
 refine sB (K6 rfl rfl) rfl rfl (fun h85 => ?_) (fun h85 => ?_)
 refine A7 ?_
 refine C2 ?_
 (obtain ⟨b, o, q0, d0, hp0, hat0, hre0, hg0⟩ := hsla.kidTy hkla (i := i) zW zW; obtain ⟨b', o', q1, d1, hp1, hat1, hre1, hg1⟩ := hslb.kidTy hklb (i := i) zW zW; subst hp0; subst hp1; have hih := ih aks[i] (List.getElem_mem zW) bks[i] Gi _ _ (hcab i zW zW) (hka _ (List.getElem_mem zW)) (hkb _ (List.getElem_mem zW)) hre0 hre1; refine D2 D3 rfl ?_)
 refine H1 (i := 0) (l' := [tt,ff,ff,ff,ff,ff,ff,ff,ff,ff,ff,ff,ff,ff,ff,ff,ff]) rfl C8 (C0 rfl) rfl zU rfl rfl ?_
 refine aL 1 rfl (D4 rfl rfl) rfl ?_
 refine aP 2 rfl (C0 rfl) rfl ?_
 refine aL 3 rfl (D4 rfl rfl) rfl ?_
 refine aP 4 rfl (qM rfl) rfl ?_
 refine aP 5 rfl (B1 rfl rfl rfl zW) rfl ?_
 refine aL 6 rfl (A5 rfl rfl (hat0 _) rfl) rfl ?_
 refine aP 7 rfl (C0 rfl) rfl ?_
 refine aL 8 rfl (D4 rfl rfl) rfl ?_
 refine aP 9 rfl (qM rfl) rfl ?_
 refine aP 10 rfl (B1 rfl rfl rfl zW) rfl ?_
 refine aL 11 rfl (A5 rfl rfl (hat1 _) rfl) rfl ?_
 refine A1 12 ?_
 (refine E1 rfl rfl hih rfl rfl rfl (fun v G1 hle1 hh => ?_); obtain ⟨u, cells', rfl, hru, hua, hus, _⟩ := hh; obtain ⟨p3, c3, es3, rfl, _⟩ := hru.open)
 refine A1 13 ?_
 (refine D1 rfl (C9 rfl rfl rfl zW zR rfl) rfl rfl ?_; rintro _ ⟨b109, rfl⟩)
 refine A1 14 ?_
 refine T9 rfl rfl rfl rfl rfl rfl (fun _ _ => by repeat (first | exact Sw.here | apply Sw.there)) (R2 zP) rfl zQ zR zW rfl rfl zG (fun pn' cn' => ?_)
 refine aP 15 rfl (C0 rfl) rfl ?_
 refine A1 16 ?_
 refine N9 rfl rfl rfl rfl rfl rfl rfl rfl zU zO (by rfl) ?_
 refine A9 ?_
 refine sP (K9 rfl rfl zW zW) rfl rfl ?_
 refine A4 ?_
 refine K3 (i + 1, pn', cn', us ++ [u], es' ++ [[.int .i64 u.k, .slice p3 u.ks.length c3]], G1) ?_ ?_ ?_
 (simp only [J7]; exact E3)
 (dsimp only; have e1 := A3N (ks := aks) (i := i) zW; have e2 := A3N (ks := bks) (i := i) zW; exact ⟨by omega, hle.trans hle1, by simp [hlu], E9.snoc (hst.mono hle1) hru, A11 hau hua, by rw [A23]; omega⟩)
 (show aks.length - (i + 1) < aks.length - i; omega)
 refine N1 ?_
 (refine F6 zN (fun G2 hle2 hsl2 hno2 => ?_); obtain rfl : i = aks.length := zW)
 refine tT ?_
 refine L0 (rC rfl (A3 rfl rfl)) ?_
 (rw [List.take_length, hlab, List.take_length] at hsu; exact ⟨rfl, .mk ak us, _, rfl, (hst.mono hle2).ty hlu hsl2 hak, A87 ha hlu hau, by rw [hza, hzb, H6]; omega, trivial⟩)
theorem A42 (br : Nat) (pb : Option Addr) (nb cb : Nat) (bs : List UInt8) (hnb : nb ≤ 2000) : ∀ (t : Ty) (p : Nat) (G : IM) (cells : List Value), E5 t → B8 G t cells → Sl G pb nb cb 1 (N5 bs) → p + (H6 t).toNat + 1 < 1099511627776 →
  Fn Tryz.prog 99 [.pointer (some ⟨br, 0, none⟩), .agg ⟨cells⟩] [rd br pb nb cb p] G
   (Y9 br pb nb cb p ((H6 t).toNat + 1) (fun G' v => ∃ u cells, v = .agg ⟨cells⟩ ∧ B8 G' u cells ∧ E5 u ∧ H6 u ≤ H6 t ∧ ∀ n, P9 n t → P9 n u)) := by
 refine Ty.ind fun k ks ih p G cells ha hr hb hp => ?_
 have hkid := ha.kid
 have hnn := A1c ks
 have hz : H6 (.mk k ks) = ks.length + L5 ks := by rw [H6]
 rw [hz] at hp ⊢
 obtain ⟨q, c, es, rfl, hk, hsl, hkl⟩ := hr.open
 simp only [Ty.k, Ty.ks] at hk hsl hkl ⊢
 have hn := hsl.le
 have hl2 := ha.two
 refine C7 Tryz.func99 rfl Tryz.ntmps99 Tryz.results99 rfl ?_
 intro w0
 refine A4 ?_
 refine sE (D5 rfl rfl) rfl (fun b3 => ?_)
 refine sE (A8 rfl) rfl (fun b4 => ?_)
 refine A7 ?_
 (refine I0 rfl (S2 _ br pb nb cb p bs _ hb hnb zW) (Pk.perm zN) rfl rfl (fun v11 G11 outs11 hle11 hh => ?_); obtain ⟨rfl, rfl, j11, rfl, hj11, hk11⟩ := hh; have hm := hle11)
 replace hb := hb.mono hle11
 replace hr := hr.mono hle11
 replace hsl := hsl.mono hle11
 replace hkl := hkl.mono hle11
 refine sB (qE rfl rfl) rfl rfl (fun h12 => ?_) (fun h12 => ?_)
 refine A9 ?_
 refine E6 rfl ((A0J _)) rfl rfl ?_
 refine A9 ?_
 refine H7 (outs := [rd br pb nb cb (p + 1)]) (rC rfl (A3 rfl rfl)) zH ?_
 (exact ⟨p + 1, by omega, by omega, rfl, Q5, _, rfl, A0K _, A3T, by rw [A6n]; omega, fun n _ => A8K n⟩)
 refine I2 ?_
 refine sE (A8 rfl) rfl (fun b36 => ?_)
 refine D9 ?_
 refine C2 ?_
 (refine X0 25 2 ?_; refine L4 (fun (x : Nat × Option Addr × Nat × List Ty × List (List Value) × Nat × IM) => ⟨[(6, .int .i64 x.1), (5, .pointer (some ⟨b36, 0, none⟩)), (4, .pointer (some ⟨b4, 0, none⟩)), (0, .pointer (some ⟨br, 0, none⟩)), (3, .pointer (some ⟨b3, 0, none⟩))], [.blk b36 [.int .i64 k, .slice x.2.1 x.1 x.2.2.1], .slc x.2.1 x.2.2.1 25 2 x.1 x.2.2.2.2.1.flatten, rd br pb nb cb x.2.2.2.2.2.1, .blk b4 [.int .i64 0, .slice none 0 0], .blk b3 [.int .i64 k, .slice q ks.length c]], x.2.2.2.2.2.2⟩) (fun x => x.1 ≤ ks.length ∧ C1 G11 x.2.2.2.2.2.2 ∧ x.2.2.2.1.length = x.1 ∧ E9 x.2.2.2.2.2.2 x.2.2.2.1 x.2.2.2.2.1 ∧ (∀ u ∈ x.2.2.2.1, E5 u) ∧ (∀ n, P9 n (.mk k ks) → ∀ u ∈ x.2.2.2.1, P9 (n - 1) u) ∧ L5 x.2.2.2.1 ≤ L5 (ks.take x.1) ∧ p + 1 ≤ x.2.2.2.2.2.1 ∧ (x.2.2.2.2.2.1 : Int) ≤ p + 1 + x.1 + L5 (ks.take x.1)) (fun x => ks.length - x.1) (0, none, 0, [], [], p + 1, G11) ?_ ?_ ?_)
 (simp only [J7]; exact E3)
 (exact ⟨by simp, C1.refl _, rfl, by simp [E9], by simp, by simp, by simp [L5], by dsimp only; omega, by simp [L5]⟩)
 (rintro ⟨i, pn, cn, us, es', p', Gi⟩ ⟨hi, hle, hlu, hst, hau, hhu, hsu, hp1, hp2⟩; simp only [] at hi hle hlu hst hau hhu hsu hp1 hp2 ⊢; replace hsl := hsl.mono hle; replace hkl := hkl.mono hle; have htk := A4Q ks i)
 refine B5 ?_
 refine sB (K6 rfl rfl) rfl rfl (fun h58 => ?_) (fun h58 => ?_)
 refine A7 ?_
 refine C2 ?_
 (obtain ⟨b, o, q0, d0, hp0, hat0, hre0, hg0⟩ := hsl.kidTy hkl (i := i) zW zW; subst hp0; have e1 := A3N (ks := ks) (i := i) zW; have e2 := A4Q ks (i + 1); have e3 := A0g ks[i]; have hih := ih ks[i] (List.getElem_mem zW) p' Gi _ (hkid _ (List.getElem_mem zW)) hre0 (hb.mono hle) zW; refine D2 D3 rfl ?_)
 refine H1 (i := 0) (l' := [tt,ff,ff,ff,ff,ff,ff,ff,ff,ff,ff,ff,ff]) rfl C8 (C0 rfl) rfl zU rfl rfl ?_
 refine aL 1 rfl (D4 rfl rfl) rfl ?_
 refine aP 2 rfl (qM rfl) rfl ?_
 refine aP 3 rfl (C0 rfl) rfl ?_
 refine aL 4 rfl (D4 rfl rfl) rfl ?_
 refine aP 5 rfl (qM rfl) rfl ?_
 refine aP 6 rfl (B1 rfl rfl rfl zW) rfl ?_
 refine aL 7 rfl (A5 rfl rfl (hat0 _) rfl) rfl ?_
 refine A1 8 ?_
 (refine Z2 (l' := [tt,tt,tt,tt,tt,tt,tt,tt,tt,ff,ff,ff,ff]) rfl rfl hih (Pk.perm zN) rfl rfl rfl (by repeat (first | exact B2.nil | apply B2.dep zS | apply B2.blk zS zN zP | apply B2.im zS hg0 zP)) (fun v G3 outs hle3 hh => ?_); obtain ⟨p3, hp31, hp32, rfl, u, cells3, rfl, hru, hua, hus, huh⟩ := hh; obtain ⟨q3, c3, es3, rfl, _⟩ := hru.open)
 refine A1 9 ?_
 (refine D1 rfl (C9 rfl rfl rfl zW zR rfl) rfl rfl ?_; rintro _ ⟨b78, rfl⟩)
 refine A1 10 ?_
 refine T9 rfl rfl rfl rfl rfl rfl (fun _ _ => by repeat (first | exact Sw.here | apply Sw.there)) (R2 zP) rfl zQ zR zW rfl rfl zG (fun pn' cn' => ?_)
 refine aP 11 rfl (C0 rfl) rfl ?_
 refine A1 12 ?_
 refine N9 rfl rfl rfl rfl rfl rfl rfl rfl zU zO (by rfl) ?_
 refine A9 ?_
 refine sP (K9 rfl rfl zW zW) rfl rfl ?_
 refine A4 ?_
 refine K3 (i + 1, pn', cn', us ++ [u], es' ++ [[.int .i64 u.k, .slice q3 u.ks.length c3]], p3, G3) ?_ ?_ ?_
 (simp only [J7]; exact E3)
 (dsimp only; exact ⟨by omega, hle.trans hle3, by simp [hlu], E9.snoc (hst.mono hle3) hru, A11 hau hua, fun n hn => A11 (hhu n hn) (huh _ (A6i hn (List.getElem_mem _))), by rw [A23]; omega, by omega, by omega⟩)
 (show ks.length - (i + 1) < ks.length - i; omega)
 refine N1 ?_
 (refine F6 zN (fun G5 hle5 hsl5 hno5 => ?_); obtain rfl : i = ks.length := zW)
 refine tT ?_
 refine H7 (outs := [rd br pb nb cb p']) (rC rfl (A3 rfl rfl)) zH ?_
 (rw [List.take_length] at hsu hp2; refine ⟨p', by omega, by omega, rfl, .mk k us, _, rfl, (hst.mono hle5).ty hlu hsl5 hk, A87 ha hlu hau, by rw [H6]; omega, fun n hn => B3K hn hlu (hhu n hn)⟩)
theorem B4a : ∀ (a b : Ty) (G : IM) (ca cb : List Value), B8 G a ca → B8 G b cb → Fn Tryz.prog 60 [.agg ⟨ca⟩, .agg ⟨cb⟩] [] G (fun G' v outs => G' = G ∧ (∃ x, v = .bool x) ∧ outs = []) := by
 refine Ty.ind fun ak aks ih b G ca cb hra hrb => ?_
 obtain ⟨bk, bks⟩ := b
 obtain ⟨pa, cca, ea, rfl, hak, hsla, hkla⟩ := hra.open
 obtain ⟨pb, ccb, eb, rfl, hbk, hslb, hklb⟩ := hrb.open
 simp only [Ty.k, Ty.ks] at hak hsla hkla hbk hslb hklb ⊢
 have hna := hsla.le
 have hnb := hslb.le
 refine C7 Tryz.func60 rfl Tryz.ntmps60 Tryz.results60 rfl ?_
 intro w0
 refine A4 ?_
 refine sE (D5 rfl rfl) rfl (fun b3 => ?_)
 refine sE (D5 rfl rfl) rfl (fun b4 => ?_)
 refine I2 ?_
 refine sB (R7 rfl rfl) rfl rfl (fun h15 => ?_) (fun h15 => ?_)
 refine A0n ?_
 (exact ⟨rfl, ⟨_, rfl⟩, rfl⟩)
 refine B5 ?_
 refine sB (R7 rfl rfl) rfl rfl (fun h44 => ?_) (fun h44 => ?_)
 refine N8 ?_
 (exact ⟨rfl, ⟨_, rfl⟩, rfl⟩)
 refine N8 ?_
 refine C2 ?_
 (refine L4 (fun (i : Nat) => ⟨[(5, .int .i64 i), (2, .pointer (some ⟨b3, 0, none⟩)), (3, .pointer (some ⟨b4, 0, none⟩))], [.blk b4 [.int .i64 bk, .slice pb bks.length ccb], .blk b3 [.int .i64 ak, .slice pa aks.length cca]], G⟩) (fun i => i ≤ aks.length) (fun i => aks.length - i) 0 ?_ ?_ ?_)
 exact E3
 exact Nat.zero_le _
 (rintro i hi)
 refine B5 ?_
 refine sB (K6 rfl rfl) rfl rfl (fun h82 => ?_) (fun h82 => ?_)
 refine A7 ?_
 refine C2 ?_
 refine tS ?_
 (obtain ⟨b, o, q0, d0, hp0, hat0, hre0, hg0⟩ := hsla.kidTy hkla (i := i) zW zW; obtain ⟨b', o', q1, d1, hp1, hat1, hre1, hg1⟩ := hslb.kidTy hklb (i := i) zW zW; subst hp0; subst hp1; refine D2 D3 rfl ?_)
 refine H1 (i := 0) (l' := [tt,ff,ff,ff,ff,ff,ff,ff,ff,ff,ff,ff]) rfl C8 (C0 rfl) rfl zU rfl rfl ?_
 refine aL 1 rfl (D4 rfl rfl) rfl ?_
 refine aP 2 rfl (qM rfl) rfl ?_
 refine aP 3 rfl (B1 rfl rfl rfl zW) rfl ?_
 refine aL 4 rfl (A5 rfl rfl (hat0 _) rfl) rfl ?_
 refine aP 5 rfl (C0 rfl) rfl ?_
 refine aL 6 rfl (D4 rfl rfl) rfl ?_
 refine aP 7 rfl (qM rfl) rfl ?_
 refine aP 8 rfl (B1 rfl rfl rfl zW) rfl ?_
 refine aL 9 rfl (A5 rfl rfl (hat1 _) rfl) rfl ?_
 refine A1 10 ?_
 (refine A50 rfl rfl (ih aks[i] (List.getElem_mem zW) bks[i] G _ _ hre0 hre1) rfl rfl rfl (fun v Go outs hle hh => ?_); obtain ⟨rfl, ⟨x, rfl⟩, rfl⟩ := hh; cases x)
 refine aP 11 rfl (pNf rfl) rfl ?_
 refine K4 ?_
 (exact ⟨rfl, ⟨_, rfl⟩, rfl⟩)
 refine aP 11 rfl (pNt rfl) rfl ?_
 refine E7 ?_
 refine sP (K9 rfl rfl zW zW) rfl rfl ?_
 refine A4 ?_
 refine K3 (i + 1) ?_ ?_ ?_
 exact E3
 omega
 omega
 refine K4 ?_
 (exact ⟨rfl, ⟨_, rfl⟩, rfl⟩)
theorem At.sub {hp : List A6} {G : IM} {b o j : Nat} {vs : List Value} {v : Value} (h : At hp G b o vs) (hj : vs[j]? = some v) : At hp G b (o + j) [v] := by
 have key : ∀ {cs : List Value}, (∀ i u, vs[i]? = some u → cs[o + i]? = some u) → ∀ i u, [v][i]? = some u → cs[o + j + i]? = some u := by
  intro cs hc i u hu
  cases i with
  | zero => simp at hu; subst hu; simpa using hc j v hj
  | succ i => simp at hu
 rcases h with ⟨cs, hm, hv⟩ | ⟨n, c, el, sz, cs, hm, hv⟩ | ⟨full, hg, hv⟩
 ·exact .inl ⟨cs, hm, key hv⟩
 ·exact .inr (.inl ⟨n, c, el, sz, cs, hm, key hv⟩)
 ·exact .inr (.inr ⟨full, hg, key hv⟩)
theorem At.sub2 {hp : List A6} {G : IM} {b o j j' : Nat} {vs : List Value} {v : Value} (h : At hp G b o vs) (hj : vs[j + j']? = some v) : At hp G b (o + j + j') [v] := by
 rw [Nat.add_assoc]; exact h.sub hj
def HTm (G : IM) (t : Tm) (k : Int) (cells : List Value) : Prop := ∃ pt ct et pf cf ef p c es,
 cells = [.int .i64 t.k, .string t.nm, .int .i64 t.num, .int .i64 t.ty.k, .slice pt t.ty.ks.length ct, .int .i64 t.fr.k, .slice pf t.fr.ks.length cf, .int .i64 t.lb, .slice p t.ks.length c] ∧
 D0 G pt t.ty.ks.length ct 2 et ∧ E9 G (A1W t.ty.ks k) et ∧ D0 G pf t.fr.ks.length cf 2 ef ∧ E9 G (A1W t.fr.ks (k + Y8 t.ty.ks)) ef ∧ D0 G p t.ks.length c 9 es ∧ H3 G (A4O t.ks (k + Y8 t.ty.ks + Y8 t.fr.ks)) es
theorem B4b {nm : ByteArray} (h : X3 nm = true) : nm.size = 1 := by
 unfold X3 at h
 simp at h
 omega
theorem A6v {k : Int} {nm : ByteArray} {num : Int} {ty fr : Ty} {lb : Int} {n : Nat} (h : T3 k nm num ty fr lb n = true) : nm.size ≤ 1 := by
 obtain ⟨_, h2, h3, _⟩ := X4.1 h
 by_cases hk : k = 1 ∨ k = 5
 ·rw [B4b (h2 hk)]; omega
 ·rw [h3 hk]; decide
def RBd (G : IM) (e : List Value) : Prop := ∃ nm t q d, e = [.string nm, .int .i64 t.k, .slice q t.ks.length d] ∧ B8 G t [.int .i64 t.k, .slice q t.ks.length d] ∧ E5 t ∧ H6 t ≤ 30 ∧ nm.size ≤ 1
def S4 (G : IM) (p : Option Addr) (n c : Nat) : Prop := ∃ es, es.length = n ∧ D0 G p n c 3 es ∧ ∀ e ∈ es, RBd G e
theorem RBd.mono {G G' : IM} {e : List Value} (h : RBd G e) (hg : C1 G G') : RBd G' e := by
 obtain ⟨nm, t, q, d, h1, h2, h3, h4⟩ := h
 exact ⟨nm, t, q, d, h1, h2.mono hg, h3, h4⟩
theorem S4.mono {G G' : IM} {p : Option Addr} {n c : Nat} (h : S4 G p n c) (hg : C1 G G') : S4 G' p n c := by
 obtain ⟨es, h1, h2, h3⟩ := h
 exact ⟨es, h1, h2.mono hg, fun e he => (h3 e he).mono hg⟩
theorem S4.nil (G : IM) : S4 G none 0 0 := ⟨[], rfl, D0.nil _ _, by simp⟩
theorem At.drop {hp : List A6} {G : IM} {b o : Nat} {v : Value} {vs : List Value} (h : At hp G b o (v :: vs)) : At hp G b (o + 1) vs := by
 have key : ∀ {cs : List Value}, (∀ i u, (v :: vs)[i]? = some u → cs[o + i]? = some u) → ∀ i u, vs[i]? = some u → cs[o + 1 + i]? = some u := by
  intro cs hc i u hu
  have := hc (i + 1) u (by simpa using hu)
  rwa [show o + 1 + i = o + (i + 1) by omega]
 rcases h with ⟨cs, hm, hv⟩ | ⟨n, c, el, sz, cs, hm, hv⟩ | ⟨full, hg, hv⟩
 ·exact .inl ⟨cs, hm, key hv⟩
 ·exact .inr (.inl ⟨n, c, el, sz, cs, hm, key hv⟩)
 ·exact .inr (.inr ⟨full, hg, key hv⟩)
theorem S4.get {G : IM} {p : Option Addr} {n c : Nat} (h : S4 G p n c) {i : Nat} (hi : i < n) :
  ∃ b o nm t q d, p = some ⟨b, o, none⟩ ∧ (∀ hp, At hp G b (o + i * 3) [.string nm, .int .i64 t.k, .slice q t.ks.length d]) ∧ B8 G t [.int .i64 t.k, .slice q t.ks.length d] ∧ E5 t ∧ H6 t ≤ 30 ∧ G b ≠ none ∧ nm.size ≤ 1 := by
 obtain ⟨es, h1, h2, h3⟩ := h
 obtain ⟨e, b, o, he, rfl, hl, _, hat, hgb⟩ := h2.get (i := i) zW
 obtain ⟨nm, t, q, d, rfl, h5, h6, h7, h8⟩ := h3 e (List.mem_of_getElem? he)
 exact ⟨b, o, nm, t, q, d, rfl, hat, h5, h6, h7, hgb, h8⟩
theorem S4.le {G : IM} {p : Option Addr} {n c : Nat} (h : S4 G p n c) : n ≤ 9223372036854775807 := by
 obtain ⟨es, h1, h2, h3⟩ := h
 exact h2.le
theorem A88 (G : IM) (p : Option Addr) (n c : Nat) (nm : ByteArray) (hx : S4 G p n c) :
  Fn Tryz.prog 171 [.slice p n c, .string nm] [] G (TyB 30 G) := by
 have hn := hx.le
 refine C7 Tryz.func171 rfl Tryz.ntmps171 Tryz.results171 rfl ?_
 intro w0
 refine A4 ?_
 refine sE (A8 rfl) rfl (fun b3 => ?_)
 refine E7 ?_
 refine sP (O7 rfl rfl zW zW) rfl rfl ?_
 refine B3 ?_
 refine C2 ?_
 (refine L4 (fun (i : Nat) => ⟨[(6, .int .i64 ((i : Int) - 1)), (0, .slice p n c), (1, .string nm), (4, .pointer (some ⟨b3, 0, none⟩))], [.blk b3 [.int .i64 0, .slice none 0 0]], G⟩) (fun i => i ≤ n) (fun i => i) n ?_ ?_ ?_)
 exact E3
 exact Nat.le_refl _
 (rintro i hi)
 refine C3 ?_
 refine sB (A0W rfl rfl) rfl rfl (fun h25 => ?_) (fun h25 => ?_)
 refine A7 ?_
 (show I9 _ _ (.block 1 _) _ _; obtain ⟨j, rfl⟩ : ∃ j, i = j + 1 := ⟨i - 1, by omega⟩; rw [show ((j + 1 : Nat) : Int) - 1 = (j : Int) from by omega]; obtain ⟨b, o, nm1, t1, q1, d1, rfl, hat, hr1, ha1, hs1, hgb, hns1⟩ := hx.get (i := j) zW; refine C2 ?_)
 refine C3 ?_
 refine sP (B1 rfl rfl rfl zW) rfl rfl ?_
 refine F8 ?_
 refine sL (S0 rfl rfl ((hat _).sub (j := 0) rfl)) rfl rfl ?_
 refine F8 ?_
 refine sB (A1S rfl rfl) rfl rfl (fun h41 => ?_) (fun h41 => ?_)
 refine B5 ?_
 refine sP (B1 rfl rfl rfl zW) rfl rfl ?_
 refine F8 ?_
 refine sL (A5 rfl rfl (hat _).drop rfl) rfl rfl ?_
 (refine F9 rfl (P8 _ G _ ha1.small hr1) rfl rfl (fun v G1 hle1 hh => ?_); obtain ⟨L7, F1, rfl, hs1', hn1⟩ := hh; obtain ⟨p1, c1, rfl, _⟩ := hs1'.open; have hrr := hs1'.R.mono (D7.le G1 G))
 refine I2 ?_
 refine E0 (rC rfl (A3 rfl rfl)) (rT rfl) ?_
 (exact ⟨rfl, _, _, _, rfl, hrr, ha1, hs1⟩)
 refine E7 ?_
 refine sP (O7 rfl rfl zW zW) rfl rfl ?_
 refine A4 ?_
 refine K3 j ?_ ?_ ?_
 exact E3
 (show _ ≤ n; omega)
 exact Nat.le_refl _
 refine N4 ?_
 exact y11
theorem A6w {G : IM} {nm : ByteArray} {k : Int} {ks : List Ty} {q : Option Addr} {d : Nat} (hr : B8 G (.mk k ks) [.int .i64 k, .slice q ks.length d]) (ha : E5 (.mk k ks)) (hs : H6 (.mk k ks) ≤ 30) (hn : nm.size ≤ 1) : RBd G [.string nm, .int .i64 k, .slice q ks.length d] := ⟨nm, .mk k ks, q, d, rfl, hr, ha, hs, hn⟩
theorem S4.snoc {G G' : IM} {p p' : Option Addr} {n c c' : Nat} {es : List (List Value)} {e : List Value} (h1 : es.length = n) (h2 : D0 G p n c 3 es) (h3 : ∀ e ∈ es, RBd G e) (hg : C1 G G') (he : RBd G' e) (hs : Sl G' p' (n + 1) c' 3 (es.flatten ++ e)) : S4 G' p' (n + 1) c' := by
 refine ⟨es ++ [e], by simp [h1], D0.of (by simpa using hs) (by simp [h1]) ?_ ?_, ?_⟩
 ·intro x hx
  rcases List.mem_append.1 hx with hx | hx
  ·obtain ⟨_, _, _, _, rfl, _⟩ := h3 x hx; rfl
  ·obtain ⟨_, _, _, _, rfl, _⟩ := he
   simp only [List.mem_singleton] at hx; subst hx; rfl
 ·intro x hx
  rcases List.mem_append.1 hx with hx | hx
  ·obtain ⟨_, _, _, _, rfl, _⟩ := h3 x hx; simp [Value.oneCell']
  ·obtain ⟨_, _, _, _, rfl, _⟩ := he
   simp only [List.mem_singleton] at hx; subst hx; simp [Value.oneCell']
 ·intro x hx
  rcases List.mem_append.1 hx with hx | hx
  ·exact (h3 x hx).mono hg
  ·simp only [List.mem_singleton] at hx; subst hx; exact he
theorem A6x (G : IM) (p : Option Addr) (n c : Nat) (nm : ByteArray) (t : Ty) (cells : List Value) (hx : S4 G p n c) (hn : n ≤ 1000) (hr : B8 G t cells) (ha : E5 t) (hs : H6 t ≤ 30) (hnm : nm.size ≤ 1) :
  Fn Tryz.prog 132 [.slice p n c, .string nm, .agg ⟨cells⟩] [] G (K1 fun G' v => ∃ p' c', v = .slice p' (n + 1) c' ∧ S4 G' p' (n + 1) c') := by
 obtain ⟨k, ks⟩ := t
 obtain ⟨q, d, es0, rfl, _⟩ := hr.open
 simp only [Ty.k, Ty.ks] at hr ⊢
 obtain ⟨es, h1, h2, h3⟩ := hx
 have hSl : Sl G p n c 3 es.flatten := h2.1
 have h1c : ∀ u ∈ es.flatten, u.oneCell' = true := by
  intro u hu
  obtain ⟨e, he, hue⟩ := List.mem_flatten.1 hu
  obtain ⟨_, _, _, _, rfl, _⟩ := h3 e he
  simp only [List.mem_cons, List.not_mem_nil, or_false] at hue
  rcases hue with rfl | rfl | rfl <;> rfl
 refine C7 Tryz.func132 rfl Tryz.ntmps132 Tryz.results132 rfl ?_
 intro w0
 refine A4 ?_
 refine sE (D5 rfl rfl) rfl (fun b3 => ?_)
 refine C3 ?_
 refine D2 D3 rfl ?_
 refine H1 (i := 1) (l' := [ff,tt,ff,ff,ff,ff,ff,ff,ff]) rfl C8 (qM rfl) rfl zU rfl rfl ?_
 refine aP 3 rfl (qM rfl) rfl ?_
 refine aL 4 rfl (A3 rfl rfl) rfl ?_
 refine aP 5 rfl (N7 rfl rfl) rfl ?_
 refine N3 (j := 0) (j' := 6) zU ?_ ?_
 (refine D1 rfl (C9 rfl rfl rfl zW zR rfl) rfl rfl ?_; rintro _ ⟨b14, rfl⟩)
 refine N3 (j := 2) (j' := 6) zU ?_ ?_
 (refine A22 rfl rfl rfl rfl rfl rfl (fun _ _ => by repeat (first | exact Sw.here | apply Sw.there)) hSl h1c (Nat.zero_le _) zR zW rfl rfl zG (fun p4 c4 => ?_); simp only [Nat.zero_add, List.nil_append])
 refine A1 6 ?_
 (refine D1 rfl (C9 rfl rfl rfl zW zR rfl) rfl rfl ?_; rintro _ ⟨b18, rfl⟩)
 exact y12
 (refine D1 rfl (C9 rfl rfl rfl zW zR rfl) rfl rfl ?_; rintro _ ⟨b28, rfl⟩)
 refine A1 2 ?_
 (refine A22 rfl rfl rfl rfl rfl rfl (fun _ _ => by repeat (first | exact Sw.here | apply Sw.there)) hSl h1c (Nat.zero_le _) zR zW rfl rfl zG (fun p4 c4 => ?_); simp only [Nat.zero_add, List.nil_append])
 exact y12
 (refine D1 rfl (C9 rfl rfl rfl zW zR rfl) rfl rfl ?_; rintro _ ⟨b40, rfl⟩)
 refine A1 0 ?_
 (refine D1 rfl (C9 rfl rfl rfl zW zR rfl) rfl rfl ?_; rintro _ ⟨b42, rfl⟩)
 refine A1 2 ?_
 (refine A22 rfl rfl rfl rfl rfl rfl (fun _ _ => by repeat (first | exact Sw.here | apply Sw.there)) hSl h1c (Nat.zero_le _) zR zW rfl rfl zG (fun p4 c4 => ?_); simp only [Nat.zero_add, List.nil_append])
 exact y12
theorem B4c (G : IM) : Fn Tryz.prog 169 [.slice none 0 0] [] G (J5 (.bool true) G) := by
 refine C7 Tryz.func169 rfl Tryz.ntmps169 Tryz.results169 rfl ?_
 intro w0
 refine I3 ?_
 refine C2 ?_
 (refine L4 (fun (_ : Nat) => ⟨[(3, .int .i64 0), (0, .slice none 0 0)], [], G⟩) (fun _ => True) (fun i => i) 0 ?_ ?_ ?_)
 ·exact E3
 ·trivial
 ·(rintro i _)
  refine A7 ?_
  refine sP (A4A rfl rfl zW) rfl rfl ?_
  refine N8 ?_
  refine sP (A2V rfl rfl zW) rfl rfl ?_
  refine A9 ?_
  trivial
theorem A2C {k : Int} {n : Nat} (h : F7 k = n) : (k = 6 ∨ k = 7 ∨ k = 8 ∨ k = 10 → n = 2) ∧ (k = 9 → n = 3) ∧ (k = 5 ∨ k = 11 ∨ k = 12 ∨ k = 13 → n = 1) := by
 refine ⟨?_, ?_, ?_⟩
 ·rintro (rfl | rfl | rfl | rfl)
  ·rw [show F7 6 = 2 from rfl] at h; omega
  ·rw [show F7 7 = 2 from rfl] at h; omega
  ·rw [show F7 8 = 2 from rfl] at h; omega
  ·rw [show F7 10 = 2 from rfl] at h; omega
 ·rintro rfl
  rw [show F7 9 = 3 from rfl] at h; omega
 ·rintro (rfl | rfl | rfl | rfl)
  ·rw [show F7 5 = 1 from rfl] at h; omega
  ·rw [show F7 11 = 1 from rfl] at h; omega
  ·rw [show F7 12 = 1 from rfl] at h; omega
  ·rw [show F7 13 = 1 from rfl] at h; omega
theorem A89 {ts : List Ty} {i : Nat} (h : i < ts.length) : H6 ts[i] ≤ L5 ts := A6t (List.getElem_mem h)
theorem A9a {ts : List Ty} {i j : Nat} (h : j < ts.length) (hij : i < j) : H6 ts[i] + H6 ts[j] ≤ L5 ts := by
 have h1 := A3N (ks := ts) (i := i) zW
 have h2 := A3N (ks := ts) (i := j) h
 have h3 := A4Q ts (j + 1)
 have h4 : L5 (ts.take (i + 1)) ≤ L5 (ts.take j) := by
  have := A4Q (ts.take j) (i + 1)
  rwa [List.take_take, Nat.min_eq_left zW] at this
 have h5 : 0 ≤ L5 (ts.take i) := A1c _
 omega
theorem B4d (k : Int) (nm : ByteArray) (num : Int) (ty fr : Ty) (lb : Int) (ks : List Tm) (ts : List Ty) (G : IM) (cells : List Value) (p : Option Addr) (c : Nat) (es : List (List Value))
  (hops : F7 k = ts.length) (hty : E5 ty ∧ H6 ty ≤ 30) (hr : B6 G (.mk k nm num ty fr lb ks) cells) (hsl : D0 G p ts.length c 2 es) (hkl : E9 G ts es) (har : ∀ t ∈ ts, E5 t) :
  Fn Tryz.prog 174 [.agg ⟨cells⟩, .slice p ts.length c] [] G (TyB (L5 ts + 32) G) := by
 have hone := hr.one
 have hop := A2C hops
 have hnn := A1c ts
 have hz0 := fun h : 0 < ts.length => A89 h
 have hz1 := fun h : 1 < ts.length => A89 h
 have hz01 := fun h : 1 < ts.length => A9a (i := 0) h zW
 have hz12 := fun h : 2 < ts.length => A9a (i := 1) h zW
 have ha0 := fun h : 0 < ts.length => har _ (List.getElem_mem h)
 have ha1 := fun h : 1 < ts.length => har _ (List.getElem_mem h)
 have ha2 := fun h : 2 < ts.length => har _ (List.getElem_mem h)
 obtain ⟨tk, tks⟩ := ty
 obtain ⟨fk, fks⟩ := fr
 obtain ⟨pt, ct, pf, cf, pk, ck, ek, rfl, hk, hnum, hlb, hrty, hrfr, _, _⟩ := hr.open9
 refine C7 Tryz.func174 rfl Tryz.ntmps174 Tryz.results174 rfl ?_
 intro w0
 refine A4 ?_
 refine sE (D5 rfl rfl) rfl (fun b3 => ?_)
 refine sE (A8 rfl) rfl (fun b4 => ?_)
 refine I2 ?_
 refine C2 (tS (tR (sB (qE rfl rfl) rfl rfl (fun h18 => ?_) (fun h18 => ?_))))
 refine B5 ?_
 (have hl2 : ts.length = 2 := hop.1 zW; obtain ⟨b0, o0, q0, d0, hp0, hat0, hre0, hg0⟩ := hsl.kidTy hkl (i := 0) zW zW; obtain ⟨b1, o1, q1, d1, hp1, hat1, hre1, hg1⟩ := hsl.kidTy hkl (i := 1) zW zW; cases hp0; cases hp1; refine sP (B1 (j := 0) rfl rfl rfl zW) rfl rfl ?_)
 refine sL (A5 rfl rfl (hat0 _) rfl) rfl rfl ?_
 (refine F9 rfl (A24 4 ts[0] G _ (.inl rfl) (ha0 zW) hre0) rfl rfl (fun v G1 hle1 hh => ?_); obtain ⟨ma, mca, mb, mcb, mx, rfl, hma, hma2, hma3, hmb, hmb2, hmb3⟩ := hh; obtain ⟨p1, c1, e1, rfl, _⟩ := hma.open; obtain ⟨p2, c2, e2, rfl, _⟩ := hmb.open; replace hsl := hsl.mono hle1; replace hkl := hkl.mono hle1; cases mx)
 refine C3 ?_
 refine sE (A8 rfl) rfl (fun b33 => ?_)
 refine sE (A8 rfl) rfl (fun b34 => ?_)
 refine A7 ?_
 (have hl2 : ts.length = 2 := hop.1 zW; obtain ⟨b0, o0, q0, d0, hp0, hat0, hre0, hg0⟩ := hsl.kidTy hkl (i := 0) zW zW; obtain ⟨b1, o1, q1, d1, hp1, hat1, hre1, hg1⟩ := hsl.kidTy hkl (i := 1) zW zW; cases hp0; cases hp1; refine D2 D3 rfl ?_)
 refine M3 (i := 0) (l' := [tt,ff,ff,ff,ff,ff,ff,ff,ff,ff,ff]) rfl C8 (A3 rfl rfl) rfl zU rfl rfl ?_
 refine aP 1 rfl (qM rfl) rfl ?_
 refine aP 2 rfl (qM rfl) rfl ?_
 refine B9 3 rfl rfl rfl ?_
 refine B9 4 rfl rfl rfl ?_
 refine B9 5 rfl rfl rfl ?_
 refine B9 6 rfl rfl rfl ?_
 refine B9 7 rfl rfl rfl ?_
 refine aP 8 rfl (O2 rfl rfl) rfl ?_
 refine A1 9 ?_
 refine E4 rfl ?_
 refine aP 10 rfl (qA rfl) rfl ?_
 refine A9 ?_
 refine E0 (rC rfl (A3 rfl rfl)) (rT rfl) ?_
 (have h0 := hz0 zW; exact ⟨rfl, _, _, _, rfl, hmb, hmb2, by omega⟩)
 refine C3 ?_
 refine sE (A8 rfl) rfl (fun b65 => ?_)
 refine sE (A8 rfl) rfl (fun b66 => ?_)
 refine A7 ?_
 (have hl2 : ts.length = 2 := hop.1 zW; obtain ⟨b0, o0, q0, d0, hp0, hat0, hre0, hg0⟩ := hsl.kidTy hkl (i := 0) zW zW; obtain ⟨b1, o1, q1, d1, hp1, hat1, hre1, hg1⟩ := hsl.kidTy hkl (i := 1) zW zW; cases hp0; cases hp1; refine D2 D3 rfl ?_)
 refine M3 (i := 0) (l' := [tt,ff,ff,ff,ff,ff,ff,ff,ff,ff,ff]) rfl C8 (A3 rfl rfl) rfl zU rfl rfl ?_
 refine aP 1 rfl (qM rfl) rfl ?_
 refine aP 2 rfl (qM rfl) rfl ?_
 refine aP 3 rfl (qM rfl) rfl ?_
 refine aP 4 rfl (B1 (j := 1) rfl rfl rfl zW) rfl ?_
 refine aL 5 rfl (A5 rfl rfl (hat1 _) rfl) rfl ?_
 refine aL 6 rfl (A3 rfl rfl) rfl ?_
 refine A1 7 ?_
 refine L1 rfl rfl ((A05 ts[1] ma _ _ _ (ha1 zW) hma2 hre1 hma)) rfl rfl rfl ?_
 refine aP 8 rfl (M4 rfl rfl) rfl ?_
 refine A1 9 ?_
 refine E4 rfl ?_
 refine aP 10 rfl (qA rfl) rfl ?_
 refine A9 ?_
 refine E0 (rC rfl (A3 rfl rfl)) (rT rfl) ?_
 (have h0 := hz0 zW; exact ⟨rfl, _, _, _, rfl, hmb, hmb2, by omega⟩)
 refine A7 ?_
 refine sB (qE rfl rfl) rfl rfl (fun h100 => ?_) (fun h100 => ?_)
 refine A9 ?_
 (have hl2 : ts.length = 2 := hop.1 zW; obtain ⟨b0, o0, q0, d0, hp0, hat0, hre0, hg0⟩ := hsl.kidTy hkl (i := 0) zW zW; obtain ⟨b1, o1, q1, d1, hp1, hat1, hre1, hg1⟩ := hsl.kidTy hkl (i := 1) zW zW; cases hp0; cases hp1; refine D2 D3 rfl ?_)
 refine H1 (i := 1) (l' := [ff,tt,ff,ff,ff,ff,ff,ff,ff,ff,ff,ff,ff,ff,ff]) rfl C8 (qM rfl) rfl zU rfl rfl ?_
 refine aP 2 rfl (B1 (j := 0) rfl rfl rfl zW) rfl ?_
 refine aL 3 rfl (A5 rfl rfl (hat0 _) rfl) rfl ?_
 refine A1 0 ?_
 refine L1 rfl rfl ((V8 _)) rfl rfl rfl ?_
 refine A1 4 ?_
 refine L1 rfl rfl ((V8 _)) rfl rfl rfl ?_
 refine A1 5 ?_
 refine Q3 rfl rfl ((A05 ts[0] (.mk 2 []) _ _ _ (ha0 zW) (M6 zV zV) hre0 (J8 _ ⟨by omega, by omega⟩))) rfl rfl rfl (fun h115 => ?_) (fun h115 => ?_)
 exact y14
 exact y15
 refine A7 ?_
 refine sB (qE rfl rfl) rfl rfl (fun h158 => ?_) (fun h158 => ?_)
 refine A9 ?_
 (have hl2 : ts.length = 2 := hop.1 zW; obtain ⟨b0, o0, q0, d0, hp0, hat0, hre0, hg0⟩ := hsl.kidTy hkl (i := 0) zW zW; obtain ⟨b1, o1, q1, d1, hp1, hat1, hre1, hg1⟩ := hsl.kidTy hkl (i := 1) zW zW; cases hp0; cases hp1; refine D2 D3 rfl ?_)
 refine H1 (i := 1) (l' := [ff,tt,ff,ff,ff,ff,ff,ff,ff,ff,ff,ff,ff,ff,ff]) rfl C8 (qM rfl) rfl zU rfl rfl ?_
 refine aP 2 rfl (B1 (j := 0) rfl rfl rfl zW) rfl ?_
 refine aL 3 rfl (A5 rfl rfl (hat0 _) rfl) rfl ?_
 refine A1 0 ?_
 refine L1 rfl rfl ((A1i _)) rfl rfl rfl ?_
 refine A1 4 ?_
 refine L1 rfl rfl ((V8 _)) rfl rfl rfl ?_
 refine A1 5 ?_
 refine Q3 rfl rfl ((A05 ts[0] (.mk 2 []) _ _ _ (ha0 zW) (M6 zV zV) hre0 (J8 _ ⟨by omega, by omega⟩))) rfl rfl rfl (fun h173 => ?_) (fun h173 => ?_)
 exact y14
 exact y15
 refine A7 ?_
 refine sB (qE rfl rfl) rfl rfl (fun h216 => ?_) (fun h216 => ?_)
 refine A7 ?_
 (have hl3 : ts.length = 3 := hop.2.1 zW; obtain ⟨b0, o0, q0, d0, hp0, hat0, hre0, hg0⟩ := hsl.kidTy hkl (i := 0) zW zW; obtain ⟨b1, o1, q1, d1, hp1, hat1, hre1, hg1⟩ := hsl.kidTy hkl (i := 1) zW zW; obtain ⟨b2, o2, q2, d2, hp2, hat2, hre2, hg2⟩ := hsl.kidTy hkl (i := 2) zW zW; cases hp0; cases hp1; cases hp2; refine D2 D3 rfl ?_)
 refine H1 (i := 0) (l' := [tt,ff,ff,ff,ff,ff,ff,ff]) rfl C8 (qM rfl) rfl zU rfl rfl ?_
 refine aP 1 rfl (B1 (j := 1) rfl rfl rfl zW) rfl ?_
 refine aL 2 rfl (A5 rfl rfl (hat1 _) rfl) rfl ?_
 refine aP 3 rfl (qM rfl) rfl ?_
 refine aP 4 rfl (B1 (j := 2) rfl rfl rfl zW) rfl ?_
 refine aL 5 rfl (A5 rfl rfl (hat2 _) rfl) rfl ?_
 refine A1 6 ?_
 refine Q3 rfl rfl ((A05 ts[1] ts[2] _ _ _ (ha1 zW) (ha2 zW) hre1 hre2)) rfl rfl rfl (fun h231 => ?_) (fun h231 => ?_)
 refine aP 7 rfl (pNt rfl) rfl ?_
 refine A7 ?_
 (have hl3 : ts.length = 3 := hop.2.1 zW; obtain ⟨b0, o0, q0, d0, hp0, hat0, hre0, hg0⟩ := hsl.kidTy hkl (i := 0) zW zW; obtain ⟨b1, o1, q1, d1, hp1, hat1, hre1, hg1⟩ := hsl.kidTy hkl (i := 1) zW zW; obtain ⟨b2, o2, q2, d2, hp2, hat2, hre2, hg2⟩ := hsl.kidTy hkl (i := 2) zW zW; cases hp0; cases hp1; cases hp2; refine D2 D3 rfl ?_)
 refine H1 (i := 0) (l' := [tt,ff,ff,ff,ff,ff,ff,ff,ff,ff,ff,ff,ff,ff]) rfl C8 (qM rfl) rfl zU rfl rfl ?_
 refine aP 1 rfl (B1 (j := 1) rfl rfl rfl zW) rfl ?_
 refine aL 2 rfl (A5 rfl rfl (hat1 _) rfl) rfl ?_
 refine aP 3 rfl (qM rfl) rfl ?_
 refine aP 4 rfl (B1 (j := 2) rfl rfl rfl zW) rfl ?_
 refine aL 5 rfl (A5 rfl rfl (hat2 _) rfl) rfl ?_
 refine aP 7 rfl (qM rfl) rfl ?_
 refine aP 8 rfl (B1 (j := 0) rfl rfl rfl zW) rfl ?_
 refine aL 9 rfl (A5 rfl rfl (hat0 _) rfl) rfl ?_
 refine A1 6 ?_
 (refine E1 rfl rfl (B39 ts[1] ts[2] G _ _ zT (ha1 zW) (ha2 zW) hre1 hre2) rfl rfl rfl (fun v G1 hle1 hh => ?_); obtain ⟨mt, mc, rfl, hmr, hma, hms, _⟩ := hh; obtain ⟨p1, c1, e1, rfl, _⟩ := hmr.open; have hre0q := hre0.mono hle1)
 refine A1 10 ?_
 refine L1 rfl rfl ((A1i _)) rfl rfl rfl ?_
 refine A1 11 ?_
 refine L1 rfl rfl ((A05 ts[0] (.mk 3 []) _ _ _ (ha0 zW) (M6 zV zV) hre0q (J8 _ ⟨by omega, by omega⟩))) rfl rfl rfl ?_
 refine A1 12 ?_
 refine E4 rfl ?_
 refine aP 13 rfl (qA rfl) rfl ?_
 refine A9 ?_
 refine E0 (rC rfl (A3 rfl rfl)) (rT rfl) ?_
 (have h0 := hz12 zW; exact ⟨rfl, _, _, _, rfl, hmr, hma, by omega⟩)
 refine aP 7 rfl (pNf rfl) rfl ?_
 refine N1 ?_
 exact y11
 refine A7 ?_
 refine sB (qE rfl rfl) rfl rfl (fun h288 => ?_) (fun h288 => ?_)
 refine A9 ?_
 (have hl2 : ts.length = 2 := hop.1 zW; obtain ⟨b0, o0, q0, d0, hp0, hat0, hre0, hg0⟩ := hsl.kidTy hkl (i := 0) zW zW; obtain ⟨b1, o1, q1, d1, hp1, hat1, hre1, hg1⟩ := hsl.kidTy hkl (i := 1) zW zW; cases hp0; cases hp1; refine D2 D3 rfl ?_)
 refine H1 (i := 0) (l' := [tt,ff,ff,ff,ff,ff,ff,ff,ff,ff,ff]) rfl C8 (qM rfl) rfl zU rfl rfl ?_
 refine aP 1 rfl (B1 (j := 0) rfl rfl rfl zW) rfl ?_
 refine aL 2 rfl (A5 rfl rfl (hat0 _) rfl) rfl ?_
 refine aP 3 rfl (qM rfl) rfl ?_
 refine aP 4 rfl (B1 (j := 1) rfl rfl rfl zW) rfl ?_
 refine aL 5 rfl (A5 rfl rfl (hat1 _) rfl) rfl ?_
 refine A1 6 ?_
 (refine E1 rfl rfl (A2B 5 ts[0] ts[1] G _ _ (.inr rfl) (ha0 zW) (ha1 zW) hre0 hre1) rfl rfl rfl (fun v G1 hle1 hh => ?_); obtain ⟨mt, mc, mx, rfl, hmr, hma, hms⟩ := hh; obtain ⟨p1, c1, e1, rfl, _⟩ := hmr.open)
 refine aP 7 rfl (pX rfl rfl) rfl ?_
 refine aP 8 rfl (pX rfl rfl) rfl ?_
 refine A1 9 ?_
 refine E4 rfl ?_
 refine aP 10 rfl (qA rfl) rfl ?_
 refine A9 ?_
 refine E0 (rC rfl (A3 rfl rfl)) (rT rfl) ?_
 (have h0 := hz01 zW; exact ⟨rfl, _, _, _, rfl, hmr, hma, by omega⟩)
 refine A7 ?_
 refine sB (qE rfl rfl) rfl rfl (fun h321 => ?_) (fun h321 => ?_)
 refine B5 ?_
 (have hl1 : ts.length = 1 := hop.2.2 zW; obtain ⟨b0, o0, q0, d0, hp0, hat0, hre0, hg0⟩ := hsl.kidTy hkl (i := 0) zW zW; cases hp0; refine sP (B1 (j := 0) rfl rfl rfl zW) rfl rfl ?_)
 refine sL (A5 rfl rfl (hat0 _) rfl) rfl rfl ?_
 (refine F9 rfl (A24 5 ts[0] G _ (.inr rfl) (ha0 zW) hre0) rfl rfl (fun v G1 hle1 hh => ?_); obtain ⟨ma, mca, mb, mcb, mx, rfl, hma, hma2, hma3, hmb, hmb2, hmb3⟩ := hh; obtain ⟨p1, c1, e1, rfl, _⟩ := hma.open; obtain ⟨p2, c2, e2, rfl, _⟩ := hmb.open)
 refine C3 ?_
 refine sE (A8 rfl) rfl (fun b336 => ?_)
 refine sE (A8 rfl) rfl (fun b337 => ?_)
 refine N4 ?_
 refine E0 (rC rfl (A3 rfl rfl)) (rT rfl) ?_
 (have h0 := hz0 zW; exact ⟨rfl, _, _, _, rfl, hma, hma2, by omega⟩)
 refine A7 ?_
 refine sB (qE rfl rfl) rfl rfl (fun h362 => ?_) (fun h362 => ?_)
 refine B5 ?_
 (have hl1 : ts.length = 1 := hop.2.2 zW; obtain ⟨b0, o0, q0, d0, hp0, hat0, hre0, hg0⟩ := hsl.kidTy hkl (i := 0) zW zW; cases hp0; refine sP (B1 (j := 0) rfl rfl rfl zW) rfl rfl ?_)
 refine sL (A5 rfl rfl (hat0 _) rfl) rfl rfl ?_
 (refine F9 rfl (A24 5 ts[0] G _ (.inr rfl) (ha0 zW) hre0) rfl rfl (fun v G1 hle1 hh => ?_); obtain ⟨ma, mca, mb, mcb, mx, rfl, hma, hma2, hma3, hmb, hmb2, hmb3⟩ := hh; obtain ⟨p1, c1, e1, rfl, _⟩ := hma.open; obtain ⟨p2, c2, e2, rfl, _⟩ := hmb.open)
 refine C3 ?_
 refine sE (A8 rfl) rfl (fun b377 => ?_)
 refine sE (A8 rfl) rfl (fun b378 => ?_)
 refine N4 ?_
 refine E0 (rC rfl (A3 rfl rfl)) (rT rfl) ?_
 (have h0 := hz0 zW; exact ⟨rfl, _, _, _, rfl, hmb, hmb2, by omega⟩)
 refine A7 ?_
 refine sB (qE rfl rfl) rfl rfl (fun h403 => ?_) (fun h403 => ?_)
 refine A9 ?_
 (have hl1 : ts.length = 1 := hop.2.2 zW; obtain ⟨b0, o0, q0, d0, hp0, hat0, hre0, hg0⟩ := hsl.kidTy hkl (i := 0) zW zW; cases hp0; refine D2 D3 rfl ?_)
 refine H1 (i := 0) (l' := [tt,ff,ff,ff,ff,ff,ff,ff,ff,ff,ff]) rfl C8 (C0 rfl) rfl zU rfl rfl ?_
 refine aL 1 rfl (A3 rfl rfl) rfl ?_
 refine aP 3 rfl (qM rfl) rfl ?_
 refine aP 4 rfl (B1 (j := 0) rfl rfl rfl zW) rfl ?_
 refine aL 5 rfl (A5 rfl rfl (hat0 _) rfl) rfl ?_
 refine aP 6 rfl (C0 rfl) rfl ?_
 refine aL 7 rfl (A3 rfl rfl) rfl ?_
 refine A1 2 ?_
 (refine E1 rfl rfl (P8 (.mk tk tks) G _ hty.1.small hrty) rfl rfl rfl (fun v G1 hle1 hh => ?_); obtain ⟨L7, F1, rfl, hs1, hn1⟩ := hh; obtain ⟨p1, c1, rfl, _⟩ := hs1.open; have hmr := hs1.R.mono (D7.le G1 G); have hre0q := hre0.mono hle1; have hrtyq := hrty.mono hle1)
 refine A1 8 ?_
 refine L1 rfl rfl ((A05 ts[0] (.mk tk tks) _ _ _ (ha0 zW) hty.1 hre0q hrtyq)) rfl rfl rfl ?_
 refine A1 9 ?_
 refine E4 rfl ?_
 refine aP 10 rfl (qA rfl) rfl ?_
 refine A9 ?_
 refine E0 (rC rfl (A3 rfl rfl)) (rT rfl) ?_
 (exact ⟨rfl, _, _, _, rfl, hmr, hty.1, by omega⟩)
 refine K4 ?_
 exact y11
theorem B4e : ∀ (t : Ty) (d : Int), L8 t d = true → E5 t := by
 refine Ty.ind fun k ks ih d h => ?_
 obtain ⟨h1, h2⟩ := A3U h
 rw [E5]
 refine ⟨fun hk => ?_, fun h4 h5 => ?_, A3S.2 fun t ht => ?_⟩
 ·have := (M8 k).2.1 hk
  omega
 ·have h5' := M8 k
  have h6 := h5'.1
  have h7 := h5'.2.2
  omega
 ·obtain ⟨i, hi, rfl⟩ := List.getElem_of_mem ht
  exact ih _ ht _ (h2 i hi)
theorem B4f : ∀ (n : Nat) (t : Ty) (d : Int), L8 t d = true → 4 - d ≤ n → P9 n t := by
 intro n
 induction n with
 | zero =>
  rintro ⟨k, ks⟩ d h hd
  obtain ⟨h1, h2⟩ := A3U h
  have hks : ks.length = 0 := by
   rcases Nat.eq_zero_or_pos ks.length with h0 | h0
   ·exact h0
   ·have h3 := h2 0 h0
    obtain ⟨k', ks'⟩ : Ty := ks[0]
    have h4 : ∀ (u : Ty) (d : Int), L8 u d = true → d ≤ 4 := by
     rintro ⟨a, b⟩ d hu
     rw [L8] at hu
     simp only [Bool.and_eq_true, decide_eq_true_eq] at hu
     exact hu.1.1
    have := h4 _ _ h3
    omega
  have h5 := M8 k
  have h6 := h5.2.1
  exact ⟨List.length_eq_zero_iff.1 hks, by intro h; have := h6 (.inl h); omega, by intro h; have := h6 (.inr h); omega⟩
 | succ n ih =>
  rintro ⟨k, ks⟩ d h hd
  have ha := B4e _ _ h
  rw [E5] at ha
  obtain ⟨h1, h2⟩ := A3U h
  refine ⟨ha.1, ha.2.1, fun t ht => ?_⟩
  obtain ⟨i, hi, rfl⟩ := List.getElem_of_mem ht
  exact ih _ _ (h2 i hi) zW
theorem A43 {t : Ty} (h : M1 t = true) : E5 t ∧ H6 t ≤ 30 := by
 have h1 := B4f 3 t 1 h zW
 have h2 := A4V h1
 have h3 : ((2 ^ (3 + 1) - 2 : Nat) : Int) = 14 := rfl
 exact ⟨h1.ar, by omega⟩
theorem B4g {t : Ty} (h : X2 t = true) : E5 t ∧ H6 t ≤ 30 := by
 rw [A2y h]
 exact ⟨M6 zV zV, by rw [B4, X5]; omega⟩
theorem A25 {k : Int} {nm : ByteArray} {num : Int} {ty fr : Ty} {lb : Int} {n : Nat} (h : T3 k nm num ty fr lb n = true) : E5 ty ∧ H6 ty ≤ 30 := by
 have hn := X4.1 h
 by_cases hk : k = 5 ∨ k = 13 ∨ k = 14
 ·exact A43 (hn.2.2.2.2.2.1 hk)
 ·exact B4g (hn.2.2.2.2.2.2.1 hk)
theorem A9b : ∀ (e : Tm) (d : Int) (G : IM) (p : Option Addr) (n c : Nat) (cells : List Value), K8 12 14 e d = true → (n : Int) ≤ d → S4 G p n c → B6 G e cells →
  Fn Tryz.prog 131 [.slice p n c, .agg ⟨cells⟩] [] G (TyB (32 * (F4 e : Int)) G) := by
 refine Tm.ind fun k nm num ty fr lb ks ih d G p n c cells hv hnd hx hr => ?_
 have hr0 := hr
 have hone := hr.one
 obtain ⟨hv1, hv2, hv3, hv4⟩ := Z5 hv
 have hvk := (A04 12 14 ks _).1 hv4
 have har := (X4.1 hv3).1
 have hop := A2C har
 obtain ⟨hta, hts⟩ := A25 hv3
 have hck : F4 (.mk k nm num ty fr lb ks) = 1 + H4 ks := by rw [F4]; omega
 rw [hck]
 obtain ⟨tk, tks⟩ := ty
 obtain ⟨fk, fks⟩ := fr
 obtain ⟨pt, ct, pf, cf, q, cq, es, rfl, hk, hnum, hlb, hty, hfr, hsl, hkl⟩ := hr.open9
 have hlen : ks.length ≤ 3 := by have := A1J k; omega
 refine C7 Tryz.func131 rfl Tryz.ntmps131 Tryz.results131 rfl ?_
 intro w0
 refine A4 ?_
 refine sE (D5 rfl rfl) rfl (fun b3 => ?_)
 refine sE (A8 rfl) rfl (fun b4 => ?_)
 refine I2 ?_
 refine C2 (tS (tR (sB (qE rfl rfl) rfl rfl (fun h18 => ?_) (fun h18 => ?_))))
 refine D9 ?_
 (refine F9 rfl (A88 G p n c nm hx) rfl rfl (fun v G1 hle1 hh => ?_); obtain ⟨mt, mc, mx, rfl, hmr, hma, hms⟩ := hh; obtain ⟨p1, c1, e1, rfl, _⟩ := hmr.open)
 refine D9 ?_
 refine E0 (rC rfl (A3 rfl rfl)) (rT rfl) ?_
 (exact ⟨rfl, _, _, _, rfl, hmr, hma, by omega⟩)
 refine A7 ?_
 refine sB (qE rfl rfl) rfl rfl (fun h46 => ?_) (fun h46 => ?_)
 refine A7 ?_
 refine E6 rfl ((V8 _)) rfl rfl ?_
 refine B5 ?_
 exact y11
 refine B5 ?_
 refine sB (qE rfl rfl) rfl rfl (fun h70 => ?_) (fun h70 => ?_)
 refine D9 ?_
 refine E6 rfl ((A1i _)) rfl rfl ?_
 refine B5 ?_
 exact y11
 refine A9 ?_
 refine sB (qE rfl rfl) rfl rfl (fun h95 => ?_) (fun h95 => ?_)
 refine A7 ?_
 refine E6 rfl ((A1i _)) rfl rfl ?_
 refine B5 ?_
 exact y11
 refine A7 ?_
 refine sB (qE rfl rfl) rfl rfl (fun h118 => ?_) (fun h118 => ?_)
 refine A9 ?_
 (have hl1 : ks.length = 1 := hop.2.2 zW; obtain ⟨b, o, e, rfl, hl, hat, hre, hgb⟩ := hsl.kidTm hkl (i := 0) zW zW; have hMore := A6x G p n c nm (.mk tk tks) _ hx zW hty hta hts (A6v hv3); have hcl : H4 ks = F4 ks[0] := (by have := A4N (ks := ks) (i := 0) zW; rw [List.take_of_length_le zW] at this; simpa [H4] using this); refine D2 D3 rfl ?_)
 refine H1 (i := 0) (l' := [tt,ff,ff,ff,ff,ff,ff,ff,ff,ff,ff,ff,ff,ff,ff,ff,ff]) rfl C8 (qM rfl) rfl zU rfl rfl ?_
 refine aP 1 rfl (C0 rfl) rfl ?_
 refine aL 2 rfl (D4 rfl rfl) rfl ?_
 refine aP 3 rfl (C0 rfl) rfl ?_
 refine aL 4 rfl (A3 rfl rfl) rfl ?_
 refine aP 6 rfl (C0 rfl) rfl ?_
 refine aL 7 rfl (D4 rfl rfl) rfl ?_
 refine aP 8 rfl (B1 (j := 0) rfl rfl rfl zW) rfl ?_
 refine aL 9 rfl (A5 rfl rfl (hat _) hl) rfl ?_
 refine N3 (j := 5) (j' := 14) zU ?_ ?_
 (refine E1 rfl rfl hMore rfl rfl rfl (fun v G1 hle1 hh => ?_); obtain ⟨pm, cm, rfl, hxm⟩ := hh; have hreM := hre.mono hle1; have hLam := ih ks[0] (List.getElem_mem zW) (d + 1) G1 pm (n + 1) cm _ (hvk 0 zW) zW hxm hreM; have htyM := hty.mono hle1)
 refine N3 (j := 10) (j' := 14) zU ?_ ?_
 (refine E1 rfl rfl hLam rfl rfl rfl (fun v G2 hle2 hh => ?_); obtain ⟨mt, mc, mx, rfl, hmr, hma, hms⟩ := hh; obtain ⟨p1, c1, e1, rfl, _⟩ := hmr.open; have htyN := htyM.mono hle2; cases mx)
 refine aP 11 rfl (qM rfl) rfl ?_
 refine aP 12 rfl (pX rfl rfl) rfl ?_
 refine aP 13 rfl (pX rfl rfl) rfl ?_
 refine A1 14 ?_
 (refine D1 rfl (A8 rfl) rfl rfl ?_; rintro _ ⟨b142, rfl⟩)
 refine A1 15 ?_
 refine E4 rfl ?_
 refine aP 16 rfl (qA rfl) rfl ?_
 refine A0c ?_
 exact y11
 refine aP 11 rfl (qM rfl) rfl ?_
 refine aP 12 rfl (pX rfl rfl) rfl ?_
 refine aP 13 rfl (pX rfl rfl) rfl ?_
 refine A1 14 ?_
 (refine D1 rfl (A8 rfl) rfl rfl ?_; rintro _ ⟨b173, rfl⟩)
 exact y13
 (refine D1 rfl (A8 rfl) rfl rfl ?_; rintro _ ⟨b206, rfl⟩)
 refine A1 10 ?_
 (refine E1 rfl rfl hLam rfl rfl rfl (fun v G2 hle2 hh => ?_); obtain ⟨mt, mc, mx, rfl, hmr, hma, hms⟩ := hh; obtain ⟨p1, c1, e1, rfl, _⟩ := hmr.open; have htyN := htyM.mono hle2; cases mx)
 refine aP 11 rfl (qM rfl) rfl ?_
 refine aP 12 rfl (pX rfl rfl) rfl ?_
 refine aP 13 rfl (pX rfl rfl) rfl ?_
 refine A1 15 ?_
 refine E4 rfl ?_
 refine aP 16 rfl (qA rfl) rfl ?_
 refine A0c ?_
 exact y11
 refine aP 11 rfl (qM rfl) rfl ?_
 refine aP 12 rfl (pX rfl rfl) rfl ?_
 refine aP 13 rfl (pX rfl rfl) rfl ?_
 exact y13
 (refine D1 rfl (A8 rfl) rfl rfl ?_; rintro _ ⟨b273, rfl⟩)
 refine A1 5 ?_
 (refine E1 rfl rfl hMore rfl rfl rfl (fun v G1 hle1 hh => ?_); obtain ⟨pm, cm, rfl, hxm⟩ := hh; have hreM := hre.mono hle1; have hLam := ih ks[0] (List.getElem_mem zW) (d + 1) G1 pm (n + 1) cm _ (hvk 0 zW) zW hxm hreM; have htyM := hty.mono hle1)
 refine A1 10 ?_
 (refine E1 rfl rfl hLam rfl rfl rfl (fun v G2 hle2 hh => ?_); obtain ⟨mt, mc, mx, rfl, hmr, hma, hms⟩ := hh; obtain ⟨p1, c1, e1, rfl, _⟩ := hmr.open; have htyN := htyM.mono hle2; cases mx)
 refine aP 11 rfl (qM rfl) rfl ?_
 refine aP 12 rfl (pX rfl rfl) rfl ?_
 refine aP 13 rfl (pX rfl rfl) rfl ?_
 refine A1 15 ?_
 refine E4 rfl ?_
 refine aP 16 rfl (qA rfl) rfl ?_
 refine A0c ?_
 exact y11
 refine aP 11 rfl (qM rfl) rfl ?_
 refine aP 12 rfl (pX rfl rfl) rfl ?_
 refine aP 13 rfl (pX rfl rfl) rfl ?_
 exact y13
 refine D9 ?_
 (refine J1 (C9 rfl rfl rfl zW zR rfl) rfl ?_; rintro _ ⟨b351, rfl⟩)
 refine D9 ?_
 refine C2 ?_
 (refine L4 (fun (x : Nat × Option Addr × Nat × List Ty × List (List Value) × IM) => ⟨[(9, .int .i64 x.1), (8, .slice x.2.1 x.1 x.2.2.1), (3, .pointer (some ⟨b3, 0, none⟩)), (4, .pointer (some ⟨b4, 0, none⟩)), (0, .slice p n c)], [.slc x.2.1 x.2.2.1 25 2 x.1 x.2.2.2.2.1.flatten, .blk b4 [.int .i64 0, .slice none 0 0], .blk b3 [.int .i64 k, .string nm, .int .i64 num, .int .i64 tk, .slice pt tks.length ct, .int .i64 fk, .slice pf fks.length cf, .int .i64 lb, .slice q ks.length cq]], x.2.2.2.2.2⟩) (fun x => x.1 ≤ ks.length ∧ C1 G x.2.2.2.2.2 ∧ x.2.2.2.1.length = x.1 ∧ E9 x.2.2.2.2.2 x.2.2.2.1 x.2.2.2.2.1 ∧ (∀ u ∈ x.2.2.2.1, E5 u) ∧ L5 x.2.2.2.1 ≤ 32 * (H4 (ks.take x.1) : Int)) (fun x => ks.length - x.1) (0, some ⟨b351, 0, none⟩, 0, [], [], G) ?_ ?_ ?_)
 (simp only [J7]; exact E3)
 (exact ⟨by simp, C1.refl _, rfl, by simp [E9], by simp, by dsimp only; rw [L5]; omega⟩)
 (rintro ⟨i, pn, cn, us, es', Gi⟩ ⟨hi, hle, hlu, hst, hau, hsu⟩; simp only [] at hi hle hlu hst hau hsu ⊢; replace hsl := hsl.mono hle; replace hkl := hkl.mono hle; replace hx := hx.mono hle; replace hr0 := hr0.mono hle)
 refine B5 ?_
 refine sB (K6 rfl rfl) rfl rfl (fun h373 => ?_) (fun h373 => ?_)
 refine A7 ?_
 refine C2 ?_
 refine A7 ?_
 (obtain ⟨b, o, e, rfl, hl, hat, hre, hgb⟩ := hsl.kidTm hkl (i := i) zW zW; have hsc := A4N (ks := ks) (i := i) zW; refine sP (B1 rfl rfl rfl zW) rfl rfl ?_)
 refine sL (A5 rfl rfl (hat _) hl) rfl rfl ?_
 (refine F9 rfl (ih ks[i] (List.getElem_mem zW) (d + 1) Gi p n c _ (hvk i zW) zW hx hre) rfl rfl (fun v G2 hle2 hh => ?_); obtain ⟨u, uc, mx, rfl, hru, hua, hus⟩ := hh; obtain ⟨p3, c3, e3, rfl, _⟩ := hru.open; cases mx)
 refine B3 ?_
 refine sE (A8 rfl) rfl (fun b393 => ?_)
 refine A4F ?_
 exact y11
 refine B3 ?_
 refine sE (A8 rfl) rfl (fun b425 => ?_)
 refine P6 ?_
 (refine J1 (C9 rfl rfl rfl zW zR rfl) rfl ?_; rintro _ ⟨b443, rfl⟩)
 refine A2t rfl rfl rfl rfl rfl (fun _ _ => by repeat (first | exact Sw.here | apply Sw.there)) (R2 zP) rfl zQ zR zW rfl (fun pn' cn' => ?_)
 refine A7 ?_
 refine sP (K9 rfl rfl zW zW) rfl rfl ?_
 refine A4 ?_
 refine K3 (i + 1, pn', cn', us ++ [u], es' ++ [[.int .i64 u.k, .slice p3 u.ks.length c3]], G2) ?_ ?_ ?_
 (simp only [J7]; exact E3)
 (dsimp only; exact ⟨by omega, hle.trans hle2, by simp [hlu], E9.snoc (hst.mono hle2) hru, A11 hau hua, by rw [A23]; omega⟩)
 (show ks.length - (i + 1) < ks.length - i; omega)
 refine N8 ?_
 (obtain rfl : i = ks.length := zW; refine S9 (cs := es'.flatten) zN (fun G3 hle3 hsl3 hno3 => ?_); have hst3 := hst.mono hle3; have hRes := B4d k nm num (.mk tk tks) (.mk fk fks) lb ks us G3 _ pn cn es' (by rw [hlu]; exact har) ⟨hta, hts⟩ (hr0.mono hle3) (by rw [hlu]; exact D0.of hsl3 (by rw [hst3.len, hlu]) hst3.all (fun e he => (hst3.each e he).2)) hst3 hau; rw [hlu] at hRes; refine F9 rfl hRes rfl rfl (fun v G4 hle4 hh => ?_); obtain ⟨mt, mc, mx, rfl, hmr, hma, hms⟩ := hh; obtain ⟨p1, c1, e1, rfl, _⟩ := hmr.open; rw [List.take_length] at hsu)
 refine B5 ?_
 refine E0 (rC rfl (A3 rfl rfl)) (rT rfl) ?_
 (exact ⟨rfl, _, _, _, rfl, hmr, hma, by omega⟩)
theorem B6.of9 {G : IM} {k : Int} {nm : ByteArray} {num tk fk : Int} {tks fks : List Ty} {lb : Int} {ks : List Tm} {q1 q2 q3 : Option Addr} {c1 c2 c3 : Nat} {es : List (List Value)} (hk : E8 k) (hnum : E8 num) (hlb : E8 lb) (hty : B8 G (.mk tk tks) [.int .i64 tk, .slice q1 tks.length c1])
  (hfr : B8 G (.mk fk fks) [.int .i64 fk, .slice q2 fks.length c2]) (hsl : D0 G q3 ks.length c3 9 es) (hkl : H3 G ks es) :
  B6 G (.mk k nm num (.mk tk tks) (.mk fk fks) lb ks) [.int .i64 k, .string nm, .int .i64 num, .int .i64 tk, .slice q1 tks.length c1, .int .i64 fk, .slice q2 fks.length c2, .int .i64 lb, .slice q3 ks.length c3] := by
 simp only [B6]
 exact ⟨_, _, q3, c3, es, rfl, hk, hnum, hlb, hty, hfr, hsl, hkl⟩
theorem A1K {k k' : Int} {nm nm' : ByteArray} {num num' : Int} {ty fr ty' fr' : Ty} {lb lb' : Int} {ks : List Tm} (h : (Tm.mk k nm num ty fr lb ks).small) (h1 : nm'.size ≤ 4294967296) (h2 : ty'.small) (h3 : fr'.small) : (Tm.mk k' nm' num' ty' fr' lb' ks).small := by
 simp only [Tm.small] at h ⊢
 exact ⟨h1, h2, h3, h.2.2.2⟩
def Tm.fit (t : Tm) (N : Nat) : Prop := t.small ∧ F4 t ≤ N
theorem B4h (br : Nat) (pb : Option Addr) (nb cb : Nat) (bs : List UInt8) (hnb : nb ≤ 2000) (p : Nat) (G : IM) (hb : Sl G pb nb cb 1 (N5 bs)) (hp : p + 100 < 1099511627776) (t : Tm) (cells : List Value) (N : Nat) (hfit : t.fit N) (hr : B6 G t cells) :
  Fn Tryz.prog 91 [.pointer (some ⟨br, 0, none⟩), .agg ⟨cells⟩] [rd br pb nb cb p] G
   (Y9 br pb nb cb p 40 (fun G' v => ∃ t cells, v = .agg ⟨cells⟩ ∧ B6 G' t cells ∧ t.fit N)) := by
 have hl := hr.len
 have hone := hr.one
 obtain ⟨k, nm, num, ⟨tk, tks⟩, ⟨fk, fks⟩, lb, ks⟩ := t
 have hfit0 := hfit
 obtain ⟨hsm, hcn⟩ := hfit0
 replace hfit : (Tm.mk k nm num (.mk tk tks) (.mk fk fks) lb ks).small ∧ F4 (Tm.mk k nm num (.mk tk tks) (.mk fk fks) lb ks) ≤ N := hfit
 rw [show (Tm.mk k nm num (.mk tk tks) (.mk fk fks) lb ks).small = (nm.size ≤ 4294967296 ∧ (Ty.mk tk tks).small ∧ (Ty.mk fk fks).small ∧ ks.length ≤ 4294967296 ∧ Tm.smallL ks) from by rw [Tm.small]] at hfit
 refine C7 Tryz.func91 rfl Tryz.ntmps91 Tryz.results91 rfl ?_
 intro w0
 refine A4 ?_
 refine sE (D5 rfl rfl) rfl (fun b3 => ?_)
 refine sE (A8 rfl) rfl (fun b4 => ?_)
 refine C3 ?_
 refine sL (A5 rfl rfl (B7 zP) zT) rfl rfl ?_
 (refine F9 rfl (A4R _ G cells hsm hr) rfl rfl (fun v G1 hle1 hh => ?_); obtain ⟨cells1, F1, rfl, hs1, hn1⟩ := hh; have hr1 := hs1.R.mono (D7.le G1 G); obtain ⟨q1, c1, q2, c2, q3, c3, es, rfl, hk, hnum, hlb, hty, hfr, hsl, hkl⟩ := hr1.open9)
 refine sE (A8 rfl) rfl (fun b11 => ?_)
 refine B5 ?_
 (refine I0 rfl (S2 _ br pb nb cb p bs 50 (hb.mono hle1) hnb zW) (Pk.perm zN) rfl rfl (fun v G2 outs hle2 hh => ?_); obtain ⟨rfl, rfl, j, rfl, hj0, hj1⟩ := hh; replace hb := hb.mono hle1)
 refine A4 ?_
 (show I9 _ _ (.block 0 _) _ _; refine Z3 (fun (x : List Value × Nat × IM) => ⟨[(5, .pointer (some ⟨b11, 0, none⟩)), (4, .pointer (some ⟨b4, 0, none⟩))], [.blk b11 x.1, .blk b4 [.int .i64 0, .string ⟨⟨[]⟩⟩, .int .i64 0, .int .i64 0, .slice none 0 0, .int .i64 0, .slice none 0 0, .int .i64 0, .slice none 0 0], rd br pb nb cb x.2.1], x.2.2⟩) (fun x => C1 G2 x.2.2 ∧ p ≤ x.2.1 ∧ x.2.1 ≤ p + 40 ∧ ∃ t, B6 x.2.2 t x.1 ∧ t.small ∧ F4 t = F4 (.mk k nm num (.mk tk tks) (.mk fk fks) lb ks)) ?_ ?_)
 refine C2 (tS (tR (sB (qE rfl rfl) rfl rfl (fun h26 => ?_) (fun h26 => ?_))))
 refine A7 ?_
 (refine J1 (C9 rfl rfl rfl zW zR rfl) rfl ?_; rintro _ ⟨b33, rfl⟩)
 (refine S9 zN (fun G4 hle4 hsl4 _ => ?_); refine I0 rfl (Z4 G4 br pb nb cb (p + 1) bs _ _ _ _ (hb.mono hle4) hnb zW hsl4 zV) (Pk.perm zN) rfl rfl (fun v G5 outs hle5 hh => ?_); obtain ⟨rfl, rfl, hv⟩ := hh; obtain ⟨k', rfl, hk'⟩ : ∃ k', v = .int .i64 k' ∧ E8 k' := (by simp only [List.mem_cons, List.not_mem_nil, or_false] at hv; rcases hv with rfl | rfl | rfl | rfl | rfl | rfl <;> exact ⟨_, rfl, by unfold E8; omega⟩))
 refine C3 ?_
 refine P1 ([.int .i64 k', .string nm, .int .i64 num, .int .i64 tk, .slice q1 tks.length c1, .int .i64 fk, .slice q2 fks.length c2, .int .i64 lb, .slice q3 ks.length c3], p + 1 + 1, G5) (O3 zM zI) ?_
 (dsimp only; exact ⟨hle4, by omega, by omega, _, B6.of9 hk' hnum hlb (hty.mono hle4) (hfr.mono hle4) (hsl.mono hle4) (hkl.mono hle4), A1K hsm hfit.1.1 hfit.1.2.1 hfit.1.2.2.1, rfl⟩)
 refine A7 ?_
 refine sB (qE rfl rfl) rfl rfl (fun h47 => ?_) (fun h47 => ?_)
 refine A7 ?_
 (refine J1 (C9 rfl rfl rfl zW zR rfl) rfl ?_; rintro _ ⟨b54, rfl⟩)
 (refine S9 zN (fun G4 hle4 hsl4 _ => ?_); refine I0 rfl (A6m G4 br pb nb cb (p + 1) bs _ _ _ _ (hb.mono hle4) hnb zW hsl4 zV) (Pk.perm zN) rfl rfl (fun v G5 outs hle5 hh => ?_); obtain ⟨rfl, rfl, hv⟩ := hh; obtain ⟨nm', rfl, hnm'⟩ : ∃ nm', v = .string nm' ∧ nm'.size ≤ 2 := (by simp only [List.mem_cons, List.not_mem_nil, or_false] at hv; rcases hv with rfl | rfl | rfl | rfl <;> exact ⟨_, rfl, by decide⟩))
 refine C3 ?_
 refine P1 ([.int .i64 k, .string nm', .int .i64 num, .int .i64 tk, .slice q1 tks.length c1, .int .i64 fk, .slice q2 fks.length c2, .int .i64 lb, .slice q3 ks.length c3], p + 1 + 1, G5) (O3 zM zI) ?_
 (dsimp only; exact ⟨hle4, by omega, by omega, _, B6.of9 hk hnum hlb (hty.mono hle4) (hfr.mono hle4) (hsl.mono hle4) (hkl.mono hle4), A1K hsm zW hfit.1.2.1 hfit.1.2.2.1, rfl⟩)
 refine A7 ?_
 refine sB (qE rfl rfl) rfl rfl (fun h68 => ?_) (fun h68 => ?_)
 refine A7 ?_
 (refine J1 (C9 rfl rfl rfl zW zR rfl) rfl ?_; rintro _ ⟨b75, rfl⟩)
 (refine S9 zN (fun G4 hle4 hsl4 _ => ?_); refine I0 rfl (Z4 G4 br pb nb cb (p + 1) bs _ _ _ _ (hb.mono hle4) hnb zW hsl4 zV) (Pk.perm zN) rfl rfl (fun v G5 outs hle5 hh => ?_); obtain ⟨rfl, rfl, hv⟩ := hh; obtain ⟨k', rfl, hk'⟩ : ∃ k', v = .int .i64 k' ∧ E8 k' := (by simp only [List.mem_cons, List.not_mem_nil, or_false] at hv; rcases hv with rfl | rfl | rfl | rfl | rfl | rfl <;> exact ⟨_, rfl, by unfold E8; omega⟩))
 refine C3 ?_
 refine P1 ([.int .i64 k, .string nm, .int .i64 k', .int .i64 tk, .slice q1 tks.length c1, .int .i64 fk, .slice q2 fks.length c2, .int .i64 lb, .slice q3 ks.length c3], p + 1 + 1, G5) (O3 zM zI) ?_
 (dsimp only; exact ⟨hle4, by omega, by omega, _, B6.of9 hk hk' hlb (hty.mono hle4) (hfr.mono hle4) (hsl.mono hle4) (hkl.mono hle4), A1K hsm hfit.1.1 hfit.1.2.1 hfit.1.2.2.1, rfl⟩)
 refine A7 ?_
 refine sB (qE rfl rfl) rfl rfl (fun h89 => ?_) (fun h89 => ?_)
 refine B5 ?_
 (refine I0 rfl (A81 br pb nb cb bs hnb (p + 1) _ hb zW) (Pk.perm zN) rfl rfl (fun v G3 outs hle3 hh => ?_); obtain ⟨p3, hp31, hp32, rfl, t3, cells3, rfl, hr3, hs3⟩ := hh)
 (refine I0 rfl (A82 br pb nb cb bs hnb p3 _ (hb.mono hle3) zW t3 cells3 hr3 hs3) (Pk.perm zN) rfl rfl (fun v G4 outs hle4 hh => ?_); obtain ⟨p4, hp41, hp42, rfl, t4, cells4, rfl, hr4, hs4⟩ := hh; have hts4 := A2Y t4 zW; obtain ⟨t4k, t4s⟩ := t4; obtain ⟨q4, c4, es4, rfl, _⟩ := hr4.open; have hle24 := hle3.trans hle4)
 refine C3 ?_
 refine P1 ([.int .i64 k, .string nm, .int .i64 num, .int .i64 t4k, .slice q4 t4s.length c4, .int .i64 fk, .slice q2 fks.length c2, .int .i64 lb, .slice q3 ks.length c3], p4, G4) (O3 zM zI) ?_
 (dsimp only; exact ⟨hle24, by omega, by omega, _, B6.of9 hk hnum hlb hr4 (hfr.mono hle24) (hsl.mono hle24) (hkl.mono hle24), A1K hsm hfit.1.1 hts4 hfit.1.2.2.1, rfl⟩)
 refine A7 ?_
 refine sB (qE rfl rfl) rfl rfl (fun h111 => ?_) (fun h111 => ?_)
 refine D9 ?_
 refine P1 ([.int .i64 k, .string nm, .int .i64 num, .int .i64 tk, .slice q1 tks.length c1, .int .i64 fk, .slice q2 fks.length c2, .int .i64 1, .slice q3 ks.length c3], p + 1, G2) (O3 zM zI) ?_
 (dsimp only; exact ⟨C1.refl _, by omega, by omega, _, B6.of9 hk hnum ⟨by omega, by omega⟩ hty hfr hsl hkl, A1K hsm hfit.1.1 hfit.1.2.1 hfit.1.2.2.1, rfl⟩)
 refine A7 ?_
 refine sB (qE rfl rfl) rfl rfl (fun h129 => ?_) (fun h129 => ?_)
 refine A9 ?_
 refine E6 rfl ((A0J _)) rfl rfl ?_
 refine C3 ?_
 refine P1 ([.int .i64 k, .string nm, .int .i64 num, .int .i64 tk, .slice q1 tks.length c1, .int .i64 1, .slice none 0 0, .int .i64 lb, .slice q3 ks.length c3], p + 1, G2) (O3 zM zI) ?_
 (dsimp only; exact ⟨C1.refl _, by omega, by omega, _, B6.of9 hk hnum hlb hty (A0K _) hsl hkl, A1K hsm hfit.1.1 hfit.1.2.1 (by simp [Ty.small, Ty.smallL]), rfl⟩)
 refine A7 ?_
 refine P1 ([.int .i64 k, .string nm, .int .i64 num, .int .i64 tk, .slice q1 tks.length c1, .int .i64 fk, .slice q2 fks.length c2, .int .i64 lb, .slice q3 ks.length c3], p + 1, G2) (O3 zM zI) ?_
 (dsimp only; exact ⟨C1.refl _, by omega, by omega, _, B6.of9 hk hnum hlb hty hfr hsl hkl, A1K hsm hfit.1.1 hfit.1.2.1 hfit.1.2.2.1, rfl⟩)
 (rintro ⟨cells9, p9, G9⟩ ⟨hle9, hp9, hp9', t9, hr9, hs9, hc9⟩; simp only [] at hle9 hp9 hp9' hr9 hs9 hc9 ⊢; have hl9 := hr9.len; have ho9 := hr9.one)
 refine A4 ?_
 refine sL (A5 rfl rfl (B7 zP) hl9) rfl rfl ?_
 refine sS rfl rfl rfl hl9 ho9 rfl ?_ (hu := by exact C6 hl9.symm)
 refine B3 ?_
 refine H7 (outs := [rd br pb nb cb p9]) (rC rfl (A5 rfl rfl (B7 zP) hl9)) zH ?_
 (exact ⟨p9, by omega, by omega, rfl, t9, cells9, rfl, hr9, hs9, by omega⟩)
section slaw
variable {P : Program} {Γ : L3} {env : M0} {hp : List A6} {G : IM} {ty : TypeId} {K : Po} {ops : Array Oper} {rest : List Oper}
theorem St.slc_open {a : Act} {w : World} {p : Option Addr} {c el sz n : Nat} {cs : List Value} {hp' : List A6} (hs : St Γ ⟨env, hp, G⟩ a w) (hk : Pk hp (.slc p c el sz n cs) hp') (h0 : 0 < n) :
  ∃ b C, p = some ⟨b, 0, none⟩ ∧ n ≤ c ∧ c ≤ maxLen ∧ St Γ ⟨env, .blk b (cs ++ C) :: hp', G⟩ a w := by
 have hown : R6 [.slc p c el sz n cs] G w := hs.res.own.of_mem hk.perm
 obtain ⟨hl, h⟩ := hown.ok _ List.mem_cons_self
 rcases h with ⟨hv, hn⟩ | ⟨g, cap, cur, hv, _, hg, hnc, hcm, hsz, ht⟩
 ·omega
 ·cases hv
  refine ⟨g, cur.toList.drop cs.length, rfl, hnc, hcm, ?_⟩
  have hcur : cur.toList = cs ++ cur.toList.drop cs.length := by
   have e : cs.length = n * sz := hl
   rw [e]
   conv => lhs; rw [← List.take_append_drop (n * sz) cur.toList, ht]
  have hr : P7 [.slc (some ⟨g, 0, none⟩) c el sz n cs] G w [.blk g (cs ++ cur.toList.drop cs.length)] G w := by
   refine ⟨⟨hown.inn, ?_, by simp [Fp, A6.fp], ?_⟩, Ext.refl _ _, C1.refl _, fun _ _ h => .inl h, ?_, fun b l h h0 => absurd h (by rw [h0]; simp)⟩
   ·intro e he
    simp at he; subst he
    refine ⟨el, ?_⟩
    rw [← hcur]; simpa using hg
   ·intro b' hb; exact hown.disj b' (by simpa [Fp, A6.fp, J9] using hb)
   ·intro b' hb; exact .inr (by simpa [Fp, A6.fp, J9] using hb)
  exact ⟨hs.size, hs.nod, hs.env, by have := (hs.res.perm hk.perm).frame hr; simpa using this⟩
theorem A9c {p : Option Addr} {c el sz n : Nat} {cs : List Value} {hp' : List A6} (hk : Pk hp (.slc p c el sz n cs) hp') (h0 : 0 < n)
  (h : ∀ b C, p = some ⟨b, 0, none⟩ → n ≤ c → c ≤ maxLen → I4 P Γ ops rest K ⟨env, .blk b (cs ++ C) :: hp', G⟩) : I4 P Γ ops rest K ⟨env, hp, G⟩ :=
 ⟨fun a w hs => let ⟨b, C, h1, h2, h3, h4⟩ := hs.slc_open hk h0; (h b C h1 h2 h3).run a w h4⟩
end slaw
theorem A9d {es : List (List Value)} {j : Nat} {vs : List Value} (hj : j < es.length) : (es.set j vs).flatten = (es.take j).flatten ++ (vs ++ (es.drop (j + 1)).flatten) := by
 rw [List.set_eq_take_append_cons_drop, if_pos hj]; simp
theorem A6y {es : List (List Value)} {j : Nat} (hj : j < es.length) : es.flatten = (es.take j).flatten ++ (es[j] ++ (es.drop (j + 1)).flatten) := by
 have h := congrArg List.flatten (List.take_append_drop j es).symm
 rw [List.drop_eq_getElem_cons hj, List.flatten_append, List.flatten_cons] at h
 exact h
theorem A9e {es : List (List Value)} {C vs : List Value} {j sz : Nat} (hj : j < es.length) (ha : ∀ e ∈ es, e.length = sz) (hv : vs.length = sz) : Q2 (es.flatten ++ C) (0 + j * sz) vs = some ((es.set j vs).flatten ++ C) := by
 have := A53 (A := (es.take j).flatten) (B := es[j]) (C := (es.drop (j + 1)).flatten ++ C) (V := vs) (o := 0 + j * sz)
  (by rw [A1E (fun e he => ha e (List.mem_of_mem_take he)), List.length_take]; rw [Nat.min_eq_left zW]; omega) (by rw [ha _ (List.getElem_mem hj), hv])
 rw [A6y hj, A9d hj]
 simp only [List.append_assoc] at this ⊢
 exact this
theorem H3.set {G : IM} : ∀ {ks : List Tm} {es : List (List Value)} {j : Nat} {y : Tm} {v : List Value}, H3 G ks es → B6 G y v → H3 G (ks.set j y) (es.set j v)
 | [], es, j, y, v, h, h2 => by simp only [H3] at h; subst h; simp [H3]
 | t :: ts, es, 0, y, v, h, h2 => by
  simp only [H3] at h
  obtain ⟨a, r, rfl, h3, h4⟩ := h
  simp only [List.set_cons_zero, H3]
  exact ⟨v, r, rfl, h2, h4⟩
 | t :: ts, es, j + 1, y, v, h, h2 => by
  simp only [H3] at h
  obtain ⟨a, r, rfl, h3, h4⟩ := h
  simp only [List.set_cons_succ, H3]
  exact ⟨a, r.set j v, rfl, h3, H3.set h4 h2⟩
theorem D0.wo {G : IM} {B : List Nat} {p : Option Addr} {n c sz : Nat} {es : List (List Value)} (h : D0 G p n c sz es) (hB : ∀ b ∈ J9 p, b ∉ B) : D0 (Wo G B) p n c sz es := by
 refine ⟨?_, h.len, h.all, h.one⟩
 obtain ⟨h1, h2, h3, h4⟩ := h.sl
 refine ⟨h1, h2, h3, h4.imp id ?_⟩
 rintro ⟨b, o, full, rfl, e2, e3⟩
 exact ⟨b, o, full, rfl, by rw [Wo.at (hB b (by simp [J9]))]; exact e2, e3⟩
mutual
theorem P0.wo {G : IM} {B : List Nat} : ∀ {t : Ty} {cells : List Value} {F : List Nat}, P0 G t cells F → (∀ b ∈ F, b ∉ B) → P0 (Wo G B) t cells F
 | .mk k ks, cells, F, h, hB => by
  simp only [P0] at h ⊢
  obtain ⟨p, c, es, Fs, h1, h2, h3, h4, rfl, h6⟩ := h
  exact ⟨p, c, es, Fs, h1, h2, h3.wo (fun b hb => hB b (List.mem_append_left _ hb)), M5.wo h4 (fun b hb => hB b (List.mem_append_right _ hb)), rfl, fun b hb => by rw [Wo.at (hB b (List.mem_append_left _ hb))]; exact h6 b hb⟩
theorem M5.wo {G : IM} {B : List Nat} : ∀ {ts : List Ty} {es : List (List Value)} {F : List Nat}, M5 G ts es F → (∀ b ∈ F, b ∉ B) → M5 (Wo G B) ts es F
 | [], es, F, h, _ => by simpa only [M5] using h
 | t :: ts, es, F, h, hB => by
  simp only [M5] at h ⊢
  obtain ⟨a, r, Fa, Fr, h1, h2, h3, rfl⟩ := h
  exact ⟨a, r, Fa, Fr, h1, P0.wo h2 (fun b hb => hB b (List.mem_append_left _ hb)), M5.wo h3 (fun b hb => hB b (List.mem_append_right _ hb)), rfl⟩
end
def A9f : Tm → List Int → Tm → Tm
 | _, [], x => x
 | .mk k nm num ty fr lb ks, i :: is, x => if h : 0 ≤ i ∧ i < ks.length then .mk k nm num ty fr lb (ks.set i.toNat (A9f (ks[i.toNat]'zW) is x)) else .mk k nm num ty fr lb ks
theorem B4i (t : Ty) (G : IM) (cells : List Value) (B : Int) (hB : 0 ≤ B) (hr : B8 G t cells) :
  Fn Tryz.prog 103 [.agg ⟨cells⟩, .bool false] [] G (TyB B G) := by
 obtain ⟨q, d, es, rfl, _⟩ := hr.open
 refine C7 Tryz.func103 rfl Tryz.ntmps103 Tryz.results103 rfl ?_
 intro w0
 refine A4 ?_
 refine sE (D5 rfl rfl) rfl (fun b3 => ?_)
 refine sE (A8 rfl) rfl (fun b4 => ?_)
 refine A0n ?_
 exact y11
theorem B4j (t : Ty) (G : IM) (cells : List Value) (B : Int) (hr : B8 G t cells) (ha : E5 t) (hs : H6 t ≤ B) :
  Fn Tryz.prog 103 [.agg ⟨cells⟩, .bool true] [] G (TyB B G) := by
 obtain ⟨q, d, es, rfl, _⟩ := hr.open
 refine C7 Tryz.func103 rfl Tryz.ntmps103 Tryz.results103 rfl ?_
 intro w0
 refine A4 ?_
 refine sE (D5 rfl rfl) rfl (fun b3 => ?_)
 refine sE (A8 rfl) rfl (fun b4 => ?_)
 refine A0c ?_
 refine E0 (rC rfl (A3 rfl rfl)) (rT rfl) ?_
 (exact ⟨rfl, _, _, _, rfl, hr, ha, hs⟩)
theorem B4k (t : Ty) (x : Bool) (G : IM) (cells : List Value) (B : Int) (hB : 0 ≤ B) (hr : B8 G t cells) (ha : E5 t) (hs : H6 t ≤ B) :
  Fn Tryz.prog 103 [.agg ⟨cells⟩, .bool x] [] G (TyB B G) := by
 cases x
 ·exact B4i t G cells B hB hr
 ·exact B4j t G cells B hr ha hs
def TyV (e : Tm) (G : IM) : IM → Value → List A6 → Prop := K1 fun G' v => ∃ t cells b, v = .tuple ⟨[.agg ⟨cells⟩, .bool b]⟩ ∧ B8 G' t cells ∧ E5 t ∧ H6 t ≤ 960 ∧ (b = true → A0G e = true)
theorem B4l (e : Tm) (G : IM) (cells : List Value) (hcnt : F4 e ≤ 4294967296) (hr : B6 G e cells) :
  Fn Tryz.prog 130 [.slice none 0 0, .agg ⟨cells⟩] [] G (TyV e G) := by
 have hl := hr.len
 have hone := hr.one
 have hw := A8X e G cells hcnt hr
 have hT := fun h : A0G e = true => A9b e 1 G none 0 0 cells ((A4Y e).1 h).1 zW (S4.nil G) hr
 have hc := fun h : A0G e = true => ((A4Y e).1 h).2
 refine C7 Tryz.func130 rfl Tryz.ntmps130 Tryz.results130 rfl ?_
 intro w0
 refine A4 ?_
 refine sE (D5 rfl rfl) rfl (fun b3 => ?_)
 refine sE (A8 rfl) rfl (fun b4 => ?_)
 refine B5 ?_
 refine E6 rfl ((B4c _)) rfl rfl ?_
 refine A4 ?_
 refine sL (A5 rfl rfl (B7 zP) zT) rfl rfl ?_
 refine J0 rfl (hw) rfl rfl (fun h16 => ?_) (fun h16 => ?_)
 refine I2 ?_
 refine sL (A5 rfl rfl (B7 zP) zT) rfl rfl ?_
 (refine F9 rfl (hT zT) rfl rfl (fun v G1 hle1 hh => ?_); obtain ⟨mt, mc, mx, rfl, hmr, hma, hms⟩ := hh; obtain ⟨p1, c1, e1, rfl, _⟩ := hmr.open; have hcc := hc zT)
 refine A4 ?_
 (refine F9 rfl (B4k mt mx _ _ 960 zW hmr hma zW) rfl rfl (fun v G2 hle2 hh => ?_); obtain ⟨mt2, mc2, mx2, rfl, hmr2, hma2, hms2⟩ := hh; obtain ⟨p2, c2, e2, rfl, _⟩ := hmr2.open)
 refine B5 ?_
 refine E0 (rC rfl (A3 rfl rfl)) (rT rfl) ?_
 (exact ⟨rfl, _, _, _, rfl, hmr2, hma2, hms2, fun _ => by assumption⟩)
 refine N1 ?_
 refine E0 (rC rfl (A3 rfl rfl)) (rT rfl) ?_
 (exact ⟨rfl, _, _, _, rfl, J8 _ ⟨by omega, by omega⟩, M6 zW zW, by rw [X5]; omega, fun h => absurd h zV⟩)
theorem A9g (e : Tm) (G : IM) (cells : List Value) (hcnt : F4 e ≤ 4294967296) (hr : B6 G e cells) :
  Fn Tryz.prog 78 [.agg ⟨cells⟩] [] G (TyV e G) := by
 have hl := hr.len
 have hone := hr.one
 refine C7 Tryz.func78 rfl Tryz.ntmps78 Tryz.results78 rfl ?_
 intro w0
 refine A4 ?_
 refine sE (D5 rfl rfl) rfl (fun b3 => ?_)
 refine sE (A8 rfl) rfl (fun b4 => ?_)
 refine A9 ?_
 refine sL (A5 rfl rfl (B7 zP) zT) rfl rfl ?_
 (refine F9 rfl (B4l e G cells hcnt hr) rfl rfl (fun v G1 hle1 hh => ?_); obtain ⟨mt, mc, mx, rfl, hmr, hma, hms, hmv⟩ := hh; obtain ⟨p1, c1, e1, rfl, _⟩ := hmr.open)
 refine B5 ?_
 refine E0 (rC rfl (A3 rfl rfl)) (rT rfl) ?_
 (exact ⟨rfl, _, _, _, rfl, hmr, hma, hms, hmv⟩)
theorem A2D {G : IM} {e : Tm} {ce : List Value} {p : Option Addr} {c : Nat} (hr : B6 G e ce) (hs : Sl G p 1 c 9 ce) : D0 G p [e].length c 9 [ce] ∧ H3 G [e] [ce] := by
 refine ⟨D0.of (by simpa using hs) rfl (fun x hx => by simp only [List.mem_singleton] at hx; subst hx; exact hr.len) (fun x hx => by simp only [List.mem_singleton] at hx; subst hx; exact hr.one), ?_⟩
 simp only [H3]
 exact ⟨ce, [], rfl, hr, rfl⟩
def B4m (e : Tm) (label : Int) (G : IM) : IM → Value → List A6 → Prop := K1 fun G' v => ∃ u cu l', v = .tuple ⟨[.agg ⟨cu⟩, .int .i64 l']⟩ ∧ B6 G' u cu ∧ (e.small → u.small) ∧ F4 u ≤ F4 e + 1 ∧ label ≤ l' ∧ l' ≤ label + 1
theorem A3Z (e : Tm) (a b : Ty) (label : Int) (G : IM) (ce ca cb : List Value) (hlab : -1099511627776 ≤ label ∧ label ≤ 1099511627776) (hr : B6 G e ce) (hra : B8 G a ca) (hrb : B8 G b cb) (ha : E5 a) (hb : E5 b) :
  Fn Tryz.prog 102 [.agg ⟨ce⟩, .agg ⟨ca⟩, .agg ⟨cb⟩, .int .i64 label] [] G (B4m e label G) := by
 have hl := hr.len
 have hone := hr.one
 obtain ⟨hlab1, hlab2⟩ := hlab
 have hsa := ha.small
 have hsb := hb.small
 have hSame := B4a a b G ca cb hra hrb
 obtain ⟨ak, aks⟩ := a
 obtain ⟨bk, bks⟩ := b
 obtain ⟨pa, cca, ea, rfl, _⟩ := hra.open
 obtain ⟨pb, ccb, eb, rfl, _⟩ := hrb.open
 simp only [Ty.k, Ty.ks] at hra hrb hSame ⊢
 obtain ⟨v1, v2, v3, v4, v5, v6, v7, v8, v9, rfl⟩ : ∃ v1 v2 v3 v4 v5 v6 v7 v8 v9, ce = [v1, v2, v3, v4, v5, v6, v7, v8, v9] := (by obtain ⟨_, _, _, _, _, _, _, _, _, rfl, _⟩ := hr.open; exact ⟨_, _, _, _, _, _, _, _, _, rfl⟩)
 refine C7 Tryz.func102 rfl Tryz.ntmps102 Tryz.results102 rfl ?_
 intro w0
 refine A4 ?_
 refine sE (D5 rfl rfl) rfl (fun b3 => ?_)
 refine sE (D5 rfl rfl) rfl (fun b4 => ?_)
 refine sE (D5 rfl rfl) rfl (fun b5 => ?_)
 refine sE (A8 rfl) rfl (fun b6 => ?_)
 refine E7 ?_
 (refine A4D rfl hSame rfl rfl (fun v Go outs hle hh => ?_); obtain ⟨rfl, ⟨x, rfl⟩, rfl⟩ := hh; cases x)
 refine A7 ?_
 refine D2 D3 rfl ?_
 refine M3 (i := 5) (l' := [ff,ff,ff,ff,ff,tt,ff,ff,ff,ff,ff,ff]) rfl C8 (A5 rfl rfl (B7 zP) hl) rfl zU rfl rfl ?_
 refine aL 0 rfl (A3 rfl rfl) rfl ?_
 refine aL 2 rfl (A3 rfl rfl) rfl ?_
 refine aP 4 rfl (qM rfl) rfl ?_
 refine aP 8 rfl (qM rfl) rfl ?_
 refine aP 9 rfl (K9 rfl rfl zW zW) rfl ?_
 refine N3 (j := 1) (j' := 6) zU ?_ ?_
 (refine E1 rfl rfl (P8 _ _ _ hsa hra) rfl rfl rfl (fun v G1 hle1 hh => ?_); obtain ⟨L7, F1, rfl, hs1, hn1⟩ := hh; obtain ⟨p1, c1, rfl, _⟩ := hs1.open; have hC2 := P8 _ G1 _ hsb (hrb.mono hle1))
 refine N3 (j := 3) (j' := 6) zU ?_ ?_
 (refine E1 rfl rfl hC2 rfl rfl rfl (fun v G2 hle2 hh => ?_); obtain ⟨cs2, F2, rfl, hs2, hn2⟩ := hh; obtain ⟨p2, c2, rfl, _⟩ := hs2.open; have hr1 := hs1.R.mono ((D7.le G1 _).trans hle2); have hr2 := hs2.R.mono (D7.le G2 G1); have hre := hr.mono (hle1.trans hle2))
 refine A1 6 ?_
 (refine D1 rfl (C9 rfl rfl rfl zW zR rfl) rfl rfl ?_; rintro _ ⟨b34, rfl⟩)
 refine aP 7 rfl (N7 rfl rfl) rfl ?_
 refine A1 10 ?_
 refine N9 rfl rfl rfl rfl rfl rfl rfl rfl zU zO (by rfl) ?_
 refine aP 11 rfl (qA rfl) rfl ?_
 refine A4 ?_
 (refine F6 (cs := [v1, v2, v3, v4, v5, v6, v7, v8, v9]) zN (fun G5 hle5 hsl5 hno5 => ?_); obtain ⟨hone1, hone2⟩ := A2D (hre.mono hle5) hsl5)
 refine tT ?_
 refine E0 (rC rfl (A3 rfl rfl)) (rT rfl) ?_
 (refine ⟨rfl, _, _, _, rfl, B6.of9 (ks := [e]) ⟨by omega, by omega⟩ ⟨by omega, by omega⟩ ⟨by omega, by omega⟩ (hr2.mono hle5) (hr1.mono hle5) hone1 hone2, fun h => ?_, ?_, by omega, by omega⟩; (try (simp only [Tm.small, Tm.smallL, ByteArray.size]; exact ⟨by simp, hsb, hsa, by simp, h, trivial⟩)); (try (simp only [F4, H4]; omega)))
 (refine D1 rfl (C9 rfl rfl rfl zW zR rfl) rfl rfl ?_; rintro _ ⟨b45, rfl⟩)
 refine A1 3 ?_
 (refine E1 rfl rfl hC2 rfl rfl rfl (fun v G2 hle2 hh => ?_); obtain ⟨cs2, F2, rfl, hs2, hn2⟩ := hh; obtain ⟨p2, c2, rfl, _⟩ := hs2.open; have hr1 := hs1.R.mono ((D7.le G1 _).trans hle2); have hr2 := hs2.R.mono (D7.le G2 G1); have hre := hr.mono (hle1.trans hle2))
 refine aP 7 rfl (N7 rfl rfl) rfl ?_
 refine A1 10 ?_
 refine N9 rfl rfl rfl rfl rfl rfl rfl rfl zU zO (by rfl) ?_
 refine aP 11 rfl (qA rfl) rfl ?_
 refine A4 ?_
 (refine F6 (cs := [v1, v2, v3, v4, v5, v6, v7, v8, v9]) zN (fun G5 hle5 hsl5 hno5 => ?_); obtain ⟨hone1, hone2⟩ := A2D (hre.mono hle5) hsl5)
 refine tT ?_
 refine E0 (rC rfl (A3 rfl rfl)) (rT rfl) ?_
 (refine ⟨rfl, _, _, _, rfl, B6.of9 (ks := [e]) ⟨by omega, by omega⟩ ⟨by omega, by omega⟩ ⟨by omega, by omega⟩ (hr2.mono hle5) (hr1.mono hle5) hone1 hone2, fun h => ?_, ?_, by omega, by omega⟩; (try (simp only [Tm.small, Tm.smallL, ByteArray.size]; exact ⟨by simp, hsb, hsa, by simp, h, trivial⟩)); (try (simp only [F4, H4]; omega)))
 (refine D1 rfl (C9 rfl rfl rfl zW zR rfl) rfl rfl ?_; rintro _ ⟨b58, rfl⟩)
 refine A1 1 ?_
 (refine E1 rfl rfl (P8 _ _ _ hsa hra) rfl rfl rfl (fun v G1 hle1 hh => ?_); obtain ⟨L7, F1, rfl, hs1, hn1⟩ := hh; obtain ⟨p1, c1, rfl, _⟩ := hs1.open; have hC2 := P8 _ G1 _ hsb (hrb.mono hle1))
 refine A1 3 ?_
 (refine E1 rfl rfl hC2 rfl rfl rfl (fun v G2 hle2 hh => ?_); obtain ⟨cs2, F2, rfl, hs2, hn2⟩ := hh; obtain ⟨p2, c2, rfl, _⟩ := hs2.open; have hr1 := hs1.R.mono ((D7.le G1 _).trans hle2); have hr2 := hs2.R.mono (D7.le G2 G1); have hre := hr.mono (hle1.trans hle2))
 refine aP 7 rfl (N7 rfl rfl) rfl ?_
 refine A1 10 ?_
 refine N9 rfl rfl rfl rfl rfl rfl rfl rfl zU zO (by rfl) ?_
 refine aP 11 rfl (qA rfl) rfl ?_
 refine A4 ?_
 (refine F6 (cs := [v1, v2, v3, v4, v5, v6, v7, v8, v9]) zN (fun G5 hle5 hsl5 hno5 => ?_); obtain ⟨hone1, hone2⟩ := A2D (hre.mono hle5) hsl5)
 refine tT ?_
 refine E0 (rC rfl (A3 rfl rfl)) (rT rfl) ?_
 (refine ⟨rfl, _, _, _, rfl, B6.of9 (ks := [e]) ⟨by omega, by omega⟩ ⟨by omega, by omega⟩ ⟨by omega, by omega⟩ (hr2.mono hle5) (hr1.mono hle5) hone1 hone2, fun h => ?_, ?_, by omega, by omega⟩; (try (simp only [Tm.small, Tm.smallL, ByteArray.size]; exact ⟨by simp, hsb, hsa, by simp, h, trivial⟩)); (try (simp only [F4, H4]; omega)))
 refine A9 ?_
 refine sL (A5 rfl rfl (B7 zP) hl) rfl rfl ?_
 refine F8 ?_
 refine sS rfl rfl rfl hl hone rfl ?_ (hu := by exact C6 hl.symm)
 refine A9 ?_
 refine E0 (rC rfl (A5 rfl rfl (B7 zP) hl)) (rT rfl) ?_
 (exact ⟨rfl, e, _, _, rfl, hr, fun h => h, by omega, by omega, by omega⟩)
def V9 (n : Nat) (G : IM) : IM → Value → List A6 → Prop := K1 fun G' v => ∃ p c es ws, v = .slice p n c ∧ ws.length = n ∧ D0 G' p n c 2 es ∧ E9 G' ws es ∧ ∀ w ∈ ws, E5 w
theorem V9.mk {G G' : IM} {p : Option Addr} {n c : Nat} {ws : List Ty} {es : List (List Value)} (hl : ws.length = n) (hs : Sl G' p n c 2 es.flatten) (hst : E9 G' ws es) (ha : ∀ w ∈ ws, E5 w) : V9 n G G' (.slice p n c) [] :=
 ⟨rfl, p, c, es, ws, rfl, hl, D0.of hs (by rw [hst.len, hl]) hst.all (fun e he => (hst.each e he).2), hst, ha⟩
theorem V9.mk1 {G G' : IM} {p : Option Addr} {n c : Nat} {a : Ty} {ca : List Value} (hn : n = 1) (hs : Sl G' p 1 c 2 ca) (ha : B8 G' a ca) (h1 : E5 a) : V9 n G G' (.slice p 1 c) [] := by
 subst hn
 exact V9.mk (ws := [a]) (es := [ca]) rfl (by simpa using hs) ⟨_, _, rfl, ha, rfl⟩ (by simp [h1])
theorem V9.mk2 {G G' : IM} {p : Option Addr} {n c : Nat} {a b : Ty} {ca cb : List Value} (hn : n = 2) (hs : Sl G' p 2 c 2 (ca ++ cb)) (ha : B8 G' a ca) (hb : B8 G' b cb) (h1 : E5 a) (h2 : E5 b) : V9 n G G' (.slice p 2 c) [] := by
 subst hn
 exact V9.mk (ws := [a, b]) (es := [ca, cb]) rfl (by simpa using hs) ⟨_, _, rfl, ha, _, _, rfl, hb, rfl⟩ (by simp [h1, h2])
theorem V9.mk3 {G G' : IM} {p : Option Addr} {n c : Nat} {a b d : Ty} {ca cb cd : List Value} (hn : n = 3) (hs : Sl G' p 3 c 2 (ca ++ (cb ++ cd))) (ha : B8 G' a ca) (hb : B8 G' b cb) (hd : B8 G' d cd) (h1 : E5 a) (h2 : E5 b) (h3 : E5 d) : V9 n G G' (.slice p 3 c) [] := by
 subst hn
 exact V9.mk (ws := [a, b, d]) (es := [ca, cb, cd]) rfl (by simpa using hs) ⟨_, _, rfl, ha, _, _, rfl, hb, _, _, rfl, hd, rfl⟩ (by simp [h1, h2, h3])
theorem B4n (k : Int) (nm : ByteArray) (num : Int) (ty fr : Ty) (lb : Int) (ks : List Tm) (ts : List Ty) (t : Ty) (G : IM) (cells tcells : List Value) (p : Option Addr) (c : Nat) (es : List (List Value))
  (hops : F7 k = ts.length) (hr : B6 G (.mk k nm num ty fr lb ks) cells) (hsl : D0 G p ts.length c 2 es) (hkl : E9 G ts es) (har : ∀ t ∈ ts, E5 t) (hrt : B8 G t tcells) (hat : E5 t) :
  Fn Tryz.prog 133 [.agg ⟨cells⟩, .slice p ts.length c, .agg ⟨tcells⟩] [] G (V9 ts.length G) := by
 have hone := hr.one
 have hop := A2C hops
 have ha0 := fun h : 0 < ts.length => har _ (List.getElem_mem h)
 obtain ⟨tyk, tyks⟩ := ty
 obtain ⟨fk, fks⟩ := fr
 obtain ⟨tk, tks⟩ := t
 obtain ⟨q9, d9, e9, rfl, _⟩ := hrt.open
 obtain ⟨pt, ct, pf, cf, pk, ck, ek, rfl, hk, hnum, hlb, hrty, hrfr, _, _⟩ := hr.open9
 refine C7 Tryz.func133 rfl Tryz.ntmps133 Tryz.results133 rfl ?_
 intro w0
 refine A4 ?_
 refine sE (D5 rfl rfl) rfl (fun b3 => ?_)
 refine sE (D5 rfl rfl) rfl (fun b4 => ?_)
 refine I2 ?_
 refine C2 (tS (tR (sB (qE rfl rfl) rfl rfl (fun h18 => ?_) (fun h18 => ?_))))
 refine B5 ?_
 (have hl2 : ts.length = 2 := hop.1 zW; obtain ⟨b0, o0, q0, d0, hp0, hat0, hre0, hg0⟩ := hsl.kidTy hkl (i := 0) zW zW; cases hp0; refine sP (B1 (j := 0) rfl rfl rfl zW) rfl rfl ?_)
 refine sL (A5 rfl rfl (hat0 _) rfl) rfl rfl ?_
 (refine F9 rfl (A24 4 ts[0] G _ (.inl rfl) (ha0 zW) hre0) rfl rfl (fun v G1 hle1 hh => ?_); obtain ⟨ma, mca, mb, mcb, mx, rfl, hma, hma2, hma3, hmb, hmb2, hmb3⟩ := hh; obtain ⟨p1, c1, e1, rfl, _⟩ := hma.open; obtain ⟨p2, c2, e2, rfl, _⟩ := hmb.open; have hTwo := A2B 4 ma mb G1 _ _ (.inl rfl) hma2 hmb2 hma hmb)
 refine C3 ?_
 refine sE (A8 rfl) rfl (fun b33 => ?_)
 refine sE (A8 rfl) rfl (fun b34 => ?_)
 refine D9 ?_
 (refine F9 rfl hTwo rfl rfl (fun v G2 hle2 hh => ?_); obtain ⟨mt, mc, mx2, rfl, hmr, hmta, hms⟩ := hh; obtain ⟨p3, c3, e3, rfl, _⟩ := hmr.open; have hma4 := hma.mono hle2)
 refine B3 ?_
 refine sE (A8 rfl) rfl (fun b48 => ?_)
 refine E7 ?_
 (refine J1 (C9 rfl rfl rfl zW zR rfl) rfl ?_; rintro _ ⟨b57, rfl⟩)
 refine B3 ?_
 (refine F6 zN (fun G5 hle5 hsl5 hno5 => ?_))
 refine C3 ?_
 (exact V9.mk2 (hop.1 zW) hsl5 (hmr.mono hle5) (hma4.mono hle5) hmta hma2)
 refine B5 ?_
 refine sB (qE rfl rfl) rfl rfl (fun h74 => ?_) (fun h74 => ?_)
 refine D9 ?_
 refine E6 rfl ((V8 _)) rfl rfl ?_
 refine E6 rfl ((V8 _)) rfl rfl ?_
 (refine J1 (C9 rfl rfl rfl zW zR rfl) rfl ?_; rintro _ ⟨b86, rfl⟩)
 refine B3 ?_
 (refine F6 zN (fun G5 hle5 hsl5 hno5 => ?_))
 refine C3 ?_
 (exact V9.mk2 (hop.1 zW) hsl5 (J8 _ ⟨by omega, by omega⟩) (J8 _ ⟨by omega, by omega⟩) (M6 zW zW) (M6 zW zW))
 refine A9 ?_
 refine sB (qE rfl rfl) rfl rfl (fun h101 => ?_) (fun h101 => ?_)
 refine A7 ?_
 refine E6 rfl ((V8 _)) rfl rfl ?_
 refine E6 rfl ((V8 _)) rfl rfl ?_
 (refine J1 (C9 rfl rfl rfl zW zR rfl) rfl ?_; rintro _ ⟨b110, rfl⟩)
 refine B3 ?_
 (refine F6 zN (fun G5 hle5 hsl5 hno5 => ?_))
 refine C3 ?_
 (exact V9.mk2 (hop.1 zW) hsl5 (J8 _ ⟨by omega, by omega⟩) (J8 _ ⟨by omega, by omega⟩) (M6 zW zW) (M6 zW zW))
 refine A7 ?_
 refine sB (qE rfl rfl) rfl rfl (fun h126 => ?_) (fun h126 => ?_)
 refine A9 ?_
 refine D2 D3 rfl ?_
 refine M3 (i := 1) (l' := [ff,tt,ff,ff,ff]) rfl C8 (A3 rfl rfl) rfl zU rfl rfl ?_
 refine aL 2 rfl (A3 rfl rfl) rfl ?_
 refine A1 0 ?_
 refine L1 rfl rfl ((A1i _)) rfl rfl rfl ?_
 refine A1 3 ?_
 (refine D1 rfl (C9 rfl rfl rfl zW zR rfl) rfl rfl ?_; rintro _ ⟨b138, rfl⟩)
 refine aP 4 rfl (qA rfl) rfl ?_
 refine A4 ?_
 (refine F6 zN (fun G5 hle5 hsl5 hno5 => ?_))
 refine C3 ?_
 (exact V9.mk3 (hop.2.1 zW) hsl5 (J8 _ ⟨by omega, by omega⟩) (hrt.mono hle5) (hrt.mono hle5) (M6 zW zW) hat hat)
 refine B5 ?_
 refine sB (qE rfl rfl) rfl rfl (fun h155 => ?_) (fun h155 => ?_)
 refine I2 ?_
 (have hl1 : ts.length = 1 := hop.2.2 zW; obtain ⟨b0, o0, q0, d0, hp0, hat0, hre0, hg0⟩ := hsl.kidTy hkl (i := 0) zW zW; cases hp0; refine sP (B1 (j := 0) rfl rfl rfl zW) rfl rfl ?_)
 refine sL (A5 rfl rfl (hat0 _) rfl) rfl rfl ?_
 (refine F9 rfl (A24 5 ts[0] G _ (.inr rfl) (ha0 zW) hre0) rfl rfl (fun v G1 hle1 hh => ?_); obtain ⟨ma, mca, mb, mcb, mx, rfl, hma, hma2, hma3, hmb, hmb2, hmb3⟩ := hh; obtain ⟨p1, c1, e1, rfl, _⟩ := hma.open; obtain ⟨p2, c2, e2, rfl, _⟩ := hmb.open; have hTwo := A2B 5 ma mb G1 _ _ (.inr rfl) hma2 hmb2 hma hmb)
 refine C3 ?_
 refine sE (A8 rfl) rfl (fun b173 => ?_)
 refine sE (A8 rfl) rfl (fun b174 => ?_)
 refine D9 ?_
 (refine F9 rfl hTwo rfl rfl (fun v G2 hle2 hh => ?_); obtain ⟨mt, mc, mx2, rfl, hmr, hmta, hms⟩ := hh; obtain ⟨p3, c3, e3, rfl, _⟩ := hmr.open; have hma4 := hma.mono hle2)
 refine B3 ?_
 refine sE (A8 rfl) rfl (fun b188 => ?_)
 refine B5 ?_
 (refine J1 (C9 rfl rfl rfl zW zR rfl) rfl ?_; rintro _ ⟨b196, rfl⟩)
 refine B3 ?_
 (refine F6 zN (fun G5 hle5 hsl5 hno5 => ?_))
 refine C3 ?_
 (exact V9.mk1 (hop.2.2 zW) hsl5 (hmr.mono hle5) hmta)
 refine A9 ?_
 refine sB (qE rfl rfl) rfl rfl (fun h211 => ?_) (fun h211 => ?_)
 refine B5 ?_
 (have hl1 : ts.length = 1 := hop.2.2 zW; obtain ⟨b0, o0, q0, d0, hp0, hat0, hre0, hg0⟩ := hsl.kidTy hkl (i := 0) zW zW; cases hp0; refine sP (B1 (j := 0) rfl rfl rfl zW) rfl rfl ?_)
 refine sL (A5 rfl rfl (hat0 _) rfl) rfl rfl ?_
 (refine F9 rfl (A24 5 ts[0] G _ (.inr rfl) (ha0 zW) hre0) rfl rfl (fun v G1 hle1 hh => ?_); obtain ⟨ma, mca, mb, mcb, mx, rfl, hma, hma2, hma3, hmb, hmb2, hmb3⟩ := hh; obtain ⟨p1, c1, e1, rfl, _⟩ := hma.open; obtain ⟨p2, c2, e2, rfl, _⟩ := hmb.open; have hTwo := A2B 5 ma mb G1 _ _ (.inr rfl) hma2 hmb2 hma hmb)
 refine C3 ?_
 refine sE (A8 rfl) rfl (fun b226 => ?_)
 refine sE (A8 rfl) rfl (fun b227 => ?_)
 refine D9 ?_
 (refine F9 rfl hTwo rfl rfl (fun v G2 hle2 hh => ?_); obtain ⟨mt, mc, mx2, rfl, hmr, hmta, hms⟩ := hh; obtain ⟨p3, c3, e3, rfl, _⟩ := hmr.open; have hma4 := hma.mono hle2)
 refine B3 ?_
 refine sE (A8 rfl) rfl (fun b241 => ?_)
 refine B5 ?_
 (refine J1 (C9 rfl rfl rfl zW zR rfl) rfl ?_; rintro _ ⟨b249, rfl⟩)
 refine B3 ?_
 (refine F6 zN (fun G5 hle5 hsl5 hno5 => ?_))
 refine C3 ?_
 (exact V9.mk1 (hop.2.2 zW) hsl5 (hmr.mono hle5) hmta)
 refine A7 ?_
 refine sB (qE rfl rfl) rfl rfl (fun h265 => ?_) (fun h265 => ?_)
 refine B5 ?_
 (refine J1 (C9 rfl rfl rfl zW zR rfl) rfl ?_; rintro _ ⟨b273, rfl⟩)
 refine B3 ?_
 (refine F6 zN (fun G5 hle5 hsl5 hno5 => ?_))
 refine C3 ?_
 (exact V9.mk1 (hop.2.2 zW) hsl5 (hrt.mono hle5) hat)
 refine K4 ?_
 (exact V9.mk rfl hsl.sl hkl har)
end Gw
end Go.Proofs.YtmceanphadildaaGreatDoor
