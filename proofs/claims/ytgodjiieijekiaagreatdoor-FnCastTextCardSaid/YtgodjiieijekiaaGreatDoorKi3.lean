/-
  The reference model's drawn terms.
-/
import Derived.Test.YtgodjiieijekiaaGreatDoorKi2
import Derived.Test.YtgodjiieijekiaaGreatDoorKi1
import Derived.Laws.Slices
set_option linter.unusedVariables false
set_option linter.unusedSimpArgs false
set_option maxHeartbeats 0
set_option maxRecDepth 100000
set_option synthInstance.maxSize 4000
set_option synthInstance.maxHeartbeats 0
namespace Go.Proofs.YtgodjiieijekiaaGreatDoor
open Go Go.RowKit
namespace Gw
def tB : Nat → Nat
 | 0 => 3
 | d + 1 => 3 * tB d + 20
theorem A8r (d : Nat) : 3 ≤ tB d := by cases d <;> simp only [tB] <;> omega
theorem B2F (br : Nat) (pb : Option Addr) (nb cb : Nat) (bs : List UInt8) (hnb : nb ≤ 2000) : ∀ (d p : Nat) (G : IM) (s : ByteArray), d ≤ 900 → s.size + d ≤ 950 → Sl G pb nb cb 1 (N2 bs) → p + tB d < 1099511627776 →
  Fn Tryz.prog 98 [.pointer (some ⟨br, 0, none⟩), .string s, .int .i64 ((d + 1 : Nat) : Int)] [rd br pb nb cb p] G
   (X4 br pb nb cb p (tB d) (fun G' v => ∃ t cells, v = .agg ⟨cells⟩ ∧ B5 G' t cells ∧ A0r t ≤ ((tB d : Nat) : Int))) := by
 refine fun d => Nat.strongRecOn d fun d ih p G s hd hs hb hp => ?_
 have hge := A8r d
 refine B8 Tryz.func98 rfl Tryz.ntmps98 Tryz.results98 rfl ?_
 intro w0
 refine tS (tR ?_)
 refine sE (A8 rfl) rfl (fun b3 => ?_)
 refine sD (nS (tS (tS (tR (sQ (qM rfl) rfl ?_)))))
 refine sB (L9 rfl rfl) rfl rfl (fun h10 => ?_) (fun h10 => ?_)
 ·refine Q4 ?_
  (refine C0 rfl (A8q br pb nb cb bs hnb p _ hb (by omega) s (by omega)) (Pk.perm (by repeat (first | exact Pk.here | apply Pk.there))) rfl rfl (fun v Ga outs hlea hh => ?_); obtain ⟨pa, hpa1, hpa2, rfl, ta, cellsa, rfl, hra, hsa⟩ := hh; have hl9 := hra.len; have ho9 := hra.one)
  refine sS rfl rfl rfl hl9 ho9 rfl ?_ (hu := by exact I4 hl9.symm)
  refine sD (nS (tT (rS ?_)))
  refine C4 (outs := [rd br pb nb cb pa]) (rC rfl (A6 rfl rfl (C8 (by repeat first | exact mH | apply mT)) hl9)) (by repeat (first | exact A0.nil | refine A0.cons Pk.here ?_ | refine A0.cons (Pk.there Pk.here) ?_ | refine A0.cons (Pk.there (Pk.there Pk.here)) ?_ | apply A0.drop)) ?_
  (exact ⟨pa, by omega, by omega, rfl, ta, cellsa, rfl, hra, by omega⟩)
 ·refine sQ (qM rfl) rfl (sQ (qM rfl) rfl ?_)
  (have hB4 : 4 ≤ tB d := (by obtain ⟨d1, rfl⟩ : ∃ d1, d = d1 + 1 := ⟨d - 1, by omega⟩; simp only [tB]; have := A8r d1; omega); refine C0 rfl (S0 _ br pb nb cb p bs _ hb hnb (by omega)) (Pk.perm (by repeat (first | exact Pk.here | apply Pk.there))) rfl rfl (fun v33 G33 outs33 hle33 hh => ?_); obtain ⟨rfl, rfl, j33, rfl, hj33, hk33⟩ := hh)
  replace hb := hb.mono hle33
  refine sB (qE rfl rfl) rfl rfl (fun h34 => ?_) (fun h34 => ?_)
  ·refine F8 ?_
   (refine C0 rfl (A8q br pb nb cb bs hnb (p + 1) _ hb (by omega) s (by omega)) (Pk.perm (by repeat (first | exact Pk.here | apply Pk.there))) rfl rfl (fun v Ga outs hlea hh => ?_); obtain ⟨pa, hpa1, hpa2, rfl, ta, cellsa, rfl, hra, hsa⟩ := hh; have hl9 := hra.len; have ho9 := hra.one)
   refine sS rfl rfl rfl hl9 ho9 rfl ?_ (hu := by exact I4 hl9.symm)
   refine sD (nS (tT (rS ?_)))
   refine C4 (outs := [rd br pb nb cb pa]) (rC rfl (A6 rfl rfl (C8 (by repeat first | exact mH | apply mT)) hl9)) (by repeat (first | exact A0.nil | refine A0.cons Pk.here ?_ | refine A0.cons (Pk.there Pk.here) ?_ | refine A0.cons (Pk.there (Pk.there Pk.here)) ?_ | apply A0.drop)) ?_
   (exact ⟨pa, by omega, by omega, rfl, ta, cellsa, rfl, hra, by omega⟩)
  ·refine C7 ?_
   (refine D7 (D1 rfl rfl rfl (by omega) (by unfold maxLen; omega) rfl) rfl ?_; rintro _ ⟨b60, rfl⟩)
   (refine P2 (by repeat (first | exact Pk.here | apply Pk.there)) (fun Gf hlef hslf _ => ?_); refine C0 rfl (Z3 Gf br pb nb cb (p + 1) bs _ _ _ _ (hb.mono hlef) hnb (by omega) hslf (by decide)) (Pk.perm (by repeat (first | exact Pk.here | apply Pk.there))) rfl rfl (fun v Gk outs hlek hh => ?_); obtain ⟨rfl, rfl, hv⟩ := hh; replace hb := hb.mono hlef; obtain ⟨k, rfl, hk1, hk2⟩ : ∃ k, v = .int .i64 k ∧ 5 ≤ k ∧ k ≤ 13 := (by simp only [List.mem_cons, List.not_mem_nil, or_false] at hv; rcases hv with rfl | rfl | rfl | rfl | rfl | rfl | rfl | rfl | rfl | rfl | rfl <;> exact ⟨_, rfl, by decide, by decide⟩); obtain ⟨d1, rfl⟩ : ∃ d1, d = d1 + 1 := ⟨d - 1, by omega⟩; have hB : tB (d1 + 1) = 3 * tB d1 + 20 := rfl)
   refine B7 ?_
   refine sE (A8 rfl) rfl (fun b69 => ?_)
   refine H2 ?_
   refine sD (nS (tS (tS (tR (sQ (qM rfl) rfl ?_)))))
   refine sB (qE rfl rfl) rfl rfl (fun h77 => ?_) (fun h77 => ?_)
   ·refine sD (nS ?_)
    (show I9 _ _ (.cond (.tmp 26) _ _) _ _; refine A0b (fun (x : ByteArray × ByteArray × Nat × IM) => ⟨[(7, .int .i64 k), (8, .pointer (some ⟨b69, 0, none⟩)), (6, .pointer (some ⟨b3, 0, none⟩)), (0, .pointer (some ⟨br, 0, none⟩)), (1, .string x.2.1), (2, .int .i64 ((d1 + 1 + 1 : Nat) : Int))], [.blk b69 [.int .i64 k, .string x.1, .int .i64 0, .int .i64 0, .slice none 0 0, .int .i64 0, .slice none 0 0, .int .i64 0, .slice none 0 0], .blk b3 [.int .i64 0, .string ⟨⟨[]⟩⟩, .int .i64 0, .int .i64 0, .slice none 0 0, .int .i64 0, .slice none 0 0, .int .i64 0, .slice none 0 0], rd br pb nb cb x.2.2.1], x.2.2.2⟩) (fun x => B2 Gk x.2.2.2 ∧ x.1.size ≤ 1 ∧ x.2.1.size ≤ s.size + 1 ∧ p + 2 ≤ x.2.2.1 ∧ x.2.2.1 ≤ p + 3) ?_ ?_)
    ·refine qT rfl (tS (tR (sQ (qM rfl) rfl ?_)))
     (refine D7 (D1 rfl rfl rfl (by omega) (by unfold maxLen; omega) rfl) rfl ?_; rintro _ ⟨b85, rfl⟩)
     (refine P2 (by repeat (first | exact Pk.here | apply Pk.there)) (fun Gf2 hlef2 hslf2 _ => ?_); refine C0 rfl (A4B Gf2 br pb nb cb (p + 1 + 1) bs _ _ _ _ (hb.mono hlef2) hnb (by omega) hslf2 (by decide)) (Pk.perm (by repeat (first | exact Pk.here | apply Pk.there))) rfl rfl (fun v Go outs hleo hh => ?_); obtain ⟨rfl, rfl, hv2⟩ := hh; obtain ⟨nmA, rfl, hnA⟩ : ∃ nm, v = .string nm ∧ nm.size ≤ 1 := (by simp only [List.mem_cons, List.not_mem_nil, or_false] at hv2; rcases hv2 with rfl | rfl | rfl | rfl <;> exact ⟨_, rfl, by decide⟩))
     refine F8 ?_
     (refine A5C rfl (B2E s nmA _ (by omega) (by omega)) rfl rfl (fun v Ga outs hlea hh => ?_); obtain ⟨rfl, rfl, sA, rfl, hsA⟩ := hh)
     refine sQ (qA rfl) rfl (sD ?_)
     refine P1 (nmA, sA, p + 1 + 1 + 1, Ga) (N7 (by repeat (first | exact E6.nil | refine E6.cons rfl ?_)) (by repeat (first | exact A0.refl | exact A0.nil | refine A0.cons (by repeat (first | exact Pk.here | apply Pk.there)) ?_ | apply A0.drop))) ?_
     (dsimp only; exact ⟨hlef2, hnA, by omega, by omega, by omega⟩)
    ·(rintro ⟨(nm : ByteArray), s', p1, G1⟩ ⟨hleA, hnm, hss, hpA, hpB⟩; simp only [] at hleA hnm hss hpA hpB ⊢; replace hb := hb.mono hleA; have hmark := hleA)
     refine tS (tS ?_)
     (have hm' := hmark; refine A0b (fun (x : Bool) => ⟨(40, .bool x) :: [(7, .int .i64 k), (8, .pointer (some ⟨b69, 0, none⟩)), (6, .pointer (some ⟨b3, 0, none⟩)), (0, .pointer (some ⟨br, 0, none⟩)), (1, .string s'), (2, .int .i64 ((d1 + 1 + 1 : Nat) : Int))], [.blk b69 [.int .i64 k, .string nm, .int .i64 0, .int .i64 0, .slice none 0 0, .int .i64 0, .slice none 0 0, .int .i64 0, .slice none 0 0], .blk b3 [.int .i64 0, .string ⟨⟨[]⟩⟩, .int .i64 0, .int .i64 0, .slice none 0 0, .int .i64 0, .slice none 0 0, .int .i64 0, .slice none 0 0], rd br pb nb cb p1], G1⟩) (fun x => True) ?_ ?_)
     ·refine tR (sQ (qM rfl) rfl ?_)
      refine sP (A0G rfl rfl (by omega)) rfl rfl ?_
      refine S6 ?_
      refine P1 true (N7 (by repeat (first | exact E6.nil | refine E6.cons rfl ?_)) (by repeat (first | exact A0.refl | exact A0.nil | refine A0.cons (by repeat (first | exact Pk.here | apply Pk.there)) ?_ | apply A0.drop))) ?_
      trivial
     ·(rintro x _; clear hmark)
      (show I9 _ _ (.cond (.tmp 40) _ _) _ _; refine A0b (fun (x : Ty × Option Addr × Nat × Nat × IM) => ⟨[(7, .int .i64 k), (8, .pointer (some ⟨b69, 0, none⟩)), (6, .pointer (some ⟨b3, 0, none⟩)), (0, .pointer (some ⟨br, 0, none⟩)), (1, .string s'), (2, .int .i64 ((d1 + 1 + 1 : Nat) : Int))], [.blk b69 [.int .i64 k, .string nm, .int .i64 0, .int .i64 x.1.k, .slice x.2.1 x.1.ks.length x.2.2.1, .int .i64 0, .slice none 0 0, .int .i64 0, .slice none 0 0], .blk b3 [.int .i64 0, .string ⟨⟨[]⟩⟩, .int .i64 0, .int .i64 0, .slice none 0 0, .int .i64 0, .slice none 0 0, .int .i64 0, .slice none 0 0], rd br pb nb cb x.2.2.2.1], x.2.2.2.2⟩) (fun x => B2 G1 x.2.2.2.2 ∧ B3 x.2.2.2.2 x.1 [.int .i64 x.1.k, .slice x.2.1 x.1.ks.length x.2.2.1] ∧ F4 x.1 ≤ 14 ∧ p1 ≤ x.2.2.2.1 ∧ x.2.2.2.1 ≤ p1 + 15) (A2m rfl (fun hxt => ?_) (fun hxf => ?_)) ?_)
      ·refine tR (sQ (qM rfl) rfl (sQ (qM rfl) rfl ?_))
       (refine D7 (D1 rfl rfl rfl (by omega) (by unfold maxLen; omega) rfl) rfl ?_; rintro _ ⟨b119, rfl⟩)
       (refine P2 (by repeat (first | exact Pk.here | apply Pk.there)) (fun Gf hlef3 hslf _ => ?_); refine C0 rfl (Z3 Gf br pb nb cb p1 bs _ _ _ _ (hb.mono hlef3) hnb (by omega) hslf (by decide)) (Pk.perm (by repeat (first | exact Pk.here | apply Pk.there))) rfl rfl (fun v Gn outs hlen hh => ?_); obtain ⟨rfl, rfl, hv⟩ := hh; replace hb := hb.mono hlef3; obtain ⟨dd, rfl, hdd⟩ : ∃ d : Nat, v = .int .i64 ((d + 1 : Nat) : Int) ∧ d ≤ 2 := (by simp only [List.mem_cons, List.not_mem_nil, or_false] at hv; rcases hv with rfl | rfl | rfl | rfl <;> first | exact ⟨0, rfl, by decide⟩ | exact ⟨1, rfl, by decide⟩ | exact ⟨2, rfl, by decide⟩))
       (have hdB := A55 hdd; refine C0 rfl (A8l br pb nb cb bs hnb dd (p1 + 1) _ (by omega) hb (by omega)) (Pk.perm (by repeat (first | exact Pk.here | apply Pk.there))) rfl rfl (fun v G3 outs hle3 hh => ?_); obtain ⟨p3, hp31, hp32, rfl, t3, cells3, rfl, hr3, hs3⟩ := hh; obtain ⟨q3, c3, es3, rfl, _⟩ := hr3.open)
       refine sQ (A9 rfl) rfl (H2 ?_)
       refine sD ?_
       refine P1 (t3, q3, c3, p3, G3) (N7 (by repeat (first | exact E6.nil | refine E6.cons rfl ?_)) (by repeat (first | exact A0.refl | exact A0.nil | refine A0.cons (by repeat (first | exact Pk.here | apply Pk.there)) ?_ | apply A0.drop))) ?_
       (dsimp only; exact ⟨hlef3.trans hle3, hr3, by omega, by omega, by omega⟩)
      ·refine tK ?_
       refine P1 (A7, none, 0, p1, G1) (N7 (by repeat (first | exact E6.nil | refine E6.cons rfl ?_)) (by repeat (first | exact A0.refl | exact A0.nil | refine A0.cons (by repeat (first | exact Pk.here | apply Pk.there)) ?_ | apply A0.drop))) ?_
       (dsimp only; exact ⟨B2.refl _, A0D _, by decide, by omega, by omega⟩)
      ·(rintro ⟨(t' : Ty), q', c', p2, G2⟩ ⟨hleB, hrB, hsB, hpC, hpD⟩; simp only [] at hleB hrB hsB hpC hpD ⊢; replace hb := hb.mono hleB; have hop := A2y k; have hK := A4t k)
       refine tS (tS (tR (sQ (qA rfl) rfl (sD (nS ?_)))))
       refine C6 ?_
       (refine A0B 28 9 ?_; refine N4 (fun (x : Nat × Option Addr × Nat × List Tm × List (List Value) × Nat × IM) => ⟨[(9, .int .i64 x.1), (7, .int .i64 k), (8, .pointer (some ⟨b69, 0, none⟩)), (6, .pointer (some ⟨b3, 0, none⟩)), (0, .pointer (some ⟨br, 0, none⟩)), (1, .string s'), (2, .int .i64 ((d1 + 1 + 1 : Nat) : Int))], [.blk b69 [.int .i64 k, .string nm, .int .i64 0, .int .i64 t'.k, .slice q' t'.ks.length c', .int .i64 0, .slice none 0 0, .int .i64 0, .slice x.2.1 x.1 x.2.2.1], .slc x.2.1 x.2.2.1 28 9 x.1 x.2.2.2.2.1.flatten, rd br pb nb cb x.2.2.2.2.2.1, .blk b3 [.int .i64 0, .string ⟨⟨[]⟩⟩, .int .i64 0, .int .i64 0, .slice none 0 0, .int .i64 0, .slice none 0 0, .int .i64 0, .slice none 0 0]], x.2.2.2.2.2.2⟩) (fun x => ((x.1 : Int) ≤ H6 k ∨ x.1 = 0) ∧ B2 G2 x.2.2.2.2.2.2 ∧ x.2.2.2.1.length = x.1 ∧ E5 x.2.2.2.2.2.2 x.2.2.2.1 x.2.2.2.2.1 ∧ Y3 x.2.2.2.1 ≤ ((x.1 * tB d1 : Nat) : Int) ∧ p2 ≤ x.2.2.2.2.2.1 ∧ x.2.2.2.2.2.1 ≤ p2 + x.1 * tB d1) (fun x => (H6 k).toNat - x.1) (0, none, 0, [], [], p2, G2) ?_ ?_ ?_)
       ·(simp only [J9]; exact E0)
       ·(exact ⟨.inr rfl, B2.refl _, rfl, by simp [E5], by simp [Y3], by dsimp only; omega, by dsimp only; omega⟩)
       ·(rintro ⟨i, pn, cn, ts, es', p', Gi⟩ ⟨hi, hle, hlt, hst, hsum, hq1, hq2⟩; simp only [] at hi hle hlt hst hsum hq1 hq2 ⊢; have hid : i * tB d1 ≤ 3 * tB d1 := Nat.mul_le_mul_right _ (by omega))
        refine tS (tS (tR (sQ (qM rfl) rfl (sQ (qM rfl) rfl ?_))))
        refine H7 rfl ((hK _)) rfl rfl ?_
        refine sB (L9 rfl rfl) rfl rfl (fun h148 => ?_) (fun h148 => ?_)
        ·refine sD (nS (qT rfl (tK (nS (tS ?_)))))
         refine C6 ?_
         (have hih := ih d1 (by omega) p' Gi s' (by omega) (by omega) (hb.mono hle) (by have := Nat.mul_le_mul_right (tB d1) (show i + 1 ≤ 3 by omega); rw [Nat.succ_mul] at this; omega); refine D3 D4 rfl ?_)
         refine E8 (i := 0) (l' := [tt,ff,ff,ff,ff,ff,ff,ff,ff,ff,ff]) rfl C5 (A9 rfl) rfl (by kernel_rfl) rfl rfl ?_
         refine aL 1 rfl (C2 rfl rfl) rfl ?_
         refine aP 2 rfl (qM rfl) rfl ?_
         refine aP 3 rfl (qM rfl) rfl ?_
         refine aP 4 rfl (qM rfl) rfl ?_
         refine aP 5 rfl (T4 rfl rfl (by omega)) rfl ?_
         refine A1 6 ?_
         (refine W4 (l' := [tt,tt,tt,tt,tt,tt,tt,ff,ff,ff,ff]) rfl rfl hih (Pk.perm (by repeat (first | exact Pk.here | apply Pk.there))) rfl rfl rfl (by repeat (first | exact A5.nil | apply A5.dep (by decide +kernel) | apply A5.blk (by decide +kernel) (by repeat (first | exact Pk.here | apply Pk.there)) (by repeat first | exact mH | apply mT))) (fun v G3 outs hle3 hh => ?_); obtain ⟨p3, hp31, hp32, rfl, t3, cells3, rfl, hr3, hs3⟩ := hh; obtain ⟨qt, dt, et, qf, df, ef, q3, d3, es3, rfl, _⟩ := hr3.open)
         refine A1 7 ?_
         (refine I7 rfl (D1 rfl rfl rfl (by omega) (by unfold maxLen; omega) rfl) rfl rfl ?_; rintro _ ⟨b166, rfl⟩)
         refine A1 8 ?_
         refine W2 rfl rfl rfl rfl rfl rfl (fun _ _ => by repeat (first | exact Sw.here | apply Sw.there)) (R0 (by repeat first | exact mH | apply mT)) rfl (by simp [Value.oneCell']) (by unfold maxLen; omega) (by omega) rfl rfl (by repeat (first | exact A5.nil | apply A5.dep (by decide +kernel) | apply A5.blk (by decide +kernel) (by repeat (first | exact Pk.here | apply Pk.there)) (by repeat first | exact mH | apply mT))) (fun pn' cn' => ?_)
         refine aP 9 rfl (A9 rfl) rfl ?_
         refine A1 10 ?_
         refine K6 rfl rfl rfl rfl rfl rfl rfl rfl (by kernel_rfl) (by repeat first | exact Sw.here | apply Sw.there) (by rfl) ?_
         refine D8 (O3 (nS (tR (sQ (qM rfl) rfl ?_))))
         refine sP (N0 rfl rfl (by omega) (by omega)) rfl rfl ?_
         refine sQ (qA rfl) rfl (sD ?_)
         refine K5 (i + 1, pn', cn', ts ++ [t3], es' ++ [[.int .i64 t3.k, .string t3.nm, .int .i64 t3.num, .int .i64 t3.ty.k, .slice qt t3.ty.ks.length dt, .int .i64 t3.fr.k, .slice qf t3.fr.ks.length df, .int .i64 t3.lb, .slice q3 t3.ks.length d3]], p3, G3) ?_ ?_ ?_
         ·(simp only [J9]; exact E0)
         ·(dsimp only; have e1 : (i + 1) * tB d1 = i * tB d1 + tB d1 := Nat.succ_mul _ _; have e2 := A54 ts t3; exact ⟨.inl (by omega), hle.trans hle3, by simp [hlt], E5.snoc (hst.mono hle3) hr3, by omega, by omega, by omega⟩)
         ·(show (H6 k).toNat - (i + 1) < (H6 k).toNat - i; omega)
        ·refine O8 ?_
         (refine L4 (by repeat (first | exact Pk.here | apply Pk.there)) (fun G5 hle5 hsl5 hno5 => ?_))
         refine tT ?_
         refine C4 (outs := [rd br pb nb cb p']) (rC rfl (A2 rfl rfl)) (by repeat (first | exact A0.nil | refine A0.cons Pk.here ?_ | refine A0.cons (Pk.there Pk.here) ?_ | refine A0.cons (Pk.there (Pk.there Pk.here)) ?_ | apply A0.drop)) ?_
         (refine ⟨p', by omega, by omega, rfl, .mk k nm 0 t' A7 0 ts, _, rfl, (hst.mono hle5).tm hlt hsl5 ⟨by omega, by omega⟩ ⟨by omega, by omega⟩ (hrB.mono (hle.trans hle5)), ?_⟩; rw [A0r, A53]; omega)
   ·refine sD (nS ?_)
    (show I9 _ _ (.cond (.tmp 26) _ _) _ _; refine A0b (fun (x : ByteArray × ByteArray × Nat × IM) => ⟨[(7, .int .i64 k), (8, .pointer (some ⟨b69, 0, none⟩)), (6, .pointer (some ⟨b3, 0, none⟩)), (0, .pointer (some ⟨br, 0, none⟩)), (1, .string x.2.1), (2, .int .i64 ((d1 + 1 + 1 : Nat) : Int))], [.blk b69 [.int .i64 k, .string x.1, .int .i64 0, .int .i64 0, .slice none 0 0, .int .i64 0, .slice none 0 0, .int .i64 0, .slice none 0 0], .blk b3 [.int .i64 0, .string ⟨⟨[]⟩⟩, .int .i64 0, .int .i64 0, .slice none 0 0, .int .i64 0, .slice none 0 0, .int .i64 0, .slice none 0 0], rd br pb nb cb x.2.2.1], x.2.2.2⟩) (fun x => B2 Gk x.2.2.2 ∧ x.1.size ≤ 1 ∧ x.2.1.size ≤ s.size + 1 ∧ p + 2 ≤ x.2.2.1 ∧ x.2.2.1 ≤ p + 3) ?_ ?_)
    ·refine cF rfl (tK ?_)
     refine P1 (⟨⟨[]⟩⟩, s, p + 1 + 1, Gk) (N7 (by repeat (first | exact E6.nil | refine E6.cons rfl ?_)) (by repeat (first | exact A0.refl | exact A0.nil | refine A0.cons (by repeat (first | exact Pk.here | apply Pk.there)) ?_ | apply A0.drop))) ?_
     (dsimp only; exact ⟨B2.refl _, by decide, by omega, by omega, by omega⟩)
    ·(rintro ⟨(nm : ByteArray), s', p1, G1⟩ ⟨hleA, hnm, hss, hpA, hpB⟩; simp only [] at hleA hnm hss hpA hpB ⊢; replace hb := hb.mono hleA; have hmark := hleA)
     refine tS (tS ?_)
     (have hm' := hmark; refine A0b (fun (x : Bool) => ⟨(40, .bool x) :: [(7, .int .i64 k), (8, .pointer (some ⟨b69, 0, none⟩)), (6, .pointer (some ⟨b3, 0, none⟩)), (0, .pointer (some ⟨br, 0, none⟩)), (1, .string s'), (2, .int .i64 ((d1 + 1 + 1 : Nat) : Int))], [.blk b69 [.int .i64 k, .string nm, .int .i64 0, .int .i64 0, .slice none 0 0, .int .i64 0, .slice none 0 0, .int .i64 0, .slice none 0 0], .blk b3 [.int .i64 0, .string ⟨⟨[]⟩⟩, .int .i64 0, .int .i64 0, .slice none 0 0, .int .i64 0, .slice none 0 0, .int .i64 0, .slice none 0 0], rd br pb nb cb p1], G1⟩) (fun x => True) ?_ ?_)
     ·refine tR (sQ (qM rfl) rfl ?_)
      refine sP (M1 rfl rfl (by omega)) rfl rfl ?_
      refine sQ (qM rfl) rfl (sQ (qM rfl) rfl ?_)
      refine sB (qE rfl rfl) rfl rfl (fun h218 => ?_) (fun h218 => ?_)
      ·refine sQ (M4 rfl rfl) rfl (sD ?_)
       refine P1 true (N7 (by repeat (first | exact E6.nil | refine E6.cons rfl ?_)) (by repeat (first | exact A0.refl | exact A0.nil | refine A0.cons (by repeat (first | exact Pk.here | apply Pk.there)) ?_ | apply A0.drop))) ?_
       trivial
      ·refine sQ (M4 rfl rfl) rfl (sD ?_)
       refine P1 false (N7 (by repeat (first | exact E6.nil | refine E6.cons rfl ?_)) (by repeat (first | exact A0.refl | exact A0.nil | refine A0.cons (by repeat (first | exact Pk.here | apply Pk.there)) ?_ | apply A0.drop))) ?_
       trivial
     ·(rintro x _; clear hmark)
      (show I9 _ _ (.cond (.tmp 40) _ _) _ _; refine A0b (fun (x : Ty × Option Addr × Nat × Nat × IM) => ⟨[(7, .int .i64 k), (8, .pointer (some ⟨b69, 0, none⟩)), (6, .pointer (some ⟨b3, 0, none⟩)), (0, .pointer (some ⟨br, 0, none⟩)), (1, .string s'), (2, .int .i64 ((d1 + 1 + 1 : Nat) : Int))], [.blk b69 [.int .i64 k, .string nm, .int .i64 0, .int .i64 x.1.k, .slice x.2.1 x.1.ks.length x.2.2.1, .int .i64 0, .slice none 0 0, .int .i64 0, .slice none 0 0], .blk b3 [.int .i64 0, .string ⟨⟨[]⟩⟩, .int .i64 0, .int .i64 0, .slice none 0 0, .int .i64 0, .slice none 0 0, .int .i64 0, .slice none 0 0], rd br pb nb cb x.2.2.2.1], x.2.2.2.2⟩) (fun x => B2 G1 x.2.2.2.2 ∧ B3 x.2.2.2.2 x.1 [.int .i64 x.1.k, .slice x.2.1 x.1.ks.length x.2.2.1] ∧ F4 x.1 ≤ 14 ∧ p1 ≤ x.2.2.2.1 ∧ x.2.2.2.1 ≤ p1 + 15) (A2m rfl (fun hxt => ?_) (fun hxf => ?_)) ?_)
      ·refine tR (sQ (qM rfl) rfl (sQ (qM rfl) rfl ?_))
       (refine D7 (D1 rfl rfl rfl (by omega) (by unfold maxLen; omega) rfl) rfl ?_; rintro _ ⟨b232, rfl⟩)
       (refine P2 (by repeat (first | exact Pk.here | apply Pk.there)) (fun Gf hlef3 hslf _ => ?_); refine C0 rfl (Z3 Gf br pb nb cb p1 bs _ _ _ _ (hb.mono hlef3) hnb (by omega) hslf (by decide)) (Pk.perm (by repeat (first | exact Pk.here | apply Pk.there))) rfl rfl (fun v Gn outs hlen hh => ?_); obtain ⟨rfl, rfl, hv⟩ := hh; replace hb := hb.mono hlef3; obtain ⟨dd, rfl, hdd⟩ : ∃ d : Nat, v = .int .i64 ((d + 1 : Nat) : Int) ∧ d ≤ 2 := (by simp only [List.mem_cons, List.not_mem_nil, or_false] at hv; rcases hv with rfl | rfl | rfl | rfl <;> first | exact ⟨0, rfl, by decide⟩ | exact ⟨1, rfl, by decide⟩ | exact ⟨2, rfl, by decide⟩))
       (have hdB := A55 hdd; refine C0 rfl (A8l br pb nb cb bs hnb dd (p1 + 1) _ (by omega) hb (by omega)) (Pk.perm (by repeat (first | exact Pk.here | apply Pk.there))) rfl rfl (fun v G3 outs hle3 hh => ?_); obtain ⟨p3, hp31, hp32, rfl, t3, cells3, rfl, hr3, hs3⟩ := hh; obtain ⟨q3, c3, es3, rfl, _⟩ := hr3.open)
       refine sQ (A9 rfl) rfl (H2 ?_)
       refine sD ?_
       refine P1 (t3, q3, c3, p3, G3) (N7 (by repeat (first | exact E6.nil | refine E6.cons rfl ?_)) (by repeat (first | exact A0.refl | exact A0.nil | refine A0.cons (by repeat (first | exact Pk.here | apply Pk.there)) ?_ | apply A0.drop))) ?_
       (dsimp only; exact ⟨hlef3.trans hle3, hr3, by omega, by omega, by omega⟩)
      ·refine tK ?_
       refine P1 (A7, none, 0, p1, G1) (N7 (by repeat (first | exact E6.nil | refine E6.cons rfl ?_)) (by repeat (first | exact A0.refl | exact A0.nil | refine A0.cons (by repeat (first | exact Pk.here | apply Pk.there)) ?_ | apply A0.drop))) ?_
       (dsimp only; exact ⟨B2.refl _, A0D _, by decide, by omega, by omega⟩)
      ·(rintro ⟨(t' : Ty), q', c', p2, G2⟩ ⟨hleB, hrB, hsB, hpC, hpD⟩; simp only [] at hleB hrB hsB hpC hpD ⊢; replace hb := hb.mono hleB; have hop := A2y k; have hK := A4t k)
       refine tS (tS (tR (sQ (qA rfl) rfl (sD (nS ?_)))))
       refine C6 ?_
       (refine A0B 28 9 ?_; refine N4 (fun (x : Nat × Option Addr × Nat × List Tm × List (List Value) × Nat × IM) => ⟨[(9, .int .i64 x.1), (7, .int .i64 k), (8, .pointer (some ⟨b69, 0, none⟩)), (6, .pointer (some ⟨b3, 0, none⟩)), (0, .pointer (some ⟨br, 0, none⟩)), (1, .string s'), (2, .int .i64 ((d1 + 1 + 1 : Nat) : Int))], [.blk b69 [.int .i64 k, .string nm, .int .i64 0, .int .i64 t'.k, .slice q' t'.ks.length c', .int .i64 0, .slice none 0 0, .int .i64 0, .slice x.2.1 x.1 x.2.2.1], .slc x.2.1 x.2.2.1 28 9 x.1 x.2.2.2.2.1.flatten, rd br pb nb cb x.2.2.2.2.2.1, .blk b3 [.int .i64 0, .string ⟨⟨[]⟩⟩, .int .i64 0, .int .i64 0, .slice none 0 0, .int .i64 0, .slice none 0 0, .int .i64 0, .slice none 0 0]], x.2.2.2.2.2.2⟩) (fun x => ((x.1 : Int) ≤ H6 k ∨ x.1 = 0) ∧ B2 G2 x.2.2.2.2.2.2 ∧ x.2.2.2.1.length = x.1 ∧ E5 x.2.2.2.2.2.2 x.2.2.2.1 x.2.2.2.2.1 ∧ Y3 x.2.2.2.1 ≤ ((x.1 * tB d1 : Nat) : Int) ∧ p2 ≤ x.2.2.2.2.2.1 ∧ x.2.2.2.2.2.1 ≤ p2 + x.1 * tB d1) (fun x => (H6 k).toNat - x.1) (0, none, 0, [], [], p2, G2) ?_ ?_ ?_)
       ·(simp only [J9]; exact E0)
       ·(exact ⟨.inr rfl, B2.refl _, rfl, by simp [E5], by simp [Y3], by dsimp only; omega, by dsimp only; omega⟩)
       ·(rintro ⟨i, pn, cn, ts, es', p', Gi⟩ ⟨hi, hle, hlt, hst, hsum, hq1, hq2⟩; simp only [] at hi hle hlt hst hsum hq1 hq2 ⊢; have hid : i * tB d1 ≤ 3 * tB d1 := Nat.mul_le_mul_right _ (by omega))
        refine tS (tS (tR (sQ (qM rfl) rfl (sQ (qM rfl) rfl ?_))))
        refine H7 rfl ((hK _)) rfl rfl ?_
        refine sB (L9 rfl rfl) rfl rfl (fun h261 => ?_) (fun h261 => ?_)
        ·refine sD (nS (qT rfl (tK (nS (tS ?_)))))
         refine C6 ?_
         (have hih := ih d1 (by omega) p' Gi s' (by omega) (by omega) (hb.mono hle) (by have := Nat.mul_le_mul_right (tB d1) (show i + 1 ≤ 3 by omega); rw [Nat.succ_mul] at this; omega); refine D3 D4 rfl ?_)
         refine E8 (i := 0) (l' := [tt,ff,ff,ff,ff,ff,ff,ff,ff,ff,ff]) rfl C5 (A9 rfl) rfl (by kernel_rfl) rfl rfl ?_
         refine aL 1 rfl (C2 rfl rfl) rfl ?_
         refine aP 2 rfl (qM rfl) rfl ?_
         refine aP 3 rfl (qM rfl) rfl ?_
         refine aP 4 rfl (qM rfl) rfl ?_
         refine aP 5 rfl (T4 rfl rfl (by omega)) rfl ?_
         refine A1 6 ?_
         (refine W4 (l' := [tt,tt,tt,tt,tt,tt,tt,ff,ff,ff,ff]) rfl rfl hih (Pk.perm (by repeat (first | exact Pk.here | apply Pk.there))) rfl rfl rfl (by repeat (first | exact A5.nil | apply A5.dep (by decide +kernel) | apply A5.blk (by decide +kernel) (by repeat (first | exact Pk.here | apply Pk.there)) (by repeat first | exact mH | apply mT))) (fun v G3 outs hle3 hh => ?_); obtain ⟨p3, hp31, hp32, rfl, t3, cells3, rfl, hr3, hs3⟩ := hh; obtain ⟨qt, dt, et, qf, df, ef, q3, d3, es3, rfl, _⟩ := hr3.open)
         refine A1 7 ?_
         (refine I7 rfl (D1 rfl rfl rfl (by omega) (by unfold maxLen; omega) rfl) rfl rfl ?_; rintro _ ⟨b279, rfl⟩)
         refine A1 8 ?_
         refine W2 rfl rfl rfl rfl rfl rfl (fun _ _ => by repeat (first | exact Sw.here | apply Sw.there)) (R0 (by repeat first | exact mH | apply mT)) rfl (by simp [Value.oneCell']) (by unfold maxLen; omega) (by omega) rfl rfl (by repeat (first | exact A5.nil | apply A5.dep (by decide +kernel) | apply A5.blk (by decide +kernel) (by repeat (first | exact Pk.here | apply Pk.there)) (by repeat first | exact mH | apply mT))) (fun pn' cn' => ?_)
         refine aP 9 rfl (A9 rfl) rfl ?_
         refine A1 10 ?_
         refine K6 rfl rfl rfl rfl rfl rfl rfl rfl (by kernel_rfl) (by repeat first | exact Sw.here | apply Sw.there) (by rfl) ?_
         refine D8 (O3 (nS (tR (sQ (qM rfl) rfl ?_))))
         refine sP (N0 rfl rfl (by omega) (by omega)) rfl rfl ?_
         refine sQ (qA rfl) rfl (sD ?_)
         refine K5 (i + 1, pn', cn', ts ++ [t3], es' ++ [[.int .i64 t3.k, .string t3.nm, .int .i64 t3.num, .int .i64 t3.ty.k, .slice qt t3.ty.ks.length dt, .int .i64 t3.fr.k, .slice qf t3.fr.ks.length df, .int .i64 t3.lb, .slice q3 t3.ks.length d3]], p3, G3) ?_ ?_ ?_
         ·(simp only [J9]; exact E0)
         ·(dsimp only; have e1 : (i + 1) * tB d1 = i * tB d1 + tB d1 := Nat.succ_mul _ _; have e2 := A54 ts t3; exact ⟨.inl (by omega), hle.trans hle3, by simp [hlt], E5.snoc (hst.mono hle3) hr3, by omega, by omega, by omega⟩)
         ·(show (H6 k).toNat - (i + 1) < (H6 k).toNat - i; omega)
        ·refine O8 ?_
         (refine L4 (by repeat (first | exact Pk.here | apply Pk.there)) (fun G5 hle5 hsl5 hno5 => ?_))
         refine tT ?_
         refine C4 (outs := [rd br pb nb cb p']) (rC rfl (A2 rfl rfl)) (by repeat (first | exact A0.nil | refine A0.cons Pk.here ?_ | refine A0.cons (Pk.there Pk.here) ?_ | refine A0.cons (Pk.there (Pk.there Pk.here)) ?_ | apply A0.drop)) ?_
         (refine ⟨p', by omega, by omega, rfl, .mk k nm 0 t' A7 0 ts, _, rfl, (hst.mono hle5).tm hlt hsl5 ⟨by omega, by omega⟩ ⟨by omega, by omega⟩ (hrB.mono (hle.trans hle5)), ?_⟩; rw [A0r, A53]; omega)
theorem Sl.pre {G : IM} {p : Option Addr} {n c m : Nat} {cs : List Value} (h : Sl G p n c 1 cs) (hm : m ≤ n) : Sl G p m c 1 (cs.take m) := by
 obtain ⟨h1, h2, h3, h4⟩ := h
 refine ⟨by rw [List.length_take]; omega, by omega, h3, ?_⟩
 rcases h4 with h4 | ⟨b, o, full, e1, e2, e3⟩
 ·exact .inl (by omega)
 ·refine .inr ⟨b, o, full, e1, e2, fun j v hj => e3 j v ?_⟩
  rw [List.getElem?_take] at hj
  split at hj
  ·exact hj
  ·cases hj
theorem B2G (bs : List UInt8) (m : Nat) : N2 (bs.take m) = (N2 bs).take m := by unfold N2; rw [List.map_take]
theorem B2H {d : Nat} (h : d ≤ 4) : tB d ≤ 1043 := by
 have : d = 0 ∨ d = 1 ∨ d = 2 ∨ d = 3 ∨ d = 4 := by omega
 rcases this with rfl | rfl | rfl | rfl | rfl <;> decide
def A3J (G : IM) : IM → Value → List A4 → Prop := fun G' v outs => G' = G ∧ ∃ br pb nb cb bs, v = .pointer (some ⟨br, 0, none⟩) ∧ outs = [rd br pb nb cb 0] ∧ nb ≤ 2000 ∧ Sl G pb nb cb 1 (N2 bs)
theorem A3J.mk {G : IM} {b : Nat} {pb : Option Addr} {nb cb : Nat} {bs : List UInt8} (h : nb ≤ 2000) (hb : Sl G pb nb cb 1 (N2 bs)) : A3J G G (.pointer (some ⟨b, 0, none⟩)) [.blk b [.slice pb nb cb, .int .i64 0]] := ⟨rfl, _, _, _, _, bs, rfl, rfl, h, hb⟩
theorem A8s (G : IM) (q : Option Addr) (n c : Nat) (bs : List UInt8) (hb : Sl G q n c 1 (N2 bs)) :
  Fn Tryz.prog 48 [.slice q n c] [] G (A3J G) := by
 have hn := hb.le
 have hnc := hb.2.1
 have hpre := fun h : 2000 ≤ n => hb.pre h
 refine B8 Tryz.func48 rfl Tryz.ntmps48 Tryz.results48 rfl ?_
 intro w0
 refine M2 ?_
 refine sB (Y2 rfl rfl) rfl rfl (fun h11 => ?_) (fun h11 => ?_)
 refine sD (nS (qT rfl (tR (sQ (qM rfl) rfl ?_))))
 refine sP (B2A (l := 2000) rfl rfl rfl (by omega)) rfl rfl ?_
 refine B7 ?_
 refine sE (E7 rfl rfl) rfl (fun b25 => ?_)
 refine sQ (qA rfl) rfl (sD (nS (tT ?_)))
 refine C4 (rT rfl) A0.refl ?_
 exact A3J.mk (Nat.le_refl _) (by rw [B2G]; exact hpre (by omega))
 refine C7 ?_
 refine sE (E7 rfl rfl) rfl (fun b41 => ?_)
 refine sQ (qA rfl) rfl (sD (nS (tT ?_)))
 refine C4 (rT rfl) A0.refl ?_
 exact A3J.mk (by omega) hb
theorem B2I (br : Nat) (pb : Option Addr) (nb cb : Nat) (bs : List UInt8) (hnb : nb ≤ 2000) (p : Nat) (G : IM) (hb : Sl G pb nb cb 1 (N2 bs)) (hp : p + 1100 < 1099511627776) :
  Fn Tryz.prog 97 [.pointer (some ⟨br, 0, none⟩)] [rd br pb nb cb p] G
   (X4 br pb nb cb p 1100 (fun G' v => ∃ t cells, v = .agg ⟨cells⟩ ∧ B5 G' t cells ∧ A0r t ≤ 1043)) := by
 refine B8 Tryz.func97 rfl Tryz.ntmps97 Tryz.results97 rfl ?_
 intro w0
 refine tS (tR ?_)
 refine sE (A8 rfl) rfl (fun b3 => ?_)
 refine sD (nS (tS (tR (sQ (qM rfl) rfl (sQ (qM rfl) rfl ?_)))))
 (refine D7 (D1 rfl rfl rfl (by omega) (by unfold maxLen; omega) rfl) rfl ?_; rintro _ ⟨b10, rfl⟩)
 (refine P2 (by repeat (first | exact Pk.here | apply Pk.there)) (fun Gf hlef hslf _ => ?_); refine C0 rfl (Z3 Gf br pb nb cb p bs _ _ _ _ (hb.mono hlef) hnb (by omega) hslf (by decide)) (Pk.perm (by repeat (first | exact Pk.here | apply Pk.there))) rfl rfl (fun v Gn outs hlen hh => ?_); obtain ⟨rfl, rfl, hv⟩ := hh; replace hb := hb.mono hlef; obtain ⟨dd, rfl, hdd⟩ : ∃ d : Nat, v = .int .i64 ((d + 1 : Nat) : Int) ∧ d ≤ 4 := (by simp only [List.mem_cons, List.not_mem_nil, or_false] at hv; rcases hv with rfl | rfl | rfl | rfl | rfl <;> first | exact ⟨3, rfl, by decide⟩ | exact ⟨2, rfl, by decide⟩ | exact ⟨4, rfl, by decide⟩ | exact ⟨1, rfl, by decide⟩); have htB := B2H hdd)
 (refine C0 rfl (B2F br pb nb cb bs hnb dd (p + 1) Gn ⟨⟨[]⟩⟩ (by omega) (by have hz : (⟨⟨[]⟩⟩ : ByteArray).size ≤ 2 := (by decide); omega) hb (by omega)) (Pk.perm (by repeat (first | exact Pk.here | apply Pk.there))) rfl rfl (fun v G3 outs hle3 hh => ?_); obtain ⟨p3, hp31, hp32, rfl, t3, cells3, rfl, hr3, hs3⟩ := hh; have hl3 := hr3.len; have ho3 := hr3.one; have hc3 := A5U t3; have hv3 := A5T t3 G3 cells3 (by omega) hr3)
 refine sE (A8 rfl) rfl (fun b13 => ?_)
 refine sS rfl rfl rfl hl3 ho3 rfl ?_ (hu := by exact I4 hl3.symm)
 refine sD (nS (tS (tS (tR ?_))))
 refine sL (A6 rfl rfl (C8 (by repeat first | exact mH | apply mT)) hl3) rfl rfl ?_
 refine J4 rfl (hv3) rfl rfl (fun h21 => ?_) (fun h21 => ?_)
 refine sD (nS (qT rfl (tS (tR ?_))))
 refine sL (A6 rfl rfl (C8 (by repeat first | exact mH | apply mT)) hl3) rfl rfl ?_
 refine sS rfl rfl rfl hl3 ho3 rfl ?_ (hu := by exact I4 hl3.symm)
 refine sD (nS (tT (rS ?_)))
 refine C4 (outs := [rd br pb nb cb p3]) (rC rfl (A6 rfl rfl (C8 (by repeat first | exact mH | apply mT)) hl3)) (by repeat (first | exact A0.nil | refine A0.cons Pk.here ?_ | refine A0.cons (Pk.there Pk.here) ?_ | refine A0.cons (Pk.there (Pk.there Pk.here)) ?_ | apply A0.drop)) ?_
 (exact ⟨p3, by omega, by omega, rfl, t3, cells3, rfl, hr3, by omega⟩)
 refine sD (nS (cF rfl (tK (nS (tS (tR ?_))))))
 refine H7 rfl ((A10 _ _)) rfl rfl ?_
 refine H2 ?_
 refine sD (nS (tT ?_))
 refine C4 (outs := [rd br pb nb cb p3]) (rC rfl (A2 rfl rfl)) (by repeat (first | exact A0.nil | refine A0.cons Pk.here ?_ | refine A0.cons (Pk.there Pk.here) ?_ | refine A0.cons (Pk.there (Pk.there Pk.here)) ?_ | apply A0.drop)) ?_
 (exact ⟨p3, by omega, by omega, rfl, _, _, rfl, A1b ⟨by omega, by omega⟩ ⟨by omega, by omega⟩, by rw [A1I]; decide⟩)
theorem U6 (G : IM) : Fn Tryz.prog 174 [] [] G (L6 (.agg ⟨[.int .i64 2, .slice none 0 0]⟩) G) := by
 refine B8 Tryz.func174 rfl Tryz.ntmps174 Tryz.results174 rfl ?_
 intro w0
 refine tS (tR ?_)
 refine sE (A8 rfl) rfl (fun b3 => ?_)
 refine C7 ?_
 refine E9 (rC rfl (A2 rfl rfl)) ?_
 exact ⟨rfl, rfl, rfl⟩
theorem A1c (G : IM) : Fn Tryz.prog 172 [] [] G (L6 (.agg ⟨[.int .i64 3, .slice none 0 0]⟩) G) := by
 refine B8 Tryz.func172 rfl Tryz.ntmps172 Tryz.results172 rfl ?_
 intro w0
 refine tS (tR ?_)
 refine sE (A8 rfl) rfl (fun b3 => ?_)
 refine C7 ?_
 refine E9 (rC rfl (A2 rfl rfl)) ?_
 exact ⟨rfl, rfl, rfl⟩
theorem A2z (G : IM) (k : Int) (p : Option Addr) (n c : Nat) : Fn Tryz.prog 171 [.int .i64 k, .slice p n c] [] G (L6 (.agg ⟨[.int .i64 k, .string ⟨⟨[]⟩⟩, .int .i64 0, .int .i64 0, .slice none 0 0, .int .i64 0, .slice none 0 0, .int .i64 0, .slice p n c]⟩) G) := by
 refine B8 Tryz.func171 rfl Tryz.ntmps171 Tryz.results171 rfl ?_
 intro w0
 refine tS (tR ?_)
 refine sE (A8 rfl) rfl (fun b3 => ?_)
 refine I6 ?_
 refine E9 (rC rfl (A2 rfl rfl)) ?_
 exact ⟨rfl, rfl, rfl⟩
theorem J6 (G : IM) {k : Int} (hk : H4 k) : B3 G (.mk k []) [.int .i64 k, .slice none 0 0] := by
 simp only [B3]
 exact ⟨none, 0, [], rfl, hk, D5.of (Sl.nil _ _) rfl (by simp) (by simp), by simp [E1]⟩
theorem Z5 (k : Int) : F4 (.mk k []) = 0 := rfl
def TyB (B : Int) (G : IM) : IM → Value → List A4 → Prop := L7 fun G' v => ∃ t cells b, v = .tuple ⟨[.agg ⟨cells⟩, .bool b]⟩ ∧ B3 G' t cells ∧ E4 t ∧ F4 t ≤ B
theorem A11 {k : Int} {a b : Ty} (hk : k = 4 ∨ k = 5) (ha : E4 a) (hb : E4 b) : E4 (.mk k [a, b]) := by
 rw [E4]
 exact ⟨fun _ => rfl, fun h4 h5 => by omega, by simp [A0N, ha, hb]⟩
theorem A4E (k : Int) (a b : Ty) : F4 (.mk k [a, b]) = F4 a + F4 b + 2 := by
 simp only [F4, K1, List.length_cons, List.length_nil]; omega
theorem M8 {k : Int} (h4 : k ≠ 4) (h5 : k ≠ 5) : E4 (.mk k []) := (A2Y 0 h4 h5).ar
theorem E4.kid {k : Int} {ks : List Ty} (h : E4 (.mk k ks)) : ∀ t ∈ ks, E4 t := by
 rw [E4] at h; exact A3D.1 h.2.2
theorem E4.two {k : Int} {ks : List Ty} (h : E4 (.mk k ks)) : ks.length ≤ 2 := by
 rw [E4] at h
 have h1 := h.1
 have h2 := h.2.1
 omega
theorem A56 : ∀ {ks : List Ty} {t : Ty}, t ∈ ks → F4 t ≤ K1 ks
 | [], t, h => by simp at h
 | t' :: ts, t, h => by
  rw [K1]
  have := A0a t'
  have := A08 ts
  rcases List.mem_cons.1 h with rfl | h
  ·omega
  ·have := A56 h; omega
theorem A57 {k : Int} {ks : List Ty} {t : Ty} (h : t ∈ ks) : F4 t ≤ F4 (.mk k ks) := by
 have := A56 h
 rw [F4]; omega
theorem A2A (k : Int) (a b : Ty) (G : IM) (ca cb : List Value) (hk : k = 4 ∨ k = 5) (ha : E4 a) (hb : E4 b) (hra : B3 G a ca) (hrb : B3 G b cb) :
  Fn Tryz.prog 218 [.int .i64 k, .agg ⟨ca⟩, .agg ⟨cb⟩] [] G (TyB (F4 a + F4 b + 2) G) := by
 obtain ⟨ak, aks⟩ := a
 obtain ⟨bk, bks⟩ := b
 obtain ⟨pa, cca, ea, rfl, _⟩ := hra.open
 obtain ⟨pb, ccb, eb, rfl, _⟩ := hrb.open
 have hki : H4 k := ⟨by omega, by omega⟩
 refine B8 Tryz.func218 rfl Tryz.ntmps218 Tryz.results218 rfl ?_
 intro w0
 refine tS (tR ?_)
 refine sE (E7 rfl rfl) rfl (fun b3 => ?_)
 refine sE (E7 rfl rfl) rfl (fun b4 => ?_)
 refine sE (A8 rfl) rfl (fun b5 => ?_)
 refine sQ (qA rfl) rfl (sD (nS (tS ?_)))
 refine D3 D4 rfl ?_
 refine E8 (i := 0) (l' := [tt,ff,ff,ff,ff,ff,ff,ff,ff]) rfl C5 (qM rfl) rfl (by kernel_rfl) rfl rfl ?_
 refine aL 1 rfl (A2 rfl rfl) rfl ?_
 refine aL 3 rfl (A2 rfl rfl) rfl ?_
 refine Y5 (j := 2) (j' := 7) (by kernel_rfl) ?_ ?_
 (refine M6 rfl rfl (R4 _ G _ ha.small hra) rfl rfl rfl (fun v G1 hle1 hh => ?_); obtain ⟨Q0, F1, rfl, hs1, hn1⟩ := hh; obtain ⟨p1, c1, rfl, _⟩ := hs1.open; have hC2 := R4 _ G1 _ hb.small (hrb.mono hle1))
 refine Y5 (j := 4) (j' := 7) (by kernel_rfl) ?_ ?_
 (refine M6 rfl rfl hC2 rfl rfl rfl (fun v G2 hle2 hh => ?_); obtain ⟨cs2, F2, rfl, hs2, hn2⟩ := hh; obtain ⟨p2, c2, rfl, _⟩ := hs2.open; have hr1 := hs1.R.mono ((B6.le G1 G).trans hle2); have hr2 := hs2.R.mono (B6.le G2 G1))
 refine Y5 (j := 5) (j' := 7) (by kernel_rfl) ?_ ?_
 (refine I7 rfl (D1 rfl rfl rfl (by omega) (by unfold maxLen; omega) rfl) rfl rfl ?_; rintro _ ⟨b19, rfl⟩)
 refine aP 6 rfl (P6 rfl rfl) rfl ?_
 refine A1 7 ?_
 (refine I7 rfl (A8 rfl) rfl rfl ?_; rintro _ ⟨b22, rfl⟩)
 refine A1 8 ?_
 refine K6 rfl rfl rfl rfl rfl rfl rfl rfl (by kernel_rfl) (by repeat first | exact Sw.here | apply Sw.there) (by rfl) ?_
 refine D8 (nS (tS ?_))
 (have hr1' := hr1; refine A0H (by repeat (first | exact Pk.here | apply Pk.there)) (fun G5 hle5 hsl5 hno5 => ?_); have hRT : B3 G5 (.mk k [.mk ak aks, .mk bk bks]) _ := E1.ty (ts := [.mk ak aks, .mk bk bks]) (es := [[.int .i64 ak, .slice p1 aks.length c1], [.int .i64 bk, .slice p2 bks.length c2]]) ⟨_, _, rfl, hr1.mono hle5, _, _, rfl, hr2.mono hle5, rfl⟩ rfl hsl5 hki; have hV := A0L _ G5 _ hRT; refine D3 D4 rfl ?_)
 refine S3 (i := 0) (l' := [tt,ff,ff,ff,ff]) rfl C5 (A2 rfl rfl) rfl (by kernel_rfl) rfl rfl ?_
 refine aL 1 rfl (A2 rfl rfl) rfl ?_
 refine A1 2 ?_
 refine I1 rfl rfl (hV) rfl rfl rfl ?_
 refine A1 3 ?_
 refine K6 rfl rfl rfl rfl rfl rfl rfl rfl (by kernel_rfl) (by repeat first | exact Sw.here | apply Sw.there) (by rfl) ?_
 refine aP 4 rfl (qA rfl) rfl ?_
 refine D8 (nS (tT ?_))
 refine B4 (rC rfl (A2 rfl rfl)) (rT rfl) ?_
 (exact ⟨rfl, _, _, _, rfl, hRT, A11 hk ha hb, by rw [A4E]; omega⟩)
 (refine I7 rfl (A8 rfl) rfl rfl ?_; rintro _ ⟨b41, rfl⟩)
 refine A1 5 ?_
 (refine I7 rfl (D1 rfl rfl rfl (by omega) (by unfold maxLen; omega) rfl) rfl rfl ?_; rintro _ ⟨b43, rfl⟩)
 refine aP 6 rfl (P6 rfl rfl) rfl ?_
 refine A1 8 ?_
 refine K6 rfl rfl rfl rfl rfl rfl rfl rfl (by kernel_rfl) (by repeat first | exact Sw.here | apply Sw.there) (by rfl) ?_
 refine D8 (nS (tS ?_))
 (have hr1' := hr1; refine A0H (by repeat (first | exact Pk.here | apply Pk.there)) (fun G5 hle5 hsl5 hno5 => ?_); have hRT : B3 G5 (.mk k [.mk ak aks, .mk bk bks]) _ := E1.ty (ts := [.mk ak aks, .mk bk bks]) (es := [[.int .i64 ak, .slice p1 aks.length c1], [.int .i64 bk, .slice p2 bks.length c2]]) ⟨_, _, rfl, hr1.mono hle5, _, _, rfl, hr2.mono hle5, rfl⟩ rfl hsl5 hki; have hV := A0L _ G5 _ hRT; refine D3 D4 rfl ?_)
 refine S3 (i := 0) (l' := [tt,ff,ff,ff,ff]) rfl C5 (A2 rfl rfl) rfl (by kernel_rfl) rfl rfl ?_
 refine aL 1 rfl (A2 rfl rfl) rfl ?_
 refine A1 2 ?_
 refine I1 rfl rfl (hV) rfl rfl rfl ?_
 refine A1 3 ?_
 refine K6 rfl rfl rfl rfl rfl rfl rfl rfl (by kernel_rfl) (by repeat first | exact Sw.here | apply Sw.there) (by rfl) ?_
 refine aP 4 rfl (qA rfl) rfl ?_
 refine D8 (nS (tT ?_))
 refine B4 (rC rfl (A2 rfl rfl)) (rT rfl) ?_
 (exact ⟨rfl, _, _, _, rfl, hRT, A11 hk ha hb, by rw [A4E]; omega⟩)
 (refine I7 rfl (A8 rfl) rfl rfl ?_; rintro _ ⟨b63, rfl⟩)
 refine A1 4 ?_
 (refine M6 rfl rfl hC2 rfl rfl rfl (fun v G2 hle2 hh => ?_); obtain ⟨cs2, F2, rfl, hs2, hn2⟩ := hh; obtain ⟨p2, c2, rfl, _⟩ := hs2.open; have hr1 := hs1.R.mono ((B6.le G1 G).trans hle2); have hr2 := hs2.R.mono (B6.le G2 G1))
 refine A1 5 ?_
 (refine I7 rfl (D1 rfl rfl rfl (by omega) (by unfold maxLen; omega) rfl) rfl rfl ?_; rintro _ ⟨b67, rfl⟩)
 refine aP 6 rfl (P6 rfl rfl) rfl ?_
 refine A1 8 ?_
 refine K6 rfl rfl rfl rfl rfl rfl rfl rfl (by kernel_rfl) (by repeat first | exact Sw.here | apply Sw.there) (by rfl) ?_
 refine D8 (nS (tS ?_))
 (have hr1' := hr1; refine A0H (by repeat (first | exact Pk.here | apply Pk.there)) (fun G5 hle5 hsl5 hno5 => ?_); have hRT : B3 G5 (.mk k [.mk ak aks, .mk bk bks]) _ := E1.ty (ts := [.mk ak aks, .mk bk bks]) (es := [[.int .i64 ak, .slice p1 aks.length c1], [.int .i64 bk, .slice p2 bks.length c2]]) ⟨_, _, rfl, hr1.mono hle5, _, _, rfl, hr2.mono hle5, rfl⟩ rfl hsl5 hki; have hV := A0L _ G5 _ hRT; refine D3 D4 rfl ?_)
 refine S3 (i := 0) (l' := [tt,ff,ff,ff,ff]) rfl C5 (A2 rfl rfl) rfl (by kernel_rfl) rfl rfl ?_
 refine aL 1 rfl (A2 rfl rfl) rfl ?_
 refine A1 2 ?_
 refine I1 rfl rfl (hV) rfl rfl rfl ?_
 refine A1 3 ?_
 refine K6 rfl rfl rfl rfl rfl rfl rfl rfl (by kernel_rfl) (by repeat first | exact Sw.here | apply Sw.there) (by rfl) ?_
 refine aP 4 rfl (qA rfl) rfl ?_
 refine D8 (nS (tT ?_))
 refine B4 (rC rfl (A2 rfl rfl)) (rT rfl) ?_
 (exact ⟨rfl, _, _, _, rfl, hRT, A11 hk ha hb, by rw [A4E]; omega⟩)
 (refine I7 rfl (A8 rfl) rfl rfl ?_; rintro _ ⟨b87, rfl⟩)
 refine A1 2 ?_
 (refine M6 rfl rfl (R4 _ G _ ha.small hra) rfl rfl rfl (fun v G1 hle1 hh => ?_); obtain ⟨Q0, F1, rfl, hs1, hn1⟩ := hh; obtain ⟨p1, c1, rfl, _⟩ := hs1.open; have hC2 := R4 _ G1 _ hb.small (hrb.mono hle1))
 refine A1 4 ?_
 (refine M6 rfl rfl hC2 rfl rfl rfl (fun v G2 hle2 hh => ?_); obtain ⟨cs2, F2, rfl, hs2, hn2⟩ := hh; obtain ⟨p2, c2, rfl, _⟩ := hs2.open; have hr1 := hs1.R.mono ((B6.le G1 G).trans hle2); have hr2 := hs2.R.mono (B6.le G2 G1))
 refine A1 5 ?_
 (refine I7 rfl (D1 rfl rfl rfl (by omega) (by unfold maxLen; omega) rfl) rfl rfl ?_; rintro _ ⟨b93, rfl⟩)
 refine aP 6 rfl (P6 rfl rfl) rfl ?_
 refine A1 8 ?_
 refine K6 rfl rfl rfl rfl rfl rfl rfl rfl (by kernel_rfl) (by repeat first | exact Sw.here | apply Sw.there) (by rfl) ?_
 refine D8 (nS (tS ?_))
 (have hr1' := hr1; refine A0H (by repeat (first | exact Pk.here | apply Pk.there)) (fun G5 hle5 hsl5 hno5 => ?_); have hRT : B3 G5 (.mk k [.mk ak aks, .mk bk bks]) _ := E1.ty (ts := [.mk ak aks, .mk bk bks]) (es := [[.int .i64 ak, .slice p1 aks.length c1], [.int .i64 bk, .slice p2 bks.length c2]]) ⟨_, _, rfl, hr1.mono hle5, _, _, rfl, hr2.mono hle5, rfl⟩ rfl hsl5 hki; have hV := A0L _ G5 _ hRT; refine D3 D4 rfl ?_)
 refine S3 (i := 0) (l' := [tt,ff,ff,ff,ff]) rfl C5 (A2 rfl rfl) rfl (by kernel_rfl) rfl rfl ?_
 refine aL 1 rfl (A2 rfl rfl) rfl ?_
 refine A1 2 ?_
 refine I1 rfl rfl (hV) rfl rfl rfl ?_
 refine A1 3 ?_
 refine K6 rfl rfl rfl rfl rfl rfl rfl rfl (by kernel_rfl) (by repeat first | exact Sw.here | apply Sw.there) (by rfl) ?_
 refine aP 4 rfl (qA rfl) rfl ?_
 refine D8 (nS (tT ?_))
 refine B4 (rC rfl (A2 rfl rfl)) (rT rfl) ?_
 (exact ⟨rfl, _, _, _, rfl, hRT, A11 hk ha hb, by rw [A4E]; omega⟩)
def B2J (B : Int) (G : IM) : IM → Value → List A4 → Prop := L7 fun G' v => ∃ a ca b cb x, v = .tuple ⟨[.agg ⟨ca⟩, .agg ⟨cb⟩, .bool x]⟩ ∧ B3 G' a ca ∧ E4 a ∧ F4 a ≤ B ∧ B3 G' b cb ∧ E4 b ∧ F4 b ≤ B
theorem A21 (k : Int) (t : Ty) (G : IM) (cells : List Value) (hk : k = 4 ∨ k = 5) (ha : E4 t) (hr : B3 G t cells) :
  Fn Tryz.prog 234 [.int .i64 k, .agg ⟨cells⟩] [] G (B2J (F4 t) G) := by
 obtain ⟨tk, ks⟩ := t
 have hnn := A0a (.mk tk ks)
 have ha2 := ha
 rw [E4] at ha2
 have hkid := ha.kid
 obtain ⟨p, c, es, rfl, htk, hsl, hkl⟩ := hr.open
 simp only [Ty.k, Ty.ks] at htk hsl hkl ⊢
 refine B8 Tryz.func234 rfl Tryz.ntmps234 Tryz.results234 rfl ?_
 intro w0
 refine tS (tR ?_)
 refine sE (E7 rfl rfl) rfl (fun b3 => ?_)
 refine sE (A8 rfl) rfl (fun b4 => ?_)
 refine sE (A8 rfl) rfl (fun b5 => ?_)
 refine F8 ?_
 refine sB (qE rfl rfl) rfl rfl (fun h14 => ?_) (fun h14 => ?_)
 refine sD (nS (qT rfl (tS (tR ?_))))
 refine H7 rfl ((A09 _)) rfl rfl ?_
 refine H7 rfl ((A09 _)) rfl rfl ?_
 refine H2 ?_
 refine H2 ?_
 refine sQ (qA rfl) rfl (sD (nS (tT (rS ?_))))
 refine rF3 (rC rfl (A2 rfl rfl)) (rC rfl (A2 rfl rfl)) (rT rfl) ?_
 (exact ⟨rfl, _, _, _, _, _, rfl, A1a _, A2Z, hnn, A1a _, A2Z, hnn⟩)
 refine I6 ?_
 refine sB (P5 rfl rfl) rfl rfl (fun h42 => ?_) (fun h42 => ?_)
 refine O8 ?_
 refine rF3 (rC rfl (A2 rfl rfl)) (rC rfl (A2 rfl rfl)) (rT rfl) ?_
 (exact ⟨rfl, _, _, _, _, _, rfl, J6 _ ⟨by omega, by omega⟩, M8 (by omega) (by omega), hnn, J6 _ ⟨by omega, by omega⟩, M8 (by omega) (by omega), hnn⟩)
 refine sD (nS (cF rfl (tK (nS (tS ?_)))))
 (have hlen : ks.length = 2 := ha2.1 (by omega); obtain ⟨b, o, q0, d0, hp0, hat0, hre0, hg0⟩ := hsl.kidTy hkl (i := 0) (by omega) (by omega); obtain ⟨b', o', q1, d1, hp1, hat1, hre1, hg1⟩ := hsl.kidTy hkl (i := 1) (by omega) (by omega); subst hp0; cases hp1; have hC1 := R4 _ G _ (hkid _ (List.getElem_mem (by omega))).small hre0; refine D3 D4 rfl ?_)
 refine E8 (i := 0) (l' := [tt,ff,ff,ff,ff,ff,ff,ff,ff,ff,ff,ff,ff]) rfl C5 (A9 rfl) rfl (by kernel_rfl) rfl rfl ?_
 refine aL 1 rfl (C2 rfl rfl) rfl ?_
 refine aP 2 rfl (D0 (j := 0) rfl rfl rfl (by omega)) rfl ?_
 refine aL 3 rfl (A6 rfl rfl (hat0 _) rfl) rfl ?_
 refine aP 5 rfl (A9 rfl) rfl ?_
 refine aL 6 rfl (C2 rfl rfl) rfl ?_
 refine aP 7 rfl (D0 (j := 1) rfl rfl rfl (by omega)) rfl ?_
 refine aL 8 rfl (A6 rfl rfl (hat1 _) rfl) rfl ?_
 refine A1 4 ?_
 (refine M6 rfl rfl hC1 rfl rfl rfl (fun v G1 hle1 hh => ?_); obtain ⟨Q0, F1, rfl, hs1, hn1⟩ := hh; obtain ⟨p1, c1, rfl, _⟩ := hs1.open; have hC2 := R4 _ G1 _ (hkid _ (List.getElem_mem (by omega))).small (hre1.mono hle1))
 refine A1 9 ?_
 (refine M6 rfl rfl hC2 rfl rfl rfl (fun v G2 hle2 hh => ?_); obtain ⟨cs2, F2, rfl, hs2, hn2⟩ := hh; obtain ⟨p2, c2, rfl, _⟩ := hs2.open; have hr1 := hs1.R.mono ((B6.le G1 G).trans hle2); have hr2 := hs2.R.mono (B6.le G2 G1))
 refine A1 10 ?_
 refine K6 rfl rfl rfl rfl rfl rfl rfl rfl (by kernel_rfl) (by repeat first | exact Sw.here | apply Sw.there) (by rfl) ?_
 refine A1 11 ?_
 refine K6 rfl rfl rfl rfl rfl rfl rfl rfl (by kernel_rfl) (by repeat first | exact Sw.here | apply Sw.there) (by rfl) ?_
 refine aP 12 rfl (qA rfl) rfl ?_
 refine D8 (nS (tT ?_))
 refine rF3 (rC rfl (A2 rfl rfl)) (rC rfl (A2 rfl rfl)) (rT rfl) ?_
 (exact ⟨rfl, _, _, _, _, _, rfl, hr1, hkid _ (List.getElem_mem (by omega)), A57 (List.getElem_mem _), hr2, hkid _ (List.getElem_mem (by omega)), A57 (List.getElem_mem _)⟩)
def TyP (B : Int) (Q : Ty → Prop) (G : IM) : IM → Value → List A4 → Prop := L7 fun G' v => ∃ t cells, v = .agg ⟨cells⟩ ∧ B3 G' t cells ∧ E4 t ∧ F4 t ≤ B ∧ Q t
theorem A4F {k : Int} {ks us : List Ty} (h : E4 (.mk k ks)) (hl : us.length = ks.length) (hu : ∀ u ∈ us, E4 u) : E4 (.mk k us) := by
 rw [E4] at h ⊢
 exact ⟨fun hk => by rw [hl]; exact h.1 hk, fun a b => by rw [hl]; exact h.2.1 a b, A3D.2 hu⟩
theorem A12 {P : Ty → Prop} {us : List Ty} {u : Ty} (h : ∀ x ∈ us, P x) (hu : P u) : ∀ x ∈ us ++ [u], P x := by
 simp only [List.forall_mem_append, List.forall_mem_singleton]; exact ⟨h, hu⟩
theorem W5 : ∀ (t t' : Ty) (G : IM) (cells cells' : List Value), E4 t → E4 t' → B3 G t cells → B3 G t' cells' →
  Fn Tryz.prog 145 [.agg ⟨cells⟩, .agg ⟨cells'⟩] [] G (L6 (.bool (K2 t t')) G) := by
 refine Ty.ind fun k ks ih t' G cells cells' ha ha' hr hr' => ?_
 obtain ⟨k', ks'⟩ := t'
 obtain ⟨p, c, es, rfl, hk, hsl, hkl⟩ := hr.open
 obtain ⟨p', c', es', rfl, hk', hsl', hkl'⟩ := hr'.open
 simp only [Ty.k, Ty.ks] at hk hsl hkl hk' hsl' hkl' ⊢
 have hn := hsl.le
 have hn' := hsl'.le
 have hv2 := ha.kid
 have hv2' := ha'.kid
 rw [E4] at ha ha'
 have hle : k = k' → ks.length = ks'.length := by
  rintro rfl
  have h1 := ha.1
  have h2 := ha.2.1
  have h3 := ha'.1
  have h4 := ha'.2.1
  omega
 refine B8 Tryz.func145 rfl Tryz.ntmps145 Tryz.results145 rfl ?_
 intro w0
 refine tS (tR ?_)
 refine sE (E7 rfl rfl) rfl (fun b3 => ?_)
 refine sE (E7 rfl rfl) rfl (fun b4 => ?_)
 refine F8 ?_
 refine sB (qE rfl rfl) rfl rfl (fun h13 => ?_) (fun h13 => ?_)
 refine N6 ?_
 (rw [A4u (by omega)]; exact ⟨rfl, rfl, rfl⟩)
 refine H0 ?_
 refine sB (qE rfl rfl) rfl rfl (fun h34 => ?_) (fun h34 => ?_)
 refine Q4 ?_
 (rw [A4u (by omega)]; exact ⟨rfl, rfl, rfl⟩)
 refine I5 ?_
 refine sB (P5 rfl rfl) rfl rfl (fun h61 => ?_) (fun h61 => ?_)
 refine I6 ?_
 (rw [A71 (by omega) (by omega) (by omega)]; exact ⟨rfl, rfl, rfl⟩)
 refine I6 ?_
 refine C6 ?_
 (have hll : ks.length = ks'.length := hle (by omega); refine N4 (fun (i : Nat) => ⟨[(5, .int .i64 i), (3, .pointer (some ⟨b4, 0, none⟩)), (2, .pointer (some ⟨b3, 0, none⟩))], [.blk b3 [.int .i64 k, .slice p ks.length c], .blk b4 [.int .i64 k', .slice p' ks'.length c']], G⟩) (fun i => i ≤ ks.length ∧ ∀ j (h : j < ks.length) (h' : j < ks'.length), j < i → K2 ks[j] ks'[j] = true) (fun i => ks.length - i) 0 ?_ ?_ ?_)
 exact E0
 exact ⟨by omega, by omega⟩
 (rintro i ⟨hi, hf⟩)
 refine B7 ?_
 refine sB (L9 rfl rfl) rfl rfl (fun h97 => ?_) (fun h97 => ?_)
 refine sD (nS (qT rfl (tK (nS (tS ?_)))))
 refine C6 ?_
 refine tS ?_
 (obtain ⟨b, o, p2, c2, rfl, hat, hre, hgb⟩ := hsl.kidTy hkl (i := i) (by omega) (by omega); obtain ⟨b', o', p2', c2', rfl, hat', hre', hgb'⟩ := hsl'.kidTy hkl' (i := i) (by omega) (by omega); refine D3 D4 rfl ?_)
 refine E8 (i := 0) (l' := [tt,ff,ff,ff,ff,ff,ff,ff,ff,ff,ff,ff]) rfl C5 (A9 rfl) rfl (by kernel_rfl) rfl rfl ?_
 refine aL 1 rfl (C2 rfl rfl) rfl ?_
 refine aP 2 rfl (qM rfl) rfl ?_
 refine aP 3 rfl (D0 rfl rfl rfl (by omega)) rfl ?_
 refine aL 4 rfl (A6 rfl rfl (hat _) rfl) rfl ?_
 refine aP 5 rfl (A9 rfl) rfl ?_
 refine aL 6 rfl (C2 rfl rfl) rfl ?_
 refine aP 7 rfl (qM rfl) rfl ?_
 refine aP 8 rfl (D0 rfl rfl rfl (by omega)) rfl ?_
 refine aL 9 rfl (A6 rfl rfl (hat' _) rfl) rfl ?_
 refine A1 10 ?_
 refine A0J rfl rfl (ih ks[i] (List.getElem_mem (by omega)) ks'[i] G _ _ (hv2 _ (List.getElem_mem (by omega))) (hv2' _ (List.getElem_mem (by omega))) hre hre') rfl rfl rfl (fun h118 => ?_) (fun h118 => ?_)
 refine aP 11 rfl (Y7 rfl) rfl ?_
 refine F8 ?_
 refine sP (N0 rfl rfl (by omega) (by omega)) rfl rfl ?_
 refine sQ (qA rfl) rfl (sD ?_)
 refine K5 (i + 1) ?_ ?_ ?_
 exact E0
 exact ⟨by omega, fun j hj hj' hji => by (by_cases he : j = i; (subst he; assumption); exact hf j hj hj' (by omega))⟩
 omega
 refine aP 11 rfl (pNf rfl) rfl ?_
 refine M3 ?_
 (rw [A4v (by omega) (by omega) (by omega), A72 (i := i) (by omega) (by omega) (by assumption)]; exact ⟨rfl, rfl, rfl⟩)
 refine M3 ?_
 (rw [A4v (by omega) (by omega) (by omega), (A1U ks _).2 ⟨hll, fun j hj hj' => hf j hj hj' (by omega)⟩]; exact ⟨rfl, rfl, rfl⟩)
theorem B2K : ∀ (a b : Ty) (G : IM) (ca cb : List Value), K2 a b = true → E4 a → E4 b → B3 G a ca → B3 G b cb → Fn Tryz.prog 246 [.agg ⟨ca⟩, .agg ⟨cb⟩] [] G (TyP (F4 a + F4 b) (fun _ => True) G) := by
 refine Ty.ind fun ak aks ih b G ca cb hc ha hb hra hrb => ?_
 obtain ⟨bk, bks⟩ := b
 have hka := ha.kid
 have hkb := hb.kid
 have hsa := A0a (.mk ak aks)
 have hsb := A0a (.mk bk bks)
 have hza : F4 (.mk ak aks) = aks.length + K1 aks := by rw [F4]
 have hzb : F4 (.mk bk bks) = bks.length + K1 bks := by rw [F4]
 have hca := R4 _ G _ ha.small hra
 have hcb := R4 _ G _ hb.small hrb
 have hcc : ak ≠ 1 → bk ≠ 1 → aks.length = bks.length ∧ ∀ i, (h : i < aks.length) → (h' : i < bks.length) → K2 aks[i] bks[i] = true := by
  intro h1 h2
  rw [Y9, decide_eq_false h1, decide_eq_false h2] at hc
  simp only [Bool.false_or, Bool.and_eq_true, decide_eq_true_eq] at hc
  exact (A1U _ _).1 hc.2
 obtain ⟨pa, cca, ea, rfl, hak, hsla, hkla⟩ := hra.open
 obtain ⟨pb, ccb, eb, rfl, hbk, hslb, hklb⟩ := hrb.open
 simp only [Ty.k, Ty.ks] at hak hsla hkla hbk hslb hklb ⊢
 have hna := hsla.le
 have hnb := hslb.le
 have hl2 := ha.two
 refine B8 Tryz.func246 rfl Tryz.ntmps246 Tryz.results246 rfl ?_
 intro w0
 refine tS (tR ?_)
 refine sE (E7 rfl rfl) rfl (fun b3 => ?_)
 refine sE (E7 rfl rfl) rfl (fun b4 => ?_)
 refine sE (A8 rfl) rfl (fun b5 => ?_)
 refine B7 ?_
 refine sB (qE rfl rfl) rfl rfl (fun h13 => ?_) (fun h13 => ?_)
 refine sD (nS (qT rfl (tS (tR (sL (A2 rfl rfl) rfl rfl ?_)))))
 (refine D9 rfl (by first | exact hcb | exact hca) rfl rfl (fun v G1 hle1 hh => ?_); obtain ⟨Q0, F1, rfl, hs1, hn1⟩ := hh; obtain ⟨p1, c1, rfl, _⟩ := hs1.open; have hr1 := hs1.R.mono (B6.le G1 G))
 refine H2 ?_
 refine sD (nS (tT (rS ?_)))
 refine E9 (rC rfl (A2 rfl rfl)) ?_
 (exact ⟨rfl, _, _, rfl, hr1, hb, by omega, trivial⟩)
 refine M2 ?_
 refine sB (qE rfl rfl) rfl rfl (fun h38 => ?_) (fun h38 => ?_)
 refine sD (nS (qT rfl (tS (tR (sL (A2 rfl rfl) rfl rfl ?_)))))
 (refine D9 rfl (by first | exact hcb | exact hca) rfl rfl (fun v G1 hle1 hh => ?_); obtain ⟨Q0, F1, rfl, hs1, hn1⟩ := hh; obtain ⟨p1, c1, rfl, _⟩ := hs1.open; have hr1 := hs1.R.mono (B6.le G1 G))
 refine H2 ?_
 refine sD (nS (tT (rS ?_)))
 refine E9 (rC rfl (A2 rfl rfl)) ?_
 (exact ⟨rfl, _, _, rfl, hr1, ha, by omega, trivial⟩)
 refine M2 ?_
 refine sE (A8 rfl) rfl (fun b63 => ?_)
 refine H2 ?_
 refine sD (nS (tS (tS (tR (sQ (qA rfl) rfl (sD (nS ?_)))))))
 refine C6 ?_
 (obtain ⟨hlab, hcab⟩ := hcc (by omega) (by omega); refine A0B 25 2 ?_; refine N4 (fun (x : Nat × Option Addr × Nat × List Ty × List (List Value) × IM) => ⟨[(6, .int .i64 x.1), (5, .pointer (some ⟨b63, 0, none⟩)), (4, .pointer (some ⟨b5, 0, none⟩)), (2, .pointer (some ⟨b3, 0, none⟩)), (3, .pointer (some ⟨b4, 0, none⟩))], [.blk b63 [.int .i64 ak, .slice x.2.1 x.1 x.2.2.1], .slc x.2.1 x.2.2.1 25 2 x.1 x.2.2.2.2.1.flatten, .blk b5 [.int .i64 0, .slice none 0 0], .blk b4 [.int .i64 bk, .slice pb bks.length ccb], .blk b3 [.int .i64 ak, .slice pa aks.length cca]], x.2.2.2.2.2⟩) (fun x => x.1 ≤ aks.length ∧ B2 G x.2.2.2.2.2 ∧ x.2.2.2.1.length = x.1 ∧ E1 x.2.2.2.2.2 x.2.2.2.1 x.2.2.2.2.1 ∧ (∀ u ∈ x.2.2.2.1, E4 u) ∧ K1 x.2.2.2.1 ≤ K1 (aks.take x.1) + K1 (bks.take x.1)) (fun x => aks.length - x.1) (0, none, 0, [], [], G) ?_ ?_ ?_)
 (simp only [J9]; exact E0)
 (exact ⟨by simp, B2.refl _, rfl, by simp [E1], by simp, by simp [K1]⟩)
 (rintro ⟨i, pn, cn, us, es', Gi⟩ ⟨hi, hle, hlu, hst, hau, hsu⟩; simp only [] at hi hle hlu hst hau hsu ⊢; replace hsla := hsla.mono hle; replace hkla := hkla.mono hle; replace hslb := hslb.mono hle; replace hklb := hklb.mono hle)
 refine B7 ?_
 refine sB (L9 rfl rfl) rfl rfl (fun h85 => ?_) (fun h85 => ?_)
 refine sD (nS (qT rfl (tK (nS (tS ?_)))))
 refine C6 ?_
 (obtain ⟨b, o, q0, d0, hp0, hat0, hre0, hg0⟩ := hsla.kidTy hkla (i := i) (by omega) (by omega); obtain ⟨b', o', q1, d1, hp1, hat1, hre1, hg1⟩ := hslb.kidTy hklb (i := i) (by omega) (by omega); subst hp0; subst hp1; have hih := ih aks[i] (List.getElem_mem (by omega)) bks[i] Gi _ _ (hcab i (by omega) (by omega)) (hka _ (List.getElem_mem (by omega))) (hkb _ (List.getElem_mem (by omega))) hre0 hre1; refine D3 D4 rfl ?_)
 refine E8 (i := 0) (l' := [tt,ff,ff,ff,ff,ff,ff,ff,ff,ff,ff,ff,ff,ff,ff,ff,ff]) rfl C5 (A9 rfl) rfl (by kernel_rfl) rfl rfl ?_
 refine aL 1 rfl (C2 rfl rfl) rfl ?_
 refine aP 2 rfl (A9 rfl) rfl ?_
 refine aL 3 rfl (C2 rfl rfl) rfl ?_
 refine aP 4 rfl (qM rfl) rfl ?_
 refine aP 5 rfl (D0 rfl rfl rfl (by omega)) rfl ?_
 refine aL 6 rfl (A6 rfl rfl (hat0 _) rfl) rfl ?_
 refine aP 7 rfl (A9 rfl) rfl ?_
 refine aL 8 rfl (C2 rfl rfl) rfl ?_
 refine aP 9 rfl (qM rfl) rfl ?_
 refine aP 10 rfl (D0 rfl rfl rfl (by omega)) rfl ?_
 refine aL 11 rfl (A6 rfl rfl (hat1 _) rfl) rfl ?_
 refine A1 12 ?_
 (refine M6 rfl rfl hih rfl rfl rfl (fun v G1 hle1 hh => ?_); obtain ⟨u, cells', rfl, hru, hua, hus, _⟩ := hh; obtain ⟨p3, c3, es3, rfl, _⟩ := hru.open)
 refine A1 13 ?_
 (refine I7 rfl (D1 rfl rfl rfl (by omega) (by unfold maxLen; omega) rfl) rfl rfl ?_; rintro _ ⟨b109, rfl⟩)
 refine A1 14 ?_
 refine W2 rfl rfl rfl rfl rfl rfl (fun _ _ => by repeat (first | exact Sw.here | apply Sw.there)) (R0 (by repeat first | exact mH | apply mT)) rfl (by simp [Value.oneCell']) (by unfold maxLen; omega) (by omega) rfl rfl (by repeat (first | exact A5.nil | apply A5.dep (by decide +kernel) | apply A5.blk (by decide +kernel) (by repeat (first | exact Pk.here | apply Pk.there)) (by repeat first | exact mH | apply mT))) (fun pn' cn' => ?_)
 refine aP 15 rfl (A9 rfl) rfl ?_
 refine A1 16 ?_
 refine K6 rfl rfl rfl rfl rfl rfl rfl rfl (by kernel_rfl) (by repeat first | exact Sw.here | apply Sw.there) (by rfl) ?_
 refine D8 (O3 (nS (tR (sQ (qM rfl) rfl ?_))))
 refine sP (N0 rfl rfl (by omega) (by omega)) rfl rfl ?_
 refine sQ (qA rfl) rfl (sD ?_)
 refine K5 (i + 1, pn', cn', us ++ [u], es' ++ [[.int .i64 u.k, .slice p3 u.ks.length c3]], G1) ?_ ?_ ?_
 (simp only [J9]; exact E0)
 (dsimp only; have e1 := A2U (ks := aks) (i := i) (by omega); have e2 := A2U (ks := bks) (i := i) (by omega); exact ⟨by omega, hle.trans hle1, by simp [hlu], E1.snoc (hst.mono hle1) hru, A12 hau hua, by rw [A1Y]; omega⟩)
 (show aks.length - (i + 1) < aks.length - i; omega)
 refine O8 ?_
 (refine L4 (by repeat (first | exact Pk.here | apply Pk.there)) (fun G2 hle2 hsl2 hno2 => ?_); obtain rfl : i = aks.length := (by omega))
 refine tT ?_
 refine E9 (rC rfl (A2 rfl rfl)) ?_
 (rw [List.take_length, hlab, List.take_length] at hsu; exact ⟨rfl, .mk ak us, _, rfl, (hst.mono hle2).ty hlu hsl2 hak, A4F ha hlu hau, by rw [hza, hzb, F4]; omega, trivial⟩)
theorem A4G (br : Nat) (pb : Option Addr) (nb cb : Nat) (bs : List UInt8) (hnb : nb ≤ 2000) : ∀ (t : Ty) (p : Nat) (G : IM) (cells : List Value), E4 t → B3 G t cells → Sl G pb nb cb 1 (N2 bs) → p + (F4 t).toNat + 1 < 1099511627776 →
  Fn Tryz.prog 144 [.pointer (some ⟨br, 0, none⟩), .agg ⟨cells⟩] [rd br pb nb cb p] G
   (X4 br pb nb cb p ((F4 t).toNat + 1) (fun G' v => ∃ u cells, v = .agg ⟨cells⟩ ∧ B3 G' u cells ∧ E4 u ∧ F4 u ≤ F4 t ∧ ∀ n, Q2 n t → Q2 n u)) := by
 refine Ty.ind fun k ks ih p G cells ha hr hb hp => ?_
 have hkid := ha.kid
 have hnn := A08 ks
 have hz : F4 (.mk k ks) = ks.length + K1 ks := by rw [F4]
 rw [hz] at hp ⊢
 obtain ⟨q, c, es, rfl, hk, hsl, hkl⟩ := hr.open
 simp only [Ty.k, Ty.ks] at hk hsl hkl ⊢
 have hn := hsl.le
 have hl2 := ha.two
 refine B8 Tryz.func144 rfl Tryz.ntmps144 Tryz.results144 rfl ?_
 intro w0
 refine tS (tR ?_)
 refine sE (E7 rfl rfl) rfl (fun b3 => ?_)
 refine sE (A8 rfl) rfl (fun b4 => ?_)
 refine sD (nS (tS (tS (tR (sQ (qM rfl) rfl ?_)))))
 (refine C0 rfl (S0 _ br pb nb cb p bs _ hb hnb (by omega)) (Pk.perm (by repeat (first | exact Pk.here | apply Pk.there))) rfl rfl (fun v11 G11 outs11 hle11 hh => ?_); obtain ⟨rfl, rfl, j11, rfl, hj11, hk11⟩ := hh; have hm := hle11)
 replace hb := hb.mono hle11
 replace hr := hr.mono hle11
 replace hsl := hsl.mono hle11
 replace hkl := hkl.mono hle11
 refine sB (qE rfl rfl) rfl rfl (fun h12 => ?_) (fun h12 => ?_)
 refine sD (nS (qT rfl (tS (tR ?_))))
 refine H7 rfl ((A09 _)) rfl rfl ?_
 refine H2 ?_
 refine sD (nS (tT (rS ?_)))
 refine C4 (outs := [rd br pb nb cb (p + 1)]) (rC rfl (A2 rfl rfl)) (by repeat (first | exact A0.nil | refine A0.cons Pk.here ?_ | refine A0.cons (Pk.there Pk.here) ?_ | refine A0.cons (Pk.there (Pk.there Pk.here)) ?_ | apply A0.drop)) ?_
 (exact ⟨p + 1, by omega, by omega, rfl, Q1, _, rfl, A1a _, A2Z, by rw [A4C]; omega, fun n _ => A5V n⟩)
 refine M2 ?_
 refine sE (A8 rfl) rfl (fun b36 => ?_)
 refine H2 ?_
 refine sD (nS (tS (tS (tR (sQ (qA rfl) rfl (sD (nS ?_)))))))
 refine C6 ?_
 (refine A0B 25 2 ?_; refine N4 (fun (x : Nat × Option Addr × Nat × List Ty × List (List Value) × Nat × IM) => ⟨[(6, .int .i64 x.1), (5, .pointer (some ⟨b36, 0, none⟩)), (4, .pointer (some ⟨b4, 0, none⟩)), (0, .pointer (some ⟨br, 0, none⟩)), (3, .pointer (some ⟨b3, 0, none⟩))], [.blk b36 [.int .i64 k, .slice x.2.1 x.1 x.2.2.1], .slc x.2.1 x.2.2.1 25 2 x.1 x.2.2.2.2.1.flatten, rd br pb nb cb x.2.2.2.2.2.1, .blk b4 [.int .i64 0, .slice none 0 0], .blk b3 [.int .i64 k, .slice q ks.length c]], x.2.2.2.2.2.2⟩) (fun x => x.1 ≤ ks.length ∧ B2 G11 x.2.2.2.2.2.2 ∧ x.2.2.2.1.length = x.1 ∧ E1 x.2.2.2.2.2.2 x.2.2.2.1 x.2.2.2.2.1 ∧ (∀ u ∈ x.2.2.2.1, E4 u) ∧ (∀ n, Q2 n (.mk k ks) → ∀ u ∈ x.2.2.2.1, Q2 (n - 1) u) ∧ K1 x.2.2.2.1 ≤ K1 (ks.take x.1) ∧ p + 1 ≤ x.2.2.2.2.2.1 ∧ (x.2.2.2.2.2.1 : Int) ≤ p + 1 + x.1 + K1 (ks.take x.1)) (fun x => ks.length - x.1) (0, none, 0, [], [], p + 1, G11) ?_ ?_ ?_)
 (simp only [J9]; exact E0)
 (exact ⟨by simp, B2.refl _, rfl, by simp [E1], by simp, by simp, by simp [K1], by dsimp only; omega, by simp [K1]⟩)
 (rintro ⟨i, pn, cn, us, es', p', Gi⟩ ⟨hi, hle, hlu, hst, hau, hhu, hsu, hp1, hp2⟩; simp only [] at hi hle hlu hst hau hhu hsu hp1 hp2 ⊢; replace hsl := hsl.mono hle; replace hkl := hkl.mono hle; have htk := A2V ks i)
 refine B7 ?_
 refine sB (L9 rfl rfl) rfl rfl (fun h58 => ?_) (fun h58 => ?_)
 refine sD (nS (qT rfl (tK (nS (tS ?_)))))
 refine C6 ?_
 (obtain ⟨b, o, q0, d0, hp0, hat0, hre0, hg0⟩ := hsl.kidTy hkl (i := i) (by omega) (by omega); subst hp0; have e1 := A2U (ks := ks) (i := i) (by omega); have e2 := A2V ks (i + 1); have e3 := A0a ks[i]; have hih := ih ks[i] (List.getElem_mem (by omega)) p' Gi _ (hkid _ (List.getElem_mem (by omega))) hre0 (hb.mono hle) (by omega); refine D3 D4 rfl ?_)
 refine E8 (i := 0) (l' := [tt,ff,ff,ff,ff,ff,ff,ff,ff,ff,ff,ff,ff]) rfl C5 (A9 rfl) rfl (by kernel_rfl) rfl rfl ?_
 refine aL 1 rfl (C2 rfl rfl) rfl ?_
 refine aP 2 rfl (qM rfl) rfl ?_
 refine aP 3 rfl (A9 rfl) rfl ?_
 refine aL 4 rfl (C2 rfl rfl) rfl ?_
 refine aP 5 rfl (qM rfl) rfl ?_
 refine aP 6 rfl (D0 rfl rfl rfl (by omega)) rfl ?_
 refine aL 7 rfl (A6 rfl rfl (hat0 _) rfl) rfl ?_
 refine A1 8 ?_
 (refine W4 (l' := [tt,tt,tt,tt,tt,tt,tt,tt,tt,ff,ff,ff,ff]) rfl rfl hih (Pk.perm (by repeat (first | exact Pk.here | apply Pk.there))) rfl rfl rfl (by repeat (first | exact A5.nil | apply A5.dep (by decide +kernel) | apply A5.blk (by decide +kernel) (by repeat (first | exact Pk.here | apply Pk.there)) (by repeat first | exact mH | apply mT) | apply A5.im (by decide +kernel) hg0 (by repeat first | exact mH | apply mT))) (fun v G3 outs hle3 hh => ?_); obtain ⟨p3, hp31, hp32, rfl, u, cells3, rfl, hru, hua, hus, huh⟩ := hh; obtain ⟨q3, c3, es3, rfl, _⟩ := hru.open)
 refine A1 9 ?_
 (refine I7 rfl (D1 rfl rfl rfl (by omega) (by unfold maxLen; omega) rfl) rfl rfl ?_; rintro _ ⟨b78, rfl⟩)
 refine A1 10 ?_
 refine W2 rfl rfl rfl rfl rfl rfl (fun _ _ => by repeat (first | exact Sw.here | apply Sw.there)) (R0 (by repeat first | exact mH | apply mT)) rfl (by simp [Value.oneCell']) (by unfold maxLen; omega) (by omega) rfl rfl (by repeat (first | exact A5.nil | apply A5.dep (by decide +kernel) | apply A5.blk (by decide +kernel) (by repeat (first | exact Pk.here | apply Pk.there)) (by repeat first | exact mH | apply mT))) (fun pn' cn' => ?_)
 refine aP 11 rfl (A9 rfl) rfl ?_
 refine A1 12 ?_
 refine K6 rfl rfl rfl rfl rfl rfl rfl rfl (by kernel_rfl) (by repeat first | exact Sw.here | apply Sw.there) (by rfl) ?_
 refine D8 (O3 (nS (tR (sQ (qM rfl) rfl ?_))))
 refine sP (N0 rfl rfl (by omega) (by omega)) rfl rfl ?_
 refine sQ (qA rfl) rfl (sD ?_)
 refine K5 (i + 1, pn', cn', us ++ [u], es' ++ [[.int .i64 u.k, .slice q3 u.ks.length c3]], p3, G3) ?_ ?_ ?_
 (simp only [J9]; exact E0)
 (dsimp only; exact ⟨by omega, hle.trans hle3, by simp [hlu], E1.snoc (hst.mono hle3) hru, A12 hau hua, fun n hn => A12 (hhu n hn) (huh _ (A4y hn (List.getElem_mem _))), by rw [A1Y]; omega, by omega, by omega⟩)
 (show ks.length - (i + 1) < ks.length - i; omega)
 refine O8 ?_
 (refine L4 (by repeat (first | exact Pk.here | apply Pk.there)) (fun G5 hle5 hsl5 hno5 => ?_); obtain rfl : i = ks.length := (by omega))
 refine tT ?_
 refine C4 (outs := [rd br pb nb cb p']) (rC rfl (A2 rfl rfl)) (by repeat (first | exact A0.nil | refine A0.cons Pk.here ?_ | refine A0.cons (Pk.there Pk.here) ?_ | refine A0.cons (Pk.there (Pk.there Pk.here)) ?_ | apply A0.drop)) ?_
 (rw [List.take_length] at hsu hp2; refine ⟨p', by omega, by omega, rfl, .mk k us, _, rfl, (hst.mono hle5).ty hlu hsl5 hk, A4F ha hlu hau, by rw [F4]; omega, fun n hn => A8e hn hlu (hhu n hn)⟩)
theorem B2L : ∀ (a b : Ty) (G : IM) (ca cb : List Value), B3 G a ca → B3 G b cb → Fn Tryz.prog 187 [.agg ⟨ca⟩, .agg ⟨cb⟩] [] G (fun G' v outs => G' = G ∧ (∃ x, v = .bool x) ∧ outs = []) := by
 refine Ty.ind fun ak aks ih b G ca cb hra hrb => ?_
 obtain ⟨bk, bks⟩ := b
 obtain ⟨pa, cca, ea, rfl, hak, hsla, hkla⟩ := hra.open
 obtain ⟨pb, ccb, eb, rfl, hbk, hslb, hklb⟩ := hrb.open
 simp only [Ty.k, Ty.ks] at hak hsla hkla hbk hslb hklb ⊢
 have hna := hsla.le
 have hnb := hslb.le
 refine B8 Tryz.func187 rfl Tryz.ntmps187 Tryz.results187 rfl ?_
 intro w0
 refine tS (tR ?_)
 refine sE (E7 rfl rfl) rfl (fun b3 => ?_)
 refine sE (E7 rfl rfl) rfl (fun b4 => ?_)
 refine M2 ?_
 refine sB (P5 rfl rfl) rfl rfl (fun h15 => ?_) (fun h15 => ?_)
 refine A0j ?_
 (exact ⟨rfl, ⟨_, rfl⟩, rfl⟩)
 refine B7 ?_
 refine sB (P5 rfl rfl) rfl rfl (fun h44 => ?_) (fun h44 => ?_)
 refine Q4 ?_
 (exact ⟨rfl, ⟨_, rfl⟩, rfl⟩)
 refine Q4 ?_
 refine C6 ?_
 (refine N4 (fun (i : Nat) => ⟨[(5, .int .i64 i), (2, .pointer (some ⟨b3, 0, none⟩)), (3, .pointer (some ⟨b4, 0, none⟩))], [.blk b4 [.int .i64 bk, .slice pb bks.length ccb], .blk b3 [.int .i64 ak, .slice pa aks.length cca]], G⟩) (fun i => i ≤ aks.length) (fun i => aks.length - i) 0 ?_ ?_ ?_)
 exact E0
 exact Nat.zero_le _
 (rintro i hi)
 refine B7 ?_
 refine sB (L9 rfl rfl) rfl rfl (fun h82 => ?_) (fun h82 => ?_)
 refine sD (nS (qT rfl (tK (nS (tS ?_)))))
 refine C6 ?_
 refine tS ?_
 (obtain ⟨b, o, q0, d0, hp0, hat0, hre0, hg0⟩ := hsla.kidTy hkla (i := i) (by omega) (by omega); obtain ⟨b', o', q1, d1, hp1, hat1, hre1, hg1⟩ := hslb.kidTy hklb (i := i) (by omega) (by omega); subst hp0; subst hp1; refine D3 D4 rfl ?_)
 refine E8 (i := 0) (l' := [tt,ff,ff,ff,ff,ff,ff,ff,ff,ff,ff,ff]) rfl C5 (A9 rfl) rfl (by kernel_rfl) rfl rfl ?_
 refine aL 1 rfl (C2 rfl rfl) rfl ?_
 refine aP 2 rfl (qM rfl) rfl ?_
 refine aP 3 rfl (D0 rfl rfl rfl (by omega)) rfl ?_
 refine aL 4 rfl (A6 rfl rfl (hat0 _) rfl) rfl ?_
 refine aP 5 rfl (A9 rfl) rfl ?_
 refine aL 6 rfl (C2 rfl rfl) rfl ?_
 refine aP 7 rfl (qM rfl) rfl ?_
 refine aP 8 rfl (D0 rfl rfl rfl (by omega)) rfl ?_
 refine aL 9 rfl (A6 rfl rfl (hat1 _) rfl) rfl ?_
 refine A1 10 ?_
 (refine B1G rfl rfl (ih aks[i] (List.getElem_mem (by omega)) bks[i] G _ _ hre0 hre1) rfl rfl rfl (fun v Go outs hle hh => ?_); obtain ⟨rfl, ⟨x, rfl⟩, rfl⟩ := hh; cases x)
 refine aP 11 rfl (pNf rfl) rfl ?_
 refine M3 ?_
 (exact ⟨rfl, ⟨_, rfl⟩, rfl⟩)
 refine aP 11 rfl (Y7 rfl) rfl ?_
 refine F8 ?_
 refine sP (N0 rfl rfl (by omega) (by omega)) rfl rfl ?_
 refine sQ (qA rfl) rfl (sD ?_)
 refine K5 (i + 1) ?_ ?_ ?_
 exact E0
 omega
 omega
 refine M3 ?_
 (exact ⟨rfl, ⟨_, rfl⟩, rfl⟩)
theorem At.sub {hp : List A4} {G : IM} {b o j : Nat} {vs : List Value} {v : Value} (h : At hp G b o vs) (hj : vs[j]? = some v) : At hp G b (o + j) [v] := by
 have key : ∀ {cs : List Value}, (∀ i u, vs[i]? = some u → cs[o + i]? = some u) → ∀ i u, [v][i]? = some u → cs[o + j + i]? = some u := by
  intro cs hc i u hu
  cases i with
  | zero => simp at hu; subst hu; simpa using hc j v hj
  | succ i => simp at hu
 rcases h with ⟨cs, hm, hv⟩ | ⟨n, c, el, sz, cs, hm, hv⟩ | ⟨full, hg, hv⟩
 ·exact .inl ⟨cs, hm, key hv⟩
 ·exact .inr (.inl ⟨n, c, el, sz, cs, hm, key hv⟩)
 ·exact .inr (.inr ⟨full, hg, key hv⟩)
def HTm (G : IM) (t : Tm) (k : Int) (cells : List Value) : Prop := ∃ pt ct et pf cf ef p c es,
 cells = [.int .i64 t.k, .string t.nm, .int .i64 t.num, .int .i64 t.ty.k, .slice pt t.ty.ks.length ct, .int .i64 t.fr.k, .slice pf t.fr.ks.length cf, .int .i64 t.lb, .slice p t.ks.length c] ∧
 D5 G pt t.ty.ks.length ct 2 et ∧ E1 G (A1V t.ty.ks k) et ∧ D5 G pf t.fr.ks.length cf 2 ef ∧ E1 G (A1V t.fr.ks (k + A0l t.ty.ks)) ef ∧ D5 G p t.ks.length c 9 es ∧ E5 G (A4r t.ks (k + A0l t.ty.ks + A0l t.fr.ks)) es
theorem B2M {nm : ByteArray} (h : V5 nm = true) : nm.size = 1 := by
 unfold V5 at h
 simp at h
 omega
theorem A8t {k : Int} {nm : ByteArray} {num : Int} {ty fr : Ty} {lb : Int} {n : Nat} (h : U3 k nm num ty fr lb n = true) : nm.size ≤ 1 := by
 obtain ⟨_, h2, h3, _⟩ := U8.1 h
 by_cases hk : k = 1 ∨ k = 5
 ·rw [B2M (h2 hk)]; omega
 ·rw [h3 hk]; decide
def RBd (G : IM) (e : List Value) : Prop := ∃ nm t q d, e = [.string nm, .int .i64 t.k, .slice q t.ks.length d] ∧ B3 G t [.int .i64 t.k, .slice q t.ks.length d] ∧ E4 t ∧ F4 t ≤ 30 ∧ nm.size ≤ 1
def T8 (G : IM) (p : Option Addr) (n c : Nat) : Prop := ∃ es, es.length = n ∧ D5 G p n c 3 es ∧ ∀ e ∈ es, RBd G e
theorem RBd.mono {G G' : IM} {e : List Value} (h : RBd G e) (hg : B2 G G') : RBd G' e := by
 obtain ⟨nm, t, q, d, h1, h2, h3, h4⟩ := h
 exact ⟨nm, t, q, d, h1, h2.mono hg, h3, h4⟩
theorem T8.mono {G G' : IM} {p : Option Addr} {n c : Nat} (h : T8 G p n c) (hg : B2 G G') : T8 G' p n c := by
 obtain ⟨es, h1, h2, h3⟩ := h
 exact ⟨es, h1, h2.mono hg, fun e he => (h3 e he).mono hg⟩
theorem T8.nil (G : IM) : T8 G none 0 0 := ⟨[], rfl, D5.nil _ _, by simp⟩
theorem At.drop {hp : List A4} {G : IM} {b o : Nat} {v : Value} {vs : List Value} (h : At hp G b o (v :: vs)) : At hp G b (o + 1) vs := by
 have key : ∀ {cs : List Value}, (∀ i u, (v :: vs)[i]? = some u → cs[o + i]? = some u) → ∀ i u, vs[i]? = some u → cs[o + 1 + i]? = some u := by
  intro cs hc i u hu
  have := hc (i + 1) u (by simpa using hu)
  rwa [show o + 1 + i = o + (i + 1) by omega]
 rcases h with ⟨cs, hm, hv⟩ | ⟨n, c, el, sz, cs, hm, hv⟩ | ⟨full, hg, hv⟩
 ·exact .inl ⟨cs, hm, key hv⟩
 ·exact .inr (.inl ⟨n, c, el, sz, cs, hm, key hv⟩)
 ·exact .inr (.inr ⟨full, hg, key hv⟩)
theorem T8.get {G : IM} {p : Option Addr} {n c : Nat} (h : T8 G p n c) {i : Nat} (hi : i < n) :
  ∃ b o nm t q d, p = some ⟨b, o, none⟩ ∧ (∀ hp, At hp G b (o + i * 3) [.string nm, .int .i64 t.k, .slice q t.ks.length d]) ∧ B3 G t [.int .i64 t.k, .slice q t.ks.length d] ∧ E4 t ∧ F4 t ≤ 30 ∧ G b ≠ none ∧ nm.size ≤ 1 := by
 obtain ⟨es, h1, h2, h3⟩ := h
 obtain ⟨e, b, o, he, rfl, hl, _, hat, hgb⟩ := h2.get (i := i) (by omega)
 obtain ⟨nm, t, q, d, rfl, h5, h6, h7, h8⟩ := h3 e (List.mem_of_getElem? he)
 exact ⟨b, o, nm, t, q, d, rfl, hat, h5, h6, h7, hgb, h8⟩
theorem T8.le {G : IM} {p : Option Addr} {n c : Nat} (h : T8 G p n c) : n ≤ 9223372036854775807 := by
 obtain ⟨es, h1, h2, h3⟩ := h
 exact h2.le
theorem A8u (G : IM) (p : Option Addr) (n c : Nat) (nm : ByteArray) (hx : T8 G p n c) :
  Fn Tryz.prog 169 [.slice p n c, .string nm] [] G (TyB 30 G) := by
 have hn := hx.le
 refine B8 Tryz.func169 rfl Tryz.ntmps169 Tryz.results169 rfl ?_
 intro w0
 refine tS (tR ?_)
 refine sE (A8 rfl) rfl (fun b3 => ?_)
 refine F8 ?_
 refine sP (Q9 rfl rfl (by omega) (by omega)) rfl rfl ?_
 refine sQ (qA rfl) rfl (sD (nS ?_))
 refine C6 ?_
 (refine N4 (fun (i : Nat) => ⟨[(6, .int .i64 ((i : Int) - 1)), (0, .slice p n c), (1, .string nm), (4, .pointer (some ⟨b3, 0, none⟩))], [.blk b3 [.int .i64 0, .slice none 0 0]], G⟩) (fun i => i ≤ n) (fun i => i) n ?_ ?_ ?_)
 exact E0
 exact Nat.le_refl _
 (rintro i hi)
 refine tS (tS (tR (sQ (qM rfl) rfl ?_)))
 refine sB (S4 rfl rfl) rfl rfl (fun h25 => ?_) (fun h25 => ?_)
 refine sD (nS (qT rfl (tK (nS (tS ?_)))))
 (show I9 _ _ (.block 1 _) _ _; obtain ⟨j, rfl⟩ : ∃ j, i = j + 1 := ⟨i - 1, by omega⟩; rw [show ((j + 1 : Nat) : Int) - 1 = (j : Int) from by omega]; obtain ⟨b, o, nm1, t1, q1, d1, rfl, hat, hr1, ha1, hs1, hgb, hns1⟩ := hx.get (i := j) (by omega); refine C6 ?_)
 refine tS (tR (sQ (qM rfl) rfl (sQ (qM rfl) rfl ?_)))
 refine sP (D0 rfl rfl rfl (by omega)) rfl rfl ?_
 refine sQ (qF rfl) rfl ?_
 refine sL (M7 rfl rfl ((hat _).sub (j := 0) rfl)) rfl rfl ?_
 refine sQ (qM rfl) rfl ?_
 refine sB (A02 rfl rfl) rfl rfl (fun h41 => ?_) (fun h41 => ?_)
 refine B7 ?_
 refine sP (D0 rfl rfl rfl (by omega)) rfl rfl ?_
 refine sQ (qF rfl) rfl ?_
 refine sL (A6 rfl rfl (hat _).drop rfl) rfl rfl ?_
 (refine D9 rfl (R4 _ G _ ha1.small hr1) rfl rfl (fun v G1 hle1 hh => ?_); obtain ⟨Q0, F1, rfl, hs1', hn1⟩ := hh; obtain ⟨p1, c1, rfl, _⟩ := hs1'.open; have hrr := hs1'.R.mono (B6.le G1 G))
 refine M2 ?_
 refine B4 (rC rfl (A2 rfl rfl)) (rT rfl) ?_
 (exact ⟨rfl, _, _, _, rfl, hrr, ha1, hs1⟩)
 refine F8 ?_
 refine sP (Q9 rfl rfl (by omega) (by omega)) rfl rfl ?_
 refine sQ (qA rfl) rfl (sD ?_)
 refine K5 j ?_ ?_ ?_
 exact E0
 (show _ ≤ n; omega)
 exact Nat.le_refl _
 refine N6 ?_
 refine B4 (rC rfl (A2 rfl rfl)) (rT rfl) ?_
 (exact ⟨rfl, _, _, _, rfl, J6 _ ⟨by omega, by omega⟩, M8 (by omega) (by omega), by rw [Z5]; omega⟩)
theorem A58 {G : IM} {nm : ByteArray} {k : Int} {ks : List Ty} {q : Option Addr} {d : Nat} (hr : B3 G (.mk k ks) [.int .i64 k, .slice q ks.length d]) (ha : E4 (.mk k ks)) (hs : F4 (.mk k ks) ≤ 30) (hn : nm.size ≤ 1) : RBd G [.string nm, .int .i64 k, .slice q ks.length d] := ⟨nm, .mk k ks, q, d, rfl, hr, ha, hs, hn⟩
theorem T8.snoc {G G' : IM} {p p' : Option Addr} {n c c' : Nat} {es : List (List Value)} {e : List Value} (h1 : es.length = n) (h2 : D5 G p n c 3 es) (h3 : ∀ e ∈ es, RBd G e) (hg : B2 G G') (he : RBd G' e) (hs : Sl G' p' (n + 1) c' 3 (es.flatten ++ e)) : T8 G' p' (n + 1) c' := by
 refine ⟨es ++ [e], by simp [h1], D5.of (by simpa using hs) (by simp [h1]) ?_ ?_, ?_⟩
 ·intro x hx
  rcases List.mem_append.1 hx with hx | hx
  ·obtain ⟨_, _, _, _, rfl, _⟩ := h3 x hx; rfl
  ·obtain ⟨_, _, _, _, rfl, _⟩ := he
   simp only [List.mem_singleton] at hx; subst hx; rfl
 ·intro x hx
  rcases List.mem_append.1 hx with hx | hx
  ·obtain ⟨_, _, _, _, rfl, _⟩ := h3 x hx; simp [Value.oneCell']
  ·obtain ⟨_, _, _, _, rfl, _⟩ := he
   simp only [List.mem_singleton] at hx; subst hx; simp [Value.oneCell']
 ·intro x hx
  rcases List.mem_append.1 hx with hx | hx
  ·exact (h3 x hx).mono hg
  ·simp only [List.mem_singleton] at hx; subst hx; exact he
theorem A59 (G : IM) (p : Option Addr) (n c : Nat) (nm : ByteArray) (t : Ty) (cells : List Value) (hx : T8 G p n c) (hn : n ≤ 1000) (hr : B3 G t cells) (ha : E4 t) (hs : F4 t ≤ 30) (hnm : nm.size ≤ 1) :
  Fn Tryz.prog 195 [.slice p n c, .string nm, .agg ⟨cells⟩] [] G (L7 fun G' v => ∃ p' c', v = .slice p' (n + 1) c' ∧ T8 G' p' (n + 1) c') := by
 obtain ⟨k, ks⟩ := t
 obtain ⟨q, d, es0, rfl, _⟩ := hr.open
 simp only [Ty.k, Ty.ks] at hr ⊢
 obtain ⟨es, h1, h2, h3⟩ := hx
 have hSl : Sl G p n c 3 es.flatten := h2.1
 have h1c : ∀ u ∈ es.flatten, u.oneCell' = true := by
  intro u hu
  obtain ⟨e, he, hue⟩ := List.mem_flatten.1 hu
  obtain ⟨_, _, _, _, rfl, _⟩ := h3 e he
  simp only [List.mem_cons, List.not_mem_nil, or_false] at hue
  rcases hue with rfl | rfl | rfl <;> rfl
 refine B8 Tryz.func195 rfl Tryz.ntmps195 Tryz.results195 rfl ?_
 intro w0
 refine tS (tR ?_)
 refine sE (E7 rfl rfl) rfl (fun b3 => ?_)
 refine sQ (qA rfl) rfl (sD (nS (tS ?_)))
 refine D3 D4 rfl ?_
 refine E8 (i := 1) (l' := [ff,tt,ff,ff,ff,ff,ff,ff,ff]) rfl C5 (qM rfl) rfl (by kernel_rfl) rfl rfl ?_
 refine aP 3 rfl (qM rfl) rfl ?_
 refine aL 4 rfl (A2 rfl rfl) rfl ?_
 refine aP 5 rfl (P6 rfl rfl) rfl ?_
 refine Y5 (j := 0) (j' := 6) (by kernel_rfl) ?_ ?_
 (refine I7 rfl (D1 rfl rfl rfl (by omega) (by unfold maxLen; omega) rfl) rfl rfl ?_; rintro _ ⟨b14, rfl⟩)
 refine Y5 (j := 2) (j' := 6) (by kernel_rfl) ?_ ?_
 (refine A20 rfl rfl rfl rfl rfl rfl (fun _ _ => by repeat (first | exact Sw.here | apply Sw.there)) hSl h1c (Nat.zero_le _) (by unfold maxLen; omega) (by omega) rfl rfl (by repeat (first | exact A5.nil | apply A5.dep (by decide +kernel) | apply A5.blk (by decide +kernel) (by repeat (first | exact Pk.here | apply Pk.there)) (by repeat first | exact mH | apply mT))) (fun p4 c4 => ?_); simp only [Nat.zero_add, List.nil_append])
 refine A1 6 ?_
 (refine I7 rfl (D1 rfl rfl rfl (by omega) (by unfold maxLen; omega) rfl) rfl rfl ?_; rintro _ ⟨b18, rfl⟩)
 refine A1 7 ?_
 (refine W2 rfl rfl rfl rfl rfl rfl (fun _ _ => by repeat (first | exact Sw.here | apply Sw.there)) (R0 (by repeat first | exact mH | apply mT)) rfl (by simp [Value.oneCell']) (by unfold maxLen; omega) (by omega) rfl rfl (by repeat (first | exact A5.nil | apply A5.dep (by decide +kernel) | apply A5.blk (by decide +kernel) (by repeat (first | exact Pk.here | apply Pk.there)) (by repeat first | exact mH | apply mT))) (fun p5 c5 => ?_))
 refine aP 8 rfl (qA rfl) rfl ?_
 refine D8 (nS ?_)
 (refine L4 (cs := es.flatten ++ [.string nm, .int .i64 k, .slice q ks.length d]) (by repeat (first | exact Pk.here | apply Pk.there)) (fun G5 hle5 hsl5 hno5 => ?_))
 refine tT (E9 (rT rfl) ?_)
 (exact ⟨rfl, _, _, rfl, T8.snoc h1 h2 h3 hle5 (A58 (hr.mono hle5) ha hs hnm) hsl5⟩)
 (refine I7 rfl (D1 rfl rfl rfl (by omega) (by unfold maxLen; omega) rfl) rfl rfl ?_; rintro _ ⟨b28, rfl⟩)
 refine A1 2 ?_
 (refine A20 rfl rfl rfl rfl rfl rfl (fun _ _ => by repeat (first | exact Sw.here | apply Sw.there)) hSl h1c (Nat.zero_le _) (by unfold maxLen; omega) (by omega) rfl rfl (by repeat (first | exact A5.nil | apply A5.dep (by decide +kernel) | apply A5.blk (by decide +kernel) (by repeat (first | exact Pk.here | apply Pk.there)) (by repeat first | exact mH | apply mT))) (fun p4 c4 => ?_); simp only [Nat.zero_add, List.nil_append])
 refine A1 7 ?_
 (refine W2 rfl rfl rfl rfl rfl rfl (fun _ _ => by repeat (first | exact Sw.here | apply Sw.there)) (R0 (by repeat first | exact mH | apply mT)) rfl (by simp [Value.oneCell']) (by unfold maxLen; omega) (by omega) rfl rfl (by repeat (first | exact A5.nil | apply A5.dep (by decide +kernel) | apply A5.blk (by decide +kernel) (by repeat (first | exact Pk.here | apply Pk.there)) (by repeat first | exact mH | apply mT))) (fun p5 c5 => ?_))
 refine aP 8 rfl (qA rfl) rfl ?_
 refine D8 (nS ?_)
 (refine L4 (cs := es.flatten ++ [.string nm, .int .i64 k, .slice q ks.length d]) (by repeat (first | exact Pk.here | apply Pk.there)) (fun G5 hle5 hsl5 hno5 => ?_))
 refine tT (E9 (rT rfl) ?_)
 (exact ⟨rfl, _, _, rfl, T8.snoc h1 h2 h3 hle5 (A58 (hr.mono hle5) ha hs hnm) hsl5⟩)
 (refine I7 rfl (D1 rfl rfl rfl (by omega) (by unfold maxLen; omega) rfl) rfl rfl ?_; rintro _ ⟨b40, rfl⟩)
 refine A1 0 ?_
 (refine I7 rfl (D1 rfl rfl rfl (by omega) (by unfold maxLen; omega) rfl) rfl rfl ?_; rintro _ ⟨b42, rfl⟩)
 refine A1 2 ?_
 (refine A20 rfl rfl rfl rfl rfl rfl (fun _ _ => by repeat (first | exact Sw.here | apply Sw.there)) hSl h1c (Nat.zero_le _) (by unfold maxLen; omega) (by omega) rfl rfl (by repeat (first | exact A5.nil | apply A5.dep (by decide +kernel) | apply A5.blk (by decide +kernel) (by repeat (first | exact Pk.here | apply Pk.there)) (by repeat first | exact mH | apply mT))) (fun p4 c4 => ?_); simp only [Nat.zero_add, List.nil_append])
 refine A1 7 ?_
 (refine W2 rfl rfl rfl rfl rfl rfl (fun _ _ => by repeat (first | exact Sw.here | apply Sw.there)) (R0 (by repeat first | exact mH | apply mT)) rfl (by simp [Value.oneCell']) (by unfold maxLen; omega) (by omega) rfl rfl (by repeat (first | exact A5.nil | apply A5.dep (by decide +kernel) | apply A5.blk (by decide +kernel) (by repeat (first | exact Pk.here | apply Pk.there)) (by repeat first | exact mH | apply mT))) (fun p5 c5 => ?_))
 refine aP 8 rfl (qA rfl) rfl ?_
 refine D8 (nS ?_)
 (refine L4 (cs := es.flatten ++ [.string nm, .int .i64 k, .slice q ks.length d]) (by repeat (first | exact Pk.here | apply Pk.there)) (fun G5 hle5 hsl5 hno5 => ?_))
 refine tT (E9 (rT rfl) ?_)
 (exact ⟨rfl, _, _, rfl, T8.snoc h1 h2 h3 hle5 (A58 (hr.mono hle5) ha hs hnm) hsl5⟩)
theorem A8v (G : IM) : Fn Tryz.prog 196 [.slice none 0 0] [] G (L6 (.bool true) G) := by
 refine B8 Tryz.func196 rfl Tryz.ntmps196 Tryz.results196 rfl ?_
 intro w0
 refine I6 ?_
 refine C6 ?_
 (refine N4 (fun (_ : Nat) => ⟨[(3, .int .i64 0), (0, .slice none 0 0)], [], G⟩) (fun _ => True) (fun i => i) 0 ?_ ?_ ?_)
 ·exact E0
 ·trivial
 ·(rintro i _)
  refine K4 ?_
  refine sP (V4 rfl rfl (by omega)) rfl rfl ?_
  refine Q4 ?_
  refine sP (B1t rfl rfl (by omega)) rfl rfl ?_
  refine sQ (qA rfl) rfl (sD (nS (tT (E9 (rT rfl) ?_))))
  trivial
theorem A13 {k : Int} {n : Nat} (h : H6 k = n) : (k = 6 ∨ k = 7 ∨ k = 8 ∨ k = 10 → n = 2) ∧ (k = 9 → n = 3) ∧ (k = 5 ∨ k = 11 ∨ k = 12 ∨ k = 13 → n = 1) := by
 refine ⟨?_, ?_, ?_⟩
 ·rintro (rfl | rfl | rfl | rfl)
  ·rw [show H6 6 = 2 from rfl] at h; omega
  ·rw [show H6 7 = 2 from rfl] at h; omega
  ·rw [show H6 8 = 2 from rfl] at h; omega
  ·rw [show H6 10 = 2 from rfl] at h; omega
 ·rintro rfl
  rw [show H6 9 = 3 from rfl] at h; omega
 ·rintro (rfl | rfl | rfl | rfl)
  ·rw [show H6 5 = 1 from rfl] at h; omega
  ·rw [show H6 11 = 1 from rfl] at h; omega
  ·rw [show H6 12 = 1 from rfl] at h; omega
  ·rw [show H6 13 = 1 from rfl] at h; omega
theorem A8w {ts : List Ty} {i : Nat} (h : i < ts.length) : F4 ts[i] ≤ K1 ts := A56 (List.getElem_mem h)
theorem A8x {ts : List Ty} {i j : Nat} (h : j < ts.length) (hij : i < j) : F4 ts[i] + F4 ts[j] ≤ K1 ts := by
 have h1 := A2U (ks := ts) (i := i) (by omega)
 have h2 := A2U (ks := ts) (i := j) h
 have h3 := A2V ts (j + 1)
 have h4 : K1 (ts.take (i + 1)) ≤ K1 (ts.take j) := by
  have := A2V (ts.take j) (i + 1)
  rwa [List.take_take, Nat.min_eq_left (by omega)] at this
 have h5 : 0 ≤ K1 (ts.take i) := A08 _
 omega
theorem B2N (k : Int) (nm : ByteArray) (num : Int) (ty fr : Ty) (lb : Int) (ks : List Tm) (ts : List Ty) (G : IM) (cells : List Value) (p : Option Addr) (c : Nat) (es : List (List Value))
  (hops : H6 k = ts.length) (hty : E4 ty ∧ F4 ty ≤ 30) (hr : B5 G (.mk k nm num ty fr lb ks) cells) (hsl : D5 G p ts.length c 2 es) (hkl : E1 G ts es) (har : ∀ t ∈ ts, E4 t) :
  Fn Tryz.prog 219 [.agg ⟨cells⟩, .slice p ts.length c] [] G (TyB (K1 ts + 32) G) := by
 have hone := hr.one
 have hop := A13 hops
 have hnn := A08 ts
 have hz0 := fun h : 0 < ts.length => A8w h
 have hz1 := fun h : 1 < ts.length => A8w h
 have hz01 := fun h : 1 < ts.length => A8x (i := 0) h (by omega)
 have hz12 := fun h : 2 < ts.length => A8x (i := 1) h (by omega)
 have ha0 := fun h : 0 < ts.length => har _ (List.getElem_mem h)
 have ha1 := fun h : 1 < ts.length => har _ (List.getElem_mem h)
 have ha2 := fun h : 2 < ts.length => har _ (List.getElem_mem h)
 obtain ⟨tk, tks⟩ := ty
 obtain ⟨fk, fks⟩ := fr
 obtain ⟨pt, ct, pf, cf, pk, ck, ek, rfl, hk, hnum, hlb, hrty, hrfr, _, _⟩ := hr.open9
 refine B8 Tryz.func219 rfl Tryz.ntmps219 Tryz.results219 rfl ?_
 intro w0
 refine tS (tR ?_)
 refine sE (E7 rfl rfl) rfl (fun b3 => ?_)
 refine sE (A8 rfl) rfl (fun b4 => ?_)
 refine M2 ?_
 refine C6 (tS (tR (sB (qE rfl rfl) rfl rfl (fun h18 => ?_) (fun h18 => ?_))))
 refine B7 ?_
 (have hl2 : ts.length = 2 := hop.1 (by omega); obtain ⟨b0, o0, q0, d0, hp0, hat0, hre0, hg0⟩ := hsl.kidTy hkl (i := 0) (by omega) (by omega); obtain ⟨b1, o1, q1, d1, hp1, hat1, hre1, hg1⟩ := hsl.kidTy hkl (i := 1) (by omega) (by omega); cases hp0; cases hp1; refine sP (D0 (j := 0) rfl rfl rfl (by omega)) rfl rfl ?_)
 refine sL (A6 rfl rfl (hat0 _) rfl) rfl rfl ?_
 (refine D9 rfl (A21 4 ts[0] G _ (.inl rfl) (ha0 (by omega)) hre0) rfl rfl (fun v G1 hle1 hh => ?_); obtain ⟨ma, mca, mb, mcb, mx, rfl, hma, hma2, hma3, hmb, hmb2, hmb3⟩ := hh; obtain ⟨p1, c1, e1, rfl, _⟩ := hma.open; obtain ⟨p2, c2, e2, rfl, _⟩ := hmb.open; replace hsl := hsl.mono hle1; replace hkl := hkl.mono hle1; cases mx)
 refine H9 ?_
 refine sE (A8 rfl) rfl (fun b33 => ?_)
 refine sE (A8 rfl) rfl (fun b34 => ?_)
 refine H2 ?_
 refine H2 ?_
 refine sQ (qA rfl) rfl (sD (nS (tS ?_)))
 (have hl2 : ts.length = 2 := hop.1 (by omega); obtain ⟨b0, o0, q0, d0, hp0, hat0, hre0, hg0⟩ := hsl.kidTy hkl (i := 0) (by omega) (by omega); obtain ⟨b1, o1, q1, d1, hp1, hat1, hre1, hg1⟩ := hsl.kidTy hkl (i := 1) (by omega) (by omega); cases hp0; cases hp1; refine D3 D4 rfl ?_)
 refine S3 (i := 0) (l' := [tt,ff,ff,ff,ff,ff,ff,ff,ff,ff,ff]) rfl C5 (A2 rfl rfl) rfl (by kernel_rfl) rfl rfl ?_
 refine aP 1 rfl (qM rfl) rfl ?_
 refine aP 2 rfl (qM rfl) rfl ?_
 refine B1 3 rfl rfl rfl ?_
 refine B1 4 rfl rfl rfl ?_
 refine B1 5 rfl rfl rfl ?_
 refine B1 6 rfl rfl rfl ?_
 refine B1 7 rfl rfl rfl ?_
 refine aP 8 rfl (M4 rfl rfl) rfl ?_
 refine A1 9 ?_
 refine J7 rfl ?_
 refine aP 10 rfl (qA rfl) rfl ?_
 refine D8 (nS (tT (rB (rS ?_))))
 refine B4 (rC rfl (A2 rfl rfl)) (rT rfl) ?_
 (have h0 := hz0 (by omega); exact ⟨rfl, _, _, _, rfl, hmb, hmb2, by omega⟩)
 refine H9 ?_
 refine sE (A8 rfl) rfl (fun b65 => ?_)
 refine sE (A8 rfl) rfl (fun b66 => ?_)
 refine H2 ?_
 refine H2 ?_
 refine sQ (qA rfl) rfl (sD (nS (tS ?_)))
 (have hl2 : ts.length = 2 := hop.1 (by omega); obtain ⟨b0, o0, q0, d0, hp0, hat0, hre0, hg0⟩ := hsl.kidTy hkl (i := 0) (by omega) (by omega); obtain ⟨b1, o1, q1, d1, hp1, hat1, hre1, hg1⟩ := hsl.kidTy hkl (i := 1) (by omega) (by omega); cases hp0; cases hp1; refine D3 D4 rfl ?_)
 refine S3 (i := 0) (l' := [tt,ff,ff,ff,ff,ff,ff,ff,ff,ff,ff]) rfl C5 (A2 rfl rfl) rfl (by kernel_rfl) rfl rfl ?_
 refine aP 1 rfl (qM rfl) rfl ?_
 refine aP 2 rfl (qM rfl) rfl ?_
 refine aP 3 rfl (qM rfl) rfl ?_
 refine aP 4 rfl (D0 (j := 1) rfl rfl rfl (by omega)) rfl ?_
 refine aL 5 rfl (A6 rfl rfl (hat1 _) rfl) rfl ?_
 refine aL 6 rfl (A2 rfl rfl) rfl ?_
 refine A1 7 ?_
 refine I1 rfl rfl ((W5 ts[1] ma _ _ _ (ha1 (by omega)) hma2 hre1 hma)) rfl rfl rfl ?_
 refine aP 8 rfl (J8 rfl rfl) rfl ?_
 refine A1 9 ?_
 refine J7 rfl ?_
 refine aP 10 rfl (qA rfl) rfl ?_
 refine D8 (nS (tT (rB (rS ?_))))
 refine B4 (rC rfl (A2 rfl rfl)) (rT rfl) ?_
 (have h0 := hz0 (by omega); exact ⟨rfl, _, _, _, rfl, hmb, hmb2, by omega⟩)
 refine sQ (qA rfl) rfl (sD (nS (cF rfl (tS (tR ?_)))))
 refine sB (qE rfl rfl) rfl rfl (fun h100 => ?_) (fun h100 => ?_)
 refine sQ (qA rfl) rfl (sD (nS (qT rfl (tS ?_))))
 (have hl2 : ts.length = 2 := hop.1 (by omega); obtain ⟨b0, o0, q0, d0, hp0, hat0, hre0, hg0⟩ := hsl.kidTy hkl (i := 0) (by omega) (by omega); obtain ⟨b1, o1, q1, d1, hp1, hat1, hre1, hg1⟩ := hsl.kidTy hkl (i := 1) (by omega) (by omega); cases hp0; cases hp1; refine D3 D4 rfl ?_)
 refine E8 (i := 1) (l' := [ff,tt,ff,ff,ff,ff,ff,ff,ff,ff,ff,ff,ff,ff,ff]) rfl C5 (qM rfl) rfl (by kernel_rfl) rfl rfl ?_
 refine aP 2 rfl (D0 (j := 0) rfl rfl rfl (by omega)) rfl ?_
 refine aL 3 rfl (A6 rfl rfl (hat0 _) rfl) rfl ?_
 refine A1 0 ?_
 refine I1 rfl rfl ((U6 _)) rfl rfl rfl ?_
 refine A1 4 ?_
 refine I1 rfl rfl ((U6 _)) rfl rfl rfl ?_
 refine A1 5 ?_
 refine A0J rfl rfl ((W5 ts[0] (.mk 2 []) _ _ _ (ha0 (by omega)) (M8 (by decide) (by decide)) hre0 (J6 _ ⟨by omega, by omega⟩))) rfl rfl rfl (fun h115 => ?_) (fun h115 => ?_)
 refine aP 6 rfl (qM rfl) rfl ?_
 refine aP 7 rfl (qM rfl) rfl ?_
 refine aP 8 rfl (D0 (j := 1) rfl rfl rfl (by omega)) rfl ?_
 refine aL 9 rfl (A6 rfl rfl (hat1 _) rfl) rfl ?_
 refine A1 10 ?_
 refine I1 rfl rfl ((U6 _)) rfl rfl rfl ?_
 refine A1 11 ?_
 refine I1 rfl rfl ((W5 ts[1] (.mk 2 []) _ _ _ (ha1 (by omega)) (M8 (by decide) (by decide)) hre1 (J6 _ ⟨by omega, by omega⟩))) rfl rfl rfl ?_
 refine aP 12 rfl (J8 rfl rfl) rfl ?_
 refine A1 13 ?_
 refine J7 rfl ?_
 refine aP 14 rfl (qA rfl) rfl ?_
 refine D8 (nS (tT (rB (rS ?_))))
 refine B4 (rC rfl (A2 rfl rfl)) (rT rfl) ?_
 (exact ⟨rfl, _, _, _, rfl, J6 _ ⟨by omega, by omega⟩, M8 (by omega) (by omega), by rw [Z5]; omega⟩)
 refine aP 6 rfl (qM rfl) rfl ?_
 refine B1 7 rfl rfl rfl ?_
 refine B1 8 rfl rfl rfl ?_
 refine B1 9 rfl rfl rfl ?_
 refine B1 10 rfl rfl rfl ?_
 refine B1 11 rfl rfl rfl ?_
 refine aP 12 rfl (M4 rfl rfl) rfl ?_
 refine A1 13 ?_
 refine J7 rfl ?_
 refine aP 14 rfl (qA rfl) rfl ?_
 refine D8 (nS (tT (rB (rS ?_))))
 refine B4 (rC rfl (A2 rfl rfl)) (rT rfl) ?_
 (exact ⟨rfl, _, _, _, rfl, J6 _ ⟨by omega, by omega⟩, M8 (by omega) (by omega), by rw [Z5]; omega⟩)
 refine sQ (qA rfl) rfl (sD (nS (cF rfl (tS (tR ?_)))))
 refine sB (qE rfl rfl) rfl rfl (fun h158 => ?_) (fun h158 => ?_)
 refine sQ (qA rfl) rfl (sD (nS (qT rfl (tS ?_))))
 (have hl2 : ts.length = 2 := hop.1 (by omega); obtain ⟨b0, o0, q0, d0, hp0, hat0, hre0, hg0⟩ := hsl.kidTy hkl (i := 0) (by omega) (by omega); obtain ⟨b1, o1, q1, d1, hp1, hat1, hre1, hg1⟩ := hsl.kidTy hkl (i := 1) (by omega) (by omega); cases hp0; cases hp1; refine D3 D4 rfl ?_)
 refine E8 (i := 1) (l' := [ff,tt,ff,ff,ff,ff,ff,ff,ff,ff,ff,ff,ff,ff,ff]) rfl C5 (qM rfl) rfl (by kernel_rfl) rfl rfl ?_
 refine aP 2 rfl (D0 (j := 0) rfl rfl rfl (by omega)) rfl ?_
 refine aL 3 rfl (A6 rfl rfl (hat0 _) rfl) rfl ?_
 refine A1 0 ?_
 refine I1 rfl rfl ((A1c _)) rfl rfl rfl ?_
 refine A1 4 ?_
 refine I1 rfl rfl ((U6 _)) rfl rfl rfl ?_
 refine A1 5 ?_
 refine A0J rfl rfl ((W5 ts[0] (.mk 2 []) _ _ _ (ha0 (by omega)) (M8 (by decide) (by decide)) hre0 (J6 _ ⟨by omega, by omega⟩))) rfl rfl rfl (fun h173 => ?_) (fun h173 => ?_)
 refine aP 6 rfl (qM rfl) rfl ?_
 refine aP 7 rfl (qM rfl) rfl ?_
 refine aP 8 rfl (D0 (j := 1) rfl rfl rfl (by omega)) rfl ?_
 refine aL 9 rfl (A6 rfl rfl (hat1 _) rfl) rfl ?_
 refine A1 10 ?_
 refine I1 rfl rfl ((U6 _)) rfl rfl rfl ?_
 refine A1 11 ?_
 refine I1 rfl rfl ((W5 ts[1] (.mk 2 []) _ _ _ (ha1 (by omega)) (M8 (by decide) (by decide)) hre1 (J6 _ ⟨by omega, by omega⟩))) rfl rfl rfl ?_
 refine aP 12 rfl (J8 rfl rfl) rfl ?_
 refine A1 13 ?_
 refine J7 rfl ?_
 refine aP 14 rfl (qA rfl) rfl ?_
 refine D8 (nS (tT (rB (rS ?_))))
 refine B4 (rC rfl (A2 rfl rfl)) (rT rfl) ?_
 (exact ⟨rfl, _, _, _, rfl, J6 _ ⟨by omega, by omega⟩, M8 (by omega) (by omega), by rw [Z5]; omega⟩)
 refine aP 6 rfl (qM rfl) rfl ?_
 refine B1 7 rfl rfl rfl ?_
 refine B1 8 rfl rfl rfl ?_
 refine B1 9 rfl rfl rfl ?_
 refine B1 10 rfl rfl rfl ?_
 refine B1 11 rfl rfl rfl ?_
 refine aP 12 rfl (M4 rfl rfl) rfl ?_
 refine A1 13 ?_
 refine J7 rfl ?_
 refine aP 14 rfl (qA rfl) rfl ?_
 refine D8 (nS (tT (rB (rS ?_))))
 refine B4 (rC rfl (A2 rfl rfl)) (rT rfl) ?_
 (exact ⟨rfl, _, _, _, rfl, J6 _ ⟨by omega, by omega⟩, M8 (by omega) (by omega), by rw [Z5]; omega⟩)
 refine sQ (qA rfl) rfl (sD (nS (cF rfl (tS (tR ?_)))))
 refine sB (qE rfl rfl) rfl rfl (fun h216 => ?_) (fun h216 => ?_)
 refine sQ (qA rfl) rfl (sD (nS (qT rfl (tS (tS ?_)))))
 (have hl3 : ts.length = 3 := hop.2.1 (by omega); obtain ⟨b0, o0, q0, d0, hp0, hat0, hre0, hg0⟩ := hsl.kidTy hkl (i := 0) (by omega) (by omega); obtain ⟨b1, o1, q1, d1, hp1, hat1, hre1, hg1⟩ := hsl.kidTy hkl (i := 1) (by omega) (by omega); obtain ⟨b2, o2, q2, d2, hp2, hat2, hre2, hg2⟩ := hsl.kidTy hkl (i := 2) (by omega) (by omega); cases hp0; cases hp1; cases hp2; refine D3 D4 rfl ?_)
 refine E8 (i := 0) (l' := [tt,ff,ff,ff,ff,ff,ff,ff]) rfl C5 (qM rfl) rfl (by kernel_rfl) rfl rfl ?_
 refine aP 1 rfl (D0 (j := 1) rfl rfl rfl (by omega)) rfl ?_
 refine aL 2 rfl (A6 rfl rfl (hat1 _) rfl) rfl ?_
 refine aP 3 rfl (qM rfl) rfl ?_
 refine aP 4 rfl (D0 (j := 2) rfl rfl rfl (by omega)) rfl ?_
 refine aL 5 rfl (A6 rfl rfl (hat2 _) rfl) rfl ?_
 refine A1 6 ?_
 refine A0J rfl rfl ((W5 ts[1] ts[2] _ _ _ (ha1 (by omega)) (ha2 (by omega)) hre1 hre2)) rfl rfl rfl (fun h231 => ?_) (fun h231 => ?_)
 refine aP 7 rfl (Y7 rfl) rfl ?_
 refine D8 (nS (cF rfl (tK (nS (tS ?_)))))
 (have hl3 : ts.length = 3 := hop.2.1 (by omega); obtain ⟨b0, o0, q0, d0, hp0, hat0, hre0, hg0⟩ := hsl.kidTy hkl (i := 0) (by omega) (by omega); obtain ⟨b1, o1, q1, d1, hp1, hat1, hre1, hg1⟩ := hsl.kidTy hkl (i := 1) (by omega) (by omega); obtain ⟨b2, o2, q2, d2, hp2, hat2, hre2, hg2⟩ := hsl.kidTy hkl (i := 2) (by omega) (by omega); cases hp0; cases hp1; cases hp2; refine D3 D4 rfl ?_)
 refine E8 (i := 0) (l' := [tt,ff,ff,ff,ff,ff,ff,ff,ff,ff,ff,ff,ff,ff]) rfl C5 (qM rfl) rfl (by kernel_rfl) rfl rfl ?_
 refine aP 1 rfl (D0 (j := 1) rfl rfl rfl (by omega)) rfl ?_
 refine aL 2 rfl (A6 rfl rfl (hat1 _) rfl) rfl ?_
 refine aP 3 rfl (qM rfl) rfl ?_
 refine aP 4 rfl (D0 (j := 2) rfl rfl rfl (by omega)) rfl ?_
 refine aL 5 rfl (A6 rfl rfl (hat2 _) rfl) rfl ?_
 refine aP 7 rfl (qM rfl) rfl ?_
 refine aP 8 rfl (D0 (j := 0) rfl rfl rfl (by omega)) rfl ?_
 refine aL 9 rfl (A6 rfl rfl (hat0 _) rfl) rfl ?_
 refine A1 6 ?_
 (refine M6 rfl rfl (B2K ts[1] ts[2] G _ _ (by assumption) (ha1 (by omega)) (ha2 (by omega)) hre1 hre2) rfl rfl rfl (fun v G1 hle1 hh => ?_); obtain ⟨mt, mc, rfl, hmr, hma, hms, _⟩ := hh; obtain ⟨p1, c1, e1, rfl, _⟩ := hmr.open; have hre0q := hre0.mono hle1)
 refine A1 10 ?_
 refine I1 rfl rfl ((A1c _)) rfl rfl rfl ?_
 refine A1 11 ?_
 refine I1 rfl rfl ((W5 ts[0] (.mk 3 []) _ _ _ (ha0 (by omega)) (M8 (by decide) (by decide)) hre0q (J6 _ ⟨by omega, by omega⟩))) rfl rfl rfl ?_
 refine A1 12 ?_
 refine J7 rfl ?_
 refine aP 13 rfl (qA rfl) rfl ?_
 refine D8 (nS (tT (rB (rS ?_))))
 refine B4 (rC rfl (A2 rfl rfl)) (rT rfl) ?_
 (have h0 := hz12 (by omega); exact ⟨rfl, _, _, _, rfl, hmr, hma, by omega⟩)
 refine aP 7 rfl (pNf rfl) rfl ?_
 refine O8 ?_
 refine B4 (rC rfl (A2 rfl rfl)) (rT rfl) ?_
 (exact ⟨rfl, _, _, _, rfl, J6 _ ⟨by omega, by omega⟩, M8 (by omega) (by omega), by rw [Z5]; omega⟩)
 refine sQ (qA rfl) rfl (sD (nS (cF rfl (tS (tR ?_)))))
 refine sB (qE rfl rfl) rfl rfl (fun h288 => ?_) (fun h288 => ?_)
 refine sQ (qA rfl) rfl (sD (nS (qT rfl (tS ?_))))
 (have hl2 : ts.length = 2 := hop.1 (by omega); obtain ⟨b0, o0, q0, d0, hp0, hat0, hre0, hg0⟩ := hsl.kidTy hkl (i := 0) (by omega) (by omega); obtain ⟨b1, o1, q1, d1, hp1, hat1, hre1, hg1⟩ := hsl.kidTy hkl (i := 1) (by omega) (by omega); cases hp0; cases hp1; refine D3 D4 rfl ?_)
 refine E8 (i := 0) (l' := [tt,ff,ff,ff,ff,ff,ff,ff,ff,ff,ff]) rfl C5 (qM rfl) rfl (by kernel_rfl) rfl rfl ?_
 refine aP 1 rfl (D0 (j := 0) rfl rfl rfl (by omega)) rfl ?_
 refine aL 2 rfl (A6 rfl rfl (hat0 _) rfl) rfl ?_
 refine aP 3 rfl (qM rfl) rfl ?_
 refine aP 4 rfl (D0 (j := 1) rfl rfl rfl (by omega)) rfl ?_
 refine aL 5 rfl (A6 rfl rfl (hat1 _) rfl) rfl ?_
 refine A1 6 ?_
 (refine M6 rfl rfl (A2A 5 ts[0] ts[1] G _ _ (.inr rfl) (ha0 (by omega)) (ha1 (by omega)) hre0 hre1) rfl rfl rfl (fun v G1 hle1 hh => ?_); obtain ⟨mt, mc, mx, rfl, hmr, hma, hms⟩ := hh; obtain ⟨p1, c1, e1, rfl, _⟩ := hmr.open)
 refine aP 7 rfl (pX rfl rfl) rfl ?_
 refine aP 8 rfl (pX rfl rfl) rfl ?_
 refine A1 9 ?_
 refine J7 rfl ?_
 refine aP 10 rfl (qA rfl) rfl ?_
 refine D8 (nS (tT (rB (rS ?_))))
 refine B4 (rC rfl (A2 rfl rfl)) (rT rfl) ?_
 (have h0 := hz01 (by omega); exact ⟨rfl, _, _, _, rfl, hmr, hma, by omega⟩)
 refine sQ (qA rfl) rfl (sD (nS (cF rfl (tS (tR ?_)))))
 refine sB (qE rfl rfl) rfl rfl (fun h321 => ?_) (fun h321 => ?_)
 refine B7 ?_
 (have hl1 : ts.length = 1 := hop.2.2 (by omega); obtain ⟨b0, o0, q0, d0, hp0, hat0, hre0, hg0⟩ := hsl.kidTy hkl (i := 0) (by omega) (by omega); cases hp0; refine sP (D0 (j := 0) rfl rfl rfl (by omega)) rfl rfl ?_)
 refine sL (A6 rfl rfl (hat0 _) rfl) rfl rfl ?_
 (refine D9 rfl (A21 5 ts[0] G _ (.inr rfl) (ha0 (by omega)) hre0) rfl rfl (fun v G1 hle1 hh => ?_); obtain ⟨ma, mca, mb, mcb, mx, rfl, hma, hma2, hma3, hmb, hmb2, hmb3⟩ := hh; obtain ⟨p1, c1, e1, rfl, _⟩ := hma.open; obtain ⟨p2, c2, e2, rfl, _⟩ := hmb.open)
 refine H9 ?_
 refine sE (A8 rfl) rfl (fun b336 => ?_)
 refine sE (A8 rfl) rfl (fun b337 => ?_)
 refine N6 ?_
 refine B4 (rC rfl (A2 rfl rfl)) (rT rfl) ?_
 (have h0 := hz0 (by omega); exact ⟨rfl, _, _, _, rfl, hma, hma2, by omega⟩)
 refine sQ (qA rfl) rfl (sD (nS (cF rfl (tS (tR ?_)))))
 refine sB (qE rfl rfl) rfl rfl (fun h362 => ?_) (fun h362 => ?_)
 refine B7 ?_
 (have hl1 : ts.length = 1 := hop.2.2 (by omega); obtain ⟨b0, o0, q0, d0, hp0, hat0, hre0, hg0⟩ := hsl.kidTy hkl (i := 0) (by omega) (by omega); cases hp0; refine sP (D0 (j := 0) rfl rfl rfl (by omega)) rfl rfl ?_)
 refine sL (A6 rfl rfl (hat0 _) rfl) rfl rfl ?_
 (refine D9 rfl (A21 5 ts[0] G _ (.inr rfl) (ha0 (by omega)) hre0) rfl rfl (fun v G1 hle1 hh => ?_); obtain ⟨ma, mca, mb, mcb, mx, rfl, hma, hma2, hma3, hmb, hmb2, hmb3⟩ := hh; obtain ⟨p1, c1, e1, rfl, _⟩ := hma.open; obtain ⟨p2, c2, e2, rfl, _⟩ := hmb.open)
 refine H9 ?_
 refine sE (A8 rfl) rfl (fun b377 => ?_)
 refine sE (A8 rfl) rfl (fun b378 => ?_)
 refine N6 ?_
 refine B4 (rC rfl (A2 rfl rfl)) (rT rfl) ?_
 (have h0 := hz0 (by omega); exact ⟨rfl, _, _, _, rfl, hmb, hmb2, by omega⟩)
 refine sQ (qA rfl) rfl (sD (nS (cF rfl (tS (tR ?_)))))
 refine sB (qE rfl rfl) rfl rfl (fun h403 => ?_) (fun h403 => ?_)
 refine sQ (qA rfl) rfl (sD (nS (qT rfl (tS ?_))))
 (have hl1 : ts.length = 1 := hop.2.2 (by omega); obtain ⟨b0, o0, q0, d0, hp0, hat0, hre0, hg0⟩ := hsl.kidTy hkl (i := 0) (by omega) (by omega); cases hp0; refine D3 D4 rfl ?_)
 refine E8 (i := 0) (l' := [tt,ff,ff,ff,ff,ff,ff,ff,ff,ff,ff]) rfl C5 (A9 rfl) rfl (by kernel_rfl) rfl rfl ?_
 refine aL 1 rfl (A2 rfl rfl) rfl ?_
 refine aP 3 rfl (qM rfl) rfl ?_
 refine aP 4 rfl (D0 (j := 0) rfl rfl rfl (by omega)) rfl ?_
 refine aL 5 rfl (A6 rfl rfl (hat0 _) rfl) rfl ?_
 refine aP 6 rfl (A9 rfl) rfl ?_
 refine aL 7 rfl (A2 rfl rfl) rfl ?_
 refine A1 2 ?_
 (refine M6 rfl rfl (R4 (.mk tk tks) G _ hty.1.small hrty) rfl rfl rfl (fun v G1 hle1 hh => ?_); obtain ⟨Q0, F1, rfl, hs1, hn1⟩ := hh; obtain ⟨p1, c1, rfl, _⟩ := hs1.open; have hmr := hs1.R.mono (B6.le G1 G); have hre0q := hre0.mono hle1; have hrtyq := hrty.mono hle1)
 refine A1 8 ?_
 refine I1 rfl rfl ((W5 ts[0] (.mk tk tks) _ _ _ (ha0 (by omega)) hty.1 hre0q hrtyq)) rfl rfl rfl ?_
 refine A1 9 ?_
 refine J7 rfl ?_
 refine aP 10 rfl (qA rfl) rfl ?_
 refine D8 (nS (tT (rB (rS ?_))))
 refine B4 (rC rfl (A2 rfl rfl)) (rT rfl) ?_
 (exact ⟨rfl, _, _, _, rfl, hmr, hty.1, by omega⟩)
 refine M3 ?_
 refine B4 (rC rfl (A2 rfl rfl)) (rT rfl) ?_
 (exact ⟨rfl, _, _, _, rfl, J6 _ ⟨by omega, by omega⟩, M8 (by omega) (by omega), by rw [Z5]; omega⟩)
theorem B2O : ∀ (t : Ty) (d : Int), H8 t d = true → E4 t := by
 refine Ty.ind fun k ks ih d h => ?_
 obtain ⟨h1, h2⟩ := A3C h
 rw [E4]
 refine ⟨fun hk => ?_, fun h4 h5 => ?_, A3D.2 fun t ht => ?_⟩
 ·have := (N5 k).2.1 hk
  omega
 ·have h5' := N5 k
  have h6 := h5'.1
  have h7 := h5'.2.2
  omega
 ·obtain ⟨i, hi, rfl⟩ := List.getElem_of_mem ht
  exact ih _ ht _ (h2 i hi)
theorem A8y : ∀ (n : Nat) (t : Ty) (d : Int), H8 t d = true → 4 - d ≤ n → Q2 n t := by
 intro n
 induction n with
 | zero =>
  rintro ⟨k, ks⟩ d h hd
  obtain ⟨h1, h2⟩ := A3C h
  have hks : ks.length = 0 := by
   rcases Nat.eq_zero_or_pos ks.length with h0 | h0
   ·exact h0
   ·have h3 := h2 0 h0
    obtain ⟨k', ks'⟩ : Ty := ks[0]
    have h4 : ∀ (u : Ty) (d : Int), H8 u d = true → d ≤ 4 := by
     rintro ⟨a, b⟩ d hu
     rw [H8] at hu
     simp only [Bool.and_eq_true, decide_eq_true_eq] at hu
     exact hu.1.1
    have := h4 _ _ h3
    omega
  have h5 := N5 k
  have h6 := h5.2.1
  exact ⟨List.length_eq_zero_iff.1 hks, by intro h; have := h6 (.inl h); omega, by intro h; have := h6 (.inr h); omega⟩
 | succ n ih =>
  rintro ⟨k, ks⟩ d h hd
  have ha := B2O _ _ h
  rw [E4] at ha
  obtain ⟨h1, h2⟩ := A3C h
  refine ⟨ha.1, ha.2.1, fun t ht => ?_⟩
  obtain ⟨i, hi, rfl⟩ := List.getElem_of_mem ht
  exact ih _ _ (h2 i hi) (by omega)
theorem A4H {t : Ty} (h : H3 t = true) : E4 t ∧ F4 t ≤ 30 := by
 have h1 := A8y 3 t 1 h (by omega)
 have h2 := A4x h1
 have h3 : ((2 ^ (3 + 1) - 2 : Nat) : Int) = 14 := rfl
 exact ⟨h1.ar, by omega⟩
theorem B2P {t : Ty} (h : X1 t = true) : E4 t ∧ F4 t ≤ 30 := by
 rw [A8p h]
 exact ⟨M8 (by decide) (by decide), by rw [A7, Z5]; omega⟩
theorem A3K {k : Int} {nm : ByteArray} {num : Int} {ty fr : Ty} {lb : Int} {n : Nat} (h : U3 k nm num ty fr lb n = true) : E4 ty ∧ F4 ty ≤ 30 := by
 have hn := U8.1 h
 by_cases hk : k = 5 ∨ k = 13 ∨ k = 14
 ·exact A4H (hn.2.2.2.2.2.1 hk)
 ·exact B2P (hn.2.2.2.2.2.2.1 hk)
theorem A8z : ∀ (e : Tm) (d : Int) (G : IM) (p : Option Addr) (n c : Nat) (cells : List Value), L8 12 14 e d = true → (n : Int) ≤ d → T8 G p n c → B5 G e cells →
  Fn Tryz.prog 198 [.slice p n c, .agg ⟨cells⟩] [] G (TyB (32 * (C3 e : Int)) G) := by
 refine Tm.ind fun k nm num ty fr lb ks ih d G p n c cells hv hnd hx hr => ?_
 have hr0 := hr
 have hone := hr.one
 obtain ⟨hv1, hv2, hv3, hv4⟩ := Z4 hv
 have hvk := (A0m 12 14 ks _).1 hv4
 have har := (U8.1 hv3).1
 have hop := A13 har
 obtain ⟨hta, hts⟩ := A3K hv3
 have hck : C3 (.mk k nm num ty fr lb ks) = 1 + C9 ks := by rw [C3]; omega
 rw [hck]
 obtain ⟨tk, tks⟩ := ty
 obtain ⟨fk, fks⟩ := fr
 obtain ⟨pt, ct, pf, cf, q, cq, es, rfl, hk, hnum, hlb, hty, hfr, hsl, hkl⟩ := hr.open9
 have hlen : ks.length ≤ 3 := by have := A2y k; omega
 refine B8 Tryz.func198 rfl Tryz.ntmps198 Tryz.results198 rfl ?_
 intro w0
 refine tS (tR ?_)
 refine sE (E7 rfl rfl) rfl (fun b3 => ?_)
 refine sE (A8 rfl) rfl (fun b4 => ?_)
 refine M2 ?_
 refine C6 (tS (tR (sB (qE rfl rfl) rfl rfl (fun h18 => ?_) (fun h18 => ?_))))
 refine C7 ?_
 (refine D9 rfl (A8u G p n c nm hx) rfl rfl (fun v G1 hle1 hh => ?_); obtain ⟨mt, mc, mx, rfl, hmr, hma, hms⟩ := hh; obtain ⟨p1, c1, e1, rfl, _⟩ := hmr.open)
 refine C7 ?_
 refine B4 (rC rfl (A2 rfl rfl)) (rT rfl) ?_
 (exact ⟨rfl, _, _, _, rfl, hmr, hma, by omega⟩)
 refine sQ (qA rfl) rfl (sD (nS (cF rfl (tS (tR ?_)))))
 refine sB (qE rfl rfl) rfl rfl (fun h46 => ?_) (fun h46 => ?_)
 refine sQ (qA rfl) rfl (sD (nS (qT rfl (tS (tR ?_)))))
 refine H7 rfl ((U6 _)) rfl rfl ?_
 refine H2 ?_
 refine sQ (qA rfl) rfl (sD (nS (tT (rB (rS ?_)))))
 refine B4 (rC rfl (A2 rfl rfl)) (rT rfl) ?_
 (exact ⟨rfl, _, _, _, rfl, J6 _ ⟨by omega, by omega⟩, M8 (by omega) (by omega), by rw [Z5]; omega⟩)
 refine sQ (qA rfl) rfl (sD (nS (cF rfl (tS (tS (tR ?_))))))
 refine sB (qE rfl rfl) rfl rfl (fun h70 => ?_) (fun h70 => ?_)
 refine C7 ?_
 refine H7 rfl ((A1c _)) rfl rfl ?_
 refine H2 ?_
 refine sQ (qA rfl) rfl (sD (nS (tT (rB (rS ?_)))))
 refine B4 (rC rfl (A2 rfl rfl)) (rT rfl) ?_
 (exact ⟨rfl, _, _, _, rfl, J6 _ ⟨by omega, by omega⟩, M8 (by omega) (by omega), by rw [Z5]; omega⟩)
 refine sQ (qA rfl) rfl (sD (nS (cF rfl (tR ?_))))
 refine sB (qE rfl rfl) rfl rfl (fun h95 => ?_) (fun h95 => ?_)
 refine sQ (qA rfl) rfl (sD (nS (qT rfl (tS (tR ?_)))))
 refine H7 rfl ((A1c _)) rfl rfl ?_
 refine H2 ?_
 refine sQ (qA rfl) rfl (sD (nS (tT (rB (rS ?_)))))
 refine B4 (rC rfl (A2 rfl rfl)) (rT rfl) ?_
 (exact ⟨rfl, _, _, _, rfl, J6 _ ⟨by omega, by omega⟩, M8 (by omega) (by omega), by rw [Z5]; omega⟩)
 refine sQ (qA rfl) rfl (sD (nS (cF rfl (tS (tR ?_)))))
 refine sB (qE rfl rfl) rfl rfl (fun h118 => ?_) (fun h118 => ?_)
 refine sQ (qA rfl) rfl (sD (nS (qT rfl (tS ?_))))
 (have hl1 : ks.length = 1 := hop.2.2 (by omega); obtain ⟨b, o, e, rfl, hl, hat, hre, hgb⟩ := hsl.kidTm hkl (i := 0) (by omega) (by omega); have hMore := A59 G p n c nm (.mk tk tks) _ hx (by omega) hty hta hts (A8t hv3); have hcl : C9 ks = C3 ks[0] := (by have := A3z (ks := ks) (i := 0) (by omega); rw [List.take_of_length_le (by omega)] at this; simpa [C9] using this); refine D3 D4 rfl ?_)
 refine E8 (i := 0) (l' := [tt,ff,ff,ff,ff,ff,ff,ff,ff,ff,ff,ff,ff,ff,ff,ff,ff]) rfl C5 (qM rfl) rfl (by kernel_rfl) rfl rfl ?_
 refine aP 1 rfl (A9 rfl) rfl ?_
 refine aL 2 rfl (C2 rfl rfl) rfl ?_
 refine aP 3 rfl (A9 rfl) rfl ?_
 refine aL 4 rfl (A2 rfl rfl) rfl ?_
 refine aP 6 rfl (A9 rfl) rfl ?_
 refine aL 7 rfl (C2 rfl rfl) rfl ?_
 refine aP 8 rfl (D0 (j := 0) rfl rfl rfl (by omega)) rfl ?_
 refine aL 9 rfl (A6 rfl rfl (hat _) hl) rfl ?_
 refine Y5 (j := 5) (j' := 14) (by kernel_rfl) ?_ ?_
 (refine M6 rfl rfl hMore rfl rfl rfl (fun v G1 hle1 hh => ?_); obtain ⟨pm, cm, rfl, hxm⟩ := hh; have hreM := hre.mono hle1; have hLam := ih ks[0] (List.getElem_mem (by omega)) (d + 1) G1 pm (n + 1) cm _ (hvk 0 (by omega)) (by omega) hxm hreM; have htyM := hty.mono hle1)
 refine Y5 (j := 10) (j' := 14) (by kernel_rfl) ?_ ?_
 (refine M6 rfl rfl hLam rfl rfl rfl (fun v G2 hle2 hh => ?_); obtain ⟨mt, mc, mx, rfl, hmr, hma, hms⟩ := hh; obtain ⟨p1, c1, e1, rfl, _⟩ := hmr.open; have htyN := htyM.mono hle2; cases mx)
 refine aP 11 rfl (qM rfl) rfl ?_
 refine aP 12 rfl (pX rfl rfl) rfl ?_
 refine aP 13 rfl (pX rfl rfl) rfl ?_
 refine A1 14 ?_
 (refine I7 rfl (A8 rfl) rfl rfl ?_; rintro _ ⟨b142, rfl⟩)
 refine A1 15 ?_
 refine J7 rfl ?_
 refine aP 16 rfl (qA rfl) rfl ?_
 refine Y8 ?_
 refine B4 (rC rfl (A2 rfl rfl)) (rT rfl) ?_
 (exact ⟨rfl, _, _, _, rfl, J6 _ ⟨by omega, by omega⟩, M8 (by omega) (by omega), by rw [Z5]; omega⟩)
 refine aP 11 rfl (qM rfl) rfl ?_
 refine aP 12 rfl (pX rfl rfl) rfl ?_
 refine aP 13 rfl (pX rfl rfl) rfl ?_
 refine A1 14 ?_
 (refine I7 rfl (A8 rfl) rfl rfl ?_; rintro _ ⟨b173, rfl⟩)
 refine A1 15 ?_
 refine J7 rfl ?_
 refine aP 16 rfl (qA rfl) rfl ?_
 refine T5 ?_
 (refine D9 rfl (A2A 4 (.mk tk tks) mt _ _ _ (.inl rfl) hta hma htyN hmr) rfl rfl (fun v G3 hle3 hh => ?_); obtain ⟨mt2, mc2, mx2, rfl, hmr2, hma2, hms2⟩ := hh; obtain ⟨p2, c2, e2, rfl, _⟩ := hmr2.open)
 refine C7 ?_
 refine B4 (rC rfl (A2 rfl rfl)) (rT rfl) ?_
 (exact ⟨rfl, _, _, _, rfl, hmr2, hma2, by omega⟩)
 (refine I7 rfl (A8 rfl) rfl rfl ?_; rintro _ ⟨b206, rfl⟩)
 refine A1 10 ?_
 (refine M6 rfl rfl hLam rfl rfl rfl (fun v G2 hle2 hh => ?_); obtain ⟨mt, mc, mx, rfl, hmr, hma, hms⟩ := hh; obtain ⟨p1, c1, e1, rfl, _⟩ := hmr.open; have htyN := htyM.mono hle2; cases mx)
 refine aP 11 rfl (qM rfl) rfl ?_
 refine aP 12 rfl (pX rfl rfl) rfl ?_
 refine aP 13 rfl (pX rfl rfl) rfl ?_
 refine A1 15 ?_
 refine J7 rfl ?_
 refine aP 16 rfl (qA rfl) rfl ?_
 refine Y8 ?_
 refine B4 (rC rfl (A2 rfl rfl)) (rT rfl) ?_
 (exact ⟨rfl, _, _, _, rfl, J6 _ ⟨by omega, by omega⟩, M8 (by omega) (by omega), by rw [Z5]; omega⟩)
 refine aP 11 rfl (qM rfl) rfl ?_
 refine aP 12 rfl (pX rfl rfl) rfl ?_
 refine aP 13 rfl (pX rfl rfl) rfl ?_
 refine A1 15 ?_
 refine J7 rfl ?_
 refine aP 16 rfl (qA rfl) rfl ?_
 refine T5 ?_
 (refine D9 rfl (A2A 4 (.mk tk tks) mt _ _ _ (.inl rfl) hta hma htyN hmr) rfl rfl (fun v G3 hle3 hh => ?_); obtain ⟨mt2, mc2, mx2, rfl, hmr2, hma2, hms2⟩ := hh; obtain ⟨p2, c2, e2, rfl, _⟩ := hmr2.open)
 refine C7 ?_
 refine B4 (rC rfl (A2 rfl rfl)) (rT rfl) ?_
 (exact ⟨rfl, _, _, _, rfl, hmr2, hma2, by omega⟩)
 (refine I7 rfl (A8 rfl) rfl rfl ?_; rintro _ ⟨b273, rfl⟩)
 refine A1 5 ?_
 (refine M6 rfl rfl hMore rfl rfl rfl (fun v G1 hle1 hh => ?_); obtain ⟨pm, cm, rfl, hxm⟩ := hh; have hreM := hre.mono hle1; have hLam := ih ks[0] (List.getElem_mem (by omega)) (d + 1) G1 pm (n + 1) cm _ (hvk 0 (by omega)) (by omega) hxm hreM; have htyM := hty.mono hle1)
 refine A1 10 ?_
 (refine M6 rfl rfl hLam rfl rfl rfl (fun v G2 hle2 hh => ?_); obtain ⟨mt, mc, mx, rfl, hmr, hma, hms⟩ := hh; obtain ⟨p1, c1, e1, rfl, _⟩ := hmr.open; have htyN := htyM.mono hle2; cases mx)
 refine aP 11 rfl (qM rfl) rfl ?_
 refine aP 12 rfl (pX rfl rfl) rfl ?_
 refine aP 13 rfl (pX rfl rfl) rfl ?_
 refine A1 15 ?_
 refine J7 rfl ?_
 refine aP 16 rfl (qA rfl) rfl ?_
 refine Y8 ?_
 refine B4 (rC rfl (A2 rfl rfl)) (rT rfl) ?_
 (exact ⟨rfl, _, _, _, rfl, J6 _ ⟨by omega, by omega⟩, M8 (by omega) (by omega), by rw [Z5]; omega⟩)
 refine aP 11 rfl (qM rfl) rfl ?_
 refine aP 12 rfl (pX rfl rfl) rfl ?_
 refine aP 13 rfl (pX rfl rfl) rfl ?_
 refine A1 15 ?_
 refine J7 rfl ?_
 refine aP 16 rfl (qA rfl) rfl ?_
 refine T5 ?_
 (refine D9 rfl (A2A 4 (.mk tk tks) mt _ _ _ (.inl rfl) hta hma htyN hmr) rfl rfl (fun v G3 hle3 hh => ?_); obtain ⟨mt2, mc2, mx2, rfl, hmr2, hma2, hms2⟩ := hh; obtain ⟨p2, c2, e2, rfl, _⟩ := hmr2.open)
 refine C7 ?_
 refine B4 (rC rfl (A2 rfl rfl)) (rT rfl) ?_
 (exact ⟨rfl, _, _, _, rfl, hmr2, hma2, by omega⟩)
 refine C7 ?_
 (refine D7 (D1 rfl rfl rfl (by omega) (by unfold maxLen; omega) rfl) rfl ?_; rintro _ ⟨b351, rfl⟩)
 refine C7 ?_
 refine C6 ?_
 (refine N4 (fun (x : Nat × Option Addr × Nat × List Ty × List (List Value) × IM) => ⟨[(9, .int .i64 x.1), (8, .slice x.2.1 x.1 x.2.2.1), (3, .pointer (some ⟨b3, 0, none⟩)), (4, .pointer (some ⟨b4, 0, none⟩)), (0, .slice p n c)], [.slc x.2.1 x.2.2.1 25 2 x.1 x.2.2.2.2.1.flatten, .blk b4 [.int .i64 0, .slice none 0 0], .blk b3 [.int .i64 k, .string nm, .int .i64 num, .int .i64 tk, .slice pt tks.length ct, .int .i64 fk, .slice pf fks.length cf, .int .i64 lb, .slice q ks.length cq]], x.2.2.2.2.2⟩) (fun x => x.1 ≤ ks.length ∧ B2 G x.2.2.2.2.2 ∧ x.2.2.2.1.length = x.1 ∧ E1 x.2.2.2.2.2 x.2.2.2.1 x.2.2.2.2.1 ∧ (∀ u ∈ x.2.2.2.1, E4 u) ∧ K1 x.2.2.2.1 ≤ 32 * (C9 (ks.take x.1) : Int)) (fun x => ks.length - x.1) (0, some ⟨b351, 0, none⟩, 0, [], [], G) ?_ ?_ ?_)
 (simp only [J9]; exact E0)
 (exact ⟨by simp, B2.refl _, rfl, by simp [E1], by simp, by dsimp only; rw [K1]; omega⟩)
 (rintro ⟨i, pn, cn, us, es', Gi⟩ ⟨hi, hle, hlu, hst, hau, hsu⟩; simp only [] at hi hle hlu hst hau hsu ⊢; replace hsl := hsl.mono hle; replace hkl := hkl.mono hle; replace hx := hx.mono hle; replace hr0 := hr0.mono hle)
 refine B7 ?_
 refine sB (L9 rfl rfl) rfl rfl (fun h373 => ?_) (fun h373 => ?_)
 refine sD (nS (qT rfl (tK (nS (tS ?_)))))
 refine C6 ?_
 refine K4 ?_
 (obtain ⟨b, o, e, rfl, hl, hat, hre, hgb⟩ := hsl.kidTm hkl (i := i) (by omega) (by omega); have hsc := A3z (ks := ks) (i := i) (by omega); refine sP (D0 rfl rfl rfl (by omega)) rfl rfl ?_)
 refine sL (A6 rfl rfl (hat _) hl) rfl rfl ?_
 (refine D9 rfl (ih ks[i] (List.getElem_mem (by omega)) (d + 1) Gi p n c _ (hvk i (by omega)) (by omega) hx hre) rfl rfl (fun v G2 hle2 hh => ?_); obtain ⟨u, uc, mx, rfl, hru, hua, hus⟩ := hh; obtain ⟨p3, c3, e3, rfl, _⟩ := hru.open; cases mx)
 refine H0 ?_
 refine sE (A8 rfl) rfl (fun b393 => ?_)
 refine A1S ?_
 refine B4 (rC rfl (A2 rfl rfl)) (rT rfl) ?_
 (exact ⟨rfl, _, _, _, rfl, J6 _ ⟨by omega, by omega⟩, M8 (by omega) (by omega), by rw [Z5]; omega⟩)
 refine H0 ?_
 refine sE (A8 rfl) rfl (fun b425 => ?_)
 refine T5 ?_
 (refine D7 (D1 rfl rfl rfl (by omega) (by unfold maxLen; omega) rfl) rfl ?_; rintro _ ⟨b443, rfl⟩)
 refine A1T rfl rfl rfl rfl rfl (fun _ _ => by repeat (first | exact Sw.here | apply Sw.there)) (R0 (by repeat first | exact mH | apply mT)) rfl (by simp [Value.oneCell']) (by unfold maxLen; omega) (by omega) rfl (fun pn' cn' => ?_)
 refine K4 ?_
 refine sP (N0 rfl rfl (by omega) (by omega)) rfl rfl ?_
 refine sQ (qA rfl) rfl (sD ?_)
 refine K5 (i + 1, pn', cn', us ++ [u], es' ++ [[.int .i64 u.k, .slice p3 u.ks.length c3]], G2) ?_ ?_ ?_
 (simp only [J9]; exact E0)
 (dsimp only; exact ⟨by omega, hle.trans hle2, by simp [hlu], E1.snoc (hst.mono hle2) hru, A12 hau hua, by rw [A1Y]; omega⟩)
 (show ks.length - (i + 1) < ks.length - i; omega)
 refine Q4 ?_
 (obtain rfl : i = ks.length := (by omega); refine P2 (cs := es'.flatten) (by repeat (first | exact Pk.here | apply Pk.there)) (fun G3 hle3 hsl3 hno3 => ?_); have hst3 := hst.mono hle3; have hRes := B2N k nm num (.mk tk tks) (.mk fk fks) lb ks us G3 _ pn cn es' (by rw [hlu]; exact har) ⟨hta, hts⟩ (hr0.mono hle3) (by rw [hlu]; exact D5.of hsl3 (by rw [hst3.len, hlu]) hst3.all (fun e he => (hst3.each e he).2)) hst3 hau; rw [hlu] at hRes; refine D9 rfl hRes rfl rfl (fun v G4 hle4 hh => ?_); obtain ⟨mt, mc, mx, rfl, hmr, hma, hms⟩ := hh; obtain ⟨p1, c1, e1, rfl, _⟩ := hmr.open; rw [List.take_length] at hsu)
 refine B7 ?_
 refine B4 (rC rfl (A2 rfl rfl)) (rT rfl) ?_
 (exact ⟨rfl, _, _, _, rfl, hmr, hma, by omega⟩)
theorem B5.of9 {G : IM} {k : Int} {nm : ByteArray} {num tk fk : Int} {tks fks : List Ty} {lb : Int} {ks : List Tm} {q1 q2 q3 : Option Addr} {c1 c2 c3 : Nat} {es : List (List Value)} (hk : H4 k) (hnum : H4 num) (hlb : H4 lb) (hty : B3 G (.mk tk tks) [.int .i64 tk, .slice q1 tks.length c1])
  (hfr : B3 G (.mk fk fks) [.int .i64 fk, .slice q2 fks.length c2]) (hsl : D5 G q3 ks.length c3 9 es) (hkl : E5 G ks es) :
  B5 G (.mk k nm num (.mk tk tks) (.mk fk fks) lb ks) [.int .i64 k, .string nm, .int .i64 num, .int .i64 tk, .slice q1 tks.length c1, .int .i64 fk, .slice q2 fks.length c2, .int .i64 lb, .slice q3 ks.length c3] := by
 simp only [B5]
 exact ⟨_, _, q3, c3, es, rfl, hk, hnum, hlb, hty, hfr, hsl, hkl⟩
theorem A1J {k k' : Int} {nm nm' : ByteArray} {num num' : Int} {ty fr ty' fr' : Ty} {lb lb' : Int} {ks : List Tm} (h : (Tm.mk k nm num ty fr lb ks).small) (h1 : nm'.size ≤ 4294967296) (h2 : ty'.small) (h3 : fr'.small) : (Tm.mk k' nm' num' ty' fr' lb' ks).small := by
 simp only [Tm.small] at h ⊢
 exact ⟨h1, h2, h3, h.2.2.2⟩
def Tm.fit (t : Tm) (N : Nat) : Prop := t.small ∧ C3 t ≤ N
theorem B2Q (br : Nat) (pb : Option Addr) (nb cb : Nat) (bs : List UInt8) (hnb : nb ≤ 2000) (p : Nat) (G : IM) (hb : Sl G pb nb cb 1 (N2 bs)) (hp : p + 100 < 1099511627776) (t : Tm) (cells : List Value) (N : Nat) (hfit : t.fit N) (hr : B5 G t cells) :
  Fn Tryz.prog 60 [.pointer (some ⟨br, 0, none⟩), .agg ⟨cells⟩] [rd br pb nb cb p] G
   (X4 br pb nb cb p 40 (fun G' v => ∃ t cells, v = .agg ⟨cells⟩ ∧ B5 G' t cells ∧ t.fit N)) := by
 have hl := hr.len
 have hone := hr.one
 obtain ⟨k, nm, num, ⟨tk, tks⟩, ⟨fk, fks⟩, lb, ks⟩ := t
 have hfit0 := hfit
 obtain ⟨hsm, hcn⟩ := hfit0
 replace hfit : (Tm.mk k nm num (.mk tk tks) (.mk fk fks) lb ks).small ∧ C3 (Tm.mk k nm num (.mk tk tks) (.mk fk fks) lb ks) ≤ N := hfit
 rw [show (Tm.mk k nm num (.mk tk tks) (.mk fk fks) lb ks).small = (nm.size ≤ 4294967296 ∧ (Ty.mk tk tks).small ∧ (Ty.mk fk fks).small ∧ ks.length ≤ 4294967296 ∧ Tm.smallL ks) from by rw [Tm.small]] at hfit
 refine B8 Tryz.func60 rfl Tryz.ntmps60 Tryz.results60 rfl ?_
 intro w0
 refine tS (tR ?_)
 refine sE (E7 rfl rfl) rfl (fun b3 => ?_)
 refine sE (A8 rfl) rfl (fun b4 => ?_)
 refine sD (nS (tS (tR ?_)))
 refine sL (A6 rfl rfl (C8 (by repeat first | exact mH | apply mT)) (by assumption)) rfl rfl ?_
 (refine D9 rfl (A5Y _ G cells hsm hr) rfl rfl (fun v G1 hle1 hh => ?_); obtain ⟨cells1, F1, rfl, hs1, hn1⟩ := hh; have hr1 := hs1.R.mono (B6.le G1 G); obtain ⟨q1, c1, q2, c2, q3, c3, es, rfl, hk, hnum, hlb, hty, hfr, hsl, hkl⟩ := hr1.open9)
 refine sE (A8 rfl) rfl (fun b11 => ?_)
 refine H2 ?_
 refine sD (nS (tS (tS (tR (sQ (qM rfl) rfl ?_)))))
 (refine C0 rfl (S0 _ br pb nb cb p bs 50 (hb.mono hle1) hnb (by omega)) (Pk.perm (by repeat (first | exact Pk.here | apply Pk.there))) rfl rfl (fun v G2 outs hle2 hh => ?_); obtain ⟨rfl, rfl, j, rfl, hj0, hj1⟩ := hh; replace hb := hb.mono hle1)
 refine sD (nS ?_)
 (show I9 _ _ (.block 0 _) _ _; refine A0b (fun (x : List Value × Nat × IM) => ⟨[(5, .pointer (some ⟨b11, 0, none⟩)), (4, .pointer (some ⟨b4, 0, none⟩))], [.blk b11 x.1, .blk b4 [.int .i64 0, .string ⟨⟨[]⟩⟩, .int .i64 0, .int .i64 0, .slice none 0 0, .int .i64 0, .slice none 0 0, .int .i64 0, .slice none 0 0], rd br pb nb cb x.2.1], x.2.2⟩) (fun x => B2 G2 x.2.2 ∧ p ≤ x.2.1 ∧ x.2.1 ≤ p + 40 ∧ ∃ t, B5 x.2.2 t x.1 ∧ t.small ∧ C3 t = C3 (.mk k nm num (.mk tk tks) (.mk fk fks) lb ks)) ?_ ?_)
 refine C6 (tS (tR (sB (qE rfl rfl) rfl rfl (fun h26 => ?_) (fun h26 => ?_))))
 refine sQ (qA rfl) rfl (sD (nS (qT rfl (tR (sQ (qM rfl) rfl ?_)))))
 (refine D7 (D1 rfl rfl rfl (by omega) (by unfold maxLen; omega) rfl) rfl ?_; rintro _ ⟨b33, rfl⟩)
 (refine P2 (by repeat (first | exact Pk.here | apply Pk.there)) (fun G4 hle4 hsl4 _ => ?_); refine C0 rfl (Z3 G4 br pb nb cb (p + 1) bs _ _ _ _ (hb.mono hle4) hnb (by omega) hsl4 (by decide)) (Pk.perm (by repeat (first | exact Pk.here | apply Pk.there))) rfl rfl (fun v G5 outs hle5 hh => ?_); obtain ⟨rfl, rfl, hv⟩ := hh; obtain ⟨k', rfl, hk'⟩ : ∃ k', v = .int .i64 k' ∧ H4 k' := (by simp only [List.mem_cons, List.not_mem_nil, or_false] at hv; rcases hv with rfl | rfl | rfl | rfl | rfl | rfl <;> exact ⟨_, rfl, by unfold H4; omega⟩))
 refine sQ (A9 rfl) rfl (H2 ?_)
 refine sD (O3 ?_)
 refine P1 ([.int .i64 k', .string nm, .int .i64 num, .int .i64 tk, .slice q1 tks.length c1, .int .i64 fk, .slice q2 fks.length c2, .int .i64 lb, .slice q3 ks.length c3], p + 1 + 1, G5) (N7 (by repeat (first | exact E6.nil | refine E6.cons rfl ?_)) (by repeat (first | exact A0.refl | exact A0.nil | refine A0.cons (by repeat (first | exact Pk.here | apply Pk.there)) ?_ | apply A0.drop))) ?_
 (dsimp only; exact ⟨hle4, by omega, by omega, _, B5.of9 hk' hnum hlb (hty.mono hle4) (hfr.mono hle4) (hsl.mono hle4) (hkl.mono hle4), A1J hsm hfit.1.1 hfit.1.2.1 hfit.1.2.2.1, rfl⟩)
 refine sQ (qA rfl) rfl (sD (nS (cF rfl (tS (tR ?_)))))
 refine sB (qE rfl rfl) rfl rfl (fun h47 => ?_) (fun h47 => ?_)
 refine sQ (qA rfl) rfl (sD (nS (qT rfl (tR (sQ (qM rfl) rfl ?_)))))
 (refine D7 (D1 rfl rfl rfl (by omega) (by unfold maxLen; omega) rfl) rfl ?_; rintro _ ⟨b54, rfl⟩)
 (refine P2 (by repeat (first | exact Pk.here | apply Pk.there)) (fun G4 hle4 hsl4 _ => ?_); refine C0 rfl (A4B G4 br pb nb cb (p + 1) bs _ _ _ _ (hb.mono hle4) hnb (by omega) hsl4 (by decide)) (Pk.perm (by repeat (first | exact Pk.here | apply Pk.there))) rfl rfl (fun v G5 outs hle5 hh => ?_); obtain ⟨rfl, rfl, hv⟩ := hh; obtain ⟨nm', rfl, hnm'⟩ : ∃ nm', v = .string nm' ∧ nm'.size ≤ 2 := (by simp only [List.mem_cons, List.not_mem_nil, or_false] at hv; rcases hv with rfl | rfl | rfl | rfl <;> exact ⟨_, rfl, by decide⟩))
 refine sQ (A9 rfl) rfl (H2 ?_)
 refine sD (O3 ?_)
 refine P1 ([.int .i64 k, .string nm', .int .i64 num, .int .i64 tk, .slice q1 tks.length c1, .int .i64 fk, .slice q2 fks.length c2, .int .i64 lb, .slice q3 ks.length c3], p + 1 + 1, G5) (N7 (by repeat (first | exact E6.nil | refine E6.cons rfl ?_)) (by repeat (first | exact A0.refl | exact A0.nil | refine A0.cons (by repeat (first | exact Pk.here | apply Pk.there)) ?_ | apply A0.drop))) ?_
 (dsimp only; exact ⟨hle4, by omega, by omega, _, B5.of9 hk hnum hlb (hty.mono hle4) (hfr.mono hle4) (hsl.mono hle4) (hkl.mono hle4), A1J hsm (by omega) hfit.1.2.1 hfit.1.2.2.1, rfl⟩)
 refine sQ (qA rfl) rfl (sD (nS (cF rfl (tS (tR ?_)))))
 refine sB (qE rfl rfl) rfl rfl (fun h68 => ?_) (fun h68 => ?_)
 refine sQ (qA rfl) rfl (sD (nS (qT rfl (tR (sQ (qM rfl) rfl ?_)))))
 (refine D7 (D1 rfl rfl rfl (by omega) (by unfold maxLen; omega) rfl) rfl ?_; rintro _ ⟨b75, rfl⟩)
 (refine P2 (by repeat (first | exact Pk.here | apply Pk.there)) (fun G4 hle4 hsl4 _ => ?_); refine C0 rfl (Z3 G4 br pb nb cb (p + 1) bs _ _ _ _ (hb.mono hle4) hnb (by omega) hsl4 (by decide)) (Pk.perm (by repeat (first | exact Pk.here | apply Pk.there))) rfl rfl (fun v G5 outs hle5 hh => ?_); obtain ⟨rfl, rfl, hv⟩ := hh; obtain ⟨k', rfl, hk'⟩ : ∃ k', v = .int .i64 k' ∧ H4 k' := (by simp only [List.mem_cons, List.not_mem_nil, or_false] at hv; rcases hv with rfl | rfl | rfl | rfl | rfl | rfl <;> exact ⟨_, rfl, by unfold H4; omega⟩))
 refine sQ (A9 rfl) rfl (H2 ?_)
 refine sD (O3 ?_)
 refine P1 ([.int .i64 k, .string nm, .int .i64 k', .int .i64 tk, .slice q1 tks.length c1, .int .i64 fk, .slice q2 fks.length c2, .int .i64 lb, .slice q3 ks.length c3], p + 1 + 1, G5) (N7 (by repeat (first | exact E6.nil | refine E6.cons rfl ?_)) (by repeat (first | exact A0.refl | exact A0.nil | refine A0.cons (by repeat (first | exact Pk.here | apply Pk.there)) ?_ | apply A0.drop))) ?_
 (dsimp only; exact ⟨hle4, by omega, by omega, _, B5.of9 hk hk' hlb (hty.mono hle4) (hfr.mono hle4) (hsl.mono hle4) (hkl.mono hle4), A1J hsm hfit.1.1 hfit.1.2.1 hfit.1.2.2.1, rfl⟩)
 refine sQ (qA rfl) rfl (sD (nS (cF rfl (tS (tR ?_)))))
 refine sB (qE rfl rfl) rfl rfl (fun h89 => ?_) (fun h89 => ?_)
 refine B7 ?_
 (refine C0 rfl (A8n br pb nb cb bs hnb (p + 1) _ hb (by omega)) (Pk.perm (by repeat (first | exact Pk.here | apply Pk.there))) rfl rfl (fun v G3 outs hle3 hh => ?_); obtain ⟨p3, hp31, hp32, rfl, t3, cells3, rfl, hr3, hs3⟩ := hh)
 (refine C0 rfl (A8o br pb nb cb bs hnb p3 _ (hb.mono hle3) (by omega) t3 cells3 hr3 hs3) (Pk.perm (by repeat (first | exact Pk.here | apply Pk.there))) rfl rfl (fun v G4 outs hle4 hh => ?_); obtain ⟨p4, hp41, hp42, rfl, t4, cells4, rfl, hr4, hs4⟩ := hh; have hts4 := A2X t4 (by omega); obtain ⟨t4k, t4s⟩ := t4; obtain ⟨q4, c4, es4, rfl, _⟩ := hr4.open; have hle24 := hle3.trans hle4)
 refine sQ (A9 rfl) rfl (H2 ?_)
 refine sD (O3 ?_)
 refine P1 ([.int .i64 k, .string nm, .int .i64 num, .int .i64 t4k, .slice q4 t4s.length c4, .int .i64 fk, .slice q2 fks.length c2, .int .i64 lb, .slice q3 ks.length c3], p4, G4) (N7 (by repeat (first | exact E6.nil | refine E6.cons rfl ?_)) (by repeat (first | exact A0.refl | exact A0.nil | refine A0.cons (by repeat (first | exact Pk.here | apply Pk.there)) ?_ | apply A0.drop))) ?_
 (dsimp only; exact ⟨hle24, by omega, by omega, _, B5.of9 hk hnum hlb hr4 (hfr.mono hle24) (hsl.mono hle24) (hkl.mono hle24), A1J hsm hfit.1.1 hts4 hfit.1.2.2.1, rfl⟩)
 refine sQ (qA rfl) rfl (sD (nS (cF rfl (tS (tR ?_)))))
 refine sB (qE rfl rfl) rfl rfl (fun h111 => ?_) (fun h111 => ?_)
 refine C7 ?_
 refine P1 ([.int .i64 k, .string nm, .int .i64 num, .int .i64 tk, .slice q1 tks.length c1, .int .i64 fk, .slice q2 fks.length c2, .int .i64 1, .slice q3 ks.length c3], p + 1, G2) (N7 (by repeat (first | exact E6.nil | refine E6.cons rfl ?_)) (by repeat (first | exact A0.refl | exact A0.nil | refine A0.cons (by repeat (first | exact Pk.here | apply Pk.there)) ?_ | apply A0.drop))) ?_
 (dsimp only; exact ⟨B2.refl _, by omega, by omega, _, B5.of9 hk hnum ⟨by omega, by omega⟩ hty hfr hsl hkl, A1J hsm hfit.1.1 hfit.1.2.1 hfit.1.2.2.1, rfl⟩)
 refine sQ (qA rfl) rfl (sD (nS (cF rfl (tS (tR ?_)))))
 refine sB (qE rfl rfl) rfl rfl (fun h129 => ?_) (fun h129 => ?_)
 refine sQ (qA rfl) rfl (sD (nS (qT rfl (tR ?_))))
 refine H7 rfl ((A09 _)) rfl rfl ?_
 refine sQ (A9 rfl) rfl (H2 ?_)
 refine sD (O3 ?_)
 refine P1 ([.int .i64 k, .string nm, .int .i64 num, .int .i64 tk, .slice q1 tks.length c1, .int .i64 1, .slice none 0 0, .int .i64 lb, .slice q3 ks.length c3], p + 1, G2) (N7 (by repeat (first | exact E6.nil | refine E6.cons rfl ?_)) (by repeat (first | exact A0.refl | exact A0.nil | refine A0.cons (by repeat (first | exact Pk.here | apply Pk.there)) ?_ | apply A0.drop))) ?_
 (dsimp only; exact ⟨B2.refl _, by omega, by omega, _, B5.of9 hk hnum hlb hty (A1a _) hsl hkl, A1J hsm hfit.1.1 hfit.1.2.1 (by simp [Ty.small, Ty.smallL]), rfl⟩)
 refine sQ (qA rfl) rfl (sD (nS (cF rfl (tK (O3 ?_)))))
 refine P1 ([.int .i64 k, .string nm, .int .i64 num, .int .i64 tk, .slice q1 tks.length c1, .int .i64 fk, .slice q2 fks.length c2, .int .i64 lb, .slice q3 ks.length c3], p + 1, G2) (N7 (by repeat (first | exact E6.nil | refine E6.cons rfl ?_)) (by repeat (first | exact A0.refl | exact A0.nil | refine A0.cons (by repeat (first | exact Pk.here | apply Pk.there)) ?_ | apply A0.drop))) ?_
 (dsimp only; exact ⟨B2.refl _, by omega, by omega, _, B5.of9 hk hnum hlb hty hfr hsl hkl, A1J hsm hfit.1.1 hfit.1.2.1 hfit.1.2.2.1, rfl⟩)
 (rintro ⟨A0c, p9, G9⟩ ⟨hle9, hp9, hp9', t9, hr9, hs9, hc9⟩; simp only [] at hle9 hp9 hp9' hr9 hs9 hc9 ⊢; have hl9 := hr9.len; have ho9 := hr9.one)
 refine tS (tR ?_)
 refine sL (A6 rfl rfl (C8 (by repeat first | exact mH | apply mT)) hl9) rfl rfl ?_
 refine sS rfl rfl rfl hl9 ho9 rfl ?_ (hu := by exact I4 hl9.symm)
 refine sD (nS (tT ?_))
 refine C4 (outs := [rd br pb nb cb p9]) (rC rfl (A6 rfl rfl (C8 (by repeat first | exact mH | apply mT)) hl9)) (by repeat (first | exact A0.nil | refine A0.cons Pk.here ?_ | refine A0.cons (Pk.there Pk.here) ?_ | refine A0.cons (Pk.there (Pk.there Pk.here)) ?_ | apply A0.drop)) ?_
 (exact ⟨p9, by omega, by omega, rfl, t9, A0c, rfl, hr9, hs9, by omega⟩)
section slaw
variable {P : Program} {Γ : K0} {env : K3} {hp : List A4} {G : IM} {ty : TypeId} {K : Po} {ops : Array Oper} {rest : List Oper}
theorem St.slc_open {a : Act} {w : World} {p : Option Addr} {c el sz n : Nat} {cs : List Value} {hp' : List A4} (hs : St Γ ⟨env, hp, G⟩ a w) (hk : Pk hp (.slc p c el sz n cs) hp') (h0 : 0 < n) :
  ∃ b C, p = some ⟨b, 0, none⟩ ∧ n ≤ c ∧ c ≤ maxLen ∧ St Γ ⟨env, .blk b (cs ++ C) :: hp', G⟩ a w := by
 have hown : T0 [.slc p c el sz n cs] G w := hs.res.own.of_mem hk.perm
 obtain ⟨hl, h⟩ := hown.ok _ List.mem_cons_self
 rcases h with ⟨hv, hn⟩ | ⟨g, cap, cur, hv, _, hg, hnc, hcm, hsz, ht⟩
 ·omega
 ·cases hv
  refine ⟨g, cur.toList.drop cs.length, rfl, hnc, hcm, ?_⟩
  have hcur : cur.toList = cs ++ cur.toList.drop cs.length := by
   have e : cs.length = n * sz := hl
   rw [e]
   conv => lhs; rw [← List.take_append_drop (n * sz) cur.toList, ht]
  have hr : R7 [.slc (some ⟨g, 0, none⟩) c el sz n cs] G w [.blk g (cs ++ cur.toList.drop cs.length)] G w := by
   refine ⟨⟨hown.inn, ?_, by simp [Fp, A4.fp], ?_⟩, Ext.refl _ _, B2.refl _, fun _ _ h => .inl h, ?_, fun b l h h0 => absurd h (by rw [h0]; simp)⟩
   ·intro e he
    simp at he; subst he
    refine ⟨el, ?_⟩
    rw [← hcur]; simpa using hg
   ·intro b' hb; exact hown.disj b' (by simpa [Fp, A4.fp, I8] using hb)
   ·intro b' hb; exact .inr (by simpa [Fp, A4.fp, I8] using hb)
  exact ⟨hs.size, hs.nod, hs.env, by have := (hs.res.perm hk.perm).frame hr; simpa using this⟩
theorem A8A {p : Option Addr} {c el sz n : Nat} {cs : List Value} {hp' : List A4} (hk : Pk hp (.slc p c el sz n cs) hp') (h0 : 0 < n)
  (h : ∀ b C, p = some ⟨b, 0, none⟩ → n ≤ c → c ≤ maxLen → I3 P Γ ops rest K ⟨env, .blk b (cs ++ C) :: hp', G⟩) : I3 P Γ ops rest K ⟨env, hp, G⟩ :=
 ⟨fun a w hs => let ⟨b, C, h1, h2, h3, h4⟩ := hs.slc_open hk h0; (h b C h1 h2 h3).run a w h4⟩
end slaw
theorem B2R {es : List (List Value)} {j : Nat} {vs : List Value} (hj : j < es.length) : (es.set j vs).flatten = (es.take j).flatten ++ (vs ++ (es.drop (j + 1)).flatten) := by
 rw [List.set_eq_take_append_cons_drop, if_pos hj]; simp
theorem A8B {es : List (List Value)} {j : Nat} (hj : j < es.length) : es.flatten = (es.take j).flatten ++ (es[j] ++ (es.drop (j + 1)).flatten) := by
 have h := congrArg List.flatten (List.take_append_drop j es).symm
 rw [List.drop_eq_getElem_cons hj, List.flatten_append, List.flatten_cons] at h
 exact h
theorem A8C {es : List (List Value)} {C vs : List Value} {j sz : Nat} (hj : j < es.length) (ha : ∀ e ∈ es, e.length = sz) (hv : vs.length = sz) : U2 (es.flatten ++ C) (0 + j * sz) vs = some ((es.set j vs).flatten ++ C) := by
 have := A7C (A := (es.take j).flatten) (B := es[j]) (C := (es.drop (j + 1)).flatten ++ C) (V := vs) (o := 0 + j * sz)
  (by rw [A2v (fun e he => ha e (List.mem_of_mem_take he)), List.length_take]; rw [Nat.min_eq_left (by omega)]; omega) (by rw [ha _ (List.getElem_mem hj), hv])
 rw [A8B hj, B2R hj]
 simp only [List.append_assoc] at this ⊢
 exact this
theorem E5.set {G : IM} : ∀ {ks : List Tm} {es : List (List Value)} {j : Nat} {y : Tm} {v : List Value}, E5 G ks es → B5 G y v → E5 G (ks.set j y) (es.set j v)
 | [], es, j, y, v, h, h2 => by simp only [E5] at h; subst h; simp [E5]
 | t :: ts, es, 0, y, v, h, h2 => by
  simp only [E5] at h
  obtain ⟨a, r, rfl, h3, h4⟩ := h
  simp only [List.set_cons_zero, E5]
  exact ⟨v, r, rfl, h2, h4⟩
 | t :: ts, es, j + 1, y, v, h, h2 => by
  simp only [E5] at h
  obtain ⟨a, r, rfl, h3, h4⟩ := h
  simp only [List.set_cons_succ, E5]
  exact ⟨a, r.set j v, rfl, h3, E5.set h4 h2⟩
def A8D : Tm → List Int → Tm → Tm
 | _, [], x => x
 | .mk k nm num ty fr lb ks, i :: is, x => if h : 0 ≤ i ∧ i < ks.length then .mk k nm num ty fr lb (ks.set i.toNat (A8D (ks[i.toNat]'(by omega)) is x)) else .mk k nm num ty fr lb ks
theorem B2S (t : Ty) (G : IM) (cells : List Value) (B : Int) (hB : 0 ≤ B) (hr : B3 G t cells) :
  Fn Tryz.prog 197 [.agg ⟨cells⟩, .bool false] [] G (TyB B G) := by
 obtain ⟨q, d, es, rfl, _⟩ := hr.open
 refine B8 Tryz.func197 rfl Tryz.ntmps197 Tryz.results197 rfl ?_
 intro w0
 refine tS (tR ?_)
 refine sE (E7 rfl rfl) rfl (fun b3 => ?_)
 refine sE (A8 rfl) rfl (fun b4 => ?_)
 refine A0j ?_
 refine B4 (rC rfl (A2 rfl rfl)) (rT rfl) ?_
 (exact ⟨rfl, _, _, _, rfl, J6 _ ⟨by omega, by omega⟩, M8 (by omega) (by omega), by rw [Z5]; omega⟩)
theorem B2T (t : Ty) (G : IM) (cells : List Value) (B : Int) (hr : B3 G t cells) (ha : E4 t) (hs : F4 t ≤ B) :
  Fn Tryz.prog 197 [.agg ⟨cells⟩, .bool true] [] G (TyB B G) := by
 obtain ⟨q, d, es, rfl, _⟩ := hr.open
 refine B8 Tryz.func197 rfl Tryz.ntmps197 Tryz.results197 rfl ?_
 intro w0
 refine tS (tR ?_)
 refine sE (E7 rfl rfl) rfl (fun b3 => ?_)
 refine sE (A8 rfl) rfl (fun b4 => ?_)
 refine Y8 ?_
 refine B4 (rC rfl (A2 rfl rfl)) (rT rfl) ?_
 (exact ⟨rfl, _, _, _, rfl, hr, ha, hs⟩)
theorem B2U (t : Ty) (x : Bool) (G : IM) (cells : List Value) (B : Int) (hB : 0 ≤ B) (hr : B3 G t cells) (ha : E4 t) (hs : F4 t ≤ B) :
  Fn Tryz.prog 197 [.agg ⟨cells⟩, .bool x] [] G (TyB B G) := by
 cases x
 ·exact B2S t G cells B hB hr
 ·exact B2T t G cells B hr ha hs
def TyV (e : Tm) (G : IM) : IM → Value → List A4 → Prop := L7 fun G' v => ∃ t cells b, v = .tuple ⟨[.agg ⟨cells⟩, .bool b]⟩ ∧ B3 G' t cells ∧ E4 t ∧ F4 t ≤ 960 ∧ (b = true → T7 e = true)
theorem B2V (e : Tm) (G : IM) (cells : List Value) (hcnt : C3 e ≤ 4294967296) (hr : B5 G e cells) :
  Fn Tryz.prog 176 [.slice none 0 0, .agg ⟨cells⟩] [] G (TyV e G) := by
 have hl := hr.len
 have hone := hr.one
 have hw := A5T e G cells hcnt hr
 have hT := fun h : T7 e = true => A8z e 1 G none 0 0 cells ((A1X e).1 h).1 (by omega) (T8.nil G) hr
 have hc := fun h : T7 e = true => ((A1X e).1 h).2
 refine B8 Tryz.func176 rfl Tryz.ntmps176 Tryz.results176 rfl ?_
 intro w0
 refine tS (tR ?_)
 refine sE (E7 rfl rfl) rfl (fun b3 => ?_)
 refine sE (A8 rfl) rfl (fun b4 => ?_)
 refine B7 ?_
 refine H7 rfl ((A8v _)) rfl rfl ?_
 refine sQ (Y7 rfl) rfl (sQ (qM rfl) rfl ?_)
 refine sL (A6 rfl rfl (C8 (by repeat first | exact mH | apply mT)) (by assumption)) rfl rfl ?_
 refine J4 rfl (hw) rfl rfl (fun h16 => ?_) (fun h16 => ?_)
 refine M2 ?_
 refine sL (A6 rfl rfl (C8 (by repeat first | exact mH | apply mT)) (by assumption)) rfl rfl ?_
 (refine D9 rfl (hT (by assumption)) rfl rfl (fun v G1 hle1 hh => ?_); obtain ⟨mt, mc, mx, rfl, hmr, hma, hms⟩ := hh; obtain ⟨p1, c1, e1, rfl, _⟩ := hmr.open; have hcc := hc (by assumption))
 refine sQ (pX rfl rfl) rfl (sQ (pX rfl rfl) rfl ?_)
 (refine D9 rfl (B2U mt mx _ _ 960 (by omega) hmr hma (by omega)) rfl rfl (fun v G2 hle2 hh => ?_); obtain ⟨mt2, mc2, mx2, rfl, hmr2, hma2, hms2⟩ := hh; obtain ⟨p2, c2, e2, rfl, _⟩ := hmr2.open)
 refine B7 ?_
 refine B4 (rC rfl (A2 rfl rfl)) (rT rfl) ?_
 (exact ⟨rfl, _, _, _, rfl, hmr2, hma2, hms2, fun _ => by assumption⟩)
 refine O8 ?_
 refine B4 (rC rfl (A2 rfl rfl)) (rT rfl) ?_
 (exact ⟨rfl, _, _, _, rfl, J6 _ ⟨by omega, by omega⟩, M8 (by omega) (by omega), by rw [Z5]; omega, fun h => absurd h (by decide)⟩)
theorem A8E (e : Tm) (G : IM) (cells : List Value) (hcnt : C3 e ≤ 4294967296) (hr : B5 G e cells) :
  Fn Tryz.prog 112 [.agg ⟨cells⟩] [] G (TyV e G) := by
 have hl := hr.len
 have hone := hr.one
 refine B8 Tryz.func112 rfl Tryz.ntmps112 Tryz.results112 rfl ?_
 intro w0
 refine tS (tR ?_)
 refine sE (E7 rfl rfl) rfl (fun b3 => ?_)
 refine sE (A8 rfl) rfl (fun b4 => ?_)
 refine sQ (qA rfl) rfl (sD (nS (tS (tR ?_))))
 refine sL (A6 rfl rfl (C8 (by repeat first | exact mH | apply mT)) (by assumption)) rfl rfl ?_
 (refine D9 rfl (B2V e G cells hcnt hr) rfl rfl (fun v G1 hle1 hh => ?_); obtain ⟨mt, mc, mx, rfl, hmr, hma, hms, hmv⟩ := hh; obtain ⟨p1, c1, e1, rfl, _⟩ := hmr.open)
 refine B7 ?_
 refine B4 (rC rfl (A2 rfl rfl)) (rT rfl) ?_
 (exact ⟨rfl, _, _, _, rfl, hmr, hma, hms, hmv⟩)
theorem A2B {G : IM} {e : Tm} {ce : List Value} {p : Option Addr} {c : Nat} (hr : B5 G e ce) (hs : Sl G p 1 c 9 ce) : D5 G p [e].length c 9 [ce] ∧ E5 G [e] [ce] := by
 refine ⟨D5.of (by simpa using hs) rfl (fun x hx => by simp only [List.mem_singleton] at hx; subst hx; exact hr.len) (fun x hx => by simp only [List.mem_singleton] at hx; subst hx; exact hr.one), ?_⟩
 simp only [E5]
 exact ⟨ce, [], rfl, hr, rfl⟩
def B2W (e : Tm) (label : Int) (G : IM) : IM → Value → List A4 → Prop := L7 fun G' v => ∃ u cu l', v = .tuple ⟨[.agg ⟨cu⟩, .int .i64 l']⟩ ∧ B5 G' u cu ∧ (e.small → u.small) ∧ C3 u ≤ C3 e + 1 ∧ label ≤ l' ∧ l' ≤ label + 1
theorem A3L (e : Tm) (a b : Ty) (label : Int) (G : IM) (ce ca cb : List Value) (hlab : -1099511627776 ≤ label ∧ label ≤ 1099511627776) (hr : B5 G e ce) (hra : B3 G a ca) (hrb : B3 G b cb) (ha : E4 a) (hb : E4 b) :
  Fn Tryz.prog 146 [.agg ⟨ce⟩, .agg ⟨ca⟩, .agg ⟨cb⟩, .int .i64 label] [] G (B2W e label G) := by
 have hl := hr.len
 have hone := hr.one
 obtain ⟨hlab1, hlab2⟩ := hlab
 have hsa := ha.small
 have hsb := hb.small
 have hSame := B2L a b G ca cb hra hrb
 obtain ⟨ak, aks⟩ := a
 obtain ⟨bk, bks⟩ := b
 obtain ⟨pa, cca, ea, rfl, _⟩ := hra.open
 obtain ⟨pb, ccb, eb, rfl, _⟩ := hrb.open
 simp only [Ty.k, Ty.ks] at hra hrb hSame ⊢
 obtain ⟨v1, v2, v3, v4, v5, v6, v7, v8, v9, rfl⟩ : ∃ v1 v2 v3 v4 v5 v6 v7 v8 v9, ce = [v1, v2, v3, v4, v5, v6, v7, v8, v9] := (by obtain ⟨_, _, _, _, _, _, _, _, _, rfl, _⟩ := hr.open; exact ⟨_, _, _, _, _, _, _, _, _, rfl⟩)
 refine B8 Tryz.func146 rfl Tryz.ntmps146 Tryz.results146 rfl ?_
 intro w0
 refine tS (tR ?_)
 refine sE (E7 rfl rfl) rfl (fun b3 => ?_)
 refine sE (E7 rfl rfl) rfl (fun b4 => ?_)
 refine sE (E7 rfl rfl) rfl (fun b5 => ?_)
 refine sE (A8 rfl) rfl (fun b6 => ?_)
 refine F8 ?_
 (refine A5C rfl hSame rfl rfl (fun v Go outs hle hh => ?_); obtain ⟨rfl, ⟨x, rfl⟩, rfl⟩ := hh; cases x)
 refine sD (nS (cF rfl (tK (nS (tS ?_)))))
 refine D3 D4 rfl ?_
 refine S3 (i := 5) (l' := [ff,ff,ff,ff,ff,tt,ff,ff,ff,ff,ff,ff]) rfl C5 (A6 rfl rfl (C8 (by repeat first | exact mH | apply mT)) hl) rfl (by kernel_rfl) rfl rfl ?_
 refine aL 0 rfl (A2 rfl rfl) rfl ?_
 refine aL 2 rfl (A2 rfl rfl) rfl ?_
 refine aP 4 rfl (qM rfl) rfl ?_
 refine aP 8 rfl (qM rfl) rfl ?_
 refine aP 9 rfl (N0 rfl rfl (by omega) (by omega)) rfl ?_
 refine Y5 (j := 1) (j' := 6) (by kernel_rfl) ?_ ?_
 (refine M6 rfl rfl (R4 _ _ _ hsa hra) rfl rfl rfl (fun v G1 hle1 hh => ?_); obtain ⟨Q0, F1, rfl, hs1, hn1⟩ := hh; obtain ⟨p1, c1, rfl, _⟩ := hs1.open; have hC2 := R4 _ G1 _ hsb (hrb.mono hle1))
 refine Y5 (j := 3) (j' := 6) (by kernel_rfl) ?_ ?_
 (refine M6 rfl rfl hC2 rfl rfl rfl (fun v G2 hle2 hh => ?_); obtain ⟨cs2, F2, rfl, hs2, hn2⟩ := hh; obtain ⟨p2, c2, rfl, _⟩ := hs2.open; have hr1 := hs1.R.mono ((B6.le G1 _).trans hle2); have hr2 := hs2.R.mono (B6.le G2 G1); have hre := hr.mono (hle1.trans hle2))
 refine A1 6 ?_
 (refine I7 rfl (D1 rfl rfl rfl (by omega) (by unfold maxLen; omega) rfl) rfl rfl ?_; rintro _ ⟨b34, rfl⟩)
 refine aP 7 rfl (P6 rfl rfl) rfl ?_
 refine A1 10 ?_
 refine K6 rfl rfl rfl rfl rfl rfl rfl rfl (by kernel_rfl) (by repeat first | exact Sw.here | apply Sw.there) (by rfl) ?_
 refine aP 11 rfl (qA rfl) rfl ?_
 refine D8 (nS ?_)
 (refine L4 (cs := [v1, v2, v3, v4, v5, v6, v7, v8, v9]) (by repeat (first | exact Pk.here | apply Pk.there)) (fun G5 hle5 hsl5 hno5 => ?_); obtain ⟨hone1, hone2⟩ := A2B (hre.mono hle5) hsl5)
 refine tT ?_
 refine B4 (rC rfl (A2 rfl rfl)) (rT rfl) ?_
 (refine ⟨rfl, _, _, _, rfl, B5.of9 (ks := [e]) ⟨by omega, by omega⟩ ⟨by omega, by omega⟩ ⟨by omega, by omega⟩ (hr2.mono hle5) (hr1.mono hle5) hone1 hone2, fun h => ?_, ?_, by omega, by omega⟩; (try (simp only [Tm.small, Tm.smallL, ByteArray.size]; exact ⟨by simp, hsb, hsa, by simp, h, trivial⟩)); (try (simp only [C3, C9]; omega)))
 (refine I7 rfl (D1 rfl rfl rfl (by omega) (by unfold maxLen; omega) rfl) rfl rfl ?_; rintro _ ⟨b45, rfl⟩)
 refine A1 3 ?_
 (refine M6 rfl rfl hC2 rfl rfl rfl (fun v G2 hle2 hh => ?_); obtain ⟨cs2, F2, rfl, hs2, hn2⟩ := hh; obtain ⟨p2, c2, rfl, _⟩ := hs2.open; have hr1 := hs1.R.mono ((B6.le G1 _).trans hle2); have hr2 := hs2.R.mono (B6.le G2 G1); have hre := hr.mono (hle1.trans hle2))
 refine aP 7 rfl (P6 rfl rfl) rfl ?_
 refine A1 10 ?_
 refine K6 rfl rfl rfl rfl rfl rfl rfl rfl (by kernel_rfl) (by repeat first | exact Sw.here | apply Sw.there) (by rfl) ?_
 refine aP 11 rfl (qA rfl) rfl ?_
 refine D8 (nS ?_)
 (refine L4 (cs := [v1, v2, v3, v4, v5, v6, v7, v8, v9]) (by repeat (first | exact Pk.here | apply Pk.there)) (fun G5 hle5 hsl5 hno5 => ?_); obtain ⟨hone1, hone2⟩ := A2B (hre.mono hle5) hsl5)
 refine tT ?_
 refine B4 (rC rfl (A2 rfl rfl)) (rT rfl) ?_
 (refine ⟨rfl, _, _, _, rfl, B5.of9 (ks := [e]) ⟨by omega, by omega⟩ ⟨by omega, by omega⟩ ⟨by omega, by omega⟩ (hr2.mono hle5) (hr1.mono hle5) hone1 hone2, fun h => ?_, ?_, by omega, by omega⟩; (try (simp only [Tm.small, Tm.smallL, ByteArray.size]; exact ⟨by simp, hsb, hsa, by simp, h, trivial⟩)); (try (simp only [C3, C9]; omega)))
 (refine I7 rfl (D1 rfl rfl rfl (by omega) (by unfold maxLen; omega) rfl) rfl rfl ?_; rintro _ ⟨b58, rfl⟩)
 refine A1 1 ?_
 (refine M6 rfl rfl (R4 _ _ _ hsa hra) rfl rfl rfl (fun v G1 hle1 hh => ?_); obtain ⟨Q0, F1, rfl, hs1, hn1⟩ := hh; obtain ⟨p1, c1, rfl, _⟩ := hs1.open; have hC2 := R4 _ G1 _ hsb (hrb.mono hle1))
 refine A1 3 ?_
 (refine M6 rfl rfl hC2 rfl rfl rfl (fun v G2 hle2 hh => ?_); obtain ⟨cs2, F2, rfl, hs2, hn2⟩ := hh; obtain ⟨p2, c2, rfl, _⟩ := hs2.open; have hr1 := hs1.R.mono ((B6.le G1 _).trans hle2); have hr2 := hs2.R.mono (B6.le G2 G1); have hre := hr.mono (hle1.trans hle2))
 refine aP 7 rfl (P6 rfl rfl) rfl ?_
 refine A1 10 ?_
 refine K6 rfl rfl rfl rfl rfl rfl rfl rfl (by kernel_rfl) (by repeat first | exact Sw.here | apply Sw.there) (by rfl) ?_
 refine aP 11 rfl (qA rfl) rfl ?_
 refine D8 (nS ?_)
 (refine L4 (cs := [v1, v2, v3, v4, v5, v6, v7, v8, v9]) (by repeat (first | exact Pk.here | apply Pk.there)) (fun G5 hle5 hsl5 hno5 => ?_); obtain ⟨hone1, hone2⟩ := A2B (hre.mono hle5) hsl5)
 refine tT ?_
 refine B4 (rC rfl (A2 rfl rfl)) (rT rfl) ?_
 (refine ⟨rfl, _, _, _, rfl, B5.of9 (ks := [e]) ⟨by omega, by omega⟩ ⟨by omega, by omega⟩ ⟨by omega, by omega⟩ (hr2.mono hle5) (hr1.mono hle5) hone1 hone2, fun h => ?_, ?_, by omega, by omega⟩; (try (simp only [Tm.small, Tm.smallL, ByteArray.size]; exact ⟨by simp, hsb, hsa, by simp, h, trivial⟩)); (try (simp only [C3, C9]; omega)))
 refine sD (nS (qT rfl (tS (tR ?_))))
 refine sL (A6 rfl rfl (C8 (by repeat first | exact mH | apply mT)) hl) rfl rfl ?_
 refine sQ (qM rfl) rfl ?_
 refine sS rfl rfl rfl hl hone rfl ?_ (hu := by exact I4 hl.symm)
 refine sQ (qA rfl) rfl (sD (nS (tT (rS ?_))))
 refine B4 (rC rfl (A6 rfl rfl (C8 (by repeat first | exact mH | apply mT)) hl)) (rT rfl) ?_
 (exact ⟨rfl, e, _, _, rfl, hr, fun h => h, by omega, by omega, by omega⟩)
def X5 (n : Nat) (G : IM) : IM → Value → List A4 → Prop := L7 fun G' v => ∃ p c es ws, v = .slice p n c ∧ ws.length = n ∧ D5 G' p n c 2 es ∧ E1 G' ws es ∧ ∀ w ∈ ws, E4 w
theorem X5.mk {G G' : IM} {p : Option Addr} {n c : Nat} {ws : List Ty} {es : List (List Value)} (hl : ws.length = n) (hs : Sl G' p n c 2 es.flatten) (hst : E1 G' ws es) (ha : ∀ w ∈ ws, E4 w) : X5 n G G' (.slice p n c) [] :=
 ⟨rfl, p, c, es, ws, rfl, hl, D5.of hs (by rw [hst.len, hl]) hst.all (fun e he => (hst.each e he).2), hst, ha⟩
theorem X5.mk1 {G G' : IM} {p : Option Addr} {n c : Nat} {a : Ty} {ca : List Value} (hn : n = 1) (hs : Sl G' p 1 c 2 ca) (ha : B3 G' a ca) (h1 : E4 a) : X5 n G G' (.slice p 1 c) [] := by
 subst hn
 exact X5.mk (ws := [a]) (es := [ca]) rfl (by simpa using hs) ⟨_, _, rfl, ha, rfl⟩ (by simp [h1])
theorem X5.mk2 {G G' : IM} {p : Option Addr} {n c : Nat} {a b : Ty} {ca cb : List Value} (hn : n = 2) (hs : Sl G' p 2 c 2 (ca ++ cb)) (ha : B3 G' a ca) (hb : B3 G' b cb) (h1 : E4 a) (h2 : E4 b) : X5 n G G' (.slice p 2 c) [] := by
 subst hn
 exact X5.mk (ws := [a, b]) (es := [ca, cb]) rfl (by simpa using hs) ⟨_, _, rfl, ha, _, _, rfl, hb, rfl⟩ (by simp [h1, h2])
theorem X5.mk3 {G G' : IM} {p : Option Addr} {n c : Nat} {a b d : Ty} {ca cb cd : List Value} (hn : n = 3) (hs : Sl G' p 3 c 2 (ca ++ (cb ++ cd))) (ha : B3 G' a ca) (hb : B3 G' b cb) (hd : B3 G' d cd) (h1 : E4 a) (h2 : E4 b) (h3 : E4 d) : X5 n G G' (.slice p 3 c) [] := by
 subst hn
 exact X5.mk (ws := [a, b, d]) (es := [ca, cb, cd]) rfl (by simpa using hs) ⟨_, _, rfl, ha, _, _, rfl, hb, _, _, rfl, hd, rfl⟩ (by simp [h1, h2, h3])
theorem B2X (k : Int) (nm : ByteArray) (num : Int) (ty fr : Ty) (lb : Int) (ks : List Tm) (ts : List Ty) (t : Ty) (G : IM) (cells tcells : List Value) (p : Option Addr) (c : Nat) (es : List (List Value))
  (hops : H6 k = ts.length) (hr : B5 G (.mk k nm num ty fr lb ks) cells) (hsl : D5 G p ts.length c 2 es) (hkl : E1 G ts es) (har : ∀ t ∈ ts, E4 t) (hrt : B3 G t tcells) (hat : E4 t) :
  Fn Tryz.prog 209 [.agg ⟨cells⟩, .slice p ts.length c, .agg ⟨tcells⟩] [] G (X5 ts.length G) := by
 have hone := hr.one
 have hop := A13 hops
 have ha0 := fun h : 0 < ts.length => har _ (List.getElem_mem h)
 obtain ⟨tyk, tyks⟩ := ty
 obtain ⟨fk, fks⟩ := fr
 obtain ⟨tk, tks⟩ := t
 obtain ⟨q9, d9, e9, rfl, _⟩ := hrt.open
 obtain ⟨pt, ct, pf, cf, pk, ck, ek, rfl, hk, hnum, hlb, hrty, hrfr, _, _⟩ := hr.open9
 refine B8 Tryz.func209 rfl Tryz.ntmps209 Tryz.results209 rfl ?_
 intro w0
 refine tS (tR ?_)
 refine sE (E7 rfl rfl) rfl (fun b3 => ?_)
 refine sE (E7 rfl rfl) rfl (fun b4 => ?_)
 refine M2 ?_
 refine C6 (tS (tR (sB (qE rfl rfl) rfl rfl (fun h18 => ?_) (fun h18 => ?_))))
 refine B7 ?_
 (have hl2 : ts.length = 2 := hop.1 (by omega); obtain ⟨b0, o0, q0, d0, hp0, hat0, hre0, hg0⟩ := hsl.kidTy hkl (i := 0) (by omega) (by omega); cases hp0; refine sP (D0 (j := 0) rfl rfl rfl (by omega)) rfl rfl ?_)
 refine sL (A6 rfl rfl (hat0 _) rfl) rfl rfl ?_
 (refine D9 rfl (A21 4 ts[0] G _ (.inl rfl) (ha0 (by omega)) hre0) rfl rfl (fun v G1 hle1 hh => ?_); obtain ⟨ma, mca, mb, mcb, mx, rfl, hma, hma2, hma3, hmb, hmb2, hmb3⟩ := hh; obtain ⟨p1, c1, e1, rfl, _⟩ := hma.open; obtain ⟨p2, c2, e2, rfl, _⟩ := hmb.open; have hTwo := A2A 4 ma mb G1 _ _ (.inl rfl) hma2 hmb2 hma hmb)
 refine H9 ?_
 refine sE (A8 rfl) rfl (fun b33 => ?_)
 refine sE (A8 rfl) rfl (fun b34 => ?_)
 refine C7 ?_
 (refine D9 rfl hTwo rfl rfl (fun v G2 hle2 hh => ?_); obtain ⟨mt, mc, mx2, rfl, hmr, hmta, hms⟩ := hh; obtain ⟨p3, c3, e3, rfl, _⟩ := hmr.open; have hma4 := hma.mono hle2)
 refine H0 ?_
 refine sE (A8 rfl) rfl (fun b48 => ?_)
 refine F8 ?_
 (refine D7 (D1 rfl rfl rfl (by omega) (by unfold maxLen; omega) rfl) rfl ?_; rintro _ ⟨b57, rfl⟩)
 refine sQ (qA rfl) rfl (sD (nS ?_))
 (refine L4 (by repeat (first | exact Pk.here | apply Pk.there)) (fun G5 hle5 hsl5 hno5 => ?_))
 refine tT (rB (rS (E9 (rT rfl) ?_)))
 (exact X5.mk2 (hop.1 (by omega)) hsl5 (hmr.mono hle5) (hma4.mono hle5) hmta hma2)
 refine sQ (qA rfl) rfl (sD (nS (cF rfl (tS (tS (tR ?_))))))
 refine sB (qE rfl rfl) rfl rfl (fun h74 => ?_) (fun h74 => ?_)
 refine C7 ?_
 refine H7 rfl ((U6 _)) rfl rfl ?_
 refine H7 rfl ((U6 _)) rfl rfl ?_
 (refine D7 (D1 rfl rfl rfl (by omega) (by unfold maxLen; omega) rfl) rfl ?_; rintro _ ⟨b86, rfl⟩)
 refine sQ (qA rfl) rfl (sD (nS ?_))
 (refine L4 (by repeat (first | exact Pk.here | apply Pk.there)) (fun G5 hle5 hsl5 hno5 => ?_))
 refine tT (rB (rS (E9 (rT rfl) ?_)))
 (exact X5.mk2 (hop.1 (by omega)) hsl5 (J6 _ ⟨by omega, by omega⟩) (J6 _ ⟨by omega, by omega⟩) (M8 (by omega) (by omega)) (M8 (by omega) (by omega)))
 refine sQ (qA rfl) rfl (sD (nS (cF rfl (tR ?_))))
 refine sB (qE rfl rfl) rfl rfl (fun h101 => ?_) (fun h101 => ?_)
 refine sQ (qA rfl) rfl (sD (nS (qT rfl (tS (tR ?_)))))
 refine H7 rfl ((U6 _)) rfl rfl ?_
 refine H7 rfl ((U6 _)) rfl rfl ?_
 (refine D7 (D1 rfl rfl rfl (by omega) (by unfold maxLen; omega) rfl) rfl ?_; rintro _ ⟨b110, rfl⟩)
 refine sQ (qA rfl) rfl (sD (nS ?_))
 (refine L4 (by repeat (first | exact Pk.here | apply Pk.there)) (fun G5 hle5 hsl5 hno5 => ?_))
 refine tT (rB (rS (E9 (rT rfl) ?_)))
 (exact X5.mk2 (hop.1 (by omega)) hsl5 (J6 _ ⟨by omega, by omega⟩) (J6 _ ⟨by omega, by omega⟩) (M8 (by omega) (by omega)) (M8 (by omega) (by omega)))
 refine sQ (qA rfl) rfl (sD (nS (cF rfl (tS (tR ?_)))))
 refine sB (qE rfl rfl) rfl rfl (fun h126 => ?_) (fun h126 => ?_)
 refine sQ (qA rfl) rfl (sD (nS (qT rfl (tS ?_))))
 refine D3 D4 rfl ?_
 refine S3 (i := 1) (l' := [ff,tt,ff,ff,ff]) rfl C5 (A2 rfl rfl) rfl (by kernel_rfl) rfl rfl ?_
 refine aL 2 rfl (A2 rfl rfl) rfl ?_
 refine A1 0 ?_
 refine I1 rfl rfl ((A1c _)) rfl rfl rfl ?_
 refine A1 3 ?_
 (refine I7 rfl (D1 rfl rfl rfl (by omega) (by unfold maxLen; omega) rfl) rfl rfl ?_; rintro _ ⟨b138, rfl⟩)
 refine aP 4 rfl (qA rfl) rfl ?_
 refine D8 (nS ?_)
 (refine L4 (by repeat (first | exact Pk.here | apply Pk.there)) (fun G5 hle5 hsl5 hno5 => ?_))
 refine tT (rB (rS (E9 (rT rfl) ?_)))
 (exact X5.mk3 (hop.2.1 (by omega)) hsl5 (J6 _ ⟨by omega, by omega⟩) (hrt.mono hle5) (hrt.mono hle5) (M8 (by omega) (by omega)) hat hat)
 refine sQ (qA rfl) rfl (sD (nS (cF rfl (tS (tS (tR ?_))))))
 refine sB (qE rfl rfl) rfl rfl (fun h155 => ?_) (fun h155 => ?_)
 refine M2 ?_
 (have hl1 : ts.length = 1 := hop.2.2 (by omega); obtain ⟨b0, o0, q0, d0, hp0, hat0, hre0, hg0⟩ := hsl.kidTy hkl (i := 0) (by omega) (by omega); cases hp0; refine sP (D0 (j := 0) rfl rfl rfl (by omega)) rfl rfl ?_)
 refine sL (A6 rfl rfl (hat0 _) rfl) rfl rfl ?_
 (refine D9 rfl (A21 5 ts[0] G _ (.inr rfl) (ha0 (by omega)) hre0) rfl rfl (fun v G1 hle1 hh => ?_); obtain ⟨ma, mca, mb, mcb, mx, rfl, hma, hma2, hma3, hmb, hmb2, hmb3⟩ := hh; obtain ⟨p1, c1, e1, rfl, _⟩ := hma.open; obtain ⟨p2, c2, e2, rfl, _⟩ := hmb.open; have hTwo := A2A 5 ma mb G1 _ _ (.inr rfl) hma2 hmb2 hma hmb)
 refine H9 ?_
 refine sE (A8 rfl) rfl (fun b173 => ?_)
 refine sE (A8 rfl) rfl (fun b174 => ?_)
 refine C7 ?_
 (refine D9 rfl hTwo rfl rfl (fun v G2 hle2 hh => ?_); obtain ⟨mt, mc, mx2, rfl, hmr, hmta, hms⟩ := hh; obtain ⟨p3, c3, e3, rfl, _⟩ := hmr.open; have hma4 := hma.mono hle2)
 refine H0 ?_
 refine sE (A8 rfl) rfl (fun b188 => ?_)
 refine B7 ?_
 (refine D7 (D1 rfl rfl rfl (by omega) (by unfold maxLen; omega) rfl) rfl ?_; rintro _ ⟨b196, rfl⟩)
 refine sQ (qA rfl) rfl (sD (nS ?_))
 (refine L4 (by repeat (first | exact Pk.here | apply Pk.there)) (fun G5 hle5 hsl5 hno5 => ?_))
 refine tT (rB (rS (E9 (rT rfl) ?_)))
 (exact X5.mk1 (hop.2.2 (by omega)) hsl5 (hmr.mono hle5) hmta)
 refine sQ (qA rfl) rfl (sD (nS (cF rfl (tR ?_))))
 refine sB (qE rfl rfl) rfl rfl (fun h211 => ?_) (fun h211 => ?_)
 refine B7 ?_
 (have hl1 : ts.length = 1 := hop.2.2 (by omega); obtain ⟨b0, o0, q0, d0, hp0, hat0, hre0, hg0⟩ := hsl.kidTy hkl (i := 0) (by omega) (by omega); cases hp0; refine sP (D0 (j := 0) rfl rfl rfl (by omega)) rfl rfl ?_)
 refine sL (A6 rfl rfl (hat0 _) rfl) rfl rfl ?_
 (refine D9 rfl (A21 5 ts[0] G _ (.inr rfl) (ha0 (by omega)) hre0) rfl rfl (fun v G1 hle1 hh => ?_); obtain ⟨ma, mca, mb, mcb, mx, rfl, hma, hma2, hma3, hmb, hmb2, hmb3⟩ := hh; obtain ⟨p1, c1, e1, rfl, _⟩ := hma.open; obtain ⟨p2, c2, e2, rfl, _⟩ := hmb.open; have hTwo := A2A 5 ma mb G1 _ _ (.inr rfl) hma2 hmb2 hma hmb)
 refine H9 ?_
 refine sE (A8 rfl) rfl (fun b226 => ?_)
 refine sE (A8 rfl) rfl (fun b227 => ?_)
 refine C7 ?_
 (refine D9 rfl hTwo rfl rfl (fun v G2 hle2 hh => ?_); obtain ⟨mt, mc, mx2, rfl, hmr, hmta, hms⟩ := hh; obtain ⟨p3, c3, e3, rfl, _⟩ := hmr.open; have hma4 := hma.mono hle2)
 refine H0 ?_
 refine sE (A8 rfl) rfl (fun b241 => ?_)
 refine B7 ?_
 (refine D7 (D1 rfl rfl rfl (by omega) (by unfold maxLen; omega) rfl) rfl ?_; rintro _ ⟨b249, rfl⟩)
 refine sQ (qA rfl) rfl (sD (nS ?_))
 (refine L4 (by repeat (first | exact Pk.here | apply Pk.there)) (fun G5 hle5 hsl5 hno5 => ?_))
 refine tT (rB (rS (E9 (rT rfl) ?_)))
 (exact X5.mk1 (hop.2.2 (by omega)) hsl5 (hmr.mono hle5) hmta)
 refine sQ (qA rfl) rfl (sD (nS (cF rfl (tS (tR ?_)))))
 refine sB (qE rfl rfl) rfl rfl (fun h265 => ?_) (fun h265 => ?_)
 refine B7 ?_
 (refine D7 (D1 rfl rfl rfl (by omega) (by unfold maxLen; omega) rfl) rfl ?_; rintro _ ⟨b273, rfl⟩)
 refine sQ (qA rfl) rfl (sD (nS ?_))
 (refine L4 (by repeat (first | exact Pk.here | apply Pk.there)) (fun G5 hle5 hsl5 hno5 => ?_))
 refine tT (rB (rS (E9 (rT rfl) ?_)))
 (exact X5.mk1 (hop.2.2 (by omega)) hsl5 (hrt.mono hle5) hat)
 refine M3 ?_
 (exact X5.mk rfl hsl.sl hkl har)
end Gw
end Go.Proofs.YtgodjiieijekiaaGreatDoor
