/-
  The program's code of a closed bare term.
-/
import Derived.Test.YtgodjiieijekiaaGreatDoorKb6
import Derived.Test.YtgodjiieijekiaaGreatDoorKb3
import Derived.Test.YtgodjiieijekiaaGreatDoorKb4
import Derived.Test.YtgodjiieijekiaaGreatDoorKb5
import Derived.Test.YtgodjiieijekiaaGreatDoorKb1
import Derived.Test.YtgodjiieijekiaaGreatDoorKb2
set_option linter.unusedVariables false
set_option linter.unusedSimpArgs false
set_option maxHeartbeats 0
set_option maxRecDepth 100000
set_option synthInstance.maxSize 4000
set_option synthInstance.maxHeartbeats 0
namespace Go.Proofs.YtgodjiieijekiaaGreatDoor
open Go Go.RowKit
namespace Gw
def A0f (B : Nat) (ops : J0) : IM → Value → List A4 → Prop := fun _ v outs => ∃ p n c x, v = .slice p n c ∧ outs = [.slc p c 72 2 n x] ∧ P8 x n ops ∧ 1 ≤ n ∧ n ≤ B
theorem A0f.mk {G : IM} {B n c : Nat} {p : Option Addr} {x : List Value} {ops ops' : J0} (h : P8 x n ops') (h0 : ops' = ops) (h1 : 1 ≤ n) (h2 : n ≤ B) : A0f B ops G (.slice p n c) [.slc p c 72 2 n x] := by
 subst h0; exact ⟨p, n, c, x, rfl, rfl, h, h1, h2⟩
theorem B0M {f : FuncId} {args : List Value} {G : IM} {B : Nat} {ops : J0} (h : Fn Tryz.prog f args [] G (A0f B ops)) : Fn Tryz.prog f args [] G (I9 fun G' v => ∃ p c, v = .slice p ops.length c ∧ T0 G' ops p ops.length c) :=
 h.frz (fun G' v => ∃ p c, v = .slice p ops.length c ∧ T0 G' ops p ops.length c) (fun G' v outs hh => by
  obtain ⟨p, n, c, x, rfl, rfl, he, h1, h2⟩ := hh
  obtain rfl : n = ops.length := he.1
  exact .inr ⟨p, c, _, _, _, _, rfl, fun G'' hle hs => ⟨p, c, rfl, he.r hs⟩⟩)
theorem Z2.snoc {G : IM} : ∀ {ls : List J0} {vs : List Value} {l : J0} {p : Option Addr} {c : Nat}, Z2 G ls vs → T0 G l p l.length c → Z2 G (ls ++ [l]) (vs ++ [.slice p l.length c])
 | [], vs, l, p, c, h, h2 => by rw [show vs = [] from h]; exact ⟨p, c, [], rfl, h2, rfl⟩
 | l' :: ls, vs, l, p, c, ⟨p', c', r, h1, h2, h3⟩, h4 => ⟨p', c', r ++ [.slice p l.length c], by rw [h1]; rfl, h2, h3.snoc h4⟩
theorem B55 {ks : List Tm} {i : Nat} (h : i < ks.length) : E6 ks[i] ≤ I2 ks := by
 have h1 := A0v ks (i + 1)
 rw [A0u h] at h1
 omega
theorem B0N (cs : List J0) : (cs.getD 0 []).length + (cs.getD 1 []).length + (cs.getD 2 []).length ≤ cs.flatten.length := by
 match cs with
 | [] => simp
 | [a] => simp
 | [a, b] => simp
 | a :: b :: c :: r => simp; omega
theorem B56 (n : List ByteArray) (k : Int) (nm : ByteArray) (num : Int) (cs : List J0) : (N7 n k nm num cs).length ≤ cs.flatten.length + 2 := by
 have h3 := B0N cs
 unfold N7
 repeat' split
 all_goals simp only [List.length_cons, List.length_append, List.length_nil]
 all_goals omega
mutual
theorem B57 : ∀ (t : Tm) (n : List ByteArray), (H2 n t).length ≤ 2 * E6 t
 | .mk k nm num ty fr lb ks, n => by
  rw [H2, E6]
  have h1 := B56 n k nm num (A0Y (if k = 5 then nm :: n else n) ks)
  have h2 := A65 ks (if k = 5 then nm :: n else n)
  omega
theorem A65 : ∀ (ts : List Tm) (n : List ByteArray), (A0Y n ts).flatten.length ≤ 2 * I2 ts
 | [], n => by rw [A0Y]; simp
 | t :: ts, n => by
  rw [A0Y, I2, List.flatten_cons, List.length_append]
  have h1 := B57 t n
  have h2 := A65 ts n
  omega
end
theorem B58 : ∀ (t : Tm) (d : Int) (ns : List ByteArray) (G : IM) (cells : List Value), M1 40 13 t d = true → A2F ns → R8 ns t → ns.length + E6 t ≤ 1000 → B1 G t cells →
  Fn Tryz.prog 62 [.agg ⟨cells⟩, .string (X6 ns)] [] G (A0f (2 * E6 t) (H2 ns t)) := by
 refine Tm.ind fun k nm num ty fr lb ks ih d ns G cells hv ho hcl0 hb hr => ?_
 obtain ⟨hv1, hv2, hv3, hv4⟩ := V7 hv
 have hvk := (A0B 40 13 ks _).1 hv4
 obtain ⟨hops, hnmo, _⟩ := U9.1 hv3
 have hnmS := fun h => (A1C (hnmo h)).1
 rw [R8] at hcl0
 obtain ⟨hw1, hw2⟩ := hcl0
 obtain ⟨n1, hn1⟩ : ∃ n1, (if k = 5 then nm :: ns else ns) = n1 := ⟨_, rfl⟩
 rw [hn1] at hw2
 have hw2' := fun t ht => A4W hw2 t ht
 have ho1 : A2F n1 := by
  rw [← hn1]
  split
  ·intro y hy
   rcases List.mem_cons.1 hy with rfl | hy
   ·exact hnmS (.inr (by assumption))
   ·exact ho y hy
  ·exact ho
 have hl1 : n1.length ≤ ns.length + 1 := by rw [← hn1]; split <;> simp
 have hcode : H2 ns (.mk k nm num ty fr lb ks) = N7 ns k nm num (ks.map (H2 n1)) := by rw [H2, hn1, A1B]
 have hfl : (ks.map (H2 n1)).flatten.length ≤ 2 * I2 ks := by rw [← A1B]; exact A65 ks n1
 have hcm := fun i (h : i < ks.length) => B55 h
 have hpos : 0 < ks.length → 0 < (ks.map (H2 n1)).flatten.length := fun h => by
  match ks, h with
  | a :: r, _ => have := B0L n1 a; rw [List.map_cons, List.flatten_cons, List.length_append]; omega
 have hmc := B0N (ks.map (H2 n1))
 obtain ⟨bd, hbd⟩ : ∃ bd, X6 ns = bd := ⟨_, rfl⟩
 have hbs : bd.size = ns.length := by rw [← hbd]; exact A34 ns
 rw [hcode, hbd]
 simp only [E6] at hb ⊢
 have hix : k = 1 → C6 ((T4 nm ns : Nat) : Int) := fun _ => by have := A43 nm ns; unfold C6; omega
 have hLI : k = 1 → ∀ G, Fn Tryz.prog 119 [.string bd, .string nm] [] G (H3 (.int .i64 ((ns.length : Int) - 1 - (T4 nm ns : Nat))) G) := fun h G => by
  rw [← hbd]; exact B5P ns nm G (by omega) ho (hnmS (.inl h)) (hw1 h)
 have hixl := A43 nm ns
 have hL5 : k = 5 → ks.length = 1 := fun h => by rw [h] at hops; have : E7 5 = 1 := rfl; omega
 have hL9 : k = 9 → ks.length = 3 := fun h => by rw [h] at hops; have : E7 9 = 3 := rfl; omega
 have hLm : ks.length ≤ 3 := by
  unfold E7 at hops
  repeat' split at hops
  all_goals omega
 have hL0 : ¬(k = 1 ∨ k = 2 ∨ k = 3 ∨ k = 4) → 0 < ks.length := fun h => by
  unfold E7 at hops
  repeat' split at hops
  all_goals omega
 have hgd : ∀ j (h : j < (ks.map (H2 n1)).length), (ks.map (H2 n1)).getD j [] = (ks.map (H2 n1))[j] := fun j h => by rw [List.getD_eq_getElem?_getD, List.getElem?_eq_getElem h]; rfl
 have hmL : (ks.map (H2 n1)).length = ks.length := List.length_map _
 obtain ⟨tk, tks⟩ := ty
 obtain ⟨fk, fks⟩ := fr
 obtain ⟨pt, ct, pf, cf, p, c, es, rfl, hk, hnum, hlb, hty, hfr, hsl, hkl⟩ := hr.open9
 have hn := hsl.le
 refine B7 Tryz.func62 rfl Tryz.ntmps62 Tryz.results62 rfl ?_
 intro w0
 refine tS (tR ?_)
 refine sE (D5 rfl rfl) rfl (fun b3 => ?_)
 refine A06 ?_
 refine sB (qE rfl rfl) rfl rfl (fun h23 => ?_) (fun h23 => ?_)
 refine sD (nS (qT rfl (tR (sQ (qM rfl) rfl (sQ (A3 rfl) rfl (sL (A5 rfl rfl) rfl rfl ?_))))))
 (have hnz : nm.size = 1 := (by rw [hnmS (.inr (by omega))]; rfl); refine sP (A0P rfl rfl (by omega)) rfl rfl ?_)
 refine R5 ?_
 refine B5 ?_
 (have hq : k = 5 := (by omega); have hins : X6 n1 = bd ++ nm := (by rw [← hn1, if_pos hq, ← hbd, A61 (hnmS (.inr hq))]); refine W1 39 1 ?_; refine K4 (fun (x : Nat × Option Addr × Nat × List Value × IM) => ⟨[(22, .int .i64 (x.1 : Int)), (21, .int .i64 (ks.length : Int)), (20, .slice p ks.length c), (5, .slice x.2.1 x.1 x.2.2.1), (6, .string (bd ++ nm)), (2, .pointer (some ⟨b3, 0, none⟩)), (1, .string bd)], [.slc x.2.1 x.2.2.1 39 1 x.1 x.2.2.2.1, .blk b3 [.int .i64 k, .string nm, .int .i64 num, .int .i64 tk, .slice pt tks.length ct, .int .i64 fk, .slice pf fks.length cf, .int .i64 lb, .slice p ks.length c]], x.2.2.2.2⟩) (fun x => x.1 ≤ ks.length ∧ B4 G x.2.2.2.2 ∧ Z2 x.2.2.2.2 ((ks.take x.1).map (H2 n1)) x.2.2.2.1) (fun x => ks.length - x.1) (0, none, 0, [], G) ?_ ?_ ?_)
 (simp only [E2]; exact C9)
 exact ⟨Nat.zero_le _, B4.refl _, rfl⟩
 (rintro ⟨i, pn, cn, vs, Gi⟩ ⟨hi, hle, hrl⟩; simp only [] at hi hle hrl ⊢; have hGi : True := trivial)
 refine tS (tR ?_)
 refine sB (J3 rfl rfl) rfl rfl (fun h51 => ?_) (fun h51 => ?_)
 refine sD (nS (tS (qT rfl (tK (nS (tS ?_))))))
 refine B5 ?_
 refine tS (tR ?_)
 (have hil : i < ks.length := (by omega); obtain ⟨bx, ox, e, rfl, hl, hat, hre, hgb⟩ := (hsl.mono hle).kidTm (hkl.mono hle) (i := i) hil hil; have hone := hre.one; refine sP (C2 (j := i) rfl rfl rfl (by omega)) rfl rfl ?_)
 refine sL (A9 rfl rfl (hat _) hl) rfl rfl ?_
 refine sE (B6 rfl) rfl (fun b64 => ?_)
 refine sS rfl rfl rfl hl hone rfl ?_ (hu := by exact I4 hl.symm)
 refine sD (nS (tR (sQ (qM rfl) rfl ?_)))
 refine sL (A9 rfl rfl (C7 (by repeat first | exact mH | apply mT)) hl) rfl rfl ?_
 refine sQ (qM rfl) rfl ?_
 (have hci := hcm i hil; have hK := ih ks[i] (List.getElem_mem hil) (d + 1) n1 Gi _ (hvk i hil) ho1 (hw2' _ (List.getElem_mem hil)) (by omega) hre; rw [hins] at hK; refine I5 rfl (B0M hK) rfl rfl (fun v G3 hle3 hh => ?_); obtain ⟨p3, c3, rfl, hr3⟩ := hh)
 (refine E0 (D0 rfl rfl rfl (by omega) (by unfold maxLen; omega) rfl) rfl ?_; rintro _ ⟨b73, rfl⟩)
 refine T1 rfl rfl rfl rfl rfl (fun _ _ => by repeat (first | exact Sw.here | apply Sw.there)) (K9 (by repeat first | exact mH | apply mT)) rfl (by simp [Value.oneCell']) (by unfold maxLen; omega) (by omega) rfl (fun pn' cn' => ?_)
 refine sQ (qA rfl) rfl (sD (C8 (nS (tR ?_))))
 refine sP (H6 rfl rfl (by omega) (by omega)) rfl rfl ?_
 refine sQ (qM rfl) rfl (sD ?_)
 refine K3 (i + 1, pn', cn', vs ++ [.slice p3 (H2 n1 ks[i]).length c3], G3) ?_ ?_ ?_
 (simp only [E2]; exact C9)
 (dsimp only; exact ⟨by omega, hle.trans hle3, by rw [List.take_succ_eq_append_getElem hil, List.map_append]; exact (hrl.mono hle3).snoc hr3⟩)
 (show ks.length - (i + 1) < ks.length - i; omega)
 refine sD (nS (tS (cF rfl (M7 (M8 (N3 (M9 (nS (tS ?_)))))))))
 (obtain rfl : i = ks.length := (by omega); refine A1p (by repeat (first | exact Pk.here | apply Pk.there)) (fun G2 hle2 hsl2 hno2 => ?_); rw [List.take_length] at hrl; replace hrl := hrl.mono hle2; have hle02 := hle.trans hle2; have hvl := hrl.len; rw [List.length_map] at hvl)
 refine Q9 ?_
 refine B5 ?_
 refine tS (tR ?_)
 refine sP (E9 rfl rfl (by omega)) rfl rfl ?_
 refine sQ (qA rfl) rfl (sD (nS (cF rfl (tS (tR ?_)))))
 refine sP (E9 rfl rfl (by omega)) rfl rfl ?_
 refine sQ (qA rfl) rfl (sD (nS (cF rfl (tS (tR ?_)))))
 refine sP (E9 rfl rfl (by omega)) rfl rfl ?_
 refine sQ (qA rfl) rfl (sD (nS (cF rfl (tS (tR ?_)))))
 refine sP (E9 rfl rfl (by omega)) rfl rfl ?_
 refine sQ (qA rfl) rfl (sD (nS (cF rfl (tS (tR ?_)))))
 refine sP (W9 rfl rfl (by omega)) rfl rfl ?_
 refine sQ (qA rfl) rfl (sD (nS (qT rfl (tS ?_))))
 (have hq5 : k = 5 := (by omega); have hL := hL5 hq5; obtain ⟨p0, c0, hv0, hr0⟩ := hrl.get 0 (by omega); obtain ⟨bc, oc, v0, rfl, hvv, hatc, _⟩ := hsl2.kid (i := 0) (by omega); obtain rfl := Option.some.inj (hv0.symm.trans hvv); have hg0 := hgd 0 (by omega); rw [hg0] at hmc; obtain ⟨l0, hl0⟩ : ∃ l, (ks.map (H2 n1))[0]'(by omega) = l := ⟨_, rfl⟩; rw [hl0] at hr0 hg0 hatc hmc; refine I0 I1 rfl ?_)
 refine J2 (i := 0) (l' := [tt,ff,ff,ff,ff,ff,ff,ff,ff,ff,ff,ff,ff,ff,ff]) rfl F4 (qM rfl) rfl (by kernel_rfl) rfl rfl ?_
 refine aP 1 rfl (qM rfl) rfl ?_
 refine aP 2 rfl (C2 (j := 0) rfl rfl rfl (by omega)) rfl ?_
 refine aL 3 rfl (Q2 rfl rfl (hatc _)) rfl ?_
 refine aP 4 rfl (D8 rfl rfl) rfl ?_
 refine aP 5 rfl (H6 rfl rfl (by omega) (by omega)) rfl ?_
 refine aP 7 rfl (qM rfl) rfl ?_
 refine aP 8 rfl (C2 (j := 0) rfl rfl rfl (by omega)) rfl ?_
 refine aL 9 rfl (Q2 rfl rfl (hatc _)) rfl ?_
 refine aP 10 rfl (qM rfl) rfl ?_
 refine A8 6 ?_
 (refine J9 rfl (A1m (ins := []) rfl rfl (A44 4 _ _ ⟨by decide, by decide⟩ (by unfold C6; omega)) (List.Perm.refl _) rfl) rfl rfl ?_; rintro _ ⟨v, G7, outs, rfl, hle7, rfl, p7, c7, rfl, hr7⟩)
 refine A8 11 ?_
 (refine J9 rfl (A1m (ins := []) rfl rfl (A44 5 0 _ ⟨by decide, by decide⟩ ⟨by decide, by decide⟩) (List.Perm.refl _) rfl) rfl rfl ?_; rintro _ ⟨v, G8, outs, rfl, hle8, rfl, p8, c8, rfl, hr8⟩)
 refine A8 12 ?_
 (refine J9 rfl (D0 rfl rfl rfl (by omega) (by unfold maxLen; omega) rfl) rfl rfl ?_; rintro _ ⟨b167, rfl⟩)
 refine A8 13 ?_
 (have hq5 : k = 5 := (by omega); refine A9q (cs := [.slice p7 1 c7, .slice p0 l0.length c0, .slice p8 1 c8]) (by repeat (first | exact Pk.here | apply Pk.there)) (fun G9 hle9 hsl9 hno9 => ?_); have hL3 : Z2 G9 [[(4, (l0.length : Int) + 1)], l0, [(5, 0)]] [.slice p7 1 c7, .slice p0 l0.length c0, .slice p8 1 c8] := ⟨p7, c7, _, rfl, hr7.mono (hle8.trans hle9), p0, c0, _, rfl, hr0.mono (hle7.trans (hle8.trans hle9)), p8, c8, _, rfl, hr8.mono hle9, rfl⟩; have hC := A2i _ _ _ _ G9 hsl9 hL3 (by simp only [List.flatten_cons, List.flatten_nil, List.length_append, List.length_cons, List.length_nil]; omega) (by simp only [List.flatten_cons, List.flatten_nil, List.length_append, List.length_cons, List.length_nil]; omega); refine J9 rfl (A2l (ins := []) rfl hC (List.Perm.refl _) rfl) rfl rfl ?_; rintro _ ⟨v, G5, outs, rfl, hle5, hG, p6, n6, c6, x6, rfl, rfl, ho6, h61, h62⟩; replace hG := hG.symm; subst hG)
 refine aP 14 rfl (qA rfl) rfl ?_
 refine D6 (nS (tT (rB (rS ?_))))
 refine S6 (rT rfl) (by repeat (first | exact Pk.here | apply Pk.there)) ?_
 (have hq1 : k = 5 := (by omega); exact A0f.mk ho6 (by rw [N7, if_neg (by omega), if_neg (by omega), if_neg (by omega), if_neg (by omega), if_pos hq1, hg0]; simp) (by omega) (by simp at h62; omega))
 refine Y8 ?_
 refine B5 ?_
 (have hq : ¬k = 5 := (by omega); have hins : X6 n1 = bd := (by rw [← hn1, if_neg hq, hbd]); refine W1 39 1 ?_; refine K4 (fun (x : Nat × Option Addr × Nat × List Value × IM) => ⟨[(22, .int .i64 (x.1 : Int)), (21, .int .i64 (ks.length : Int)), (20, .slice p ks.length c), (5, .slice x.2.1 x.1 x.2.2.1), (6, .string bd), (2, .pointer (some ⟨b3, 0, none⟩)), (1, .string bd)], [.slc x.2.1 x.2.2.1 39 1 x.1 x.2.2.2.1, .blk b3 [.int .i64 k, .string nm, .int .i64 num, .int .i64 tk, .slice pt tks.length ct, .int .i64 fk, .slice pf fks.length cf, .int .i64 lb, .slice p ks.length c]], x.2.2.2.2⟩) (fun x => x.1 ≤ ks.length ∧ B4 G x.2.2.2.2 ∧ Z2 x.2.2.2.2 ((ks.take x.1).map (H2 n1)) x.2.2.2.1) (fun x => ks.length - x.1) (0, none, 0, [], G) ?_ ?_ ?_)
 (simp only [E2]; exact C9)
 exact ⟨Nat.zero_le _, B4.refl _, rfl⟩
 (rintro ⟨i, pn, cn, vs, Gi⟩ ⟨hi, hle, hrl⟩; simp only [] at hi hle hrl ⊢; have hGi : True := trivial)
 refine tS (tR ?_)
 refine sB (J3 rfl rfl) rfl rfl (fun h199 => ?_) (fun h199 => ?_)
 refine sD (nS (tS (qT rfl (tK (nS (tS ?_))))))
 refine B5 ?_
 refine tS (tR ?_)
 (have hil : i < ks.length := (by omega); obtain ⟨bx, ox, e, rfl, hl, hat, hre, hgb⟩ := (hsl.mono hle).kidTm (hkl.mono hle) (i := i) hil hil; have hone := hre.one; refine sP (C2 (j := i) rfl rfl rfl (by omega)) rfl rfl ?_)
 refine sL (A9 rfl rfl (hat _) hl) rfl rfl ?_
 refine sE (B6 rfl) rfl (fun b212 => ?_)
 refine sS rfl rfl rfl hl hone rfl ?_ (hu := by exact I4 hl.symm)
 refine sD (nS (tR (sQ (qM rfl) rfl ?_)))
 refine sL (A9 rfl rfl (C7 (by repeat first | exact mH | apply mT)) hl) rfl rfl ?_
 refine sQ (qM rfl) rfl ?_
 (have hci := hcm i hil; have hK := ih ks[i] (List.getElem_mem hil) (d + 1) n1 Gi _ (hvk i hil) ho1 (hw2' _ (List.getElem_mem hil)) (by omega) hre; rw [hins] at hK; refine I5 rfl (B0M hK) rfl rfl (fun v G3 hle3 hh => ?_); obtain ⟨p3, c3, rfl, hr3⟩ := hh)
 (refine E0 (D0 rfl rfl rfl (by omega) (by unfold maxLen; omega) rfl) rfl ?_; rintro _ ⟨b221, rfl⟩)
 refine T1 rfl rfl rfl rfl rfl (fun _ _ => by repeat (first | exact Sw.here | apply Sw.there)) (K9 (by repeat first | exact mH | apply mT)) rfl (by simp [Value.oneCell']) (by unfold maxLen; omega) (by omega) rfl (fun pn' cn' => ?_)
 refine sQ (qA rfl) rfl (sD (C8 (nS (tR ?_))))
 refine sP (H6 rfl rfl (by omega) (by omega)) rfl rfl ?_
 refine sQ (qM rfl) rfl (sD ?_)
 refine K3 (i + 1, pn', cn', vs ++ [.slice p3 (H2 n1 ks[i]).length c3], G3) ?_ ?_ ?_
 (simp only [E2]; exact C9)
 (dsimp only; exact ⟨by omega, hle.trans hle3, by rw [List.take_succ_eq_append_getElem hil, List.map_append]; exact (hrl.mono hle3).snoc hr3⟩)
 (show ks.length - (i + 1) < ks.length - i; omega)
 refine sD (nS (tS (cF rfl (M7 (M8 (N3 (M9 (nS (tS ?_)))))))))
 (obtain rfl : i = ks.length := (by omega); refine A1p (by repeat (first | exact Pk.here | apply Pk.there)) (fun G2 hle2 hsl2 hno2 => ?_); rw [List.take_length] at hrl; replace hrl := hrl.mono hle2; have hle02 := hle.trans hle2; have hvl := hrl.len; rw [List.length_map] at hvl)
 refine Q9 ?_
 refine B5 (tS (tR (sB (qE rfl rfl) rfl rfl (fun h265 => ?_) (fun h265 => ?_))))
 refine sQ (qA rfl) rfl (sD (nS (qT rfl (tS (tR (sQ (qM rfl) rfl (sQ (qM rfl) rfl ?_)))))))
 refine sQ (A0m rfl rfl) rfl ?_
 refine sP (L7 rfl rfl (by omega) (by omega)) rfl rfl ?_
 refine sQ (qM rfl) rfl (sQ (A3 rfl) rfl (sL (A5 rfl rfl) rfl rfl ?_))
 refine F0 rfl ((hLI (by omega) _)) rfl rfl ?_
 refine sP (L7 rfl rfl (by omega) (by omega)) rfl rfl ?_
 (have hq1 : k = 1 := (by omega); refine E0 (A1m rfl rfl (A35 3 _ _ ⟨by decide, by decide⟩ (by unfold C6; omega)) (List.Perm.refl _) rfl) rfl ?_; rintro _ ⟨v, G7, outs, rfl, hle7, hG, p7, n7, c7, x7, rfl, rfl, ho7, h71, h72⟩; replace hG := hG.symm; subst hG)
 refine sQ (qA rfl) rfl (sD (nS (tT (rB (rS ?_)))))
 refine S6 (rT rfl) (by repeat (first | exact Pk.here | apply Pk.there)) ?_
 (have hq1 : k = 1 := (by omega); exact A0f.mk ho7 (by rw [N7, if_pos hq1]; exact congrArg (fun z => [((3 : Int), z)]) (by omega)) (by omega) (by omega))
 refine sQ (qA rfl) rfl (sD (nS (cF rfl (tS (tR ?_)))))
 refine sB (qE rfl rfl) rfl rfl (fun h296 => ?_) (fun h296 => ?_)
 refine sQ (qA rfl) rfl (sD (nS (qT rfl (tS (tR (sQ (qM rfl) rfl (sQ (A3 rfl) rfl (sL (A5 rfl rfl) rfl rfl ?_))))))))
 (have hq1 : k = 2 := (by omega); refine E0 (A1m rfl rfl (A35 1 _ _ ⟨by decide, by decide⟩ hnum) (List.Perm.refl _) rfl) rfl ?_; rintro _ ⟨v, G7, outs, rfl, hle7, hG, p7, n7, c7, x7, rfl, rfl, ho7, h71, h72⟩; replace hG := hG.symm; subst hG)
 refine sQ (qA rfl) rfl (sD (nS (tT (rB (rS ?_)))))
 refine S6 (rT rfl) (by repeat (first | exact Pk.here | apply Pk.there)) ?_
 (have hq1 : k = 2 := (by omega); exact A0f.mk ho7 (by rw [N7, if_neg (by omega), if_pos hq1]) (by omega) (by omega))
 refine sQ (qA rfl) rfl (sD (nS (cF rfl (tS (tR ?_)))))
 refine sB (qE rfl rfl) rfl rfl (fun h321 => ?_) (fun h321 => ?_)
 refine sQ (qA rfl) rfl (sD (nS (qT rfl (tS (tR (sQ (qM rfl) rfl ?_))))))
 (have hq1 : k = 3 := (by omega); refine E0 (A1m rfl rfl (A35 2 1 _ ⟨by decide, by decide⟩ ⟨by decide, by decide⟩) (List.Perm.refl _) rfl) rfl ?_; rintro _ ⟨v, G7, outs, rfl, hle7, hG, p7, n7, c7, x7, rfl, rfl, ho7, h71, h72⟩; replace hG := hG.symm; subst hG)
 refine sQ (qA rfl) rfl (sD (nS (tT (rB (rS ?_)))))
 refine S6 (rT rfl) (by repeat (first | exact Pk.here | apply Pk.there)) ?_
 (have hq1 : k = 3 := (by omega); exact A0f.mk ho7 (by rw [N7, if_neg (by omega), if_neg (by omega), if_pos hq1]) (by omega) (by omega))
 refine sQ (qA rfl) rfl (sD (nS (cF rfl (tS (tR ?_)))))
 refine sB (qE rfl rfl) rfl rfl (fun h344 => ?_) (fun h344 => ?_)
 refine sQ (qA rfl) rfl (sD (nS (qT rfl (tS (tR (sQ (qM rfl) rfl ?_))))))
 (have hq1 : k = 4 := (by omega); refine E0 (A1m rfl rfl (A35 2 0 _ ⟨by decide, by decide⟩ ⟨by decide, by decide⟩) (List.Perm.refl _) rfl) rfl ?_; rintro _ ⟨v, G7, outs, rfl, hle7, hG, p7, n7, c7, x7, rfl, rfl, ho7, h71, h72⟩; replace hG := hG.symm; subst hG)
 refine sQ (qA rfl) rfl (sD (nS (tT (rB (rS ?_)))))
 refine S6 (rT rfl) (by repeat (first | exact Pk.here | apply Pk.there)) ?_
 (have hq1 : k = 4 := (by omega); exact A0f.mk ho7 (by rw [N7, if_neg (by omega), if_neg (by omega), if_neg (by omega), if_pos hq1]) (by omega) (by omega))
 refine sQ (qA rfl) rfl (sD (nS (cF rfl (tS (tR ?_)))))
 refine sP (E9 rfl rfl (by omega)) rfl rfl ?_
 refine sQ (qA rfl) rfl (sD (nS (cF rfl (tS (tR ?_)))))
 refine sB (qE rfl rfl) rfl rfl (fun h374 => ?_) (fun h374 => ?_)
 refine sQ (qA rfl) rfl (sD (nS (qT rfl (tS ?_))))
 (have hq9 : k = 9 := (by omega); have hL := hL9 hq9; obtain ⟨p0, c0, hv0, hr0⟩ := hrl.get 0 (by omega); obtain ⟨p1, c1, hv1, hr1⟩ := hrl.get 1 (by omega); obtain ⟨p2, c2, hv2, hr2⟩ := hrl.get 2 (by omega); obtain ⟨bc, oc, v0, rfl, hvv, hatc, _⟩ := hsl2.kid (i := 0) (by omega); obtain rfl := Option.some.inj (hv0.symm.trans hvv); obtain ⟨_, _, v1, hpp, hvv1, hatc1, _⟩ := hsl2.kid (i := 1) (by omega); cases hpp; obtain rfl := Option.some.inj (hv1.symm.trans hvv1); obtain ⟨_, _, v2, hpp, hvv2, hatc2, _⟩ := hsl2.kid (i := 2) (by omega); cases hpp; obtain rfl := Option.some.inj (hv2.symm.trans hvv2); have hg0 := hgd 0 (by omega); have hg1 := hgd 1 (by omega); have hg2 := hgd 2 (by omega); rw [hg0, hg1, hg2] at hmc; obtain ⟨l0, hl0⟩ : ∃ l, (ks.map (H2 n1))[0]'(by omega) = l := ⟨_, rfl⟩; rw [hl0] at hr0 hg0 hatc hmc; obtain ⟨l1, hl1⟩ : ∃ l, (ks.map (H2 n1))[1]'(by omega) = l := ⟨_, rfl⟩; rw [hl1] at hr1 hg1 hatc1 hmc; obtain ⟨l2, hl2⟩ : ∃ l, (ks.map (H2 n1))[2]'(by omega) = l := ⟨_, rfl⟩; rw [hl2] at hr2 hg2 hatc2 hmc; refine I0 I1 rfl ?_)
 refine J2 (i := 0) (l' := [tt,ff,ff,ff,ff,ff,ff,ff,ff,ff,ff,ff,ff,ff,ff,ff,ff,ff,ff,ff,ff,ff,ff,ff,ff]) rfl F4 (qM rfl) rfl (by kernel_rfl) rfl rfl ?_
 refine aP 1 rfl (C2 (j := 0) rfl rfl rfl (by omega)) rfl ?_
 refine aL 2 rfl (Q2 rfl rfl (hatc _)) rfl ?_
 refine aP 3 rfl (qM rfl) rfl ?_
 refine aP 4 rfl (qM rfl) rfl ?_
 refine aP 5 rfl (C2 (j := 1) rfl rfl rfl (by omega)) rfl ?_
 refine aL 6 rfl (Q2 rfl rfl (hatc1 _)) rfl ?_
 refine aP 7 rfl (D8 rfl rfl) rfl ?_
 refine aP 8 rfl (H6 rfl rfl (by omega) (by omega)) rfl ?_
 refine aP 10 rfl (qM rfl) rfl ?_
 refine aP 11 rfl (C2 (j := 1) rfl rfl rfl (by omega)) rfl ?_
 refine aL 12 rfl (Q2 rfl rfl (hatc1 _)) rfl ?_
 refine aP 13 rfl (qM rfl) rfl ?_
 refine aP 14 rfl (qM rfl) rfl ?_
 refine aP 15 rfl (C2 (j := 2) rfl rfl rfl (by omega)) rfl ?_
 refine aL 16 rfl (Q2 rfl rfl (hatc2 _)) rfl ?_
 refine aP 17 rfl (D8 rfl rfl) rfl ?_
 refine aP 19 rfl (qM rfl) rfl ?_
 refine aP 20 rfl (C2 (j := 2) rfl rfl rfl (by omega)) rfl ?_
 refine aL 21 rfl (Q2 rfl rfl (hatc2 _)) rfl ?_
 refine A8 9 ?_
 (refine J9 rfl (A1m (ins := []) rfl rfl (A44 9 _ _ ⟨by decide, by decide⟩ (by unfold C6; omega)) (List.Perm.refl _) rfl) rfl rfl ?_; rintro _ ⟨v, G7, outs, rfl, hle7, rfl, p7, c7, rfl, hr7⟩)
 refine A8 18 ?_
 (refine J9 rfl (A1m (ins := []) rfl rfl (A44 10 _ _ ⟨by decide, by decide⟩ (by unfold C6; omega)) (List.Perm.refl _) rfl) rfl rfl ?_; rintro _ ⟨v, G8, outs, rfl, hle8, rfl, p8, c8, rfl, hr8⟩)
 refine A8 22 ?_
 (refine J9 rfl (D0 rfl rfl rfl (by omega) (by unfold maxLen; omega) rfl) rfl rfl ?_; rintro _ ⟨b406, rfl⟩)
 refine A8 23 ?_
 (have hq9 : k = 9 := (by omega); refine A9q (cs := [.slice p0 l0.length c0, .slice p7 1 c7, .slice p1 l1.length c1, .slice p8 1 c8, .slice p2 l2.length c2]) (by repeat (first | exact Pk.here | apply Pk.there)) (fun G9 hle9 hsl9 hno9 => ?_); have hL3 : Z2 G9 [l0, [(9, (l1.length : Int) + 1)], l1, [(10, (l2.length : Int))], l2] [.slice p0 l0.length c0, .slice p7 1 c7, .slice p1 l1.length c1, .slice p8 1 c8, .slice p2 l2.length c2] := ⟨p0, c0, _, rfl, hr0.mono (hle7.trans (hle8.trans hle9)), p7, c7, _, rfl, hr7.mono (hle8.trans hle9), p1, c1, _, rfl, hr1.mono (hle7.trans (hle8.trans hle9)), p8, c8, _, rfl, hr8.mono hle9, p2, c2, _, rfl, hr2.mono (hle7.trans (hle8.trans hle9)), rfl⟩; have hC := A2i _ _ _ _ G9 hsl9 hL3 (by simp only [List.flatten_cons, List.flatten_nil, List.length_append, List.length_cons, List.length_nil]; omega) (by simp only [List.flatten_cons, List.flatten_nil, List.length_append, List.length_cons, List.length_nil]; omega); refine J9 rfl (A2l (ins := []) rfl hC (List.Perm.refl _) rfl) rfl rfl ?_; rintro _ ⟨v, G5, outs, rfl, hle5, hG, p6, n6, c6, x6, rfl, rfl, ho6, h61, h62⟩; replace hG := hG.symm; subst hG)
 refine aP 24 rfl (qA rfl) rfl ?_
 refine D6 (nS (tT (rB (rS ?_))))
 refine S6 (rT rfl) (by repeat (first | exact Pk.here | apply Pk.there)) ?_
 (have hq1 : k = 9 := (by omega); exact A0f.mk ho6 (by rw [N7, if_neg (by omega), if_neg (by omega), if_neg (by omega), if_neg (by omega), if_neg (by omega), if_pos hq1, hg0, hg1, hg2]; simp) (by omega) (by simp at h62; omega))
 refine sQ (qA rfl) rfl (sD (nS (cF rfl (tS (tR ?_)))))
 refine sB (qE rfl rfl) rfl rfl (fun h423 => ?_) (fun h423 => ?_)
 refine sQ (qA rfl) rfl (sD (nS (qT rfl (tR (sQ (qA rfl) rfl (sD (C8 (nS (tS (tR (sQ (qM rfl) rfl ?_)))))))))))
 (have hq0 := hL0 (by omega); have hC := A2i (ks.map (H2 n1)) vs pn cn G2 (by rw [hmL]; exact hsl2) hrl (hpos hq0) (by omega); rw [hmL] at hC; refine D2 rfl hC (List.Perm.refl _) rfl rfl (fun v G5 outs hle5 hh => ?_); obtain ⟨hG, p6, n6, c6, x6, rfl, rfl, ho6, h61, h62⟩ := hh; replace hG := hG.symm; subst hG; refine A1o (fun a w hs => (hs.slc_form (p := p6) (c := c6) (el := 72) (sz := 2) (n := n6) (cs := x6) (by repeat first | exact mH | apply mT)).2.2 (by omega)) (fun hq => ?_); obtain ⟨g6, rfl⟩ := hq)
 refine sQ (qM rfl) rfl (sQ (D9 rfl rfl) rfl ?_)
 (refine E0 (D0 rfl rfl rfl (by omega) (by unfold maxLen; omega) rfl) rfl ?_; rintro _ ⟨b439, rfl⟩)
 refine T1 rfl rfl rfl rfl rfl (fun _ _ => by repeat (first | exact Sw.here | apply Sw.there)) (K9 (by repeat first | exact mH | apply mT)) rfl (by simp [Value.oneCell']) (by unfold maxLen; omega) (by omega) rfl (fun pn' cn' => ?_)
 refine sQ (qA rfl) rfl (sD (nS (tT ?_)))
 refine S6 (rT rfl) (by repeat (first | exact Pk.here | apply Pk.there)) ?_
 (exact A0f.mk (ho6.snoc ⟨by decide, by decide⟩ ⟨by decide, by decide⟩) (by rw [N7, if_neg (by omega), if_neg (by omega), if_neg (by omega), if_neg (by omega), if_neg (by omega), if_neg (by omega)]; unfold V3; (repeat' split) <;> first | rfl | (exfalso; omega)) (by omega) (by omega))
 refine sQ (qA rfl) rfl (sD (nS (cF rfl (tS (tR ?_)))))
 refine sB (qE rfl rfl) rfl rfl (fun h453 => ?_) (fun h453 => ?_)
 refine sQ (qA rfl) rfl (sD (nS (qT rfl (tR (sQ (qA rfl) rfl (sD (C8 (nS (tS (tR (sQ (qM rfl) rfl ?_)))))))))))
 (have hq0 := hL0 (by omega); have hC := A2i (ks.map (H2 n1)) vs pn cn G2 (by rw [hmL]; exact hsl2) hrl (hpos hq0) (by omega); rw [hmL] at hC; refine D2 rfl hC (List.Perm.refl _) rfl rfl (fun v G5 outs hle5 hh => ?_); obtain ⟨hG, p6, n6, c6, x6, rfl, rfl, ho6, h61, h62⟩ := hh; replace hG := hG.symm; subst hG; refine A1o (fun a w hs => (hs.slc_form (p := p6) (c := c6) (el := 72) (sz := 2) (n := n6) (cs := x6) (by repeat first | exact mH | apply mT)).2.2 (by omega)) (fun hq => ?_); obtain ⟨g6, rfl⟩ := hq)
 refine sQ (qM rfl) rfl (sQ (D9 rfl rfl) rfl ?_)
 (refine E0 (D0 rfl rfl rfl (by omega) (by unfold maxLen; omega) rfl) rfl ?_; rintro _ ⟨b469, rfl⟩)
 refine T1 rfl rfl rfl rfl rfl (fun _ _ => by repeat (first | exact Sw.here | apply Sw.there)) (K9 (by repeat first | exact mH | apply mT)) rfl (by simp [Value.oneCell']) (by unfold maxLen; omega) (by omega) rfl (fun pn' cn' => ?_)
 refine sQ (qA rfl) rfl (sD (nS (tT ?_)))
 refine S6 (rT rfl) (by repeat (first | exact Pk.here | apply Pk.there)) ?_
 (exact A0f.mk (ho6.snoc ⟨by decide, by decide⟩ ⟨by decide, by decide⟩) (by rw [N7, if_neg (by omega), if_neg (by omega), if_neg (by omega), if_neg (by omega), if_neg (by omega), if_neg (by omega)]; unfold V3; (repeat' split) <;> first | rfl | (exfalso; omega)) (by omega) (by omega))
 refine sQ (qA rfl) rfl (sD (nS (cF rfl (tS (tR ?_)))))
 refine sB (qE rfl rfl) rfl rfl (fun h483 => ?_) (fun h483 => ?_)
 refine sQ (qA rfl) rfl (sD (nS (qT rfl (tR (sQ (qA rfl) rfl (sD (C8 (nS (tS (tR (sQ (qM rfl) rfl ?_)))))))))))
 (have hq0 := hL0 (by omega); have hC := A2i (ks.map (H2 n1)) vs pn cn G2 (by rw [hmL]; exact hsl2) hrl (hpos hq0) (by omega); rw [hmL] at hC; refine D2 rfl hC (List.Perm.refl _) rfl rfl (fun v G5 outs hle5 hh => ?_); obtain ⟨hG, p6, n6, c6, x6, rfl, rfl, ho6, h61, h62⟩ := hh; replace hG := hG.symm; subst hG; refine A1o (fun a w hs => (hs.slc_form (p := p6) (c := c6) (el := 72) (sz := 2) (n := n6) (cs := x6) (by repeat first | exact mH | apply mT)).2.2 (by omega)) (fun hq => ?_); obtain ⟨g6, rfl⟩ := hq)
 refine sQ (qM rfl) rfl (sQ (D9 rfl rfl) rfl ?_)
 (refine E0 (D0 rfl rfl rfl (by omega) (by unfold maxLen; omega) rfl) rfl ?_; rintro _ ⟨b499, rfl⟩)
 refine T1 rfl rfl rfl rfl rfl (fun _ _ => by repeat (first | exact Sw.here | apply Sw.there)) (K9 (by repeat first | exact mH | apply mT)) rfl (by simp [Value.oneCell']) (by unfold maxLen; omega) (by omega) rfl (fun pn' cn' => ?_)
 refine sQ (qA rfl) rfl (sD (nS (tT ?_)))
 refine S6 (rT rfl) (by repeat (first | exact Pk.here | apply Pk.there)) ?_
 (exact A0f.mk (ho6.snoc ⟨by decide, by decide⟩ ⟨by decide, by decide⟩) (by rw [N7, if_neg (by omega), if_neg (by omega), if_neg (by omega), if_neg (by omega), if_neg (by omega), if_neg (by omega)]; unfold V3; (repeat' split) <;> first | rfl | (exfalso; omega)) (by omega) (by omega))
 refine sQ (qA rfl) rfl (sD (nS (cF rfl (tS (tR ?_)))))
 refine sB (qE rfl rfl) rfl rfl (fun h513 => ?_) (fun h513 => ?_)
 refine sQ (qA rfl) rfl (sD (nS (qT rfl (tR (sQ (qA rfl) rfl (sD (C8 (nS (tS (tR (sQ (qM rfl) rfl ?_)))))))))))
 (have hq0 := hL0 (by omega); have hC := A2i (ks.map (H2 n1)) vs pn cn G2 (by rw [hmL]; exact hsl2) hrl (hpos hq0) (by omega); rw [hmL] at hC; refine D2 rfl hC (List.Perm.refl _) rfl rfl (fun v G5 outs hle5 hh => ?_); obtain ⟨hG, p6, n6, c6, x6, rfl, rfl, ho6, h61, h62⟩ := hh; replace hG := hG.symm; subst hG; refine A1o (fun a w hs => (hs.slc_form (p := p6) (c := c6) (el := 72) (sz := 2) (n := n6) (cs := x6) (by repeat first | exact mH | apply mT)).2.2 (by omega)) (fun hq => ?_); obtain ⟨g6, rfl⟩ := hq)
 refine sQ (qM rfl) rfl (sQ (D9 rfl rfl) rfl ?_)
 (refine E0 (D0 rfl rfl rfl (by omega) (by unfold maxLen; omega) rfl) rfl ?_; rintro _ ⟨b529, rfl⟩)
 refine T1 rfl rfl rfl rfl rfl (fun _ _ => by repeat (first | exact Sw.here | apply Sw.there)) (K9 (by repeat first | exact mH | apply mT)) rfl (by simp [Value.oneCell']) (by unfold maxLen; omega) (by omega) rfl (fun pn' cn' => ?_)
 refine sQ (qA rfl) rfl (sD (nS (tT ?_)))
 refine S6 (rT rfl) (by repeat (first | exact Pk.here | apply Pk.there)) ?_
 (exact A0f.mk (ho6.snoc ⟨by decide, by decide⟩ ⟨by decide, by decide⟩) (by rw [N7, if_neg (by omega), if_neg (by omega), if_neg (by omega), if_neg (by omega), if_neg (by omega), if_neg (by omega)]; unfold V3; (repeat' split) <;> first | rfl | (exfalso; omega)) (by omega) (by omega))
 refine sQ (qA rfl) rfl (sD (nS (cF rfl (tS (tR ?_)))))
 refine sB (qE rfl rfl) rfl rfl (fun h543 => ?_) (fun h543 => ?_)
 refine sQ (qA rfl) rfl (sD (nS (qT rfl (tR (sQ (qA rfl) rfl (sD (C8 (nS (tS (tR (sQ (qM rfl) rfl ?_)))))))))))
 (have hq0 := hL0 (by omega); have hC := A2i (ks.map (H2 n1)) vs pn cn G2 (by rw [hmL]; exact hsl2) hrl (hpos hq0) (by omega); rw [hmL] at hC; refine D2 rfl hC (List.Perm.refl _) rfl rfl (fun v G5 outs hle5 hh => ?_); obtain ⟨hG, p6, n6, c6, x6, rfl, rfl, ho6, h61, h62⟩ := hh; replace hG := hG.symm; subst hG; refine A1o (fun a w hs => (hs.slc_form (p := p6) (c := c6) (el := 72) (sz := 2) (n := n6) (cs := x6) (by repeat first | exact mH | apply mT)).2.2 (by omega)) (fun hq => ?_); obtain ⟨g6, rfl⟩ := hq)
 refine sQ (qM rfl) rfl (sQ (D9 rfl rfl) rfl ?_)
 (refine E0 (D0 rfl rfl rfl (by omega) (by unfold maxLen; omega) rfl) rfl ?_; rintro _ ⟨b559, rfl⟩)
 refine T1 rfl rfl rfl rfl rfl (fun _ _ => by repeat (first | exact Sw.here | apply Sw.there)) (K9 (by repeat first | exact mH | apply mT)) rfl (by simp [Value.oneCell']) (by unfold maxLen; omega) (by omega) rfl (fun pn' cn' => ?_)
 refine sQ (qA rfl) rfl (sD (nS (tT ?_)))
 refine S6 (rT rfl) (by repeat (first | exact Pk.here | apply Pk.there)) ?_
 (exact A0f.mk (ho6.snoc ⟨by decide, by decide⟩ ⟨by decide, by decide⟩) (by rw [N7, if_neg (by omega), if_neg (by omega), if_neg (by omega), if_neg (by omega), if_neg (by omega), if_neg (by omega)]; unfold V3; (repeat' split) <;> first | rfl | (exfalso; omega)) (by omega) (by omega))
 refine sQ (qA rfl) rfl (sD (nS (cF rfl (tR (sQ (qA rfl) rfl (sD (C8 (nS (tS (tR (sQ (qM rfl) rfl ?_)))))))))))
 (have hq0 := hL0 (by omega); have hC := A2i (ks.map (H2 n1)) vs pn cn G2 (by rw [hmL]; exact hsl2) hrl (hpos hq0) (by omega); rw [hmL] at hC; refine D2 rfl hC (List.Perm.refl _) rfl rfl (fun v G5 outs hle5 hh => ?_); obtain ⟨hG, p6, n6, c6, x6, rfl, rfl, ho6, h61, h62⟩ := hh; replace hG := hG.symm; subst hG; refine A1o (fun a w hs => (hs.slc_form (p := p6) (c := c6) (el := 72) (sz := 2) (n := n6) (cs := x6) (by repeat first | exact mH | apply mT)).2.2 (by omega)) (fun hq => ?_); obtain ⟨g6, rfl⟩ := hq)
 refine sQ (qM rfl) rfl (sQ (D9 rfl rfl) rfl ?_)
 (refine E0 (D0 rfl rfl rfl (by omega) (by unfold maxLen; omega) rfl) rfl ?_; rintro _ ⟨b582, rfl⟩)
 refine T1 rfl rfl rfl rfl rfl (fun _ _ => by repeat (first | exact Sw.here | apply Sw.there)) (K9 (by repeat first | exact mH | apply mT)) rfl (by simp [Value.oneCell']) (by unfold maxLen; omega) (by omega) rfl (fun pn' cn' => ?_)
 refine sQ (qA rfl) rfl (sD (nS (tT ?_)))
 refine S6 (rT rfl) (by repeat (first | exact Pk.here | apply Pk.there)) ?_
 (exact A0f.mk (ho6.snoc ⟨by decide, by decide⟩ ⟨by decide, by decide⟩) (by rw [N7, if_neg (by omega), if_neg (by omega), if_neg (by omega), if_neg (by omega), if_neg (by omega), if_neg (by omega)]; unfold V3; (repeat' split) <;> first | rfl | (exfalso; omega)) (by omega) (by omega))
section
variable {P : Program} {Γ : J1} {env : J5} {hp : List A4} {G : IM} {ty : TypeId}
theorem B59 {t : TypeId} {i : I7} {k : IntKind} [hI : D4 P t i] (hd : i.desc = .int k) (r s : Int) (d : Nat) (w : World) : (Op.equalIn (d + 1) t (.int k r) (.int k s)).run P w = .ok (r == s) w := by
 have hu := hI.und
 rw [hd] at hu
 simp only [Op.equalIn, Sem.run_bind, run_underlying hu, Result.andThen_ok, if_true, Sem.run_pure]
theorem B6a {t : TypeId} {i i3 : I7} {f0 f1 : Field} [hI : D4 P t i] (hd : i.desc = .struct #[f0, f1]) (n0 : f0.name ≠ "_") (n1 : f1.name ≠ "_") (o0 : f0.offset = 0) (o1 : f1.offset = 1) {t3 : TypeId} [h3 : D4 P t3 i3] (e0 : f0.type = t3) (e1 : f1.type = t3) (hd3 : i3.desc = .int .i64)
  (hs : P.stoodInHeld t = false) (a b c d : Int) (w : World) : (Op.equal t (.agg ⟨[.int .i64 a, .int .i64 b]⟩) (.agg ⟨[.int .i64 c, .int .i64 d]⟩)).run P w = .ok (a == c && b == d) w := by
 have hu := hI.und
 rw [hd] at hu
 have hu3 := h3.und
 rw [hd3] at hu3
 have hp : ∀ (x y : Int) (w : World), (part t3 ⟨[Value.int .i64 x, .int .i64 y]⟩ 0).run P w = .ok (.int .i64 x) w := fun x y w => by simp [part, A3o hu3, A0O]
 have hp1 : ∀ (x y : Int) (w : World), (part t3 ⟨[Value.int .i64 x, .int .i64 y]⟩ 1).run P w = .ok (.int .i64 y) w := fun x y w => by simp [part, A3o hu3, A0O]
 subst e0
 have hq := fun (r s : Int) (n : Nat) (w : World) => B59 (P := P) (t := f0.type) hd3 r s n w
 have h : ∀ n, (Op.equalIn (n + 1 + 1) t (.agg ⟨[.int .i64 a, .int .i64 b]⟩) (.agg ⟨[.int .i64 c, .int .i64 d]⟩)).run P w = .ok (a == c && b == d) w := fun n => by
  rw [Op.equalIn]
  by_cases h1 : a = c <;> by_cases h2 : b = d <;>
   simp [Sem.run_bind, run_underlying hu, hs, n0, n1, o0, o1, e1, hp, hp1, hq, h1, h2]
 exact h 9998
theorem B6b {x y : Operand} {t t' : TypeId} {i i3 : I7} {f0 f1 : Field} [hI : D4 P t i] (hd : i.desc = .struct #[f0, f1]) (n0 : f0.name ≠ "_") (n1 : f1.name ≠ "_") (o0 : f0.offset = 0) (o1 : f1.offset = 1) {t3 : TypeId} [h3 : D4 P t3 i3] (e0 : f0.type = t3) (e1 : f1.type = t3) (hd3 : i3.desc = .int .i64)
  (hs : P.stoodInHeld t = false) (hg : P.eqGuardType P.depth t = false) {a b c d : Int} (hx : evo env x = some (.agg ⟨[.int .i64 a, .int .i64 b]⟩)) (hy : evo env y = some (.agg ⟨[.int .i64 c, .int .i64 d]⟩)) :
  E1 P Γ ⟨env, hp, G⟩ (.binOp .neq t x y t') ty (.bool (!(a == c && b == d))) := by
 refine ⟨fun ac _ hst _ _ _ _ w => ?_⟩
 simp only [execOp, eqGuard, binOp, (hst.evo hx : ac.eval x = _), (hst.evo hy : ac.eval y = _), Sem.run_bind, B6a hd n0 n1 o0 o1 e0 e1 hd3 hs, Sem.run_pure, Result.andThen_ok]
 simp [hg]
theorem B6c {x y : Operand} {t t' : TypeId} {i i3 : I7} {f0 f1 : Field} [hI : D4 P t i] (hd : i.desc = .struct #[f0, f1]) (n0 : f0.name ≠ "_") (n1 : f1.name ≠ "_") (o0 : f0.offset = 0) (o1 : f1.offset = 1) {t3 : TypeId} [h3 : D4 P t3 i3] (e0 : f0.type = t3) (e1 : f1.type = t3) (hd3 : i3.desc = .int .i64)
  (hs : P.stoodInHeld t = false) (hg : P.eqGuardType P.depth t = false) {a b c d : Int} (hx : evo env x = some (.agg ⟨[.int .i64 a, .int .i64 b]⟩)) (hy : evo env y = some (.agg ⟨[.int .i64 c, .int .i64 d]⟩)) :
  E1 P Γ ⟨env, hp, G⟩ (.binOp .neq t x y t') ty (.bool (decide (¬(a = c ∧ b = d)))) := by
 have h := B6b (Γ := Γ) (hp := hp) (G := G) (ty := ty) (t' := t') hd n0 n1 o0 o1 e0 e1 hd3 hs hg hx hy
 have hb : (!(a == c && b == d)) = decide (¬(a = c ∧ b = d)) := by
  by_cases h1 : a = c <;> by_cases h2 : b = d <;> simp [h1, h2]
 rwa [hb] at h
end
section
variable {Γ : J1} {env : J5} {hp : List A4} {G : IM} {ty : TypeId}
theorem B0O {x y : Operand} {t' : TypeId} {a b c d : Int} (hx : evo env x = some (.agg ⟨[.int .i64 a, .int .i64 b]⟩)) (hy : evo env y = some (.agg ⟨[.int .i64 c, .int .i64 d]⟩)) :
  E1 Tryz.prog Γ ⟨env, hp, G⟩ (.binOp .neq 72 x y t') ty (.bool (decide (¬(a = c ∧ b = d)))) :=
 B6c (t3 := 3) rfl (by decide) (by decide) rfl rfl rfl rfl rfl (by kernel_rfl) (by kernel_rfl) hx hy
end
section
variable {Γ : J1} {env : J5} {hp : List A4} {G : IM} {ty : TypeId}
theorem B6d {x y : Operand} {t' : TypeId} {a b c d : Int} (h : ¬(a = c ∧ b = d)) (hx : evo env x = some (.agg ⟨[.int .i64 a, .int .i64 b]⟩)) (hy : evo env y = some (.agg ⟨[.int .i64 c, .int .i64 d]⟩)) :
  E1 Tryz.prog Γ ⟨env, hp, G⟩ (.binOp .neq 72 x y t') ty (.bool true) := by
 have := B0O (Γ := Γ) (hp := hp) (G := G) (ty := ty) (t' := t') hx hy
 rwa [decide_eq_true h] at this
theorem B6e {x y : Operand} {t' : TypeId} {a b c d : Int} (h : a = c ∧ b = d) (hx : evo env x = some (.agg ⟨[.int .i64 a, .int .i64 b]⟩)) (hy : evo env y = some (.agg ⟨[.int .i64 c, .int .i64 d]⟩)) :
  E1 Tryz.prog Γ ⟨env, hp, G⟩ (.binOp .neq 72 x y t') ty (.bool false) := by
 have := B0O (Γ := Γ) (hp := hp) (G := G) (ty := ty) (t' := t') hx hy
 rwa [decide_eq_false (fun hh => hh h)] at this
end
theorem B6f {l1 l2 : J0} (hl : l1.length = l2.length) (h : ∀ j, j < l1.length → l1.getD j (0, 0) = l2.getD j (0, 0)) : l1 = l2 := by
 apply List.ext_getElem hl
 intro i h1 h2
 have := h i h1
 rwa [List.getD_eq_getElem?_getD, List.getD_eq_getElem?_getD, List.getElem?_eq_getElem h1, List.getElem?_eq_getElem h2] at this
theorem B6g (l1 l2 : J0) (G : IM) (p q : Option Addr) (n m c d : Nat) (h1 : T0 G l1 p n c) (h2 : T0 G l2 q m d) : Fn Tryz.prog 68 [.slice p n c, .slice q m d] [] G (H3 (.bool (decide (l1 = l2))) G) := by
 have e1 := h1.len
 have e2 := h2.len
 have b1 := h1.sl.le
 have b2 := h2.sl.le
 refine B7 Tryz.func68 rfl Tryz.ntmps68 Tryz.results68 rfl ?_
 intro w0
 refine R5 ?_
 refine sB (P9 rfl rfl) rfl rfl (fun h13 => ?_) (fun h13 => ?_)
 refine sD (nS (qT rfl (tS (tR (sQ (qA rfl) rfl (sD (nS (tT (rS (A6 (rT rfl) ?_))))))))))
 (exact ⟨rfl, by rw [decide_eq_false (fun he => by subst he; omega)], rfl⟩)
 refine sD (nS (cF rfl (tK (nS (tS (tS (tR (sQ (qM rfl) rfl (sQ (D8 rfl rfl) rfl (sQ (qM rfl) rfl (sD (nS ?_))))))))))))
 refine B5 ?_
 (refine K4 (fun (i : Nat) => ⟨[(13, .int .i64 (i : Int)), (12, .int .i64 (n : Int)), (0, .slice p n c), (1, .slice q m d)], [], G⟩) (fun i => i ≤ n ∧ ∀ j, j < i → l1.getD j (0, 0) = l2.getD j (0, 0)) (fun i => n - i) 0 ?_ ?_ ?_)
 exact C9
 (exact ⟨Nat.zero_le _, fun j hj => absurd hj (Nat.not_lt_zero j)⟩)
 (rintro i ⟨hi, hj⟩)
 refine tS (tR ?_)
 refine sB (J3 rfl rfl) rfl rfl (fun h46 => ?_) (fun h46 => ?_)
 refine sD (nS (tS (qT rfl (tK (nS (tS ?_))))))
 refine B5 ?_
 refine tS (tR (sQ (qM rfl) rfl (sQ (qA rfl) rfl (sD (nS (tS ?_))))))
 (obtain ⟨bx, ox, rfl, hat, _, _, _⟩ := h1.get (i := i) (by omega); obtain ⟨by2, oy, rfl, hat2, _, _, _⟩ := h2.get (i := i) (by omega); obtain ⟨⟨xa, xb⟩, hX⟩ : ∃ z, l1.getD i (0, 0) = z := ⟨_, rfl⟩; obtain ⟨⟨ya, yb⟩, hY⟩ : ∃ z, l2.getD i (0, 0) = z := ⟨_, rfl⟩; rw [hX] at hat; rw [hY] at hat2; by_cases heq : xa = ya ∧ xb = yb <;> refine I0 I1 rfl ?_)
 refine J2 (i := 0) (l' := [tt,ff,ff,ff,ff,ff,ff,ff,ff]) rfl F4 (qM rfl) rfl (by kernel_rfl) rfl rfl ?_
 refine aP 1 rfl (qM rfl) rfl ?_
 refine aP 2 rfl (C2 (j := i) rfl rfl rfl (by omega)) rfl ?_
 refine aL 3 rfl (A9 rfl rfl (hat _) rfl) rfl ?_
 refine aP 4 rfl (qM rfl) rfl ?_
 refine aP 5 rfl (qM rfl) rfl ?_
 refine aP 6 rfl (C2 (j := i) rfl rfl rfl (by omega)) rfl ?_
 refine aL 7 rfl (A9 rfl rfl (hat2 _) rfl) rfl ?_
 refine aP 8 rfl (B6e heq rfl rfl) rfl ?_
 refine D6 (nS (cF rfl (tK (C8 (nS (tR ?_))))))
 refine sP (H6 rfl rfl (by omega) (by omega)) rfl rfl ?_
 refine sQ (qM rfl) rfl (sD ?_)
 refine K3 (i + 1) ?_ ?_ ?_
 (simp only [E2]; exact C9)
 (exact ⟨by omega, fun j hji => (by by_cases he : j = i; (subst he; rw [hX, hY, heq.1, heq.2]); exact hj j (by omega))⟩)
 (show n - (i + 1) < n - i; omega)
 refine J2 (i := 0) (l' := [tt,ff,ff,ff,ff,ff,ff,ff,ff]) rfl F4 (qM rfl) rfl (by kernel_rfl) rfl rfl ?_
 refine aP 1 rfl (qM rfl) rfl ?_
 refine aP 2 rfl (C2 (j := i) rfl rfl rfl (by omega)) rfl ?_
 refine aL 3 rfl (A9 rfl rfl (hat _) rfl) rfl ?_
 refine aP 4 rfl (qM rfl) rfl ?_
 refine aP 5 rfl (qM rfl) rfl ?_
 refine aP 6 rfl (C2 (j := i) rfl rfl rfl (by omega)) rfl ?_
 refine aL 7 rfl (A9 rfl rfl (hat2 _) rfl) rfl ?_
 refine aP 8 rfl (B6d heq rfl rfl) rfl ?_
 refine D6 (nS (qT rfl (tS (tR (sQ (qA rfl) rfl (sD (nS (tT (rB (rS (U2 (rB (rS (A6 (rT rfl) ?_))))))))))))))
 (exact ⟨rfl, by rw [decide_eq_false (fun he => by subst he; rw [hX] at hY; obtain ⟨g1, g2⟩ := Prod.mk.inj hY; exact heq ⟨g1, g2⟩)], rfl⟩)
 refine Q9 ?_
 (exact ⟨rfl, by rw [decide_eq_true (B6f (by omega) (fun j hjl => hj j (by omega)))], rfl⟩)
def A1l (e : Tm) : Prop := M5 e = true ∧ R8 [] e ∧ Q6 (H2 [] (D3 e)) = true
theorem B6h : ∀ (t : Tm) (d : Int) (ns : List ByteArray), M1 12 14 t d = true → R8 ns t → ∃ g : GE, D3 t = g.tm ∧ g.nt ∧ ∀ x, g.fv x → x ∈ ns := by
 refine Tm.ind fun k nm num ty fr lb ks ih d ns hs hc => ?_
 obtain ⟨_, h14, h3, h4⟩ := V7 hs
 obtain ⟨n1, n2, n3, n4, n5, n6, n7, n8, n9⟩ := U9.1 h3
 rw [R8] at hc
 obtain ⟨c1, c2⟩ := hc
 have hk := (A0B 12 14 ks _).1 h4
 have hnm : ¬(k = 1 ∨ k = 5) → nm = ⟨#[]⟩ := n3
 have hnum : k ≠ 2 → num = 0 := fun h => by have := A4I.1 (n5 h); omega
 have I : ∀ (i : Nat) (hi : i < ks.length), ∃ g : GE, D3 ks[i] = g.tm ∧ g.nt ∧ ∀ x, g.fv x → x ∈ (if k = 5 then nm :: ns else ns) := fun i hi => ih ks[i] (List.getElem_mem hi) _ _ (hk i hi) (A4W c2 _ (List.getElem_mem hi))
 have hkk : k = 1 ∨ k = 2 ∨ k = 3 ∨ k = 4 ∨ k = 5 ∨ k = 6 ∨ k = 7 ∨ k = 8 ∨ k = 9 ∨ k = 10 ∨ k = 11 ∨ k = 12 ∨ k = 13 := by
  unfold E7 at n1
  split at n1
  ·omega
  split at n1
  ·omega
  split at n1
  ·omega
  split at n1
  ·omega
  ·omega
 rw [D3, A1R]
 have L0 : E7 k = 0 → ks = [] := fun h => List.length_eq_zero_iff.1 (by omega)
 have L1 : E7 k = 1 → ∃ a, ks = [a] := fun h => by
  match ks, (show ks.length = 1 by omega) with
  | [a], _ => exact ⟨a, rfl⟩
 have L2 : E7 k = 2 → ∃ a b, ks = [a, b] := fun h => by
  match ks, (show ks.length = 2 by omega) with
  | [a, b], _ => exact ⟨a, b, rfl⟩
 have L3 : E7 k = 3 → ∃ a b c, ks = [a, b, c] := fun h => by
  match ks, (show ks.length = 3 by omega) with
  | [a, b, c], _ => exact ⟨a, b, c, rfl⟩
 clear ih h3 n1 n2 n4 n5 n6 n7 n8 n9 hs h4 hk c2 n3
 rcases hkk with rfl | rfl | rfl | rfl | rfl | rfl | rfl | rfl | rfl | rfl | rfl | rfl | rfl
 ·rw [L0 rfl, hnum (by decide)]
  exact ⟨.var nm, by simp [GE.tm], trivial, fun x hx => by have hx : nm = x := hx; rw [← hx]; exact c1 rfl⟩
 ·rw [L0 rfl, hnm (by decide)]
  exact ⟨.num num, by simp [GE.tm], trivial, fun x hx => hx.elim⟩
 ·rw [L0 rfl, hnm (by decide), hnum (by decide)]
  exact ⟨.tru true, by simp [GE.tm], trivial, fun x hx => hx.elim⟩
 ·rw [L0 rfl, hnm (by decide), hnum (by decide)]
  exact ⟨.tru false, by simp [GE.tm], trivial, fun x hx => hx.elim⟩
 ·obtain ⟨a, rfl⟩ := L1 rfl
  rw [hnum (by decide)]
  obtain ⟨g, g1, g2, g3⟩ := I 0 (by simp)
  have g1 : D3 a = g.tm := g1
  rw [if_pos rfl] at g3
  exact ⟨.lam nm .any g, by simp [GE.tm, g1]; rfl, ⟨rfl, g2⟩, fun x hx => by
   have hx : nm ≠ x ∧ g.fv x := hx
   rcases List.mem_cons.1 (g3 x hx.2) with h | h
   ·exact absurd h.symm hx.1
   ·exact h⟩
 ·obtain ⟨a, b, rfl⟩ := L2 rfl
  rw [hnum (by decide), hnm (by decide)]
  obtain ⟨g, g1, g2, g3⟩ := I 0 (by simp)
  obtain ⟨g', g1', g2', g3'⟩ := I 1 (by simp)
  have g1 : D3 a = g.tm := g1
  have g1' : D3 b = g'.tm := g1'
  exact ⟨.app g g', by simp [GE.tm, g1, g1'], ⟨g2, g2'⟩, fun x hx => hx.elim (fun h => g3 x h) (fun h => g3' x h)⟩
 ·obtain ⟨a, b, rfl⟩ := L2 rfl
  rw [hnum (by decide), hnm (by decide)]
  obtain ⟨g, g1, g2, g3⟩ := I 0 (by simp)
  obtain ⟨g', g1', g2', g3'⟩ := I 1 (by simp)
  have g1 : D3 a = g.tm := g1
  have g1' : D3 b = g'.tm := g1'
  exact ⟨.ar false g g', by simp [GE.tm, g1, g1'], ⟨g2, g2'⟩, fun x hx => hx.elim (fun h => g3 x h) (fun h => g3' x h)⟩
 ·obtain ⟨a, b, rfl⟩ := L2 rfl
  rw [hnum (by decide), hnm (by decide)]
  obtain ⟨g, g1, g2, g3⟩ := I 0 (by simp)
  obtain ⟨g', g1', g2', g3'⟩ := I 1 (by simp)
  have g1 : D3 a = g.tm := g1
  have g1' : D3 b = g'.tm := g1'
  exact ⟨.ar true g g', by simp [GE.tm, g1, g1'], ⟨g2, g2'⟩, fun x hx => hx.elim (fun h => g3 x h) (fun h => g3' x h)⟩
 ·obtain ⟨a, b, c, rfl⟩ := L3 rfl
  rw [hnum (by decide), hnm (by decide)]
  obtain ⟨g, g1, g2, g3⟩ := I 0 (by simp)
  obtain ⟨g', g1', g2', g3'⟩ := I 1 (by simp)
  obtain ⟨g'', g1'', g2'', g3''⟩ := I 2 (by simp)
  have g1 : D3 a = g.tm := g1
  have g1' : D3 b = g'.tm := g1'
  have g1'' : D3 c = g''.tm := g1''
  exact ⟨.ite g g' g'', by simp [GE.tm, g1, g1', g1''], ⟨g2, g2', g2''⟩, fun x hx => hx.elim (fun h => g3 x h) (fun h => h.elim (fun h => g3' x h) (fun h => g3'' x h))⟩
 ·obtain ⟨a, b, rfl⟩ := L2 rfl
  rw [hnum (by decide), hnm (by decide)]
  obtain ⟨g, g1, g2, g3⟩ := I 0 (by simp)
  obtain ⟨g', g1', g2', g3'⟩ := I 1 (by simp)
  have g1 : D3 a = g.tm := g1
  have g1' : D3 b = g'.tm := g1'
  exact ⟨.pair g g', by simp [GE.tm, g1, g1'], ⟨g2, g2'⟩, fun x hx => hx.elim (fun h => g3 x h) (fun h => g3' x h)⟩
 ·obtain ⟨a, rfl⟩ := L1 rfl
  rw [hnum (by decide), hnm (by decide)]
  obtain ⟨g, g1, g2, g3⟩ := I 0 (by simp)
  have g1 : D3 a = g.tm := g1
  exact ⟨.part false g, by simp [GE.tm, g1], g2, fun x hx => g3 x hx⟩
 ·obtain ⟨a, rfl⟩ := L1 rfl
  rw [hnum (by decide), hnm (by decide)]
  obtain ⟨g, g1, g2, g3⟩ := I 0 (by simp)
  have g1 : D3 a = g.tm := g1
  exact ⟨.part true g, by simp [GE.tm, g1], g2, fun x hx => g3 x hx⟩
 ·obtain ⟨a, rfl⟩ := L1 rfl
  obtain ⟨g, g1, g2, g3⟩ := I 0 (by simp)
  have g1 : D3 a = g.tm := g1
  exact ⟨g, by simp [g1], g2, fun x hx => g3 x hx⟩
theorem B0P {e : Tm} (h : A1l e) : ∃ g : GE, D3 e = g.tm ∧ g.nt ∧ g.cl ∧ N0 g.tm = true ∧ H2 [] (D3 e) = D1 [] g := by
 obtain ⟨h1, h2, _⟩ := h
 obtain ⟨g, g1, g2, g3⟩ := B6h e 1 [] ((A0E e).1 h1).1 h2
 exact ⟨g, g1, g2, fun x hx => (by cases g3 x hx), by rw [← g1]; exact A91 h1, by rw [g1, B5s g [] g2]⟩
theorem A47 {c : J0} {t : Nat} (h : Q6 c = true) (ht : t ≤ 2000) : Q7 c (t : Int) = E8 c t ⟨0, [], [], []⟩ := by
 unfold Q7; rw [if_pos ⟨h, by omega, by omega⟩]; rfl
theorem B6i {e : Tm} (h : A1l e) : (Q7 (H2 [] (D3 e)) 2000).2.1 ≠ 3 ∧ ((Q7 (H2 [] (D3 e)) 2000).2.1 = 5 ∨ (Y5 e 300).2.1 = 5 ∨ (Y5 e 300).2.1 = 4 ∨
  ((Q7 (H2 [] (D3 e)) 2000).2.1 = (Y5 e 300).2.1 ∧ (Q7 (H2 [] (D3 e)) 2000).2.2 = (Y5 e 300).2.2 ∧ (Q7 (H2 [] (D3 e)) 2000).1 = (Y5 e 300).1)) := by
 obtain ⟨g, g1, g2, g3, g4, g5⟩ := B0P h
 have hR : Q7 (H2 [] (D3 e)) 2000 = E8 (D1 [] g) 2000 ⟨0, [], [], []⟩ := by rw [← g5]; exact A47 (t := 2000) h.2.2 (Nat.le_refl _)
 have hok : (M5 e || N0 e) = true := by rw [h.1]; rfl
 have hB : U1 (D3 e) 300 = ((J4 300 g.tm).1, (J4 300 g.tm).2.1, (J4 300 g.tm).2.2.1) := by unfold U1; rw [if_pos (by decide), g1]; rfl
 rw [hR]
 refine ⟨by rcases B0n g2 g3 2000 with h | h | h <;> rw [h] <;> decide, ?_⟩
 rcases B5r g2 g3 g4 2000 300 with k | k | k | ⟨k1, k2, k3, k4, k5⟩ | ⟨k1, k2, k3, k4⟩
 ·exact .inl k
 ·refine .inr (.inr (.inl ?_)); rw [A4U hok (by rw [hB]; show (J4 300 g.tm).2.1 ≠ 0; omega), hB]; exact k
 ·refine .inr (.inl ?_); rw [A4U hok (by rw [hB]; show (J4 300 g.tm).2.1 ≠ 0; omega), hB]; exact k
 ·refine .inr (.inr (.inr ?_)); rw [A94 hok (by rw [hB]; exact k3), hB]; exact ⟨k1, by rw [k2]; exact k4.symm, k5⟩
 ·refine .inr (.inr (.inr ?_)); rw [A4U hok (by rw [hB]; show (J4 300 g.tm).2.1 ≠ 0; omega), hB]; exact ⟨by rw [k1]; exact k2.symm, k3, k4⟩
def A0K (a b : Tm) : Tm := .mk 11 ⟨⟨[]⟩⟩ 0 B8 B8 0 [.mk 10 ⟨⟨[]⟩⟩ 0 B8 B8 0 [a, b]]
theorem A66 (a b : Tm) : H2 [] (D3 (A0K a b)) = H2 [] (D3 a) ++ (H2 [] (D3 b) ++ [(11, 0), (12, 0)]) := by
 simp [A0K, D3, I3, H2, A0Y, N7, V3]
theorem B6j {D N : Int} : ∀ (t : Tm) (d d' : Int), d' ≤ d → M1 D N t d = true → M1 D N t d' = true := by
 refine Tm.ind fun k nm num ty fr lb ks ih d d' hd h => ?_
 obtain ⟨h1, h2, h3, h4⟩ := V7 h
 rw [M1]
 simp only [Bool.and_eq_true, decide_eq_true_eq]
 exact ⟨⟨⟨by omega, h2⟩, h3⟩, (A0B D N ks _).2 fun i hi => ih ks[i] (List.getElem_mem hi) _ _ (by omega) ((A0B D N ks _).1 h4 i hi)⟩
theorem B0Q {a b : Tm} (h : A1l (A0K a b)) : A1l b := by
 obtain ⟨h1, h2, h3⟩ := h
 obtain ⟨s1, s2⟩ := (A0E _).1 h1
 unfold A0K at s1 s2 h2
 obtain ⟨_, _, _, s4⟩ := V7 s1
 rw [N6, Bool.and_eq_true] at s4
 obtain ⟨_, _, _, s5⟩ := V7 s4.1
 rw [N6, N6, Bool.and_eq_true, Bool.and_eq_true] at s5
 simp only [R8, S8] at h2
 refine ⟨(A0E _).2 ⟨B6j b _ 1 (by omega) s5.2.1, ?_⟩, ?_, ?_⟩
 ·simp only [E6, I2] at s2; omega
 ·exact h2.2.1.2.2.1
 ·rw [A66] at h3; exact B53 h3 (B0J [] _) (B0L [] _)
theorem B6k {a b : Tm} (ha : A1l a) (hab : A1l (A0K a b)) :
  (H2 [] (D3 (A0K a b))).length = (H2 [] (D3 a)).length + (H2 [] (D3 b)).length + 2 ∧
  ((Q7 (H2 [] (D3 b)) 500).2.1 ≠ 0 ∨ (Q7 (H2 [] (D3 a)) 500).2.1 = 5 ∨ Q7 (H2 [] (D3 (A0K a b))) 2000 = Q7 (H2 [] (D3 a)) 500) := by
 have hb := B0Q hab
 refine ⟨by rw [A66]; simp only [List.length_append, List.length_cons, List.length_nil]; omega, ?_⟩
 obtain ⟨g, g1, g2, g3, g4, g5⟩ := B0P ha
 have R1 := A47 (t := 500) ha.2.2 (by omega)
 have R2 := A47 (t := 500) hb.2.2 (by omega)
 have R3 := A47 (t := 2000) hab.2.2 (by omega)
 have e1 : ((500 : Nat) : Int) = 500 := rfl
 have e2 : ((2000 : Nat) : Int) = 2000 := rfl
 rw [e1] at R1 R2
 rw [e2] at R3
 rw [R1, R2, R3, A66]
 by_cases hm : (E8 (H2 [] (D3 b)) 500 ⟨0, [], [], []⟩).2.1 = 0
 ·right
  exact B54 ha.2.2 hb.2.2 (by rw [g5]; exact B0n g2 g3 500) hm
 ·exact .inl hm
def A2J (e : Tm) (l : J0) (ok : Bool) : Prop := (A1l e ∧ l = H2 [] (D3 e) ∧ ok = true) ∨ (¬A1l e ∧ l = [] ∧ ok = false)
theorem A48 (e : Tm) : ∃ l ok, A2J e l ok := by
 by_cases h : A1l e
 ·exact ⟨_, _, .inl ⟨h, rfl, rfl⟩⟩
 ·exact ⟨_, _, .inr ⟨h, rfl, rfl⟩⟩
theorem A2J.no {e : Tm} {l : J0} {ok : Bool} (h : A2J e l ok) (hn : ¬A1l e) : l = [] ∧ ok = false := by
 rcases h with ⟨h, _⟩ | ⟨_, h⟩
 ·exact absurd h hn
 ·exact h
theorem A2J.yes {e : Tm} {l : J0} {ok : Bool} (h : A2J e l ok) (hn : A1l e) : l = H2 [] (D3 e) ∧ ok = true := by
 rcases h with ⟨_, h⟩ | ⟨h, _⟩
 ·exact h
 ·exact absurd hn h
def CtR (l : J0) (ok : Bool) : IM → Value → Prop := fun G' v => ∃ p c, v = .tuple ⟨[.slice p l.length c, .bool ok]⟩ ∧ T0 G' l p l.length c
theorem A3j (G : IM) (p : Option Addr) : T0 G [] p 0 0 := ⟨⟨⟨rfl, Nat.le_refl _, by unfold maxLen; omega, .inl rfl⟩, rfl, by simp, by simp⟩, rfl, by simp⟩
theorem B0R : A2F [] := fun x hx => by cases hx
theorem B6l : BdS ⟨⟨[]⟩⟩ [] := fun c => ⟨fun h => (by cases h), fun h => (by cases h)⟩
theorem B0S {s : ByteArray} : s = ⟨⟨[]⟩⟩ ↔ s.size = 0 := by
 constructor
 ·rintro rfl; rfl
 ·intro h
  obtain ⟨⟨l⟩⟩ := s
  have : l.length = 0 := h
  rw [List.length_eq_zero_iff.1 this]
theorem B6m {e : Tm} (h : M5 e = true) : M1 40 13 (D3 e) 1 = true := ((A4o _).1 (A91 h)).1
theorem B6n (l1 l2 : J0) (G : IM) (p q : Option Addr) (n m c d : Nat) (h1 : T0 G l1 p n c) (h2 : T0 G l2 q m d) : Fn Tryz.prog 27 [.slice p n c, .slice q m d] [] G (H3 (.bool (decide (l1 = l2))) G) := by
 refine B7 Tryz.func27 rfl Tryz.ntmps27 Tryz.results27 rfl ?_
 intro w0
 refine tS (tR (sQ (qA rfl) rfl (sD (nS (tS (tR (sQ (qM rfl) rfl (sQ (qM rfl) rfl ?_))))))))
 refine F0 rfl ((B6g l1 l2 _ _ _ _ _ _ _ h1 h2)) rfl rfl ?_
 refine sQ (qA rfl) rfl (sD (nS (tT (A6 (rT rfl) ?_))))
 (exact ⟨rfl, rfl, rfl⟩)
theorem A11 (e : Tm) (G : IM) (cells : List Value) (l : J0) (ok : Bool) (h : A2J e l ok) (hts : e.small) (hr : B1 G e cells) : Fn Tryz.prog 25 [.agg ⟨cells⟩] [] G (I9 (CtR l ok)) := by
 have hl := hr.len
 have hone := hr.one
 have hw := A8i e G cells hr
 have hv1 := fun h : M5 e = true => (A0E e).1 h
 have hbs := (A3O e hts).2
 have n1 : M5 e = false → l = [] ∧ ok = false := fun hf => h.no (fun hc => by rw [hc.1] at hf; cases hf)
 have n2 : ¬R8 [] e → l = [] ∧ ok = false := fun hf => h.no (fun hc => hf hc.2.1)
 have n3 : Q6 (H2 [] (D3 e)) = false → l = [] ∧ ok = false := fun hf => h.no (fun hc => by rw [hc.2.2] at hf; cases hf)
 have n4 : M5 e = true → R8 [] e → Q6 (H2 [] (D3 e)) = true → l = H2 [] (D3 e) ∧ ok = true := fun a b c => h.yes ⟨a, b, c⟩
 refine B7 Tryz.func25 rfl Tryz.ntmps25 Tryz.results25 rfl ?_
 intro w0
 refine tS (tR ?_)
 refine sE (D5 rfl rfl) rfl (fun b3 => ?_)
 refine sQ (qA rfl) rfl (sQ (qA rfl) rfl (sD (nS (tS (tS (tR ?_))))))
 refine sL (A9 rfl rfl (C7 (by repeat first | exact mH | apply mT)) hl) rfl rfl ?_
 refine H1 rfl (hw) rfl rfl (fun h12 => ?_) (fun h12 => ?_)
 refine sQ (M4 rfl) rfl (sQ (qM rfl) rfl ?_)
 refine sL (A9 rfl rfl (C7 (by repeat first | exact mH | apply mT)) hl) rfl rfl ?_
 (have hv2 := hv1 (by assumption); refine D2 rfl (B5K e 1 G cells hv2.1 (by omega) hr) (List.Perm.refl _) rfl rfl (fun v G1 outs hle1 hh => ?_); obtain ⟨hG, rfl, s, rfl, hs⟩ := hh; replace hG := hG.symm; subst hG)
 refine sB (A1K rfl rfl) rfl rfl (fun hsn => ?_) (fun hsn => ?_)
 refine sQ (D7 rfl rfl) rfl (sD (nS (qT rfl (tS (tR (sQ (qA rfl) rfl (sQ (qA rfl) rfl (sD (nS (tT (rS ?_)))))))))))
 refine H9 (rT rfl) (rT rfl) ?_
 (obtain ⟨rfl, rfl⟩ := n2 (fun hc => hsn (hs.2 hc)); exact ⟨rfl, none, 0, rfl, A3j _ _⟩)
 refine sQ (D7 rfl rfl) rfl (sD (nS (cF rfl (tK (nS (tS (tR ?_)))))))
 refine sL (A9 rfl rfl (C7 (by repeat first | exact mH | apply mT)) hl) rfl rfl ?_
 (have hcl := hs.1 (Classical.not_not.1 hsn); refine I5 rfl (A6i e G cells 12 14 hv2.1 hts hr) rfl rfl (fun v G3 hle3 hh => ?_); obtain ⟨cb, F3, rfl, hs3, hn3⟩ := hh)
 (have hC := B58 (D3 e) 1 [] G3 cb (B6m (by assumption)) B0R (A63 e 1 [] hv2.1 hcl) (by simp only [List.length_nil]; omega) (hs3.R.mono (C4.le _ _)); refine D2 rfl hC (List.Perm.refl _) rfl rfl (fun v G4 outs hle4 hh => ?_); obtain ⟨p4, m4, c4, x4, rfl, rfl, ho4, h41, h42⟩ := hh; obtain rfl : m4 = (H2 [] (D3 e)).length := ho4.1; refine Q8 (by repeat (first | exact Pk.here | apply Pk.there)) (fun G5 hle5 hsl5 hno5 => ?_); have hR5 := ho4.r hsl5)
 refine sQ (qA rfl) rfl (sD (nS (tS (tS (tR (sQ (qM rfl) rfl ?_))))))
 refine H1 rfl ((A6l (H2 [] (D3 e)) _ _ _ _ hR5)) rfl rfl (fun h50 => ?_) (fun h50 => ?_)
 refine sQ (M4 rfl) rfl (sD (nS (cF rfl (tK (nS (tS (tR (sQ (qM rfl) rfl (sQ (qA rfl) rfl (sQ (qA rfl) rfl (sD (nS (tT ?_)))))))))))))
 refine H9 (rT rfl) (rT rfl) ?_
 (obtain ⟨rfl, rfl⟩ := n4 (by assumption) hcl (by assumption); exact ⟨rfl, _, _, rfl, hR5⟩)
 refine sQ (O5 rfl) rfl (sD (nS (qT rfl (tS (tR (sQ (qA rfl) rfl (sQ (qA rfl) rfl (sD (nS (tT (rS ?_)))))))))))
 refine H9 (rT rfl) (rT rfl) ?_
 (obtain ⟨rfl, rfl⟩ := n3 (by assumption); exact ⟨rfl, none, 0, rfl, A3j _ _⟩)
 refine R6 ?_
 refine H9 (rT rfl) (rT rfl) ?_
 (obtain ⟨rfl, rfl⟩ := n1 (by assumption); exact ⟨rfl, none, 0, rfl, A3j _ _⟩)
theorem A37 (e : Tm) (G : IM) (cells : List Value) (l : J0) (ok : Bool) (h : A2J e l ok) (hts : e.small) (hcnt : E6 e ≤ 4294967296) (hr : B1 G e cells) : Fn Tryz.prog 26 [.agg ⟨cells⟩] [] G (I9 (CtR l ok)) := by
 have hl := hr.len
 have hone := hr.one
 have hw := A4x e G cells hcnt hr
 have hv1 := fun h : M5 e = true => (A0E e).1 h
 have hbs := (A3O e hts).2
 have n1 : M5 e = false → l = [] ∧ ok = false := fun hf => h.no (fun hc => by rw [hc.1] at hf; cases hf)
 have n2 : ¬R8 [] e → l = [] ∧ ok = false := fun hf => h.no (fun hc => hf hc.2.1)
 have n3 : Q6 (H2 [] (D3 e)) = false → l = [] ∧ ok = false := fun hf => h.no (fun hc => by rw [hc.2.2] at hf; cases hf)
 have n4 : M5 e = true → R8 [] e → Q6 (H2 [] (D3 e)) = true → l = H2 [] (D3 e) ∧ ok = true := fun a b c => h.yes ⟨a, b, c⟩
 refine B7 Tryz.func26 rfl Tryz.ntmps26 Tryz.results26 rfl ?_
 intro w0
 refine tS (tR ?_)
 refine sE (D5 rfl rfl) rfl (fun b3 => ?_)
 refine sQ (qA rfl) rfl (sQ (qA rfl) rfl (sD (nS (tS (tS (tR ?_))))))
 refine sL (A9 rfl rfl (C7 (by repeat first | exact mH | apply mT)) hl) rfl rfl ?_
 refine H1 rfl (hw) rfl rfl (fun h12 => ?_) (fun h12 => ?_)
 refine sQ (M4 rfl) rfl (sQ (qM rfl) rfl ?_)
 refine sL (A9 rfl rfl (C7 (by repeat first | exact mH | apply mT)) hl) rfl rfl ?_
 (have hv2 := hv1 (by assumption); refine D2 rfl (B5I e 1 ⟨⟨[]⟩⟩ ⟨⟨[]⟩⟩ [] G cells hv2.1 (by show 0 + _ ≤ _; omega) (by show 0 + _ ≤ _; omega) B6l hr) (List.Perm.refl _) rfl rfl (fun v G1 outs hle1 hh => ?_); obtain ⟨hG, rfl, s, rfl, hsz, hs⟩ := hh; replace hG := hG.symm; subst hG)
 refine sB (A1K rfl rfl) rfl rfl (fun hsn => ?_) (fun hsn => ?_)
 refine sQ (D7 rfl rfl) rfl (sD (nS (qT rfl (tS (tR ?_)))))
 (refine E0 (D0 rfl rfl rfl (by omega) (by unfold maxLen; omega) rfl) rfl ?_; rintro _ ⟨b24, rfl⟩)
 refine sQ (qA rfl) rfl (sQ (qA rfl) rfl (sD (nS (tT (rS ?_)))))
 refine H9 (rT rfl) (rT rfl) ?_
 (obtain ⟨rfl, rfl⟩ := n2 (fun hc => hsn (B0S.2 (hs.2 ⟨rfl, hc⟩))); exact ⟨rfl, _, 0, rfl, A3j _ _⟩)
 refine sQ (D7 rfl rfl) rfl (sD (nS (cF rfl (tK (nS (tS (tR ?_)))))))
 refine sL (A9 rfl rfl (C7 (by repeat first | exact mH | apply mT)) hl) rfl rfl ?_
 (have hcl := (hs.1 (B0S.1 (Classical.not_not.1 hsn))).2; refine I5 rfl (B3q 12 14 e 1 G cells hv2.1 hts hr) rfl rfl (fun v G3 hle3 hh => ?_); obtain ⟨cb, F3, rfl, hs3, hn3⟩ := hh)
 (have hC := B5M (D3 e) [] G3 cb (A8V 12 14 e 1 hv2.1) (B0C 12 14 e 1 hv2.1) B0R (A63 e 1 [] hv2.1 hcl) (by simp only [List.length_nil]; omega) (hs3.R.mono (C4.le _ _)); refine D2 rfl hC (List.Perm.refl _) rfl rfl (fun v G4 outs hle4 hh => ?_); obtain ⟨hG4, p4, m4, c4, x4, rfl, rfl, ho4, h41, h42⟩ := hh; obtain rfl : m4 = (H2 [] (D3 e)).length := ho4.1; refine Q8 (by repeat (first | exact Pk.here | apply Pk.there)) (fun G5 hle5 hsl5 hno5 => ?_); have hR5 := ho4.r hsl5)
 refine sQ (qA rfl) rfl (sD (nS (tS (tS (tR (sQ (qM rfl) rfl ?_))))))
 refine H1 rfl ((B3t (H2 [] (D3 e)) _ _ _ _ hR5)) rfl rfl (fun h51 => ?_) (fun h51 => ?_)
 refine sQ (M4 rfl) rfl (sD (nS (cF rfl (tK (nS (tS (tR (sQ (qM rfl) rfl (sQ (qA rfl) rfl (sQ (qA rfl) rfl (sD (nS (tT ?_)))))))))))))
 refine H9 (rT rfl) (rT rfl) ?_
 (obtain ⟨rfl, rfl⟩ := n4 (by assumption) hcl (by assumption); exact ⟨rfl, _, _, rfl, hR5⟩)
 refine sQ (O5 rfl) rfl (sD (nS (qT rfl (tS (tR ?_)))))
 (refine E0 (D0 rfl rfl rfl (by omega) (by unfold maxLen; omega) rfl) rfl ?_; rintro _ ⟨b74, rfl⟩)
 refine sQ (qA rfl) rfl (sQ (qA rfl) rfl (sD (nS (tT (rS ?_)))))
 refine H9 (rT rfl) (rT rfl) ?_
 (obtain ⟨rfl, rfl⟩ := n3 (by assumption); exact ⟨rfl, _, 0, rfl, A3j _ _⟩)
 refine sQ (O5 rfl) rfl (sQ (qM rfl) rfl (sK rfl rfl (sK rfl rfl (sK rfl rfl (sQ (C1 rfl rfl) rfl (sD (nS (qT rfl (tS (tR ?_))))))))))
 (refine E0 (D0 rfl rfl rfl (by omega) (by unfold maxLen; omega) rfl) rfl ?_; rintro _ ⟨b94, rfl⟩)
 refine sQ (qA rfl) rfl (sQ (qA rfl) rfl (sD (nS (tT (rS ?_)))))
 refine H9 (rT rfl) (rT rfl) ?_
 (obtain ⟨rfl, rfl⟩ := n1 (by assumption); exact ⟨rfl, _, 0, rfl, A3j _ _⟩)
def B7O (G : IM) : IM → Value → List A4 → Prop := I9 fun G' v => ∃ a ca b cb f, v = .tuple ⟨[.agg ⟨ca⟩, .agg ⟨cb⟩, .int .i64 f]⟩ ∧ B1 G' a ca ∧ a.fit 1100 ∧ B1 G' b cb ∧ b.fit 1100 ∧ C6 f
def B7P (G : IM) : IM → Value → List A4 → Prop := I9 fun G' v => ∃ a ca b cb d cd, v = .tuple ⟨[.agg ⟨ca⟩, .agg ⟨cb⟩, .agg ⟨cd⟩]⟩ ∧ B1 G' a ca ∧ a.fit 1100 ∧ B1 G' b cb ∧ b.fit 1100 ∧ B1 G' d cd ∧ d.fit 1100
def B7Q (N : Nat) (G : IM) : IM → Value → List A4 → Prop := I9 fun G' v => ∃ a ca f, v = .tuple ⟨[.agg ⟨ca⟩, .int .i64 f]⟩ ∧ B1 G' a ca ∧ a.fit N ∧ C6 f
def B6o (N : Nat) : IM → Value → List A4 → Prop := I9 fun G' v => ∃ e cells, v = .agg ⟨cells⟩ ∧ B1 G' e cells ∧ e.fit N
theorem A67 (G : IM) (q : Option Addr) (n c : Nat) (bs : List UInt8) (hb : Sl G q n c 1 (N1 bs)) : Fn Tryz.prog 24 [.slice q n c] [] G (B6o 1100) := by
 refine B7 Tryz.func24 rfl Tryz.ntmps24 Tryz.results24 rfl ?_
 intro w0
 refine tS (tR ?_)
 refine sE (B6 rfl) rfl (fun b3 => ?_)
 refine sD (nS (tS (tR (sQ (qM rfl) rfl ?_))))
 (refine D2 rfl (B28 G q n c bs hb) (List.Perm.refl _) rfl rfl (fun v G1 outs hle1 hh => ?_); obtain ⟨rfl, br, pb, nb, cb, bs', rfl, rfl, hnb, hb'⟩ := hh)
 refine sQ (qA rfl) rfl (sD (nS (tS (tR (sQ (qM rfl) rfl ?_)))))
 (have hcall := B42 br pb nb cb bs' hnb 0 _ hb' (by omega); refine D2 rfl hcall (Pk.perm (by repeat (first | exact Pk.here | apply Pk.there))) rfl rfl (fun v Gn outs hle1 hh => ?_); obtain ⟨p1, hp11, hp12, rfl, e0, ce0, rfl, hr0, hf0⟩ := hh; replace hb' := hb'.mono hle1; have hl0 := hr0.len; have ho0 := hr0.one)
 refine sE (B6 rfl) rfl (fun b17 => ?_)
 refine sS rfl rfl rfl hl0 ho0 rfl ?_ (hu := by exact I4 hl0.symm)
 refine sD (nS (tS (tS (tR (sQ (qM rfl) rfl ?_)))))
 (refine D2 rfl (X2 _ br pb nb cb (p1) bs' 3 hb' hnb (by omega)) (Pk.perm (by repeat (first | exact Pk.here | apply Pk.there))) rfl rfl (fun v Gp outs hle25 hh => ?_); obtain ⟨rfl, rfl, j25, rfl, hj25, hk25⟩ := hh; skip)
 replace hr0 := hr0.mono hle25
 replace hb' := hb'.mono hle25
 refine sB (qE rfl rfl) rfl rfl (fun h26 => ?_) (fun h26 => ?_)
 refine sD (nS (qT rfl (tR (sQ (qM rfl) rfl ?_))))
 (refine D2 rfl (B29 br pb nb cb bs' hnb (p1 + 1) _ hb' (by omega)) (Pk.perm (by repeat (first | exact Pk.here | apply Pk.there))) rfl rfl (fun v G3 outs hle3 hh => ?_); obtain ⟨p3, hp31, hp32, rfl, t3, cells3, rfl, hr3, hs3⟩ := hh; replace hb' := hb'.mono hle3; have hf3 : t3.fit 1100 := ⟨A5I t3 (by omega), by have := A3E t3; omega⟩; have hl3 := hr3.len; have ho3 := hr3.one)
 refine A0h rfl rfl rfl hl3 ho3 rfl (by repeat first | exact Sw.here | apply Sw.there) (by exact I4 (by first | exact (hl3.trans hl0.symm).symm | exact hl3.symm | omega)) ?_
 refine sD (nS (tS (tR (sQ (qM rfl) rfl ?_))))
 refine sL (A9 rfl rfl (C7 (by repeat first | exact mH | apply mT)) hl3) rfl rfl ?_
 (have hcall := A8Q br pb nb cb bs' hnb p3 _ hb' (by omega) t3 cells3 1100 hf3 hr3; refine D2 rfl hcall (Pk.perm (by repeat (first | exact Pk.here | apply Pk.there))) rfl rfl (fun v Gn outs hle2 hh => ?_); obtain ⟨p2, hp21, hp22, rfl, e, ce, rfl, hre, hfe⟩ := hh; have hl1 := hre.len; have ho1 := hre.one; replace hb' := hb'.mono hle2)
 refine sS rfl rfl rfl hl1 ho1 rfl ?_ (hu := by exact I4 hl1.symm)
 refine sD (nS (tT ?_))
 refine A6 (rC rfl (A9 rfl rfl (C7 (by repeat first | exact mH | apply mT)) hl1)) ?_
 (exact ⟨rfl, e, ce, rfl, hre, hfe⟩)
 refine sD (nS (cF rfl (tK (nS (tS (tR (sQ (qM rfl) rfl ?_)))))))
 refine sL (A9 rfl rfl (C7 (by repeat first | exact mH | apply mT)) hl0) rfl rfl ?_
 (have hcall := A8Q br pb nb cb bs' hnb (p1 + 1) _ hb' (by omega) e0 ce0 1100 hf0 hr0; refine D2 rfl hcall (Pk.perm (by repeat (first | exact Pk.here | apply Pk.there))) rfl rfl (fun v Gn outs hle2 hh => ?_); obtain ⟨p2, hp21, hp22, rfl, e, ce, rfl, hre, hfe⟩ := hh; have hl1 := hre.len; have ho1 := hre.one; replace hb' := hb'.mono hle2)
 refine sS rfl rfl rfl hl1 ho1 rfl ?_ (hu := by exact I4 hl1.symm)
 refine sD (nS (tT ?_))
 refine A6 (rC rfl (A9 rfl rfl (C7 (by repeat first | exact mH | apply mT)) hl1)) ?_
 (exact ⟨rfl, e, ce, rfl, hre, hfe⟩)
theorem B6p (t : Tm) (G : IM) (cells : List Value) (hl : cells.length = 9) (ho : cells.all (·.oneCell') = true) (h : Fn Tryz.prog 224 [.agg ⟨cells⟩] [] G (H3 (.bool (W0 t)) G)) :
  Fn Tryz.prog 250 [.agg ⟨cells⟩] [] G (T8 (.bool (!W0 t)) [] G) := by
 refine B7 Tryz.func250 rfl Tryz.ntmps250 Tryz.results250 rfl ?_
 intro w0
 refine tS (tR ?_)
 refine sE (D5 rfl rfl) rfl (fun b3 => ?_)
 refine sQ (qA rfl) rfl (sD (nS (tS (tR ?_))))
 refine sL (A9 rfl rfl (C7 (by repeat first | exact mH | apply mT)) hl) rfl rfl ?_
 refine F0 rfl (h) rfl rfl ?_
 refine sQ (A1I rfl) rfl ?_
 refine sQ (qA rfl) rfl (sD (nS (tT (A6 (rT rfl) ?_))))
 (exact ⟨rfl, rfl, rfl⟩)
theorem B6q {k : Int} {nm : ByteArray} {num : Int} {ty fr : Ty} {lb : Int} {ks : List Tm} {A : Bool} (h : ks.all W0 = A) (h1 : k ≠ 14) (h2 : k ≠ 5 ∨ ty.k = 1) : W0 (.mk k nm num ty fr lb ks) = A := by
 rw [W0, decide_eq_true ⟨h1, h2⟩, A6E, h, Bool.true_and]
theorem B6r {k : Int} {nm : ByteArray} {num : Int} {ty fr : Ty} {lb : Int} {ks : List Tm} (h : ¬(k ≠ 14 ∧ (k ≠ 5 ∨ ty.k = 1))) : W0 (.mk k nm num ty fr lb ks) = false := by
 rw [W0, decide_eq_false h, Bool.false_and]
theorem B6s : ∀ (t : Tm) (G : IM) (cells : List Value), B1 G t cells → Fn Tryz.prog 224 [.agg ⟨cells⟩] [] G (H3 (.bool (W0 t)) G) := by
 refine Tm.ind fun k nm num ty fr lb ks ih G cells hr => ?_
 obtain ⟨A, hA⟩ : ∃ A, ks.all W0 = A := ⟨_, rfl⟩
 have hy := @B6q k nm num ty fr lb ks A hA
 have hn := @B6r k nm num ty fr lb ks
 generalize W0 (.mk k nm num ty fr lb ks) = R at hy hn ⊢
 obtain ⟨tk, tks⟩ := ty
 obtain ⟨fk, fks⟩ := fr
 rw [show (Ty.mk tk tks).k = tk from rfl] at hy hn
 obtain ⟨pt, ct, pf, cf, p, c, es, rfl, hk, hnum, hlb, hty, hfr, hsl, hkl⟩ := hr.open9
 have hC := A9h G p ks.length c es hsl 250 [] [] [] W0 ks rfl hA (fun i e he => by
  have hx := hkl.inv he H7
  exact B6p _ G e hx.2.len hx.2.one (ih _ hx.1 G e hx.2))
 refine B7 Tryz.func224 rfl Tryz.ntmps224 Tryz.results224 rfl ?_
 intro w0
 refine tS (tR ?_)
 refine sE (D5 rfl rfl) rfl (fun b3 => ?_)
 refine sQ (qA rfl) rfl (sD (nS (tS (tR (sQ (A3 rfl) rfl (sL (A5 rfl rfl) rfl rfl ?_))))))
 refine sB (P9 rfl rfl) rfl rfl (fun h11 => ?_) (fun h11 => ?_)
 refine sQ (qM rfl) rfl (sQ (A3 rfl) rfl (sL (A5 rfl rfl) rfl rfl ?_))
 refine sB (P9 rfl rfl) rfl rfl (fun h15 => ?_) (fun h15 => ?_)
 refine A05 ?_
 refine A1M rfl hC Z5 rfl rfl ?_
 refine sQ (A1I rfl) rfl ?_
 refine sQ (C1 rfl rfl) rfl (sQ (qA rfl) rfl (sD (nS (tT (A6 (rT rfl) ?_)))))
 (exact ⟨rfl, by rw [hy (by omega) (by omega)]; cases A <;> rfl, rfl⟩)
 refine sQ (qM rfl) rfl (sQ (A3 rfl) rfl (sQ (qF rfl) rfl (sL (A5 rfl rfl) rfl rfl ?_)))
 refine sB (qE rfl rfl) rfl rfl (fun h39 => ?_) (fun h39 => ?_)
 refine sQ (D7 rfl rfl) rfl (sQ (C1 rfl rfl) rfl (sQ (qM rfl) rfl (sQ (A3 rfl) rfl (sL (A5 rfl rfl) rfl rfl ?_))))
 refine A1M rfl hC Z5 rfl rfl ?_
 refine sQ (A1I rfl) rfl ?_
 refine sQ (C1 rfl rfl) rfl (sQ (qA rfl) rfl (sD (nS (tT (A6 (rT rfl) ?_)))))
 (exact ⟨rfl, by rw [hy (by omega) (by omega)]; cases A <;> rfl, rfl⟩)
 refine W2 ?_
 (exact ⟨rfl, by rw [hn (by omega)], rfl⟩)
 refine A09 ?_
 (exact ⟨rfl, by rw [hn (by omega)], rfl⟩)
theorem B0T (t : Tm) (G : IM) (cells : List Value) (hr : B1 G t cells) : Fn Tryz.prog 205 [.agg ⟨cells⟩] [] G (H3 (.bool (Q1 t)) G) := by
 have hRl := hr.len
 have hRo := hr.one
 have hV := A8h t G cells hr
 have hB := B6s t G cells hr
 unfold Q1
 generalize N0 t = a at hV ⊢
 generalize W0 t = b at hB ⊢
 refine B7 Tryz.func205 rfl Tryz.ntmps205 Tryz.results205 rfl ?_
 intro w0
 refine tS (tR ?_)
 refine sE (D5 rfl rfl) rfl (fun b3 => ?_)
 refine sQ (qA rfl) rfl (sD (nS (tS (tR ?_))))
 refine sL (A9 rfl rfl (C7 (by repeat first | exact mH | apply mT)) hRl) rfl rfl ?_
 refine H1 rfl (hV) rfl rfl (fun h10 => ?_) (fun h10 => ?_)
 refine sQ (qM rfl) rfl ?_
 refine sL (A9 rfl rfl (C7 (by repeat first | exact mH | apply mT)) hRl) rfl rfl ?_
 refine H1 rfl (hB) rfl rfl (fun h13 => ?_) (fun h13 => ?_)
 refine sQ (C1 rfl rfl) rfl (sQ (qA rfl) rfl (sD (nS (tT (A6 (rT rfl) ?_)))))
 (simp_all; exact ⟨rfl, rfl, rfl⟩)
 refine sQ (C1 rfl rfl) rfl (sQ (qA rfl) rfl (sD (nS (tT (A6 (rT rfl) ?_)))))
 (simp_all; exact ⟨rfl, rfl, rfl⟩)
 refine sQ (qM rfl) rfl (sK rfl rfl (sK rfl rfl (sQ (D7 rfl rfl) rfl (sQ (qA rfl) rfl (sD (nS (tT (A6 (rT rfl) ?_))))))))
 (simp_all; exact ⟨rfl, rfl, rfl⟩)
theorem B6t (t : Tm) (G : IM) (cells : List Value) (hr : B1 G t cells) : Fn Tryz.prog 233 [.agg ⟨cells⟩] [] G (H3 (.int .i64 (A3a t.k)) G) := by
 obtain ⟨k, nm, num, ⟨tk, tks⟩, ⟨fk, fks⟩, lb, ks⟩ := t
 obtain ⟨pt, ct, pf, cf, p, c, es, rfl, hk, hnum, hlb, hty, hfr, hsl, hkl⟩ := hr.open9
 rw [show (Tm.mk k nm num (.mk tk tks) (.mk fk fks) lb ks).k = k from rfl]
 have hw : ∀ v : Int, (k = 6 → v = 1) → (k = 7 ∨ k = 8 → v = 2) → (k = 9 → v = 3) → (k = 11 ∨ k = 12 → v = 4) → (k ≠ 6 → k ≠ 7 → k ≠ 8 → k ≠ 9 → k ≠ 11 → k ≠ 12 → v = 5) → A3a k = v := by
  intro v h1 h2 h3 h4 h5
  unfold A3a
  repeat' split
  all_goals first | exact (h1 (by assumption)).symm | exact (h2 (by assumption)).symm | exact (h3 (by assumption)).symm | exact (h4 (by assumption)).symm | exact (h5 (by omega) (by omega) (by omega) (by omega) (by omega) (by omega)).symm
 refine B7 Tryz.func233 rfl Tryz.ntmps233 Tryz.results233 rfl ?_
 intro w0
 refine tS (tR ?_)
 refine sE (D5 rfl rfl) rfl (fun b3 => ?_)
 refine sQ (qA rfl) rfl (sD (nS (tS (tS (tR (sQ (A3 rfl) rfl (sL (A5 rfl rfl) rfl rfl (sD (nS ?_)))))))))
 refine B5 (tS (tR (sB (qE rfl rfl) rfl rfl (fun h17 => ?_) (fun h17 => ?_))))
 refine sQ (qA rfl) rfl (sD (nS (qT rfl (tS (tR (sQ (qA rfl) rfl (sD (nS (tT (rB (rS (A6 (rT rfl) ?_))))))))))))
 (exact ⟨rfl, congrArg (Value.int .i64) (Eq.symm (hw _ (by omega) (by omega) (by omega) (by omega) (by omega))), rfl⟩)
 refine sQ (qA rfl) rfl (sD (nS (cF rfl (tS (tS (tR ?_))))))
 refine sB (qE rfl rfl) rfl rfl (fun h39 => ?_) (fun h39 => ?_)
 refine sQ (qA rfl) rfl (sD (nS (qT rfl (tK (nS (qT rfl (tS (tR (sQ (qA rfl) rfl (sD (nS (tT (rB (rS (A6 (rT rfl) ?_)))))))))))))))
 (exact ⟨rfl, congrArg (Value.int .i64) (Eq.symm (hw _ (by omega) (by omega) (by omega) (by omega) (by omega))), rfl⟩)
 refine sQ (qA rfl) rfl (sD (nS (cF rfl (tR ?_))))
 refine sB (qE rfl rfl) rfl rfl (fun h62 => ?_) (fun h62 => ?_)
 refine sQ (qA rfl) rfl (sD (nS (qT rfl (tS (tR (sQ (qA rfl) rfl (sD (nS (tT (rB (rS (A6 (rT rfl) ?_))))))))))))
 (exact ⟨rfl, congrArg (Value.int .i64) (Eq.symm (hw _ (by omega) (by omega) (by omega) (by omega) (by omega))), rfl⟩)
 refine sQ (qA rfl) rfl (sD (nS (cF rfl (tS (tR ?_)))))
 refine sB (qE rfl rfl) rfl rfl (fun h83 => ?_) (fun h83 => ?_)
 refine sQ (qA rfl) rfl (sD (nS (qT rfl (tS (tR (sQ (qA rfl) rfl (sD (nS (tT (rB (rS (A6 (rT rfl) ?_))))))))))))
 (exact ⟨rfl, congrArg (Value.int .i64) (Eq.symm (hw _ (by omega) (by omega) (by omega) (by omega) (by omega))), rfl⟩)
 refine sQ (qA rfl) rfl (sD (nS (cF rfl (tS (tS (tR ?_))))))
 refine sB (qE rfl rfl) rfl rfl (fun h105 => ?_) (fun h105 => ?_)
 refine sQ (qA rfl) rfl (sD (nS (qT rfl (tK (nS (qT rfl (tS (tR (sQ (qA rfl) rfl (sD (nS (tT (rB (rS (A6 (rT rfl) ?_)))))))))))))))
 (exact ⟨rfl, congrArg (Value.int .i64) (Eq.symm (hw _ (by omega) (by omega) (by omega) (by omega) (by omega))), rfl⟩)
 refine sQ (qA rfl) rfl (sD (nS (cF rfl (tR ?_))))
 refine sB (qE rfl rfl) rfl rfl (fun h128 => ?_) (fun h128 => ?_)
 refine sQ (qA rfl) rfl (sD (nS (qT rfl (tS (tR (sQ (qA rfl) rfl (sD (nS (tT (rB (rS (A6 (rT rfl) ?_))))))))))))
 (exact ⟨rfl, congrArg (Value.int .i64) (Eq.symm (hw _ (by omega) (by omega) (by omega) (by omega) (by omega))), rfl⟩)
 refine sQ (qA rfl) rfl (sD (nS (cF rfl (tK (C8 (nS (tS (tR (sQ (qA rfl) rfl (sD (nS (tT (A6 (rT rfl) ?_)))))))))))))
 (exact ⟨rfl, congrArg (Value.int .i64) (Eq.symm (hw _ (by omega) (by omega) (by omega) (by omega) (by omega))), rfl⟩)
theorem B6u {k : Int} {ks : List Tm} (h : R7 k ks = none) : X5 k ks = (H7, 2, A3a k) := A2B h
theorem B6v : ∀ (t : Tm) (G : IM) (cells : List Value), cv t → I8 t = false → W0 t = true → B1 G t cells → Fn Tryz.prog 208 [.agg ⟨cells⟩] [] G (A28 (K1 t)) := by
 refine Tm.ind fun k nm num ty fr lb ks ih G cells hc hv hb hr => ?_
 have hr0 := hr
 have hN := hc.node.1
 have hkk := hc.node.2
 have hkb := (A1j.1 hb).2
 have hsm := A4J _ hc
 obtain ⟨_, _, _, _, hksm⟩ := A6q.1 hsm
 have hops := hN.ops
 have hle3 := A23 k
 have hkd := @B4b k nm num ty fr lb ks hc hv
 have hrd := @B4u k nm num ty fr lb ks
 have hkidS := fun (i : Nat) => @A6G k nm num ty fr lb ks i
 have hRA := fun h => @B4a k nm num ty fr lb ks G cells hc h hr
 have hW := fun (G1 : IM) (hle : B4 G G1) => B6t _ G1 cells (hr.mono hle)
 have hCt := B4c _ G _ hr
 rw [show (Tm.mk k nm num ty fr lb ks).k = k from rfl] at hW
 rw [show (Tm.mk k nm num ty fr lb ks).k = k from rfl, show (Tm.mk k nm num ty fr lb ks).ks = ks from rfl] at hCt
 obtain ⟨C, hC⟩ : ∃ C : Nat, (if k = 9 then 1 else ks.length : Nat) = C := ⟨_, rfl⟩
 rw [hC] at hCt hkd hrd
 have hkidS' := fun (i : Nat) (hi : i < ks.length) (hn : i < C) => hkidS i hi (by rw [hC]; exact hn)
 have hC9 : C ≤ ks.length := by rw [← hC]; split; (have : E7 k = 3 := by (rename_i h9; rw [h9]; rfl)); omega; omega
 obtain ⟨tk, tks⟩ := ty
 obtain ⟨fk, fks⟩ := fr
 obtain ⟨pt, ct, pf, cf, p, c, es, rfl, hk, hnum, hlb, hty, hfr, hsl, hkl⟩ := hr.open9
 have hn := hsl.le
 have hnc := hsl.sl.2.1
 refine B7 Tryz.func208 rfl Tryz.ntmps208 Tryz.results208 rfl ?_
 intro w0
 refine tS (tR ?_)
 refine sE (D5 rfl rfl) rfl (fun b3 => ?_)
 refine sE (B6 rfl) rfl (fun b4 => ?_)
 refine sQ (qA rfl) rfl (sQ (qA rfl) rfl (sD (nS (tS (tS ?_)))))
 refine I0 I1 rfl ?_
 refine J2 (i := 0) (l' := [tt,ff,ff,ff,ff,ff,ff]) rfl F4 (A3 rfl) rfl (by kernel_rfl) rfl rfl ?_
 refine aL 1 rfl (A5 rfl rfl) rfl ?_
 refine aL 2 rfl (A7 rfl rfl) rfl ?_
 refine aP 6 rfl (qM rfl) rfl ?_
 refine A8 3 ?_
 refine Q5 rfl rfl (hCt) rfl rfl rfl ?_
 refine aP 4 rfl (A1q (l := C) rfl rfl rfl (by omega)) rfl ?_
 refine aP 5 rfl (D8 rfl rfl) rfl ?_
 refine D6 (nS ?_)
 refine B5 ?_
 (refine K4 (fun (i : Nat) => ⟨[(19, .int .i64 (i : Int)), (18, .int .i64 (C : Int)), (17, .slice p C c), (1, .pointer (some ⟨b3, 0, none⟩)), (2, .pointer (some ⟨b4, 0, none⟩))], [.blk b4 [.int .i64 0, .string ⟨⟨[]⟩⟩, .int .i64 0, .int .i64 0, .slice none 0 0, .int .i64 0, .slice none 0 0, .int .i64 0, .slice none 0 0], .blk b3 [.int .i64 k, .string nm, .int .i64 num, .int .i64 tk, .slice pt tks.length ct, .int .i64 fk, .slice pf fks.length cf, .int .i64 lb, .slice p ks.length c]], G⟩) (fun i => i ≤ C ∧ ∀ j, j < i → (h : j < ks.length) → I8 ks[j] = true) (fun i => C - i) 0 ?_ ?_ ?_)
 exact C9
 (exact ⟨Nat.zero_le _, fun j hj => absurd hj (Nat.not_lt_zero j)⟩)
 (rintro i ⟨hi, hj⟩)
 refine tS (tR ?_)
 refine sB (J3 rfl rfl) rfl rfl (fun h29 => ?_) (fun h29 => ?_)
 refine sD (nS (tS (qT rfl (tK (nS (tS ?_))))))
 refine B5 ?_
 refine tS (tR (sQ (qM rfl) rfl ?_))
 (have hiC : i < C := (by omega); obtain ⟨bx, ox, e, rfl, hl, hat, hre, hgb⟩ := hsl.kidTm hkl (i := i) (by omega) (by omega); have heo := hre.one; have hVi := A9k ks[i] G e hre; refine sP (C2 (j := i) rfl rfl rfl hiC) rfl rfl ?_)
 refine sL (A9 rfl rfl (hat _) hl) rfl rfl ?_
 refine sE (B6 rfl) rfl (fun b43 => ?_)
 refine sQ (qA rfl) rfl ?_
 refine sS rfl rfl rfl hl heo rfl ?_ (hu := by exact I4 hl.symm)
 refine sD (nS (tS (tS (tR ?_))))
 refine sL (A9 rfl rfl (C7 (by repeat first | exact mH | apply mT)) hl) rfl rfl ?_
 refine H1 rfl (hVi) rfl rfl (fun h52 => ?_) (fun h52 => ?_)
 refine sD (nS (qT rfl (M7 (M8 (M9 (nS (tR ?_)))))))
 refine sP (H6 rfl rfl (by omega) (by omega)) rfl rfl ?_
 refine sQ (qM rfl) rfl (sD ?_)
 refine K3 (i + 1) ?_ ?_ ?_
 exact C9
 (exact ⟨by omega, fun j hji hl2 => (by by_cases he : j = i; (subst he; assumption); exact hj j (by omega) hl2)⟩)
 (show C - (i + 1) < C - i; omega)
 refine sD (nS (cF rfl (tK (nS (tS (tR ?_))))))
 refine sL (A9 rfl rfl (C7 (by repeat first | exact mH | apply mT)) hl) rfl rfl ?_
 (have hvF : I8 ks[i] = false := (by assumption); obtain ⟨hs1, hs2, hs3⟩ := hkidS' i (by omega) hiC (fun j hji hl2 => hj j hji hl2) hvF; refine I5 rfl (ih ks[i] (List.getElem_mem (by omega)) G e (hkk _ (List.getElem_mem (by omega))) hvF (hkb _ (List.getElem_mem (by omega))) hre) rfl rfl (fun v G1 hle1 hh => ?_); obtain ⟨u, uc, rfl, hru, hu1⟩ := hh; have hul := hru.len; have huo := hru.one; have hClo := B3N G1 _ ks.length c es (hsl.mono hle1) (by omega) (by omega))
 refine sQ (qM rfl) rfl (sQ (pX rfl rfl) rfl (sQ (pX rfl rfl) rfl (sQ (pX rfl rfl) rfl ?_)))
 refine sE (B6 rfl) rfl (fun b81 => ?_)
 refine sS rfl rfl rfl hul huo rfl ?_ (hu := by exact I4 hul.symm)
 refine sQ (qA rfl) rfl (sQ (qA rfl) rfl (sD (nS (tS (tR (sL (A7 rfl rfl) rfl rfl ?_))))))
 refine sE (B6 rfl) rfl (fun b90 => ?_)
 refine B9 ?_
 refine sD (nS (tS (tR (sQ (A3 rfl) rfl (sL (A5 rfl rfl) rfl rfl ?_)))))
 (refine A5r rfl hClo rfl rfl (fun v98 G98 outs98 hle98 h98 => ?_); obtain ⟨hG, p1, c1, rfl, rfl⟩ := h98; replace hG := hG.symm; subst hG; refine B2C (cs := es.flatten) (by repeat (first | exact Pk.here | apply Pk.there)) (by omega) (fun bc Cc hpe hnc1 hcm => ?_); subst hpe)
 replace hru := hru.mono hle98
 refine sQ (A3 rfl) rfl (B9 ?_)
 refine sD (nS (tS (tR (sQ (A3 rfl) rfl (sL (A5 rfl rfl) rfl rfl (sQ (qM rfl) rfl ?_))))))
 refine sL (A9 rfl rfl (C7 (by repeat first | exact mH | apply mT)) hul) rfl rfl ?_
 refine sP (C2 (j := i) rfl rfl rfl (by omega)) rfl rfl ?_
 refine A0h rfl rfl rfl hul huo rfl (by repeat first | exact Sw.here | apply Sw.there) (by exact B2F (by rw [hkl.len]; omega) (fun e he => (hsl.all e he)) hul) ?_
 refine R5 ?_
 (refine B1L (bs := [(bc, (es.set i uc).flatten ++ Cc)]) (Pk.perm (by repeat (first | exact Pk.here | apply Pk.there))) (fun hn2 hd2 hle2 => ?_))
 refine tT (rB (rS (U2 (rB (rS ?_)))))
 refine T9 (rC rfl (A7 rfl rfl)) (rT rfl) (rT rfl) ?_
 (have hks2 := E3.set (j := i) ((hkl.mono hle1).mono hle2) (hru.mono hle2); refine B4d (r' := A0I) hs1 hs2 (B1.put (us := ks.set i u) (es := es.set i uc) hk hnum hlb ((hty.mono hle1).mono hle2) ((hfr.mono hle1).mono hle2) (by rw [List.length_set]) (C5.of (Sl.of_blk (A := []) (by rw [A2q hks2.all, hks2.len, List.length_set]) (by omega) hcm (Wi.in hn2 List.mem_cons_self)) (by rw [hks2.len, List.length_set]) hks2.all (fun e he => by obtain ⟨q, hq⟩ := List.getElem?_of_mem he; exact (hks2.inv hq H7).2.one)) hks2) (fun h1 => by rw [hs3 h1, hu1 h1]))
 refine sD (nS (tS (cF rfl (M7 (M8 (N3 (M9 (nS (tS (tR (sL (A7 rfl rfl) rfl rfl ?_)))))))))))
 focus (have hall : ∀ i, i < C → (hl : i < ks.length) → I8 ks[i] = true := (fun j hjc hl2 => hj j (by omega) hl2); have hk8 := hkd hall; have hrd' := hrd hall; refine I5 rfl (hRA hk8) rfl rfl (fun v G1 hle1 hh => ?_); obtain ⟨u, uc, cc, rfl, hru, hy, hno⟩ := hh; have hul := hru.len; have huo := hru.one; rcases hm : R7 k ks with _ | x; rotate_left; obtain ⟨rfl, rfl⟩ := hy _ hm; rotate_left; obtain rfl := hno hm)
 refine sQ (qM rfl) rfl (sQ (pX rfl rfl) rfl (sQ (pX rfl rfl) rfl ?_))
 refine sE (B6 rfl) rfl (fun b148 => ?_)
 refine sS rfl rfl rfl hul huo rfl ?_ (hu := by exact I4 hul.symm)
 refine sQ (qA rfl) rfl (sD (nS (tS (tS (tR (sQ (qM rfl) rfl ?_))))))
 refine sP (A2R rfl rfl (by omega)) rfl rfl ?_
 refine sD (nS (qT rfl (tS (tR (sQ (D9 rfl rfl) rfl (sL (A7 rfl rfl) rfl rfl ?_))))))
 refine F0 rfl ((hW _ hle1)) rfl rfl ?_
 refine B9 ?_
 refine sQ (qA rfl) rfl (sQ (qA rfl) rfl (sD (nS (tT (rS ?_)))))
 refine T9 (rC rfl (A7 rfl rfl)) (rT rfl) (rT rfl) ?_
 (rw [hrd', B6u hm]; exact A28.mk rfl (Z1 _))
 refine sQ (qM rfl) rfl (sQ (pX rfl rfl) rfl (sQ (pX rfl rfl) rfl ?_))
 refine sE (B6 rfl) rfl (fun b178 => ?_)
 refine sS rfl rfl rfl hul huo rfl ?_ (hu := by exact I4 hul.symm)
 refine sQ (qA rfl) rfl (sD (nS (tS (tS (tR (sQ (qM rfl) rfl ?_))))))
 refine sP (A5n rfl rfl (by omega)) rfl rfl ?_
 refine sD (nS (cF rfl (tK (nS (tS (tR ?_))))))
 refine sL (A9 rfl rfl (C7 (by repeat first | exact mH | apply mT)) hul) rfl rfl ?_
 refine sQ (qM rfl) rfl ?_
 refine sS rfl rfl rfl hul huo rfl ?_ (hu := by exact I4 hul.symm)
 refine sQ (qA rfl) rfl (sQ (qA rfl) rfl (sD (nS (tT ?_))))
 refine T9 (rC rfl (A9 rfl rfl (C7 (by repeat first | exact mH | apply mT)) hul)) (rT rfl) (rT rfl) ?_
 (rw [hrd', A4O hm]; exact A28.mk rfl hru)
theorem B6w (t : Tm) (G : IM) (cells : List Value) (hr : B1 G t cells) : Fn Tryz.prog 184 [.agg ⟨cells⟩] [] G (A0W (H8 t)) := by
 have hRl := hr.len
 have hRo := hr.one
 have hV := B0T t G cells hr
 have hI := A9k t G cells hr
 refine B7 Tryz.func184 rfl Tryz.ntmps184 Tryz.results184 rfl ?_
 intro w0
 refine tS (tR ?_)
 refine sE (D5 rfl rfl) rfl (fun b3 => ?_)
 refine sE (B6 rfl) rfl (fun b4 => ?_)
 refine sQ (qA rfl) rfl (sQ (qA rfl) rfl (sD (nS (tS ?_))))
 refine B5 ?_
 refine tS (tR ?_)
 refine sL (A9 rfl rfl (C7 (by repeat first | exact mH | apply mT)) hRl) rfl rfl ?_
 refine H1 rfl (hV) rfl rfl (fun h14 => ?_) (fun h14 => ?_)
 refine sQ (M4 rfl) rfl (sQ (qA rfl) rfl (sD (nS (cF rfl (tS (tR ?_))))))
 refine sL (A9 rfl rfl (C7 (by repeat first | exact mH | apply mT)) hRl) rfl rfl ?_
 refine H1 rfl (hI) rfl rfl (fun h23 => ?_) (fun h23 => ?_)
 refine sQ (qA rfl) rfl (sD (nS (qT rfl (tS (tR ?_)))))
 refine sL (A9 rfl rfl (C7 (by repeat first | exact mH | apply mT)) hRl) rfl rfl ?_
 (refine I5 rfl (A8d t G cells (A9s (A4P (by assumption)).1) hr) rfl rfl (fun v G1 hle1 hh => ?_); obtain ⟨Z4, F1, rfl, hs1, hn1⟩ := hh; have hul := hs1.R.len; have huo := hs1.R.one)
 refine sS rfl rfl rfl hul huo rfl ?_ (hu := by exact I4 hul.symm)
 refine sQ (qA rfl) rfl (sQ (qA rfl) rfl (sD (nS (tT (rB (rS ?_))))))
 refine T9 (rC rfl (A9 rfl rfl (C7 (by repeat first | exact mH | apply mT)) hul)) (rT rfl) (rT rfl) ?_
 (exact A0W.mk (A9E (by assumption) (by assumption)) (hs1.R.mono (C4.le _ _)))
 refine sQ (qA rfl) rfl (sD (nS (cF rfl (tK (C8 (nS (tS (tR ?_))))))))
 refine sL (A9 rfl rfl (C7 (by repeat first | exact mH | apply mT)) hRl) rfl rfl ?_
 (have hbv := A4P (e := t) (by assumption); refine I5 rfl (B6v t G cells (A6p hbv.1).1 (by assumption) hbv.2 hr) rfl rfl (fun v G1 hle1 hh => ?_); obtain ⟨u, uc, rfl, hru, hu1⟩ := hh; have hul := hru.len; have huo := hru.one; have hVu := B0T u G1 uc hru)
 refine sQ (qM rfl) rfl (sQ (pX rfl rfl) rfl (sQ (pX rfl rfl) rfl (sQ (pX rfl rfl) rfl ?_)))
 refine sE (B6 rfl) rfl (fun b57 => ?_)
 refine sS rfl rfl rfl hul huo rfl ?_ (hu := by exact I4 hul.symm)
 refine sQ (qA rfl) rfl (sQ (qA rfl) rfl (sD (nS (tS ?_))))
 refine B5 ?_
 refine tS (tR (sQ (qM rfl) rfl ?_))
 refine sB (P9 rfl rfl) rfl rfl (fun h68 => ?_) (fun h68 => ?_)
 refine R6 ?_
 refine T9 (rC rfl (A7 rfl rfl)) (rT rfl) (rT rfl) ?_
 (exact A0W.mk (A9F (by assumption) (by assumption) (by omega)) (Z1 _))
 refine sQ (qA rfl) rfl (sD (nS (cF rfl (tS (tR ?_)))))
 refine sL (A9 rfl rfl (C7 (by repeat first | exact mH | apply mT)) hul) rfl rfl ?_
 refine H1 rfl (hVu) rfl rfl (fun h95 => ?_) (fun h95 => ?_)
 refine sQ (M4 rfl) rfl (sQ (qA rfl) rfl (sD (nS (cF rfl (tK (C8 (nS (tS (tR ?_)))))))))
 refine sL (A9 rfl rfl (C7 (by repeat first | exact mH | apply mT)) hul) rfl rfl ?_
 (refine I5 rfl (A8d u G1 uc (A9s (A4P (by assumption)).1) hru) rfl rfl (fun v G2 hle2 hh => ?_); obtain ⟨cs2, F2, rfl, hs2, hn2⟩ := hh; have hwl := hs2.R.len; have hwo := hs2.R.one)
 refine sS rfl rfl rfl hwl hwo rfl ?_ (hu := by exact I4 hwl.symm)
 refine sQ (qA rfl) rfl (sQ (qA rfl) rfl (sD (nS (tT ?_))))
 refine T9 (rC rfl (A9 rfl rfl (C7 (by repeat first | exact mH | apply mT)) hwl)) (rT rfl) (rT rfl) ?_
 (have h9 := hu1 (by omega); subst h9; exact A0W.mk (A6I (by assumption) (by assumption) (by omega) (by assumption)) (hs2.R.mono (C4.le _ _)))
 refine Q9 ?_
 refine T9 (rC rfl (A7 rfl rfl)) (rT rfl) (rT rfl) ?_
 (have h9 := hu1 (by omega); subst h9; exact A0W.mk (A6H (by assumption) (by assumption) (by omega) (by assumption)) (Z1 _))
 refine Q9 ?_
 refine T9 (rC rfl (A7 rfl rfl)) (rT rfl) (rT rfl) ?_
 (exact A0W.mk (B4v (by assumption)) (Z1 _))
section
variable {k : Int} {nm : ByteArray} {num : Int} {ty fr : Ty} {lb : Int} {ks : List Tm}
end
theorem B0U {e : Tm} {fuel : Int} (h : P4 fuel 0 300 = false) : U1 e fuel = (H7, 3, 0) := by
 unfold U1; rw [if_neg (A7z h)]
theorem A68 {e : Tm} {fuel : Int} (h : P4 fuel 0 300 = true) : U1 e fuel = ((J4 fuel.toNat e).1, (J4 fuel.toNat e).2.1, (J4 fuel.toNat e).2.2.1) := by
 unfold U1; rw [if_pos (A5x h)]
theorem B6x (k : Int) (nm : ByteArray) (num : Int) (ty fr : Ty) (lb : Int) (ks : List Tm) (G : IM) (cells : List Value) (hT : A0p G) (hk3 : k = 2 ∨ k = 3 ∨ k = 4) (hn : 0 ≤ num ∧ num ≤ 999) (hr : B1 G (.mk k nm num ty fr lb ks) cells) : Fn Tryz.prog 40 [.agg ⟨cells⟩] [] G (H3 (.string (A29 k num)) G) := by
 obtain ⟨tk, tks⟩ := ty
 obtain ⟨fk, fks⟩ := fr
 obtain ⟨pt, ct, pf, cf, p, c, es, rfl, hk, hnum, hlb, hty, hfr, hsl, hkl⟩ := hr.open9
 have hI := A7Y num G hT hn.1 hn.2
 refine B7 Tryz.func40 rfl Tryz.ntmps40 Tryz.results40 rfl ?_
 intro w0
 refine tS (tR ?_)
 refine sE (D5 rfl rfl) rfl (fun b3 => ?_)
 refine sQ (qA rfl) rfl (sD (nS (tS (tR ?_))))
 refine sQ (A2N rfl rfl) rfl ?_
 refine sQ (qA rfl) rfl (sD (nS (tS (tS (tR (sQ (A3 rfl) rfl (sL (A5 rfl rfl) rfl rfl (sD (nS ?_)))))))))
 refine B5 ?_
 refine tS (tR ?_)
 refine sP (E9 rfl rfl (by omega)) rfl rfl ?_
 refine sQ (qA rfl) rfl (sD (nS (cF rfl (tS (tR ?_)))))
 refine sB (qE rfl rfl) rfl rfl (fun h30 => ?_) (fun h30 => ?_)
 refine sQ (qA rfl) rfl (sD (nS (qT rfl (tS (tR (sQ (A3 rfl) rfl (sL (A5 rfl rfl) rfl rfl ?_)))))))
 refine F0 rfl (hI) rfl rfl ?_
 refine sQ (qA rfl) rfl (sD (nS (tT (rB (rS (A6 (rT rfl) ?_))))))
 (exact ⟨rfl, by unfold A29; rw [if_pos (by omega)]; rfl, rfl⟩)
 refine sQ (qA rfl) rfl (sD (nS (cF rfl (tS (tR ?_)))))
 refine sB (qE rfl rfl) rfl rfl (fun h54 => ?_) (fun h54 => ?_)
 refine sQ (qA rfl) rfl (sD (nS (qT rfl (tS (tR (sQ (qA rfl) rfl (sD (nS (tT (rB (rS (A6 (rT rfl) ?_))))))))))))
 (exact ⟨rfl, by unfold A29; rw [if_neg (by omega), if_pos (by omega)]; rfl, rfl⟩)
 refine sQ (qA rfl) rfl (sD (nS (cF rfl (tS (tR ?_)))))
 refine sP (W9 rfl rfl (by omega)) rfl rfl ?_
 refine sQ (qA rfl) rfl (sD (nS (qT rfl (tS (tR (sQ (qA rfl) rfl (sD (nS (tT (rB (rS (A6 (rT rfl) ?_))))))))))))
 (exact ⟨rfl, by unfold A29; rw [if_neg (by omega), if_neg (by omega)]; rfl, rfl⟩)
theorem B6y : ∀ (t : Tm) (G : IM) (cells : List Value), A0p G → cv t → I8 t = true → B1 G t cells → Fn Tryz.prog 79 [.agg ⟨cells⟩] [] G (H3 (.string (Y3 t)) G) := by
 refine Tm.ind fun k nm num ty fr lb ks ih G cells hT hc hv hr => ?_
 have hr0 := hr
 have hP := A9g _ G _ hr
 obtain ⟨hN, hkk⟩ := hc.node
 have hop := hN.ops
 have h14 : k = 14 → ks.length = 1 := fun h => by rw [h] at hop; have : E7 14 = 1 := rfl; omega
 have hL := fun h => B6x k nm num ty fr lb ks G cells hT h hN.num0 hr
 have hvp := @B4g k nm num ty fr lb ks
 have hvf := @B4h k nm num ty fr lb ks
 have hvc := @B4i k nm num ty fr lb ks
 have hvl := @B4j k nm num ty fr lb ks
 have hvn := @A9j k nm num ty fr lb ks
 have hvy := @A6A k nm num ty fr lb ks
 have hprx := A6y k nm num ty fr lb ks
 have hinj := A6z k nm num ty fr lb ks
 have hleaf : W5 (.mk k nm num ty fr lb ks) = false → k ≠ 14 → k ≠ 10 → k ≠ 5 → k = 2 ∨ k = 3 ∨ k = 4 := by
  intro h1 h2 h3 h4
  have := hvn h3 h1 (by rw [hinj, decide_eq_false (by omega)]; rfl)
  rw [this] at hv
  have := of_decide_eq_true hv
  omega
 have hkv : W5 (.mk k nm num ty fr lb ks) = false → k = 14 → ∀ t ∈ ks, I8 t = true := by
  intro h1 h2 t ht
  cases hi : inj (.mk k nm num ty fr lb ks) with
  | true => have := hvy (.inr (.inr hi)); rw [hv] at this; exact List.all_eq_true.1 this.symm t ht
  | false =>
   have := hvn (by omega) h1 hi
   rw [hv] at this
   have := of_decide_eq_true this.symm
   omega
 generalize hpx : W5 (.mk k nm num ty fr lb ks) = bp at *
 obtain ⟨tk, tks⟩ := ty
 obtain ⟨fk, fks⟩ := fr
 obtain ⟨pt, ct, pf, cf, p, c, es, rfl, hk, hnum, hlb, hty, hfr, hsl, hkl⟩ := hr.open9
 refine B7 Tryz.func79 rfl Tryz.ntmps79 Tryz.results79 rfl ?_
 intro w0
 refine tS (tR ?_)
 refine sE (D5 rfl rfl) rfl (fun b3 => ?_)
 refine sQ (qA rfl) rfl (sD (nS (tS ?_)))
 refine B5 ?_
 refine tS (tR (sQ (A3 rfl) rfl (sL (A5 rfl rfl) rfl rfl ?_)))
 refine sB (qE rfl rfl) rfl rfl (fun h13 => ?_) (fun h13 => ?_)
 refine A2o ?_
 (exact ⟨rfl, congrArg Value.string (hvp (by first | exact .inl (by omega) | exact .inr ⟨by assumption, by assumption⟩)).symm, rfl⟩)
 refine sQ (qM rfl) rfl (sL (A7 rfl rfl) rfl rfl ?_)
 refine H1 rfl (hP) rfl rfl (fun h40 => ?_) (fun h40 => ?_)
 refine sQ (qM rfl) rfl (sQ (A3 rfl) rfl (sQ (qF rfl) rfl (sL (A5 rfl rfl) rfl rfl ?_)))
 refine sB (qE rfl rfl) rfl rfl (fun h45 => ?_) (fun h45 => ?_)
 refine N5 ?_
 (exact ⟨rfl, congrArg Value.string (hvp (by first | exact .inl (by omega) | exact .inr ⟨by assumption, by assumption⟩)).symm, rfl⟩)
 refine A05 ?_
 refine sB (qE rfl rfl) rfl rfl (fun h72 => ?_) (fun h72 => ?_)
 refine R6 ?_
 (exact ⟨rfl, congrArg Value.string (hvf (by rintro (h | ⟨h1, h2⟩) <;> first | omega | exact Bool.noConfusion (h1.symm.trans (show bp = false by assumption)) | (simp only [Ty.k] at h2; omega)) (by first | exact .inl (by omega) | exact .inr (by assumption))).symm, rfl⟩)
 refine sQ (qM rfl) rfl (sL (A7 rfl rfl) rfl rfl ?_)
 refine H1 rfl (hP) rfl rfl (fun h93 => ?_) (fun h93 => ?_)
 refine sQ (D7 rfl rfl) rfl (sQ (qA rfl) rfl (sD (nS (qT rfl (tS (tR (sQ (qA rfl) rfl (sD (nS (tT (rB (rS (A6 (rT rfl) ?_)))))))))))))
 (exact ⟨rfl, congrArg Value.string (hvf (by rintro (h | ⟨h1, h2⟩) <;> first | omega | exact Bool.noConfusion (h1.symm.trans (show bp = false by assumption)) | (simp only [Ty.k] at h2; omega)) (by first | exact .inl (by omega) | exact .inr (by assumption))).symm, rfl⟩)
 refine sQ (D7 rfl rfl) rfl (sQ (qA rfl) rfl (sD (nS (cF rfl (tS (tR (sQ (A3 rfl) rfl (sL (A5 rfl rfl) rfl rfl ?_))))))))
 refine sB (qE rfl rfl) rfl rfl (fun h118 => ?_) (fun h118 => ?_)
 refine sQ (qA rfl) rfl (sD (nS (qT rfl (tS (tR (sQ (A3 rfl) rfl (sL (A5 rfl rfl) rfl rfl ?_)))))))
 (have hl1 := h14 (by omega); obtain ⟨bx, ox, e, rfl, hl, hat, hre, hgb⟩ := hsl.kidTm hkl (i := 0) (by omega) (by omega); have hih := ih ks[0] (List.getElem_mem (by omega)) G e hT (hkk _ (List.getElem_mem (by omega))) (hkv (by assumption) (by omega) _ (List.getElem_mem (by omega))) hre; refine sP (C2 (j := 0) rfl rfl rfl (by omega)) rfl rfl ?_)
 refine sL (A9 rfl rfl (hat _) hl) rfl rfl ?_
 refine F0 rfl (hih) rfl rfl ?_
 refine sQ (qA rfl) rfl (sD (nS (tT (rB (rS (A6 (rT rfl) ?_))))))
 (exfalso; have h1 : bp = true := (by assumption); have h2 : bp = false := (by assumption); rw [h1] at h2; cases h2)
 refine sQ (qA rfl) rfl (sD (nS (cF rfl (tK (C8 (nS (tS (tR (sL (A7 rfl rfl) rfl rfl ?_)))))))))
 refine F0 rfl ((hL (hleaf (by assumption) (by omega) (by omega) (by omega)))) rfl rfl ?_
 refine sQ (qA rfl) rfl (sD (nS (tT (A6 (rT rfl) ?_))))
 (exfalso; have h1 : bp = true := (by assumption); have h2 : bp = false := (by assumption); rw [h1] at h2; cases h2)
 refine N5 ?_
 refine sB (qE rfl rfl) rfl rfl (fun h170 => ?_) (fun h170 => ?_)
 refine R6 ?_
 (exact ⟨rfl, congrArg Value.string (hvf (by rintro (h | ⟨h1, h2⟩) <;> first | omega | exact Bool.noConfusion (h1.symm.trans (show bp = false by assumption)) | (simp only [Ty.k] at h2; omega)) (by first | exact .inl (by omega) | exact .inr (by assumption))).symm, rfl⟩)
 refine sQ (qM rfl) rfl (sL (A7 rfl rfl) rfl rfl ?_)
 refine H1 rfl (hP) rfl rfl (fun h191 => ?_) (fun h191 => ?_)
 refine sQ (D7 rfl rfl) rfl (sQ (qA rfl) rfl (sD (nS (qT rfl (tS (tR (sQ (qA rfl) rfl (sD (nS (tT (rB (rS (A6 (rT rfl) ?_)))))))))))))
 (exfalso; have h1 : bp = true := (by assumption); have h2 : bp = false := (by assumption); rw [h1] at h2; cases h2)
 refine sQ (D7 rfl rfl) rfl (sQ (qA rfl) rfl (sD (nS (cF rfl (tS (tR (sQ (A3 rfl) rfl (sL (A5 rfl rfl) rfl rfl ?_))))))))
 refine sB (qE rfl rfl) rfl rfl (fun h216 => ?_) (fun h216 => ?_)
 refine sQ (qA rfl) rfl (sD (nS (qT rfl (tS (tR (sQ (A3 rfl) rfl (sL (A5 rfl rfl) rfl rfl ?_)))))))
 (have hl1 := h14 (by omega); obtain ⟨bx, ox, e, rfl, hl, hat, hre, hgb⟩ := hsl.kidTm hkl (i := 0) (by omega) (by omega); have hih := ih ks[0] (List.getElem_mem (by omega)) G e hT (hkk _ (List.getElem_mem (by omega))) (hkv (by assumption) (by omega) _ (List.getElem_mem (by omega))) hre; refine sP (C2 (j := 0) rfl rfl rfl (by omega)) rfl rfl ?_)
 refine sL (A9 rfl rfl (hat _) hl) rfl rfl ?_
 refine F0 rfl (hih) rfl rfl ?_
 refine sQ (qA rfl) rfl (sD (nS (tT (rB (rS (A6 (rT rfl) ?_))))))
 (exact ⟨rfl, congrArg Value.string (hvc (by assumption) (by omega) (by omega)).symm, rfl⟩)
 refine sQ (qA rfl) rfl (sD (nS (cF rfl (tK (C8 (nS (tS (tR (sL (A7 rfl rfl) rfl rfl ?_)))))))))
 refine F0 rfl ((hL (hleaf (by assumption) (by omega) (by omega) (by omega)))) rfl rfl ?_
 refine sQ (qA rfl) rfl (sD (nS (tT (A6 (rT rfl) ?_))))
 (exact ⟨rfl, congrArg Value.string (hvl (by assumption) (by omega) (by omega) (by omega)).symm, rfl⟩)
theorem B6z (k : Int) (ks : List Tm) : (X5 k ks).2.1 ≠ 0 := by
 unfold X5; split
 ·show (1 : Int) ≠ 0; decide
 ·show (2 : Int) ≠ 0; decide
mutual
theorem B0V : ∀ e : Tm, (K1 e).2.1 ≠ 0
 | .mk k nm num ty fr lb ks => by
  rw [K1]
  split
  ·rename_i h
   split
   ·show (1 : Int) ≠ 0; decide
   ·exact B0W _ ks _ _ _ h
  ·exact B6z _ _
theorem B0W : ∀ (n : Nat) (ks us : List Tm) (c l : Int), Y4 n ks = some (us, c, l) → c ≠ 0
 | _, [], us, c, l, h => by rw [Y4] at h; cases h
 | 0, t :: ts, us, c, l, h => by rw [Y4] at h; cases h
 | n + 1, t :: ts, us, c, l, h => by
  rw [Y4] at h
  split at h
  ·split at h
   ·rename_i h1; cases h; exact B0W n ts _ _ _ h1
   ·cases h
  ·cases h; exact B0V t
end
theorem B0X {e : Tm} (h : (H8 e).2.1 = 0) : Q1 (H8 e).1 = true ∧ I8 (H8 e).1 = true := by
 unfold H8 at h ⊢
 split at h
 ·simp at h
 ·split at h
  ·rename_i h1 h2; rw [if_neg h1, if_pos h2]; exact ⟨by simpa using h1, h2⟩
  ·split at h
   ·exact absurd h (B0V e)
   ·split at h <;> simp at h
theorem B0Y : ∀ (n : Nat) (e : Tm), (J4 n e).2.1 = 0 → Q1 (J4 n e).1 = true ∧ I8 (J4 n e).1 = true
 | 0, e, h => by
  rw [J4] at h ⊢
  by_cases h1 : (H8 e).2.1 = 1
  ·rw [if_pos h1] at h; simp at h
  ·rw [if_neg h1] at h ⊢; exact B0X h
 | n + 1, e, h => by
  rw [J4] at h ⊢
  by_cases h1 : (H8 e).2.1 = 1
  ·rw [if_pos h1] at h ⊢; exact B0Y n _ h
  ·rw [if_neg h1] at h ⊢; exact B0X h
theorem B6A {e : Tm} {fuel : Int} (h : (U1 e fuel).2.1 = 0) : Q1 (U1 e fuel).1 = true ∧ I8 (U1 e fuel).1 = true := by
 cases hf : P4 fuel 0 300 with
 | false => rw [B0U hf] at h; simp at h
 | true => rw [A68 hf] at h ⊢; exact B0Y _ _ h
theorem B6B {e : Tm} {fuel : Int} (h : P4 fuel 0 300 = true) (h1 : (P7 fuel.toNat e).2.1 = 1) : U1 e fuel = (H7, 5, 0) := by
 rw [A68 h, A9A _ _ h1]
theorem B6C {e : Tm} {fuel : Int} (h : P4 fuel 0 300 = true) (h1 : (P7 fuel.toNat e).2.1 ≠ 1) : U1 e fuel = ((P7 fuel.toNat e).1, (P7 fuel.toNat e).2.1, (P7 fuel.toNat e).2.2.1) := by
 rw [A68 h, A9B _ _ h1]
theorem B6D {e : Tm} (h : (M5 e || N0 e) = true) : A3U e = (D3 e, true) := by
 unfold A3U; rw [if_pos (by simpa using h)]
theorem B6E {e : Tm} (h : (M5 e || N0 e) = false) : A3U e = (H7, false) := by
 unfold A3U; rw [if_neg (by simpa using h)]
theorem B6F (e : Tm) (n : Nat) (hn : n ≤ 300) (G : IM) (cells : List Value) (hr : B1 G e cells) : Fn Tryz.prog 139 [.agg ⟨cells⟩, .int .i64 (n : Int)] [] G (EvP (P7 n e)) := by
 have hRl := hr.len
 have hRo := hr.one
 refine B7 Tryz.func139 rfl Tryz.ntmps139 Tryz.results139 rfl ?_
 intro w0
 refine tS (tR ?_)
 refine sE (D5 rfl rfl) rfl (fun b3 => ?_)
 refine sE (B6 rfl) rfl (fun b4 => ?_)
 refine sQ (qA rfl) rfl (sQ (qA rfl) rfl (sQ (qA rfl) rfl (sD (nS (tS (tR (sQ (qA rfl) rfl (sD (nS ?_)))))))))
 refine B5 ?_
 (refine K4 (fun (x : Nat × Tm × List Value × IM) => ⟨[(8, .int .i64 (x.1 : Int)), (1, .int .i64 (n : Int)), (2, .pointer (some ⟨b3, 0, none⟩)), (4, .pointer (some ⟨b4, 0, none⟩))], [.blk b3 x.2.2.1, .blk b4 [.int .i64 0, .string ⟨⟨[]⟩⟩, .int .i64 0, .int .i64 0, .slice none 0 0, .int .i64 0, .slice none 0 0, .int .i64 0, .slice none 0 0]], x.2.2.2⟩) (fun x => x.1 ≤ n ∧ B4 G x.2.2.2 ∧ B1 x.2.2.2 x.2.1 x.2.2.1 ∧ A2A x.1 (P7 (n - x.1) x.2.1) = P7 n e) (fun x => n - x.1) (0, e, cells, G) ?_ ?_ ?_)
 (simp only [E2]; exact C9)
 (exact ⟨Nat.zero_le _, B4.refl _, hr, rfl⟩)
 (rintro ⟨i, u, uc, Gi⟩ ⟨hi, hle, hru, hev⟩; simp only [] at hi hle hru hev ⊢; have hul := hru.len; have huo := hru.one)
 refine tS ?_
 refine B5 ?_
 refine tS (tR ?_)
 refine sL (A9 rfl rfl (C7 (by repeat first | exact mH | apply mT)) hul) rfl rfl ?_
 (refine I5 rfl (B6w u Gi uc hru) rfl rfl (fun v G1 hle1 hh => ?_); obtain ⟨wc, hv, hrw⟩ := hh; have hwl := hrw.len; have hwo := hrw.one; have hend := @B4q (n - i) i u; have hgo := @B4r (n - i) i u; generalize H8 u = r at hv hrw hend hgo; obtain ⟨w, c, l⟩ := r; simp only at hv hrw hend hgo; subst hv)
 refine sQ (qM rfl) rfl (sQ (pX rfl rfl) rfl (sQ (pX rfl rfl) rfl (sQ (pX rfl rfl) rfl ?_)))
 refine sE (B6 rfl) rfl (fun b30 => ?_)
 refine sS rfl rfl rfl hwl hwo rfl ?_ (hu := by exact I4 hwl.symm)
 refine sQ (qA rfl) rfl (sQ (qA rfl) rfl (sD (nS (tS (tS (tR (sQ (qM rfl) rfl ?_)))))))
 refine sB (P9 rfl rfl) rfl rfl (fun h40 => ?_) (fun h40 => ?_)
 refine sQ (qM rfl) rfl (sK rfl rfl (sK rfl rfl (sK rfl rfl (sQ (C1 rfl rfl) rfl (sD (nS (qT rfl (tS (tR ?_)))))))))
 refine sL (A9 rfl rfl (C7 (by repeat first | exact mH | apply mT)) hwl) rfl rfl ?_
 refine sQ (qM rfl) rfl (sQ (qM rfl) rfl (sQ (qM rfl) rfl ?_))
 refine sS rfl rfl rfl hwl hwo rfl ?_ (hu := by exact I4 hwl.symm)
 refine sQ (qA rfl) rfl (sQ (qA rfl) rfl (sQ (qA rfl) rfl (sD (nS (tT (rS (rB (rS (U2 (rB ?_))))))))))
 refine A9t (rC rfl (A9 rfl rfl (C7 (by repeat first | exact mH | apply mT)) hwl)) (rT rfl) (rT rfl) (rT rfl) ?_
 (exact EvP.mk (by rw [← hev]; exact hend (by omega)) hrw)
 refine sQ (qM rfl) rfl (sQ (qM rfl) rfl (sQ (qM rfl) rfl ?_))
 refine sB (qE rfl rfl) rfl rfl (fun h72 => ?_) (fun h72 => ?_)
 refine sQ (D7 rfl rfl) rfl (sD (nS (qT rfl (tS (tR ?_)))))
 refine sL (A9 rfl rfl (C7 (by repeat first | exact mH | apply mT)) hwl) rfl rfl ?_
 refine sQ (qM rfl) rfl (sQ (qM rfl) rfl (sQ (qM rfl) rfl ?_))
 refine sS rfl rfl rfl hwl hwo rfl ?_ (hu := by exact I4 hwl.symm)
 refine sQ (qA rfl) rfl (sQ (qA rfl) rfl (sQ (qA rfl) rfl (sD (nS (tT (rS (rB (rS (U2 (rB ?_))))))))))
 refine A9t (rC rfl (A9 rfl rfl (C7 (by repeat first | exact mH | apply mT)) hwl)) (rT rfl) (rT rfl) (rT rfl) ?_
 (exact EvP.mk (by rw [← hev]; exact hend (by omega)) hrw)
 refine sQ (D7 rfl rfl) rfl (sD (nS (cF rfl (tK (nS (tR ?_))))))
 refine sL (A9 rfl rfl (C7 (by repeat first | exact mH | apply mT)) hwl) rfl rfl ?_
 refine A0h rfl rfl rfl hwl hwo rfl (by repeat first | exact Sw.here | apply Sw.there) (by exact I4 (hul.trans hwl.symm)) ?_
 refine sD (C8 (nS (tR (sQ (qM rfl) rfl ?_))))
 refine sP (H6 rfl rfl (by omega) (by omega)) rfl rfl ?_
 refine sQ (qA rfl) rfl (sD ?_)
 refine K3 (i + 1, w, wc, G1) ?_ ?_ ?_
 (simp only [E2]; exact C9)
 (dsimp only; exact ⟨by omega, hle.trans hle1, hrw, by rw [← hev, hgo (by omega) (by omega), show n - (i + 1) = n - i - 1 by omega]⟩)
 (show n - (i + 1) < n - i; omega)
theorem B6G (e : Tm) (fuel : Int) (G : IM) (cells : List Value) (hr : B1 G e cells) : Fn Tryz.prog 78 [.agg ⟨cells⟩, .int .i64 fuel] [] G (A0W (U1 e fuel)) := by
 have hRl := hr.len
 have hRo := hr.one
 have hno := @B0U e fuel
 have hmu := @B6B e fuel
 have hen := @B6C e fuel
 refine B7 Tryz.func78 rfl Tryz.ntmps78 Tryz.results78 rfl ?_
 intro w0
 refine tS (tR ?_)
 refine sE (D5 rfl rfl) rfl (fun b3 => ?_)
 refine sE (B6 rfl) rfl (fun b4 => ?_)
 refine sQ (qA rfl) rfl (sQ (qA rfl) rfl (sD (nS (tS (tS (tR (sQ (qM rfl) rfl ?_)))))))
 refine H1 rfl ((B4e fuel _)) rfl rfl (fun h13 => ?_) (fun h13 => ?_)
 refine sQ (M4 rfl) rfl (sD (nS (cF rfl (tK (nS (tS (tR ?_)))))))
 refine sL (A9 rfl rfl (C7 (by repeat first | exact mH | apply mT)) hRl) rfl rfl ?_
 refine sQ (qM rfl) rfl ?_
 (have hf : P4 fuel 0 300 = true := (by assumption); have hf2 := A5x hf; have hE := B6F e fuel.toNat (by omega) G cells hr; rw [Int.toNat_of_nonneg hf2.1] at hE; refine I5 rfl hE rfl rfl (fun v G1 hle1 hh => ?_); obtain ⟨wc, hv, hrw⟩ := hh; have hwl := hrw.len; have hwo := hrw.one; have hmu := hmu hf; have hen := hen hf; generalize P7 fuel.toNat e = r at hv hrw hmu hen; obtain ⟨w, c, l, i⟩ := r; simp only at hv hrw hmu hen; subst hv)
 refine sQ (qM rfl) rfl (sQ (pX rfl rfl) rfl (sQ (pX rfl rfl) rfl (sQ (pX rfl rfl) rfl (sQ (pX rfl rfl) rfl ?_))))
 refine sE (B6 rfl) rfl (fun b30 => ?_)
 refine sS rfl rfl rfl hwl hwo rfl ?_ (hu := by exact I4 hwl.symm)
 refine sQ (qA rfl) rfl (sQ (qA rfl) rfl (sQ (qA rfl) rfl (sD (nS (tS (tS (tR (sQ (qM rfl) rfl ?_))))))))
 refine sB (qE rfl rfl) rfl rfl (fun h41 => ?_) (fun h41 => ?_)
 refine sD (nS (qT rfl (tS (tR (sQ (D9 rfl rfl) rfl (B9 ?_))))))
 refine sQ (qA rfl) rfl (sQ (qA rfl) rfl (sD (nS (tT (rS ?_)))))
 refine T9 (rC rfl (A7 rfl rfl)) (rT rfl) (rT rfl) ?_
 (exact A0W.mk (hmu (by omega)) (Z1 _))
 refine sD (nS (cF rfl (tK (nS (tS (tR ?_))))))
 refine sL (A9 rfl rfl (C7 (by repeat first | exact mH | apply mT)) hwl) rfl rfl ?_
 refine sQ (qM rfl) rfl (sQ (qM rfl) rfl ?_)
 refine sS rfl rfl rfl hwl hwo rfl ?_ (hu := by exact I4 hwl.symm)
 refine sQ (qA rfl) rfl (sQ (qA rfl) rfl (sD (nS (tT ?_))))
 refine T9 (rC rfl (A9 rfl rfl (C7 (by repeat first | exact mH | apply mT)) hwl)) (rT rfl) (rT rfl) ?_
 (exact A0W.mk (hen (by omega)) hrw)
 refine Y8 ?_
 refine T9 (rC rfl (A7 rfl rfl)) (rT rfl) (rT rfl) ?_
 (exact A0W.mk (hno (by assumption)) (Z1 _))
theorem B6H (e : Tm) (fuel : Int) (G : IM) (cells : List Value) (hT : A0p G) (hts : e.small) (hr : B1 G e cells) : Fn Tryz.prog 31 [.agg ⟨cells⟩, .int .i64 fuel] [] G (B4o (Y5 e fuel) G) := by
 have hRl := hr.len
 have hRo := hr.one
 have hno := @B43 e fuel
 have hyv := @A94 e fuel
 have hyn := @A4U e fuel
 have hB := B3n e G cells hts hr
 have hby := @B6D e
 have hbn := @B6E e
 generalize (M5 e || N0 e) = ok at hno hyv hyn hby hbn
 cases ok
 ·have hno := hno rfl
  rw [hbn rfl] at hB
  refine B7 Tryz.func31 rfl Tryz.ntmps31 Tryz.results31 rfl ?_
  intro w0
  refine tS (tR ?_)
  refine sE (D5 rfl rfl) rfl (fun b3 => ?_)
  refine sQ (qA rfl) rfl (sQ (qA rfl) rfl (sQ (qA rfl) rfl (sD (nS (tS (tR ?_))))))
  refine sL (A9 rfl rfl (C7 (by repeat first | exact mH | apply mT)) hRl) rfl rfl ?_
  (refine I5 rfl hB rfl rfl (fun v G1 hle1 hh => ?_); obtain ⟨bc, F1, rfl, hs1, hn1⟩ := hh; have hul := hs1.R.len; have huo := hs1.R.one)
  refine sQ (qM rfl) rfl (sQ (pX rfl rfl) rfl (sQ (pX rfl rfl) rfl ?_))
  refine sE (B6 rfl) rfl (fun b16 => ?_)
  refine sS rfl rfl rfl hul huo rfl ?_ (hu := by exact I4 hul.symm)
  refine A07 ?_
  refine T9 (rT rfl) (rT rfl) (rT rfl) ?_
  (exact ⟨rfl, by rw [hno]⟩)
 ·have hyv := hyv rfl
  have hyn := hyn rfl
  rw [hby rfl] at hB
  have hev := @B6A (D3 e) fuel
  refine B7 Tryz.func31 rfl Tryz.ntmps31 Tryz.results31 rfl ?_
  intro w0
  refine tS (tR ?_)
  refine sE (D5 rfl rfl) rfl (fun b3 => ?_)
  refine sQ (qA rfl) rfl (sQ (qA rfl) rfl (sQ (qA rfl) rfl (sD (nS (tS (tR ?_))))))
  refine sL (A9 rfl rfl (C7 (by repeat first | exact mH | apply mT)) hRl) rfl rfl ?_
  (refine I5 rfl hB rfl rfl (fun v G1 hle1 hh => ?_); obtain ⟨bc, F1, rfl, hs1, hn1⟩ := hh; have hul := hs1.R.len; have huo := hs1.R.one)
  refine sQ (qM rfl) rfl (sQ (pX rfl rfl) rfl (sQ (pX rfl rfl) rfl ?_))
  refine sE (B6 rfl) rfl (fun b16 => ?_)
  refine sS rfl rfl rfl hul huo rfl ?_ (hu := by exact I4 hul.symm)
  refine sQ (qA rfl) rfl (sD (nS (tS (tS (tR (sQ (qM rfl) rfl (sQ (M4 rfl) rfl (sD (nS (cF rfl (tK (nS (tS (tR ?_))))))))))))))
  refine sL (A9 rfl rfl (C7 (by repeat first | exact mH | apply mT)) hul) rfl rfl ?_
  refine sQ (qM rfl) rfl ?_
  (refine I5 rfl (B6G (D3 e) fuel G1 bc (hs1.R.mono (C4.le _ _))) rfl rfl (fun v G2 hle2 hh => ?_); obtain ⟨wc, hvv, hrw⟩ := hh; have hwl := hrw.len; have hwo := hrw.one; generalize U1 (D3 e) fuel = r at hvv hrw hyv hyn hev; obtain ⟨w, c, l⟩ := r; simp only at hvv hrw hyv hyn hev; subst hvv)
  refine sQ (qM rfl) rfl (sQ (pX rfl rfl) rfl (sQ (pX rfl rfl) rfl (sQ (pX rfl rfl) rfl ?_)))
  refine sE (B6 rfl) rfl (fun b40 => ?_)
  refine sS rfl rfl rfl hwl hwo rfl ?_ (hu := by exact I4 hwl.symm)
  refine sQ (qA rfl) rfl (sQ (qA rfl) rfl (sD (nS (tS (tS (tR (sQ (qM rfl) rfl ?_)))))))
  refine sB (P9 rfl rfl) rfl rfl (fun h50 => ?_) (fun h50 => ?_)
  refine Y8 ?_
  refine T9 (rT rfl) (rT rfl) (rT rfl) ?_
  (exact ⟨rfl, by rw [hyn (by omega)]⟩)
  refine sD (nS (cF rfl (tK (nS (tS (tR ?_))))))
  refine sL (A9 rfl rfl (C7 (by repeat first | exact mH | apply mT)) hwl) rfl rfl ?_
  (obtain ⟨he1, he2⟩ := hev (by omega); refine F0 rfl (B6y w G2 wc (hT.mono (hle1.trans hle2)) (A6p (A4P he1).1).1 he2 hrw) rfl rfl ?_)
  refine sQ (qM rfl) rfl (sQ (qM rfl) rfl (sQ (qA rfl) rfl (sQ (qA rfl) rfl (sQ (qA rfl) rfl (sD (nS (tT ?_)))))))
  refine T9 (rT rfl) (rT rfl) (rT rfl) ?_
  (obtain rfl : c = 0 := (by omega); exact ⟨rfl, by rw [hyv rfl]⟩)
def kS (k : Int) : Int := if k = 0 then 1 else if k = 1 then 2 else if k = 2 then 4 else 11
def B7R (kc : Int → Int) (s : K7) (G : IM) : IM → Value → List A4 → Prop := I9 fun G' v => ∃ cells, v = .agg ⟨cells⟩ ∧ RSs kc G' s cells
def B7S (kc : Int → Int) (s : K7) (l : List MV) (G : IM) : IM → Value → List A4 → Prop := I9 fun G' v => ∃ cells p c fs, v = .tuple ⟨[.agg ⟨cells⟩, .slice p l.length c]⟩ ∧ RSs kc G' s cells ∧ C5 G' p l.length c 4 fs ∧ H0 kc G' l fs
def B7T (kc : Int → Int) (r : K7 ⊕ (Int × Int)) (G : IM) : IM → Value → List A4 → Prop := I9 fun G' v => ∃ cells c e, v = .tuple ⟨[.agg ⟨cells⟩, .int .i64 c, .int .i64 e]⟩ ∧ cells.length = 4 ∧ cells.all (·.oneCell') = true ∧
 (∀ s, r = .inl s → c = 1 ∧ e = 0 ∧ RSs kc G' s cells) ∧ (∀ x, r = .inr x → c = x.1 ∧ e = x.2)
theorem B0Z {a b : Int} (h : 0 ≤ a ∧ a ≤ 999) (h2 : 0 ≤ b ∧ b ≤ 999) : (a + b).tmod 1000 = (a + b) % 1000 := Int.tmod_eq_emod_of_nonneg (by omega)
def Mc (G : IM) (s : K7) (b : Nat) (hp : List A4) : Prop := ∃ ps cs es pe ce ee pf cf ef, hp = [.blk b [.int .i64 s.at', .slice ps s.st.length cs, .slice pe s.env.length ce, .slice pf s.fr.length cf], .slc ps cs 82 4 s.st.length es.flatten, .slc pf cf 135 2 s.fr.length ef.flatten] ∧
 H0 kI G s.st es ∧ C5 G pe s.env.length ce 4 ee ∧ H0 kI G s.env ee ∧ O0 kI G s.fr ef
theorem Mc.mk {G : IM} {b : Nat} {a : Int} {st env : List MV} {fr : List (Int × List MV)} {ps pe pf : Option Addr} {ns cs ne ce nf cf : Nat} {x y : List Value} {es ee ef : List (List Value)} (h1 : ns = st.length) (h2 : x = es.flatten) (h3 : H0 kI G st es) (h4 : ne = env.length) (h5 : C5 G pe ne ce 4 ee) (h6 : H0 kI G env ee) (h7 : nf = fr.length) (h8 : y = ef.flatten) (h9 : O0 kI G fr ef) :
  Mc G ⟨a, st, env, fr⟩ b [.blk b [.int .i64 a, .slice ps ns cs, .slice pe ne ce, .slice pf nf cf], .slc ps cs 82 4 ns x, .slc pf cf 135 2 nf y] := by
 subst h1 h2 h4 h7 h8
 exact ⟨ps, cs, es, pe, ce, ee, pf, cf, ef, rfl, h3, h5, h6, h9⟩
def R9 (r : K7 ⊕ (Int × Int)) (b : Nat) : IM → Value → List A4 → Prop := fun G' v outs => ∃ c e, v = .tuple ⟨[.int .i64 c, .int .i64 e]⟩ ∧ (∀ x, r = .inr x → c = x.1 ∧ e = x.2) ∧ (∀ s, r = .inl s → c = 1 ∧ e = 0 ∧ Mc G' s b outs)
theorem R9.go {r : K7 ⊕ (Int × Int)} {b : Nat} {G' : IM} {s : K7} {outs : List A4} (h : r = .inl s) (hM : Mc G' s b outs) : R9 r b G' (.tuple ⟨[.int .i64 1, .int .i64 0]⟩) outs := by
 subst h
 exact ⟨1, 0, rfl, fun x h => (by cases h), fun s' h => (by cases h; exact ⟨rfl, rfl, hM⟩)⟩
theorem R9.no {r : K7 ⊕ (Int × Int)} {b : Nat} {G' : IM} {c e : Int} {outs : List A4} (h : r = .inr (c, e)) : R9 r b G' (.tuple ⟨[.int .i64 c, .int .i64 e]⟩) outs := by
 subst h
 exact ⟨c, e, rfl, fun x h => (by cases h; exact ⟨rfl, rfl⟩), fun s' h => (by cases h)⟩
theorem X7 {P : Program} {Γ : J1} {env : J5} {hp h1 h2 h3 : List A4} {G : IM} {r r2 : ResultVar} {post : IM → Value → List A4 → Prop} {v v2 : Value} {b : Nat} {a : Int} {p pe pf : Option Addr} {n c ne ce nf cf : Nat} {x y : List Value} (hr : U3 P Γ ⟨env, hp, G⟩ r v) (hr2 : U3 P Γ ⟨env, hp, G⟩ r2 v2)
  (k1 : Pk hp (.blk b [.int .i64 a, .slice p n c, .slice pe ne ce, .slice pf nf cf]) h1) (k2 : Pk h1 (.slc p c 82 4 n x) h2) (k3 : Pk h2 (.slc pf cf 135 2 nf y) h3)
  (hk : post G (.tuple ⟨[v, v2]⟩) [.blk b [.int .i64 a, .slice p n c, .slice pe ne ce, .slice pf nf cf], .slc p c 82 4 n x, .slc pf cf 135 2 nf y]) : Z3 P Γ [r, r2] post .ret ⟨env, hp, G⟩ :=
 A4f hr hr2 (.cons k1 (.cons k2 (.cons k3 .nil))) hk
theorem B00 (k : Int) : (M6 k).2.1 ≤ K5 k := by
 rcases mPW k with ⟨_, h2, h3⟩ | ⟨_, h2, h3⟩ | ⟨_, h2, h3⟩ | ⟨_, h2, h3⟩ | ⟨_, h2, h3⟩ | ⟨_, h2, h3⟩ <;> rw [h2, h3] <;> decide
theorem B01 {k : Int} {V : List MV} {j : Nat} (hj : j < (M6 k).2.1) (hC : (M6 k).2.1 ≤ V.length) (h : (V.getD j O6).k ≠ (M6 k).1) : A0D k V = false := by
 unfold A0D
 rw [List.all_eq_false]
 rw [List.getD_eq_getElem?_getD, List.getElem?_eq_getElem (by omega), Option.getD_some] at h
 exact ⟨V[j], List.mem_take_iff_getElem.2 ⟨j, by omega, rfl⟩, by simpa using h⟩
theorem B02 {k a : Int} {s : K7} {V : List MV} (hd : s.st.drop (s.st.length - K5 k) = V) (h : A0D k V = false) : S5 k a s = .inr (2, (M6 k).2.2) := by
 unfold S5; rw [hd, h]; rfl
theorem B03 {i C : Nat} {Q : Int} {v0 v1 : MV} (hK : ∀ j, j < i → ([v0, v1].getD j O6).k = Q) (hi : C ≤ i) (hC : (M6 6).2.1 = C) (hQ : (M6 6).1 = Q) : v0.k = 2 := by
 have hC1 : C = 1 := hC.symm
 have hQ1 : Q = 2 := hQ.symm
 have := hK 0 (by omega)
 rw [hQ1] at this; exact this
theorem A69 {k : Int} {i C : Nat} {Q : Int} {v0 v1 : MV} (hk : k = 7 ∨ k = 8) (hK : ∀ j, j < i → ([v0, v1].getD j O6).k = Q) (hi : C ≤ i) (hC : (M6 k).2.1 = C) (hQ : (M6 k).1 = Q) : v0.k = 0 ∧ v1.k = 0 := by
 have hC1 : C = 2 := by rcases hk with rfl | rfl <;> exact hC.symm
 have hQ1 : Q = 0 := by rcases hk with rfl | rfl <;> exact hQ.symm
 have h0 := hK 0 (by omega)
 have h1 := hK 1 (by omega)
 rw [hQ1] at h0 h1; exact ⟨h0, h1⟩
theorem B6I (k a : Int) (s : K7) (b n N : Nat) (v0 v1 : MV) (G : IM) (hp0 : List A4) (hk : k = 6 ∨ k = 7 ∨ k = 8 ∨ k = 11) (hn : n ≤ 120) (hN : N ≤ 2000) (ho : s.ok n N) (hd : s.st.drop (s.st.length - 2) = [v0, v1]) (hl : 2 ≤ s.st.length) (hM : Mc G s b hp0) :
  Fn Tryz.prog 70 [.pointer (some ⟨b, 0, none⟩), .agg ⟨[.int .i64 k, .int .i64 a]⟩] hp0 G (R9 (M2 k a s) b) := by
 have hp : K5 k = 2 := A8w hk
 have hlo := ho.lo; have hhi := ho.hi; have hst := ho.st; have henv := ho.env; have hfr := ho.fr
 obtain ⟨c1, c2, c3, c4, c5, c6, c7, c8, _, _⟩ := (ho.sto v0 (List.mem_of_mem_drop (i := s.st.length - 2) (by rw [hd]; simp))).spec
 obtain ⟨d1, d2, d3, d4, d5, d6, d7, d8, _, _⟩ := (ho.sto v1 (List.mem_of_mem_drop (i := s.st.length - 2) (by rw [hd]; simp))).spec
 have htl : (s.st.take (s.st.length - 2)).length = s.st.length - 2 := by rw [List.length_take]; omega
 have hX := A4y k G
 have hWl := B00 k
 rw [hp] at hX hWl
 have hsk : M2 k a s = S5 k a s := X3 (by omega)
 obtain ⟨C, hC⟩ : ∃ C, (M6 k).2.1 = C := ⟨_, rfl⟩
 obtain ⟨Q, hQ⟩ : ∃ Q, (M6 k).1 = Q := ⟨_, rfl⟩
 rw [hC] at hWl hX
 rw [hQ] at hX
 obtain ⟨ps, cs, es, pe, ce, ee, pf, cf, ef, rfl, hrs, hse, hre, hrf⟩ := hM
 have hPop := A4E b 2 s.st.length cs (.int .i64 s.at') (.slice pe s.env.length ce) (.slice pf s.fr.length cf) ps es G (by omega) (by omega) hrs.len hrs.all hrs.ones ⟨rfl, rfl, rfl⟩
 have hrd := hrs.drop (s.st.length - 2)
 have hrt := hrs.take (s.st.length - 2)
 rw [hd] at hrd
 refine B7 Tryz.func70 rfl Tryz.ntmps70 Tryz.results70 rfl ?_
 intro w0
 refine tS (tR ?_)
 refine sE (D5 rfl rfl) rfl (fun b3 => ?_)
 refine sQ (qA rfl) rfl (sQ (qA rfl) rfl (sD (nS (tS (tR (sQ (A3 rfl) rfl (sL (A5 rfl rfl) rfl rfl ?_)))))))
 refine F0 rfl (hX) rfl rfl ?_
 refine N5 ?_
 (refine D2 rfl hPop (Pk2 (by repeat (first | exact Pk.here | apply Pk.there)) (by repeat (first | exact Pk.here | apply Pk.there))) rfl rfl (fun v G1 outs hle1 hh => ?_); unfold A0F at hh; rw [if_neg (by omega)] at hh; obtain ⟨q, d, rfl, rfl, hslV⟩ := hh; have hrV := hrd.mono hle1; replace hrt := hrt.mono hle1; replace hse := hse.mono hle1; replace hre := hre.mono hle1; replace hrf := hrf.mono hle1; obtain ⟨b0, o0, q0, dd0, q0', dd0', rfl, hv0at, hv0, hg0⟩ := hslV.mvAt hrV (i := 0) (t := v0) rfl; obtain ⟨b1, o1, q1, dd1, q1', dd1', hp1, hv1at, hv1, hg1⟩ := hslV.mvAt hrV (i := 1) (t := v1) rfl; cases hp1)
 refine A09 ?_
 (refine sP (A1q (l := C) rfl rfl rfl (by have := hslV.sl.2.1; omega)) rfl rfl ?_)
 refine sQ (D8 rfl rfl) rfl (sQ (qM rfl) rfl (sD (nS ?_)))
 refine B5 ?_
 (refine K4 (fun (i : Nat) => ⟨[(37, .int .i64 (i : Int)), (36, .int .i64 (C : Int)), (35, .slice (some ⟨b0, o0, none⟩) C d), (7, .int .i64 Q), (9, .int .i64 (M6 k).2.2), (10, .slice (some ⟨b0, o0, none⟩) 2 d), (3, .pointer (some ⟨b3, 0, none⟩)), (0, .pointer (some ⟨b, 0, none⟩))], [.blk b3 [.int .i64 k, .int .i64 a], .blk b [.int .i64 s.at', .slice ps (s.st.length - 2) cs, .slice pe s.env.length ce, .slice pf s.fr.length cf], .slc ps cs 82 4 (s.st.length - 2) (es.take (s.st.length - 2)).flatten, .slc pf cf 135 2 s.fr.length ef.flatten], G1⟩) (fun i => i ≤ C ∧ ∀ j, j < i → ([v0, v1].getD j O6).k = Q) (fun i => C - i) 0 ?_ ?_ ?_)
 exact C9
 (exact ⟨Nat.zero_le _, by omega⟩)
 (rintro i ⟨hi, hK⟩)
 refine tS (tR ?_)
 refine sB (J3 rfl rfl) rfl rfl (fun h63 => ?_) (fun h63 => ?_)
 refine sD (nS (tS (qT rfl (tK (nS (tS ?_))))))
 refine B5 ?_
 refine tS (tR ?_)
 (have hiC : i < 2 := (by omega); obtain ⟨b2, o2, q2, dd2, q2', dd2', hp2, hvat, hv2, hg2⟩ := hslV.mvAt hrV (i := i) (A18 (d := O6) (by simpa using hiC)); cases hp2; refine sP (C2 (j := i) rfl rfl rfl (by omega)) rfl rfl ?_)
 refine sL (A9 rfl rfl (hvat _) rfl) rfl rfl ?_
 refine sE (B6 rfl) rfl (fun b76 => ?_)
 refine B9 ?_
 refine sD (nS (tS (tR (sQ (A3 rfl) rfl (sL (A5 rfl rfl) rfl rfl (sQ (qM rfl) rfl ?_))))))
 refine sB (P9 rfl rfl) rfl rfl (fun h85 => ?_) (fun h85 => ?_)
 refine sD (nS (qT rfl (tS (tR (sQ (qM rfl) rfl (sQ (qA rfl) rfl (sQ (qA rfl) rfl (sD (nS (tT (rB (rS (U2 (rB (rS ?_)))))))))))))))
 refine X7 (b := b) (rT rfl) (rT rfl) (by repeat (first | exact Pk.here | apply Pk.there)) (by repeat (first | exact Pk.here | apply Pk.there)) (by repeat (first | exact Pk.here | apply Pk.there)) ?_
 (exact R9.no (by rw [hsk]; exact B02 (V := [v0, v1]) (by rw [hp]; exact hd) (B01 (j := i) (by omega) (by rw [hC]; exact hWl) (by rw [hQ]; assumption))))
 refine sD (nS (cF rfl (tK (C8 (nS (tR ?_))))))
 refine sP (H6 rfl rfl (by omega) (by omega)) rfl rfl ?_
 refine sQ (qM rfl) rfl (sD ?_)
 refine K3 (i + 1) ?_ ?_ ?_
 exact C9
 (refine ⟨by omega, fun j hj2 => ?_⟩; rcases Nat.lt_or_ge j i with h5 | h5; exact hK j h5; obtain rfl : j = i := (by omega); exact Classical.not_not.1 (by assumption))
 (show C - (i + 1) < C - i; omega)
 refine sD (nS (tS (cF rfl (M7 (M8 (N3 (M9 (nS (tS (tR (sQ (qM rfl) rfl ?_)))))))))))
 refine sQ (J6 rfl) rfl ?_
 refine sQ (A3 rfl) rfl (sL (A5 rfl rfl) rfl rfl ?_)
 refine sP (H6 rfl rfl (by omega) (by omega)) rfl rfl ?_
 refine sQ (J6 rfl) rfl ?_
 refine sQ (A3 rfl) rfl (B9 ?_)
 refine sD (nS (tS (tS (tR (sQ (A3 rfl) rfl (sL (A5 rfl rfl) rfl rfl (sD (nS ?_))))))))
 refine B5 ?_
 refine tS (tR ?_)
 refine sP (E9 rfl rfl (by omega)) rfl rfl ?_
 refine sQ (qA rfl) rfl (sD (nS (cF rfl (tS (tR ?_)))))
 refine sP (E9 rfl rfl (by omega)) rfl rfl ?_
 refine sQ (qA rfl) rfl (sD (nS (cF rfl (tS (tR ?_)))))
 refine sP (E9 rfl rfl (by omega)) rfl rfl ?_
 refine sQ (qA rfl) rfl (sD (nS (cF rfl (tS (tR ?_)))))
 refine sP (E9 rfl rfl (by omega)) rfl rfl ?_
 refine sQ (qA rfl) rfl (sD (nS (cF rfl (tS (tR ?_)))))
 refine sP (E9 rfl rfl (by omega)) rfl rfl ?_
 refine sQ (qA rfl) rfl (sD (nS (cF rfl (tS (tR ?_)))))
 refine sB (qE rfl rfl) rfl rfl (fun h184 => ?_) (fun h184 => ?_)
 refine sQ (qA rfl) rfl (sD (nS (qT rfl (tS ?_))))
 refine I0 I1 rfl ?_
 refine J2 (i := 0) (l' := [tt,ff,ff,ff,ff,ff,ff,ff,ff,ff,ff,ff,ff,ff,ff,ff,ff,ff,ff]) rfl F4 (qM rfl) rfl (by kernel_rfl) rfl rfl ?_
 refine aP 1 rfl (qM rfl) rfl ?_
 refine aP 2 rfl (J6 rfl) rfl ?_
 refine aP 3 rfl (A3 rfl) rfl ?_
 refine aL 4 rfl (A5 rfl rfl) rfl ?_
 refine aP 5 rfl (qM rfl) rfl ?_
 refine aP 6 rfl (J6 rfl) rfl ?_
 refine aP 7 rfl (A3 rfl) rfl ?_
 refine aL 8 rfl (A5 rfl rfl) rfl ?_
 refine aP 9 rfl (qM rfl) rfl ?_
 refine aP 10 rfl (J6 rfl) rfl ?_
 refine aP 11 rfl (A3 rfl) rfl ?_
 refine aL 12 rfl (A5 rfl rfl) rfl ?_
 refine aP 13 rfl (D9 rfl rfl) rfl ?_
 refine A8 14 ?_
 (refine J9 rfl (D0 rfl rfl rfl (by omega) (by unfold maxLen; omega) rfl) rfl rfl ?_; rintro _ ⟨b206, rfl⟩)
 refine A8 15 ?_
 (refine S9 rfl rfl rfl rfl rfl rfl (fun _ _ => by repeat (first | exact Sw.here | apply Sw.there)) (K9 (by repeat first | exact mH | apply mT)) rfl (by simp [Value.oneCell']) (by unfold maxLen; omega) (by omega) rfl rfl (by repeat (first | exact B0.nil | apply B0.dep (by decide +kernel) | apply B0.im (by decide +kernel) (by assumption) (by repeat first | exact mH | apply mT) | apply B0.blk (by decide +kernel) (by repeat (first | exact Pk.here | apply Pk.there)) (by repeat first | exact mH | apply mT))) (fun p5 c5 => ?_))
 refine aP 16 rfl (J6 rfl) rfl ?_
 refine aP 17 rfl (A3 rfl) rfl ?_
 refine A8 18 ?_
 refine P3 rfl rfl rfl rfl rfl rfl rfl rfl (by decide +kernel) (by repeat first | exact Sw.here | apply Sw.there) (by rfl) ?_
 refine D6 (nS (tS ?_))
 refine I0 I1 rfl ?_
 refine J2 (i := 0) (l' := [tt,ff,ff,ff,ff,ff,ff,ff,ff,ff,ff,ff,ff,ff]) rfl F4 (qM rfl) rfl (by kernel_rfl) rfl rfl ?_
 refine aP 1 rfl (qM rfl) rfl ?_
 refine aP 2 rfl (C2 (j := 0) rfl rfl rfl (by omega)) rfl ?_
 refine aP 3 rfl (qF rfl) rfl ?_
 refine aL 4 rfl (Q2 rfl rfl ((hv0at _).sub (j := 2) rfl)) rfl ?_
 refine aP 6 rfl (qM rfl) rfl ?_
 refine aP 7 rfl (C2 (j := 1) rfl rfl rfl (by omega)) rfl ?_
 refine aL 8 rfl (A9 rfl rfl (hv1at _) rfl) rfl ?_
 refine A0N (j := 5) (j' := 9) (by kernel_rfl) ?_ ?_
 (obtain ⟨e0, f0, hse0, hre0, _, _⟩ := hv0.kids; refine A7w rfl rfl (A8T _ _ _ _ _ hse0 (by omega)) rfl rfl rfl (fun v226 G226 outs226 hle226 h226 => ?_); obtain ⟨hG, p1, c1', rfl, rfl⟩ := h226; replace hG := hG.symm; subst hG)
 replace hse := hse.mono hle226
 replace hslV := hslV.mono hle226
 replace hse0 := hse0.mono hle226
 refine A8 9 ?_
 (refine J9 rfl (D0 rfl rfl rfl (by omega) (by unfold maxLen; omega) rfl) rfl rfl ?_; rintro _ ⟨b228, rfl⟩)
 refine A8 10 ?_
 (refine S9 rfl rfl rfl rfl rfl rfl (fun _ _ => by repeat (first | exact Sw.here | apply Sw.there)) (K9 (by repeat first | exact mH | apply mT)) rfl (by simp [Value.oneCell']) (by unfold maxLen; omega) (by omega) rfl rfl (by repeat (first | exact B0.nil | apply B0.dep (by decide +kernel) | apply B0.im (by decide +kernel) (by assumption) (by repeat first | exact mH | apply mT) | apply B0.blk (by decide +kernel) (by repeat (first | exact Pk.here | apply Pk.there)) (by repeat first | exact mH | apply mT))) (fun p5 c5 => ?_); refine A4c (cs := e0.flatten ++ [.int .i64 (kI v1.k), .int .i64 v1.num, .slice q1 v1.env.length dd1, .slice q1' v1.parts.length dd1']) (by repeat (first | exact Pk.here | apply Pk.there)) (fun Gg hleG hslG hnoG => ?_); have hslE := C5.of (es := e0 ++ [[.int .i64 (kI v1.k), .int .i64 v1.num, .slice q1 v1.env.length dd1, .slice q1' v1.parts.length dd1']]) (by simpa using hslG) (by simp [hse0.len]) (A1f hse0.all rfl) (A1f hse0.one rfl); have hrE := (hre0.mono hleG).snoc (hv1.mono hleG); replace hv0at := (fun (hp : List A4) => At.mono' (hp := hp) hleG (hv0at [])))
 refine aP 11 rfl (J6 rfl) rfl ?_
 refine aP 12 rfl (A3 rfl) rfl ?_
 refine A8 13 ?_
 refine P3 rfl rfl rfl rfl rfl rfl rfl rfl (by decide +kernel) (by repeat first | exact Sw.here | apply Sw.there) (by rfl) ?_
 refine D6 (nS (tR (sQ (qM rfl) rfl (sQ (qM rfl) rfl ?_))))
 refine sP (C2 (j := 0) rfl rfl rfl (by omega)) rfl rfl ?_
 refine sQ (qF rfl) rfl ?_
 refine sL (Q2 rfl rfl ((hv0at _).sub (j := 1) rfl)) rfl rfl ?_
 refine sQ (J6 rfl) rfl ?_
 refine sQ (A3 rfl) rfl (B9 ?_)
 refine sD (C8 (nS (tS (tR (sQ (qA rfl) rfl (sQ (qA rfl) rfl (sD (nS (tT ?_)))))))))
 refine X7 (b := b) (rT rfl) (rT rfl) (by repeat (first | exact Pk.here | apply Pk.there)) (by repeat (first | exact Pk.here | apply Pk.there)) (by repeat (first | exact Pk.here | apply Pk.there)) ?_
 (obtain rfl : k = 6 := (by omega); exact R9.go (by rw [hsk, A4p hd, if_pos (B03 hK (by omega) hC hQ)]) (Mc.mk htl.symm rfl (hrt.mono hleG) (by simp) hslE hrE (by simp) (E2 _ _).symm ((hrf.mono hleG).snoc (RFr.mk ⟨by omega, by omega⟩ rfl (hse.mono hleG) (hre.mono hleG)))))
 (refine J9 rfl (D0 rfl rfl rfl (by omega) (by unfold maxLen; omega) rfl) rfl rfl ?_; rintro _ ⟨b258, rfl⟩)
 refine A8 5 ?_
 (obtain ⟨e0, f0, hse0, hre0, _, _⟩ := hv0.kids; refine A7w rfl rfl (A8T _ _ _ _ _ hse0 (by omega)) rfl rfl rfl (fun v260 G260 outs260 hle260 h260 => ?_); obtain ⟨hG, p1, c1', rfl, rfl⟩ := h260; replace hG := hG.symm; subst hG)
 replace hse := hse.mono hle260
 replace hslV := hslV.mono hle260
 replace hse0 := hse0.mono hle260
 refine A8 10 ?_
 (refine S9 rfl rfl rfl rfl rfl rfl (fun _ _ => by repeat (first | exact Sw.here | apply Sw.there)) (K9 (by repeat first | exact mH | apply mT)) rfl (by simp [Value.oneCell']) (by unfold maxLen; omega) (by omega) rfl rfl (by repeat (first | exact B0.nil | apply B0.dep (by decide +kernel) | apply B0.im (by decide +kernel) (by assumption) (by repeat first | exact mH | apply mT) | apply B0.blk (by decide +kernel) (by repeat (first | exact Pk.here | apply Pk.there)) (by repeat first | exact mH | apply mT))) (fun p5 c5 => ?_); refine A4c (cs := e0.flatten ++ [.int .i64 (kI v1.k), .int .i64 v1.num, .slice q1 v1.env.length dd1, .slice q1' v1.parts.length dd1']) (by repeat (first | exact Pk.here | apply Pk.there)) (fun Gg hleG hslG hnoG => ?_); have hslE := C5.of (es := e0 ++ [[.int .i64 (kI v1.k), .int .i64 v1.num, .slice q1 v1.env.length dd1, .slice q1' v1.parts.length dd1']]) (by simpa using hslG) (by simp [hse0.len]) (A1f hse0.all rfl) (A1f hse0.one rfl); have hrE := (hre0.mono hleG).snoc (hv1.mono hleG); replace hv0at := (fun (hp : List A4) => At.mono' (hp := hp) hleG (hv0at [])))
 refine aP 11 rfl (J6 rfl) rfl ?_
 refine aP 12 rfl (A3 rfl) rfl ?_
 refine A8 13 ?_
 refine P3 rfl rfl rfl rfl rfl rfl rfl rfl (by decide +kernel) (by repeat first | exact Sw.here | apply Sw.there) (by rfl) ?_
 refine D6 (nS (tR (sQ (qM rfl) rfl (sQ (qM rfl) rfl ?_))))
 refine sP (C2 (j := 0) rfl rfl rfl (by omega)) rfl rfl ?_
 refine sQ (qF rfl) rfl ?_
 refine sL (Q2 rfl rfl ((hv0at _).sub (j := 1) rfl)) rfl rfl ?_
 refine sQ (J6 rfl) rfl ?_
 refine sQ (A3 rfl) rfl (B9 ?_)
 refine sD (C8 (nS (tS (tR (sQ (qA rfl) rfl (sQ (qA rfl) rfl (sD (nS (tT ?_)))))))))
 refine X7 (b := b) (rT rfl) (rT rfl) (by repeat (first | exact Pk.here | apply Pk.there)) (by repeat (first | exact Pk.here | apply Pk.there)) (by repeat (first | exact Pk.here | apply Pk.there)) ?_
 (obtain rfl : k = 6 := (by omega); exact R9.go (by rw [hsk, A4p hd, if_pos (B03 hK (by omega) hC hQ)]) (Mc.mk htl.symm rfl (hrt.mono hleG) (by simp) hslE hrE (by simp) (E2 _ _).symm ((hrf.mono hleG).snoc (RFr.mk ⟨by omega, by omega⟩ rfl (hse.mono hleG) (hre.mono hleG)))))
 refine sQ (qA rfl) rfl (sD (nS (cF rfl (tS (tR ?_)))))
 refine sB (qE rfl rfl) rfl rfl (fun h296 => ?_) (fun h296 => ?_)
 refine sQ (qA rfl) rfl (sD (nS (qT rfl ?_)))
 refine I0 I1 rfl ?_
 refine J2 (i := 0) (l' := [tt,ff,ff,ff,ff,ff,ff,ff,ff,ff,ff,ff,ff]) rfl F4 (qM rfl) rfl (by kernel_rfl) rfl rfl ?_
 refine aP 1 rfl (qM rfl) rfl ?_
 refine aP 2 rfl (C2 (j := 0) rfl rfl rfl (by omega)) rfl ?_
 refine aP 3 rfl (qF rfl) rfl ?_
 refine aL 4 rfl (Q2 rfl rfl ((hv0at _).sub (j := 1) rfl)) rfl ?_
 refine aP 5 rfl (qM rfl) rfl ?_
 refine aP 6 rfl (C2 (j := 1) rfl rfl rfl (by omega)) rfl ?_
 refine aP 7 rfl (qF rfl) rfl ?_
 refine aL 8 rfl (Q2 rfl rfl ((hv1at _).sub (j := 1) rfl)) rfl ?_
 refine aP 9 rfl (H6 rfl rfl (by omega) (by omega)) rfl ?_
 refine aP 10 rfl (A3p rfl rfl (by omega)) rfl ?_
 refine A8 11 ?_
 refine Q5 rfl rfl ((A3Q _ _ _)) rfl rfl rfl ?_
 refine A8 12 ?_
 (refine A3P (l' := [tt,tt,tt,tt,tt,tt,tt,tt,tt,tt,tt,tt,tt]) rfl rfl (A1U _ (s.st.length - 2) _ _ _ _ _ _ _ _ _ _ _ (by omega) rfl) (Pk2 (by repeat (first | exact Pk.here | apply Pk.there)) (by repeat (first | exact Pk.here | apply Pk.there))) rfl rfl rfl (by kernel_rfl) (fun v G3 outs hle3 hh => ?_); obtain ⟨hG, rfl, p7, c7, rfl⟩ := hh; subst hG)
 refine D6 (C8 (nS (tS (tR (sQ (qA rfl) rfl (sQ (qA rfl) rfl (sD (nS (tT ?_)))))))))
 refine X7 (b := b) (rT rfl) (rT rfl) (by repeat (first | exact Pk.here | apply Pk.there)) (by repeat (first | exact Pk.here | apply Pk.there)) (by repeat (first | exact Pk.here | apply Pk.there)) ?_
 (obtain rfl : k = 7 := (by omega); exact R9.go (by rw [hsk, A5U hd, if_pos (A69 (.inl rfl) hK (by omega) hC hQ), ← B0Z ⟨c3, c4⟩ ⟨d3, d4⟩]) (Mc.mk (by rw [List.length_append, htl]; rfl) (E2 _ _).symm (hrt.snoc (P5.leaf (k := 0) (num := (v0.num + v1.num).tmod 1000) (by have := B0Z ⟨c3, c4⟩ ⟨d3, d4⟩; unfold C6; omega) ⟨by decide, by decide⟩)) rfl hse hre rfl rfl hrf))
 refine sQ (qA rfl) rfl (sD (nS (cF rfl (tS (tR ?_)))))
 refine sB (qE rfl rfl) rfl rfl (fun h335 => ?_) (fun h335 => ?_)
 refine sQ (qA rfl) rfl (sD (nS (qT rfl (tS (tR (sQ (qA rfl) rfl (sD (nS (tS (tS ?_))))))))))
 refine I0 I1 rfl ?_
 refine J2 (i := 0) (l' := [tt,ff,ff,ff,ff,ff,ff,ff,ff]) rfl F4 (qM rfl) rfl (by kernel_rfl) rfl rfl ?_
 refine aP 1 rfl (C2 (j := 0) rfl rfl rfl (by omega)) rfl ?_
 refine aP 2 rfl (qF rfl) rfl ?_
 refine aL 3 rfl (Q2 rfl rfl ((hv0at _).sub (j := 1) rfl)) rfl ?_
 refine aP 4 rfl (qM rfl) rfl ?_
 refine aP 5 rfl (C2 (j := 1) rfl rfl rfl (by omega)) rfl ?_
 refine aP 6 rfl (qF rfl) rfl ?_
 refine aL 7 rfl (Q2 rfl rfl ((hv1at _).sub (j := 1) rfl)) rfl ?_
 refine A12 (i := 8) (l' := [tt,tt,tt,tt,tt,tt,tt,tt,tt]) rfl F4 (J3 rfl rfl) rfl (by kernel_rfl) rfl rfl (fun h356 => ?_) (fun h356 => ?_)
 refine D6 (nS (qT rfl (tR (sQ (qA rfl) rfl (sD (nS (tR (sQ (qM rfl) rfl (sQ (qM rfl) rfl ?_)))))))))
 refine F0 rfl ((A3Q _ _ _)) rfl rfl ?_
 (refine D2 rfl (A1U _ (s.st.length - 2) _ _ _ _ _ _ _ _ _ _ _ (by omega) rfl) (Pk2 (by repeat (first | exact Pk.here | apply Pk.there)) (by repeat (first | exact Pk.here | apply Pk.there))) rfl rfl (fun v G3 outs hle3 hh => ?_); obtain ⟨hG, rfl, p7, c7, rfl⟩ := hh; subst hG)
 refine sD (C8 (nS (tS (tR (sQ (qA rfl) rfl (sQ (qA rfl) rfl (sD (nS (tT ?_)))))))))
 refine X7 (b := b) (rT rfl) (rT rfl) (by repeat (first | exact Pk.here | apply Pk.there)) (by repeat (first | exact Pk.here | apply Pk.there)) (by repeat (first | exact Pk.here | apply Pk.there)) ?_
 (obtain rfl : k = 8 := (by omega); have hlt : v0.num < v1.num := (by omega); exact R9.go (by rw [hsk, A4q hd, if_pos (A69 (.inr rfl) hK (by omega) hC hQ), if_pos hlt]) (Mc.mk (by rw [List.length_append, htl]; rfl) (E2 _ _).symm (hrt.snoc (P5.leaf (k := 1) (num := 1) ⟨by decide, by decide⟩ ⟨by decide, by decide⟩)) rfl hse hre rfl rfl hrf))
 refine D6 (nS (cF rfl (tK (nS (tR (sQ (qM rfl) rfl (sQ (qM rfl) rfl ?_)))))))
 refine F0 rfl ((A3Q _ _ _)) rfl rfl ?_
 (refine D2 rfl (A1U _ (s.st.length - 2) _ _ _ _ _ _ _ _ _ _ _ (by omega) rfl) (Pk2 (by repeat (first | exact Pk.here | apply Pk.there)) (by repeat (first | exact Pk.here | apply Pk.there))) rfl rfl (fun v G3 outs hle3 hh => ?_); obtain ⟨hG, rfl, p7, c7, rfl⟩ := hh; subst hG)
 refine sD (C8 (nS (tS (tR (sQ (qA rfl) rfl (sQ (qA rfl) rfl (sD (nS (tT ?_)))))))))
 refine X7 (b := b) (rT rfl) (rT rfl) (by repeat (first | exact Pk.here | apply Pk.there)) (by repeat (first | exact Pk.here | apply Pk.there)) (by repeat (first | exact Pk.here | apply Pk.there)) ?_
 (obtain rfl : k = 8 := (by omega); have hlt : ¬v0.num < v1.num := (by omega); exact R9.go (by rw [hsk, A4q hd, if_pos (A69 (.inr rfl) hK (by omega) hC hQ), if_neg hlt]) (Mc.mk (by rw [List.length_append, htl]; rfl) (E2 _ _).symm (hrt.snoc (P5.leaf (k := 1) (num := 0) ⟨by decide, by decide⟩ ⟨by decide, by decide⟩)) rfl hse hre rfl rfl hrf))
 refine sQ (qA rfl) rfl (sD (nS (cF rfl (tS (tR ?_)))))
 refine sP (E9 rfl rfl (by omega)) rfl rfl ?_
 refine sQ (qA rfl) rfl (sD (nS (cF rfl (tS (tR ?_)))))
 refine sP (E9 rfl rfl (by omega)) rfl rfl ?_
 refine sQ (qA rfl) rfl (sD (nS (cF rfl (tS (tR ?_)))))
 refine sP (W9 rfl rfl (by omega)) rfl rfl ?_
 refine sQ (qA rfl) rfl (sD (nS (qT rfl (tR (sQ (qM rfl) rfl (sQ (qM rfl) rfl (sQ (D9 rfl rfl) rfl ?_)))))))
 (refine D2 rfl (A1U _ (s.st.length - 2) _ _ _ _ _ _ _ _ _ _ _ (by omega) rfl) (Pk2 (by repeat (first | exact Pk.here | apply Pk.there)) (by repeat (first | exact Pk.here | apply Pk.there))) rfl rfl (fun v G3 outs hle3 hh => ?_); obtain ⟨hG, rfl, p7, c7, rfl⟩ := hh; subst hG)
 refine sD (C8 (nS (tS (tR (sQ (qA rfl) rfl (sQ (qA rfl) rfl (sD (nS (tT ?_)))))))))
 refine X7 (b := b) (rT rfl) (rT rfl) (by repeat (first | exact Pk.here | apply Pk.there)) (by repeat (first | exact Pk.here | apply Pk.there)) (by repeat (first | exact Pk.here | apply Pk.there)) ?_
 (obtain rfl : k = 11 := (by omega); exact R9.go (by rw [hsk, A5V hd]) (Mc.mk (by rw [List.length_append, htl]; rfl) (E2 _ _).symm (hrt.snoc (P5.mk (k := 3) (num := 0) (env := []) (parts := [v0, v1]) ⟨by decide, by decide⟩ ⟨by decide, by decide⟩ rfl rfl (C5.nil _ 4) rfl hslV hrV)) rfl hse hre rfl rfl hrf))
theorem B04 {i C : Nat} {Q : Int} {v0 : MV} (hK : ∀ j, j < i → ([v0].getD j O6).k = Q) (hi : C ≤ i) (hC : (M6 9).2.1 = C) (hQ : (M6 9).1 = Q) : v0.k = 1 := by
 have hC1 : C = 1 := hC.symm
 have hQ1 : Q = 1 := hQ.symm
 have := hK 0 (by omega)
 rw [hQ1] at this; exact this
theorem B6J {k : Int} {i C : Nat} {Q : Int} {v0 : MV} (hk : k = 12 ∨ k = 13) (hK : ∀ j, j < i → ([v0].getD j O6).k = Q) (hi : C ≤ i) (hC : (M6 k).2.1 = C) (hQ : (M6 k).1 = Q) : v0.k = 3 := by
 have hC1 : C = 1 := by rcases hk with rfl | rfl <;> exact hC.symm
 have hQ1 : Q = 3 := by rcases hk with rfl | rfl <;> exact hQ.symm
 have := hK 0 (by omega)
 rw [hQ1] at this; exact this
theorem B6K (k a : Int) (s : K7) (b n N : Nat) (v0 : MV) (G : IM) (hp0 : List A4) (hk : k = 9 ∨ k = 12 ∨ k = 13) (hn : n ≤ 120) (hN : N ≤ 2000) (ho : s.ok n N) (hd : s.st.drop (s.st.length - 1) = [v0]) (hat : s.at' < n) (hop : M3 n s.at'.toNat (k, a) = true) (hl : 1 ≤ s.st.length) (hM : Mc G s b hp0) :
  Fn Tryz.prog 70 [.pointer (some ⟨b, 0, none⟩), .agg ⟨[.int .i64 k, .int .i64 a]⟩] hp0 G (R9 (M2 k a s) b) := by
 have hp : K5 k = 1 := A5S hk
 have hlo := ho.lo; have hhi := ho.hi; have hst := ho.st; have henv := ho.env; have hfr := ho.fr
 obtain ⟨c1, c2, c3, c4, c5, c6, c7, c8, _, _⟩ := (ho.sto v0 (List.mem_of_mem_drop (i := s.st.length - 1) (by rw [hd]; simp))).spec
 obtain ⟨_, _, a1, a2, _, _, _, b4⟩ := A3L hop (by omega)
 have htl : (s.st.take (s.st.length - 1)).length = s.st.length - 1 := by rw [List.length_take]; omega
 have hX := A4y k G
 have hWl := B00 k
 rw [hp] at hX hWl
 have hsk : M2 k a s = S5 k a s := X3 (by omega)
 obtain ⟨C, hC⟩ : ∃ C, (M6 k).2.1 = C := ⟨_, rfl⟩
 obtain ⟨Q, hQ⟩ : ∃ Q, (M6 k).1 = Q := ⟨_, rfl⟩
 rw [hC] at hWl hX
 rw [hQ] at hX
 obtain ⟨ps, cs, es, pe, ce, ee, pf, cf, ef, rfl, hrs, hse, hre, hrf⟩ := hM
 have hPop := A4E b 1 s.st.length cs (.int .i64 s.at') (.slice pe s.env.length ce) (.slice pf s.fr.length cf) ps es G (by omega) (by omega) hrs.len hrs.all hrs.ones ⟨rfl, rfl, rfl⟩
 have hrd := hrs.drop (s.st.length - 1)
 have hrt := hrs.take (s.st.length - 1)
 rw [hd] at hrd
 refine B7 Tryz.func70 rfl Tryz.ntmps70 Tryz.results70 rfl ?_
 intro w0
 refine tS (tR ?_)
 refine sE (D5 rfl rfl) rfl (fun b3 => ?_)
 refine sQ (qA rfl) rfl (sQ (qA rfl) rfl (sD (nS (tS (tR (sQ (A3 rfl) rfl (sL (A5 rfl rfl) rfl rfl ?_)))))))
 refine F0 rfl (hX) rfl rfl ?_
 refine N5 ?_
 (refine D2 rfl hPop (Pk2 (by repeat (first | exact Pk.here | apply Pk.there)) (by repeat (first | exact Pk.here | apply Pk.there))) rfl rfl (fun v G1 outs hle1 hh => ?_); unfold A0F at hh; rw [if_neg (by omega)] at hh; obtain ⟨q, d, rfl, rfl, hslV⟩ := hh; have hrV := hrd.mono hle1; replace hrt := hrt.mono hle1; replace hse := hse.mono hle1; replace hre := hre.mono hle1; replace hrf := hrf.mono hle1; obtain ⟨b0, o0, q0, dd0, q0', dd0', rfl, hv0at, hv0, hg0⟩ := hslV.mvAt hrV (i := 0) (t := v0) rfl)
 refine A09 ?_
 (refine sP (A1q (l := C) rfl rfl rfl (by have := hslV.sl.2.1; omega)) rfl rfl ?_)
 refine sQ (D8 rfl rfl) rfl (sQ (qM rfl) rfl (sD (nS ?_)))
 refine B5 ?_
 (refine K4 (fun (i : Nat) => ⟨[(37, .int .i64 (i : Int)), (36, .int .i64 (C : Int)), (35, .slice (some ⟨b0, o0, none⟩) C d), (7, .int .i64 Q), (9, .int .i64 (M6 k).2.2), (10, .slice (some ⟨b0, o0, none⟩) 1 d), (3, .pointer (some ⟨b3, 0, none⟩)), (0, .pointer (some ⟨b, 0, none⟩))], [.blk b3 [.int .i64 k, .int .i64 a], .blk b [.int .i64 s.at', .slice ps (s.st.length - 1) cs, .slice pe s.env.length ce, .slice pf s.fr.length cf], .slc ps cs 82 4 (s.st.length - 1) (es.take (s.st.length - 1)).flatten, .slc pf cf 135 2 s.fr.length ef.flatten], G1⟩) (fun i => i ≤ C ∧ ∀ j, j < i → ([v0].getD j O6).k = Q) (fun i => C - i) 0 ?_ ?_ ?_)
 exact C9
 (exact ⟨Nat.zero_le _, by omega⟩)
 (rintro i ⟨hi, hK⟩)
 refine tS (tR ?_)
 refine sB (J3 rfl rfl) rfl rfl (fun h63 => ?_) (fun h63 => ?_)
 refine sD (nS (tS (qT rfl (tK (nS (tS ?_))))))
 refine B5 ?_
 refine tS (tR ?_)
 (have hiC : i < 1 := (by omega); obtain ⟨b2, o2, q2, dd2, q2', dd2', hp2, hvat, hv2, hg2⟩ := hslV.mvAt hrV (i := i) (A18 (d := O6) (by simpa using hiC)); cases hp2; refine sP (C2 (j := i) rfl rfl rfl (by omega)) rfl rfl ?_)
 refine sL (A9 rfl rfl (hvat _) rfl) rfl rfl ?_
 refine sE (B6 rfl) rfl (fun b76 => ?_)
 refine B9 ?_
 refine sD (nS (tS (tR (sQ (A3 rfl) rfl (sL (A5 rfl rfl) rfl rfl (sQ (qM rfl) rfl ?_))))))
 refine sB (P9 rfl rfl) rfl rfl (fun h85 => ?_) (fun h85 => ?_)
 refine sD (nS (qT rfl (tS (tR (sQ (qM rfl) rfl (sQ (qA rfl) rfl (sQ (qA rfl) rfl (sD (nS (tT (rB (rS (U2 (rB (rS ?_)))))))))))))))
 refine X7 (b := b) (rT rfl) (rT rfl) (by repeat (first | exact Pk.here | apply Pk.there)) (by repeat (first | exact Pk.here | apply Pk.there)) (by repeat (first | exact Pk.here | apply Pk.there)) ?_
 (exact R9.no (by rw [hsk]; exact B02 (V := [v0]) (by rw [hp]; exact hd) (B01 (j := i) (by omega) (by rw [hC]; exact hWl) (by rw [hQ]; assumption))))
 refine sD (nS (cF rfl (tK (C8 (nS (tR ?_))))))
 refine sP (H6 rfl rfl (by omega) (by omega)) rfl rfl ?_
 refine sQ (qM rfl) rfl (sD ?_)
 refine K3 (i + 1) ?_ ?_ ?_
 exact C9
 (refine ⟨by omega, fun j hj2 => ?_⟩; rcases Nat.lt_or_ge j i with h5 | h5; exact hK j h5; obtain rfl : j = i := (by omega); exact Classical.not_not.1 (by assumption))
 (show C - (i + 1) < C - i; omega)
 refine sD (nS (tS (cF rfl (M7 (M8 (N3 (M9 (nS (tS (tR (sQ (qM rfl) rfl ?_)))))))))))
 refine sQ (J6 rfl) rfl ?_
 refine sQ (A3 rfl) rfl (sL (A5 rfl rfl) rfl rfl ?_)
 refine sP (H6 rfl rfl (by omega) (by omega)) rfl rfl ?_
 refine sQ (J6 rfl) rfl ?_
 refine sQ (A3 rfl) rfl (B9 ?_)
 refine sD (nS (tS (tS (tR (sQ (A3 rfl) rfl (sL (A5 rfl rfl) rfl rfl (sD (nS ?_))))))))
 refine B5 ?_
 refine tS (tR ?_)
 refine sP (E9 rfl rfl (by omega)) rfl rfl ?_
 refine sQ (qA rfl) rfl (sD (nS (cF rfl (tS (tR ?_)))))
 refine sP (E9 rfl rfl (by omega)) rfl rfl ?_
 refine sQ (qA rfl) rfl (sD (nS (cF rfl (tS (tR ?_)))))
 refine sP (E9 rfl rfl (by omega)) rfl rfl ?_
 refine sQ (qA rfl) rfl (sD (nS (cF rfl (tS (tR ?_)))))
 refine sP (E9 rfl rfl (by omega)) rfl rfl ?_
 refine sQ (qA rfl) rfl (sD (nS (cF rfl (tS (tR ?_)))))
 refine sP (E9 rfl rfl (by omega)) rfl rfl ?_
 refine sQ (qA rfl) rfl (sD (nS (cF rfl (tS (tR ?_)))))
 refine sP (E9 rfl rfl (by omega)) rfl rfl ?_
 refine sQ (qA rfl) rfl (sD (nS (cF rfl (tS (tR ?_)))))
 refine sP (E9 rfl rfl (by omega)) rfl rfl ?_
 refine sQ (qA rfl) rfl (sD (nS (cF rfl (tS (tR ?_)))))
 refine sP (E9 rfl rfl (by omega)) rfl rfl ?_
 refine sQ (qA rfl) rfl (sD (nS (cF rfl (tS (tR ?_)))))
 refine sB (qE rfl rfl) rfl rfl (fun h205 => ?_) (fun h205 => ?_)
 refine sQ (qA rfl) rfl (sD (nS (qT rfl (tS (tR (sQ (qM rfl) rfl ?_))))))
 refine sP (C2 (j := 0) rfl rfl rfl (by omega)) rfl rfl ?_
 refine sQ (qF rfl) rfl ?_
 refine sL (Q2 rfl rfl ((hv0at _).sub (j := 1) rfl)) rfl rfl ?_
 refine sB (qE rfl rfl) rfl rfl (fun h216 => ?_) (fun h216 => ?_)
 refine sD (nS (qT rfl ?_))
 refine I0 I1 rfl ?_
 refine J2 (i := 0) (l' := [tt,ff,ff,ff,ff,ff,ff,ff,ff,ff]) rfl F4 (qM rfl) rfl (by kernel_rfl) rfl rfl ?_
 refine aP 1 rfl (J6 rfl) rfl ?_
 refine aP 2 rfl (A3 rfl) rfl ?_
 refine aL 3 rfl (A5 rfl rfl) rfl ?_
 refine aP 4 rfl (A3 rfl) rfl ?_
 refine aL 5 rfl (A5 rfl rfl) rfl ?_
 refine aP 6 rfl (H6 rfl rfl (by omega) (by omega)) rfl ?_
 refine aP 7 rfl (J6 rfl) rfl ?_
 refine aP 8 rfl (A3 rfl) rfl ?_
 refine A8 9 ?_
 refine S3 rfl ?_
 refine D6 (C8 (nS (tS (tR (sQ (qA rfl) rfl (sQ (qA rfl) rfl (sD (nS (tT ?_)))))))))
 refine X7 (b := b) (rT rfl) (rT rfl) (by repeat (first | exact Pk.here | apply Pk.there)) (by repeat (first | exact Pk.here | apply Pk.there)) (by repeat (first | exact Pk.here | apply Pk.there)) ?_
 (obtain rfl : k = 9 := (by omega); exact R9.go (by rw [hsk, A4r hd, if_pos (B04 hK (by omega) hC hQ), if_pos (by omega)]) (Mc.mk htl.symm rfl hrt rfl hse hre rfl rfl hrf))
 refine sD (nS (cF rfl (tK (C8 (nS (tS (tR (sQ (qA rfl) rfl (sQ (qA rfl) rfl (sD (nS (tT ?_))))))))))))
 refine X7 (b := b) (rT rfl) (rT rfl) (by repeat (first | exact Pk.here | apply Pk.there)) (by repeat (first | exact Pk.here | apply Pk.there)) (by repeat (first | exact Pk.here | apply Pk.there)) ?_
 (obtain rfl : k = 9 := (by omega); exact R9.go (by rw [hsk, A4r hd, if_pos (B04 hK (by omega) hC hQ), if_neg (by omega)]) (Mc.mk htl.symm rfl hrt rfl hse hre rfl rfl hrf))
 refine sQ (qA rfl) rfl (sD (nS (cF rfl (tS (tR ?_)))))
 refine sP (E9 rfl rfl (by omega)) rfl rfl ?_
 refine sQ (qA rfl) rfl (sD (nS (cF rfl (tS (tR ?_)))))
 refine sP (E9 rfl rfl (by omega)) rfl rfl ?_
 refine sQ (qA rfl) rfl (sD (nS (cF rfl ?_)))
 (have hk12 : k = 12 ∨ k = 13 := (by omega); have hk3 : v0.k = 3 := B6J hk12 hK (by omega) hC hQ; have hpl : v0.parts.length = 2 := c7 hk3; obtain ⟨_, f0, _, _, hsp0, hrp0⟩ := hv0.kids; have hkn : (k - 12).toNat < v0.parts.length := (by omega); obtain ⟨b2, o2, q2, dd2, q2', dd2', rfl, hvpat, hvp, hgp⟩ := hsp0.mvAt hrp0 (i := (k - 12).toNat) (A18 (d := O6) hkn); refine I0 I1 rfl ?_)
 refine J2 (i := 0) (l' := [tt,ff,ff,ff,ff,ff,ff,ff,ff,ff,ff]) rfl F4 (qM rfl) rfl (by kernel_rfl) rfl rfl ?_
 refine aP 1 rfl (qM rfl) rfl ?_
 refine aP 2 rfl (C2 (j := 0) rfl rfl rfl (by omega)) rfl ?_
 refine aP 3 rfl (qF rfl) rfl ?_
 refine aL 4 rfl (Q2 rfl rfl ((hv0at _).sub (j := 3) rfl)) rfl ?_
 refine aP 5 rfl (A3 rfl) rfl ?_
 refine aL 6 rfl (A5 rfl rfl) rfl ?_
 refine aP 7 rfl (A8u (z := (k - 12).toNat) rfl rfl (by omega) (by omega)) rfl ?_
 refine aP 8 rfl (C2 (j := (k - 12).toNat) rfl rfl rfl hkn) rfl ?_
 refine aL 9 rfl (A9 rfl rfl (hvpat _) rfl) rfl ?_
 refine A8 10 ?_
 (refine A3P (l' := [tt,tt,tt,tt,tt,tt,tt,tt,tt,tt,tt]) rfl rfl (A1U _ (s.st.length - 1) _ _ _ _ _ _ _ _ _ _ _ (by omega) rfl) (Pk2 (by repeat (first | exact Pk.here | apply Pk.there)) (by repeat (first | exact Pk.here | apply Pk.there))) rfl rfl rfl (by kernel_rfl) (fun v G3 outs hle3 hh => ?_); obtain ⟨hG, rfl, p7, c7, rfl⟩ := hh; subst hG)
 refine D6 (C8 (nS (tS (tR (sQ (qA rfl) rfl (sQ (qA rfl) rfl (sD (nS (tT ?_)))))))))
 refine X7 (b := b) (rT rfl) (rT rfl) (by repeat (first | exact Pk.here | apply Pk.there)) (by repeat (first | exact Pk.here | apply Pk.there)) (by repeat (first | exact Pk.here | apply Pk.there)) ?_
 (exact R9.go (by rw [hsk, A5W hk12 hd, if_pos hk3]) (Mc.mk (by rw [List.length_append, htl]; rfl) (E2 _ _).symm (hrt.snoc hvp) rfl hse hre rfl rfl hrf))
theorem B6L (b n c : Nat) (A E F : Value) (p : Option Addr) (es : List (List Value)) (G : IM) (hn : n ≤ 4294967296) (hl : es.length = n) (ha : ∀ e ∈ es, e.length = 4) (ho : ∀ e ∈ es, e.all (·.oneCell') = true) (hA : A.cells = ⟨[A]⟩ ∧ E.cells = ⟨[E]⟩ ∧ F.cells = ⟨[F]⟩) :
  Fn Tryz.prog 129 [.pointer (some ⟨b, 0, none⟩), .int .i64 ((0 : Nat) : Int)] [.blk b [A, .slice p n c, E, F], .slc p c 82 4 n es.flatten] G (fun _ v outs => ∃ q d, v = .tuple ⟨[.slice q 0 d, .bool true]⟩ ∧ outs = [.blk b [A, .slice p n c, E, F], .slc p c 82 4 n es.flatten]) := by
 refine (A4E b 0 n c A E F p es G (by omega) hn hl ha ho hA).mono (fun G' v outs _ hh => ?_)
 unfold A0F at hh
 rw [if_neg (by omega)] at hh
 obtain ⟨q, d, h1, h2, _⟩ := hh
 refine ⟨q, d, h1, ?_⟩
 rw [h2, Nat.sub_zero, ← hl, List.take_length]
theorem B6M (k a : Int) (s : K7) (b n N : Nat) (G : IM) (hp0 : List A4) (hk : k = 1 ∨ k = 2 ∨ k = 3 ∨ k = 4 ∨ k = 5 ∨ k = 10) (hn : n ≤ 120) (hN : N ≤ 2000) (ho : s.ok n N) (hat : s.at' < n) (hop : M3 n s.at'.toNat (k, a) = true) (hM : Mc G s b hp0) :
  Fn Tryz.prog 70 [.pointer (some ⟨b, 0, none⟩), .agg ⟨[.int .i64 k, .int .i64 a]⟩] hp0 G (R9 (M2 k a s) b) := by
 have hp : K5 k = 0 := A5T (by omega) (by omega)
 have hlo := ho.lo; have hhi := ho.hi; have hst := ho.st; have henv := ho.env; have hfr := ho.fr
 obtain ⟨_, _, a1, a2, b1, b2, b3, b4⟩ := A3L hop (by omega)
 have hX : Fn Tryz.prog 128 [.int .i64 k] [] G (H3 (.tuple ⟨[.int .i64 ((0 : Nat) : Int), .int .i64 0, .int .i64 ((0 : Nat) : Int), .int .i64 0]⟩) G) := by
  have hw : M6 k = (0, 0, 0) := by rcases hk with rfl | rfl | rfl | rfl | rfl | rfl <;> rfl
  have h := A4y k G
  rw [hp, hw] at h
  exact h
 have hsk : M2 k a s = S5 k a s := X3 (by omega)
 obtain ⟨ps, cs, es, pe, ce, ee, pf, cf, ef, rfl, hrs, hse, hre, hrf⟩ := hM
 have hPop := B6L b s.st.length cs (.int .i64 s.at') (.slice pe s.env.length ce) (.slice pf s.fr.length cf) ps es G (by omega) hrs.len hrs.all hrs.ones ⟨rfl, rfl, rfl⟩
 refine B7 Tryz.func70 rfl Tryz.ntmps70 Tryz.results70 rfl ?_
 intro w0
 refine tS (tR ?_)
 refine sE (D5 rfl rfl) rfl (fun b3 => ?_)
 refine sQ (qA rfl) rfl (sQ (qA rfl) rfl (sD (nS (tS (tR (sQ (A3 rfl) rfl (sL (A5 rfl rfl) rfl rfl ?_)))))))
 refine F0 rfl (hX) rfl rfl ?_
 refine N5 ?_
 (refine D2 rfl hPop (Pk2 (by repeat (first | exact Pk.here | apply Pk.there)) (by repeat (first | exact Pk.here | apply Pk.there))) rfl rfl (fun v G1 outs hle1 hh => ?_); obtain ⟨q, d, rfl, rfl⟩ := hh; replace hrs := hrs.mono hle1; replace hse := hse.mono hle1; replace hre := hre.mono hle1; replace hrf := hrf.mono hle1)
 refine A09 ?_
 (refine sP (A1q (l := 0) rfl rfl rfl (by omega)) rfl rfl ?_)
 refine sQ (D8 rfl rfl) rfl (sQ (qM rfl) rfl (sD (nS ?_)))
 refine B5 ?_
 (refine K4 (fun (i : Nat) => ⟨[(37, .int .i64 (i : Int)), (36, .int .i64 ((0 : Nat) : Int)), (35, .slice q 0 d), (7, .int .i64 0), (9, .int .i64 0), (10, .slice q 0 d), (3, .pointer (some ⟨b3, 0, none⟩)), (0, .pointer (some ⟨b, 0, none⟩))], [.blk b3 [.int .i64 k, .int .i64 a], .blk b [.int .i64 s.at', .slice ps s.st.length cs, .slice pe s.env.length ce, .slice pf s.fr.length cf], .slc ps cs 82 4 s.st.length es.flatten, .slc pf cf 135 2 s.fr.length ef.flatten], G1⟩) (fun i => i = 0) (fun i => 0) 0 ?_ ?_ ?_)
 exact C9
 (exact (rfl : (0 : Nat) = 0))
 (rintro i hi; subst hi)
 refine tS (tR ?_)
 refine sP (A2S rfl rfl (by omega)) rfl rfl ?_
 refine sD (nS (tS (cF rfl (M7 (M8 (N3 (M9 (nS (tS (tR (sQ (qM rfl) rfl ?_)))))))))))
 refine sQ (J6 rfl) rfl ?_
 refine sQ (A3 rfl) rfl (sL (A5 rfl rfl) rfl rfl ?_)
 refine sP (H6 rfl rfl (by omega) (by omega)) rfl rfl ?_
 refine sQ (J6 rfl) rfl ?_
 refine sQ (A3 rfl) rfl (B9 ?_)
 refine sD (nS (tS (tS (tR (sQ (A3 rfl) rfl (sL (A5 rfl rfl) rfl rfl (sD (nS ?_))))))))
 refine B5 (tS (tR (sB (qE rfl rfl) rfl rfl (fun h95 => ?_) (fun h95 => ?_))))
 refine sQ (qA rfl) rfl (sD (nS (qT rfl (tR (sQ (qM rfl) rfl (sQ (A3 rfl) rfl (sL (A5 rfl rfl) rfl rfl ?_)))))))
 refine F0 rfl ((A3Q _ _ _)) rfl rfl ?_
 (refine D2 rfl (A1U _ s.st.length _ _ _ _ _ _ _ _ _ _ _ (by omega) rfl) (Pk2 (by repeat (first | exact Pk.here | apply Pk.there)) (by repeat (first | exact Pk.here | apply Pk.there))) rfl rfl (fun v G3 outs hle3 hh => ?_); obtain ⟨hG, rfl, p7, c7, rfl⟩ := hh; subst hG)
 refine sD (C8 (nS (tS (tR (sQ (qA rfl) rfl (sQ (qA rfl) rfl (sD (nS (tT ?_)))))))))
 refine X7 (b := b) (rT rfl) (rT rfl) (by repeat (first | exact Pk.here | apply Pk.there)) (by repeat (first | exact Pk.here | apply Pk.there)) (by repeat (first | exact Pk.here | apply Pk.there)) ?_
 (obtain rfl : k = 1 := (by omega); exact R9.go (by rw [hsk, A5X]) (Mc.mk (by simp) (E2 _ _).symm (hrs.snoc (P5.leaf (k := 0) (num := a) ⟨by omega, by omega⟩ ⟨by decide, by decide⟩)) rfl hse hre rfl rfl hrf))
 refine sQ (qA rfl) rfl (sD (nS (cF rfl (tS (tR ?_)))))
 refine sB (qE rfl rfl) rfl rfl (fun h124 => ?_) (fun h124 => ?_)
 refine sQ (qA rfl) rfl (sD (nS (qT rfl (tR (sQ (qM rfl) rfl (sQ (A3 rfl) rfl (sL (A5 rfl rfl) rfl rfl ?_)))))))
 refine F0 rfl ((A3Q _ _ _)) rfl rfl ?_
 (refine D2 rfl (A1U _ s.st.length _ _ _ _ _ _ _ _ _ _ _ (by omega) rfl) (Pk2 (by repeat (first | exact Pk.here | apply Pk.there)) (by repeat (first | exact Pk.here | apply Pk.there))) rfl rfl (fun v G3 outs hle3 hh => ?_); obtain ⟨hG, rfl, p7, c7, rfl⟩ := hh; subst hG)
 refine sD (C8 (nS (tS (tR (sQ (qA rfl) rfl (sQ (qA rfl) rfl (sD (nS (tT ?_)))))))))
 refine X7 (b := b) (rT rfl) (rT rfl) (by repeat (first | exact Pk.here | apply Pk.there)) (by repeat (first | exact Pk.here | apply Pk.there)) (by repeat (first | exact Pk.here | apply Pk.there)) ?_
 (obtain rfl : k = 2 := (by omega); exact R9.go (by rw [hsk, A5Y]) (Mc.mk (by simp) (E2 _ _).symm (hrs.snoc (P5.leaf (k := 1) (num := a) ⟨by omega, by omega⟩ ⟨by decide, by decide⟩)) rfl hse hre rfl rfl hrf))
 refine sQ (qA rfl) rfl (sD (nS (cF rfl (tS (tR ?_)))))
 refine sB (qE rfl rfl) rfl rfl (fun h153 => ?_) (fun h153 => ?_)
 refine sQ (qA rfl) rfl (sD (nS (qT rfl (tS ?_))))
 refine I0 I1 rfl ?_
 refine J2 (i := 0) (l' := [tt,ff,ff,ff,ff,ff,ff,ff,ff,ff]) rfl F4 (qM rfl) rfl (by kernel_rfl) rfl rfl ?_
 refine aP 1 rfl (J6 rfl) rfl ?_
 refine aP 2 rfl (A3 rfl) rfl ?_
 refine aL 3 rfl (A5 rfl rfl) rfl ?_
 refine aP 4 rfl (D8 rfl rfl) rfl ?_
 refine aP 5 rfl (L7 rfl rfl (by omega) (by omega)) rfl ?_
 refine aP 6 rfl (A3 rfl) rfl ?_
 refine aL 7 rfl (A5 rfl rfl) rfl ?_
 refine aP 8 rfl (L7 rfl rfl (by omega) (by omega)) rfl ?_
 refine aP 9 rfl (qA rfl) rfl ?_
 refine D6 (nS (tS (tS (tR (sQ (qM rfl) rfl ?_)))))
 refine sB (J3 rfl rfl) rfl rfl (fun h176 => ?_) (fun h176 => ?_)
 refine sD (nS (qT rfl (tS (tR (sQ (qA rfl) rfl (sQ (qA rfl) rfl (sD (nS (tT (rS (rB (rS ?_))))))))))))
 refine X7 (b := b) (rT rfl) (rT rfl) (by repeat (first | exact Pk.here | apply Pk.there)) (by repeat (first | exact Pk.here | apply Pk.there)) (by repeat (first | exact Pk.here | apply Pk.there)) ?_
 (obtain rfl : k = 3 := (by omega); exact R9.no (by rw [hsk, A4s, if_pos (by omega)]))
 refine sD (nS (cF rfl (tK (nS ?_))))
 (have hk3 : k = 3 := (by omega); obtain ⟨j, hj⟩ : ∃ j : Nat, (s.env.length : Int) - 1 - a = j := ⟨((s.env.length : Int) - 1 - a).toNat, by omega⟩; have hjl : j < s.env.length := (by omega); rw [hj]; obtain ⟨b2, o2, q2, dd2, q2', dd2', rfl, hv2at, hv2, hg2⟩ := hse.mvAt hre (i := j) (A18 (d := O6) hjl))
 refine tR (sQ (qM rfl) rfl (sQ (qM rfl) rfl ?_))
 refine sQ (J6 rfl) rfl ?_
 refine sQ (A3 rfl) rfl (sL (A5 rfl rfl) rfl rfl (sQ (qM rfl) rfl ?_))
 refine sP (C2 (j := j) rfl rfl rfl hjl) rfl rfl ?_
 refine sL (A9 rfl rfl (hv2at _) rfl) rfl rfl ?_
 (refine D2 rfl (A1U _ s.st.length _ _ _ _ _ _ _ _ _ _ _ (by omega) rfl) (Pk2 (by repeat (first | exact Pk.here | apply Pk.there)) (by repeat (first | exact Pk.here | apply Pk.there))) rfl rfl (fun v G3 outs hle3 hh => ?_); obtain ⟨hG, rfl, p7, c7, rfl⟩ := hh; subst hG)
 refine sD (C8 (nS (tS (tR (sQ (qA rfl) rfl (sQ (qA rfl) rfl (sD (nS (tT ?_)))))))))
 refine X7 (b := b) (rT rfl) (rT rfl) (by repeat (first | exact Pk.here | apply Pk.there)) (by repeat (first | exact Pk.here | apply Pk.there)) (by repeat (first | exact Pk.here | apply Pk.there)) ?_
 (obtain rfl : k = 3 := (by omega); exact R9.go (by rw [hsk, A4s, if_neg (by omega), hj, Int.toNat_natCast]) (Mc.mk (by simp) (E2 _ _).symm (hrs.snoc hv2) rfl hse hre rfl rfl hrf))
 refine sQ (qA rfl) rfl (sD (nS (cF rfl (tS (tR ?_)))))
 refine sB (qE rfl rfl) rfl rfl (fun h226 => ?_) (fun h226 => ?_)
 refine sQ (qA rfl) rfl (sD (nS (qT rfl (tS ?_))))
 refine I0 I1 rfl ?_
 refine J2 (i := 0) (l' := [tt,ff,ff,ff,ff,ff,ff,ff,ff,ff,ff]) rfl F4 (qM rfl) rfl (by kernel_rfl) rfl rfl ?_
 refine aP 1 rfl (qM rfl) rfl ?_
 refine aP 2 rfl (J6 rfl) rfl ?_
 refine aP 3 rfl (A3 rfl) rfl ?_
 refine aL 4 rfl (A5 rfl rfl) rfl ?_
 refine aP 5 rfl (qM rfl) rfl ?_
 refine aP 6 rfl (J6 rfl) rfl ?_
 refine aP 7 rfl (A3 rfl) rfl ?_
 refine aL 8 rfl (A5 rfl rfl) rfl ?_
 refine aP 9 rfl (D9 rfl rfl) rfl ?_
 refine A8 10 ?_
 (refine A3P (l' := [tt,tt,tt,tt,tt,tt,tt,tt,tt,tt,tt]) rfl rfl (A1U _ s.st.length _ _ _ _ _ _ _ _ _ _ _ (by omega) rfl) (Pk2 (by repeat (first | exact Pk.here | apply Pk.there)) (by repeat (first | exact Pk.here | apply Pk.there))) rfl rfl rfl (by kernel_rfl) (fun v G3 outs hle3 hh => ?_); obtain ⟨hG, rfl, p7, c7, rfl⟩ := hh; subst hG)
 refine D6 (nS ?_)
 refine I0 I1 rfl ?_
 refine J2 (i := 0) (l' := [tt,ff,ff,ff,ff,ff,ff,ff,ff,ff]) rfl F4 (qM rfl) rfl (by kernel_rfl) rfl rfl ?_
 refine aP 1 rfl (J6 rfl) rfl ?_
 refine aP 2 rfl (A3 rfl) rfl ?_
 refine aL 3 rfl (A5 rfl rfl) rfl ?_
 refine aP 4 rfl (A3 rfl) rfl ?_
 refine aL 5 rfl (A5 rfl rfl) rfl ?_
 refine aP 6 rfl (H6 rfl rfl (by omega) (by omega)) rfl ?_
 refine aP 7 rfl (J6 rfl) rfl ?_
 refine aP 8 rfl (A3 rfl) rfl ?_
 refine A8 9 ?_
 refine S3 rfl ?_
 refine D6 (C8 (nS (tS (tR (sQ (qA rfl) rfl (sQ (qA rfl) rfl (sD (nS (tT ?_)))))))))
 refine X7 (b := b) (rT rfl) (rT rfl) (by repeat (first | exact Pk.here | apply Pk.there)) (by repeat (first | exact Pk.here | apply Pk.there)) (by repeat (first | exact Pk.here | apply Pk.there)) ?_
 (obtain rfl : k = 4 := (by omega); exact R9.go (by rw [hsk, A5Z]) (Mc.mk (by simp) (E2 _ _).symm (hrs.snoc (P5.mk (k := 2) (num := s.at' + 1) (env := s.env) (parts := []) ⟨by omega, by omega⟩ ⟨by decide, by decide⟩ rfl rfl hse hre (C5.nil _ 4) rfl)) rfl hse hre rfl rfl hrf))
 refine sQ (qA rfl) rfl (sD (nS (cF rfl (tS (tR ?_)))))
 refine sB (qE rfl rfl) rfl rfl (fun h277 => ?_) (fun h277 => ?_)
 refine sQ (qA rfl) rfl (sD (nS (qT rfl (tS (tR (sQ (qM rfl) rfl ?_))))))
 refine sQ (J6 rfl) rfl ?_
 refine sQ (A3 rfl) rfl (sL (A5 rfl rfl) rfl rfl (sQ (D8 rfl rfl) rfl ?_))
 refine sP (L7 rfl rfl (by omega) (by omega)) rfl rfl ?_
 refine sQ (qA rfl) rfl (sD (nS (tS (tS (tR (sQ (qM rfl) rfl ?_))))))
 refine sB (J3 rfl rfl) rfl rfl (fun h297 => ?_) (fun h297 => ?_)
 refine sD (nS (qT rfl (tS (tR (sQ (qA rfl) rfl (sQ (qA rfl) rfl (sD (nS (tT (rS (rB (rS ?_))))))))))))
 refine X7 (b := b) (rT rfl) (rT rfl) (by repeat (first | exact Pk.here | apply Pk.there)) (by repeat (first | exact Pk.here | apply Pk.there)) (by repeat (first | exact Pk.here | apply Pk.there)) ?_
 (obtain rfl : k = 5 := (by omega); exact R9.no (by rw [hsk, A2s, if_pos (by omega)]))
 refine sD (nS (cF rfl (tK (nS (tS ?_)))))
 (have hk5 : k = 5 := (by omega); have hf0 : 0 < s.fr.length := (by omega); rw [show ((s.fr.length : Int) - 1) = ((s.fr.length - 1 : Nat) : Int) from (by omega)]; refine A3u (fun a w hs => hs.slc_form (p := pf) (c := cf) (el := 135) (sz := 2) (n := s.fr.length) (cs := ef.flatten) (by repeat first | exact mH | apply mT)) (fun hq => ?_); obtain ⟨_, hncf, hpf⟩ := hq; obtain ⟨gf, rfl⟩ := hpf hf0; obtain ⟨ef1, hef1, pq, cq, esq, rfl, hfI, hsfq, hrfq⟩ := hrf.get (i := s.fr.length - 1) (A18 (d := (0, [])) (by omega)); have hfv : ∀ j v, [Value.int .i64 (s.fr.getD (s.fr.length - 1) (0, [])).1, Value.slice pq (s.fr.getD (s.fr.length - 1) (0, [])).2.length cq][j]? = some v → ef.flatten[(0 + (s.fr.length - 1) * 2) + j]? = some v := (fun j v hj => by rw [Nat.zero_add]; exact A3z hrf.all hef1 j v hj); refine I0 I1 rfl ?_)
 refine J2 (i := 0) (l' := [tt,ff,ff,ff,ff,ff,ff,ff,ff,ff,ff,ff,ff,ff,ff,ff,ff,ff,ff,ff,ff,ff,ff,ff]) rfl F4 (qM rfl) rfl (by kernel_rfl) rfl rfl ?_
 refine aP 1 rfl (qM rfl) rfl ?_
 refine aP 2 rfl (qM rfl) rfl ?_
 refine aP 3 rfl (J6 rfl) rfl ?_
 refine aP 4 rfl (A3 rfl) rfl ?_
 refine aL 5 rfl (A5 rfl rfl) rfl ?_
 refine aP 6 rfl (qM rfl) rfl ?_
 refine aP 7 rfl (C2 (j := s.fr.length - 1) rfl rfl rfl (by omega)) rfl ?_
 refine aP 8 rfl (qF rfl) rfl ?_
 refine aL 9 rfl (Q2 rfl rfl ((A3q (by repeat first | exact mH | apply mT) hfv).sub (j := 0) rfl)) rfl ?_
 refine aP 10 rfl (qM rfl) rfl ?_
 refine aP 11 rfl (J6 rfl) rfl ?_
 refine aP 12 rfl (A3 rfl) rfl ?_
 refine aL 13 rfl (A5 rfl rfl) rfl ?_
 refine aP 14 rfl (qM rfl) rfl ?_
 refine aP 15 rfl (C2 (j := s.fr.length - 1) rfl rfl rfl (by omega)) rfl ?_
 refine aP 16 rfl (qF rfl) rfl ?_
 refine aL 17 rfl (Q2 rfl rfl ((A3q (by repeat first | exact mH | apply mT) hfv).sub (j := 1) rfl)) rfl ?_
 refine aP 18 rfl (J6 rfl) rfl ?_
 refine aP 19 rfl (A3 rfl) rfl ?_
 refine A8 20 ?_
 refine S3 rfl ?_
 refine aP 21 rfl (J6 rfl) rfl ?_
 refine aP 22 rfl (A3 rfl) rfl ?_
 refine A8 23 ?_
 refine P3 rfl rfl rfl rfl rfl rfl rfl rfl (by decide +kernel) (by repeat first | exact Sw.here | apply Sw.there) (by rfl) ?_
 refine D6 (nS (tR (sQ (qM rfl) rfl (sQ (qM rfl) rfl ?_))))
 refine sQ (J6 rfl) rfl ?_
 refine sQ (A3 rfl) rfl (sL (A5 rfl rfl) rfl rfl (sQ (qM rfl) rfl ?_))
 (refine sP (A1q (l := s.fr.length - 1) rfl rfl rfl (by omega)) rfl rfl ?_)
 refine sQ (J6 rfl) rfl ?_
 refine sQ (A3 rfl) rfl ?_
 (refine A59 (k := s.fr.length - 1) (p := some ⟨gf, 0, none⟩) (el := 135) (by repeat (first | exact Pk.here | apply Pk.there)) (by omega) ?_; refine B9 ?_)
 refine sD (C8 (nS (tS (tR (sQ (qA rfl) rfl (sQ (qA rfl) rfl (sD (nS (tT ?_)))))))))
 refine X7 (b := b) (rT rfl) (rT rfl) (by repeat (first | exact Pk.here | apply Pk.there)) (by repeat (first | exact Pk.here | apply Pk.there)) (by repeat (first | exact Pk.here | apply Pk.there)) ?_
 (obtain rfl : k = 5 := (by omega); exact R9.go (by rw [hsk, A2s, if_neg (by omega)]) (Mc.mk rfl rfl hrs rfl hsfq hrfq (by rw [List.length_take]; omega) (A5Q _ hrf.all) (hrf.take _)))
 refine sQ (qA rfl) rfl (sD (nS (cF rfl (tS (tR ?_)))))
 refine sP (E9 rfl rfl (by omega)) rfl rfl ?_
 refine sQ (qA rfl) rfl (sD (nS (cF rfl (tS (tR ?_)))))
 refine sP (E9 rfl rfl (by omega)) rfl rfl ?_
 refine sQ (qA rfl) rfl (sD (nS (cF rfl (tS (tR ?_)))))
 refine sP (E9 rfl rfl (by omega)) rfl rfl ?_
 refine sQ (qA rfl) rfl (sD (nS (cF rfl (tS (tR ?_)))))
 refine sP (E9 rfl rfl (by omega)) rfl rfl ?_
 refine sQ (qA rfl) rfl (sD (nS (cF rfl (tS (tR ?_)))))
 refine sP (W9 rfl rfl (by omega)) rfl rfl ?_
 refine sQ (qA rfl) rfl (sD (nS (qT rfl ?_)))
 refine I0 I1 rfl ?_
 refine J2 (i := 0) (l' := [tt,ff,ff,ff,ff,ff,ff,ff,ff,ff]) rfl F4 (qM rfl) rfl (by kernel_rfl) rfl rfl ?_
 refine aP 1 rfl (J6 rfl) rfl ?_
 refine aP 2 rfl (A3 rfl) rfl ?_
 refine aL 3 rfl (A5 rfl rfl) rfl ?_
 refine aP 4 rfl (A3 rfl) rfl ?_
 refine aL 5 rfl (A5 rfl rfl) rfl ?_
 refine aP 6 rfl (H6 rfl rfl (by omega) (by omega)) rfl ?_
 refine aP 7 rfl (J6 rfl) rfl ?_
 refine aP 8 rfl (A3 rfl) rfl ?_
 refine A8 9 ?_
 refine S3 rfl ?_
 refine D6 (C8 (nS (tS (tR (sQ (qA rfl) rfl (sQ (qA rfl) rfl (sD (nS (tT ?_)))))))))
 refine X7 (b := b) (rT rfl) (rT rfl) (by repeat (first | exact Pk.here | apply Pk.there)) (by repeat (first | exact Pk.here | apply Pk.there)) (by repeat (first | exact Pk.here | apply Pk.there)) ?_
 (obtain rfl : k = 10 := (by omega); exact R9.go (by rw [hsk, A50]) (Mc.mk rfl rfl hrs rfl hse hre rfl rfl hrf))
theorem B6N (k a : Int) (s : K7) (b N : Nat) (G : IM) (hp0 : List A4) (hN : N ≤ 2000) (hst : s.st.length ≤ N) (hl : s.st.length < K5 k) (hM : Mc G s b hp0) :
  Fn Tryz.prog 70 [.pointer (some ⟨b, 0, none⟩), .agg ⟨[.int .i64 k, .int .i64 a]⟩] hp0 G (R9 (M2 k a s) b) := by
 have hX := A4y k G
 have hp2 : K5 k ≤ 2 := by unfold K5; (repeat' split) <;> omega
 obtain ⟨ps, cs, es, pe, ce, ee, pf, cf, ef, rfl, hrs, hse, hre, hrf⟩ := hM
 have hPop := A4E b (K5 k) s.st.length cs (.int .i64 s.at') (.slice pe s.env.length ce) (.slice pf s.fr.length cf) ps es G hp2 (by omega) hrs.len hrs.all hrs.ones ⟨rfl, rfl, rfl⟩
 refine B7 Tryz.func70 rfl Tryz.ntmps70 Tryz.results70 rfl ?_
 intro w0
 refine tS (tR ?_)
 refine sE (D5 rfl rfl) rfl (fun b3 => ?_)
 refine sQ (qA rfl) rfl (sQ (qA rfl) rfl (sD (nS (tS (tR (sQ (A3 rfl) rfl (sL (A5 rfl rfl) rfl rfl ?_)))))))
 refine F0 rfl (hX) rfl rfl ?_
 refine N5 ?_
 (refine D2 rfl hPop (Pk2 (by repeat (first | exact Pk.here | apply Pk.there)) (by repeat (first | exact Pk.here | apply Pk.there))) rfl rfl (fun v G1 outs hle1 hh => ?_); unfold A0F at hh; rw [if_pos hl] at hh; subst hh)
 refine A2o ?_
 refine H9 (rT rfl) (rT rfl) ?_
 (exact R9.no (A3J hl))
def B05 (r : ByteArray × Int × Int) : IM → Value → List A4 → Prop := I9 fun _ v => v = .tuple ⟨[.string r.1, .int .i64 r.2.1, .int .i64 r.2.2]⟩
theorem B06 {ops : J0} {ticks : Int} (h : ¬(Q6 ops = true ∧ 0 ≤ ticks ∧ ticks ≤ 2000)) : Q7 ops ticks = (⟨#[]⟩, 3, 0) := by unfold Q7; rw [if_neg h]
theorem B6O {ops : J0} {t : Nat} (h : Q6 ops = true) (ht : t ≤ 2000) : Q7 ops (t : Int) = E8 ops t ⟨0, [], [], []⟩ := by unfold Q7; rw [if_pos ⟨h, by omega, by omega⟩, Int.toNat_natCast]
theorem A2K {r : ByteArray × Int × Int} {G' : IM} {a : ByteArray} {c e : Int} (h : r = (a, c, e)) : B05 r G' (.tuple ⟨[.string a, .int .i64 c, .int .i64 e]⟩) [] := by subst h; exact ⟨rfl, rfl⟩
theorem B07 {s : K7} (h : s.st.length ≠ 1 ∨ 0 < s.fr.length) : A1g s = (⟨#[]⟩, 3, 0) := by unfold A1g; rw [if_pos h]
theorem B6P {s : K7} (h : s.st.length = 1) (h2 : s.fr.length = 0) : A1g s = (V0 (s.st.getD 0 O6), 0, 0) := by unfold A1g; rw [if_neg (by omega)]
theorem B6Q (k a : Int) (s : K7) (b n N : Nat) (G : IM) (hp0 : List A4) (hn : n ≤ 120) (hN : N ≤ 2000) (ho : s.ok n N) (hat : s.at' < n) (hop : M3 n s.at'.toNat (k, a) = true) (hM : Mc G s b hp0) :
  Fn Tryz.prog 70 [.pointer (some ⟨b, 0, none⟩), .agg ⟨[.int .i64 k, .int .i64 a]⟩] hp0 G (R9 (M2 k a s) b) := by
 have hlo := ho.lo
 obtain ⟨k1, k2, _⟩ := A3L hop (by omega)
 by_cases hl : s.st.length < K5 k
 ·exact B6N k a s b N G hp0 hN ho.st hl hM
 ·by_cases hk : k = 6 ∨ k = 7 ∨ k = 8 ∨ k = 11
  ·have hp := A8w hk
   obtain ⟨v0, v1, hd, _, _⟩ := A3K (l := s.st) (by omega)
   exact B6I k a s b n N v0 v1 G hp0 hk hn hN ho hd (by omega) hM
  ·by_cases hk1 : k = 9 ∨ k = 12 ∨ k = 13
   ·have hp := A5S hk1
    obtain ⟨v0, hd, _⟩ := A52 (l := s.st) (by omega)
    exact B6K k a s b n N v0 G hp0 hk1 hn hN ho hd hat hop (by omega) hM
   ·exact B6M k a s b n N G hp0 (by omega) hn hN ho hat hop hM
theorem B6R (v : MV) (n : Int) (N : Nat) (G : IM) (cells : List Value) (hT : A0p G) (ho : v.ok n N) (hv : P5 kI G v cells) : Fn Tryz.prog 71 [.agg ⟨cells⟩] [] G (H3 (.string (V0 v)) G) := by
 obtain ⟨c1, c2, c3, c4, c5, _, _, _, _, _⟩ := ho.spec
 obtain ⟨j, hj⟩ : ∃ j : Nat, v.num = j := ⟨v.num.toNat, by omega⟩
 obtain ⟨p, c, e1, q, d, f1, rfl, _⟩ := hv.open
 rw [hj]
 have hI : Fn Tryz.prog 85 [.int .i64 (j : Int)] [] G (H3 (.string ⟨(Lib.decDigits j).toArray⟩) G) := by
  have h := A7Y (j : Int) G hT (by omega) (by omega)
  rwa [Int.toNat_natCast] at h
 obtain ⟨m, hm⟩ : ∃ m : Int, v.k = m := ⟨_, rfl⟩
 rw [show kI v.k = m from hm]
 rw [hm] at c1 c2
 refine B7 Tryz.func71 rfl Tryz.ntmps71 Tryz.results71 rfl ?_
 intro w0
 refine tS (tR ?_)
 refine sE (D5 rfl rfl) rfl (fun b3 => ?_)
 refine sQ (qA rfl) rfl (sD (nS (tS (tS (tR (sQ (A3 rfl) rfl (sL (A5 rfl rfl) rfl rfl (sD (nS ?_)))))))))
 refine B5 (tS (tR (sB (qE rfl rfl) rfl rfl (fun h17 => ?_) (fun h17 => ?_))))
 refine sQ (qA rfl) rfl (sD (nS (qT rfl (tS (tR (sQ (A3 rfl) rfl (sL (A5 rfl rfl) rfl rfl ?_)))))))
 refine F0 rfl (hI) rfl rfl ?_
 refine sQ (qA rfl) rfl (sD (nS (tT (rB (rS (A6 (rT rfl) ?_))))))
 (exact ⟨rfl, congrArg Value.string (B2G (by omega) hj).symm, rfl⟩)
 refine sQ (qA rfl) rfl (sD (nS (cF rfl (tS (tR ?_)))))
 refine sB (qE rfl rfl) rfl rfl (fun h41 => ?_) (fun h41 => ?_)
 refine A05 ?_
 refine sP (H6 rfl rfl (by omega) (by omega)) rfl rfl ?_
 (have hk1 : m = 1 := (by omega); have hj1 := c5 (hm.trans hk1); refine sP (A2a (l := j) (h := j + 1) rfl rfl rfl rfl (by omega) (by show j + 1 ≤ 2; omega)) rfl rfl ?_)
 refine sQ (qA rfl) rfl (sD (nS (tT (rB (rS (A6 (rT rfl) ?_))))))
 (exact ⟨rfl, congrArg Value.string (B2K (by omega) hj (by omega)), rfl⟩)
 refine sQ (qA rfl) rfl (sD (nS (cF rfl (tS (tR ?_)))))
 refine sB (qE rfl rfl) rfl rfl (fun h68 => ?_) (fun h68 => ?_)
 refine sQ (qA rfl) rfl (sD (nS (qT rfl (tS (tR (sQ (qA rfl) rfl (sD (nS (tT (rB (rS (A6 (rT rfl) ?_))))))))))))
 (exact ⟨rfl, congrArg Value.string (A5R (by omega)).symm, rfl⟩)
 refine sQ (qA rfl) rfl (sD (nS (cF rfl (tK (C8 (nS (tS (tR (sQ (qA rfl) rfl (sD (nS (tT (A6 (rT rfl) ?_)))))))))))))
 (exact ⟨rfl, congrArg Value.string (B2J (by omega)).symm, rfl⟩)
section
variable {ops : J0} {t : Nat} {s s' : K7}
theorem B6S (ht : 0 < t) (h : ¬(ops.length : Int) ≤ s.at') (hs : M2 (ops.getD s.at'.toNat (0, 0)).1 (ops.getD s.at'.toNat (0, 0)).2 s = .inl s') : E8 ops (t - 1) s' = E8 ops t s := by
 obtain ⟨r, rfl⟩ : ∃ r, t = r + 1 := ⟨t - 1, by omega⟩
 exact (B2M h hs).symm
theorem B6T {c e : Int} (ht : 0 < t) (h : ¬(ops.length : Int) ≤ s.at') (hs : M2 (ops.getD s.at'.toNat (0, 0)).1 (ops.getD s.at'.toNat (0, 0)).2 s = .inr (c, e)) : E8 ops t s = (⟨#[]⟩, c, e) := by
 obtain ⟨r, rfl⟩ : ∃ r, t = r + 1 := ⟨t - 1, by omega⟩
 exact B2N h hs
end
theorem A49 (ops : J0) (ticks : Int) (G : IM) (p : Option Addr) (n c : Nat) (hT : A0p G) (h : T0 G ops p n c) (hti : C6 ticks) : Fn Tryz.prog 28 [.slice p n c, .int .i64 ticks] [] G (B05 (Q7 ops ticks)) := by
 have hl := h.sl.le
 have hn := h.len
 obtain ⟨ht1, ht2⟩ := hti
 have hok := @A8R ops
 refine B7 Tryz.func28 rfl Tryz.ntmps28 Tryz.results28 rfl ?_
 intro w0
 refine tS (tR (sQ (qA rfl) rfl (sQ (qA rfl) rfl (sQ (qA rfl) rfl (sD (nS (tS (tS (tR (sQ (qM rfl) rfl ?_))))))))))
 refine H1 rfl ((A6l ops G p n c h)) rfl rfl (fun h12 => ?_) (fun h12 => ?_)
 refine sQ (M4 rfl) rfl (sQ (qM rfl) rfl (sQ (qM rfl) rfl ?_))
 refine H1 rfl ((A0s ticks 0 2000 G)) rfl rfl (fun h16 => ?_) (fun h16 => ?_)
 refine sQ (M4 rfl) rfl (sQ (D7 rfl rfl) rfl (sD (nS (cF rfl (tK (nS (tS (tR (sQ (D9 rfl rfl) rfl ?_)))))))))
 refine sE (D5 rfl rfl) rfl (fun b27 => ?_)
 refine sQ (qA rfl) rfl (sD (nS (tS ?_)))
 refine B5 ?_
 (have hval : Q6 ops = true := (by assumption); obtain ⟨hn1, hn2, hops⟩ := hok hval; have hwt : 0 ≤ ticks ∧ ticks ≤ 2000 := (by simp only [P4, decide_eq_true_eq] at *; omega); obtain ⟨T, rfl⟩ : ∃ T : Nat, ticks = T := ⟨ticks.toNat, by omega⟩; refine W1 135 2 ?_; refine W1 82 4 ?_; refine K4 (fun (x : Nat × K7 × (Option Addr × Nat) × (Option Addr × Nat) × (Option Addr × Nat) × List (List Value) × List (List Value) × IM) => ⟨[(7, .pointer (some ⟨b27, 0, none⟩)), (0, .slice p n c), (1, .int .i64 (x.1 : Int))], [.blk b27 [.int .i64 x.2.1.at', .slice x.2.2.1.1 x.2.1.st.length x.2.2.1.2, .slice x.2.2.2.1.1 x.2.1.env.length x.2.2.2.1.2, .slice x.2.2.2.2.1.1 x.2.1.fr.length x.2.2.2.2.1.2], .slc x.2.2.1.1 x.2.2.1.2 82 4 x.2.1.st.length x.2.2.2.2.2.1.flatten, .slc x.2.2.2.2.1.1 x.2.2.2.2.1.2 135 2 x.2.1.fr.length x.2.2.2.2.2.2.1.flatten], x.2.2.2.2.2.2.2⟩) (fun x => x.1 ≤ T ∧ x.2.1.ok n (T - x.1) ∧ B4 G x.2.2.2.2.2.2.2 ∧ H0 kI x.2.2.2.2.2.2.2 x.2.1.st x.2.2.2.2.2.1 ∧ (∃ ee, C5 x.2.2.2.2.2.2.2 x.2.2.2.1.1 x.2.1.env.length x.2.2.2.1.2 4 ee ∧ H0 kI x.2.2.2.2.2.2.2 x.2.1.env ee) ∧ O0 kI x.2.2.2.2.2.2.2 x.2.1.fr x.2.2.2.2.2.2.1 ∧ E8 ops x.1 x.2.1 = Q7 ops T) (fun x => x.1) (T, ⟨0, [], [], []⟩, (none, 0), (none, 0), (none, 0), [], [], G) ?_ ?_ ?_)
 (simp only [E2]; exact C9)
 (exact ⟨Nat.le_refl _, by rw [Nat.sub_self]; exact B2Q n, B4.refl _, rfl, ⟨[], C5.nil _ 4, rfl⟩, rfl, (B6O hval (by omega)).symm⟩)
 (rintro ⟨r, s, ⟨ps, cs⟩, ⟨pe, ce⟩, ⟨pf, cf⟩, es, ef, Gj⟩ ⟨hr, ho, hle, hrs, ⟨ee, hse, hre⟩, hrf, hrun⟩; simp only [] at hr ho hle hrs hse hre hrf hrun ⊢; have hlo := ho.lo; have hhi := ho.hi; have hst := ho.st; replace h := h.mono hle; replace hT := hT.mono hle)
 refine tS (tS (tR (sQ (qM rfl) rfl ?_)))
 refine sQ (J6 rfl) rfl ?_
 refine sQ (A3 rfl) rfl (sL (A5 rfl rfl) rfl rfl (sQ (qM rfl) rfl (sQ (D8 rfl rfl) rfl ?_)))
 refine sB (J3 rfl rfl) rfl rfl (fun h46 => ?_) (fun h46 => ?_)
 refine sD (nS (qT rfl (tK (nS (tS ?_)))))
 refine B5 ?_
 refine tS (tS ?_)
 (obtain ⟨i, hi⟩ : ∃ i : Nat, s.at' = i := ⟨s.at'.toNat, by omega⟩; have hin : i < n := (by omega); obtain ⟨b1, o1, rfl, hop1, hr1, hr2, hgo⟩ := h.get hin; have hOK : M3 n s.at'.toNat ((ops.getD i (0, 0)).1, (ops.getD i (0, 0)).2) = true := (by rw [hi, Int.toNat_natCast, hn]; exact hops i (by omega)); have hE := B6Q (ops.getD i (0, 0)).1 (ops.getD i (0, 0)).2 s b27 n (T - r) Gj _ (by omega) (by omega) ho (by omega) hOK ⟨ps, cs, es, pe, ce, ee, pf, cf, ef, rfl, hrs, hse, hre, hrf⟩; rw [hi] at hE; rw [hi])
 refine tR (sQ (qM rfl) rfl ?_)
 refine sB (qE rfl rfl) rfl rfl (fun h59 => ?_) (fun h59 => ?_)
 refine R6 ?_
 refine T9 (rT rfl) (rT rfl) (rT rfl) ?_
 (exact A2K (by rw [← hrun, show r = 0 from by omega, B2L (by omega)]))
 refine sD (nS (cF rfl (tK (nS (tS (tR (sQ (qM rfl) rfl (sQ (qM rfl) rfl (sQ (qM rfl) rfl ?_)))))))))
 refine sQ (J6 rfl) rfl ?_
 refine sQ (A3 rfl) rfl (sL (A5 rfl rfl) rfl rfl ?_)
 refine sP (C2 (j := i) rfl rfl rfl hin) rfl rfl ?_
 refine sL (A9 rfl rfl (hop1 _) rfl) rfl rfl ?_
 focus (refine D2 rfl hE (Pk3 (by repeat (first | exact Pk.here | apply Pk.there)) (by repeat (first | exact Pk.here | apply Pk.there)) (by repeat (first | exact Pk.here | apply Pk.there))) rfl rfl (fun v GT outs hleT hh => ?_); obtain ⟨cc, ee', rfl, hno, hgo'⟩ := hh; rcases hstp : M2 (ops.getD i (0, 0)).1 (ops.getD i (0, 0)).2 s with s' | ⟨c2, e2⟩; rotate_left; obtain ⟨rfl, rfl⟩ := hno _ hstp; have hc2 := B2P hstp; rotate_left; obtain ⟨rfl, rfl, ps', cs', es', pe', ce', ee2, pf', cf', ef', rfl, hrs', hse', hre', hrf'⟩ := hgo' _ hstp)
 refine A05 ?_
 refine sP (A5n rfl rfl (by omega)) rfl rfl ?_
 refine sD (nS (cF rfl (tK (C8 (nS (tR (sQ (qM rfl) rfl ?_)))))))
 refine sP (A8u (z := r - 1) rfl rfl (by omega) (by omega)) rfl rfl ?_
 refine sQ (qA rfl) rfl (sD ?_)
 refine K3 (r - 1, s', (ps', cs'), (pe', ce'), (pf', cf'), es', ef', GT) ?_ ?_ ?_
 (simp only [E2]; exact C9)
 (dsimp only; exact ⟨by omega, by have h9 := A8x (by omega) ho (by omega) hOK hstp; rwa [show T - r + 1 = T - (r - 1) from by omega] at h9, hle.trans hleT, hrs', ⟨ee2, hse', hre'⟩, hrf', by rw [← hrun]; exact B6S (by omega) (by omega) (by rw [hi, Int.toNat_natCast]; exact hstp)⟩)
 (show r - 1 < r; omega)
 refine A05 ?_
 refine sP (A2R rfl rfl (by omega)) rfl rfl ?_
 refine V6 ?_
 refine T9 (rT rfl) (rT rfl) (rT rfl) ?_
 (exact A2K (by rw [← hrun]; exact B6T (by omega) (by omega) (by rw [hi, Int.toNat_natCast]; exact hstp)))
 refine sD (nS (cF rfl (M7 (M8 (N3 (M9 (nS (tS (tS (tR (sQ (qM rfl) rfl ?_)))))))))))
 refine sQ (J6 rfl) rfl ?_
 refine sQ (A3 rfl) rfl (sL (A5 rfl rfl) rfl rfl (sQ (D8 rfl rfl) rfl ?_))
 refine sB (P9 rfl rfl) rfl rfl (fun h168 => ?_) (fun h168 => ?_)
 refine A07 ?_
 refine T9 (rT rfl) (rT rfl) (rT rfl) ?_
 (exact A2K (by rw [← hrun, A53 (by omega), B07 (by omega)]))
 refine sQ (qM rfl) rfl (sQ (qM rfl) rfl ?_)
 refine sQ (J6 rfl) rfl ?_
 refine sQ (A3 rfl) rfl (sL (A5 rfl rfl) rfl rfl (sQ (D8 rfl rfl) rfl ?_))
 refine sB (Y7 rfl rfl) rfl rfl (fun h197 => ?_) (fun h197 => ?_)
 refine sQ (D7 rfl rfl) rfl (sD (nS (qT rfl (tS ?_))))
 (have h1s : s.st.length = 1 := (by omega); refine A3u (fun a w hs => hs.slc_form (p := ps) (c := cs) (el := 82) (sz := 4) (n := s.st.length) (cs := es.flatten) (by repeat first | exact mH | apply mT)) (fun hq => ?_); obtain ⟨_, _, hps⟩ := hq; obtain ⟨gs, rfl⟩ := hps (by omega); obtain ⟨e0, he0, hv0⟩ := hrs.get (i := 0) (A18 (d := O6) (by omega)); have hv0' := hv0; obtain ⟨_, _, _, _, _, _, rfl, _⟩ := hv0'.open; have hsv := (fun (j : Nat) (v : Value) hj => A3z hrs.all he0 j v hj))
 refine tR (sQ (qA rfl) rfl (sQ (qA rfl) rfl (sQ (qA rfl) rfl (sD (nS (tT (rS ?_)))))))
 refine T9 (rT rfl) (rT rfl) (rT rfl) ?_
 (exact A2K (by rw [← hrun, A53 (by omega), B07 (by omega)]))
 refine sQ (D7 rfl rfl) rfl (sD (nS (cF rfl (tK (nS (tS ?_))))))
 (have h1s : s.st.length = 1 := (by omega); refine A3u (fun a w hs => hs.slc_form (p := ps) (c := cs) (el := 82) (sz := 4) (n := s.st.length) (cs := es.flatten) (by repeat first | exact mH | apply mT)) (fun hq => ?_); obtain ⟨_, _, hps⟩ := hq; obtain ⟨gs, rfl⟩ := hps (by omega); obtain ⟨e0, he0, hv0⟩ := hrs.get (i := 0) (A18 (d := O6) (by omega)); have hv0' := hv0; obtain ⟨_, _, _, _, _, _, rfl, _⟩ := hv0'.open; have hsv := (fun (j : Nat) (v : Value) hj => A3z hrs.all he0 j v hj))
 refine tR (sQ (qM rfl) rfl ?_)
 refine sQ (J6 rfl) rfl ?_
 refine sQ (A3 rfl) rfl (sL (A5 rfl rfl) rfl rfl ?_)
 refine sP (C2 (j := 0) rfl rfl rfl (by omega)) rfl rfl ?_
 refine sL (A9 rfl rfl (A3q (by repeat first | exact mH | apply mT) hsv) rfl) rfl rfl ?_
 refine F0 rfl ((B6R (s.st.getD 0 O6) n (T - r) Gj _ hT (ho.sto _ (A4t (by omega))) hv0)) rfl rfl ?_
 refine sQ (qA rfl) rfl (sQ (qA rfl) rfl (sQ (qA rfl) rfl (sD (nS (tT ?_)))))
 refine T9 (rT rfl) (rT rfl) (rT rfl) ?_
 (exact A2K (by rw [← hrun, A53 (by omega), B6P h1s (by omega)]))
 refine Y8 ?_
 refine T9 (rT rfl) (rT rfl) (rT rfl) ?_
 (exact A2K (B06 (by rintro ⟨h1, h2, h3⟩; first | (simp only [P4, decide_eq_false_iff_not] at *; omega) | exact Bool.noConfusion (h1.symm.trans (show Q6 ops = false from (by assumption))))))
 refine V6 ?_
 refine T9 (rT rfl) (rT rfl) (rT rfl) ?_
 (exact A2K (B06 (by rintro ⟨h1, h2, h3⟩; first | (simp only [P4, decide_eq_false_iff_not] at *; omega) | exact Bool.noConfusion (h1.symm.trans (show Q6 ops = false from (by assumption))))))
def B7U (e : Tm) : Bool := N0 e && I8 e
section slaws
variable {P : Program} {Γ : J1} {env : J5} {hp : List A4} {G : IM} {ty : TypeId}
theorem B08 {x y : Operand} {t t' : TypeId} {r : ByteArray} (hx : evo env x = some (.string r)) (hy : evo env y = some (.string r)) :
  E1 P Γ ⟨env, hp, G⟩ (.binOp .eql t x y t') ty (.bool true) := by
 have h := A1J (P := P) (Γ := Γ) (hp := hp) (G := G) (t := t) (t' := t') (ty := ty) hx hy
 rwa [decide_eq_true rfl] at h
end slaws
end Gw
end Go.Proofs.YtgodjiieijekiaaGreatDoor
