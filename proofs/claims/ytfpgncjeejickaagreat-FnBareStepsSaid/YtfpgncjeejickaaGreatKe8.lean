/-
  BareTerm, CountNodes: the reference model's, the program's.
-/
import Derived.Test.YtfpgncjeejickaaGreatKe7
import Derived.Test.YtfpgncjeejickaaGreatShelf
import Derived.Lib.ItoaNum
import Derived.Lib.LaidTab
import Derived.Test.YtfpgncjeejickaaGreatKe1
import Derived.Test.YtfpgncjeejickaaGreatKe3
import Derived.Test.YtfpgncjeejickaaGreatKe5
import Derived.Test.YtfpgncjeejickaaGreatKe6
import Derived.Test.YtfpgncjeejickaaGreatKe2
import Derived.Test.YtfpgncjeejickaaGreatKe4
import Derived.Lib.Bytealg
set_option linter.unusedVariables false
set_option linter.unusedSimpArgs false
set_option maxHeartbeats 0
set_option maxRecDepth 100000
set_option synthInstance.maxSize 4000
set_option synthInstance.maxHeartbeats 0
namespace Go.Proofs.YtfpgncjeejickaaGreat
open Go Go.RowKit
namespace Gw
theorem A0V.leaf {G : IM} {k : Int} {nm : ByteArray} {num x : Int} {ks : List Tm} {p : Option Addr} {c : Nat} {F : List Nat} (h : A0V G ks p c F) (hk : E3 k) (hnum : E3 num) (hx : E3 x) :
  P9 G (.mk k nm num (.mk x []) A8 0 ks) [.int .i64 k, .string nm, .int .i64 num, .int .i64 x, .slice none 0 0, .int .i64 0, .slice none 0 0, .int .i64 0, .slice p ks.length c] F := by
 obtain ⟨es, Fs, h1, h2, rfl, h4⟩ := h
 have hT : P1 G (.mk x []) [.int .i64 x, .slice none 0 0] [] := by
  simp only [P1, N8]
  exact ⟨none, 0, [], [], rfl, hx, C9.nil _ _, ⟨rfl, rfl⟩, rfl, by simp [J1]⟩
 simp only [P9]
 exact ⟨[.int .i64 x, .slice none 0 0], [.int .i64 0, .slice none 0 0], p, c, es, [], [], Fs, rfl, hk, hnum, ⟨by omega, by omega⟩, hT, B5Y G, h1, h2, rfl, h4⟩
theorem B5Z {k : Int} {nm : ByteArray} {num : Int} {ty fr : Ty} {lb : Int} {ks : List Tm} (h : k = 13 ∨ k = 14) (h0 : 0 < ks.length) : J4 (.mk k nm num ty fr lb ks) = J4 ks[0] := by
 cases ks with
 | nil => simp at h0
 | cons x xs => rw [J4, if_pos h, E9]; rfl
theorem B50 {k : Int} {nm : ByteArray} {num : Int} {ty fr : Ty} {lb : Int} {ks : List Tm} {x : Int} (h : ¬(k = 13 ∨ k = 14)) (hx : x = if k = 5 then 1 else 0) : J4 (.mk k nm num ty fr lb ks) = .mk k nm num (.mk x []) A8 0 (E9 ks) := by
 rw [J4, if_neg h, hx]
 by_cases h5 : k = 5
 ·rw [if_pos h5, if_pos h5]; rfl
 ·rw [if_neg h5, if_neg h5]; rfl
theorem A9V (D N : Int) : ∀ (t : Tm) (d : Int) (G : IM) (cells : List Value), M3 D N t d = true → t.small → A6 G t cells →
  Fn Tryz.prog 122 [.agg ⟨cells⟩] [] G (A4n (J4 t) G) := by
 refine Tm.ind fun k nm num ty fr lb ks ih d G cells hv hts hr => ?_
 have hone := hr.one
 obtain ⟨hv1, hv2, hv3, hv4⟩ := A0r hv
 have hvk := (A0Z D N ks _).1 hv4
 have har := (V3.1 hv3).1
 have hk0 : k = 13 ∨ k = 14 → 0 < ks.length := by
  rintro (rfl | rfl)
  ·rw [show C5 13 = 1 from rfl] at har; omega
  ·rw [show C5 14 = 1 from rfl] at har; omega
 simp only [Tm.small] at hts
 obtain ⟨hnm, hty', hfr', hsm, hks⟩ := hts
 obtain ⟨tk, tks⟩ := ty
 obtain ⟨fk, fks⟩ := fr
 obtain ⟨pt, ct, pf, cf, p, c, es, rfl, hk, hnum, hlb, hty, hfr, hsl, hkl⟩ := hr.open9
 have hn := hsl.le
 have hlen : (E9 ks).length = ks.length := by rw [A4r, List.length_map]
 have hget : ∀ i (h : i < ks.length) (h' : i < (E9 ks).length), (E9 ks)[i] = J4 ks[i] := fun i h h' => by simp [A4r]
 have hB1 := fun h h0 => @B5Z k nm num (.mk tk tks) (.mk fk fks) lb ks h h0
 have hB2 := fun x h hx => @B50 k nm num (.mk tk tks) (.mk fk fks) lb ks x h hx
 refine B3 Tryz.func122 rfl Tryz.ntmps122 Tryz.results122 rfl ?_
 intro w0
 refine tS (tR ?_)
 refine sE (C0 rfl rfl) rfl (fun b3 => ?_)
 refine sE (A7 rfl) rfl (fun b4 => ?_)
 refine C4 ?_
 refine sB (qE rfl rfl) rfl rfl (fun h12 => ?_) (fun h12 => ?_)
 refine M6 ?_
 (have hk00 := hk0 (by omega); obtain ⟨b, o, e, rfl, hl, hat, hre, hgb⟩ := hsl.kidTm hkl (i := 0) hk00 hk00; have hK := ih ks[0] (List.getElem_mem _) _ G _ (hvk 0 hk00) (Tm.smallL_mem hks _ (List.getElem_mem _)) hre; rw [← hB1 (by omega) hk00] at hK; refine sP (B2 (j := 0) rfl rfl rfl (by omega)) rfl rfl ?_)
 refine sL (A3 rfl rfl (hat _) hl) rfl rfl ?_
 (refine E5 rfl hK rfl rfl (fun v G3 hle3 hh => ?_); obtain ⟨cells', F', rfl, hs', hnd'⟩ := hh; have hl' := hs'.R.len; have ho' := hs'.R.one)
 refine sS rfl rfl rfl hl' ho' rfl ?_ (hu := by exact C3 hl'.symm)
 refine sD (nS (tT (rS ?_)))
 refine E0 (rC rfl (A3 rfl rfl (A9 (by repeat first | exact mH | apply mT)) hl')) ?_
 exact ⟨rfl, cells', F', rfl, hs', hnd'⟩
 refine L9 ?_
 refine sB (qE rfl rfl) rfl rfl (fun h38 => ?_) (fun h38 => ?_)
 refine D8 ?_
 (have hk00 := hk0 (by omega); obtain ⟨b, o, e, rfl, hl, hat, hre, hgb⟩ := hsl.kidTm hkl (i := 0) hk00 hk00; have hK := ih ks[0] (List.getElem_mem _) _ G _ (hvk 0 hk00) (Tm.smallL_mem hks _ (List.getElem_mem _)) hre; rw [← hB1 (by omega) hk00] at hK; refine sP (B2 (j := 0) rfl rfl rfl (by omega)) rfl rfl ?_)
 refine sL (A3 rfl rfl (hat _) hl) rfl rfl ?_
 (refine E5 rfl hK rfl rfl (fun v G3 hle3 hh => ?_); obtain ⟨cells', F', rfl, hs', hnd'⟩ := hh; have hl' := hs'.R.len; have ho' := hs'.R.one)
 refine sS rfl rfl rfl hl' ho' rfl ?_ (hu := by exact C3 hl'.symm)
 refine sD (nS (tT (rS ?_)))
 refine E0 (rC rfl (A3 rfl rfl (A9 (by repeat first | exact mH | apply mT)) hl')) ?_
 exact ⟨rfl, cells', F', rfl, hs', hnd'⟩
 refine I0 ?_
 refine sE (A7 rfl) rfl (fun b72 => ?_)
 refine D8 ?_
 refine sB (qE rfl rfl) rfl rfl (fun h81 => ?_) (fun h81 => ?_)
 refine sD (nS ?_)
 (show I2 _ _ (.cond (.tmp 27) _ _) _ _; refine A0c (fun (x : Int) => ⟨[(3, .pointer (some ⟨b72, 0, none⟩)), (1, .pointer (some ⟨b3, 0, none⟩)), (2, .pointer (some ⟨b4, 0, none⟩))], [.blk b72 [.int .i64 k, .string nm, .int .i64 num, .int .i64 x, .slice none 0 0, .int .i64 0, .slice none 0 0, .int .i64 0, .slice none 0 0], .blk b4 [.int .i64 0, .string ⟨⟨[]⟩⟩, .int .i64 0, .int .i64 0, .slice none 0 0, .int .i64 0, .slice none 0 0, .int .i64 0, .slice none 0 0], .blk b3 [.int .i64 k, .string nm, .int .i64 num, .int .i64 tk, .slice pt tks.length ct, .int .i64 fk, .slice pf fks.length cf, .int .i64 lb, .slice p ks.length c]], G⟩) (fun x => x = if k = 5 then 1 else 0) ?_ ?_)
 refine qT rfl (tR ?_)
 refine I5 rfl ((A1e _)) rfl rfl ?_
 refine sQ (B0 rfl) rfl (F4 ?_)
 refine sD ?_
 refine Q0 1 (O2 (by repeat (first | exact E7.nil | refine E7.cons rfl ?_)) (by repeat (first | exact A0.refl | exact A0.nil | refine A0.cons (by repeat (first | exact Pk.here | apply Pk.there)) ?_ | apply A0.drop))) (if_pos (by omega)).symm
 (intro tx htx; have hxi : E3 tx := (by rw [htx]; split <;> exact ⟨by omega, by omega⟩); have hB3 := hB2 tx (by omega) htx)
 refine tS (tS (tR (sQ (qA rfl) rfl (sD (nS ?_)))))
 refine B7 ?_
 (refine U5 28 9 ?_; refine L3 (fun (x : Nat × Option Addr × Nat × List (List Value) × List Nat × IM) => ⟨[(4, .int .i64 x.1), (3, .pointer (some ⟨b72, 0, none⟩)), (1, .pointer (some ⟨b3, 0, none⟩)), (2, .pointer (some ⟨b4, 0, none⟩))], [.blk b72 [.int .i64 k, .string nm, .int .i64 num, .int .i64 tx, .slice none 0 0, .int .i64 0, .slice none 0 0, .int .i64 0, .slice x.2.1 x.1 x.2.2.1], .slc x.2.1 x.2.2.1 28 9 x.1 x.2.2.2.1.flatten, .blk b4 [.int .i64 0, .string ⟨⟨[]⟩⟩, .int .i64 0, .int .i64 0, .slice none 0 0, .int .i64 0, .slice none 0 0, .int .i64 0, .slice none 0 0], .blk b3 [.int .i64 k, .string nm, .int .i64 num, .int .i64 tk, .slice pt tks.length ct, .int .i64 fk, .slice pf fks.length cf, .int .i64 lb, .slice p ks.length c]], x.2.2.2.2.2⟩) (fun x => x.1 ≤ ks.length ∧ B6 G x.2.2.2.2.2 ∧ M2 (C1 x.2.2.2.2.2 G) ((E9 ks).take x.1) x.2.2.2.1 x.2.2.2.2.1 ∧ x.2.2.2.2.1.Nodup) (fun x => ks.length - x.1) (0, none, 0, [], [], G) ?_ ?_ ?_)
 (simp only [I6]; exact D3)
 exact ⟨by simp, B6.refl _, by simp [M2], by simp⟩
 (rintro ⟨i, pn, cn, es', F, Gi⟩ ⟨hi, hle, hst, hnd⟩; simp only [] at hi hle hst hnd ⊢; replace hsl := hsl.mono hle; replace hkl := hkl.mono hle)
 refine C4 ?_
 refine sB (J9 rfl rfl) rfl rfl (fun h111 => ?_) (fun h111 => ?_)
 refine sD (nS (qT rfl (tK (nS (tS ?_)))))
 refine B7 ?_
 (obtain ⟨b, o, e, rfl, hl, hat, hre, hgb⟩ := hsl.kidTm hkl (i := i) (by omega) (by omega); have hone := hre.one; refine D5 D6 rfl ?_)
 refine I3 (i := 0) (l' := [tt,ff,ff,ff,ff,ff,ff,ff,ff,ff,ff,ff]) rfl D1 (B0 rfl) rfl (by kernel_rfl) rfl rfl ?_
 refine aL 1 rfl (B9 rfl rfl) rfl ?_
 refine aP 2 rfl (B0 rfl) rfl ?_
 refine aL 3 rfl (B9 rfl rfl) rfl ?_
 refine aP 4 rfl (qM rfl) rfl ?_
 refine aP 5 rfl (B2 rfl rfl rfl (by omega)) rfl ?_
 refine aL 6 rfl (A3 rfl rfl (hat _) hl) rfl ?_
 refine A2 7 ?_
 (refine I9 rfl rfl (ih ks[i] (List.getElem_mem (by omega)) _ _ _ (hvk i (by omega)) (Tm.smallL_mem hks _ (List.getElem_mem (by omega))) hre) rfl rfl rfl (fun v G3 hle3 hh => ?_); obtain ⟨cells', F', rfl, hs', hnd'⟩ := hh; rw [← hget i (by omega) (by omega)] at hs'; obtain ⟨qt, dt, et', qf, df, ef', q3, d3, es3, rfl, _⟩ := hs'.R.open)
 refine A2 8 ?_
 (refine E1 rfl (C8 rfl rfl rfl (by omega) (by unfold maxLen; omega) rfl) rfl rfl ?_; rintro _ ⟨b130, rfl⟩)
 refine A2 9 ?_
 refine Q5 rfl rfl rfl rfl rfl rfl (fun _ _ => by repeat (first | exact Sw.here | apply Sw.there)) (P5 (by repeat first | exact mH | apply mT)) rfl (by simp [Value.oneCell']) (by unfold maxLen; omega) (by omega) rfl rfl (by repeat (first | exact A5.nil | apply A5.dep (by decide +kernel) | apply A5.blk (by decide +kernel) (by repeat (first | exact Pk.here | apply Pk.there)) (by repeat first | exact mH | apply mT))) (fun pn' cn' => ?_)
 refine aP 10 rfl (B0 rfl) rfl ?_
 refine A2 11 ?_
 refine Q4 rfl rfl rfl rfl rfl rfl rfl rfl (by kernel_rfl) (by repeat first | exact Sw.here | apply Sw.there) (by rfl) ?_
 refine C2 (N3 (nS (tR (sQ (qM rfl) rfl ?_))))
 refine sP (K4 rfl rfl (by omega) (by omega)) rfl rfl ?_
 refine sQ (qA rfl) rfl (sD ?_)
 refine K7 (i + 1, pn', cn', es' ++ [[.int .i64 (E9 ks)[i].k, .string (E9 ks)[i].nm, .int .i64 (E9 ks)[i].num, .int .i64 (E9 ks)[i].ty.k, .slice qt (E9 ks)[i].ty.ks.length dt, .int .i64 (E9 ks)[i].fr.k, .slice qf (E9 ks)[i].fr.ks.length df, .int .i64 (E9 ks)[i].lb, .slice q3 (E9 ks)[i].ks.length d3]], F ++ F', G3) ?_ ?_ ?_
 (simp only [I6]; exact D3)
 exact ⟨by omega, hle.trans hle3, M2.step hst hnd hle hle3 (by omega) hs' hnd'⟩
 (show ks.length - (i + 1) < ks.length - i; omega)
 refine L5 ?_
 (refine H5 (by repeat (first | exact Pk.here | apply Pk.there)) (fun G4 hle4 hsl4 hno4 => ?_); obtain rfl : i = ks.length := (by omega))
 refine tT ?_
 refine E0 (rC rfl (A1 rfl rfl)) ?_
 (rw [← hlen, List.take_length] at hst; rw [← hlen] at hsl4 ⊢; obtain ⟨F3, hf1, hf2⟩ := A0V.fin hst hnd hle hle4 hsl4 hno4; rw [hB3]; exact ⟨rfl, _, F3, rfl, hf1.leaf hk hnum hxi, hf2⟩)
 refine sD (nS ?_)
 (show I2 _ _ (.cond (.tmp 27) _ _) _ _; refine A0c (fun (x : Int) => ⟨[(3, .pointer (some ⟨b72, 0, none⟩)), (1, .pointer (some ⟨b3, 0, none⟩)), (2, .pointer (some ⟨b4, 0, none⟩))], [.blk b72 [.int .i64 k, .string nm, .int .i64 num, .int .i64 x, .slice none 0 0, .int .i64 0, .slice none 0 0, .int .i64 0, .slice none 0 0], .blk b4 [.int .i64 0, .string ⟨⟨[]⟩⟩, .int .i64 0, .int .i64 0, .slice none 0 0, .int .i64 0, .slice none 0 0, .int .i64 0, .slice none 0 0], .blk b3 [.int .i64 k, .string nm, .int .i64 num, .int .i64 tk, .slice pt tks.length ct, .int .i64 fk, .slice pf fks.length cf, .int .i64 lb, .slice p ks.length c]], G⟩) (fun x => x = if k = 5 then 1 else 0) ?_ ?_)
 refine cF rfl (tK ?_)
 refine Q0 0 (O2 (by repeat (first | exact E7.nil | refine E7.cons rfl ?_)) (by repeat (first | exact A0.refl | exact A0.nil | refine A0.cons (by repeat (first | exact Pk.here | apply Pk.there)) ?_ | apply A0.drop))) (if_neg (by omega)).symm
 (intro tx htx; have hxi : E3 tx := (by rw [htx]; split <;> exact ⟨by omega, by omega⟩); have hB3 := hB2 tx (by omega) htx)
 refine tS (tS (tR (sQ (qA rfl) rfl (sD (nS ?_)))))
 refine B7 ?_
 (refine U5 28 9 ?_; refine L3 (fun (x : Nat × Option Addr × Nat × List (List Value) × List Nat × IM) => ⟨[(4, .int .i64 x.1), (3, .pointer (some ⟨b72, 0, none⟩)), (1, .pointer (some ⟨b3, 0, none⟩)), (2, .pointer (some ⟨b4, 0, none⟩))], [.blk b72 [.int .i64 k, .string nm, .int .i64 num, .int .i64 tx, .slice none 0 0, .int .i64 0, .slice none 0 0, .int .i64 0, .slice x.2.1 x.1 x.2.2.1], .slc x.2.1 x.2.2.1 28 9 x.1 x.2.2.2.1.flatten, .blk b4 [.int .i64 0, .string ⟨⟨[]⟩⟩, .int .i64 0, .int .i64 0, .slice none 0 0, .int .i64 0, .slice none 0 0, .int .i64 0, .slice none 0 0], .blk b3 [.int .i64 k, .string nm, .int .i64 num, .int .i64 tk, .slice pt tks.length ct, .int .i64 fk, .slice pf fks.length cf, .int .i64 lb, .slice p ks.length c]], x.2.2.2.2.2⟩) (fun x => x.1 ≤ ks.length ∧ B6 G x.2.2.2.2.2 ∧ M2 (C1 x.2.2.2.2.2 G) ((E9 ks).take x.1) x.2.2.2.1 x.2.2.2.2.1 ∧ x.2.2.2.2.1.Nodup) (fun x => ks.length - x.1) (0, none, 0, [], [], G) ?_ ?_ ?_)
 (simp only [I6]; exact D3)
 exact ⟨by simp, B6.refl _, by simp [M2], by simp⟩
 (rintro ⟨i, pn, cn, es', F, Gi⟩ ⟨hi, hle, hst, hnd⟩; simp only [] at hi hle hst hnd ⊢; replace hsl := hsl.mono hle; replace hkl := hkl.mono hle)
 refine C4 ?_
 refine sB (J9 rfl rfl) rfl rfl (fun h191 => ?_) (fun h191 => ?_)
 refine sD (nS (qT rfl (tK (nS (tS ?_)))))
 refine B7 ?_
 (obtain ⟨b, o, e, rfl, hl, hat, hre, hgb⟩ := hsl.kidTm hkl (i := i) (by omega) (by omega); have hone := hre.one; refine D5 D6 rfl ?_)
 refine I3 (i := 0) (l' := [tt,ff,ff,ff,ff,ff,ff,ff,ff,ff,ff,ff]) rfl D1 (B0 rfl) rfl (by kernel_rfl) rfl rfl ?_
 refine aL 1 rfl (B9 rfl rfl) rfl ?_
 refine aP 2 rfl (B0 rfl) rfl ?_
 refine aL 3 rfl (B9 rfl rfl) rfl ?_
 refine aP 4 rfl (qM rfl) rfl ?_
 refine aP 5 rfl (B2 rfl rfl rfl (by omega)) rfl ?_
 refine aL 6 rfl (A3 rfl rfl (hat _) hl) rfl ?_
 refine A2 7 ?_
 (refine I9 rfl rfl (ih ks[i] (List.getElem_mem (by omega)) _ _ _ (hvk i (by omega)) (Tm.smallL_mem hks _ (List.getElem_mem (by omega))) hre) rfl rfl rfl (fun v G3 hle3 hh => ?_); obtain ⟨cells', F', rfl, hs', hnd'⟩ := hh; rw [← hget i (by omega) (by omega)] at hs'; obtain ⟨qt, dt, et', qf, df, ef', q3, d3, es3, rfl, _⟩ := hs'.R.open)
 refine A2 8 ?_
 (refine E1 rfl (C8 rfl rfl rfl (by omega) (by unfold maxLen; omega) rfl) rfl rfl ?_; rintro _ ⟨b210, rfl⟩)
 refine A2 9 ?_
 refine Q5 rfl rfl rfl rfl rfl rfl (fun _ _ => by repeat (first | exact Sw.here | apply Sw.there)) (P5 (by repeat first | exact mH | apply mT)) rfl (by simp [Value.oneCell']) (by unfold maxLen; omega) (by omega) rfl rfl (by repeat (first | exact A5.nil | apply A5.dep (by decide +kernel) | apply A5.blk (by decide +kernel) (by repeat (first | exact Pk.here | apply Pk.there)) (by repeat first | exact mH | apply mT))) (fun pn' cn' => ?_)
 refine aP 10 rfl (B0 rfl) rfl ?_
 refine A2 11 ?_
 refine Q4 rfl rfl rfl rfl rfl rfl rfl rfl (by kernel_rfl) (by repeat first | exact Sw.here | apply Sw.there) (by rfl) ?_
 refine C2 (N3 (nS (tR (sQ (qM rfl) rfl ?_))))
 refine sP (K4 rfl rfl (by omega) (by omega)) rfl rfl ?_
 refine sQ (qA rfl) rfl (sD ?_)
 refine K7 (i + 1, pn', cn', es' ++ [[.int .i64 (E9 ks)[i].k, .string (E9 ks)[i].nm, .int .i64 (E9 ks)[i].num, .int .i64 (E9 ks)[i].ty.k, .slice qt (E9 ks)[i].ty.ks.length dt, .int .i64 (E9 ks)[i].fr.k, .slice qf (E9 ks)[i].fr.ks.length df, .int .i64 (E9 ks)[i].lb, .slice q3 (E9 ks)[i].ks.length d3]], F ++ F', G3) ?_ ?_ ?_
 (simp only [I6]; exact D3)
 exact ⟨by omega, hle.trans hle3, M2.step hst hnd hle hle3 (by omega) hs' hnd'⟩
 (show ks.length - (i + 1) < ks.length - i; omega)
 refine L5 ?_
 (refine H5 (by repeat (first | exact Pk.here | apply Pk.there)) (fun G4 hle4 hsl4 hno4 => ?_); obtain rfl : i = ks.length := (by omega))
 refine tT ?_
 refine E0 (rC rfl (A1 rfl rfl)) ?_
 (rw [← hlen, List.take_length] at hst; rw [← hlen] at hsl4 ⊢; obtain ⟨F3, hf1, hf2⟩ := A0V.fin hst hnd hle hle4 hsl4 hno4; rw [hB3]; exact ⟨rfl, _, F3, rfl, hf1.leaf hk hnum hxi, hf2⟩)
def B7l (t : Tm) : Nat := if O4 t = true then C6 t else 0
def B7m (G : IM) : Prop := ∃ g, Tryz.prog.globalNamed "internal/strconv.uint64pow10" = some g ∧ G g = some (Lib.pow10Tab.map fun z => Value.int .u64 z)
inductive MV where
 | mk (k num : Int) (env parts : List MV)
def MV.k : MV → Int | .mk k _ _ _ => k
def MV.num : MV → Int | .mk _ n _ _ => n
def MV.env : MV → List MV | .mk _ _ e _ => e
def MV.parts : MV → List MV | .mk _ _ _ p => p
def mv0 : MV := .mk 0 0 [] []
mutual
def RMv (kc : Int → Int) (G : IM) : MV → List Value → Prop
 | .mk k num env parts, cells => ∃ p c es q d fs, cells = [.int .i64 (kc k), .int .i64 num, .slice p env.length c, .slice q parts.length d] ∧ E3 num ∧ E3 (kc k) ∧ C9 G p env.length c 4 es ∧ A20 kc G env es ∧ C9 G q parts.length d 4 fs ∧ A20 kc G parts fs
def A20 (kc : Int → Int) (G : IM) : List MV → List (List Value) → Prop
 | [], es => es = []
 | t :: ts, es => ∃ a r, es = a :: r ∧ RMv kc G t a ∧ A20 kc G ts r
end
section
variable {kc : Int → Int} {G : IM}
end

def RFr (kc : Int → Int) (G : IM) (f : Int × List MV) (cells : List Value) : Prop := ∃ p c es, cells = [.int .i64 f.1, .slice p f.2.length c] ∧ E3 f.1 ∧ C9 G p f.2.length c 4 es ∧ A20 kc G f.2 es
def A9W (kc : Int → Int) (G : IM) : List (Int × List MV) → List (List Value) → Prop
 | [], es => es = []
 | t :: ts, es => ∃ a r, es = a :: r ∧ RFr kc G t a ∧ A9W kc G ts r
section
variable {kc : Int → Int} {G : IM}
end

structure MSt where
 at' : Int
 st : List MV
 env : List MV
 fr : List (Int × List MV)
def RSs (kc : Int → Int) (G : IM) (s : MSt) (cells : List Value) : Prop := ∃ pe ce ps cs pf cf ee es ef, cells = [.int .i64 s.at', .slice pe s.env.length ce, .slice ps s.st.length cs, .slice pf s.fr.length cf] ∧ E3 s.at' ∧
 C9 G pe s.env.length ce 4 ee ∧ A20 kc G s.env ee ∧ C9 G ps s.st.length cs 4 es ∧ A20 kc G s.st es ∧ C9 G pf s.fr.length cf 2 ef ∧ A9W kc G s.fr ef
def A2x (k : Int) : Nat := if k = 6 ∨ k = 7 ∨ k = 8 ∨ k = 11 then 2 else if k = 9 ∨ k = 12 ∨ k = 13 then 1 else 0
def A46 (k : Int) : Int × Nat × Int := if k = 6 then (2, 1, 1) else if k = 7 ∨ k = 8 then (0, 2, 2) else if k = 9 then (1, 1, 3) else if k = 12 ∨ k = 13 then (3, 1, 4) else (0, 0, 0)
def A2a (s : MSt) (v : MV) : MSt := { s with st := s.st ++ [v] }
def mGo (k a : Int) (s : MSt) (v : List MV) : MSt ⊕ (Int × Int) :=
 if k = 1 then .inl (A2a s (.mk 0 a [] []))
 else if k = 2 then .inl (A2a s (.mk 1 a [] []))
 else if k = 3 then (if (s.env.length : Int) - 1 - a < 0 then .inr (3, 0) else .inl (A2a s (s.env.getD ((s.env.length : Int) - 1 - a).toNat mv0)))
 else if k = 4 then .inl { A2a s (.mk 2 s.at' s.env []) with at' := s.at' + a }
 else if k = 5 then (if s.fr.length = 0 then .inr (3, 0) else .inl { s with at' := (s.fr.getD (s.fr.length - 1) (0, [])).1, env := (s.fr.getD (s.fr.length - 1) (0, [])).2, fr := s.fr.take (s.fr.length - 1) })
 else if k = 6 then .inl { s with at' := (v.getD 0 mv0).num, env := (v.getD 0 mv0).env ++ [v.getD 1 mv0], fr := s.fr ++ [(s.at', s.env)] }
 else if k = 7 then .inl (A2a s (.mk 0 (((v.getD 0 mv0).num + (v.getD 1 mv0).num) % 1000) [] []))
 else if k = 8 then .inl (A2a s (.mk 1 (if (v.getD 0 mv0).num < (v.getD 1 mv0).num then 1 else 0) [] []))
 else if k = 9 then .inl (if (v.getD 0 mv0).num = 0 then { s with at' := s.at' + a } else s)
 else if k = 10 then .inl { s with at' := s.at' + a }
 else if k = 11 then .inl (A2a s (.mk 3 0 [] v))
 else .inl (A2a s ((v.getD 0 mv0).parts.getD (k - 12).toNat mv0))
def A9X (k : Int) (v : List MV) : Bool := (v.take (A46 k).2.1).all fun u => decide (u.k = (A46 k).1)
def B51 (k a : Int) (s : MSt) : MSt ⊕ (Int × Int) :=
 if s.st.length < A2x k then .inr (3, 0)
 else if A9X k (s.st.drop (s.st.length - A2x k)) = true then mGo k a { s with at' := s.at' + 1, st := s.st.take (s.st.length - A2x k) } (s.st.drop (s.st.length - A2x k))
 else .inr (2, (A46 k).2.2)
def B52 (v : MV) : ByteArray := if v.k = 0 then ⟨(Lib.decDigits v.num.toNat).toArray⟩ else if v.k = 1 then (if v.num = 0 then ⟨#[70]⟩ else ⟨#[84]⟩) else if v.k = 2 then ⟨⟨[102, 117, 110, 99, 116, 105, 111, 110]⟩⟩ else ⟨⟨[112, 97, 105, 114]⟩⟩
def B53 (s : MSt) : ByteArray × Int × Int := if s.st.length ≠ 1 ∨ 0 < s.fr.length then (⟨#[]⟩, 3, 0) else (B52 (s.st.getD 0 mv0), 0, 0)
def A9Y (ops : List (Int × Int)) : Nat → MSt → ByteArray × Int × Int
 | t, s => if (ops.length : Int) ≤ s.at' then B53 s else match t with
  | 0 => (⟨#[]⟩, 5, 0)
  | t + 1 => match B51 (ops.getD s.at'.toNat (0, 0)).1 (ops.getD s.at'.toNat (0, 0)).2 s with
   | .inl s' => A9Y ops t s'
   | .inr (c, e) => (⟨#[]⟩, c, e)
def B54 (k behind : Int) : Int := if k = 1 then 999 else if k = 2 then 1 else if k = 3 then 11 else if k = 4 ∨ k = 9 ∨ k = 10 then behind else 0
def B55 (n : Nat) (i : Nat) (x : Int × Int) : Bool := decide (1 ≤ x.1 ∧ x.1 ≤ 13 ∧ 0 ≤ x.2 ∧ x.2 ≤ B54 x.1 ((n : Int) - 1 - i))
def B56 (ops : List (Int × Int)) : Bool := decide (1 ≤ ops.length ∧ ops.length ≤ 120) && (List.range ops.length).all fun i => B55 ops.length i (ops.getD i (0, 0))
def B7n (ops : List (Int × Int)) (ticks : Int) : ByteArray × Int × Int :=
 if B56 ops = true ∧ 0 ≤ ticks ∧ ticks ≤ 2000 then A9Y ops ticks.toNat ⟨0, [], [], []⟩ else (⟨#[]⟩, 3, 0)
theorem B57 {e : Tm} {fuel : Int} (h : P6 fuel 0 300 = true) (h1 : (P3 fuel.toNat e).2.1 = 1) : A0l e fuel = (D7, 5, 0) := by
 rw [A9U h, A6h _ _ h1]
theorem B58 {e : Tm} {fuel : Int} (h : P6 fuel 0 300 = true) (h1 : (P3 fuel.toNat e).2.1 ≠ 1) : A0l e fuel = ((P3 fuel.toNat e).1, (P3 fuel.toNat e).2.1, (P3 fuel.toNat e).2.2.1) := by
 rw [A9U h, A6i _ _ h1]
theorem A9Z (e : Tm) (n : Nat) (hn : n ≤ 300) (G : IM) (cells : List Value) (hr : A6 G e cells) : Fn Tryz.prog 38 [.agg ⟨cells⟩, .int .i64 (n : Int)] [] G (EvP (P3 n e)) := by
 have hRl := hr.len
 have hRo := hr.one
 refine B3 Tryz.func38 rfl Tryz.ntmps38 Tryz.results38 rfl ?_
 intro w0
 refine tS (tR ?_)
 refine sE (C0 rfl rfl) rfl (fun b3 => ?_)
 refine sE (A7 rfl) rfl (fun b4 => ?_)
 refine I7 ?_
 refine B7 ?_
 (refine L3 (fun (x : Nat × Tm × List Value × IM) => ⟨[(8, .int .i64 (x.1 : Int)), (1, .int .i64 (n : Int)), (2, .pointer (some ⟨b3, 0, none⟩)), (4, .pointer (some ⟨b4, 0, none⟩))], [.blk b3 x.2.2.1, .blk b4 [.int .i64 0, .string ⟨⟨[]⟩⟩, .int .i64 0, .int .i64 0, .slice none 0 0, .int .i64 0, .slice none 0 0, .int .i64 0, .slice none 0 0]], x.2.2.2⟩) (fun x => x.1 ≤ n ∧ B6 G x.2.2.2 ∧ A6 x.2.2.2 x.2.1 x.2.2.1 ∧ V0 x.1 (P3 (n - x.1) x.2.1) = P3 n e) (fun x => n - x.1) (0, e, cells, G) ?_ ?_ ?_)
 (simp only [I6]; exact D3)
 (exact ⟨Nat.zero_le _, B6.refl _, hr, rfl⟩)
 (rintro ⟨i, u, uc, Gi⟩ ⟨hi, hle, hru, hev⟩; simp only [] at hi hle hru hev ⊢; have hul := hru.len; have huo := hru.one)
 refine tS ?_
 refine B7 ?_
 refine tS (tR ?_)
 refine sL (A3 rfl rfl (A9 (by repeat first | exact mH | apply mT)) hul) rfl rfl ?_
 (refine E5 rfl (B5j u Gi uc hru) rfl rfl (fun v G1 hle1 hh => ?_); obtain ⟨wc, hv, hrw⟩ := hh; have hwl := hrw.len; have hwo := hrw.one; have hend := @B4b (n - i) i u; have hgo := @B4c (n - i) i u; generalize H2 u = r at hv hrw hend hgo; obtain ⟨w, c, l⟩ := r; simp only at hv hrw hend hgo; subst hv)
 refine H1 ?_
 refine sE (A7 rfl) rfl (fun b30 => ?_)
 refine sS rfl rfl rfl hwl hwo rfl ?_ (hu := by exact C3 hwl.symm)
 refine D8 ?_
 refine sB (M8 rfl rfl) rfl rfl (fun h40 => ?_) (fun h40 => ?_)
 refine I7 ?_
 refine sL (A3 rfl rfl (A9 (by repeat first | exact mH | apply mT)) hwl) rfl rfl ?_
 refine sQ (qM rfl) rfl (sQ (qM rfl) rfl (sQ (qM rfl) rfl ?_))
 refine sS rfl rfl rfl hwl hwo rfl ?_ (hu := by exact C3 hwl.symm)
 refine J2 ?_
 refine A2t (rC rfl (A3 rfl rfl (A9 (by repeat first | exact mH | apply mT)) hwl)) (rT rfl) (rT rfl) (rT rfl) ?_
 (exact EvP.mk (by rw [← hev]; exact hend (by omega)) hrw)
 refine sQ (qM rfl) rfl (sQ (qM rfl) rfl (sQ (qM rfl) rfl ?_))
 refine sB (qE rfl rfl) rfl rfl (fun h72 => ?_) (fun h72 => ?_)
 refine sQ (N2 rfl rfl) rfl (sD (nS (qT rfl (tS (tR ?_)))))
 refine sL (A3 rfl rfl (A9 (by repeat first | exact mH | apply mT)) hwl) rfl rfl ?_
 refine sQ (qM rfl) rfl (sQ (qM rfl) rfl (sQ (qM rfl) rfl ?_))
 refine sS rfl rfl rfl hwl hwo rfl ?_ (hu := by exact C3 hwl.symm)
 refine J2 ?_
 refine A2t (rC rfl (A3 rfl rfl (A9 (by repeat first | exact mH | apply mT)) hwl)) (rT rfl) (rT rfl) (rT rfl) ?_
 (exact EvP.mk (by rw [← hev]; exact hend (by omega)) hrw)
 refine sQ (N2 rfl rfl) rfl (sD (nS (cF rfl (tK (nS (tR ?_))))))
 refine sL (A3 rfl rfl (A9 (by repeat first | exact mH | apply mT)) hwl) rfl rfl ?_
 refine W1 rfl rfl rfl hwl hwo rfl (by repeat first | exact Sw.here | apply Sw.there) (by exact C3 (hul.trans hwl.symm)) ?_
 refine sD (N3 (nS (tR (sQ (qM rfl) rfl ?_))))
 refine sP (K4 rfl rfl (by omega) (by omega)) rfl rfl ?_
 refine sQ (qA rfl) rfl (sD ?_)
 refine K7 (i + 1, w, wc, G1) ?_ ?_ ?_
 (simp only [I6]; exact D3)
 (dsimp only; exact ⟨by omega, hle.trans hle1, hrw, by rw [← hev, hgo (by omega) (by omega), show n - (i + 1) = n - i - 1 by omega]⟩)
 (show n - (i + 1) < n - i; omega)
theorem B59 (e : Tm) (fuel : Int) (G : IM) (cells : List Value) (hr : A6 G e cells) : Fn Tryz.prog 13 [.agg ⟨cells⟩, .int .i64 fuel] [] G (K2 (A0l e fuel)) := by
 have hRl := hr.len
 have hRo := hr.one
 have hno := @B5X e fuel
 have hmu := @B57 e fuel
 have hen := @B58 e fuel
 refine B3 Tryz.func13 rfl Tryz.ntmps13 Tryz.results13 rfl ?_
 intro w0
 refine tS (tR ?_)
 refine sE (C0 rfl rfl) rfl (fun b3 => ?_)
 refine sE (A7 rfl) rfl (fun b4 => ?_)
 refine D8 ?_
 refine E2 rfl ((A4S fuel _)) rfl rfl (fun h13 => ?_) (fun h13 => ?_)
 refine sQ (W0 rfl) rfl (sD (nS (cF rfl (tK (nS (tS (tR ?_)))))))
 refine sL (A3 rfl rfl (A9 (by repeat first | exact mH | apply mT)) hRl) rfl rfl ?_
 refine sQ (qM rfl) rfl ?_
 (have hf : P6 fuel 0 300 = true := (by assumption); have hf2 := A07 hf; have hE := A9Z e fuel.toNat (by omega) G cells hr; rw [Int.toNat_of_nonneg hf2.1] at hE; refine E5 rfl hE rfl rfl (fun v G1 hle1 hh => ?_); obtain ⟨wc, hv, hrw⟩ := hh; have hwl := hrw.len; have hwo := hrw.one; have hmu := hmu hf; have hen := hen hf; generalize P3 fuel.toNat e = r at hv hrw hmu hen; obtain ⟨w, c, l, i⟩ := r; simp only at hv hrw hmu hen; subst hv)
 refine Q3 ?_
 refine sE (A7 rfl) rfl (fun b30 => ?_)
 refine sS rfl rfl rfl hwl hwo rfl ?_ (hu := by exact C3 hwl.symm)
 refine D9 ?_
 refine sB (qE rfl rfl) rfl rfl (fun h41 => ?_) (fun h41 => ?_)
 refine J3 ?_
 refine C7 (rC rfl (A1 rfl rfl)) (rT rfl) (rT rfl) ?_
 (exact K2.mk (hmu (by omega)) (L0 _))
 refine sD (nS (cF rfl (tK (nS (tS (tR ?_))))))
 refine sL (A3 rfl rfl (A9 (by repeat first | exact mH | apply mT)) hwl) rfl rfl ?_
 refine sQ (qM rfl) rfl (sQ (qM rfl) rfl ?_)
 refine sS rfl rfl rfl hwl hwo rfl ?_ (hu := by exact C3 hwl.symm)
 refine sQ (qA rfl) rfl (sQ (qA rfl) rfl (sD (nS (tT ?_))))
 refine C7 (rC rfl (A3 rfl rfl (A9 (by repeat first | exact mH | apply mT)) hwl)) (rT rfl) (rT rfl) ?_
 (exact K2.mk (hen (by omega)) hrw)
 refine L5 ?_
 refine C7 (rC rfl (A1 rfl rfl)) (rT rfl) (rT rfl) ?_
 (exact K2.mk (hno (by assumption)) (L0 _))
inductive Tg where
 | i | b | f | p
def Tg.ty : Tg → GT
 | .i => .int
 | .b => .bool
 | .f => .fn .any .any
 | .p => .pr .any .any
inductive DM where
 | a
 | r (t : Tg)
 | c (t : Tg)
def GE.dy : GE → DM → Prop
 | .var _, m => m = .a
 | .num _, m => m = .r .i ∨ m = .c .i
 | .tru _, m => m = .r .b ∨ m = .c .b
 | .lam _ A e, m => (m = .r .f ∨ m = .c .f) ∧ A = .any ∧ e.dy .a
 | .app f x, m => m = .a ∧ f.dy (.c .f) ∧ x.dy .a
 | .ar s x y, m => m = .r (if s = true then .b else .i) ∧ x.dy (.c .i) ∧ y.dy (.c .i)
 | .ite c x y, m => m = .a ∧ c.dy (.c .b) ∧ x.dy .a ∧ y.dy .a
 | .pair x y, m => (m = .r .p ∨ m = .c .p) ∧ x.dy .a ∧ y.dy .a
 | .part _ e, m => m = .a ∧ e.dy (.c .p)
 | .cast A B _ e, m => (m = .a ∧ B = .any ∧ ∃ t : Tg, A = t.ty ∧ e.dy (.r t)) ∨ ∃ t : Tg, m = .c t ∧ A = .any ∧ B = t.ty ∧ e.dy .a
def GE.evc : GE → Prop
 | .var _ => False
 | .num _ => True
 | .tru _ => True
 | .lam _ _ _ => True
 | .app f a => f.evc ∧ a.evc
 | .ar _ a b => a.evc ∧ b.evc
 | .ite c _ _ => c.evc
 | .pair a b => a.evc ∧ b.evc
 | .part _ e => e.evc
 | .cast _ _ _ e => e.evc
def GE.tg : GE → Option Tg
 | .num _ => some .i
 | .tru _ => some .b
 | .lam _ _ _ => some .f
 | .pair _ _ => some .p
 | _ => none
def Vl (e : GE) : Prop := ∃ w, Ss e w ∧ GV w
def Rs (t : Tg) (e : GE) : Prop := ∃ w, Ss e w ∧ GV w ∧ w.tg = some t
def Nv : DM → GE → Prop
 | .a, e => ¬Vl e.er
 | .r _, e => ¬Vl e.er
 | .c t, e => ¬Rs t e.er
def A2y (e : Tm) : Tm := .mk 13 ⟨#[]⟩ 0 N4 A8 0 [e]
mutual
def A0m : Tm → Tm
 | .mk k nm num ty fr lb ks => if k = 13 then (A0N ks).headD D7 else if k = 1 ∨ k = 6 ∨ k = 9 ∨ k = 11 ∨ k = 12 then .mk k nm num A8 A8 0 (A0N ks)
  else A2y (.mk k nm num (if k = 5 then N4 else A8) A8 0 (A0N ks))
def A0N : List Tm → List Tm
 | [] => []
 | t :: ts => A0m t :: A0N ts
end
mutual
def mCl : List ByteArray → Tm → Prop
 | b, .mk k nm _ _ _ _ ks => (k = 1 → nm ∈ b) ∧ A90 (if k = 5 then nm :: b else b) ks
def A90 : List ByteArray → List Tm → Prop
 | _, [] => True
 | b, t :: ts => mCl b t ∧ A90 b ts
end
def A1M (e : Tm) : Tm × Bool := if O4 e = true ∧ O4 (A0m e) = true then (A0m e, true) else (D7, false)
theorem B6a : J4 D7 = D7 := by
 rw [D7, J4, if_neg (by decide), if_neg (by decide), E9]; rfl
theorem B6b (u : Tm) : J4 (A2y u) = J4 u := by rw [A2y, J4, if_pos (.inl rfl), E9]; rfl
theorem B6c (ks : List Tm) (ih : ∀ t ∈ ks, J4 (A0m t) = J4 t) : E9 (A0N ks) = E9 ks := by
 induction ks with
 | nil => rfl
 | cons t ts i => rw [A0N, E9, E9, ih t List.mem_cons_self, i fun u hu => ih u (List.mem_cons_of_mem _ hu)]
theorem B6d : ∀ e : Tm, J4 (A0m e) = J4 e := by
 refine Tm.ind fun k nm num ty fr lb ks ih => ?_
 have hL := B6c ks ih
 rw [A0m]
 by_cases h13 : k = 13
 ·rw [if_pos h13, J4, if_pos (.inl h13)]
  cases ks with
  | nil => exact B6a
  | cons t ts => rw [A0N, E9]; exact ih t List.mem_cons_self
 ·rw [if_neg h13]
  split
  ·rename_i hk
   rw [J4, J4, if_neg (by omega), if_neg (by omega), if_neg (by omega), hL]
  ·rw [B6b, J4, J4, hL]
def B7o (cx : Cx) (t : Tm) : Prop := ∀ l, ∃ (g : GE) (l' : Int), M7 cx t l = some (g.tm, N4, l') ∧ g.dy .a
def B7p (cx : Cx) (t : Tm) (s : Tg) : Prop := ∀ l, ∃ (g : GE) (l' : Int), M7 cx t l = some (g.tm, s.ty.ty, l') ∧ g.dy (.r s)
section
variable {cx : Cx} {k : Int} {nm : ByteArray} {num : Int} {ty fr : Ty} {lb : Int} {a b c u v w : Tm} {A B C : Ty} {l l1 l2 l3 : Int}
end
section
variable {cx : Cx} {a b c : Tm}
end
mutual
def A0x (g : Int → Tm → Tm × Int) : Tm → Int → Tm × Int
 | .mk k nm num ty fr lb ks, n => g (V1 g ks n).2 (.mk k nm num ty fr lb (V1 g ks n).1)
def V1 (g : Int → Tm → Tm × Int) : List Tm → Int → List Tm × Int
 | [], n => ([], n)
 | t :: ts, n => ((A0x g t n).1 :: (V1 g ts (A0x g t n).2).1, (V1 g ts (A0x g t n).2).2)
end
theorem A91 (g : Int → Tm → Tm × Int) : ∀ (ks : List Tm) (n : Int) (i : Nat) (h : i < ks.length),
  V1 g (ks.take (i + 1)) n = ((V1 g (ks.take i) n).1 ++ [(A0x g ks[i] (V1 g (ks.take i) n).2).1], (A0x g ks[i] (V1 g (ks.take i) n).2).2)
 | [], _, _, h => by simp at h
 | t :: ts, n, 0, _ => by simp [V1]
 | t :: ts, n, i + 1, h => by
  simp only [List.take_succ_cons, V1, List.getElem_cons_succ]
  rw [A91 g ts _ i (by simpa using h)]
  rfl
theorem A92 (g : Int → Tm → Tm × Int) : ∀ (ks : List Tm) (n : Int), (V1 g ks n).1.length = ks.length
 | [], _ => rfl
 | t :: ts, n => by rw [V1]; simp only [List.length_cons]; rw [A92 g ts]
mutual
def A21 (Q : Int → Tm → Prop) (g : Int → Tm → Tm × Int) : Tm → Int → Prop
 | .mk k nm num ty fr lb ks, n => A2b Q g ks n ∧ Q (V1 g ks n).2 (.mk k nm num ty fr lb (V1 g ks n).1)
def A2b (Q : Int → Tm → Prop) (g : Int → Tm → Tm × Int) : List Tm → Int → Prop
 | [], _ => True
 | t :: ts, n => A21 Q g t n ∧ A2b Q g ts (A0x g t n).2
end
theorem A93 {Q : Int → Tm → Prop} {g : Int → Tm → Tm × Int} : ∀ {ks : List Tm} {n : Int}, A2b Q g ks n → ∀ (i : Nat) (h : i < ks.length), A21 Q g ks[i] (V1 g (ks.take i) n).2
 | [], _, _, _, h => by simp at h
 | t :: ts, n, hq, 0, _ => by rw [A2b] at hq; simpa [V1] using hq.1
 | t :: ts, n, hq, i + 1, h => by
  rw [A2b] at hq
  simp only [List.take_succ_cons, V1, List.getElem_cons_succ]
  exact A93 hq.2 i (by simpa using h)
mutual
theorem A6w (g : Tm → Tm) : ∀ (t : Tm) (n : Int), A0x (fun n t => (g t, n)) t n = (A0q g t, n)
 | .mk k nm num ty fr lb ks, n => by rw [A0x, A0q, A6x g ks n]
theorem A6x (g : Tm → Tm) : ∀ (ks : List Tm) (n : Int), V1 (fun n t => (g t, n)) ks n = (A0a g ks, n)
 | [], n => rfl
 | t :: ts, n => by rw [V1, A0a, A6w g t n, A6x g ts n]
end
mutual
theorem A94 {Q : Tm → Prop} {g : Tm → Tm} : ∀ (t : Tm) (n : Int), mOk Q g t → A21 (fun _ => Q) (fun n t => (g t, n)) t n
 | .mk k nm num ty fr lb ks, n, h => by
  rw [mOk] at h
  rw [A21, A6x]
  exact ⟨A95 ks n h.1, h.2⟩
theorem A95 {Q : Tm → Prop} {g : Tm → Tm} : ∀ (ks : List Tm) (n : Int), A0I Q g ks → A2b (fun _ => Q) (fun n t => (g t, n)) ks n
 | [], n, _ => by rw [A2b]; trivial
 | t :: ts, n, h => by
  rw [A0I] at h
  rw [A2b, A6w]
  exact ⟨A94 t n h.1, A95 ts n h.2⟩
end
def A96 (g : Int → Tm → Tm × Int) (Q : Int → Tm → Prop) (E : Int → A4) (fid : FuncId) (us cs : List Value) : Prop := ∀ (n : Int) (t : Tm) (G : IM) (cells : List Value), Q n t → A6 G t cells →
 Fn Tryz.prog fid (us ++ [.agg ⟨cells⟩] ++ cs) [E n] G (fun G' v outs => outs = [E (g n t).2] ∧ ∃ cells', v = .agg ⟨cells'⟩ ∧ A6 G' (g n t).1 cells')
theorem B6e (g : Int → Tm → Tm × Int) (Q : Int → Tm → Prop) (E : Int → A4) (fid : FuncId) [B1 Tryz.prog fid] (us cs : List Value) (hg : A96 g Q E fid us cs) : ∀ (t : Tm) (n : Int) (G : IM) (cells : List Value), A21 Q g t n → t.small → A6 G t cells →
  Fn Tryz.prog 42 [.agg ⟨cells⟩, .func (.func fid) ⟨us⟩ ⟨cs⟩] [E n] G (fun G' v outs => outs = [E (A0x g t n).2] ∧ ∃ cells', v = .agg ⟨cells'⟩ ∧ A6 G' (A0x g t n).1 cells') := by
 refine Tm.ind fun k nm num ty fr lb ks ih n G cells hmo hts hr => ?_
 have hone := hr.one
 rw [A21] at hmo
 obtain ⟨hmoL, hQ⟩ := hmo
 simp only [Tm.small] at hts
 obtain ⟨hnm, hty', hfr', hsm, hks⟩ := hts
 have hgL : A0x g (.mk k nm num ty fr lb ks) n = g (V1 g ks n).2 (.mk k nm num ty fr lb (V1 g ks n).1) := by rw [A0x]
 have hstep := A91 g ks n
 have hget := fun i h => A93 hmoL i h
 have h0 : V1 g (ks.take 0) n = ([], n) := rfl
 have hmlen := A92 g ks n
 obtain ⟨tk, tks⟩ := ty
 obtain ⟨fk, fks⟩ := fr
 obtain ⟨pt, ct, pf, cf, p, c, es, rfl, hk, hnum, hlb, hty, hfr, hsl, hkl⟩ := hr.open9
 have hn := hsl.le
 refine B3 Tryz.func42 rfl Tryz.ntmps42 Tryz.results42 rfl ?_
 intro w0
 refine tS (tR ?_)
 refine sE (C0 rfl rfl) rfl (fun b3 => ?_)
 refine sE (A7 rfl) rfl (fun b4 => ?_)
 refine I8 ?_
 refine B7 ?_
 (refine U5 28 9 ?_; refine L3 (fun (x : Nat × Option Addr × Nat × List (List Value) × List Tm × Int × IM) => ⟨[(11, .int .i64 x.1), (10, .int .i64 ks.length), (9, .slice p ks.length c), (5, .slice x.2.1 x.1 x.2.2.1), (2, .pointer (some ⟨b3, 0, none⟩)), (1, .func (.func fid) ⟨us⟩ ⟨cs⟩), (4, .pointer (some ⟨b4, 0, none⟩))], [.slc x.2.1 x.2.2.1 28 9 x.1 x.2.2.2.1.flatten, .blk b4 [.int .i64 0, .string ⟨⟨[]⟩⟩, .int .i64 0, .int .i64 0, .slice none 0 0, .int .i64 0, .slice none 0 0, .int .i64 0, .slice none 0 0], .blk b3 [.int .i64 k, .string nm, .int .i64 num, .int .i64 tk, .slice pt tks.length ct, .int .i64 fk, .slice pf fks.length cf, .int .i64 lb, .slice p ks.length c], E x.2.2.2.2.2.1], x.2.2.2.2.2.2⟩) (fun x => x.1 ≤ ks.length ∧ B6 G x.2.2.2.2.2.2 ∧ V1 g (ks.take x.1) n = (x.2.2.2.2.1, x.2.2.2.2.2.1) ∧ D2 x.2.2.2.2.2.2 x.2.2.2.2.1 x.2.2.2.1) (fun x => ks.length - x.1) (0, none, 0, [], [], n, G) ?_ ?_ ?_)
 (simp only [I6]; exact D3)
 (exact ⟨Nat.zero_le _, B6.refl _, h0, by simp only [D2]⟩)
 (rintro ⟨i, pn, cn, es', ms, m, Gi⟩ ⟨hi, hle, hmm, hst⟩; simp only [] at hi hle hmm hst ⊢; replace hsl := hsl.mono hle; replace hkl := hkl.mono hle)
 refine tS (tR ?_)
 refine sB (J9 rfl rfl) rfl rfl (fun h28 => ?_) (fun h28 => ?_)
 refine sD (nS (tS (qT rfl (tK (nS (tS ?_))))))
 refine B7 ?_
 refine tS (tR ?_)
 (have hst9 := hstep i (by omega); have hgi := hget i (by omega); rw [hmm] at hst9 hgi; obtain ⟨b, o, e, rfl, hl, hat, hre, hgb⟩ := hsl.kidTm hkl (i := i) (by omega) (by omega); have hone := hre.one; refine sP (B2 rfl rfl rfl (by omega)) rfl rfl ?_)
 refine sL (A3 rfl rfl (hat _) hl) rfl rfl ?_
 refine sE (A7 rfl) rfl (fun b41 => ?_)
 refine sS rfl rfl rfl hl hone rfl ?_ (hu := by exact C3 hl.symm)
 refine sD (nS (tR (sQ (qM rfl) rfl ?_)))
 refine sL (A3 rfl rfl (A9 (by repeat first | exact mH | apply mT)) (by assumption)) rfl rfl ?_
 refine sQ (qM rfl) rfl ?_
 (refine H4 rfl (ih ks[i] (List.getElem_mem (by omega)) m _ _ hgi (Tm.smallL_mem hks _ (List.getElem_mem (by omega))) hre) (Pk.perm (by repeat (first | exact Pk.here | apply Pk.there))) rfl rfl (fun v G3 outs hle3 hh => ?_); obtain ⟨rfl, cells', rfl, hs'⟩ := hh; have hlc := hs'.len; have hoc := hs'.one; have hsn := D2.snoc (hst.mono hle3) hs')
 (obtain ⟨v1, v2, v3, v4, v5, v6, v7, v8, v9, rfl⟩ := nine hlc)
 (refine L4 (C8 rfl rfl rfl (by omega) (by unfold maxLen; omega) rfl) rfl ?_; rintro _ ⟨b51, rfl⟩)
 refine A37 rfl rfl rfl rfl rfl (fun _ _ => by repeat (first | exact Sw.here | apply Sw.there)) (P5 (by repeat first | exact mH | apply mT)) rfl (fun u hu => List.all_eq_true.1 hoc u hu) (by unfold maxLen; omega) (by omega) rfl (fun pn' cn' => ?_)
 refine sQ (qA rfl) rfl (sD (N3 (nS (tR ?_))))
 refine sP (K4 rfl rfl (by omega) (by omega)) rfl rfl ?_
 refine sQ (qM rfl) rfl (sD ?_)
 refine K7 (i + 1, pn', cn', es' ++ [[v1, v2, v3, v4, v5, v6, v7, v8, v9]], ms ++ [(A0x g ks[i] m).1], (A0x g ks[i] m).2, G3) ?_ ?_ ?_
 (simp only [I6]; exact D3)
 exact ⟨by omega, hle.trans hle3, hst9, hsn⟩
 (show ks.length - (i + 1) < ks.length - i; omega)
 refine I7 ?_
 (obtain rfl : i = ks.length := (by omega); rw [List.take_length] at hmm; rw [hmm] at hQ hgL hmlen; simp only [] at hQ hgL hmlen; refine A1y (by repeat (first | exact Pk.here | apply Pk.there)) (fun G2 hle2 hsl2 hno2 => ?_); have hleG := hle.trans hle2; have hT := A1T (.mk tk tks) G2 _ hty' (hty.mono hleG); refine D5 D6 rfl ?_)
 refine I3 (i := 0) (l' := [tt,ff,ff,ff,ff,ff,ff,ff,ff,ff,ff,ff,ff]) rfl D1 (B0 rfl) rfl (by kernel_rfl) rfl rfl ?_
 refine aL 1 rfl (A1 rfl rfl) rfl ?_
 refine aP 3 rfl (B0 rfl) rfl ?_
 refine aL 4 rfl (A1 rfl rfl) rfl ?_
 refine aP 6 rfl (qM rfl) rfl ?_
 refine A2 2 ?_
 (refine I9 rfl rfl hT rfl rfl rfl (fun v G4 hle4 hh => ?_); obtain ⟨S6, F1, rfl, hs1, hn1⟩ := hh; obtain ⟨p1, c1, rfl, _⟩ := hs1.open; have hF := A1T (.mk fk fks) G4 _ hfr' (hfr.mono (hleG.trans hle4)))
 refine aP 7 rfl (B0 rfl) rfl ?_
 refine A2 5 ?_
 (refine I9 rfl rfl hF rfl rfl rfl (fun v G5 hle5 hh => ?_); obtain ⟨cs2, F2, rfl, hs2, hn2⟩ := hh; obtain ⟨p2, c2, rfl, _⟩ := hs2.open; have hst5 := hst.mono ((hle2.trans hle4).trans hle5); have hR5 := A6.put (nm := nm) (us := ms) hk hnum hlb ((hs1.R.mono (C1.le _ _)).mono hle5) (hs2.R.mono (C1.le _ _)) hmlen.symm ((C9.of hsl2 (by rw [hst.len, hmlen]) hst.all (fun e he => by obtain ⟨j, hj⟩ := List.getElem?_of_mem he; exact (hst.inv hj D7).2.one)).mono (hle4.trans hle5)) hst5; have hch := hg m _ G5 _ hQ hR5)
 refine A2 8 ?_
 refine H7 rfl ?_
 refine aP 9 rfl (B0 rfl) rfl ?_
 refine A2 10 ?_
 refine Q4 rfl rfl rfl rfl rfl rfl rfl rfl (by decide +kernel) (by repeat first | exact Sw.here | apply Sw.there) (by rfl) ?_
 refine aP 11 rfl (B0 rfl) rfl ?_
 refine A2 12 ?_
 refine Q4 rfl rfl rfl rfl rfl rfl rfl rfl (by decide +kernel) (by repeat first | exact Sw.here | apply Sw.there) (by rfl) ?_
 refine J7 ?_
 (refine L4 (A30 rfl rfl hch (Pk.perm (by repeat (first | exact Pk.here | apply Pk.there))) rfl) rfl ?_; rintro _ ⟨v, G7, outs, rfl, hle7, rfl, cells7, rfl, hs7⟩; have hl7 := hs7.len; have ho7 := hs7.one)
 refine sS rfl rfl rfl hl7 ho7 rfl ?_ (hu := by exact C3 hl7.symm)
 refine sD (nS (tT ?_))
 refine F8 (outs := [E (g m (.mk k nm num (.mk tk tks) (.mk fk fks) lb ms)).2]) (rC rfl (A3 rfl rfl (A9 (by repeat first | exact mH | apply mT)) hl7)) (by repeat (first | exact A0.nil | refine A0.cons Pk.here ?_ | refine A0.cons (Pk.there Pk.here) ?_ | refine A0.cons (Pk.there (Pk.there Pk.here)) ?_ | apply A0.drop)) ?_
 (rw [hgL]; exact ⟨rfl, cells7, rfl, hs7⟩)
theorem Fn.withE {P : Program} {f : FuncId} {args : List Value} {G : IM} {post : IM → Value → List A4 → Prop} (h : Fn P f args [] G post) (e : A4) : Fn P f args [e] G (fun G' v outs => ∃ o, outs = o ++ [e] ∧ post G' v o) := by
 refine ⟨fun w hw => ?_⟩
 have h0 : S5 [] G w := S5.left (b := [e]) hw
 refine (h.run w h0).mono ?_
 rintro x w' ⟨v, G', outs, rfl, h2, h3⟩
 exact ⟨v, G', outs ++ [e], rfl, (R4.refl hw).frame (ins := []) (rest := [e]) h2, outs, rfl, h3⟩
def A6y (g : Tm → Tm) (Q : Tm → Prop) (fid : FuncId) (us cs : List Value) : Prop := ∀ (t : Tm) (G : IM) (cells : List Value), Q t → A6 G t cells → Fn Tryz.prog fid (us ++ [.agg ⟨cells⟩] ++ cs) [] G (O7 (g t))
theorem B6f {g : Tm → Tm} {Q : Tm → Prop} {fid : FuncId} {us cs : List Value} (h : A6y g Q fid us cs) (e : A4) : A96 (fun n t => (g t, n)) (fun _ => Q) (fun _ => e) fid us cs := fun n t G cells hq hr =>
 ((h t G cells hq hr).withE e).mono fun G' v outs _ ⟨o, h1, h2, cells', h3, h4⟩ => ⟨by rw [h1, h2]; rfl, cells', h3, h4⟩
theorem B6g (g : Tm → Tm) (Q : Tm → Prop) (fid : FuncId) [B1 Tryz.prog fid] (us cs : List Value) (hg : A6y g Q fid us cs) (e : A4) (t : Tm) (G : IM) (cells : List Value) (hq : mOk Q g t) (hts : t.small) (hr : A6 G t cells) :
  Fn Tryz.prog 42 [.agg ⟨cells⟩, .func (.func fid) ⟨us⟩ ⟨cs⟩] [e] G (fun G' v outs => outs = [e] ∧ ∃ cells', v = .agg ⟨cells'⟩ ∧ A6 G' (A0q g t) cells') := by
 have h := B6e (fun n t => (g t, n)) (fun _ => Q) (fun _ => e) fid us cs (B6f hg e) t 0 G cells (A94 t 0 hq) hts hr
 rw [A6w] at h
 exact h
inductive Sm : Nat → GE → GE → Prop
 | refl {e} : Sm 0 e e
 | step {n a b c} : GS a b → Sm n b c → Sm (n + 1) a c
inductive Bl : GE → Int → Prop
 | app1 {f a L} : Bl f L → Bl (.app f a) L
 | app2 {f a L} : GV f → Bl a L → Bl (.app f a) L
 | ar1 {s a b L} : Bl a L → Bl (.ar s a b) L
 | ar2 {s a b L} : GV a → Bl b L → Bl (.ar s a b) L
 | ite1 {c a b L} : Bl c L → Bl (.ite c a b) L
 | pair1 {a b L} : Bl a L → Bl (.pair a b) L
 | pair2 {a b L} : GV a → Bl b L → Bl (.pair a b) L
 | part1 {s e L} : Bl e L → Bl (.part s e) L
 | cast1 {A B l e L} : Bl e L → Bl (.cast A B l e) L
 | fail {G H l m w} : GV w → G.Gd → H.Gd → G ≠ H → Bl (.cast .any G l (.cast H .any m w)) l
section
variable {k : Int} {nm : ByteArray} {num : Int} {ty fr : Ty} {lb : Int} {a b : Tm} {l : Int}
end
def GT.cp : GT → Prop
 | .fn _ _ => True
 | .pr _ _ => True
 | _ => False
def A97 : List Int → GE → GE
 | [], y => y
 | k :: ks, y => .cast .any .any k (A97 ks y)
inductive HR : GC → GE → GE → GT → Prop
 | var {Γ x A} : Γ x = some (A, A) → HR Γ (.var x) (.var x) A
 | num {Γ n} : HR Γ (.num n) (.num n) .int
 | tru {Γ b} : HR Γ (.tru b) (.tru b) .bool
 | lam {Γ x A B e e'} : HR (gup Γ x A A) e e' B → HR Γ (.lam x A e) (.lam x A e') (.fn A B)
 | app {Γ f f' a a' A B} : HR Γ f f' (.fn A B) → HR Γ a a' A → HR Γ (.app f a) (.app f' a') B
 | ar {Γ s a a' b b'} : HR Γ a a' .int → HR Γ b b' .int → HR Γ (.ar s a b) (.ar s a' b') (if s = true then .bool else .int)
 | ite {Γ c c' a a' b b' A} : HR Γ c c' .bool → HR Γ a a' A → HR Γ b b' A → HR Γ (.ite c a b) (.ite c' a' b') A
 | pair {Γ a a' b b' A B} : HR Γ a a' A → HR Γ b b' B → HR Γ (.pair a b) (.pair a' b') (.pr A B)
 | part {Γ s e e' A B} : HR Γ e e' (.pr A B) → HR Γ (.part s e) (.part s e') (if s = true then B else A)
 | cast {Γ e x A B l} : HR Γ e x A → Co A B → HR Γ (.cast A B l e) (.cast A B l x) B
 | idR {Γ e x A l} : HR Γ e x A → HR Γ e (.cast A A l x) A
 | idL {Γ e x A l} : HR Γ e x A → HR Γ (.cast A A l e) x A
 | back {Γ e x B l m} (ks : List Int) : HR Γ e x B → HR Γ e (.cast .any B l (A97 ks (.cast B .any m x))) B
 | backG {Γ e x B l m} : HR Γ e x B → B.cp → HR Γ e (.cast B.gr B l (.cast B B.gr m x)) B
 | dyn {Γ e x A B l} : HR Γ e x A → Co A B → HR Γ (.cast A B l e) (.cast .any B l (.cast A .any l x)) B
 | dynG {Γ e x A B l} : HR Γ e x A → Co A B → A.cp → B.cp → HR Γ (.cast A B l e) (.cast B.gr B l (.cast A A.gr l x)) B
 | dynU {Γ e x A B l} : HR Γ e x A → Co A B → A.cp → HR Γ (.cast A B l e) (.cast .any B l (.cast A.gr .any l (.cast A A.gr l x))) B
inductive WT : GC → GE → GT → Prop
 | var {Γ x A} : Γ x = some (A, A) → WT Γ (.var x) A
 | num {Γ n} : WT Γ (.num n) .int
 | tru {Γ b} : WT Γ (.tru b) .bool
 | lam {Γ x A B e} : WT (gup Γ x A A) e B → WT Γ (.lam x A e) (.fn A B)
 | app {Γ f a A B} : WT Γ f (.fn A B) → WT Γ a A → WT Γ (.app f a) B
 | ar {Γ s a b} : WT Γ a .int → WT Γ b .int → WT Γ (.ar s a b) (if s = true then .bool else .int)
 | ite {Γ c a b A} : WT Γ c .bool → WT Γ a A → WT Γ b A → WT Γ (.ite c a b) A
 | pair {Γ a b A B} : WT Γ a A → WT Γ b B → WT Γ (.pair a b) (.pr A B)
 | part {Γ s e A B} : WT Γ e (.pr A B) → WT Γ (.part s e) (if s = true then B else A)
 | cast {Γ e A B l} : WT Γ e A → Co A B → WT Γ (.cast A B l e) B
def gbk (A B : GT) (l : Int) (a : GE) : GE := if M5 A.ty B.ty = true then a else match a with
 | .cast C D m x => if A.ty.k = 1 ∧ D.ty.k = 1 ∧ M5 B.ty C.ty = true then x else .cast A B l (.cast C D m x)
 | a => .cast A B l a
def GE.simp : GE → GE
 | .var x => .var x
 | .num n => .num n
 | .tru b => .tru b
 | .lam x A e => .lam x A e.simp
 | .app f a => .app f.simp a.simp
 | .ar s a b => .ar s a.simp b.simp
 | .ite c a b => .ite c.simp a.simp b.simp
 | .pair a b => .pair a.simp b.simp
 | .part s e => .part s e.simp
 | .cast A B l e => gbk A B l e.simp
def GE.dynm : GE → GE
 | .var x => .var x
 | .num n => .num n
 | .tru b => .tru b
 | .lam x A e => .lam x A e.dynm
 | .app f a => .app f.dynm a.dynm
 | .ar s a b => .ar s a.dynm b.dynm
 | .ite c a b => .ite c.dynm a.dynm b.dynm
 | .pair a b => .pair a.dynm b.dynm
 | .part s e => .part s e.dynm
 | .cast A B l e => if A.ty.k = 1 ∨ B.ty.k = 1 then .cast A B l e.dynm else .cast .any B l (.cast A .any l e.dynm)
def B6h (t : Tm) : Tm := if t.k ≠ 14 then t else if M5 t.fr t.ty = true then kd t.ks 0 else if t.fr.k = 1 ∧ (kd t.ks 0).k = 14 ∧ (kd t.ks 0).ty.k = 1 ∧ M5 t.ty (kd t.ks 0).fr = true then kd (kd t.ks 0).ks 0 else t
def B6i (t : Tm) : Tm := if t.k ≠ 14 ∨ t.fr.k = 1 ∨ t.ty.k = 1 then t else N1 (N1 (kd t.ks 0) t.fr N4 t.lb) N4 t.ty t.lb
section
variable {cx : Cx} {k : Int} {nm : ByteArray} {num : Int} {ty fr : Ty} {lb : Int} {a b c a' b' c' : Tm} {T : Ty}
end
section
variable {D N : Int} {k : Int} {nm : ByteArray} {num : Int} {ty fr : Ty} {lb : Int} {a b c a' b' c' : Tm} {d d' : Int}
end
def Agr (a b : Tm) (n m : Int) : Prop := (S4 a n).2.1 = 4 ∨ (S4 a n).2.1 = 5 ∨ (S4 b m).2.1 = 4 ∨ (S4 b m).2.1 = 5 ∨
 ((S4 a n).2.1 = 0 ∧ (S4 b m).2.1 = 0 ∧ A02 (S4 a n).1 = A02 (S4 b m).1) ∨
 ((S4 a n).2.1 = 2 ∧ (S4 b m).2.1 = 2 ∧ (S4 a n).2.2 = (S4 b m).2.2)
def B7q (e : Tm) : Tm × Bool := if O3 e = true then (A0q B6h e, true) else (D7, false)
mutual
def lz : Tm → Tm
 | .mk k nm num ty fr lb ks => .mk k nm num ty fr (if k = 14 then 0 else lb) (lzL ks)
def lzL : List Tm → List Tm
 | [] => []
 | t :: ts => lz t :: lzL ts
end
def SL (r s : Z0) : Prop := r.2.1 = s.2.1 ∧ lz r.1 = lz s.1
abbrev LbV (t : Tm) : Prop := A4T (fun l => A0z l = true) t
mutual
def mRl : Tm → Int → Tm × Int
 | .mk k nm num ty fr lb ks, n => (.mk k nm num ty fr (if k = 14 then (A22 ks n).2 + 1 else lb) (A22 ks n).1, if k = 14 then (A22 ks n).2 + 1 else (A22 ks n).2)
def A22 : List Tm → Int → List Tm × Int
 | [], n => ([], n)
 | t :: ts, n => ((mRl t n).1 :: (A22 ts (mRl t n).2).1, (A22 ts (mRl t n).2).2)
end
def B7r (G : IM) : IM → Value → List A4 → Prop := K5 fun G' v => ∃ u cu t ct b, v = .tuple ⟨[.agg ⟨cu⟩, .agg ⟨ct⟩, .bool b]⟩ ∧ A6 G' u cu ∧ u.small ∧ C6 u ≤ 60 ∧ B5 G' t ct ∧ E4 t ∧ J8 t ≤ 960
theorem B6j (br : Nat) (pb : Option Addr) (nb cb : Nat) (bs : List UInt8) (hnb : nb ≤ 2000) (p : Nat) (G : IM) (hb : Sl G pb nb cb 1 (N9 bs)) (hp : p + 200 < 1099511627776) (t : Tm) (cells : List Value) (N : Nat) (hfit : t.fit N) (hr : A6 G t cells) :
  Fn Tryz.prog 84 [.pointer (some ⟨br, 0, none⟩), .agg ⟨cells⟩] [rd br pb nb cb p] G
   (Y7 br pb nb cb p 100 (fun G' v => ∃ t cells, v = .agg ⟨cells⟩ ∧ A6 G' t cells ∧ t.fit N)) := by
 have hl := hr.len
 have hone := hr.one
 refine B3 Tryz.func84 rfl Tryz.ntmps84 Tryz.results84 rfl ?_
 intro w0
 refine tS (tR ?_)
 refine sE (C0 rfl rfl) rfl (fun b3 => ?_)
 refine sE (A7 rfl) rfl (fun b4 => ?_)
 refine sD (nS (tS (tR (sQ (qM rfl) rfl ?_))))
 refine sL (A3 rfl rfl (A9 (by repeat first | exact mH | apply mT)) (by assumption)) rfl rfl ?_
 (have hcall := B2c br pb nb cb bs hnb p _ hb (by omega) t cells N hfit hr; refine H4 rfl hcall (Pk.perm (by repeat (first | exact Pk.here | apply Pk.there))) rfl rfl (fun v Gn outs hle1 hh => ?_); obtain ⟨p1, hp11, hp12, rfl, t1, c1, rfl, hr1, hf1, hc1⟩ := hh; obtain ⟨k, nm, num, ⟨tk, tks⟩, ⟨fk, fks⟩, lb, ks⟩ := t1; obtain ⟨q1, d1, q2, d2, q3, d3, es, rfl, hk, hnum, hlb, hty, hfr, hsl, hkl⟩ := hr1.open9; have hsm := hf1; simp only [Tm.small] at hsm; obtain ⟨hs1, hs2, hs3, _⟩ := hsm; replace hb := hb.mono hle1)
 refine sE (A7 rfl) rfl (fun b12 => ?_)
 refine F4 ?_
 refine sD (nS (tS (tS (tR (sQ (qM rfl) rfl ?_)))))
 (refine H4 rfl (W3 _ br pb nb cb (p1) bs 40 hb hnb (by omega)) (Pk.perm (by repeat (first | exact Pk.here | apply Pk.there))) rfl rfl (fun v Gp outs hle20 hh => ?_); obtain ⟨rfl, rfl, j20, rfl, hj20, hk20⟩ := hh; skip)
 replace hr1 := hr1.mono hle20
 replace hty := hty.mono hle20
 replace hfr := hfr.mono hle20
 replace hsl := hsl.mono hle20
 replace hkl := hkl.mono hle20
 replace hb := hb.mono hle20
 refine sD (nS ?_)
 refine B7 (tS (tR (sB (qE rfl rfl) rfl rfl (fun h26 => ?_) (fun h26 => ?_))))
 refine sQ (qA rfl) rfl (sD (nS (qT rfl (tR (sQ (qM rfl) rfl ?_)))))
 (refine L4 (C8 rfl rfl rfl (by omega) (by unfold maxLen; omega) rfl) rfl ?_; rintro _ ⟨b33, rfl⟩)
 (refine T8 (by repeat (first | exact Pk.here | apply Pk.there)) (fun Gf hlef hslf _ => ?_); refine H4 rfl (X9 Gf br pb nb cb (p1 + 1) bs _ _ _ _ (hb.mono hlef) hnb (by omega) hslf (by decide)) (Pk.perm (by repeat (first | exact Pk.here | apply Pk.there))) rfl rfl (fun v Gm outs hlen hh => ?_); obtain ⟨rfl, rfl, hv⟩ := hh; replace hb := hb.mono hlef; obtain ⟨kn, rfl, hkn⟩ : ∃ k, v = .int .i64 k ∧ E3 k := (by simp only [List.mem_cons, List.not_mem_nil, or_false] at hv; rcases hv with rfl | rfl | rfl | rfl <;> exact ⟨_, rfl, by unfold E3; omega⟩); have hrN := A6.of9 (nm := nm) hk hnum hkn (hty.mono hlef) (hfr.mono hlef) (hsl.mono hlef) (hkl.mono hlef))
 refine M6 ?_
 refine F8 (outs := [rd br pb nb cb (p1 + 1 + 1)]) (rC rfl (A1 rfl rfl)) (by repeat (first | exact A0.nil | refine A0.cons Pk.here ?_ | refine A0.cons (Pk.there Pk.here) ?_ | refine A0.cons (Pk.there (Pk.there Pk.here)) ?_ | apply A0.drop)) ?_
 (exact ⟨p1 + 1 + 1, by omega, by omega, rfl, _, _, rfl, hrN, A1F hf1 hs1 hs2 hs3, hc1⟩)
 refine sQ (qA rfl) rfl (sD (nS (cF rfl (tS (tR ?_)))))
 refine sB (qE rfl rfl) rfl rfl (fun h55 => ?_) (fun h55 => ?_)
 refine C4 ?_
 (have hcall := A7V br pb nb cb bs hnb (p1 + 1) _ hb (by omega); refine H4 rfl hcall (Pk.perm (by repeat (first | exact Pk.here | apply Pk.there))) rfl rfl (fun v Gn outs hle3 hh => ?_); obtain ⟨p3, hp31, hp32, rfl, t3, cells3, rfl, hr3, hs4⟩ := hh; replace hb := hb.mono hle3)
 (have hcall := A7W br pb nb cb bs hnb p3 _ hb (by omega) t3 cells3 hr3 hs4; refine H4 rfl hcall (Pk.perm (by repeat (first | exact Pk.here | apply Pk.there))) rfl rfl (fun v Gn outs hle4 hh => ?_); obtain ⟨p4, hp41, hp42, rfl, t4, cells4, rfl, hr4, hs5⟩ := hh; have hts4 := A2I t4 (by omega); obtain ⟨t4k, t4s⟩ := t4; obtain ⟨q4, c4, es4, rfl, _⟩ := hr4.open; have hle24 := hle3.trans hle4; have hrM := A6.of9 (nm := nm) hk hnum hlb (hty.mono hle24) hr4 (hsl.mono hle24) (hkl.mono hle24))
 refine M6 ?_
 refine F8 (outs := [rd br pb nb cb p4]) (rC rfl (A1 rfl rfl)) (by repeat (first | exact A0.nil | refine A0.cons Pk.here ?_ | refine A0.cons (Pk.there Pk.here) ?_ | refine A0.cons (Pk.there (Pk.there Pk.here)) ?_ | apply A0.drop)) ?_
 (exact ⟨p4, by omega, by omega, rfl, _, _, rfl, hrM, A1F hf1 hs1 hs2 hts4, hc1⟩)
 refine L5 ?_
 refine F8 (outs := [rd br pb nb cb (p1 + 1)]) (rC rfl (A1 rfl rfl)) (by repeat (first | exact A0.nil | refine A0.cons Pk.here ?_ | refine A0.cons (Pk.there Pk.here) ?_ | refine A0.cons (Pk.there (Pk.there Pk.here)) ?_ | apply A0.drop)) ?_
 (exact ⟨p1 + 1, by omega, by omega, rfl, _, _, rfl, hr1, hf1, hc1⟩)
def B7s (G : IM) : IM → Value → List A4 → Prop := K5 fun G' v => ∃ t cells l q c, v = .tuple ⟨[.agg ⟨cells⟩, .slice q l.length c]⟩ ∧ A6 G' t cells ∧ t.fit 100 ∧ Sl G' q l.length c 1 (A3j l) ∧ l.length ≤ 100
def B7t (ts : List Tm) (G : IM) : IM → Value → List A4 → Prop := K5 fun G' v => ∃ p c es, v = .slice p ts.length c ∧ C9 G' p ts.length c 9 es ∧ D2 G' ts es
def B7u (ts : List Ty) (G : IM) : IM → Value → List A4 → Prop := K5 fun G' v => ∃ p c es, v = .slice p ts.length c ∧ C9 G' p ts.length c 2 es ∧ E6 G' ts es
def srt (zs : List Int) : List Int := zs.mergeSort fun x y => decide (x ≤ y)
def B7v (t : Tm) : List Int := if O3 t = true then Lib.compact (srt ((A2v t).map Tm.lb)) else []
def B7w (t : Tm) : Tm × Bool := if O3 t = true ∧ (A2v t).length ≤ 99 then ((mRl t 0).1, true) else (D7, false)
mutual
def S6 : Tm → Prop
 | .mk k _ _ _ _ _ ks => (k = 14 → ks.length = 1) ∧ A98 ks
def A98 : List Tm → Prop
 | [] => True
 | t :: ts => S6 t ∧ A98 ts
end
def cq1 (t : Tm) : Prop := t.k = 14 → t.ks.length = 1
def TbR (r : Tm × Bool) : IM → Value → List A4 → Prop := K5 fun G' v => ∃ cells, v = .tuple ⟨[.agg ⟨cells⟩, .bool r.2]⟩ ∧ A6 G' r.1 cells
theorem TbR.mk {r : Tm × Bool} {x : Tm} {b : Bool} {G : IM} {cells : List Value} (h : r = (x, b)) (hr : A6 G x cells) : TbR r G (.tuple ⟨[.agg ⟨cells⟩, .bool b]⟩) [] := by
 subst h; exact ⟨rfl, cells, rfl, hr⟩
def B7x (e : Tm) : Tm × Bool := if O3 e = true then A51 (A0q B6i e) else (D7, false)
def B7y (e : Tm) (l : Int) : Tm × Bool := match B1O e with
 | some T => if A0z l = true then A51 (N1 (N1 e T N4 l) N4 T l) else (D7, false)
 | none => (D7, false)
def B7z (k a : Int) (s : MSt) : MSt ⊕ (Int × Int) :=
 if A9X k (s.st.drop (s.st.length - A2x k)) = true then mGo k a { s with at' := s.at' + 1, st := s.st.take (s.st.length - A2x k) } (s.st.drop (s.st.length - A2x k))
 else .inr (2, (A46 k).2.2)
section
variable {a : Int} {s : MSt} {v0 v1 : MV}
end
mutual
def MV.ok (n : Int) (N : Nat) : MV → Prop
 | .mk k num env parts => 0 ≤ k ∧ k ≤ 3 ∧ 0 ≤ num ∧ num ≤ 999 ∧ (k = 1 → num ≤ 1) ∧ (k = 2 → num ≤ n) ∧ (k = 3 → parts.length = 2) ∧ env.length ≤ N ∧ MV.okL n N env ∧ MV.okL n N parts
def MV.okL (n : Int) (N : Nat) : List MV → Prop
 | [] => True
 | v :: vs => v.ok n N ∧ MV.okL n N vs
end
structure MSt.ok (n : Int) (N : Nat) (s : MSt) : Prop where
 lo : 0 ≤ s.at'
 hi : s.at' ≤ n
 st : s.st.length ≤ N
 env : s.env.length ≤ N
 fr : s.fr.length ≤ N
 sto : ∀ v ∈ s.st, v.ok n N
 envo : ∀ v ∈ s.env, v.ok n N
 fro : ∀ f ∈ s.fr, 0 ≤ f.1 ∧ f.1 ≤ n ∧ f.2.length ≤ N ∧ ∀ v ∈ f.2, v.ok n N
section
variable {ops : List (Int × Int)} {t : Nat} {s s' : MSt}
end
section own
variable {P : Program} {Γ : K6} {env : L6} {hp : List A4} {G : IM} {ty : TypeId} {K : Po} {ops : Array Oper} {rest : List Oper}
variable {pos : String} {af : Array Edge} {gd : Option (Nat × Bool)}
end own
abbrev kI (k : Int) : Int := k
section
variable {P : Program} {Γ : K6} {env : L6} {hp : List A4} {G : IM} {ty : TypeId}
end
section
variable {P : Program} {Γ : K6} {env : L6} {hp : List A4} {G : IM} {ty : TypeId}
end
def nmB (nm : ByteArray) : UInt8 := nm.data.getD 0 0
mutual
def mFr : ByteArray → Tm → List Bool → List Bool
 | bnd, .mk k nm _ _ _ _ ks, f => A99 (if k = 5 then bnd ++ nm else bnd) ks (if k = 1 ∧ nmB nm ∉ bnd.data.toList then f.set ((nmB nm).toNat - 97) true else f)
def A99 : ByteArray → List Tm → List Bool → List Bool
 | _, [], f => f
 | bnd, t :: ts, f => A99 bnd ts (mFr bnd t f)
end
def Z2 : Tm → Tm
 | .mk k nm num ty fr lb ks => if k = 13 then ks.headD D7 else if k = 1 ∨ k = 6 ∨ k = 9 ∨ k = 11 ∨ k = 12 then .mk k nm num ty fr lb ks
  else A2y (.mk k nm num (if k = 5 then N4 else ty) fr lb ks)
def A23 : Tm → Prop
 | .mk k _ _ _ _ _ ks => k = 13 → ks ≠ []
theorem B0a : ∀ ks, (A0N ks).length = ks.length
 | [] => rfl
 | t :: ts => by rw [A0N, List.length_cons, List.length_cons, B0a ts]
mutual
theorem A6z (D N : Int) : ∀ (t : Tm) (d : Int), M3 D N t d = true → (N = 14 → A0q Z2 t = A0m t ∧ mOk A23 Z2 t)
 | .mk k nm num ty fr lb ks, d, h, hN => by
  obtain ⟨h1, h2, h3, h4⟩ := A0r h
  obtain ⟨e1, e2⟩ := B0b D N ks _ h4 hN
  have hn := V3.1 h3
  rw [A0q, A0m, mOk, e1]
  refine ⟨?_, e2, ?_⟩
  ·rw [Z2]
   by_cases hk : k = 13
   ·rw [if_pos hk, if_pos hk]
   ·rw [if_neg hk, if_neg hk]
    obtain ⟨hf, hl⟩ := hn.2.2.2.2.2.2.2.2 (by omega)
    rw [A1f hf, hl]
    by_cases hk5 : k = 5
    ·rw [if_pos hk5, if_pos hk5, if_neg (by omega), if_neg (by omega)]
    ·rw [if_neg hk5, if_neg hk5, A1f (hn.2.2.2.2.2.2.1 (by omega))]
  ·rw [A23]
   intro hk he
   have ha := hn.1
   have : ks.length = 0 := by
    have := congrArg List.length he
    rw [B0a] at this
    simpa using this
   subst hk; rw [this] at ha; revert ha; decide
theorem B0b (D N : Int) : ∀ (ts : List Tm) (d : Int), M4 D N ts d = true → (N = 14 → A0a Z2 ts = A0N ts ∧ A0I A23 Z2 ts)
 | [], d, h, _ => by rw [A0a, A0N, A0I]; exact ⟨rfl, trivial⟩
 | t :: ts, d, h, hN => by
  rw [M4, Bool.and_eq_true] at h
  obtain ⟨a1, a2⟩ := A6z D N t d h.1 hN
  obtain ⟨b1, b2⟩ := B0b D N ts d h.2 hN
  rw [A0a, A0N, A0I, a1, b1]
  exact ⟨rfl, a2, b2⟩
end
theorem B0c (e : Tm) (G : IM) (ce : List Value) (he : A6 G e ce) : Fn Tryz.prog 45 [.agg ⟨ce⟩] [] G (O7 (A2y e)) := by
 have hel := he.len
 have heo := he.one
 obtain ⟨v1, v2, v3, v4, v5, v6, v7, v8, v9, rfl⟩ := nine hel
 refine B3 Tryz.func45 rfl Tryz.ntmps45 Tryz.results45 rfl ?_
 intro w0
 refine tS (tR ?_)
 refine sE (C0 rfl rfl) rfl (fun b3 => ?_)
 refine sE (A7 rfl) rfl (fun b4 => ?_)
 refine sD (nS (tS ?_))
 refine D5 D6 rfl ?_
 refine O9 (i := 1) (l' := [ff,tt,ff,ff,ff]) rfl D1 (A3 rfl rfl (A9 (by repeat first | exact mH | apply mT)) rfl) rfl (by kernel_rfl) rfl rfl ?_
 refine T2 (j := 0) (j' := 2) (by kernel_rfl) ?_ ?_
 refine O5 rfl rfl (A0E 1 _) rfl rfl rfl ?_
 refine A2 2 ?_
 (refine E1 rfl (C8 rfl rfl rfl (by omega) (by unfold maxLen; omega) rfl) rfl rfl ?_; rintro _ ⟨b13, rfl⟩)
 refine aP 3 rfl (T3 rfl rfl) rfl ?_
 refine A2 4 ?_
 refine H7 rfl ?_
 refine C2 (nS ?_)
 (refine H5 (cs := [v1, v2, v3, v4, v5, v6, v7, v8, v9]) (by repeat (first | exact Pk.here | apply Pk.there)) (fun G2 hle2 hsl2 hno2 => ?_))
 refine tT ?_
 refine E0 (rC rfl (A1 rfl rfl)) ?_
 (exact O7.mk (A6.put (us := [e]) (es := [[v1, v2, v3, v4, v5, v6, v7, v8, v9]]) ⟨by decide, by decide⟩ ⟨by decide, by decide⟩ ⟨by decide, by decide⟩ (A6q _) (A0J _) rfl (C9.of hsl2 rfl (by intro x hx; obtain rfl := List.mem_singleton.1 hx; rfl) (by intro x hx; obtain rfl := List.mem_singleton.1 hx; exact heo)) (by simp only [D2]; exact ⟨_, _, rfl, he.mono hle2, rfl⟩)))
 (refine E1 rfl (C8 rfl rfl rfl (by omega) (by unfold maxLen; omega) rfl) rfl rfl ?_; rintro _ ⟨b23, rfl⟩)
 refine A2 0 ?_
 refine O5 rfl rfl (A0E 1 _) rfl rfl rfl ?_
 refine aP 3 rfl (T3 rfl rfl) rfl ?_
 refine A2 4 ?_
 refine H7 rfl ?_
 refine C2 (nS ?_)
 (refine H5 (cs := [v1, v2, v3, v4, v5, v6, v7, v8, v9]) (by repeat (first | exact Pk.here | apply Pk.there)) (fun G2 hle2 hsl2 hno2 => ?_))
 refine tT ?_
 refine E0 (rC rfl (A1 rfl rfl)) ?_
 (exact O7.mk (A6.put (us := [e]) (es := [[v1, v2, v3, v4, v5, v6, v7, v8, v9]]) ⟨by decide, by decide⟩ ⟨by decide, by decide⟩ ⟨by decide, by decide⟩ (A6q _) (A0J _) rfl (C9.of hsl2 rfl (by intro x hx; obtain rfl := List.mem_singleton.1 hx; rfl) (by intro x hx; obtain rfl := List.mem_singleton.1 hx; exact heo)) (by simp only [D2]; exact ⟨_, _, rfl, he.mono hle2, rfl⟩)))
theorem B6k {nm : ByteArray} {num : Int} {ty fr : Ty} {lb : Int} {x : Tm} {xs : List Tm} : Z2 (.mk 13 nm num ty fr lb (x :: xs)) = x := by rw [Z2, if_pos rfl]; rfl
theorem B6l {k : Int} {nm : ByteArray} {num : Int} {ty fr : Ty} {lb : Int} {ks : List Tm} (h : k = 1 ∨ k = 6 ∨ k = 9 ∨ k = 11 ∨ k = 12) : Z2 (.mk k nm num ty fr lb ks) = .mk k nm num ty fr lb ks := by rw [Z2, if_neg (by omega), if_pos h]
theorem B6m {k : Int} {nm : ByteArray} {num : Int} {ty fr : Ty} {lb : Int} {ks : List Tm} (h : k = 5) : Z2 (.mk k nm num ty fr lb ks) = A2y (.mk k nm num N4 fr lb ks) := by rw [Z2, if_neg (by omega), if_neg (by omega), if_pos h]
theorem B6n {k : Int} {nm : ByteArray} {num : Int} {ty fr : Ty} {lb : Int} {ks : List Tm} (h : ¬(k = 13 ∨ k = 1 ∨ k = 6 ∨ k = 9 ∨ k = 11 ∨ k = 12 ∨ k = 5)) : Z2 (.mk k nm num ty fr lb ks) = A2y (.mk k nm num ty fr lb ks) := by rw [Z2, if_neg (by omega), if_neg (by omega), if_neg (by omega)]
theorem B6o (t : Tm) (G : IM) (cells : List Value) (hq : A23 t) (hr : A6 G t cells) : Fn Tryz.prog 43 [.agg ⟨cells⟩] [] G (O7 (Z2 t)) := by
 have hr0 := hr
 obtain ⟨k, nm, num, ⟨tk, tks⟩, ⟨fk, fks⟩, lb, ks⟩ := t
 by_cases hk13 : k = 13
 ·subst hk13
  obtain ⟨a, us, rfl⟩ : ∃ x xs, ks = x :: xs := List.exists_cons_of_ne_nil (hq rfl)
  obtain ⟨pt, ct, pf, cf, p, c, es, rfl, hk, hnum, hlb, hty, hfr, hsl, hkl⟩ := hr.open9
  obtain ⟨bx, ox, e, rfl, hl, hat, hre, hgb⟩ := hsl.kidTm hkl (i := 0) (by simp) (by simp)
  have heo := hre.one
  simp only [List.getElem_cons_zero] at hre
  rw [B6k]
  refine B3 Tryz.func43 rfl Tryz.ntmps43 Tryz.results43 rfl ?_
  intro w0
  refine tS (tR ?_)
  refine sE (C0 rfl rfl) rfl (fun b3 => ?_)
  refine sE (A7 rfl) rfl (fun b4 => ?_)
  refine D9 ?_
  refine B7 ?_
  refine tS (tR ?_)
  refine sP (W2 rfl rfl (by omega)) rfl rfl ?_
  refine D8 ?_
  refine sP (B2 (j := 0) rfl rfl rfl (by simp)) rfl rfl ?_
  refine sL (A3 rfl rfl (hat _) hl) rfl rfl ?_
  refine sS rfl rfl rfl hl heo rfl ?_ (hu := by exact C3 hl.symm)
  refine sD (nS (tT (rB (rS ?_))))
  refine E0 (rC rfl (A3 rfl rfl (A9 (by repeat first | exact mH | apply mT)) hl)) ?_
  (exact O7.mk hre)
 ·obtain ⟨pt, ct, pf, cf, p, c, es, rfl, hk, hnum, hlb, hty, hfr, hsl, hkl⟩ := hr.open9
  have hy := @B6l k nm num (.mk tk tks) (.mk fk fks) lb ks
  have h5 := @B6m k nm num (.mk tk tks) (.mk fk fks) lb ks
  have ho := @B6n k nm num (.mk tk tks) (.mk fk fks) lb ks
  generalize Z2 (.mk k nm num (.mk tk tks) (.mk fk fks) lb ks) = R at hy h5 ho ⊢
  have hr5 : A6 G (.mk k nm num N4 (.mk fk fks) lb ks) [.int .i64 k, .string nm, .int .i64 num, .int .i64 1, .slice none 0 0, .int .i64 fk, .slice pf fks.length cf, .int .i64 lb, .slice p ks.length c] := A6.put hk hnum hlb (A6q G) hfr rfl hsl hkl
  have hA5 := B0c _ G _ hr5
  have hA := B0c _ G _ hr0
  refine B3 Tryz.func43 rfl Tryz.ntmps43 Tryz.results43 rfl ?_
  intro w0
  refine tS (tR ?_)
  refine sE (C0 rfl rfl) rfl (fun b3 => ?_)
  refine sE (A7 rfl) rfl (fun b4 => ?_)
  refine D9 ?_
  refine B7 ?_
  refine tS (tR ?_)
  refine sP (H0 rfl rfl (by omega)) rfl rfl ?_
  refine sQ (qA rfl) rfl (sD (nS (cF rfl (tS (tS (tR ?_))))))
  refine sB (qE rfl rfl) rfl rfl (fun h25 => ?_) (fun h25 => ?_)
  refine I8 ?_
  refine E0 (rC rfl (A1 rfl rfl)) ?_
  (rw [hy (by omega)]; exact O7.mk hr0)
  refine sQ (qA rfl) rfl (sD (nS (cF rfl (tS (tR ?_)))))
  refine sB (qE rfl rfl) rfl rfl (fun h50 => ?_) (fun h50 => ?_)
  refine I8 ?_
  refine E0 (rC rfl (A1 rfl rfl)) ?_
  (rw [hy (by omega)]; exact O7.mk hr0)
  refine sQ (qA rfl) rfl (sD (nS (cF rfl (tS (tR ?_)))))
  refine sB (qE rfl rfl) rfl rfl (fun h75 => ?_) (fun h75 => ?_)
  refine I8 ?_
  refine E0 (rC rfl (A1 rfl rfl)) ?_
  (rw [hy (by omega)]; exact O7.mk hr0)
  refine sQ (qA rfl) rfl (sD (nS (cF rfl (tS (tR ?_)))))
  refine sB (qE rfl rfl) rfl rfl (fun h100 => ?_) (fun h100 => ?_)
  refine I8 ?_
  refine E0 (rC rfl (A1 rfl rfl)) ?_
  (rw [hy (by omega)]; exact O7.mk hr0)
  refine sQ (qA rfl) rfl (sD (nS (cF rfl (tR ?_))))
  refine sB (qE rfl rfl) rfl rfl (fun h124 => ?_) (fun h124 => ?_)
  refine J3 ?_
  refine E0 (rC rfl (A1 rfl rfl)) ?_
  (rw [hy (by omega)]; exact O7.mk hr0)
  refine sQ (qA rfl) rfl (sD (nS (cF rfl (tS (tR ?_)))))
  refine sB (qE rfl rfl) rfl rfl (fun h146 => ?_) (fun h146 => ?_)
  refine sQ (qA rfl) rfl (sD (nS (qT rfl (tR ?_))))
  refine I5 rfl (A0E 1 _) rfl rfl ?_
  refine D8 ?_
  (have hq5 : k = 5 := (by omega); refine E5 rfl hA5 rfl rfl (fun v G2 hle2 hh => ?_); obtain ⟨cw, rfl, hrw⟩ := hh; have hlw := hrw.len; have how := hrw.one)
  refine sS rfl rfl rfl hlw how rfl ?_ (hu := by exact C3 hlw.symm)
  refine sD (nS (tT ?_))
  refine E0 (rC rfl (A3 rfl rfl (A9 (by repeat first | exact mH | apply mT)) hlw)) ?_
  (rw [h5 (by omega)]; exact O7.mk hrw)
  refine I7 ?_
  (refine E5 rfl hA rfl rfl (fun v G2 hle2 hh => ?_); obtain ⟨cw, rfl, hrw⟩ := hh; have hlw := hrw.len; have how := hrw.one)
  refine sS rfl rfl rfl hlw how rfl ?_ (hu := by exact C3 hlw.symm)
  refine sD (nS (tT ?_))
  refine E0 (rC rfl (A3 rfl rfl (A9 (by repeat first | exact mH | apply mT)) hlw)) ?_
  (rw [ho (by omega)]; exact O7.mk hrw)
theorem B6p : A6y Z2 A23 43 [] [] := fun t G cells hq hr => B6o t G cells hq hr
theorem B6q (t : Tm) (G : IM) (cells : List Value) (hr : A6 G t cells) : Fn Tryz.prog 41 [.agg ⟨cells⟩] [] G (TbR (if O4 t = true then (t, true) else (D7, false))) := by
 have hl := hr.len
 have hone := hr.one
 have hw := A5z t G cells hr
 have hcv := A0b t
 refine B3 Tryz.func41 rfl Tryz.ntmps41 Tryz.results41 rfl ?_
 intro w0
 refine tS (tR ?_)
 refine sE (C0 rfl rfl) rfl (fun b3 => ?_)
 refine sE (A7 rfl) rfl (fun b4 => ?_)
 refine sQ (qA rfl) rfl (sD (nS (tS (tS (tR ?_)))))
 refine sL (A3 rfl rfl (A9 (by repeat first | exact mH | apply mT)) hl) rfl rfl ?_
 refine E2 rfl (hw) rfl rfl (fun h12 => ?_) (fun h12 => ?_)
 refine sQ (W0 rfl) rfl (sD (nS (cF rfl (tK (nS (tS (tR ?_)))))))
 refine sL (A3 rfl rfl (A9 (by repeat first | exact mH | apply mT)) hl) rfl rfl ?_
 (have hq := hcv.1 (by assumption); refine E5 rfl (A2K t G cells (A5S t 1 hq.1) hr) rfl rfl (fun v G1 hle1 hh => ?_); obtain ⟨S6, F1, rfl, hs1, hn1⟩ := hh; have hul := hs1.R.len; have huo := hs1.R.one)
 refine sS rfl rfl rfl hul huo rfl ?_ (hu := by exact C3 hul.symm)
 refine sQ (qA rfl) rfl (sD (nS (tT ?_)))
 refine I4 (rC rfl (A3 rfl rfl (A9 (by repeat first | exact mH | apply mT)) hul)) (rT rfl) ?_
 (rw [if_pos (by assumption)]; exact TbR.mk rfl (hs1.R.mono (C1.le _ _)))
 refine J3 ?_
 refine I4 (rC rfl (A1 rfl rfl)) (rT rfl) ?_
 (rw [if_neg (by simp [*])]; exact TbR.mk rfl (L0 _))
theorem B6r {e : Tm} (h : O4 e = false) : A1M e = (D7, false) := by unfold A1M; rw [if_neg (by rw [h]; exact fun hh => Bool.noConfusion hh.1)]
theorem B6s {e : Tm} (h : O4 e = true) : A1M e = if O4 (A0m e) = true then (A0m e, true) else (D7, false) := by
 unfold A1M
 by_cases h2 : O4 (A0m e) = true
 ·rw [if_pos ⟨h, h2⟩, if_pos h2]
 ·rw [if_neg (fun hh => h2 hh.2), if_neg h2]
theorem B6t (t : Tm) (G : IM) (cells : List Value) (hr : A6 G t cells) : Fn Tryz.prog 11 [.agg ⟨cells⟩] [] G (TbR (A1M t)) := by
 have hl := hr.len
 have hone := hr.one
 have hV := A5z t G cells hr
 have hM := fun (h : O4 t = true) => B6g Z2 A23 43 [] [] B6p (.slc none 0 3 1 0 []) t G cells (A6z 12 14 t 1 ((A0b t).1 h).1 rfl).2 (A5S t 1 ((A0b t).1 h).1) hr
 have hE := fun (h : O4 t = true) => (A6z 12 14 t 1 ((A0b t).1 h).1 rfl).1
 have hy := @B6s t
 have hn := @B6r t
 generalize A1M t = R at hy hn ⊢
 refine B3 Tryz.func11 rfl Tryz.ntmps11 Tryz.results11 rfl ?_
 intro w0
 refine tS (tR ?_)
 refine sE (C0 rfl rfl) rfl (fun b3 => ?_)
 refine sE (A7 rfl) rfl (fun b4 => ?_)
 refine sQ (qA rfl) rfl (sD (nS (tS (tS (tR ?_)))))
 refine sL (A3 rfl rfl (A9 (by repeat first | exact mH | apply mT)) hl) rfl rfl ?_
 refine E2 rfl (hV) rfl rfl (fun h12 => ?_) (fun h12 => ?_)
 refine sQ (W0 rfl) rfl (sD (nS (cF rfl (tK (nS (tS (tR ?_)))))))
 refine sL (A3 rfl rfl (A9 (by repeat first | exact mH | apply mT)) hl) rfl rfl ?_
 (refine B0T 3 1 ?_; refine H4 rfl (hM (by assumption)) (Pk.perm (by repeat (first | exact Pk.here | apply Pk.there))) rfl rfl (fun v3 G3 outs hle3 hh => ?_); obtain ⟨rfl, cu, rfl, hru⟩ := hh; rw [hE (by assumption)] at hru; have hul := hru.len; have huo := hru.one)
 (refine E5 rfl (B6q _ _ _ hru) rfl rfl (fun v G4 hle4 hh => ?_); rw [← hy (by assumption)] at hh; obtain ⟨cw, rfl, hrw⟩ := hh; have hwl := hrw.len; have hwo := hrw.one)
 refine sQ (pX rfl rfl) rfl (sQ (pX rfl rfl) rfl ?_)
 refine sS rfl rfl rfl hwl hwo rfl ?_ (hu := by exact C3 hwl.symm)
 refine sQ (qA rfl) rfl (sD (nS (tT ?_)))
 refine I4 (rC rfl (A3 rfl rfl (A9 (by repeat first | exact mH | apply mT)) hwl)) (rT rfl) ?_
 (exact ⟨rfl, _, rfl, hrw⟩)
 refine J3 ?_
 refine I4 (rC rfl (A1 rfl rfl)) (rT rfl) ?_
 (exact TbR.mk (hn (by assumption)) (L0 _))
def B7A (G : IM) : IM → Value → List A4 → Prop := K5 fun G' v => ∃ a ca b cb f, v = .tuple ⟨[.agg ⟨ca⟩, .agg ⟨cb⟩, .int .i64 f]⟩ ∧ A6 G' a ca ∧ a.fit 1100 ∧ A6 G' b cb ∧ b.fit 1100 ∧ E3 f
def B7B (G : IM) : IM → Value → List A4 → Prop := K5 fun G' v => ∃ a ca b cb d cd, v = .tuple ⟨[.agg ⟨ca⟩, .agg ⟨cb⟩, .agg ⟨cd⟩]⟩ ∧ A6 G' a ca ∧ a.fit 1100 ∧ A6 G' b cb ∧ b.fit 1100 ∧ A6 G' d cd ∧ d.fit 1100
def B0d (N : Nat) (G : IM) : IM → Value → List A4 → Prop := K5 fun G' v => ∃ a ca f, v = .tuple ⟨[.agg ⟨ca⟩, .int .i64 f]⟩ ∧ A6 G' a ca ∧ a.fit N ∧ E3 f
theorem B0e (br : Nat) (pb : Option Addr) (nb cb : Nat) (bs : List UInt8) (hnb : nb ≤ 2000) (p : Nat) (G : IM) (hb : Sl G pb nb cb 1 (N9 bs)) (hp : p + 1100 < 1099511627776) :
  Fn Tryz.prog 154 [.pointer (some ⟨br, 0, none⟩)] [rd br pb nb cb p] G
   (Y7 br pb nb cb p 1100 (fun G' v => ∃ t cells, v = .agg ⟨cells⟩ ∧ A6 G' t cells ∧ Z7 t ≤ 1043 ∧ O4 t = true)) := by
 refine B3 Tryz.func154 rfl Tryz.ntmps154 Tryz.results154 rfl ?_
 intro w0
 refine tS (tR ?_)
 refine sE (A7 rfl) rfl (fun b3 => ?_)
 refine sD (nS (tS (tR (sQ (qM rfl) rfl (sQ (qM rfl) rfl ?_)))))
 (refine L4 (C8 rfl rfl rfl (by omega) (by unfold maxLen; omega) rfl) rfl ?_; rintro _ ⟨b10, rfl⟩)
 (refine T8 (by repeat (first | exact Pk.here | apply Pk.there)) (fun Gf hlef hslf _ => ?_); refine H4 rfl (X9 Gf br pb nb cb p bs _ _ _ _ (hb.mono hlef) hnb (by omega) hslf (by decide)) (Pk.perm (by repeat (first | exact Pk.here | apply Pk.there))) rfl rfl (fun v Gn outs hlen hh => ?_); obtain ⟨rfl, rfl, hv⟩ := hh; replace hb := hb.mono hlef; obtain ⟨dd, rfl, hdd⟩ : ∃ d : Nat, v = .int .i64 ((d + 1 : Nat) : Int) ∧ d ≤ 4 := (by simp only [List.mem_cons, List.not_mem_nil, or_false] at hv; rcases hv with rfl | rfl | rfl | rfl | rfl <;> first | exact ⟨3, rfl, by decide⟩ | exact ⟨2, rfl, by decide⟩ | exact ⟨4, rfl, by decide⟩ | exact ⟨1, rfl, by decide⟩); have htB := A73 hdd)
 (refine H4 rfl (A72 br pb nb cb bs hnb dd (p + 1) Gn ⟨⟨[]⟩⟩ (by omega) (by have hz : (⟨⟨[]⟩⟩ : ByteArray).size ≤ 2 := (by decide); omega) hb (by omega)) (Pk.perm (by repeat (first | exact Pk.here | apply Pk.there))) rfl rfl (fun v G3 outs hle3 hh => ?_); obtain ⟨p3, hp31, hp32, rfl, t3, cells3, rfl, hr3, hs3⟩ := hh; have hl3 := hr3.len; have ho3 := hr3.one; have hc3 := A3o t3; have hv3 := A5I t3 G3 cells3 (by omega) hr3)
 refine sE (A7 rfl) rfl (fun b13 => ?_)
 refine sS rfl rfl rfl hl3 ho3 rfl ?_ (hu := by exact C3 hl3.symm)
 refine sD (nS (tS (tS (tR ?_))))
 refine sL (A3 rfl rfl (A9 (by repeat first | exact mH | apply mT)) hl3) rfl rfl ?_
 refine E2 rfl (hv3) rfl rfl (fun h21 => ?_) (fun h21 => ?_)
 refine sD (nS (qT rfl (tS (tR ?_))))
 refine sL (A3 rfl rfl (A9 (by repeat first | exact mH | apply mT)) hl3) rfl rfl ?_
 refine sS rfl rfl rfl hl3 ho3 rfl ?_ (hu := by exact C3 hl3.symm)
 refine sD (nS (tT (rS ?_)))
 refine F8 (outs := [rd br pb nb cb p3]) (rC rfl (A3 rfl rfl (A9 (by repeat first | exact mH | apply mT)) hl3)) (by repeat (first | exact A0.nil | refine A0.cons Pk.here ?_ | refine A0.cons (Pk.there Pk.here) ?_ | refine A0.cons (Pk.there (Pk.there Pk.here)) ?_ | apply A0.drop)) ?_
 (exact ⟨p3, by omega, by omega, rfl, t3, cells3, rfl, hr3, by omega, by assumption⟩)
 refine sD (nS (cF rfl (tK (nS (tS (tR ?_))))))
 refine I5 rfl ((A1U _ _)) rfl rfl ?_
 refine F4 ?_
 refine sD (nS (tT ?_))
 refine F8 (outs := [rd br pb nb cb p3]) (rC rfl (A1 rfl rfl)) (by repeat (first | exact A0.nil | refine A0.cons Pk.here ?_ | refine A0.cons (Pk.there Pk.here) ?_ | refine A0.cons (Pk.there (Pk.there Pk.here)) ?_ | apply A0.drop)) ?_
 (exact ⟨p3, by omega, by omega, rfl, _, _, rfl, A1g ⟨by omega, by omega⟩ ⟨by omega, by omega⟩, by rw [A1D]; decide, by decide +kernel⟩)
theorem B6u (br : Nat) (pb : Option Addr) (nb cb : Nat) (bs : List UInt8) (hnb : nb ≤ 2000) (p : Nat) (G : IM) (hb : Sl G pb nb cb 1 (N9 bs)) (hp : p + 1200 < 1099511627776) :
  Fn Tryz.prog 121 [.pointer (some ⟨br, 0, none⟩)] [rd br pb nb cb p] G
   (Y7 br pb nb cb p 1200 (fun G' v => ∃ t cells, v = .agg ⟨cells⟩ ∧ A6 G' t cells ∧ Z7 t ≤ 1043 ∧ O4 t = true)) := by
 refine B3 Tryz.func121 rfl Tryz.ntmps121 Tryz.results121 rfl ?_
 intro w0
 refine tS (tR ?_)
 refine sE (A7 rfl) rfl (fun b3 => ?_)
 refine sD (nS (tS (tS (tR (sQ (qM rfl) rfl ?_)))))
 (refine H4 rfl (W3 _ br pb nb cb p bs _ hb hnb (by omega)) (Pk.perm (by repeat (first | exact Pk.here | apply Pk.there))) rfl rfl (fun v10 G10 outs10 hle10 hh => ?_); obtain ⟨rfl, rfl, j10, rfl, hj10, hk10⟩ := hh)
 replace hb := hb.mono hle10
 refine sB (Y6 rfl rfl) rfl rfl (fun h11 => ?_) (fun h11 => ?_)
 refine sD (nS (qT rfl (tS (tR (sQ (qM rfl) rfl ?_)))))
 (refine H4 rfl (B0e br pb nb cb bs hnb (p + 1) _ hb (by omega)) (Pk.perm (by repeat (first | exact Pk.here | apply Pk.there))) rfl rfl (fun v G3 outs hle3 hh => ?_); obtain ⟨p3, hp31, hp32, rfl, t3, cells3, rfl, hr3, hs3, hw3⟩ := hh; have hl3 := hr3.len; have ho3 := hr3.one)
 refine sS rfl rfl rfl hl3 ho3 rfl ?_ (hu := by exact C3 hl3.symm)
 refine sD (nS (tT (rS ?_)))
 refine F8 (outs := [rd br pb nb cb p3]) (rC rfl (A3 rfl rfl (A9 (by repeat first | exact mH | apply mT)) hl3)) (by repeat (first | exact A0.nil | refine A0.cons Pk.here ?_ | refine A0.cons (Pk.there Pk.here) ?_ | refine A0.cons (Pk.there (Pk.there Pk.here)) ?_ | apply A0.drop)) ?_
 (exact ⟨p3, by omega, by omega, rfl, t3, cells3, rfl, hr3, by omega, by assumption⟩)
 refine D9 ?_
 (refine L4 (C8 rfl rfl rfl (by omega) (by unfold maxLen; omega) rfl) rfl ?_; rintro _ ⟨b35, rfl⟩)
 (refine T8 (by repeat (first | exact Pk.here | apply Pk.there)) (fun Gf hlef hslf _ => ?_); refine H4 rfl (X9 Gf br pb nb cb (p + 1) bs _ _ _ _ (hb.mono hlef) hnb (by omega) hslf (by decide)) (Pk.perm (by repeat (first | exact Pk.here | apply Pk.there))) rfl rfl (fun v Gn outs hlen hh => ?_); obtain ⟨rfl, rfl, hv⟩ := hh; replace hb := hb.mono hlef; obtain ⟨dd, rfl, hdd⟩ : ∃ d : Nat, v = .int .i64 ((d + 1 : Nat) : Int) ∧ d ≤ 4 := (by simp only [List.mem_cons, List.not_mem_nil, or_false] at hv; rcases hv with rfl | rfl | rfl <;> first | exact ⟨2, rfl, by decide⟩ | exact ⟨1, rfl, by decide⟩ | exact ⟨3, rfl, by decide⟩); have htB := A73 hdd)
 (refine H4 rfl (A72 br pb nb cb bs hnb dd (p + 1 + 1) Gn ⟨⟨[120, 122]⟩⟩ (by omega) (by have hz : (⟨⟨[120, 122]⟩⟩ : ByteArray).size ≤ 2 := (by decide); omega) hb (by omega)) (Pk.perm (by repeat (first | exact Pk.here | apply Pk.there))) rfl rfl (fun v G3 outs hle3 hh => ?_); obtain ⟨p3, hp31, hp32, rfl, t3, cells3, rfl, hr3, hs3⟩ := hh; have hl3 := hr3.len; have ho3 := hr3.one; have hc3 := A3o t3; have hv3 := A5I t3 G3 cells3 (by omega) hr3)
 refine sE (A7 rfl) rfl (fun b38 => ?_)
 refine sS rfl rfl rfl hl3 ho3 rfl ?_ (hu := by exact C3 hl3.symm)
 refine sD (nS (tS (tS (tR ?_))))
 refine sL (A3 rfl rfl (A9 (by repeat first | exact mH | apply mT)) hl3) rfl rfl ?_
 refine E2 rfl (hv3) rfl rfl (fun h46 => ?_) (fun h46 => ?_)
 refine sD (nS (qT rfl (tS (tR ?_))))
 refine sL (A3 rfl rfl (A9 (by repeat first | exact mH | apply mT)) hl3) rfl rfl ?_
 refine sS rfl rfl rfl hl3 ho3 rfl ?_ (hu := by exact C3 hl3.symm)
 refine sD (nS (tT (rS ?_)))
 refine F8 (outs := [rd br pb nb cb p3]) (rC rfl (A3 rfl rfl (A9 (by repeat first | exact mH | apply mT)) hl3)) (by repeat (first | exact A0.nil | refine A0.cons Pk.here ?_ | refine A0.cons (Pk.there Pk.here) ?_ | refine A0.cons (Pk.there (Pk.there Pk.here)) ?_ | apply A0.drop)) ?_
 (exact ⟨p3, by omega, by omega, rfl, t3, cells3, rfl, hr3, by omega, by assumption⟩)
 refine sD (nS (cF rfl (tK (nS (tS (tR ?_))))))
 refine I5 rfl ((A1U _ _)) rfl rfl ?_
 refine F4 ?_
 refine sD (nS (tT ?_))
 refine F8 (outs := [rd br pb nb cb p3]) (rC rfl (A1 rfl rfl)) (by repeat (first | exact A0.nil | refine A0.cons Pk.here ?_ | refine A0.cons (Pk.there Pk.here) ?_ | refine A0.cons (Pk.there (Pk.there Pk.here)) ?_ | apply A0.drop)) ?_
 (exact ⟨p3, by omega, by omega, rfl, _, _, rfl, A1g ⟨by omega, by omega⟩ ⟨by omega, by omega⟩, by rw [A1D]; decide, by decide +kernel⟩)
theorem B6v (br : Nat) (pb : Option Addr) (nb cb : Nat) (bs : List UInt8) (hnb : nb ≤ 2000) (p : Nat) (G : IM) (hb : Sl G pb nb cb 1 (N9 bs)) (hp : p + 9000000 < 1099511627776) :
  Fn Tryz.prog 110 [.pointer (some ⟨br, 0, none⟩)] [rd br pb nb cb p] G
   (Y7 br pb nb cb p 9000000 (fun G' v => ∃ e cells, v = .agg ⟨cells⟩ ∧ A6 G' e cells ∧ e.fit 1100 ∧ O4 e = true)) := by
 have hm8 : mB 8 = 1968200 := by decide
 refine B3 Tryz.func110 rfl Tryz.ntmps110 Tryz.results110 rfl ?_
 intro w0
 refine tS (tR ?_)
 refine sE (A7 rfl) rfl (fun b3 => ?_)
 refine sD (nS (tS (tS (tR (sQ (qA rfl) rfl (sD (nS ?_)))))))
 refine B7 ?_
 (refine L3 (fun (x : Nat × Nat × IM) => ⟨[(3, .int .i64 x.1), (0, .pointer (some ⟨br, 0, none⟩)), (2, .pointer (some ⟨b3, 0, none⟩))], [rd br pb nb cb x.2.1, .blk b3 [.int .i64 0, .string ⟨⟨[]⟩⟩, .int .i64 0, .int .i64 0, .slice none 0 0, .int .i64 0, .slice none 0 0, .int .i64 0, .slice none 0 0]], x.2.2⟩) (fun x => x.1 ≤ 4 ∧ B6 G x.2.2 ∧ p ≤ x.2.1 ∧ x.2.1 ≤ p + x.1 * 2000000) (fun x => 4 - x.1) (0, p, G) ?_ ?_ ?_)
 (simp only [I6]; exact D3)
 (exact ⟨by omega, B6.refl _, Nat.le_refl _, by dsimp only; omega⟩)
 (rintro ⟨(i : Nat), (p1 : Nat), G1⟩ ⟨hi, hleL, hpL, hpL2⟩; simp only [] at hi hleL hpL hpL2 ⊢; replace hb := hb.mono hleL)
 refine tS (tS (tR (sQ (qM rfl) rfl ?_)))
 refine sB (J9 rfl rfl) rfl rfl (fun h21 => ?_) (fun h21 => ?_)
 refine sD (nS (qT rfl (tK (nS (tS ?_)))))
 refine B7 ?_
 refine Q3 ?_
 (refine L4 (C8 rfl rfl rfl (by omega) (by unfold maxLen; omega) rfl) rfl ?_; rintro _ ⟨b34, rfl⟩)
 (refine T8 (by repeat (first | exact Pk.here | apply Pk.there)) (fun Gf hlef hslf _ => ?_); refine H4 rfl (X9 Gf br pb nb cb (p1) bs _ _ _ _ (hb.mono hlef) hnb (by omega) hslf (by decide)) (Pk.perm (by repeat (first | exact Pk.here | apply Pk.there))) rfl rfl (fun v Gm outs hlen hh => ?_); obtain ⟨rfl, rfl, hv⟩ := hh; replace hb := hb.mono hlef; obtain ⟨dd, rfl, hdd⟩ : ∃ d : Nat, v = .int .i64 ((d + 1 : Nat) : Int) ∧ d ≤ 2 := (by simp only [List.mem_cons, List.not_mem_nil, or_false] at hv; rcases hv with rfl | rfl | rfl | rfl <;> first | exact ⟨0, rfl, by decide⟩ | exact ⟨1, rfl, by decide⟩ | exact ⟨2, rfl, by decide⟩); have hdB := A5P hdd; replace hleL := hleL.trans hlef)
 (have hcall := A3w br pb nb cb bs hnb dd (p1 + 1) _ (by omega) hb (by omega); refine H4 rfl hcall (Pk.perm (by repeat (first | exact Pk.here | apply Pk.there))) rfl rfl (fun v Gn outs hleD hh => ?_); obtain ⟨pD, hpD1, hpD2, rfl, uD, cD, rfl, hrD, hsD, haD⟩ := hh; obtain ⟨qD, dD, eD, rfl, _⟩ := hrD.open; replace hb := hb.mono hleD; replace hleL := hleL.trans hleD)
 refine sQ (qM rfl) rfl ?_
 (refine L4 (C8 rfl rfl rfl (by omega) (by unfold maxLen; omega) rfl) rfl ?_; rintro _ ⟨b38, rfl⟩)
 (refine T8 (by repeat (first | exact Pk.here | apply Pk.there)) (fun Gf hlef hslf _ => ?_); refine H4 rfl (X9 Gf br pb nb cb (pD) bs _ _ _ _ (hb.mono hlef) hnb (by omega) hslf (by decide)) (Pk.perm (by repeat (first | exact Pk.here | apply Pk.there))) rfl rfl (fun v Gm outs hlen hh => ?_); obtain ⟨rfl, rfl, hv⟩ := hh; replace hb := hb.mono hlef; replace hleL := hleL.trans hlef; replace hrD := hrD.mono hlef; obtain ⟨dp, rfl, hdp1, hdp2⟩ : ∃ d : Int, v = .int .i64 d ∧ 3 ≤ d ∧ d ≤ 5 := (by simp only [List.mem_cons, List.not_mem_nil, or_false] at hv; rcases hv with rfl | rfl | rfl | rfl <;> exact ⟨_, rfl, by decide, by decide⟩))
 (have hcall := B4B br pb nb cb bs hnb 8 dp uD (pD + 1) _ none 0 0 _ ⟨haD.le (by omega), by omega, by omega, .inr ⟨by omega, by omega⟩⟩ (by omega) (by omega) (by omega) (W4.nil _) hrD hb (by omega); refine H4 rfl hcall (Pk.perm (by repeat (first | exact Pk.here | apply Pk.there))) rfl rfl (fun v Gn outs hleM hh => ?_); obtain ⟨pM, hpM1, hpM2, rfl, eM, cM, rfl, hrM, hsmM, hcM⟩ := hh; have hlM := hrM.len; have hoM := hrM.one; replace hb := hb.mono hleM; replace hleL := hleL.trans hleM)
 refine sE (A7 rfl) rfl (fun b41 => ?_)
 refine W1 rfl rfl rfl hlM hoM rfl (by repeat first | exact Sw.here | apply Sw.there) (by exact C3 (by first | exact hlM.symm | omega)) ?_
 refine sD (nS (tS (tR ?_)))
 refine sL (A3 rfl rfl (A9 (by repeat first | exact mH | apply mT)) hlM) rfl rfl ?_
 (refine E5 rfl (B43 eM _ _ (by omega) hrM) rfl rfl (fun v G9 hle9 hh => ?_); have hmv := @A9F eM; obtain ⟨mc, mt, rfl, hmr, hmu⟩ := hh; obtain ⟨pt, ct, et, rfl, _⟩ := hmr.open; replace hb := hb.mono hle9; replace hleL := hleL.trans hle9; replace hrM := hrM.mono hle9; generalize (A0B eM).isSome = mx at *; cases mx)
 refine L9 ?_
 refine sE (A7 rfl) rfl (fun b52 => ?_)
 refine I0 ?_
 refine sP (K4 rfl rfl (by omega) (by omega)) rfl rfl ?_
 refine sQ (qA rfl) rfl (sD ?_)
 refine K7 (i + 1, pM, G9) ?_ ?_ ?_
 (simp only [I6]; exact D3)
 (dsimp only; exact ⟨by omega, hleL, by omega, by omega⟩)
 (show 4 - (i + 1) < 4 - i; omega)
 refine L9 ?_
 refine sE (A7 rfl) rfl (fun b78 => ?_)
 refine M6 ?_
 refine sL (A3 rfl rfl (A9 (by repeat first | exact mH | apply mT)) hlM) rfl rfl ?_
 refine W1 rfl rfl rfl hlM hoM rfl (by repeat first | exact Sw.here | apply Sw.there) (by exact C3 (by first | exact hlM.symm | omega)) ?_
 refine sD (nS (tT (rB (rS (A2z (rB (rS ?_)))))))
 refine F8 (outs := [rd br pb nb cb pM]) (rC rfl (A3 rfl rfl (A9 (by repeat first | exact mH | apply mT)) hlM)) (by repeat (first | exact A0.nil | refine A0.cons Pk.here ?_ | refine A0.cons (Pk.there Pk.here) ?_ | refine A0.cons (Pk.there (Pk.there Pk.here)) ?_ | apply A0.drop)) ?_
 (exact ⟨pM, by omega, by omega, rfl, eM, _, rfl, hrM, (B45 (hmv rfl)).le (by omega), hmv rfl⟩)
 refine J2 ?_
 (have hcall := B0e br pb nb cb bs hnb p1 _ hb (by omega); refine H4 rfl hcall (Pk.perm (by repeat (first | exact Pk.here | apply Pk.there))) rfl rfl (fun v Gn outs hleC hh => ?_); obtain ⟨pC, hpC1, hpC2, rfl, eC, cC, rfl, hrC, hcC, hwC⟩ := hh; have hlC := hrC.len; have hoC := hrC.one; have hcnt := A3o eC)
 refine W1 rfl rfl rfl hlC hoC rfl (by repeat first | exact Sw.here | apply Sw.there) (by exact C3 (by first | exact hlC.symm | omega)) ?_
 refine sD (nS (tT ?_))
 refine F8 (outs := [rd br pb nb cb pC]) (rC rfl (A3 rfl rfl (A9 (by repeat first | exact mH | apply mT)) hlC)) (by repeat (first | exact A0.nil | refine A0.cons Pk.here ?_ | refine A0.cons (Pk.there Pk.here) ?_ | refine A0.cons (Pk.there (Pk.there Pk.here)) ?_ | apply A0.drop)) ?_
 (exact ⟨pC, by omega, by omega, rfl, eC, _, rfl, hrC, ⟨A5A _ (by omega), by omega⟩, hwC⟩)
theorem B6w (br : Nat) (pb : Option Addr) (nb cb : Nat) (bs : List UInt8) (hnb : nb ≤ 2000) (p : Nat) (G : IM) (hb : Sl G pb nb cb 1 (N9 bs)) (hp : p + 9100000 < 1099511627776) :
  Fn Tryz.prog 85 [.pointer (some ⟨br, 0, none⟩)] [rd br pb nb cb p] G
   (Y7 br pb nb cb p 9100000 (fun G' v => ∃ e cells, v = .agg ⟨cells⟩ ∧ A6 G' e cells ∧ e.fit 1100)) := by
 refine B3 Tryz.func85 rfl Tryz.ntmps85 Tryz.results85 rfl ?_
 intro w0
 refine tS (tR ?_)
 refine sE (A7 rfl) rfl (fun b3 => ?_)
 refine sD (nS (tS (tR (sQ (qM rfl) rfl ?_))))
 (have hcall := B6v br pb nb cb bs hnb p _ hb (by omega); refine H4 rfl hcall (Pk.perm (by repeat (first | exact Pk.here | apply Pk.there))) rfl rfl (fun v Gn outs hle1 hh => ?_); obtain ⟨p1, hp11, hp12, rfl, e0, ce0, rfl, hr0, hf0, hv0⟩ := hh; replace hb := hb.mono hle1; have hl0 := hr0.len; have ho0 := hr0.one; have hs0 := ((A0b e0).1 hv0).1)
 refine sE (A7 rfl) rfl (fun b10 => ?_)
 refine W1 rfl rfl rfl hl0 ho0 rfl (by repeat first | exact Sw.here | apply Sw.there) (by exact C3 (by first | exact hl0.symm | omega)) ?_
 refine sD (nS (tS (tS (tR (sQ (qM rfl) rfl ?_)))))
 (refine H4 rfl (W3 _ br pb nb cb (p1) bs 3 hb hnb (by omega)) (Pk.perm (by repeat (first | exact Pk.here | apply Pk.there))) rfl rfl (fun v Gp outs hle18 hh => ?_); obtain ⟨rfl, rfl, j18, rfl, hj18, hk18⟩ := hh; skip)
 replace hr0 := hr0.mono hle18
 replace hb := hb.mono hle18
 refine sB (qE rfl rfl) rfl rfl (fun h19 => ?_) (fun h19 => ?_)
 refine sD (nS (qT rfl (tR (sQ (qM rfl) rfl ?_))))
 (refine H4 rfl (B6u br pb nb cb bs hnb (p1 + 1) _ hb (by omega)) (Pk.perm (by repeat (first | exact Pk.here | apply Pk.there))) rfl rfl (fun v G3 outs hle3 hh => ?_); obtain ⟨p3, hp31, hp32, rfl, t3, cells3, rfl, hr3, hs3, hv3⟩ := hh; have hf3 : t3.fit 1100 := ⟨A5A t3 (by omega), by have := A3o t3; omega⟩; have hl3 := hr3.len; have ho3 := hr3.one; have hsh3 := ((A0b t3).1 hv3).1)
 refine W1 rfl rfl rfl hl3 ho3 rfl (by repeat first | exact Sw.here | apply Sw.there) (by exact C3 (by first | exact (hl3.trans hl0.symm).symm | exact hl3.symm | omega)) ?_
 refine sD (nS (tS (tR ?_)))
 refine sL (A3 rfl rfl (A9 (by repeat first | exact mH | apply mT)) hl3) rfl rfl ?_
 (have hbs3 := A4s t3 hf3.1; refine E5 rfl (A9V 12 14 t3 1 _ cells3 hsh3 hf3.1 hr3) rfl rfl (fun v G4 hle4 hh => ?_); obtain ⟨cells2, F2, rfl, hs2', hn2⟩ := hh; have hl2 := hs2'.R.len; have ho2 := hs2'.R.one; have hfb : (J4 t3).fit 1100 := ⟨hbs3.1, Nat.le_trans hbs3.2 hf3.2⟩; have hr2 := hs2'.R.mono (C1.le _ _))
 refine W1 rfl rfl rfl hl2 ho2 rfl (by repeat first | exact Sw.here | apply Sw.there) (by exact C3 (by first | exact hl2.symm | omega)) ?_
 refine sD (nS (tT ?_))
 refine F8 (outs := [rd br pb nb cb p3]) (rC rfl (A3 rfl rfl (A9 (by repeat first | exact mH | apply mT)) hl2)) (by repeat (first | exact A0.nil | refine A0.cons Pk.here ?_ | refine A0.cons (Pk.there Pk.here) ?_ | refine A0.cons (Pk.there (Pk.there Pk.here)) ?_ | apply A0.drop)) ?_
 (exact ⟨p3, by omega, by omega, rfl, _, _, rfl, hr2, hfb⟩)
 refine sD (nS (cF rfl (tK (nS (tS (tR ?_))))))
 refine sL (A3 rfl rfl (A9 (by repeat first | exact mH | apply mT)) hl0) rfl rfl ?_
 (have hbs0 := A4s e0 hf0.1; refine E5 rfl (A9V 12 14 e0 1 _ ce0 hs0 hf0.1 hr0) rfl rfl (fun v G4 hle4 hh => ?_); obtain ⟨cells2, F2, rfl, hs2', hn2⟩ := hh; have hl2 := hs2'.R.len; have ho2 := hs2'.R.one; have hfb : (J4 e0).fit 1100 := ⟨hbs0.1, Nat.le_trans hbs0.2 hf0.2⟩; have hr2 := hs2'.R.mono (C1.le _ _))
 refine W1 rfl rfl rfl hl2 ho2 rfl (by repeat first | exact Sw.here | apply Sw.there) (by exact C3 (by first | exact hl2.symm | omega)) ?_
 refine sD (nS (tT ?_))
 refine F8 (outs := [rd br pb nb cb (p1 + 1)]) (rC rfl (A3 rfl rfl (A9 (by repeat first | exact mH | apply mT)) hl2)) (by repeat (first | exact A0.nil | refine A0.cons Pk.here ?_ | refine A0.cons (Pk.there Pk.here) ?_ | refine A0.cons (Pk.there (Pk.there Pk.here)) ?_ | apply A0.drop)) ?_
 (exact ⟨p1 + 1, by omega, by omega, rfl, _, _, rfl, hr2, hfb⟩)
theorem B6x (G : IM) (q : Option Addr) (n c : Nat) (bs : List UInt8) (hb : Sl G q n c 1 (N9 bs)) : Fn Tryz.prog 36 [.slice q n c] [] G (B0d 1100 G) := by
 refine B3 Tryz.func36 rfl Tryz.ntmps36 Tryz.results36 rfl ?_
 intro w0
 refine tS (tR ?_)
 refine sE (A7 rfl) rfl (fun b3 => ?_)
 refine sQ (qA rfl) rfl (sD (nS (tS (tR (sQ (qM rfl) rfl ?_)))))
 (refine H4 rfl (B13 G q n c bs hb) (List.Perm.refl _) rfl rfl (fun v G1 outs hle1 hh => ?_); obtain ⟨rfl, br, pb, nb, cb, bs', rfl, rfl, hnb, hb'⟩ := hh)
 refine C4 ?_
 (have hcall := B6w br pb nb cb bs' hnb 0 _ hb' (by omega); refine H4 rfl hcall (Pk.perm (by repeat (first | exact Pk.here | apply Pk.there))) rfl rfl (fun v Gn outs hle1 hh => ?_); obtain ⟨p1, hp11, hp12, rfl, e0, ce0, rfl, hr0, hf0⟩ := hh; replace hb' := hb'.mono hle1)
 (have hcall := B6j br pb nb cb bs' hnb p1 _ hb' (by omega) e0 ce0 1100 hf0 hr0; refine H4 rfl hcall (Pk.perm (by repeat (first | exact Pk.here | apply Pk.there))) rfl rfl (fun v Gn outs hle2 hh => ?_); obtain ⟨p2, hp21, hp22, rfl, e, ce, rfl, hre, hfe⟩ := hh; have hl1 := hre.len; have ho1 := hre.one; replace hb' := hb'.mono hle2)
 refine sE (A7 rfl) rfl (fun b20 => ?_)
 refine W1 rfl rfl rfl hl1 ho1 rfl (by repeat first | exact Sw.here | apply Sw.there) (by exact C3 (by first | exact hl1.symm | omega)) ?_
 refine sD (nS (tS ?_))
 refine D5 D6 rfl ?_
 refine O9 (i := 0) (l' := [tt,ff,ff,ff,ff]) rfl D1 (A3 rfl rfl (A9 (by repeat first | exact mH | apply mT)) hl1) rfl (by kernel_rfl) rfl rfl ?_
 refine aP 1 rfl (qM rfl) rfl ?_
 refine A2 2 ?_
 (have hcall := B46 br pb nb cb bs' hnb p2 _ hb' (by omega); refine X8 (l' := [tt,tt,tt,ff,ff]) rfl rfl hcall (Pk.perm (by repeat (first | exact Pk.here | apply Pk.there))) rfl rfl rfl (by repeat (first | exact A5.nil | apply A5.dep (by decide +kernel) | apply A5.blk (by decide +kernel) (by repeat (first | exact Pk.here | apply Pk.there)) (by repeat first | exact mH | apply mT))) (fun v Gn outs hle5 hh => ?_); obtain ⟨p5, hp51, hp52, rfl, fl, rfl, hfl⟩ := hh; replace hre := hre.mono hle5)
 refine A2 3 ?_
 refine A38 rfl rfl rfl rfl hl1 ho1 rfl rfl (by repeat first | exact Sw.here | apply Sw.there) (by exact C3 hl1.symm) (by repeat (first | exact A5.nil | apply A5.dep (by decide +kernel) | apply A5.blk (by decide +kernel) (by repeat (first | exact Pk.here | apply Pk.there)) (by repeat first | exact mH | apply mT))) ?_
 refine aP 4 rfl (qA rfl) rfl ?_
 refine C2 (nS (tT ?_))
 refine I4 (rC rfl (A3 rfl rfl (A9 (by repeat first | exact mH | apply mT)) hl1)) (rT rfl) ?_
 (exact ⟨rfl, e, ce, fl, rfl, hre, hfe, hfl⟩)
theorem B6y (G : IM) (q : Option Addr) (n c : Nat) (bs : List UInt8) (hb : Sl G q n c 1 (N9 bs)) : Fn Tryz.prog 8 [.slice q n c] [] G (B0d 1100 G) := by
 refine B3 Tryz.func8 rfl Tryz.ntmps8 Tryz.results8 rfl ?_
 intro w0
 refine tS (tR ?_)
 refine sE (A7 rfl) rfl (fun b3 => ?_)
 refine sQ (qA rfl) rfl (sD (nS (tS (tR (sQ (qM rfl) rfl ?_)))))
 (refine E5 rfl (B6x G _ _ _ bs hb) rfl rfl (fun v G1 hle1 hh => ?_); obtain ⟨a, ca, fl, rfl, hra, hfa, hfl⟩ := hh; have hla := hra.len; have hoa := hra.one)
 refine sQ (pX rfl rfl) rfl (sQ (pX rfl rfl) rfl ?_)
 refine sS rfl rfl rfl hla hoa rfl ?_ (hu := by exact C3 hla.symm)
 refine sQ (qA rfl) rfl (sD (nS (tT ?_)))
 refine I4 (rC rfl (A3 rfl rfl (A9 (by repeat first | exact mH | apply mT)) hla)) (rT rfl) ?_
 (exact ⟨rfl, a, ca, fl, rfl, hra, hfa, hfl⟩)
theorem B6z {e : Tm} {fuel : Int} (h : P6 fuel 0 300 = false) : Z1 e fuel = 0 := by
 unfold Z1; rw [if_neg (A3i h)]
theorem B6A {e : Tm} {fuel : Int} (h : P6 fuel 0 300 = true) : Z1 e fuel = ((P3 fuel.toNat e).2.2.2 : Int) := by
 unfold Z1; rw [if_pos (A07 h), B4a]
theorem B6B {e : Tm} {fuel : Int} (h : 0 ≤ fuel) (h2 : fuel ≤ 300) : Z1 e fuel = ((J0 fuel.toNat e).2.2.2 : Int) := by
 unfold Z1; rw [if_pos ⟨h, h2⟩]
theorem B6C {e : Tm} {fuel : Int} (h : fuel < 0 ∨ 300 < fuel) : Z1 e fuel = 0 := by
 unfold Z1; rw [if_neg (by omega)]
theorem B6D (e : Tm) (fuel : Int) (G : IM) (cells : List Value) (hr : A6 G e cells) : Fn Tryz.prog 9 [.agg ⟨cells⟩, .int .i64 fuel] [] G (K5 fun _ v => v = .int .i64 (Z1 e fuel)) := by
 have hRl := hr.len
 have hRo := hr.one
 have hno := @B6z e fuel
 have hin := @B6A e fuel
 refine B3 Tryz.func9 rfl Tryz.ntmps9 Tryz.results9 rfl ?_
 intro w0
 refine tS (tR ?_)
 refine sE (C0 rfl rfl) rfl (fun b3 => ?_)
 refine C4 ?_
 refine E2 rfl ((A4S fuel _)) rfl rfl (fun h11 => ?_) (fun h11 => ?_)
 refine sQ (W0 rfl) rfl (sD (nS (cF rfl (tK (nS (tS (tR ?_)))))))
 refine sL (A3 rfl rfl (A9 (by repeat first | exact mH | apply mT)) hRl) rfl rfl ?_
 refine sQ (qM rfl) rfl ?_
 (have hf : P6 fuel 0 300 = true := (by assumption); have hf2 := A07 hf; have hE := A9Z e fuel.toNat (by omega) G cells hr; rw [Int.toNat_of_nonneg hf2.1] at hE; refine E5 rfl hE rfl rfl (fun v G1 hle1 hh => ?_); obtain ⟨wc, hv, hrw⟩ := hh; have hwl := hrw.len; have hwo := hrw.one; have hin := hin hf; generalize P3 fuel.toNat e = r at hv hrw hin; obtain ⟨w, c, l, i⟩ := r; simp only at hv hrw hin; subst hv)
 refine Q3 ?_
 refine sE (A7 rfl) rfl (fun b28 => ?_)
 refine sS rfl rfl rfl hwl hwo rfl ?_ (hu := by exact C3 hwl.symm)
 refine J3 ?_
 (exact ⟨rfl, by rw [hin]⟩)
 refine M6 ?_
 (exact ⟨rfl, by rw [hno (by assumption)]⟩)
theorem B6E (e : Tm) (fuel : Int) (G : IM) (cells : List Value) (hcnt : C6 e ≤ 4294967296) (hr : A6 G e cells) : Fn Tryz.prog 10 [.agg ⟨cells⟩, .int .i64 fuel] [] G (K5 fun _ v => v = .int .i64 (Z1 e fuel)) := by
 have hRl := hr.len
 have hRo := hr.one
 have hno := @B6C e fuel
 have hin := @B6B e fuel
 refine B3 Tryz.func10 rfl Tryz.ntmps10 Tryz.results10 rfl ?_
 intro w0
 refine tS (tR ?_)
 refine sE (C0 rfl rfl) rfl (fun b3 => ?_)
 refine C4 ?_
 refine sB (J9 rfl rfl) rfl rfl (fun h11 => ?_) (fun h11 => ?_)
 refine I0 ?_
 (exact ⟨rfl, by rw [hno (by omega)]⟩)
 refine sQ (qM rfl) rfl (sQ (qM rfl) rfl ?_)
 refine sB (Y6 rfl rfl) rfl rfl (fun h30 => ?_) (fun h30 => ?_)
 refine M6 ?_
 (exact ⟨rfl, by rw [hno (by omega)]⟩)
 refine D8 ?_
 refine sL (A3 rfl rfl (A9 (by repeat first | exact mH | apply mT)) hRl) rfl rfl ?_
 refine sQ (qM rfl) rfl ?_
 (have hE := B5W e fuel.toNat (by omega) G cells hcnt hr; rw [Int.toNat_of_nonneg (by omega)] at hE; have hin := hin (by omega) (by omega); refine E5 rfl hE rfl rfl (fun v G1 hle1 hh => ?_); obtain ⟨wc, hv, hrw⟩ := hh; have hwl := hrw.len; have hwo := hrw.one; generalize J0 fuel.toNat e = r at hv hrw hin; obtain ⟨w, c, l, i⟩ := r; simp only at hv hrw hin; subst hv)
 refine Q3 ?_
 refine sE (A7 rfl) rfl (fun b60 => ?_)
 refine sS rfl rfl rfl hwl hwo rfl ?_ (hu := by exact C3 hwl.symm)
 refine J3 ?_
 (exact ⟨rfl, by rw [hin]⟩)
section
variable {k : Int} {nm : ByteArray} {num : Int} {ty fr : Ty} {lb : Int} {a b c : Tm}
end
theorem B6F {n : Nat} {e e' : GE} {A A' : GT} (N : Nat) (hp : GP N0 e e' A A') (h : (Q1 n e.tm).2.1 = 0) (hc : O3 e.er.tm = true) :
  ((J0 N e.er.tm).2.1 = 0 ∧ A02 (J0 N e.er.tm).1 = A02 (Q1 n e.tm).1 ∧ (J0 N e.er.tm).2.2.2 ≤ (Q1 n e.tm).2.2.2) ∨ (J0 N e.er.tm).2.1 = 4 ∨ (J0 N e.er.tm).2.1 = 5 := by
 obtain ⟨w, h1, h2, h3, h4, w', B, B', h5⟩ := B4w n hp h
 obtain ⟨m, hm, h6⟩ := B36 h3
 rcases B4v h6 (A15 h2) (B33 e) N hc with ⟨g1, g2, g3, g4⟩ | g | ⟨g1, g2⟩
 ·refine .inl ⟨g1, ?_, by omega⟩
  rw [g2, h1, A9k (A15 h2), A9k h2, B39 h5 rfl h2]
 ·exact .inr (.inl g)
 ·exact .inr (.inr g1)
mutual
theorem B0f : ∀ (t : Tm) (d d' : Int), M3 12 14 t d = true → M3 40 13 t d' = true → M0 t = true → J4 t = t
 | .mk k nm num ty fr lb ks, d, d', h1, h2, h3 => by
  obtain ⟨n1, n2, n3, n4, n5, n6, n7, n8, n9⟩ := A56 h1
  obtain ⟨_, m2, _, m4⟩ := A0r h2
  obtain ⟨⟨_, b1⟩, b2⟩ := V6.1 h3
  rw [J4, if_neg (by omega), B0g ks _ _ n9 m4 b2, n7, n8]
  congr 1
  by_cases h5 : k = 5
  ·rw [if_pos h5]
   obtain ⟨A, rfl⟩ := A1K ty (n5 (.inl h5))
   rw [A1j.1 (b1.resolve_left (by omega))]; rfl
  ·rw [if_neg h5, n6 (by omega)]
theorem B0g : ∀ (ts : List Tm) (d d' : Int), M4 12 14 ts d = true → M4 40 13 ts d' = true → (∀ t ∈ ts, M0 t = true) → E9 ts = ts
 | [], _, _, _, _, _ => rfl
 | t :: ts, d, d', h1, h2, h3 => by
  rw [M4, Bool.and_eq_true] at h1 h2
  rw [E9, B0f t d d' h1.1 h2.1 (h3 t List.mem_cons_self), B0g ts d d' h1.2 h2.2 fun u hu => h3 u (List.mem_cons_of_mem _ hu)]
end
theorem B6G {n : Nat} {e : Tm} (h : (J0 n e).2.1 = 0) : Q9 e = true := by
 cases hb : Q9 e with
 | true => rfl
 | false =>
  have := A4W hb
  cases n with
  | zero => rw [J0, this, if_neg (by show ¬((3 : Int) = 1); decide)] at h; cases h
  | succ n => rw [J0, this, if_neg (by show ¬((3 : Int) = 1); decide)] at h; cases h
theorem B6H {e y : Tm} {t : Ty} {fuel : Int} (hf : 0 ≤ fuel ∧ fuel ≤ 300) (hv : O4 e = true) (hy : U9 (A0m e) = some (y, t)) (hk : (A0l e fuel).2.1 = 0) (hm : (S4 y 300).2.1 = 0) :
  Z1 e fuel ≤ A1V y 300 := by
 obtain ⟨g, A, g', A', rfl, rfl, hp⟩ := B47 hy
 unfold A0l at hk
 rw [if_pos hf] at hk
 have hbv := A04 (B6G hk)
 have hb : e = g.er.tm := by
  rw [← B48, B5d hy, B6d]
  exact (B0f e 1 1 ((A0b e).1 hv).1 ((A4o e).1 hbv.1).1 hbv.2).symm
 have h0 : (Q1 300 g.tm).2.1 = 0 := by unfold S4 at hm; rw [if_pos (by decide)] at hm; exact hm
 unfold Z1 A1V
 rw [if_pos hf, if_pos (by decide)]
 rw [hb] at hk ⊢
 have hk : (J0 fuel.toNat g.er.tm).2.1 = 0 := hk
 rcases B6F fuel.toNat hp h0 (by rw [← hb]; exact hbv.1) with ⟨_, _, h1⟩ | h1 | h1
 ·show ((J0 fuel.toNat g.er.tm).2.2.2 : Int) ≤ ((Q1 300 g.tm).2.2.2 : Int); omega
 ·omega
 ·omega
theorem B6I {e : Tm} {fuel : Int} (hf : 0 ≤ fuel ∧ fuel ≤ 300) : Z1 e fuel ≤ fuel := by
 unfold Z1
 rw [if_pos hf]
 have := A9O fuel.toNat e
 omega
theorem B6J (G : IM) (cells : List Value) (hl : cells.length = 9) (ho : cells.all (·.oneCell') = true) : Fn Tryz.prog 51 [.agg ⟨cells⟩] [] G (H6 (.tuple ⟨[]⟩) G) := by
 refine B3 Tryz.func51 rfl Tryz.ntmps51 Tryz.results51 rfl ?_
 intro w0
 refine tR ?_
 refine sE (C0 rfl rfl) rfl (fun b2 => ?_)
 refine sD ?_
 refine A82 ?_
 (exact ⟨rfl, rfl, rfl⟩)
theorem B6K {e : Tm} {fuel : Int} (h : P6 fuel 0 300 = false) : A1V e fuel = 0 := by
 unfold A1V; rw [if_neg (A3i h)]
theorem B6L {e : Tm} {fuel : Int} (h : P6 fuel 0 300 = true) : A1V e fuel = ((P2 fuel.toNat e).2.2.2 : Int) := by
 unfold A1V; rw [if_pos (A07 h), B3B]
theorem B6M (e : Tm) (fuel : Int) (G : IM) (cells : List Value) (hr : A6 G e cells) : Fn Tryz.prog 15 [.agg ⟨cells⟩, .int .i64 fuel] [] G (K5 fun _ v => v = .int .i64 (A1V e fuel)) := by
 have hRl := hr.len
 have hRo := hr.one
 have hno := @B6K e fuel
 have hye := @B6L e fuel
 refine B3 Tryz.func15 rfl Tryz.ntmps15 Tryz.results15 rfl ?_
 intro w0
 refine tS (tR ?_)
 refine sE (C0 rfl rfl) rfl (fun b3 => ?_)
 refine C4 ?_
 refine E2 rfl ((A4S fuel _)) rfl rfl (fun h11 => ?_) (fun h11 => ?_)
 refine sQ (W0 rfl) rfl (sD (nS (cF rfl (tK (nS (tS (tR ?_)))))))
 refine sL (A3 rfl rfl (A9 (by repeat first | exact mH | apply mT)) hRl) rfl rfl ?_
 refine sQ (qM rfl) rfl ?_
 (have hf : P6 fuel 0 300 = true := (by assumption); have hf2 := A07 hf; have hE := A83 e fuel.toNat (by omega) 51 [] [] (fun G u cells hru => B6J G cells hru.len hru.one) G cells hr; rw [Int.toNat_of_nonneg hf2.1] at hE; have hye2 := hye hf; refine E5 rfl hE rfl rfl (fun v G1 hle1 hh => ?_); obtain ⟨wc, hv, hrw⟩ := hh; have hwl := hrw.len; have hwo := hrw.one; generalize P2 fuel.toNat e = r at hv hrw hye2; obtain ⟨w, c, l, i⟩ := r; simp only at hv hrw hye2; subst hv)
 refine Q3 ?_
 refine sE (A7 rfl) rfl (fun b28 => ?_)
 refine sS rfl rfl rfl hwl hwo rfl ?_ (hu := by exact C3 hwl.symm)
 refine J3 ?_
 (exact ⟨rfl, by rw [hye2]⟩)
 refine M6 ?_
 (exact ⟨rfl, by rw [hno (by assumption)]⟩)
def B7C (r : Option Ty) : IM → Value → List A4 → Prop := K5 fun G' v => ∃ cells, v = .tuple ⟨[.agg ⟨cells⟩, .bool r.isSome]⟩ ∧ B5 G' (r.getD A8) cells
theorem B6N {e x : Tm} (h : A1M e = (x, true)) : x = A0m e ∧ O4 e = true ∧ O4 (A0m e) = true := by
 unfold A1M at h
 split at h
 ·rename_i h1; cases h; exact ⟨rfl, h1⟩
 ·cases h
theorem B6O (e : Tm) (fuel : Int) : 0 ≤ Z1 e fuel := by
 unfold Z1; split
 ·omega
 ·exact Int.le_refl _
theorem B6P (bs : List UInt8) (G : IM) (p : Option Addr) (n c : Nat) (hb : Sl G p n c 1 (N9 bs)) : Fn Tryz.prog 3 [.slice p n c] [] G (K5 fun _ v => v = .bool true) := by
 have hn := hb.le
 refine B3 Tryz.func3 rfl Tryz.ntmps3 Tryz.results3 rfl ?_
 intro w0
 refine I7 ?_
 refine sB (Y6 rfl rfl) rfl rfl (fun h11 => ?_) (fun h11 => ?_)
 refine J2 ?_
 (exact ⟨rfl, rfl⟩)
 refine sD (nS (cF rfl (tK (nS (tS (tR (sQ (qM rfl) rfl ?_)))))))
 (refine E5 rfl (B6y G _ _ _ bs hb) rfl rfl (fun v G1 hle1 hh => ?_); obtain ⟨a, ca, fl, rfl, hra, hfa, hfl⟩ := hh; have hca := hfa.2; have hsa := hfa.1; have hla := hra.len; have hoa := hra.one; have hA := B6D a fl G1 ca hra; have hS := B6E a fl; have hrg := B6O a fl; have hle := @B6I a fl; have hk := fun y t => @B6H a y t fl; obtain ⟨s1, hs1⟩ : ∃ s, Z1 a fl = s := ⟨_, rfl⟩; rw [hs1] at hA hS hrg hle hk; have hEm := B6t a; obtain ⟨⟨x, bx⟩, hX⟩ : ∃ r, A1M a = r := ⟨_, rfl⟩; rw [hX] at hEm; have hEv := B59 a fl; obtain ⟨⟨u1, c1, l1⟩, hr1⟩ : ∃ r, A0l a fl = r := ⟨_, rfl⟩; rw [hr1] at hEv hk; replace hk : ∀ y t, (0 ≤ fl ∧ fl ≤ 300) → O4 a = true → U9 (A0m a) = some (y, t) → c1 = 0 → (S4 y 300).2.1 = 0 → s1 ≤ A1V y 300 := hk)
 refine L9 ?_
 refine sE (A7 rfl) rfl (fun b36 => ?_)
 refine sS rfl rfl rfl hla hoa rfl ?_ (hu := by exact C3 hla.symm)
 refine sQ (qA rfl) rfl (sD (nS (tS (tR ?_))))
 refine sL (A3 rfl rfl (A9 (by repeat first | exact mH | apply mT)) hla) rfl rfl ?_
 refine sQ (qM rfl) rfl ?_
 (refine E5 rfl hA rfl rfl (fun v2 G2 hle2 hh => ?_); subst hh; replace hra := hra.mono hle2)
 refine C4 ?_
 refine sL (A3 rfl rfl (A9 (by repeat first | exact mH | apply mT)) hla) rfl rfl ?_
 refine sQ (qM rfl) rfl ?_
 (refine E5 rfl (hS _ ca (by omega) hra) rfl rfl (fun v3 G3 hle3 hh => ?_); subst hh; replace hra := hra.mono hle3)
 refine sP (A2D rfl rfl (by omega)) rfl rfl ?_
 refine sQ (qM rfl) rfl (sQ (qM rfl) rfl ?_)
 refine sP (A31 rfl rfl (by omega)) rfl rfl ?_
 refine sQ (N2 rfl rfl) rfl (sQ (qM rfl) rfl (sQ (qM rfl) rfl ?_))
 refine sB (J9 rfl rfl) rfl rfl (fun h63 => ?_) (fun h63 => ?_)
 refine J2 ?_
 refine sL (A3 rfl rfl (A9 (by repeat first | exact mH | apply mT)) hla) rfl rfl ?_
 refine sQ (qM rfl) rfl ?_
 (refine E5 rfl (hS _ ca (by omega) hra) rfl rfl (fun v3 G3 hle3 hh => ?_); subst hh; replace hra := hra.mono hle3)
 refine sP (W2 rfl rfl (by omega)) rfl rfl ?_
 refine sQ (qA rfl) rfl (sD (nS (tT (rS (E0 (rT rfl) ?_)))))
 (exact ⟨rfl, rfl⟩)
 refine sQ (N2 rfl rfl) rfl (sQ (qM rfl) rfl (sQ (qM rfl) rfl ?_))
 refine sB (Y6 rfl rfl) rfl rfl (fun h89 => ?_) (fun h89 => ?_)
 refine C4 ?_
 refine sL (A3 rfl rfl (A9 (by repeat first | exact mH | apply mT)) hla) rfl rfl ?_
 refine sQ (qM rfl) rfl ?_
 (refine E5 rfl (hS _ ca (by omega) hra) rfl rfl (fun v3 G3 hle3 hh => ?_); subst hh; replace hra := hra.mono hle3)
 refine sP (W2 rfl rfl (by omega)) rfl rfl ?_
 refine sQ (qA rfl) rfl (sD (nS (tT (rS (E0 (rT rfl) ?_)))))
 (exact ⟨rfl, rfl⟩)
 refine D8 ?_
 refine sL (A3 rfl rfl (A9 (by repeat first | exact mH | apply mT)) hla) rfl rfl ?_
 (refine E5 rfl (hEm _ ca hra) rfl rfl (fun v4 G4 hle4 hh => ?_); obtain ⟨cx, hve, hrx⟩ := hh; replace hve : v4 = .tuple ⟨[.agg ⟨cx⟩, .bool bx]⟩ := hve; subst hve; replace hrx : A6 G4 x cx := hrx; have hlx := hrx.len; have hox := hrx.one; replace hra := hra.mono hle4)
 refine L9 ?_
 refine sE (A7 rfl) rfl (fun b121 => ?_)
 refine sS rfl rfl rfl hlx hox rfl ?_ (hu := by exact C3 hlx.symm)
 refine sQ (qA rfl) rfl (sD (nS (tS (tR ?_))))
 refine sL (A3 rfl rfl (A9 (by repeat first | exact mH | apply mT)) hlx) rfl rfl ?_
 (refine E5 rfl (B3Z x _ cx hrx) rfl rfl (fun v5 G5 hle5 hh => ?_); obtain ⟨cy, ct, rfl, hry, hrt⟩ := hh; obtain ⟨qt, dt, et2, rfl, _⟩ := hrt.open; have hly := hry.len; have hoy := hry.one; replace hra := hra.mono hle5; obtain ⟨⟨y, ty⟩, hY⟩ : ∃ r, (U9 x).getD (D7, A8) = r := ⟨_, rfl⟩; obtain ⟨by1, hby⟩ : ∃ b, (U9 x).isSome = b := ⟨_, rfl⟩; rw [hY] at hry; rw [hby]; replace hry : A6 G5 y cy := hry)
 refine H1 ?_
 refine sE (A7 rfl) rfl (fun b134 => ?_)
 refine sE (A7 rfl) rfl (fun b135 => ?_)
 refine sS rfl rfl rfl hly hoy rfl ?_ (hu := by exact C3 hly.symm)
 refine F4 ?_
 refine sQ (qA rfl) rfl (sD (nS (tS (tR ?_))))
 refine sL (A3 rfl rfl (A9 (by repeat first | exact mH | apply mT)) hla) rfl rfl ?_
 refine sQ (qM rfl) rfl ?_
 (refine E5 rfl (hEv _ ca hra) rfl rfl (fun v6 G6 hle6 hh => ?_); obtain ⟨cu, hve, hru⟩ := hh; replace hve : v6 = .tuple ⟨[.agg ⟨cu⟩, .int .i64 c1, .int .i64 l1]⟩ := hve; subst hve; replace hru : A6 G6 u1 cu := hru; have hlu := hru.len; have hou := hru.one; replace hry := hry.mono hle6; have hEC := B3I y 300 G6 cy hry; obtain ⟨⟨w, c2, l2⟩, hr2⟩ : ∃ r, S4 y 300 = r := ⟨_, rfl⟩; rw [hr2] at hEC)
 refine H1 ?_
 refine sE (A7 rfl) rfl (fun b150 => ?_)
 refine sS rfl rfl rfl hlu hou rfl ?_ (hu := by exact C3 hlu.symm)
 refine sQ (qA rfl) rfl (sQ (qA rfl) rfl (sD (nS (tS (tR ?_)))))
 refine sL (A3 rfl rfl (A9 (by repeat first | exact mH | apply mT)) hly) rfl rfl ?_
 (refine E5 rfl hEC rfl rfl (fun v7 G7 hle7 hh => ?_); obtain ⟨cw, hve, hrw⟩ := hh; replace hve : v7 = .tuple ⟨[.agg ⟨cw⟩, .int .i64 c2, .int .i64 l2]⟩ := hve; subst hve; replace hrw : A6 G7 w cw := hrw; have hlw := hrw.len; have how := hrw.one; replace hry := hry.mono hle7; cases bx <;> cases by1)
 refine H1 ?_
 refine sE (A7 rfl) rfl (fun b164 => ?_)
 refine sS rfl rfl rfl hlw how rfl ?_ (hu := by exact C3 hlw.symm)
 refine D8 ?_
 refine sP (A2E rfl rfl (by omega)) rfl rfl ?_
 refine A3f ?_
 (exact ⟨rfl, rfl⟩)
 refine H1 ?_
 refine sE (A7 rfl) rfl (fun b207 => ?_)
 refine sS rfl rfl rfl hlw how rfl ?_ (hu := by exact C3 hlw.symm)
 refine D8 ?_
 refine sP (A2E rfl rfl (by omega)) rfl rfl ?_
 refine A3f ?_
 (exact ⟨rfl, rfl⟩)
 refine H1 ?_
 refine sE (A7 rfl) rfl (fun b250 => ?_)
 refine sS rfl rfl rfl hlw how rfl ?_ (hu := by exact C3 hlw.symm)
 refine D8 ?_
 refine sP (A2E rfl rfl (by omega)) rfl rfl ?_
 refine A3f ?_
 (exact ⟨rfl, rfl⟩)
 refine H1 ?_
 refine sE (A7 rfl) rfl (fun b293 => ?_)
 refine sS rfl rfl rfl hlw how rfl ?_ (hu := by exact C3 hlw.symm)
 refine D8 ?_
 refine sP (A2E rfl rfl (by omega)) rfl rfl ?_
 refine D9 ?_
 refine sB (M8 rfl rfl) rfl rfl (fun h313 => ?_) (fun h313 => ?_)
 refine V2 ?_
 (exact ⟨rfl, rfl⟩)
 refine sQ (N2 rfl rfl) rfl (sQ (qM rfl) rfl (sQ (qM rfl) rfl ?_))
 refine sB (M8 rfl rfl) rfl rfl (fun h335 => ?_) (fun h335 => ?_)
 refine J3 ?_
 (exact ⟨rfl, rfl⟩)
 refine sQ (N2 rfl rfl) rfl (sQ (qM rfl) rfl (sQ (qM rfl) rfl ?_))
 refine sL (A3 rfl rfl (A9 (by repeat first | exact mH | apply mT)) hly) rfl rfl ?_
 (obtain ⟨hx1, hx2, hx3⟩ := B6N hX; obtain ⟨⟨y2, t2⟩, hI⟩ := Option.isSome_iff_exists.1 hby; rw [hI] at hY; obtain ⟨rfl, rfl⟩ := Prod.mk.inj hY; rw [hx1] at hI; have hkk := hk y2 t2 ⟨by omega, by omega⟩ hx2 hI (by omega) (by rw [hr2]; show c2 = 0; omega); refine E5 rfl (B6M y2 300 _ cy hry) rfl rfl (fun v8 G8 hle8 hh => ?_); subst hh)
 refine sP (A2E rfl rfl (by omega)) rfl rfl ?_
 refine C4 ?_
 (exact ⟨rfl, rfl⟩)
end Gw
end Go.Proofs.YtfpgncjeejickaaGreat
