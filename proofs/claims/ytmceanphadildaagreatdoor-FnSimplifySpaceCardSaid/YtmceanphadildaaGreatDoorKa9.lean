/-
  The program's step of a term with coercions.
-/
import Derived.Test.YtmceanphadildaaGreatDoorKa8
import Derived.Test.YtmceanphadildaaGreatDoorKa3
import Derived.Test.YtmceanphadildaaGreatDoorKa7
import Derived.Test.YtmceanphadildaaGreatDoorKa5
set_option linter.unusedVariables false
set_option linter.unusedSimpArgs false
set_option maxHeartbeats 0
set_option maxRecDepth 100000
set_option synthInstance.maxSize 4000
set_option synthInstance.maxHeartbeats 0
namespace Go.Proofs.YtmceanphadildaaGreatDoor
open Go Go.RowKit
namespace Gw
theorem y32 {p : Prop} (h : p := by
  refine D2 D3 rfl ?_
  refine M3 (i := 0) (l' := [tt,ff,ff,ff,ff,ff]) rfl C8 (A5 rfl rfl (B7 zP) hlx) rfl zU rfl rfl ?_
  refine aL 2 rfl (A5 rfl rfl (B7 zP) hla) rfl ?_
  refine A1 1 ?_
  (refine E1 rfl rfl (A1w x G7 cx hvx hrx) rfl rfl rfl (fun v8 G8 hle8 hh => ?_); obtain rfl := hh; replace hra := hra.mono hle8)
  refine A1 3 ?_
  (refine E1 rfl rfl (A1w a G8 ca hva hra) rfl rfl rfl (fun v9 G9 hle9 hh => ?_); obtain rfl := hh)
  refine aP 4 rfl (A2V rfl rfl zW) rfl ?_
  refine aP 5 rfl (qA rfl) rfl ?_
  refine A9 ?_
  (exact ⟨rfl, rfl⟩)
) : p := h
theorem y33 {p : Prop} (h : p := by
  refine A1 12 ?_
  (have hq := hq3; refine A1m (cs := [.int .i64 2, .string ⟨⟨[]⟩⟩, .int .i64 m, .int .i64 tkA, .slice ptA tksA.length ctA, .int .i64 fkA, .slice pfA fksA.length cfA, .int .i64 lbA, .slice p0A 0 c0A, .int .i64 2, .string ⟨⟨[]⟩⟩, .int .i64 n, .int .i64 tkB, .slice ptB tksB.length ctB, .int .i64 fkB, .slice pfB fksB.length cfB, .int .i64 lbB, .slice p0B 0 c0B]) zN (fun G1 hle1 hsl2 hno2 => ?_); have hrN := A3z (k := 7) ⟨by decide, by decide⟩ (hndA.mono hle1) (hndB.mono hle1) hsl2; refine E1 rfl rfl (A3A 7 m n _ _ _ _ _ _ G1 _ zV hnk.1 hnk.2 hrN) rfl rfl rfl (fun v G3 hle3 hh => ?_); obtain ⟨uc, rfl, hru⟩ := hh; replace hru : B6 G3 (.mk 2 ⟨⟨[]⟩⟩ (HMod.hMod (m + n) 1000) (.mk 0 []) (.mk 0 []) 0 []) uc := hru; obtain ⟨ptR, ctR, pfR, cfR, pR, cR, esR, rfl, _, _, _, _, _, _, _⟩ := hru.open9; have hru2 := hru)
  refine aP 13 rfl (qM rfl) rfl ?_
  refine aP 14 rfl (pX rfl rfl) rfl ?_
  refine aP 15 rfl (pX rfl rfl) rfl ?_
  refine A1 17 ?_
  refine E4 rfl ?_
  refine aP 18 rfl (qA rfl) rfl ?_
  refine B5 ?_
  refine sS rfl rfl rfl hl1 ho1 rfl ?_ (hu := by exact C6 hl1.symm)
  refine B5 ?_
  refine H5 (rC rfl (A3 rfl rfl)) (rT rfl) (rT rfl) ?_
  (exact R0.ok (t := .num (HMod.hMod (m + n) 1000)) hst (A3y hru2 zV))
) : p := h
theorem y34 {p : Prop} (h : p := by
  refine aP 7 rfl (N7 rfl rfl) rfl ?_
  refine A1 13 ?_
  (have hq := hq7; refine A1m (cs := [.int .i64 5, .string x, .int .i64 0, .int .i64 tkB, .slice ptB tksB.length ctB, .int .i64 fkB, .slice pfB fksB.length cfB, .int .i64 lbB, .slice p0B 0 c0B, .int .i64 0, .int .i64 0, .int .i64 0, .slice pcB 0 ccB, .slice pB 1 cB, v1, v2, v3, v4, v5, v6, v7, v8, v9, u1, u2, u3, u4, u5]) zN (fun G2 hle2 hsl2 hno2 => ?_); have hrN := B2c (k := 6) ⟨by decide, by decide⟩ zV (hre2'.mono (hle1.trans hle2)) (hrw.mono hle2) hsl2; refine E1 rfl rfl (A2Q _ d9.cn G2 _ _ hrN (hre4.mono (hle1.trans hle2))) rfl rfl rfl (fun v G3 hle3 hh => ?_); obtain ⟨vc, rfl, hrv⟩ := hh; have hvl := hrv.len; have hvo := hrv.one)
  refine A1 14 ?_
  (refine oS rfl rfl rfl rfl hvl hvo rfl rfl ?_ (hu := by exact C6 hvl.symm))
  refine aP 15 rfl (qA rfl) rfl ?_
  refine aP 16 rfl (qA rfl) rfl ?_
  refine A9 ?_
  refine H5 (rC rfl (A5 rfl rfl (B7 zP) hvl)) (rT rfl) (rT rfl) ?_
  (have hq := hq7; exact R0.ok (t := .conv d9 (.app (.lam x B e) (.conv c9 w))) hst hrv)
) : p := h
theorem y35 {p : Prop} (h : p := by
  refine sS rfl rfl rfl hlt hot rfl ?_ (hu := by exact C6 hlt.symm)
  refine E7 ?_
  refine sQ (A1H rfl rfl rfl) rfl ?_
  refine F8 ?_
  refine sL (A5 rfl rfl (B7 zP) hlx) rfl rfl ?_
  refine sL (A5 rfl rfl (B7 zP) hly) rfl rfl ?_
  refine E6 rfl (hSm) rfl rfl ?_
  refine P6 ?_
  refine sQ (A7j rfl rfl rfl) rfl ?_
  refine F8 ?_
  refine sL (A5 rfl rfl (B7 zP) hlx) rfl rfl ?_
  refine sL (A5 rfl rfl (B7 zP) hly) rfl rfl ?_
  refine E6 rfl (hSm) rfl rfl ?_
  refine B5 ?_
  (exact ⟨rfl, rfl⟩)
) : p := h
theorem y36 {p : Prop} (h : p := by
  refine E7 ?_
  (refine F9 rfl (hIO zW i hiC zW hj zT) rfl rfl (fun v G1 hle1 hh => ?_); obtain ⟨vc, n1, rfl, hrv, hn1⟩ := hh; have hvl := hrv.len; have hvo := hrv.one)
  refine B3 ?_
  refine sS rfl rfl rfl hvl hvo rfl ?_ (hu := by exact C6 hvl.symm)
  refine I2 ?_
  refine H5 (rC rfl (A5 rfl rfl (B7 zP) hvl)) (rT rfl) (rT rfl) ?_
  (exact ⟨rfl, vc, n1, rfl, hrv, hn1⟩)
) : p := h
theorem At.pfx {hp : List A6} {G : IM} {b o : Nat} {l1 l2 : List Value} (h : At hp G b o (l1 ++ l2)) : At hp G b (o + 0) l1 := by
 have key : ∀ {cs : List Value}, (∀ i u, (l1 ++ l2)[i]? = some u → cs[o + i]? = some u) → ∀ i u, l1[i]? = some u → cs[o + 0 + i]? = some u := by
  intro cs hc i u hu
  have hi : i < l1.length := (List.getElem?_eq_some_iff.1 hu).1
  exact hc i u (by rw [List.getElem?_append, if_pos hi]; exact hu)
 rcases h with ⟨cs, hm, hv⟩ | ⟨n, c, el, sz, cs, hm, hv⟩ | ⟨full, hg, hv⟩
 ·exact .inl ⟨cs, hm, key hv⟩
 ·exact .inr (.inl ⟨n, c, el, sz, cs, hm, key hv⟩)
 ·exact .inr (.inr ⟨full, hg, key hv⟩)
theorem A7L {nm : ByteArray} {num kd tg lb : Int} {cks : List Cn} {ks : List Nt} {G : IM} {cells : List Value} (hr : E2 G (.mk 14 nm num (.mk kd tg lb cks) ks) cells) : Fn Tryz.prog 69 [.agg ⟨cells⟩, .int .i64 kd] [] G (J5 (.bool true) G) := by
 have h := A5E _ kd G cells hr
 rw [show decide ((Nt.mk 14 nm num (.mk kd tg lb cks) ks).k = 14 ∧ (Nt.mk 14 nm num (.mk kd tg lb cks) ks).co.k = kd) = true from decide_eq_true ⟨rfl, rfl⟩] at h
 exact h
theorem B2c {G : IM} {t u : Nt} {k : Int} {v1 v2 v3 v4 v5 v6 v7 v8 v9 w1 w2 w3 w4 w5 x1 x2 x3 x4 x5 x6 x7 x8 x9 y1 y2 y3 y4 y5 : Value} {p : Option Addr} {cp : Nat} (hk : E8 k) (hk4 : k ≠ 14) (h : E2 G t [v1, v2, v3, v4, v5, v6, v7, v8, v9, w1, w2, w3, w4, w5]) (h' : E2 G u [x1, x2, x3, x4, x5, x6, x7, x8, x9, y1, y2, y3, y4, y5])
  (hs : Sl G p 2 cp 14 [v1, v2, v3, v4, v5, v6, v7, v8, v9, w1, w2, w3, w4, w5, x1, x2, x3, x4, x5, x6, x7, x8, x9, y1, y2, y3, y4, y5]) :
  E2 G (.mk k ⟨⟨[]⟩⟩ 0 P2 [t, u]) [.int .i64 k, .string ⟨⟨[]⟩⟩, .int .i64 0, .int .i64 0, .slice none 0 0, .int .i64 0, .slice none 0 0, .int .i64 0, .slice none 0 0, .int .i64 0, .int .i64 0, .int .i64 0, .slice none 0 0, .slice p 2 cp] :=
 .mk (tks := []) (fks := []) (ks := [t, u]) (es := [[v1, v2, v3, v4, v5, v6, v7, v8, v9, w1, w2, w3, w4, w5], [x1, x2, x3, x4, x5, x6, x7, x8, x9, y1, y2, y3, y4, y5]]) (A7w _ hk ⟨by decide, by decide⟩) (A3u G) zX (fun h => absurd h hk4) (D0.of hs rfl (by intro x hx; simp only [List.mem_cons, List.not_mem_nil, or_false] at hx; rcases hx with rfl | rfl <;> rfl) (by intro x hx; simp only [List.mem_cons, List.not_mem_nil, or_false] at hx; rcases hx with rfl | rfl; exact h.one; exact h'.one)) (KR.cons h (KR.cons h' KR.nil))
theorem A3y {G : IM} {k num : Int} {nm : ByteArray} {tk fk lb : Int} {tks fks : List Ty} {pt pf p0 : Option Addr} {ct cf c0 : Nat} (hnd : B6 G (.mk k nm num (.mk tk tks) (.mk fk fks) lb []) [.int .i64 k, .string nm, .int .i64 num, .int .i64 tk, .slice pt tks.length ct, .int .i64 fk, .slice pf fks.length cf, .int .i64 lb, .slice p0 0 c0]) (hk4 : k ≠ 14) :
  E2 G (.mk k nm num P2 []) [.int .i64 k, .string nm, .int .i64 num, .int .i64 tk, .slice pt tks.length ct, .int .i64 fk, .slice pf fks.length cf, .int .i64 lb, .slice p0 0 c0, .int .i64 0, .int .i64 0, .int .i64 0, .slice none 0 0, .slice none 0 0] :=
 E2.put' (us := []) (es := []) hnd (A3u G) zV (fun h => absurd h hk4) rfl (D0.nil _ _) KR.nil
theorem A3z {G : IM} {a b : Tm} {k : Int} {v1 v2 v3 v4 v5 v6 v7 v8 v9 x1 x2 x3 x4 x5 x6 x7 x8 x9 : Value} {p : Option Addr} {cp : Nat} (hk : E8 k) (h : B6 G a [v1, v2, v3, v4, v5, v6, v7, v8, v9]) (h' : B6 G b [x1, x2, x3, x4, x5, x6, x7, x8, x9]) (hs : Sl G p 2 cp 9 [v1, v2, v3, v4, v5, v6, v7, v8, v9, x1, x2, x3, x4, x5, x6, x7, x8, x9]) :
  B6 G (.mk k ⟨⟨[]⟩⟩ 0 (.mk 0 []) (.mk 0 []) 0 [a, b]) [.int .i64 k, .string ⟨⟨[]⟩⟩, .int .i64 0, .int .i64 0, .slice none 0 0, .int .i64 0, .slice none 0 0, .int .i64 0, .slice p 2 cp] :=
 A9u (ks := [a, b]) (es := [[v1, v2, v3, v4, v5, v6, v7, v8, v9], [x1, x2, x3, x4, x5, x6, x7, x8, x9]]) hk rfl (D0.of hs rfl (by intro x hx; simp only [List.mem_cons, List.not_mem_nil, or_false] at hx; rcases hx with rfl | rfl <;> rfl) (by intro x hx; simp only [List.mem_cons, List.not_mem_nil, or_false] at hx; rcases hx with rfl | rfl; exact h.one; exact h'.one)) (by simp only [H3]; exact ⟨_, _, rfl, h, _, _, rfl, h', rfl⟩)
theorem A3A (k : Int) (m n : Int) (tyA frA tyB frB : Ty) (lbA lbB : Int) (G : IM) (cells : List Value) (hk78 : k = 7 ∨ k = 8) (hm : 0 ≤ m ∧ m ≤ 999) (hn : 0 ≤ n ∧ n ≤ 999) (hr : B6 G (.mk k ⟨⟨[]⟩⟩ 0 (.mk 0 []) (.mk 0 []) 0 [.mk 2 ⟨⟨[]⟩⟩ m tyA frA lbA [], .mk 2 ⟨⟨[]⟩⟩ n tyB frB lbB []]) cells) : Fn Tryz.prog 76 [.agg ⟨cells⟩] [] G (K1 fun G' v => ∃ uc, v = .tuple ⟨[.agg ⟨uc⟩, .int .i64 1]⟩ ∧ B6 G' (if k = 7 then A44 ((m + n) % 1000) else A0i (m < n)) uc) := by
 obtain ⟨atk, atks⟩ := tyA
 obtain ⟨afk, afks⟩ := frA
 obtain ⟨btk, btks⟩ := tyB
 obtain ⟨bfk, bfks⟩ := frB
 obtain ⟨pt, ct, pf, cf, p, c, es, rfl, hk, hnum, hlb, hty, hfr, hsl, hkl⟩ := hr.open9
 obtain ⟨bx, ox, e0, rfl, hl0, hat0, hre0, hgb0⟩ := hsl.kidTm hkl (i := 0) zX zX
 replace hre0 : B6 G (.mk 2 ⟨⟨[]⟩⟩ m (.mk atk atks) (.mk afk afks) lbA []) e0 := hre0
 obtain ⟨apt, act, apf, acf, ap, ac, aes, rfl, hak, hanum, halb, haty, hafr, hasl, hakl⟩ := hre0.open9
 obtain ⟨_, _, e1, hp1, hl1, hat1, hre1, hgb1⟩ := hsl.kidTm hkl (i := 1) zX zX
 cases hp1
 replace hre1 : B6 G (.mk 2 ⟨⟨[]⟩⟩ n (.mk btk btks) (.mk bfk bfks) lbB []) e1 := hre1
 obtain ⟨bpt, bct, bpf, bcf, bp, bc, bes, rfl, hbk, hbnum, hblb, hbty, hbfr, hbsl, hbkl⟩ := hre1.open9
 have hL : ([Tm.mk 2 ⟨⟨[]⟩⟩ m (.mk atk atks) (.mk afk afks) lbA [], Tm.mk 2 ⟨⟨[]⟩⟩ n (.mk btk btks) (.mk bfk bfks) lbB []] : List Tm).length = 2 := rfl
 have htm : (m + n).tmod 1000 = (m + n) % 1000 := B5j hm hn
 have hb : E8 ((m + n) % 1000) := ⟨by omega, by omega⟩
 refine C7 Tryz.func76 rfl Tryz.ntmps76 Tryz.results76 rfl ?_
 intro w0
 refine A4 ?_
 refine sE (D5 rfl rfl) rfl (fun b3 => ?_)
 refine sE (A8 rfl) rfl (fun b4 => ?_)
 refine A7 ?_
 refine sE (A8 rfl) rfl (fun b11 => ?_)
 refine D9 ?_
 refine sP (A72 rfl rfl zW) rfl rfl ?_
 refine A7 ?_
 refine sP (B1 (j := 0) rfl rfl rfl zX) rfl rfl ?_
 refine sL (A5 rfl rfl (hat0 _) rfl) rfl rfl ?_
 refine I2 ?_
 refine C2 ?_
 refine A4 ?_
 refine sP (F0 rfl rfl zW) rfl rfl ?_
 refine B5 ?_
 refine sB (qE rfl rfl) rfl rfl (fun h51 => ?_) (fun h51 => ?_)
 refine I3 ?_
 refine sP (B1 (j := 1) rfl rfl rfl zX) rfl rfl ?_
 refine sL (A5 rfl rfl (hat1 _) rfl) rfl rfl ?_
 refine sE (A8 rfl) rfl (fun b65 => ?_)
 refine B3 ?_
 refine C2 ?_
 refine C3 ?_
 refine sP (A0Z rfl rfl zW) rfl rfl ?_
 refine B3 ?_
 refine sP (A0Z rfl rfl zW) rfl rfl ?_
 refine D9 ?_
 refine sP (L9 rfl rfl zW) rfl rfl ?_
 refine I2 ?_
 refine sP (K9 rfl rfl zW zW) rfl rfl ?_
 refine sP (A4u rfl rfl zW) rfl rfl ?_
 refine F8 ?_
 (rw [htm]; refine sS' ?_)
 refine B5 ?_
 refine E0 (rC rfl (A3 rfl rfl)) (rT rfl) ?_
 (exact ⟨rfl, _, rfl, by rw [if_pos zW]; exact B6.put (us := []) ⟨by decide, by decide⟩ hb ⟨by decide, by decide⟩ (A1Z _) (A1Z _) rfl (D0.nil _ _) rfl⟩)
 refine A9 ?_
 refine sP (L9 rfl rfl zW) rfl rfl ?_
 refine E7 ?_
 refine sP (B1 (j := 1) rfl rfl rfl zX) rfl rfl ?_
 refine sL (A5 rfl rfl (hat1 _) rfl) rfl rfl ?_
 refine sE (A8 rfl) rfl (fun b128 => ?_)
 refine B3 ?_
 refine C2 ?_
 refine C3 ?_
 refine sP (A0Z rfl rfl zW) rfl rfl ?_
 refine B3 ?_
 refine sP (A0Z rfl rfl zW) rfl rfl ?_
 refine D9 ?_
 refine sP (F0 rfl rfl zW) rfl rfl ?_
 refine I2 ?_
 (refine sB (K6 rfl rfl) rfl rfl (fun h162 => ?_) (fun h162 => ?_))
 (refine F9 rfl (B0o _ _) rfl rfl (fun u G1 hle1 hh => ?_); obtain ⟨uc, rfl, hru⟩ := hh; have hul := hru.len; have huo := hru.one)
 refine sS rfl rfl rfl hul huo rfl ?_ (hu := by exact C6 hul.symm)
 refine B5 ?_
 refine E0 (rC rfl (A5 rfl rfl (B7 zP) hul)) (rT rfl) ?_
 (exact ⟨rfl, _, rfl, by rw [if_neg zW]; unfold A0i at hru ⊢; rw [if_pos rfl] at hru; rw [if_pos zW]; exact hru⟩)
 (refine F9 rfl (B0o _ _) rfl rfl (fun u G1 hle1 hh => ?_); obtain ⟨uc, rfl, hru⟩ := hh; have hul := hru.len; have huo := hru.one)
 refine sS rfl rfl rfl hul huo rfl ?_ (hu := by exact C6 hul.symm)
 refine B5 ?_
 refine E0 (rC rfl (A5 rfl rfl (B7 zP) hul)) (rT rfl) ?_
 (exact ⟨rfl, _, rfl, by rw [if_neg zW]; unfold A0i at hru ⊢; rw [if_neg zV] at hru; rw [if_neg zW]; exact hru⟩)
theorem A2k (t : TH) (ih : ∀ u ∈ t.kids, A5I u) : A5I t := by
 intro G cells A hT hv hnk hr
 have hone : True := trivial
 have hr0 := hr
 have hkn := B7V hnk
 obtain ⟨k, nm, num, ck, ctg, clb, cks, ks, ht⟩ := A3x t
 have hks := B2a ht
 have hlen : ks.length = t.kids.length := by rw [hks, List.length_map]
 have hCo : k = 14 → Fn Tryz.prog 72 [.agg ⟨cells⟩] [] G (R0 t.stp) := by
  intro h
  obtain ⟨c, e, rfl, _⟩ := @A7z t nm num (.mk ck ctg clb cks) ks (by rw [← h]; exact ht)
  exact B7Y c e G cells A hT hnk (ih e List.mem_cons_self) hr0
 have hIO : k ≠ 14 → ∀ i, i < t.cnt → (hl : i < t.kids.length) → (∀ j, j < i → (h : j < t.kids.length) → t.kids[j].val = true) → t.kids[i].val = false → Fn Tryz.prog 73 [.agg ⟨cells⟩, .int .i64 (i : Int)] [] G (R0 t.stp) := by
  intro h i hi hl hj hn
  obtain ⟨hK, B, hB⟩ := B70 hT (A5y ht h) hv hi hl hj hn
  exact B2b t _ i G cells hK (fun G' cs h' => ih _ (List.getElem_mem hl) G' cs B hB hn (hkn _ (List.getElem_mem hl)) h') hr0
 have hnc := fun (h : k ≠ 14) => A5y ht h
 have hcn9 := B7Z ht
 obtain ⟨C, hC⟩ : ∃ C : Nat, t.cnt = C := ⟨_, rfl⟩
 have hC1 : k = 9 → C = 1 := fun h => by rw [← hC, hcn9, if_pos h]
 have hC2 : k ≠ 9 → C = ks.length := fun h => by rw [← hC, hcn9, if_neg h]
 have hC9 : C ≤ ks.length := by
  by_cases h9 : k = 9
  ·have h1 := hC1 h9
   have h2 : 1 ≤ t.kids.length := by
    cases t <;> simp only [TH.nt, Nt.mk.injEq] at ht <;> first | (exfalso; omega) | (show 1 ≤ 3; decide) | (exfalso; have := ht.1; split at this <;> omega)
   omega
  ·exact Nat.le_of_eq (hC2 h9)
 have hVal : ∀ i, (h : i < ks.length) → (h' : i < t.kids.length) → ∀ e, E2 G ks[i] e → Fn Tryz.prog 34 [.agg ⟨e⟩] [] G (J5 (.bool t.kids[i].val) G) := by
  intro i h h' e he
  refine (A7H _).2 G e ?_
  have : ks[i] = t.kids[i].nt := by subst hks; rw [List.getElem_map]
  rw [← this]; exact he
 rw [ht] at hr
 rw [hC] at hIO
 have hred := fun (h : k ≠ 14) => @B71 t A hT (hnc h) hv
 rw [hC] at hred
 obtain ⟨tk, tks, fk, fks, lb, pt, ct, pf, cf, p0, c0, pc, cc, p, c, es, rfl, hnd, hco, hn3, h14, hsl, hkl⟩ := hr.open14
 have hn := hsl.le
 have hnc' := hsl.sl.2.1
 refine C7 Tryz.func36 rfl Tryz.ntmps36 Tryz.results36 rfl ?_
 intro w0
 refine A4 ?_
 refine sE (D5 rfl rfl) rfl (fun b3 => ?_)
 refine sE (A8 rfl) rfl (fun b4 => ?_)
 refine I2 ?_
 refine sB (qE rfl rfl) rfl rfl (fun h15 => ?_) (fun h15 => ?_)
 refine A7 ?_
 (refine F9 rfl (hCo zW) rfl rfl (fun v G1 hle1 hh => ?_); obtain ⟨vc, n1, rfl, hrv, hn1⟩ := hh; have hvl := hrv.len; have hvo := hrv.one)
 refine B3 ?_
 refine sS rfl rfl rfl hvl hvo rfl ?_ (hu := by exact C6 hvl.symm)
 refine A7 ?_
 refine H5 (rC rfl (A5 rfl rfl (B7 zP) hvl)) (rT rfl) (rT rfl) ?_
 (exact ⟨rfl, vc, n1, rfl, hrv, hn1⟩)
 refine A01 ?_
 refine sB (qE rfl rfl) rfl rfl (fun h54 => ?_) (fun h54 => ?_)
 refine A4 ?_
 (show I9 _ _ (.cond (.tmp 28) _ _) _ _; refine Z3 (fun (_ : Unit) => ⟨[(5, .int .i64 (C : Int)), (1, .pointer (some ⟨b3, 0, none⟩)), (2, .pointer (some ⟨b4, 0, none⟩))], [.blk b4 [.int .i64 0, .string ⟨⟨[]⟩⟩, .int .i64 0, .int .i64 0, .slice none 0 0, .int .i64 0, .slice none 0 0, .int .i64 0, .slice none 0 0, .int .i64 0, .int .i64 0, .int .i64 0, .slice none 0 0, .slice none 0 0], .blk b3 [.int .i64 k, .string nm, .int .i64 num, .int .i64 tk, .slice pt tks.length ct, .int .i64 fk, .slice pf fks.length cf, .int .i64 lb, .slice p0 0 c0, .int .i64 ck, .int .i64 ctg, .int .i64 clb, .slice pc cks.length cc, .slice p ks.length c]], G⟩) (fun _ => True) (qT rfl ?_) ?_)
 refine B3 ?_
 (have hCC := hC1 zW; subst hCC; refine P1 () (O3 zM zI) trivial)
 (rintro (_ : Unit) _)
 refine A7 ?_
 refine sP (A6e (l := C) rfl rfl rfl zW) rfl rfl ?_
 refine C3 ?_
 refine C2 ?_
 (refine L4 (fun (i : Nat) => ⟨[(34, .int .i64 (i : Int)), (33, .int .i64 (C : Int)), (32, .slice p C c), (5, .int .i64 (C : Int)), (1, .pointer (some ⟨b3, 0, none⟩)), (2, .pointer (some ⟨b4, 0, none⟩))], [.blk b4 [.int .i64 0, .string ⟨⟨[]⟩⟩, .int .i64 0, .int .i64 0, .slice none 0 0, .int .i64 0, .slice none 0 0, .int .i64 0, .slice none 0 0, .int .i64 0, .int .i64 0, .int .i64 0, .slice none 0 0, .slice none 0 0], .blk b3 [.int .i64 k, .string nm, .int .i64 num, .int .i64 tk, .slice pt tks.length ct, .int .i64 fk, .slice pf fks.length cf, .int .i64 lb, .slice p0 0 c0, .int .i64 ck, .int .i64 ctg, .int .i64 clb, .slice pc cks.length cc, .slice p ks.length c]], G⟩) (fun i => i ≤ C ∧ ∀ j, j < i → (h : j < t.kids.length) → t.kids[j].val = true) (fun i => C - i) 0 ?_ ?_ ?_)
 exact E3
 (exact ⟨Nat.zero_le _, fun j hj => absurd hj (Nat.not_lt_zero j)⟩)
 (rintro i ⟨hi, hj⟩)
 refine A4 ?_
 refine sB (K6 rfl rfl) rfl rfl (fun h81 => ?_) (fun h81 => ?_)
 refine B5 ?_
 refine C2 ?_
 refine B3 ?_
 (have hiC : i < C := zW; obtain ⟨bx, ox, ei, rfl, hli, hoi, hati, hrei, _, hgbi⟩ := hsl.kidR hkl (i := i) zW zW; have hVi := hVal i zW zW ei hrei; refine sP (B1 (j := i) rfl rfl rfl hiC) rfl rfl ?_)
 refine sL (A5 rfl rfl (hati _) hli) rfl rfl ?_
 refine sE (A8 rfl) rfl (fun b95 => ?_)
 refine F8 ?_
 refine sS rfl rfl rfl hli hoi rfl ?_ (hu := by exact C6 hli.symm)
 refine C3 ?_
 refine sL (A5 rfl rfl (B7 zP) hli) rfl rfl ?_
 refine J0 rfl (hVi) rfl rfl (fun h103 => ?_) (fun h103 => ?_)
 refine E7 ?_
 refine sP (K9 rfl rfl zW zW) rfl rfl ?_
 refine A4 ?_
 refine K3 (i + 1) ?_ ?_ ?_
 exact E3
 (exact ⟨by omega, fun j hji hl2 => (by by_cases he : j = i; (subst he; assumption); exact hj j zW hl2)⟩)
 (show C - (i + 1) < C - i; omega)
 exact y36
 refine I3 ?_
 focus (have hone2 := hone; clear hone; have hA := hred zW (fun j hjc hl => hj j zW hl); rcases hA with ⟨x, B, e, w, rfl, hst⟩ | ⟨c9, d9, x, B, e, w, rfl, hst⟩ | ⟨s, m, n, rfl, hst⟩ | ⟨s, x, y, rfl, hst⟩ | ⟨s, a, b, rfl, hst⟩ | ⟨s, c9, d9, a, b, rfl, hst⟩; simp only [TH.nt, P2, Nt.mk.injEq, Cn.mk.injEq, if_true, Bool.false_eq_true, if_false] at ht; obtain ⟨rfl, rfl, rfl, ⟨rfl, rfl, rfl, rfl⟩, rfl⟩ := ht; have hq1 : True := trivial; obtain ⟨b0, o0, e0, rfl, hl0, ho0, hat0, hre0, _, hgb0⟩ := hsl.kidR hkl (i := 0) zX zX; replace hre0 : E2 G (.mk 5 x 0 (.mk 0 0 0 []) [e.nt]) e0 := hre0; obtain ⟨_, _, e1, hE1, hl1, ho1, hat1, hre1, _, hgb1⟩ := hsl.kidR hkl (i := 1) zX zX; cases hE1; replace hre1 : E2 G w.nt e1 := hre1; obtain ⟨tkA, tksA, fkA, fksA, lbA, ptA, ctA, pfA, cfA, p0A, c0A, pcA, ccA, pA, cA, esA, rfl, hndA, hcoA, _, _, hslA, hklA⟩ := hre0.open14; obtain ⟨b2, o2, e2, rfl, hl2, ho2, hat2, hre2, _, hgb2⟩ := hslA.kidR hklA (i := 0) zX zX; replace hre2 : E2 G e.nt e2 := hre2; rotate_left; simp only [TH.nt, P2, Nt.mk.injEq, Cn.mk.injEq, if_true, Bool.false_eq_true, if_false] at ht; obtain ⟨rfl, rfl, rfl, ⟨rfl, rfl, rfl, rfl⟩, rfl⟩ := ht; have hq2 : True := trivial; obtain ⟨b0, o0, e0, rfl, hl0, ho0, hat0, hre0, _, hgb0⟩ := hsl.kidR hkl (i := 0) zX zX; replace hre0 : E2 G (.mk 14 ⟨⟨[]⟩⟩ 0 (.mk 2 0 0 [c9.cn, d9.cn]) [(.mk 5 x 0 (.mk 0 0 0 []) [e.nt])]) e0 := hre0; obtain ⟨_, _, e1, hE1, hl1, ho1, hat1, hre1, _, hgb1⟩ := hsl.kidR hkl (i := 1) zX zX; cases hE1; replace hre1 : E2 G w.nt e1 := hre1; have hre0' := hre0; obtain ⟨tkA, tksA, fkA, fksA, lbA, ptA, ctA, pfA, cfA, p0A, c0A, pcA, ccA, pA, cA, esA, rfl, hndA, hcoA, _, _, hslA, hklA⟩ := hre0.open14; obtain ⟨b2, o2, e2, rfl, hl2, ho2, hat2, hre2, _, hgb2⟩ := hslA.kidR hklA (i := 0) zX zX; replace hre2 : E2 G (.mk 5 x 0 (.mk 0 0 0 []) [e.nt]) e2 := hre2; have hre2' := hre2; obtain ⟨tkB, tksB, fkB, fksB, lbB, ptB, ctB, pfB, cfB, p0B, c0B, pcB, ccB, pB, cB, esB, rfl, hndB, hcoB, _, _, hslB, hklB⟩ := hre2.open14; obtain ⟨_, _, esc, hEc, _, _, _, _, _, _, hslc, hklc⟩ := hcoA.open4; cases hEc; obtain ⟨b3, o3, e3, rfl, hl3, ho3, hat3, hre3, _, hgb3⟩ := hslc.kidR hklc (i := 0) zX zX; replace hre3 : J4 G c9.cn e3 := hre3; obtain ⟨_, _, e4, hE4, hl4, ho4, hat4, hre4, _, hgb4⟩ := hslc.kidR hklc (i := 1) zX zX; cases hE4; replace hre4 : J4 G d9.cn e4 := hre4; rotate_left; cases s; simp only [TH.nt, P2, Nt.mk.injEq, Cn.mk.injEq, if_true, Bool.false_eq_true, if_false] at ht; obtain ⟨rfl, rfl, rfl, ⟨rfl, rfl, rfl, rfl⟩, rfl⟩ := ht; have hq3 : True := trivial; obtain ⟨b0, o0, e0, rfl, hl0, ho0, hat0, hre0, _, hgb0⟩ := hsl.kidR hkl (i := 0) zX zX; replace hre0 : E2 G (.mk 2 ⟨⟨[]⟩⟩ m (.mk 0 0 0 []) []) e0 := hre0; obtain ⟨_, _, e1, hE1, hl1, ho1, hat1, hre1, _, hgb1⟩ := hsl.kidR hkl (i := 1) zX zX; cases hE1; replace hre1 : E2 G (.mk 2 ⟨⟨[]⟩⟩ n (.mk 0 0 0 []) []) e1 := hre1; obtain ⟨tkA, tksA, fkA, fksA, lbA, ptA, ctA, pfA, cfA, p0A, c0A, pcA, ccA, pA, cA, esA, rfl, hndA, hcoA, _, _, hslA, hklA⟩ := hre0.open14; obtain ⟨tkB, tksB, fkB, fksB, lbB, ptB, ctB, pfB, cfB, p0B, c0B, pcB, ccB, pB, cB, esB, rfl, hndB, hcoB, _, _, hslB, hklB⟩ := hre1.open14; replace hat1 := fun hp => At.pfx (l1 := [.int .i64 2, .string ⟨⟨[]⟩⟩, .int .i64 n, .int .i64 tkB, .slice ptB tksB.length ctB, .int .i64 fkB, .slice pfB fksB.length cfB, .int .i64 lbB, .slice p0B 0 c0B]) (l2 := [.int .i64 0, .int .i64 0, .int .i64 0, .slice pcB 0 ccB, .slice pB 0 cB]) (hat1 hp); rotate_left; simp only [TH.nt, P2, Nt.mk.injEq, Cn.mk.injEq, if_true, Bool.false_eq_true, if_false] at ht; obtain ⟨rfl, rfl, rfl, ⟨rfl, rfl, rfl, rfl⟩, rfl⟩ := ht; have hq3 : True := trivial; obtain ⟨b0, o0, e0, rfl, hl0, ho0, hat0, hre0, _, hgb0⟩ := hsl.kidR hkl (i := 0) zX zX; replace hre0 : E2 G (.mk 2 ⟨⟨[]⟩⟩ m (.mk 0 0 0 []) []) e0 := hre0; obtain ⟨_, _, e1, hE1, hl1, ho1, hat1, hre1, _, hgb1⟩ := hsl.kidR hkl (i := 1) zX zX; cases hE1; replace hre1 : E2 G (.mk 2 ⟨⟨[]⟩⟩ n (.mk 0 0 0 []) []) e1 := hre1; obtain ⟨tkA, tksA, fkA, fksA, lbA, ptA, ctA, pfA, cfA, p0A, c0A, pcA, ccA, pA, cA, esA, rfl, hndA, hcoA, _, _, hslA, hklA⟩ := hre0.open14; obtain ⟨tkB, tksB, fkB, fksB, lbB, ptB, ctB, pfB, cfB, p0B, c0B, pcB, ccB, pB, cB, esB, rfl, hndB, hcoB, _, _, hslB, hklB⟩ := hre1.open14; replace hat1 := fun hp => At.pfx (l1 := [.int .i64 2, .string ⟨⟨[]⟩⟩, .int .i64 n, .int .i64 tkB, .slice ptB tksB.length ctB, .int .i64 fkB, .slice pfB fksB.length cfB, .int .i64 lbB, .slice p0B 0 c0B]) (l2 := [.int .i64 0, .int .i64 0, .int .i64 0, .slice pcB 0 ccB, .slice pB 0 cB]) (hat1 hp); rotate_left; cases s; simp only [TH.nt, P2, Nt.mk.injEq, Cn.mk.injEq, if_true, Bool.false_eq_true, if_false] at ht; obtain ⟨rfl, rfl, rfl, ⟨rfl, rfl, rfl, rfl⟩, rfl⟩ := ht; have hq4 : True := trivial; obtain ⟨b0, o0, e0, rfl, hl0, ho0, hat0, hre0, _, hgb0⟩ := hsl.kidR hkl (i := 0) zX zX; replace hre0 : E2 G (.mk 4 ⟨⟨[]⟩⟩ 0 (.mk 0 0 0 []) []) e0 := hre0; obtain ⟨_, _, e1, hE1, hl1, ho1, hat1, hre1, _, hgb1⟩ := hsl.kidR hkl (i := 1) zX zX; cases hE1; replace hre1 : E2 G x.nt e1 := hre1; obtain ⟨_, _, e2, hE2, hl2, ho2, hat2, hre2, _, hgb2⟩ := hsl.kidR hkl (i := 2) zX zX; cases hE2; replace hre2 : E2 G y.nt e2 := hre2; obtain ⟨tkA, tksA, fkA, fksA, lbA, ptA, ctA, pfA, cfA, p0A, c0A, pcA, ccA, pA, cA, esA, rfl, hndA, hcoA, _, _, hslA, hklA⟩ := hre0.open14; rotate_left; simp only [TH.nt, P2, Nt.mk.injEq, Cn.mk.injEq, if_true, Bool.false_eq_true, if_false] at ht; obtain ⟨rfl, rfl, rfl, ⟨rfl, rfl, rfl, rfl⟩, rfl⟩ := ht; have hq4 : True := trivial; obtain ⟨b0, o0, e0, rfl, hl0, ho0, hat0, hre0, _, hgb0⟩ := hsl.kidR hkl (i := 0) zX zX; replace hre0 : E2 G (.mk 3 ⟨⟨[]⟩⟩ 0 (.mk 0 0 0 []) []) e0 := hre0; obtain ⟨_, _, e1, hE1, hl1, ho1, hat1, hre1, _, hgb1⟩ := hsl.kidR hkl (i := 1) zX zX; cases hE1; replace hre1 : E2 G x.nt e1 := hre1; obtain ⟨_, _, e2, hE2, hl2, ho2, hat2, hre2, _, hgb2⟩ := hsl.kidR hkl (i := 2) zX zX; cases hE2; replace hre2 : E2 G y.nt e2 := hre2; obtain ⟨tkA, tksA, fkA, fksA, lbA, ptA, ctA, pfA, cfA, p0A, c0A, pcA, ccA, pA, cA, esA, rfl, hndA, hcoA, _, _, hslA, hklA⟩ := hre0.open14; rotate_left; cases s; simp only [TH.nt, P2, Nt.mk.injEq, Cn.mk.injEq, if_true, Bool.false_eq_true, if_false] at ht; obtain ⟨rfl, rfl, rfl, ⟨rfl, rfl, rfl, rfl⟩, rfl⟩ := ht; have hq5 : True := trivial; obtain ⟨b0, o0, e0, rfl, hl0, ho0, hat0, hre0, _, hgb0⟩ := hsl.kidR hkl (i := 0) zX zX; replace hre0 : E2 G (.mk 10 ⟨⟨[]⟩⟩ 0 (.mk 0 0 0 []) [a.nt, b.nt]) e0 := hre0; obtain ⟨tkA, tksA, fkA, fksA, lbA, ptA, ctA, pfA, cfA, p0A, c0A, pcA, ccA, pA, cA, esA, rfl, hndA, hcoA, _, _, hslA, hklA⟩ := hre0.open14; obtain ⟨b1, o1, e1, rfl, hl1, ho1, hat1, hre1, _, hgb1⟩ := hslA.kidR hklA (i := 0) zX zX; replace hre1 : E2 G a.nt e1 := hre1; obtain ⟨_, _, e2, hE2, hl2, ho2, hat2, hre2, _, hgb2⟩ := hslA.kidR hklA (i := 1) zX zX; cases hE2; replace hre2 : E2 G b.nt e2 := hre2; rotate_left; simp only [TH.nt, P2, Nt.mk.injEq, Cn.mk.injEq, if_true, Bool.false_eq_true, if_false] at ht; obtain ⟨rfl, rfl, rfl, ⟨rfl, rfl, rfl, rfl⟩, rfl⟩ := ht; have hq5 : True := trivial; obtain ⟨b0, o0, e0, rfl, hl0, ho0, hat0, hre0, _, hgb0⟩ := hsl.kidR hkl (i := 0) zX zX; replace hre0 : E2 G (.mk 10 ⟨⟨[]⟩⟩ 0 (.mk 0 0 0 []) [a.nt, b.nt]) e0 := hre0; obtain ⟨tkA, tksA, fkA, fksA, lbA, ptA, ctA, pfA, cfA, p0A, c0A, pcA, ccA, pA, cA, esA, rfl, hndA, hcoA, _, _, hslA, hklA⟩ := hre0.open14; obtain ⟨b1, o1, e1, rfl, hl1, ho1, hat1, hre1, _, hgb1⟩ := hslA.kidR hklA (i := 0) zX zX; replace hre1 : E2 G a.nt e1 := hre1; obtain ⟨_, _, e2, hE2, hl2, ho2, hat2, hre2, _, hgb2⟩ := hslA.kidR hklA (i := 1) zX zX; cases hE2; replace hre2 : E2 G b.nt e2 := hre2; rotate_left; cases s; simp only [TH.nt, P2, Nt.mk.injEq, Cn.mk.injEq, if_true, Bool.false_eq_true, if_false] at ht; obtain ⟨rfl, rfl, rfl, ⟨rfl, rfl, rfl, rfl⟩, rfl⟩ := ht; have hq6 : True := trivial; obtain ⟨b0, o0, e0, rfl, hl0, ho0, hat0, hre0, _, hgb0⟩ := hsl.kidR hkl (i := 0) zX zX; replace hre0 : E2 G (.mk 14 ⟨⟨[]⟩⟩ 0 (.mk 3 0 0 [c9.cn, d9.cn]) [(.mk 10 ⟨⟨[]⟩⟩ 0 (.mk 0 0 0 []) [a.nt, b.nt])]) e0 := hre0; have hre0' := hre0; obtain ⟨tkA, tksA, fkA, fksA, lbA, ptA, ctA, pfA, cfA, p0A, c0A, pcA, ccA, pA, cA, esA, rfl, hndA, hcoA, _, _, hslA, hklA⟩ := hre0.open14; obtain ⟨b2, o2, e2, rfl, hl2, ho2, hat2, hre2, _, hgb2⟩ := hslA.kidR hklA (i := 0) zX zX; replace hre2 : E2 G (.mk 10 ⟨⟨[]⟩⟩ 0 (.mk 0 0 0 []) [a.nt, b.nt]) e2 := hre2; have hre2' := hre2; obtain ⟨tkB, tksB, fkB, fksB, lbB, ptB, ctB, pfB, cfB, p0B, c0B, pcB, ccB, pB, cB, esB, rfl, hndB, hcoB, _, _, hslB, hklB⟩ := hre2.open14; obtain ⟨_, _, esc, hEc, _, _, _, _, _, _, hslc, hklc⟩ := hcoA.open4; cases hEc; obtain ⟨b3, o3, e3, rfl, hl3, ho3, hat3, hre3, _, hgb3⟩ := hslc.kidR hklc (i := 0) zX zX; replace hre3 : J4 G c9.cn e3 := hre3; obtain ⟨_, _, e4, hE4, hl4, ho4, hat4, hre4, _, hgb4⟩ := hslc.kidR hklc (i := 1) zX zX; cases hE4; replace hre4 : J4 G d9.cn e4 := hre4; rotate_left; simp only [TH.nt, P2, Nt.mk.injEq, Cn.mk.injEq, if_true, Bool.false_eq_true, if_false] at ht; obtain ⟨rfl, rfl, rfl, ⟨rfl, rfl, rfl, rfl⟩, rfl⟩ := ht; have hq6 : True := trivial; obtain ⟨b0, o0, e0, rfl, hl0, ho0, hat0, hre0, _, hgb0⟩ := hsl.kidR hkl (i := 0) zX zX; replace hre0 : E2 G (.mk 14 ⟨⟨[]⟩⟩ 0 (.mk 3 0 0 [c9.cn, d9.cn]) [(.mk 10 ⟨⟨[]⟩⟩ 0 (.mk 0 0 0 []) [a.nt, b.nt])]) e0 := hre0; have hre0' := hre0; obtain ⟨tkA, tksA, fkA, fksA, lbA, ptA, ctA, pfA, cfA, p0A, c0A, pcA, ccA, pA, cA, esA, rfl, hndA, hcoA, _, _, hslA, hklA⟩ := hre0.open14; obtain ⟨b2, o2, e2, rfl, hl2, ho2, hat2, hre2, _, hgb2⟩ := hslA.kidR hklA (i := 0) zX zX; replace hre2 : E2 G (.mk 10 ⟨⟨[]⟩⟩ 0 (.mk 0 0 0 []) [a.nt, b.nt]) e2 := hre2; have hre2' := hre2; obtain ⟨tkB, tksB, fkB, fksB, lbB, ptB, ctB, pfB, cfB, p0B, c0B, pcB, ccB, pB, cB, esB, rfl, hndB, hcoB, _, _, hslB, hklB⟩ := hre2.open14; obtain ⟨_, _, esc, hEc, _, _, _, _, _, _, hslc, hklc⟩ := hcoA.open4; cases hEc; obtain ⟨b3, o3, e3, rfl, hl3, ho3, hat3, hre3, _, hgb3⟩ := hslc.kidR hklc (i := 0) zX zX; replace hre3 : J4 G c9.cn e3 := hre3; obtain ⟨_, _, e4, hE4, hl4, ho4, hat4, hre4, _, hgb4⟩ := hslc.kidR hklc (i := 1) zX zX; cases hE4; replace hre4 : J4 G d9.cn e4 := hre4; rotate_left; all_goals (have hC0 : C ≠ 0 := (by rw [← hC]; simp only [TH.cnt, TH.kids, List.length_cons, List.length_nil]; omega); clear hred hIO hCo hVal ih hkn hr0))
 refine A4 ?_
 refine sP (L9 rfl rfl zW) rfl rfl ?_
 refine J2 ?_
 refine H5 (rC rfl (A3 rfl rfl)) (rT rfl) (rT rfl) ?_
 (exfalso; omega)
 refine A4 ?_
 refine sP (L9 rfl rfl zW) rfl rfl ?_
 refine A7 ?_
 refine sS rfl rfl rfl hl2 ho2 rfl ?_ (hu := by exact C6 hl2.symm)
 refine A7 ?_
 refine H5 (rC rfl (A3 rfl rfl)) (rT rfl) (rT rfl) ?_
 (exfalso; omega)
 refine A4 ?_
 refine sP (L9 rfl rfl zW) rfl rfl ?_
 refine A7 ?_
 refine sS rfl rfl rfl hl1 ho1 rfl ?_ (hu := by exact C6 hl1.symm)
 refine A7 ?_
 refine H5 (rC rfl (A3 rfl rfl)) (rT rfl) (rT rfl) ?_
 (exfalso; omega)
 refine A4 ?_
 refine sP (L9 rfl rfl zW) rfl rfl ?_
 refine A7 ?_
 refine sS rfl rfl rfl hl1 ho1 rfl ?_ (hu := by exact C6 hl1.symm)
 refine A7 ?_
 refine H5 (rC rfl (A3 rfl rfl)) (rT rfl) (rT rfl) ?_
 (exfalso; omega)
 refine A4 ?_
 refine sP (F0 rfl rfl zW) rfl rfl ?_
 refine D9 ?_
 refine sP (B1 (j := 0) rfl rfl rfl zX) rfl rfl ?_
 refine sL (A5 rfl rfl (hat0 _) hl0) rfl rfl ?_
 refine sE (A8 rfl) rfl (fun b242 => ?_)
 refine I3 ?_
 refine C2 ?_
 refine A4 ?_
 refine sP (F0 rfl rfl zW) rfl rfl ?_
 refine B5 ?_
 refine sP (F0 rfl rfl zW) rfl rfl ?_
 refine A9 ?_
 refine sP (F0 rfl rfl zW) rfl rfl ?_
 refine A7 ?_
 refine sP (L9 rfl rfl zW) rfl rfl ?_
 refine I3 ?_
 refine C2 ?_
 refine A4 ?_
 refine sP (F0 rfl rfl zW) rfl rfl ?_
 refine A7 ?_
 refine sP (L9 rfl rfl zW) rfl rfl ?_
 refine E7 ?_
 refine sP (B1 (j := 2) rfl rfl rfl zX) rfl rfl ?_
 refine sL (A5 rfl rfl (hat2 _) hl2) rfl rfl ?_
 refine sS rfl rfl rfl hl2 ho2 rfl ?_ (hu := by exact C6 hl2.symm)
 refine E7 ?_
 refine H5 (rC rfl (A5 rfl rfl (B7 zP) hl2)) (rT rfl) (rT rfl) ?_
 (exact R0.ok (t := y) hst hre2)
 refine A4 ?_
 refine sP (F0 rfl rfl zW) rfl rfl ?_
 refine D9 ?_
 refine sP (B1 (j := 0) rfl rfl rfl zX) rfl rfl ?_
 refine sL (A5 rfl rfl (hat0 _) hl0) rfl rfl ?_
 refine sE (A8 rfl) rfl (fun b336 => ?_)
 refine I3 ?_
 refine C2 ?_
 refine A4 ?_
 refine sP (F0 rfl rfl zW) rfl rfl ?_
 refine B5 ?_
 refine sP (F0 rfl rfl zW) rfl rfl ?_
 refine A9 ?_
 refine sP (F0 rfl rfl zW) rfl rfl ?_
 refine A7 ?_
 refine sP (L9 rfl rfl zW) rfl rfl ?_
 refine I3 ?_
 refine C2 ?_
 refine A4 ?_
 refine sP (L9 rfl rfl zW) rfl rfl ?_
 refine E7 ?_
 refine sP (B1 (j := 1) rfl rfl rfl zX) rfl rfl ?_
 refine sL (A5 rfl rfl (hat1 _) hl1) rfl rfl ?_
 refine sS rfl rfl rfl hl1 ho1 rfl ?_ (hu := by exact C6 hl1.symm)
 refine E7 ?_
 refine H5 (rC rfl (A5 rfl rfl (B7 zP) hl1)) (rT rfl) (rT rfl) ?_
 (exact R0.ok (t := x) hst hre1)
 refine A4 ?_
 refine sP (L9 rfl rfl zW) rfl rfl ?_
 refine J2 ?_
 refine H5 (rC rfl (A3 rfl rfl)) (rT rfl) (rT rfl) ?_
 (exfalso; omega)
 refine A4 ?_
 refine sP (L9 rfl rfl zW) rfl rfl ?_
 refine J2 ?_
 refine H5 (rC rfl (A3 rfl rfl)) (rT rfl) (rT rfl) ?_
 (exfalso; omega)
 refine A4 ?_
 refine sP (L9 rfl rfl zW) rfl rfl ?_
 refine A7 ?_
 refine sS rfl rfl rfl hl2 ho2 rfl ?_ (hu := by exact C6 hl2.symm)
 refine A7 ?_
 refine H5 (rC rfl (A3 rfl rfl)) (rT rfl) (rT rfl) ?_
 (exfalso; omega)
 refine A4 ?_
 refine sP (L9 rfl rfl zW) rfl rfl ?_
 refine A7 ?_
 refine sS rfl rfl rfl hl2 ho2 rfl ?_ (hu := by exact C6 hl2.symm)
 refine A7 ?_
 refine H5 (rC rfl (A3 rfl rfl)) (rT rfl) (rT rfl) ?_
 (exfalso; omega)
 refine A4 ?_
 (show I9 _ _ (.cond (.tmp 28) _ _) _ _; refine Z3 (fun (_ : Unit) => ⟨[(5, .int .i64 (C : Int)), (1, .pointer (some ⟨b3, 0, none⟩)), (2, .pointer (some ⟨b4, 0, none⟩))], [.blk b4 [.int .i64 0, .string ⟨⟨[]⟩⟩, .int .i64 0, .int .i64 0, .slice none 0 0, .int .i64 0, .slice none 0 0, .int .i64 0, .slice none 0 0, .int .i64 0, .int .i64 0, .int .i64 0, .slice none 0 0, .slice none 0 0], .blk b3 [.int .i64 k, .string nm, .int .i64 num, .int .i64 tk, .slice pt tks.length ct, .int .i64 fk, .slice pf fks.length cf, .int .i64 lb, .slice p0 0 c0, .int .i64 ck, .int .i64 ctg, .int .i64 clb, .slice pc cks.length cc, .slice p ks.length c]], G⟩) (fun _ => True) (cF rfl ?_) ?_)
 refine tK ?_
 (have hCC := hC2 zW; subst hCC; refine P1 () (O3 zM zI) trivial)
 (rintro (_ : Unit) _)
 refine A7 ?_
 refine sP (A6e (l := C) rfl rfl rfl zW) rfl rfl ?_
 refine C3 ?_
 refine C2 ?_
 (refine L4 (fun (i : Nat) => ⟨[(34, .int .i64 (i : Int)), (33, .int .i64 (C : Int)), (32, .slice p C c), (5, .int .i64 (C : Int)), (1, .pointer (some ⟨b3, 0, none⟩)), (2, .pointer (some ⟨b4, 0, none⟩))], [.blk b4 [.int .i64 0, .string ⟨⟨[]⟩⟩, .int .i64 0, .int .i64 0, .slice none 0 0, .int .i64 0, .slice none 0 0, .int .i64 0, .slice none 0 0, .int .i64 0, .int .i64 0, .int .i64 0, .slice none 0 0, .slice none 0 0], .blk b3 [.int .i64 k, .string nm, .int .i64 num, .int .i64 tk, .slice pt tks.length ct, .int .i64 fk, .slice pf fks.length cf, .int .i64 lb, .slice p0 0 c0, .int .i64 ck, .int .i64 ctg, .int .i64 clb, .slice pc cks.length cc, .slice p ks.length c]], G⟩) (fun i => i ≤ C ∧ ∀ j, j < i → (h : j < t.kids.length) → t.kids[j].val = true) (fun i => C - i) 0 ?_ ?_ ?_)
 exact E3
 (exact ⟨Nat.zero_le _, fun j hj => absurd hj (Nat.not_lt_zero j)⟩)
 (rintro i ⟨hi, hj⟩)
 refine A4 ?_
 refine sB (K6 rfl rfl) rfl rfl (fun h505 => ?_) (fun h505 => ?_)
 refine B5 ?_
 refine C2 ?_
 refine B3 ?_
 (have hiC : i < C := zW; obtain ⟨bx, ox, ei, rfl, hli, hoi, hati, hrei, _, hgbi⟩ := hsl.kidR hkl (i := i) zW zW; have hVi := hVal i zW zW ei hrei; refine sP (B1 (j := i) rfl rfl rfl hiC) rfl rfl ?_)
 refine sL (A5 rfl rfl (hati _) hli) rfl rfl ?_
 refine sE (A8 rfl) rfl (fun b519 => ?_)
 refine F8 ?_
 refine sS rfl rfl rfl hli hoi rfl ?_ (hu := by exact C6 hli.symm)
 refine C3 ?_
 refine sL (A5 rfl rfl (B7 zP) hli) rfl rfl ?_
 refine J0 rfl (hVi) rfl rfl (fun h527 => ?_) (fun h527 => ?_)
 refine E7 ?_
 refine sP (K9 rfl rfl zW zW) rfl rfl ?_
 refine A4 ?_
 refine K3 (i + 1) ?_ ?_ ?_
 exact E3
 (exact ⟨by omega, fun j hji hl2 => (by by_cases he : j = i; (subst he; assumption); exact hj j zW hl2)⟩)
 (show C - (i + 1) < C - i; omega)
 exact y36
 refine I3 ?_
 focus (have hone2 := hone; clear hone; have hA := hred zW (fun j hjc hl => hj j zW hl); rcases hA with ⟨x, B, e, w, rfl, hst⟩ | ⟨c9, d9, x, B, e, w, rfl, hst⟩ | ⟨s, m, n, rfl, hst⟩ | ⟨s, x, y, rfl, hst⟩ | ⟨s, a, b, rfl, hst⟩ | ⟨s, c9, d9, a, b, rfl, hst⟩; simp only [TH.nt, P2, Nt.mk.injEq, Cn.mk.injEq, if_true, Bool.false_eq_true, if_false] at ht; obtain ⟨rfl, rfl, rfl, ⟨rfl, rfl, rfl, rfl⟩, rfl⟩ := ht; have hq1 : True := trivial; obtain ⟨b0, o0, e0, rfl, hl0, ho0, hat0, hre0, _, hgb0⟩ := hsl.kidR hkl (i := 0) zX zX; replace hre0 : E2 G (.mk 5 x 0 (.mk 0 0 0 []) [e.nt]) e0 := hre0; obtain ⟨_, _, e1, hE1, hl1, ho1, hat1, hre1, _, hgb1⟩ := hsl.kidR hkl (i := 1) zX zX; cases hE1; replace hre1 : E2 G w.nt e1 := hre1; obtain ⟨tkA, tksA, fkA, fksA, lbA, ptA, ctA, pfA, cfA, p0A, c0A, pcA, ccA, pA, cA, esA, rfl, hndA, hcoA, _, _, hslA, hklA⟩ := hre0.open14; obtain ⟨b2, o2, e2, rfl, hl2, ho2, hat2, hre2, _, hgb2⟩ := hslA.kidR hklA (i := 0) zX zX; replace hre2 : E2 G e.nt e2 := hre2; rotate_left; simp only [TH.nt, P2, Nt.mk.injEq, Cn.mk.injEq, if_true, Bool.false_eq_true, if_false] at ht; obtain ⟨rfl, rfl, rfl, ⟨rfl, rfl, rfl, rfl⟩, rfl⟩ := ht; have hq2 : True := trivial; obtain ⟨b0, o0, e0, rfl, hl0, ho0, hat0, hre0, _, hgb0⟩ := hsl.kidR hkl (i := 0) zX zX; replace hre0 : E2 G (.mk 14 ⟨⟨[]⟩⟩ 0 (.mk 2 0 0 [c9.cn, d9.cn]) [(.mk 5 x 0 (.mk 0 0 0 []) [e.nt])]) e0 := hre0; obtain ⟨_, _, e1, hE1, hl1, ho1, hat1, hre1, _, hgb1⟩ := hsl.kidR hkl (i := 1) zX zX; cases hE1; replace hre1 : E2 G w.nt e1 := hre1; have hre0' := hre0; obtain ⟨tkA, tksA, fkA, fksA, lbA, ptA, ctA, pfA, cfA, p0A, c0A, pcA, ccA, pA, cA, esA, rfl, hndA, hcoA, _, _, hslA, hklA⟩ := hre0.open14; obtain ⟨b2, o2, e2, rfl, hl2, ho2, hat2, hre2, _, hgb2⟩ := hslA.kidR hklA (i := 0) zX zX; replace hre2 : E2 G (.mk 5 x 0 (.mk 0 0 0 []) [e.nt]) e2 := hre2; have hre2' := hre2; obtain ⟨tkB, tksB, fkB, fksB, lbB, ptB, ctB, pfB, cfB, p0B, c0B, pcB, ccB, pB, cB, esB, rfl, hndB, hcoB, _, _, hslB, hklB⟩ := hre2.open14; obtain ⟨_, _, esc, hEc, _, _, _, _, _, _, hslc, hklc⟩ := hcoA.open4; cases hEc; obtain ⟨b3, o3, e3, rfl, hl3, ho3, hat3, hre3, _, hgb3⟩ := hslc.kidR hklc (i := 0) zX zX; replace hre3 : J4 G c9.cn e3 := hre3; obtain ⟨_, _, e4, hE4, hl4, ho4, hat4, hre4, _, hgb4⟩ := hslc.kidR hklc (i := 1) zX zX; cases hE4; replace hre4 : J4 G d9.cn e4 := hre4; rotate_left; cases s; simp only [TH.nt, P2, Nt.mk.injEq, Cn.mk.injEq, if_true, Bool.false_eq_true, if_false] at ht; obtain ⟨rfl, rfl, rfl, ⟨rfl, rfl, rfl, rfl⟩, rfl⟩ := ht; have hq3 : True := trivial; obtain ⟨b0, o0, e0, rfl, hl0, ho0, hat0, hre0, _, hgb0⟩ := hsl.kidR hkl (i := 0) zX zX; replace hre0 : E2 G (.mk 2 ⟨⟨[]⟩⟩ m (.mk 0 0 0 []) []) e0 := hre0; obtain ⟨_, _, e1, hE1, hl1, ho1, hat1, hre1, _, hgb1⟩ := hsl.kidR hkl (i := 1) zX zX; cases hE1; replace hre1 : E2 G (.mk 2 ⟨⟨[]⟩⟩ n (.mk 0 0 0 []) []) e1 := hre1; obtain ⟨tkA, tksA, fkA, fksA, lbA, ptA, ctA, pfA, cfA, p0A, c0A, pcA, ccA, pA, cA, esA, rfl, hndA, hcoA, _, _, hslA, hklA⟩ := hre0.open14; obtain ⟨tkB, tksB, fkB, fksB, lbB, ptB, ctB, pfB, cfB, p0B, c0B, pcB, ccB, pB, cB, esB, rfl, hndB, hcoB, _, _, hslB, hklB⟩ := hre1.open14; replace hat1 := fun hp => At.pfx (l1 := [.int .i64 2, .string ⟨⟨[]⟩⟩, .int .i64 n, .int .i64 tkB, .slice ptB tksB.length ctB, .int .i64 fkB, .slice pfB fksB.length cfB, .int .i64 lbB, .slice p0B 0 c0B]) (l2 := [.int .i64 0, .int .i64 0, .int .i64 0, .slice pcB 0 ccB, .slice pB 0 cB]) (hat1 hp); rotate_left; simp only [TH.nt, P2, Nt.mk.injEq, Cn.mk.injEq, if_true, Bool.false_eq_true, if_false] at ht; obtain ⟨rfl, rfl, rfl, ⟨rfl, rfl, rfl, rfl⟩, rfl⟩ := ht; have hq3 : True := trivial; obtain ⟨b0, o0, e0, rfl, hl0, ho0, hat0, hre0, _, hgb0⟩ := hsl.kidR hkl (i := 0) zX zX; replace hre0 : E2 G (.mk 2 ⟨⟨[]⟩⟩ m (.mk 0 0 0 []) []) e0 := hre0; obtain ⟨_, _, e1, hE1, hl1, ho1, hat1, hre1, _, hgb1⟩ := hsl.kidR hkl (i := 1) zX zX; cases hE1; replace hre1 : E2 G (.mk 2 ⟨⟨[]⟩⟩ n (.mk 0 0 0 []) []) e1 := hre1; obtain ⟨tkA, tksA, fkA, fksA, lbA, ptA, ctA, pfA, cfA, p0A, c0A, pcA, ccA, pA, cA, esA, rfl, hndA, hcoA, _, _, hslA, hklA⟩ := hre0.open14; obtain ⟨tkB, tksB, fkB, fksB, lbB, ptB, ctB, pfB, cfB, p0B, c0B, pcB, ccB, pB, cB, esB, rfl, hndB, hcoB, _, _, hslB, hklB⟩ := hre1.open14; replace hat1 := fun hp => At.pfx (l1 := [.int .i64 2, .string ⟨⟨[]⟩⟩, .int .i64 n, .int .i64 tkB, .slice ptB tksB.length ctB, .int .i64 fkB, .slice pfB fksB.length cfB, .int .i64 lbB, .slice p0B 0 c0B]) (l2 := [.int .i64 0, .int .i64 0, .int .i64 0, .slice pcB 0 ccB, .slice pB 0 cB]) (hat1 hp); rotate_left; cases s; simp only [TH.nt, P2, Nt.mk.injEq, Cn.mk.injEq, if_true, Bool.false_eq_true, if_false] at ht; obtain ⟨rfl, rfl, rfl, ⟨rfl, rfl, rfl, rfl⟩, rfl⟩ := ht; have hq4 : True := trivial; obtain ⟨b0, o0, e0, rfl, hl0, ho0, hat0, hre0, _, hgb0⟩ := hsl.kidR hkl (i := 0) zX zX; replace hre0 : E2 G (.mk 4 ⟨⟨[]⟩⟩ 0 (.mk 0 0 0 []) []) e0 := hre0; obtain ⟨_, _, e1, hE1, hl1, ho1, hat1, hre1, _, hgb1⟩ := hsl.kidR hkl (i := 1) zX zX; cases hE1; replace hre1 : E2 G x.nt e1 := hre1; obtain ⟨_, _, e2, hE2, hl2, ho2, hat2, hre2, _, hgb2⟩ := hsl.kidR hkl (i := 2) zX zX; cases hE2; replace hre2 : E2 G y.nt e2 := hre2; obtain ⟨tkA, tksA, fkA, fksA, lbA, ptA, ctA, pfA, cfA, p0A, c0A, pcA, ccA, pA, cA, esA, rfl, hndA, hcoA, _, _, hslA, hklA⟩ := hre0.open14; rotate_left; simp only [TH.nt, P2, Nt.mk.injEq, Cn.mk.injEq, if_true, Bool.false_eq_true, if_false] at ht; obtain ⟨rfl, rfl, rfl, ⟨rfl, rfl, rfl, rfl⟩, rfl⟩ := ht; have hq4 : True := trivial; obtain ⟨b0, o0, e0, rfl, hl0, ho0, hat0, hre0, _, hgb0⟩ := hsl.kidR hkl (i := 0) zX zX; replace hre0 : E2 G (.mk 3 ⟨⟨[]⟩⟩ 0 (.mk 0 0 0 []) []) e0 := hre0; obtain ⟨_, _, e1, hE1, hl1, ho1, hat1, hre1, _, hgb1⟩ := hsl.kidR hkl (i := 1) zX zX; cases hE1; replace hre1 : E2 G x.nt e1 := hre1; obtain ⟨_, _, e2, hE2, hl2, ho2, hat2, hre2, _, hgb2⟩ := hsl.kidR hkl (i := 2) zX zX; cases hE2; replace hre2 : E2 G y.nt e2 := hre2; obtain ⟨tkA, tksA, fkA, fksA, lbA, ptA, ctA, pfA, cfA, p0A, c0A, pcA, ccA, pA, cA, esA, rfl, hndA, hcoA, _, _, hslA, hklA⟩ := hre0.open14; rotate_left; cases s; simp only [TH.nt, P2, Nt.mk.injEq, Cn.mk.injEq, if_true, Bool.false_eq_true, if_false] at ht; obtain ⟨rfl, rfl, rfl, ⟨rfl, rfl, rfl, rfl⟩, rfl⟩ := ht; have hq5 : True := trivial; obtain ⟨b0, o0, e0, rfl, hl0, ho0, hat0, hre0, _, hgb0⟩ := hsl.kidR hkl (i := 0) zX zX; replace hre0 : E2 G (.mk 10 ⟨⟨[]⟩⟩ 0 (.mk 0 0 0 []) [a.nt, b.nt]) e0 := hre0; obtain ⟨tkA, tksA, fkA, fksA, lbA, ptA, ctA, pfA, cfA, p0A, c0A, pcA, ccA, pA, cA, esA, rfl, hndA, hcoA, _, _, hslA, hklA⟩ := hre0.open14; obtain ⟨b1, o1, e1, rfl, hl1, ho1, hat1, hre1, _, hgb1⟩ := hslA.kidR hklA (i := 0) zX zX; replace hre1 : E2 G a.nt e1 := hre1; obtain ⟨_, _, e2, hE2, hl2, ho2, hat2, hre2, _, hgb2⟩ := hslA.kidR hklA (i := 1) zX zX; cases hE2; replace hre2 : E2 G b.nt e2 := hre2; rotate_left; simp only [TH.nt, P2, Nt.mk.injEq, Cn.mk.injEq, if_true, Bool.false_eq_true, if_false] at ht; obtain ⟨rfl, rfl, rfl, ⟨rfl, rfl, rfl, rfl⟩, rfl⟩ := ht; have hq5 : True := trivial; obtain ⟨b0, o0, e0, rfl, hl0, ho0, hat0, hre0, _, hgb0⟩ := hsl.kidR hkl (i := 0) zX zX; replace hre0 : E2 G (.mk 10 ⟨⟨[]⟩⟩ 0 (.mk 0 0 0 []) [a.nt, b.nt]) e0 := hre0; obtain ⟨tkA, tksA, fkA, fksA, lbA, ptA, ctA, pfA, cfA, p0A, c0A, pcA, ccA, pA, cA, esA, rfl, hndA, hcoA, _, _, hslA, hklA⟩ := hre0.open14; obtain ⟨b1, o1, e1, rfl, hl1, ho1, hat1, hre1, _, hgb1⟩ := hslA.kidR hklA (i := 0) zX zX; replace hre1 : E2 G a.nt e1 := hre1; obtain ⟨_, _, e2, hE2, hl2, ho2, hat2, hre2, _, hgb2⟩ := hslA.kidR hklA (i := 1) zX zX; cases hE2; replace hre2 : E2 G b.nt e2 := hre2; rotate_left; cases s; simp only [TH.nt, P2, Nt.mk.injEq, Cn.mk.injEq, if_true, Bool.false_eq_true, if_false] at ht; obtain ⟨rfl, rfl, rfl, ⟨rfl, rfl, rfl, rfl⟩, rfl⟩ := ht; have hq6 : True := trivial; obtain ⟨b0, o0, e0, rfl, hl0, ho0, hat0, hre0, _, hgb0⟩ := hsl.kidR hkl (i := 0) zX zX; replace hre0 : E2 G (.mk 14 ⟨⟨[]⟩⟩ 0 (.mk 3 0 0 [c9.cn, d9.cn]) [(.mk 10 ⟨⟨[]⟩⟩ 0 (.mk 0 0 0 []) [a.nt, b.nt])]) e0 := hre0; have hre0' := hre0; obtain ⟨tkA, tksA, fkA, fksA, lbA, ptA, ctA, pfA, cfA, p0A, c0A, pcA, ccA, pA, cA, esA, rfl, hndA, hcoA, _, _, hslA, hklA⟩ := hre0.open14; obtain ⟨b2, o2, e2, rfl, hl2, ho2, hat2, hre2, _, hgb2⟩ := hslA.kidR hklA (i := 0) zX zX; replace hre2 : E2 G (.mk 10 ⟨⟨[]⟩⟩ 0 (.mk 0 0 0 []) [a.nt, b.nt]) e2 := hre2; have hre2' := hre2; obtain ⟨tkB, tksB, fkB, fksB, lbB, ptB, ctB, pfB, cfB, p0B, c0B, pcB, ccB, pB, cB, esB, rfl, hndB, hcoB, _, _, hslB, hklB⟩ := hre2.open14; obtain ⟨_, _, esc, hEc, _, _, _, _, _, _, hslc, hklc⟩ := hcoA.open4; cases hEc; obtain ⟨b3, o3, e3, rfl, hl3, ho3, hat3, hre3, _, hgb3⟩ := hslc.kidR hklc (i := 0) zX zX; replace hre3 : J4 G c9.cn e3 := hre3; obtain ⟨_, _, e4, hE4, hl4, ho4, hat4, hre4, _, hgb4⟩ := hslc.kidR hklc (i := 1) zX zX; cases hE4; replace hre4 : J4 G d9.cn e4 := hre4; rotate_left; simp only [TH.nt, P2, Nt.mk.injEq, Cn.mk.injEq, if_true, Bool.false_eq_true, if_false] at ht; obtain ⟨rfl, rfl, rfl, ⟨rfl, rfl, rfl, rfl⟩, rfl⟩ := ht; have hq6 : True := trivial; obtain ⟨b0, o0, e0, rfl, hl0, ho0, hat0, hre0, _, hgb0⟩ := hsl.kidR hkl (i := 0) zX zX; replace hre0 : E2 G (.mk 14 ⟨⟨[]⟩⟩ 0 (.mk 3 0 0 [c9.cn, d9.cn]) [(.mk 10 ⟨⟨[]⟩⟩ 0 (.mk 0 0 0 []) [a.nt, b.nt])]) e0 := hre0; have hre0' := hre0; obtain ⟨tkA, tksA, fkA, fksA, lbA, ptA, ctA, pfA, cfA, p0A, c0A, pcA, ccA, pA, cA, esA, rfl, hndA, hcoA, _, _, hslA, hklA⟩ := hre0.open14; obtain ⟨b2, o2, e2, rfl, hl2, ho2, hat2, hre2, _, hgb2⟩ := hslA.kidR hklA (i := 0) zX zX; replace hre2 : E2 G (.mk 10 ⟨⟨[]⟩⟩ 0 (.mk 0 0 0 []) [a.nt, b.nt]) e2 := hre2; have hre2' := hre2; obtain ⟨tkB, tksB, fkB, fksB, lbB, ptB, ctB, pfB, cfB, p0B, c0B, pcB, ccB, pB, cB, esB, rfl, hndB, hcoB, _, _, hslB, hklB⟩ := hre2.open14; obtain ⟨_, _, esc, hEc, _, _, _, _, _, _, hslc, hklc⟩ := hcoA.open4; cases hEc; obtain ⟨b3, o3, e3, rfl, hl3, ho3, hat3, hre3, _, hgb3⟩ := hslc.kidR hklc (i := 0) zX zX; replace hre3 : J4 G c9.cn e3 := hre3; obtain ⟨_, _, e4, hE4, hl4, ho4, hat4, hre4, _, hgb4⟩ := hslc.kidR hklc (i := 1) zX zX; cases hE4; replace hre4 : J4 G d9.cn e4 := hre4; rotate_left; all_goals (have hC0 : C ≠ 0 := (by rw [← hC]; simp only [TH.cnt, TH.kids, List.length_cons, List.length_nil]; omega); clear hred hIO hCo hVal ih hkn hr0))
 refine A4 ?_
 refine sP (F0 rfl rfl zW) rfl rfl ?_
 refine D9 ?_
 refine sP (B1 (j := 0) rfl rfl rfl zX) rfl rfl ?_
 refine sL (A5 rfl rfl (hat0 _) hl0) rfl rfl ?_
 refine sE (A8 rfl) rfl (fun b594 => ?_)
 refine I3 ?_
 refine C2 ?_
 refine A4 ?_
 refine sP (L9 rfl rfl zW) rfl rfl ?_
 refine I2 ?_
 refine sP (L9 rfl rfl zW) rfl rfl ?_
 refine C3 ?_
 refine D2 D3 rfl ?_
 refine H1 (i := 0) (l' := [tt,ff,ff,ff,ff,ff,ff,ff,ff,ff,ff,ff,ff,ff,ff]) rfl C8 (C0 rfl) rfl zU rfl rfl ?_
 refine aL 1 rfl (D4 rfl rfl) rfl ?_
 refine aP 2 rfl (B1 (j := 0) rfl rfl rfl zX) rfl ?_
 refine aL 3 rfl (A5 rfl rfl (hat2 _) hl2) rfl ?_
 refine aP 4 rfl (C0 rfl) rfl ?_
 refine aP 5 rfl (C0 rfl) rfl ?_
 refine aL 6 rfl (D4 rfl rfl) rfl ?_
 refine aP 7 rfl (C0 rfl) rfl ?_
 refine aL 8 rfl (D4 rfl rfl) rfl ?_
 refine aP 9 rfl (B1 (j := 1) rfl rfl rfl zX) rfl ?_
 refine aL 10 rfl (A5 rfl rfl (hat1 _) hl1) rfl ?_
 refine A1 11 ?_
 (refine E1 rfl rfl (B7G x w.nt e1 e.nt G e2 hre2 hre1) rfl rfl rfl (fun v G1 hle1 hh => ?_); obtain ⟨vc, rfl, hrv⟩ := hh; have hvl := hrv.len; have hvo := hrv.one)
 refine A1 12 ?_
 (refine oS rfl rfl rfl rfl hvl hvo rfl rfl ?_ (hu := by exact C6 hvl.symm))
 refine aP 13 rfl (qA rfl) rfl ?_
 refine aP 14 rfl (qA rfl) rfl ?_
 refine A7 ?_
 refine H5 (rC rfl (A5 rfl rfl (B7 zP) hvl)) (rT rfl) (rT rfl) ?_
 (have hq := hq1; exact R0.ok (t := e.sub x w) hst (by rw [B7k]; exact hrv))
 refine A4 ?_
 refine sP (F0 rfl rfl zW) rfl rfl ?_
 refine D9 ?_
 refine sP (B1 (j := 0) rfl rfl rfl zX) rfl rfl ?_
 refine sL (A5 rfl rfl (hat0 _) hl0) rfl rfl ?_
 refine sE (A8 rfl) rfl (fun b665 => ?_)
 refine sS rfl rfl rfl hl2 ho2 rfl ?_ (hu := by exact C6 hl2.symm)
 refine I2 ?_
 refine C2 ?_
 refine A4 ?_
 refine sP (L9 rfl rfl zW) rfl rfl ?_
 refine I2 ?_
 refine sP (F0 rfl rfl zW) rfl rfl ?_
 refine E7 ?_
 refine E6 rfl ((A7L hre0')) rfl rfl ?_
 refine B3 ?_
 refine sP (B1 (j := 0) rfl rfl rfl zX) rfl rfl ?_
 refine A4 ?_
 refine sL (S0 rfl rfl (At.sub2 (hat2 _) (j := 0) (j' := 0) rfl)) rfl rfl ?_
 refine sP (L9 rfl rfl zW) rfl rfl ?_
 refine A9 ?_
 refine D2 D3 rfl ?_
 refine H1 (i := 0) (l' := [tt,ff,ff,ff,ff,ff,ff,ff,ff,ff,ff,ff]) rfl C8 (C0 rfl) rfl zU rfl rfl ?_
 refine aL 1 rfl (D4 rfl rfl) rfl ?_
 refine aP 2 rfl (B1 (j := 1) rfl rfl rfl zX) rfl ?_
 refine aL 3 rfl (A5 rfl rfl (hat1 _) hl1) rfl ?_
 refine aP 4 rfl (C0 rfl) rfl ?_
 refine aP 5 rfl (qF rfl) rfl ?_
 refine aL 6 rfl (D4 rfl rfl) rfl ?_
 refine aP 7 rfl (B1 (j := 0) rfl rfl rfl zX) rfl ?_
 refine aL 8 rfl (A5 rfl rfl (hat3 _) hl3) rfl ?_
 refine N3 (j := 9) (j' := 10) zU ?_ ?_
 (have hq := hq2; clear hq2; refine E1 rfl rfl (A2Q w.nt c9.cn G _ _ hre1 hre3) rfl rfl rfl (fun v G1 hle1 hh => ?_); obtain ⟨vc, rfl, hrw⟩ := hh; have hwl := hrw.len; have hwo := hrw.one; obtain ⟨v1, v2, v3, v4, v5, v6, v7, v8, v9, u1, u2, u3, u4, u5, rfl⟩ := A2j hwl; have hq7 : True := trivial)
 refine A1 10 ?_
 (refine D1 rfl (A8 rfl) rfl rfl ?_; rintro _ ⟨b727, rfl⟩)
 refine A1 11 ?_
 (refine oS rfl rfl rfl rfl hwl hwo rfl rfl ?_ (hu := by exact C6 hwl.symm))
 refine B3 ?_
 refine D2 D3 rfl ?_
 refine H1 (i := 0) (l' := [tt,ff,ff,ff,ff,ff,ff,ff,ff,ff,ff,ff,ff,ff,ff,ff,ff]) rfl C8 (N7 rfl rfl) rfl zU rfl rfl ?_
 refine aP 1 rfl (C0 rfl) rfl ?_
 refine aL 2 rfl (D4 rfl rfl) rfl ?_
 refine aP 3 rfl (B1 (j := 0) rfl rfl rfl zX) rfl ?_
 refine aL 4 rfl (A5 rfl rfl (At.moS hle1 (hat2 [])) hl2) rfl ?_
 refine aL 5 rfl (A3 rfl rfl) rfl ?_
 refine aP 8 rfl (C0 rfl) rfl ?_
 refine aP 9 rfl (qF rfl) rfl ?_
 refine aL 10 rfl (D4 rfl rfl) rfl ?_
 refine aP 11 rfl (B1 (j := 1) rfl rfl rfl zX) rfl ?_
 refine aL 12 rfl (A5 rfl rfl (At.moS hle1 (hat4 [])) hl4) rfl ?_
 refine A1 6 ?_
 (refine D1 rfl (C9 rfl rfl rfl zW zR rfl) rfl rfl ?_; rintro _ ⟨b746, rfl⟩)
 exact y34
 (refine D1 rfl (A8 rfl) rfl rfl ?_; rintro _ ⟨b761, rfl⟩)
 refine A1 9 ?_
 (have hq := hq2; clear hq2; refine E1 rfl rfl (A2Q w.nt c9.cn G _ _ hre1 hre3) rfl rfl rfl (fun v G1 hle1 hh => ?_); obtain ⟨vc, rfl, hrw⟩ := hh; have hwl := hrw.len; have hwo := hrw.one; obtain ⟨v1, v2, v3, v4, v5, v6, v7, v8, v9, u1, u2, u3, u4, u5, rfl⟩ := A2j hwl; have hq7 : True := trivial)
 refine A1 11 ?_
 (refine oS rfl rfl rfl rfl hwl hwo rfl rfl ?_ (hu := by exact C6 hwl.symm))
 refine B3 ?_
 refine D2 D3 rfl ?_
 refine H1 (i := 0) (l' := [tt,ff,ff,ff,ff,ff,ff,ff,ff,ff,ff,ff,ff,ff,ff,ff,ff]) rfl C8 (N7 rfl rfl) rfl zU rfl rfl ?_
 refine aP 1 rfl (C0 rfl) rfl ?_
 refine aL 2 rfl (D4 rfl rfl) rfl ?_
 refine aP 3 rfl (B1 (j := 0) rfl rfl rfl zX) rfl ?_
 refine aL 4 rfl (A5 rfl rfl (At.moS hle1 (hat2 [])) hl2) rfl ?_
 refine aL 5 rfl (A3 rfl rfl) rfl ?_
 refine aP 8 rfl (C0 rfl) rfl ?_
 refine aP 9 rfl (qF rfl) rfl ?_
 refine aL 10 rfl (D4 rfl rfl) rfl ?_
 refine aP 11 rfl (B1 (j := 1) rfl rfl rfl zX) rfl ?_
 refine aL 12 rfl (A5 rfl rfl (At.moS hle1 (hat4 [])) hl4) rfl ?_
 refine A1 6 ?_
 (refine D1 rfl (C9 rfl rfl rfl zW zR rfl) rfl rfl ?_; rintro _ ⟨b782, rfl⟩)
 exact y34
 refine A4 ?_
 refine sP (F0 rfl rfl zW) rfl rfl ?_
 refine D9 ?_
 refine sP (B1 (j := 0) rfl rfl rfl zX) rfl rfl ?_
 refine sL (A5 rfl rfl (hat0 _) hl0) rfl rfl ?_
 refine sE (A8 rfl) rfl (fun b811 => ?_)
 refine sS rfl rfl rfl hl1 ho1 rfl ?_ (hu := by exact C6 hl1.symm)
 refine I2 ?_
 refine C2 ?_
 refine A4 ?_
 refine sP (F0 rfl rfl zW) rfl rfl ?_
 refine B5 ?_
 refine sP (L9 rfl rfl zW) rfl rfl ?_
 refine E7 ?_
 refine D2 D3 rfl ?_
 refine H1 (i := 0) (l' := [tt,ff,ff,ff,ff,ff,ff,ff,ff,ff,ff,ff,ff,ff,ff,ff,ff,ff,ff]) rfl C8 (C0 rfl) rfl zU rfl rfl ?_
 refine aP 1 rfl (C0 rfl) rfl ?_
 refine aL 2 rfl (D4 rfl rfl) rfl ?_
 refine aP 3 rfl (C0 rfl) rfl ?_
 refine aL 4 rfl (A3 rfl rfl) rfl ?_
 refine aP 5 rfl (C0 rfl) rfl ?_
 refine aL 6 rfl (D4 rfl rfl) rfl ?_
 refine aP 7 rfl (B1 (j := 1) rfl rfl rfl zX) rfl ?_
 refine aP 8 rfl (qF rfl) rfl ?_
 refine aL 9 rfl (A5 rfl rfl (hat1 _) rfl) rfl ?_
 refine N3 (j := 10) (j' := 16) zU ?_ ?_
 (refine D1 rfl (C9 rfl rfl rfl zW zR rfl) rfl rfl ?_; rintro _ ⟨b855, rfl⟩)
 refine aP 11 rfl (N7 rfl rfl) rfl ?_
 refine N3 (j := 12) (j' := 16) zU ?_ ?_
 (have hq := hq3; refine A1m (cs := [.int .i64 2, .string ⟨⟨[]⟩⟩, .int .i64 m, .int .i64 tkA, .slice ptA tksA.length ctA, .int .i64 fkA, .slice pfA fksA.length cfA, .int .i64 lbA, .slice p0A 0 c0A, .int .i64 2, .string ⟨⟨[]⟩⟩, .int .i64 n, .int .i64 tkB, .slice ptB tksB.length ctB, .int .i64 fkB, .slice pfB fksB.length cfB, .int .i64 lbB, .slice p0B 0 c0B]) zN (fun G1 hle1 hsl2 hno2 => ?_); have hrN := A3z (k := 7) ⟨by decide, by decide⟩ (hndA.mono hle1) (hndB.mono hle1) hsl2; refine E1 rfl rfl (A3A 7 m n _ _ _ _ _ _ G1 _ zV hnk.1 hnk.2 hrN) rfl rfl rfl (fun v G3 hle3 hh => ?_); obtain ⟨uc, rfl, hru⟩ := hh; replace hru : B6 G3 (.mk 2 ⟨⟨[]⟩⟩ (HMod.hMod (m + n) 1000) (.mk 0 []) (.mk 0 []) 0 []) uc := hru; obtain ⟨ptR, ctR, pfR, cfR, pR, cR, esR, rfl, _, _, _, _, _, _, _⟩ := hru.open9; have hru2 := hru)
 refine aP 13 rfl (qM rfl) rfl ?_
 refine aP 14 rfl (pX rfl rfl) rfl ?_
 refine aP 15 rfl (pX rfl rfl) rfl ?_
 refine A1 16 ?_
 (refine D1 rfl (A8 rfl) rfl rfl ?_; rintro _ ⟨b863, rfl⟩)
 refine A1 17 ?_
 refine E4 rfl ?_
 refine aP 18 rfl (qA rfl) rfl ?_
 refine B5 ?_
 refine sS rfl rfl rfl hl1 ho1 rfl ?_ (hu := by exact C6 hl1.symm)
 refine B5 ?_
 refine H5 (rC rfl (A3 rfl rfl)) (rT rfl) (rT rfl) ?_
 (exact R0.ok (t := .num (HMod.hMod (m + n) 1000)) hst (A3y hru2 zV))
 (refine D1 rfl (A8 rfl) rfl rfl ?_; rintro _ ⟨b884, rfl⟩)
 exact y33
 (refine D1 rfl (A8 rfl) rfl rfl ?_; rintro _ ⟨b910, rfl⟩)
 refine A1 10 ?_
 (refine D1 rfl (C9 rfl rfl rfl zW zR rfl) rfl rfl ?_; rintro _ ⟨b912, rfl⟩)
 refine aP 11 rfl (N7 rfl rfl) rfl ?_
 exact y33
 refine A4 ?_
 refine sP (F0 rfl rfl zW) rfl rfl ?_
 refine D9 ?_
 refine sP (B1 (j := 0) rfl rfl rfl zX) rfl rfl ?_
 refine sL (A5 rfl rfl (hat0 _) hl0) rfl rfl ?_
 refine sE (A8 rfl) rfl (fun b953 => ?_)
 refine sS rfl rfl rfl hl1 ho1 rfl ?_ (hu := by exact C6 hl1.symm)
 refine I2 ?_
 refine C2 ?_
 refine A4 ?_
 refine sP (F0 rfl rfl zW) rfl rfl ?_
 refine B5 ?_
 refine sP (F0 rfl rfl zW) rfl rfl ?_
 refine A9 ?_
 refine sP (L9 rfl rfl zW) rfl rfl ?_
 refine A9 ?_
 refine D2 D3 rfl ?_
 refine H1 (i := 0) (l' := [tt,ff,ff,ff,ff,ff,ff,ff,ff,ff,ff,ff,ff,ff,ff,ff,ff,ff,ff]) rfl C8 (C0 rfl) rfl zU rfl rfl ?_
 refine aP 1 rfl (C0 rfl) rfl ?_
 refine aL 2 rfl (D4 rfl rfl) rfl ?_
 refine aP 3 rfl (C0 rfl) rfl ?_
 refine aL 4 rfl (A3 rfl rfl) rfl ?_
 refine aP 5 rfl (C0 rfl) rfl ?_
 refine aL 6 rfl (D4 rfl rfl) rfl ?_
 refine aP 7 rfl (B1 (j := 1) rfl rfl rfl zX) rfl ?_
 refine aP 8 rfl (qF rfl) rfl ?_
 refine aL 9 rfl (A5 rfl rfl (hat1 _) rfl) rfl ?_
 refine N3 (j := 10) (j' := 16) zU ?_ ?_
 (refine D1 rfl (C9 rfl rfl rfl zW zR rfl) rfl rfl ?_; rintro _ ⟨b1000, rfl⟩)
 refine aP 11 rfl (N7 rfl rfl) rfl ?_
 refine N3 (j := 12) (j' := 16) zU ?_ ?_
 (have hq := hq3; refine A1m (cs := [.int .i64 2, .string ⟨⟨[]⟩⟩, .int .i64 m, .int .i64 tkA, .slice ptA tksA.length ctA, .int .i64 fkA, .slice pfA fksA.length cfA, .int .i64 lbA, .slice p0A 0 c0A, .int .i64 2, .string ⟨⟨[]⟩⟩, .int .i64 n, .int .i64 tkB, .slice ptB tksB.length ctB, .int .i64 fkB, .slice pfB fksB.length cfB, .int .i64 lbB, .slice p0B 0 c0B]) zN (fun G1 hle1 hsl2 hno2 => ?_); have hrN := A3z (k := 8) ⟨by decide, by decide⟩ (hndA.mono hle1) (hndB.mono hle1) hsl2; refine E1 rfl rfl (A3A 8 m n _ _ _ _ _ _ G1 _ zV hnk.1 hnk.2 hrN) rfl rfl rfl (fun v G3 hle3 hh => ?_); obtain ⟨uc, rfl, hru⟩ := hh; replace hru : B6 G3 (.mk (if m < n then 3 else 4) ⟨⟨[]⟩⟩ 0 (.mk 0 []) (.mk 0 []) 0 []) uc := (by unfold A0i A0h at hru; exact hru); obtain ⟨ptR, ctR, pfR, cfR, pR, cR, esR, rfl, _, _, _, _, _, _, _⟩ := hru.open9; have hru2 := hru)
 refine aP 13 rfl (qM rfl) rfl ?_
 refine aP 14 rfl (pX rfl rfl) rfl ?_
 refine aP 15 rfl (pX rfl rfl) rfl ?_
 refine A1 16 ?_
 (refine D1 rfl (A8 rfl) rfl rfl ?_; rintro _ ⟨b1008, rfl⟩)
 refine A1 17 ?_
 refine E4 rfl ?_
 refine aP 18 rfl (qA rfl) rfl ?_
 refine B5 ?_
 refine sS rfl rfl rfl hl1 ho1 rfl ?_ (hu := by exact C6 hl1.symm)
 refine B5 ?_
 refine H5 (rC rfl (A3 rfl rfl)) (rT rfl) (rT rfl) ?_
 (exact R0.ok (t := .tru (decide (m < n))) hst (by have hz := A3y hru2 (by split <;> decide); by_cases hmn : m < n; (rw [if_pos hmn] at hz ⊢; rw [decide_eq_true hmn]; exact hz); (rw [if_neg hmn] at hz ⊢; rw [decide_eq_false hmn]; exact hz)))
 (refine D1 rfl (A8 rfl) rfl rfl ?_; rintro _ ⟨b1029, rfl⟩)
 refine A1 12 ?_
 (have hq := hq3; refine A1m (cs := [.int .i64 2, .string ⟨⟨[]⟩⟩, .int .i64 m, .int .i64 tkA, .slice ptA tksA.length ctA, .int .i64 fkA, .slice pfA fksA.length cfA, .int .i64 lbA, .slice p0A 0 c0A, .int .i64 2, .string ⟨⟨[]⟩⟩, .int .i64 n, .int .i64 tkB, .slice ptB tksB.length ctB, .int .i64 fkB, .slice pfB fksB.length cfB, .int .i64 lbB, .slice p0B 0 c0B]) zN (fun G1 hle1 hsl2 hno2 => ?_); have hrN := A3z (k := 8) ⟨by decide, by decide⟩ (hndA.mono hle1) (hndB.mono hle1) hsl2; refine E1 rfl rfl (A3A 8 m n _ _ _ _ _ _ G1 _ zV hnk.1 hnk.2 hrN) rfl rfl rfl (fun v G3 hle3 hh => ?_); obtain ⟨uc, rfl, hru⟩ := hh; replace hru : B6 G3 (.mk (if m < n then 3 else 4) ⟨⟨[]⟩⟩ 0 (.mk 0 []) (.mk 0 []) 0 []) uc := (by unfold A0i A0h at hru; exact hru); obtain ⟨ptR, ctR, pfR, cfR, pR, cR, esR, rfl, _, _, _, _, _, _, _⟩ := hru.open9; have hru2 := hru)
 refine aP 13 rfl (qM rfl) rfl ?_
 refine aP 14 rfl (pX rfl rfl) rfl ?_
 refine aP 15 rfl (pX rfl rfl) rfl ?_
 refine A1 17 ?_
 refine E4 rfl ?_
 refine aP 18 rfl (qA rfl) rfl ?_
 refine B5 ?_
 refine sS rfl rfl rfl hl1 ho1 rfl ?_ (hu := by exact C6 hl1.symm)
 refine B5 ?_
 refine H5 (rC rfl (A3 rfl rfl)) (rT rfl) (rT rfl) ?_
 (exact R0.ok (t := .tru (decide (m < n))) hst (by have hz := A3y hru2 (by split <;> decide); by_cases hmn : m < n; (rw [if_pos hmn] at hz ⊢; rw [decide_eq_true hmn]; exact hz); (rw [if_neg hmn] at hz ⊢; rw [decide_eq_false hmn]; exact hz)))
 (refine D1 rfl (A8 rfl) rfl rfl ?_; rintro _ ⟨b1055, rfl⟩)
 refine A1 10 ?_
 (refine D1 rfl (C9 rfl rfl rfl zW zR rfl) rfl rfl ?_; rintro _ ⟨b1057, rfl⟩)
 refine aP 11 rfl (N7 rfl rfl) rfl ?_
 refine A1 12 ?_
 (have hq := hq3; refine A1m (cs := [.int .i64 2, .string ⟨⟨[]⟩⟩, .int .i64 m, .int .i64 tkA, .slice ptA tksA.length ctA, .int .i64 fkA, .slice pfA fksA.length cfA, .int .i64 lbA, .slice p0A 0 c0A, .int .i64 2, .string ⟨⟨[]⟩⟩, .int .i64 n, .int .i64 tkB, .slice ptB tksB.length ctB, .int .i64 fkB, .slice pfB fksB.length cfB, .int .i64 lbB, .slice p0B 0 c0B]) zN (fun G1 hle1 hsl2 hno2 => ?_); have hrN := A3z (k := 8) ⟨by decide, by decide⟩ (hndA.mono hle1) (hndB.mono hle1) hsl2; refine E1 rfl rfl (A3A 8 m n _ _ _ _ _ _ G1 _ zV hnk.1 hnk.2 hrN) rfl rfl rfl (fun v G3 hle3 hh => ?_); obtain ⟨uc, rfl, hru⟩ := hh; replace hru : B6 G3 (.mk (if m < n then 3 else 4) ⟨⟨[]⟩⟩ 0 (.mk 0 []) (.mk 0 []) 0 []) uc := (by unfold A0i A0h at hru; exact hru); obtain ⟨ptR, ctR, pfR, cfR, pR, cR, esR, rfl, _, _, _, _, _, _, _⟩ := hru.open9; have hru2 := hru)
 refine aP 13 rfl (qM rfl) rfl ?_
 refine aP 14 rfl (pX rfl rfl) rfl ?_
 refine aP 15 rfl (pX rfl rfl) rfl ?_
 refine A1 17 ?_
 refine E4 rfl ?_
 refine aP 18 rfl (qA rfl) rfl ?_
 refine B5 ?_
 refine sS rfl rfl rfl hl1 ho1 rfl ?_ (hu := by exact C6 hl1.symm)
 refine B5 ?_
 refine H5 (rC rfl (A3 rfl rfl)) (rT rfl) (rT rfl) ?_
 (exact R0.ok (t := .tru (decide (m < n))) hst (by have hz := A3y hru2 (by split <;> decide); by_cases hmn : m < n; (rw [if_pos hmn] at hz ⊢; rw [decide_eq_true hmn]; exact hz); (rw [if_neg hmn] at hz ⊢; rw [decide_eq_false hmn]; exact hz)))
 refine A4 ?_
 refine sP (L9 rfl rfl zW) rfl rfl ?_
 refine J2 ?_
 refine H5 (rC rfl (A3 rfl rfl)) (rT rfl) (rT rfl) ?_
 (exfalso; omega)
 refine A4 ?_
 refine sP (L9 rfl rfl zW) rfl rfl ?_
 refine J2 ?_
 refine H5 (rC rfl (A3 rfl rfl)) (rT rfl) (rT rfl) ?_
 (exfalso; omega)
 refine A4 ?_
 refine sP (F0 rfl rfl zW) rfl rfl ?_
 refine D9 ?_
 refine sP (B1 (j := 0) rfl rfl rfl zX) rfl rfl ?_
 refine sL (A5 rfl rfl (hat0 _) hl0) rfl rfl ?_
 refine sE (A8 rfl) rfl (fun b1134 => ?_)
 refine I3 ?_
 refine C2 ?_
 refine A4 ?_
 refine sP (F0 rfl rfl zW) rfl rfl ?_
 refine B5 ?_
 refine sP (F0 rfl rfl zW) rfl rfl ?_
 refine A9 ?_
 refine sP (F0 rfl rfl zW) rfl rfl ?_
 refine A7 ?_
 refine sP (F0 rfl rfl zW) rfl rfl ?_
 refine B5 ?_
 refine sP (L9 rfl rfl zW) rfl rfl ?_
 refine N8 ?_
 refine sP (O7 rfl rfl zW zW) rfl rfl ?_
 refine D9 ?_
 refine sP (L9 rfl rfl zW) rfl rfl ?_
 refine E7 ?_
 refine sP (B1 (j := 0) rfl rfl rfl zX) rfl rfl ?_
 refine sL (A5 rfl rfl (hat1 _) hl1) rfl rfl ?_
 refine sS rfl rfl rfl hl1 ho1 rfl ?_ (hu := by exact C6 hl1.symm)
 refine E7 ?_
 refine H5 (rC rfl (A5 rfl rfl (B7 zP) hl1)) (rT rfl) (rT rfl) ?_
 (exact R0.ok (t := a) hst hre1)
 refine A4 ?_
 refine sP (F0 rfl rfl zW) rfl rfl ?_
 refine D9 ?_
 refine sP (B1 (j := 0) rfl rfl rfl zX) rfl rfl ?_
 refine sL (A5 rfl rfl (hat0 _) hl0) rfl rfl ?_
 refine sE (A8 rfl) rfl (fun b1237 => ?_)
 refine I3 ?_
 refine C2 ?_
 refine A4 ?_
 refine sP (F0 rfl rfl zW) rfl rfl ?_
 refine B5 ?_
 refine sP (F0 rfl rfl zW) rfl rfl ?_
 refine A9 ?_
 refine sP (F0 rfl rfl zW) rfl rfl ?_
 refine A7 ?_
 refine sP (F0 rfl rfl zW) rfl rfl ?_
 refine B5 ?_
 refine sP (F0 rfl rfl zW) rfl rfl ?_
 refine A9 ?_
 refine sP (L9 rfl rfl zW) rfl rfl ?_
 refine D9 ?_
 refine sP (O7 rfl rfl zW zW) rfl rfl ?_
 refine D9 ?_
 refine sP (L9 rfl rfl zW) rfl rfl ?_
 refine E7 ?_
 refine sP (B1 (j := 1) rfl rfl rfl zX) rfl rfl ?_
 refine sL (A5 rfl rfl (hat2 _) hl2) rfl rfl ?_
 refine sS rfl rfl rfl hl2 ho2 rfl ?_ (hu := by exact C6 hl2.symm)
 refine E7 ?_
 refine H5 (rC rfl (A5 rfl rfl (B7 zP) hl2)) (rT rfl) (rT rfl) ?_
 (exact R0.ok (t := b) hst hre2)
 refine A4 ?_
 refine sP (F0 rfl rfl zW) rfl rfl ?_
 refine D9 ?_
 refine sP (B1 (j := 0) rfl rfl rfl zX) rfl rfl ?_
 refine sL (A5 rfl rfl (hat0 _) hl0) rfl rfl ?_
 refine sE (A8 rfl) rfl (fun b1343 => ?_)
 refine sS rfl rfl rfl hl2 ho2 rfl ?_ (hu := by exact C6 hl2.symm)
 refine I2 ?_
 refine C2 ?_
 refine A4 ?_
 refine sP (F0 rfl rfl zW) rfl rfl ?_
 refine B5 ?_
 refine sP (F0 rfl rfl zW) rfl rfl ?_
 refine A9 ?_
 refine sP (F0 rfl rfl zW) rfl rfl ?_
 refine A7 ?_
 refine sP (F0 rfl rfl zW) rfl rfl ?_
 refine B5 ?_
 refine sP (L9 rfl rfl zW) rfl rfl ?_
 refine N8 ?_
 refine sP (O7 rfl rfl zW zW) rfl rfl ?_
 refine D9 ?_
 refine sP (F0 rfl rfl zW) rfl rfl ?_
 refine E7 ?_
 refine E6 rfl ((A7L hre0')) rfl rfl ?_
 refine B3 ?_
 refine sP (B1 (j := 0) rfl rfl rfl zX) rfl rfl ?_
 refine A4 ?_
 refine sL (S0 rfl rfl (At.sub2 (hat2 _) (j := 0) (j' := 0) rfl)) rfl rfl ?_
 refine sP (L9 rfl rfl zW) rfl rfl ?_
 refine A9 ?_
 refine D2 D3 rfl ?_
 refine H1 (i := 0) (l' := [tt,ff,ff,ff,ff,ff,ff,ff,ff,ff,ff,ff,ff,ff,ff,ff,ff,ff,ff,ff]) rfl C8 (C0 rfl) rfl zU rfl rfl ?_
 refine aP 1 rfl (C0 rfl) rfl ?_
 refine aL 2 rfl (D4 rfl rfl) rfl ?_
 refine aP 3 rfl (N7 rfl rfl) rfl ?_
 refine aP 4 rfl (C0 rfl) rfl ?_
 refine aL 5 rfl (D4 rfl rfl) rfl ?_
 refine aP 6 rfl (B1 (j := 0) rfl rfl rfl zX) rfl ?_
 refine aL 7 rfl (A5 rfl rfl (hat2 _) hl2) rfl ?_
 refine aP 10 rfl (C0 rfl) rfl ?_
 refine aP 11 rfl (qF rfl) rfl ?_
 refine aL 12 rfl (D4 rfl rfl) rfl ?_
 refine aP 13 rfl (qM rfl) rfl ?_
 refine aP 14 rfl (B1 (j := 0) rfl rfl rfl zX) rfl ?_
 refine aL 15 rfl (A5 rfl rfl (hat3 _) hl3) rfl ?_
 refine A1 8 ?_
 (refine D1 rfl (C9 rfl rfl rfl zW zR rfl) rfl rfl ?_; rintro _ ⟨b1449, rfl⟩)
 refine aP 9 rfl (N7 rfl rfl) rfl ?_
 refine A1 16 ?_
 (have hq := hq6; refine A1m (cs := [.int .i64 10, .string ⟨⟨[]⟩⟩, .int .i64 0, .int .i64 tkB, .slice ptB tksB.length ctB, .int .i64 fkB, .slice pfB fksB.length cfB, .int .i64 lbB, .slice p0B 0 c0B, .int .i64 0, .int .i64 0, .int .i64 0, .slice pcB 0 ccB, .slice pB 2 cB]) zN (fun G1 hle1 hsl2 hno2 => ?_); have hrN := A7C (k := 11) ⟨by decide, by decide⟩ (A3u G1) (hre2'.mono hle1) hsl2; refine E1 rfl rfl (A2Q _ c9.cn G1 _ _ hrN (hre3.mono hle1)) rfl rfl rfl (fun v G3 hle3 hh => ?_); obtain ⟨vc, rfl, hrv⟩ := hh; have hvl := hrv.len; have hvo := hrv.one)
 refine A1 17 ?_
 (refine oS rfl rfl rfl rfl hvl hvo rfl rfl ?_ (hu := by exact C6 hvl.symm))
 refine aP 18 rfl (qA rfl) rfl ?_
 refine aP 19 rfl (qA rfl) rfl ?_
 refine A9 ?_
 refine H5 (rC rfl (A5 rfl rfl (B7 zP) hvl)) (rT rfl) (rT rfl) ?_
 (have hq := hq6; exact R0.ok (t := .conv c9 (.part false (.pair a b))) hst hrv)
 refine A4 ?_
 refine sP (F0 rfl rfl zW) rfl rfl ?_
 refine D9 ?_
 refine sP (B1 (j := 0) rfl rfl rfl zX) rfl rfl ?_
 refine sL (A5 rfl rfl (hat0 _) hl0) rfl rfl ?_
 refine sE (A8 rfl) rfl (fun b1478 => ?_)
 refine sS rfl rfl rfl hl2 ho2 rfl ?_ (hu := by exact C6 hl2.symm)
 refine I2 ?_
 refine C2 ?_
 refine A4 ?_
 refine sP (F0 rfl rfl zW) rfl rfl ?_
 refine B5 ?_
 refine sP (F0 rfl rfl zW) rfl rfl ?_
 refine A9 ?_
 refine sP (F0 rfl rfl zW) rfl rfl ?_
 refine A7 ?_
 refine sP (F0 rfl rfl zW) rfl rfl ?_
 refine B5 ?_
 refine sP (F0 rfl rfl zW) rfl rfl ?_
 refine A9 ?_
 refine sP (L9 rfl rfl zW) rfl rfl ?_
 refine D9 ?_
 refine sP (O7 rfl rfl zW zW) rfl rfl ?_
 refine D9 ?_
 refine sP (F0 rfl rfl zW) rfl rfl ?_
 refine E7 ?_
 refine E6 rfl ((A7L hre0')) rfl rfl ?_
 refine B3 ?_
 refine sP (B1 (j := 0) rfl rfl rfl zX) rfl rfl ?_
 refine A4 ?_
 refine sL (S0 rfl rfl (At.sub2 (hat2 _) (j := 0) (j' := 0) rfl)) rfl rfl ?_
 refine sP (L9 rfl rfl zW) rfl rfl ?_
 refine A9 ?_
 refine D2 D3 rfl ?_
 refine H1 (i := 0) (l' := [tt,ff,ff,ff,ff,ff,ff,ff,ff,ff,ff,ff,ff,ff,ff,ff,ff,ff,ff,ff]) rfl C8 (C0 rfl) rfl zU rfl rfl ?_
 refine aP 1 rfl (C0 rfl) rfl ?_
 refine aL 2 rfl (D4 rfl rfl) rfl ?_
 refine aP 3 rfl (N7 rfl rfl) rfl ?_
 refine aP 4 rfl (C0 rfl) rfl ?_
 refine aL 5 rfl (D4 rfl rfl) rfl ?_
 refine aP 6 rfl (B1 (j := 0) rfl rfl rfl zX) rfl ?_
 refine aL 7 rfl (A5 rfl rfl (hat2 _) hl2) rfl ?_
 refine aP 10 rfl (C0 rfl) rfl ?_
 refine aP 11 rfl (qF rfl) rfl ?_
 refine aL 12 rfl (D4 rfl rfl) rfl ?_
 refine aP 13 rfl (qM rfl) rfl ?_
 refine aP 14 rfl (B1 (j := 1) rfl rfl rfl zX) rfl ?_
 refine aL 15 rfl (A5 rfl rfl (hat4 _) hl4) rfl ?_
 refine A1 8 ?_
 (refine D1 rfl (C9 rfl rfl rfl zW zR rfl) rfl rfl ?_; rintro _ ⟨b1587, rfl⟩)
 refine aP 9 rfl (N7 rfl rfl) rfl ?_
 refine A1 16 ?_
 (have hq := hq6; refine A1m (cs := [.int .i64 10, .string ⟨⟨[]⟩⟩, .int .i64 0, .int .i64 tkB, .slice ptB tksB.length ctB, .int .i64 fkB, .slice pfB fksB.length cfB, .int .i64 lbB, .slice p0B 0 c0B, .int .i64 0, .int .i64 0, .int .i64 0, .slice pcB 0 ccB, .slice pB 2 cB]) zN (fun G1 hle1 hsl2 hno2 => ?_); have hrN := A7C (k := 12) ⟨by decide, by decide⟩ (A3u G1) (hre2'.mono hle1) hsl2; refine E1 rfl rfl (A2Q _ d9.cn G1 _ _ hrN (hre4.mono hle1)) rfl rfl rfl (fun v G3 hle3 hh => ?_); obtain ⟨vc, rfl, hrv⟩ := hh; have hvl := hrv.len; have hvo := hrv.one)
 refine A1 17 ?_
 (refine oS rfl rfl rfl rfl hvl hvo rfl rfl ?_ (hu := by exact C6 hvl.symm))
 refine aP 18 rfl (qA rfl) rfl ?_
 refine aP 19 rfl (qA rfl) rfl ?_
 refine A9 ?_
 refine H5 (rC rfl (A5 rfl rfl (B7 zP) hvl)) (rT rfl) (rT rfl) ?_
 (have hq := hq6; exact R0.ok (t := .conv d9 (.part true (.pair a b))) hst hrv)
theorem B72 : ∀ t : TH, A5I t := by
 intro t
 induction t with
 | lam x A e i => exact A2k _ fun u hu => by obtain rfl := List.mem_singleton.1 hu; exact i
 | app f a i j => exact A2k _ fun u hu => by simp only [TH.kids, List.mem_cons, List.not_mem_nil, or_false] at hu; rcases hu with rfl | rfl; exact i; exact j
 | ar s f a i j => exact A2k _ fun u hu => by simp only [TH.kids, List.mem_cons, List.not_mem_nil, or_false] at hu; rcases hu with rfl | rfl; exact i; exact j
 | pair f a i j => exact A2k _ fun u hu => by simp only [TH.kids, List.mem_cons, List.not_mem_nil, or_false] at hu; rcases hu with rfl | rfl; exact i; exact j
 | ite c f a i j l => exact A2k _ fun u hu => by simp only [TH.kids, List.mem_cons, List.not_mem_nil, or_false] at hu; rcases hu with rfl | rfl | rfl; exact i; exact j; exact l
 | part s e i => exact A2k _ fun u hu => by obtain rfl := List.mem_singleton.1 hu; exact i
 | conv c e i => exact A2k _ fun u hu => by obtain rfl := List.mem_singleton.1 hu; exact i
 | _ => refine A2k _ ?_; intro u hu; cases hu
def GE.th : GE → TH
 | .var x => .var x
 | .num n => .num n
 | .tru b => .tru b
 | .lam x A e => .lam x A e.th
 | .app f a => .app f.th a.th
 | .ar s a b => .ar s a.th b.th
 | .ite c a b => .ite c.th a.th b.th
 | .pair a b => .pair a.th b.th
 | .part s e => .part s e.th
 | .cast A B l e => .conv (kc A B l) e.th
def GE.lk : GE → Prop
 | .var _ => True
 | .num n => 0 ≤ n ∧ n ≤ 999
 | .tru _ => True
 | .lam _ _ e => e.lk
 | .app f a => f.lk ∧ a.lk
 | .ar _ a b => a.lk ∧ b.lk
 | .ite c a b => c.lk ∧ a.lk ∧ b.lk
 | .pair a b => a.lk ∧ b.lk
 | .part _ e => e.lk
 | .cast _ _ l e => l ≠ 0 ∧ e.lk
theorem B73 {Γ : GC} {g : GE} {A : GT} (h : WT Γ g A) : g.lk → ST Γ g.th A := by
 induction h with
 | var h => intro _; exact .var h
 | num => intro _; exact .num
 | tru => intro _; exact .tru
 | lam _ i => intro h; exact .lam (i h)
 | app _ _ i j => intro h; exact .app (i h.1) (j h.2)
 | ar _ _ i j => intro h; exact .ar (i h.1) (j h.2) rfl
 | ite _ _ _ i j k => intro h; exact .ite (i h.1) (j h.2.1) (k h.2.2)
 | pair _ _ i j => intro h; exact .pair (i h.1) (j h.2)
 | part _ i => intro h; exact .part (i h) rfl
 | cast _ hc i => intro h; exact .conv (i h.2) (B7b hc _ h.1)
theorem B74 : ∀ {g : GE}, g.lk → g.th.nk := by
 intro g
 induction g with
 | var x => exact fun h => h
 | num n => exact fun h => h
 | tru b => exact fun h => h
 | lam x A e i => exact fun h => i h
 | app f a i j => exact fun h => ⟨i h.1, j h.2⟩
 | ar s a b i j => exact fun h => ⟨i h.1, j h.2⟩
 | ite c a b i j k => exact fun h => ⟨i h.1, j h.2.1, k h.2.2⟩
 | pair a b i j => exact fun h => ⟨i h.1, j h.2⟩
 | part s e i => exact fun h => i h
 | cast A B l e i => exact fun h => i h.2
theorem B75 : ∀ (g : GE), cv g.tm → g.lk := by
 intro g
 induction g with
 | var x => exact fun _ => trivial
 | num n => exact fun h => h.node.1.num0
 | tru b => exact fun _ => trivial
 | lam x A e i => exact fun h => i (h.node.2 _ List.mem_cons_self)
 | app f a i j => exact fun h => ⟨i (h.node.2 _ List.mem_cons_self), j (h.node.2 _ (List.mem_cons_of_mem _ List.mem_cons_self))⟩
 | ar s a b i j => exact fun h => ⟨i (h.node.2 _ List.mem_cons_self), j (h.node.2 _ (List.mem_cons_of_mem _ List.mem_cons_self))⟩
 | ite c a b i j k => exact fun h => ⟨i (h.node.2 _ List.mem_cons_self), j (h.node.2 _ (List.mem_cons_of_mem _ List.mem_cons_self)), k (h.node.2 _ (List.mem_cons_of_mem _ (List.mem_cons_of_mem _ List.mem_cons_self)))⟩
 | pair a b i j => exact fun h => ⟨i (h.node.2 _ List.mem_cons_self), j (h.node.2 _ (List.mem_cons_of_mem _ List.mem_cons_self))⟩
 | part s e i => exact fun h => i (h.node.2 _ List.mem_cons_self)
 | cast A B l e i =>
  intro h
  refine ⟨?_, i (h.node.2 _ List.mem_cons_self)⟩
  obtain ⟨d, h⟩ := h
  have := ((B0I h).2.2.2.2.2.2.1 rfl).2
  simp only [A0e, Bool.or_eq_true, A26] at this
  omega
def TH.z : TH → Nat
 | .lam _ _ e => e.z + 1
 | .app f a => f.z + a.z + 1
 | .ar _ a b => a.z + b.z + 1
 | .ite c a b => c.z + a.z + b.z + 1
 | .pair a b => a.z + b.z + 1
 | .part _ e => e.z + 1
 | .conv _ e => e.z + 1
 | _ => 1
theorem TH.z_pos (t : TH) : 1 ≤ t.z := by cases t <;> simp [TH.z]
theorem B76 : ∀ t : TH, t.nt.sz = t.z := by
 intro t
 induction t with
 | lam x A e i => simp only [TH.nt, Nt.sz, Nt.szL, TH.z]; omega
 | app f a i j => simp only [TH.nt, Nt.sz, Nt.szL, TH.z]; omega
 | ar s f a i j => simp only [TH.nt, Nt.sz, Nt.szL, TH.z]; omega
 | ite c f a i j k => simp only [TH.nt, Nt.sz, Nt.szL, TH.z]; omega
 | pair f a i j => simp only [TH.nt, Nt.sz, Nt.szL, TH.z]; omega
 | part s e i => simp only [TH.nt, Nt.sz, Nt.szL, TH.z]; omega
 | conv c e i => simp only [TH.nt, Nt.sz, Nt.szL, TH.z]; omega
 | _ => simp only [TH.nt, Nt.sz, Nt.szL, TH.z]
theorem B77 : ∀ g : GE, F4 g.tm = g.th.z := by
 intro g
 induction g with
 | lam x A e i => simp only [GE.tm, GE.th, F4, H4, TH.z]; omega
 | app f a i j => simp only [GE.tm, GE.th, F4, H4, TH.z]; omega
 | ar s f a i j => simp only [GE.tm, GE.th, F4, H4, TH.z]; omega
 | ite c f a i j k => simp only [GE.tm, GE.th, F4, H4, TH.z]; omega
 | pair f a i j => simp only [GE.tm, GE.th, F4, H4, TH.z]; omega
 | part s e i => simp only [GE.tm, GE.th, F4, H4, TH.z]; omega
 | cast A B l e i => simp only [GE.tm, GE.th, F4, H4, TH.z]; omega
 | _ => simp only [GE.tm, GE.th, F4, H4, TH.z]
theorem B78 (x : ByteArray) (v : TH) : ∀ t : TH, (t.sub x v).z ≤ t.z * v.z := by
 have hv := v.z_pos
 have one : ∀ a : Nat, 1 ≤ a → a ≤ a * v.z := fun a _ => Nat.le_mul_of_pos_right a hv
 intro t
 induction t with
 | var y => rw [TH.sub]; split; simp [TH.z]; simp [TH.z]; omega
 | num n => simp [TH.sub, TH.z]; omega
 | tru n => simp [TH.sub, TH.z]; omega
 | lam y A e i =>
  rw [TH.sub]
  split
  ·exact one _ (TH.z_pos _)
  ·simp only [TH.z, Nat.add_mul, Nat.one_mul]; omega
 | app f a i j => simp only [TH.sub, TH.z, Nat.add_mul, Nat.one_mul]; omega
 | ar s f a i j => simp only [TH.sub, TH.z, Nat.add_mul, Nat.one_mul]; omega
 | ite c f a i j k => simp only [TH.sub, TH.z, Nat.add_mul, Nat.one_mul]; omega
 | pair f a i j => simp only [TH.sub, TH.z, Nat.add_mul, Nat.one_mul]; omega
 | part s e i => simp only [TH.sub, TH.z, Nat.add_mul, Nat.one_mul]; omega
 | conv c e i => simp only [TH.sub, TH.z, Nat.add_mul, Nat.one_mul]; omega
theorem B79 {x : ByteArray} {v : TH} (hv : v.nk) : ∀ {t : TH}, t.nk → (t.sub x v).nk := by
 intro t
 induction t with
 | var y => intro _; rw [TH.sub]; split; exact hv; trivial
 | num n => exact fun h => h
 | tru b => exact fun h => h
 | lam y A e i => intro h; rw [TH.sub]; split; exact h; exact i h
 | app f a i j => exact fun h => ⟨i h.1, j h.2⟩
 | ar s a b i j => exact fun h => ⟨i h.1, j h.2⟩
 | ite c a b i j k => exact fun h => ⟨i h.1, j h.2.1, k h.2.2⟩
 | pair a b i j => exact fun h => ⟨i h.1, j h.2⟩
 | part s e i => exact fun h => i h
 | conv c e i => exact fun h => i h
def zb (n : Nat) : Nat := n * n + n + 5
theorem A1Q {a b c a' c0' : Nat} (h : a ≤ zb b) (c0 : b + c ≤ c0') (h1 : a' ≤ a + c) : a' ≤ zb c0' := by
 have : zb b + c ≤ zb (b + c) := by
  unfold zb
  have : (b + c) * (b + c) = b * b + b * c + (c * b + c * c) := by rw [Nat.add_mul, Nat.mul_add, Nat.mul_add]
  omega
 have h2 : zb (b + c) ≤ zb c0' := by
  unfold zb
  have := Nat.mul_le_mul c0 c0
  omega
 omega
theorem A2l (n : Nat) : n + 5 ≤ zb n := by unfold zb; omega
theorem A0j {t : TH} : TH.nul.nk ∧ TH.nul.z ≤ zb t.z := ⟨⟨by decide, by decide⟩, by have := A2l t.z; simp only [TH.nul, TH.z]; omega⟩
theorem B8a : ∀ (t : TH), t.nk → t.stp.1.nk ∧ t.stp.1.z ≤ zb t.z := by
 intro t
 induction t with
 | var x => intro _; exact A0j
 | num n => intro _; exact A0j
 | tru b => intro _; exact A0j
 | lam x A e _ => intro _; exact A0j
 | app f a i j =>
  intro h
  rw [TH.stp]
  split
  ·exact ⟨⟨(i h.1).1, h.2⟩, A1Q (i h.1).2 (c := a.z + 1) (by simp only [TH.z]; omega) (by simp only [V3, TH.z]; omega)⟩
  ·split
   ·exact ⟨⟨h.1, (j h.2).1⟩, A1Q (j h.2).2 (c := f.z + 1) (by simp only [TH.z]; omega) (by simp only [V3, TH.z]; omega)⟩
   ·cases f with
    | lam x A b =>
     refine ⟨B79 h.2 h.1, ?_⟩
     have h1 := B78 x a b
     have h2 : b.z * a.z ≤ (b.z + 1 + a.z + 1) * (b.z + 1 + a.z + 1) := Nat.mul_le_mul zW zW
     show (b.sub x a).z ≤ zb (b.z + 1 + a.z + 1)
     unfold zb
     omega
    | conv c e =>
     cases c with
     | fn c d =>
      cases e with
      | lam x A b =>
       refine ⟨⟨h.1, h.2⟩, ?_⟩
       have := A2l (TH.app (.conv (.fn c d) (.lam x A b)) a).z
       simp only [apS, TH.z] at this ⊢
       omega
      | _ => exact A0j
     | _ => exact A0j
    | _ => exact A0j
 | ar s a b i j =>
  intro h
  rw [TH.stp]
  split
  ·exact ⟨⟨(i h.1).1, h.2⟩, A1Q (i h.1).2 (c := b.z + 1) (by simp only [TH.z]; omega) (by simp only [V3, TH.z]; omega)⟩
  ·split
   ·exact ⟨⟨h.1, (j h.2).1⟩, A1Q (j h.2).2 (c := a.z + 1) (by simp only [TH.z]; omega) (by simp only [V3, TH.z]; omega)⟩
   ·cases a with
    | num m =>
     cases b with
     | num n =>
      have := A2l (TH.ar s (.num m) (.num n)).z
      cases s with
      | true => exact ⟨trivial, by simp only [arS, arT, if_true, TH.z] at this ⊢; omega⟩
      | false => exact ⟨by simp only [arS, arT, Bool.false_eq_true, if_false, TH.nk]; omega, by simp only [arS, arT, Bool.false_eq_true, if_false, TH.z] at this ⊢; omega⟩
     | _ => exact A0j
    | _ => exact A0j
 | ite c a b i _ _ =>
  intro h
  rw [TH.stp]
  split
  ·exact ⟨⟨(i h.1).1, h.2⟩, A1Q (i h.1).2 (c := a.z + b.z + 1) (by simp only [TH.z]; omega) (by simp only [V3, TH.z]; omega)⟩
  ·cases c with
   | tru m =>
    have := A2l (TH.ite (.tru m) a b).z
    cases m with
    | true => exact ⟨h.2.1, by simp only [itS, if_true, TH.z] at this ⊢; omega⟩
    | false => exact ⟨h.2.2, by simp only [itS, Bool.false_eq_true, if_false, TH.z] at this ⊢; omega⟩
   | _ => exact A0j
 | pair f a i j =>
  intro h
  rw [TH.stp]
  split
  ·exact ⟨⟨(i h.1).1, h.2⟩, A1Q (i h.1).2 (c := a.z + 1) (by simp only [TH.z]; omega) (by simp only [V3, TH.z]; omega)⟩
  ·exact ⟨⟨h.1, (j h.2).1⟩, A1Q (j h.2).2 (c := f.z + 1) (by simp only [TH.z]; omega) (by simp only [V3, TH.z]; omega)⟩
 | part s e i =>
  intro h
  rw [TH.stp]
  split
  ·exact ⟨(i h).1, A1Q (i h).2 (c := 1) (by simp only [TH.z]; omega) (by simp only [V3, TH.z]; omega)⟩
  ·cases e with
   | pair a b =>
    have := A2l (TH.part s (.pair a b)).z
    cases s with
    | true => exact ⟨h.2, by simp only [ptS, if_true, TH.z] at this ⊢; omega⟩
    | false => exact ⟨h.1, by simp only [ptS, Bool.false_eq_true, if_false, TH.z] at this ⊢; omega⟩
   | conv c e =>
    cases c with
    | pr c d =>
     cases e with
     | pair a b => exact ⟨h, by have := A2l (TH.part s (.conv (.pr c d) (.pair a b))).z; simp only [ptS, TH.z] at this ⊢; omega⟩
     | _ => exact A0j
    | _ => exact A0j
   | _ => exact A0j
 | conv c e i =>
  intro h
  rw [TH.stp]
  by_cases hc : e.cnv = false
  ·rw [A09 hc]
   split
   ·exact ⟨(i h).1, A1Q (i h).2 (c := 1) (by simp only [TH.z]; omega) (by simp only [V3, TH.z]; omega)⟩
   ·have := A2l (TH.conv c e).z
    cases c <;> first | exact A0j | exact ⟨h, by simp only [plS, TH.z] at this ⊢; omega⟩
  ·cases e with
   | conv c0 u =>
    show (cvS c (.conv c0 u) _).1.nk ∧ _
    rw [cvS]
    split
    ·exact ⟨h, by have := A2l (TH.conv c (.conv c0 u)).z; simp only [TH.z] at this ⊢; omega⟩
    ·exact A0j
   | _ => exact absurd rfl hc
abbrev SRn := ByteArray × Int × Int
def R5 : Nat → TH → SRn
 | 0, t => if t.val = true then (t.tx, 0, 0) else if t.stp.2.1 ≠ 1 then (⟨⟨[]⟩⟩, t.stp.2.1, t.stp.2.2) else if 200 < t.stp.1.z then (⟨⟨[]⟩⟩, 4, 0) else (⟨⟨[]⟩⟩, 5, 0)
 | n + 1, t => if t.val = true then (t.tx, 0, 0) else if t.stp.2.1 ≠ 1 then (⟨⟨[]⟩⟩, t.stp.2.1, t.stp.2.2) else if 200 < t.stp.1.z then (⟨⟨[]⟩⟩, 4, 0) else R5 n t.stp.1
theorem A7M : ∀ (n : Nat) {t : TH} {A : GT}, ST D6 t A → (R5 n t).2.1 = 4 ∨ (R5 n t).2.1 = 5 ∨ (∃ w, I8 t (.v w) ∧ R5 n t = (w.tx, 0, 0)) ∨ ∃ l, I8 t (.b l) ∧ R5 n t = (⟨⟨[]⟩⟩, 2, l) := by
 have base : ∀ {t : TH} {A : GT}, ST D6 t A → t.val = true → ∃ w, I8 t (.v w) ∧ ((t.tx, 0, 0) : SRn) = (w.tx, 0, 0) := fun _ h => ⟨_, A0C _ h, rfl⟩
 have fail : ∀ {t : TH} {A : GT}, ST D6 t A → t.val = false → t.stp.2.1 ≠ 1 → t.stp.2.1 = 2 ∧ I8 t (.b t.stp.2.2) := by
  intro t A hT hv h
  rcases A7r hT rfl hv with ⟨h1, _⟩ | ⟨h2, _⟩
  ·exact absurd h1 h
  ·exact ⟨h2, (B1E hT rfl hv).2 h2⟩
 intro n
 induction n with
 | zero =>
  intro t A hT
  rw [R5]
  by_cases hv : t.val = true
  ·rw [if_pos hv]; obtain ⟨w, h1, h2⟩ := base hT hv; exact .inr (.inr (.inl ⟨w, h1, h2⟩))
  ·rw [if_neg hv]
   have hv' : t.val = false := by cases h : t.val with | false => rfl | true => exact absurd h hv
   by_cases hs : t.stp.2.1 ≠ 1
   ·rw [if_pos hs]; obtain ⟨h1, h2⟩ := fail hT hv' hs; rw [h1]; exact .inr (.inr (.inr ⟨_, h2, rfl⟩))
   ·rw [if_neg hs]; split
    ·exact .inl rfl
    ·exact .inr (.inl rfl)
 | succ n ih =>
  intro t A hT
  rw [R5]
  by_cases hv : t.val = true
  ·rw [if_pos hv]; obtain ⟨w, h1, h2⟩ := base hT hv; exact .inr (.inr (.inl ⟨w, h1, h2⟩))
  ·rw [if_neg hv]
   have hv' : t.val = false := by cases h : t.val with | false => rfl | true => exact absurd h hv
   by_cases hs : t.stp.2.1 ≠ 1
   ·rw [if_pos hs]; obtain ⟨h1, h2⟩ := fail hT hv' hs; rw [h1]; exact .inr (.inr (.inr ⟨_, h2, rfl⟩))
   ·rw [if_neg hs]; split
    ·exact .inl rfl
    ·have hs1 : t.stp.2.1 = 1 := Classical.not_not.1 hs
     have hT2 : ST D6 t.stp.1 A := by
      rcases A7r hT rfl hv' with ⟨_, _, h⟩ | ⟨h, _⟩
      ·exact h
      ·rw [hs1] at h; exact absurd h zV
     have hb := (B1E hT rfl hv').1 hs1
     rcases ih hT2 with h | h | ⟨w, h1, h2⟩ | ⟨l, h1, h2⟩
     ·exact .inl h
     ·exact .inr (.inl h)
     ·exact .inr (.inr (.inl ⟨w, hb _ h1, h2⟩))
     ·exact .inr (.inr (.inr ⟨l, hb _ h1, h2⟩))
theorem A4o : ∀ (A : GT) (l : Int), (kc A A l).idn = true
 | .any, l => by rw [A1t, S8]; rfl
 | .int, l => by rw [A4j]; rfl
 | .bool, l => by rw [A4k]; rfl
 | .fn a b, l => by rw [A2O, GK.idn, A4o a, A4o b]; rfl
 | .pr a b, l => by rw [A2P, GK.idn, A4o a, A4o b]; rfl
theorem A4p : ∀ (A : GT) (l m : Int), (cmp (U6 A m) (S8 A l)).idn = true
 | .any, l, m => by rw [U6, S8, cmp]; rfl
 | .int, l, m => by rw [U6, S8, cmp, if_pos rfl, cmp]; rfl
 | .bool, l, m => by rw [U6, S8, cmp, if_pos rfl, cmp]; rfl
 | .fn a b, l, m => by rw [U6, S8, cmp, if_pos (by rfl), cmp, GK.idn, A4p a, A4p b]; rfl
 | .pr a b, l, m => by rw [U6, S8, cmp, if_pos (by rfl), cmp, GK.idn, A4p a, A4p b]; rfl
theorem B8b : ∀ g : GE, U g.th g.simp.th := by
 intro g
 induction g with
 | var x => exact .var
 | num n => exact .num
 | tru b => exact .tru
 | lam x A e i => exact .lam i
 | app f a i j => exact .app i j
 | ar s a b i j => exact .ar i j
 | ite c a b i j k => exact .ite i j k
 | pair a b i j => exact .pair i j
 | part s e i => exact .part i
 | cast A B l e i =>
  rw [GE.simp]
  rcases A4a A B l e.simp with ⟨rfl, h3⟩ | ⟨m, x, rfl, h4, h3⟩ | h3
  ·rw [h3]; exact .idn i (A4o A l)
  ·rw [h3]
   rw [h4] at i
   exact .back i (by rw [A2h, A1t]; exact A4p B l m)
  ·rw [h3]; exact .conv i
theorem B8c {t t' : TH} (h : U t t') (hv : t.val = true) : t.tx = t'.tx := by
 have nc : ∀ {u u' : TH}, U u u' → u.pln = true → u.tx = u'.tx := by
  intro u u' h hp
  cases h <;> first | rfl | (rw [TH.pln] at hp; cases hp)
 cases hc : t.cnv with
 | false => exact nc h (A08 hv hc)
 | true =>
  cases t <;> first | cases hc | skip
  obtain ⟨_, hp⟩ := A4m hv
  rcases A3t h (A1O hp) with ⟨u', rfl, h2⟩ | ⟨h2, _⟩
  ·rw [TH.tx, TH.tx]; exact nc h2 hp
  ·rw [TH.tx]; exact nc h2 hp
theorem B8d {g : GE} {A : GT} (hT : ST D6 g.th A) (n m : Nat) : (R5 n g.th).2.1 = 4 ∨ (R5 n g.th).2.1 = 5 ∨ (R5 m g.simp.th).2.1 = 4 ∨ (R5 m g.simp.th).2.1 = 5 ∨ R5 n g.th = R5 m g.simp.th := by
 have hU := B8b g
 rcases A7M n hT with h | h | ⟨w, h1, h2⟩ | ⟨l, h1, h2⟩
 ·exact .inl h
 ·exact .inr (.inl h)
 ·obtain ⟨r, e1, e2⟩ := hU.ev h1 hT
  cases e2 with
  | v e2 =>
   rcases A7M m (hU.T hT) with h | h | ⟨w', h3, h4⟩ | ⟨l, h3, h4⟩
   ·exact .inr (.inr (.inl h))
   ·exact .inr (.inr (.inr (.inl h)))
   ·cases e1.det h3
    exact .inr (.inr (.inr (.inr (by rw [h2, h4, B8c e2 (h1.T hT _ rfl).2]))))
   ·cases e1.det h3
 ·obtain ⟨r, e1, e2⟩ := hU.ev h1 hT
  cases e2
  rcases A7M m (hU.T hT) with h | h | ⟨w', h3, h4⟩ | ⟨l, h3, h4⟩
  ·exact .inr (.inr (.inl h))
  ·exact .inr (.inr (.inr (.inl h)))
  ·cases e1.det h3
  ·cases e1.det h3
   exact .inr (.inr (.inr (.inr (by rw [h2, h4]))))
theorem A0Q {a b c d : Int} (h : a ≤ b) (h' : c ≤ d) : mxI a c ≤ mxI b d := by unfold mxI; split <;> split <;> omega
theorem A7N (a b : Int) : b ≤ mxI a b := by unfold mxI; split <;> omega
theorem B8e : ∀ g : GE, g.simp.th.nt.ht ≤ g.th.nt.ht := by
 intro g
 have h0 : ∀ {k : Int}, k ≠ 14 → (if k = 14 then P2.ht else 0) = 0 := fun h => if_neg h
 induction g with
 | var x => exact Int.le_refl _
 | num n => exact Int.le_refl _
 | tru b => exact Int.le_refl _
 | lam x A e i => simp only [GE.simp, GE.th, TH.nt, Nt.ht, Nt.htL]; exact A0Q (Int.le_refl _) i
 | app f a i j => simp only [GE.simp, GE.th, TH.nt, Nt.ht, Nt.htL]; exact A0Q (A0Q (Int.le_refl _) i) j
 | ar s a b i j => simp only [GE.simp, GE.th, TH.nt, Nt.ht, Nt.htL]; exact A0Q (A0Q (Int.le_refl _) i) j
 | ite c a b i j k => simp only [GE.simp, GE.th, TH.nt, Nt.ht, Nt.htL]; exact A0Q (A0Q (A0Q (Int.le_refl _) i) j) k
 | pair a b i j => simp only [GE.simp, GE.th, TH.nt, Nt.ht, Nt.htL]; exact A0Q (A0Q (Int.le_refl _) i) j
 | part s e i => simp only [GE.simp, GE.th, TH.nt, Nt.ht, Nt.htL]; exact A0Q (Int.le_refl _) i
 | cast A B l e i =>
  have e1 : (GE.cast A B l e).th.nt.ht = mxI (kc A B l).cn.ht e.th.nt.ht := by simp only [GE.th, TH.nt, Nt.ht, Nt.htL, if_true]
  rw [GE.simp, e1]
  rcases A4a A B l e.simp with ⟨rfl, h3⟩ | ⟨m, x, rfl, h4, h3⟩ | h3
  ·rw [h3]; exact Int.le_trans i (A7N _ _)
  ·rw [h3]
   rw [h4] at i
   have e2 : (GE.cast B .any m x).th.nt.ht = mxI (kc B .any m).cn.ht x.th.nt.ht := by simp only [GE.th, TH.nt, Nt.ht, Nt.htL, if_true]
   rw [e2] at i
   exact Int.le_trans (Int.le_trans (A7N _ _) i) (A7N _ _)
  ·rw [h3]
   have e2 : (GE.cast A B l e.simp).th.nt.ht = mxI (kc A B l).cn.ht e.simp.th.nt.ht := by simp only [GE.th, TH.nt, Nt.ht, Nt.htL, if_true]
   rw [e2]
   exact A0Q (Int.le_refl _) i
def A1a (k : Int) (nm : ByteArray) (num : Int) (ty fr : GT) (lb : Int) (l : List GE) : GE :=
 let a := l.getD 0 (.num 0)
 let b := l.getD 1 (.num 0)
 if k = 1 then .var nm else if k = 2 then .num num else if k = 3 then .tru true else if k = 4 then .tru false
 else if k = 5 then .lam nm ty a else if k = 6 then .app a b else if k = 7 then .ar false a b else if k = 8 then .ar true a b
 else if k = 9 then .ite a b (l.getD 2 (.num 0)) else if k = 10 then .pair a b else if k = 11 then .part false a else if k = 12 then .part true a
 else .cast fr ty lb a
mutual
def V5 : Tm → GE
 | .mk k nm num ty fr lb ks => A1a k nm num (A0D ty) (A0D fr) lb (A0R ks)
def A0R : List Tm → List GE
 | [] => []
 | t :: ts => V5 t :: A0R ts
end
theorem B2d : ∀ g : GE, V5 g.tm = g := by
 intro g
 induction g with
 | var x => simp [GE.tm, V5, A0R, A1a]
 | num n => simp [GE.tm, V5, A0R, A1a]
 | tru b => cases b <;> simp [GE.tm, V5, A0R, A1a]
 | lam x A e i => simp [GE.tm, V5, A0R, A1a, i, A1v]
 | app f a i j => simp [GE.tm, V5, A0R, A1a, i, j]
 | ar s a b i j => cases s <;> simp [GE.tm, V5, A0R, A1a, i, j]
 | ite c a b i j k => simp [GE.tm, V5, A0R, A1a, i, j, k]
 | pair a b i j => simp [GE.tm, V5, A0R, A1a, i, j]
 | part s e i => cases s <;> simp [GE.tm, V5, A0R, A1a, i]
 | cast A B l e i => simp [GE.tm, V5, A0R, A1a, i, A1v]
theorem A7O : ∀ g : GE, V0 g.tm = g.th.nt := by
 intro g
 induction g with
 | var x => rw [GE.tm, V0, Q7, if_neg zV]; rfl
 | num n => rw [GE.tm, V0, Q7, if_neg zV]; rfl
 | tru b => cases b <;> simp [GE.tm, V0, Q7, TH.nt, GE.th, ByteArray.empty, ByteArray.emptyWithCapacity]
 | lam x A e i => rw [GE.tm, V0, Q7, Q7, if_neg zV, i]; rfl
 | app f a i j => rw [GE.tm, V0, Q7, Q7, Q7, if_neg zV, i, j]; rfl
 | ar s a b i j => cases s <;> simp [GE.tm, V0, Q7, TH.nt, GE.th, i, j]
 | ite c a b i j k => rw [GE.tm, V0, Q7, Q7, Q7, Q7, if_neg zV, i, j, k]; rfl
 | pair a b i j => rw [GE.tm, V0, Q7, Q7, Q7, if_neg zV, i, j]; rfl
 | part s e i => cases s <;> simp [GE.tm, V0, Q7, TH.nt, GE.th, i]
 | cast A B l e i => rw [GE.tm, V0, Q7, Q7, if_pos rfl, i, A1v, A1v]; rfl
structure SpT (e : Tm) (g : GE) (A : GT) : Prop where
 eq : e = g.tm
 st : ST D6 g.th A
 nk : g.th.nk
 z : g.th.z ≤ 200
 wt : WT D6 g A
theorem spT {e : Tm} {T : Ty} (hv : K2 e = true) (hT : C5 [] e = some T) : ∃ A, T = A.ty ∧ SpT e (V5 e) A := by
 obtain ⟨hs, hc⟩ := (A1Y e).1 hv
 obtain ⟨g, A, rfl, rfl, hw⟩ := B0Z e 1 [] D6 T hs B0l hT
 rw [B2d]
 have hlk := B75 g (A12 hv).1
 exact ⟨A, rfl, ⟨rfl, B73 hw hlk, B74 hlk, by rw [← B77]; exact hc, hw⟩⟩
def A0a (t : TH) (fuel : Int) : SRn := if 0 ≤ fuel ∧ fuel ≤ 300 then R5 fuel.toNat t else (⟨⟨[]⟩⟩, 3, 0)
def B9a (e : Tm) (fuel : Int) : SRn := match A33 e with
 | none => (⟨⟨[]⟩⟩, 3, 0)
 | some (u, _) => A0a (V5 u).th fuel
theorem B8f {n : Nat} {t : TH} (h : t.val = true) : R5 n t = (t.tx, 0, 0) := by cases n <;> (rw [R5, if_pos h])
theorem B8g {n : Nat} {t : TH} (h : t.val = false) (h2 : t.stp.2.1 ≠ 1) : R5 n t = (⟨⟨[]⟩⟩, t.stp.2.1, t.stp.2.2) := by cases n <;> (rw [R5, if_neg (by rw [h]; decide), if_pos h2])
theorem B8h {n : Nat} {t : TH} (h : t.val = false) (h2 : t.stp.2.1 = 1) (h3 : 200 < t.stp.1.z) : R5 n t = (⟨⟨[]⟩⟩, 4, 0) := by cases n <;> (rw [R5, if_neg (by rw [h]; decide), if_neg zW, if_pos h3])
theorem B8i {n : Nat} {t : TH} (h : t.val = false) (h2 : t.stp.2.1 = 1) (h3 : ¬200 < t.stp.1.z) (hn : n = 0) : R5 n t = (⟨⟨[]⟩⟩, 5, 0) := by subst hn; rw [R5, if_neg (by rw [h]; decide), if_neg zW, if_neg h3]
theorem B8j {n : Nat} {t : TH} (h : t.val = false) (h2 : t.stp.2.1 = 1) (h3 : ¬200 < t.stp.1.z) (hn : n ≠ 0) : R5 n t = R5 (n - 1) t.stp.1 := by
 obtain ⟨m, rfl⟩ : ∃ m, n = m + 1 := ⟨n - 1, by omega⟩
 rw [R5, if_neg (by rw [h]; decide), if_neg zW, if_neg h3]; rfl
theorem B8k {t : TH} {A : GT} (hT : ST D6 t A) (hv : t.val = false) (h : t.stp.2.1 = 1) : ST D6 t.stp.1 A := by
 rcases A7r hT rfl hv with ⟨_, _, h⟩ | ⟨h2, _⟩
 ·exact h
 ·rw [h] at h2; exact absurd h2 zV
def A2m (r : SRn) : IM → Value → List A6 → Prop := K1 fun _ v => ∃ h : Int, v = .tuple ⟨[.string r.1, .int .i64 r.2.1, .int .i64 r.2.2, .int .i64 h]⟩
theorem A2m.mk {G : IM} {r : SRn} {s : ByteArray} {c l h : Int} (e : r = (s, c, l)) : A2m r G (.tuple ⟨[.string s, .int .i64 c, .int .i64 l, .int .i64 h]⟩) [] := by subst e; exact ⟨rfl, h, rfl⟩
theorem B8l {t : TH} {fuel : Int} (h : U1 fuel 0 300 = false) : A0a t fuel = (⟨⟨[]⟩⟩, 3, 0) := by
 unfold A0a; rw [if_neg (A8g h)]
theorem B2e (e : Tm) (g : GE) (A : GT) (fuel : Int) (G : IM) (cells : List Value) (hTab : A1d G) (hv : K2 e = true) (hs : SpT e g A) (hr : B6 G e cells) : Fn Tryz.prog 11 [.agg ⟨cells⟩, .int .i64 fuel] [] G (A2m (A0a g.th fuel)) := by
 have hRl := hr.len
 have hRo := hr.one
 have hV := A4T e G cells hr
 rw [hv] at hV
 have hno := @B8l g.th fuel
 have hTo := B10 e G cells (A12 hv).1 hr
 have hmt : V0 e = g.th.nt := by rw [hs.eq, A7O]
 rw [hmt] at hTo
 obtain ⟨F, hF⟩ : ∃ F : Nat, U1 fuel 0 300 = true → fuel = (F : Int) ∧ F ≤ 300 ∧ A0a g.th fuel = R5 F g.th := ⟨fuel.toNat, fun h => by
  have h2 := A8f h
  exact ⟨by omega, by omega, by unfold A0a; rw [if_pos h2]⟩⟩
 generalize A0a g.th fuel = R at hno hF ⊢
 refine C7 Tryz.func11 rfl Tryz.ntmps11 Tryz.results11 rfl ?_
 intro w0
 refine A4 ?_
 refine sE (D5 rfl rfl) rfl (fun b3 => ?_)
 refine D9 ?_
 refine sL (A5 rfl rfl (B7 zP) hRl) rfl rfl ?_
 refine E6 rfl (hV) rfl rfl ?_
 refine B3 ?_
 refine J0 rfl ((B5s fuel _)) rfl rfl (fun h18 => ?_) (fun h18 => ?_)
 refine D9 ?_
 refine sL (A5 rfl rfl (B7 zP) hRl) rfl rfl ?_
 (obtain ⟨rfl, hF3, rfl⟩ := hF zT; refine F9 rfl hTo rfl rfl (fun v G1 hle1 hh => ?_); obtain ⟨wc, rfl, hrw⟩ := hh; have hwl := hrw.len; have hwo := hrw.one)
 refine sE (A8 rfl) rfl (fun b30 => ?_)
 refine sS rfl rfl rfl hwl hwo rfl ?_ (hu := by exact C6 hwl.symm)
 refine C3 ?_
 refine sL (A5 rfl rfl (B7 zP) hwl) rfl rfl ?_
 refine E6 rfl ((A7B _ _ _ hrw)) rfl rfl ?_
 refine E7 ?_
 refine C2 ?_
 (refine L4 (fun (x : Nat × TH × List Value × Int × IM) => ⟨[(10, .int .i64 (x.1 : Int)), (9, .int .i64 x.2.2.2.1), (8, .pointer (some ⟨b30, 0, none⟩)), (1, .int .i64 (F : Int))], [.blk b30 x.2.2.1], x.2.2.2.2⟩) (fun x => x.1 ≤ F ∧ R5 F g.th = R5 (F - x.1) x.2.1 ∧ ST D6 x.2.1 A ∧ x.2.1.nk ∧ x.2.1.z ≤ 200 ∧ E2 x.2.2.2.2 x.2.1.nt x.2.2.1 ∧ C1 G1 x.2.2.2.2) (fun x => F - x.1) (0, g.th, wc, g.th.nt.ht, G1) ?_ ?_ ?_)
 (simp only [J7]; exact E3)
 (exact ⟨Nat.zero_le _, rfl, hs.st, hs.nk, hs.z, hrw, C1.refl _⟩)
 (rintro ⟨s, t, uc, h, Gi⟩ ⟨hsF, R1, hT, hnk, hz, hru, hlei⟩; simp only [] at hsF R1 hT hnk hz hru hlei ⊢; have hul := hru.len; have huo := hru.one; have hVal := (A7H t).2 Gi uc hru)
 refine tS ?_
 refine C2 ?_
 refine B3 ?_
 refine sL (A5 rfl rfl (B7 zP) hul) rfl rfl ?_
 focus (cases hvl : t.val; all_goals (rw [hvl] at hVal; refine E6 rfl hVal rfl rfl ?_))
 refine B5 ?_
 refine sL (A5 rfl rfl (B7 zP) hul) rfl rfl ?_
 (refine F9 rfl (B72 t Gi uc A hT hvl hnk hru) rfl rfl (fun v G3 hle3 hh => ?_); obtain ⟨nc, n1, rfl, hrn, hn1⟩ := hh; have hnl := hrn.len; have hno2 := hrn.one; have hok := B8a t hnk)
 refine C3 ?_
 refine sE (A8 rfl) rfl (fun b71 => ?_)
 refine sS rfl rfl rfl hnl hno2 rfl ?_ (hu := by exact C6 hnl.symm)
 refine A9 ?_
 refine C2 ?_
 refine B3 ?_
 refine sB (R7 rfl rfl) rfl rfl (fun h82 => ?_) (fun h82 => ?_)
 refine A5Y ?_
 refine A36 (rT rfl) (rT rfl) (rT rfl) (rT rfl) ?_
 (exact A2m.mk (by rw [R1]; exact B8g hvl zW))
 refine A7 ?_
 refine sL (A5 rfl rfl (B7 zP) hnl) rfl rfl ?_
 (have hc1 : t.stp.2.1 = 1 := zW; obtain rfl := hn1 hc1; have hzz : zb t.z ≤ zb 200 := (by unfold zb; have := Nat.mul_le_mul hz hz; omega); have hzb : zb 200 = 40205 := rfl; have hsz := B76 t.stp.1; refine E6 rfl (B7E _ G3 nc zW hrn) rfl rfl ?_)
 refine sB (A0l rfl rfl) rfl rfl (fun h115 => ?_) (fun h115 => ?_)
 refine A0n ?_
 refine A36 (rT rfl) (rT rfl) (rT rfl) (rT rfl) ?_
 (exact A2m.mk (by rw [R1]; exact B8h hvl hc1 zW))
 refine E7 ?_
 refine sB (qE rfl rfl) rfl rfl (fun h146 => ?_) (fun h146 => ?_)
 refine A0n ?_
 refine A36 (rT rfl) (rT rfl) (rT rfl) (rT rfl) ?_
 (exact A2m.mk (by rw [R1]; exact B8i hvl hc1 zW zW))
 refine D9 ?_
 refine sL (A5 rfl rfl (B7 zP) hnl) rfl rfl ?_
 refine P3 rfl rfl rfl hnl hno2 rfl zO (by exact C6 (hul.trans hnl.symm)) ?_
 refine C3 ?_
 refine sL (A5 rfl rfl (B7 zP) hnl) rfl rfl ?_
 refine E6 rfl ((A7B _ _ _ hrn)) rfl rfl ?_
 refine sQ (A5A rfl rfl) rfl ?_
 refine A7 ?_
 refine sP (K9 rfl rfl zW zW) rfl rfl ?_
 refine A4 ?_
 refine K3 (s + 1, t.stp.1, nc, (if h < t.stp.1.nt.ht then t.stp.1.nt.ht else h), G3) ?_ ?_ ?_
 (simp only [J7]; exact E3)
 (dsimp only; exact ⟨by omega, by rw [R1, B8j hvl hc1 zW zW, show F - (s + 1) = F - s - 1 by omega], B8k hT hvl hc1, hok.1, by omega, hrn, hlei.trans hle3⟩)
 (show F - (s + 1) < F - s; omega)
 refine A9 ?_
 refine sL (A5 rfl rfl (B7 zP) hul) rfl rfl ?_
 refine E6 rfl ((B7U t Gi uc (hTab.mono (hle1.trans hlei)) hvl hnk hru)) rfl rfl ?_
 refine J2 ?_
 refine A36 (rT rfl) (rT rfl) (rT rfl) (rT rfl) ?_
 (exact A2m.mk (by rw [R1]; exact B8f hvl))
 refine K4 ?_
 refine A36 (rT rfl) (rT rfl) (rT rfl) (rT rfl) ?_
 (exact A2m.mk (hno zT))
theorem A1w (e : Tm) (G : IM) (cells : List Value) (hv : K2 e = true) (hr : B6 G e cells) : Fn Tryz.prog 12 [.agg ⟨cells⟩] [] G (K1 fun _ v => v = .int .i64 (V0 e).ht) := by
 have hRl := hr.len
 have hRo := hr.one
 have hV := A4T e G cells hr
 rw [hv] at hV
 have hTo := B10 e G cells (A12 hv).1 hr
 refine C7 Tryz.func12 rfl Tryz.ntmps12 Tryz.results12 rfl ?_
 intro w0
 refine A4 ?_
 refine sE (D5 rfl rfl) rfl (fun b3 => ?_)
 refine A7 ?_
 refine sL (A5 rfl rfl (B7 zP) hRl) rfl rfl ?_
 refine E6 rfl (hV) rfl rfl ?_
 refine E7 ?_
 refine sL (A5 rfl rfl (B7 zP) hRl) rfl rfl ?_
 (refine F9 rfl hTo rfl rfl (fun v G1 hle1 hh => ?_); obtain ⟨wc, rfl, hrw⟩ := hh)
 refine E6 rfl ((A7B _ _ _ hrw)) rfl rfl ?_
 refine A9 ?_
 (exact ⟨rfl, rfl⟩)
theorem B8m {a x : Tm} {b : Bool} (hS : A1q a = (x, b)) (hb : b = true) {TY : Option Ty} (hTY : Y1 a = TY) (hs : TY.isSome = true) : ∃ g h A B, K2 a = true ∧ K2 x = true ∧ SpT a g A ∧ SpT x h B ∧ (V0 x).ht ≤ (V0 a).ht ∧
  ((A0a g.th 200).2.1 = 4 ∨ (A0a g.th 200).2.1 = 5 ∨ (A0a h.th 200).2.1 = 4 ∨ (A0a h.th 200).2.1 = 5 ∨ A0a g.th 200 = A0a h.th 200) := by
 obtain ⟨T, rfl⟩ := Option.isSome_iff_exists.1 hs
 obtain ⟨h1, h2⟩ := B1i hTY
 rw [A7i h1] at hS
 obtain ⟨rfl, _⟩ := Prod.mk.inj hS
 obtain ⟨g1, g2, _⟩ := B5W h1 h2
 obtain ⟨A, _, hsp⟩ := spT h1 h2
 obtain ⟨B, _, hsx⟩ := spT g1 g2
 have hx : Q0 O5 a = (V5 a).simp.tm := by rw [← B00, ← hsp.eq]
 have hgx : V5 (Q0 O5 a) = (V5 a).simp := by rw [hx, B2d]
 rw [hgx] at hsx
 refine ⟨V5 a, (V5 a).simp, A, B, h1, g1, hsp, hsx, ?_, ?_⟩
 ·rw [hx, A7O, show V0 a = (V5 a).th.nt from by rw [← A7O, ← hsp.eq]]
  exact B8e (V5 a)
 ·unfold A0a
  rw [if_pos zV, if_pos zV]
  exact B8d hsp.st _ _
theorem B8n (bs : List UInt8) (G : IM) (p : Option Addr) (n c : Nat) (hT : A1d G) (hb : Sl G p n c 1 (N5 bs)) : Fn Tryz.prog 3 [.slice p n c] [] G (K1 fun _ v => v = .bool true) := by
 have hn := hb.le
 refine C7 Tryz.func3 rfl Tryz.ntmps3 Tryz.results3 rfl ?_
 intro w0
 refine I2 ?_
 refine sB (A0l rfl rfl) rfl rfl (fun h11 => ?_) (fun h11 => ?_)
 refine I3 ?_
 (exact ⟨rfl, rfl⟩)
 refine E7 ?_
 (refine F9 rfl (B6V G _ _ _ bs hb) rfl rfl (fun v G1 hle1 hh => ?_); obtain ⟨a, ca, rfl, hra, hfa⟩ := hh; replace hT := hT.mono hle1; have hca := hfa.2; have hla := hra.len; have hoa := hra.one; have hA := B6o a G1 ca hra; obtain ⟨⟨x, bx⟩, hS⟩ : ∃ r, A1q a = r := ⟨_, rfl⟩; rw [hS] at hA; obtain ⟨TY, hTY⟩ : ∃ T, Y1 a = T := ⟨_, rfl⟩; have hk := fun h h2 => @B8m a x bx hS h TY hTY h2)
 refine sE (A8 rfl) rfl (fun b33 => ?_)
 refine sS rfl rfl rfl hla hoa rfl ?_ (hu := by exact C6 hla.symm)
 refine C3 ?_
 refine sL (A5 rfl rfl (B7 zP) hla) rfl rfl ?_
 (refine F9 rfl hA rfl rfl (fun v2 G2 hle2 hh => ?_); obtain ⟨cx, hve, hrx⟩ := hh; replace hve : v2 = .tuple ⟨[.agg ⟨cx⟩, .bool bx]⟩ := hve; subst hve; replace hrx : B6 G2 x cx := hrx; have hlx := hrx.len; have hox := hrx.one; replace hT := hT.mono hle2; replace hra := hra.mono hle2; have hB := B6S a G2 ca zW hra; rw [hS] at hB)
 refine B3 ?_
 refine sE (A8 rfl) rfl (fun b44 => ?_)
 refine sS rfl rfl rfl hlx hox rfl ?_ (hu := by exact C6 hlx.symm)
 refine A9 ?_
 refine sL (A5 rfl rfl (B7 zP) hla) rfl rfl ?_
 (refine F9 rfl hB rfl rfl (fun v3 G3 hle3 hh => ?_); obtain ⟨cy, hve, hry⟩ := hh; replace hve : v3 = .tuple ⟨[.agg ⟨cy⟩, .bool bx]⟩ := hve; subst hve; replace hry : B6 G3 x cy := hry; have hly := hry.len; have hoy := hry.one; replace hT := hT.mono hle3; replace hra := hra.mono hle3; replace hrx := hrx.mono hle3; have hC := B5A a G3 ca hra; rw [hTY] at hC)
 refine B3 ?_
 refine sE (A8 rfl) rfl (fun b56 => ?_)
 refine sS rfl rfl rfl hly hoy rfl ?_ (hu := by exact C6 hly.symm)
 refine A9 ?_
 refine sL (A5 rfl rfl (B7 zP) hla) rfl rfl ?_
 (refine F9 rfl hC rfl rfl (fun v4 G4 hle4 hh => ?_); obtain ⟨ct, T1, rfl, hrt, hT1⟩ := hh; have hlt := hrt.len; have hot := hrt.one; replace hT := hT.mono hle4; replace hra := hra.mono hle4; replace hrx := hrx.mono hle4; replace hry := hry.mono hle4; have hSm := B6X x G4 cx cy hrx hry; obtain ⟨bt, hbt⟩ : ∃ b, TY.isSome = b := ⟨_, rfl⟩; rw [hbt] at hk ⊢; cases bt <;> cases bx)
 refine B3 ?_
 refine sE (A8 rfl) rfl (fun b68 => ?_)
 exact y35
 refine B3 ?_
 refine sE (A8 rfl) rfl (fun b116 => ?_)
 exact y35
 refine B3 ?_
 refine sE (A8 rfl) rfl (fun b164 => ?_)
 exact y35
 refine B3 ?_
 refine sE (A8 rfl) rfl (fun b212 => ?_)
 refine sS rfl rfl rfl hlt hot rfl ?_ (hu := by exact C6 hlt.symm)
 refine E7 ?_
 refine sQ (A1H rfl rfl rfl) rfl ?_
 refine F8 ?_
 refine sL (A5 rfl rfl (B7 zP) hlx) rfl rfl ?_
 refine sL (A5 rfl rfl (B7 zP) hly) rfl rfl ?_
 refine E6 rfl (hSm) rfl rfl ?_
 refine P6 ?_
 refine sL (A5 rfl rfl (B7 zP) hla) rfl rfl ?_
 (obtain ⟨g, h, A, B, hva, hvx, hsa, hsx, hht, R1⟩ := hk rfl rfl; clear hk; obtain ⟨⟨s1, c1, l1⟩, hr1⟩ : ∃ r, A0a g.th 200 = r := ⟨_, rfl⟩; obtain ⟨⟨s2, c2, l2⟩, hr2⟩ : ∃ r, A0a h.th 200 = r := ⟨_, rfl⟩; have hE1 := B2e a g A 200 G4 ca hT hva hsa hra; rw [hr1] at hE1 R1; rw [hr2] at R1; simp only [] at R1; refine F9 rfl hE1 rfl rfl (fun v6 G6 hle6 hh => ?_); obtain ⟨y1, hve⟩ := hh; replace hve : v6 = .tuple ⟨[.string s1, .int .i64 c1, .int .i64 l1, .int .i64 y1]⟩ := hve; subst hve; replace hT := hT.mono hle6; replace hra := hra.mono hle6; replace hrx := hrx.mono hle6; have hE2 := B2e x h B 200 G6 cx hT hvx hsx hrx; rw [hr2] at hE2)
 refine J2 ?_
 refine sL (A5 rfl rfl (B7 zP) hlx) rfl rfl ?_
 (refine F9 rfl hE2 rfl rfl (fun v7 G7 hle7 hh => ?_); obtain ⟨y2, hve⟩ := hh; replace hve : v7 = .tuple ⟨[.string s2, .int .i64 c2, .int .i64 l2, .int .i64 y2]⟩ := hve; subst hve; replace hra := hra.mono hle7; replace hrx := hrx.mono hle7)
 refine K4 ?_
 refine sB (qE rfl rfl) rfl rfl (fun h276 => ?_) (fun h276 => ?_)
 refine N4 ?_
 exact y32
 refine A4 ?_
 refine sB (qE rfl rfl) rfl rfl (fun h310 => ?_) (fun h310 => ?_)
 refine J2 ?_
 exact y32
 refine B3 ?_
 refine sB (qE rfl rfl) rfl rfl (fun h342 => ?_) (fun h342 => ?_)
 refine D9 ?_
 exact y32
 refine B3 ?_
 refine sB (qE rfl rfl) rfl rfl (fun h370 => ?_) (fun h370 => ?_)
 refine A9 ?_
 exact y32
 refine B5 ?_
 (have hee := (((R1.resolve_left zW).resolve_left zW).resolve_left zW).resolve_left zW; obtain ⟨rfl, rfl, rfl⟩ : s1 = s2 ∧ c1 = c2 ∧ l1 = l2 := ⟨congrArg (fun r => r.1) hee, congrArg (fun r => r.2.1) hee, congrArg (fun r => r.2.2) hee⟩; clear R1; refine D2 D3 rfl ?_)
 refine M3 (i := 0) (l' := [tt,ff,ff,ff,ff,ff,ff,ff,ff,ff,ff,ff,ff,ff,ff,ff,ff,ff,ff,ff,ff]) rfl C8 (A5 rfl rfl (B7 zP) hlx) rfl zU rfl rfl ?_
 refine aL 2 rfl (A5 rfl rfl (B7 zP) hla) rfl ?_
 refine A1 1 ?_
 (refine E1 rfl rfl (A1w x G7 cx hvx hrx) rfl rfl rfl (fun v8 G8 hle8 hh => ?_); obtain rfl := hh; replace hra := hra.mono hle8)
 refine A1 3 ?_
 (refine E1 rfl rfl (A1w a G8 ca hva hra) rfl rfl rfl (fun v9 G9 hle9 hh => ?_); obtain rfl := hh)
 refine aP 4 rfl (A2V rfl rfl zW) rfl ?_
 refine aP 5 rfl (qM rfl) rfl ?_
 refine aP 6 rfl (qM rfl) rfl ?_
 refine aP 7 rfl (qM rfl) rfl ?_
 refine aP 8 rfl (L9 rfl rfl zW) rfl ?_
 refine aP 9 rfl (M4 rfl rfl) rfl ?_
 refine aP 10 rfl (qM rfl) rfl ?_
 refine aP 11 rfl (qM rfl) rfl ?_
 refine aP 12 rfl (qM rfl) rfl ?_
 refine aP 13 rfl (L9 rfl rfl zW) rfl ?_
 refine aP 14 rfl (M4 rfl rfl) rfl ?_
 refine aP 15 rfl (qM rfl) rfl ?_
 refine aP 16 rfl (qM rfl) rfl ?_
 refine aP 17 rfl (qM rfl) rfl ?_
 refine aP 18 rfl (B1l rfl rfl) rfl ?_
 refine aP 19 rfl (M4 rfl rfl) rfl ?_
 refine aP 20 rfl (qA rfl) rfl ?_
 refine C3 ?_
 (exact ⟨rfl, rfl⟩)
end Gw
end Go.Proofs.YtmceanphadildaaGreatDoor
