/-
  The program's step of a term with coercions.
-/
import Derived.Test.YtmceanphadildaaGreatDoorKc7
import Derived.Test.YtmceanphadildaaGreatDoorKc3
import Derived.Test.YtmceanphadildaaGreatDoorKc2
import Derived.Test.YtmceanphadildaaGreatDoorKc6
import Derived.Test.YtmceanphadildaaGreatDoorKc5
import Derived.Test.YtmceanphadildaaGreatDoorKc1
set_option linter.unusedVariables false
set_option linter.unusedSimpArgs false
set_option linter.ambiguousOpen false
set_option maxHeartbeats 0
set_option maxRecDepth 100000
set_option synthInstance.maxSize 4000
set_option synthInstance.maxHeartbeats 0
namespace Go.Proofs.YtmceanphadildaaGreatDoor
open Go Go.RowKit Tryz Go.Proofs.Tryz
namespace Gw
theorem zk8 {p : Prop} (h : p := by exfalso; simp only [TH.nt, I5, Nt.mk.injEq, Cn.mk.injEq, if_true, Bool.false_eq_true, if_false] at ht; omega) : p := h
variable {p : Prop}
theorem y41 (h : p := by
  refine A2 12 ?_
  (have hq := hq3; refine A0c (cs := [.int .i64 2, .string ⟨⟨[]⟩⟩, .int .i64 m, .int .i64 tkA, .slice ptA tksA.length ctA, .int .i64 fkA, .slice pfA fksA.length cfA, .int .i64 lbA, .slice p0A 0 c0A, .int .i64 2, .string ⟨⟨[]⟩⟩, .int .i64 n, .int .i64 tkB, .slice ptB tksB.length ctB, .int .i64 fkB, .slice pfB fksB.length cfB, .int .i64 lbB, .slice p0B 0 c0B]) zB0 (fun G1 hle1 hsl2 hno2 => ?_); have hrN := A4i (k := 8) ⟨by decide, by decide⟩ (hndA.mono hle1) (hndB.mono hle1) hsl2; refine E6 rfl rfl (A4j 8 m n _ _ _ _ _ _ G1 _ zN0 hnk.1 hnk.2 hrN) rfl rfl rfl (fun v G3 hle3 hh => ?_); obtain ⟨uc, rfl, hru⟩ := hh; replace hru : B7 G3 (.mk (if m < n then 3 else 4) ⟨⟨[]⟩⟩ 0 (.mk 0 []) (.mk 0 []) 0 []) uc := (by unfold U3 A0a at hru; exact hru); obtain ⟨ptR, ctR, pfR, cfR, pR, cR, esR, rfl, _, _, _, _, _, _, _⟩ := hru.open9; have hru2 := hru)
  refine xx3 13 14 15 ?_
  refine A2 17 ?_
  refine E9 rfl ?_
  refine xx1 18 ?_
  refine V0 ?_
  refine E2 (_, _, G3) (D6 zA0 zQ) hru2
) : p := h
theorem y42 (h : p := by
  refine A2 12 ?_
  (have hq := hq3; refine A0c (cs := [.int .i64 2, .string ⟨⟨[]⟩⟩, .int .i64 m, .int .i64 tkA, .slice ptA tksA.length ctA, .int .i64 fkA, .slice pfA fksA.length cfA, .int .i64 lbA, .slice p0A 0 c0A, .int .i64 2, .string ⟨⟨[]⟩⟩, .int .i64 n, .int .i64 tkB, .slice ptB tksB.length ctB, .int .i64 fkB, .slice pfB fksB.length cfB, .int .i64 lbB, .slice p0B 0 c0B]) zB0 (fun G1 hle1 hsl2 hno2 => ?_); have hrN := A4i (k := 7) ⟨by decide, by decide⟩ (hndA.mono hle1) (hndB.mono hle1) hsl2; refine E6 rfl rfl (A4j 7 m n _ _ _ _ _ _ G1 _ zN0 hnk.1 hnk.2 hrN) rfl rfl rfl (fun v G3 hle3 hh => ?_); obtain ⟨uc, rfl, hru⟩ := hh; replace hru : B7 G3 (.mk 2 ⟨⟨[]⟩⟩ (HMod.hMod (m + n) 1000) (.mk 0 []) (.mk 0 []) 0 []) uc := hru; obtain ⟨ptR, ctR, pfR, cfR, pR, cR, esR, rfl, _, _, _, _, _, _, _⟩ := hru.open9; have hru2 := hru)
  refine xx3 13 14 15 ?_
  refine A2 17 ?_
  refine E9 rfl ?_
  refine xx1 18 ?_
  refine V0 ?_
  refine E2 (_, _, G3) (D6 zA0 zQ) hru2
) : p := h
theorem y43 (h : p := by
  refine xx1 7 ?_
  refine A2 13 ?_
  (have hq := hq7; refine A0c (cs := [.int .i64 5, .string x, .int .i64 0, .int .i64 tkB, .slice ptB tksB.length ctB, .int .i64 fkB, .slice pfB fksB.length cfB, .int .i64 lbB, .slice p0B 0 c0B, .int .i64 0, .int .i64 0, .int .i64 0, .slice pcB 0 ccB, .slice pB 1 cB, v1, v2, v3, v4, v5, v6, v7, v8, v9, u1, u2, u3, u4, u5]) zB0 (fun G2 hle2 hsl2 hno2 => ?_); have hrN := B3c (k := 6) ⟨by decide, by decide⟩ zN0 (hre2'.mono (hle1.trans hle2)) (hrw.mono hle2) hsl2; refine E6 rfl rfl (A3v _ d9.cn G2 _ _ hrN (hre4.mono (hle1.trans hle2))) rfl rfl rfl (fun v G3 hle3 hh => ?_); obtain ⟨vc, rfl, hrv⟩ := hh; have hvl := hrv.len; have hvo := hrv.one)
  refine A2 14 ?_
  (refine oS rfl rfl rfl rfl hvl hvo rfl rfl ?_ (hu := by exact E0 hvl.symm))
  refine xx2 15 16 ?_
  refine B1 ?_
  refine E5 (rC rfl (A3 rfl rfl (B9 zG0) hvl)) (rT rfl) (rT rfl) ?_
  (have hq := hq7; exact P6.ok (t := .conv d9 (.app (.lam x B e) (.conv c9 w))) hst hrv)
) : p := h
theorem y44 (h : p := by
  (obtain ⟨e1, hks, hT, hPe⟩ := hyes zO0 zO0; subst hks hT; obtain ⟨b, o, e, rfl, hl, ho, hat, hre, _, hgb⟩ := hsl.kidR hkl (i := 0) zP0 zP0; replace hre : D3 G e1.nt e := hre; refine sP (B2 (j := 0) rfl rfl rfl zP0) rfl rfl ?_)
  refine sL (A3 rfl rfl (hat _) hl) rfl rfl ?_
  refine F0 rfl ((hPe G e hre)) rfl rfl ?_
  refine A7 ?_
  (exact ⟨rfl, rfl, rfl⟩)
) : p := h
theorem y45 (h : p := by
  refine sP (A6q (m := Cn.hsL 0 (ks.take i)) rfl rfl) rfl rfl ?_
  refine J3 ?_
  (obtain rfl : i = ks.length := zO0; rw [List.take_length]; exact ⟨rfl, by rw [hy zO0], rfl⟩)
) : p := h
variable {G : IM}
theorem At.pfx {hp : List A9} {b o : Nat} {l1 l2 : List Value} (h : At hp G b o (l1 ++ l2)) : At hp G b (o + 0) l1 := by
 have key : ∀ {cs : List Value}, (∀ i u, (l1 ++ l2)[i]? = some u → cs[o + i]? = some u) → ∀ i u, l1[i]? = some u → cs[o + 0 + i]? = some u := by
  intro cs hc i u hu
  have hi : i < l1.length := (List.getElem?_eq_some_iff.1 hu).1
  exact hc i u (by rw [List.getElem?_append, if_pos hi]; exact hu)
 rcases h with ⟨cs, hm, hv⟩ | ⟨n, c, el, sz, cs, hm, hv⟩ | ⟨full, hg, hv⟩
 ·exact .inl ⟨cs, hm, key hv⟩
 ·exact .inr (.inl ⟨n, c, el, sz, cs, hm, key hv⟩)
 ·exact .inr (.inr ⟨full, hg, key hv⟩)
theorem A8z {nm : ByteArray} {num kd tg lb : Int} {cks : List Cn} {ks : List Nt} {cells : List Value} (hr : D3 G (.mk 14 nm num (.mk kd tg lb cks) ks) cells) : Fn prog 69 [.agg ⟨cells⟩, .int .i64 kd] [] G (I1 (.bool true) G) := by
 have h := A6v _ kd G cells hr
 rw [show decide ((Nt.mk 14 nm num (.mk kd tg lb cks) ks).k = 14 ∧ (Nt.mk 14 nm num (.mk kd tg lb cks) ks).co.k = kd) = true from decide_eq_true ⟨rfl, rfl⟩] at h
 exact h
theorem B3c {t u : Nt} {k : Int} {v1 v2 v3 v4 v5 v6 v7 v8 v9 w1 w2 w3 w4 w5 x1 x2 x3 x4 x5 x6 x7 x8 x9 y1 y2 y3 y4 y5 : Value} {p : Option Addr} {cp : Nat} (hk : F8 k) (hk4 : k ≠ 14) (h : D3 G t [v1, v2, v3, v4, v5, v6, v7, v8, v9, w1, w2, w3, w4, w5]) (h' : D3 G u [x1, x2, x3, x4, x5, x6, x7, x8, x9, y1, y2, y3, y4, y5])
  (hs : Sl G p 2 cp 14 [v1, v2, v3, v4, v5, v6, v7, v8, v9, w1, w2, w3, w4, w5, x1, x2, x3, x4, x5, x6, x7, x8, x9, y1, y2, y3, y4, y5]) :
  D3 G (.mk k ⟨⟨[]⟩⟩ 0 I5 [t, u]) [.int .i64 k, .string ⟨⟨[]⟩⟩, .int .i64 0, .int .i64 0, .slice none 0 0, .int .i64 0, .slice none 0 0, .int .i64 0, .slice none 0 0, .int .i64 0, .int .i64 0, .int .i64 0, .slice none 0 0, .slice p 2 cp] :=
 .mk (tks := []) (fks := []) (ks := [t, u]) (es := [[v1, v2, v3, v4, v5, v6, v7, v8, v9, w1, w2, w3, w4, w5], [x1, x2, x3, x4, x5, x6, x7, x8, x9, y1, y2, y3, y4, y5]]) (A4T _ hk ⟨by decide, by decide⟩) (A09 G) zP0 (fun h => absurd h hk4) (D7.of hs rfl (by intro x hx; simp only [List.mem_cons, List.not_mem_nil, or_false] at hx; rcases hx with rfl | rfl <;> rfl) zU) (KR.cons h (KR.cons h' KR.nil))
theorem A4h {k num : Int} {nm : ByteArray} {tk fk lb : Int} {tks fks : List Ty} {pt pf p0 : Option Addr} {ct cf c0 : Nat} (hnd : B7 G (.mk k nm num (.mk tk tks) (.mk fk fks) lb []) [.int .i64 k, .string nm, .int .i64 num, .int .i64 tk, .slice pt tks.length ct, .int .i64 fk, .slice pf fks.length cf, .int .i64 lb, .slice p0 0 c0]) (hk4 : k ≠ 14) :
  D3 G (.mk k nm num I5 []) [.int .i64 k, .string nm, .int .i64 num, .int .i64 tk, .slice pt tks.length ct, .int .i64 fk, .slice pf fks.length cf, .int .i64 lb, .slice p0 0 c0, .int .i64 0, .int .i64 0, .int .i64 0, .slice none 0 0, .slice none 0 0] :=
 D3.put' (us := []) (es := []) hnd (A09 G) zN0 (fun h => absurd h hk4) rfl (D7.nil _ _) KR.nil
variable {a : Tm}
theorem A4i {b : Tm} {k : Int} {v1 v2 v3 v4 v5 v6 v7 v8 v9 x1 x2 x3 x4 x5 x6 x7 x8 x9 : Value} {p : Option Addr} {cp : Nat} (hk : F8 k) (h : B7 G a [v1, v2, v3, v4, v5, v6, v7, v8, v9]) (h' : B7 G b [x1, x2, x3, x4, x5, x6, x7, x8, x9]) (hs : Sl G p 2 cp 9 [v1, v2, v3, v4, v5, v6, v7, v8, v9, x1, x2, x3, x4, x5, x6, x7, x8, x9]) :
  B7 G (.mk k ⟨⟨[]⟩⟩ 0 (.mk 0 []) (.mk 0 []) 0 [a, b]) [.int .i64 k, .string ⟨⟨[]⟩⟩, .int .i64 0, .int .i64 0, .slice none 0 0, .int .i64 0, .slice none 0 0, .int .i64 0, .slice p 2 cp] :=
 A31 (ks := [a, b]) (es := [[v1, v2, v3, v4, v5, v6, v7, v8, v9], [x1, x2, x3, x4, x5, x6, x7, x8, x9]]) hk rfl (D7.of hs rfl (by intro x hx; simp only [List.mem_cons, List.not_mem_nil, or_false] at hx; rcases hx with rfl | rfl <;> rfl) zU) (by simp only [H4]; exact ⟨_, _, rfl, h, _, _, rfl, h', rfl⟩)
theorem A4j (k : Int) (m n : Int) (tyA frA tyB frB : Ty) (lbA lbB : Int) (G : IM) (cells : List Value) (hk78 : k = 7 ∨ k = 8) (hm : 0 ≤ m ∧ m ≤ 999) (hn : 0 ≤ n ∧ n ≤ 999) (hr : B7 G (.mk k ⟨⟨[]⟩⟩ 0 (.mk 0 []) (.mk 0 []) 0 [.mk 2 ⟨⟨[]⟩⟩ m tyA frA lbA [], .mk 2 ⟨⟨[]⟩⟩ n tyB frB lbB []]) cells) : Fn prog 76 [.agg ⟨cells⟩] [] G (M3 fun G' v => ∃ uc, v = .tuple ⟨[.agg ⟨uc⟩, .int .i64 1]⟩ ∧ B7 G' (if k = 7 then A2q ((m + n) % 1000) else U3 (m < n)) uc) := by
 obtain ⟨atk, atks⟩ := tyA
 obtain ⟨afk, afks⟩ := frA
 obtain ⟨btk, btks⟩ := tyB
 obtain ⟨bfk, bfks⟩ := frB
 obtain ⟨pt, ct, pf, cf, p, c, es, rfl, hk, hnum, hlb, hty, hfr, hsl, hkl⟩ := hr.open9
 obtain ⟨bx, ox, e0, rfl, hl0, hat0, hre0, hgb0⟩ := hsl.kidTm hkl (i := 0) zP0 zP0
 replace hre0 : B7 G (.mk 2 ⟨⟨[]⟩⟩ m (.mk atk atks) (.mk afk afks) lbA []) e0 := hre0
 obtain ⟨apt, act, apf, acf, ap, ac, aes, rfl, hak, hanum, halb, haty, hafr, hasl, hakl⟩ := hre0.open9
 obtain ⟨_, _, e1, hp1, hl1, hat1, hre1, hgb1⟩ := hsl.kidTm hkl (i := 1) zP0 zP0
 cases hp1
 replace hre1 : B7 G (.mk 2 ⟨⟨[]⟩⟩ n (.mk btk btks) (.mk bfk bfks) lbB []) e1 := hre1
 obtain ⟨bpt, bct, bpf, bcf, bp, bc, bes, rfl, hbk, hbnum, hblb, hbty, hbfr, hbsl, hbkl⟩ := hre1.open9
 have hL : ([Tm.mk 2 ⟨⟨[]⟩⟩ m (.mk atk atks) (.mk afk afks) lbA [], Tm.mk 2 ⟨⟨[]⟩⟩ n (.mk btk btks) (.mk bfk bfks) lbB []] : List Tm).length = 2 := rfl
 have htm : (m + n).tmod 1000 = (m + n) % 1000 := A7K hm hn
 have hb : F8 ((m + n) % 1000) := ⟨by omega, by omega⟩
 refine C4 func76 rfl ntmps76 results76 rfl ?_
 intro w0
 refine A5 ?_
 refine zf2 (fun b3 => ?_)
 refine zf1 (fun b4 => ?_)
 refine A7 ?_
 refine zf1 (fun b11 => ?_)
 refine E1 ?_
 refine sP (A3I rfl rfl zO0) rfl rfl ?_
 refine A7 ?_
 refine zf18 ?_
 refine sL (A3 rfl rfl (hat0 _) rfl) rfl rfl ?_
 refine I9 ?_
 refine C2 ?_
 refine A5 ?_
 refine zf11 ?_
 refine B8 ?_
 refine zf0 (fun h51 => ?_) (fun h51 => ?_)
 refine J3 ?_
 refine zf21 ?_
 refine sL (A3 rfl rfl (hat1 _) rfl) rfl rfl ?_
 refine zf1 (fun b65 => ?_)
 refine B5 ?_
 refine C2 ?_
 refine B6 ?_
 refine sP (A2D rfl rfl zO0) rfl rfl ?_
 refine B5 ?_
 refine sP (A2D rfl rfl zO0) rfl rfl ?_
 refine E1 ?_
 refine zf12 ?_
 refine I9 ?_
 refine zf4 ?_
 refine sP (A3C rfl rfl zO0) rfl rfl ?_
 refine I0 ?_
 (rw [htm]; refine sS' ?_)
 refine B8 ?_
 refine zf5 ?_
 (exact ⟨rfl, _, rfl, by rw [if_pos zO0]; exact B7.put (us := []) ⟨by decide, by decide⟩ hb ⟨by decide, by decide⟩ (A1n _) (A1n _) rfl (D7.nil _ _) rfl⟩)
 refine B1 ?_
 refine zf12 ?_
 refine D4 ?_
 refine zf21 ?_
 refine sL (A3 rfl rfl (hat1 _) rfl) rfl rfl ?_
 refine zf1 (fun b128 => ?_)
 refine B5 ?_
 refine C2 ?_
 refine B6 ?_
 refine sP (A2D rfl rfl zO0) rfl rfl ?_
 refine B5 ?_
 refine sP (A2D rfl rfl zO0) rfl rfl ?_
 refine E1 ?_
 refine zf11 ?_
 refine I9 ?_
 (refine sB (J8 rfl rfl) rfl rfl (fun h162 => ?_) (fun h162 => ?_))
 (refine H6 rfl (A55 _ _) rfl rfl (fun u G1 hle1 hh => ?_); obtain ⟨uc, rfl, hru⟩ := hh; have hul := hru.len; have huo := hru.one)
 refine sS rfl rfl rfl hul huo rfl ?_ (hu := by exact E0 hul.symm)
 refine B8 ?_
 refine F4 (rC rfl (A3 rfl rfl (B9 zG0) hul)) (rT rfl) ?_
 (exact ⟨rfl, _, rfl, by rw [if_neg zO0]; unfold U3 at hru ⊢; rw [if_pos rfl] at hru; rw [if_pos zO0]; exact hru⟩)
 (refine H6 rfl (A55 _ _) rfl rfl (fun u G1 hle1 hh => ?_); obtain ⟨uc, rfl, hru⟩ := hh; have hul := hru.len; have huo := hru.one)
 refine sS rfl rfl rfl hul huo rfl ?_ (hu := by exact E0 hul.symm)
 refine B8 ?_
 refine F4 (rC rfl (A3 rfl rfl (B9 zG0) hul)) (rT rfl) ?_
 (exact ⟨rfl, _, rfl, by rw [if_neg zO0]; unfold U3 at hru ⊢; rw [if_neg zN0] at hru; rw [if_neg zO0]; exact hru⟩)
theorem A22 (t : TH) (ih : ∀ u ∈ t.kids, A6G u) : A6G t := by
 intro G cells A hT hv hnk hr
 have hm0 : True := trivial
 have hone : True := trivial
 have hr0 := hr
 have hkn := B27 hnk
 obtain ⟨k, nm, num, ck, ctg, clb, cks, ks, ht⟩ := A1t t
 have hks := A6E ht
 have hlen : ks.length = t.kids.length := by rw [hks, List.length_map]
 have hCo : k = 14 → Fn prog 72 [.agg ⟨cells⟩] [] G (P6 t.stp) := by
  intro h
  obtain ⟨c, e, rfl, _⟩ := @A33 t nm num (.mk ck ctg clb cks) ks (by rw [← h]; exact ht)
  exact B85 c e G cells A hT hnk (ih e List.mem_cons_self) hr0
 have hIO : k ≠ 14 → ∀ i, i < t.cnt → (hl : i < t.kids.length) → (∀ j, j < i → (h : j < t.kids.length) → t.kids[j].val = true) → t.kids[i].val = false → Fn prog 73 [.agg ⟨cells⟩, .int .i64 (i : Int)] [] G (P6 t.stp) := by
  intro h i hi hl hj hn
  obtain ⟨hK, B, hB⟩ := B3b hT (A3m ht h) hv hi hl hj hn
  exact B28 t _ i G cells hK (fun G' cs h' => ih _ (List.getElem_mem hl) G' cs B hB hn (hkn _ (List.getElem_mem hl)) h') hr0
 have hnc := fun (h : k ≠ 14) => A3m ht h
 have hcn9 := B3a ht
 obtain ⟨C, hC⟩ : ∃ C : Nat, t.cnt = C := ⟨_, rfl⟩
 have hC1 : k = 9 → C = 1 := fun h => by rw [← hC, hcn9, if_pos h]
 have hC2 : k ≠ 9 → C = ks.length := fun h => by rw [← hC, hcn9, if_neg h]
 have hC9 : C ≤ ks.length := by
  by_cases h9 : k = 9
  ·have h1 := hC1 h9
   have h2 : 1 ≤ t.kids.length := by
    cases t <;> simp only [TH.nt, Nt.mk.injEq] at ht <;> first | (exfalso; omega) | (show 1 ≤ 3; decide) | (exfalso; have := ht.1; split at this <;> omega)
   omega
  ·exact Nat.le_of_eq (hC2 h9)
 have hVal : ∀ i, (h : i < ks.length) → (h' : i < t.kids.length) → ∀ e, D3 G ks[i] e → Fn prog 34 [.agg ⟨e⟩] [] G (I1 (.bool t.kids[i].val) G) := by
  intro i h h' e he
  refine (A8y _).2 G e ?_
  have : ks[i] = t.kids[i].nt := by subst hks; rw [List.getElem_map]
  rw [← this]; exact he
 rw [ht] at hr
 rw [hC] at hIO
 have hred := fun (h : k ≠ 14) => @A11 t A hT (hnc h) hv
 rw [hC] at hred
 have hpos : k ≠ 14 → (∀ j, j < C → (h : j < t.kids.length) → t.kids[j].val = true) → 0 < C := by
  intro h hh
  have hA := hred h hh
  rw [← hC]
  rcases hA with ⟨x, B, e, w, rfl, hst⟩ | ⟨c9, d9, x, B, e, w, rfl, hst⟩ | ⟨s, m, n, rfl, hst⟩ | ⟨s, x, y, rfl, hst⟩ | ⟨s, a, b, rfl, hst⟩ | ⟨s, c9, d9, a, b, rfl, hst⟩ <;> simp [TH.cnt, TH.kids]
 obtain ⟨tk, tks, fk, fks, lb, pt, ct, pf, cf, p0, c0, pc, cc, p, c, es, rfl, hnd, hco, hn3, h14, hsl, hkl⟩ := hr.open14
 have hn := hsl.le
 have hnc' := hsl.sl.2.1
 refine C4 func36 rfl ntmps36 results36 rfl ?_
 intro w0
 refine A5 ?_
 refine zf2 (fun b3 => ?_)
 refine zf1 (fun b4 => ?_)
 refine I9 ?_
 refine zf0 (fun h15 => ?_) (fun h15 => ?_)
 refine A7 ?_
 (refine H6 rfl (hCo zO0) rfl rfl (fun v G1 hle1 hh => ?_); obtain ⟨vc, n1, rfl, hrv, hn1⟩ := hh; have hvl := hrv.len; have hvo := hrv.one)
 refine B5 ?_
 refine sS rfl rfl rfl hvl hvo rfl ?_ (hu := by exact E0 hvl.symm)
 refine A7 ?_
 refine E5 (rC rfl (A3 rfl rfl (B9 zG0) hvl)) (rT rfl) (rT rfl) ?_
 (exact ⟨rfl, vc, n1, rfl, hrv, hn1⟩)
 refine A7 ?_
 (clear hm0; have hk14 : k ≠ 14 := zO0; have hm1 : True := trivial; refine tR ?_)
 refine A7 ?_
 (clear hm1; refine tS ?_; refine P4 (fun (_ : Unit) => ⟨[(5, .int .i64 (C : Int)), (1, .pointer (some ⟨b3, 0, none⟩)), (2, .pointer (some ⟨b4, 0, none⟩))], [.blk b4 zq14, .blk b3 [.int .i64 k, .string nm, .int .i64 num, .int .i64 tk, .slice pt tks.length ct, .int .i64 fk, .slice pf fks.length cf, .int .i64 lb, .slice p0 0 c0, .int .i64 ck, .int .i64 ctg, .int .i64 clb, .slice pc cks.length cc, .slice p ks.length c]], G⟩) (fun _ => True) ?_ ?_)
 refine B1 ?_
 refine zf0 (fun h54 => ?_) (fun h54 => ?_)
 refine A7 ?_
 (have hCC := hC1 zO0; subst hCC; refine E2 () (D6 zA0 zQ) trivial)
 refine B6 ?_
 (have hCC := hC2 zO0; subst hCC; refine E2 () (D6 zA0 zQ) trivial)
 (rintro (_ : Unit) _)
 refine A7 ?_
 refine sP (A7k (l := C) rfl rfl rfl zO0) rfl rfl ?_
 refine B6 ?_
 refine C2 ?_
 (refine K2 (fun (i : Nat) => ⟨[(34, .int .i64 (i : Int)), (33, .int .i64 (C : Int)), (32, .slice p C c), (5, .int .i64 (C : Int)), (1, .pointer (some ⟨b3, 0, none⟩)), (2, .pointer (some ⟨b4, 0, none⟩))], [.blk b4 zq14, .blk b3 [.int .i64 k, .string nm, .int .i64 num, .int .i64 tk, .slice pt tks.length ct, .int .i64 fk, .slice pf fks.length cf, .int .i64 lb, .slice p0 0 c0, .int .i64 ck, .int .i64 ctg, .int .i64 clb, .slice pc cks.length cc, .slice p ks.length c]], G⟩) (fun i => i ≤ C ∧ ∀ j, j < i → (h : j < t.kids.length) → t.kids[j].val = true) (fun i => C - i) 0 ?_ ?_ ?_)
 exact E3
 (exact ⟨Nat.zero_le _, fun j hj => absurd hj (Nat.not_lt_zero j)⟩)
 (rintro i ⟨hi, hj⟩)
 refine A5 ?_
 refine zf8 (fun h86 => ?_) (fun h86 => ?_)
 refine B8 ?_
 refine C2 ?_
 refine B5 ?_
 (have hiC : i < C := zO0; obtain ⟨bx, ox, ei, rfl, hli, hoi, hati, hrei, _, hgbi⟩ := hsl.kidR hkl (i := i) zO0 zO0; have hVi := hVal i zO0 zO0 ei hrei; refine sP (B2 (j := i) rfl rfl rfl hiC) rfl rfl ?_)
 refine sL (A3 rfl rfl (hati _) hli) rfl rfl ?_
 refine zf1 (fun b100 => ?_)
 refine I0 ?_
 refine sS rfl rfl rfl hli hoi rfl ?_ (hu := by exact E0 hli.symm)
 refine B6 ?_
 refine sL (A3 rfl rfl (B9 zG0) hli) rfl rfl ?_
 refine L4 rfl (hVi) rfl rfl (fun h108 => ?_) (fun h108 => ?_)
 refine D4 ?_
 refine zf4 ?_
 refine A5 ?_
 refine J7 (i + 1) ?_ ?_ ?_
 exact E3
 (exact ⟨by omega, fun j hji hl2 => (by by_cases he : j = i; (subst he; assumption); exact hj j zO0 hl2)⟩)
 (show C - (i + 1) < C - i; omega)
 refine D4 ?_
 (refine H6 rfl (hIO zO0 i hiC zO0 hj zL0) rfl rfl (fun v G1 hle1 hh => ?_); obtain ⟨vc, n1, rfl, hrv, hn1⟩ := hh; have hvl := hrv.len; have hvo := hrv.one)
 refine B5 ?_
 refine sS rfl rfl rfl hvl hvo rfl ?_ (hu := by exact E0 hvl.symm)
 refine I9 ?_
 refine E5 (rC rfl (A3 rfl rfl (B9 zG0) hvl)) (rT rfl) (rT rfl) ?_
 (exact ⟨rfl, vc, n1, rfl, hrv, hn1⟩)
 refine K7 ?_
 refine zf0 (fun h162 => ?_) (fun h162 => ?_)
 refine B6 ?_
 (exfalso; have hx : (C : Int) = 0 := zL0; have hp := hpos zO0 (fun j hjc hl => hj j zO0 hl); omega)
 refine A7 ?_
 (have hx : ¬((C : Int) = 0) := zL0; have hone2 := hone; clear hone; have hone3 : True := trivial; obtain ⟨b0, o0, e0, rfl, hl0, ho0, hat0, hre0, _, hgb0⟩ := hsl.kidR hkl (i := 0) zO0 zO0; refine tR ?_)
 refine A5 ?_
 refine sP (B2 (j := 0) rfl rfl rfl zO0) rfl rfl ?_
 refine sL (A3 rfl rfl (hat0 _) hl0) rfl rfl ?_
 refine zf1 (fun b179 => ?_)
 refine Y2 rfl rfl rfl zL0 zL0 rfl zC0 (by exact E0 (by symm; assumption)) ?_
 refine I9 ?_
 refine C2 (tS (tR (sB (qE rfl rfl) rfl rfl (fun h194 => ?_) (fun h194 => ?_))))
 refine A7 ?_
 focus (have hz : k = 6 := zO0; have hone4 := hone3; clear hone3; have hA := hred zO0 (fun j hjc hl => hj j zO0 hl); clear hred hIO hCo hVal ih hkn hr0; rcases hA with ⟨x, B, e, w, rfl, hst⟩ | ⟨c9, d9, x, B, e, w, rfl, hst⟩ | ⟨s, m, n, rfl, hst⟩ | ⟨s, x, y, rfl, hst⟩ | ⟨s, a, b, rfl, hst⟩ | ⟨s, c9, d9, a, b, rfl, hst⟩; (all_goals (first | exact zk8 | (cases s <;> exact zk8)| skip)); simp only [TH.nt, I5, Nt.mk.injEq, Cn.mk.injEq, if_true, Bool.false_eq_true, if_false] at ht; obtain ⟨rfl, rfl, rfl, ⟨rfl, rfl, rfl, rfl⟩, rfl⟩ := ht; have hq1 : True := trivial; replace hre0 : D3 G (.mk 5 x 0 (.mk 0 0 0 []) [e.nt]) e0 := hre0; obtain ⟨_, _, e1, hE1, hl1, ho1, hat1, hre1, _, hgb1⟩ := hsl.kidR hkl (i := 1) zP0 zP0; cases hE1; replace hre1 : D3 G w.nt e1 := hre1; obtain ⟨tkA, tksA, fkA, fksA, lbA, ptA, ctA, pfA, cfA, p0A, c0A, pcA, ccA, pA, cA, esA, rfl, hndA, hcoA, _, _, hslA, hklA⟩ := hre0.open14; obtain ⟨b2, o2, e2, rfl, hl2, ho2, hat2, hre2, _, hgb2⟩ := hslA.kidR hklA (i := 0) zP0 zP0; replace hre2 : D3 G e.nt e2 := hre2; rotate_left; simp only [TH.nt, I5, Nt.mk.injEq, Cn.mk.injEq, if_true, Bool.false_eq_true, if_false] at ht; obtain ⟨rfl, rfl, rfl, ⟨rfl, rfl, rfl, rfl⟩, rfl⟩ := ht; have hq2 : True := trivial; replace hre0 : D3 G (.mk 14 ⟨⟨[]⟩⟩ 0 (.mk 2 0 0 [c9.cn, d9.cn]) [(.mk 5 x 0 (.mk 0 0 0 []) [e.nt])]) e0 := hre0; obtain ⟨_, _, e1, hE1, hl1, ho1, hat1, hre1, _, hgb1⟩ := hsl.kidR hkl (i := 1) zP0 zP0; cases hE1; replace hre1 : D3 G w.nt e1 := hre1; have hre0' := hre0; obtain ⟨tkA, tksA, fkA, fksA, lbA, ptA, ctA, pfA, cfA, p0A, c0A, pcA, ccA, pA, cA, esA, rfl, hndA, hcoA, _, _, hslA, hklA⟩ := hre0.open14; obtain ⟨b2, o2, e2, rfl, hl2, ho2, hat2, hre2, _, hgb2⟩ := hslA.kidR hklA (i := 0) zP0 zP0; replace hre2 : D3 G (.mk 5 x 0 (.mk 0 0 0 []) [e.nt]) e2 := hre2; have hre2' := hre2; obtain ⟨tkB, tksB, fkB, fksB, lbB, ptB, ctB, pfB, cfB, p0B, c0B, pcB, ccB, pB, cB, esB, rfl, hndB, hcoB, _, _, hslB, hklB⟩ := hre2.open14; obtain ⟨_, _, esc, hEc, _, _, _, _, _, _, hslc, hklc⟩ := hcoA.open4; cases hEc; obtain ⟨b3, o3, e3, rfl, hl3, ho3, hat3, hre3, _, hgb3⟩ := hslc.kidR hklc (i := 0) zP0 zP0; replace hre3 : H3 G c9.cn e3 := hre3; obtain ⟨_, _, e4, hE4, hl4, ho4, hat4, hre4, _, hgb4⟩ := hslc.kidR hklc (i := 1) zP0 zP0; cases hE4; replace hre4 : H3 G d9.cn e4 := hre4; rotate_left)
 refine B6 ?_
 refine zf12 ?_
 refine B6 ?_
 refine zf6 ?_
 refine xx11 0 1 2 3 4 5 6 7 8 9 10 ?_
 refine A2 11 ?_
 (refine E6 rfl rfl (B8Q x w.nt e1 e.nt G e2 hre2 hre1) rfl rfl rfl (fun v G1 hle1 hh => ?_); obtain ⟨vc, rfl, hrv⟩ := hh; have hvl := hrv.len; have hvo := hrv.one)
 refine A2 12 ?_
 (refine oS rfl rfl rfl rfl hvl hvo rfl rfl ?_ (hu := by exact E0 hvl.symm))
 refine xx2 13 14 ?_
 refine A7 ?_
 refine E5 (rC rfl (A3 rfl rfl (B9 zG0) hvl)) (rT rfl) (rT rfl) ?_
 (have hq := hq1; exact P6.ok (t := e.sub x w) hst (by rw [B05]; exact hrv))
 refine B6 ?_
 refine zf11 ?_
 refine D4 ?_
 refine F0 rfl ((A8z hre0')) rfl rfl ?_
 refine B5 ?_
 refine zf18 ?_
 refine A5 ?_
 refine sL (A0t rfl rfl (At.sub2 (hat2 _) (j := 0) (j' := 0) rfl)) rfl rfl ?_
 refine zf12 ?_
 refine B1 ?_
 refine zf6 ?_
 refine xx9 0 1 2 3 4 5 6 7 8 ?_
 refine N5 (j := 9) (j' := 10) zM0 ?_ ?_
 (have hq := hq2; clear hq2; refine E6 rfl rfl (A3v w.nt c9.cn G _ _ hre1 hre3) rfl rfl rfl (fun v G1 hle1 hh => ?_); obtain ⟨vc, rfl, hrw⟩ := hh; have hwl := hrw.len; have hwo := hrw.one; obtain ⟨v1, v2, v3, v4, v5, v6, v7, v8, v9, u1, u2, u3, u4, u5, rfl⟩ := A1p hwl; have hq7 : True := trivial)
 refine A2 10 ?_
 refine zf10 (fun b277 => ?_)
 refine A2 11 ?_
 (refine oS rfl rfl rfl rfl hwl hwo rfl rfl ?_ (hu := by exact E0 hwl.symm))
 refine B5 ?_
 refine zf6 ?_
 refine xx4 0 1 2 3 ?_
 refine aL 4 rfl (A3 rfl rfl (At.moS hle1 (hat2 [])) hl2) rfl ?_
 refine xx5 5 8 9 10 11 ?_
 refine aL 12 rfl (A3 rfl rfl (At.moS hle1 (hat4 [])) hl4) rfl ?_
 refine A2 6 ?_
 refine zf3 (fun b296 => ?_)
 exact y43
 refine zf10 (fun b311 => ?_)
 refine A2 9 ?_
 (have hq := hq2; clear hq2; refine E6 rfl rfl (A3v w.nt c9.cn G _ _ hre1 hre3) rfl rfl rfl (fun v G1 hle1 hh => ?_); obtain ⟨vc, rfl, hrw⟩ := hh; have hwl := hrw.len; have hwo := hrw.one; obtain ⟨v1, v2, v3, v4, v5, v6, v7, v8, v9, u1, u2, u3, u4, u5, rfl⟩ := A1p hwl; have hq7 : True := trivial)
 refine A2 11 ?_
 (refine oS rfl rfl rfl rfl hwl hwo rfl rfl ?_ (hu := by exact E0 hwl.symm))
 refine B5 ?_
 refine zf6 ?_
 refine xx4 0 1 2 3 ?_
 refine aL 4 rfl (A3 rfl rfl (At.moS hle1 (hat2 [])) hl2) rfl ?_
 refine xx5 5 8 9 10 11 ?_
 refine aL 12 rfl (A3 rfl rfl (At.moS hle1 (hat4 [])) hl4) rfl ?_
 refine A2 6 ?_
 refine zf3 (fun b332 => ?_)
 exact y43
 refine B8 ?_
 refine zf0 (fun h354 => ?_) (fun h354 => ?_)
 refine D4 ?_
 focus (have hz : k = 7 := zO0; have hone4 := hone3; clear hone3; have hA := hred zO0 (fun j hjc hl => hj j zO0 hl); clear hred hIO hCo hVal ih hkn hr0; rcases hA with ⟨x, B, e, w, rfl, hst⟩ | ⟨c9, d9, x, B, e, w, rfl, hst⟩ | ⟨s, m, n, rfl, hst⟩ | ⟨s, x, y, rfl, hst⟩ | ⟨s, a, b, rfl, hst⟩ | ⟨s, c9, d9, a, b, rfl, hst⟩; (all_goals (first | exact zk8 | (cases s <;> exact zk8)| skip)); cases s; (all_goals (first | exact zk8 | skip)); simp only [TH.nt, I5, Nt.mk.injEq, Cn.mk.injEq, if_true, Bool.false_eq_true, if_false] at ht; obtain ⟨rfl, rfl, rfl, ⟨rfl, rfl, rfl, rfl⟩, rfl⟩ := ht; have hq3 : True := trivial; have hq8 : True := trivial; replace hre0 : D3 G (.mk 2 ⟨⟨[]⟩⟩ m (.mk 0 0 0 []) []) e0 := hre0; obtain ⟨_, _, e1, hE1, hl1, ho1, hat1, hre1, _, hgb1⟩ := hsl.kidR hkl (i := 1) zP0 zP0; cases hE1; replace hre1 : D3 G (.mk 2 ⟨⟨[]⟩⟩ n (.mk 0 0 0 []) []) e1 := hre1; obtain ⟨tkA, tksA, fkA, fksA, lbA, ptA, ctA, pfA, cfA, p0A, c0A, pcA, ccA, pA, cA, esA, rfl, hndA, hcoA, _, _, hslA, hklA⟩ := hre0.open14; obtain ⟨tkB, tksB, fkB, fksB, lbB, ptB, ctB, pfB, cfB, p0B, c0B, pcB, ccB, pB, cB, esB, rfl, hndB, hcoB, _, _, hslB, hklB⟩ := hre1.open14; replace hat1 := fun hp => At.pfx (l1 := [.int .i64 2, .string ⟨⟨[]⟩⟩, .int .i64 n, .int .i64 tkB, .slice ptB tksB.length ctB, .int .i64 fkB, .slice pfB fksB.length cfB, .int .i64 lbB, .slice p0B 0 c0B]) (l2 := [.int .i64 0, .int .i64 0, .int .i64 0, .slice pcB 0 ccB, .slice pB 0 cB]) (hat1 hp))
 (have hq := hq8; refine P4 (fun (x : Nat × List Value × IM) => ⟨[(11, .int .i64 1), (10, .pointer (some ⟨x.1, 0, none⟩)), (2, .pointer (some ⟨b4, 0, none⟩))], [.blk x.1 x.2.1, .blk b4 zq14], x.2.2⟩) (fun x => B7 x.2.2 (.mk 2 ⟨⟨[]⟩⟩ (HMod.hMod (m + n) 1000) (.mk 0 []) (.mk 0 []) 0 []) x.2.1) (zdd D9 rfl ?_) ?_)
 refine xx10 0 1 2 3 4 5 6 7 8 9 ?_
 refine N5 (j := 10) (j' := 16) zM0 ?_ ?_
 refine zf3 (fun b376 => ?_)
 refine xx1 11 ?_
 refine N5 (j := 12) (j' := 16) zM0 ?_ ?_
 (have hq := hq3; refine A0c (cs := [.int .i64 2, .string ⟨⟨[]⟩⟩, .int .i64 m, .int .i64 tkA, .slice ptA tksA.length ctA, .int .i64 fkA, .slice pfA fksA.length cfA, .int .i64 lbA, .slice p0A 0 c0A, .int .i64 2, .string ⟨⟨[]⟩⟩, .int .i64 n, .int .i64 tkB, .slice ptB tksB.length ctB, .int .i64 fkB, .slice pfB fksB.length cfB, .int .i64 lbB, .slice p0B 0 c0B]) zB0 (fun G1 hle1 hsl2 hno2 => ?_); have hrN := A4i (k := 7) ⟨by decide, by decide⟩ (hndA.mono hle1) (hndB.mono hle1) hsl2; refine E6 rfl rfl (A4j 7 m n _ _ _ _ _ _ G1 _ zN0 hnk.1 hnk.2 hrN) rfl rfl rfl (fun v G3 hle3 hh => ?_); obtain ⟨uc, rfl, hru⟩ := hh; replace hru : B7 G3 (.mk 2 ⟨⟨[]⟩⟩ (HMod.hMod (m + n) 1000) (.mk 0 []) (.mk 0 []) 0 []) uc := hru; obtain ⟨ptR, ctR, pfR, cfR, pR, cR, esR, rfl, _, _, _, _, _, _, _⟩ := hru.open9; have hru2 := hru)
 refine xx3 13 14 15 ?_
 refine A2 16 ?_
 refine zf10 (fun b384 => ?_)
 refine A2 17 ?_
 refine E9 rfl ?_
 refine xx1 18 ?_
 refine V0 ?_
 refine E2 (_, _, G3) (D6 zA0 zQ) hru2
 refine zf10 (fun b390 => ?_)
 exact y42
 refine zf10 (fun b401 => ?_)
 refine A2 10 ?_
 refine zf3 (fun b403 => ?_)
 refine xx1 11 ?_
 exact y42
 (clear hq8; rintro ⟨x10, uc, G3⟩ hru; simp only [] at hru ⊢; obtain ⟨ptR, ctR, pfR, cfR, pR, cR, esR, rfl, _, _, _, _, _, _, _⟩ := hru.open9; have hru2 := hru)
 refine B1 ?_
 refine sS rfl rfl rfl hl1 ho1 rfl ?_ (hu := by exact E0 hl1.symm)
 refine B8 ?_
 refine zf15 ?_
 (exact P6.ok (t := .num (HMod.hMod (m + n) 1000)) hst (A4h hru2 zN0))
 refine B1 ?_
 refine zf0 (fun h436 => ?_) (fun h436 => ?_)
 refine B1 ?_
 focus (have hz : k = 8 := zO0; have hone4 := hone3; clear hone3; have hA := hred zO0 (fun j hjc hl => hj j zO0 hl); clear hred hIO hCo hVal ih hkn hr0; rcases hA with ⟨x, B, e, w, rfl, hst⟩ | ⟨c9, d9, x, B, e, w, rfl, hst⟩ | ⟨s, m, n, rfl, hst⟩ | ⟨s, x, y, rfl, hst⟩ | ⟨s, a, b, rfl, hst⟩ | ⟨s, c9, d9, a, b, rfl, hst⟩; (all_goals (first | exact zk8 | (cases s <;> exact zk8)| skip)); cases s; (all_goals (first | exact zk8 | skip)); simp only [TH.nt, I5, Nt.mk.injEq, Cn.mk.injEq, if_true, Bool.false_eq_true, if_false] at ht; obtain ⟨rfl, rfl, rfl, ⟨rfl, rfl, rfl, rfl⟩, rfl⟩ := ht; have hq3 : True := trivial; have hq9 : True := trivial; replace hre0 : D3 G (.mk 2 ⟨⟨[]⟩⟩ m (.mk 0 0 0 []) []) e0 := hre0; obtain ⟨_, _, e1, hE1, hl1, ho1, hat1, hre1, _, hgb1⟩ := hsl.kidR hkl (i := 1) zP0 zP0; cases hE1; replace hre1 : D3 G (.mk 2 ⟨⟨[]⟩⟩ n (.mk 0 0 0 []) []) e1 := hre1; obtain ⟨tkA, tksA, fkA, fksA, lbA, ptA, ctA, pfA, cfA, p0A, c0A, pcA, ccA, pA, cA, esA, rfl, hndA, hcoA, _, _, hslA, hklA⟩ := hre0.open14; obtain ⟨tkB, tksB, fkB, fksB, lbB, ptB, ctB, pfB, cfB, p0B, c0B, pcB, ccB, pB, cB, esB, rfl, hndB, hcoB, _, _, hslB, hklB⟩ := hre1.open14; replace hat1 := fun hp => At.pfx (l1 := [.int .i64 2, .string ⟨⟨[]⟩⟩, .int .i64 n, .int .i64 tkB, .slice ptB tksB.length ctB, .int .i64 fkB, .slice pfB fksB.length cfB, .int .i64 lbB, .slice p0B 0 c0B]) (l2 := [.int .i64 0, .int .i64 0, .int .i64 0, .slice pcB 0 ccB, .slice pB 0 cB]) (hat1 hp))
 (have hq := hq9; refine P4 (fun (x : Nat × List Value × IM) => ⟨[(11, .int .i64 1), (10, .pointer (some ⟨x.1, 0, none⟩)), (2, .pointer (some ⟨b4, 0, none⟩))], [.blk x.1 x.2.1, .blk b4 zq14], x.2.2⟩) (fun x => B7 x.2.2 (.mk (if m < n then 3 else 4) ⟨⟨[]⟩⟩ 0 (.mk 0 []) (.mk 0 []) 0 []) x.2.1) (zdd D9 rfl ?_) ?_)
 refine xx10 0 1 2 3 4 5 6 7 8 9 ?_
 refine N5 (j := 10) (j' := 16) zM0 ?_ ?_
 refine zf3 (fun b455 => ?_)
 refine xx1 11 ?_
 refine N5 (j := 12) (j' := 16) zM0 ?_ ?_
 (have hq := hq3; refine A0c (cs := [.int .i64 2, .string ⟨⟨[]⟩⟩, .int .i64 m, .int .i64 tkA, .slice ptA tksA.length ctA, .int .i64 fkA, .slice pfA fksA.length cfA, .int .i64 lbA, .slice p0A 0 c0A, .int .i64 2, .string ⟨⟨[]⟩⟩, .int .i64 n, .int .i64 tkB, .slice ptB tksB.length ctB, .int .i64 fkB, .slice pfB fksB.length cfB, .int .i64 lbB, .slice p0B 0 c0B]) zB0 (fun G1 hle1 hsl2 hno2 => ?_); have hrN := A4i (k := 8) ⟨by decide, by decide⟩ (hndA.mono hle1) (hndB.mono hle1) hsl2; refine E6 rfl rfl (A4j 8 m n _ _ _ _ _ _ G1 _ zN0 hnk.1 hnk.2 hrN) rfl rfl rfl (fun v G3 hle3 hh => ?_); obtain ⟨uc, rfl, hru⟩ := hh; replace hru : B7 G3 (.mk (if m < n then 3 else 4) ⟨⟨[]⟩⟩ 0 (.mk 0 []) (.mk 0 []) 0 []) uc := (by unfold U3 A0a at hru; exact hru); obtain ⟨ptR, ctR, pfR, cfR, pR, cR, esR, rfl, _, _, _, _, _, _, _⟩ := hru.open9; have hru2 := hru)
 refine xx3 13 14 15 ?_
 refine A2 16 ?_
 refine zf10 (fun b463 => ?_)
 refine A2 17 ?_
 refine E9 rfl ?_
 refine xx1 18 ?_
 refine V0 ?_
 refine E2 (_, _, G3) (D6 zA0 zQ) hru2
 refine zf10 (fun b469 => ?_)
 exact y41
 refine zf10 (fun b480 => ?_)
 refine A2 10 ?_
 refine zf3 (fun b482 => ?_)
 refine xx1 11 ?_
 exact y41
 (clear hq9; rintro ⟨x10, uc, G3⟩ hru; simp only [] at hru ⊢; obtain ⟨ptR, ctR, pfR, cfR, pR, cR, esR, rfl, _, _, _, _, _, _, _⟩ := hru.open9; have hru2 := hru)
 refine B1 ?_
 refine sS rfl rfl rfl hl1 ho1 rfl ?_ (hu := by exact E0 hl1.symm)
 refine B8 ?_
 refine zf15 ?_
 (exact P6.ok (t := .tru (decide (m < n))) hst zM)
 refine A7 ?_
 refine zf0 (fun h516 => ?_) (fun h516 => ?_)
 refine B1 ?_
 focus (have hz : k = 9 := zO0; have hone4 := hone3; clear hone3; have hA := hred zO0 (fun j hjc hl => hj j zO0 hl); clear hred hIO hCo hVal ih hkn hr0; rcases hA with ⟨x, B, e, w, rfl, hst⟩ | ⟨c9, d9, x, B, e, w, rfl, hst⟩ | ⟨s, m, n, rfl, hst⟩ | ⟨s, x, y, rfl, hst⟩ | ⟨s, a, b, rfl, hst⟩ | ⟨s, c9, d9, a, b, rfl, hst⟩; (all_goals (first | exact zk8 | (cases s <;> exact zk8)| skip)); cases s; simp only [TH.nt, I5, Nt.mk.injEq, Cn.mk.injEq, if_true, Bool.false_eq_true, if_false] at ht; obtain ⟨rfl, rfl, rfl, ⟨rfl, rfl, rfl, rfl⟩, rfl⟩ := ht; have hq4 : True := trivial; replace hre0 : D3 G (.mk 4 ⟨⟨[]⟩⟩ 0 (.mk 0 0 0 []) []) e0 := hre0; obtain ⟨_, _, e1, hE1, hl1, ho1, hat1, hre1, _, hgb1⟩ := hsl.kidR hkl (i := 1) zP0 zP0; cases hE1; replace hre1 : D3 G x.nt e1 := hre1; obtain ⟨_, _, e2, hE2, hl2, ho2, hat2, hre2, _, hgb2⟩ := hsl.kidR hkl (i := 2) zP0 zP0; cases hE2; replace hre2 : D3 G y.nt e2 := hre2; obtain ⟨tkA, tksA, fkA, fksA, lbA, ptA, ctA, pfA, cfA, p0A, c0A, pcA, ccA, pA, cA, esA, rfl, hndA, hcoA, _, _, hslA, hklA⟩ := hre0.open14; rotate_left; simp only [TH.nt, I5, Nt.mk.injEq, Cn.mk.injEq, if_true, Bool.false_eq_true, if_false] at ht; obtain ⟨rfl, rfl, rfl, ⟨rfl, rfl, rfl, rfl⟩, rfl⟩ := ht; have hq4 : True := trivial; replace hre0 : D3 G (.mk 3 ⟨⟨[]⟩⟩ 0 (.mk 0 0 0 []) []) e0 := hre0; obtain ⟨_, _, e1, hE1, hl1, ho1, hat1, hre1, _, hgb1⟩ := hsl.kidR hkl (i := 1) zP0 zP0; cases hE1; replace hre1 : D3 G x.nt e1 := hre1; obtain ⟨_, _, e2, hE2, hl2, ho2, hat2, hre2, _, hgb2⟩ := hsl.kidR hkl (i := 2) zP0 zP0; cases hE2; replace hre2 : D3 G y.nt e2 := hre2; obtain ⟨tkA, tksA, fkA, fksA, lbA, ptA, ctA, pfA, cfA, p0A, c0A, pcA, ccA, pA, cA, esA, rfl, hndA, hcoA, _, _, hslA, hklA⟩ := hre0.open14; rotate_left)
 refine A7 ?_
 refine C2 ?_
 refine A5 ?_
 refine zf11 ?_
 refine A7 ?_
 refine zf12 ?_
 refine D4 ?_
 refine sP (B2 (j := 2) rfl rfl rfl zP0) rfl rfl ?_
 refine sL (A3 rfl rfl (hat2 _) hl2) rfl rfl ?_
 refine sS rfl rfl rfl hl2 ho2 rfl ?_ (hu := by exact E0 hl2.symm)
 refine D4 ?_
 refine E5 (rC rfl (A3 rfl rfl (B9 zG0) hl2)) (rT rfl) (rT rfl) ?_
 (exact P6.ok (t := y) hst hre2)
 refine A7 ?_
 refine C2 ?_
 refine A5 ?_
 refine zf12 ?_
 refine D4 ?_
 refine zf21 ?_
 refine sL (A3 rfl rfl (hat1 _) hl1) rfl rfl ?_
 refine sS rfl rfl rfl hl1 ho1 rfl ?_ (hu := by exact E0 hl1.symm)
 refine D4 ?_
 refine E5 (rC rfl (A3 rfl rfl (B9 zG0) hl1)) (rT rfl) (rT rfl) ?_
 (exact P6.ok (t := x) hst hre1)
 refine B8 ?_
 refine zf0 (fun h599 => ?_) (fun h599 => ?_)
 refine D4 ?_
 focus (have hz : k = 11 := zO0; have hone4 := hone3; clear hone3; have hA := hred zO0 (fun j hjc hl => hj j zO0 hl); clear hred hIO hCo hVal ih hkn hr0; rcases hA with ⟨x, B, e, w, rfl, hst⟩ | ⟨c9, d9, x, B, e, w, rfl, hst⟩ | ⟨s, m, n, rfl, hst⟩ | ⟨s, x, y, rfl, hst⟩ | ⟨s, a, b, rfl, hst⟩ | ⟨s, c9, d9, a, b, rfl, hst⟩; (all_goals (first | exact zk8 | (cases s <;> exact zk8)| skip)); cases s; (all_goals (first | exact zk8 | skip)); simp only [TH.nt, I5, Nt.mk.injEq, Cn.mk.injEq, if_true, Bool.false_eq_true, if_false] at ht; obtain ⟨rfl, rfl, rfl, ⟨rfl, rfl, rfl, rfl⟩, rfl⟩ := ht; have hq5 : True := trivial; replace hre0 : D3 G (.mk 10 ⟨⟨[]⟩⟩ 0 (.mk 0 0 0 []) [a.nt, b.nt]) e0 := hre0; obtain ⟨tkA, tksA, fkA, fksA, lbA, ptA, ctA, pfA, cfA, p0A, c0A, pcA, ccA, pA, cA, esA, rfl, hndA, hcoA, _, _, hslA, hklA⟩ := hre0.open14; obtain ⟨b1, o1, e1, rfl, hl1, ho1, hat1, hre1, _, hgb1⟩ := hslA.kidR hklA (i := 0) zP0 zP0; replace hre1 : D3 G a.nt e1 := hre1; obtain ⟨_, _, e2, hE2, hl2, ho2, hat2, hre2, _, hgb2⟩ := hslA.kidR hklA (i := 1) zP0 zP0; cases hE2; replace hre2 : D3 G b.nt e2 := hre2; rotate_left; cases s; (all_goals (first | exact zk8 | skip)); simp only [TH.nt, I5, Nt.mk.injEq, Cn.mk.injEq, if_true, Bool.false_eq_true, if_false] at ht; obtain ⟨rfl, rfl, rfl, ⟨rfl, rfl, rfl, rfl⟩, rfl⟩ := ht; have hq6 : True := trivial; replace hre0 : D3 G (.mk 14 ⟨⟨[]⟩⟩ 0 (.mk 3 0 0 [c9.cn, d9.cn]) [(.mk 10 ⟨⟨[]⟩⟩ 0 (.mk 0 0 0 []) [a.nt, b.nt])]) e0 := hre0; have hre0' := hre0; obtain ⟨tkA, tksA, fkA, fksA, lbA, ptA, ctA, pfA, cfA, p0A, c0A, pcA, ccA, pA, cA, esA, rfl, hndA, hcoA, _, _, hslA, hklA⟩ := hre0.open14; obtain ⟨b2, o2, e2, rfl, hl2, ho2, hat2, hre2, _, hgb2⟩ := hslA.kidR hklA (i := 0) zP0 zP0; replace hre2 : D3 G (.mk 10 ⟨⟨[]⟩⟩ 0 (.mk 0 0 0 []) [a.nt, b.nt]) e2 := hre2; have hre2' := hre2; obtain ⟨tkB, tksB, fkB, fksB, lbB, ptB, ctB, pfB, cfB, p0B, c0B, pcB, ccB, pB, cB, esB, rfl, hndB, hcoB, _, _, hslB, hklB⟩ := hre2.open14; obtain ⟨_, _, esc, hEc, _, _, _, _, _, _, hslc, hklc⟩ := hcoA.open4; cases hEc; obtain ⟨b3, o3, e3, rfl, hl3, ho3, hat3, hre3, _, hgb3⟩ := hslc.kidR hklc (i := 0) zP0 zP0; replace hre3 : H3 G c9.cn e3 := hre3; obtain ⟨_, _, e4, hE4, hl4, ho4, hat4, hre4, _, hgb4⟩ := hslc.kidR hklc (i := 1) zP0 zP0; cases hE4; replace hre4 : H3 G d9.cn e4 := hre4; rotate_left)
 refine B6 ?_
 refine zf14 ?_
 refine E1 ?_
 refine zf12 ?_
 refine D4 ?_
 refine zf18 ?_
 refine sL (A3 rfl rfl (hat1 _) hl1) rfl rfl ?_
 refine sS rfl rfl rfl hl1 ho1 rfl ?_ (hu := by exact E0 hl1.symm)
 refine D4 ?_
 refine E5 (rC rfl (A3 rfl rfl (B9 zG0) hl1)) (rT rfl) (rT rfl) ?_
 (exact P6.ok (t := a) hst hre1)
 refine B6 ?_
 refine zf14 ?_
 refine E1 ?_
 refine zf11 ?_
 refine D4 ?_
 refine F0 rfl ((A8z hre0')) rfl rfl ?_
 refine B5 ?_
 refine zf18 ?_
 refine A5 ?_
 refine sL (A0t rfl rfl (At.sub2 (hat2 _) (j := 0) (j' := 0) rfl)) rfl rfl ?_
 refine zf12 ?_
 refine B1 ?_
 refine zf6 ?_
 refine xx14 0 1 2 3 4 5 6 7 10 11 12 13 14 15 ?_
 refine A2 8 ?_
 refine zf3 (fun b698 => ?_)
 refine xx1 9 ?_
 refine A2 16 ?_
 (have hq := hq6; refine A0c (cs := [.int .i64 10, .string ⟨⟨[]⟩⟩, .int .i64 0, .int .i64 tkB, .slice ptB tksB.length ctB, .int .i64 fkB, .slice pfB fksB.length cfB, .int .i64 lbB, .slice p0B 0 c0B, .int .i64 0, .int .i64 0, .int .i64 0, .slice pcB 0 ccB, .slice pB 2 cB]) zB0 (fun G1 hle1 hsl2 hno2 => ?_); have hrN := A6w (k := 11) ⟨by decide, by decide⟩ (A09 G1) (hre2'.mono hle1) hsl2; refine E6 rfl rfl (A3v _ c9.cn G1 _ _ hrN (hre3.mono hle1)) rfl rfl rfl (fun v G3 hle3 hh => ?_); obtain ⟨vc, rfl, hrv⟩ := hh; have hvl := hrv.len; have hvo := hrv.one)
 refine A2 17 ?_
 (refine oS rfl rfl rfl rfl hvl hvo rfl rfl ?_ (hu := by exact E0 hvl.symm))
 refine xx2 18 19 ?_
 refine B1 ?_
 refine E5 (rC rfl (A3 rfl rfl (B9 zG0) hvl)) (rT rfl) (rT rfl) ?_
 (have hq := hq6; exact P6.ok (t := .conv c9 (.part false (.pair a b))) hst hrv)
 refine B1 ?_
 refine zf0 (fun h718 => ?_) (fun h718 => ?_)
 refine B1 ?_
 focus (have hz : k = 12 := zO0; have hone4 := hone3; clear hone3; have hA := hred zO0 (fun j hjc hl => hj j zO0 hl); clear hred hIO hCo hVal ih hkn hr0; rcases hA with ⟨x, B, e, w, rfl, hst⟩ | ⟨c9, d9, x, B, e, w, rfl, hst⟩ | ⟨s, m, n, rfl, hst⟩ | ⟨s, x, y, rfl, hst⟩ | ⟨s, a, b, rfl, hst⟩ | ⟨s, c9, d9, a, b, rfl, hst⟩; (all_goals (first | exact zk8 | (cases s <;> exact zk8)| skip)); cases s; (all_goals (first | exact zk8 | skip)); simp only [TH.nt, I5, Nt.mk.injEq, Cn.mk.injEq, if_true, Bool.false_eq_true, if_false] at ht; obtain ⟨rfl, rfl, rfl, ⟨rfl, rfl, rfl, rfl⟩, rfl⟩ := ht; have hq5 : True := trivial; replace hre0 : D3 G (.mk 10 ⟨⟨[]⟩⟩ 0 (.mk 0 0 0 []) [a.nt, b.nt]) e0 := hre0; obtain ⟨tkA, tksA, fkA, fksA, lbA, ptA, ctA, pfA, cfA, p0A, c0A, pcA, ccA, pA, cA, esA, rfl, hndA, hcoA, _, _, hslA, hklA⟩ := hre0.open14; obtain ⟨b1, o1, e1, rfl, hl1, ho1, hat1, hre1, _, hgb1⟩ := hslA.kidR hklA (i := 0) zP0 zP0; replace hre1 : D3 G a.nt e1 := hre1; obtain ⟨_, _, e2, hE2, hl2, ho2, hat2, hre2, _, hgb2⟩ := hslA.kidR hklA (i := 1) zP0 zP0; cases hE2; replace hre2 : D3 G b.nt e2 := hre2; rotate_left; cases s; (all_goals (first | exact zk8 | skip)); simp only [TH.nt, I5, Nt.mk.injEq, Cn.mk.injEq, if_true, Bool.false_eq_true, if_false] at ht; obtain ⟨rfl, rfl, rfl, ⟨rfl, rfl, rfl, rfl⟩, rfl⟩ := ht; have hq6 : True := trivial; replace hre0 : D3 G (.mk 14 ⟨⟨[]⟩⟩ 0 (.mk 3 0 0 [c9.cn, d9.cn]) [(.mk 10 ⟨⟨[]⟩⟩ 0 (.mk 0 0 0 []) [a.nt, b.nt])]) e0 := hre0; have hre0' := hre0; obtain ⟨tkA, tksA, fkA, fksA, lbA, ptA, ctA, pfA, cfA, p0A, c0A, pcA, ccA, pA, cA, esA, rfl, hndA, hcoA, _, _, hslA, hklA⟩ := hre0.open14; obtain ⟨b2, o2, e2, rfl, hl2, ho2, hat2, hre2, _, hgb2⟩ := hslA.kidR hklA (i := 0) zP0 zP0; replace hre2 : D3 G (.mk 10 ⟨⟨[]⟩⟩ 0 (.mk 0 0 0 []) [a.nt, b.nt]) e2 := hre2; have hre2' := hre2; obtain ⟨tkB, tksB, fkB, fksB, lbB, ptB, ctB, pfB, cfB, p0B, c0B, pcB, ccB, pB, cB, esB, rfl, hndB, hcoB, _, _, hslB, hklB⟩ := hre2.open14; obtain ⟨_, _, esc, hEc, _, _, _, _, _, _, hslc, hklc⟩ := hcoA.open4; cases hEc; obtain ⟨b3, o3, e3, rfl, hl3, ho3, hat3, hre3, _, hgb3⟩ := hslc.kidR hklc (i := 0) zP0 zP0; replace hre3 : H3 G c9.cn e3 := hre3; obtain ⟨_, _, e4, hE4, hl4, ho4, hat4, hre4, _, hgb4⟩ := hslc.kidR hklc (i := 1) zP0 zP0; cases hE4; replace hre4 : H3 G d9.cn e4 := hre4; rotate_left)
 refine B6 ?_
 refine zf14 ?_
 refine E1 ?_
 refine zf12 ?_
 refine D4 ?_
 refine zf21 ?_
 refine sL (A3 rfl rfl (hat2 _) hl2) rfl rfl ?_
 refine sS rfl rfl rfl hl2 ho2 rfl ?_ (hu := by exact E0 hl2.symm)
 refine D4 ?_
 refine E5 (rC rfl (A3 rfl rfl (B9 zG0) hl2)) (rT rfl) (rT rfl) ?_
 (exact P6.ok (t := b) hst hre2)
 refine B6 ?_
 refine zf14 ?_
 refine E1 ?_
 refine zf11 ?_
 refine D4 ?_
 refine F0 rfl ((A8z hre0')) rfl rfl ?_
 refine B5 ?_
 refine zf18 ?_
 refine A5 ?_
 refine sL (A0t rfl rfl (At.sub2 (hat2 _) (j := 0) (j' := 0) rfl)) rfl rfl ?_
 refine zf12 ?_
 refine B1 ?_
 refine zf6 ?_
 refine xx13 0 1 2 3 4 5 6 7 10 11 12 13 14 ?_
 refine aL 15 rfl (A3 rfl rfl (hat4 _) hl4) rfl ?_
 refine A2 8 ?_
 refine zf3 (fun b814 => ?_)
 refine xx1 9 ?_
 refine A2 16 ?_
 (have hq := hq6; refine A0c (cs := [.int .i64 10, .string ⟨⟨[]⟩⟩, .int .i64 0, .int .i64 tkB, .slice ptB tksB.length ctB, .int .i64 fkB, .slice pfB fksB.length cfB, .int .i64 lbB, .slice p0B 0 c0B, .int .i64 0, .int .i64 0, .int .i64 0, .slice pcB 0 ccB, .slice pB 2 cB]) zB0 (fun G1 hle1 hsl2 hno2 => ?_); have hrN := A6w (k := 12) ⟨by decide, by decide⟩ (A09 G1) (hre2'.mono hle1) hsl2; refine E6 rfl rfl (A3v _ d9.cn G1 _ _ hrN (hre4.mono hle1)) rfl rfl rfl (fun v G3 hle3 hh => ?_); obtain ⟨vc, rfl, hrv⟩ := hh; have hvl := hrv.len; have hvo := hrv.one)
 refine A2 17 ?_
 (refine oS rfl rfl rfl rfl hvl hvo rfl rfl ?_ (hu := by exact E0 hvl.symm))
 refine xx2 18 19 ?_
 refine B1 ?_
 refine E5 (rC rfl (A3 rfl rfl (B9 zG0) hvl)) (rT rfl) (rT rfl) ?_
 (have hq := hq6; exact P6.ok (t := .conv d9 (.part true (.pair a b))) hst hrv)
 refine L9 ?_
 refine zf15 ?_
 (exfalso; have hA := hred zO0 (fun j hjc hl => hj j zO0 hl); rcases hA with ⟨x, B, e, w, rfl, hst⟩ | ⟨c9, d9, x, B, e, w, rfl, hst⟩ | ⟨s, m, n, rfl, hst⟩ | ⟨s, x, y, rfl, hst⟩ | ⟨s, a, b, rfl, hst⟩ | ⟨s, c9, d9, a, b, rfl, hst⟩ <;> first | (simp only [TH.nt, I5, Nt.mk.injEq, Cn.mk.injEq, if_true, Bool.false_eq_true, if_false] at ht; omega) | (cases s <;> (simp only [TH.nt, I5, Nt.mk.injEq, Cn.mk.injEq, if_true, Bool.false_eq_true, if_false] at ht; omega)))
theorem B86 : ∀ t : TH, A6G t := by
 intro t
 induction t with
 | lam x A e i => exact A22 _ fun u hu => by obtain rfl := List.mem_singleton.1 hu; exact i
 | app f a i j => exact A22 _ fun u hu => by simp only [TH.kids, List.mem_cons, List.not_mem_nil, or_false] at hu; rcases hu with rfl | rfl; exact i; exact j
 | ar s f a i j => exact A22 _ fun u hu => by simp only [TH.kids, List.mem_cons, List.not_mem_nil, or_false] at hu; rcases hu with rfl | rfl; exact i; exact j
 | pair f a i j => exact A22 _ fun u hu => by simp only [TH.kids, List.mem_cons, List.not_mem_nil, or_false] at hu; rcases hu with rfl | rfl; exact i; exact j
 | ite c f a i j l => exact A22 _ fun u hu => by simp only [TH.kids, List.mem_cons, List.not_mem_nil, or_false] at hu; rcases hu with rfl | rfl | rfl; exact i; exact j; exact l
 | part s e i => exact A22 _ fun u hu => by obtain rfl := List.mem_singleton.1 hu; exact i
 | conv c e i => exact A22 _ fun u hu => by obtain rfl := List.mem_singleton.1 hu; exact i
 | _ => refine A22 _ ?_; intro u hu; cases hu
def B87 (r s : ByteArray × Int × Int) : Int := if r.2.1 = 2 then 2 else if r.2.1 ≠ 0 ∨ s.2.1 = 4 ∨ s.2.1 = 5 then 3 else if s.2.1 = 0 ∧ r.1 = s.1 then 1 else 4
def C0L (a b : Tm) (fuel : Int) : Int := if (A0e a).isSome = true ∧ B8R a b = true ∧ Q5 fuel 0 300 = true then B87 (U4 a fuel) (U4 b fuel) else 0
def gxT : GX → ByteArray
 | .n n => A8d n
 | .b b => if b = true then txT else txF
 | .p => A4b
 | .f => A4c
theorem B88 {fuel : Int} (hf : Q5 fuel 0 300 = true) (u : Tm) : P1 u fuel = ((M1 fuel.toNat u).1, (M1 fuel.toNat u).2.1, (M1 fuel.toNat u).2.2.1) := by
 unfold P1
 rw [if_pos (A2U.1 hf)]
theorem B89 (h : (A0e a).isSome = true) : ∃ u t, S4 a = some (u, t) := by
 unfold A0e at h
 split at h
 ·exact ⟨_, _, by assumption⟩
 ·cases h
theorem B9a {u : Tm} {t : Ty} (h : S4 a = some (u, t)) : A0e a = some t := by unfold A0e; rw [h]
theorem B9b {fuel : Int} (h : (A0e a).isSome = true) (hf : Q5 fuel 0 300 = true) : (U4 a fuel).2.1 = 0 ∨ (U4 a fuel).2.1 = 2 ∨ (U4 a fuel).2.1 = 4 ∨ (U4 a fuel).2.1 = 5 := by
 obtain ⟨u, t, hu⟩ := B89 h
 obtain ⟨h1, h2, _⟩ := A45 hu
 have hg := B1U (fun l => l ≠ 0) (fun l h => by omega) fuel.toNat u t h1 h2 (B1R u (A1S h1).1)
 have he := B88 hf u
 by_cases h0 : (P1 u fuel).2.1 = 0
 ·rw [A8i hu h0]; exact .inl rfl
 ·rw [A8j hu h0, he]
  rcases hg with ⟨g, _⟩ | ⟨g, _⟩ | ⟨g, _⟩ | ⟨g, _⟩
  ·exact .inl g
  ·exact .inr (.inl g)
  ·exact .inr (.inr (.inl g))
  ·exact .inr (.inr (.inr g))
theorem B3d {k : Int} {nm : ByteArray} {num : Int} {ty fr : Ty} {lb : Int} {ks : List Tm} {d : Int} (h : O9 40 13 (.mk k nm num ty fr lb ks) d = true) :
  E4 k = ks.length ∧ k ≠ 13 ∧ (¬(k = 1 ∨ k = 5) → nm = ⟨#[]⟩) ∧ (k ≠ 2 → num = 0) ∧ (k = 5 ∨ k = 14 → H7 ty = true) ∧ (¬(k = 5 ∨ k = 14) → ty = C5) ∧ (k = 14 → A0R fr ty = true ∧ A0C lb = true) ∧ (k ≠ 14 → fr = C5 ∧ lb = 0) ∧ P0 40 13 ks (d + 1) = true := by
 obtain ⟨_, h2, h3, h4⟩ := A07 h
 obtain ⟨n1, n2, n3, n4, n5, n6, n7, n8, n9⟩ := W0.1 h3
 exact ⟨n1, h2, n3, fun hk => by have := A2U.1 (n5 hk); omega, fun hk => n6 zO0, fun hk => A2S (n7 zO0), n8, fun hk => ⟨A2S (n9 hk).1, (n9 hk).2⟩, h4⟩
theorem B3e {D N d : Int} : ∀ {ks : List Tm}, P0 D N ks d = true → ∀ t ∈ ks, O9 D N t d = true
 | [], _, t, ht => by cases ht
 | u :: us, h, t, ht => by
  rw [P0, Bool.and_eq_true] at h
  rcases List.mem_cons.1 ht with rfl | ht
  ·exact h.1
  ·exact B3e h.2 t ht
variable {α : Type}
theorem kl2 {l : List α} (h : (l.length : Int) = 2) : ∃ a b, l = [a, b] := by
 match l, h with
 | [a, b], _ => exact ⟨a, b, rfl⟩
 | [], h => simp at h
 | [_], h => simp at h
 | _ :: _ :: _ :: _, h => simp only [List.length_cons] at h; omega
theorem kl1 {l : List α} (h : (l.length : Int) = 1) : ∃ a, l = [a] := by
 match l, h with
 | [a], _ => exact ⟨a, rfl⟩
 | [], h => simp at h
 | _ :: _ :: _, h => simp only [List.length_cons] at h; omega
theorem kl3 {l : List α} (h : (l.length : Int) = 3) : ∃ a b c, l = [a, b, c] := by
 match l, h with
 | [a, b, c], _ => exact ⟨a, b, c, rfl⟩
 | [], h => simp at h
 | [_], h => simp at h
 | [_, _], h => simp at h
 | _ :: _ :: _ :: _ :: _, h => simp only [List.length_cons] at h; omega
variable {A : GT}
theorem B9c {x y : Ty} (h : Ty.mk 4 [x, y] = A.ty) : ∃ B C : GT, x = B.ty ∧ y = C.ty ∧ A = .fn B C := by
 cases A <;> simp [GT.ty] at h
 exact ⟨_, _, h.1, h.2, rfl⟩
theorem B9d {x y : Ty} (h : Ty.mk 5 [x, y] = A.ty) : ∃ B C : GT, x = B.ty ∧ y = C.ty ∧ A = .pr B C := by
 cases A <;> simp [GT.ty] at h
 exact ⟨_, _, h.1, h.2, rfl⟩
inductive Sm : Nat → GE → GE → Prop
 | refl {e : _} : Sm 0 e e
 | step {n a b c : _} : GS a b → Sm n b c → Sm (n + 1) a c
inductive Bl : GE → Int → Prop
 | app1 {f a L : _} : Bl f L → Bl (.app f a) L
 | app2 {f a L : _} : GV f → Bl a L → Bl (.app f a) L
 | ar1 {s a b L : _} : Bl a L → Bl (.ar s a b) L
 | ar2 {s a b L : _} : GV a → Bl b L → Bl (.ar s a b) L
 | ite1 {c a b L : _} : Bl c L → Bl (.ite c a b) L
 | pair1 {a b L : _} : Bl a L → Bl (.pair a b) L
 | pair2 {a b L : _} : GV a → Bl b L → Bl (.pair a b) L
 | part1 {s e L : _} : Bl e L → Bl (.part s e) L
 | cast1 {A B l e L : _} : Bl e L → Bl (.cast A B l e) L
 | fail {G H l m w : _} : GV w → G.Gd → H.Gd → G ≠ H → Bl (.cast .any G l (.cast H .any m w)) l
variable {e : GE}
theorem A2z {L : Int} (h : Bl e L) : ¬GV e := by
 induction h with
 | app1 _ _ => intro h; cases h
 | app2 _ _ _ => intro h; cases h
 | ar1 _ _ => intro h; cases h
 | ar2 _ _ _ => intro h; cases h
 | ite1 _ _ => intro h; cases h
 | pair1 _ i => intro h; cases h with | pair h _ => exact i h
 | pair2 _ _ i => intro h; cases h with | pair _ h => exact i h
 | part1 _ _ => intro h; cases h
 | cast1 _ i => intro h; exact i h.ofCast
 | fail _ hg _ _ => intro h; cases h; exact hg.1 rfl
section
variable {k : Int} {nm : ByteArray} {num : Int} {ty fr : Ty} {lb : Int} {a b : Tm} {l : Int}
theorem A4k (h : H5 a = false) (ks : List Tm) (hs : ∃ u, I8 a = (u, 2, l)) : ∃ u, I8 (.mk k nm num ty fr lb (a :: ks)) = (u, 2, l) := by
 obtain ⟨u, hs⟩ := hs
 have : ∃ n, (if k = 9 then 1 else (a :: ks).length) = n + 1 := ⟨if k = 9 then 0 else ks.length, by split <;> simp⟩
 obtain ⟨n, hn⟩ := this
 refine ⟨L7, ?_⟩
 rw [I8, hn, X5, if_neg (by rw [h]; decide), hs]
 simp
theorem A8A (h0 : H5 a = true) (h : H5 b = false) (hk : k ≠ 9) (hs : ∃ u, I8 b = (u, 2, l)) : ∃ u, I8 (.mk k nm num ty fr lb [a, b]) = (u, 2, l) := by
 obtain ⟨u, hs⟩ := hs
 refine ⟨L7, ?_⟩
 rw [I8, if_neg hk]
 simp only [List.length_cons, List.length_nil, X5, h0, h, if_true, hs]
 simp
end
theorem B3f {L : Int} (h : Bl e L) : ∃ u, I8 e.tm = (u, 2, L) := by
 induction h with
 | app1 h i => exact A4k (A1c (A2z h)) _ i
 | app2 v h i => exact A8A ((T3 _).2 v) (A1c (A2z h)) zN0 i
 | ar1 h i => exact A4k (A1c (A2z h)) _ i
 | @ar2 s _ _ _ v h i => exact A8A ((T3 _).2 v) (A1c (A2z h)) (by cases s <;> decide) i
 | ite1 h i => exact A4k (A1c (A2z h)) _ i
 | pair1 h i => exact A4k (A1c (A2z h)) _ i
 | pair2 v h i => exact A8A ((T3 _).2 v) (A1c (A2z h)) zN0 i
 | part1 h i => exact A4k (A1c (A2z h)) _ i
 | cast1 h i => exact A4k (A1c (A2z h)) _ i
 | @fail B H l m w hv hB hH hne =>
  have hv2 : GV (.cast H .any m w) := .inj hv hH
  have hg' := A2Y.2 hB
  have hi : inj (GE.tm (.cast H .any m w)) = true := by
   rw [GE.tm]; unfold inj; rw [Bool.and_eq_true]; exact ⟨rfl, A2Y.2 hH⟩
  refine ⟨L7, ?_⟩
  rw [GE.tm, A2Z ((T3 _).2 hv2)]
  unfold W4
  rw [if_neg zN0, if_neg zN0, if_neg zN0, if_neg zN0, if_pos rfl, if_neg, if_neg, if_neg (by rw [hg']; decide), if_neg (by show ¬inj (GE.tm (.cast H .any m w)) = false; rw [hi]; decide), if_neg]
  ·show ¬H.ty.k = B.ty.k
   intro hk
   apply hne
   rw [← hH.2, ← hB.2]
   cases H <;> cases B <;> first | rfl | (simp [GT.ty, Ty.k] at hk)
  ·rw [A1Y]; exact hB.1
  ·intro h; exact hB.1 (A1Y.1 h.symm)
theorem B3g {e' : GE} {B A' : GT} {l : Int} (h : GP D1 e e' A A') (hc : Co A B) (hv : GV e) : GV (.cast A B l e) ∨ (∃ r, GS (.cast A B l e) r) ∨ ∃ L, Bl (.cast A B l e) L := by
 by_cases hA : A = .any
 ·subst hA
  by_cases hB : B = .any
  ·subst hB; exact .inr (.inl ⟨_, .cid hv (.inl rfl)⟩)
  ·by_cases hg : B.gr = B
   ·obtain ⟨H, m, w, rfl, hw, hH⟩ := B2v h rfl hv rfl
    by_cases he : H = B
    ·subst he; exact .inr (.inl ⟨_, .hit hw hH⟩)
    ·exact .inr (.inr ⟨_, .fail hw ⟨hB, hg⟩ hH (fun h => he h.symm)⟩)
   ·exact .inr (.inl ⟨_, .down hv hB hg⟩)
 ·by_cases hB : B = .any
  ·subst hB
   by_cases hg : A.gr = A
   ·exact .inl (.inj hv ⟨hA, hg⟩)
   ·exact .inr (.inl ⟨_, .up hv hA hg⟩)
  ·cases hc with
   | l => exact absurd rfl hA
   | r => exact absurd rfl hB
   | int => exact .inr (.inl ⟨_, .cid hv (.inr (.inl rfl))⟩)
   | bool => exact .inr (.inl ⟨_, .cid hv (.inr (.inr rfl))⟩)
   | fn _ _ => exact .inl (.pf hv)
   | pr _ _ => exact .inl (.pp hv)
theorem B3h {Γ : GC} {e' : GE} {A' : GT} (h : GP Γ e e' A A') : Γ = D1 → GV e ∨ (∃ r, GS e r) ∨ ∃ L, Bl e L := by
 induction h with
 | var hx _ => intro hE; subst hE; cases hx
 | num => intro _; exact .inl .num
 | tru => intro _; exact .inl .tru
 | lam _ _ _ => intro _; exact .inl .lam
 | app hf ha i j =>
  intro hE
  refine .inr ?_
  rcases i hE with vf | ⟨r, s⟩ | ⟨L, b⟩
  ·rcases j hE with va | ⟨r, s⟩ | ⟨L, b⟩
   ·rcases B2s hf hE vf rfl with ⟨x, C, e, rfl⟩ | ⟨_, _, _, _, _, _, rfl, hw⟩
    ·exact .inl ⟨_, .beta va⟩
    ·exact .inl ⟨_, .appx hw va⟩
   ·exact .inl ⟨_, .app2 vf s⟩
   ·exact .inr ⟨L, .app2 vf b⟩
  ·exact .inl ⟨_, .app1 s⟩
  ·exact .inr ⟨L, .app1 b⟩
 | ar ha hb i j =>
  intro hE
  refine .inr ?_
  rcases i hE with va | ⟨r, s⟩ | ⟨L, b⟩
  ·rcases j hE with vb | ⟨r, s⟩ | ⟨L, b⟩
   ·obtain ⟨m, rfl⟩ := A6o ha hE va rfl
    obtain ⟨n, rfl⟩ := A6o hb hE vb rfl
    exact .inl ⟨_, .ar⟩
   ·exact .inl ⟨_, .ar2 va s⟩
   ·exact .inr ⟨L, .ar2 va b⟩
  ·exact .inl ⟨_, .ar1 s⟩
  ·exact .inr ⟨L, .ar1 b⟩
 | ite hc _ _ i _ _ =>
  intro hE
  refine .inr ?_
  rcases i hE with va | ⟨r, s⟩ | ⟨L, b⟩
  ·obtain ⟨m, rfl⟩ := B2u hc hE va rfl
   exact .inl ⟨_, .ite⟩
  ·exact .inl ⟨_, .ite1 s⟩
  ·exact .inr ⟨L, .ite1 b⟩
 | pair _ _ i j =>
  intro hE
  rcases i hE with va | ⟨r, s⟩ | ⟨L, b⟩
  ·rcases j hE with vb | ⟨r, s⟩ | ⟨L, b⟩
   ·exact .inl (.pair va vb)
   ·exact .inr (.inl ⟨_, .pair2 va s⟩)
   ·exact .inr (.inr ⟨L, .pair2 va b⟩)
  ·exact .inr (.inl ⟨_, .pair1 s⟩)
  ·exact .inr (.inr ⟨L, .pair1 b⟩)
 | part hp i =>
  intro hE
  refine .inr ?_
  rcases i hE with va | ⟨r, s⟩ | ⟨L, b⟩
  ·rcases B2t hp hE va rfl with ⟨a, b, rfl, va, vb⟩ | ⟨_, _, _, _, _, _, rfl, hw⟩
   ·exact .inl ⟨_, .part va vb⟩
   ·exact .inl ⟨_, .partx hw⟩
  ·exact .inl ⟨_, .part1 s⟩
  ·exact .inr ⟨L, .part1 b⟩
 | castL h hc _ i =>
  intro hE
  rcases i hE with hv | ⟨r, s⟩ | ⟨L, b⟩
  ·subst hE; exact B3g h hc hv
  ·exact .inr (.inl ⟨_, .cast1 s⟩)
  ·exact .inr (.inr ⟨L, .cast1 b⟩)
 | castR _ _ _ i => exact i
 | castB h hc _ _ i =>
  intro hE
  rcases i hE with hv | ⟨r, s⟩ | ⟨L, b⟩
  ·subst hE; exact B3g h hc hv
  ·exact .inr (.inl ⟨_, .cast1 s⟩)
  ·exact .inr (.inr ⟨L, .cast1 b⟩)
theorem B9e {e : Tm} (h : (I2 e).2.1 = 2) : H5 e = false ∧ (I8 e).2.1 = 2 ∧ (I2 e).2.2 = (I8 e).2.2 := by
 unfold I2 at h ⊢
 split at h
 ·cases h
 ·rename_i h1
  split at h
  ·cases h
  ·rename_i h2
   split at h
   ·rename_i h3
    rw [if_neg h1, if_neg h2, if_pos h3]
    exact ⟨by cases hv : H5 e with | false => rfl | true => exact absurd hv h2, h, rfl⟩
   ·split at h <;> cases h
theorem B9f : ∀ (n : Nat) {e e' : GE} {A A' : GT}, GP D1 e e' A A' → (M1 n e.tm).2.1 = 2 → ∃ w, Ss e w ∧ Bl w (M1 n e.tm).2.2.1 := by
 intro n
 have fin : ∀ {e e' : GE} {A A' : GT}, GP D1 e e' A A' → (I2 e.tm).2.1 = 2 → ∃ w, Ss e w ∧ Bl w (I2 e.tm).2.2 := by
  intro e e' A A' hp h0
  obtain ⟨h1, h2, h3⟩ := B9e h0
  rcases B3h hp rfl with hv | ⟨r, s⟩ | ⟨L, b⟩
  ·rw [(T3 _).2 hv] at h1; cases h1
  ·rw [A6n s] at h2; cases h2
  ·obtain ⟨u, hu⟩ := B3f b
   refine ⟨e, .refl, ?_⟩
   rw [h3, hu]; exact b
 induction n with
 | zero =>
  intro e e' A A' hp h
  rw [M1] at h ⊢
  by_cases h1 : (I2 e.tm).2.1 = 1
  ·rw [if_pos h1] at h; cases h
  ·rw [if_neg h1] at h ⊢; exact fin hp h
 | succ n ih =>
  intro e e' A A' hp h
  by_cases h1 : (I2 e.tm).2.1 = 1
  ·obtain ⟨_, hv, hs, he⟩ := B2y h1
   rcases B3h hp rfl with hv' | ⟨r, s⟩ | ⟨L, b⟩
   ·rw [(T3 _).2 hv'] at hv; cases hv
   ·rw [B2A h1] at h ⊢
    have hr : (I2 e.tm).1 = r.tm := by rw [he, A6n s]
    rw [hr] at h ⊢
    obtain ⟨r', _, hp'⟩ := sim hp rfl s
    obtain ⟨w, h2, h3⟩ := ih hp' h
    exact ⟨w, .step s h2, h3⟩
   ·obtain ⟨u, hu⟩ := B3f b
    rw [hu] at hs; cases hs
  ·rw [M1, if_neg h1] at h ⊢; exact fin hp h
def GT.cp : GT → Prop
 | .fn _ _ => True
 | .pr _ _ => True
 | _ => False
def B3i : List Int → GE → GE
 | [], y => y
 | k :: ks, y => .cast .any .any k (B3i ks y)
inductive HR : GC → GE → GE → GT → Prop
 | var {Γ x A} : Γ x = some (A, A) → HR Γ (.var x) (.var x) A
 | num {Γ n} : HR Γ (.num n) (.num n) .int
 | tru {Γ b} : HR Γ (.tru b) (.tru b) .bool
 | lam {Γ x A B e e'} : HR (O8 Γ x A A) e e' B → HR Γ (.lam x A e) (.lam x A e') (.fn A B)
 | app {Γ f f' a a' A B} : HR Γ f f' (.fn A B) → HR Γ a a' A → HR Γ (.app f a) (.app f' a') B
 | ar {Γ s a a' b b'} : HR Γ a a' .int → HR Γ b b' .int → HR Γ (.ar s a b) (.ar s a' b') (if s = true then .bool else .int)
 | ite {Γ c c' a a' b b' A} : HR Γ c c' .bool → HR Γ a a' A → HR Γ b b' A → HR Γ (.ite c a b) (.ite c' a' b') A
 | pair {Γ a a' b b' A B} : HR Γ a a' A → HR Γ b b' B → HR Γ (.pair a b) (.pair a' b') (.pr A B)
 | part {Γ s e e' A B} : HR Γ e e' (.pr A B) → HR Γ (.part s e) (.part s e') (if s = true then B else A)
 | cast {Γ e x A B l} : HR Γ e x A → Co A B → HR Γ (.cast A B l e) (.cast A B l x) B
 | idR {Γ e x A l} : HR Γ e x A → HR Γ e (.cast A A l x) A
 | idL {Γ e x A l} : HR Γ e x A → HR Γ (.cast A A l e) x A
 | back {Γ e x B l m} (ks : List Int) : HR Γ e x B → HR Γ e (.cast .any B l (B3i ks (.cast B .any m x))) B
 | backG {Γ e x B l m} : HR Γ e x B → B.cp → HR Γ e (.cast B.gr B l (.cast B B.gr m x)) B
 | dyn {Γ e x A B l} : HR Γ e x A → Co A B → HR Γ (.cast A B l e) (.cast .any B l (.cast A .any l x)) B
 | dynG {Γ e x A B l} : HR Γ e x A → Co A B → A.cp → B.cp → HR Γ (.cast A B l e) (.cast B.gr B l (.cast A A.gr l x)) B
 | dynU {Γ e x A B l} : HR Γ e x A → Co A B → A.cp → HR Γ (.cast A B l e) (.cast .any B l (.cast A.gr .any l (.cast A A.gr l x))) B
inductive WT : GC → GE → GT → Prop
 | var {Γ x A} : Γ x = some (A, A) → WT Γ (.var x) A
 | num {Γ n} : WT Γ (.num n) .int
 | tru {Γ b} : WT Γ (.tru b) .bool
 | lam {Γ x A B e} : WT (O8 Γ x A A) e B → WT Γ (.lam x A e) (.fn A B)
 | app {Γ f a A B} : WT Γ f (.fn A B) → WT Γ a A → WT Γ (.app f a) B
 | ar {Γ s a b} : WT Γ a .int → WT Γ b .int → WT Γ (.ar s a b) (if s = true then .bool else .int)
 | ite {Γ c a b A} : WT Γ c .bool → WT Γ a A → WT Γ b A → WT Γ (.ite c a b) A
 | pair {Γ a b A B} : WT Γ a A → WT Γ b B → WT Γ (.pair a b) (.pr A B)
 | part {Γ s e A B} : WT Γ e (.pr A B) → WT Γ (.part s e) (if s = true then B else A)
 | cast {Γ e A B l} : WT Γ e A → Co A B → WT Γ (.cast A B l e) B
theorem B9g : ∀ (t : Tm) (d : Int) (cx : Cx) (Γ : GC) (T : Ty), O9 40 13 t d = true → CxR cx cx Γ → I7 cx t = some T → ∃ (g : GE) (A : GT), t = g.tm ∧ T = A.ty ∧ WT Γ g A := by
 refine Tm.ind fun k nm num ty fr lb ks ih d cx Γ T hs hcx hT => ?_
 obtain ⟨n1, n2, n3, n4, n5, n6, n7, n8, n9⟩ := B3d hs
 have hk : 1 ≤ k ∧ k ≤ 14 := by
  apply Classical.byContradiction
  intro hk
  rw [A5z hk] at n1; omega
 have S := B3e n9
 by_cases h5 : k = 5
 ·subst h5
  obtain rfl := n4 zN0
  obtain ⟨rfl, rfl⟩ := n8 zN0
  obtain ⟨x, rfl⟩ := kl1 (l := ks) (by have : E4 5 = 1 := rfl; omega)
  obtain ⟨A, rfl⟩ := A10 ty (n5 (.inl rfl))
  obtain ⟨B, hB, rfl⟩ := A7V hT
  obtain ⟨g, B', rfl, rfl, hp⟩ := ih x List.mem_cons_self (d + 1) _ _ B (S x List.mem_cons_self) (B8T hcx (Le.refl (a := A)) nm) hB
  exact ⟨.lam nm A g, .fn A B', rfl, rfl, .lam hp⟩
 have I : ∀ t ∈ ks, ∀ T, I7 cx t = some T → ∃ (g : GE) (A : GT), t = g.tm ∧ T = A.ty ∧ WT Γ g A := fun t ht T h => ih t ht (d + 1) cx Γ T (S t ht) hcx h
 by_cases h14 : k = 14
 ·subst h14
  obtain rfl := n4 zN0
  obtain rfl := n3 zN0
  obtain ⟨x, rfl⟩ := kl1 (l := ks) (by have : E4 14 = 1 := rfl; omega)
  obtain ⟨B, rfl⟩ := A10 ty (n5 (.inr rfl))
  obtain ⟨h1, rfl⟩ := A38 hT
  obtain ⟨g, A, rfl, rfl, hp⟩ := I x List.mem_cons_self _ h1
  have hc : Co A B := by
   have := (n7 rfl).1
   unfold A0R at this
   simp only [Bool.and_eq_true] at this
   exact (A8s A B).1 this.2
  exact ⟨.cast A B lb g, B, rfl, rfl, .cast hp hc⟩
 obtain ⟨rfl, rfl⟩ := n8 h14
 obtain rfl := n6 zO0
 by_cases h1 : k = 1
 ·subst h1
  obtain rfl := n4 zN0
  obtain rfl : ks = [] := List.length_eq_zero_iff.1 (by have : E4 1 = 0 := rfl; omega)
  obtain ⟨A, A', rfl, h2, h3, h4⟩ := hcx _ _ (A6d hT)
  have h5 := A6d hT
  rw [h2] at h5
  obtain rfl := GT.inj (Option.some.inj h5)
  exact ⟨.var nm, A', rfl, rfl, .var h3⟩
 obtain rfl := n3 zO0
 by_cases h2 : k = 2
 ·subst h2
  obtain rfl : ks = [] := List.length_eq_zero_iff.1 (by have : E4 2 = 0 := rfl; omega)
  obtain rfl := B1s hT
  exact ⟨.num num, .int, rfl, rfl, .num⟩
 obtain rfl := n4 h2
 by_cases h34 : k = 3 ∨ k = 4
 ·obtain ⟨b, rfl⟩ : ∃ b : Bool, k = if b = true then 3 else 4 := by rcases h34 with h | h; exact ⟨true, h⟩; exact ⟨false, h⟩
  obtain rfl : ks = [] := List.length_eq_zero_iff.1 (by have : E4 (if b = true then 3 else 4) = 0 := (by cases b <;> rfl); omega)
  obtain rfl := B1t h34 hT
  exact ⟨.tru b, .bool, rfl, rfl, .tru⟩
 by_cases h6 : k = 6
 ·subst h6
  obtain ⟨x, y, rfl⟩ := kl2 (l := ks) (by have : E4 6 = 2 := rfl; omega)
  obtain ⟨A, h1, h2⟩ := B1n hT
  obtain ⟨g, U, rfl, hU, hp⟩ := I x zP0 _ h1
  obtain ⟨B, C, rfl, rfl, rfl⟩ := B9c hU
  obtain ⟨g2, U, rfl, hU2, hp2⟩ := I y zP0 _ h2
  obtain rfl := GT.inj hU2
  exact ⟨.app g g2, C, rfl, rfl, .app hp hp2⟩
 by_cases h78 : k = 7 ∨ k = 8
 ·obtain ⟨b, rfl⟩ : ∃ b : Bool, k = if b = true then 8 else 7 := by rcases h78 with h | h; exact ⟨false, h⟩; exact ⟨true, h⟩
  obtain ⟨x, y, rfl⟩ := kl2 (l := ks) (by have : E4 (if b = true then 8 else 7) = 2 := (by cases b <;> rfl); omega)
  obtain ⟨h1, h2, rfl⟩ := B1o h78 hT
  obtain ⟨g, U, rfl, hU, hp⟩ := I x zP0 _ h1
  obtain rfl : U = .int := GT.inj (b := .int) hU.symm
  obtain ⟨g2, U, rfl, hU2, hp2⟩ := I y zP0 _ h2
  obtain rfl : U = .int := GT.inj (b := .int) hU2.symm
  exact ⟨.ar b g g2, if b = true then .bool else .int, rfl, by cases b <;> rfl, .ar hp hp2⟩
 by_cases h9 : k = 9
 ·subst h9
  obtain ⟨x, y, z, rfl⟩ := kl3 (l := ks) (by have : E4 9 = 3 := rfl; omega)
  obtain ⟨h1, h2, h3⟩ := B1p hT
  obtain ⟨g, U, rfl, hU, hp⟩ := I x zP0 _ h1
  obtain rfl : U = .bool := GT.inj (b := .bool) hU.symm
  obtain ⟨g2, U, rfl, rfl, hp2⟩ := I y zP0 _ h2
  obtain ⟨g3, V, rfl, hV, hp3⟩ := I z zP0 _ h3
  obtain rfl := GT.inj hV
  exact ⟨.ite g g2 g3, U, rfl, rfl, .ite hp hp2 hp3⟩
 by_cases h10 : k = 10
 ·subst h10
  obtain ⟨x, y, rfl⟩ := kl2 (l := ks) (by have : E4 10 = 2 := rfl; omega)
  obtain ⟨A, B, h1, h2, rfl⟩ := A7U hT
  obtain ⟨g, U, rfl, rfl, hp⟩ := I x zP0 _ h1
  obtain ⟨g2, V, rfl, rfl, hp2⟩ := I y zP0 _ h2
  exact ⟨.pair g g2, .pr U V, rfl, rfl, .pair hp hp2⟩
 have h11 : k = 11 ∨ k = 12 := by omega
 obtain ⟨b, rfl⟩ : ∃ b : Bool, k = if b = true then 12 else 11 := by rcases h11 with h | h; exact ⟨false, h⟩; exact ⟨true, h⟩
 obtain ⟨x, rfl⟩ := kl1 (l := ks) (by have : E4 (if b = true then 12 else 11) = 1 := (by cases b <;> rfl); omega)
 obtain ⟨A, B, h1, rfl⟩ := B1q h11 hT
 obtain ⟨g, U, rfl, hU, hp⟩ := I x zP0 _ h1
 obtain ⟨B', C, rfl, rfl, rfl⟩ := B9d hU
 exact ⟨.part b g, if b = true then C else B', rfl, by cases b <;> rfl, .part hp⟩
def gbk (A B : GT) (l : Int) (a : GE) : GE := if N1 A.ty B.ty = true then a else match a with
 | .cast C D m x => if A.ty.k = 1 ∧ D.ty.k = 1 ∧ N1 B.ty C.ty = true then x else .cast A B l (.cast C D m x)
 | a => .cast A B l a
def GE.simp : GE → GE
 | .var x => .var x
 | .num n => .num n
 | .tru b => .tru b
 | .lam x A e => .lam x A e.simp
 | .app f a => .app f.simp a.simp
 | .ar s a b => .ar s a.simp b.simp
 | .ite c a b => .ite c.simp a.simp b.simp
 | .pair a b => .pair a.simp b.simp
 | .part s e => .part s e.simp
 | .cast A B l e => gbk A B l e.simp
def GE.dynm : GE → GE
 | .var x => .var x
 | .num n => .num n
 | .tru b => .tru b
 | .lam x A e => .lam x A e.dynm
 | .app f a => .app f.dynm a.dynm
 | .ar s a b => .ar s a.dynm b.dynm
 | .ite c a b => .ite c.dynm a.dynm b.dynm
 | .pair a b => .pair a.dynm b.dynm
 | .part s e => .part s e.dynm
 | .cast A B l e => if A.ty.k = 1 ∨ B.ty.k = 1 then .cast A B l e.dynm else .cast .any B l (.cast A .any l e.dynm)
def B9h (t : Tm) : Tm := if t.k ≠ 14 then t else if N1 t.fr t.ty = true then kd t.ks 0 else if t.fr.k = 1 ∧ (kd t.ks 0).k = 14 ∧ (kd t.ks 0).ty.k = 1 ∧ N1 t.ty (kd t.ks 0).fr = true then kd (kd t.ks 0).ks 0 else t
def C0M (t : Tm) : Tm := if t.k ≠ 14 ∨ t.fr.k = 1 ∨ t.ty.k = 1 then t else O1 (O1 (kd t.ks 0) t.fr R1 t.lb) R1 t.ty t.lb
section
variable {cx : Cx} {k : Int} {nm : ByteArray} {num : Int} {ty fr : Ty} {lb : Int} {a b c a' b' c' : Tm} {T : Ty}
end
section
variable {D N : Int} {k : Int} {nm : ByteArray} {num : Int} {ty fr : Ty} {lb : Int} {a b c a' b' c' : Tm} {d d' : Int}
end
def Agr (a b : Tm) (n m : Int) : Prop := (P1 a n).2.1 = 4 ∨ (P1 a n).2.1 = 5 ∨ (P1 b m).2.1 = 4 ∨ (P1 b m).2.1 = 5 ∨
 ((P1 a n).2.1 = 0 ∧ (P1 b m).2.1 = 0 ∧ X8 (P1 a n).1 = X8 (P1 b m).1) ∨
 ((P1 a n).2.1 = 2 ∧ (P1 b m).2.1 = 2 ∧ (P1 a n).2.2 = (P1 b m).2.2)
def C0N (e : Tm) : Tm × Bool := if P7 e = true then (A2Q B9h e, true) else (L7, false)
def GE.th : GE → TH
 | .var x => .var x
 | .num n => .num n
 | .tru b => .tru b
 | .lam x A e => .lam x A e.th
 | .app f a => .app f.th a.th
 | .ar s a b => .ar s a.th b.th
 | .ite c a b => .ite c.th a.th b.th
 | .pair a b => .pair a.th b.th
 | .part s e => .part s e.th
 | .cast A B l e => .conv (kc A B l) e.th
def GE.lk : GE → Prop
 | .var _ => True
 | .num n => 0 ≤ n ∧ n ≤ 999
 | .tru _ => True
 | .lam _ _ e => e.lk
 | .app f a => f.lk ∧ a.lk
 | .ar _ a b => a.lk ∧ b.lk
 | .ite c a b => c.lk ∧ a.lk ∧ b.lk
 | .pair a b => a.lk ∧ b.lk
 | .part _ e => e.lk
 | .cast _ _ l e => l ≠ 0 ∧ e.lk
theorem N9 {Γ : GC} {g : GE} (h : WT Γ g A) : g.lk → ST Γ g.th A := by
 induction h with
 | var h => intro _; exact .var h
 | num => intro _; exact .num
 | tru => intro _; exact .tru
 | lam _ i => intro h; exact .lam (i h)
 | app _ _ i j => intro h; exact .app (i h.1) (j h.2)
 | ar _ _ i j => intro h; exact .ar (i h.1) (j h.2) rfl
 | ite _ _ _ i j k => intro h; exact .ite (i h.1) (j h.2.1) (k h.2.2)
 | pair _ _ i j => intro h; exact .pair (i h.1) (j h.2)
 | part _ i => intro h; exact .part (i h) rfl
 | cast _ hc i => intro h; exact .conv (i h.2) (A0j hc _ h.1)
theorem B9i : ∀ {g : GE}, g.lk → g.th.nk := by
 intro g
 induction g with
 | var x => exact fun h => h
 | num n => exact fun h => h
 | tru b => exact fun h => h
 | lam x A e i => exact fun h => i h
 | app f a i j => exact fun h => ⟨i h.1, j h.2⟩
 | ar s a b i j => exact fun h => ⟨i h.1, j h.2⟩
 | ite c a b i j k => exact fun h => ⟨i h.1, j h.2.1, k h.2.2⟩
 | pair a b i j => exact fun h => ⟨i h.1, j h.2⟩
 | part s e i => exact fun h => i h
 | cast A B l e i => exact fun h => i h.2
theorem B3j : ∀ (g : GE), cv g.tm → g.lk := by
 intro g
 induction g with
 | var x => exact fun _ => trivial
 | num n => exact fun h => h.node.1.num0
 | tru b => exact fun _ => trivial
 | lam x A e i => exact fun h => i (h.node.2 _ List.mem_cons_self)
 | app f a i j => exact fun h => ⟨i (h.node.2 _ List.mem_cons_self), j (h.node.2 _ (List.mem_cons_of_mem _ List.mem_cons_self))⟩
 | ar s a b i j => exact fun h => ⟨i (h.node.2 _ List.mem_cons_self), j (h.node.2 _ (List.mem_cons_of_mem _ List.mem_cons_self))⟩
 | ite c a b i j k => exact fun h => ⟨i (h.node.2 _ List.mem_cons_self), j (h.node.2 _ (List.mem_cons_of_mem _ List.mem_cons_self)), k (h.node.2 _ (List.mem_cons_of_mem _ (List.mem_cons_of_mem _ List.mem_cons_self)))⟩
 | pair a b i j => exact fun h => ⟨i (h.node.2 _ List.mem_cons_self), j (h.node.2 _ (List.mem_cons_of_mem _ List.mem_cons_self))⟩
 | part s e i => exact fun h => i (h.node.2 _ List.mem_cons_self)
 | cast A B l e i =>
  intro h
  refine ⟨?_, i (h.node.2 _ List.mem_cons_self)⟩
  obtain ⟨d, h⟩ := h
  have := ((B3d h).2.2.2.2.2.2.1 rfl).2
  simp only [A0C, Bool.or_eq_true, A2U] at this
  omega
def TH.z : TH → Nat
 | .lam _ _ e => e.z + 1
 | .app f a => f.z + a.z + 1
 | .ar _ a b => a.z + b.z + 1
 | .ite c a b => c.z + a.z + b.z + 1
 | .pair a b => a.z + b.z + 1
 | .part _ e => e.z + 1
 | .conv _ e => e.z + 1
 | _ => 1
theorem TH.z_pos (t : TH) : 1 ≤ t.z := by cases t <;> simp [TH.z]
theorem B3k : ∀ t : TH, t.nt.sz = t.z := by
 intro t
 induction t with
 | lam x A e i => simp only [TH.nt, Nt.sz, Nt.szL, TH.z]; omega
 | app f a i j => simp only [TH.nt, Nt.sz, Nt.szL, TH.z]; omega
 | ar s f a i j => simp only [TH.nt, Nt.sz, Nt.szL, TH.z]; omega
 | ite c f a i j k => simp only [TH.nt, Nt.sz, Nt.szL, TH.z]; omega
 | pair f a i j => simp only [TH.nt, Nt.sz, Nt.szL, TH.z]; omega
 | part s e i => simp only [TH.nt, Nt.sz, Nt.szL, TH.z]; omega
 | conv c e i => simp only [TH.nt, Nt.sz, Nt.szL, TH.z]; omega
 | _ => simp only [TH.nt, Nt.sz, Nt.szL, TH.z]
theorem B9j : ∀ g : GE, H9 g.tm = g.th.z := by
 intro g
 induction g with
 | lam x A e i => simp only [GE.tm, GE.th, H9, I3, TH.z]; omega
 | app f a i j => simp only [GE.tm, GE.th, H9, I3, TH.z]; omega
 | ar s f a i j => simp only [GE.tm, GE.th, H9, I3, TH.z]; omega
 | ite c f a i j k => simp only [GE.tm, GE.th, H9, I3, TH.z]; omega
 | pair f a i j => simp only [GE.tm, GE.th, H9, I3, TH.z]; omega
 | part s e i => simp only [GE.tm, GE.th, H9, I3, TH.z]; omega
 | cast A B l e i => simp only [GE.tm, GE.th, H9, I3, TH.z]; omega
 | _ => simp only [GE.tm, GE.th, H9, I3, TH.z]
theorem B9k (x : ByteArray) (v : TH) : ∀ t : TH, (t.sub x v).z ≤ t.z * v.z := by
 have hv := v.z_pos
 have one : ∀ a : Nat, 1 ≤ a → a ≤ a * v.z := fun a _ => Nat.le_mul_of_pos_right a hv
 intro t
 induction t with
 | var y => rw [TH.sub]; split; simp [TH.z]; simp [TH.z]; omega
 | num n => simp [TH.sub, TH.z]; omega
 | tru n => simp [TH.sub, TH.z]; omega
 | lam y A e i =>
  rw [TH.sub]
  split
  ·exact one _ (TH.z_pos _)
  ·simp only [TH.z, Nat.add_mul, Nat.one_mul]; omega
 | app f a i j => simp only [TH.sub, TH.z, Nat.add_mul, Nat.one_mul]; omega
 | ar s f a i j => simp only [TH.sub, TH.z, Nat.add_mul, Nat.one_mul]; omega
 | ite c f a i j k => simp only [TH.sub, TH.z, Nat.add_mul, Nat.one_mul]; omega
 | pair f a i j => simp only [TH.sub, TH.z, Nat.add_mul, Nat.one_mul]; omega
 | part s e i => simp only [TH.sub, TH.z, Nat.add_mul, Nat.one_mul]; omega
 | conv c e i => simp only [TH.sub, TH.z, Nat.add_mul, Nat.one_mul]; omega
theorem B9l {x : ByteArray} {v : TH} (hv : v.nk) : ∀ {t : TH}, t.nk → (t.sub x v).nk := by
 intro t
 induction t with
 | var y => intro _; rw [TH.sub]; split; exact hv; trivial
 | num n => exact fun h => h
 | tru b => exact fun h => h
 | lam y A e i => intro h; rw [TH.sub]; split; exact h; exact i h
 | app f a i j => exact fun h => ⟨i h.1, j h.2⟩
 | ar s a b i j => exact fun h => ⟨i h.1, j h.2⟩
 | ite c a b i j k => exact fun h => ⟨i h.1, j h.2.1, k h.2.2⟩
 | pair a b i j => exact fun h => ⟨i h.1, j h.2⟩
 | part s e i => exact fun h => i h
 | conv c e i => exact fun h => i h
def zb (n : Nat) : Nat := n * n + n + 5
theorem A2A {a b c a' c0' : Nat} (h : a ≤ zb b) (c0 : b + c ≤ c0') (h1 : a' ≤ a + c) : a' ≤ zb c0' := by
 have : zb b + c ≤ zb (b + c) := by
  unfold zb
  have : (b + c) * (b + c) = b * b + b * c + (c * b + c * c) := by rw [Nat.add_mul, Nat.mul_add, Nat.mul_add]
  omega
 have h2 : zb (b + c) ≤ zb c0' := by
  unfold zb
  have := Nat.mul_le_mul c0 c0
  omega
 omega
theorem A23 (n : Nat) : n + 5 ≤ zb n := by unfold zb; omega
variable {t : TH}
theorem A0O : TH.nul.nk ∧ TH.nul.z ≤ zb t.z := ⟨⟨by decide, by decide⟩, by have := A23 t.z; simp only [TH.nul, TH.z]; omega⟩
theorem B3l : ∀ (t : TH), t.nk → t.stp.1.nk ∧ t.stp.1.z ≤ zb t.z := by
 intro t
 induction t with
 | var x => intro _; exact A0O
 | num n => intro _; exact A0O
 | tru b => intro _; exact A0O
 | lam x A e _ => intro _; exact A0O
 | app f a i j =>
  intro h
  rw [TH.stp]
  split
  ·exact ⟨⟨(i h.1).1, h.2⟩, A2A (i h.1).2 (c := a.z + 1) (by simp only [TH.z]; omega) (by simp only [Y5, TH.z]; omega)⟩
  ·split
   ·exact ⟨⟨h.1, (j h.2).1⟩, A2A (j h.2).2 (c := f.z + 1) (by simp only [TH.z]; omega) (by simp only [Y5, TH.z]; omega)⟩
   ·cases f with
    | lam x A b =>
     refine ⟨B9l h.2 h.1, ?_⟩
     have h1 := B9k x a b
     have h2 : b.z * a.z ≤ (b.z + 1 + a.z + 1) * (b.z + 1 + a.z + 1) := Nat.mul_le_mul zO0 zO0
     show (b.sub x a).z ≤ zb (b.z + 1 + a.z + 1)
     unfold zb
     omega
    | conv c e =>
     cases c with
     | fn c d =>
      cases e with
      | lam x A b =>
       refine ⟨⟨h.1, h.2⟩, ?_⟩
       have := A23 (TH.app (.conv (.fn c d) (.lam x A b)) a).z
       simp only [apS, TH.z] at this ⊢
       omega
      | _ => exact A0O
     | _ => exact A0O
    | _ => exact A0O
 | ar s a b i j =>
  intro h
  rw [TH.stp]
  split
  ·exact ⟨⟨(i h.1).1, h.2⟩, A2A (i h.1).2 (c := b.z + 1) (by simp only [TH.z]; omega) (by simp only [Y5, TH.z]; omega)⟩
  ·split
   ·exact ⟨⟨h.1, (j h.2).1⟩, A2A (j h.2).2 (c := a.z + 1) (by simp only [TH.z]; omega) (by simp only [Y5, TH.z]; omega)⟩
   ·cases a with
    | num m =>
     cases b with
     | num n =>
      have := A23 (TH.ar s (.num m) (.num n)).z
      cases s with
      | true => exact ⟨trivial, by simp only [arS, arT, if_true, TH.z] at this ⊢; omega⟩
      | false => exact ⟨by simp only [arS, arT, Bool.false_eq_true, if_false, TH.nk]; omega, by simp only [arS, arT, Bool.false_eq_true, if_false, TH.z] at this ⊢; omega⟩
     | _ => exact A0O
    | _ => exact A0O
 | ite c a b i _ _ =>
  intro h
  rw [TH.stp]
  split
  ·exact ⟨⟨(i h.1).1, h.2⟩, A2A (i h.1).2 (c := a.z + b.z + 1) (by simp only [TH.z]; omega) (by simp only [Y5, TH.z]; omega)⟩
  ·cases c with
   | tru m =>
    have := A23 (TH.ite (.tru m) a b).z
    cases m with
    | true => exact ⟨h.2.1, by simp only [itS, if_true, TH.z] at this ⊢; omega⟩
    | false => exact ⟨h.2.2, by simp only [itS, Bool.false_eq_true, if_false, TH.z] at this ⊢; omega⟩
   | _ => exact A0O
 | pair f a i j =>
  intro h
  rw [TH.stp]
  split
  ·exact ⟨⟨(i h.1).1, h.2⟩, A2A (i h.1).2 (c := a.z + 1) (by simp only [TH.z]; omega) (by simp only [Y5, TH.z]; omega)⟩
  ·exact ⟨⟨h.1, (j h.2).1⟩, A2A (j h.2).2 (c := f.z + 1) (by simp only [TH.z]; omega) (by simp only [Y5, TH.z]; omega)⟩
 | part s e i =>
  intro h
  rw [TH.stp]
  split
  ·exact ⟨(i h).1, A2A (i h).2 (c := 1) (by simp only [TH.z]; omega) (by simp only [Y5, TH.z]; omega)⟩
  ·cases e with
   | pair a b =>
    have := A23 (TH.part s (.pair a b)).z
    cases s with
    | true => exact ⟨h.2, by simp only [ptS, if_true, TH.z] at this ⊢; omega⟩
    | false => exact ⟨h.1, by simp only [ptS, Bool.false_eq_true, if_false, TH.z] at this ⊢; omega⟩
   | conv c e =>
    cases c with
    | pr c d =>
     cases e with
     | pair a b => exact ⟨h, by have := A23 (TH.part s (.conv (.pr c d) (.pair a b))).z; simp only [ptS, TH.z] at this ⊢; omega⟩
     | _ => exact A0O
    | _ => exact A0O
   | _ => exact A0O
 | conv c e i =>
  intro h
  rw [TH.stp]
  by_cases hc : e.cnv = false
  ·rw [Y6 hc]
   split
   ·exact ⟨(i h).1, A2A (i h).2 (c := 1) (by simp only [TH.z]; omega) (by simp only [Y5, TH.z]; omega)⟩
   ·have := A23 (TH.conv c e).z
    cases c <;> first | exact A0O | exact ⟨h, by simp only [plS, TH.z] at this ⊢; omega⟩
  ·cases e with
   | conv c0 u =>
    show (cvS c (.conv c0 u) _).1.nk ∧ _
    rw [cvS]
    split
    ·exact ⟨h, by have := A23 (TH.conv c (.conv c0 u)).z; simp only [TH.z] at this ⊢; omega⟩
    ·exact A0O
   | _ => exact absurd rfl hc
abbrev SRn := ByteArray × Int × Int
def U9 : Nat → TH → SRn
 | 0, t => if t.val = true then (t.tx, 0, 0) else if t.stp.2.1 ≠ 1 then (⟨⟨[]⟩⟩, t.stp.2.1, t.stp.2.2) else if 200 < t.stp.1.z then (⟨⟨[]⟩⟩, 4, 0) else (⟨⟨[]⟩⟩, 5, 0)
 | n + 1, t => if t.val = true then (t.tx, 0, 0) else if t.stp.2.1 ≠ 1 then (⟨⟨[]⟩⟩, t.stp.2.1, t.stp.2.2) else if 200 < t.stp.1.z then (⟨⟨[]⟩⟩, 4, 0) else U9 n t.stp.1
theorem B3m : ∀ (n : Nat) {t : TH} {A : GT}, ST D1 t A → (U9 n t).2.1 = 4 ∨ (U9 n t).2.1 = 5 ∨ (∃ w, F9 t (.v w) ∧ U9 n t = (w.tx, 0, 0)) ∨ ∃ l, F9 t (.b l) ∧ U9 n t = (⟨⟨[]⟩⟩, 2, l) := by
 have base : ∀ {t : TH} {A : GT}, ST D1 t A → t.val = true → ∃ w, F9 t (.v w) ∧ ((t.tx, 0, 0) : SRn) = (w.tx, 0, 0) := fun _ h => ⟨_, Y7 _ h, rfl⟩
 have fail : ∀ {t : TH} {A : GT}, ST D1 t A → t.val = false → t.stp.2.1 ≠ 1 → t.stp.2.1 = 2 ∧ F9 t (.b t.stp.2.2) := by
  intro t A hT hv h
  rcases A7n hT rfl hv with ⟨h1, _⟩ | ⟨h2, _⟩
  ·exact absurd h1 h
  ·exact ⟨h2, (A90 hT rfl hv).2 h2⟩
 intro n
 induction n with
 | zero =>
  intro t A hT
  rw [U9]
  by_cases hv : t.val = true
  ·rw [if_pos hv]; obtain ⟨w, h1, h2⟩ := base hT hv; exact .inr (.inr (.inl ⟨w, h1, h2⟩))
  ·rw [if_neg hv]
   have hv' : t.val = false := by cases h : t.val with | false => rfl | true => exact absurd h hv
   by_cases hs : t.stp.2.1 ≠ 1
   ·rw [if_pos hs]; obtain ⟨h1, h2⟩ := fail hT hv' hs; rw [h1]; exact .inr (.inr (.inr ⟨_, h2, rfl⟩))
   ·rw [if_neg hs]; split
    ·exact .inl rfl
    ·exact .inr (.inl rfl)
 | succ n ih =>
  intro t A hT
  rw [U9]
  by_cases hv : t.val = true
  ·rw [if_pos hv]; obtain ⟨w, h1, h2⟩ := base hT hv; exact .inr (.inr (.inl ⟨w, h1, h2⟩))
  ·rw [if_neg hv]
   have hv' : t.val = false := by cases h : t.val with | false => rfl | true => exact absurd h hv
   by_cases hs : t.stp.2.1 ≠ 1
   ·rw [if_pos hs]; obtain ⟨h1, h2⟩ := fail hT hv' hs; rw [h1]; exact .inr (.inr (.inr ⟨_, h2, rfl⟩))
   ·rw [if_neg hs]; split
    ·exact .inl rfl
    ·have hs1 : t.stp.2.1 = 1 := Classical.not_not.1 hs
     have hT2 : ST D1 t.stp.1 A := by
      rcases A7n hT rfl hv' with ⟨_, _, h⟩ | ⟨h, _⟩
      ·exact h
      ·rw [hs1] at h; exact absurd h zN0
     have hb := (A90 hT rfl hv').1 hs1
     rcases ih hT2 with h | h | ⟨w, h1, h2⟩ | ⟨l, h1, h2⟩
     ·exact .inl h
     ·exact .inr (.inl h)
     ·exact .inr (.inr (.inl ⟨w, hb _ h1, h2⟩))
     ·exact .inr (.inr (.inr ⟨l, hb _ h1, h2⟩))
theorem A5b : ∀ (A : GT) (l : Int), (kc A A l).idn = true
 | .any, l => by rw [Z1, R0]; rfl
 | .int, l => by rw [A4y]; rfl
 | .bool, l => by rw [A4z]; rfl
 | .fn a b, l => by rw [A1j, GK.idn, A5b a, A5b b]; rfl
 | .pr a b, l => by rw [A1k, GK.idn, A5b a, A5b b]; rfl
theorem A5c : ∀ (A : GT) (l m : Int), (cmp (R9 A m) (R0 A l)).idn = true
 | .any, l, m => by rw [R9, R0, cmp]; rfl
 | .int, l, m => by rw [R9, R0, cmp, if_pos rfl, cmp]; rfl
 | .bool, l, m => by rw [R9, R0, cmp, if_pos rfl, cmp]; rfl
 | .fn a b, l, m => by rw [R9, R0, cmp, if_pos (by rfl), cmp, GK.idn, A5c a, A5c b]; rfl
 | .pr a b, l, m => by rw [R9, R0, cmp, if_pos (by rfl), cmp, GK.idn, A5c a, A5c b]; rfl
def A1K (k : Int) (nm : ByteArray) (num : Int) (ty fr : GT) (lb : Int) (l : List GE) : GE :=
 let a := l.getD 0 (.num 0)
 let b := l.getD 1 (.num 0)
 if k = 1 then .var nm else if k = 2 then .num num else if k = 3 then .tru true else if k = 4 then .tru false
 else if k = 5 then .lam nm ty a else if k = 6 then .app a b else if k = 7 then .ar false a b else if k = 8 then .ar true a b
 else if k = 9 then .ite a b (l.getD 2 (.num 0)) else if k = 10 then .pair a b else if k = 11 then .part false a else if k = 12 then .part true a
 else .cast fr ty lb a
mutual
def A0f : Tm → GE
 | .mk k nm num ty fr lb ks => A1K k nm num (A0N ty) (A0N fr) lb (A1u ks)
def A1u : List Tm → List GE
 | [] => []
 | t :: ts => A0f t :: A1u ts
end
theorem B9m : ∀ g : GE, A0f g.tm = g := by
 intro g
 induction g with
 | var x => simp [GE.tm, A0f, A1u, A1K]
 | num n => simp [GE.tm, A0f, A1u, A1K]
 | tru b => cases b <;> simp [GE.tm, A0f, A1u, A1K]
 | lam x A e i => simp [GE.tm, A0f, A1u, A1K, i, A1s]
 | app f a i j => simp [GE.tm, A0f, A1u, A1K, i, j]
 | ar s a b i j => cases s <;> simp [GE.tm, A0f, A1u, A1K, i, j]
 | ite c a b i j k => simp [GE.tm, A0f, A1u, A1K, i, j, k]
 | pair a b i j => simp [GE.tm, A0f, A1u, A1K, i, j]
 | part s e i => cases s <;> simp [GE.tm, A0f, A1u, A1K, i]
 | cast A B l e i => simp [GE.tm, A0f, A1u, A1K, i, A1s]
theorem B3n : ∀ g : GE, X9 g.tm = g.th.nt := by
 intro g
 induction g with
 | var x => rw [GE.tm, X9, Q4, if_neg zN0]; rfl
 | num n => rw [GE.tm, X9, Q4, if_neg zN0]; rfl
 | tru b => cases b <;> simp [GE.tm, X9, Q4, TH.nt, GE.th, ByteArray.empty, ByteArray.emptyWithCapacity]
 | lam x A e i => rw [GE.tm, X9, Q4, Q4, if_neg zN0, i]; rfl
 | app f a i j => rw [GE.tm, X9, Q4, Q4, Q4, if_neg zN0, i, j]; rfl
 | ar s a b i j => cases s <;> simp [GE.tm, X9, Q4, TH.nt, GE.th, i, j]
 | ite c a b i j k => rw [GE.tm, X9, Q4, Q4, Q4, Q4, if_neg zN0, i, j, k]; rfl
 | pair a b i j => rw [GE.tm, X9, Q4, Q4, Q4, if_neg zN0, i, j]; rfl
 | part s e i => cases s <;> simp [GE.tm, X9, Q4, TH.nt, GE.th, i]
 | cast A B l e i => rw [GE.tm, X9, Q4, Q4, if_pos rfl, i, A1s, A1s]; rfl
structure SpT (e : Tm) (g : GE) (A : GT) : Prop where
 eq : e = g.tm
 st : ST D1 g.th A
 nk : g.th.nk
 z : g.th.z ≤ 200
 wt : WT D1 g A
theorem spT {e : Tm} {T : Ty} (hv : P7 e = true) (hT : I7 [] e = some T) : ∃ A, T = A.ty ∧ SpT e (A0f e) A := by
 obtain ⟨hs, hc⟩ := (A5T e).1 hv
 obtain ⟨g, A, rfl, rfl, hw⟩ := B9g e 1 [] D1 T hs B8S hT
 rw [B9m]
 have hlk := B3j g (A1S hv).1
 exact ⟨A, rfl, ⟨rfl, N9 hw hlk, B9i hlk, by rw [← B9j]; exact hc, hw⟩⟩
def A00 (t : TH) (fuel : Int) : SRn := if 0 ≤ fuel ∧ fuel ≤ 300 then U9 fuel.toNat t else (⟨⟨[]⟩⟩, 3, 0)
def A12 (e : Tm) (fuel : Int) : SRn := match S4 e with
 | none => (⟨⟨[]⟩⟩, 3, 0)
 | some (u, _) => A00 (A0f u).th fuel
theorem A8B {e : Tm} {fuel : Int} (h : S4 e = none) : A12 e fuel = (⟨⟨[]⟩⟩, 3, 0) := by unfold A12; rw [h]
theorem A8C {e u : Tm} {t : Ty} {fuel : Int} (h : S4 e = some (u, t)) : A12 e fuel = A00 (A0f u).th fuel := by unfold A12; rw [h]
variable {n : Nat}
theorem B3o (h : t.val = true) : U9 n t = (t.tx, 0, 0) := by cases n <;> (rw [U9, if_pos h])
theorem B3p (h : t.val = false) (h2 : t.stp.2.1 ≠ 1) : U9 n t = (⟨⟨[]⟩⟩, t.stp.2.1, t.stp.2.2) := by cases n <;> (rw [U9, if_neg (by rw [h]; decide), if_pos h2])
theorem B3q (h : t.val = false) (h2 : t.stp.2.1 = 1) (h3 : 200 < t.stp.1.z) : U9 n t = (⟨⟨[]⟩⟩, 4, 0) := by cases n <;> (rw [U9, if_neg (by rw [h]; decide), if_neg zO0, if_pos h3])
theorem B3r (h : t.val = false) (h2 : t.stp.2.1 = 1) (h3 : ¬200 < t.stp.1.z) (hn : n = 0) : U9 n t = (⟨⟨[]⟩⟩, 5, 0) := by subst hn; rw [U9, if_neg (by rw [h]; decide), if_neg zO0, if_neg h3]
theorem A8D (h : t.val = false) (h2 : t.stp.2.1 = 1) (h3 : ¬200 < t.stp.1.z) (hn : n ≠ 0) : U9 n t = U9 (n - 1) t.stp.1 := by
 obtain ⟨m, rfl⟩ : ∃ m, n = m + 1 := ⟨n - 1, by omega⟩
 rw [U9, if_neg (by rw [h]; decide), if_neg zO0, if_neg h3]; rfl
theorem A8E (hT : ST D1 t A) (hv : t.val = false) (h : t.stp.2.1 = 1) : ST D1 t.stp.1 A := by
 rcases A7n hT rfl hv with ⟨_, _, h⟩ | ⟨h2, _⟩
 ·exact h
 ·rw [h] at h2; exact absurd h2 zN0
def A0P (r : SRn) : IM → Value → List A9 → Prop := M3 fun _ v => ∃ h : Int, v = .tuple ⟨[.string r.1, .int .i64 r.2.1, .int .i64 r.2.2, .int .i64 h]⟩
theorem A0P.mk {r : SRn} {s : ByteArray} {c l h : Int} (e : r = (s, c, l)) : A0P r G (.tuple ⟨[.string s, .int .i64 c, .int .i64 l, .int .i64 h]⟩) [] := by subst e; exact ⟨rfl, h, rfl⟩
theorem B3s {t : TH} {fuel : Int} (h : Q5 fuel 0 300 = false) : A00 t fuel = (⟨⟨[]⟩⟩, 3, 0) := by
 unfold A00; rw [if_neg (A67 h)]
theorem B9n (e : Tm) (g : GE) (A : GT) (fuel : Int) (G : IM) (cells : List Value) (hTab : A05 G) (hv : P7 e = true) (hs : SpT e g A) (hr : B7 G e cells) : Fn prog 11 [.agg ⟨cells⟩, .int .i64 fuel] [] G (A0P (A00 g.th fuel)) := by
 have hRl := hr.len
 have hRo := hr.one
 have hV := A7q e G cells hr
 rw [hv] at hV
 have hno := @B3s g.th fuel
 have hTo := B8U e G cells (A1S hv).1 hr
 have hmt : X9 e = g.th.nt := by rw [hs.eq, B3n]
 rw [hmt] at hTo
 obtain ⟨F, hF⟩ : ∃ F : Nat, Q5 fuel 0 300 = true → fuel = (F : Int) ∧ F ≤ 300 ∧ A00 g.th fuel = U9 F g.th := ⟨fuel.toNat, fun h => by
  have h2 := A2J h
  exact ⟨by omega, by omega, by unfold A00; rw [if_pos h2]⟩⟩
 generalize A00 g.th fuel = R at hno hF ⊢
 refine C4 func11 rfl ntmps11 results11 rfl ?_
 intro w0
 refine A5 ?_
 refine zf2 (fun b3 => ?_)
 refine E1 ?_
 refine sL (A3 rfl rfl (B9 zG0) hRl) rfl rfl ?_
 refine F0 rfl (hV) rfl rfl ?_
 refine B5 ?_
 refine L4 rfl ((B1J fuel _)) rfl rfl (fun h18 => ?_) (fun h18 => ?_)
 refine E1 ?_
 refine sL (A3 rfl rfl (B9 zG0) hRl) rfl rfl ?_
 (obtain ⟨rfl, hF3, rfl⟩ := hF zL0; refine H6 rfl hTo rfl rfl (fun v G1 hle1 hh => ?_); obtain ⟨wc, rfl, hrw⟩ := hh; have hwl := hrw.len; have hwo := hrw.one)
 refine zf1 (fun b30 => ?_)
 refine sS rfl rfl rfl hwl hwo rfl ?_ (hu := by exact E0 hwl.symm)
 refine B6 ?_
 refine sL (A3 rfl rfl (B9 zG0) hwl) rfl rfl ?_
 refine F0 rfl ((B2T _ _ _ hrw)) rfl rfl ?_
 refine D4 ?_
 refine C2 ?_
 (refine K2 (fun (x : Nat × TH × List Value × Int × IM) => ⟨[(10, .int .i64 (x.1 : Int)), (9, .int .i64 x.2.2.2.1), (8, .pointer (some ⟨b30, 0, none⟩)), (1, .int .i64 (F : Int))], [.blk b30 x.2.2.1], x.2.2.2.2⟩) (fun x => x.1 ≤ F ∧ U9 F g.th = U9 (F - x.1) x.2.1 ∧ ST D1 x.2.1 A ∧ x.2.1.nk ∧ x.2.1.z ≤ 200 ∧ D3 x.2.2.2.2 x.2.1.nt x.2.2.1 ∧ C3 G1 x.2.2.2.2) (fun x => F - x.1) (0, g.th, wc, g.th.nt.ht, G1) ?_ ?_ ?_)
 (simp only [J5]; exact E3)
 (exact ⟨Nat.zero_le _, rfl, hs.st, hs.nk, hs.z, hrw, C3.refl _⟩)
 (rintro ⟨s, t, uc, h, Gi⟩ ⟨hsF, hrun, hT, hnk, hz, hru, hlei⟩; simp only [] at hsF hrun hT hnk hz hru hlei ⊢; have hul := hru.len; have huo := hru.one; have hVal := (A8y t).2 Gi uc hru)
 refine tS ?_
 refine C2 ?_
 refine B5 ?_
 refine sL (A3 rfl rfl (B9 zG0) hul) rfl rfl ?_
 focus (cases hvl : t.val; all_goals (rw [hvl] at hVal; refine F0 rfl hVal rfl rfl ?_))
 refine B8 ?_
 refine sL (A3 rfl rfl (B9 zG0) hul) rfl rfl ?_
 (refine H6 rfl (B86 t Gi uc A hT hvl hnk hru) rfl rfl (fun v G3 hle3 hh => ?_); obtain ⟨nc, n1, rfl, hrn, hn1⟩ := hh; have hnl := hrn.len; have hno2 := hrn.one; have hok := B3l t hnk)
 refine B6 ?_
 refine zf1 (fun b71 => ?_)
 refine sS rfl rfl rfl hnl hno2 rfl ?_ (hu := by exact E0 hnl.symm)
 refine B1 ?_
 refine C2 ?_
 refine B5 ?_
 refine zf16 (fun h82 => ?_) (fun h82 => ?_)
 refine A2H ?_
 refine A1a (rT rfl) (rT rfl) (rT rfl) (rT rfl) ?_
 (exact A0P.mk (by rw [hrun]; exact B3p hvl zO0))
 refine A7 ?_
 refine sL (A3 rfl rfl (B9 zG0) hnl) rfl rfl ?_
 (have hc1 : t.stp.2.1 = 1 := zO0; obtain rfl := hn1 hc1; have hzz : zb t.z ≤ zb 200 := (by unfold zb; have := Nat.mul_le_mul hz hz; omega); have hzb : zb 200 = 40205 := rfl; have hsz := B3k t.stp.1; refine F0 rfl (B8O _ G3 nc zO0 hrn) rfl rfl ?_)
 refine zf17 (fun h115 => ?_) (fun h115 => ?_)
 refine A1A ?_
 refine A1a (rT rfl) (rT rfl) (rT rfl) (rT rfl) ?_
 (exact A0P.mk (by rw [hrun]; exact B3q hvl hc1 zO0))
 refine D4 ?_
 refine zf0 (fun h146 => ?_) (fun h146 => ?_)
 refine A1A ?_
 refine A1a (rT rfl) (rT rfl) (rT rfl) (rT rfl) ?_
 (exact A0P.mk (by rw [hrun]; exact B3r hvl hc1 zO0 zO0))
 refine E1 ?_
 refine sL (A3 rfl rfl (B9 zG0) hnl) rfl rfl ?_
 refine Y2 rfl rfl rfl hnl hno2 rfl zC0 (by exact E0 (hul.trans hnl.symm)) ?_
 refine B6 ?_
 refine sL (A3 rfl rfl (B9 zG0) hnl) rfl rfl ?_
 refine F0 rfl ((B2T _ _ _ hrn)) rfl rfl ?_
 refine sQ (A6m rfl rfl) rfl ?_
 refine A7 ?_
 refine zf4 ?_
 refine A5 ?_
 refine J7 (s + 1, t.stp.1, nc, (if h < t.stp.1.nt.ht then t.stp.1.nt.ht else h), G3) ?_ ?_ ?_
 (simp only [J5]; exact E3)
 (dsimp only; exact ⟨by omega, by rw [hrun, A8D hvl hc1 zO0 zO0, show F - (s + 1) = F - s - 1 by omega], A8E hT hvl hc1, hok.1, by omega, hrn, hlei.trans hle3⟩)
 (show F - (s + 1) < F - s; omega)
 refine B1 ?_
 refine sL (A3 rfl rfl (B9 zG0) hul) rfl rfl ?_
 refine F0 rfl ((B83 t Gi uc (hTab.mono (hle1.trans hlei)) hvl hnk hru)) rfl rfl ?_
 refine K7 ?_
 refine A1a (rT rfl) (rT rfl) (rT rfl) (rT rfl) ?_
 (exact A0P.mk (by rw [hrun]; exact B3o hvl))
 refine K1 ?_
 refine A1a (rT rfl) (rT rfl) (rT rfl) (rT rfl) ?_
 (exact A0P.mk (hno zL0))
theorem B9o (e : Tm) (fuel : Int) (G : IM) (cells : List Value) (hT : A05 G) (hr : B7 G e cells) : Fn prog 16 [.agg ⟨cells⟩, .int .i64 fuel] [] G (A8h (A12 e fuel) G) := by
 have hRl := hr.len
 have hRo := hr.one
 have hno := @A8B e fuel
 have hys := fun u t => @A8C e u t fuel
 refine C4 func16 rfl ntmps16 results16 rfl ?_
 intro w0
 refine A5 ?_
 refine zf2 (fun b3 => ?_)
 refine B8 ?_
 refine sL (A3 rfl rfl (B9 zG0) hRl) rfl rfl ?_
 focus (refine H6 rfl (B2b e G cells hr) rfl rfl (fun v G1 hle1 hh => ?_); obtain ⟨cu, ct, rfl, hru, hrt⟩ := hh; rcases hI : S4 e with _ | ⟨u, t⟩; rotate_left; rw [hI] at hru hrt; simp only [Option.getD_some] at hru hrt; rotate_left; rw [hI] at hru hrt; simp only [Option.getD_none] at hru hrt; simp only [Option.isSome]; rotate_left; simp only [Option.isSome]; rotate_left; all_goals (have hul := hru.len; have huo := hru.one; obtain ⟨p3, c3, e3, rfl, _⟩ := hrt.open))
 refine B6 ?_
 refine zf1 (fun b17 => ?_)
 refine zf1 (fun b18 => ?_)
 refine sS rfl rfl rfl hul huo rfl ?_ (hu := by exact E0 hul.symm)
 refine A1i ?_
 refine zf22 ?_
 (exact ⟨rfl, by rw [hno (by first | exact hI | rfl | assumption)]⟩)
 refine B6 ?_
 refine zf1 (fun b47 => ?_)
 refine zf1 (fun b48 => ?_)
 refine sS rfl rfl rfl hul huo rfl ?_ (hu := by exact E0 hul.symm)
 refine L9 ?_
 refine sL (A3 rfl rfl (B9 zG0) hul) rfl rfl ?_
 refine I0 ?_
 (obtain ⟨hcv, hct, _⟩ := A45 hI; obtain ⟨A, _, hsp⟩ := spT hcv hct; refine H6 rfl (B9n u _ A fuel G1 cu (hT.mono hle1) hcv hsp hru) rfl rfl (fun v G2 hle2 hh => ?_); obtain ⟨h, rfl⟩ := hh)
 refine A2H ?_
 refine zf22 ?_
 (exact ⟨rfl, by rw [hys _ _ hI]⟩)
theorem A4l : ∀ A : GT, H8 A.ty
 | .any => S8 zN0 zN0
 | .int => S8 zN0 zN0
 | .bool => S8 zN0 zN0
 | .fn a b => by rw [GT.ty, H8]; exact ⟨fun _ => rfl, fun h => absurd rfl h, by rw [A0m, A0m, A0m]; exact ⟨A4l a, A4l b, trivial⟩⟩
 | .pr a b => by rw [GT.ty, H8]; exact ⟨fun _ => rfl, fun _ h => absurd rfl h, by rw [A0m, A0m, A0m]; exact ⟨A4l a, A4l b, trivial⟩⟩
theorem B9p {B : GT} (h : Co A B) {k bk : Int} {ks bks : List Ty} (hA : A.ty = .mk k ks) (hB : B.ty = .mk bk bks) (h2 : bk ≠ 1) (h3 : k ≠ 1) (h4 : k ≠ 4) (h5 : k ≠ 5) : bk = k := by
 cases h with
 | l => simp only [GT.ty, Ty.mk.injEq] at hA; exact absurd hA.1.symm h3
 | r => simp only [GT.ty, Ty.mk.injEq] at hB; exact absurd hB.1.symm h2
 | int => simp only [GT.ty, Ty.mk.injEq] at hA hB; exact hB.1.symm.trans hA.1
 | bool => simp only [GT.ty, Ty.mk.injEq] at hA hB; exact hB.1.symm.trans hA.1
 | fn _ _ => simp only [GT.ty, Ty.mk.injEq] at hA; exact absurd hA.1.symm h4
 | pr _ _ => simp only [GT.ty, Ty.mk.injEq] at hA; exact absurd hA.1.symm h5
theorem A6H (k : Int) (G : IM) : Fn prog 176 [.int .i64 k] [] G (I1 (.agg ⟨[.int .i64 1, .int .i64 k, .int .i64 0, .slice none 0 0]⟩) G) := by
 refine C4 func176 rfl ntmps176 results176 rfl ?_
 intro w0
 refine A5 ?_
 refine zf1 (fun b3 => ?_)
 refine I9 ?_
 refine zf9 ?_
 (exact ⟨rfl, rfl, rfl⟩)
theorem B3t (c : GK) (ih : ∀ d, c = .inj d → ∀ (G : IM) (cells : List Value), H3 G d.cn cells → Fn prog 196 [.agg ⟨cells⟩] [] G (I1 (.int .i64 d.tg) G)) (G : IM) (cells : List Value) (hr : H3 G c.cn cells) : Fn prog 196 [.agg ⟨cells⟩] [] G (I1 (.int .i64 c.tg) G) := by
 obtain ⟨k, tg, lb, ks, hc⟩ := A1Z c
 obtain ⟨t2, t3, t1, t5, t4, _, t0⟩ := B2B hc
 have t50 : k = 5 → tg = 0 := fun h => by cases c <;> simp only [GK.cn, Cn.mk.injEq] at hc <;> omega
 rw [hc] at hr
 obtain ⟨p, cp, es, rfl, hk, htg, hlb, hn2, har2, har4, hsl, hkl⟩ := hr.open4
 refine C4 func196 rfl ntmps196 results196 rfl ?_
 intro w0
 refine A5 ?_
 refine zf2 (fun b3 => ?_)
 refine I9 ?_
 refine C2 (tS (tR (sB (qE rfl rfl) rfl rfl (fun h17 => ?_) (fun h17 => ?_))))
 refine K7 ?_
 (exact ⟨rfl, by rw [t2 zO0], rfl⟩)
 refine A7 ?_
 refine zf0 (fun h38 => ?_) (fun h38 => ?_)
 refine K7 ?_
 (exact ⟨rfl, by rw [t3 zO0], rfl⟩)
 refine A7 ?_
 refine zf0 (fun h59 => ?_) (fun h59 => ?_)
 refine D4 ?_
 (obtain ⟨d, rfl, hks⟩ := t4 zO0; subst hks; obtain ⟨b, o, e, rfl, hl, ho, hat, hre, _, hgb⟩ := hsl.kidR hkl (i := 0) zP0 zP0; replace hre : H3 G d.cn e := hre; refine sP (B2 (j := 0) rfl rfl rfl zP0) rfl rfl ?_)
 refine sL (A3 rfl rfl (hat _) hl) rfl rfl ?_
 (refine F0 rfl (ih d rfl G _ hre) rfl rfl ?_)
 refine B8 ?_
 (exact ⟨rfl, rfl, rfl⟩)
 refine L9 ?_
 (exact ⟨rfl, by (by_cases h5 : k = 5); (rw [t5 h5, t50 h5]); (rw [t1 zO0]), rfl⟩)
theorem A6I : ∀ (c : GK) (G : IM) (cells : List Value), H3 G c.cn cells → Fn prog 196 [.agg ⟨cells⟩] [] G (I1 (.int .i64 c.tg) G) := by
 intro c
 induction c with
 | inj d ih => exact B3t _ fun d' h => by cases h; exact ih
 | _ => exact B3t _ fun d' h => by cases h
mutual
def Cn.hs : Cn → Int
 | .mk k _ _ ks => if k = 2 ∨ k = 3 ∨ ks.length = 0 then IntKind.i64.wrap (Cn.hsL 0 ks + 1) else Cn.hsL 0 ks
def Cn.hsL (m : Int) : List Cn → Int
 | [] => m
 | t :: ts => Cn.hsL (mxI m t.hs) ts
end
mutual
def Nt.hs : Nt → Int
 | .mk k _ _ co ks => Nt.hsL (if k = 14 then co.hs else 0) ks
def Nt.hsL (m : Int) : List Nt → Int
 | [] => m
 | t :: ts => Nt.hsL (mxI m t.hs) ts
end
theorem B3u : ∀ (a : List Cn) (m : Int) (t : Cn), Cn.hsL m (a ++ [t]) = mxI (Cn.hsL m a) t.hs
 | [], m, t => by simp [Cn.hsL]
 | x :: xs, m, t => by rw [List.cons_append, Cn.hsL, Cn.hsL, B3u xs]
theorem B9q {ks : List Cn} {m : Int} {i : Nat} (h : i < ks.length) : Cn.hsL m (ks.take (i + 1)) = mxI (Cn.hsL m (ks.take i)) ks[i].hs := by
 rw [List.take_succ_eq_append_getElem h, B3u]
theorem B3v : ∀ (a : List Nt) (m : Int) (t : Nt), Nt.hsL m (a ++ [t]) = mxI (Nt.hsL m a) t.hs
 | [], m, t => by simp [Nt.hsL]
 | x :: xs, m, t => by rw [List.cons_append, Nt.hsL, Nt.hsL, B3v xs]
theorem B3w {ks : List Nt} {m : Int} {i : Nat} (h : i < ks.length) : Nt.hsL m (ks.take (i + 1)) = mxI (Nt.hsL m (ks.take i)) ks[i].hs := by
 rw [List.take_succ_eq_append_getElem h, B3v]
theorem A8F {a b : Int} (h : a < b) : mxI a b = b := if_pos h
theorem A8G {a b : Int} (h : ¬a < b) : mxI a b = a := if_neg h
theorem B9r {k tg lb : Int} {ks : List Cn} (h : k = 2 ∨ k = 3 ∨ ks.length = 0) : (Cn.mk k tg lb ks).hs = IntKind.i64.wrap (Cn.hsL 0 ks + 1) := by rw [Cn.hs, if_pos h]
theorem B9s {k tg lb : Int} {ks : List Cn} (h : ¬(k = 2 ∨ k = 3 ∨ ks.length = 0)) : (Cn.mk k tg lb ks).hs = Cn.hsL 0 ks := by rw [Cn.hs, if_neg h]
theorem B9t : ∀ (t : Cn) (G : IM) (cells : List Value), H3 G t cells → Fn prog 135 [.agg ⟨cells⟩] [] G (I1 (.int .i64 t.hs) G) := by
 refine Cn.ind fun k tg lb ks ih G cells hr => ?_
 obtain ⟨p, c, es, rfl, hk, htg, hlb, hn2, _, _, hsl, hkl⟩ := hr.open4
 have hy := @B9r k tg lb ks
 have hn' := @B9s k tg lb ks
 generalize (Cn.mk k tg lb ks).hs = R at hy hn' ⊢
 clear hr
 have hn := hsl.le
 refine C4 func135 rfl ntmps135 results135 rfl ?_
 intro w0
 refine A5 ?_
 refine zf2 (fun b3 => ?_)
 refine K5 ?_
 refine C2 ?_
 (refine K2 (fun (i : Nat) => ⟨[(4, .int .i64 (i : Int)), (3, .int .i64 (Cn.hsL 0 (ks.take i))), (1, .pointer (some ⟨b3, 0, none⟩))], [.blk b3 [.int .i64 k, .int .i64 tg, .int .i64 lb, .slice p ks.length c]], G⟩) (fun i => i ≤ ks.length) (fun i => ks.length - i) 0 ?_ ?_ ?_)
 exact E3
 exact Nat.zero_le _
 (rintro i hi)
 refine B8 ?_
 refine zf8 (fun h30 => ?_) (fun h30 => ?_)
 refine A7 ?_
 refine C2 ?_
 refine B1 ?_
 (obtain ⟨b, o, e, rfl, hl, ho, hat, hre, _, hgb⟩ := hsl.kidR hkl (i := i) zO0 zO0; have hsx := @B9q ks 0 i zO0; refine sP (B2 (j := i) rfl rfl rfl zO0) rfl rfl ?_)
 refine sL (A3 rfl rfl (hat _) hl) rfl rfl ?_
 (refine F0 rfl (ih ks[i] (List.getElem_mem zO0) G _ hre) rfl rfl ?_)
 refine B8 ?_
 refine zf17 (fun h53 => ?_) (fun h53 => ?_)
 refine J3 ?_
 refine zf4 ?_
 refine A5 ?_
 (rw [A8F zO0] at hsx; refine J7 (i + 1) ?_ ?_ ?_; rw [hsx])
 exact E3
 omega
 omega
 refine D4 ?_
 refine zf4 ?_
 refine A5 ?_
 (rw [A8G zO0] at hsx; refine J7 (i + 1) ?_ ?_ ?_; rw [hsx])
 exact E3
 omega
 omega
 refine K7 ?_
 refine zf0 (fun h100 => ?_) (fun h100 => ?_)
 refine L9 ?_
 exact y45
 refine B5 ?_
 refine zf0 (fun h133 => ?_) (fun h133 => ?_)
 refine P3 ?_
 exact y45
 refine B1 ?_
 refine zf0 (fun h164 => ?_) (fun h164 => ?_)
 refine A7 ?_
 exact y45
 refine K5 ?_
 (obtain rfl : i = ks.length := zO0; rw [List.take_length]; exact ⟨rfl, by rw [hn' zO0], rfl⟩)
theorem B3x : ∀ (t : Nt) (G : IM) (cells : List Value), D3 G t cells → Fn prog 81 [.agg ⟨cells⟩] [] G (I1 (.int .i64 t.hs) G) := by
 refine Nt.ind fun k nm num co ks ih G cells hr => ?_
 have hCh := fun cs => B9t co G cs
 rw [Nt.hs]
 obtain ⟨ck, ctg, clb, cks⟩ := co
 generalize (Cn.mk ck ctg clb cks).hs = CH at hCh ⊢
 obtain ⟨tk, tks, fk, fks, lb, pt, ct, pf, cf, p0, c0, pc, cc, p, c, es, rfl, hnd, hco, hn3, h14, hsl, hkl⟩ := hr.open14
 replace hCh := hCh _ hco
 have hn := hsl.le
 refine C4 func81 rfl ntmps81 results81 rfl ?_
 intro w0
 refine A5 ?_
 refine zf2 (fun b3 => ?_)
 refine K5 ?_
 refine zf0 (fun h18 => ?_) (fun h18 => ?_)
 refine A7 ?_
 refine F0 rfl (hCh) rfl rfl ?_
 refine E1 ?_
 refine C2 ?_
 (have hz : k = 14 := zO0; refine K2 (fun (i : Nat) => ⟨[(4, .int .i64 (i : Int)), (3, .int .i64 (Nt.hsL CH (ks.take i))), (1, .pointer (some ⟨b3, 0, none⟩))], [.blk b3 [.int .i64 k, .string nm, .int .i64 num, .int .i64 tk, .slice pt tks.length ct, .int .i64 fk, .slice pf fks.length cf, .int .i64 lb, .slice p0 0 c0, .int .i64 ck, .int .i64 ctg, .int .i64 clb, .slice pc cks.length cc, .slice p ks.length c]], G⟩) (fun i => i ≤ ks.length) (fun i => ks.length - i) 0 ?_ ?_ ?_)
 exact E3
 exact Nat.zero_le _
 (rintro i hi)
 refine B8 ?_
 refine zf8 (fun h47 => ?_) (fun h47 => ?_)
 refine A7 ?_
 refine C2 ?_
 refine B1 ?_
 (have hz2 : k = 14 := hz; obtain ⟨b, o, e, rfl, hl, ho, hat, hre, _, hgb⟩ := hsl.kidR hkl (i := i) zO0 zO0; have hsx := @B3w ks CH i zO0; refine sP (B2 (j := i) rfl rfl rfl zO0) rfl rfl ?_)
 refine sL (A3 rfl rfl (hat _) hl) rfl rfl ?_
 (refine F0 rfl (ih ks[i] (List.getElem_mem zO0) G _ hre) rfl rfl ?_)
 refine B8 ?_
 refine zf17 (fun h70 => ?_) (fun h70 => ?_)
 refine J3 ?_
 refine zf4 ?_
 refine A5 ?_
 (rw [A8F zO0] at hsx; refine J7 (i + 1) ?_ ?_ ?_; rw [hsx])
 exact E3
 omega
 omega
 refine D4 ?_
 refine zf4 ?_
 refine A5 ?_
 (rw [A8G zO0] at hsx; refine J7 (i + 1) ?_ ?_ ?_; rw [hsx])
 exact E3
 omega
 omega
 refine L9 ?_
 (obtain rfl : i = ks.length := zO0; rw [List.take_length]; exact ⟨rfl, by rw [if_pos hz], rfl⟩)
 refine J3 ?_
 refine C2 ?_
 (have hz : k ≠ 14 := zO0; refine K2 (fun (i : Nat) => ⟨[(4, .int .i64 (i : Int)), (3, .int .i64 (Nt.hsL 0 (ks.take i))), (1, .pointer (some ⟨b3, 0, none⟩))], [.blk b3 [.int .i64 k, .string nm, .int .i64 num, .int .i64 tk, .slice pt tks.length ct, .int .i64 fk, .slice pf fks.length cf, .int .i64 lb, .slice p0 0 c0, .int .i64 ck, .int .i64 ctg, .int .i64 clb, .slice pc cks.length cc, .slice p ks.length c]], G⟩) (fun i => i ≤ ks.length) (fun i => ks.length - i) 0 ?_ ?_ ?_)
 exact E3
 exact Nat.zero_le _
 (rintro i hi)
 refine B8 ?_
 refine zf8 (fun h144 => ?_) (fun h144 => ?_)
 refine A7 ?_
 refine C2 ?_
 refine B1 ?_
 (obtain ⟨b, o, e, rfl, hl, ho, hat, hre, _, hgb⟩ := hsl.kidR hkl (i := i) zO0 zO0; have hsx := @B3w ks 0 i zO0; refine sP (B2 (j := i) rfl rfl rfl zO0) rfl rfl ?_)
 refine sL (A3 rfl rfl (hat _) hl) rfl rfl ?_
 (refine F0 rfl (ih ks[i] (List.getElem_mem zO0) G _ hre) rfl rfl ?_)
 refine B8 ?_
 refine zf17 (fun h167 => ?_) (fun h167 => ?_)
 refine J3 ?_
 refine zf4 ?_
 refine A5 ?_
 (rw [A8F zO0] at hsx; refine J7 (i + 1) ?_ ?_ ?_; rw [hsx])
 exact E3
 omega
 omega
 refine D4 ?_
 refine zf4 ?_
 refine A5 ?_
 (rw [A8G zO0] at hsx; refine J7 (i + 1) ?_ ?_ ?_; rw [hsx])
 exact E3
 omega
 omega
 refine L9 ?_
 (obtain rfl : i = ks.length := zO0; rw [List.take_length]; exact ⟨rfl, by rw [if_neg hz], rfl⟩)
def SPl (t : TH) : Prop := ∀ (G : IM) (cells : List Value), D3 G t.nt cells → Fn prog 136 [.agg ⟨cells⟩] [] G (I1 (.bool t.pln) G)
def SVl (t : TH) : Prop := ∀ (G : IM) (cells : List Value), D3 G t.nt cells → Fn prog 82 [.agg ⟨cells⟩] [] G (I1 (.bool t.val) G)
theorem A6J (t : TH) (hk : ∀ a b, t = .pair a b → SVl a ∧ SVl b) : SPl t := by
 intro G cells hr
 obtain ⟨k, nm, num, ck, ctg, clb, cks, ks, ht⟩ := A1t t
 rw [ht] at hr
 have hpl := @B07 t k nm num _ ks ht
 have hpr := fun (h : k = 10) => @B08 t nm num (.mk ck ctg clb cks) ks (by rw [← h]; exact ht)
 obtain ⟨tk, tks, fk, fks, lb, pt, ct, pf, cf, p0, c0, pc, cc, p, c, es, rfl, hnd, hco, hn3, h14, hsl, hkl⟩ := hr.open14
 refine C4 func136 rfl ntmps136 results136 rfl ?_
 intro w0
 refine A5 ?_
 refine zf2 (fun b3 => ?_)
 refine J3 ?_
 refine C2 (tS (tS (tR (sB (qE rfl rfl) rfl rfl (fun h19 => ?_) (fun h19 => ?_)))))
 refine L9 ?_
 (exact ⟨rfl, by rw [hpl zO0, decide_eq_true zO0], rfl⟩)
 refine A7 ?_
 refine zf0 (fun h43 => ?_) (fun h43 => ?_)
 refine L9 ?_
 (exact ⟨rfl, by rw [hpl zO0, decide_eq_true zO0], rfl⟩)
 refine A7 ?_
 refine zf0 (fun h67 => ?_) (fun h67 => ?_)
 refine L9 ?_
 (exact ⟨rfl, by rw [hpl zO0, decide_eq_true zO0], rfl⟩)
 refine B1 ?_
 refine zf0 (fun h90 => ?_) (fun h90 => ?_)
 refine K7 ?_
 (exact ⟨rfl, by rw [hpl zO0, decide_eq_true zO0], rfl⟩)
 refine A7 ?_
 refine zf0 (fun h111 => ?_) (fun h111 => ?_)
 refine B1 ?_
 (have hz : k = 10 := zO0; obtain ⟨a, b, rfl, rfl⟩ := hpr hz; obtain ⟨ha, hb⟩ := hk a b rfl; obtain ⟨b0, o0, e0, rfl, hl0, ho0, hat0, hre0, _, hgb0⟩ := hsl.kidR hkl (i := 0) zP0 zP0; obtain ⟨_, _, e1, hE1, hl1, ho1, hat1, hre1, _, hgb1⟩ := hsl.kidR hkl (i := 1) zP0 zP0; cases hE1; replace hre0 : D3 G a.nt e0 := hre0; replace hre1 : D3 G b.nt e1 := hre1; have hV0 := ha G e0 hre0; have hV1 := hb G e1 hre1; have hqq : (TH.pair a b).pln = (a.val && b.val) := (by rw [TH.pln]); rw [hqq]; clear hpr)
 refine B5 ?_
 refine zf18 ?_
 refine sL (A3 rfl rfl (hat0 _) hl0) rfl rfl ?_
 focus (cases hva : a.val; all_goals (rw [hva] at hV0; refine F0 rfl hV0 rfl rfl ?_))
 refine K5 ?_
 (exact ⟨rfl, rfl, rfl⟩)
 refine B5 ?_
 refine zf21 ?_
 refine sL (A3 rfl rfl (hat1 _) hl1) rfl rfl ?_
 refine F0 rfl (hV1) rfl rfl ?_
 refine D4 ?_
 (exact ⟨rfl, rfl, rfl⟩)
 refine K5 ?_
 (exact ⟨rfl, by rw [hpl zO0, decide_eq_false zO0], rfl⟩)
theorem A8H (t : TH) (hP : SPl t) (hk : ∀ c e, t = .conv c e → SPl e) : SVl t := by
 intro G cells hr
 have hPl := hP G cells hr
 obtain ⟨k, nm, num, ck, ctg, clb, cks, ks, ht⟩ := A1t t
 rw [ht] at hr
 have hcv := fun (h : k = 14) => @A33 t nm num (.mk ck ctg clb cks) ks (by rw [← h]; exact ht)
 have hnc := fun (h : k ≠ 14) => B09 (A3m ht h)
 have hno : k = 14 → ¬(ck = 4 ∨ ck = 2 ∨ ck = 3) → t.val = false := by
  intro h hn
  obtain ⟨g, e, rfl, rfl, hE⟩ := hcv h
  have := A57 g
  rw [← hE, show (Cn.mk ck ctg clb cks).k = ck from rfl] at this
  rw [TH.val]
  cases hv : g.vl with
  | false => rfl
  | true => exact absurd (this.2 hv) hn
 have hyes : k = 14 → (ck = 4 ∨ ck = 2 ∨ ck = 3) → ∃ e, ks = [e.nt] ∧ t.val = e.pln ∧ SPl e := by
  intro h hn
  obtain ⟨g, e, rfl, rfl, hE⟩ := hcv h
  have := A57 g
  rw [← hE, show (Cn.mk ck ctg clb cks).k = ck from rfl] at this
  exact ⟨e, rfl, by rw [TH.val, this.1 hn, Bool.true_and], hk g e rfl⟩
 generalize t.val = T at hno hyes hnc ⊢
 generalize t.pln = T2 at hnc hPl
 obtain ⟨tk, tks, fk, fks, lb, pt, ct, pf, cf, p0, c0, pc, cc, p, c, es, rfl, hnd, hco, hn3, h14, hsl, hkl⟩ := hr.open14
 refine C4 func82 rfl ntmps82 results82 rfl ?_
 intro w0
 refine A5 ?_
 refine zf2 (fun b3 => ?_)
 refine E1 ?_
 refine zf16 (fun h13 => ?_) (fun h13 => ?_)
 refine A7 ?_
 refine F0 rfl (hPl) rfl rfl ?_
 refine A7 ?_
 (exact ⟨rfl, by rw [hnc zO0], rfl⟩)
 refine I9 ?_
 refine zf0 (fun h38 => ?_) (fun h38 => ?_)
 refine K1 ?_
 exact y44
 refine B6 ?_
 refine zf0 (fun h68 => ?_) (fun h68 => ?_)
 refine I9 ?_
 exact y44
 refine B1 ?_
 refine zf0 (fun h94 => ?_) (fun h94 => ?_)
 refine B6 ?_
 exact y44
 refine K7 ?_
 (exact ⟨rfl, by rw [hno zO0 zO0], rfl⟩)
theorem A8I : ∀ t : TH, SPl t ∧ SVl t := by
 intro t
 induction t with
 | pair a b i j =>
  have hp : SPl (.pair a b) := A6J _ fun a' b' h => by cases h; exact ⟨i.2, j.2⟩
  exact ⟨hp, A8H _ hp fun c e h => by cases h⟩
 | conv c e i =>
  have hp : SPl (.conv c e) := A6J _ fun a' b' h => by cases h
  exact ⟨hp, A8H _ hp fun c' e' h => by cases h; exact i.1⟩
 | _ => refine ⟨A6J _ ?_, A8H _ (A6J _ ?_) ?_⟩ <;> (intro a b h; cases h)
def STx (t : TH) : Prop := ∀ (G : IM) (cells : List Value), t.val = true → t.nk → D3 G t.nt cells → Fn prog 83 [.agg ⟨cells⟩] [] G (I1 (.string t.tx) G)
theorem B3y (t : TH) (ih : ∀ c e, t = .conv c e → STx e) : STx t := by
 intro G cells hv hnk hr
 obtain ⟨k, nm, num, ck, ctg, clb, cks, ks, ht⟩ := A1t t
 obtain ⟨h14, h10, h5, hlf⟩ := B25 hv hnk ht
 rw [ht] at hr
 obtain ⟨tk, tks, fk, fks, lb, pt, ct, pf, cf, p0, c0, pc, cc, p, c, es, rfl, hnd, hco, hn3, _, hsl, hkl⟩ := hr.open14
 have hD : k ≠ 14 → k ≠ 10 → k ≠ 5 → Fn prog 137 [.int .i64 num] [] G (I1 (.string (A8d num)) G) := by
  intro h1 h2 h3
  obtain ⟨_, _, h4, h5⟩ := hlf h1 h2 h3
  have := B8y num.toNat zO0 G
  rw [show ((num.toNat : Nat) : Int) = num from by omega] at this
  exact this
 refine C4 func83 rfl ntmps83 results83 rfl ?_
 intro w0
 refine A5 ?_
 refine zf2 (fun b3 => ?_)
 refine J3 ?_
 refine C2 (tS (tR (sB (qE rfl rfl) rfl rfl (fun h18 => ?_) (fun h18 => ?_))))
 refine E1 ?_
 refine F0 rfl ((hD zO0 zO0 zO0)) rfl rfl ?_
 refine B8 ?_
 (exact ⟨rfl, by rw [(hlf zO0 zO0 zO0).2.1]; unfold A1q; rw [if_pos zO0], rfl⟩)
 refine A7 ?_
 refine zf0 (fun h43 => ?_) (fun h43 => ?_)
 refine K7 ?_
 (exact ⟨rfl, by rw [(hlf zO0 zO0 zO0).2.1]; unfold A1q; rw [if_neg zO0, if_pos zO0]; rfl, rfl⟩)
 refine A7 ?_
 refine zf0 (fun h64 => ?_) (fun h64 => ?_)
 refine K7 ?_
 (exact ⟨rfl, by rw [(hlf zO0 zO0 zO0).2.1]; unfold A1q; rw [if_neg zO0, if_neg zO0]; rfl, rfl⟩)
 refine A7 ?_
 refine zf0 (fun h85 => ?_) (fun h85 => ?_)
 refine K7 ?_
 (exact ⟨rfl, by rw [h10 zO0]; rfl, rfl⟩)
 refine A7 ?_
 refine zf0 (fun h106 => ?_) (fun h106 => ?_)
 refine D4 ?_
 (obtain ⟨g, e1, rfl, hks, hv1, hn1⟩ := h14 zO0; subst hks; obtain ⟨b, o, e, rfl, hl, ho, hat, hre, _, hgb⟩ := hsl.kidR hkl (i := 0) zP0 zP0; replace hre : D3 G e1.nt e := hre; have hih := ih g e1 rfl G e hv1 hn1 hre; refine sP (B2 (j := 0) rfl rfl rfl zP0) rfl rfl ?_)
 refine sL (A3 rfl rfl (hat _) hl) rfl rfl ?_
 refine F0 rfl (hih) rfl rfl ?_
 refine B8 ?_
 (exact ⟨rfl, by rw [TH.tx], rfl⟩)
 refine K5 ?_
 (exact ⟨rfl, by rw [h5 (by have := hlf; omega)]; rfl, rfl⟩)
theorem B9u : ∀ t : TH, STx t := by
 intro t
 induction t with
 | conv c e i => exact B3y _ fun c' e' h => by cases h; exact i
 | _ => refine B3y _ ?_; intro a b h; cases h
theorem KR.eachC {ks : List Cn} {es : List (List Value)} (h : KR (H3 G) ks es) (hl : ks.length = es.length) : ∀ e ∈ es, e.length = 4 ∧ e.all (·.oneCell') = true := by
 intro e he
 obtain ⟨i, hi, rfl⟩ := List.getElem_of_mem he
 have := h i (ks[i]'zO0) es[i] (List.getElem?_eq_getElem zO0) (List.getElem?_eq_getElem hi)
 exact ⟨this.len, this.one⟩
theorem A6K : ∀ (t : Cn) (G : IM) (cells : List Value), H3 G t cells → Fn prog 195 [.agg ⟨cells⟩] [] G (CnP t) := by
 refine Cn.ind fun k tg lb ks ih G cells hr => ?_
 obtain ⟨p, c, es, rfl, hk, htg, hlb, hn2, har2, har4, hsl, hkl⟩ := hr.open4
 have hn := hsl.le
 refine C4 func195 rfl ntmps195 results195 rfl ?_
 intro w0
 refine A5 ?_
 refine zf2 (fun b3 => ?_)
 refine zf1 (fun b4 => ?_)
 refine J3 ?_
 refine zf1 (fun b16 => ?_)
 refine E1 ?_
 refine C2 ?_
 (refine V1 65 4 ?_; refine K2 (fun (x : Nat × Option Addr × Nat × List (List Value) × IM) => ⟨[(4, .int .i64 x.1), (1, .pointer (some ⟨b3, 0, none⟩)), (2, .pointer (some ⟨b4, 0, none⟩)), (3, .pointer (some ⟨b16, 0, none⟩))], [.blk b16 [.int .i64 k, .int .i64 tg, .int .i64 lb, .slice x.2.1 x.1 x.2.2.1], .slc x.2.1 x.2.2.1 65 4 x.1 x.2.2.2.1.flatten, .blk b4 [.int .i64 0, .int .i64 0, .int .i64 0, .slice none 0 0], .blk b3 [.int .i64 k, .int .i64 tg, .int .i64 lb, .slice p ks.length c]], x.2.2.2.2⟩) (fun x => x.1 ≤ ks.length ∧ C3 G x.2.2.2.2 ∧ x.2.2.2.1.length = x.1 ∧ KR (H3 x.2.2.2.2) (ks.take x.1) x.2.2.2.1) (fun x => ks.length - x.1) (0, none, 0, [], G) ?_ ?_ ?_)
 (simp only [J5]; exact E3)
 (exact ⟨Nat.zero_le _, C3.refl _, rfl, by rw [List.take_zero]; exact KR.nil⟩)
 (rintro ⟨i, pn, cn, es', Gi⟩ ⟨hi, hle, hel', hst⟩; simp only [] at hi hle hel' hst ⊢; replace hsl := hsl.mono hle; replace hkl := KR.imp hkl (fun a e h => h.mono hle))
 refine B8 ?_
 refine zf8 (fun h38 => ?_) (fun h38 => ?_)
 refine A7 ?_
 refine C2 ?_
 (have hil : i < ks.length := zO0; obtain ⟨bx, ox, e, rfl, hel, heo, hat, hre, _, hgb⟩ := hsl.kidR hkl (i := i) zO0 zO0; refine zdd D9 rfl ?_)
 refine xx5 0 1 2 3 4 ?_
 refine aP 5 rfl (B2 (j := i) rfl rfl rfl hil) rfl ?_
 refine aL 6 rfl (A3 rfl rfl (hat _) hel) rfl ?_
 refine A2 7 ?_
 (refine E6 rfl rfl (ih ks[i] (List.getElem_mem zO0) Gi _ hre) rfl rfl rfl (fun u G1 hle1 hh => ?_); obtain ⟨uc, rfl, hru⟩ := hh; have huo := hru.one; obtain ⟨v1, v2, v3, v4, rfl⟩ := A0z hru.len)
 refine A2 8 ?_
 refine zf3 (fun b57 => ?_)
 refine A2 9 ?_
 (refine R4 rfl rfl rfl rfl rfl rfl (fun _ _ => by repeat (first | exact Sw.here | apply Sw.there)) (O4 zG0) rfl (fun u hu => List.all_eq_true.1 huo u hu) zJ0 zO0 rfl rfl zI (fun p7 c7 => ?_))
 refine xx1 10 ?_
 refine A2 11 ?_
 refine R8 rfl rfl rfl rfl rfl rfl rfl rfl zK0 zC0 (by rfl) ?_
 refine B1 ?_
 refine zf4 ?_
 refine A5 ?_
 refine J7 (i + 1, p7, c7, es' ++ [[v1, v2, v3, v4]], G1) ?_ ?_ ?_
 (simp only [J5]; exact E3)
 (dsimp only; exact ⟨by omega, hle.trans hle1, by rw [List.length_append]; simp only [List.length_singleton]; omega, by rw [List.take_succ_eq_append_getElem hil]; exact KR.snoc (KR.imp hst fun a e h => h.mono hle1) (by rw [List.length_take]; omega) hru⟩)
 (show ks.length - (i + 1) < ks.length - i; omega)
 refine K5 ?_
 (obtain rfl : i = ks.length := zO0; refine H1 (cs := es'.flatten) zB0 (fun G5 hle5 hsl5 hno5 => ?_))
 refine tT ?_
 refine zf9 ?_
 (rw [List.take_length] at hst; exact CnP.mk (H3.put hk htg hlb hn2 har2 har4 rfl (D7.of hsl5 zO0 (fun e he => (hst.eachC zO0 e he).1) (fun e he => (hst.eachC zO0 e he).2)) (KR.imp hst fun a e h => h.mono hle5)))
theorem B9v (y : ByteArray) (v : Nt) (vc : List Value) : ∀ (t : Nt) (G : IM) (cells : List Value), D3 G t cells → D3 G v vc → Fn prog 180 [.agg ⟨cells⟩, .string y, .agg ⟨vc⟩] [] G (Z7 (A0d y v t)) := by
 refine Nt.ind fun k nm num co ks ih G cells hr hv => ?_
 have hr0 := hr
 have hvl := hv.len
 have hvo := hv.one
 rw [A0d]
 obtain ⟨ck, ctg, clb, cks⟩ := co
 obtain ⟨tk, tks, fk, fks, lb, pt, ct, pf, cf, p0, c0, pc, cc, p, c, es, rfl, hnd, hco, hn3, hk14, hsl, hkl⟩ := hr.open14
 have hn := hsl.le
 refine C4 func180 rfl ntmps180 results180 rfl ?_
 intro w0
 have hm0 : True := trivial
 refine tS ?_
 (clear hm0; have hm1 : True := trivial; refine tR ?_)
 refine zf2 (fun b3 => ?_)
 refine zf2 (fun b4 => ?_)
 refine zf1 (fun b5 => ?_)
 refine A5 ?_
 (clear hm1; have hm2 : True := trivial; refine tS ?_; refine A3R (fun (_ : Unit) => ⟨[(1, .string y), (3, .pointer (some ⟨b3, 0, none⟩)), (5, .pointer (some ⟨b4, 0, none⟩)), (6, .pointer (some ⟨b5, 0, none⟩))], [.blk b5 zq14, .blk b4 vc, .blk b3 [.int .i64 k, .string nm, .int .i64 num, .int .i64 tk, .slice pt tks.length ct, .int .i64 fk, .slice pf fks.length cf, .int .i64 lb, .slice p0 0 c0, .int .i64 ck, .int .i64 ctg, .int .i64 clb, .slice pc cks.length cc, .slice p ks.length c]], G⟩) (fun _ => ¬(k = 1 ∧ nm = y)) ?_ ?_)
 refine B1 ?_
 refine zf0 (fun h14 => ?_) (fun h14 => ?_)
 refine B1 ?_
 refine sB (A1h rfl rfl) rfl rfl (fun h20 => ?_) (fun h20 => ?_)
 refine A7 ?_
 refine sL (A3 rfl rfl (B9 zG0) hvl) rfl rfl ?_
 refine sS rfl rfl rfl hvl hvo rfl ?_ (hu := by exact E0 hvl.symm)
 refine B5 ?_
 refine A0l ?_
 refine K6 (rC rfl (A3 rfl rfl (B9 zG0) hvl)) ?_
 (rw [if_pos (by refine ⟨by omega, by assumption⟩)]; exact Z7.mk hv)
 refine B1 ?_
 refine A0L () (D6 zA0 zQ) (by rintro ⟨h1, h2⟩; first | omega | contradiction)
 refine J3 ?_
 refine A0L () (D6 zA0 zQ) (by rintro ⟨h1, h2⟩; first | omega | contradiction)
 (clear hm2; rintro _ hk1; have hm3 : True := trivial)
 (clear hm3; have hm4 : True := trivial; refine tS ?_; refine A3R (fun (_ : Unit) => ⟨[(1, .string y), (3, .pointer (some ⟨b3, 0, none⟩)), (5, .pointer (some ⟨b4, 0, none⟩)), (6, .pointer (some ⟨b5, 0, none⟩))], [.blk b5 zq14, .blk b4 vc, .blk b3 [.int .i64 k, .string nm, .int .i64 num, .int .i64 tk, .slice pt tks.length ct, .int .i64 fk, .slice pf fks.length cf, .int .i64 lb, .slice p0 0 c0, .int .i64 ck, .int .i64 ctg, .int .i64 clb, .slice pc cks.length cc, .slice p ks.length c]], G⟩) (fun _ => ¬(k = 5 ∧ nm = y)) ?_ ?_)
 refine B1 ?_
 refine zf0 (fun h60 => ?_) (fun h60 => ?_)
 refine B1 ?_
 refine sB (A1h rfl rfl) rfl rfl (fun h66 => ?_) (fun h66 => ?_)
 refine J3 ?_
 refine A0l ?_
 refine zf9 ?_
 (rw [if_neg hk1, if_pos (by refine ⟨by omega, by assumption⟩)]; exact Z7.mk hr0)
 refine B1 ?_
 refine A0L () (D6 zA0 zQ) (by rintro ⟨h1, h2⟩; first | omega | contradiction)
 refine J3 ?_
 refine A0L () (D6 zA0 zQ) (by rintro ⟨h1, h2⟩; first | omega | contradiction)
 (clear hm4; rintro _ hk5)
 refine B8 ?_
 refine zf1 (fun b107 => ?_)
 refine E1 ?_
 refine C2 ?_
 (refine V1 114 14 ?_; refine K2 (fun (x : Nat × Option Addr × Nat × List (List Value) × IM) => ⟨[(8, .int .i64 x.1), (1, .string y), (3, .pointer (some ⟨b3, 0, none⟩)), (5, .pointer (some ⟨b4, 0, none⟩)), (6, .pointer (some ⟨b5, 0, none⟩)), (7, .pointer (some ⟨b107, 0, none⟩))], [.blk b107 [.int .i64 k, .string nm, .int .i64 num, .int .i64 tk, .slice pt tks.length ct, .int .i64 fk, .slice pf fks.length cf, .int .i64 lb, .slice p0 0 c0, .int .i64 ck, .int .i64 ctg, .int .i64 clb, .slice pc cks.length cc, .slice x.2.1 x.1 x.2.2.1], .slc x.2.1 x.2.2.1 114 14 x.1 x.2.2.2.1.flatten, .blk b5 zq14, .blk b4 vc, .blk b3 [.int .i64 k, .string nm, .int .i64 num, .int .i64 tk, .slice pt tks.length ct, .int .i64 fk, .slice pf fks.length cf, .int .i64 lb, .slice p0 0 c0, .int .i64 ck, .int .i64 ctg, .int .i64 clb, .slice pc cks.length cc, .slice p ks.length c]], x.2.2.2.2⟩) (fun x => x.1 ≤ ks.length ∧ C3 G x.2.2.2.2 ∧ x.2.2.2.1.length = x.1 ∧ KR (D3 x.2.2.2.2) ((S3 y v ks).take x.1) x.2.2.2.1) (fun x => ks.length - x.1) (0, none, 0, [], G) ?_ ?_ ?_)
 (simp only [J5]; exact E3)
 (exact ⟨Nat.zero_le _, C3.refl _, rfl, by rw [List.take_zero]; exact KR.nil⟩)
 (rintro ⟨i, pn, cn, es', Gi⟩ ⟨hi, hle, hel', hst⟩; simp only [] at hi hle hel' hst ⊢; replace hsl := hsl.mono hle; replace hkl := KR.imp hkl (fun a e h => h.mono hle); replace hv := hv.mono hle; replace hnd := hnd.mono hle; replace hco := hco.mono hle)
 refine B8 ?_
 refine zf8 (fun h129 => ?_) (fun h129 => ?_)
 refine A7 ?_
 refine C2 ?_
 (have hil : i < ks.length := zO0; obtain ⟨bx, ox, e, rfl, hel, heo, hat, hre, _, hgb⟩ := hsl.kidR hkl (i := i) zO0 zO0; refine zdd D9 rfl ?_)
 refine aL 8 rfl (A3 rfl rfl (B9 zG0) hvl) rfl ?_
 refine xx5 0 1 2 3 4 ?_
 refine aP 5 rfl (B2 (j := i) rfl rfl rfl hil) rfl ?_
 refine aL 6 rfl (A3 rfl rfl (hat _) hel) rfl ?_
 refine xx1 7 ?_
 refine A2 9 ?_
 (refine E6 rfl rfl (ih ks[i] (List.getElem_mem zO0) Gi _ hre hv) rfl rfl rfl (fun u G1 hle1 hh => ?_); obtain ⟨uc, rfl, hru⟩ := hh; have hul := hru.len; have huo := hru.one; obtain ⟨v1, v2, v3, v4, v5, v6, v7, v8, v9, w1, w2, w3, w4, w5, rfl⟩ := A1p hul)
 refine A2 10 ?_
 refine zf3 (fun b150 => ?_)
 refine A2 11 ?_
 (refine R4 rfl rfl rfl rfl rfl rfl (fun _ _ => by repeat (first | exact Sw.here | apply Sw.there)) (O4 zG0) rfl (fun u hu => List.all_eq_true.1 huo u hu) zJ0 zO0 rfl rfl zI (fun p7 c7 => ?_))
 refine xx1 12 ?_
 refine A2 13 ?_
 refine R8 rfl rfl rfl rfl rfl rfl rfl rfl zK0 zC0 (by rfl) ?_
 refine B1 ?_
 refine zf4 ?_
 refine A5 ?_
 refine J7 (i + 1, p7, c7, es' ++ [[v1, v2, v3, v4, v5, v6, v7, v8, v9, w1, w2, w3, w4, w5]], G1) ?_ ?_ ?_
 (simp only [J5]; exact E3)
 (dsimp only; exact ⟨by omega, hle.trans hle1, by rw [List.length_append]; simp only [List.length_singleton]; omega, by rw [B04 zO0]; exact KR.snoc (KR.imp hst fun a e h => h.mono hle1) (by rw [List.length_take, A0Y]; omega) hru⟩)
 (show ks.length - (i + 1) < ks.length - i; omega)
 refine K5 ?_
 (refine H1 (cs := es'.flatten) zB0 (fun G2 hle2 hsl2 hno2 => ?_); obtain rfl : i = ks.length := zO0)
 refine tT ?_
 refine zf9 ?_
 (rw [if_neg hk1, if_neg hk5]; rw [List.take_of_length_le (by rw [A0Y]; omega)] at hst; exact Z7.mk (D3.put (us := S3 y v ks) (hnd.mono hle2) (hco.mono hle2) (by rw [A0Y]; omega) (fun h => by rw [A0Y]; exact hk14 h) (by rw [A0Y]) (D7.of hsl2 zO0 (fun e he => (hst.each (by rw [A0Y]; omega) e he).1) (fun e he => (hst.each (by rw [A0Y]; omega) e he).2)) (KR.imp hst fun a e h => h.mono hle2)))
theorem A2B (t : Nt) (C : Cn) (G : IM) (cells cc : List Value) (hr : D3 G t cells) (hc : H3 G C cc) : Fn prog 179 [.agg ⟨cells⟩, .agg ⟨cc⟩] [] G (Z7 (.mk 14 ⟨⟨[]⟩⟩ 0 C [t])) := by
 obtain ⟨x1, x2, x3, p4, n4, c4, rfl⟩ := hc.ints
 obtain ⟨v1, v2, v3, v4, v5, v6, v7, v8, v9, w1, w2, w3, w4, w5, rfl⟩ := A1p hr.len
 refine C4 func179 rfl ntmps179 results179 rfl ?_
 intro w0
 refine A5 ?_
 refine zf2 (fun b3 => ?_)
 refine zf2 (fun b4 => ?_)
 refine zf1 (fun b5 => ?_)
 refine B1 ?_
 refine sL (A3 rfl rfl (B9 zG0) rfl) rfl rfl ?_
 refine sL (A3 rfl rfl (B9 zG0) rfl) rfl rfl ?_
 refine zf7 (fun b13 => ?_)
 refine B6 ?_
 (refine H1 (cs := [v1, v2, v3, v4, v5, v6, v7, v8, v9, w1, w2, w3, w4, w5]) zB0 (fun G2 hle2 hsl2 hno2 => ?_))
 refine tT ?_
 refine zf9 ?_
 (exact Z7.mk (A6w ⟨by decide, by decide⟩ (hc.mono hle2) (hr.mono hle2) hsl2))
def szX (r : Int) (n : Nat) (m : Int) : Prop := 1 ≤ r ∧ r ≤ n ∧ ((n : Int) ≤ m → r = n) ∧ (m < n → m < r)
mutual
def Nt.sf : Nt → Int → Int
 | .mk _ _ _ _ ks, m => Nt.sfL ks m 1
def Nt.sfL : List Nt → Int → Int → Int
 | [], _, n => n
 | t :: ts, m, n => if n ≤ m then Nt.sfL ts m (n + t.sf (m - n)) else n
end
theorem B3z : ∀ (ks : List Nt), (∀ t ∈ ks, ∀ m, szX (t.sf m) t.sz m) → ∀ (m n : Int) (N : Nat), szX n N m → szX (Nt.sfL ks m n) (N + Nt.szL ks) m
 | [], _, m, n, N, h => by rw [Nt.sfL, Nt.szL]; exact h
 | t :: ts, hk, m, n, N, h => by
  rw [Nt.sfL, Nt.szL]
  have ht := hk t List.mem_cons_self (m - n)
  have hz := t.sz_pos
  by_cases hnm : n ≤ m
  ·rw [if_pos hnm, show N + (t.sz + Nt.szL ts) = (N + t.sz) + Nt.szL ts by omega]
   refine B3z ts (fun u hu => hk u (List.mem_cons_of_mem _ hu)) m _ _ ?_
   unfold szX at h ht ⊢
   omega
  ·rw [if_neg hnm]
   unfold szX at h ⊢
   omega
theorem B3A : ∀ (t : Nt) (m : Int), szX (t.sf m) t.sz m := by
 refine Nt.ind fun k nm num co ks ih m => ?_
 rw [Nt.sf, Nt.sz, Nat.add_comm]
 exact B3z ks ih m 1 1 (by unfold szX; omega)
theorem B9w {ks : List Nt} {i : Nat} {m q : Int} (h : i < ks.length) (hq : q ≤ m) : Nt.sfL (ks.drop i) m q = Nt.sfL (ks.drop (i + 1)) m (q + ks[i].sf (m - q)) := by
 rw [List.drop_eq_getElem_cons h, Nt.sfL, if_pos hq]
theorem B9x {ks : List Nt} {i : Nat} {m q : Int} (h : i < ks.length) (hq : ¬q ≤ m) : Nt.sfL (ks.drop i) m q = q := by
 rw [List.drop_eq_getElem_cons h, Nt.sfL, if_neg hq]
theorem B9y : ∀ (t : Nt) (m : Int) (G : IM) (cells : List Value), t.sz ≤ 4294967296 → -4294967296 ≤ m ∧ m ≤ 4294967296 → D3 G t cells → Fn prog 85 [.agg ⟨cells⟩, .int .i64 m] [] G (I1 (.int .i64 (t.sf m)) G) := by
 refine Nt.ind fun k nm num co ks ih m G cells hcnt hm hr => ?_
 obtain ⟨ck, ctg, clb, cks⟩ := co
 obtain ⟨tk, tks, fk, fks, lb, pt, ct, pf, cf, p0, c0, pc, cc, p, c, es, rfl, hnd, hco, hn3, h14, hsl, hkl⟩ := hr.open14
 have hszT := A7M ks
 have hgo := @B9w ks
 have hsno := @B9x ks
 rw [Nt.sz] at hcnt
 rw [Nt.sf]
 refine C4 func85 rfl ntmps85 results85 rfl ?_
 intro w0
 refine A5 ?_
 refine zf2 (fun b3 => ?_)
 refine K5 ?_
 refine C2 ?_
 (refine K2 (fun (x : Nat × Int) => ⟨[(6, .int .i64 (x.1 : Int)), (5, .int .i64 x.2), (1, .int .i64 m), (2, .pointer (some ⟨b3, 0, none⟩))], [.blk b3 [.int .i64 k, .string nm, .int .i64 num, .int .i64 tk, .slice pt tks.length ct, .int .i64 fk, .slice pf fks.length cf, .int .i64 lb, .slice p0 0 c0, .int .i64 ck, .int .i64 ctg, .int .i64 clb, .slice pc cks.length cc, .slice p ks.length c]], G⟩) (fun x => x.1 ≤ ks.length ∧ szX x.2 (Nt.szL (ks.take x.1) + 1) m ∧ Nt.sfL ks m 1 = Nt.sfL (ks.drop x.1) m x.2) (fun x => ks.length - x.1) (0, 1) ?_ ?_ ?_)
 (simp only [J5]; exact E3)
 (exact ⟨Nat.zero_le _, by rw [List.take_zero, Nt.szL]; unfold szX; omega, rfl⟩)
 (rintro ⟨i, q⟩ ⟨hi, hq, hsf⟩; simp only [] at hi hq hsf ⊢; have hti := hszT i; unfold szX at hq)
 refine B8 ?_
 refine zf8 (fun h30 => ?_) (fun h30 => ?_)
 refine B5 ?_
 refine sB (A1y rfl rfl) rfl rfl (fun h34 => ?_) (fun h34 => ?_)
 refine B8 ?_
 refine C2 ?_
 refine B1 ?_
 (have hil : i < ks.length := zO0; obtain ⟨b, o, e, rfl, hl, hone, hat, hre, _, hgb⟩ := hsl.kidR hkl (i := i) zO0 zO0; have htk := B00 (ks := ks) (i := i) zO0; have hsc := @A7L ks i zO0; have hrx := B3A ks[i] (m - q); unfold szX at hrx; refine sP (B2 (j := i) rfl rfl rfl zO0) rfl rfl ?_)
 refine sL (A3 rfl rfl (hat _) hl) rfl rfl ?_
 refine A5 ?_
 refine zf14 ?_
 (refine F0 rfl (ih ks[i] (List.getElem_mem zO0) (m - q) G _ zO0 ⟨by omega, by omega⟩ hre) rfl rfl ?_)
 refine zf4 ?_
 refine A7 ?_
 refine zf4 ?_
 refine A5 ?_
 refine J7 (i + 1, q + ks[i].sf (m - q)) ?_ ?_ ?_
 (simp only [J5]; exact E3)
 (exact ⟨by omega, by rw [hsc]; unfold szX; omega, by rw [hsf]; exact hgo zO0 zO0⟩)
 (show ks.length - (i + 1) < ks.length - i; omega)
 refine W8 ?_
 (rw [hsf, hsno zO0 zO0]; exact ⟨rfl, rfl, rfl⟩)
 refine A1i ?_
 (obtain rfl : i = ks.length := zO0; rw [List.drop_length] at hsf; rw [hsf, Nt.sfL]; exact ⟨rfl, rfl, rfl⟩)
end Gw
end Go.Proofs.YtmceanphadildaaGreatDoor
