/-
  The program's evaluator: values, casts, nodes.
-/
import Derived.Test.YtfpgncjeejickaaGreatDoorKd4
import Derived.Test.YtfpgncjeejickaaGreatDoorKd1
import Derived.Test.YtfpgncjeejickaaGreatDoorKd3
import Derived.Test.YtfpgncjeejickaaGreatDoorKd2
import Derived.Lib.ItoaNum
set_option linter.unusedVariables false
set_option linter.unusedSimpArgs false
set_option maxHeartbeats 0
set_option maxRecDepth 100000
set_option synthInstance.maxSize 4000
set_option synthInstance.maxHeartbeats 0
namespace Go.Proofs.YtfpgncjeejickaaGreatDoor
open Go Go.RowKit
namespace Gw
theorem B5A (G : IM) (p : Option Addr) (n c : Nat) (es : List (List Value)) (hsl : D6 G p n c 9 es) (fid : FuncId) [B5 Tryz.prog fid] (us cs : List Value) (ins : List A5) (q : Nat → Bool)
  (hq : ∀ i e, es[i]? = some e → Fn Tryz.prog fid (us ++ [.agg ⟨e⟩] ++ cs) ins G (V2 (.bool (q i)) ins G)) :
  Fn Tryz.prog 158 [.slice p n c, .func (.func fid) ⟨us⟩ ⟨cs⟩] ins G (V2 (.int .i64 (A0L q n)) ins G) := by
 have hn := hsl.le
 refine B7 Tryz.func158 rfl Tryz.ntmps158 Tryz.results158 rfl ?_
 intro w0
 refine J6 ?_
 refine C0 ?_
 refine L9 (fun i : Nat => ⟨[(8, .int .i64 i), (7, .int .i64 n), (1, .func (.func fid) ⟨us⟩ ⟨cs⟩), (0, .slice p n c)], ins, G⟩) (fun i => i ≤ n ∧ ∀ j, j < i → q j = false) (fun i => n - i) 0 ?_ ?_ ?_
 exact D5
 exact ⟨by omega, by omega⟩
 rintro i ⟨hi, hf⟩
 refine A1 ?_
 refine sB (K6 rfl rfl) rfl rfl (fun h21 => ?_) (fun h21 => ?_)
 refine B4 ?_
 refine C0 ?_
 refine J4 ?_
 (obtain ⟨e, b, o, he, rfl, hl, _, hat, _⟩ := hsl.get (i := i) (by omega); refine sP (B8 rfl rfl rfl (by omega)) rfl rfl ?_)
 refine sL (A2 rfl rfl (hat _) hl) rfl rfl ?_
 refine A6a rfl rfl (hq i e he) A0i rfl rfl (fun h43 => ?_) (fun h43 => ?_)
 refine I6 ?_
 refine H5 (rT rfl) A0.refl ?_
 exact ⟨rfl, by rw [A8o (by omega) hf (by assumption)], rfl⟩
 refine B4 ?_
 refine sP (K5 rfl rfl (by omega) (by omega)) rfl rfl ?_
 refine A1 ?_
 refine L0 (i + 1) ?_ ?_ ?_
 exact D5
 exact ⟨by omega, fun j hj => by by_cases hji : j = i; (subst hji; assumption); exact hf j (by omega)⟩
 omega
 refine I6 ?_
 refine H5 (rT rfl) A0.refl ?_
 exact ⟨rfl, by rw [A6e (fun j hj => hf j (by omega))], rfl⟩
theorem B5B (G : IM) (p : Option Addr) (n c : Nat) (es : List (List Value)) (hsl : D6 G p n c 9 es) (fid : FuncId) [B5 Tryz.prog fid] (us cs : List Value) (ins : List A5) (q : Nat → Bool)
  (hq : ∀ i e, es[i]? = some e → Fn Tryz.prog fid (us ++ [.agg ⟨e⟩] ++ cs) ins G (V2 (.bool (q i)) ins G)) :
  Fn Tryz.prog 113 [.slice p n c, .func (.func fid) ⟨us⟩ ⟨cs⟩] ins G (V2 (.bool (decide (0 ≤ A0L q n))) ins G) := by
 refine B7 Tryz.func113 rfl Tryz.ntmps113 Tryz.results113 rfl ?_
 intro w0
 refine D8 ?_
 refine A1R rfl (B5A G p n c es hsl fid us cs ins q hq) A0i rfl rfl ?_
 refine sQ (A06 rfl rfl) rfl ?_
 refine B3 ?_
 refine H5 (rT rfl) A0.refl ?_
 exact ⟨rfl, rfl, rfl⟩
theorem B0i (G : IM) (p : Option Addr) (n c : Nat) (es : List (List Value)) (hsl : D6 G p n c 9 es) (fid : FuncId) [B5 Tryz.prog fid] (us cs : List Value) (ins : List A5) (f : Tm → Bool) (ks : List Tm)
  (hn : ks.length = n) {A : Bool} (hA : ks.all f = A) (hq : ∀ i e, es[i]? = some e → Fn Tryz.prog fid (us ++ [.agg ⟨e⟩] ++ cs) ins G (V2 (.bool (!f (ks.getD i E2))) ins G)) :
  Fn Tryz.prog 113 [.slice p n c, .func (.func fid) ⟨us⟩ ⟨cs⟩] ins G (V2 (.bool (!A)) ins G) := by
 subst hn hA
 rw [← A8q f ks E2]
 exact B5B G p _ c es hsl fid us cs ins _ hq
theorem B0j : ∀ ks, A1g ks = ks.all C5
 | [] => rfl
 | t :: ts => by rw [A1g, B0j ts, List.all_cons]
theorem B5C (t : Tm) (G : IM) (cells : List Value) (hl : cells.length = 9) (ho : cells.all (·.oneCell') = true) (h : Fn Tryz.prog 48 [.agg ⟨cells⟩] [] G (H8 (.bool (C5 t)) G)) :
  Fn Tryz.prog 114 [.agg ⟨cells⟩] [] G (V2 (.bool (!C5 t)) [] G) := by
 refine B7 Tryz.func114 rfl Tryz.ntmps114 Tryz.results114 rfl ?_
 intro w0
 refine A1 ?_
 refine sE (C7 rfl rfl) rfl (fun b3 => ?_)
 refine B1 ?_
 refine sL (A2 rfl rfl (B2 (by repeat first | exact mH | apply mT)) hl) rfl rfl ?_
 refine I3 rfl (h) rfl rfl ?_
 refine sQ (A1L rfl) rfl ?_
 refine B1 ?_
 (exact ⟨rfl, rfl, rfl⟩)
theorem A1j (k : Int) (nm : ByteArray) (num : Int) (ty fr : Ty) (lb : Int) (ks : List Tm) : Q1 (.mk k nm num ty fr lb ks) = decide (k = 14 ∧ fr.k = ty.k ∧ (ty.k = 4 ∨ ty.k = 5)) := rfl
theorem A4l (k : Int) (nm : ByteArray) (num : Int) (ty fr : Ty) (lb : Int) (ks : List Tm) : inj (.mk k nm num ty fr lb ks) = (decide (k = 14 ∧ ty.k = 1) && S2 fr) := rfl
theorem A3k {k : Int} {nm : ByteArray} {num : Int} {ty fr : Ty} {lb : Int} {ks : List Tm} (h : k = 10 ∨ Q1 (.mk k nm num ty fr lb ks) = true ∨ inj (.mk k nm num ty fr lb ks) = true) : C5 (.mk k nm num ty fr lb ks) = ks.all C5 := by
 rw [C5, if_pos, B0j]
 rw [A1j, A4l] at h
 simp only [Bool.and_eq_true, decide_eq_true_eq] at h
 rcases h with h | h | h
 ·exact .inl h
 ·exact .inr (.inl h)
 ·exact .inr (.inr ⟨h.1.1, h.1.2, h.2⟩)
theorem A5w {k : Int} {nm : ByteArray} {num : Int} {ty fr : Ty} {lb : Int} {ks : List Tm} (h : ¬k = 10) (h2 : Q1 (.mk k nm num ty fr lb ks) = false) (h3 : inj (.mk k nm num ty fr lb ks) = false) : C5 (.mk k nm num ty fr lb ks) = decide (k = 2 ∨ k = 3 ∨ k = 4 ∨ k = 5) := by
 rw [C5, if_neg]
 rw [A1j] at h2
 rw [A4l] at h3
 simp only [Bool.and_eq_false_iff, decide_eq_false_iff_not] at h2 h3
 rintro (h' | h' | h')
 ·exact h h'
 ·exact h2 h'
 ·rcases h3 with h3 | h3
  ·exact h3 ⟨h'.1, h'.2.1⟩
  ·rw [h3] at h'; cases h'.2.2
theorem A5x : ∀ (t : Tm) (G : IM) (cells : List Value), A8 G t cells → Fn Tryz.prog 48 [.agg ⟨cells⟩] [] G (H8 (.bool (C5 t)) G) := by
 refine Tm.ind fun k nm num ty fr lb ks ih G cells hr => ?_
 have hr0 := hr
 have hP := A2P _ G _ hr
 have hI := A4k _ G _ hr
 have hPl := B5z _ G _ hr
 have hy := @A3k k nm num ty fr lb ks
 have hn := @A5w k nm num ty fr lb ks
 rw [show (Tm.mk k nm num ty fr lb ks).k = k from rfl] at hPl
 obtain ⟨A, hA⟩ : ∃ A, ks.all C5 = A := ⟨_, rfl⟩
 rw [hA] at hy
 generalize hpx : Q1 (.mk k nm num ty fr lb ks) = bp at hP hy hn
 generalize hij : inj (.mk k nm num ty fr lb ks) = bi at hI hy hn
 generalize C5 (.mk k nm num ty fr lb ks) = R at hy hn ⊢
 obtain ⟨tk, tks⟩ := ty
 obtain ⟨fk, fks⟩ := fr
 obtain ⟨pt, ct, pf, cf, p, c, es, rfl, hk, hnum, hlb, hty, hfr, hsl, hkl⟩ := hr.open9
 have hC := B0i G p ks.length c es hsl 114 [] [] [] C5 ks rfl hA (fun i e he => by
  have hx := hkl.inv he E2
  exact B5C _ G e hx.2.len hx.2.one (ih _ hx.1 G e hx.2))
 refine B7 Tryz.func48 rfl Tryz.ntmps48 Tryz.results48 rfl ?_
 intro w0
 refine A1 ?_
 refine sE (C7 rfl rfl) rfl (fun b3 => ?_)
 refine D0 ?_
 refine sB (qE rfl rfl) rfl rfl (fun h12 => ?_) (fun h12 => ?_)
 refine I6 ?_
 refine A1R rfl hC A0i rfl rfl ?_
 refine sQ (A1L rfl) rfl ?_
 refine A7 ?_
 (exact ⟨rfl, by rw [hy (by first | exact .inl (by omega) | exact .inr (.inl (by assumption)) | exact .inr (.inr (by assumption)))]; cases A <;> rfl, rfl⟩)
 refine A1 ?_
 refine E1 rfl (hP) rfl rfl (fun h39 => ?_) (fun h39 => ?_)
 refine O0 ?_
 refine A1R rfl hC A0i rfl rfl ?_
 refine sQ (A1L rfl) rfl ?_
 refine A7 ?_
 (exact ⟨rfl, by rw [hy (by first | exact .inl (by omega) | exact .inr (.inl (by assumption)) | exact .inr (.inr (by assumption)))]; cases A <;> rfl, rfl⟩)
 refine B6 ?_
 refine E1 rfl (hI) rfl rfl (fun h64 => ?_) (fun h64 => ?_)
 refine D0 ?_
 refine A1R rfl hC A0i rfl rfl ?_
 refine sQ (A1L rfl) rfl ?_
 refine A7 ?_
 (exact ⟨rfl, by rw [hy (by first | exact .inl (by omega) | exact .inr (.inl (by assumption)) | exact .inr (.inr (by assumption)))]; cases A <;> rfl, rfl⟩)
 refine D8 ?_
 refine I3 rfl (hPl) rfl rfl ?_
 refine B1 ?_
 (exact ⟨rfl, by rw [hn (by omega) (by assumption) (by assumption)], rfl⟩)
theorem A8.put {G : IM} {k : Int} {nm : ByteArray} {num tk fk lb : Int} {tks fks : List Ty} {us : List Tm} {pt pf p : Option Addr} {ct cf n c : Nat} {es : List (List Value)} (hk : F8 k) (hnum : F8 num) (hlb : F8 lb) (hty : C3 G (.mk tk tks) [.int .i64 tk, .slice pt tks.length ct]) (hfr : C3 G (.mk fk fks) [.int .i64 fk, .slice pf fks.length cf])
  (hn : n = us.length) (hs : D6 G p n c 9 es) (hr : D9 G us es) : A8 G (.mk k nm num (.mk tk tks) (.mk fk fks) lb us) [.int .i64 k, .string nm, .int .i64 num, .int .i64 tk, .slice pt tks.length ct, .int .i64 fk, .slice pf fks.length cf, .int .i64 lb, .slice p n c] := by
 subst hn
 simp only [A8]
 exact ⟨_, _, p, c, es, rfl, hk, hnum, hlb, hty, hfr, hs, hr⟩
theorem nine {uc : List Value} (h : uc.length = 9) : ∃ v1 v2 v3 v4 v5 v6 v7 v8 v9, uc = [v1, v2, v3, v4, v5, v6, v7, v8, v9] := by
 match uc, h with
 | [a, b, c, d, e, f, g, i, j], _ => exact ⟨a, b, c, d, e, f, g, i, j, rfl⟩
theorem A3l {x : ByteArray} {v : Tm} {ks : List Tm} {i : Nat} (h : i < ks.length) : (Q2 x v ks).take (i + 1) = (Q2 x v ks).take i ++ [R3 x v ks[i]] := by
 rw [A5e, List.take_succ_eq_append_getElem (by rw [List.length_map]; exact h), List.getElem_map]
theorem Z5 (x : ByteArray) (v : Tm) (ks : List Tm) : (Q2 x v ks).length = ks.length := by rw [A5e, List.length_map]
theorem B5D (y : ByteArray) (v : Tm) (vc : List Value) : ∀ (t : Tm) (G : IM) (cells : List Value), t.small → A8 G t cells → A8 G v vc → Fn Tryz.prog 241 [.agg ⟨cells⟩, .string y, .agg ⟨vc⟩] [] G (P9 (R3 y v t)) := by
 refine Tm.ind fun k nm num ty fr lb ks ih G cells hts hr hv => ?_
 have hr0 := hr
 obtain ⟨_, _, _, hsm, hks⟩ := A0F.1 hts
 have hvl := hv.len
 have hvo := hv.one
 have hRl := hr.len
 have hRo := hr.one
 rw [R3]
 obtain ⟨tk, tks⟩ := ty
 obtain ⟨fk, fks⟩ := fr
 obtain ⟨pt, ct, pf, cf, p, c, es, rfl, hk, hnum, hlb, hty, hfr, hsl, hkl⟩ := hr.open9
 have hn := hsl.le
 refine B7 Tryz.func241 rfl Tryz.ntmps241 Tryz.results241 rfl ?_
 intro w0
 refine A1 ?_
 refine sE (C7 rfl rfl) rfl (fun b3 => ?_)
 refine sE (C7 rfl rfl) rfl (fun b4 => ?_)
 refine sE (B0 rfl) rfl (fun b5 => ?_)
 refine B6 ?_
 refine C0 ?_
 refine B3 ?_
 refine sB (qE rfl rfl) rfl rfl (fun h14 => ?_) (fun h14 => ?_)
 refine B3 ?_
 refine sB (A1p rfl rfl) rfl rfl (fun h19 => ?_) (fun h19 => ?_)
 refine B4 ?_
 refine sL (A2 rfl rfl (B2 (by repeat first | exact mH | apply mT)) hvl) rfl rfl ?_
 refine sS rfl rfl rfl hvl hvo rfl ?_ (hu := by exact C9 hvl.symm)
 refine B1 ?_
 refine L3 (rC rfl (A2 rfl rfl (B2 (by repeat first | exact mH | apply mT)) hvl)) ?_
 (rw [if_pos (by refine ⟨by omega, by assumption⟩)]; exact P9.mk hv)
 refine D8 ?_
 refine sP (H7 rfl rfl (by omega)) rfl rfl ?_
 refine J7 ?_
 refine sE (B0 rfl) rfl (fun b62 => ?_)
 refine V9 ?_
 refine C0 ?_
 (refine V7 28 9 ?_; refine L9 (fun (x : Nat × Option Addr × Nat × List (List Value) × IM) => ⟨[(37, .int .i64 x.1), (36, .int .i64 ks.length), (35, .slice p ks.length c), (1, .string y), (3, .pointer (some ⟨b3, 0, none⟩)), (5, .pointer (some ⟨b4, 0, none⟩)), (6, .pointer (some ⟨b5, 0, none⟩)), (7, .pointer (some ⟨b62, 0, none⟩))], [.blk b62 [.int .i64 k, .string nm, .int .i64 num, .int .i64 tk, .slice pt tks.length ct, .int .i64 fk, .slice pf fks.length cf, .int .i64 lb, .slice x.2.1 x.1 x.2.2.1], .slc x.2.1 x.2.2.1 28 9 x.1 x.2.2.2.1.flatten, .blk b5 [.int .i64 0, .string ⟨⟨[]⟩⟩, .int .i64 0, .int .i64 0, .slice none 0 0, .int .i64 0, .slice none 0 0, .int .i64 0, .slice none 0 0], .blk b4 vc, .blk b3 [.int .i64 k, .string nm, .int .i64 num, .int .i64 tk, .slice pt tks.length ct, .int .i64 fk, .slice pf fks.length cf, .int .i64 lb, .slice p ks.length c]], x.2.2.2.2⟩) (fun x => x.1 ≤ ks.length ∧ C2 G x.2.2.2.2 ∧ D9 x.2.2.2.2 ((Q2 y v ks).take x.1) x.2.2.2.1) (fun x => ks.length - x.1) (0, none, 0, [], G) ?_ ?_ ?_)
 (simp only [I7]; exact D5)
 (exact ⟨Nat.zero_le _, C2.refl _, by simp [D9]⟩)
 (rintro ⟨i, pn, cn, es', Gi⟩ ⟨hi, hle, hst⟩; simp only [] at hi hle hst ⊢; replace hsl := hsl.mono hle; replace hkl := hkl.mono hle; replace hv := hv.mono hle; replace hty := hty.mono hle; replace hfr := hfr.mono hle; have hsl' := hst.len; rw [List.length_take, Z5] at hsl')
 refine A1 ?_
 refine sB (K6 rfl rfl) rfl rfl (fun h88 => ?_) (fun h88 => ?_)
 refine B4 ?_
 refine C0 ?_
 refine A1 ?_
 (have hil : i < ks.length := (by omega); obtain ⟨bx, ox, e, rfl, hl, hat, hre, hgb⟩ := hsl.kidTm hkl (i := i) (by omega) (by omega); have hel := hre.len; have heo := hre.one; refine sP (B8 (j := i) rfl rfl rfl (by omega)) rfl rfl ?_)
 refine sL (A2 rfl rfl (hat _) hl) rfl rfl ?_
 refine sE (B0 rfl) rfl (fun b101 => ?_)
 refine sS rfl rfl rfl hel heo rfl ?_ (hu := by exact C9 hel.symm)
 refine A1 ?_
 refine E3 E4 rfl ?_
 refine Q9 (i := 2) (l' := [ff,ff,tt,ff,ff,ff,ff,ff,ff,ff]) rfl D7 (A2 rfl rfl (B2 (by repeat first | exact mH | apply mT)) hel) rfl (by kernel_rfl) rfl rfl ?_
 refine aL 4 rfl (A2 rfl rfl (B2 (by repeat first | exact mH | apply mT)) hvl) rfl ?_
 refine aP 0 rfl (B9 rfl) rfl ?_
 refine aL 1 rfl (D3 rfl rfl) rfl ?_
 refine aP 3 rfl (qM rfl) rfl ?_
 refine A3 5 ?_
 (refine K4 rfl rfl (ih ks[i] (List.getElem_mem (by omega)) Gi _ (Tm.smallL_mem hks _ (List.getElem_mem (by omega))) hre hv) rfl rfl rfl (fun u G1 hle1 hh => ?_); obtain ⟨uc, rfl, hru⟩ := hh; have hul := hru.len; have huo := hru.one; obtain ⟨v1, v2, v3, v4, v5, v6, v7, v8, v9, rfl⟩ := nine hul)
 refine A3 6 ?_
 (refine E6 rfl (D4 rfl rfl rfl (by omega) (by unfold maxLen; omega) rfl) rfl rfl ?_; rintro _ ⟨b114, rfl⟩)
 refine A3 7 ?_
 (refine R5 rfl rfl rfl rfl rfl rfl (fun _ _ => by repeat (first | exact Sw.here | apply Sw.there)) (P3 (by repeat first | exact mH | apply mT)) rfl (fun u hu => List.all_eq_true.1 huo u hu) (by unfold maxLen; omega) (by omega) rfl rfl (by repeat (first | exact A9.nil | apply A9.dep (by decide +kernel) | apply A9.im (by decide +kernel) (by assumption) (by repeat first | exact mH | apply mT) | apply A9.blk (by decide +kernel) (by repeat (first | exact Pk.here | apply Pk.there)) (by repeat first | exact mH | apply mT))) (fun p7 c7 => ?_))
 refine aP 8 rfl (B9 rfl) rfl ?_
 refine A3 9 ?_
 refine R2 rfl rfl rfl rfl rfl rfl rfl rfl (by decide +kernel) (by repeat first | exact Sw.here | apply Sw.there) (by rfl) ?_
 refine B3 ?_
 refine sP (K5 rfl rfl (by omega) (by omega)) rfl rfl ?_
 refine A1 ?_
 refine L0 (i + 1, p7, c7, es' ++ [[v1, v2, v3, v4, v5, v6, v7, v8, v9]], G1) ?_ ?_ ?_
 (simp only [I7]; exact D5)
 (dsimp only; exact ⟨by omega, hle.trans hle1, by rw [A3l (by omega)]; exact D9.snoc (hst.mono hle1) hru⟩)
 (show ks.length - (i + 1) < ks.length - i; omega)
 refine I6 ?_
 (refine I5 (cs := es'.flatten) (by repeat (first | exact Pk.here | apply Pk.there)) (fun G2 hle2 hsl2 hno2 => ?_); obtain rfl : i = ks.length := (by omega))
 refine tT ?_
 refine L3 (rC rfl (A4 rfl rfl)) ?_
 (rw [if_neg (by rintro ⟨h1, h2⟩; first | omega | contradiction), if_neg (by rintro ⟨h1, h2⟩; first | omega | contradiction)]; rw [List.take_of_length_le (by rw [Z5]; omega)] at hst; exact P9.mk (A8.put hk hnum hlb (hty.mono hle2) (hfr.mono hle2) (by rw [Z5]) (D6.of hsl2 (by omega) hst.all (fun e he => (hst.each e he).2)) (hst.mono hle2)))
 refine K2 ?_
 refine sB (qE rfl rfl) rfl rfl (fun h164 => ?_) (fun h164 => ?_)
 refine B3 ?_
 refine sB (A1p rfl rfl) rfl rfl (fun h169 => ?_) (fun h169 => ?_)
 refine K2 ?_
 refine L3 (rC rfl (A4 rfl rfl)) ?_
 (rw [if_neg (by rintro ⟨h1, h2⟩; first | omega | contradiction), if_pos (by refine ⟨by omega, by assumption⟩)]; exact P9.mk hr0)
 refine J4 ?_
 refine sE (B0 rfl) rfl (fun b197 => ?_)
 refine V9 ?_
 refine C0 ?_
 (refine V7 28 9 ?_; refine L9 (fun (x : Nat × Option Addr × Nat × List (List Value) × IM) => ⟨[(37, .int .i64 x.1), (36, .int .i64 ks.length), (35, .slice p ks.length c), (1, .string y), (3, .pointer (some ⟨b3, 0, none⟩)), (5, .pointer (some ⟨b4, 0, none⟩)), (6, .pointer (some ⟨b5, 0, none⟩)), (7, .pointer (some ⟨b197, 0, none⟩))], [.blk b197 [.int .i64 k, .string nm, .int .i64 num, .int .i64 tk, .slice pt tks.length ct, .int .i64 fk, .slice pf fks.length cf, .int .i64 lb, .slice x.2.1 x.1 x.2.2.1], .slc x.2.1 x.2.2.1 28 9 x.1 x.2.2.2.1.flatten, .blk b5 [.int .i64 0, .string ⟨⟨[]⟩⟩, .int .i64 0, .int .i64 0, .slice none 0 0, .int .i64 0, .slice none 0 0, .int .i64 0, .slice none 0 0], .blk b4 vc, .blk b3 [.int .i64 k, .string nm, .int .i64 num, .int .i64 tk, .slice pt tks.length ct, .int .i64 fk, .slice pf fks.length cf, .int .i64 lb, .slice p ks.length c]], x.2.2.2.2⟩) (fun x => x.1 ≤ ks.length ∧ C2 G x.2.2.2.2 ∧ D9 x.2.2.2.2 ((Q2 y v ks).take x.1) x.2.2.2.1) (fun x => ks.length - x.1) (0, none, 0, [], G) ?_ ?_ ?_)
 (simp only [I7]; exact D5)
 (exact ⟨Nat.zero_le _, C2.refl _, by simp [D9]⟩)
 (rintro ⟨i, pn, cn, es', Gi⟩ ⟨hi, hle, hst⟩; simp only [] at hi hle hst ⊢; replace hsl := hsl.mono hle; replace hkl := hkl.mono hle; replace hv := hv.mono hle; replace hty := hty.mono hle; replace hfr := hfr.mono hle; have hsl' := hst.len; rw [List.length_take, Z5] at hsl')
 refine A1 ?_
 refine sB (K6 rfl rfl) rfl rfl (fun h223 => ?_) (fun h223 => ?_)
 refine B4 ?_
 refine C0 ?_
 refine A1 ?_
 (have hil : i < ks.length := (by omega); obtain ⟨bx, ox, e, rfl, hl, hat, hre, hgb⟩ := hsl.kidTm hkl (i := i) (by omega) (by omega); have hel := hre.len; have heo := hre.one; refine sP (B8 (j := i) rfl rfl rfl (by omega)) rfl rfl ?_)
 refine sL (A2 rfl rfl (hat _) hl) rfl rfl ?_
 refine sE (B0 rfl) rfl (fun b236 => ?_)
 refine sS rfl rfl rfl hel heo rfl ?_ (hu := by exact C9 hel.symm)
 refine A1 ?_
 refine E3 E4 rfl ?_
 refine Q9 (i := 2) (l' := [ff,ff,tt,ff,ff,ff,ff,ff,ff,ff]) rfl D7 (A2 rfl rfl (B2 (by repeat first | exact mH | apply mT)) hel) rfl (by kernel_rfl) rfl rfl ?_
 refine aL 4 rfl (A2 rfl rfl (B2 (by repeat first | exact mH | apply mT)) hvl) rfl ?_
 refine aP 0 rfl (B9 rfl) rfl ?_
 refine aL 1 rfl (D3 rfl rfl) rfl ?_
 refine aP 3 rfl (qM rfl) rfl ?_
 refine A3 5 ?_
 (refine K4 rfl rfl (ih ks[i] (List.getElem_mem (by omega)) Gi _ (Tm.smallL_mem hks _ (List.getElem_mem (by omega))) hre hv) rfl rfl rfl (fun u G1 hle1 hh => ?_); obtain ⟨uc, rfl, hru⟩ := hh; have hul := hru.len; have huo := hru.one; obtain ⟨v1, v2, v3, v4, v5, v6, v7, v8, v9, rfl⟩ := nine hul)
 refine A3 6 ?_
 (refine E6 rfl (D4 rfl rfl rfl (by omega) (by unfold maxLen; omega) rfl) rfl rfl ?_; rintro _ ⟨b249, rfl⟩)
 refine A3 7 ?_
 (refine R5 rfl rfl rfl rfl rfl rfl (fun _ _ => by repeat (first | exact Sw.here | apply Sw.there)) (P3 (by repeat first | exact mH | apply mT)) rfl (fun u hu => List.all_eq_true.1 huo u hu) (by unfold maxLen; omega) (by omega) rfl rfl (by repeat (first | exact A9.nil | apply A9.dep (by decide +kernel) | apply A9.im (by decide +kernel) (by assumption) (by repeat first | exact mH | apply mT) | apply A9.blk (by decide +kernel) (by repeat (first | exact Pk.here | apply Pk.there)) (by repeat first | exact mH | apply mT))) (fun p7 c7 => ?_))
 refine aP 8 rfl (B9 rfl) rfl ?_
 refine A3 9 ?_
 refine R2 rfl rfl rfl rfl rfl rfl rfl rfl (by decide +kernel) (by repeat first | exact Sw.here | apply Sw.there) (by rfl) ?_
 refine B3 ?_
 refine sP (K5 rfl rfl (by omega) (by omega)) rfl rfl ?_
 refine A1 ?_
 refine L0 (i + 1, p7, c7, es' ++ [[v1, v2, v3, v4, v5, v6, v7, v8, v9]], G1) ?_ ?_ ?_
 (simp only [I7]; exact D5)
 (dsimp only; exact ⟨by omega, hle.trans hle1, by rw [A3l (by omega)]; exact D9.snoc (hst.mono hle1) hru⟩)
 (show ks.length - (i + 1) < ks.length - i; omega)
 refine I6 ?_
 (refine I5 (cs := es'.flatten) (by repeat (first | exact Pk.here | apply Pk.there)) (fun G2 hle2 hsl2 hno2 => ?_); obtain rfl : i = ks.length := (by omega))
 refine tT ?_
 refine L3 (rC rfl (A4 rfl rfl)) ?_
 (rw [if_neg (by rintro ⟨h1, h2⟩; first | omega | contradiction), if_neg (by rintro ⟨h1, h2⟩; first | omega | contradiction)]; rw [List.take_of_length_le (by rw [Z5]; omega)] at hst; exact P9.mk (A8.put hk hnum hlb (hty.mono hle2) (hfr.mono hle2) (by rw [Z5]) (D6.of hsl2 (by omega) hst.all (fun e he => (hst.each e he).2)) (hst.mono hle2)))
 refine J7 ?_
 refine sE (B0 rfl) rfl (fun b301 => ?_)
 refine V9 ?_
 refine C0 ?_
 (refine V7 28 9 ?_; refine L9 (fun (x : Nat × Option Addr × Nat × List (List Value) × IM) => ⟨[(37, .int .i64 x.1), (36, .int .i64 ks.length), (35, .slice p ks.length c), (1, .string y), (3, .pointer (some ⟨b3, 0, none⟩)), (5, .pointer (some ⟨b4, 0, none⟩)), (6, .pointer (some ⟨b5, 0, none⟩)), (7, .pointer (some ⟨b301, 0, none⟩))], [.blk b301 [.int .i64 k, .string nm, .int .i64 num, .int .i64 tk, .slice pt tks.length ct, .int .i64 fk, .slice pf fks.length cf, .int .i64 lb, .slice x.2.1 x.1 x.2.2.1], .slc x.2.1 x.2.2.1 28 9 x.1 x.2.2.2.1.flatten, .blk b5 [.int .i64 0, .string ⟨⟨[]⟩⟩, .int .i64 0, .int .i64 0, .slice none 0 0, .int .i64 0, .slice none 0 0, .int .i64 0, .slice none 0 0], .blk b4 vc, .blk b3 [.int .i64 k, .string nm, .int .i64 num, .int .i64 tk, .slice pt tks.length ct, .int .i64 fk, .slice pf fks.length cf, .int .i64 lb, .slice p ks.length c]], x.2.2.2.2⟩) (fun x => x.1 ≤ ks.length ∧ C2 G x.2.2.2.2 ∧ D9 x.2.2.2.2 ((Q2 y v ks).take x.1) x.2.2.2.1) (fun x => ks.length - x.1) (0, none, 0, [], G) ?_ ?_ ?_)
 (simp only [I7]; exact D5)
 (exact ⟨Nat.zero_le _, C2.refl _, by simp [D9]⟩)
 (rintro ⟨i, pn, cn, es', Gi⟩ ⟨hi, hle, hst⟩; simp only [] at hi hle hst ⊢; replace hsl := hsl.mono hle; replace hkl := hkl.mono hle; replace hv := hv.mono hle; replace hty := hty.mono hle; replace hfr := hfr.mono hle; have hsl' := hst.len; rw [List.length_take, Z5] at hsl')
 refine A1 ?_
 refine sB (K6 rfl rfl) rfl rfl (fun h327 => ?_) (fun h327 => ?_)
 refine B4 ?_
 refine C0 ?_
 refine A1 ?_
 (have hil : i < ks.length := (by omega); obtain ⟨bx, ox, e, rfl, hl, hat, hre, hgb⟩ := hsl.kidTm hkl (i := i) (by omega) (by omega); have hel := hre.len; have heo := hre.one; refine sP (B8 (j := i) rfl rfl rfl (by omega)) rfl rfl ?_)
 refine sL (A2 rfl rfl (hat _) hl) rfl rfl ?_
 refine sE (B0 rfl) rfl (fun b340 => ?_)
 refine sS rfl rfl rfl hel heo rfl ?_ (hu := by exact C9 hel.symm)
 refine A1 ?_
 refine E3 E4 rfl ?_
 refine Q9 (i := 2) (l' := [ff,ff,tt,ff,ff,ff,ff,ff,ff,ff]) rfl D7 (A2 rfl rfl (B2 (by repeat first | exact mH | apply mT)) hel) rfl (by kernel_rfl) rfl rfl ?_
 refine aL 4 rfl (A2 rfl rfl (B2 (by repeat first | exact mH | apply mT)) hvl) rfl ?_
 refine aP 0 rfl (B9 rfl) rfl ?_
 refine aL 1 rfl (D3 rfl rfl) rfl ?_
 refine aP 3 rfl (qM rfl) rfl ?_
 refine A3 5 ?_
 (refine K4 rfl rfl (ih ks[i] (List.getElem_mem (by omega)) Gi _ (Tm.smallL_mem hks _ (List.getElem_mem (by omega))) hre hv) rfl rfl rfl (fun u G1 hle1 hh => ?_); obtain ⟨uc, rfl, hru⟩ := hh; have hul := hru.len; have huo := hru.one; obtain ⟨v1, v2, v3, v4, v5, v6, v7, v8, v9, rfl⟩ := nine hul)
 refine A3 6 ?_
 (refine E6 rfl (D4 rfl rfl rfl (by omega) (by unfold maxLen; omega) rfl) rfl rfl ?_; rintro _ ⟨b353, rfl⟩)
 refine A3 7 ?_
 (refine R5 rfl rfl rfl rfl rfl rfl (fun _ _ => by repeat (first | exact Sw.here | apply Sw.there)) (P3 (by repeat first | exact mH | apply mT)) rfl (fun u hu => List.all_eq_true.1 huo u hu) (by unfold maxLen; omega) (by omega) rfl rfl (by repeat (first | exact A9.nil | apply A9.dep (by decide +kernel) | apply A9.im (by decide +kernel) (by assumption) (by repeat first | exact mH | apply mT) | apply A9.blk (by decide +kernel) (by repeat (first | exact Pk.here | apply Pk.there)) (by repeat first | exact mH | apply mT))) (fun p7 c7 => ?_))
 refine aP 8 rfl (B9 rfl) rfl ?_
 refine A3 9 ?_
 refine R2 rfl rfl rfl rfl rfl rfl rfl rfl (by decide +kernel) (by repeat first | exact Sw.here | apply Sw.there) (by rfl) ?_
 refine B3 ?_
 refine sP (K5 rfl rfl (by omega) (by omega)) rfl rfl ?_
 refine A1 ?_
 refine L0 (i + 1, p7, c7, es' ++ [[v1, v2, v3, v4, v5, v6, v7, v8, v9]], G1) ?_ ?_ ?_
 (simp only [I7]; exact D5)
 (dsimp only; exact ⟨by omega, hle.trans hle1, by rw [A3l (by omega)]; exact D9.snoc (hst.mono hle1) hru⟩)
 (show ks.length - (i + 1) < ks.length - i; omega)
 refine I6 ?_
 (refine I5 (cs := es'.flatten) (by repeat (first | exact Pk.here | apply Pk.there)) (fun G2 hle2 hsl2 hno2 => ?_); obtain rfl : i = ks.length := (by omega))
 refine tT ?_
 refine L3 (rC rfl (A4 rfl rfl)) ?_
 (rw [if_neg (by rintro ⟨h1, h2⟩; first | omega | contradiction), if_neg (by rintro ⟨h1, h2⟩; first | omega | contradiction)]; rw [List.take_of_length_le (by rw [Z5]; omega)] at hst; exact P9.mk (A8.put hk hnum hlb (hty.mono hle2) (hfr.mono hle2) (by rw [Z5]) (D6.of hsl2 (by omega) hst.all (fun e he => (hst.each e he).2)) (hst.mono hle2)))
theorem A1D (e : Tm) (a b : Ty) (l : Int) (G : IM) (ce ca cb : List Value) (hl : F8 l) (he : A8 G e ce) (ha : C3 G a ca) (hb : C3 G b cb) : Fn Tryz.prog 148 [.agg ⟨ce⟩, .agg ⟨ca⟩, .agg ⟨cb⟩, .int .i64 l] [] G (P9 (N1 e a b l)) := by
 have hel := he.len
 have heo := he.one
 obtain ⟨v1, v2, v3, v4, v5, v6, v7, v8, v9, rfl⟩ := nine hel
 obtain ⟨ak, aks⟩ := a
 obtain ⟨bk, bks⟩ := b
 obtain ⟨pa, cca, ea, rfl, _⟩ := ha.open
 obtain ⟨pb, ccb, eb, rfl, _⟩ := hb.open
 refine B7 Tryz.func148 rfl Tryz.ntmps148 Tryz.results148 rfl ?_
 intro w0
 refine A1 ?_
 refine sE (C7 rfl rfl) rfl (fun b3 => ?_)
 refine sE (C7 rfl rfl) rfl (fun b4 => ?_)
 refine sE (C7 rfl rfl) rfl (fun b5 => ?_)
 refine sE (B0 rfl) rfl (fun b6 => ?_)
 refine B3 ?_
 refine sL (A2 rfl rfl (B2 (by repeat first | exact mH | apply mT)) rfl) rfl rfl ?_
 refine sL (A2 rfl rfl (B2 (by repeat first | exact mH | apply mT)) rfl) rfl rfl ?_
 refine E8 ?_
 refine sL (A2 rfl rfl (B2 (by repeat first | exact mH | apply mT)) rfl) rfl rfl ?_
 (refine M5 (D4 rfl rfl rfl (by omega) (by unfold maxLen; omega) rfl) rfl ?_; rintro _ ⟨b15, rfl⟩)
 refine B3 ?_
 (refine I5 (cs := [v1, v2, v3, v4, v5, v6, v7, v8, v9]) (by repeat (first | exact Pk.here | apply Pk.there)) (fun G2 hle2 hsl2 hno2 => ?_))
 refine tT ?_
 refine L3 (rC rfl (A4 rfl rfl)) ?_
 (exact P9.mk (A8.put (us := [e]) (es := [[v1, v2, v3, v4, v5, v6, v7, v8, v9]]) ⟨by decide, by decide⟩ ⟨by decide, by decide⟩ hl (hb.mono hle2) (ha.mono hle2) rfl (D6.of hsl2 rfl (by intro x hx; obtain rfl := List.mem_singleton.1 hx; rfl) (by intro x hx; obtain rfl := List.mem_singleton.1 hx; exact heo)) (by simp only [D9]; exact ⟨_, _, rfl, he.mono hle2, rfl⟩)))
theorem A3m (k : Int) (p : Option Addr) (n c : Nat) (G : IM) : Fn Tryz.prog 243 [.int .i64 k, .slice p n c] [] G (H8 (.agg ⟨[.int .i64 k, .string ⟨⟨[]⟩⟩, .int .i64 0, .int .i64 0, .slice none 0 0, .int .i64 0, .slice none 0 0, .int .i64 0, .slice p n c]⟩) G) := by
 refine B7 Tryz.func243 rfl Tryz.ntmps243 Tryz.results243 rfl ?_
 intro w0
 refine A1 ?_
 refine sE (B0 rfl) rfl (fun b3 => ?_)
 refine J4 ?_
 refine L3 (rC rfl (A4 rfl rfl)) ?_
 (exact ⟨rfl, rfl, rfl⟩)
theorem A5y (G : IM) {k : Int} (hk : F8 k) : A8 G (Y8 k []) [.int .i64 k, .string ⟨⟨[]⟩⟩, .int .i64 0, .int .i64 0, .slice none 0 0, .int .i64 0, .slice none 0 0, .int .i64 0, .slice none 0 0] := A4j hk rfl (D6.nil _ _) rfl
theorem B5E (G : IM) : Fn Tryz.prog 242 [.bool true] [] G (P9 (W3 (true = true))) := by
 refine B7 Tryz.func242 rfl Tryz.ntmps242 Tryz.results242 rfl ?_
 intro w0
 refine A1 ?_
 refine sE (B0 rfl) rfl (fun b3 => ?_)
 refine J4 ?_
 refine I3 rfl ((A3m _ _ _ _ _)) rfl rfl ?_
 refine B1 ?_
 refine L3 (rC rfl (A4 rfl rfl)) ?_
 (exact P9.mk (A5y _ ⟨by decide, by decide⟩))
theorem B5F (G : IM) : Fn Tryz.prog 242 [.bool false] [] G (P9 (W3 (false = true))) := by
 refine B7 Tryz.func242 rfl Tryz.ntmps242 Tryz.results242 rfl ?_
 intro w0
 refine A1 ?_
 refine sE (B0 rfl) rfl (fun b3 => ?_)
 refine J6 ?_
 refine I3 rfl ((A3m _ _ _ _ _)) rfl rfl ?_
 refine B3 ?_
 refine L3 (rC rfl (A4 rfl rfl)) ?_
 (exact P9.mk (A5y _ ⟨by decide, by decide⟩))
theorem B0k (b : Bool) (G : IM) : Fn Tryz.prog 242 [.bool b] [] G (P9 (W3 (b = true))) := by
 cases b
 ·exact B5F G
 ·exact B5E G
theorem B0l {a b : Int} (h : 0 ≤ a ∧ a ≤ 999) (h' : 0 ≤ b ∧ b ≤ 999) : (a + b).tmod 1000 = (a + b) % 1000 := by
 rw [Int.tmod_eq_emod_of_nonneg (by omega)]
def P2 (k : Int) (ks : List Tm) : Option Tm :=
 if k = 6 then (if (kd ks 0).k = 5 then some (R3 (kd ks 0).nm (kd ks 1) (kd (kd ks 0).ks 0)) else none)
 else if k = 7 ∨ k = 8 then (if (kd ks 0).k = 2 ∧ (kd ks 1).k = 2 then some (if k = 7 then A1z (((kd ks 0).num + (kd ks 1).num) % 1000) else W3 ((kd ks 0).num < (kd ks 1).num)) else none)
 else if k = 9 then (if (kd ks 0).k = 3 then some (kd ks 1) else if (kd ks 0).k = 4 then some (kd ks 2) else none)
 else if k = 11 ∨ k = 12 then (if (kd ks 0).k = 10 then some (kd (kd ks 0).ks (k - 11).toNat) else none)
 else none
def S6 (o : Option Tm) : IM → Value → List A5 → Prop := M9 fun G' v => ∃ u cells c, v = .tuple ⟨[.agg ⟨cells⟩, .int .i64 c]⟩ ∧ A8 G' u cells ∧ (∀ x, o = some x → c = 1 ∧ u = x) ∧ (o = none → c = 3)
theorem S6.yes {G : IM} {o : Option Tm} {u : Tm} {cells : List Value} (h : o = some u) (hr : A8 G u cells) : S6 o G (.tuple ⟨[.agg ⟨cells⟩, .int .i64 1]⟩) [] := by
 subst h; exact ⟨rfl, u, cells, 1, rfl, hr, fun x hx => (by cases hx; exact ⟨rfl, rfl⟩), fun h => (by cases h)⟩
theorem S6.no {G : IM} {o : Option Tm} {u : Tm} {cells : List Value} (h : o = none) (hr : A8 G u cells) : S6 o G (.tuple ⟨[.agg ⟨cells⟩, .int .i64 3]⟩) [] := by
 subst h; exact ⟨rfl, u, cells, 3, rfl, hr, fun x hx => (by cases hx), fun _ => rfl⟩
theorem M1 (G : IM) : A8 G E2 [.int .i64 0, .string ⟨⟨[]⟩⟩, .int .i64 0, .int .i64 0, .slice none 0 0, .int .i64 0, .slice none 0 0, .int .i64 0, .slice none 0 0] := (O7.zero G).R
theorem B5G (a b : Tm) (nm : ByteArray) (num : Int) (ty fr : Ty) (lb : Int) (G : IM) (cells : List Value) (hca : cv a) (hr : A8 G (.mk 6 nm num ty fr lb [a, b]) cells) : Fn Tryz.prog 220 [.agg ⟨cells⟩] [] G (S6 (P2 6 [a, b])) := by
 have hsm := A2f a hca
 obtain ⟨ak, anm, anum, ⟨atk, atks⟩, ⟨afk, afks⟩, alb, aks⟩ := a
 obtain ⟨tk, tks⟩ := ty
 obtain ⟨fk, fks⟩ := fr
 obtain ⟨pt, ct, pf, cf, p, c, es, rfl, hk, hnum, hlb, hty, hfr, hsl, hkl⟩ := hr.open9
 obtain ⟨bx, ox, e0, rfl, hl0, hat0, hre0, hgb0⟩ := hsl.kidTm hkl (i := 0) (by simp) (by simp)
 replace hre0 : A8 G (.mk ak anm anum (.mk atk atks) (.mk afk afks) alb aks) e0 := hre0
 obtain ⟨apt, act, apf, acf, ap, ac, aes, rfl, hak, hanum, halb, haty, hafr, hasl, hakl⟩ := hre0.open9
 obtain ⟨_, _, e1, hp1, hl1, hat1, hre1, hgb1⟩ := hsl.kidTm hkl (i := 1) (by simp) (by simp)
 cases hp1
 replace hre1 : A8 G b e1 := hre1
 have ho1 := hre1.one
 obtain ⟨hN, _⟩ := hca.node
 have hops := hN.ops
 obtain ⟨_, _, _, _, hksm⟩ := A0F.1 hsm
 have h1 : ak = 5 → aks.length = 1 := fun h => by rw [h] at hops; have : C4 5 = 1 := rfl; omega
 have hL : ([Tm.mk ak anm anum (.mk atk atks) (.mk afk afks) alb aks, b] : List Tm).length = 2 := rfl
 rw [show P2 6 [Tm.mk ak anm anum (.mk atk atks) (.mk afk afks) alb aks, b] = (if ak = 5 then some (R3 anm b (kd aks 0)) else none) from rfl]
 refine B7 Tryz.func220 rfl Tryz.ntmps220 Tryz.results220 rfl ?_
 intro w0
 refine A1 ?_
 refine sE (C7 rfl rfl) rfl (fun b3 => ?_)
 refine sE (B0 rfl) rfl (fun b4 => ?_)
 refine A7 ?_
 refine sE (B0 rfl) rfl (fun b11 => ?_)
 refine D8 ?_
 refine sP (A3I rfl rfl (by omega)) rfl rfl ?_
 refine A7 ?_
 refine sP (B8 (j := 0) rfl rfl rfl (by simp)) rfl rfl ?_
 refine sL (A2 rfl rfl (hat0 _) rfl) rfl rfl ?_
 refine J2 ?_
 refine C0 ?_
 refine A1 ?_
 refine sP (S8 rfl rfl (by omega)) rfl rfl ?_
 refine D0 ?_
 refine sB (qE rfl rfl) rfl rfl (fun h52 => ?_) (fun h52 => ?_)
 refine B3 ?_
 (have hq : ak = 5 := (by omega); have hq1 := h1 hq; obtain ⟨bq, oq, e3, rfl, hl3, hat3, hre3, hgb3⟩ := hasl.kidTm hakl (i := 0) (by omega) (by omega); have hS := B5D anm b e1 aks[0] G e3 (Tm.smallL_mem hksm _ (List.getElem_mem (by omega))) hre3 hre1; refine E3 E4 rfl ?_)
 refine J5 (i := 0) (l' := [tt,ff,ff,ff,ff,ff,ff,ff,ff,ff,ff,ff,ff]) rfl D7 (B9 rfl) rfl (by kernel_rfl) rfl rfl ?_
 refine aL 1 rfl (D3 rfl rfl) rfl ?_
 refine aP 2 rfl (B8 (j := 0) rfl rfl rfl (by omega)) rfl ?_
 refine aL 3 rfl (A2 rfl rfl (hat3 _) hl3) rfl ?_
 refine aP 4 rfl (B9 rfl) rfl ?_
 refine aL 5 rfl (D3 rfl rfl) rfl ?_
 refine aP 6 rfl (B9 rfl) rfl ?_
 refine aL 7 rfl (D3 rfl rfl) rfl ?_
 refine aP 8 rfl (B8 (j := 1) rfl rfl rfl (by simp)) rfl ?_
 refine aL 9 rfl (A2 rfl rfl (hat1 _) hl1) rfl ?_
 refine A3 10 ?_
 (refine K4 rfl rfl hS rfl rfl rfl (fun u G1 hle1 hh => ?_); obtain ⟨uc, rfl, hru⟩ := hh; have hul := hru.len; have huo := hru.one)
 refine A3 11 ?_
 (refine oS rfl rfl rfl rfl hul huo rfl rfl ?_ (hu := by exact C9 hul.symm))
 refine aP 12 rfl (qA rfl) rfl ?_
 refine B1 ?_
 refine I8 (rC rfl (A2 rfl rfl (B2 (by repeat first | exact mH | apply mT)) hul)) (rT rfl) ?_
 (exact S6.yes (by rw [if_pos (by omega)]; unfold kd; rw [List.getD_eq_getElem?_getD, List.getElem?_eq_getElem (by omega), Option.getD_some]) hru)
 refine K2 ?_
 refine I8 (rC rfl (A4 rfl rfl)) (rT rfl) ?_
 (exact S6.no (by rw [if_neg (by omega)]) (M1 _))
theorem B0m (k : Int) (a b : Tm) (nm : ByteArray) (num : Int) (ty fr : Ty) (lb : Int) (G : IM) (cells : List Value) (hk78 : k = 7 ∨ k = 8) (hca : cv a) (hcb : cv b) (hr : A8 G (.mk k nm num ty fr lb [a, b]) cells) : Fn Tryz.prog 220 [.agg ⟨cells⟩] [] G (S6 (P2 k [a, b])) := by
 obtain ⟨ak, anm, anum, ⟨atk, atks⟩, ⟨afk, afks⟩, alb, aks⟩ := a
 obtain ⟨tk, tks⟩ := ty
 obtain ⟨fk, fks⟩ := fr
 obtain ⟨pt, ct, pf, cf, p, c, es, rfl, hk, hnum, hlb, hty, hfr, hsl, hkl⟩ := hr.open9
 obtain ⟨bx, ox, e0, rfl, hl0, hat0, hre0, hgb0⟩ := hsl.kidTm hkl (i := 0) (by simp) (by simp)
 replace hre0 : A8 G (.mk ak anm anum (.mk atk atks) (.mk afk afks) alb aks) e0 := hre0
 obtain ⟨apt, act, apf, acf, ap, ac, aes, rfl, hak, hanum, halb, haty, hafr, hasl, hakl⟩ := hre0.open9
 obtain ⟨bk, bnm, bnum, ⟨btk, btks⟩, ⟨bfk, bfks⟩, blb, bks⟩ := b
 obtain ⟨_, _, e1, hp1, hl1, hat1, hre1, hgb1⟩ := hsl.kidTm hkl (i := 1) (by simp) (by simp)
 cases hp1
 replace hre1 : A8 G (.mk bk bnm bnum (.mk btk btks) (.mk bfk bfks) blb bks) e1 := hre1
 obtain ⟨bpt, bct, bpf, bcf, bp, bc, bes, rfl, hbk, hbnum, hblb, hbty, hbfr, hbsl, hbkl⟩ := hre1.open9
 obtain ⟨hN, _⟩ := hca.node
 obtain ⟨hM, _⟩ := hcb.node
 obtain ⟨hn1, hn2⟩ := hN.num0
 obtain ⟨hm1, hm2⟩ := hM.num0
 have hL : ([Tm.mk ak anm anum (.mk atk atks) (.mk afk afks) alb aks, Tm.mk bk bnm bnum (.mk btk btks) (.mk bfk bfks) blb bks] : List Tm).length = 2 := rfl
 have hR : P2 k [Tm.mk ak anm anum (.mk atk atks) (.mk afk afks) alb aks, Tm.mk bk bnm bnum (.mk btk btks) (.mk bfk bfks) blb bks] = (if ak = 2 ∧ bk = 2 then some (if k = 7 then A1z ((anum + bnum) % 1000) else W3 (anum < bnum)) else none) := by
  unfold P2; rw [if_neg (by omega), if_pos hk78]; rfl
 rw [hR]
 have htm : (anum + bnum).tmod 1000 = (anum + bnum) % 1000 := B0l ⟨hn1, hn2⟩ ⟨hm1, hm2⟩
 have hb : F8 ((anum + bnum) % 1000) := ⟨by omega, by omega⟩
 refine B7 Tryz.func220 rfl Tryz.ntmps220 Tryz.results220 rfl ?_
 intro w0
 refine A1 ?_
 refine sE (C7 rfl rfl) rfl (fun b3 => ?_)
 refine sE (B0 rfl) rfl (fun b4 => ?_)
 refine A7 ?_
 refine sE (B0 rfl) rfl (fun b11 => ?_)
 refine D8 ?_
 refine sP (A3I rfl rfl (by omega)) rfl rfl ?_
 refine A7 ?_
 refine sP (B8 (j := 0) rfl rfl rfl (by simp)) rfl rfl ?_
 refine sL (A2 rfl rfl (hat0 _) rfl) rfl rfl ?_
 refine J2 ?_
 refine C0 ?_
 refine A1 ?_
 refine sP (H7 rfl rfl (by omega)) rfl rfl ?_
 refine B4 ?_
 refine sB (qE rfl rfl) rfl rfl (fun h51 => ?_) (fun h51 => ?_)
 refine J4 ?_
 refine sP (B8 (j := 1) rfl rfl rfl (by simp)) rfl rfl ?_
 refine sL (A2 rfl rfl (hat1 _) rfl) rfl rfl ?_
 refine sE (B0 rfl) rfl (fun b65 => ?_)
 refine B6 ?_
 refine C0 ?_
 refine B3 ?_
 refine sB (N7 rfl rfl) rfl rfl (fun h74 => ?_) (fun h74 => ?_)
 refine A0R ?_
 refine I8 (rC rfl (A4 rfl rfl)) (rT rfl) ?_
 (exact S6.no (by rw [if_neg (by omega)]) (M1 _))
 refine B6 ?_
 refine sB (N7 rfl rfl) rfl rfl (fun h101 => ?_) (fun h101 => ?_)
 refine V3 ?_
 refine I8 (rC rfl (A4 rfl rfl)) (rT rfl) ?_
 (exact S6.no (by rw [if_neg (by omega)]) (M1 _))
 refine D8 ?_
 refine sP (S8 rfl rfl (by omega)) rfl rfl ?_
 refine J2 ?_
 refine sP (K5 rfl rfl (by omega) (by omega)) rfl rfl ?_
 refine sP (A3E rfl rfl (by omega)) rfl rfl ?_
 refine E8 ?_
 (rw [htm]; refine sS' ?_)
 refine B4 ?_
 refine I8 (rC rfl (A4 rfl rfl)) (rT rfl) ?_
 (exact S6.yes (u := A1z (HMod.hMod (anum + bnum) 1000)) (by rw [if_pos ⟨by omega, by omega⟩, if_pos (by omega)]) (A8.put (us := []) ⟨by decide, by decide⟩ hb ⟨by decide, by decide⟩ (A0Y _) (A0Y _) rfl (D6.nil _ _) rfl))
 refine B1 ?_
 refine sP (S8 rfl rfl (by omega)) rfl rfl ?_
 refine D0 ?_
 refine sP (B8 (j := 1) rfl rfl rfl (by simp)) rfl rfl ?_
 refine sL (A2 rfl rfl (hat1 _) rfl) rfl rfl ?_
 refine sE (B0 rfl) rfl (fun b170 => ?_)
 refine B6 ?_
 refine C0 ?_
 refine B3 ?_
 refine sB (N7 rfl rfl) rfl rfl (fun h179 => ?_) (fun h179 => ?_)
 refine A0R ?_
 refine I8 (rC rfl (A4 rfl rfl)) (rT rfl) ?_
 (exact S6.no (by rw [if_neg (by omega)]) (M1 _))
 refine B6 ?_
 refine sB (N7 rfl rfl) rfl rfl (fun h206 => ?_) (fun h206 => ?_)
 refine V3 ?_
 refine I8 (rC rfl (A4 rfl rfl)) (rT rfl) ?_
 (exact S6.no (by rw [if_neg (by omega)]) (M1 _))
 refine D8 ?_
 refine sP (H7 rfl rfl (by omega)) rfl rfl ?_
 refine J2 ?_
 (refine sB (K6 rfl rfl) rfl rfl (fun h246 => ?_) (fun h246 => ?_))
 (refine E7 rfl (B0k _ _) rfl rfl (fun u G1 hle1 hh => ?_); obtain ⟨uc, rfl, hru⟩ := hh; have hul := hru.len; have huo := hru.one)
 refine sS rfl rfl rfl hul huo rfl ?_ (hu := by exact C9 hul.symm)
 refine B4 ?_
 refine I8 (rC rfl (A2 rfl rfl (B2 (by repeat first | exact mH | apply mT)) hul)) (rT rfl) ?_
 (exact S6.yes (by rw [if_pos ⟨by omega, by omega⟩, if_neg (by omega)]; unfold W3; rw [if_pos (by omega), if_pos rfl]) hru)
 (refine E7 rfl (B0k _ _) rfl rfl (fun u G1 hle1 hh => ?_); obtain ⟨uc, rfl, hru⟩ := hh; have hul := hru.len; have huo := hru.one)
 refine sS rfl rfl rfl hul huo rfl ?_ (hu := by exact C9 hul.symm)
 refine B4 ?_
 refine I8 (rC rfl (A2 rfl rfl (B2 (by repeat first | exact mH | apply mT)) hul)) (rT rfl) ?_
 (exact S6.yes (by rw [if_pos ⟨by omega, by omega⟩, if_neg (by omega)]; unfold W3; rw [if_neg (by omega), if_neg (by decide)]) hru)
theorem B5H (a b c0 : Tm) (nm : ByteArray) (num : Int) (ty fr : Ty) (lb : Int) (G : IM) (cells : List Value) (hr : A8 G (.mk 9 nm num ty fr lb [a, b, c0]) cells) : Fn Tryz.prog 220 [.agg ⟨cells⟩] [] G (S6 (P2 9 [a, b, c0])) := by
 obtain ⟨ak, anm, anum, ⟨atk, atks⟩, ⟨afk, afks⟩, alb, aks⟩ := a
 obtain ⟨tk, tks⟩ := ty
 obtain ⟨fk, fks⟩ := fr
 obtain ⟨pt, ct, pf, cf, p, c, es, rfl, hk, hnum, hlb, hty, hfr, hsl, hkl⟩ := hr.open9
 obtain ⟨bx, ox, e0, rfl, hl0, hat0, hre0, hgb0⟩ := hsl.kidTm hkl (i := 0) (by simp) (by simp)
 replace hre0 : A8 G (.mk ak anm anum (.mk atk atks) (.mk afk afks) alb aks) e0 := hre0
 obtain ⟨apt, act, apf, acf, ap, ac, aes, rfl, hak, hanum, halb, haty, hafr, hasl, hakl⟩ := hre0.open9
 obtain ⟨_, _, e1, hp1, hl1, hat1, hre1, hgb1⟩ := hsl.kidTm hkl (i := 1) (by simp) (by simp)
 cases hp1
 replace hre1 : A8 G b e1 := hre1
 have ho1 := hre1.one
 obtain ⟨_, _, e2, hp2, hl2, hat2, hre2, hgb2⟩ := hsl.kidTm hkl (i := 2) (by simp) (by simp)
 cases hp2
 replace hre2 : A8 G c0 e2 := hre2
 have ho2 := hre2.one
 have hL : ([Tm.mk ak anm anum (.mk atk atks) (.mk afk afks) alb aks, b, c0] : List Tm).length = 3 := rfl
 rw [show P2 9 [Tm.mk ak anm anum (.mk atk atks) (.mk afk afks) alb aks, b, c0] = (if ak = 3 then some b else if ak = 4 then some c0 else none) from rfl]
 refine B7 Tryz.func220 rfl Tryz.ntmps220 Tryz.results220 rfl ?_
 intro w0
 refine A1 ?_
 refine sE (C7 rfl rfl) rfl (fun b3 => ?_)
 refine sE (B0 rfl) rfl (fun b4 => ?_)
 refine A7 ?_
 refine sE (B0 rfl) rfl (fun b11 => ?_)
 refine D8 ?_
 refine sP (A3I rfl rfl (by omega)) rfl rfl ?_
 refine A7 ?_
 refine sP (B8 (j := 0) rfl rfl rfl (by simp)) rfl rfl ?_
 refine sL (A2 rfl rfl (hat0 _) rfl) rfl rfl ?_
 refine J2 ?_
 refine C0 ?_
 refine A1 ?_
 refine sP (H7 rfl rfl (by omega)) rfl rfl ?_
 refine B4 ?_
 refine sP (H7 rfl rfl (by omega)) rfl rfl ?_
 refine B1 ?_
 refine sP (H7 rfl rfl (by omega)) rfl rfl ?_
 refine A7 ?_
 refine sP (S8 rfl rfl (by omega)) rfl rfl ?_
 refine J2 ?_
 refine C0 (tS (tR (sB (qE rfl rfl) rfl rfl (fun h78 => ?_) (fun h78 => ?_))))
 refine D0 ?_
 refine sP (B8 (j := 1) rfl rfl rfl (by simp)) rfl rfl ?_
 refine sL (A2 rfl rfl (hat1 _) hl1) rfl rfl ?_
 refine sS rfl rfl rfl hl1 ho1 rfl ?_ (hu := by exact C9 hl1.symm)
 refine B4 ?_
 refine I8 (rC rfl (A2 rfl rfl (B2 (by repeat first | exact mH | apply mT)) hl1)) (rT rfl) ?_
 (exact S6.yes (by rw [if_pos (by omega)]) hre1)
 refine A7 ?_
 refine sB (qE rfl rfl) rfl rfl (fun h105 => ?_) (fun h105 => ?_)
 refine D0 ?_
 refine sP (B8 (j := 2) rfl rfl rfl (by simp)) rfl rfl ?_
 refine sL (A2 rfl rfl (hat2 _) hl2) rfl rfl ?_
 refine sS rfl rfl rfl hl2 ho2 rfl ?_ (hu := by exact C9 hl2.symm)
 refine B4 ?_
 refine I8 (rC rfl (A2 rfl rfl (B2 (by repeat first | exact mH | apply mT)) hl2)) (rT rfl) ?_
 (exact S6.yes (by rw [if_neg (by omega), if_pos (by omega)]) hre2)
 refine J7 ?_
 refine I8 (rC rfl (A4 rfl rfl)) (rT rfl) ?_
 (exact S6.no (by rw [if_neg (by omega), if_neg (by omega)]) (M1 _))
theorem B0n (k : Int) (a : Tm) (nm : ByteArray) (num : Int) (ty fr : Ty) (lb : Int) (G : IM) (cells : List Value) (hk1 : k = 11 ∨ k = 12) (hca : cv a) (hr : A8 G (.mk k nm num ty fr lb [a]) cells) : Fn Tryz.prog 220 [.agg ⟨cells⟩] [] G (S6 (P2 k [a])) := by
 obtain ⟨ak, anm, anum, ⟨atk, atks⟩, ⟨afk, afks⟩, alb, aks⟩ := a
 obtain ⟨tk, tks⟩ := ty
 obtain ⟨fk, fks⟩ := fr
 obtain ⟨pt, ct, pf, cf, p, c, es, rfl, hk, hnum, hlb, hty, hfr, hsl, hkl⟩ := hr.open9
 obtain ⟨bx, ox, e0, rfl, hl0, hat0, hre0, hgb0⟩ := hsl.kidTm hkl (i := 0) (by simp) (by simp)
 replace hre0 : A8 G (.mk ak anm anum (.mk atk atks) (.mk afk afks) alb aks) e0 := hre0
 obtain ⟨apt, act, apf, acf, ap, ac, aes, rfl, hak, hanum, halb, haty, hafr, hasl, hakl⟩ := hre0.open9
 obtain ⟨hN, _⟩ := hca.node
 have hops := hN.ops
 have h2 : ak = 10 → aks.length = 2 := fun h => by rw [h] at hops; have : C4 10 = 2 := rfl; omega
 have hL : ([Tm.mk ak anm anum (.mk atk atks) (.mk afk afks) alb aks] : List Tm).length = 1 := rfl
 have hR : P2 k [Tm.mk ak anm anum (.mk atk atks) (.mk afk afks) alb aks] = (if ak = 10 then some (kd aks (k - 11).toNat) else none) := by
  unfold P2; rw [if_neg (by omega), if_neg (by omega), if_neg (by omega), if_pos hk1]; rfl
 rw [hR]
 obtain ⟨i, hi⟩ : ∃ i : Nat, (k - 11).toNat = i := ⟨_, rfl⟩
 rw [hi]
 refine B7 Tryz.func220 rfl Tryz.ntmps220 Tryz.results220 rfl ?_
 intro w0
 refine A1 ?_
 refine sE (C7 rfl rfl) rfl (fun b3 => ?_)
 refine sE (B0 rfl) rfl (fun b4 => ?_)
 refine A7 ?_
 refine sE (B0 rfl) rfl (fun b11 => ?_)
 refine D8 ?_
 refine sP (A3I rfl rfl (by omega)) rfl rfl ?_
 refine A7 ?_
 refine sP (B8 (j := 0) rfl rfl rfl (by simp)) rfl rfl ?_
 refine sL (A2 rfl rfl (hat0 _) rfl) rfl rfl ?_
 refine J2 ?_
 refine C0 ?_
 refine A1 ?_
 refine sP (H7 rfl rfl (by omega)) rfl rfl ?_
 refine B4 ?_
 refine sP (H7 rfl rfl (by omega)) rfl rfl ?_
 refine B1 ?_
 refine sP (H7 rfl rfl (by omega)) rfl rfl ?_
 refine A7 ?_
 refine sP (H7 rfl rfl (by omega)) rfl rfl ?_
 refine B4 ?_
 refine sB (qE rfl rfl) rfl rfl (fun h72 => ?_) (fun h72 => ?_)
 refine J4 ?_
 refine sB (qE rfl rfl) rfl rfl (fun h84 => ?_) (fun h84 => ?_)
 refine B3 ?_
 (have hq : ak = 10 := (by omega); have hq1 := h2 hq; obtain ⟨bq, oq, e3, rfl, hl3, hat3, hre3, hgb3⟩ := hasl.kidTm hakl (i := i) (by omega) (by omega); have ho3 := hre3.one)
 refine B1 ?_
 refine sP (Q5 rfl rfl (by omega) (by omega)) rfl rfl ?_
 (rw [show (k - 11 : Int) = ((i : Nat) : Int) from (by omega)]; refine sP (B8 (j := i) rfl rfl rfl (by omega)) rfl rfl ?_)
 refine sL (A2 rfl rfl (hat3 _) hl3) rfl rfl ?_
 refine sS rfl rfl rfl hl3 ho3 rfl ?_ (hu := by exact C9 hl3.symm)
 refine A7 ?_
 refine I8 (rC rfl (A2 rfl rfl (B2 (by repeat first | exact mH | apply mT)) hl3)) (rT rfl) ?_
 (exact S6.yes (by rw [if_pos (by omega)]; unfold kd; rw [List.getD_eq_getElem?_getD, List.getElem?_eq_getElem (by omega), Option.getD_some]) hre3)
 refine K2 ?_
 refine I8 (rC rfl (A4 rfl rfl)) (rT rfl) ?_
 (exact S6.no (by rw [if_neg (by omega)]) (M1 _))
 refine B1 ?_
 refine sP (S8 rfl rfl (by omega)) rfl rfl ?_
 refine D0 ?_
 refine sB (qE rfl rfl) rfl rfl (fun h137 => ?_) (fun h137 => ?_)
 refine B3 ?_
 (have hq : ak = 10 := (by omega); have hq1 := h2 hq; obtain ⟨bq, oq, e3, rfl, hl3, hat3, hre3, hgb3⟩ := hasl.kidTm hakl (i := i) (by omega) (by omega); have ho3 := hre3.one)
 refine B1 ?_
 refine sP (Q5 rfl rfl (by omega) (by omega)) rfl rfl ?_
 (rw [show (k - 11 : Int) = ((i : Nat) : Int) from (by omega)]; refine sP (B8 (j := i) rfl rfl rfl (by omega)) rfl rfl ?_)
 refine sL (A2 rfl rfl (hat3 _) hl3) rfl rfl ?_
 refine sS rfl rfl rfl hl3 ho3 rfl ?_ (hu := by exact C9 hl3.symm)
 refine A7 ?_
 refine I8 (rC rfl (A2 rfl rfl (B2 (by repeat first | exact mH | apply mT)) hl3)) (rT rfl) ?_
 (exact S6.yes (by rw [if_pos (by omega)]; unfold kd; rw [List.getD_eq_getElem?_getD, List.getElem?_eq_getElem (by omega), Option.getD_some]) hre3)
 refine K2 ?_
 refine I8 (rC rfl (A4 rfl rfl)) (rT rfl) ?_
 (exact S6.no (by rw [if_neg (by omega)]) (M1 _))
section
variable {P : Program} {Γ : L8} {K : Po} {ops : Array Oper} {env : M7} {hp : List A5} {G : IM}
theorem A5z {H : List (Nat × Nat)} {fuel j : Nat} {listed : List Bool} {hp' : List A5} {p : Option Addr} {c el sz n : Nat} {cs : List Value} (hk : Pk hp (.slc p c el sz n cs) hp')
  (h : ∀ G', C2 G G' → Sl G' p n c sz cs → (∀ b ∈ K0 p, G b = none ∧ G' b ≠ none) → V6 P Γ ops K H fuel listed j ⟨env, hp', G'⟩) : V6 P Γ ops K H fuel listed j ⟨env, hp, G⟩ :=
 ⟨fun a w hs => let ⟨G', h1, h2, h3, h4⟩ := hs.freeze hk; (h G' h2 h3 h4).run a w h1⟩
end
theorem C3.kids {G : IM} {t : Ty} {a : Value} {p : Option Addr} {n c : Nat} (h : C3 G t [a, .slice p n c]) : ∃ es, D6 G p t.ks.length c 2 es ∧ H0 G t.ks es := by
 obtain ⟨p', c', es, he, _, h1, h2⟩ := h.open
 simp only [List.cons.injEq, Value.slice.injEq, and_true] at he
 obtain ⟨_, rfl, _, rfl⟩ := he
 exact ⟨es, h1, h2⟩
def Z6 (k : Int) (ty fr : Ty) (lb : Int) (ks : List Tm) : Stp :=
 if k = 6 then
  (if Q1 (kd ks 0) = true ∧ (kd ks 0).ty.k = 4 then (N1 (Y8 6 [kd (kd ks 0).ks 0, N1 (kd ks 1) (kt (kd ks 0).ty.ks 0) (kt (kd ks 0).fr.ks 0) (-(kd ks 0).lb)]) (kt (kd ks 0).fr.ks 1) (kt (kd ks 0).ty.ks 1) (kd ks 0).lb, 1, 0) else S3)
 else if k = 11 ∨ k = 12 then
  (if Q1 (kd ks 0) = true ∧ (kd ks 0).ty.k = 5 then (N1 (Y8 k [kd (kd ks 0).ks 0]) (kt (kd ks 0).fr.ks (k - 11).toNat) (kt (kd ks 0).ty.ks (k - 11).toNat) (kd ks 0).lb, 1, 0) else S3)
 else if k = 14 then
  (if fr.k = ty.k then (kd ks 0, 1, 0)
   else if ty.k = 1 then (N1 (N1 (kd ks 0) fr (W8 fr) lb) (W8 fr) ty lb, 1, 0)
   else if S2 ty = false then (N1 (N1 (kd ks 0) fr (W8 ty) lb) (W8 ty) ty lb, 1, 0)
   else if inj (kd ks 0) = false then S3
   else if (kd ks 0).fr.k = ty.k then (kd (kd ks 0).ks 0, 1, 0)
   else (E2, 2, lb))
 else S3
theorem B5I (k : Int) (ty fr : Ty) (lb : Int) (ks : List Tm) : S4 k ty fr lb ks = match P2 k ks with | some u => (u, 1, 0) | none => Z6 k ty fr lb ks := by
 unfold S4 P2 Z6
 by_cases h6 : k = 6
 ·rw [if_pos h6, if_pos h6, if_pos h6]
  by_cases h : (kd ks 0).k = 5
  ·rw [if_pos h, if_pos h]
  ·rw [if_neg h, if_neg h]
 rw [if_neg h6, if_neg h6, if_neg h6]
 by_cases h7 : k = 7 ∨ k = 8
 ·rw [if_pos h7, if_pos h7]
  by_cases h : (kd ks 0).k = 2 ∧ (kd ks 1).k = 2
  ·rw [if_pos h, if_pos h]
  ·rw [if_neg h, if_neg h]; simp only; rw [if_neg (by omega), if_neg (by omega)]
 rw [if_neg h7, if_neg h7]
 by_cases h9 : k = 9
 ·rw [if_pos h9, if_pos h9]
  by_cases h : (kd ks 0).k = 3
  ·rw [if_pos h, if_pos h]
  ·rw [if_neg h, if_neg h]
   by_cases h' : (kd ks 0).k = 4
   ·rw [if_pos h', if_pos h']
   ·rw [if_neg h', if_neg h']; simp only; rw [if_neg (by omega), if_neg (by omega)]
 rw [if_neg h9, if_neg h9]
 by_cases h11 : k = 11 ∨ k = 12
 ·rw [if_pos h11, if_pos h11, if_pos h11]
  by_cases h : (kd ks 0).k = 10
  ·rw [if_pos h, if_pos h]
  ·rw [if_neg h, if_neg h]
 rw [if_neg h11, if_neg h11, if_neg h11]
def R7 (r : Stp) : IM → Value → List A5 → Prop := M9 fun G' v => ∃ u cells, v = .tuple ⟨[.agg ⟨cells⟩, .int .i64 r.2.1, .int .i64 r.2.2]⟩ ∧ A8 G' u cells ∧ (r.2.1 = 1 → u = r.1)
theorem R7.mk {G : IM} {r : Stp} {u : Tm} {cells : List Value} {c l : Int} (h : r = (u, c, l)) (hr : A8 G u cells) : R7 r G (.tuple ⟨[.agg ⟨cells⟩, .int .i64 c, .int .i64 l]⟩) [] := by
 subst h; exact ⟨rfl, u, cells, rfl, hr, fun _ => rfl⟩
theorem A2Q {ks : List Tm} {i : Nat} (h : i < ks.length) : kd ks i = ks[i] := by unfold kd; rw [List.getD_eq_getElem?_getD, List.getElem?_eq_getElem h, Option.getD_some]
theorem A00 {ks : List Ty} {i : Nat} (h : i < ks.length) : kt ks i = ks[i] := by unfold kt; rw [List.getD_eq_getElem?_getD, List.getElem?_eq_getElem h, Option.getD_some]
theorem B0o {t : Ty} (h : S2 t = true) : t = W8 t := by
 unfold S2 at h
 rw [Bool.and_eq_true] at h
 exact (X6 _ _).1 h.2
theorem B5J (a b : Tm) (nm : ByteArray) (num : Int) (ty fr : Ty) (lb : Int) (G : IM) (cells : List Value) (hca : cv a) (hr : A8 G (.mk 6 nm num ty fr lb [a, b]) cells) : Fn Tryz.prog 221 [.agg ⟨cells⟩] [] G (R7 (Z6 6 ty fr lb [a, b])) := by
 obtain ⟨ak, anm, anum, ⟨atk, atks⟩, ⟨afk, afks⟩, alb, aks⟩ := a
 obtain ⟨hN, hkk⟩ := hca.node
 have hops := hN.ops
 have hbl := hN.lbB
 have htyA := hN.tyA
 have hfrA := hN.frA
 rw [F4] at htyA hfrA
 have h14 : ak = 14 → aks.length = 1 := fun h => by rw [h] at hops; have : C4 14 = 1 := rfl; omega
 obtain ⟨tk, tks⟩ := ty
 obtain ⟨fk, fks⟩ := fr
 obtain ⟨pt, ct, pf, cf, p, c, es, rfl, hk, hnum, hlb, hty, hfr, hsl, hkl⟩ := hr.open9
 obtain ⟨bx, ox, e0, rfl, hl0, hat0, hre0, hgb0⟩ := hsl.kidTm hkl (i := 0) (by simp) (by simp)
 replace hre0 : A8 G (Tm.mk ak anm anum (.mk atk atks) (.mk afk afks) alb aks) e0 := hre0
 have hP : Fn Tryz.prog 111 [.agg ⟨e0⟩] [] G (H8 (.bool (decide (ak = 14 ∧ afk = atk ∧ (atk = 4 ∨ atk = 5)))) G) := A2P _ G _ hre0
 obtain ⟨apt, act, apf, acf, ap, ac, aes, rfl, hak, hanum, halb, haty, hafr, hasl, hakl⟩ := hre0.open9
 obtain ⟨tes, htS, htL⟩ := haty.kids
 obtain ⟨fes, hfS, hfL⟩ := hafr.kids
 simp only [Ty.ks] at htS htL hfS hfL
 obtain ⟨_, _, e1, hp1, hl1, hat1, hre1, hgb1⟩ := hsl.kidTm hkl (i := 1) (by simp) (by simp)
 cases hp1
 replace hre1 : A8 G b e1 := hre1
 have ho1 := hre1.one
 have hR : Z6 6 (.mk tk tks) (.mk fk fks) lb [Tm.mk ak anm anum (.mk atk atks) (.mk afk afks) alb aks, b] = (if (ak = 14 ∧ afk = atk ∧ (atk = 4 ∨ atk = 5)) ∧ atk = 4 then (N1 (Y8 6 [kd aks 0, N1 b (kt atks 0) (kt afks 0) (-alb)]) (kt afks 1) (kt atks 1) alb, 1, 0) else S3) := by
  unfold Z6
  rw [if_pos rfl, show kd [Tm.mk ak anm anum (.mk atk atks) (.mk afk afks) alb aks, b] 0 = Tm.mk ak anm anum (.mk atk atks) (.mk afk afks) alb aks from rfl, A1j]
  simp only [decide_eq_true_eq]
  rfl
 rw [hR]
 refine B7 Tryz.func221 rfl Tryz.ntmps221 Tryz.results221 rfl ?_
 intro w0
 refine A1 ?_
 refine sE (C7 rfl rfl) rfl (fun b3 => ?_)
 refine sE (B0 rfl) rfl (fun b4 => ?_)
 refine D0 ?_
 refine sP (B8 (j := 0) rfl rfl rfl (by simp)) rfl rfl ?_
 refine sL (A2 rfl rfl (hat0 _) rfl) rfl rfl ?_
 refine sE (B0 rfl) rfl (fun b15 => ?_)
 refine B3 ?_
 refine C0 ?_
 refine B3 ?_
 refine sP (S8 rfl rfl (by omega)) rfl rfl ?_
 refine A1 ?_
 focus (by_cases hpx : (ak = 14 ∧ afk = atk ∧ (atk = 4 ∨ atk = 5)); rw [decide_eq_true hpx] at hP; rotate_left; rw [decide_eq_false hpx] at hP; rotate_left; all_goals (refine I3 rfl hP rfl rfl ?_))
 refine B1 ?_
 refine sB (qE rfl rfl) rfl rfl (fun h34 => ?_) (fun h34 => ?_)
 refine A7 ?_
 (have hq : (ak = 14 ∧ afk = atk ∧ (atk = 4 ∨ atk = 5)) ∧ atk = 4 := ⟨hpx, by omega⟩; have hq1 := h14 hq.1.1; have hq2 := htyA.1 (by omega); have hq3 := hfrA.1 (by omega); obtain ⟨bq, oq, e3, rfl, hl3, hat3, hre3, hgb3⟩ := hasl.kidTm hakl (i := 0) (by omega) (by omega); have ho3 := hre3.one; obtain ⟨b5, o5, q5, d5, rfl, hat5, hre5, hgb5⟩ := htS.kidTy htL (i := 0) (by omega) (by omega); obtain ⟨_, _, q6, d6, hp6, hat6, hre6, hgb6⟩ := htS.kidTy htL (i := 1) (by omega) (by omega); cases hp6; obtain ⟨b7, o7, q7, d7, rfl, hat7, hre7, hgb7⟩ := hfS.kidTy hfL (i := 0) (by omega) (by omega); obtain ⟨_, _, q8, d8, hp8, hat8, hre8, hgb8⟩ := hfS.kidTy hfL (i := 1) (by omega) (by omega); cases hp8; obtain ⟨x1, x2, x3, x4, x5, x6, x7, x8, x9, rfl⟩ := nine hl3; obtain ⟨y1, y2, y3, y4, y5, y6, y7, y8, y9, rfl⟩ := nine hl1; refine E3 E4 rfl ?_)
 refine J5 (i := 0) (l' := [tt,ff,ff,ff,ff,ff,ff,ff,ff,ff,ff,ff]) rfl D7 (B9 rfl) rfl (by kernel_rfl) rfl rfl ?_
 refine aL 1 rfl (D3 rfl rfl) rfl ?_
 refine aP 2 rfl (B8 (j := 0) rfl rfl rfl (by omega)) rfl ?_
 refine aL 3 rfl (A2 rfl rfl (hat3 _) rfl) rfl ?_
 refine aP 4 rfl (B9 rfl) rfl ?_
 refine aL 5 rfl (D3 rfl rfl) rfl ?_
 refine aP 6 rfl (B8 (j := 1) rfl rfl rfl (by simp)) rfl ?_
 refine aL 7 rfl (A2 rfl rfl (hat1 _) rfl) rfl ?_
 refine U6 (j := 8) (j' := 9) (by kernel_rfl) ?_ ?_
 (refine E6 rfl (B0 rfl) rfl rfl ?_; rintro _ ⟨b51, rfl⟩)
 refine A3 9 ?_
 (refine E6 rfl (B0 rfl) rfl rfl ?_; rintro _ ⟨b53, rfl⟩)
 refine A3 10 ?_
 (refine oS rfl rfl rfl rfl rfl ho3 rfl rfl ?_ (hu := by exact C9 rfl.symm))
 refine A3 11 ?_
 (refine oS rfl rfl rfl rfl rfl ho1 rfl rfl ?_ (hu := by exact C9 rfl.symm))
 refine B6 ?_
 refine E3 E4 rfl ?_
 refine Q9 (i := 0) (l' := [tt,ff,ff,ff,ff,ff,ff,ff,ff,ff,ff,ff,ff,ff,ff,ff,ff,ff,ff,ff,ff,ff,ff,ff,ff,ff,ff,ff,ff,ff,ff,ff,ff,ff]) rfl D7 (A2 rfl rfl (B2 (by repeat first | exact mH | apply mT)) rfl) rfl (by kernel_rfl) rfl rfl ?_
 refine aL 1 rfl (A2 rfl rfl (B2 (by repeat first | exact mH | apply mT)) rfl) rfl ?_
 refine aP 2 rfl (B9 rfl) rfl ?_
 refine aP 3 rfl (qF rfl) rfl ?_
 refine aL 4 rfl (D3 rfl rfl) rfl ?_
 refine aP 5 rfl (B8 (j := 0) rfl rfl rfl (by omega)) rfl ?_
 refine aL 6 rfl (A2 rfl rfl (hat5 _) rfl) rfl ?_
 refine aP 7 rfl (B9 rfl) rfl ?_
 refine aP 8 rfl (qF rfl) rfl ?_
 refine aL 9 rfl (D3 rfl rfl) rfl ?_
 refine aP 10 rfl (B8 (j := 0) rfl rfl rfl (by omega)) rfl ?_
 refine aL 11 rfl (A2 rfl rfl (hat7 _) rfl) rfl ?_
 refine aP 12 rfl (B9 rfl) rfl ?_
 refine aL 13 rfl (D3 rfl rfl) rfl ?_
 refine aP 14 rfl (A50 rfl (by omega) (by omega)) rfl ?_
 refine aP 18 rfl (B9 rfl) rfl ?_
 refine aP 19 rfl (qF rfl) rfl ?_
 refine aL 20 rfl (D3 rfl rfl) rfl ?_
 refine aP 21 rfl (B8 (j := 1) rfl rfl rfl (by omega)) rfl ?_
 refine aL 22 rfl (A2 rfl rfl (hat8 _) rfl) rfl ?_
 refine aP 23 rfl (B9 rfl) rfl ?_
 refine aP 24 rfl (qF rfl) rfl ?_
 refine aL 25 rfl (D3 rfl rfl) rfl ?_
 refine aP 26 rfl (B8 (j := 1) rfl rfl rfl (by omega)) rfl ?_
 refine aL 27 rfl (A2 rfl rfl (hat6 _) rfl) rfl ?_
 refine aP 28 rfl (B9 rfl) rfl ?_
 refine aL 29 rfl (D3 rfl rfl) rfl ?_
 refine A3 15 ?_
 (refine K4 rfl rfl (A1D b atks[0] afks[0] (-alb) G _ _ _ ⟨by omega, by omega⟩ hre1 hre5 hre7) rfl rfl rfl (fun u G1 hle1 hh => ?_); obtain ⟨uc, rfl, hru⟩ := hh; have hul := hru.len; have huo := hru.one; obtain ⟨z1, z2, z3, z4, z5, z6, z7, z8, z9, rfl⟩ := nine hul; replace hre3 := hre3.mono hle1; replace hre6 := hre6.mono hle1; replace hre8 := hre8.mono hle1)
 refine A3 16 ?_
 (refine E6 rfl (D4 rfl rfl rfl (by omega) (by unfold maxLen; omega) rfl) rfl rfl ?_; rintro _ ⟨b92, rfl⟩)
 refine A3 17 ?_
 (refine A5z (cs := [x1, x2, x3, x4, x5, x6, x7, x8, x9, z1, z2, z3, z4, z5, z6, z7, z8, z9]) (by repeat (first | exact Pk.here | apply Pk.there)) (fun G2 hle2 hsl2 hno2 => ?_); have hrN := A4j (k := 6) (ks := [aks[0], N1 b atks[0] afks[0] (-alb)]) (es := [[x1, x2, x3, x4, x5, x6, x7, x8, x9], [z1, z2, z3, z4, z5, z6, z7, z8, z9]]) ⟨by decide, by decide⟩ rfl (D6.of hsl2 rfl (by simp) (by intro x hx; rcases List.mem_cons.1 hx with rfl | hx; exact ho3; obtain rfl := List.mem_singleton.1 hx; exact huo)) (by simp only [D9]; exact ⟨_, _, rfl, hre3.mono hle2, _, _, rfl, hru.mono hle2, rfl⟩); replace hre6 := hre6.mono hle2; replace hre8 := hre8.mono hle2; refine P4 rfl rfl (A3m _ _ _ _ _) rfl rfl rfl ?_)
 refine A3 30 ?_
 (refine K4 rfl rfl (A1D _ afks[1] atks[1] alb G2 _ _ _ ⟨by omega, by omega⟩ hrN hre8 hre6) rfl rfl rfl (fun u G3 hle3 hh => ?_); obtain ⟨wc, rfl, hrw⟩ := hh; have hwl := hrw.len; have hwo := hrw.one)
 refine A3 31 ?_
 (refine oS rfl rfl rfl rfl hwl hwo rfl rfl ?_ (hu := by exact C9 hwl.symm))
 refine aP 32 rfl (qA rfl) rfl ?_
 refine aP 33 rfl (qA rfl) rfl ?_
 refine B1 ?_
 refine D1 (rC rfl (A2 rfl rfl (B2 (by repeat first | exact mH | apply mT)) hwl)) (rT rfl) (rT rfl) ?_
 (exact R7.mk (by rw [if_pos hq, A2Q (by omega), A00 (by omega), A00 (by omega), A00 (by omega), A00 (by omega)]) hrw)
 (refine E6 rfl (B0 rfl) rfl rfl ?_; rintro _ ⟨b108, rfl⟩)
 refine A3 8 ?_
 (refine E6 rfl (B0 rfl) rfl rfl ?_; rintro _ ⟨b110, rfl⟩)
 refine A3 10 ?_
 (refine oS rfl rfl rfl rfl rfl ho3 rfl rfl ?_ (hu := by exact C9 rfl.symm))
 refine A3 11 ?_
 (refine oS rfl rfl rfl rfl rfl ho1 rfl rfl ?_ (hu := by exact C9 rfl.symm))
 refine B6 ?_
 refine E3 E4 rfl ?_
 refine Q9 (i := 0) (l' := [tt,ff,ff,ff,ff,ff,ff,ff,ff,ff,ff,ff,ff,ff,ff,ff,ff,ff,ff,ff,ff,ff,ff,ff,ff,ff,ff,ff,ff,ff,ff,ff,ff,ff]) rfl D7 (A2 rfl rfl (B2 (by repeat first | exact mH | apply mT)) rfl) rfl (by kernel_rfl) rfl rfl ?_
 refine aL 1 rfl (A2 rfl rfl (B2 (by repeat first | exact mH | apply mT)) rfl) rfl ?_
 refine aP 2 rfl (B9 rfl) rfl ?_
 refine aP 3 rfl (qF rfl) rfl ?_
 refine aL 4 rfl (D3 rfl rfl) rfl ?_
 refine aP 5 rfl (B8 (j := 0) rfl rfl rfl (by omega)) rfl ?_
 refine aL 6 rfl (A2 rfl rfl (hat5 _) rfl) rfl ?_
 refine aP 7 rfl (B9 rfl) rfl ?_
 refine aP 8 rfl (qF rfl) rfl ?_
 refine aL 9 rfl (D3 rfl rfl) rfl ?_
 refine aP 10 rfl (B8 (j := 0) rfl rfl rfl (by omega)) rfl ?_
 refine aL 11 rfl (A2 rfl rfl (hat7 _) rfl) rfl ?_
 refine aP 12 rfl (B9 rfl) rfl ?_
 refine aL 13 rfl (D3 rfl rfl) rfl ?_
 refine aP 14 rfl (A50 rfl (by omega) (by omega)) rfl ?_
 refine aP 18 rfl (B9 rfl) rfl ?_
 refine aP 19 rfl (qF rfl) rfl ?_
 refine aL 20 rfl (D3 rfl rfl) rfl ?_
 refine aP 21 rfl (B8 (j := 1) rfl rfl rfl (by omega)) rfl ?_
 refine aL 22 rfl (A2 rfl rfl (hat8 _) rfl) rfl ?_
 refine aP 23 rfl (B9 rfl) rfl ?_
 refine aP 24 rfl (qF rfl) rfl ?_
 refine aL 25 rfl (D3 rfl rfl) rfl ?_
 refine aP 26 rfl (B8 (j := 1) rfl rfl rfl (by omega)) rfl ?_
 refine aL 27 rfl (A2 rfl rfl (hat6 _) rfl) rfl ?_
 refine aP 28 rfl (B9 rfl) rfl ?_
 refine aL 29 rfl (D3 rfl rfl) rfl ?_
 refine A3 15 ?_
 (refine K4 rfl rfl (A1D b atks[0] afks[0] (-alb) G _ _ _ ⟨by omega, by omega⟩ hre1 hre5 hre7) rfl rfl rfl (fun u G1 hle1 hh => ?_); obtain ⟨uc, rfl, hru⟩ := hh; have hul := hru.len; have huo := hru.one; obtain ⟨z1, z2, z3, z4, z5, z6, z7, z8, z9, rfl⟩ := nine hul; replace hre3 := hre3.mono hle1; replace hre6 := hre6.mono hle1; replace hre8 := hre8.mono hle1)
 refine A3 16 ?_
 (refine E6 rfl (D4 rfl rfl rfl (by omega) (by unfold maxLen; omega) rfl) rfl rfl ?_; rintro _ ⟨b149, rfl⟩)
 refine A3 17 ?_
 (refine A5z (cs := [x1, x2, x3, x4, x5, x6, x7, x8, x9, z1, z2, z3, z4, z5, z6, z7, z8, z9]) (by repeat (first | exact Pk.here | apply Pk.there)) (fun G2 hle2 hsl2 hno2 => ?_); have hrN := A4j (k := 6) (ks := [aks[0], N1 b atks[0] afks[0] (-alb)]) (es := [[x1, x2, x3, x4, x5, x6, x7, x8, x9], [z1, z2, z3, z4, z5, z6, z7, z8, z9]]) ⟨by decide, by decide⟩ rfl (D6.of hsl2 rfl (by simp) (by intro x hx; rcases List.mem_cons.1 hx with rfl | hx; exact ho3; obtain rfl := List.mem_singleton.1 hx; exact huo)) (by simp only [D9]; exact ⟨_, _, rfl, hre3.mono hle2, _, _, rfl, hru.mono hle2, rfl⟩); replace hre6 := hre6.mono hle2; replace hre8 := hre8.mono hle2; refine P4 rfl rfl (A3m _ _ _ _ _) rfl rfl rfl ?_)
 refine A3 30 ?_
 (refine K4 rfl rfl (A1D _ afks[1] atks[1] alb G2 _ _ _ ⟨by omega, by omega⟩ hrN hre8 hre6) rfl rfl rfl (fun u G3 hle3 hh => ?_); obtain ⟨wc, rfl, hrw⟩ := hh; have hwl := hrw.len; have hwo := hrw.one)
 refine A3 31 ?_
 (refine oS rfl rfl rfl rfl hwl hwo rfl rfl ?_ (hu := by exact C9 hwl.symm))
 refine aP 32 rfl (qA rfl) rfl ?_
 refine aP 33 rfl (qA rfl) rfl ?_
 refine B1 ?_
 refine D1 (rC rfl (A2 rfl rfl (B2 (by repeat first | exact mH | apply mT)) hwl)) (rT rfl) (rT rfl) ?_
 (exact R7.mk (by rw [if_pos hq, A2Q (by omega), A00 (by omega), A00 (by omega), A00 (by omega), A00 (by omega)]) hrw)
 refine D8 ?_
 refine sP (H7 rfl rfl (by omega)) rfl rfl ?_
 refine B6 ?_
 refine sP (H7 rfl rfl (by omega)) rfl rfl ?_
 refine A0B ?_
 refine sP (A0w rfl rfl (by omega)) rfl rfl ?_
 refine I6 ?_
 refine D1 (rC rfl (A4 rfl rfl)) (rT rfl) (rT rfl) ?_
 (exact R7.mk (by rw [if_neg (by omega)]; rfl) (M1 _))
 refine I6 ?_
 refine sP (H7 rfl rfl (by omega)) rfl rfl ?_
 refine B6 ?_
 refine sP (H7 rfl rfl (by omega)) rfl rfl ?_
 refine A0B ?_
 refine sP (A0w rfl rfl (by omega)) rfl rfl ?_
 refine I6 ?_
 refine D1 (rC rfl (A4 rfl rfl)) (rT rfl) (rT rfl) ?_
 (exact R7.mk (by rw [if_neg (by omega)]; rfl) (M1 _))
theorem B0p (k : Int) (a : Tm) (nm : ByteArray) (num : Int) (ty fr : Ty) (lb : Int) (G : IM) (cells : List Value) (hk1 : k = 11 ∨ k = 12) (hca : cv a) (hr : A8 G (.mk k nm num ty fr lb [a]) cells) : Fn Tryz.prog 221 [.agg ⟨cells⟩] [] G (R7 (Z6 k ty fr lb [a])) := by
 obtain ⟨ak, anm, anum, ⟨atk, atks⟩, ⟨afk, afks⟩, alb, aks⟩ := a
 obtain ⟨hN, hkk⟩ := hca.node
 have hops := hN.ops
 have hbl := hN.lbB
 have htyA := hN.tyA
 have hfrA := hN.frA
 rw [F4] at htyA hfrA
 have h14 : ak = 14 → aks.length = 1 := fun h => by rw [h] at hops; have : C4 14 = 1 := rfl; omega
 obtain ⟨tk, tks⟩ := ty
 obtain ⟨fk, fks⟩ := fr
 obtain ⟨pt, ct, pf, cf, p, c, es, rfl, hk, hnum, hlb, hty, hfr, hsl, hkl⟩ := hr.open9
 obtain ⟨bx, ox, e0, rfl, hl0, hat0, hre0, hgb0⟩ := hsl.kidTm hkl (i := 0) (by simp) (by simp)
 replace hre0 : A8 G (Tm.mk ak anm anum (.mk atk atks) (.mk afk afks) alb aks) e0 := hre0
 have hP : Fn Tryz.prog 111 [.agg ⟨e0⟩] [] G (H8 (.bool (decide (ak = 14 ∧ afk = atk ∧ (atk = 4 ∨ atk = 5)))) G) := A2P _ G _ hre0
 have hI := A4k _ G _ hre0
 have ho0 := hre0.one
 obtain ⟨apt, act, apf, acf, ap, ac, aes, rfl, hak, hanum, halb, haty, hafr, hasl, hakl⟩ := hre0.open9
 have hfk64 : F8 fk := by obtain ⟨_, _, _, _, h, _⟩ := hfr.open; exact h
 have htk64 : F8 tk := by obtain ⟨_, _, _, _, h, _⟩ := hty.open; exact h
 obtain ⟨tes, htS, htL⟩ := haty.kids
 obtain ⟨fes, hfS, hfL⟩ := hafr.kids
 simp only [Ty.ks] at htS htL hfS hfL
 obtain ⟨i, hi⟩ : ∃ i : Nat, (k - 11).toNat = i := ⟨_, rfl⟩
 have hR : Z6 k (.mk tk tks) (.mk fk fks) lb [Tm.mk ak anm anum (.mk atk atks) (.mk afk afks) alb aks] = (if (ak = 14 ∧ afk = atk ∧ (atk = 4 ∨ atk = 5)) ∧ atk = 5 then (N1 (Y8 k [kd aks 0]) (kt afks i) (kt atks i) alb, 1, 0) else S3) := by
  unfold Z6
  rw [if_neg (by omega), if_pos hk1, hi, show kd [Tm.mk ak anm anum (.mk atk atks) (.mk afk afks) alb aks] 0 = Tm.mk ak anm anum (.mk atk atks) (.mk afk afks) alb aks from rfl, A1j]
  simp only [decide_eq_true_eq]
  rfl
 rw [hR]
 refine B7 Tryz.func221 rfl Tryz.ntmps221 Tryz.results221 rfl ?_
 intro w0
 refine A1 ?_
 refine sE (C7 rfl rfl) rfl (fun b3 => ?_)
 refine sE (B0 rfl) rfl (fun b4 => ?_)
 refine D0 ?_
 refine sP (B8 (j := 0) rfl rfl rfl (by simp)) rfl rfl ?_
 refine sL (A2 rfl rfl (hat0 _) rfl) rfl rfl ?_
 refine sE (B0 rfl) rfl (fun b15 => ?_)
 refine B3 ?_
 refine C0 ?_
 refine B3 ?_
 refine sP (H7 rfl rfl (by omega)) rfl rfl ?_
 refine V9 ?_
 refine sB (qE rfl rfl) rfl rfl (fun h44 => ?_) (fun h44 => ?_)
 refine B4 ?_
 focus (by_cases hpx : (ak = 14 ∧ afk = atk ∧ (atk = 4 ∨ atk = 5)); rw [decide_eq_true hpx] at hP; rotate_left; rw [decide_eq_false hpx] at hP; rotate_left; all_goals (refine I3 rfl hP rfl rfl ?_))
 refine B1 ?_
 refine sB (qE rfl rfl) rfl rfl (fun h58 => ?_) (fun h58 => ?_)
 refine D8 ?_
 refine sP (Q5 rfl rfl (by omega) (by omega)) rfl rfl ?_
 refine B3 ?_
 (have hq : (ak = 14 ∧ afk = atk ∧ (atk = 4 ∨ atk = 5)) ∧ atk = 5 := ⟨hpx, by omega⟩; have hq1 := h14 hq.1.1; have hq2 := htyA.1 (by omega); have hq3 := hfrA.1 (by omega); rw [show (k - 11 : Int) = ((i : Nat) : Int) from (by omega)]; obtain ⟨bq, oq, e3, rfl, hl3, hat3, hre3, hgb3⟩ := hasl.kidTm hakl (i := 0) (by omega) (by omega); have ho3 := hre3.one; obtain ⟨b5, o5, q5, d5, rfl, hat5, hre5, hgb5⟩ := htS.kidTy htL (i := i) (by omega) (by omega); obtain ⟨b7, o7, q7, d7, rfl, hat7, hre7, hgb7⟩ := hfS.kidTy hfL (i := i) (by omega) (by omega); obtain ⟨x1, x2, x3, x4, x5, x6, x7, x8, x9, rfl⟩ := nine hl3; refine E3 E4 rfl ?_)
 refine J5 (i := 0) (l' := [tt,ff,ff,ff,ff,ff,ff,ff,ff,ff,ff,ff,ff,ff,ff,ff,ff,ff,ff,ff,ff,ff,ff,ff,ff,ff]) rfl D7 (B9 rfl) rfl (by kernel_rfl) rfl rfl ?_
 refine aL 1 rfl (D3 rfl rfl) rfl ?_
 refine aP 2 rfl (B9 rfl) rfl ?_
 refine aL 3 rfl (D3 rfl rfl) rfl ?_
 refine aP 4 rfl (B8 (j := 0) rfl rfl rfl (by omega)) rfl ?_
 refine aL 5 rfl (A2 rfl rfl (hat3 _) rfl) rfl ?_
 refine aP 8 rfl (B9 rfl) rfl ?_
 refine aP 9 rfl (qF rfl) rfl ?_
 refine aL 10 rfl (D3 rfl rfl) rfl ?_
 refine aP 11 rfl (qM rfl) rfl ?_
 refine aP 12 rfl (B8 (j := i) rfl rfl rfl (by omega)) rfl ?_
 refine aL 13 rfl (A2 rfl rfl (hat7 _) rfl) rfl ?_
 refine aP 14 rfl (B9 rfl) rfl ?_
 refine aP 15 rfl (qF rfl) rfl ?_
 refine aL 16 rfl (D3 rfl rfl) rfl ?_
 refine aP 17 rfl (qM rfl) rfl ?_
 refine aP 18 rfl (B8 (j := i) rfl rfl rfl (by omega)) rfl ?_
 refine aL 19 rfl (A2 rfl rfl (hat5 _) rfl) rfl ?_
 refine aP 20 rfl (B9 rfl) rfl ?_
 refine aL 21 rfl (D3 rfl rfl) rfl ?_
 refine A3 6 ?_
 (refine E6 rfl (D4 rfl rfl rfl (by omega) (by unfold maxLen; omega) rfl) rfl rfl ?_; rintro _ ⟨b95, rfl⟩)
 refine A3 7 ?_
 (refine A5z (cs := [x1, x2, x3, x4, x5, x6, x7, x8, x9]) (by repeat (first | exact Pk.here | apply Pk.there)) (fun G2 hle2 hsl2 hno2 => ?_); have hrN := A4j (k := k) (ks := [aks[0]]) (es := [[x1, x2, x3, x4, x5, x6, x7, x8, x9]]) hk rfl (D6.of hsl2 rfl (by simp) (by intro x hx; obtain rfl := List.mem_singleton.1 hx; exact ho3)) (by simp only [D9]; exact ⟨_, _, rfl, hre3.mono hle2, rfl⟩); replace hre5 := hre5.mono hle2; replace hre7 := hre7.mono hle2; refine P4 rfl rfl (A3m _ _ _ _ _) rfl rfl rfl ?_)
 refine A3 22 ?_
 (refine K4 rfl rfl (A1D _ afks[i] atks[i] alb G2 _ _ _ ⟨by omega, by omega⟩ hrN hre7 hre5) rfl rfl rfl (fun u G3 hle3 hh => ?_); obtain ⟨wc, rfl, hrw⟩ := hh; have hwl := hrw.len; have hwo := hrw.one)
 refine A3 23 ?_
 (refine oS rfl rfl rfl rfl hwl hwo rfl rfl ?_ (hu := by exact C9 hwl.symm))
 refine aP 24 rfl (qA rfl) rfl ?_
 refine aP 25 rfl (qA rfl) rfl ?_
 refine B1 ?_
 refine D1 (rC rfl (A2 rfl rfl (B2 (by repeat first | exact mH | apply mT)) hwl)) (rT rfl) (rT rfl) ?_
 (exact R7.mk (by rw [if_pos hq, A2Q (by omega), A00 (by omega), A00 (by omega)]) hrw)
 refine D8 ?_
 refine sP (A0w rfl rfl (by omega)) rfl rfl ?_
 refine I6 ?_
 refine D1 (rC rfl (A4 rfl rfl)) (rT rfl) (rT rfl) ?_
 (exact R7.mk (by rw [if_neg (by omega)]; rfl) (M1 _))
 refine I6 ?_
 refine sP (A0w rfl rfl (by omega)) rfl rfl ?_
 refine I6 ?_
 refine D1 (rC rfl (A4 rfl rfl)) (rT rfl) (rT rfl) ?_
 (exact R7.mk (by rw [if_neg (by omega)]; rfl) (M1 _))
 refine B6 ?_
 refine sP (S8 rfl rfl (by omega)) rfl rfl ?_
 refine B6 ?_
 focus (by_cases hpx : (ak = 14 ∧ afk = atk ∧ (atk = 4 ∨ atk = 5)); rw [decide_eq_true hpx] at hP; rotate_left; rw [decide_eq_false hpx] at hP; rotate_left; all_goals (refine I3 rfl hP rfl rfl ?_))
 refine B1 ?_
 refine sB (qE rfl rfl) rfl rfl (fun h184 => ?_) (fun h184 => ?_)
 refine D8 ?_
 refine sP (Q5 rfl rfl (by omega) (by omega)) rfl rfl ?_
 refine B3 ?_
 (have hq : (ak = 14 ∧ afk = atk ∧ (atk = 4 ∨ atk = 5)) ∧ atk = 5 := ⟨hpx, by omega⟩; have hq1 := h14 hq.1.1; have hq2 := htyA.1 (by omega); have hq3 := hfrA.1 (by omega); rw [show (k - 11 : Int) = ((i : Nat) : Int) from (by omega)]; obtain ⟨bq, oq, e3, rfl, hl3, hat3, hre3, hgb3⟩ := hasl.kidTm hakl (i := 0) (by omega) (by omega); have ho3 := hre3.one; obtain ⟨b5, o5, q5, d5, rfl, hat5, hre5, hgb5⟩ := htS.kidTy htL (i := i) (by omega) (by omega); obtain ⟨b7, o7, q7, d7, rfl, hat7, hre7, hgb7⟩ := hfS.kidTy hfL (i := i) (by omega) (by omega); obtain ⟨x1, x2, x3, x4, x5, x6, x7, x8, x9, rfl⟩ := nine hl3; refine E3 E4 rfl ?_)
 refine J5 (i := 0) (l' := [tt,ff,ff,ff,ff,ff,ff,ff,ff,ff,ff,ff,ff,ff,ff,ff,ff,ff,ff,ff,ff,ff,ff,ff,ff,ff]) rfl D7 (B9 rfl) rfl (by kernel_rfl) rfl rfl ?_
 refine aL 1 rfl (D3 rfl rfl) rfl ?_
 refine aP 2 rfl (B9 rfl) rfl ?_
 refine aL 3 rfl (D3 rfl rfl) rfl ?_
 refine aP 4 rfl (B8 (j := 0) rfl rfl rfl (by omega)) rfl ?_
 refine aL 5 rfl (A2 rfl rfl (hat3 _) rfl) rfl ?_
 refine aP 8 rfl (B9 rfl) rfl ?_
 refine aP 9 rfl (qF rfl) rfl ?_
 refine aL 10 rfl (D3 rfl rfl) rfl ?_
 refine aP 11 rfl (qM rfl) rfl ?_
 refine aP 12 rfl (B8 (j := i) rfl rfl rfl (by omega)) rfl ?_
 refine aL 13 rfl (A2 rfl rfl (hat7 _) rfl) rfl ?_
 refine aP 14 rfl (B9 rfl) rfl ?_
 refine aP 15 rfl (qF rfl) rfl ?_
 refine aL 16 rfl (D3 rfl rfl) rfl ?_
 refine aP 17 rfl (qM rfl) rfl ?_
 refine aP 18 rfl (B8 (j := i) rfl rfl rfl (by omega)) rfl ?_
 refine aL 19 rfl (A2 rfl rfl (hat5 _) rfl) rfl ?_
 refine aP 20 rfl (B9 rfl) rfl ?_
 refine aL 21 rfl (D3 rfl rfl) rfl ?_
 refine A3 6 ?_
 (refine E6 rfl (D4 rfl rfl rfl (by omega) (by unfold maxLen; omega) rfl) rfl rfl ?_; rintro _ ⟨b221, rfl⟩)
 refine A3 7 ?_
 (refine A5z (cs := [x1, x2, x3, x4, x5, x6, x7, x8, x9]) (by repeat (first | exact Pk.here | apply Pk.there)) (fun G2 hle2 hsl2 hno2 => ?_); have hrN := A4j (k := k) (ks := [aks[0]]) (es := [[x1, x2, x3, x4, x5, x6, x7, x8, x9]]) hk rfl (D6.of hsl2 rfl (by simp) (by intro x hx; obtain rfl := List.mem_singleton.1 hx; exact ho3)) (by simp only [D9]; exact ⟨_, _, rfl, hre3.mono hle2, rfl⟩); replace hre5 := hre5.mono hle2; replace hre7 := hre7.mono hle2; refine P4 rfl rfl (A3m _ _ _ _ _) rfl rfl rfl ?_)
 refine A3 22 ?_
 (refine K4 rfl rfl (A1D _ afks[i] atks[i] alb G2 _ _ _ ⟨by omega, by omega⟩ hrN hre7 hre5) rfl rfl rfl (fun u G3 hle3 hh => ?_); obtain ⟨wc, rfl, hrw⟩ := hh; have hwl := hrw.len; have hwo := hrw.one)
 refine A3 23 ?_
 (refine oS rfl rfl rfl rfl hwl hwo rfl rfl ?_ (hu := by exact C9 hwl.symm))
 refine aP 24 rfl (qA rfl) rfl ?_
 refine aP 25 rfl (qA rfl) rfl ?_
 refine B1 ?_
 refine D1 (rC rfl (A2 rfl rfl (B2 (by repeat first | exact mH | apply mT)) hwl)) (rT rfl) (rT rfl) ?_
 (exact R7.mk (by rw [if_pos hq, A2Q (by omega), A00 (by omega), A00 (by omega)]) hrw)
 refine D8 ?_
 refine sP (A0w rfl rfl (by omega)) rfl rfl ?_
 refine I6 ?_
 refine D1 (rC rfl (A4 rfl rfl)) (rT rfl) (rT rfl) ?_
 (exact R7.mk (by rw [if_neg (by omega)]; rfl) (M1 _))
 refine I6 ?_
 refine sP (A0w rfl rfl (by omega)) rfl rfl ?_
 refine I6 ?_
 refine D1 (rC rfl (A4 rfl rfl)) (rT rfl) (rT rfl) ?_
 (exact R7.mk (by rw [if_neg (by omega)]; rfl) (M1 _))
theorem A5A {t : Tm} (h : inj t = true) : t.k = 14 := by
 unfold inj at h
 simp only [Bool.and_eq_true, decide_eq_true_eq] at h
 exact h.1.1
theorem B5K {t u : Ty} (h : S2 t = true) (h' : S2 u = true) : N5 t u = decide (t.k = u.k) := by
 have e1 := B0o h
 have e2 := B0o h'
 by_cases hk : t.k = u.k
 ·rw [decide_eq_true hk, X6, e1, e2]
  unfold W8; rw [hk]
 ·rw [decide_eq_false hk]
  cases hs : N5 t u with
  | false => rfl
  | true => exact absurd (congrArg Ty.k ((X6 _ _).1 hs)) hk
theorem B0q {t : Tm} (h : inj t = true) : S2 t.fr = true := by
 unfold inj at h
 rw [Bool.and_eq_true] at h
 exact h.2
theorem B5L (a : Tm) (nm : ByteArray) (num : Int) (ty fr : Ty) (lb : Int) (G : IM) (cells : List Value) (hca : cv a) (hlb9 : -99 ≤ lb ∧ lb ≤ 99) (hr : A8 G (.mk 14 nm num ty fr lb [a]) cells) : Fn Tryz.prog 221 [.agg ⟨cells⟩] [] G (R7 (Z6 14 ty fr lb [a])) := by
 have hji := @B0q a
 have hjk := @A5A a
 obtain ⟨ak, anm, anum, ⟨atk, atks⟩, ⟨afk, afks⟩, alb, aks⟩ := a
 obtain ⟨hN, hkk⟩ := hca.node
 have hops := hN.ops
 have hbl := hN.lbB
 have htyA := hN.tyA
 have hfrA := hN.frA
 rw [F4] at htyA hfrA
 have h14 : ak = 14 → aks.length = 1 := fun h => by rw [h] at hops; have : C4 14 = 1 := rfl; omega
 obtain ⟨tk, tks⟩ := ty
 obtain ⟨fk, fks⟩ := fr
 obtain ⟨pt, ct, pf, cf, p, c, es, rfl, hk, hnum, hlb, hty, hfr, hsl, hkl⟩ := hr.open9
 obtain ⟨bx, ox, e0, rfl, hl0, hat0, hre0, hgb0⟩ := hsl.kidTm hkl (i := 0) (by simp) (by simp)
 replace hre0 : A8 G (Tm.mk ak anm anum (.mk atk atks) (.mk afk afks) alb aks) e0 := hre0
 have hP : Fn Tryz.prog 111 [.agg ⟨e0⟩] [] G (H8 (.bool (decide (ak = 14 ∧ afk = atk ∧ (atk = 4 ∨ atk = 5)))) G) := A2P _ G _ hre0
 have hI := A4k _ G _ hre0
 have ho0 := hre0.one
 obtain ⟨apt, act, apf, acf, ap, ac, aes, rfl, hak, hanum, halb, haty, hafr, hasl, hakl⟩ := hre0.open9
 have hfk64 : F8 fk := by obtain ⟨_, _, _, _, h, _⟩ := hfr.open; exact h
 have htk64 : F8 tk := by obtain ⟨_, _, _, _, h, _⟩ := hty.open; exact h
 obtain ⟨tes, htS, htL⟩ := haty.kids
 obtain ⟨fes, hfS, hfL⟩ := hafr.kids
 simp only [Ty.ks] at htS htL hfS hfL
 obtain ⟨J, hJ⟩ : ∃ J, inj (Tm.mk ak anm anum (.mk atk atks) (.mk afk afks) alb aks) = J := ⟨_, rfl⟩
 obtain ⟨D, hD⟩ : ∃ D, S2 (.mk tk tks) = D := ⟨_, rfl⟩
 have hGr := B0h _ G _ hty
 rw [hD] at hGr
 rw [hJ] at hI hji hjk
 have hR : Z6 14 (.mk tk tks) (.mk fk fks) lb [Tm.mk ak anm anum (.mk atk atks) (.mk afk afks) alb aks] = (if fk = tk then (Tm.mk ak anm anum (.mk atk atks) (.mk afk afks) alb aks, 1, 0)
   else if tk = 1 then (N1 (N1 (Tm.mk ak anm anum (.mk atk atks) (.mk afk afks) alb aks) (.mk fk fks) (mGk fk) lb) (mGk fk) (.mk tk tks) lb, 1, 0)
   else if D = false then (N1 (N1 (Tm.mk ak anm anum (.mk atk atks) (.mk afk afks) alb aks) (.mk fk fks) (mGk tk) lb) (mGk tk) (.mk tk tks) lb, 1, 0)
   else if J = false then S3
   else if afk = tk then (kd aks 0, 1, 0)
   else (E2, 2, lb)) := by
  rw [← hJ, ← hD]; rfl
 rw [hR]
 have hSm : J = true → D = true → N5 (.mk afk afks) (.mk tk tks) = decide (afk = tk) := fun h1 h2 => B5K (hji h1) (hD.trans h2)
 have hTS := A6Z (.mk afk afks) (.mk tk tks) G _ _ hafr hty
 refine B7 Tryz.func221 rfl Tryz.ntmps221 Tryz.results221 rfl ?_
 intro w0
 refine A1 ?_
 refine sE (C7 rfl rfl) rfl (fun b3 => ?_)
 refine sE (B0 rfl) rfl (fun b4 => ?_)
 refine D0 ?_
 refine sP (B8 (j := 0) rfl rfl rfl (by simp)) rfl rfl ?_
 refine sL (A2 rfl rfl (hat0 _) rfl) rfl rfl ?_
 refine sE (B0 rfl) rfl (fun b15 => ?_)
 refine B3 ?_
 refine C0 ?_
 refine B3 ?_
 refine sP (H7 rfl rfl (by omega)) rfl rfl ?_
 refine V9 ?_
 refine sP (H7 rfl rfl (by omega)) rfl rfl ?_
 refine B6 ?_
 refine sP (H7 rfl rfl (by omega)) rfl rfl ?_
 refine A0B ?_
 refine sP (A1O rfl rfl (by omega)) rfl rfl ?_
 refine O0 ?_
 refine sB (qE rfl rfl) rfl rfl (fun h81 => ?_) (fun h81 => ?_)
 refine I6 ?_
 refine D1 (rC rfl (A4 rfl rfl)) (rT rfl) (rT rfl) ?_
 (exact R7.mk (by rw [if_pos (by omega)]) hre0)
 refine D8 ?_
 refine sB (qE rfl rfl) rfl rfl (fun h108 => ?_) (fun h108 => ?_)
 refine D8 ?_
 (refine E7 rfl (A7g fk G hfk64) rfl rfl (fun u G1 hle1 hh => ?_); obtain ⟨gc, rfl, hrg⟩ := hh; obtain ⟨pg, cg, eg, rfl, _⟩ := hrg.open; have hgk : tk = 1 := (by omega); replace hre0 := hre0.mono hle1; replace hfr := hfr.mono hle1; replace hty := hty.mono hle1)
 refine sE (B0 rfl) rfl (fun b119 => ?_)
 refine B3 ?_
 refine E3 E4 rfl ?_
 refine Q9 (i := 0) (l' := [tt,ff,ff,ff,ff,ff,ff,ff,ff,ff,ff,ff,ff,ff,ff,ff]) rfl D7 (A2 rfl rfl (B2 (by repeat first | exact mH | apply mT)) rfl) rfl (by kernel_rfl) rfl rfl ?_
 refine aL 3 rfl (A2 rfl rfl (B2 (by repeat first | exact mH | apply mT)) rfl) rfl ?_
 refine aL 7 rfl (A2 rfl rfl (B2 (by repeat first | exact mH | apply mT)) rfl) rfl ?_
 refine aP 1 rfl (B9 rfl) rfl ?_
 refine aL 2 rfl (A4 rfl rfl) rfl ?_
 refine aP 4 rfl (B9 rfl) rfl ?_
 refine aL 5 rfl (D3 rfl rfl) rfl ?_
 refine aP 8 rfl (B9 rfl) rfl ?_
 refine aL 9 rfl (A4 rfl rfl) rfl ?_
 refine aP 10 rfl (B9 rfl) rfl ?_
 refine aL 11 rfl (D3 rfl rfl) rfl ?_
 refine A3 6 ?_
 (refine K4 rfl rfl (A1D _ (.mk fk fks) _ lb G1 _ _ _ ⟨by omega, by omega⟩ hre0 hfr hrg) rfl rfl rfl (fun u G3 hle3 hh => ?_); obtain ⟨wc, rfl, hrw⟩ := hh; have hwl := hrw.len; have hwo := hrw.one; replace hrg := hrg.mono hle3; replace hty := hty.mono hle3)
 refine A3 12 ?_
 (refine K4 rfl rfl (A1D _ _ (.mk tk tks) lb G3 _ _ _ ⟨by omega, by omega⟩ hrw hrg hty) rfl rfl rfl (fun u G4 hle4 hh => ?_); obtain ⟨xc, rfl, hrx⟩ := hh; have hxl := hrx.len; have hxo := hrx.one)
 refine A3 13 ?_
 (refine oS rfl rfl rfl rfl hxl hxo rfl rfl ?_ (hu := by exact C9 hxl.symm))
 refine aP 14 rfl (qA rfl) rfl ?_
 refine aP 15 rfl (qA rfl) rfl ?_
 refine B1 ?_
 refine D1 (rC rfl (A2 rfl rfl (B2 (by repeat first | exact mH | apply mT)) hxl)) (rT rfl) (rT rfl) ?_
 (exact R7.mk (by rw [if_neg (by omega), if_pos (by omega)]) hrx)
 refine D0 ?_
 focus (cases hDD : D; all_goals (rw [hDD] at hGr; refine I3 rfl hGr rfl rfl ?_))
 refine J2 ?_
 (refine E7 rfl (A7g tk G htk64) rfl rfl (fun u G1 hle1 hh => ?_); obtain ⟨gc, rfl, hrg⟩ := hh; obtain ⟨pg, cg, eg, rfl, _⟩ := hrg.open; replace hre0 := hre0.mono hle1; replace hfr := hfr.mono hle1; replace hty := hty.mono hle1)
 refine sE (B0 rfl) rfl (fun b171 => ?_)
 refine B3 ?_
 refine E3 E4 rfl ?_
 refine Q9 (i := 0) (l' := [tt,ff,ff,ff,ff,ff,ff,ff,ff,ff,ff,ff,ff,ff,ff,ff]) rfl D7 (A2 rfl rfl (B2 (by repeat first | exact mH | apply mT)) rfl) rfl (by kernel_rfl) rfl rfl ?_
 refine aL 3 rfl (A2 rfl rfl (B2 (by repeat first | exact mH | apply mT)) rfl) rfl ?_
 refine aL 7 rfl (A2 rfl rfl (B2 (by repeat first | exact mH | apply mT)) rfl) rfl ?_
 refine aP 1 rfl (B9 rfl) rfl ?_
 refine aL 2 rfl (A4 rfl rfl) rfl ?_
 refine aP 4 rfl (B9 rfl) rfl ?_
 refine aL 5 rfl (D3 rfl rfl) rfl ?_
 refine aP 8 rfl (B9 rfl) rfl ?_
 refine aL 9 rfl (A4 rfl rfl) rfl ?_
 refine aP 10 rfl (B9 rfl) rfl ?_
 refine aL 11 rfl (D3 rfl rfl) rfl ?_
 refine A3 6 ?_
 (refine K4 rfl rfl (A1D _ (.mk fk fks) _ lb G1 _ _ _ ⟨by omega, by omega⟩ hre0 hfr hrg) rfl rfl rfl (fun u G3 hle3 hh => ?_); obtain ⟨wc, rfl, hrw⟩ := hh; have hwl := hrw.len; have hwo := hrw.one; replace hrg := hrg.mono hle3; replace hty := hty.mono hle3)
 refine A3 12 ?_
 (refine K4 rfl rfl (A1D _ _ (.mk tk tks) lb G3 _ _ _ ⟨by omega, by omega⟩ hrw hrg hty) rfl rfl rfl (fun u G4 hle4 hh => ?_); obtain ⟨xc, rfl, hrx⟩ := hh; have hxl := hrx.len; have hxo := hrx.one)
 refine A3 13 ?_
 (refine oS rfl rfl rfl rfl hxl hxo rfl rfl ?_ (hu := by exact C9 hxl.symm))
 refine aP 14 rfl (qA rfl) rfl ?_
 refine aP 15 rfl (qA rfl) rfl ?_
 refine B1 ?_
 refine D1 (rC rfl (A2 rfl rfl (B2 (by repeat first | exact mH | apply mT)) hxl)) (rT rfl) (rT rfl) ?_
 (exact R7.mk (by rw [if_neg (by omega), if_neg (by omega), if_pos rfl]) hrx)
 refine D0 ?_
 focus (cases hJJ : J; all_goals (rw [hJJ] at hI; refine I3 rfl hI rfl rfl ?_))
 refine J7 ?_
 refine D1 (rC rfl (A4 rfl rfl)) (rT rfl) (rT rfl) ?_
 (exact R7.mk (by rw [if_neg (by omega), if_neg (by omega), if_neg (by decide), if_pos rfl]; rfl) (M1 _))
 refine J4 ?_
 focus (rw [hSm hJJ hDD] at hTS; by_cases hfk : afk = tk; rw [decide_eq_true hfk] at hTS; rotate_left; rw [decide_eq_false hfk] at hTS; rotate_left; all_goals (refine I3 rfl hTS rfl rfl ?_))
 refine D0 ?_
 (have hq1 := h14 (hjk (by assumption)); obtain ⟨bq, oq, e3, rfl, hl3, hat3, hre3, hgb3⟩ := hasl.kidTm hakl (i := 0) (by omega) (by omega); have ho3 := hre3.one; refine sP (B8 (j := 0) rfl rfl rfl (by omega)) rfl rfl ?_)
 refine sL (A2 rfl rfl (hat3 _) hl3) rfl rfl ?_
 refine sS rfl rfl rfl hl3 ho3 rfl ?_ (hu := by exact C9 hl3.symm)
 refine B4 ?_
 refine D1 (rC rfl (A2 rfl rfl (B2 (by repeat first | exact mH | apply mT)) hl3)) (rT rfl) (rT rfl) ?_
 (exact R7.mk (by rw [if_neg (by omega), if_neg (by omega), if_neg (by decide), if_neg (by decide), if_pos hfk, A2Q (by omega)]) hre3)
 refine D0 ?_
 refine E3 E4 rfl ?_
 refine J5 (i := 0) (l' := [tt,ff,ff,ff,ff,ff]) rfl D7 (pBd rfl rfl) rfl (by kernel_rfl) rfl rfl ?_
 refine aP 1 rfl (B9 rfl) rfl ?_
 refine aL 2 rfl (D3 rfl rfl) rfl ?_
 refine A3 3 ?_
 refine I9 rfl ?_
 refine aP 4 rfl (qA rfl) rfl ?_
 refine aP 5 rfl (qA rfl) rfl ?_
 refine B6 ?_
 refine D1 (rC rfl (A4 rfl rfl)) (rT rfl) (rT rfl) ?_
 (exact R7.mk (by rw [if_neg (by omega), if_neg (by omega), if_neg (by decide), if_neg (by decide), if_neg hfk]) (M1 _))
theorem B0r (k : Int) (a b : Tm) (nm : ByteArray) (num : Int) (ty fr : Ty) (lb : Int) (G : IM) (cells : List Value) (hk1 : k = 7 ∨ k = 8) (hca : cv a) (hr : A8 G (.mk k nm num ty fr lb [a, b]) cells) : Fn Tryz.prog 221 [.agg ⟨cells⟩] [] G (R7 (Z6 k ty fr lb [a, b])) := by
 have hR : Z6 k ty fr lb [a, b] = S3 := by unfold Z6; rw [if_neg (by omega), if_neg (by omega), if_neg (by omega)]
 rw [hR]
 obtain ⟨ak, anm, anum, ⟨atk, atks⟩, ⟨afk, afks⟩, alb, aks⟩ := a
 obtain ⟨hN, hkk⟩ := hca.node
 have hops := hN.ops
 have hbl := hN.lbB
 have htyA := hN.tyA
 have hfrA := hN.frA
 rw [F4] at htyA hfrA
 have h14 : ak = 14 → aks.length = 1 := fun h => by rw [h] at hops; have : C4 14 = 1 := rfl; omega
 obtain ⟨tk, tks⟩ := ty
 obtain ⟨fk, fks⟩ := fr
 obtain ⟨pt, ct, pf, cf, p, c, es, rfl, hk, hnum, hlb, hty, hfr, hsl, hkl⟩ := hr.open9
 obtain ⟨bx, ox, e0, rfl, hl0, hat0, hre0, hgb0⟩ := hsl.kidTm hkl (i := 0) (by simp) (by simp)
 replace hre0 : A8 G (Tm.mk ak anm anum (.mk atk atks) (.mk afk afks) alb aks) e0 := hre0
 have hP : Fn Tryz.prog 111 [.agg ⟨e0⟩] [] G (H8 (.bool (decide (ak = 14 ∧ afk = atk ∧ (atk = 4 ∨ atk = 5)))) G) := A2P _ G _ hre0
 have hI := A4k _ G _ hre0
 have ho0 := hre0.one
 obtain ⟨apt, act, apf, acf, ap, ac, aes, rfl, hak, hanum, halb, haty, hafr, hasl, hakl⟩ := hre0.open9
 have hfk64 : F8 fk := by obtain ⟨_, _, _, _, h, _⟩ := hfr.open; exact h
 have htk64 : F8 tk := by obtain ⟨_, _, _, _, h, _⟩ := hty.open; exact h
 obtain ⟨tes, htS, htL⟩ := haty.kids
 obtain ⟨fes, hfS, hfL⟩ := hafr.kids
 simp only [Ty.ks] at htS htL hfS hfL
 refine B7 Tryz.func221 rfl Tryz.ntmps221 Tryz.results221 rfl ?_
 intro w0
 refine A1 ?_
 refine sE (C7 rfl rfl) rfl (fun b3 => ?_)
 refine sE (B0 rfl) rfl (fun b4 => ?_)
 refine D0 ?_
 refine sP (B8 (j := 0) rfl rfl rfl (by simp)) rfl rfl ?_
 refine sL (A2 rfl rfl (hat0 _) rfl) rfl rfl ?_
 refine sE (B0 rfl) rfl (fun b15 => ?_)
 refine B3 ?_
 refine C0 ?_
 refine B3 ?_
 refine sP (H7 rfl rfl (by omega)) rfl rfl ?_
 refine V9 ?_
 refine sP (H7 rfl rfl (by omega)) rfl rfl ?_
 refine B6 ?_
 refine sP (H7 rfl rfl (by omega)) rfl rfl ?_
 refine A0B ?_
 refine sP (A0w rfl rfl (by omega)) rfl rfl ?_
 refine I6 ?_
 refine D1 (rC rfl (A4 rfl rfl)) (rT rfl) (rT rfl) ?_
 (exact R7.mk rfl (M1 _))
theorem B5M (a b c0 : Tm) (nm : ByteArray) (num : Int) (ty fr : Ty) (lb : Int) (G : IM) (cells : List Value) (hca : cv a) (hr : A8 G (.mk 9 nm num ty fr lb [a, b, c0]) cells) : Fn Tryz.prog 221 [.agg ⟨cells⟩] [] G (R7 (Z6 9 ty fr lb [a, b, c0])) := by
 have hR : Z6 9 ty fr lb [a, b, c0] = S3 := by unfold Z6; rw [if_neg (by omega), if_neg (by omega), if_neg (by omega)]
 rw [hR]
 obtain ⟨ak, anm, anum, ⟨atk, atks⟩, ⟨afk, afks⟩, alb, aks⟩ := a
 obtain ⟨hN, hkk⟩ := hca.node
 have hops := hN.ops
 have hbl := hN.lbB
 have htyA := hN.tyA
 have hfrA := hN.frA
 rw [F4] at htyA hfrA
 have h14 : ak = 14 → aks.length = 1 := fun h => by rw [h] at hops; have : C4 14 = 1 := rfl; omega
 obtain ⟨tk, tks⟩ := ty
 obtain ⟨fk, fks⟩ := fr
 obtain ⟨pt, ct, pf, cf, p, c, es, rfl, hk, hnum, hlb, hty, hfr, hsl, hkl⟩ := hr.open9
 obtain ⟨bx, ox, e0, rfl, hl0, hat0, hre0, hgb0⟩ := hsl.kidTm hkl (i := 0) (by simp) (by simp)
 replace hre0 : A8 G (Tm.mk ak anm anum (.mk atk atks) (.mk afk afks) alb aks) e0 := hre0
 have hP : Fn Tryz.prog 111 [.agg ⟨e0⟩] [] G (H8 (.bool (decide (ak = 14 ∧ afk = atk ∧ (atk = 4 ∨ atk = 5)))) G) := A2P _ G _ hre0
 have hI := A4k _ G _ hre0
 have ho0 := hre0.one
 obtain ⟨apt, act, apf, acf, ap, ac, aes, rfl, hak, hanum, halb, haty, hafr, hasl, hakl⟩ := hre0.open9
 have hfk64 : F8 fk := by obtain ⟨_, _, _, _, h, _⟩ := hfr.open; exact h
 have htk64 : F8 tk := by obtain ⟨_, _, _, _, h, _⟩ := hty.open; exact h
 obtain ⟨tes, htS, htL⟩ := haty.kids
 obtain ⟨fes, hfS, hfL⟩ := hafr.kids
 simp only [Ty.ks] at htS htL hfS hfL
 refine B7 Tryz.func221 rfl Tryz.ntmps221 Tryz.results221 rfl ?_
 intro w0
 refine A1 ?_
 refine sE (C7 rfl rfl) rfl (fun b3 => ?_)
 refine sE (B0 rfl) rfl (fun b4 => ?_)
 refine D0 ?_
 refine sP (B8 (j := 0) rfl rfl rfl (by simp)) rfl rfl ?_
 refine sL (A2 rfl rfl (hat0 _) rfl) rfl rfl ?_
 refine sE (B0 rfl) rfl (fun b15 => ?_)
 refine B3 ?_
 refine C0 ?_
 refine B3 ?_
 refine sP (H7 rfl rfl (by omega)) rfl rfl ?_
 refine V9 ?_
 refine sP (H7 rfl rfl (by omega)) rfl rfl ?_
 refine B6 ?_
 refine sP (H7 rfl rfl (by omega)) rfl rfl ?_
 refine A0B ?_
 refine sP (A0w rfl rfl (by omega)) rfl rfl ?_
 refine I6 ?_
 refine D1 (rC rfl (A4 rfl rfl)) (rT rfl) (rT rfl) ?_
 (exact R7.mk rfl (M1 _))
theorem B5N (nm : ByteArray) (num : Int) (ty fr : Ty) (lb : Int) (G : IM) (cells : List Value) (hr : A8 G (.mk 1 nm num ty fr lb []) cells) : Fn Tryz.prog 220 [.agg ⟨cells⟩] [] G (S6 (P2 1 [])) := by
 rw [show P2 1 [] = none from rfl]
 obtain ⟨tk, tks⟩ := ty
 obtain ⟨fk, fks⟩ := fr
 obtain ⟨pt, ct, pf, cf, p, c, es, rfl, hk, hnum, hlb, hty, hfr, hsl, hkl⟩ := hr.open9
 have hL : ([] : List Tm).length = 0 := rfl
 refine B7 Tryz.func220 rfl Tryz.ntmps220 Tryz.results220 rfl ?_
 intro w0
 refine A1 ?_
 refine sE (C7 rfl rfl) rfl (fun b3 => ?_)
 refine sE (B0 rfl) rfl (fun b4 => ?_)
 refine A7 ?_
 refine sE (B0 rfl) rfl (fun b11 => ?_)
 refine D8 ?_
 refine sP (B2V rfl rfl (by omega)) rfl rfl ?_
 refine O0 ?_
 refine C0 ?_
 refine A1 ?_
 refine sP (H7 rfl rfl (by omega)) rfl rfl ?_
 refine B4 ?_
 refine sP (H7 rfl rfl (by omega)) rfl rfl ?_
 refine B1 ?_
 refine sP (H7 rfl rfl (by omega)) rfl rfl ?_
 refine A7 ?_
 refine sP (H7 rfl rfl (by omega)) rfl rfl ?_
 refine B4 ?_
 refine sP (H7 rfl rfl (by omega)) rfl rfl ?_
 refine B1 ?_
 refine sP (H7 rfl rfl (by omega)) rfl rfl ?_
 refine I6 ?_
 refine I8 (rC rfl (A4 rfl rfl)) (rT rfl) ?_
 (exact S6.no rfl (M1 _))
theorem B5O (a : Tm) (nm : ByteArray) (num : Int) (ty fr : Ty) (lb : Int) (G : IM) (cells : List Value) (hr : A8 G (.mk 14 nm num ty fr lb [a]) cells) : Fn Tryz.prog 220 [.agg ⟨cells⟩] [] G (S6 (P2 14 [a])) := by
 rw [show P2 14 [a] = none from rfl]
 obtain ⟨tk, tks⟩ := ty
 obtain ⟨fk, fks⟩ := fr
 obtain ⟨pt, ct, pf, cf, p, c, es, rfl, hk, hnum, hlb, hty, hfr, hsl, hkl⟩ := hr.open9
 obtain ⟨bx, ox, e0, rfl, hl0, hat0, hre0, hgb0⟩ := hsl.kidTm hkl (i := 0) (by simp) (by simp)
 have ho0 : e0.all (·.oneCell') = true := (show A8 G a e0 from hre0).one
 refine B7 Tryz.func220 rfl Tryz.ntmps220 Tryz.results220 rfl ?_
 intro w0
 refine A1 ?_
 refine sE (C7 rfl rfl) rfl (fun b3 => ?_)
 refine sE (B0 rfl) rfl (fun b4 => ?_)
 refine A7 ?_
 refine sE (B0 rfl) rfl (fun b11 => ?_)
 refine D8 ?_
 refine sB (Z2 rfl rfl) rfl rfl (fun h21 => ?_) (fun h21 => ?_)
 refine A7 ?_
 refine sP (B8 (j := 0) rfl rfl rfl (by simp)) rfl rfl ?_
 refine sL (A2 rfl rfl (hat0 _) hl0) rfl rfl ?_
 refine sS rfl rfl rfl hl0 ho0 rfl ?_ (hu := by exact C9 hl0.symm)
 refine D8 ?_
 refine C0 ?_
 refine A1 ?_
 refine sP (H7 rfl rfl (by omega)) rfl rfl ?_
 refine B4 ?_
 refine sP (H7 rfl rfl (by omega)) rfl rfl ?_
 refine B1 ?_
 refine sP (H7 rfl rfl (by omega)) rfl rfl ?_
 refine A7 ?_
 refine sP (H7 rfl rfl (by omega)) rfl rfl ?_
 refine B4 ?_
 refine sP (H7 rfl rfl (by omega)) rfl rfl ?_
 refine B1 ?_
 refine sP (H7 rfl rfl (by omega)) rfl rfl ?_
 refine I6 ?_
 refine I8 (rC rfl (A4 rfl rfl)) (rT rfl) ?_
 (exact S6.no rfl (M1 _))
 refine O0 ?_
 refine C0 ?_
 refine A1 ?_
 refine sP (H7 rfl rfl (by omega)) rfl rfl ?_
 refine B4 ?_
 refine sP (H7 rfl rfl (by omega)) rfl rfl ?_
 refine B1 ?_
 refine sP (H7 rfl rfl (by omega)) rfl rfl ?_
 refine A7 ?_
 refine sP (H7 rfl rfl (by omega)) rfl rfl ?_
 refine B4 ?_
 refine sP (H7 rfl rfl (by omega)) rfl rfl ?_
 refine B1 ?_
 refine sP (H7 rfl rfl (by omega)) rfl rfl ?_
 refine I6 ?_
 refine I8 (rC rfl (A4 rfl rfl)) (rT rfl) ?_
 (exact S6.no rfl (M1 _))
theorem Z7 {ks : List Tm} (h : ks.length = 1) : ∃ a, ks = [a] := by
 match ks, h with
 | [a], _ => exact ⟨a, rfl⟩
theorem ks2 {ks : List Tm} (h : ks.length = 2) : ∃ a b, ks = [a, b] := by
 match ks, h with
 | [a, b], _ => exact ⟨a, b, rfl⟩
theorem ks3 {ks : List Tm} (h : ks.length = 3) : ∃ a b c, ks = [a, b, c] := by
 match ks, h with
 | [a, b, c], _ => exact ⟨a, b, c, rfl⟩
theorem B0s {k : Int} {nm : ByteArray} {num : Int} {ty fr : Ty} {lb : Int} {ks : List Tm} {G : IM} {cells : List Value} (hc : cv (.mk k nm num ty fr lb ks)) (hk : k = 1 ∨ k = 6 ∨ k = 7 ∨ k = 8 ∨ k = 9 ∨ k = 11 ∨ k = 12 ∨ k = 14) (hr : A8 G (.mk k nm num ty fr lb ks) cells) :
  Fn Tryz.prog 220 [.agg ⟨cells⟩] [] G (S6 (P2 k ks)) := by
 obtain ⟨hN, hkk⟩ := hc.node
 have hops := hN.ops
 rcases hk with rfl | rfl | rfl | rfl | rfl | rfl | rfl | rfl
 ·obtain rfl : ks = [] := List.length_eq_zero_iff.1 (by have : C4 1 = 0 := rfl; omega)
  exact B5N _ _ _ _ _ _ _ hr
 ·obtain ⟨a, b, rfl⟩ := ks2 (ks := ks) (by have : C4 6 = 2 := rfl; omega)
  exact B5G a b _ _ _ _ _ _ _ (hkk a (by simp)) hr
 ·obtain ⟨a, b, rfl⟩ := ks2 (ks := ks) (by have : C4 7 = 2 := rfl; omega)
  exact B0m 7 a b _ _ _ _ _ _ _ (.inl rfl) (hkk a (by simp)) (hkk b (by simp)) hr
 ·obtain ⟨a, b, rfl⟩ := ks2 (ks := ks) (by have : C4 8 = 2 := rfl; omega)
  exact B0m 8 a b _ _ _ _ _ _ _ (.inr rfl) (hkk a (by simp)) (hkk b (by simp)) hr
 ·obtain ⟨a, b, c, rfl⟩ := ks3 (ks := ks) (by have : C4 9 = 3 := rfl; omega)
  exact B5H a b c _ _ _ _ _ _ _ hr
 ·obtain ⟨a, rfl⟩ := Z7 (ks := ks) (by have : C4 11 = 1 := rfl; omega)
  exact B0n 11 a _ _ _ _ _ _ _ (.inl rfl) (hkk a (by simp)) hr
 ·obtain ⟨a, rfl⟩ := Z7 (ks := ks) (by have : C4 12 = 1 := rfl; omega)
  exact B0n 12 a _ _ _ _ _ _ _ (.inr rfl) (hkk a (by simp)) hr
 ·obtain ⟨a, rfl⟩ := Z7 (ks := ks) (by have : C4 14 = 1 := rfl; omega)
  exact B5O a _ _ _ _ _ _ _ hr
theorem B5P {k : Int} {nm : ByteArray} {num : Int} {ty fr : Ty} {lb : Int} {ks : List Tm} {G : IM} {cells : List Value} (hc : cv (.mk k nm num ty fr lb ks)) (hk : k = 6 ∨ k = 7 ∨ k = 8 ∨ k = 9 ∨ k = 11 ∨ k = 12 ∨ k = 14) (hr : A8 G (.mk k nm num ty fr lb ks) cells) :
  Fn Tryz.prog 221 [.agg ⟨cells⟩] [] G (R7 (Z6 k ty fr lb ks)) := by
 obtain ⟨hN, hkk⟩ := hc.node
 have hops := hN.ops
 rcases hk with rfl | rfl | rfl | rfl | rfl | rfl | rfl
 ·obtain ⟨a, b, rfl⟩ := ks2 (ks := ks) (by have : C4 6 = 2 := rfl; omega)
  exact B5J a b _ _ _ _ _ _ _ (hkk a (by simp)) hr
 ·obtain ⟨a, b, rfl⟩ := ks2 (ks := ks) (by have : C4 7 = 2 := rfl; omega)
  exact B0r 7 a b _ _ _ _ _ _ _ (.inl rfl) (hkk a (by simp)) hr
 ·obtain ⟨a, b, rfl⟩ := ks2 (ks := ks) (by have : C4 8 = 2 := rfl; omega)
  exact B0r 8 a b _ _ _ _ _ _ _ (.inr rfl) (hkk a (by simp)) hr
 ·obtain ⟨a, b, c, rfl⟩ := ks3 (ks := ks) (by have : C4 9 = 3 := rfl; omega)
  exact B5M a b c _ _ _ _ _ _ _ (hkk a (by simp)) hr
 ·obtain ⟨a, rfl⟩ := Z7 (ks := ks) (by have : C4 11 = 1 := rfl; omega)
  exact B0p 11 a _ _ _ _ _ _ _ (.inl rfl) (hkk a (by simp)) hr
 ·obtain ⟨a, rfl⟩ := Z7 (ks := ks) (by have : C4 12 = 1 := rfl; omega)
  exact B0p 12 a _ _ _ _ _ _ _ (.inr rfl) (hkk a (by simp)) hr
 ·obtain ⟨a, rfl⟩ := Z7 (ks := ks) (by have : C4 14 = 1 := rfl; omega)
  exact B5L a _ _ _ _ _ _ _ (hkk a (by simp)) hN.lbB hr
theorem A5B (n : Nat) (t : Tm) (ts : List Tm) : Y0 (n + 1) (t :: ts) = if C5 t = true then (match Y0 n ts with | some (us, c, l) => some (t :: us, c, l) | none => none) else some ((J0 t).1 :: ts, (J0 t).2.1, (J0 t).2.2) := by
 rw [Y0]; rfl
theorem A7h : ∀ (n : Nat) (ks : List Tm), (∀ i, i < n → (h : i < ks.length) → C5 ks[i] = true) → Y0 n ks = none
 | n, [], _ => by cases n <;> rfl
 | 0, t :: ts, _ => rfl
 | n + 1, t :: ts, h => by
  rw [A5B, if_pos (show C5 t = true from h 0 (by omega) (by simp)), A7h n ts (fun i hi hl => h (i + 1) (by omega) (by simpa using hl))]
theorem B0t : ∀ (n : Nat) (ks : List Tm) (i : Nat) (hi : i < ks.length), i < n → (∀ j, j < i → (h : j < ks.length) → C5 ks[j] = true) → C5 ks[i] = false → Y0 n ks = some (ks.set i (J0 ks[i]).1, (J0 ks[i]).2.1, (J0 ks[i]).2.2)
 | n, [], i, hi, _, _, _ => by simp at hi
 | 0, t :: ts, i, _, hn, _, _ => by omega
 | n + 1, t :: ts, 0, _, _, _, hv => by
  rw [A5B, if_neg (by rw [show C5 t = false from hv]; decide)]; rfl
 | n + 1, t :: ts, i + 1, hi, hn, hj, hv => by
  rw [A5B, if_pos (show C5 t = true from hj 0 (by omega) (by simp)), B0t n ts i (by simpa using hi) (by omega) (fun j hji hl => hj (j + 1) (by omega) (by simpa using hl)) hv]
  rfl
theorem B5Q {k : Int} {ty fr : Ty} {lb : Int} {ks : List Tm} (h : (S4 k ty fr lb ks).2.1 = 1) : (S4 k ty fr lb ks).2.2 = 0 := by
 revert h
 unfold S4 S3
 repeat' split
 all_goals first | (intro _; rfl) | (intro h; exfalso; revert h; simp)
theorem B5R {k : Int} {nm : ByteArray} {num : Int} {ty fr : Ty} {lb : Int} {ks : List Tm} (h : (J0 (.mk k nm num ty fr lb ks)).2.1 = 1) : (J0 (.mk k nm num ty fr lb ks)).2.2 = 0 := by
 rw [J0] at h ⊢
 cases hL : Y0 (if k = 9 then 1 else ks.length) ks with
 | none => rw [hL] at h; exact B5Q h
 | some p =>
  obtain ⟨us, c, l⟩ := p
  rw [hL] at h
  simp only at h ⊢
  by_cases hc : c = 1
  ·rw [if_pos hc]
  ·rw [if_neg hc] at h; exact absurd h hc
theorem B5S {t : Tm} (h : (J0 t).2.1 = 1) : (J0 t).2.2 = 0 := by cases t; exact B5R h
theorem B0u {k : Int} {nm : ByteArray} {num : Int} {ty fr : Ty} {lb : Int} {ks : List Tm} {i : Nat} (hi : i < ks.length) (hn : i < (if k = 9 then 1 else ks.length)) (hj : ∀ j, j < i → (h : j < ks.length) → C5 ks[j] = true) (hv : C5 ks[i] = false) :
  (J0 (.mk k nm num ty fr lb ks)).2.1 = (J0 ks[i]).2.1 ∧ (J0 (.mk k nm num ty fr lb ks)).2.2 = (J0 ks[i]).2.2 ∧ ((J0 ks[i]).2.1 = 1 → (J0 (.mk k nm num ty fr lb ks)).1 = .mk k nm num ty fr lb (ks.set i (J0 ks[i]).1)) := by
 rw [J0, B0t _ ks i hi hn hj hv]
 simp only
 by_cases hc : (J0 ks[i]).2.1 = 1
 ·rw [if_pos hc]
  exact ⟨hc.symm, (B5S hc).symm, fun _ => rfl⟩
 ·rw [if_neg hc]
  exact ⟨rfl, rfl, fun h => absurd h hc⟩
theorem B5T {k : Int} {nm : ByteArray} {num : Int} {ty fr : Ty} {lb : Int} {ks : List Tm} (h : ∀ i, i < (if k = 9 then 1 else ks.length) → (hl : i < ks.length) → C5 ks[i] = true) : J0 (.mk k nm num ty fr lb ks) = match P2 k ks with | some u => (u, 1, 0) | none => Z6 k ty fr lb ks := by
 rw [J0, A7h _ _ h]
 exact B5I k ty fr lb ks
theorem A5C {k : Int} (h : 0 ≤ C4 k) : 1 ≤ k ∧ k ≤ 14 := by
 by_cases hk : 1 ≤ k ∧ k ≤ 14
 ·exact hk
 ·rw [A3O hk] at h; omega
theorem A5D {k : Int} {nm : ByteArray} {num : Int} {ty fr : Ty} {lb : Int} {ks : List Tm} (hc : cv (.mk k nm num ty fr lb ks)) (hv : C5 (.mk k nm num ty fr lb ks) = false) (h : ∀ i, i < (if k = 9 then 1 else ks.length) → (hl : i < ks.length) → C5 ks[i] = true) : k = 1 ∨ k = 6 ∨ k = 7 ∨ k = 8 ∨ k = 9 ∨ k = 11 ∨ k = 12 ∨ k = 14 := by
 obtain ⟨hN, _⟩ := hc.node
 have hr := A5C (by rw [hN.ops]; omega : 0 ≤ C4 k)
 have h13 := hN.ne
 have h25 : ¬(k = 2 ∨ k = 3 ∨ k = 4 ∨ k = 5) := by
  intro hk
  rw [C5, if_neg (by omega)] at hv
  rw [decide_eq_true hk] at hv
  cases hv
 have h10 : k ≠ 10 := by
  rintro rfl
  rw [A3k (.inl rfl), List.all_eq_false] at hv
  obtain ⟨t, ht, hn⟩ := hv
  obtain ⟨i, hi, rfl⟩ := List.mem_iff_getElem.1 ht
  exact hn (h i (by rw [if_neg (by decide)]; exact hi) hi)
 omega
theorem B0v (t : Tm) (G : IM) (cells : List Value) (hr : A8 G t cells) : Fn Tryz.prog 218 [.agg ⟨cells⟩] [] G (H8 (.int .i64 ((if t.k = 9 then 1 else t.ks.length : Nat) : Int)) G) := by
 obtain ⟨k, nm, num, ⟨tk, tks⟩, ⟨fk, fks⟩, lb, ks⟩ := t
 obtain ⟨pt, ct, pf, cf, p, c, es, rfl, hk, hnum, hlb, hty, hfr, hsl, hkl⟩ := hr.open9
 rw [show (Tm.mk k nm num (.mk tk tks) (.mk fk fks) lb ks).k = k from rfl, show (Tm.mk k nm num (.mk tk tks) (.mk fk fks) lb ks).ks = ks from rfl]
 refine B7 Tryz.func218 rfl Tryz.ntmps218 Tryz.results218 rfl ?_
 intro w0
 refine A1 ?_
 refine sE (C7 rfl rfl) rfl (fun b3 => ?_)
 refine D0 ?_
 refine sB (qE rfl rfl) rfl rfl (fun h12 => ?_) (fun h12 => ?_)
 refine J4 ?_
 (exact ⟨rfl, by rw [if_pos (by omega)]; rfl, rfl⟩)
 refine I6 ?_
 (exact ⟨rfl, by rw [if_neg (by omega)], rfl⟩)
theorem B5U {k : Int} (h8 : k = 1 ∨ k = 6 ∨ k = 7 ∨ k = 8 ∨ k = 9 ∨ k = 11 ∨ k = 12 ∨ k = 14) (h : C4 k = 0) : k = 1 := by
 rcases h8 with rfl | rfl | rfl | rfl | rfl | rfl | rfl | rfl
 ·rfl
 all_goals exact absurd h (by decide)
theorem A7i {G : IM} {r r' : Stp} {u : Tm} {cells : List Value} {c l : Int} (h1 : r.2.1 = c) (h2 : r.2.2 = l) (hr : A8 G u cells) (h3 : c = 1 → u = r.1) : R7 r G (.tuple ⟨[.agg ⟨cells⟩, .int .i64 c, .int .i64 l]⟩) [] := by
 subst h1 h2; exact ⟨rfl, u, cells, rfl, hr, h3⟩
theorem B5V : ∀ (t : Tm) (G : IM) (cells : List Value), cv t → C5 t = false → A8 G t cells → Fn Tryz.prog 169 [.agg ⟨cells⟩] [] G (R7 (J0 t)) := by
 refine Tm.ind fun k nm num ty fr lb ks ih G cells hc hv hr => ?_
 have hr0 := hr
 have hN := hc.node.1
 have hkk := hc.node.2
 have hsm := A2f _ hc
 obtain ⟨_, _, _, _, hksm⟩ := A0F.1 hsm
 have hops := hN.ops
 have hle3 := A1x k
 have hkd := @A5D k nm num ty fr lb ks hc hv
 have hrd := @B5T k nm num ty fr lb ks
 have hkidS := fun (i : Nat) => @B0u k nm num ty fr lb ks i
 have hRA := fun h => @B0s k nm num ty fr lb ks G cells hc h hr
 have hCA := fun h (G1 : IM) (hle : C2 G G1) => @B5P k nm num ty fr lb ks G1 cells hc h (hr.mono hle)
 have hCt := B0v _ G _ hr
 rw [show (Tm.mk k nm num ty fr lb ks).k = k from rfl, show (Tm.mk k nm num ty fr lb ks).ks = ks from rfl] at hCt
 obtain ⟨C, hC⟩ : ∃ C : Nat, (if k = 9 then 1 else ks.length : Nat) = C := ⟨_, rfl⟩
 rw [hC] at hCt hkd hrd
 have hkidS' := fun (i : Nat) (hi : i < ks.length) (hn : i < C) => hkidS i hi (by rw [hC]; exact hn)
 have hC9 : C ≤ ks.length := by rw [← hC]; split; (have : C4 k = 3 := by (rename_i h9; rw [h9]; rfl)); omega; omega
 have hrul := hkd
 obtain ⟨tk, tks⟩ := ty
 obtain ⟨fk, fks⟩ := fr
 obtain ⟨pt, ct, pf, cf, p, c, es, rfl, hk, hnum, hlb, hty, hfr, hsl, hkl⟩ := hr.open9
 have hn := hsl.le
 have hnc := hsl.sl.2.1
 refine B7 Tryz.func169 rfl Tryz.ntmps169 Tryz.results169 rfl ?_
 intro w0
 refine A1 ?_
 refine sE (C7 rfl rfl) rfl (fun b3 => ?_)
 refine sE (B0 rfl) rfl (fun b4 => ?_)
 refine A7 ?_
 refine E3 E4 rfl ?_
 refine J5 (i := 0) (l' := [tt,ff,ff,ff,ff,ff,ff]) rfl D7 (B9 rfl) rfl (by kernel_rfl) rfl rfl ?_
 refine aL 1 rfl (D3 rfl rfl) rfl ?_
 refine aL 2 rfl (A4 rfl rfl) rfl ?_
 refine aP 6 rfl (qM rfl) rfl ?_
 refine A3 3 ?_
 refine P4 rfl rfl (hCt) rfl rfl rfl ?_
 refine aP 4 rfl (A6u (l := C) rfl rfl rfl (by omega)) rfl ?_
 refine aP 5 rfl (pLn rfl rfl) rfl ?_
 refine A1 ?_
 refine C0 ?_
 (refine L9 (fun (i : Nat) => ⟨[(19, .int .i64 (i : Int)), (18, .int .i64 (C : Int)), (17, .slice p C c), (1, .pointer (some ⟨b3, 0, none⟩)), (2, .pointer (some ⟨b4, 0, none⟩))], [.blk b4 [.int .i64 0, .string ⟨⟨[]⟩⟩, .int .i64 0, .int .i64 0, .slice none 0 0, .int .i64 0, .slice none 0 0, .int .i64 0, .slice none 0 0], .blk b3 [.int .i64 k, .string nm, .int .i64 num, .int .i64 tk, .slice pt tks.length ct, .int .i64 fk, .slice pf fks.length cf, .int .i64 lb, .slice p ks.length c]], G⟩) (fun i => i ≤ C ∧ ∀ j, j < i → (h : j < ks.length) → C5 ks[j] = true) (fun i => C - i) 0 ?_ ?_ ?_)
 exact D5
 (exact ⟨Nat.zero_le _, fun j hj => absurd hj (Nat.not_lt_zero j)⟩)
 (rintro i ⟨hi, hj⟩)
 refine A1 ?_
 refine sB (K6 rfl rfl) rfl rfl (fun h29 => ?_) (fun h29 => ?_)
 refine B4 ?_
 refine C0 ?_
 refine B6 ?_
 (have hiC : i < C := (by omega); obtain ⟨bx, ox, e, rfl, hl, hat, hre, hgb⟩ := hsl.kidTm hkl (i := i) (by omega) (by omega); have heo := hre.one; have hVi := A5x ks[i] G e hre; refine sP (B8 (j := i) rfl rfl rfl hiC) rfl rfl ?_)
 refine sL (A2 rfl rfl (hat _) hl) rfl rfl ?_
 refine sE (B0 rfl) rfl (fun b43 => ?_)
 refine E8 ?_
 refine sS rfl rfl rfl hl heo rfl ?_ (hu := by exact C9 hl.symm)
 refine B1 ?_
 refine sL (A2 rfl rfl (B2 (by repeat first | exact mH | apply mT)) hl) rfl rfl ?_
 refine E1 rfl (hVi) rfl rfl (fun h52 => ?_) (fun h52 => ?_)
 refine D0 ?_
 refine sP (K5 rfl rfl (by omega) (by omega)) rfl rfl ?_
 refine A1 ?_
 refine L0 (i + 1) ?_ ?_ ?_
 exact D5
 (exact ⟨by omega, fun j hji hl2 => (by by_cases he : j = i; (subst he; assumption); exact hj j (by omega) hl2)⟩)
 (show C - (i + 1) < C - i; omega)
 refine B4 ?_
 refine sL (A2 rfl rfl (B2 (by repeat first | exact mH | apply mT)) hl) rfl rfl ?_
 (have hvF : C5 ks[i] = false := (by assumption); obtain ⟨hs1, hs2, hs3⟩ := hkidS' i (by omega) hiC (fun j hji hl2 => hj j hji hl2) hvF; refine E7 rfl (ih ks[i] (List.getElem_mem (by omega)) G e (hkk _ (List.getElem_mem (by omega))) hvF hre) rfl rfl (fun v G1 hle1 hh => ?_); obtain ⟨u, uc, rfl, hru, hu1⟩ := hh; have hul := hru.len; have huo := hru.one; have hClo := A9T G1 _ ks.length c es (hsl.mono hle1) (by omega) (by omega))
 refine B3 ?_
 refine sE (B0 rfl) rfl (fun b81 => ?_)
 refine sS rfl rfl rfl hul huo rfl ?_ (hu := by exact C9 hul.symm)
 refine B4 ?_
 refine sE (B0 rfl) rfl (fun b90 => ?_)
 refine B4 ?_
 (refine A4N rfl hClo rfl rfl (fun v98 G98 outs98 hle98 h98 => ?_); obtain ⟨hG, p1, c1, rfl, rfl⟩ := h98; replace hG := hG.symm; subst hG; refine A4a (cs := es.flatten) (by repeat (first | exact Pk.here | apply Pk.there)) (by omega) (fun bc Cc hpe hnc1 hcm => ?_); subst hpe)
 replace hru := hru.mono hle98
 refine D8 ?_
 refine sL (A2 rfl rfl (B2 (by repeat first | exact mH | apply mT)) hul) rfl rfl ?_
 refine sP (B8 (j := i) rfl rfl rfl (by omega)) rfl rfl ?_
 refine Y4 rfl rfl rfl hul huo rfl (by repeat first | exact Sw.here | apply Sw.there) (by exact A4b (by rw [hkl.len]; omega) (fun e he => (hsl.all e he)) hul) ?_
 refine O0 ?_
 (refine A23 (bs := [(bc, (es.set i uc).flatten ++ Cc)]) (Pk.perm (by repeat (first | exact Pk.here | apply Pk.there))) (fun hn2 hd2 hle2 => ?_))
 refine A7 ?_
 refine D1 (rC rfl (A4 rfl rfl)) (rT rfl) (rT rfl) ?_
 (have hks2 := D9.set (j := i) ((hkl.mono hle1).mono hle2) (hru.mono hle2); refine A7i (r' := S3) hs1 hs2 (A8.put (us := ks.set i u) (es := es.set i uc) hk hnum hlb ((hty.mono hle1).mono hle2) ((hfr.mono hle1).mono hle2) (by rw [List.length_set]) (D6.of (Sl.of_blk (A := []) (by rw [A1q hks2.all, hks2.len, List.length_set]) (by omega) hcm (Wi.in hn2 List.mem_cons_self)) (by rw [hks2.len, List.length_set]) hks2.all (fun e he => by obtain ⟨q, hq⟩ := List.getElem?_of_mem he; exact (hks2.inv hq E2).2.one)) hks2) (fun h1 => by rw [hs3 h1, hu1 h1]))
 refine J6 ?_
 focus (have hall : ∀ i, i < C → (hl : i < ks.length) → C5 ks[i] = true := (fun j hjc hl2 => hj j (by omega) hl2); have hk8 := hkd hall; have hrd' := hrd hall; refine E7 rfl (hRA hk8) rfl rfl (fun v G1 hle1 hh => ?_); obtain ⟨u, uc, cc, rfl, hru, hy, hno⟩ := hh; have hul := hru.len; have huo := hru.one; rcases hm : P2 k ks with _ | x; rotate_left; obtain ⟨rfl, rfl⟩ := hy _ hm; rotate_left; obtain rfl := hno hm; rw [hm] at hrd')
 refine B6 ?_
 refine sE (B0 rfl) rfl (fun b149 => ?_)
 refine sS rfl rfl rfl hul huo rfl ?_ (hu := by exact C9 hul.symm)
 refine A7 ?_
 refine sP (H7 rfl rfl (by omega)) rfl rfl ?_
 refine J4 ?_
 refine sB (qE rfl rfl) rfl rfl (fun h169 => ?_) (fun h169 => ?_)
 refine J6 ?_
 refine D1 (rC rfl (A4 rfl rfl)) (rT rfl) (rT rfl) ?_
 (obtain rfl : k = 1 := B5U hk8 (by omega); rw [hrd']; exact R7.mk rfl (M1 _))
 refine D0 ?_
 (have hk7 : k = 6 ∨ k = 7 ∨ k = 8 ∨ k = 9 ∨ k = 11 ∨ k = 12 ∨ k = 14 := (by rcases hk8 with h1 | hh; (rw [h1] at hops; have : C4 1 = 0 := rfl; omega); exact hh); refine E7 rfl (hCA hk7 _ hle1) rfl rfl (fun v G2 hle2 hh => ?_); obtain ⟨w, wc, rfl, hrw, hw1⟩ := hh; have hwl := hrw.len; have hwo := hrw.one)
 refine B6 ?_
 refine sS rfl rfl rfl hwl hwo rfl ?_ (hu := by exact C9 hwl.symm)
 refine B1 ?_
 refine D1 (rC rfl (A2 rfl rfl (B2 (by repeat first | exact mH | apply mT)) hwl)) (rT rfl) (rT rfl) ?_
 (rw [hrd']; exact A7i (r' := S3) rfl rfl hrw hw1)
 refine B6 ?_
 refine sE (B0 rfl) rfl (fun b208 => ?_)
 refine sS rfl rfl rfl hul huo rfl ?_ (hu := by exact C9 hul.symm)
 refine A7 ?_
 refine sP (S8 rfl rfl (by omega)) rfl rfl ?_
 refine B1 ?_
 refine sL (A2 rfl rfl (B2 (by repeat first | exact mH | apply mT)) hul) rfl rfl ?_
 refine E8 ?_
 refine sS rfl rfl rfl hul huo rfl ?_ (hu := by exact C9 hul.symm)
 refine A7 ?_
 refine D1 (rC rfl (A2 rfl rfl (B2 (by repeat first | exact mH | apply mT)) hul)) (rT rfl) (rT rfl) ?_
 (rw [hrd', hm]; exact R7.mk rfl hru)
def K9 (r : Stp) : IM → Value → List A5 → Prop := M9 fun G' v => ∃ cells, v = .tuple ⟨[.agg ⟨cells⟩, .int .i64 r.2.1, .int .i64 r.2.2]⟩ ∧ A8 G' r.1 cells
theorem K9.mk {G : IM} {r : Stp} {u : Tm} {c l : Int} {cells : List Value} (h : r = (u, c, l)) (hr : A8 G u cells) : K9 r G (.tuple ⟨[.agg ⟨cells⟩, .int .i64 c, .int .i64 l]⟩) [] := by
 subst h; exact ⟨rfl, cells, rfl, hr⟩
theorem A3n {t : Tm} (h : J1 t = true) : t.small := A2f t (A0Z h).1
theorem B0w {e : Tm} (h : J1 e = false) : H2 e = (E2, 3, 0) := by unfold H2; rw [if_pos h]; rfl
theorem A7j {e : Tm} (h : J1 e = true) (h2 : C5 e = true) : H2 e = (e, 0, 0) := by unfold H2; rw [if_neg (by rw [h]; decide), if_pos h2]
theorem A7k {e : Tm} (h : J1 e = true) (h2 : C5 e = false) (h3 : (J0 e).2.1 ≠ 1) : H2 e = (E2, (J0 e).2.1, (J0 e).2.2) := by
 unfold H2; rw [if_neg (by rw [h]; decide), if_neg (by rw [h2]; decide), if_pos h3]
theorem A7l {e : Tm} (h : J1 e = true) (h2 : C5 e = false) (h3 : (J0 e).2.1 = 1) (h4 : J1 (J0 e).1 = false) : H2 e = (E2, 4, 0) := by
 unfold H2; rw [if_neg (by rw [h]; decide), if_neg (by rw [h2]; decide), if_neg (by omega), if_pos h4]
theorem A7m {e : Tm} (h : J1 e = true) (h2 : C5 e = false) (h3 : (J0 e).2.1 = 1) (h4 : J1 (J0 e).1 = true) : H2 e = ((J0 e).1, 1, 0) := by
 unfold H2; rw [if_neg (by rw [h]; decide), if_neg (by rw [h2]; decide), if_neg (by omega), if_neg (by rw [h4]; decide)]
theorem B5W (t : Tm) (G : IM) (cells : List Value) (hr : A8 G t cells) : Fn Tryz.prog 124 [.agg ⟨cells⟩] [] G (K9 (H2 t)) := by
 have hRl := hr.len
 have hRo := hr.one
 have hV := A41 t G cells hr
 have hI := A5x t G cells hr
 refine B7 Tryz.func124 rfl Tryz.ntmps124 Tryz.results124 rfl ?_
 intro w0
 refine A1 ?_
 refine sE (C7 rfl rfl) rfl (fun b3 => ?_)
 refine sE (B0 rfl) rfl (fun b4 => ?_)
 refine B1 ?_
 refine C0 ?_
 refine A1 ?_
 refine sL (A2 rfl rfl (B2 (by repeat first | exact mH | apply mT)) hRl) rfl rfl ?_
 refine E1 rfl (hV) rfl rfl (fun h14 => ?_) (fun h14 => ?_)
 refine B4 ?_
 refine sL (A2 rfl rfl (B2 (by repeat first | exact mH | apply mT)) hRl) rfl rfl ?_
 refine E1 rfl (hI) rfl rfl (fun h23 => ?_) (fun h23 => ?_)
 refine A7 ?_
 refine sL (A2 rfl rfl (B2 (by repeat first | exact mH | apply mT)) hRl) rfl rfl ?_
 (refine E7 rfl (A27 t G cells (A3n (by assumption)) hr) rfl rfl (fun v G1 hle1 hh => ?_); obtain ⟨T8, F1, rfl, hs1, hn1⟩ := hh; have hul := hs1.R.len; have huo := hs1.R.one)
 refine sS rfl rfl rfl hul huo rfl ?_ (hu := by exact C9 hul.symm)
 refine B4 ?_
 refine D1 (rC rfl (A2 rfl rfl (B2 (by repeat first | exact mH | apply mT)) hul)) (rT rfl) (rT rfl) ?_
 (exact K9.mk (A7j (by assumption) (by assumption)) (hs1.R.mono (C8.le _ _)))
 refine D8 ?_
 refine sL (A2 rfl rfl (B2 (by repeat first | exact mH | apply mT)) hRl) rfl rfl ?_
 (refine E7 rfl (B5V t G cells (A0Z (by assumption)).1 (by assumption) hr) rfl rfl (fun v G1 hle1 hh => ?_); obtain ⟨u, uc, rfl, hru, hu1⟩ := hh; have hul := hru.len; have huo := hru.one; have hVu := A41 u G1 uc hru)
 refine B3 ?_
 refine sE (B0 rfl) rfl (fun b57 => ?_)
 refine sS rfl rfl rfl hul huo rfl ?_ (hu := by exact C9 hul.symm)
 refine B1 ?_
 refine C0 ?_
 refine B6 ?_
 refine sB (N7 rfl rfl) rfl rfl (fun h68 => ?_) (fun h68 => ?_)
 refine V3 ?_
 refine D1 (rC rfl (A4 rfl rfl)) (rT rfl) (rT rfl) ?_
 (exact K9.mk (A7k (by assumption) (by assumption) (by omega)) (M1 _))
 refine A7 ?_
 refine sL (A2 rfl rfl (B2 (by repeat first | exact mH | apply mT)) hul) rfl rfl ?_
 refine E1 rfl (hVu) rfl rfl (fun h95 => ?_) (fun h95 => ?_)
 refine J2 ?_
 refine sL (A2 rfl rfl (B2 (by repeat first | exact mH | apply mT)) hul) rfl rfl ?_
 (refine E7 rfl (A27 u G1 uc (A3n (by assumption)) hru) rfl rfl (fun v G2 hle2 hh => ?_); obtain ⟨cs2, F2, rfl, hs2, hn2⟩ := hh; have hwl := hs2.R.len; have hwo := hs2.R.one)
 refine sS rfl rfl rfl hwl hwo rfl ?_ (hu := by exact C9 hwl.symm)
 refine B1 ?_
 refine D1 (rC rfl (A2 rfl rfl (B2 (by repeat first | exact mH | apply mT)) hwl)) (rT rfl) (rT rfl) ?_
 (have h9 := hu1 (by omega); subst h9; exact K9.mk (A7m (by assumption) (by assumption) (by omega) (by assumption)) (hs2.R.mono (C8.le _ _)))
 refine J7 ?_
 refine D1 (rC rfl (A4 rfl rfl)) (rT rfl) (rT rfl) ?_
 (have h9 := hu1 (by omega); subst h9; exact K9.mk (A7l (by assumption) (by assumption) (by omega) (by assumption)) (M1 _))
 refine J7 ?_
 refine D1 (rC rfl (A4 rfl rfl)) (rT rfl) (rT rfl) ?_
 (exact K9.mk (B0w (by assumption)) (M1 _))
def Q4 : Nat → Tm → Tm × Int × Int × Nat
 | 0, e => ((H2 e).1, (H2 e).2.1, (H2 e).2.2, 0)
 | n + 1, e => if (H2 e).2.1 = 1 then ((Q4 n (H2 e).1).1, (Q4 n (H2 e).1).2.1, (Q4 n (H2 e).1).2.2.1, (Q4 n (H2 e).1).2.2.2 + 1)
  else ((H2 e).1, (H2 e).2.1, (H2 e).2.2, 0)
theorem A7n (e : Tm) : Q4 0 e = ((H2 e).1, (H2 e).2.1, (H2 e).2.2, 0) := by rw [Q4]
theorem A7o {n : Nat} {e : Tm} (h : (H2 e).2.1 = 1) : Q4 (n + 1) e = ((Q4 n (H2 e).1).1, (Q4 n (H2 e).1).2.1, (Q4 n (H2 e).1).2.2.1, (Q4 n (H2 e).1).2.2.2 + 1) := by rw [Q4, if_pos h]
theorem A7p {n : Nat} {e : Tm} (h : (H2 e).2.1 ≠ 1) : Q4 (n + 1) e = ((H2 e).1, (H2 e).2.1, (H2 e).2.2, 0) := by rw [Q4, if_neg h]
theorem B0x : ∀ (n : Nat) (e : Tm), (Q4 n e).2.1 = 1 → K7 n e = (E2, 5, 0, (Q4 n e).2.2.2)
 | 0, e, h => by rw [A7n] at h ⊢; rw [K7, if_pos h]
 | n + 1, e, h => by
  by_cases h1 : (H2 e).2.1 = 1
  ·rw [A7o h1] at h ⊢
   rw [K7, if_pos h1, B0x n _ h]
  ·rw [A7p h1] at h; exact absurd h h1
theorem B0y : ∀ (n : Nat) (e : Tm), (Q4 n e).2.1 ≠ 1 → K7 n e = Q4 n e
 | 0, e, h => by rw [A7n] at h ⊢; rw [K7, if_neg h]
 | n + 1, e, h => by
  by_cases h1 : (H2 e).2.1 = 1
  ·rw [A7o h1] at h ⊢
   rw [K7, if_pos h1, B0y n _ h]
  ·rw [A7p h1]; rw [K7, if_neg h1]
def EvP (r : Tm × Int × Int × Nat) : IM → Value → List A5 → Prop := M9 fun G' v => ∃ cells, v = .tuple ⟨[.agg ⟨cells⟩, .int .i64 r.2.1, .int .i64 r.2.2.1, .int .i64 (r.2.2.2 : Int)]⟩ ∧ A8 G' r.1 cells
def W4 (i : Nat) (r : Tm × Int × Int × Nat) : Tm × Int × Int × Nat := (r.1, r.2.1, r.2.2.1, r.2.2.2 + i)
theorem B5X {m i : Nat} {e : Tm} (h : (H2 e).2.1 ≠ 1 ∨ m = 0) : W4 i (Q4 m e) = ((H2 e).1, (H2 e).2.1, (H2 e).2.2, i) := by
 cases m with
 | zero => simp [W4, Q4]
 | succ m =>
  rcases h with h | h
  ·simp only [W4, Q4]; rw [if_neg h]; simp
  ·cases h
theorem B5Y {m i : Nat} {e : Tm} (h : (H2 e).2.1 = 1) (hm : 0 < m) : W4 i (Q4 m e) = W4 (i + 1) (Q4 (m - 1) (H2 e).1) := by
 obtain ⟨k, rfl⟩ : ∃ k, m = k + 1 := ⟨m - 1, by omega⟩
 simp only [W4, Q4]; rw [if_pos h]; simp only [Nat.add_sub_cancel, Nat.add_assoc, Nat.add_comm 1 i]
section fin
variable {P : Program} {Γ : L8} {env : M7} {hp : List A5} {G : IM}
theorem B5Z {post : IM → Value → List A5 → Prop} {σ : Sy} (hk : post σ.G (.tuple ⟨[]⟩) []) : A0v P Γ [] post .normal σ := ⟨[], .nil, [], σ.hp, by simp, hk⟩
theorem A2R {r r2 r3 r4 : ResultVar} {post : IM → Value → List A5 → Prop} {v v2 v3 v4 : Value} (h : X0 P Γ ⟨env, hp, G⟩ r v) (h2 : X0 P Γ ⟨env, hp, G⟩ r2 v2) (h3 : X0 P Γ ⟨env, hp, G⟩ r3 v3) (h4 : X0 P Γ ⟨env, hp, G⟩ r4 v4) (hk : post G (.tuple ⟨[v, v2, v3, v4]⟩) []) :
  A0v P Γ [r, r2, r3, r4] post .ret ⟨env, hp, G⟩ := A3G (.cons h (.cons h2 (.cons h3 (.cons h4 .nil)))) hk
end fin
theorem EvP.mk {G : IM} {r : Tm × Int × Int × Nat} {u : Tm} {c l : Int} {i : Nat} {cells : List Value} (h : r = (u, c, l, i)) (hr : A8 G u cells) : EvP r G (.tuple ⟨[.agg ⟨cells⟩, .int .i64 c, .int .i64 l, .int .i64 (i : Int)]⟩) [] := by
 subst h; exact ⟨rfl, cells, rfl, hr⟩
theorem B50 (e : Tm) (n : Nat) (hn : n ≤ 300) (fid : FuncId) [B5 Tryz.prog fid] (us cs : List Value) (hq : ∀ (G : IM) (u : Tm) (cells : List Value), A8 G u cells → Fn Tryz.prog fid (us ++ [.agg ⟨cells⟩] ++ cs) [] G (H8 (.tuple ⟨[]⟩) G))
  (G : IM) (cells : List Value) (hr : A8 G e cells) : Fn Tryz.prog 54 [.agg ⟨cells⟩, .int .i64 (n : Int), .func (.func fid) ⟨us⟩ ⟨cs⟩] [] G (EvP (Q4 n e)) := by
 have hRl := hr.len
 have hRo := hr.one
 have hq0 := hq G e cells hr
 refine B7 Tryz.func54 rfl Tryz.ntmps54 Tryz.results54 rfl ?_
 intro w0
 refine A1 ?_
 refine sE (C7 rfl rfl) rfl (fun b3 => ?_)
 refine sE (B0 rfl) rfl (fun b4 => ?_)
 refine D0 ?_
 refine sL (A2 rfl rfl (B2 (by repeat first | exact mH | apply mT)) hRl) rfl rfl ?_
 (refine A8g rfl rfl hq0 rfl rfl ?_)
 refine B4 ?_
 refine C0 ?_
 (refine L9 (fun (x : Nat × Tm × List Value × IM) => ⟨[(10, .int .i64 (x.1 : Int)), (1, .int .i64 (n : Int)), (2, .func (.func fid) ⟨us⟩ ⟨cs⟩), (3, .pointer (some ⟨b3, 0, none⟩)), (6, .pointer (some ⟨b4, 0, none⟩))], [.blk b3 x.2.2.1, .blk b4 [.int .i64 0, .string ⟨⟨[]⟩⟩, .int .i64 0, .int .i64 0, .slice none 0 0, .int .i64 0, .slice none 0 0, .int .i64 0, .slice none 0 0]], x.2.2.2⟩) (fun x => x.1 ≤ n ∧ C2 G x.2.2.2 ∧ A8 x.2.2.2 x.2.1 x.2.2.1 ∧ W4 x.1 (Q4 (n - x.1) x.2.1) = Q4 n e) (fun x => n - x.1) (0, e, cells, G) ?_ ?_ ?_)
 (simp only [I7]; exact D5)
 (exact ⟨Nat.zero_le _, C2.refl _, hr, rfl⟩)
 (rintro ⟨i, u, uc, Gi⟩ ⟨hi, hle, hru, hev⟩; simp only [] at hi hle hru hev ⊢; have hul := hru.len; have huo := hru.one)
 refine tS ?_
 refine C0 ?_
 refine A1 ?_
 refine sL (A2 rfl rfl (B2 (by repeat first | exact mH | apply mT)) hul) rfl rfl ?_
 (refine E7 rfl (B5W u Gi uc hru) rfl rfl (fun v G1 hle1 hh => ?_); obtain ⟨wc, hv, hrw⟩ := hh; have hwl := hrw.len; have hwo := hrw.one; have hend := @B5X (n - i) i u; have hgo := @B5Y (n - i) i u; generalize H2 u = r at hv hrw hend hgo; obtain ⟨w, c, l⟩ := r; simp only at hv hrw hend hgo; subst hv)
 refine B3 ?_
 refine sE (B0 rfl) rfl (fun b37 => ?_)
 refine sS rfl rfl rfl hwl hwo rfl ?_ (hu := by exact C9 hwl.symm)
 refine D0 ?_
 refine sB (N7 rfl rfl) rfl rfl (fun h47 => ?_) (fun h47 => ?_)
 refine J2 ?_
 refine sL (A2 rfl rfl (B2 (by repeat first | exact mH | apply mT)) hwl) rfl rfl ?_
 refine B6 ?_
 refine sS rfl rfl rfl hwl hwo rfl ?_ (hu := by exact C9 hwl.symm)
 refine J4 ?_
 refine A2R (rC rfl (A2 rfl rfl (B2 (by repeat first | exact mH | apply mT)) hwl)) (rT rfl) (rT rfl) (rT rfl) ?_
 (exact EvP.mk (by rw [← hev]; exact hend (by omega)) hrw)
 refine B6 ?_
 refine sB (qE rfl rfl) rfl rfl (fun h79 => ?_) (fun h79 => ?_)
 refine A7 ?_
 refine sL (A2 rfl rfl (B2 (by repeat first | exact mH | apply mT)) hwl) rfl rfl ?_
 refine B6 ?_
 refine sS rfl rfl rfl hwl hwo rfl ?_ (hu := by exact C9 hwl.symm)
 refine J4 ?_
 refine A2R (rC rfl (A2 rfl rfl (B2 (by repeat first | exact mH | apply mT)) hwl)) (rT rfl) (rT rfl) (rT rfl) ?_
 (exact EvP.mk (by rw [← hev]; exact hend (by omega)) hrw)
 refine D0 ?_
 refine sL (A2 rfl rfl (B2 (by repeat first | exact mH | apply mT)) hwl) rfl rfl ?_
 refine Y4 rfl rfl rfl hwl hwo rfl (by repeat first | exact Sw.here | apply Sw.there) (by exact C9 (hul.trans hwl.symm)) ?_
 refine B3 ?_
 refine sL (A2 rfl rfl (B2 (by repeat first | exact mH | apply mT)) hwl) rfl rfl ?_
 (refine A8g rfl rfl (hq G1 w wc hrw) rfl rfl ?_)
 refine B1 ?_
 refine sP (K5 rfl rfl (by omega) (by omega)) rfl rfl ?_
 refine A1 ?_
 refine L0 (i + 1, w, wc, G1) ?_ ?_ ?_
 (simp only [I7]; exact D5)
 (dsimp only; exact ⟨by omega, hle.trans hle1, hrw, by rw [← hev, hgo (by omega) (by omega), show n - (i + 1) = n - i - 1 by omega]⟩)
 (show n - (i + 1) < n - i; omega)
theorem B0z (fuel : Int) (G : IM) : Fn Tryz.prog 53 [.int .i64 fuel] [] G (H8 (.bool (Q0 fuel 0 300)) G) := by
 refine B7 Tryz.func53 rfl Tryz.ntmps53 Tryz.results53 rfl ?_
 intro w0
 refine D0 ?_
 refine I3 rfl ((A1t _ _ _ _)) rfl rfl ?_
 refine B1 ?_
 (exact ⟨rfl, rfl, rfl⟩)
theorem B0A {e : Tm} {fuel : Int} (h : Q0 fuel 0 300 = false) : Q3 e fuel = (E2, 3, 0) := by
 unfold Q3; rw [if_neg (A6f h)]; rfl
theorem B0B {e : Tm} {fuel : Int} (h : Q0 fuel 0 300 = true) (h1 : (Q4 fuel.toNat e).2.1 = 1) : Q3 e fuel = (E2, 5, 0) := by
 unfold Q3; rw [if_pos (A24 h), B0x _ _ h1]
theorem B0C {e : Tm} {fuel : Int} (h : Q0 fuel 0 300 = true) (h1 : (Q4 fuel.toNat e).2.1 ≠ 1) : Q3 e fuel = ((Q4 fuel.toNat e).1, (Q4 fuel.toNat e).2.1, (Q4 fuel.toNat e).2.2.1) := by
 unfold Q3; rw [if_pos (A24 h), B0y _ _ h1]
theorem B51 (G : IM) (cells : List Value) (hl : cells.length = 9) (ho : cells.all (·.oneCell') = true) : Fn Tryz.prog 55 [.agg ⟨cells⟩] [] G (H8 (.tuple ⟨[]⟩) G) := by
 refine B7 Tryz.func55 rfl Tryz.ntmps55 Tryz.results55 rfl ?_
 intro w0
 refine tR ?_
 refine sE (C7 rfl rfl) rfl (fun b2 => ?_)
 refine sD ?_
 refine B5Z ?_
 (exact ⟨rfl, rfl, rfl⟩)
theorem B52 (e : Tm) (fuel : Int) (G : IM) (cells : List Value) (hr : A8 G e cells) : Fn Tryz.prog 15 [.agg ⟨cells⟩, .int .i64 fuel] [] G (K9 (Q3 e fuel)) := by
 have hRl := hr.len
 have hRo := hr.one
 have hno := @B0A e fuel
 have hmu := @B0B e fuel
 have hen := @B0C e fuel
 refine B7 Tryz.func15 rfl Tryz.ntmps15 Tryz.results15 rfl ?_
 intro w0
 refine A1 ?_
 refine sE (C7 rfl rfl) rfl (fun b3 => ?_)
 refine sE (B0 rfl) rfl (fun b4 => ?_)
 refine D0 ?_
 refine E1 rfl ((B0z fuel _)) rfl rfl (fun h13 => ?_) (fun h13 => ?_)
 refine D0 ?_
 refine sL (A2 rfl rfl (B2 (by repeat first | exact mH | apply mT)) hRl) rfl rfl ?_
 refine E8 ?_
 (have hf : Q0 fuel 0 300 = true := (by assumption); have hf2 := A24 hf; have hE := B50 e fuel.toNat (by omega) 55 [] [] (fun G u cells hru => B51 G cells hru.len hru.one) G cells hr; rw [Int.toNat_of_nonneg hf2.1] at hE; refine E7 rfl hE rfl rfl (fun v G1 hle1 hh => ?_); obtain ⟨wc, hv, hrw⟩ := hh; have hwl := hrw.len; have hwo := hrw.one; have hmu := hmu hf; have hen := hen hf; generalize Q4 fuel.toNat e = r at hv hrw hmu hen; obtain ⟨w, c, l, i⟩ := r; simp only at hv hrw hmu hen; subst hv)
 refine B1 ?_
 refine sE (B0 rfl) rfl (fun b30 => ?_)
 refine sS rfl rfl rfl hwl hwo rfl ?_ (hu := by exact C9 hwl.symm)
 refine D8 ?_
 refine sB (qE rfl rfl) rfl rfl (fun h41 => ?_) (fun h41 => ?_)
 refine J6 ?_
 refine D1 (rC rfl (A4 rfl rfl)) (rT rfl) (rT rfl) ?_
 (exact K9.mk (hmu (by omega)) (M1 _))
 refine B4 ?_
 refine sL (A2 rfl rfl (B2 (by repeat first | exact mH | apply mT)) hwl) rfl rfl ?_
 refine A1 ?_
 refine sS rfl rfl rfl hwl hwo rfl ?_ (hu := by exact C9 hwl.symm)
 refine B1 ?_
 refine D1 (rC rfl (A2 rfl rfl (B2 (by repeat first | exact mH | apply mT)) hwl)) (rT rfl) (rT rfl) ?_
 (exact K9.mk (hen (by omega)) hrw)
 refine K2 ?_
 refine D1 (rC rfl (A4 rfl rfl)) (rT rfl) (rT rfl) ?_
 (exact K9.mk (hno (by assumption)) (M1 _))
mutual
def V0 (L : Int → Prop) : Tm → Prop
 | .mk k nm num ty fr lb ks => (k = 14 → L lb) ∧ A1E L ks
def A1E (L : Int → Prop) : List Tm → Prop
 | [] => True
 | t :: ts => V0 L t ∧ A1E L ts
end
theorem A0H {L : Int → Prop} {k : Int} {nm : ByteArray} {num : Int} {ty fr : Ty} {lb : Int} {ks : List Tm} : V0 L (.mk k nm num ty fr lb ks) ↔ (k = 14 → L lb) ∧ A1E L ks := by rw [V0]
theorem A11 {L : Int → Prop} : ∀ {ts : List Tm}, A1E L ts ↔ ∀ t ∈ ts, V0 L t
 | [] => by simp [A1E]
 | t :: ts => by rw [A1E, A11 (ts := ts)]; simp
theorem A2S {L : Int → Prop} {e : Tm} {a b : Ty} {l : Int} (hl : L l) (h : V0 L e) : V0 L (N1 e a b l) := by
 rw [N1, A0H]; exact ⟨fun _ => hl, by simp [A1E, h]⟩
theorem A7q {L : Int → Prop} {k : Int} {ks : List Tm} (hk : k ≠ 14) (h : ∀ t ∈ ks, V0 L t) : V0 L (Y8 k ks) := by
 rw [Y8, A0H]; exact ⟨fun e => absurd e hk, A11.2 h⟩
mutual
theorem B0D {L : Int → Prop} {x : ByteArray} {v : Tm} (hv : V0 L v) : ∀ t, V0 L t → V0 L (R3 x v t)
 | .mk k nm num ty fr lb ks, h => by
  rw [A0H] at h
  rw [R3]
  split
  ·exact hv
  ·split
   ·rw [A0H]; exact h
   ·rw [A0H]; exact ⟨h.1, B0E hv ks h.2⟩
theorem B0E {L : Int → Prop} {x : ByteArray} {v : Tm} (hv : V0 L v) : ∀ ts, A1E L ts → A1E L (Q2 x v ts)
 | [], _ => by rw [Q2]; trivial
 | t :: ts, h => by rw [Q2, A1E]; exact ⟨B0D hv t h.1, B0E hv ts h.2⟩
end
theorem A3o {f : Tm} {U : Ty} (hv : C5 f = true) (ht : H9 [] f = some U) (hc : cv f) :
  (U.k = 2 → f.k = 2) ∧ (U.k = 3 → f.k = 3 ∨ f.k = 4) ∧ (U.k = 4 → f.k = 5 ∨ (Q1 f = true ∧ f.ty.k = 4)) ∧ (U.k = 5 → f.k = 10 ∨ (Q1 f = true ∧ f.ty.k = 5)) ∧ (U.k = 1 → inj f = true) := by
 obtain ⟨k, nm, num, ty, fr, lb, ks⟩ := f
 obtain ⟨hN, _⟩ := hc.node
 have hop := hN.ops
 rw [A1j, A4l]
 show (U.k = 2 → k = 2) ∧ (U.k = 3 → k = 3 ∨ k = 4) ∧ (U.k = 4 → k = 5 ∨ (_ ∧ ty.k = 4)) ∧ (U.k = 5 → k = 10 ∨ (_ ∧ ty.k = 5)) ∧ (U.k = 1 → _)
 by_cases h10 : k = 10
 ·subst h10
  obtain ⟨a, b, rfl⟩ := ks2 (ks := ks) (by have : C4 10 = 2 := rfl; omega)
  obtain ⟨A, B, _, _, rfl⟩ := A96 ht
  refine ⟨fun h => ?_, fun h => ?_, fun h => ?_, fun h => .inl rfl, fun h => ?_⟩ <;> (exfalso; simp [Ty.k, Q6, S7] at h)
 by_cases h14 : k = 14
 ·subst h14
  obtain ⟨a, rfl⟩ := Z7 (ks := ks) (by have : C4 14 = 1 := rfl; omega)
  obtain ⟨_, rfl⟩ := A4i ht
  by_cases hp : fr.k = U.k ∧ (U.k = 4 ∨ U.k = 5)
  ·refine ⟨fun h => by omega, fun h => by omega, fun h => .inr ⟨decide_eq_true ⟨rfl, hp⟩, h⟩, fun h => .inr ⟨decide_eq_true ⟨rfl, hp⟩, h⟩, fun h => by omega⟩
  ·by_cases hi : U.k = 1 ∧ S2 fr = true
   ·refine ⟨fun h => by omega, fun h => by omega, fun h => by omega, fun h => by omega, fun _ => ?_⟩
    rw [hi.2, decide_eq_true ⟨rfl, hi.1⟩]; rfl
   ·exfalso
    rw [C5, if_neg (by rintro (h | h | h); exact absurd h (by decide); exact hp h.2; exact hi h.2)] at hv
    exact absurd (of_decide_eq_true hv) (by decide)
 ·have hk : k = 2 ∨ k = 3 ∨ k = 4 ∨ k = 5 := by
   rw [C5, if_neg (by rintro (h | h | h); exact h10 h; exact h14 h.1; exact h14 h.1)] at hv
   exact of_decide_eq_true hv
  by_cases h5 : k = 5
  ·subst h5
   obtain ⟨a, rfl⟩ := Z7 (ks := ks) (by have : C4 5 = 1 := rfl; omega)
   obtain ⟨B, _, rfl⟩ := A98 ht
   refine ⟨fun h => ?_, fun h => ?_, fun h => .inl rfl, fun h => ?_, fun h => ?_⟩ <;> (exfalso; simp [Ty.k, Q6, S7] at h)
  ·have hks : ks = [] := List.length_eq_zero_iff.1 (by
    rcases hk with h | h | h | h
    ·subst h; have : C4 2 = 0 := rfl; omega
    ·subst h; have : C4 3 = 0 := rfl; omega
    ·subst h; have : C4 4 = 0 := rfl; omega
    ·exact absurd h h5)
   subst hks
   by_cases h2 : k = 2
   ·subst h2
    obtain rfl := B5a ht
    refine ⟨fun _ => rfl, fun h => ?_, fun h => ?_, fun h => ?_, fun h => ?_⟩ <;> (exfalso; simp [Ty.k, Q6, S7] at h)
   ·have h34 : k = 3 ∨ k = 4 := by omega
    obtain rfl := B5b h34 ht
    refine ⟨fun h => ?_, fun _ => h34, fun h => ?_, fun h => ?_, fun h => ?_⟩ <;> (exfalso; simp [Ty.k, Q6, S7] at h)
theorem B0F {k : Int} {nm : ByteArray} {num : Int} {ty fr : Ty} {lb : Int} {ks : List Tm} (h : Q1 (.mk k nm num ty fr lb ks) = true) : k = 14 ∧ fr.k = ty.k ∧ (ty.k = 4 ∨ ty.k = 5) := by
 rw [A1j] at h; exact of_decide_eq_true h
theorem B53 {n : Int} (h : A0y n = true) : n ≠ 0 := by
 simp only [A0y, Bool.or_eq_true, A2H] at h; omega
def A2T (L : Int → Prop) (T : Ty) (r : Stp) : Prop := (r.2.1 = 1 ∧ H9 [] r.1 = some T ∧ V0 L r.1) ∨ (r.2.1 = 2 ∧ L r.2.2)
theorem B0G {t : Ty} (h : S2 t = true) : t = W8 t := by
 unfold S2 at h
 rw [Bool.and_eq_true] at h
 exact (X6 _ _).1 h.2
theorem B54 {t u : Ty} (h : t.k = u.k) : W8 t = W8 u := by unfold W8; rw [h]
theorem B55 (L : Int → Prop) (hL : ∀ l, L l → L (-l)) {k : Int} {nm : ByteArray} {num : Int} {ty fr : Ty} {lb : Int} {ks : List Tm} {T : Ty} (hc : cv (.mk k nm num ty fr lb ks))
  (h8 : k = 1 ∨ k = 6 ∨ k = 7 ∨ k = 8 ∨ k = 9 ∨ k = 11 ∨ k = 12 ∨ k = 14) (hnv : C5 (.mk k nm num ty fr lb ks) = false)
  (hval : ∀ i, i < (if k = 9 then 1 else ks.length) → (hl : i < ks.length) → C5 ks[i] = true)
  (ht : H9 [] (.mk k nm num ty fr lb ks) = some T) (hlb : V0 L (.mk k nm num ty fr lb ks)) : A2T L T (S4 k ty fr lb ks) := by
 obtain ⟨hN, hkk⟩ := hc.node
 have hop := hN.ops
 rw [A0H, A11] at hlb
 obtain ⟨hl14, hlk⟩ := hlb
 have hTv := A94 hc ht
 unfold S4
 by_cases h6 : k = 6
 ·subst h6
  obtain ⟨f, v, rfl⟩ := ks2 (ks := ks) (by have : C4 6 = 2 := rfl; omega)
  obtain ⟨A, hf, hv⟩ := B45 ht
  have hcf := hkk f (by simp)
  have hcv := hkk v (by simp)
  have hlf := hlk f (by simp)
  have hlv := hlk v (by simp)
  have hvf : C5 f = true := hval 0 (by simp) (by simp)
  have hfv := A94 hcf hf
  rw [if_pos rfl]
  obtain ⟨_, _, hcan, _⟩ := A3o hvf hf hcf
  obtain ⟨fk, fnm, fnum, fty, ffr, flb, fks⟩ := f
  obtain ⟨hNf, hkf⟩ := hcf.node
  have hopf := hNf.ops
  rw [A0H, A11] at hlf
  show A2T L T (if fk = 5 then (R3 fnm v (kd fks 0), 1, 0) else if Q1 (.mk fk fnm fnum fty ffr flb fks) = true ∧ fty.k = 4 then (N1 (Y8 6 [kd fks 0, N1 v (kt fty.ks 0) (kt ffr.ks 0) (-flb)]) (kt ffr.ks 1) (kt fty.ks 1) flb, 1, 0) else S3)
  by_cases h5 : fk = 5
  ·subst h5
   rw [if_pos rfl]
   obtain ⟨b, rfl⟩ := Z7 (ks := fks) (by have : C4 5 = 1 := rfl; omega)
   obtain ⟨B, hb, hT⟩ := A98 hf
   cases hT
   refine .inl ⟨rfl, ?_, B0D hlv _ (hlf.2 b (by simp))⟩
   exact B0c hv b _ [] _ (hkf b (by simp)) (fun y hy => by rw [A1i, if_neg (fun e => hy e.symm)]) (by rw [A1i, if_pos rfl]) hb
  ·rw [if_neg h5]
   have hcan' : Q1 (.mk fk fnm fnum fty ffr flb fks) = true ∧ fty.k = 4 := (hcan rfl).resolve_left h5
   rw [if_pos hcan']
   obtain ⟨rfl, hfk, _⟩ := B0F hcan'.1
   obtain ⟨g, rfl⟩ := Z7 (ks := fks) (by have : C4 14 = 1 := rfl; omega)
   obtain ⟨hg, rfl⟩ := A4i hf
   obtain ⟨_, hv1, hv2⟩ := hNf.c14 rfl
   obtain ⟨frk, frs⟩ := ffr
   obtain rfl : frk = 4 := hfk.trans hcan'.2
   obtain ⟨C, D, rfl, hC, hD⟩ := A3h (.inl rfl) hv2
   have hfl := hlf.1 rfl
   refine .inl ⟨rfl, ?_, A2S hfl (A7q (by decide) (by
    intro t htm
    simp only [List.mem_cons, List.not_mem_nil, or_false] at htm
    rcases htm with rfl | rfl
    ·exact hlf.2 _ (by simp [kd])
    ·exact A2S (hL _ hfl) hlv))⟩
   exact A1Y (B46 (A := C) hD hg (A1Y hv))
 rw [if_neg h6]
 by_cases h7 : k = 7 ∨ k = 8
 ·obtain ⟨a, b, rfl⟩ := ks2 (ks := ks) (by rcases h7 with h | h <;> subst h <;> (first | (have : C4 7 = 2 := rfl; omega) | (have : C4 8 = 2 := rfl; omega)))
  obtain ⟨ha, hb, hT⟩ := B47 h7 ht
  have hva : C5 a = true := hval 0 (by rw [if_neg (by omega)]; simp) (by simp)
  have hvb : C5 b = true := hval 1 (by rw [if_neg (by omega)]; simp) (by simp)
  have ha2 := (A3o hva ha (hkk a (by simp))).1 rfl
  have hb2 := (A3o hvb hb (hkk b (by simp))).1 rfl
  rw [if_pos h7, if_pos (show (kd [a, b] 0).k = 2 ∧ (kd [a, b] 1).k = 2 from ⟨ha2, hb2⟩)]
  by_cases hk7 : k = 7
  ·rw [if_pos hk7]
   rw [if_neg (by omega)] at hT
   subst hT
   exact .inl ⟨rfl, rfl, by rw [A1z, A0H]; exact ⟨fun e => absurd e (by decide), trivial⟩⟩
  ·rw [if_neg hk7]
   rw [if_pos (by omega)] at hT
   subst hT
   refine .inl ⟨rfl, ?_, ?_⟩
   ·unfold W3; split <;> rfl
   ·unfold W3; exact A7q (by split <;> decide) (by simp)
 rw [if_neg h7]
 by_cases h9 : k = 9
 ·subst h9
  obtain ⟨a, b, c, rfl⟩ := ks3 (ks := ks) (by have : C4 9 = 3 := rfl; omega)
  obtain ⟨ha, hb, hcc⟩ := B48 ht
  have hva : C5 a = true := hval 0 (by simp) (by simp)
  have ha2 := (A3o hva ha (hkk a (by simp))).2.1 rfl
  rw [if_pos rfl]
  show A2T L T (if a.k = 3 then (b, 1, 0) else if a.k = 4 then (c, 1, 0) else S3)
  by_cases h3 : a.k = 3
  ·rw [if_pos h3]; exact .inl ⟨rfl, hb, hlk b (by simp)⟩
  ·rw [if_neg h3, if_pos (by omega)]; exact .inl ⟨rfl, hcc, hlk c (by simp)⟩
 rw [if_neg h9]
 by_cases h11 : k = 11 ∨ k = 12
 ·obtain ⟨a, rfl⟩ := Z7 (ks := ks) (by rcases h11 with h | h <;> subst h <;> (first | (have : C4 11 = 1 := rfl; omega) | (have : C4 12 = 1 := rfl; omega)))
  obtain ⟨A, B, ha, hT⟩ := B49 h11 ht
  have hva : C5 a = true := hval 0 (by rw [if_neg (by omega)]; simp) (by simp)
  have hca := hkk a (by simp)
  have hla := hlk a (by simp)
  have ha2 := (A3o hva ha hca).2.2.2.1 rfl
  rw [if_pos h11]
  obtain ⟨fk, fnm, fnum, fty, ffr, flb, fks⟩ := a
  obtain ⟨hNf, hkf⟩ := hca.node
  have hopf := hNf.ops
  rw [A0H, A11] at hla
  show A2T L T (if fk = 10 then (kd fks (k - 11).toNat, 1, 0) else if Q1 (.mk fk fnm fnum fty ffr flb fks) = true ∧ fty.k = 5 then (N1 (Y8 k [kd fks 0]) (kt ffr.ks (k - 11).toNat) (kt fty.ks (k - 11).toNat) flb, 1, 0) else S3)
  by_cases h10 : fk = 10
  ·subst h10
   rw [if_pos rfl]
   obtain ⟨x, y, rfl⟩ := ks2 (ks := fks) (by have : C4 10 = 2 := rfl; omega)
   obtain ⟨A', B', hx, hy, he⟩ := A96 ha
   cases he
   rcases h11 with rfl | rfl
   ·rw [if_neg (by decide)] at hT; subst hT; exact .inl ⟨rfl, hx, hla.2 x (by simp)⟩
   ·rw [if_pos rfl] at hT; subst hT; exact .inl ⟨rfl, hy, hla.2 y (by simp)⟩
  ·rw [if_neg h10]
   have hcan' : Q1 (.mk fk fnm fnum fty ffr flb fks) = true ∧ fty.k = 5 := ha2.resolve_left h10
   rw [if_pos hcan']
   obtain ⟨rfl, hfk, _⟩ := B0F hcan'.1
   obtain ⟨g, rfl⟩ := Z7 (ks := fks) (by have : C4 14 = 1 := rfl; omega)
   obtain ⟨hg, rfl⟩ := A4i ha
   obtain ⟨_, hv1, hv2⟩ := hNf.c14 rfl
   obtain ⟨frk, frs⟩ := ffr
   obtain rfl : frk = 5 := hfk.trans hcan'.2
   obtain ⟨C, D, rfl, hC, hD⟩ := A3h (.inr rfl) hv2
   have hfl := hla.1 rfl
   refine .inl ⟨rfl, ?_, A2S hfl (A7q (by omega) (by
    intro t htm
    simp only [List.mem_cons, List.not_mem_nil, or_false] at htm
    subst htm
    exact hla.2 _ (by simp [kd])))⟩
   have hg' : H9 [] (kd [g] 0) = some (.mk 5 [C, D]) := hg
   rcases h11 with rfl | rfl
   ·rw [if_neg (by decide)] at hT; subst hT
    exact A1Y (A97 (k := 11) (.inl rfl) (by rw [if_neg (by decide)]; exact hC) hg')
   ·rw [if_pos rfl] at hT; subst hT
    exact A1Y (A97 (k := 12) (.inr rfl) (by rw [if_pos rfl]; exact hD) hg')
 rw [if_neg h11]
 by_cases h14 : k = 14
 ·subst h14
  obtain ⟨a, rfl⟩ := Z7 (ks := ks) (by have : C4 14 = 1 := rfl; omega)
  obtain ⟨ha, rfl⟩ := A4i ht
  have hva : C5 a = true := hval 0 (by simp) (by simp)
  have hca := hkk a (by simp)
  have hla := hlk a (by simp)
  have hlb := hl14 rfl
  obtain ⟨hcons, htv, hfv⟩ := hN.c14 rfl
  rw [if_pos rfl]
  have hnp : ¬(fr.k = T.k ∧ (T.k = 4 ∨ T.k = 5)) := by
   intro hh
   rw [A3k (.inr (.inl (by rw [A1j]; exact decide_eq_true ⟨rfl, hh⟩))), List.all_cons, hva] at hnv
   cases hnv
  by_cases h1 : fr.k = T.k
  ·rw [if_pos h1]
   refine .inl ⟨rfl, ?_, hla⟩
   show H9 [] a = some T
   rw [ha]
   obtain ⟨fk, fs⟩ := fr
   obtain ⟨tk, ts⟩ := T
   obtain rfl : fk = tk := h1
   obtain ⟨_, rfl⟩ := A67 hfv (fun e => hnp ⟨rfl, .inl e⟩) (fun e => hnp ⟨rfl, .inr e⟩)
   obtain ⟨_, rfl⟩ := A67 htv (fun e => hnp ⟨rfl, .inl e⟩) (fun e => hnp ⟨rfl, .inr e⟩)
   rfl
  ·rw [if_neg h1]
   by_cases h2 : T.k = 1
   ·rw [if_pos h2]
    exact .inl ⟨rfl, A1Y (A1Y ha), A2S hlb (A2S hlb hla)⟩
   ·rw [if_neg h2]
    by_cases h3 : S2 T = false
    ·rw [if_pos h3]
     exact .inl ⟨rfl, A1Y (A1Y ha), A2S hlb (A2S hlb hla)⟩
    ·rw [if_neg h3]
     have hfr1 : fr.k = 1 := by
      obtain ⟨fk, fs⟩ := fr
      obtain ⟨tk, ts⟩ := T
      rw [S9] at hcons
      simp only [Bool.or_eq_true, Bool.and_eq_true, decide_eq_true_eq] at hcons
      rcases hcons with (h | h) | h
      ·exact h
      ·exact absurd h h2
      ·exact absurd h.1 h1
     have hi := (A3o hva ha hca).2.2.2.2 hfr1
     rw [if_neg (by rw [show kd [a] 0 = a from rfl, hi]; decide)]
     have hg : S2 T = true := by cases h : S2 T with | true => rfl | false => exact absurd h h3
     obtain ⟨fk, fnm, fnum, fty, ffr, flb, fks⟩ := a
     obtain ⟨hNf, _⟩ := hca.node
     have hopf := hNf.ops
     rw [A0H, A11] at hla
     have hgi := B0q hi
     obtain rfl : fk = 14 := A5A hi
     obtain ⟨g, rfl⟩ := Z7 (ks := fks) (by have : C4 14 = 1 := rfl; omega)
     obtain ⟨hgt, _⟩ := A4i ha
     show A2T L T (if ffr.k = T.k then (kd [g] 0, 1, 0) else (E2, 2, lb))
     by_cases h4 : ffr.k = T.k
     ·rw [if_pos h4]
      refine .inl ⟨rfl, ?_, hla.2 g (by simp)⟩
      show H9 [] g = some T
      rw [hgt]
      congr 1
      exact (B0G hgi).trans ((B54 h4).trans (B0G hg).symm)
     ·rw [if_neg h4]
      exact .inr ⟨rfl, hlb⟩
 ·exfalso
  obtain rfl : k = 1 := by omega
  have hks : ks = [] := List.length_eq_zero_iff.1 (by have : C4 1 = 0 := rfl; omega)
  subst hks
  have := A99 ht
  simp [P7, W2] at this
theorem B56 {L : Int → Prop} {ks : List Tm} {i : Nat} {u : Tm} (h : ∀ t ∈ ks, V0 L t) (hu : V0 L u) : ∀ t ∈ ks.set i u, V0 L t := by
 intro t ht
 rcases List.mem_or_eq_of_mem_set ht with h1 | h1
 ·exact h t h1
 ·rw [h1]; exact hu
theorem B57 (L : Int → Prop) (hL : ∀ l, L l → L (-l)) : ∀ (e : Tm) (T : Ty), cv e → C5 e = false → H9 [] e = some T → V0 L e → A2T L T (J0 e) := by
 refine Tm.ind fun k nm num ty fr lb ks ih T hc hv ht hlb => ?_
 obtain ⟨hN, hkk⟩ := hc.node
 by_cases hall : ∀ i, i < (if k = 9 then 1 else ks.length) → (hl : i < ks.length) → C5 ks[i] = true
 ·have h8 := A5D hc hv hall
  have := B55 L hL hc h8 hv hall ht hlb
  rw [J0, A7h _ _ hall]
  exact this
 ·
  have hex : ∃ i, ∃ (hl : i < ks.length), i < (if k = 9 then 1 else ks.length) ∧ C5 ks[i] = false ∧ ∀ j, j < i → (h : j < ks.length) → C5 ks[j] = true := by
   have h0 : ∃ i, ∃ (hl : i < ks.length), i < (if k = 9 then 1 else ks.length) ∧ C5 ks[i] = false := by
    apply Classical.byContradiction
    intro hn
    exact hall fun i hi hl => by
     cases h : C5 ks[i] with
     | true => rfl
     | false => exact absurd ⟨i, hl, hi, h⟩ hn
   obtain ⟨i, h1⟩ := h0
   induction i using Nat.strongRecOn with
   | _ i ih2 =>
    obtain ⟨hl, hi, hvi⟩ := h1
    by_cases hj : ∃ j, j < i ∧ ∃ (h : j < ks.length), C5 ks[j] = false
    ·obtain ⟨j, hji, hjl, hjv⟩ := hj
     exact ih2 j hji ⟨hjl, by omega, hjv⟩
    ·refine ⟨i, hl, hi, hvi, fun j hji hjl => ?_⟩
     cases h : C5 ks[j] with
     | true => rfl
     | false => exact absurd ⟨j, hji, hjl, h⟩ hj
  obtain ⟨i, hl, hi, hvi, hbe⟩ := hex
  obtain ⟨s1, s2, s3⟩ := @B0u k nm num ty fr lb ks i hl hi hbe hvi
  have hk5 : k ≠ 5 := by
   rintro rfl
   rw [C5, if_neg (by omega)] at hv
   exact absurd hv (by decide)
  have hlb2 := (A0H.1 hlb).2
  rw [A11] at hlb2
  rw [H9] at ht
  split at ht
  ·cases ht
  ·rename_i us hu
   rw [J9, if_neg hk5] at hu
   obtain ⟨U, hU, hset⟩ := A9X hu i hl
   have hg := ih ks[i] (List.getElem_mem hl) U (hkk _ (List.getElem_mem hl)) hvi hU (hlb2 _ (List.getElem_mem hl))
   unfold A2T
   rw [s1, s2]
   rcases hg with ⟨g1, g2, g3⟩ | ⟨g1, g2⟩
   ·refine .inl ⟨g1, ?_, ?_⟩
    ·rw [s3 g1, H9, J9, if_neg hk5, hset _ g2]
     exact ht
    ·rw [s3 g1, A0H]
     exact ⟨(A0H.1 hlb).1, A11.2 (B56 hlb2 g3)⟩
   ·exact .inr ⟨g1, g2⟩
mutual
theorem B0H : ∀ e : Tm, cv e → V0 (fun l => l ≠ 0) e
 | .mk k nm num ty fr lb ks, h => by
  obtain ⟨hN, hk⟩ := h.node
  obtain ⟨d, hd⟩ := h
  obtain ⟨_, _, h3, _⟩ := X8 hd
  obtain ⟨_, _, _, _, _, _, _, n8, _⟩ := T0.1 h3
  rw [A0H]
  exact ⟨fun hk14 => B53 (n8 hk14).2, A11.2 fun t ht => (B0I ks hk) t ht⟩
theorem B0I : ∀ ts : List Tm, (∀ t ∈ ts, cv t) → ∀ t ∈ ts, V0 (fun l => l ≠ 0) t
 | [], _ => by simp
 | t :: ts, h => fun u hu => by
  rcases List.mem_cons.1 hu with h1 | hu
  ·rw [h1]; exact B0H t (h t List.mem_cons_self)
  ·exact B0I ts (fun x hx => h x (List.mem_cons_of_mem _ hx)) u hu
end
theorem B0J (L : Int → Prop) (hL : ∀ l, L l → L (-l)) (e : Tm) (T : Ty) (hc : J1 e = true) (ht : H9 [] e = some T) (hl : V0 L e) :
  (H2 e = (e, 0, 0) ∧ C5 e = true) ∨ (∃ l, H2 e = (E2, 2, l) ∧ L l) ∨ H2 e = (E2, 4, 0) ∨ (∃ u, H2 e = (u, 1, 0) ∧ J1 u = true ∧ H9 [] u = some T ∧ V0 L u) := by
 cases hv : C5 e with
 | true => exact .inl ⟨A7j hc hv, rfl⟩
 | false =>
  rcases B57 L hL e T (A0Z hc).1 hv ht hl with ⟨g1, g2, g3⟩ | ⟨g1, g2⟩
  ·cases hcv : J1 (J0 e).1 with
   | false => exact .inr (.inr (.inl (A7l hc hv g1 hcv)))
   | true => exact .inr (.inr (.inr ⟨_, A7m hc hv g1 hcv, hcv, g2, g3⟩))
  ·exact .inr (.inl ⟨(J0 e).2.2, by rw [A7k hc hv (by omega), g1], g2⟩)
theorem B0K (L : Int → Prop) (hL : ∀ l, L l → L (-l)) : ∀ (n : Nat) (e : Tm) (T : Ty), J1 e = true → H9 [] e = some T → V0 L e →
  ((K7 n e).2.1 = 0 ∧ (K7 n e).2.2.1 = 0 ∧ H9 [] (K7 n e).1 = some T ∧ C5 (K7 n e).1 = true ∧ J1 (K7 n e).1 = true) ∨ ((K7 n e).2.1 = 2 ∧ L (K7 n e).2.2.1) ∨ ((K7 n e).2.1 = 4 ∧ (K7 n e).2.2.1 = 0) ∨ ((K7 n e).2.1 = 5 ∧ (K7 n e).2.2.1 = 0)
 | 0, e, T, hc, ht, hl => by
  rcases B0J L hL e T hc ht hl with ⟨h, hv⟩ | ⟨l, h, hl⟩ | h | ⟨u, h, hu1, hu2, hu3⟩
  ·simp [K7, h, ht, hv, hc]
  ·simp [K7, h, hl]
  ·simp [K7, h]
  ·simp [K7, h]
 | n + 1, e, T, hc, ht, hl => by
  rcases B0J L hL e T hc ht hl with ⟨h, hv⟩ | ⟨l, h, hl⟩ | h | ⟨u, h, hu1, hu2, hu3⟩
  ·simp [K7, h, ht, hv, hc]
  ·simp [K7, h, hl]
  ·simp [K7, h]
  ·have ih := B0K L hL n u T hu1 hu2 hu3
   simpa only [K7, h, if_true] using ih
mutual
theorem B0L : ∀ a b : Ty, K3 a b = true → K3 b a = true
 | .mk k ks, .mk k' ks', h => by
  rw [S9] at h ⊢
  simp only [Bool.or_eq_true, Bool.and_eq_true, decide_eq_true_eq] at h ⊢
  rcases h with (h | h) | h
  ·exact .inl (.inr h)
  ·exact .inl (.inl h)
  ·exact .inr ⟨h.1.symm, B0M ks ks' h.2⟩
theorem B0M : ∀ xs ys : List Ty, O5 xs ys = true → O5 ys xs = true
 | [], [], _ => rfl
 | [], b :: ys, h => by simp [O5] at h
 | a :: xs, [], h => by simp [O5] at h
 | a :: xs, b :: ys, h => by
  simp only [O5, Bool.and_eq_true] at h ⊢
  exact ⟨B0L a b h.1, B0M xs ys h.2⟩
end
mutual
theorem B0N : ∀ a b : Ty, K3 a b = true → K3 a (U1 a b) = true ∧ K3 b (U1 a b) = true
 | .mk k ks, .mk k' ks', h => by
  rw [A1f]
  by_cases h1 : k = 1
  ·rw [if_pos h1]
   exact ⟨h, A2l _⟩
  ·rw [if_neg h1]
   by_cases h2 : k' = 1
   ·rw [if_pos h2]
    exact ⟨A2l _, B0L _ _ h⟩
   ·rw [if_neg h2]
    rw [S9] at h
    simp only [Bool.or_eq_true, Bool.and_eq_true, decide_eq_true_eq] at h
    have h3 : k = k' ∧ O5 ks ks' = true := by
     rcases h with (h | h) | h
     ·exact absurd h h1
     ·exact absurd h h2
     ·exact h
    obtain ⟨m1, m2⟩ := B0O ks ks' h3.2
    rw [S9, S9, m1, m2]
    simp [h3.1]
theorem B0O : ∀ xs ys : List Ty, O5 xs ys = true → O5 xs (T2 xs ys) = true ∧ O5 ys (T2 xs ys) = true
 | [], [], _ => ⟨rfl, rfl⟩
 | [], b :: ys, h => by simp [O5] at h
 | a :: xs, [], h => by simp [O5] at h
 | a :: xs, b :: ys, h => by
  simp only [O5, Bool.and_eq_true] at h
  obtain ⟨m1, m2⟩ := B0N a b h.1
  obtain ⟨m3, m4⟩ := B0O xs ys h.2
  simp only [T2, O5, m1, m2, m3, m4]
  exact ⟨rfl, rfl⟩
end
theorem B58 {k : Int} {a b : Ty} (hk : k = 4 ∨ k = 5) (h : H1 (.mk k [a, b]) = true) : H1 a = true ∧ H1 b = true := by
 obtain ⟨x, y, he, h1, h2⟩ := A3h hk h
 cases he
 exact ⟨h1, h2⟩
theorem B59 {k : Int} (hk : k = 4 ∨ k = 5) : H1 (.mk k [K1, K1]) = true := by rcases hk with rfl | rfl <;> decide
theorem B0P {k : Int} {t a b : Ty} (hk : k = 4 ∨ k = 5) (ht : H1 t = true) (h : S1 k t = some (a, b)) : H1 (.mk k [a, b]) = true ∧ K3 t (.mk k [a, b]) = true := by
 obtain ⟨tk, ks⟩ := t
 rw [A1h] at h
 by_cases he : tk = k
 ·subst he
  rw [if_pos rfl] at h
  obtain ⟨x, y, rfl, _, _⟩ := A3h hk ht
  cases h
  exact ⟨ht, A2l _⟩
 ·rw [if_neg he] at h
  by_cases h1 : tk = 1
  ·rw [if_pos h1] at h
   cases h
   refine ⟨B59 hk, ?_⟩
   rw [S9, h1]; rfl
  ·rw [if_neg h1] at h; cases h
structure Wt (cx : Cx) (k : Int) (nm : ByteArray) (ty : Ty) (h w : List Ty) (t : Ty) : Prop where
 len : w = [] ∨ w.length = h.length
 ok : ∀ i, (hi : i < w.length) → (hh : i < h.length) → K3 h[i] w[i] = true ∧ H1 w[i] = true
 again : k ≠ 13 → J8 cx k nm ty (if w = [] then h else w) = some (w, t)
 asT : k = 13 → w = [t]
theorem B6a {cx : Cx} {k : Int} {nm : ByteArray} {ty : Ty} {h w : List Ty} {t : Ty} (hh : ∀ a ∈ h, H1 a = true) (hty : k = 13 → H1 ty = true) (hn : C4 k = (h.length : Int)) (h14 : k ≠ 14) (hw : J8 cx k nm ty h = some (w, t)) : Wt cx k nm ty h w t := by
 have hkr := A5C (by rw [hn]; omega : 0 ≤ C4 k)
 have hkk : k = 1 ∨ k = 2 ∨ (k = 3 ∨ k = 4) ∨ k = 5 ∨ k = 6 ∨ (k = 7 ∨ k = 8) ∨ k = 9 ∨ k = 10 ∨ (k = 11 ∨ k = 12) ∨ k = 13 := by omega
 have nil : w = [] → k ≠ 13 → Wt cx k nm ty h w t := by
  rintro rfl h13
  exact ⟨.inl rfl, fun i hi => by simp at hi, fun _ => by rw [if_pos rfl]; exact hw, fun h => absurd h h13⟩
 rcases hkk with rfl | rfl | hk | rfl | rfl | hk | rfl | rfl | hk | rfl
 ·refine nil ?_ (by decide)
  rw [mW1] at hw; split at hw <;> cases hw; rfl
 ·refine nil ?_ (by decide)
  rw [mW2] at hw; cases hw; rfl
 ·refine nil ?_ (by omega)
  rw [A5j hk] at hw; cases hw; rfl
 ·refine nil ?_ (by decide)
  rw [mW5] at hw; cases hw; rfl
 ·match h, (show h.length = 2 by have : C4 6 = 2 := rfl; omega) with
  | [x, y], _ =>
  rw [mW6] at hw
  simp only [List.getD_cons_zero, List.getD_cons_succ] at hw
  split at hw
  ·rename_i a b hm
   split at hw
   ·rename_i hc
    cases hw
    obtain ⟨v1, v2⟩ := B0P (.inl rfl) (hh x (by simp)) hm
    obtain ⟨v3, v4⟩ := B58 (.inl rfl) v1
    refine ⟨.inr rfl, fun i hi hi2 => ?_, fun _ => ?_, fun h => absurd h (by decide)⟩
    ·match i, hi with
     | 0, _ => exact ⟨v2, v1⟩
     | 1, _ => exact ⟨hc, v3⟩
    ·rw [if_neg (by simp), mW6]
     simp only [List.getD_cons_zero, List.getD_cons_succ, A1h, if_true, A2l]
   ·cases hw
  ·cases hw
 ·match h, (show h.length = 2 by rcases hk with rfl | rfl <;> (first | (have : C4 7 = 2 := rfl; omega) | (have : C4 8 = 2 := rfl; omega))) with
  | [x, y], _ =>
  rw [X1 hk] at hw
  simp only [List.getD_cons_zero, List.getD_cons_succ] at hw
  split at hw
  ·rename_i hc
   cases hw
   refine ⟨.inr rfl, fun i hi hi2 => ?_, fun _ => ?_, fun h => by omega⟩
   ·match i, hi with
    | 0, _ => exact ⟨hc.1, (show H1 Q6 = true by decide)⟩
    | 1, _ => exact ⟨hc.2, (show H1 Q6 = true by decide)⟩
   ·rw [if_neg (by simp), X1 hk]
    simp only [List.getD_cons_zero, List.getD_cons_succ, A2l, and_self, if_true]
  ·cases hw
 ·match h, (show h.length = 3 by have : C4 9 = 3 := rfl; omega) with
  | [x, y, z], _ =>
  rw [mW9] at hw
  simp only [List.getD_cons_zero, List.getD_cons_succ] at hw
  split at hw
  ·rename_i hc
   cases hw
   obtain ⟨c1, c2⟩ := B0N y z hc.2
   have vm := A63 y z 1 hc.2 (hh y (by simp)) (hh z (by simp))
   refine ⟨.inr rfl, fun i hi hi2 => ?_, fun _ => ?_, fun h => absurd h (by decide)⟩
   ·match i, hi with
    | 0, _ => exact ⟨hc.1, (show H1 S7 = true by decide)⟩
    | 1, _ => exact ⟨c1, vm⟩
    | 2, _ => exact ⟨c2, vm⟩
   ·rw [if_neg (by simp), mW9]
    simp only [List.getD_cons_zero, List.getD_cons_succ, A2l, and_self, if_true, A92]
  ·cases hw
 ·refine nil ?_ (by decide)
  rw [A60] at hw; cases hw; rfl
 ·match h, (show h.length = 1 by rcases hk with rfl | rfl <;> (first | (have : C4 11 = 1 := rfl; omega) | (have : C4 12 = 1 := rfl; omega))) with
  | [x], _ =>
  rw [A4e hk] at hw
  simp only [List.getD_cons_zero] at hw
  split at hw
  ·rename_i a b hm
   cases hw
   obtain ⟨v1, v2⟩ := B0P (.inr rfl) (hh x (by simp)) hm
   refine ⟨.inr rfl, fun i hi hi2 => ?_, fun _ => ?_, fun h => by omega⟩
   ·match i, hi with
    | 0, _ => exact ⟨v2, v1⟩
   ·rw [if_neg (by simp), A4e hk]
    simp only [List.getD_cons_zero, List.getD_cons_succ, A1h, if_true]
  ·cases hw
 ·match h, (show h.length = 1 by have : C4 13 = 1 := rfl; omega) with
  | [x], _ =>
  rw [A3g] at hw
  simp only [List.getD_cons_zero] at hw
  split at hw
  ·rename_i hc
   cases hw
   refine ⟨.inr rfl, fun i hi hi2 => ?_, fun h => absurd rfl h, fun _ => rfl⟩
   match i, hi with
   | 0, _ => exact ⟨hc, hty rfl⟩
  ·cases hw
theorem B6b {l : Int} (h1 : 1 ≤ l) (h2 : l ≤ 99) : A0y l = true := by
 unfold A0y
 rw [A2H.2 ⟨h1, h2⟩]; rfl
theorem B6c {u : Tm} {a b : Ty} {l D : Int} (hu : L7 40 13 u (D + 1) = true) (hc : K3 a b = true) (ha : H1 a = true) (hb : H1 b = true) (h1 : 1 ≤ l) (h2 : l ≤ 99) (hD : D ≤ 40) : L7 40 13 (N1 u a b l) D = true := by
 unfold N1
 rw [A0V hD (by decide) (T0.2 ⟨rfl, by simp, fun _ => rfl, by simp, fun _ => rfl, fun _ => hb, by simp, fun _ => ⟨by simp [A09, ha, hb, hc], B6b h1 h2⟩, by simp⟩)]
 simp [L5, hu]
theorem A7r {cx : Cx} : ∀ (us : List Tm) (h w : List Ty) (l D : Int), us.length = h.length → w.length = h.length → (∀ i, (hi : i < w.length) → (hh : i < h.length) → K3 h[i] w[i] = true ∧ H1 w[i] = true) → (∀ a ∈ h, H1 a = true) → N6 cx us = some h → L5 40 13 us (D + 1) = true → 0 ≤ l → (F9 us h w l).2 ≤ 99 → D ≤ 40 →
  N6 cx (F9 us h w l).1 = some w ∧ L5 40 13 (F9 us h w l).1 D = true ∧ (E0 (F9 us h w l).1 : Int) = E0 us + ((F9 us h w l).2 - l)
 | [], [], [], l, D, _, _, _, _, ht, _, _, _, _ => by simp [F9, N6, L5, E0]
 | [], a :: h, w, l, D, hl, _, _, _, _, _, _, _, _ => by simp at hl
 | u :: us, [], w, l, D, hl, _, _, _, _, _, _, _, _ => by simp at hl
 | [], [], b :: w, l, D, _, hl, _, _, _, _, _, _, _ => by simp at hl
 | u :: us, a :: h, [], l, D, _, hl, _, _, _, _, _, _, _ => by simp at hl
 | u :: us, a :: h, b :: w, l, D, h1, h2, hw, hv, ht, hs, hl, h99, hD => by
  rw [N6] at ht
  split at ht
  ·cases ht
  ·rename_i a' ha
   split at ht
   ·cases ht
   ·rename_i h' hh'
    simp only [Option.some.injEq, List.cons.injEq] at ht
    obtain ⟨rfl, rfl⟩ := ht
    rw [L5, Bool.and_eq_true] at hs
    obtain ⟨c1, c2⟩ := hw 0 (by simp) (by simp)
    have hw' : ∀ i, (hi : i < w.length) → (hh : i < h'.length) → K3 h'[i] w[i] = true ∧ H1 w[i] = true := fun i hi hh => hw (i + 1) (by simpa using hi) (by simpa using hh)
    have hv' : ∀ x ∈ h', H1 x = true := fun x hx => hv x (List.mem_cons_of_mem _ hx)
    simp only [F9] at h99 ⊢
    by_cases he : N5 a' b = true
    ·simp only [if_pos he] at h99 ⊢
     obtain ⟨i1, i2, i3⟩ := A7r us h' w l D (by simpa using h1) (by simpa using h2) hw' hv' hh' hs.2 hl h99 hD
     have hab := (X6 _ _).1 he
     subst hab
     refine ⟨by rw [N6, ha, i1], ?_, ?_⟩
     ·rw [L5, Bool.and_eq_true]; exact ⟨A62 40 13 u (D + 1) D (by omega) hs.1, i2⟩
     ·simp only [E0]; omega
    ·simp only [if_neg he] at h99 ⊢
     obtain ⟨i1, i2, i3⟩ := A7r us h' w (l + 1) D (by simpa using h1) (by simpa using h2) hw' hv' hh' hs.2 (by omega) h99 hD
     have hlab := A2m us h' w (l + 1)
     refine ⟨by rw [N6, N1, A1Y ha, i1], ?_, ?_⟩
     ·rw [L5, Bool.and_eq_true]
      exact ⟨B6c hs.1 c1 (hv a' List.mem_cons_self) c2 (by omega) (by omega) hD, i2⟩
     ·simp only [E0, A2i]; omega
def B0Q (cx : Cx) (t : Tm) (D l : Int) (u : Tm) (a : Ty) (l' : Int) : Prop := L7 40 13 u D = true ∧ H9 cx u = some a ∧ H1 a = true ∧ l ≤ l' ∧ l' + 1 ≤ l + (D2 t : Int) ∧ (D2 u : Int) ≤ D2 t + (l' - l)
theorem B0R (ks : List Tm) (ih : ∀ t ∈ ks, ∀ (d D : Int) (cx : Cx) (l : Int) (u : Tm) (a : Ty) (l' : Int), L7 12 14 t d = true → cxV cx → 0 ≤ l → K8 cx t l = some (u, a, l') → l' ≤ 99 → D + 2 * (13 - d) ≤ 41 → B0Q cx t D l u a l') :
  ∀ (d D : Int) (cx : Cx) (l : Int) (us : List Tm) (h : List Ty) (l' : Int), L5 12 14 ks d = true → cxV cx → 0 ≤ l → M4 cx ks l = some (us, h, l') → l' ≤ 99 → D + 2 * (13 - d) ≤ 41 →
   L5 40 13 us D = true ∧ N6 cx us = some h ∧ (∀ a ∈ h, H1 a = true) ∧ l ≤ l' ∧ l' + ks.length ≤ l + (E0 ks : Int) ∧ (E0 us : Int) ≤ E0 ks + (l' - l) ∧ h.length = ks.length ∧ us.length = ks.length := by
 induction ks with
 | nil =>
  intro d D cx l us h l' _ _ _ he _ _
  simp only [M4, Option.some.injEq, Prod.mk.injEq] at he
  obtain ⟨rfl, rfl, rfl⟩ := he
  simp [L5, N6, E0]
 | cons t ts ihl =>
  intro d D cx l us h l' hs hcx hl he h99 hD
  rw [L5, Bool.and_eq_true] at hs
  rw [M4] at he
  split at he
  ·cases he
  ·rename_i u a l1 h1
   split at he
   ·cases he
   ·rename_i us' h' l2 h2
    simp only [Option.some.injEq, Prod.mk.injEq] at he
    obtain ⟨rfl, rfl, rfl⟩ := he
    have hp := B3k t
    
    have hmono : l1 ≤ l2 := by
     have : ∀ (zs : List Tm) (l : Int) us h l', M4 cx zs l = some (us, h, l') → l ≤ l' := by
      intro zs
      induction zs with
      | nil => intro l us h l' he; simp only [M4, Option.some.injEq, Prod.mk.injEq] at he; omega
      | cons z zs ihz =>
       intro l us h l' he
       rw [M4] at he
       split at he
       ·cases he
       ·rename_i u a l1 hz
        split at he
        ·cases he
        ·rename_i us' h' l2 hzs
         simp only [Option.some.injEq, Prod.mk.injEq] at he
         have := ihz _ _ _ _ hzs
         have := el_mono cx z l _ _ _ hz
         omega
     exact this ts l1 us' h' l2 h2
    obtain ⟨a1, a2, a3, a4, a5, a6⟩ := ih t List.mem_cons_self d D cx l u a l1 hs.1 hcx hl h1 (by omega) hD
    obtain ⟨b1, b2, b3, b4, b5, b6, b7, b8⟩ := ihl (fun x hx => ih x (List.mem_cons_of_mem _ hx)) d D cx l1 us' h' l2 hs.2 hcx (by omega) h2 h99 hD
    refine ⟨by rw [L5, a1, b1]; rfl, by rw [N6, a2, b2], ?_, by omega, ?_, ?_, by simp [b7], by simp [b8]⟩
    ·intro x hx
     rcases List.mem_cons.1 hx with h | h
     ·rw [h]; exact a3
     ·exact b3 x h
    ·simp only [E0, List.length_cons]; omega
    ·simp only [E0]; omega
where
 el_mono (cx : Cx) : ∀ (z : Tm) (l : Int) (u : Tm) (a : Ty) (l' : Int), K8 cx z l = some (u, a, l') → l ≤ l' := by
  intro z
  revert cx
  refine Tm.ind (C := fun z => ∀ (cx : Cx) (l : Int) (u : Tm) (a : Ty) (l' : Int), K8 cx z l = some (u, a, l') → l ≤ l') ?_ z
  intro k nm num ty fr lb ks ih cx l u a l' he
  rw [K8] at he
  have hL : ∀ (zs : List Tm), (∀ t ∈ zs, t ∈ ks) → ∀ (cx : Cx) (l : Int) us h l', M4 cx zs l = some (us, h, l') → l ≤ l' := by
   intro zs
   induction zs with
   | nil => intro _ cx l us h l' he; simp only [M4, Option.some.injEq, Prod.mk.injEq] at he; omega
   | cons z zs ihz =>
    intro hin cx l us h l' he
    rw [M4] at he
    split at he
    ·cases he
    ·rename_i u a l1 hz
     split at he
     ·cases he
     ·rename_i us' h' l2 hzs
      simp only [Option.some.injEq, Prod.mk.injEq] at he
      have := ihz (fun t ht => hin t (List.mem_cons_of_mem _ ht)) _ _ _ _ _ hzs
      have := ih z (hin z List.mem_cons_self) _ l _ _ _ hz
      omega
  split at he
  ·cases he
  ·rename_i us h l1 hk
   have h1 := hL ks (fun _ h => h) _ _ _ _ _ hk
   unfold Q7 at he
   split at he
   ·cases he
   ·rename_i w t hn
    simp only [Option.some.injEq, Prod.mk.injEq] at he
    have := A2m us h w l1
    omega
theorem B6d : ∀ (t : Tm) (d D : Int) (cx : Cx) (l : Int) (u : Tm) (a : Ty) (l' : Int), L7 12 14 t d = true → cxV cx → 0 ≤ l → K8 cx t l = some (u, a, l') → l' ≤ 99 → D + 2 * (13 - d) ≤ 41 → B0Q cx t D l u a l' := by
 refine Tm.ind fun k nm num ty fr lb ks ih d D cx l u a l' hs hcx hl he h99 hD => ?_
 obtain ⟨hd, h14, h3, h4⟩ := X8 hs
 obtain ⟨n1, n2, n3, n4, n5, n6, n7, n8, n9⟩ := T0.1 h3
 rw [K8] at he
 split at he
 ·cases he
 ·rename_i us h l1 hL
  unfold Q7 at he
  split at he
  ·cases he
  ·rename_i w t hN
   simp only [Option.some.injEq, Prod.mk.injEq] at he
   obtain ⟨hu, rfl, rfl⟩ := he
   have hlab := A2m us h w l1
   obtain ⟨b1, b2, b3, b4, b5, b6, b7, b8⟩ := B0R ks ih (d + 1) (D + 2) (J9 cx k nm ty) l us h l1 h4 (A5n hcx fun hk => n6 (.inl hk)) hl hL (by omega) (by omega)
   obtain ⟨hv, hw⟩ := A5k hN
   have hwt := B6a b3 (fun hk => n6 (.inr (.inl hk))) (by rw [b7]; exact n1) h14 hw
   
   obtain ⟨c1, c2, c3⟩ : N6 (J9 cx k nm ty) (F9 us h w l1).1 = some (if w = [] then h else w) ∧ L5 40 13 (F9 us h w l1).1 (D + 1) = true ∧ (E0 (F9 us h w l1).1 : Int) = E0 us + ((F9 us h w l1).2 - l1) := by
    rcases hwt.len with hn | hn
    ·subst hn
     rw [U9, if_pos rfl]
     refine ⟨b2, ?_, by simp⟩
     exact A5l 40 13 us (D + 2) (D + 1) (by omega) b1
    ·by_cases hn0 : w = []
     ·subst hn0
      rw [U9, if_pos rfl]
      refine ⟨b2, ?_, by simp⟩
      exact A5l 40 13 us (D + 2) (D + 1) (by omega) b1
     ·rw [if_neg hn0]
      exact A7r us h w l1 (D + 1) (by omega) hn hwt.ok b3 b2 (by rw [show D + 1 + 1 = D + 2 by omega]; exact b1) (by omega) h99 (by omega)
   have hlm := A3i us h w l1
   have hck : D2 (.mk k nm num ty fr lb ks) = E0 ks + 1 := A0E ..
   refine ⟨?_, ?_, hv, by omega, by rw [hck]; omega, ?_⟩
   ·rw [← hu]
    split
    ·rename_i hk
     have hl1 : ks.length = 1 := by rw [hk] at n1; have : C4 13 = 1 := rfl; omega
     have h0 : 0 < (F9 us h w l1).1.length := by omega
     rw [getD0' h0]
     have := (A0U 40 13 _ _).1 c2 0 h0
     exact A62 40 13 _ (D + 1) D (by omega) this
    ·rename_i hk
     rw [A0V (by omega) hk (by rw [hlm, b8]; exact h3)]
     exact c2
   ·rw [← hu]
    split
    ·rename_i hk
     have hl1 : ks.length = 1 := by rw [hk] at n1; have : C4 13 = 1 := rfl; omega
     have h0 : 0 < (F9 us h w l1).1.length := by omega
     rw [getD0' h0]
     rw [hwt.asT hk, if_neg (by simp)] at c1
     rw [J9, if_neg (by omega)] at c1
     rw [← hwt.asT hk] at c1
     obtain ⟨x, hx⟩ : ∃ x, (F9 us h w l1).1 = [x] := by
      match hm : (F9 us h w l1).1, (show (F9 us h w l1).1.length = 1 by omega) with
      | [x], _ => exact ⟨x, rfl⟩
     simp only [hx, List.getElem_cons_zero] at c1 ⊢
     obtain ⟨y, hy, he⟩ := A4h c1
     rw [hwt.asT hk] at he
     cases he; exact hy
    ·rename_i hk
     refine A65 c1 h14 hv (hwt.again hk) ?_
     by_cases hn0 : w = []
     ·rw [hn0]; rfl
     ·rw [if_neg hn0]; exact A5q w
   ·rw [← hu, hck]
    split
    ·rename_i hk
     have hl1 : ks.length = 1 := by rw [hk] at n1; have : C4 13 = 1 := rfl; omega
     have h0 : 0 < (F9 us h w l1).1.length := by omega
     rw [getD0' h0]
     have := A6k (List.getElem_mem h0)
     omega
    ·rw [A0E]; omega
where
 getD0' {us : List Tm} (h : 0 < us.length) : us.getD 0 E2 = us[0] := by rw [List.getD_eq_getElem?_getD, List.getElem?_eq_getElem h, Option.getD_some]
theorem B6e : ∀ (t : Tm) (d : Int) (cx : Cx) (l : Int) (u : Tm) (a : Ty) (l' : Int), L7 12 14 t d = true → K8 cx t l = some (u, a, l') → l' + 1 ≤ l + (D2 t : Int) := by
 refine Tm.ind fun k nm num ty fr lb ks ih d cx l u a l' hs he => ?_
 obtain ⟨hd, h14, h3, h4⟩ := X8 hs
 obtain ⟨n1, _⟩ := T0.1 h3
 have hL : ∀ (zs : List Tm), (∀ t ∈ zs, t ∈ ks) → L5 12 14 zs (d + 1) = true → ∀ (cx : Cx) (l : Int) us h l', M4 cx zs l = some (us, h, l') → l' + zs.length ≤ l + (E0 zs : Int) ∧ us.length = zs.length := by
  intro zs
  induction zs with
  | nil => intro _ _ cx l us h l' he; simp only [M4, Option.some.injEq, Prod.mk.injEq] at he; obtain ⟨rfl, _, rfl⟩ := he; simp [E0]
  | cons z zs ihz =>
   intro hin hsz cx l us h l' he
   rw [L5, Bool.and_eq_true] at hsz
   rw [M4] at he
   split at he
   ·cases he
   ·rename_i u a l1 hz
    split at he
    ·cases he
    ·rename_i us' h' l2 hzs
     simp only [Option.some.injEq, Prod.mk.injEq] at he
     obtain ⟨rfl, rfl, rfl⟩ := he
     have h5 := ihz (fun t ht => hin t (List.mem_cons_of_mem _ ht)) hsz.2 _ _ _ _ _ hzs
     have h6 := ih z (hin z List.mem_cons_self) (d + 1) _ l _ _ _ hsz.1 hz
     simp only [E0, List.length_cons]
     exact ⟨by omega, by omega⟩
 rw [K8] at he
 split at he
 ·cases he
 ·rename_i us h l1 hk
  obtain ⟨g1, g2⟩ := hL ks (fun _ h => h) h4 _ _ _ _ _ hk
  unfold Q7 at he
  split at he
  ·cases he
  ·rename_i w t hn
   simp only [Option.some.injEq, Prod.mk.injEq] at he
   have := A2m us h w l1
   have hck : D2 (.mk k nm num ty fr lb ks) = E0 ks + 1 := A0E ..
   rw [hck]; omega
theorem B0S {e u : Tm} {t : Ty} (h : T6 e = some (u, t)) : J1 u = true ∧ H9 [] u = some t ∧ H1 t = true := by
 unfold T6 at h
 split at h
 ·rename_i hv
  obtain ⟨h1, h2⟩ := (X7 e).1 hv
  split at h
  ·rename_i u' t' l' he
   cases h
   have hl : l' ≤ 99 := by
    have := B0R.el_mono [] e 0 _ _ _ he
    have h3 : ∀ (t : Tm) (cx : Cx) (l : Int) (u : Tm) (a : Ty) (l' : Int), K8 cx t l = some (u, a, l') → l' ≤ l + 4 * (D2 t : Int) → True := fun _ _ _ _ _ _ _ _ => trivial
    exact el_lab e 1 h1 (by omega) he
   obtain ⟨g1, g2, g3, g4, g5, g6⟩ := B6d e 1 1 [] 0 u t l' h1 A5m (by omega) he hl (by omega)
   exact ⟨(A28 u).2 ⟨g1, by omega⟩, g2, g3⟩
  ·cases h
 ·cases h
where
 el_lab (e : Tm) (d : Int) (h1 : L7 12 14 e d = true) (h2 : D2 e ≤ 30) {u : Tm} {t : Ty} {l' : Int} (he : K8 [] e 0 = some (u, t, l')) : l' ≤ 99 := by
  have := B6e e d [] 0 u t l' h1 he
  omega
def B92 (k : Int) : Bool := decide (k = 5 ∨ k = 13)
def A7s : ByteArray := ⟨⟨[112, 97, 105, 114]⟩⟩
def A7t : ByteArray := ⟨⟨[102, 117, 110, 99, 116, 105, 111, 110]⟩⟩
def txT : ByteArray := ⟨⟨[84]⟩⟩
def txF : ByteArray := ⟨⟨[70]⟩⟩
def B0T (n : Int) : ByteArray := ⟨(Lib.decDigits n.toNat).toArray⟩
def A12 (k num : Int) : ByteArray := if k = 2 then B0T num else if k = 3 then txT else txF
mutual
def X3 : Tm → ByteArray
 | .mk k nm num ty fr lb ks => if k = 10 ∨ (Q1 (.mk k nm num ty fr lb []) = true ∧ ty.k = 5) then A7s else if k = 5 ∨ Q1 (.mk k nm num ty fr lb []) = true then A7t else if k = 14 then B6f ks else A12 k num
def B6f : List Tm → ByteArray
 | [] => ⟨⟨[]⟩⟩
 | t :: _ => X3 t
end
section
variable {k : Int} {nm : ByteArray} {num : Int} {ty fr : Ty} {lb : Int} {ks : List Tm}
theorem B0U (h : k = 10 ∨ (Q1 (.mk k nm num ty fr lb ks) = true ∧ ty.k = 5)) : X3 (.mk k nm num ty fr lb ks) = A7s := by
 rw [X3]
 exact if_pos h
theorem B0V (h : ¬(k = 10 ∨ (Q1 (.mk k nm num ty fr lb ks) = true ∧ ty.k = 5))) (h2 : k = 5 ∨ Q1 (.mk k nm num ty fr lb ks) = true) : X3 (.mk k nm num ty fr lb ks) = A7t := by
 rw [X3]
 exact (if_neg h).trans (if_pos h2)
theorem A7u (h : Q1 (.mk k nm num ty fr lb ks) = false) (hk : k = 14) (h0 : 0 < ks.length) : X3 (.mk k nm num ty fr lb ks) = X3 ks[0] := by
 rw [X3, if_neg (by rintro (h1 | h1); omega; exact Bool.noConfusion (h1.1.symm.trans h)), if_neg (by rintro (h1 | h1); omega; exact Bool.noConfusion (h1.symm.trans h)), if_pos hk]
 cases ks with
 | nil => simp at h0
 | cons t ts => rfl
theorem B0W (h : Q1 (.mk k nm num ty fr lb ks) = false) (hk : k ≠ 14) (h10 : k ≠ 10) (h5 : k ≠ 5) : X3 (.mk k nm num ty fr lb ks) = A12 k num := by
 rw [X3, if_neg (by rintro (h1 | h1); omega; exact Bool.noConfusion (h1.1.symm.trans h)), if_neg (by rintro (h1 | h1); omega; exact Bool.noConfusion (h1.symm.trans h)), if_neg hk]
end
end Gw
end Go.Proofs.YtfpgncjeejickaaGreatDoor
