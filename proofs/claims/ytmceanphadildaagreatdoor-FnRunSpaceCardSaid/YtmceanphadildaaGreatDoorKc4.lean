/-
  The program's evaluator: values, casts, nodes.
-/
import Derived.Test.YtmceanphadildaaGreatDoorKc3
import Derived.Test.YtmceanphadildaaGreatDoorKc1
set_option linter.unusedVariables false
set_option linter.unusedSimpArgs false
set_option linter.ambiguousOpen false
set_option maxHeartbeats 0
set_option maxRecDepth 100000
set_option synthInstance.maxSize 4000
set_option synthInstance.maxHeartbeats 0
namespace Go.Proofs.YtmceanphadildaaGreatDoor
open Go Go.RowKit Tryz Go.Proofs.Tryz
namespace Gw
theorem y18 {p : Prop} (h : p := by
  refine A2 17 ?_
  (refine A0c (cs := [x1, x2, x3, x4, x5, x6, x7, x8, x9, z1, z2, z3, z4, z5, z6, z7, z8, z9]) zB0 (fun G2 hle2 hsl2 hno2 => ?_); have hrN := A31 (k := 6) (ks := [aks[0], O1 b atks[0] afks[0] (-alb)]) (es := [[x1, x2, x3, x4, x5, x6, x7, x8, x9], [z1, z2, z3, z4, z5, z6, z7, z8, z9]]) ⟨by decide, by decide⟩ rfl (D7.of hsl2 rfl zP0 (by intro x hx; rcases List.mem_cons.1 hx with rfl | hx; exact ho3; obtain rfl := List.mem_singleton.1 hx; exact huo)) (by simp only [H4]; exact ⟨_, _, rfl, hre3.mono hle2, _, _, rfl, hru.mono hle2, rfl⟩); replace hre6 := hre6.mono hle2; replace hre8 := hre8.mono hle2; refine M9 rfl rfl (A32 _ _ _ _ _) rfl rfl rfl ?_)
  refine A2 30 ?_
  (refine E6 rfl rfl (A1T _ afks[1] atks[1] alb G2 _ _ _ ⟨by omega, by omega⟩ hrN hre8 hre6) rfl rfl rfl (fun u G3 hle3 hh => ?_); obtain ⟨wc, rfl, hrw⟩ := hh; have hwl := hrw.len; have hwo := hrw.one)
  refine A2 31 ?_
  (refine oS rfl rfl rfl rfl hwl hwo rfl rfl ?_ (hu := by exact E0 hwl.symm))
  refine xx2 32 33 ?_
  refine B1 ?_
  refine E5 (rC rfl (A3 rfl rfl (B9 zG0) hwl)) (rT rfl) (rT rfl) ?_
  (exact S2.mk (by rw [if_pos hq, A4S zO0, A1o zO0, A1o zO0, A1o zO0, A1o zO0]) hrw)
) : p := h
theorem y19 {p : Prop} (h : p := by
  refine zf5 ?_
  (exact S1.no (by rw [if_neg zO0]) (Q3 _))
) : p := h
theorem y20 {p : Prop} (h : p := by
  refine xx1 5 ?_
  refine A2 6 ?_
  refine E9 rfl ?_
  refine xx1 7 ?_
  refine A5 ?_
  (refine H1 Pk.here (fun G5 hle5 hsl5 hno5 => ?_))
  refine B5 ?_
  refine zf13 ?_
  (have hk1 : k = 9 := zO0; subst hk1; exact M2.three hsl5 (A0A _) (hrM.mono hle5) (hrM.mono hle5) (hrM.mono hle5) (by rw [mW9, if_pos ⟨by assumption, by assumption⟩]; rfl))
) : p := h
theorem y21 {p : Prop} (h : p := by
  refine K1 ?_
  refine zf13 ?_
  (have hk1 : k = 9 := zO0; subst hk1; exact M2.nil (u := C5) (N2 _ ⟨by omega, by omega⟩) (by rw [mW9, if_neg (fun hc => by first | exact Bool.noConfusion (hc.1.symm.trans zL0) | exact Bool.noConfusion (hc.2.symm.trans zL0) | exact Bool.noConfusion (hc.symm.trans zL0))]; rfl))
) : p := h
theorem y22 {p : Prop} (h : p := by
  refine zf11 ?_
  refine B5 ?_
  refine zf11 ?_
  refine A2G ?_
  refine sP (A2c rfl rfl zO0) rfl rfl ?_
  refine K1 ?_
  refine zf15 ?_
  (exact S2.mk (by rw [if_neg zO0]; rfl) (Q3 _))
) : p := h
theorem y23 {p : Prop} (h : p := by
  refine zf6 ?_
  refine xx2 0 1 ?_
  refine A2 2 ?_
  refine E9 rfl ?_
  refine xx1 3 ?_
  refine B1 ?_
  refine zf13 ?_
  (exact M2.nil (A0A _) (by rw [A4V zO0]; rfl))
) : p := h
theorem y24 {p : Prop} (h : p := by
  refine P3 ?_
  refine A0L () (D6 zA0 zQ) ⟨by rintro ⟨h1, h2⟩; first | omega | contradiction, by rintro ⟨h1, h2⟩; first | omega | contradiction⟩
) : p := h
theorem B6A (G : IM) (p : Option Addr) (n c : Nat) (es : List (List Value)) (hsl : D7 G p n c 9 es) (fid : FuncId) [C1 prog fid] (us cs : List Value) (ins : List A9) (q : Nat → Bool)
  (hq : ∀ i e, es[i]? = some e → Fn prog fid (us ++ [.agg ⟨e⟩] ++ cs) ins G (S5 (.bool (q i)) ins G)) :
  Fn prog 212 [.slice p n c, .func (.func fid) ⟨us⟩ ⟨cs⟩] ins G (S5 (.int .i64 (A0v q n)) ins G) := by
 have hn := hsl.le
 refine C4 func212 rfl ntmps212 results212 rfl ?_
 intro w0
 refine K7 ?_
 refine C2 ?_
 refine K2 (fun i : Nat => ⟨[(8, .int .i64 i), (7, .int .i64 n), (1, .func (.func fid) ⟨us⟩ ⟨cs⟩), (0, .slice p n c)], ins, G⟩) (fun i => i ≤ n ∧ ∀ j, j < i → q j = false) (fun i => n - i) 0 ?_ ?_ ?_
 exact E3
 exact ⟨by omega, by omega⟩
 rintro i ⟨hi, hf⟩
 refine A5 ?_
 refine zf8 (fun h21 => ?_) (fun h21 => ?_)
 refine B8 ?_
 refine C2 ?_
 refine J3 ?_
 (obtain ⟨e, b, o, he, rfl, hl, _, hat, _⟩ := hsl.get (i := i) zO0; refine sP (B2 rfl rfl rfl zO0) rfl rfl ?_)
 refine sL (A3 rfl rfl (hat _) hl) rfl rfl ?_
 refine A5t rfl rfl (hq i e he) A04 rfl rfl (fun h43 => ?_) (fun h43 => ?_)
 refine K1 ?_
 refine I6 (rT rfl) A1.refl ?_
 exact ⟨rfl, by rw [A66 zO0 hf zL0], rfl⟩
 refine B8 ?_
 refine zf4 ?_
 refine A5 ?_
 refine J7 (i + 1) ?_ ?_ ?_
 exact E3
 exact ⟨by omega, fun j hj => by by_cases hji : j = i; (subst hji; assumption); exact hf j zO0⟩
 omega
 refine K1 ?_
 refine I6 (rT rfl) A1.refl ?_
 exact ⟨rfl, by rw [A5w (fun j hj => hf j zO0)], rfl⟩
theorem B6B (G : IM) (p : Option Addr) (n c : Nat) (es : List (List Value)) (hsl : D7 G p n c 9 es) (fid : FuncId) [C1 prog fid] (us cs : List Value) (ins : List A9) (q : Nat → Bool)
  (hq : ∀ i e, es[i]? = some e → Fn prog fid (us ++ [.agg ⟨e⟩] ++ cs) ins G (S5 (.bool (q i)) ins G)) :
  Fn prog 202 [.slice p n c, .func (.func fid) ⟨us⟩ ⟨cs⟩] ins G (S5 (.bool (decide (0 ≤ A0v q n))) ins G) := by
 refine C4 func202 rfl ntmps202 results202 rfl ?_
 intro w0
 refine E1 ?_
 refine A2f rfl (B6A G p n c es hsl fid us cs ins q hq) A04 rfl rfl ?_
 refine sQ (A1g rfl rfl) rfl ?_
 refine B6 ?_
 refine I6 (rT rfl) A1.refl ?_
 exact ⟨rfl, rfl, rfl⟩
theorem B6C (G : IM) (p : Option Addr) (n c : Nat) (es : List (List Value)) (hsl : D7 G p n c 9 es) (fid : FuncId) [C1 prog fid] (us cs : List Value) (ins : List A9) (f : Tm → Bool) (ks : List Tm)
  (hn : ks.length = n) {A : Bool} (hA : ks.all f = A) (hq : ∀ i e, es[i]? = some e → Fn prog fid (us ++ [.agg ⟨e⟩] ++ cs) ins G (S5 (.bool (!f (ks.getD i L7))) ins G)) :
  Fn prog 202 [.slice p n c, .func (.func fid) ⟨us⟩ ⟨cs⟩] ins G (S5 (.bool (!A)) ins G) := by
 subst hn hA
 rw [← A9k f ks L7]
 exact B6B G p _ c es hsl fid us cs ins _ hq
theorem B0T : ∀ ks, A1H ks = ks.all H5
 | [] => rfl
 | t :: ts => by rw [A1H, B0T ts, List.all_cons]
theorem B6D (t : Tm) (G : IM) (cells : List Value) (hl : cells.length = 9) (ho : cells.all (·.oneCell') = true) (h : Fn prog 188 [.agg ⟨cells⟩] [] G (I1 (.bool (H5 t)) G)) :
  Fn prog 203 [.agg ⟨cells⟩] [] G (S5 (.bool (!H5 t)) [] G) := by
 refine C4 func203 rfl ntmps203 results203 rfl ?_
 intro w0
 refine A5 ?_
 refine zf2 (fun b3 => ?_)
 refine B1 ?_
 refine sL (A3 rfl rfl (B9 zG0) hl) rfl rfl ?_
 refine F0 rfl (h) rfl rfl ?_
 refine sQ (A2C rfl) rfl ?_
 refine B1 ?_
 (exact ⟨rfl, rfl, rfl⟩)
theorem A08 (k : Int) (nm : ByteArray) (num : Int) (ty fr : Ty) (lb : Int) (ks : List Tm) : T8 (.mk k nm num ty fr lb ks) = decide (k = 14 ∧ fr.k = ty.k ∧ (ty.k = 4 ∨ ty.k = 5)) := rfl
theorem A52 (k : Int) (nm : ByteArray) (num : Int) (ty fr : Ty) (lb : Int) (ks : List Tm) : inj (.mk k nm num ty fr lb ks) = (decide (k = 14 ∧ ty.k = 1) && U7 fr) := rfl
theorem A53 {k : Int} {nm : ByteArray} {num : Int} {ty fr : Ty} {lb : Int} {ks : List Tm} (h : k = 10 ∨ T8 (.mk k nm num ty fr lb ks) = true ∨ inj (.mk k nm num ty fr lb ks) = true) : H5 (.mk k nm num ty fr lb ks) = ks.all H5 := by
 rw [H5, if_pos, B0T]
 rw [A08, A52] at h
 simp only [Bool.and_eq_true, decide_eq_true_eq] at h
 rcases h with h | h | h
 ·exact .inl h
 ·exact .inr (.inl h)
 ·exact .inr (.inr ⟨h.1.1, h.1.2, h.2⟩)
theorem B0U {k : Int} {nm : ByteArray} {num : Int} {ty fr : Ty} {lb : Int} {ks : List Tm} (h : ¬k = 10) (h2 : T8 (.mk k nm num ty fr lb ks) = false) (h3 : inj (.mk k nm num ty fr lb ks) = false) : H5 (.mk k nm num ty fr lb ks) = decide (k = 2 ∨ k = 3 ∨ k = 4 ∨ k = 5) := by
 rw [H5, if_neg]
 rw [A08] at h2
 rw [A52] at h3
 simp only [Bool.and_eq_false_iff, decide_eq_false_iff_not] at h2 h3
 rintro (h' | h' | h')
 ·exact h h'
 ·exact h2 h'
 ·rcases h3 with h3 | h3
  ·exact h3 ⟨h'.1, h'.2.1⟩
  ·rw [h3] at h'; cases h'.2.2
theorem B0V : ∀ (t : Tm) (G : IM) (cells : List Value), B7 G t cells → Fn prog 188 [.agg ⟨cells⟩] [] G (I1 (.bool (H5 t)) G) := by
 refine Tm.ind fun k nm num ty fr lb ks ih G cells hr => ?_
 have hr0 := hr
 have hP := A3l _ G _ hr
 have hI := A4R _ G _ hr
 have hPl := B0S _ G _ hr
 have hy := @A53 k nm num ty fr lb ks
 have hn := @B0U k nm num ty fr lb ks
 rw [show (Tm.mk k nm num ty fr lb ks).k = k from rfl] at hPl
 obtain ⟨A, hA⟩ : ∃ A, ks.all H5 = A := ⟨_, rfl⟩
 rw [hA] at hy
 generalize hpx : T8 (.mk k nm num ty fr lb ks) = bp at hP hy hn
 generalize hij : inj (.mk k nm num ty fr lb ks) = bi at hI hy hn
 generalize H5 (.mk k nm num ty fr lb ks) = R at hy hn ⊢
 obtain ⟨tk, tks⟩ := ty
 obtain ⟨fk, fks⟩ := fr
 obtain ⟨pt, ct, pf, cf, p, c, es, rfl, hk, hnum, hlb, hty, hfr, hsl, hkl⟩ := hr.open9
 have hC := B6C G p ks.length c es hsl 203 [] [] [] H5 ks rfl hA (fun i e he => by
  have hx := hkl.inv he L7
  exact B6D _ G e hx.2.len hx.2.one (ih _ hx.1 G e hx.2))
 refine C4 func188 rfl ntmps188 results188 rfl ?_
 intro w0
 refine A5 ?_
 refine zf2 (fun b3 => ?_)
 refine D4 ?_
 refine zf0 (fun h12 => ?_) (fun h12 => ?_)
 refine K1 ?_
 refine A2f rfl hC A04 rfl rfl ?_
 refine sQ (A2C rfl) rfl ?_
 refine A7 ?_
 (exact ⟨rfl, by rw [hy (by first | exact .inl zO0 | exact .inr (.inl zL0) | exact .inr (.inr zL0))]; cases A <;> rfl, rfl⟩)
 refine A5 ?_
 refine L4 rfl (hP) rfl rfl (fun h39 => ?_) (fun h39 => ?_)
 refine P3 ?_
 refine A2f rfl hC A04 rfl rfl ?_
 refine sQ (A2C rfl) rfl ?_
 refine A7 ?_
 (exact ⟨rfl, by rw [hy (by first | exact .inl zO0 | exact .inr (.inl zL0) | exact .inr (.inr zL0))]; cases A <;> rfl, rfl⟩)
 refine B5 ?_
 refine L4 rfl (hI) rfl rfl (fun h64 => ?_) (fun h64 => ?_)
 refine D4 ?_
 refine A2f rfl hC A04 rfl rfl ?_
 refine sQ (A2C rfl) rfl ?_
 refine A7 ?_
 (exact ⟨rfl, by rw [hy (by first | exact .inl zO0 | exact .inr (.inl zL0) | exact .inr (.inr zL0))]; cases A <;> rfl, rfl⟩)
 refine E1 ?_
 refine F0 rfl (hPl) rfl rfl ?_
 refine B1 ?_
 (exact ⟨rfl, by rw [hn zO0 zL0 zL0], rfl⟩)
variable {es : List (List Value)} {n c : Nat} {p : Option Addr} {G : IM}
theorem B7.put {k : Int} {nm : ByteArray} {num tk fk lb : Int} {tks fks : List Ty} {us : List Tm} {pt pf : Option Addr} {ct cf : Nat} (hk : F8 k) (hnum : F8 num) (hlb : F8 lb) (hty : C6 G (.mk tk tks) [.int .i64 tk, .slice pt tks.length ct]) (hfr : C6 G (.mk fk fks) [.int .i64 fk, .slice pf fks.length cf])
  (hn : n = us.length) (hs : D7 G p n c 9 es) (hr : H4 G us es) : B7 G (.mk k nm num (.mk tk tks) (.mk fk fks) lb us) [.int .i64 k, .string nm, .int .i64 num, .int .i64 tk, .slice pt tks.length ct, .int .i64 fk, .slice pf fks.length cf, .int .i64 lb, .slice p n c] := by
 subst hn
 simp only [B7]
 exact ⟨_, _, p, c, es, rfl, hk, hnum, hlb, hty, hfr, hs, hr⟩
variable {uc : List Value}
theorem nine (h : uc.length = 9) : ∃ v1 v2 v3 v4 v5 v6 v7 v8 v9, uc = [v1, v2, v3, v4, v5, v6, v7, v8, v9] := by
 match uc, h with
 | [a, b, c, d, e, f, g, i, j], _ => exact ⟨a, b, c, d, e, f, g, i, j, rfl⟩
variable {i : Nat}
theorem B6E {x : ByteArray} {v : Tm} {ks : List Tm} (h : i < ks.length) : (U8 x v ks).take (i + 1) = (U8 x v ks).take i ++ [V5 x v ks[i]] := by
 rw [A7G, List.take_succ_eq_append_getElem (by rw [List.length_map]; exact h), List.getElem_map]
theorem A7J (x : ByteArray) (v : Tm) (ks : List Tm) : (U8 x v ks).length = ks.length := by rw [A7G, List.length_map]
theorem B6F (y : ByteArray) (v : Tm) (vc : List Value) : ∀ (t : Tm) (G : IM) (cells : List Value), t.small → B7 G t cells → B7 G v vc → Fn prog 128 [.agg ⟨cells⟩, .string y, .agg ⟨vc⟩] [] G (TmP (V5 y v t)) := by
 refine Tm.ind fun k nm num ty fr lb ks ih G cells hts hr hv => ?_
 have hr0 := hr
 obtain ⟨_, _, _, hsm, hks⟩ := A4P.1 hts
 have hvl := hv.len
 have hvo := hv.one
 have hRl := hr.len
 have hRo := hr.one
 rw [V5]
 obtain ⟨tk, tks⟩ := ty
 obtain ⟨fk, fks⟩ := fr
 obtain ⟨pt, ct, pf, cf, p, c, es, rfl, hk, hnum, hlb, hty, hfr, hsl, hkl⟩ := hr.open9
 have hn := hsl.le
 refine C4 func128 rfl ntmps128 results128 rfl ?_
 intro w0
 have hm0 : True := trivial
 refine tS ?_
 (clear hm0; have hm1 : True := trivial; refine tR ?_)
 refine zf2 (fun b3 => ?_)
 refine zf2 (fun b4 => ?_)
 refine zf1 (fun b5 => ?_)
 refine A5 ?_
 (clear hm1; have hm2 : True := trivial; refine tS ?_; refine A3R (fun (_ : Unit) => ⟨[(1, .string y), (3, .pointer (some ⟨b3, 0, none⟩)), (5, .pointer (some ⟨b4, 0, none⟩)), (6, .pointer (some ⟨b5, 0, none⟩))], [.blk b5 zq9, .blk b4 vc, .blk b3 [.int .i64 k, .string nm, .int .i64 num, .int .i64 tk, .slice pt tks.length ct, .int .i64 fk, .slice pf fks.length cf, .int .i64 lb, .slice p ks.length c]], G⟩) (fun _ => ¬(k = 1 ∧ nm = y) ∧ ¬(k = 5 ∧ nm = y)) ?_ ?_)
 refine C2 ?_
 refine B6 ?_
 refine zf0 (fun h14 => ?_) (fun h14 => ?_)
 refine B6 ?_
 refine sB (A1h rfl rfl) rfl rfl (fun h19 => ?_) (fun h19 => ?_)
 refine B8 ?_
 refine sL (A3 rfl rfl (B9 zG0) hvl) rfl rfl ?_
 refine sS rfl rfl rfl hvl hvo rfl ?_ (hu := by exact E0 hvl.symm)
 refine B6 ?_
 refine A0l ?_
 refine K6 (rC rfl (A3 rfl rfl (B9 zG0) hvl)) ?_
 (rw [if_pos (by refine ⟨by omega, by assumption⟩)]; exact TmP.mk hv)
 refine E1 ?_
 refine zf11 ?_
 exact y24
 refine K5 ?_
 refine zf0 (fun h73 => ?_) (fun h73 => ?_)
 refine B6 ?_
 refine sB (A1h rfl rfl) rfl rfl (fun h78 => ?_) (fun h78 => ?_)
 refine K7 ?_
 refine A0l ?_
 refine zf9 ?_
 (rw [if_neg (by rintro ⟨h1, h2⟩; first | omega | contradiction), if_pos (by refine ⟨by omega, by assumption⟩)]; exact TmP.mk hr0)
 refine B8 ?_
 refine A0L () (D6 zA0 zQ) ⟨by rintro ⟨h1, h2⟩; first | omega | contradiction, by rintro ⟨h1, h2⟩; first | omega | contradiction⟩
 exact y24
 (clear hm2; rintro _ ⟨hk1, hk5⟩)
 refine B5 ?_
 refine zf1 (fun b120 => ?_)
 refine A0H ?_
 refine C2 ?_
 (refine V1 28 9 ?_; refine K2 (fun (x : Nat × Option Addr × Nat × List (List Value) × IM) => ⟨[(37, .int .i64 x.1), (36, .int .i64 ks.length), (35, .slice p ks.length c), (1, .string y), (3, .pointer (some ⟨b3, 0, none⟩)), (5, .pointer (some ⟨b4, 0, none⟩)), (6, .pointer (some ⟨b5, 0, none⟩)), (7, .pointer (some ⟨b120, 0, none⟩))], [.blk b120 [.int .i64 k, .string nm, .int .i64 num, .int .i64 tk, .slice pt tks.length ct, .int .i64 fk, .slice pf fks.length cf, .int .i64 lb, .slice x.2.1 x.1 x.2.2.1], .slc x.2.1 x.2.2.1 28 9 x.1 x.2.2.2.1.flatten, .blk b5 zq9, .blk b4 vc, .blk b3 [.int .i64 k, .string nm, .int .i64 num, .int .i64 tk, .slice pt tks.length ct, .int .i64 fk, .slice pf fks.length cf, .int .i64 lb, .slice p ks.length c]], x.2.2.2.2⟩) (fun x => x.1 ≤ ks.length ∧ C3 G x.2.2.2.2 ∧ H4 x.2.2.2.2 ((U8 y v ks).take x.1) x.2.2.2.1) (fun x => ks.length - x.1) (0, none, 0, [], G) ?_ ?_ ?_)
 (simp only [J5]; exact E3)
 (exact ⟨Nat.zero_le _, C3.refl _, by simp [H4]⟩)
 (rintro ⟨i, pn, cn, es', Gi⟩ ⟨hi, hle, hst⟩; simp only [] at hi hle hst ⊢; replace hsl := hsl.mono hle; replace hkl := hkl.mono hle; replace hv := hv.mono hle; replace hty := hty.mono hle; replace hfr := hfr.mono hle; have hsl' := hst.len; rw [List.length_take, A7J] at hsl')
 refine A5 ?_
 refine zf8 (fun h146 => ?_) (fun h146 => ?_)
 refine B8 ?_
 refine C2 ?_
 refine A5 ?_
 (have hil : i < ks.length := zO0; obtain ⟨bx, ox, e, rfl, hl, hat, hre, hgb⟩ := hsl.kidTm hkl (i := i) zO0 zO0; have hel := hre.len; have heo := hre.one; refine sP (B2 (j := i) rfl rfl rfl zO0) rfl rfl ?_)
 refine sL (A3 rfl rfl (hat _) hl) rfl rfl ?_
 refine zf1 (fun b159 => ?_)
 refine sS rfl rfl rfl hel heo rfl ?_ (hu := by exact E0 hel.symm)
 refine A5 ?_
 refine zf6 ?_
 refine aL 2 rfl (A3 rfl rfl (B9 zG0) hel) rfl ?_
 refine aL 4 rfl (A3 rfl rfl (B9 zG0) hvl) rfl ?_
 refine xx3 0 1 3 ?_
 refine A2 5 ?_
 (refine E6 rfl rfl (ih ks[i] (List.getElem_mem zO0) Gi _ (Tm.smallL_mem hks _ (List.getElem_mem zO0)) hre hv) rfl rfl rfl (fun u G1 hle1 hh => ?_); obtain ⟨uc, rfl, hru⟩ := hh; have hul := hru.len; have huo := hru.one; obtain ⟨v1, v2, v3, v4, v5, v6, v7, v8, v9, rfl⟩ := nine hul)
 refine A2 6 ?_
 refine zf3 (fun b172 => ?_)
 refine A2 7 ?_
 (refine R4 rfl rfl rfl rfl rfl rfl (fun _ _ => by repeat (first | exact Sw.here | apply Sw.there)) (O4 zG0) rfl (fun u hu => List.all_eq_true.1 huo u hu) zJ0 zO0 rfl rfl zI (fun p7 c7 => ?_))
 refine xx1 8 ?_
 refine A2 9 ?_
 refine R8 rfl rfl rfl rfl rfl rfl rfl rfl zK0 zC0 (by rfl) ?_
 refine B6 ?_
 refine zf4 ?_
 refine A5 ?_
 refine J7 (i + 1, p7, c7, es' ++ [[v1, v2, v3, v4, v5, v6, v7, v8, v9]], G1) ?_ ?_ ?_
 (simp only [J5]; exact E3)
 (dsimp only; exact ⟨by omega, hle.trans hle1, by rw [B6E zO0]; exact H4.snoc (hst.mono hle1) hru⟩)
 (show ks.length - (i + 1) < ks.length - i; omega)
 refine K1 ?_
 (refine H1 (cs := es'.flatten) zB0 (fun G2 hle2 hsl2 hno2 => ?_); obtain rfl : i = ks.length := zO0)
 refine tT ?_
 refine zf9 ?_
 (rw [if_neg hk1, if_neg hk5]; rw [List.take_of_length_le (by rw [A7J]; omega)] at hst; exact TmP.mk (B7.put hk hnum hlb (hty.mono hle2) (hfr.mono hle2) (by rw [A7J]) (D7.of hsl2 zO0 hst.all (fun e he => (hst.each e he).2)) (hst.mono hle2)))
theorem A1T (e : Tm) (a b : Ty) (l : Int) (G : IM) (ce ca cb : List Value) (hl : F8 l) (he : B7 G e ce) (ha : C6 G a ca) (hb : C6 G b cb) : Fn prog 213 [.agg ⟨ce⟩, .agg ⟨ca⟩, .agg ⟨cb⟩, .int .i64 l] [] G (TmP (O1 e a b l)) := by
 have hel := he.len
 have heo := he.one
 obtain ⟨v1, v2, v3, v4, v5, v6, v7, v8, v9, rfl⟩ := nine hel
 obtain ⟨ak, aks⟩ := a
 obtain ⟨bk, bks⟩ := b
 obtain ⟨pa, cca, ea, rfl, _⟩ := ha.open
 obtain ⟨pb, ccb, eb, rfl, _⟩ := hb.open
 refine C4 func213 rfl ntmps213 results213 rfl ?_
 intro w0
 refine A5 ?_
 refine zf2 (fun b3 => ?_)
 refine zf2 (fun b4 => ?_)
 refine zf2 (fun b5 => ?_)
 refine zf1 (fun b6 => ?_)
 refine B6 ?_
 refine sL (A3 rfl rfl (B9 zG0) rfl) rfl rfl ?_
 refine sL (A3 rfl rfl (B9 zG0) rfl) rfl rfl ?_
 refine I0 ?_
 refine sL (A3 rfl rfl (B9 zG0) rfl) rfl rfl ?_
 refine zf7 (fun b15 => ?_)
 refine B6 ?_
 (refine H1 (cs := [v1, v2, v3, v4, v5, v6, v7, v8, v9]) zB0 (fun G2 hle2 hsl2 hno2 => ?_))
 refine tT ?_
 refine zf9 ?_
 (exact TmP.mk (B7.put (us := [e]) (es := [[v1, v2, v3, v4, v5, v6, v7, v8, v9]]) ⟨by decide, by decide⟩ ⟨by decide, by decide⟩ hl (hb.mono hle2) (ha.mono hle2) rfl (D7.of hsl2 rfl (by intro x hx; obtain rfl := List.mem_singleton.1 hx; rfl) (by intro x hx; obtain rfl := List.mem_singleton.1 hx; exact heo)) (by simp only [H4]; exact ⟨_, _, rfl, he.mono hle2, rfl⟩)))
theorem A32 (k : Int) (p : Option Addr) (n c : Nat) (G : IM) : Fn prog 168 [.int .i64 k, .slice p n c] [] G (I1 (.agg ⟨[.int .i64 k, .string ⟨⟨[]⟩⟩, .int .i64 0, .int .i64 0, .slice none 0 0, .int .i64 0, .slice none 0 0, .int .i64 0, .slice p n c]⟩) G) := by
 refine C4 func168 rfl ntmps168 results168 rfl ?_
 intro w0
 refine A5 ?_
 refine zf1 (fun b3 => ?_)
 refine J3 ?_
 refine zf9 ?_
 (exact ⟨rfl, rfl, rfl⟩)
theorem A54 (G : IM) {k : Int} (hk : F8 k) : B7 G (A0a k []) [.int .i64 k, .string ⟨⟨[]⟩⟩, .int .i64 0, .int .i64 0, .slice none 0 0, .int .i64 0, .slice none 0 0, .int .i64 0, .slice none 0 0] := A31 hk rfl (D7.nil _ _) rfl
theorem B6G (G : IM) : Fn prog 129 [.bool true] [] G (TmP (U3 (true = true))) := by
 refine C4 func129 rfl ntmps129 results129 rfl ?_
 intro w0
 refine A5 ?_
 refine zf1 (fun b3 => ?_)
 refine J3 ?_
 refine F0 rfl ((A32 _ _ _ _ _)) rfl rfl ?_
 refine B1 ?_
 refine zf9 ?_
 (exact TmP.mk (A54 _ ⟨by decide, by decide⟩))
theorem B6H (G : IM) : Fn prog 129 [.bool false] [] G (TmP (U3 (false = true))) := by
 refine C4 func129 rfl ntmps129 results129 rfl ?_
 intro w0
 refine A5 ?_
 refine zf1 (fun b3 => ?_)
 refine K7 ?_
 refine F0 rfl ((A32 _ _ _ _ _)) rfl rfl ?_
 refine B6 ?_
 refine zf9 ?_
 (exact TmP.mk (A54 _ ⟨by decide, by decide⟩))
theorem A55 (b : Bool) (G : IM) : Fn prog 129 [.bool b] [] G (TmP (U3 (b = true))) := by
 cases b
 ·exact B6H G
 ·exact B6G G
theorem A7K {a b : Int} (h : 0 ≤ a ∧ a ≤ 999) (h' : 0 ≤ b ∧ b ≤ 999) : (a + b).tmod 1000 = (a + b) % 1000 := by
 rw [Int.tmod_eq_emod_of_nonneg zO0]
def A0b (k : Int) (ks : List Tm) : Option Tm :=
 if k = 6 then (if (kd ks 0).k = 5 then some (V5 (kd ks 0).nm (kd ks 1) (kd (kd ks 0).ks 0)) else none)
 else if k = 7 ∨ k = 8 then (if (kd ks 0).k = 2 ∧ (kd ks 1).k = 2 then some (if k = 7 then A2q (((kd ks 0).num + (kd ks 1).num) % 1000) else U3 ((kd ks 0).num < (kd ks 1).num)) else none)
 else if k = 9 then (if (kd ks 0).k = 3 then some (kd ks 1) else if (kd ks 0).k = 4 then some (kd ks 2) else none)
 else if k = 11 ∨ k = 12 then (if (kd ks 0).k = 10 then some (kd (kd ks 0).ks (k - 11).toNat) else none)
 else none
def S1 (o : Option Tm) : IM → Value → List A9 → Prop := M3 fun G' v => ∃ u cells c, v = .tuple ⟨[.agg ⟨cells⟩, .int .i64 c]⟩ ∧ B7 G' u cells ∧ (∀ x, o = some x → c = 1 ∧ u = x) ∧ (o = none → c = 3)
variable {cells : List Value}
theorem S1.yes {o : Option Tm} {u : Tm} (h : o = some u) (hr : B7 G u cells) : S1 o G (.tuple ⟨[.agg ⟨cells⟩, .int .i64 1]⟩) [] := by
 subst h; exact ⟨rfl, u, cells, 1, rfl, hr, fun x hx => (by cases hx; exact ⟨rfl, rfl⟩), fun h => (by cases h)⟩
theorem S1.no {o : Option Tm} {u : Tm} (h : o = none) (hr : B7 G u cells) : S1 o G (.tuple ⟨[.agg ⟨cells⟩, .int .i64 3]⟩) [] := by
 subst h; exact ⟨rfl, u, cells, 3, rfl, hr, fun x hx => (by cases hx), fun _ => rfl⟩
theorem Q3 (G : IM) : B7 G L7 [.int .i64 0, .string ⟨⟨[]⟩⟩, .int .i64 0, .int .i64 0, .slice none 0 0, .int .i64 0, .slice none 0 0, .int .i64 0, .slice none 0 0] := (Q6.zero G).R
theorem B6I (a b : Tm) (nm : ByteArray) (num : Int) (ty fr : Ty) (lb : Int) (G : IM) (cells : List Value) (hca : cv a) (hr : B7 G (.mk 6 nm num ty fr lb [a, b]) cells) : Fn prog 76 [.agg ⟨cells⟩] [] G (S1 (A0b 6 [a, b])) := by
 have hsm := A51 a hca
 obtain ⟨ak, anm, anum, ⟨atk, atks⟩, ⟨afk, afks⟩, alb, aks⟩ := a
 obtain ⟨tk, tks⟩ := ty
 obtain ⟨fk, fks⟩ := fr
 obtain ⟨pt, ct, pf, cf, p, c, es, rfl, hk, hnum, hlb, hty, hfr, hsl, hkl⟩ := hr.open9
 obtain ⟨bx, ox, e0, rfl, hl0, hat0, hre0, hgb0⟩ := hsl.kidTm hkl (i := 0) zP0 zP0
 replace hre0 : B7 G (.mk ak anm anum (.mk atk atks) (.mk afk afks) alb aks) e0 := hre0
 obtain ⟨apt, act, apf, acf, ap, ac, aes, rfl, hak, hanum, halb, haty, hafr, hasl, hakl⟩ := hre0.open9
 obtain ⟨_, _, e1, hp1, hl1, hat1, hre1, hgb1⟩ := hsl.kidTm hkl (i := 1) zP0 zP0
 cases hp1
 replace hre1 : B7 G b e1 := hre1
 have ho1 := hre1.one
 obtain ⟨hN, _⟩ := hca.node
 have hops := hN.ops
 obtain ⟨_, _, _, _, hksm⟩ := A4P.1 hsm
 have h1 : ak = 5 → aks.length = 1 := fun h => by rw [h] at hops; have : E4 5 = 1 := rfl; omega
 have hL : ([Tm.mk ak anm anum (.mk atk atks) (.mk afk afks) alb aks, b] : List Tm).length = 2 := rfl
 rw [show A0b 6 [Tm.mk ak anm anum (.mk atk atks) (.mk afk afks) alb aks, b] = (if ak = 5 then some (V5 anm b (kd aks 0)) else none) from rfl]
 refine C4 func76 rfl ntmps76 results76 rfl ?_
 intro w0
 refine A5 ?_
 refine zf2 (fun b3 => ?_)
 refine zf1 (fun b4 => ?_)
 refine A7 ?_
 refine zf1 (fun b11 => ?_)
 refine E1 ?_
 refine sP (A3I rfl rfl zO0) rfl rfl ?_
 refine A7 ?_
 refine zf18 ?_
 refine sL (A3 rfl rfl (hat0 _) rfl) rfl rfl ?_
 refine I9 ?_
 refine C2 ?_
 refine A5 ?_
 refine zf12 ?_
 refine D4 ?_
 refine zf0 (fun h52 => ?_) (fun h52 => ?_)
 refine B6 ?_
 (have hq : ak = 5 := zO0; have hq1 := h1 hq; obtain ⟨bq, oq, e3, rfl, hl3, hat3, hre3, hgb3⟩ := hasl.kidTm hakl (i := 0) zO0 zO0; have hS := B6F anm b e1 aks[0] G e3 (Tm.smallL_mem hksm _ (List.getElem_mem zO0)) hre3 hre1; refine zdd D9 rfl ?_)
 refine xx10 0 1 2 3 4 5 6 7 8 9 ?_
 refine A2 10 ?_
 (refine E6 rfl rfl hS rfl rfl rfl (fun u G1 hle1 hh => ?_); obtain ⟨uc, rfl, hru⟩ := hh; have hul := hru.len; have huo := hru.one)
 refine A2 11 ?_
 (refine oS rfl rfl rfl rfl hul huo rfl rfl ?_ (hu := by exact E0 hul.symm))
 refine xx1 12 ?_
 refine B1 ?_
 refine F4 (rC rfl (A3 rfl rfl (B9 zG0) hul)) (rT rfl) ?_
 (exact S1.yes (by rw [if_pos zO0]; unfold kd; rw [List.getD_eq_getElem?_getD, List.getElem?_eq_getElem zO0, Option.getD_some]) hru)
 refine K5 ?_
 exact y19
theorem B0W (k : Int) (a b : Tm) (nm : ByteArray) (num : Int) (ty fr : Ty) (lb : Int) (G : IM) (cells : List Value) (hk78 : k = 7 ∨ k = 8) (hca : cv a) (hcb : cv b) (hr : B7 G (.mk k nm num ty fr lb [a, b]) cells) : Fn prog 76 [.agg ⟨cells⟩] [] G (S1 (A0b k [a, b])) := by
 obtain ⟨ak, anm, anum, ⟨atk, atks⟩, ⟨afk, afks⟩, alb, aks⟩ := a
 obtain ⟨tk, tks⟩ := ty
 obtain ⟨fk, fks⟩ := fr
 obtain ⟨pt, ct, pf, cf, p, c, es, rfl, hk, hnum, hlb, hty, hfr, hsl, hkl⟩ := hr.open9
 obtain ⟨bx, ox, e0, rfl, hl0, hat0, hre0, hgb0⟩ := hsl.kidTm hkl (i := 0) zP0 zP0
 replace hre0 : B7 G (.mk ak anm anum (.mk atk atks) (.mk afk afks) alb aks) e0 := hre0
 obtain ⟨apt, act, apf, acf, ap, ac, aes, rfl, hak, hanum, halb, haty, hafr, hasl, hakl⟩ := hre0.open9
 obtain ⟨bk, bnm, bnum, ⟨btk, btks⟩, ⟨bfk, bfks⟩, blb, bks⟩ := b
 obtain ⟨_, _, e1, hp1, hl1, hat1, hre1, hgb1⟩ := hsl.kidTm hkl (i := 1) zP0 zP0
 cases hp1
 replace hre1 : B7 G (.mk bk bnm bnum (.mk btk btks) (.mk bfk bfks) blb bks) e1 := hre1
 obtain ⟨bpt, bct, bpf, bcf, bp, bc, bes, rfl, hbk, hbnum, hblb, hbty, hbfr, hbsl, hbkl⟩ := hre1.open9
 obtain ⟨hN, _⟩ := hca.node
 obtain ⟨hM, _⟩ := hcb.node
 obtain ⟨hn1, hn2⟩ := hN.num0
 obtain ⟨hm1, hm2⟩ := hM.num0
 have hL : ([Tm.mk ak anm anum (.mk atk atks) (.mk afk afks) alb aks, Tm.mk bk bnm bnum (.mk btk btks) (.mk bfk bfks) blb bks] : List Tm).length = 2 := rfl
 have hR : A0b k [Tm.mk ak anm anum (.mk atk atks) (.mk afk afks) alb aks, Tm.mk bk bnm bnum (.mk btk btks) (.mk bfk bfks) blb bks] = (if ak = 2 ∧ bk = 2 then some (if k = 7 then A2q ((anum + bnum) % 1000) else U3 (anum < bnum)) else none) := by
  unfold A0b; rw [if_neg zO0, if_pos hk78]; rfl
 rw [hR]
 have htm : (anum + bnum).tmod 1000 = (anum + bnum) % 1000 := A7K ⟨hn1, hn2⟩ ⟨hm1, hm2⟩
 have hb : F8 ((anum + bnum) % 1000) := ⟨by omega, by omega⟩
 refine C4 func76 rfl ntmps76 results76 rfl ?_
 intro w0
 refine A5 ?_
 refine zf2 (fun b3 => ?_)
 refine zf1 (fun b4 => ?_)
 refine A7 ?_
 refine zf1 (fun b11 => ?_)
 refine E1 ?_
 refine sP (A3I rfl rfl zO0) rfl rfl ?_
 refine A7 ?_
 refine zf18 ?_
 refine sL (A3 rfl rfl (hat0 _) rfl) rfl rfl ?_
 refine I9 ?_
 refine C2 ?_
 refine A5 ?_
 refine zf11 ?_
 refine B8 ?_
 refine zf0 (fun h51 => ?_) (fun h51 => ?_)
 refine J3 ?_
 refine zf21 ?_
 refine sL (A3 rfl rfl (hat1 _) rfl) rfl rfl ?_
 refine zf1 (fun b65 => ?_)
 refine B5 ?_
 refine C2 ?_
 refine B6 ?_
 refine zf16 (fun h74 => ?_) (fun h74 => ?_)
 refine A1i ?_
 exact y19
 refine B5 ?_
 refine zf16 (fun h101 => ?_) (fun h101 => ?_)
 refine W8 ?_
 exact y19
 refine E1 ?_
 refine zf12 ?_
 refine I9 ?_
 refine zf4 ?_
 refine sP (A3C rfl rfl zO0) rfl rfl ?_
 refine I0 ?_
 (rw [htm]; refine sS' ?_)
 refine B8 ?_
 refine zf5 ?_
 (exact S1.yes (u := A2q (HMod.hMod (anum + bnum) 1000)) (by rw [if_pos ⟨by omega, by omega⟩, if_pos zO0]) (B7.put (us := []) ⟨by decide, by decide⟩ hb ⟨by decide, by decide⟩ (A1n _) (A1n _) rfl (D7.nil _ _) rfl))
 refine B1 ?_
 refine zf12 ?_
 refine D4 ?_
 refine zf21 ?_
 refine sL (A3 rfl rfl (hat1 _) rfl) rfl rfl ?_
 refine zf1 (fun b170 => ?_)
 refine B5 ?_
 refine C2 ?_
 refine B6 ?_
 refine zf16 (fun h179 => ?_) (fun h179 => ?_)
 refine A1i ?_
 exact y19
 refine B5 ?_
 refine zf16 (fun h206 => ?_) (fun h206 => ?_)
 refine W8 ?_
 exact y19
 refine E1 ?_
 refine zf11 ?_
 refine I9 ?_
 (refine sB (J8 rfl rfl) rfl rfl (fun h246 => ?_) (fun h246 => ?_))
 (refine H6 rfl (A55 _ _) rfl rfl (fun u G1 hle1 hh => ?_); obtain ⟨uc, rfl, hru⟩ := hh; have hul := hru.len; have huo := hru.one)
 refine sS rfl rfl rfl hul huo rfl ?_ (hu := by exact E0 hul.symm)
 refine B8 ?_
 refine F4 (rC rfl (A3 rfl rfl (B9 zG0) hul)) (rT rfl) ?_
 (exact S1.yes (by rw [if_pos ⟨by omega, by omega⟩, if_neg zO0]; unfold U3; rw [if_pos zO0, if_pos rfl]) hru)
 (refine H6 rfl (A55 _ _) rfl rfl (fun u G1 hle1 hh => ?_); obtain ⟨uc, rfl, hru⟩ := hh; have hul := hru.len; have huo := hru.one)
 refine sS rfl rfl rfl hul huo rfl ?_ (hu := by exact E0 hul.symm)
 refine B8 ?_
 refine F4 (rC rfl (A3 rfl rfl (B9 zG0) hul)) (rT rfl) ?_
 (exact S1.yes (by rw [if_pos ⟨by omega, by omega⟩, if_neg zO0]; unfold U3; rw [if_neg zO0, if_neg zN0]) hru)
theorem B6J (a b c0 : Tm) (nm : ByteArray) (num : Int) (ty fr : Ty) (lb : Int) (G : IM) (cells : List Value) (hr : B7 G (.mk 9 nm num ty fr lb [a, b, c0]) cells) : Fn prog 76 [.agg ⟨cells⟩] [] G (S1 (A0b 9 [a, b, c0])) := by
 obtain ⟨ak, anm, anum, ⟨atk, atks⟩, ⟨afk, afks⟩, alb, aks⟩ := a
 obtain ⟨tk, tks⟩ := ty
 obtain ⟨fk, fks⟩ := fr
 obtain ⟨pt, ct, pf, cf, p, c, es, rfl, hk, hnum, hlb, hty, hfr, hsl, hkl⟩ := hr.open9
 obtain ⟨bx, ox, e0, rfl, hl0, hat0, hre0, hgb0⟩ := hsl.kidTm hkl (i := 0) zP0 zP0
 replace hre0 : B7 G (.mk ak anm anum (.mk atk atks) (.mk afk afks) alb aks) e0 := hre0
 obtain ⟨apt, act, apf, acf, ap, ac, aes, rfl, hak, hanum, halb, haty, hafr, hasl, hakl⟩ := hre0.open9
 obtain ⟨_, _, e1, hp1, hl1, hat1, hre1, hgb1⟩ := hsl.kidTm hkl (i := 1) zP0 zP0
 cases hp1
 replace hre1 : B7 G b e1 := hre1
 have ho1 := hre1.one
 obtain ⟨_, _, e2, hp2, hl2, hat2, hre2, hgb2⟩ := hsl.kidTm hkl (i := 2) zP0 zP0
 cases hp2
 replace hre2 : B7 G c0 e2 := hre2
 have ho2 := hre2.one
 have hL : ([Tm.mk ak anm anum (.mk atk atks) (.mk afk afks) alb aks, b, c0] : List Tm).length = 3 := rfl
 rw [show A0b 9 [Tm.mk ak anm anum (.mk atk atks) (.mk afk afks) alb aks, b, c0] = (if ak = 3 then some b else if ak = 4 then some c0 else none) from rfl]
 refine C4 func76 rfl ntmps76 results76 rfl ?_
 intro w0
 refine A5 ?_
 refine zf2 (fun b3 => ?_)
 refine zf1 (fun b4 => ?_)
 refine A7 ?_
 refine zf1 (fun b11 => ?_)
 refine E1 ?_
 refine sP (A3I rfl rfl zO0) rfl rfl ?_
 refine A7 ?_
 refine zf18 ?_
 refine sL (A3 rfl rfl (hat0 _) rfl) rfl rfl ?_
 refine I9 ?_
 refine C2 ?_
 refine A5 ?_
 refine zf11 ?_
 refine B8 ?_
 refine zf11 ?_
 refine B1 ?_
 refine zf11 ?_
 refine A7 ?_
 refine zf12 ?_
 refine I9 ?_
 refine C2 (tS (tR (sB (qE rfl rfl) rfl rfl (fun h78 => ?_) (fun h78 => ?_))))
 refine D4 ?_
 refine zf21 ?_
 refine sL (A3 rfl rfl (hat1 _) hl1) rfl rfl ?_
 refine sS rfl rfl rfl hl1 ho1 rfl ?_ (hu := by exact E0 hl1.symm)
 refine B8 ?_
 refine F4 (rC rfl (A3 rfl rfl (B9 zG0) hl1)) (rT rfl) ?_
 (exact S1.yes (by rw [if_pos zO0]) hre1)
 refine A7 ?_
 refine zf0 (fun h105 => ?_) (fun h105 => ?_)
 refine D4 ?_
 refine sP (B2 (j := 2) rfl rfl rfl zP0) rfl rfl ?_
 refine sL (A3 rfl rfl (hat2 _) hl2) rfl rfl ?_
 refine sS rfl rfl rfl hl2 ho2 rfl ?_ (hu := by exact E0 hl2.symm)
 refine B8 ?_
 refine F4 (rC rfl (A3 rfl rfl (B9 zG0) hl2)) (rT rfl) ?_
 (exact S1.yes (by rw [if_neg zO0, if_pos zO0]) hre2)
 refine L9 ?_
 refine zf5 ?_
 (exact S1.no (by rw [if_neg zO0, if_neg zO0]) (Q3 _))
theorem B0X (k : Int) (a : Tm) (nm : ByteArray) (num : Int) (ty fr : Ty) (lb : Int) (G : IM) (cells : List Value) (hk1 : k = 11 ∨ k = 12) (hca : cv a) (hr : B7 G (.mk k nm num ty fr lb [a]) cells) : Fn prog 76 [.agg ⟨cells⟩] [] G (S1 (A0b k [a])) := by
 obtain ⟨ak, anm, anum, ⟨atk, atks⟩, ⟨afk, afks⟩, alb, aks⟩ := a
 obtain ⟨tk, tks⟩ := ty
 obtain ⟨fk, fks⟩ := fr
 obtain ⟨pt, ct, pf, cf, p, c, es, rfl, hk, hnum, hlb, hty, hfr, hsl, hkl⟩ := hr.open9
 obtain ⟨bx, ox, e0, rfl, hl0, hat0, hre0, hgb0⟩ := hsl.kidTm hkl (i := 0) zP0 zP0
 replace hre0 : B7 G (.mk ak anm anum (.mk atk atks) (.mk afk afks) alb aks) e0 := hre0
 obtain ⟨apt, act, apf, acf, ap, ac, aes, rfl, hak, hanum, halb, haty, hafr, hasl, hakl⟩ := hre0.open9
 obtain ⟨hN, _⟩ := hca.node
 have hops := hN.ops
 have h2 : ak = 10 → aks.length = 2 := fun h => by rw [h] at hops; have : E4 10 = 2 := rfl; omega
 have hL : ([Tm.mk ak anm anum (.mk atk atks) (.mk afk afks) alb aks] : List Tm).length = 1 := rfl
 have hR : A0b k [Tm.mk ak anm anum (.mk atk atks) (.mk afk afks) alb aks] = (if ak = 10 then some (kd aks (k - 11).toNat) else none) := by
  unfold A0b; rw [if_neg zO0, if_neg zO0, if_neg zO0, if_pos hk1]; rfl
 rw [hR]
 obtain ⟨i, hi⟩ : ∃ i : Nat, (k - 11).toNat = i := ⟨_, rfl⟩
 rw [hi]
 refine C4 func76 rfl ntmps76 results76 rfl ?_
 intro w0
 refine A5 ?_
 refine zf2 (fun b3 => ?_)
 refine zf1 (fun b4 => ?_)
 refine A7 ?_
 refine zf1 (fun b11 => ?_)
 refine E1 ?_
 refine sP (A3I rfl rfl zO0) rfl rfl ?_
 refine A7 ?_
 refine zf18 ?_
 refine sL (A3 rfl rfl (hat0 _) rfl) rfl rfl ?_
 refine I9 ?_
 refine C2 ?_
 refine A5 ?_
 refine zf11 ?_
 refine B8 ?_
 refine zf11 ?_
 refine B1 ?_
 refine zf11 ?_
 refine A7 ?_
 refine zf11 ?_
 refine B8 ?_
 refine zf0 (fun h72 => ?_) (fun h72 => ?_)
 refine J3 ?_
 refine zf0 (fun h84 => ?_) (fun h84 => ?_)
 refine B6 ?_
 (have hq : ak = 10 := zO0; have hq1 := h2 hq; obtain ⟨bq, oq, e3, rfl, hl3, hat3, hre3, hgb3⟩ := hasl.kidTm hakl (i := i) zO0 zO0; have ho3 := hre3.one)
 refine B1 ?_
 refine zf14 ?_
 (rw [show (k - 11 : Int) = ((i : Nat) : Int) from zO0]; refine sP (B2 (j := i) rfl rfl rfl zO0) rfl rfl ?_)
 refine sL (A3 rfl rfl (hat3 _) hl3) rfl rfl ?_
 refine sS rfl rfl rfl hl3 ho3 rfl ?_ (hu := by exact E0 hl3.symm)
 refine A7 ?_
 refine F4 (rC rfl (A3 rfl rfl (B9 zG0) hl3)) (rT rfl) ?_
 (exact S1.yes (by rw [if_pos zO0]; unfold kd; rw [List.getD_eq_getElem?_getD, List.getElem?_eq_getElem zO0, Option.getD_some]) hre3)
 refine K5 ?_
 exact y19
 refine B1 ?_
 refine zf12 ?_
 refine D4 ?_
 refine zf0 (fun h137 => ?_) (fun h137 => ?_)
 refine B6 ?_
 (have hq : ak = 10 := zO0; have hq1 := h2 hq; obtain ⟨bq, oq, e3, rfl, hl3, hat3, hre3, hgb3⟩ := hasl.kidTm hakl (i := i) zO0 zO0; have ho3 := hre3.one)
 refine B1 ?_
 refine zf14 ?_
 (rw [show (k - 11 : Int) = ((i : Nat) : Int) from zO0]; refine sP (B2 (j := i) rfl rfl rfl zO0) rfl rfl ?_)
 refine sL (A3 rfl rfl (hat3 _) hl3) rfl rfl ?_
 refine sS rfl rfl rfl hl3 ho3 rfl ?_ (hu := by exact E0 hl3.symm)
 refine A7 ?_
 refine F4 (rC rfl (A3 rfl rfl (B9 zG0) hl3)) (rT rfl) ?_
 (exact S1.yes (by rw [if_pos zO0]; unfold kd; rw [List.getD_eq_getElem?_getD, List.getElem?_eq_getElem zO0, Option.getD_some]) hre3)
 refine K5 ?_
 exact y19
section
variable {P : Program} {Γ : M5} {K : Po} {ops : Array Oper} {env : M8} {hp : List A9} {G : IM}
theorem A0c {H : List (Nat × Nat)} {fuel j : Nat} {listed : List Bool} {hp' : List A9} {el sz : Nat} {cs : List Value} (hk : Pk hp (.slc p c el sz n cs) hp')
  (h : ∀ G', C3 G G' → Sl G' p n c sz cs → (∀ b ∈ K0 p, G b = none ∧ G' b ≠ none) → W6 P Γ ops K H fuel listed j ⟨env, hp', G'⟩) : W6 P Γ ops K H fuel listed j ⟨env, hp, G⟩ :=
 ⟨fun a w hs => let ⟨G', h1, h2, h3, h4⟩ := hs.freeze hk; (h G' h2 h3 h4).run a w h1⟩
end
variable {t : Ty}
theorem C6.kids {a : Value} (h : C6 G t [a, .slice p n c]) : ∃ es, D7 G p t.ks.length c 2 es ∧ E7 G t.ks es := by
 obtain ⟨p', c', es, he, _, h1, h2⟩ := h.open
 simp only [List.cons.injEq, Value.slice.injEq, and_true] at he
 obtain ⟨_, rfl, _, rfl⟩ := he
 exact ⟨es, h1, h2⟩
def A0o (k : Int) (ty fr : Ty) (lb : Int) (ks : List Tm) : Stp :=
 if k = 6 then
  (if T8 (kd ks 0) = true ∧ (kd ks 0).ty.k = 4 then (O1 (A0a 6 [kd (kd ks 0).ks 0, O1 (kd ks 1) (kt (kd ks 0).ty.ks 0) (kt (kd ks 0).fr.ks 0) (-(kd ks 0).lb)]) (kt (kd ks 0).fr.ks 1) (kt (kd ks 0).ty.ks 1) (kd ks 0).lb, 1, 0) else V6)
 else if k = 11 ∨ k = 12 then
  (if T8 (kd ks 0) = true ∧ (kd ks 0).ty.k = 5 then (O1 (A0a k [kd (kd ks 0).ks 0]) (kt (kd ks 0).fr.ks (k - 11).toNat) (kt (kd ks 0).ty.ks (k - 11).toNat) (kd ks 0).lb, 1, 0) else V6)
 else if k = 14 then
  (if fr.k = ty.k then (kd ks 0, 1, 0)
   else if ty.k = 1 then (O1 (O1 (kd ks 0) fr (A0n fr) lb) (A0n fr) ty lb, 1, 0)
   else if U7 ty = false then (O1 (O1 (kd ks 0) fr (A0n ty) lb) (A0n ty) ty lb, 1, 0)
   else if inj (kd ks 0) = false then V6
   else if (kd ks 0).fr.k = ty.k then (kd (kd ks 0).ks 0, 1, 0)
   else (L7, 2, lb))
 else V6
theorem B6K (k : Int) (ty fr : Ty) (lb : Int) (ks : List Tm) : W4 k ty fr lb ks = match A0b k ks with | some u => (u, 1, 0) | none => A0o k ty fr lb ks := by
 unfold W4 A0b A0o
 by_cases h6 : k = 6
 ·rw [if_pos h6, if_pos h6, if_pos h6]
  by_cases h : (kd ks 0).k = 5
  ·rw [if_pos h, if_pos h]
  ·rw [if_neg h, if_neg h]
 rw [if_neg h6, if_neg h6, if_neg h6]
 by_cases h7 : k = 7 ∨ k = 8
 ·rw [if_pos h7, if_pos h7]
  by_cases h : (kd ks 0).k = 2 ∧ (kd ks 1).k = 2
  ·rw [if_pos h, if_pos h]
  ·rw [if_neg h, if_neg h]; simp only; rw [if_neg zO0, if_neg zO0]
 rw [if_neg h7, if_neg h7]
 by_cases h9 : k = 9
 ·rw [if_pos h9, if_pos h9]
  by_cases h : (kd ks 0).k = 3
  ·rw [if_pos h, if_pos h]
  ·rw [if_neg h, if_neg h]
   by_cases h' : (kd ks 0).k = 4
   ·rw [if_pos h', if_pos h']
   ·rw [if_neg h', if_neg h']; simp only; rw [if_neg zO0, if_neg zO0]
 rw [if_neg h9, if_neg h9]
 by_cases h11 : k = 11 ∨ k = 12
 ·rw [if_pos h11, if_pos h11, if_pos h11]
  by_cases h : (kd ks 0).k = 10
  ·rw [if_pos h, if_pos h]
  ·rw [if_neg h, if_neg h]
 rw [if_neg h11, if_neg h11, if_neg h11]
def S2 (r : Stp) : IM → Value → List A9 → Prop := M3 fun G' v => ∃ u cells, v = .tuple ⟨[.agg ⟨cells⟩, .int .i64 r.2.1, .int .i64 r.2.2]⟩ ∧ B7 G' u cells ∧ (r.2.1 = 1 → u = r.1)
theorem S2.mk {r : Stp} {u : Tm} {c l : Int} (h : r = (u, c, l)) (hr : B7 G u cells) : S2 r G (.tuple ⟨[.agg ⟨cells⟩, .int .i64 c, .int .i64 l]⟩) [] := by
 subst h; exact ⟨rfl, u, cells, rfl, hr, fun _ => rfl⟩
theorem A4S {ks : List Tm} (h : i < ks.length) : kd ks i = ks[i] := by unfold kd; rw [List.getD_eq_getElem?_getD, List.getElem?_eq_getElem h, Option.getD_some]
theorem A1o {ks : List Ty} (h : i < ks.length) : kt ks i = ks[i] := by unfold kt; rw [List.getD_eq_getElem?_getD, List.getElem?_eq_getElem h, Option.getD_some]
theorem B0Y (h : U7 t = true) : t = A0n t := by
 unfold U7 at h
 rw [Bool.and_eq_true] at h
 exact (A0M _ _).1 h.2
theorem B6L (a b : Tm) (nm : ByteArray) (num : Int) (ty fr : Ty) (lb : Int) (G : IM) (cells : List Value) (hca : cv a) (hr : B7 G (.mk 6 nm num ty fr lb [a, b]) cells) : Fn prog 206 [.agg ⟨cells⟩] [] G (S2 (A0o 6 ty fr lb [a, b])) := by
 obtain ⟨ak, anm, anum, ⟨atk, atks⟩, ⟨afk, afks⟩, alb, aks⟩ := a
 obtain ⟨hN, hkk⟩ := hca.node
 have hops := hN.ops
 have hbl := hN.lbB
 have htyA := hN.tyA
 have hfrA := hN.frA
 rw [H8] at htyA hfrA
 have h14 : ak = 14 → aks.length = 1 := fun h => by rw [h] at hops; have : E4 14 = 1 := rfl; omega
 obtain ⟨tk, tks⟩ := ty
 obtain ⟨fk, fks⟩ := fr
 obtain ⟨pt, ct, pf, cf, p, c, es, rfl, hk, hnum, hlb, hty, hfr, hsl, hkl⟩ := hr.open9
 obtain ⟨bx, ox, e0, rfl, hl0, hat0, hre0, hgb0⟩ := hsl.kidTm hkl (i := 0) zP0 zP0
 replace hre0 : B7 G (Tm.mk ak anm anum (.mk atk atks) (.mk afk afks) alb aks) e0 := hre0
 have hP : Fn prog 97 [.agg ⟨e0⟩] [] G (I1 (.bool (decide (ak = 14 ∧ afk = atk ∧ (atk = 4 ∨ atk = 5)))) G) := A3l _ G _ hre0
 obtain ⟨apt, act, apf, acf, ap, ac, aes, rfl, hak, hanum, halb, haty, hafr, hasl, hakl⟩ := hre0.open9
 obtain ⟨tes, htS, htL⟩ := haty.kids
 obtain ⟨fes, hfS, hfL⟩ := hafr.kids
 simp only [Ty.ks] at htS htL hfS hfL
 obtain ⟨_, _, e1, hp1, hl1, hat1, hre1, hgb1⟩ := hsl.kidTm hkl (i := 1) zP0 zP0
 cases hp1
 replace hre1 : B7 G b e1 := hre1
 have ho1 := hre1.one
 have hR : A0o 6 (.mk tk tks) (.mk fk fks) lb [Tm.mk ak anm anum (.mk atk atks) (.mk afk afks) alb aks, b] = (if (ak = 14 ∧ afk = atk ∧ (atk = 4 ∨ atk = 5)) ∧ atk = 4 then (O1 (A0a 6 [kd aks 0, O1 b (kt atks 0) (kt afks 0) (-alb)]) (kt afks 1) (kt atks 1) alb, 1, 0) else V6) := by
  unfold A0o
  rw [if_pos rfl, show kd [Tm.mk ak anm anum (.mk atk atks) (.mk afk afks) alb aks, b] 0 = Tm.mk ak anm anum (.mk atk atks) (.mk afk afks) alb aks from rfl, A08]
  simp only [decide_eq_true_eq]
  rfl
 rw [hR]
 refine C4 func206 rfl ntmps206 results206 rfl ?_
 intro w0
 refine A5 ?_
 refine zf2 (fun b3 => ?_)
 refine zf1 (fun b4 => ?_)
 refine D4 ?_
 refine zf18 ?_
 refine sL (A3 rfl rfl (hat0 _) rfl) rfl rfl ?_
 refine zf1 (fun b15 => ?_)
 refine B6 ?_
 refine C2 ?_
 refine B6 ?_
 refine zf12 ?_
 refine A5 ?_
 focus (by_cases hpx : (ak = 14 ∧ afk = atk ∧ (atk = 4 ∨ atk = 5)); rw [decide_eq_true hpx] at hP; rotate_left; rw [decide_eq_false hpx] at hP; rotate_left; all_goals (refine F0 rfl hP rfl rfl ?_))
 refine B1 ?_
 refine zf0 (fun h34 => ?_) (fun h34 => ?_)
 refine A7 ?_
 (have hq : (ak = 14 ∧ afk = atk ∧ (atk = 4 ∨ atk = 5)) ∧ atk = 4 := ⟨hpx, by omega⟩; have hq1 := h14 hq.1.1; have hq2 := htyA.1 zO0; have hq3 := hfrA.1 zO0; obtain ⟨bq, oq, e3, rfl, hl3, hat3, hre3, hgb3⟩ := hasl.kidTm hakl (i := 0) zO0 zO0; have ho3 := hre3.one; obtain ⟨b5, o5, q5, d5, rfl, hat5, hre5, hgb5⟩ := htS.kidTy htL (i := 0) zO0 zO0; obtain ⟨_, _, q6, d6, hp6, hat6, hre6, hgb6⟩ := htS.kidTy htL (i := 1) zO0 zO0; cases hp6; obtain ⟨b7, o7, q7, d7, rfl, hat7, hre7, hgb7⟩ := hfS.kidTy hfL (i := 0) zO0 zO0; obtain ⟨_, _, q8, d8, hp8, hat8, hre8, hgb8⟩ := hfS.kidTy hfL (i := 1) zO0 zO0; cases hp8; obtain ⟨x1, x2, x3, x4, x5, x6, x7, x8, x9, rfl⟩ := nine hl3; obtain ⟨y1, y2, y3, y4, y5, y6, y7, y8, y9, rfl⟩ := nine hl1; refine zdd D9 rfl ?_)
 refine xx8 0 1 2 3 4 5 6 7 ?_
 refine N5 (j := 8) (j' := 9) zM0 ?_ ?_
 refine zf10 (fun b51 => ?_)
 refine A2 9 ?_
 refine zf10 (fun b53 => ?_)
 refine A2 10 ?_
 (refine oS rfl rfl rfl rfl rfl ho3 rfl rfl ?_ (hu := by exact E0 rfl.symm))
 refine A2 11 ?_
 (refine oS rfl rfl rfl rfl rfl ho1 rfl rfl ?_ (hu := by exact E0 rfl.symm))
 refine B5 ?_
 refine zf6 ?_
 refine aL 0 rfl (A3 rfl rfl (B9 zG0) rfl) rfl ?_
 refine aL 1 rfl (A3 rfl rfl (B9 zG0) rfl) rfl ?_
 refine xx4 2 3 4 5 ?_
 refine aL 6 rfl (A3 rfl rfl (hat5 _) rfl) rfl ?_
 refine xx4 7 8 9 10 ?_
 refine aL 11 rfl (A3 rfl rfl (hat7 _) rfl) rfl ?_
 refine xx2 12 13 ?_
 refine aP 14 rfl (A3B rfl zO0 zO0) rfl ?_
 refine xx4 18 19 20 21 ?_
 refine aL 22 rfl (A3 rfl rfl (hat8 _) rfl) rfl ?_
 refine xx4 23 24 25 26 ?_
 refine aL 27 rfl (A3 rfl rfl (hat6 _) rfl) rfl ?_
 refine xx2 28 29 ?_
 refine A2 15 ?_
 (refine E6 rfl rfl (A1T b atks[0] afks[0] (-alb) G _ _ _ ⟨by omega, by omega⟩ hre1 hre5 hre7) rfl rfl rfl (fun u G1 hle1 hh => ?_); obtain ⟨uc, rfl, hru⟩ := hh; have hul := hru.len; have huo := hru.one; obtain ⟨z1, z2, z3, z4, z5, z6, z7, z8, z9, rfl⟩ := nine hul; replace hre3 := hre3.mono hle1; replace hre6 := hre6.mono hle1; replace hre8 := hre8.mono hle1)
 refine A2 16 ?_
 refine zf3 (fun b92 => ?_)
 exact y18
 refine zf10 (fun b108 => ?_)
 refine A2 8 ?_
 refine zf10 (fun b110 => ?_)
 refine A2 10 ?_
 (refine oS rfl rfl rfl rfl rfl ho3 rfl rfl ?_ (hu := by exact E0 rfl.symm))
 refine A2 11 ?_
 (refine oS rfl rfl rfl rfl rfl ho1 rfl rfl ?_ (hu := by exact E0 rfl.symm))
 refine B5 ?_
 refine zf6 ?_
 refine aL 0 rfl (A3 rfl rfl (B9 zG0) rfl) rfl ?_
 refine aL 1 rfl (A3 rfl rfl (B9 zG0) rfl) rfl ?_
 refine xx4 2 3 4 5 ?_
 refine aL 6 rfl (A3 rfl rfl (hat5 _) rfl) rfl ?_
 refine xx4 7 8 9 10 ?_
 refine aL 11 rfl (A3 rfl rfl (hat7 _) rfl) rfl ?_
 refine xx2 12 13 ?_
 refine aP 14 rfl (A3B rfl zO0 zO0) rfl ?_
 refine xx4 18 19 20 21 ?_
 refine aL 22 rfl (A3 rfl rfl (hat8 _) rfl) rfl ?_
 refine xx4 23 24 25 26 ?_
 refine aL 27 rfl (A3 rfl rfl (hat6 _) rfl) rfl ?_
 refine xx2 28 29 ?_
 refine A2 15 ?_
 (refine E6 rfl rfl (A1T b atks[0] afks[0] (-alb) G _ _ _ ⟨by omega, by omega⟩ hre1 hre5 hre7) rfl rfl rfl (fun u G1 hle1 hh => ?_); obtain ⟨uc, rfl, hru⟩ := hh; have hul := hru.len; have huo := hru.one; obtain ⟨z1, z2, z3, z4, z5, z6, z7, z8, z9, rfl⟩ := nine hul; replace hre3 := hre3.mono hle1; replace hre6 := hre6.mono hle1; replace hre8 := hre8.mono hle1)
 refine A2 16 ?_
 refine zf3 (fun b149 => ?_)
 exact y18
 refine E1 ?_
 exact y22
 refine K1 ?_
 exact y22
inductive Cn where
 | mk (k tg lb : Int) (ks : List Cn)
inductive Nt where
 | mk (k : Int) (nm : ByteArray) (num : Int) (co : Cn) (ks : List Nt)
def Nt.k : Nt → Int | .mk k _ _ _ _ => k
def Nt.ks : Nt → List Nt | .mk _ _ _ _ ks => ks
def I5 : Cn := .mk 0 0 0 []
def nt0 : Nt := .mk 0 ⟨⟨[]⟩⟩ 0 I5 []
def GK.cn : GK → Cn
 | .ida => .mk 1 1 0 []
 | .idi => .mk 1 2 0 []
 | .idb => .mk 1 3 0 []
 | .fn c d => .mk 2 0 0 [c.cn, d.cn]
 | .pr c d => .mk 3 0 0 [c.cn, d.cn]
 | .inj c => .mk 4 0 0 [c.cn]
 | .prj l c => .mk 5 0 l [c.cn]
 | .fl l t => .mk 6 t l []
def TH.nt : TH → Nt
 | .var x => .mk 1 x 0 I5 []
 | .num n => .mk 2 ⟨⟨[]⟩⟩ n I5 []
 | .tru b => .mk (if b = true then 3 else 4) ⟨⟨[]⟩⟩ 0 I5 []
 | .lam x _ e => .mk 5 x 0 I5 [e.nt]
 | .app f a => .mk 6 ⟨⟨[]⟩⟩ 0 I5 [f.nt, a.nt]
 | .ar s a b => .mk (if s = true then 8 else 7) ⟨⟨[]⟩⟩ 0 I5 [a.nt, b.nt]
 | .ite c a b => .mk 9 ⟨⟨[]⟩⟩ 0 I5 [c.nt, a.nt, b.nt]
 | .pair a b => .mk 10 ⟨⟨[]⟩⟩ 0 I5 [a.nt, b.nt]
 | .part s e => .mk (if s = true then 12 else 11) ⟨⟨[]⟩⟩ 0 I5 [e.nt]
 | .conv c e => .mk 14 ⟨⟨[]⟩⟩ 0 c.cn [e.nt]
def KR {α : Type} (R : α → List Value → Prop) (ks : List α) (es : List (List Value)) : Prop := ∀ (i : Nat) (a : α) (e : List Value), ks[i]? = some a → es[i]? = some e → R a e
theorem KR.nil {α : Type} {R : α → List Value → Prop} : KR R [] [] := fun i a e h _ => by simp at h
theorem KR.cons {α : Type} {R : α → List Value → Prop} {a : α} {e : List Value} {ks : List α} {es : List (List Value)} (h1 : R a e) (h2 : KR R ks es) : KR R (a :: ks) (e :: es) := by
 intro i b f hb hf
 cases i with
 | zero => simp at hb hf; subst hb hf; exact h1
 | succ i => exact h2 i b f (by simpa using hb) (by simpa using hf)
variable {α : Type}
theorem KR.snoc {R : α → List Value → Prop} {a : α} {e : List Value} {ks : List α} (h2 : KR R ks es) (hl : ks.length = es.length) (h1 : R a e) : KR R (ks ++ [a]) (es ++ [e]) := by
 intro i b f hb hf
 rw [List.getElem?_append] at hb hf
 by_cases hi : i < ks.length
 ·rw [if_pos hi] at hb; rw [if_pos zO0] at hf; exact h2 i b f hb hf
 ·rw [if_neg hi] at hb; rw [if_neg zO0] at hf
  rw [← hl] at hf
  cases hj : i - ks.length with
  | zero => rw [hj] at hb hf; simp at hb hf; subst hb hf; exact h1
  | succ j => rw [hj] at hb; simp at hb
theorem KR.set {α : Type} {R : α → List Value → Prop} {a : α} {e : List Value} {ks : List α} {es : List (List Value)} {j : Nat} (h2 : KR R ks es) (h1 : R a e) : KR R (ks.set j a) (es.set j e) := by
 intro i b f hb hf
 rw [List.getElem?_set] at hb hf
 by_cases hj : j = i
 ·rw [if_pos hj] at hb hf
  split at hb
  ·split at hf
   ·cases hb; cases hf; exact h1
   ·cases hf
  ·cases hb
 ·rw [if_neg hj] at hb hf; exact h2 i b f hb hf
theorem KR.imp {R R' : α → List Value → Prop} {ks : List α} (h : KR R ks es) (hi : ∀ a e, R a e → R' a e) : KR R' ks es := fun i a e h1 h2 => hi a e (h i a e h1 h2)
inductive H3 (G : IM) : Cn → List Value → Prop
 | mk {k tg lb ks p c es : _} : F8 k → F8 tg → F8 lb → ks.length ≤ 2 → (k = 2 ∨ k = 3 → ks.length = 2) → (k = 4 ∨ k = 5 → ks.length = 1) → D7 G p ks.length c 4 es → (∀ (i : Nat) a e, ks[i]? = some a → es[i]? = some e → H3 G a e) →
  H3 G (.mk k tg lb ks) [.int .i64 k, .int .i64 tg, .int .i64 lb, .slice p ks.length c]
inductive D3 (G : IM) : Nt → List Value → Prop
 | mk {k nm num tk tks fk fks lb pt ct pf cf p0 c0 co cc ks p c es : _} : B7 G (.mk k nm num (.mk tk tks) (.mk fk fks) lb []) [.int .i64 k, .string nm, .int .i64 num, .int .i64 tk, .slice pt tks.length ct, .int .i64 fk, .slice pf fks.length cf, .int .i64 lb, .slice p0 0 c0] →
  H3 G co cc → ks.length ≤ 3 → (k = 14 → ks.length = 1) → D7 G p ks.length c 14 es → (∀ (i : Nat) a e, ks[i]? = some a → es[i]? = some e → D3 G a e) →
  D3 G (.mk k nm num co ks) ([.int .i64 k, .string nm, .int .i64 num, .int .i64 tk, .slice pt tks.length ct, .int .i64 fk, .slice pf fks.length cf, .int .i64 lb, .slice p0 0 c0] ++ cc ++ [.slice p ks.length c])
theorem H3.mono {G G' : IM} (hg : C3 G G') {c : Cn} {cells : List Value} (h : H3 G c cells) : H3 G' c cells := by
 induction h with
 | mk h1 h2 h3 h4 h5 h6 h7 _ ih => exact .mk h1 h2 h3 h4 h5 h6 (h7.mono hg) ih
theorem D3.mono {G G' : IM} (hg : C3 G G') {c : Nt} {cells : List Value} (h : D3 G c cells) : D3 G' c cells := by
 induction h with
 | mk h1 h2 h3 h4 h5 _ ih => exact .mk (h1.mono hg) (h2.mono hg) h3 h4 (h5.mono hg) ih
theorem H3.len {c : Cn} (h : H3 G c cells) : cells.length = 4 := by cases h; rfl
theorem H3.one {c : Cn} (h : H3 G c cells) : cells.all (·.oneCell') = true := by cases h; rfl
theorem D3.len {G : IM} {c : Nt} {cells : List Value} (h : D3 G c cells) : cells.length = 14 := by
 cases h with
 | mk h1 h2 => have := h2.len; simp [this]
theorem D3.one {G : IM} {c : Nt} {cells : List Value} (h : D3 G c cells) : cells.all (·.oneCell') = true := by
 cases h with
 | mk h1 h2 => rw [List.all_append, List.all_append, h2.one]; rfl
theorem H3.open4 {k tg lb : Int} {ks : List Cn} (h : H3 G (.mk k tg lb ks) cells) :
  ∃ p c es, cells = [.int .i64 k, .int .i64 tg, .int .i64 lb, .slice p ks.length c] ∧ F8 k ∧ F8 tg ∧ F8 lb ∧ ks.length ≤ 2 ∧ (k = 2 ∨ k = 3 → ks.length = 2) ∧ (k = 4 ∨ k = 5 → ks.length = 1) ∧ D7 G p ks.length c 4 es ∧ KR (H3 G) ks es := by
 cases h with
 | mk h1 h2 h3 h4 h5 h6 h7 h8 => exact ⟨_, _, _, rfl, h1, h2, h3, h4, h5, h6, h7, h8⟩
theorem D3.open14 {k : Int} {nm : ByteArray} {num : Int} {ck ctg clb : Int} {cks : List Cn} {ks : List Nt} (h : D3 G (.mk k nm num (.mk ck ctg clb cks) ks) cells) :
  ∃ (tk : Int) (tks : List Ty) (fk : Int) (fks : List Ty) (lb : Int) (pt : Option Addr) (ct : Nat) (pf : Option Addr) (cf : Nat) (p0 : Option Addr) (c0 : Nat) (pc : Option Addr) (cc : Nat) (p : Option Addr) (c : Nat) (es : List (List Value)),
   cells = [.int .i64 k, .string nm, .int .i64 num, .int .i64 tk, .slice pt tks.length ct, .int .i64 fk, .slice pf fks.length cf, .int .i64 lb, .slice p0 0 c0, .int .i64 ck, .int .i64 ctg, .int .i64 clb, .slice pc cks.length cc, .slice p ks.length c] ∧
   B7 G (.mk k nm num (.mk tk tks) (.mk fk fks) lb []) [.int .i64 k, .string nm, .int .i64 num, .int .i64 tk, .slice pt tks.length ct, .int .i64 fk, .slice pf fks.length cf, .int .i64 lb, .slice p0 0 c0] ∧
   H3 G (.mk ck ctg clb cks) [.int .i64 ck, .int .i64 ctg, .int .i64 clb, .slice pc cks.length cc] ∧ ks.length ≤ 3 ∧ (k = 14 → ks.length = 1) ∧ D7 G p ks.length c 14 es ∧ KR (D3 G) ks es := by
 cases h with
 | mk h1 h2 h3 h4 h5 h6 =>
  obtain ⟨pc, cc, _, rfl, _⟩ := h2.open4
  exact ⟨_, _, _, _, _, _, _, _, _, _, _, pc, cc, _, _, _, rfl, h1, h2, h3, h4, h5, h6⟩
theorem D7.kidR {R : α → List Value → Prop} {sz : Nat} {ks : List α} (h : D7 G p n c sz es) (hk : KR R ks es) (hi : i < n) (hn : i < ks.length) :
  ∃ b o e, p = some ⟨b, o, none⟩ ∧ e.length = sz ∧ e.all (·.oneCell') = true ∧ (∀ hp, At hp G b (o + i * sz) e) ∧ R ks[i] e ∧ es[i]? = some e ∧ G b ≠ none := by
 obtain ⟨e, b, o, he, hp, hl, ho, hat, hg⟩ := h.get hi
 exact ⟨b, o, e, hp, hl, ho, hat, hk i _ e (List.getElem?_eq_getElem hn) he, he, hg⟩
theorem D3.put {k : Int} {nm : ByteArray} {num tk fk lb : Int} {tks fks : List Ty} {ck ctg clb : Int} {cks : List Cn} {us : List Nt} {pt pf p0 pc : Option Addr} {ct cf c0 cc m : Nat}
  (h1 : B7 G (.mk k nm num (.mk tk tks) (.mk fk fks) lb []) [.int .i64 k, .string nm, .int .i64 num, .int .i64 tk, .slice pt tks.length ct, .int .i64 fk, .slice pf fks.length cf, .int .i64 lb, .slice p0 0 c0])
  (h2 : H3 G (.mk ck ctg clb cks) [.int .i64 ck, .int .i64 ctg, .int .i64 clb, .slice pc m cc]) (h3 : us.length ≤ 3) (h4 : k = 14 → us.length = 1) (hn : n = us.length) (h5 : D7 G p n c 14 es) (h6 : KR (D3 G) us es) :
  D3 G (.mk k nm num (.mk ck ctg clb cks) us) [.int .i64 k, .string nm, .int .i64 num, .int .i64 tk, .slice pt tks.length ct, .int .i64 fk, .slice pf fks.length cf, .int .i64 lb, .slice p0 0 c0, .int .i64 ck, .int .i64 ctg, .int .i64 clb, .slice pc m cc, .slice p n c] := by
 subst hn
 exact .mk h1 h2 h3 h4 h5 h6
theorem H3.put {k tg lb : Int} {ks : List Cn} (h1 : F8 k) (h2 : F8 tg) (h3 : F8 lb) (h4 : ks.length ≤ 2) (h5 : k = 2 ∨ k = 3 → ks.length = 2) (h6 : k = 4 ∨ k = 5 → ks.length = 1) (hn : n = ks.length) (h7 : D7 G p n c 4 es) (h8 : KR (H3 G) ks es) :
  H3 G (.mk k tg lb ks) [.int .i64 k, .int .i64 tg, .int .i64 lb, .slice p n c] := by
 subst hn
 exact .mk h1 h2 h3 h4 h5 h6 h7 h8
theorem A09 (G : IM) : H3 G I5 [.int .i64 0, .int .i64 0, .int .i64 0, .slice none 0 0] :=
 H3.put (ks := []) ⟨by decide, by decide⟩ ⟨by decide, by decide⟩ ⟨by decide, by decide⟩ zN0 zN0 zN0 rfl (D7.nil _ _) KR.nil
theorem A4T {k num : Int} (nm : ByteArray) (hk : F8 k) (hn : F8 num) : B7 G (.mk k nm num (.mk 0 []) (.mk 0 []) 0 []) [.int .i64 k, .string nm, .int .i64 num, .int .i64 0, .slice none 0 0, .int .i64 0, .slice none 0 0, .int .i64 0, .slice none 0 0] := by
 have h0 : F8 0 := ⟨by decide, by decide⟩
 exact B7.put (us := []) hk hn h0 (by simp only [C6]; exact ⟨none, 0, [], rfl, h0, D7.nil _ _, by simp only [E7]⟩) (by simp only [C6]; exact ⟨none, 0, [], rfl, h0, D7.nil _ _, by simp only [E7]⟩) rfl (D7.nil _ _) (by simp only [H4])
theorem A56 (G : IM) : D3 G nt0 [.int .i64 0, .string ⟨⟨[]⟩⟩, .int .i64 0, .int .i64 0, .slice none 0 0, .int .i64 0, .slice none 0 0, .int .i64 0, .slice none 0 0, .int .i64 0, .int .i64 0, .int .i64 0, .slice none 0 0, .slice none 0 0] :=
 D3.put (tks := []) (fks := []) (cks := []) (us := []) (A4T _ ⟨by decide, by decide⟩ ⟨by decide, by decide⟩) (A09 G) zN0 zN0 rfl (D7.nil _ _) KR.nil
theorem A1p (h : uc.length = 14) : ∃ v1 v2 v3 v4 v5 v6 v7 v8 v9 w1 w2 w3 w4 w5, uc = [v1, v2, v3, v4, v5, v6, v7, v8, v9, w1, w2, w3, w4, w5] := by
 match uc, h with
 | [a, b, c, d, e, f, g, i, j, a1, a2, a3, a4, a5], _ => exact ⟨a, b, c, d, e, f, g, i, j, a1, a2, a3, a4, a5, rfl⟩
theorem A0z (h : uc.length = 4) : ∃ v1 v2 v3 v4, uc = [v1, v2, v3, v4] := by
 match uc, h with
 | [a, b, c, d], _ => exact ⟨a, b, c, d, rfl⟩
theorem Cn.ind {P : Cn → Prop} (h : ∀ k tg lb ks, (∀ c ∈ ks, P c) → P (.mk k tg lb ks)) : ∀ c, P c := by
 intro c
 exact Cn.rec (motive_1 := P) (motive_2 := fun ks => ∀ c ∈ ks, P c) (fun k tg lb ks ih => h k tg lb ks ih) (fun c hc => by cases hc) (fun a b i j c hc => by rcases List.mem_cons.1 hc with rfl | hc; exact i; exact j c hc) c
theorem Nt.ind {P : Nt → Prop} (h : ∀ k nm num co ks, (∀ c ∈ ks, P c) → P (.mk k nm num co ks)) : ∀ c, P c := by
 intro c
 exact Nt.rec (motive_1 := P) (motive_2 := fun ks => ∀ c ∈ ks, P c) (fun k nm num co ks ih => h k nm num co ks ih) (fun c hc => by cases hc) (fun a b i j c hc => by rcases List.mem_cons.1 hc with rfl | hc; exact i; exact j c hc) c
mutual
def Nt.sz : Nt → Nat
 | .mk _ _ _ _ ks => Nt.szL ks + 1
def Nt.szL : List Nt → Nat
 | [] => 0
 | t :: ts => t.sz + Nt.szL ts
end
theorem B0Z : ∀ (a : List Nt) (t : Nt), Nt.szL (a ++ [t]) = Nt.szL a + t.sz
 | [], t => by simp [Nt.szL]
 | x :: xs, t => by rw [List.cons_append, Nt.szL, Nt.szL, B0Z xs t]; omega
theorem A7L {ks : List Nt} {i : Nat} (h : i < ks.length) : Nt.szL (ks.take (i + 1)) = Nt.szL (ks.take i) + ks[i].sz := by
 rw [List.take_succ_eq_append_getElem h, B0Z]
theorem A7M : ∀ (ks : List Nt) (i : Nat), Nt.szL (ks.take i) ≤ Nt.szL ks
 | [], i => by simp [Nt.szL]
 | x :: xs, 0 => by simp [Nt.szL]
 | x :: xs, i + 1 => by rw [List.take_succ_cons, Nt.szL, Nt.szL]; have := A7M xs i; omega
theorem B00 {ks : List Nt} (h : i < ks.length) : Nt.szL (ks.take i) + ks[i].sz ≤ Nt.szL ks := by
 have := A7M ks (i + 1)
 rw [A7L h] at this
 exact this
theorem Nt.sz_pos (t : Nt) : 1 ≤ t.sz := by cases t; rw [Nt.sz]; omega
def mxI (m n : Int) : Int := if m < n then n else m
mutual
def Cn.ht : Cn → Int
 | .mk k _ _ ks => if k = 4 ∨ k = 5 then Cn.htL 0 ks else IntKind.i64.wrap (Cn.htL 0 ks + 1)
def Cn.htL (m : Int) : List Cn → Int
 | [] => m
 | t :: ts => Cn.htL (mxI m t.ht) ts
end
mutual
def Nt.ht : Nt → Int
 | .mk k _ _ co ks => Nt.htL (if k = 14 then co.ht else 0) ks
def Nt.htL (m : Int) : List Nt → Int
 | [] => m
 | t :: ts => Nt.htL (mxI m t.ht) ts
end
theorem B01 : ∀ (a : List Cn) (m : Int) (t : Cn), Cn.htL m (a ++ [t]) = mxI (Cn.htL m a) t.ht
 | [], m, t => by simp [Cn.htL]
 | x :: xs, m, t => by rw [List.cons_append, Cn.htL, Cn.htL, B01 xs]
theorem B6M {ks : List Cn} {m : Int} (h : i < ks.length) : Cn.htL m (ks.take (i + 1)) = mxI (Cn.htL m (ks.take i)) ks[i].ht := by
 rw [List.take_succ_eq_append_getElem h, B01]
theorem B02 : ∀ (a : List Nt) (m : Int) (t : Nt), Nt.htL m (a ++ [t]) = mxI (Nt.htL m a) t.ht
 | [], m, t => by simp [Nt.htL]
 | x :: xs, m, t => by rw [List.cons_append, Nt.htL, Nt.htL, B02 xs]
theorem B03 {ks : List Nt} {m : Int} (h : i < ks.length) : Nt.htL m (ks.take (i + 1)) = mxI (Nt.htL m (ks.take i)) ks[i].ht := by
 rw [List.take_succ_eq_append_getElem h, B02]
mutual
def A0d (x : ByteArray) (v : Nt) : Nt → Nt
 | .mk k nm num co ks => if k = 1 ∧ nm = x then v else if k = 5 ∧ nm = x then .mk k nm num co ks else .mk k nm num co (S3 x v ks)
def S3 (x : ByteArray) (v : Nt) : List Nt → List Nt
 | [] => []
 | t :: ts => A0d x v t :: S3 x v ts
end
theorem A7N (x : ByteArray) (v : Nt) : ∀ ks, S3 x v ks = ks.map (A0d x v)
 | [] => rfl
 | t :: ts => by rw [S3, A7N x v ts, List.map_cons]
theorem A0Y (x : ByteArray) (v : Nt) (ks : List Nt) : (S3 x v ks).length = ks.length := by rw [A7N, List.length_map]
theorem B04 {x : ByteArray} {v : Nt} {ks : List Nt} (h : i < ks.length) : (S3 x v ks).take (i + 1) = (S3 x v ks).take i ++ [A0d x v ks[i]] := by
 rw [A7N, List.take_succ_eq_append_getElem (by rw [List.length_map]; exact h), List.getElem_map]
theorem B05 (x : ByteArray) (v : TH) : ∀ t : TH, (t.sub x v).nt = A0d x v.nt t.nt := by
 intro t
 induction t with
 | var y =>
  rw [TH.sub, TH.nt, A0d]
  by_cases h : y = x
  ·rw [if_pos h, if_pos ⟨rfl, h⟩]
  ·rw [if_neg h, if_neg (fun c => h c.2), if_neg zD0, TH.nt, S3]
 | num n => rw [TH.sub, TH.nt, A0d, if_neg zD0, if_neg zD0, S3]
 | tru b => rw [TH.sub, TH.nt, A0d]; cases b <;> simp [S3]
 | lam y A e i =>
  by_cases h : y = x
  ·rw [TH.sub, if_pos h, TH.nt, A0d, if_neg zD0, if_pos ⟨rfl, h⟩]
  ·rw [TH.sub, if_neg h, TH.nt, TH.nt, A0d, if_neg zD0, if_neg (fun c => h c.2), i, S3, S3]
 | app f a i j => rw [TH.sub, TH.nt, TH.nt, A0d, i, j, if_neg zD0, if_neg zD0, S3, S3, S3]
 | ar s a b i j => rw [TH.sub, TH.nt, TH.nt, A0d, i, j]; cases s <;> simp [S3]
 | ite c a b i j k => rw [TH.sub, TH.nt, TH.nt, A0d, i, j, k, if_neg zD0, if_neg zD0, S3, S3, S3, S3]
 | pair a b i j => rw [TH.sub, TH.nt, TH.nt, A0d, i, j, if_neg zD0, if_neg zD0, S3, S3, S3]
 | part s e i => rw [TH.sub, TH.nt, TH.nt, A0d, i]; cases s <;> simp [S3]
 | conv c e i => rw [TH.sub, TH.nt, TH.nt, A0d, i, if_neg zD0, if_neg zD0, S3, S3]
def kn (ks : List Nt) (i : Nat) : Nt := ks.getD i nt0
def Nt.co : Nt → Cn | .mk _ _ _ c _ => c
def Cn.k : Cn → Int | .mk k _ _ _ => k
def B06 (k : Int) (c : Cn) : Prop := k = 14 ∧ (c.k = 4 ∨ c.k = 2 ∨ c.k = 3)
instance (k : Int) (c : Cn) : Decidable (B06 k c) := by unfold B06; infer_instance
theorem A57 (c : GK) : (c.cn.k = 4 ∨ c.cn.k = 2 ∨ c.cn.k = 3) ↔ c.vl = true := by
 cases c <;> simp [GK.cn, Cn.k, GK.vl]
theorem B07 {t : TH} {k : Int} {nm : ByteArray} {num : Int} {co : Cn} {ks : List Nt} (h : t.nt = .mk k nm num co ks) (hc : k ≠ 10) : t.pln = decide (k = 2 ∨ k = 3 ∨ k = 4 ∨ k = 5) := by
 cases t <;> simp only [TH.nt, Nt.mk.injEq] at h <;> obtain ⟨rfl, rfl, rfl, rfl, rfl⟩ := h <;> rw [TH.pln] <;> first | rfl | (rename_i b _ _; cases b <;> rfl) | (rename_i b; cases b <;> rfl) | (rename_i b _; cases b <;> rfl) | exact absurd rfl hc
theorem B08 {t : TH} {nm : ByteArray} {num : Int} {co : Cn} {ks : List Nt} (h : t.nt = .mk 10 nm num co ks) : ∃ a b, t = .pair a b ∧ ks = [a.nt, b.nt] := by
 cases t <;> simp only [TH.nt, Nt.mk.injEq] at h <;> first | exact ⟨_, _, rfl, h.2.2.2.2.symm⟩ | (exfalso; (try split at h) <;> (try omega) <;> (have := h.1; split at this <;> omega))
theorem A33 {t : TH} {nm : ByteArray} {num : Int} {co : Cn} {ks : List Nt} (h : t.nt = .mk 14 nm num co ks) : ∃ c e, t = .conv c e ∧ ks = [e.nt] ∧ co = c.cn := by
 cases t <;> simp only [TH.nt, Nt.mk.injEq] at h <;> first | exact ⟨_, _, rfl, h.2.2.2.2.symm, h.2.2.2.1.symm⟩ | (exfalso; (try split at h) <;> (try omega) <;> (have := h.1; split at this <;> omega))
theorem A3m {t : TH} {k : Int} {nm : ByteArray} {num : Int} {co : Cn} {ks : List Nt} (h : t.nt = .mk k nm num co ks) (hk : k ≠ 14) : t.cnv = false := by
 cases t <;> simp only [TH.nt, Nt.mk.injEq] at h <;> first | rfl | exact absurd h.1.symm hk
theorem B09 {t : TH} (h : t.cnv = false) : t.val = t.pln := by
 cases t <;> first | (rw [TH.val, TH.pln]; done) | cases h
def pAt (t : Tm) (label : Int) (l : List Int) : Bool := match tAt t l with
 | some x => decide (x.k = 14 ∧ x.lb = label)
 | none => false
def A4U (t : Tm) (label : Int) : List Int × Bool := match (B4X t).find? (pAt t label) with
 | some l => (l, true)
 | none => ([], false)
def SP1 (G : IM) (l : List Int) (p : Option Addr) (c : Nat) : Prop := Sl G p l.length c 1 (ints l) ∧ ∀ b ∈ K0 p, G b ≠ none
def CpP (t : Tm) (label : Int) (G : IM) : IM → Value → List A9 → Prop := M3 fun G' v => ∃ p c, v = .tuple ⟨[.slice p (A4U t label).1.length c, .bool (A4U t label).2]⟩ ∧ SP1 (E8 G' G) (A4U t label).1 p c
theorem B6N (G : IM) (p : Option Addr) (n c : Nat) (es : List (List Value)) (h : D7 G p n c 9 es) (h0 : 0 < n) (hn : n ≤ 4294967296) :
  Fn prog 205 [.slice p n c] [] G (fun G' v outs => G' = G ∧ ∃ p' c', v = .slice p' n c' ∧ outs = [.slc p' c' 28 9 n es.flatten]) := by
 obtain ⟨hl, hc, hm, hat⟩ := h.sl
 obtain ⟨b, o, full, rfl, hg, hv⟩ := hat.resolve_left zO0
 have ho : ∀ u ∈ es.flatten, u.oneCell' = true := by
  intro u hu
  obtain ⟨e, he, hue⟩ := List.mem_flatten.1 hu
  exact List.all_eq_true.1 (h.one e he) u hue
 refine C4 func205 rfl ntmps205 results205 rfl ?_
 intro w0
 refine E1 ?_
 refine sQ (A6T rfl rfl rfl) rfl ?_
 refine B8 ?_
 refine zf7 (fun b18 => ?_)
 refine I0 ?_
 refine A2g rfl rfl rfl rfl rfl (fun _ _ => by repeat (first | exact Sw.here | apply Sw.there)) (A4q hg hv) hl ho zJ0 zO0 rfl (fun pn cn => ?_)
 refine B6 ?_
 refine I6 (rT rfl) A1.refl ?_
 exact ⟨rfl, _, _, by rw [Nat.zero_add], by rw [Nat.zero_add]; rfl⟩
variable {G' : IM}
theorem At.mono' {hp : List A9} {b o : Nat} {vs : List Value} (hg : C3 G G') (h : At [] G b o vs) : At hp G' b o vs := by
 rcases h with ⟨cs, hm, hv⟩ | ⟨n, c, el, sz, cs, hm, hv⟩ | ⟨full, hx, hv⟩
 ·cases hm
 ·cases hm
 ·exact .inr (.inr ⟨full, hg _ _ hx, hv⟩)
theorem D7.kidD {ks : List Ty} (h : D7 G p n c 2 es) (hk : E7 G ks es) (hi : i < n) (hn : i < ks.length) :
  ∃ b o q d, p = some ⟨b, o, none⟩ ∧ (∀ hp, At hp G b (o + i * 2) [.int .i64 (ks.getD i C5).k, .slice q (ks.getD i C5).ks.length d]) ∧ C6 G (ks.getD i C5) [.int .i64 (ks.getD i C5).k, .slice q (ks.getD i C5).ks.length d] ∧ G b ≠ none := by
 obtain ⟨b, o, q, d, h1, h2, h3, h4⟩ := h.kidTy hk hi hn
 rw [List.getD_eq_getElem?_getD, List.getElem?_eq_getElem hn, Option.getD_some]
 exact ⟨b, o, q, d, h1, h2, h3, h4⟩
theorem A34 {hs : List Ty} (h : ∀ t ∈ hs, H8 t) (hi : i < hs.length) : H8 (hs.getD i C5) := by
 rw [List.getD_eq_getElem?_getD, List.getElem?_eq_getElem hi, Option.getD_some]
 exact h _ (List.getElem_mem hi)
def M2 (r : Option (List Ty × Ty)) (G : IM) : IM → Value → List A9 → Prop := M3 fun G' v => ∃ p n c es w cu u, v = .tuple ⟨[.slice p n c, .agg ⟨cu⟩, .bool r.isSome]⟩ ∧ n = w.length ∧ D7 G' p n c 2 es ∧ E7 G' w es ∧ C6 G' u cu ∧ ∀ q, r = some q → q = (w, u)
variable {b : Bool} {u : Ty} {cu : List Value} {w : List Ty} {r : Option (List Ty × Ty)}
theorem M2.mk (hl : n = w.length) (hs : Sl G' p n c 2 es.flatten) (hw : E7 G' w es) (hu : C6 G' u cu) (h : r = if b = true then some (w, u) else none) :
  M2 r G G' (.tuple ⟨[.slice p n c, .agg ⟨cu⟩, .bool b]⟩) [] := by
 refine ⟨rfl, p, n, c, es, w, cu, u, ?_, hl, D7.of hs (by rw [hw.len, hl]) hw.all (fun e he => (hw.each e he).2), hw, hu, ?_⟩
 ·subst h; cases b <;> rfl
 ·subst h; cases b
  ·simp
  ·intro q hq; simpa using hq.symm
theorem M2.nil {r : Option (List Ty × Ty)} {G G' : IM} {cu : List Value} {u : Ty} {b : Bool} (hu : C6 G' u cu) (h : r = if b = true then some ([], u) else none) :
  M2 r G G' (.tuple ⟨[.slice none 0 0, .agg ⟨cu⟩, .bool b]⟩) [] := M2.mk (es := []) rfl (Sl.nil _ _) (by simp [E7]) hu h
variable {ca : List Value}
theorem M2.one {a : Ty} (hs : Sl G' p 1 c 2 ca) (ha : C6 G' a ca) (hu : C6 G' u cu) (h : r = if b = true then some ([a], u) else none) :
  M2 r G G' (.tuple ⟨[.slice p 1 c, .agg ⟨cu⟩, .bool b]⟩) [] := M2.mk (es := [ca]) (w := [a]) rfl (by simpa using hs) ⟨_, _, rfl, ha, rfl⟩ hu h
theorem M2.two {a a2 : Ty} {ca2 : List Value} (hs : Sl G' p 2 c 2 (ca ++ ca2)) (ha : C6 G' a ca) (ha2 : C6 G' a2 ca2) (hu : C6 G' u cu) (h : r = if b = true then some ([a, a2], u) else none) :
  M2 r G G' (.tuple ⟨[.slice p 2 c, .agg ⟨cu⟩, .bool b]⟩) [] := M2.mk (es := [ca, ca2]) (w := [a, a2]) rfl (by simpa using hs) ⟨_, _, rfl, ha, _, _, rfl, ha2, rfl⟩ hu h
theorem M2.three {a a2 a3 : Ty} {ca2 ca3 : List Value} (hs : Sl G' p 3 c 2 (ca ++ (ca2 ++ ca3))) (ha : C6 G' a ca) (ha2 : C6 G' a2 ca2) (ha3 : C6 G' a3 ca3) (hu : C6 G' u cu) (h : r = if b = true then some ([a, a2, a3], u) else none) :
  M2 r G G' (.tuple ⟨[.slice p 3 c, .agg ⟨cu⟩, .bool b]⟩) [] := M2.mk (es := [ca, ca2, ca3]) (w := [a, a2, a3]) rfl (by simpa using hs) ⟨_, _, rfl, ha, _, _, rfl, ha2, _, _, rfl, ha3, rfl⟩ hu h
section
variable {cx : Cx} {nm : ByteArray} {ty : Ty} {h : List Ty}
theorem mW1 : M0 cx 1 nm ty h = match Q0 cx nm with | some t => some ([], t) | none => none := rfl
theorem mW2 : M0 cx 2 nm ty h = some ([], Q7) := rfl
theorem A4V {k : Int} (hk : k = 3 ∨ k = 4) : M0 cx k nm ty h = some ([], V4) := by rcases hk with rfl | rfl <;> rfl
theorem mW5 : M0 cx 5 nm ty h = some ([], .mk 4 [ty, h.getD 0 C5]) := rfl
theorem mW6 : M0 cx 6 nm ty h = match S7 4 (h.getD 0 C5) with | some (a, b) => if K8 (h.getD 1 C5) a = true then some ([.mk 4 [a, b], a], b) else none | none => none := rfl
theorem X6 {k : Int} (hk : k = 7 ∨ k = 8) : M0 cx k nm ty h = if K8 (h.getD 0 C5) Q7 = true ∧ K8 (h.getD 1 C5) Q7 = true then some ([Q7, Q7], if k = 8 then V4 else Q7) else none := by rcases hk with rfl | rfl <;> rfl
theorem mW9 : M0 cx 9 nm ty h = if K8 (h.getD 0 C5) V4 = true ∧ K8 (h.getD 1 C5) (h.getD 2 C5) = true then some ([V4, X2 (h.getD 1 C5) (h.getD 2 C5), X2 (h.getD 1 C5) (h.getD 2 C5)], X2 (h.getD 1 C5) (h.getD 2 C5)) else none := rfl
theorem A58 : M0 cx 10 nm ty h = some ([], .mk 5 [h.getD 0 C5, h.getD 1 C5]) := rfl
theorem A3n : M0 cx 13 nm ty h = if K8 (h.getD 0 C5) ty = true then some ([ty], ty) else none := rfl
theorem A35 {k : Int} (hk : k = 11 ∨ k = 12) : M0 cx k nm ty h = match S7 5 (h.getD 0 C5) with | some (a, b) => some ([.mk 5 [a, b]], if k = 12 then b else a) | none => none := by rcases hk with rfl | rfl <;> rfl
end
theorem K9 (G : IM) : C6 G Q7 [.int .i64 2, .slice none 0 0] := N2 G ⟨by omega, by omega⟩
theorem A0A (G : IM) : C6 G V4 [.int .i64 3, .slice none 0 0] := N2 G ⟨by omega, by omega⟩
theorem B6O (cx : Cx) (k : Int) (nm : ByteArray) (num : Int) (ty fr : Ty) (lb : Int) (ks : List Tm) (h : List Ty) (G : IM) (pc : Option Addr) (nc cc : Nat) (cells : List Value) (p : Option Addr) (n c : Nat) (es : List (List Value))
  (hx : S9 G cx pc nc cc) (hops : E4 k = n) (hnl : n = h.length) (hk14 : k ≠ 14) (hta : H8 ty) (hr : B7 G (.mk k nm num ty fr lb ks) cells) (hsl : D7 G p n c 2 es) (hkl : E7 G h es) (har : ∀ t ∈ h, H8 t) :
  Fn prog 63 [.slice pc nc cc, .agg ⟨cells⟩, .slice p n c] [] G (M2 (M0 cx k nm ty h) G) := by
 have hone := hr.one
 have hop := A3Y hops
 have hkr : 1 ≤ k ∧ k ≤ 14 := by
  apply Classical.byContradiction
  intro hc
  rw [A5z hc] at hops; omega
 obtain ⟨tyk, tyks⟩ := ty
 obtain ⟨fk, fks⟩ := fr
 obtain ⟨pt, ct, pf, cf, pk, ck, ek, rfl, hk, hnum, hlb, hrty, hrfr, _, _⟩ := hr.open9
 refine C4 func63 rfl ntmps63 results63 rfl ?_
 intro w0
 refine A5 ?_
 refine zf2 (fun b3 => ?_)
 refine I0 ?_
 refine zf1 (fun b5 => ?_)
 refine B1 ?_
 refine F0 rfl ((A2k _ _)) rfl rfl ?_
 refine F0 rfl ((A2k _ _)) rfl rfl ?_
 refine zf1 (fun b13 => ?_)
 refine zf1 (fun b14 => ?_)
 refine J3 ?_
 refine C2 (tS (tR (sB (qE rfl rfl) rfl rfl (fun h29 => ?_) (fun h29 => ?_))))
 refine E1 ?_
 (refine H6 rfl (B6x G cx pc nc cc nm hx) rfl rfl (fun v G1 hle1 hh => ?_); obtain ⟨cu, u, rfl, hru, hu⟩ := hh; obtain ⟨p1, c1, e1, rfl, _⟩ := hru.open)
 refine B5 ?_
 refine zf1 (fun b43 => ?_)
 refine B1 ?_
 refine zf6 ?_
 refine xx3 0 1 2 ?_
 refine A2 3 ?_
 refine E9 rfl ?_
 refine xx1 4 ?_
 refine B1 ?_
 refine zf13 ?_
 (have hk1 : k = 1 := zO0; subst hk1; rw [mW1]; refine M2.nil hru ?_; generalize Q0 cx nm = r at hu ⊢; cases r with | none => rfl | some t => (rw [hu t rfl]; rfl))
 refine A7 ?_
 refine zf0 (fun h69 => ?_) (fun h69 => ?_)
 refine B1 ?_
 refine zf6 ?_
 refine xx2 0 1 ?_
 refine A2 2 ?_
 refine E9 rfl ?_
 refine xx1 3 ?_
 refine B1 ?_
 refine zf13 ?_
 (have hk1 : k = 2 := zO0; subst hk1; exact M2.nil (K9 _) mW2)
 refine B8 ?_
 refine zf0 (fun h95 => ?_) (fun h95 => ?_)
 refine D4 ?_
 exact y23
 refine B1 ?_
 refine zf0 (fun h122 => ?_) (fun h122 => ?_)
 refine B1 ?_
 exact y23
 refine A7 ?_
 refine zf0 (fun h147 => ?_) (fun h147 => ?_)
 refine B1 ?_
 (have hl1 : n = 1 := hop.2.2 zO0; obtain ⟨b0, o0, q0, d0, hp0, hat0, hre0, hg0⟩ := hsl.kidD hkl (i := 0) zO0 zO0; cases hp0; refine zdd D9 rfl ?_)
 refine xx5 0 1 2 3 4 ?_
 refine A2 5 ?_
 (refine E6 rfl rfl (A2V 4 _ _ _ _ _ ⟨by omega, by omega⟩ hrty hre0) rfl rfl rfl (fun v GB hleB hh => ?_); obtain ⟨cB, rfl, hrB⟩ := hh; obtain ⟨p7, c7, e7, rfl, _⟩ := hrB.open)
 refine xx1 6 ?_
 refine A2 7 ?_
 refine E9 rfl ?_
 refine xx1 8 ?_
 refine B1 ?_
 refine zf13 ?_
 (have hk1 : k = 5 := zO0; subst hk1; exact M2.nil hrB mW5)
 refine A7 ?_
 refine zf0 (fun h178 => ?_) (fun h178 => ?_)
 refine B8 ?_
 (have hl2 : n = 2 := hop.1 zO0; obtain ⟨b0, o0, q0, d0, hp0, hat0, hre0, hg0⟩ := hsl.kidD hkl (i := 0) zO0 zO0; cases hp0; refine sP (B2 (j := 0) rfl rfl rfl zO0) rfl rfl ?_)
 refine sL (A3 rfl rfl (hat0 _) rfl) rfl rfl ?_
 (refine H6 rfl (B0P 4 (h.getD 0 C5) G _ (.inl rfl) (A34 har zO0) hre0) rfl rfl (fun v G1 hle1 hh => ?_); obtain ⟨ma, mca, mb, mcb, rfl, hma, hmb, hma2, hmb2, hmm⟩ := hh; obtain ⟨p1, c1, e1, rfl, _⟩ := hma.open; obtain ⟨p2, c2, e2, rfl, _⟩ := hmb.open; replace hsl := hsl.mono hle1; replace hkl := hkl.mono hle1; generalize hmi : (S7 4 (h.getD 0 C5)).isSome = mi; cases mi)
 refine B6 ?_
 refine zf1 (fun b193 => ?_)
 refine zf1 (fun b194 => ?_)
 refine A7 ?_
 (have hl2 : n = 2 := hop.1 zO0; obtain ⟨b0, o0, q0, d0, hp0, hat0, hre0, hg0⟩ := hsl.kidD hkl (i := 0) zO0 zO0; obtain ⟨b1, o1, q1, d1, hp1, hat1, hre1, hg1⟩ := hsl.kidD hkl (i := 1) zO0 zO0; cases hp0; cases hp1; refine zdd D9 rfl ?_)
 refine xx5 0 1 3 5 6 ?_
 refine A2 2 ?_
 (refine E6 rfl rfl (A2V _ ma mb _ _ _ ⟨by omega, by omega⟩ hma hmb) rfl rfl rfl (fun v GB hleB hh => ?_); obtain ⟨cB, rfl, hrB⟩ := hh; obtain ⟨p7, c7, e7, rfl, _⟩ := hrB.open; have hma' := hma.mono hleB; have hmb' := hmb.mono hleB)
 refine xx5 7 8 9 10 11 ?_
 refine N5 (j := 4) (j' := 12) zM0 ?_ ?_
 refine zf3 (fun b215 => ?_)
 refine xx3 12 13 14 ?_
 refine A2 15 ?_
 refine E9 rfl ?_
 refine xx1 16 ?_
 refine A5 ?_
 (refine H1 Pk.here (fun G5 hle5 hsl5 hno5 => ?_))
 refine B5 ?_
 refine zf13 ?_
 (have hk1 : k = 6 := zO0; subst hk1; refine M2.two hsl5 (hrB.mono hle5) (hma'.mono hle5) (hmb'.mono hle5) ?_; rw [mW6]; cases hq : S7 4 (h.getD 0 C5) with | none => rfl | some q => (rw [hq] at hmi; cases hmi))
 refine A65 (l' := [tt,tt,tt,tt,ff,tt,tt,tt,tt,tt,tt,tt,tt,ff,ff,ff,ff]) rfl rfl rfl rfl ?_
 refine xx1 13 ?_
 refine A2 4 ?_
 refine zf3 (fun b233 => ?_)
 refine xx1 14 ?_
 refine A2 15 ?_
 refine E9 rfl ?_
 refine xx1 16 ?_
 refine A5 ?_
 (refine H1 Pk.here (fun G5 hle5 hsl5 hno5 => ?_))
 refine B5 ?_
 refine zf13 ?_
 (have hk1 : k = 6 := zO0; subst hk1; refine M2.two hsl5 (hrB.mono hle5) (hma'.mono hle5) (hmb'.mono hle5) ?_; rw [mW6]; cases hq : S7 4 (h.getD 0 C5) with | none => rfl | some q => (rw [hq] at hmi; cases hmi))
 refine B6 ?_
 refine zf1 (fun b250 => ?_)
 refine zf1 (fun b251 => ?_)
 refine A7 ?_
 (have hl2 : n = 2 := hop.1 zO0; obtain ⟨b0, o0, q0, d0, hp0, hat0, hre0, hg0⟩ := hsl.kidD hkl (i := 0) zO0 zO0; obtain ⟨b1, o1, q1, d1, hp1, hat1, hre1, hg1⟩ := hsl.kidD hkl (i := 1) zO0 zO0; cases hp0; cases hp1; refine zdd D9 rfl ?_)
 refine xx5 0 1 3 5 6 ?_
 refine A2 2 ?_
 (refine E6 rfl rfl (A2V _ ma mb _ _ _ ⟨by omega, by omega⟩ hma hmb) rfl rfl rfl (fun v GB hleB hh => ?_); obtain ⟨cB, rfl, hrB⟩ := hh; obtain ⟨p7, c7, e7, rfl, _⟩ := hrB.open; have hma' := hma.mono hleB; have hmb' := hmb.mono hleB)
 refine xx3 7 8 9 ?_
 refine aL 10 rfl (A3 rfl rfl (At.mono' hleB (hat1 _)) rfl) rfl ?_
 refine xx1 11 ?_
 refine N5 (j := 4) (j' := 12) zM0 ?_ ?_
 refine zf3 (fun b272 => ?_)
 refine A2 12 ?_
 refine V2 rfl rfl ((A0y _ _ _ _ _ (hre1.mono hleB) hma')) rfl rfl rfl (fun h274 => ?_) (fun h274 => ?_)
 refine xx2 13 14 ?_
 refine A2 15 ?_
 refine E9 rfl ?_
 refine xx1 16 ?_
 refine A5 ?_
 (refine H1 Pk.here (fun G5 hle5 hsl5 hno5 => ?_))
 refine B5 ?_
 refine zf13 ?_
 (have hk1 : k = 6 := zO0; subst hk1; refine M2.two hsl5 (hrB.mono hle5) (hma'.mono hle5) (hmb'.mono hle5) ?_; rw [mW6]; cases hq : S7 4 (h.getD 0 C5) with | none => (rw [hq] at hmi; cases hmi) | some q => (have hq2 := hmm q hq; subst hq2; dsimp only; split <;> first | rfl | (exfalso; simp_all; done)))
 refine xx2 13 14 ?_
 refine A2 15 ?_
 refine E9 rfl ?_
 refine xx1 16 ?_
 refine A5 ?_
 (refine H1 Pk.here (fun G5 hle5 hsl5 hno5 => ?_))
 refine B5 ?_
 refine zf13 ?_
 (have hk1 : k = 6 := zO0; subst hk1; refine M2.two hsl5 (hrB.mono hle5) (hma'.mono hle5) (hmb'.mono hle5) ?_; rw [mW6]; cases hq : S7 4 (h.getD 0 C5) with | none => (rw [hq] at hmi; cases hmi) | some q => (have hq2 := hmm q hq; subst hq2; dsimp only; split <;> first | rfl | (exfalso; simp_all; done)))
 refine V2 rfl rfl ((A0y _ _ _ _ _ (hre1.mono hleB) hma')) rfl rfl rfl (fun h301 => ?_) (fun h301 => ?_)
 refine xx1 13 ?_
 refine A2 4 ?_
 refine zf3 (fun b304 => ?_)
 refine xx1 14 ?_
 refine A2 15 ?_
 refine E9 rfl ?_
 refine xx1 16 ?_
 refine A5 ?_
 (refine H1 Pk.here (fun G5 hle5 hsl5 hno5 => ?_))
 refine B5 ?_
 refine zf13 ?_
 (have hk1 : k = 6 := zO0; subst hk1; refine M2.two hsl5 (hrB.mono hle5) (hma'.mono hle5) (hmb'.mono hle5) ?_; rw [mW6]; cases hq : S7 4 (h.getD 0 C5) with | none => (rw [hq] at hmi; cases hmi) | some q => (have hq2 := hmm q hq; subst hq2; dsimp only; split <;> first | rfl | (exfalso; simp_all; done)))
 refine xx1 13 ?_
 refine A2 4 ?_
 refine zf3 (fun b319 => ?_)
 refine xx1 14 ?_
 refine A2 15 ?_
 refine E9 rfl ?_
 refine xx1 16 ?_
 refine A5 ?_
 (refine H1 Pk.here (fun G5 hle5 hsl5 hno5 => ?_))
 refine B5 ?_
 refine zf13 ?_
 (have hk1 : k = 6 := zO0; subst hk1; refine M2.two hsl5 (hrB.mono hle5) (hma'.mono hle5) (hmb'.mono hle5) ?_; rw [mW6]; cases hq : S7 4 (h.getD 0 C5) with | none => (rw [hq] at hmi; cases hmi) | some q => (have hq2 := hmm q hq; subst hq2; dsimp only; split <;> first | rfl | (exfalso; simp_all; done)))
 refine B8 ?_
 refine zf0 (fun h339 => ?_) (fun h339 => ?_)
 refine I9 ?_
 refine zf1 (fun b350 => ?_)
 refine D4 ?_
 refine zf11 ?_
 refine A7 ?_
 (have hl2 : n = 2 := hop.1 zO0; obtain ⟨b0, o0, q0, d0, hp0, hat0, hre0, hg0⟩ := hsl.kidD hkl (i := 0) zO0 zO0; obtain ⟨b1, o1, q1, d1, hp1, hat1, hre1, hg1⟩ := hsl.kidD hkl (i := 1) zO0 zO0; cases hp0; cases hp1; refine zdd D9 rfl ?_)
 refine xx7 0 1 3 4 5 6 7 ?_
 refine N5 (j := 2) (j' := 8) zM0 ?_ ?_
 refine zf3 (fun b375 => ?_)
 refine A2 8 ?_
 refine V2 rfl rfl ((A0y _ _ _ _ _ hre0 (K9 _))) rfl rfl rfl (fun h377 => ?_) (fun h377 => ?_)
 refine xx5 9 10 11 12 13 ?_
 refine A2 14 ?_
 refine V2 rfl rfl ((A0y _ _ _ _ _ hre1 (K9 _))) rfl rfl rfl (fun h384 => ?_) (fun h384 => ?_)
 refine xx2 15 16 ?_
 refine A2 17 ?_
 refine E9 rfl ?_
 refine xx1 18 ?_
 refine A5 ?_
 (refine H1 Pk.here (fun G5 hle5 hsl5 hno5 => ?_))
 refine B5 ?_
 refine zf13 ?_
 (refine M2.two hsl5 (K9 _) (K9 _) (K9 _) ?_; rw [X6 zO0]; first | (rw [if_pos ⟨by assumption, by assumption⟩, if_neg zO0]; rfl) | (rw [if_neg (fun hc => by first | exact Bool.noConfusion (hc.1.symm.trans zL0) | exact Bool.noConfusion (hc.2.symm.trans zL0) | exact Bool.noConfusion (hc.symm.trans zL0))]; rfl))
 refine xx2 15 16 ?_
 refine A2 17 ?_
 refine E9 rfl ?_
 refine xx1 18 ?_
 refine A5 ?_
 (refine H1 Pk.here (fun G5 hle5 hsl5 hno5 => ?_))
 refine B5 ?_
 refine zf13 ?_
 (refine M2.two hsl5 (K9 _) (K9 _) (K9 _) ?_; rw [X6 zO0]; first | (rw [if_pos ⟨by assumption, by assumption⟩, if_neg zO0]; rfl) | (rw [if_neg (fun hc => by first | exact Bool.noConfusion (hc.1.symm.trans zL0) | exact Bool.noConfusion (hc.2.symm.trans zL0) | exact Bool.noConfusion (hc.symm.trans zL0))]; rfl))
 refine xx8 9 10 11 12 13 14 15 16 ?_
 refine A2 17 ?_
 refine E9 rfl ?_
 refine xx1 18 ?_
 refine A5 ?_
 (refine H1 Pk.here (fun G5 hle5 hsl5 hno5 => ?_))
 refine B5 ?_
 refine zf13 ?_
 (refine M2.two hsl5 (K9 _) (K9 _) (K9 _) ?_; rw [X6 zO0]; first | (rw [if_pos ⟨by assumption, by assumption⟩, if_neg zO0]; rfl) | (rw [if_neg (fun hc => by first | exact Bool.noConfusion (hc.1.symm.trans zL0) | exact Bool.noConfusion (hc.2.symm.trans zL0) | exact Bool.noConfusion (hc.symm.trans zL0))]; rfl))
 refine V2 rfl rfl ((A0y _ _ _ _ _ hre0 (K9 _))) rfl rfl rfl (fun h430 => ?_) (fun h430 => ?_)
 refine xx5 9 10 11 12 13 ?_
 refine N5 (j := 2) (j' := 14) zM0 ?_ ?_
 refine zf3 (fun b437 => ?_)
 refine A2 14 ?_
 refine V2 rfl rfl ((A0y _ _ _ _ _ hre1 (K9 _))) rfl rfl rfl (fun h439 => ?_) (fun h439 => ?_)
 refine xx2 15 16 ?_
 refine A2 17 ?_
 refine E9 rfl ?_
 refine xx1 18 ?_
 refine A5 ?_
 (refine H1 Pk.here (fun G5 hle5 hsl5 hno5 => ?_))
 refine B5 ?_
 refine zf13 ?_
 (refine M2.two hsl5 (K9 _) (K9 _) (K9 _) ?_; rw [X6 zO0]; first | (rw [if_pos ⟨by assumption, by assumption⟩, if_neg zO0]; rfl) | (rw [if_neg (fun hc => by first | exact Bool.noConfusion (hc.1.symm.trans zL0) | exact Bool.noConfusion (hc.2.symm.trans zL0) | exact Bool.noConfusion (hc.symm.trans zL0))]; rfl))
 refine xx2 15 16 ?_
 refine A2 17 ?_
 refine E9 rfl ?_
 refine xx1 18 ?_
 refine A5 ?_
 (refine H1 Pk.here (fun G5 hle5 hsl5 hno5 => ?_))
 refine B5 ?_
 refine zf13 ?_
 (refine M2.two hsl5 (K9 _) (K9 _) (K9 _) ?_; rw [X6 zO0]; first | (rw [if_pos ⟨by assumption, by assumption⟩, if_neg zO0]; rfl) | (rw [if_neg (fun hc => by first | exact Bool.noConfusion (hc.1.symm.trans zL0) | exact Bool.noConfusion (hc.2.symm.trans zL0) | exact Bool.noConfusion (hc.symm.trans zL0))]; rfl))
 refine V2 rfl rfl ((A0y _ _ _ _ _ hre1 (K9 _))) rfl rfl rfl (fun h466 => ?_) (fun h466 => ?_)
 refine xx1 15 ?_
 refine A2 2 ?_
 refine zf3 (fun b469 => ?_)
 refine xx1 16 ?_
 refine A2 17 ?_
 refine E9 rfl ?_
 refine xx1 18 ?_
 refine A5 ?_
 (refine H1 Pk.here (fun G5 hle5 hsl5 hno5 => ?_))
 refine B5 ?_
 refine zf13 ?_
 (refine M2.two hsl5 (K9 _) (K9 _) (K9 _) ?_; rw [X6 zO0]; first | (rw [if_pos ⟨by assumption, by assumption⟩, if_neg zO0]; rfl) | (rw [if_neg (fun hc => by first | exact Bool.noConfusion (hc.1.symm.trans zL0) | exact Bool.noConfusion (hc.2.symm.trans zL0) | exact Bool.noConfusion (hc.symm.trans zL0))]; rfl))
 refine xx1 15 ?_
 refine A2 2 ?_
 refine zf3 (fun b484 => ?_)
 refine xx1 16 ?_
 refine A2 17 ?_
 refine E9 rfl ?_
 refine xx1 18 ?_
 refine A5 ?_
 (refine H1 Pk.here (fun G5 hle5 hsl5 hno5 => ?_))
 refine B5 ?_
 refine zf13 ?_
 (refine M2.two hsl5 (K9 _) (K9 _) (K9 _) ?_; rw [X6 zO0]; first | (rw [if_pos ⟨by assumption, by assumption⟩, if_neg zO0]; rfl) | (rw [if_neg (fun hc => by first | exact Bool.noConfusion (hc.1.symm.trans zL0) | exact Bool.noConfusion (hc.2.symm.trans zL0) | exact Bool.noConfusion (hc.symm.trans zL0))]; rfl))
 refine xx5 9 10 11 12 13 ?_
 refine N5 (j := 2) (j' := 14) zM0 ?_ ?_
 refine zf3 (fun b503 => ?_)
 refine xx3 14 15 16 ?_
 refine A2 17 ?_
 refine E9 rfl ?_
 refine xx1 18 ?_
 refine A5 ?_
 (refine H1 Pk.here (fun G5 hle5 hsl5 hno5 => ?_))
 refine B5 ?_
 refine zf13 ?_
 (refine M2.two hsl5 (K9 _) (K9 _) (K9 _) ?_; rw [X6 zO0]; first | (rw [if_pos ⟨by assumption, by assumption⟩, if_neg zO0]; rfl) | (rw [if_neg (fun hc => by first | exact Bool.noConfusion (hc.1.symm.trans zL0) | exact Bool.noConfusion (hc.2.symm.trans zL0) | exact Bool.noConfusion (hc.symm.trans zL0))]; rfl))
 refine A65 (l' := [tt,tt,ff,tt,tt,tt,tt,tt,tt,tt,tt,tt,tt,tt,tt,ff,ff,ff,ff]) rfl rfl rfl rfl ?_
 refine xx1 15 ?_
 refine A2 2 ?_
 refine zf3 (fun b521 => ?_)
 refine xx1 16 ?_
 refine A2 17 ?_
 refine E9 rfl ?_
 refine xx1 18 ?_
 refine A5 ?_
 (refine H1 Pk.here (fun G5 hle5 hsl5 hno5 => ?_))
 refine B5 ?_
 refine zf13 ?_
 (refine M2.two hsl5 (K9 _) (K9 _) (K9 _) ?_; rw [X6 zO0]; first | (rw [if_pos ⟨by assumption, by assumption⟩, if_neg zO0]; rfl) | (rw [if_neg (fun hc => by first | exact Bool.noConfusion (hc.1.symm.trans zL0) | exact Bool.noConfusion (hc.2.symm.trans zL0) | exact Bool.noConfusion (hc.symm.trans zL0))]; rfl))
 refine B1 ?_
 refine zf0 (fun h539 => ?_) (fun h539 => ?_)
 refine B8 ?_
 refine zf1 (fun b547 => ?_)
 refine D4 ?_
 refine zf12 ?_
 refine E1 ?_
 (have hl2 : n = 2 := hop.1 zO0; obtain ⟨b0, o0, q0, d0, hp0, hat0, hre0, hg0⟩ := hsl.kidD hkl (i := 0) zO0 zO0; obtain ⟨b1, o1, q1, d1, hp1, hat1, hre1, hg1⟩ := hsl.kidD hkl (i := 1) zO0 zO0; cases hp0; cases hp1; refine zdd D9 rfl ?_)
 refine xx7 0 1 3 4 5 6 7 ?_
 refine N5 (j := 2) (j' := 8) zM0 ?_ ?_
 refine zf3 (fun b575 => ?_)
 refine A2 8 ?_
 refine V2 rfl rfl ((A0y _ _ _ _ _ hre0 (K9 _))) rfl rfl rfl (fun h577 => ?_) (fun h577 => ?_)
 refine xx5 9 10 11 12 13 ?_
 refine A2 14 ?_
 refine V2 rfl rfl ((A0y _ _ _ _ _ hre1 (K9 _))) rfl rfl rfl (fun h584 => ?_) (fun h584 => ?_)
 refine xx2 15 16 ?_
 refine A2 17 ?_
 refine E9 rfl ?_
 refine xx1 18 ?_
 refine A5 ?_
 (refine H1 Pk.here (fun G5 hle5 hsl5 hno5 => ?_))
 refine B5 ?_
 refine zf13 ?_
 (refine M2.two hsl5 (K9 _) (K9 _) (A0A _) ?_; rw [X6 zO0]; first | (rw [if_pos ⟨by assumption, by assumption⟩, if_pos zO0]; rfl) | (rw [if_neg (fun hc => by first | exact Bool.noConfusion (hc.1.symm.trans zL0) | exact Bool.noConfusion (hc.2.symm.trans zL0) | exact Bool.noConfusion (hc.symm.trans zL0))]; rfl))
 refine xx2 15 16 ?_
 refine A2 17 ?_
 refine E9 rfl ?_
 refine xx1 18 ?_
 refine A5 ?_
 (refine H1 Pk.here (fun G5 hle5 hsl5 hno5 => ?_))
 refine B5 ?_
 refine zf13 ?_
 (refine M2.two hsl5 (K9 _) (K9 _) (A0A _) ?_; rw [X6 zO0]; first | (rw [if_pos ⟨by assumption, by assumption⟩, if_pos zO0]; rfl) | (rw [if_neg (fun hc => by first | exact Bool.noConfusion (hc.1.symm.trans zL0) | exact Bool.noConfusion (hc.2.symm.trans zL0) | exact Bool.noConfusion (hc.symm.trans zL0))]; rfl))
 refine xx8 9 10 11 12 13 14 15 16 ?_
 refine A2 17 ?_
 refine E9 rfl ?_
 refine xx1 18 ?_
 refine A5 ?_
 (refine H1 Pk.here (fun G5 hle5 hsl5 hno5 => ?_))
 refine B5 ?_
 refine zf13 ?_
 (refine M2.two hsl5 (K9 _) (K9 _) (A0A _) ?_; rw [X6 zO0]; first | (rw [if_pos ⟨by assumption, by assumption⟩, if_pos zO0]; rfl) | (rw [if_neg (fun hc => by first | exact Bool.noConfusion (hc.1.symm.trans zL0) | exact Bool.noConfusion (hc.2.symm.trans zL0) | exact Bool.noConfusion (hc.symm.trans zL0))]; rfl))
 refine V2 rfl rfl ((A0y _ _ _ _ _ hre0 (K9 _))) rfl rfl rfl (fun h630 => ?_) (fun h630 => ?_)
 refine xx5 9 10 11 12 13 ?_
 refine N5 (j := 2) (j' := 14) zM0 ?_ ?_
 refine zf3 (fun b637 => ?_)
 refine A2 14 ?_
 refine V2 rfl rfl ((A0y _ _ _ _ _ hre1 (K9 _))) rfl rfl rfl (fun h639 => ?_) (fun h639 => ?_)
 refine xx2 15 16 ?_
 refine A2 17 ?_
 refine E9 rfl ?_
 refine xx1 18 ?_
 refine A5 ?_
 (refine H1 Pk.here (fun G5 hle5 hsl5 hno5 => ?_))
 refine B5 ?_
 refine zf13 ?_
 (refine M2.two hsl5 (K9 _) (K9 _) (A0A _) ?_; rw [X6 zO0]; first | (rw [if_pos ⟨by assumption, by assumption⟩, if_pos zO0]; rfl) | (rw [if_neg (fun hc => by first | exact Bool.noConfusion (hc.1.symm.trans zL0) | exact Bool.noConfusion (hc.2.symm.trans zL0) | exact Bool.noConfusion (hc.symm.trans zL0))]; rfl))
 refine xx2 15 16 ?_
 refine A2 17 ?_
 refine E9 rfl ?_
 refine xx1 18 ?_
 refine A5 ?_
 (refine H1 Pk.here (fun G5 hle5 hsl5 hno5 => ?_))
 refine B5 ?_
 refine zf13 ?_
 (refine M2.two hsl5 (K9 _) (K9 _) (A0A _) ?_; rw [X6 zO0]; first | (rw [if_pos ⟨by assumption, by assumption⟩, if_pos zO0]; rfl) | (rw [if_neg (fun hc => by first | exact Bool.noConfusion (hc.1.symm.trans zL0) | exact Bool.noConfusion (hc.2.symm.trans zL0) | exact Bool.noConfusion (hc.symm.trans zL0))]; rfl))
 refine V2 rfl rfl ((A0y _ _ _ _ _ hre1 (K9 _))) rfl rfl rfl (fun h666 => ?_) (fun h666 => ?_)
 refine xx1 15 ?_
 refine A2 2 ?_
 refine zf3 (fun b669 => ?_)
 refine xx1 16 ?_
 refine A2 17 ?_
 refine E9 rfl ?_
 refine xx1 18 ?_
 refine A5 ?_
 (refine H1 Pk.here (fun G5 hle5 hsl5 hno5 => ?_))
 refine B5 ?_
 refine zf13 ?_
 (refine M2.two hsl5 (K9 _) (K9 _) (A0A _) ?_; rw [X6 zO0]; first | (rw [if_pos ⟨by assumption, by assumption⟩, if_pos zO0]; rfl) | (rw [if_neg (fun hc => by first | exact Bool.noConfusion (hc.1.symm.trans zL0) | exact Bool.noConfusion (hc.2.symm.trans zL0) | exact Bool.noConfusion (hc.symm.trans zL0))]; rfl))
 refine xx1 15 ?_
 refine A2 2 ?_
 refine zf3 (fun b684 => ?_)
 refine xx1 16 ?_
 refine A2 17 ?_
 refine E9 rfl ?_
 refine xx1 18 ?_
 refine A5 ?_
 (refine H1 Pk.here (fun G5 hle5 hsl5 hno5 => ?_))
 refine B5 ?_
 refine zf13 ?_
 (refine M2.two hsl5 (K9 _) (K9 _) (A0A _) ?_; rw [X6 zO0]; first | (rw [if_pos ⟨by assumption, by assumption⟩, if_pos zO0]; rfl) | (rw [if_neg (fun hc => by first | exact Bool.noConfusion (hc.1.symm.trans zL0) | exact Bool.noConfusion (hc.2.symm.trans zL0) | exact Bool.noConfusion (hc.symm.trans zL0))]; rfl))
 refine xx5 9 10 11 12 13 ?_
 refine N5 (j := 2) (j' := 14) zM0 ?_ ?_
 refine zf3 (fun b703 => ?_)
 refine xx3 14 15 16 ?_
 refine A2 17 ?_
 refine E9 rfl ?_
 refine xx1 18 ?_
 refine A5 ?_
 (refine H1 Pk.here (fun G5 hle5 hsl5 hno5 => ?_))
 refine B5 ?_
 refine zf13 ?_
 (refine M2.two hsl5 (K9 _) (K9 _) (A0A _) ?_; rw [X6 zO0]; first | (rw [if_pos ⟨by assumption, by assumption⟩, if_pos zO0]; rfl) | (rw [if_neg (fun hc => by first | exact Bool.noConfusion (hc.1.symm.trans zL0) | exact Bool.noConfusion (hc.2.symm.trans zL0) | exact Bool.noConfusion (hc.symm.trans zL0))]; rfl))
 refine A65 (l' := [tt,tt,ff,tt,tt,tt,tt,tt,tt,tt,tt,tt,tt,tt,tt,ff,ff,ff,ff]) rfl rfl rfl rfl ?_
 refine xx1 15 ?_
 refine A2 2 ?_
 refine zf3 (fun b721 => ?_)
 refine xx1 16 ?_
 refine A2 17 ?_
 refine E9 rfl ?_
 refine xx1 18 ?_
 refine A5 ?_
 (refine H1 Pk.here (fun G5 hle5 hsl5 hno5 => ?_))
 refine B5 ?_
 refine zf13 ?_
 (refine M2.two hsl5 (K9 _) (K9 _) (A0A _) ?_; rw [X6 zO0]; first | (rw [if_pos ⟨by assumption, by assumption⟩, if_pos zO0]; rfl) | (rw [if_neg (fun hc => by first | exact Bool.noConfusion (hc.1.symm.trans zL0) | exact Bool.noConfusion (hc.2.symm.trans zL0) | exact Bool.noConfusion (hc.symm.trans zL0))]; rfl))
 refine A7 ?_
 refine zf0 (fun h740 => ?_) (fun h740 => ?_)
 refine A7 ?_
 (have hl3 : n = 3 := hop.2.1 zO0; obtain ⟨b0, o0, q0, d0, hp0, hat0, hre0, hg0⟩ := hsl.kidD hkl (i := 0) zO0 zO0; obtain ⟨b1, o1, q1, d1, hp1, hat1, hre1, hg1⟩ := hsl.kidD hkl (i := 1) zO0 zO0; cases hp0; cases hp1; obtain ⟨b2, o2, q2, d2, hp2, hat2, hre2, hg2⟩ := hsl.kidD hkl (i := 2) zO0 zO0; cases hp2; refine zdd D9 rfl ?_)
 refine xx4 0 1 2 3 ?_
 refine A2 4 ?_
 refine V2 rfl rfl ((A0y _ _ _ _ _ hre0 (A0A _))) rfl rfl rfl (fun h753 => ?_) (fun h753 => ?_)
 refine xx8 5 6 7 8 9 10 11 12 ?_
 refine A2 13 ?_
 refine V2 rfl rfl ((A0y _ _ _ _ _ hre1 hre2)) rfl rfl rfl (fun h763 => ?_) (fun h763 => ?_)
 refine xx2 14 15 ?_
 refine A7 ?_
 (have hl3 : n = 3 := hop.2.1 zO0; obtain ⟨b0, o0, q0, d0, hp0, hat0, hre0, hg0⟩ := hsl.kidD hkl (i := 0) zO0 zO0; obtain ⟨b1, o1, q1, d1, hp1, hat1, hre1, hg1⟩ := hsl.kidD hkl (i := 1) zO0 zO0; cases hp0; cases hp1; obtain ⟨b2, o2, q2, d2, hp2, hat2, hre2, hg2⟩ := hsl.kidD hkl (i := 2) zO0 zO0; cases hp2; refine zdd D9 rfl ?_)
 refine xx6 0 1 2 3 4 5 ?_
 refine N5 (j := 6) (j' := 7) zM0 ?_ ?_
 (refine E6 rfl rfl (B0Q _ _ _ _ _ zL0 (A34 har zO0) (A34 har zO0) hre1 hre2) rfl rfl rfl (fun v GM hleM hh => ?_); obtain ⟨cM, rfl, hrM⟩ := hh; obtain ⟨p7, c7, e7, rfl, _⟩ := hrM.open)
 refine A2 7 ?_
 refine zf10 (fun b782 => ?_)
 refine A2 8 ?_
 refine E9 rfl ?_
 refine B5 ?_
 (have hl3 : n = 3 := hop.2.1 zO0; obtain ⟨b0, o0, q0, d0, hp0, hat0, hre0, hg0⟩ := hsl.kidD hkl (i := 0) zO0 zO0; obtain ⟨b1, o1, q1, d1, hp1, hat1, hre1, hg1⟩ := hsl.kidD hkl (i := 1) zO0 zO0; cases hp0; cases hp1; obtain ⟨b2, o2, q2, d2, hp2, hat2, hre2, hg2⟩ := hsl.kidD hkl (i := 2) zO0 zO0; cases hp2; refine zdd D9 rfl ?_)
 refine xx4 0 1 2 4 ?_
 refine A2 3 ?_
 refine zf3 (fun b794 => ?_)
 exact y20
 refine zf10 (fun b807 => ?_)
 refine A2 6 ?_
 (refine E6 rfl rfl (B0Q _ _ _ _ _ zL0 (A34 har zO0) (A34 har zO0) hre1 hre2) rfl rfl rfl (fun v GM hleM hh => ?_); obtain ⟨cM, rfl, hrM⟩ := hh; obtain ⟨p7, c7, e7, rfl, _⟩ := hrM.open)
 refine A2 8 ?_
 refine E9 rfl ?_
 refine B5 ?_
 (have hl3 : n = 3 := hop.2.1 zO0; obtain ⟨b0, o0, q0, d0, hp0, hat0, hre0, hg0⟩ := hsl.kidD hkl (i := 0) zO0 zO0; obtain ⟨b1, o1, q1, d1, hp1, hat1, hre1, hg1⟩ := hsl.kidD hkl (i := 1) zO0 zO0; cases hp0; cases hp1; obtain ⟨b2, o2, q2, d2, hp2, hat2, hre2, hg2⟩ := hsl.kidD hkl (i := 2) zO0 zO0; cases hp2; refine zdd D9 rfl ?_)
 refine xx4 0 1 2 4 ?_
 refine A2 3 ?_
 refine zf3 (fun b821 => ?_)
 exact y20
 refine xx2 14 15 ?_
 exact y21
 refine xx11 5 6 7 8 9 10 11 12 13 14 15 ?_
 exact y21
 refine A7 ?_
 refine zf0 (fun h887 => ?_) (fun h887 => ?_)
 refine B1 ?_
 (have hl2 : n = 2 := hop.1 zO0; obtain ⟨b0, o0, q0, d0, hp0, hat0, hre0, hg0⟩ := hsl.kidD hkl (i := 0) zO0 zO0; obtain ⟨b1, o1, q1, d1, hp1, hat1, hre1, hg1⟩ := hsl.kidD hkl (i := 1) zO0 zO0; cases hp0; cases hp1; refine zdd D9 rfl ?_)
 refine xx6 0 1 2 3 4 5 ?_
 refine A2 6 ?_
 (refine E6 rfl rfl (A2V 5 _ _ _ _ _ ⟨by omega, by omega⟩ hre0 hre1) rfl rfl rfl (fun v GB hleB hh => ?_); obtain ⟨cB, rfl, hrB⟩ := hh; obtain ⟨p7, c7, e7, rfl, _⟩ := hrB.open)
 refine xx1 7 ?_
 refine A2 8 ?_
 refine E9 rfl ?_
 refine xx1 9 ?_
 refine B1 ?_
 refine zf13 ?_
 (have hk1 : k = 10 := zO0; subst hk1; exact M2.nil hrB A58)
 refine A7 ?_
 refine zf0 (fun h919 => ?_) (fun h919 => ?_)
 refine B1 ?_
 (have hl1 : n = 1 := hop.2.2 zO0; obtain ⟨b0, o0, q0, d0, hp0, hat0, hre0, hg0⟩ := hsl.kidD hkl (i := 0) zO0 zO0; cases hp0; refine zdd D9 rfl ?_)
 refine xx9 0 1 3 4 5 6 7 8 9 ?_
 refine N5 (j := 2) (j' := 10) zM0 ?_ ?_
 refine zf3 (fun b936 => ?_)
 refine A2 10 ?_
 refine V2 rfl rfl ((A0y _ _ _ _ _ hre0 hrty)) rfl rfl rfl (fun h938 => ?_) (fun h938 => ?_)
 refine xx1 11 ?_
 refine A2 12 ?_
 refine E9 rfl ?_
 refine xx1 13 ?_
 refine A5 ?_
 (refine H1 Pk.here (fun G5 hle5 hsl5 hno5 => ?_))
 refine B5 ?_
 refine zf13 ?_
 (have hk1 : k = 13 := zO0; subst hk1; refine M2.one hsl5 (hrty.mono hle5) (hrty.mono hle5) ?_; rw [A3n]; split <;> first | rfl | (exfalso; simp_all; done))
 refine xx1 11 ?_
 refine A2 12 ?_
 refine E9 rfl ?_
 refine xx1 13 ?_
 refine A5 ?_
 (refine H1 Pk.here (fun G5 hle5 hsl5 hno5 => ?_))
 refine B5 ?_
 refine zf13 ?_
 (have hk1 : k = 13 := zO0; subst hk1; refine M2.one hsl5 (hrty.mono hle5) (hrty.mono hle5) ?_; rw [A3n]; split <;> first | rfl | (exfalso; simp_all; done))
 refine V2 rfl rfl ((A0y _ _ _ _ _ hre0 hrty)) rfl rfl rfl (fun h963 => ?_) (fun h963 => ?_)
 refine A2 2 ?_
 refine zf3 (fun b965 => ?_)
 refine xx1 11 ?_
 refine A2 12 ?_
 refine E9 rfl ?_
 refine xx1 13 ?_
 refine A5 ?_
 (refine H1 Pk.here (fun G5 hle5 hsl5 hno5 => ?_))
 refine B5 ?_
 refine zf13 ?_
 (have hk1 : k = 13 := zO0; subst hk1; refine M2.one hsl5 (hrty.mono hle5) (hrty.mono hle5) ?_; rw [A3n]; split <;> first | rfl | (exfalso; simp_all; done))
 refine A2 2 ?_
 refine zf3 (fun b979 => ?_)
 refine xx1 11 ?_
 refine A2 12 ?_
 refine E9 rfl ?_
 refine xx1 13 ?_
 refine A5 ?_
 (refine H1 Pk.here (fun G5 hle5 hsl5 hno5 => ?_))
 refine B5 ?_
 refine zf13 ?_
 (have hk1 : k = 13 := zO0; subst hk1; refine M2.one hsl5 (hrty.mono hle5) (hrty.mono hle5) ?_; rw [A3n]; split <;> first | rfl | (exfalso; simp_all; done))
 refine I9 ?_
 (have hk11 : k = 11 ∨ k = 12 := zO0; have hl1 : n = 1 := hop.2.2 zO0; obtain ⟨b0, o0, q0, d0, hp0, hat0, hre0, hg0⟩ := hsl.kidD hkl (i := 0) zO0 zO0; cases hp0; refine sP (B2 (j := 0) rfl rfl rfl zO0) rfl rfl ?_)
 refine sL (A3 rfl rfl (hat0 _) rfl) rfl rfl ?_
 (refine H6 rfl (B0P 5 (h.getD 0 C5) G _ (.inr rfl) (A34 har zO0) hre0) rfl rfl (fun v G1 hle1 hh => ?_); obtain ⟨ma, mca, mb, mcb, rfl, hma, hmb, hma2, hmb2, hmm⟩ := hh; obtain ⟨p1, c1, e1, rfl, _⟩ := hma.open; obtain ⟨p2, c2, e2, rfl, _⟩ := hmb.open)
 refine B6 ?_
 refine zf1 (fun b1009 => ?_)
 refine zf1 (fun b1010 => ?_)
 refine D4 ?_
 refine zf1 (fun b1019 => ?_)
 refine D4 ?_
 refine zf0 (fun h1028 => ?_) (fun h1028 => ?_)
 refine E1 ?_
 (have hl1 : n = 1 := hop.2.2 zO0; obtain ⟨b0, o0, q0, d0, hp0, hat0, hre0, hg0⟩ := hsl.kidD hkl (i := 0) zO0 zO0; cases hp0; refine zdd D9 rfl ?_)
 refine xx4 0 1 4 5 ?_
 refine A2 2 ?_
 (refine E6 rfl rfl (A2V _ ma mb _ _ _ ⟨by omega, by omega⟩ hma hmb) rfl rfl rfl (fun v GB hleB hh => ?_); obtain ⟨cB, rfl, hrB⟩ := hh; obtain ⟨p7, c7, e7, rfl, _⟩ := hrB.open; have hma' := hma.mono hleB; have hmb' := hmb.mono hleB)
 refine A2 3 ?_
 refine zf3 (fun b1046 => ?_)
 refine xx1 6 ?_
 refine A2 7 ?_
 refine E9 rfl ?_
 refine xx1 8 ?_
 refine A5 ?_
 (refine H1 Pk.here (fun G5 hle5 hsl5 hno5 => ?_))
 refine tT ?_
 refine zf13 ?_
 (refine M2.one hsl5 (hrB.mono hle5) (hmb'.mono hle5) ?_; rw [A35 zO0]; cases hq : S7 5 (h.getD 0 C5) with | none => rfl | some q => (have hq2 := hmm q hq; subst hq2; dsimp only; rw [if_pos zO0]; rfl))
 refine A7 ?_
 (have hl1 : n = 1 := hop.2.2 zO0; obtain ⟨b0, o0, q0, d0, hp0, hat0, hre0, hg0⟩ := hsl.kidD hkl (i := 0) zO0 zO0; cases hp0; refine zdd D9 rfl ?_)
 refine xx4 0 1 4 5 ?_
 refine A2 2 ?_
 (refine E6 rfl rfl (A2V _ ma mb _ _ _ ⟨by omega, by omega⟩ hma hmb) rfl rfl rfl (fun v GB hleB hh => ?_); obtain ⟨cB, rfl, hrB⟩ := hh; obtain ⟨p7, c7, e7, rfl, _⟩ := hrB.open; have hma' := hma.mono hleB; have hmb' := hmb.mono hleB)
 refine A2 3 ?_
 refine zf3 (fun b1071 => ?_)
 refine xx1 6 ?_
 refine A2 7 ?_
 refine E9 rfl ?_
 refine xx1 8 ?_
 refine A5 ?_
 (refine H1 Pk.here (fun G5 hle5 hsl5 hno5 => ?_))
 refine tT ?_
 refine zf13 ?_
 (refine M2.one hsl5 (hrB.mono hle5) (hma'.mono hle5) ?_; rw [A35 zO0]; cases hq : S7 5 (h.getD 0 C5) with | none => rfl | some q => (have hq2 := hmm q hq; subst hq2; dsimp only; rw [if_neg zO0]; rfl))
variable {h : List Ty} {cx : Cx}
theorem A59 {k : Int} {nm : ByteArray} {ty : Ty} (he : U6 cx k nm ty h = some (w, t)) : H7 t = true ∧ M0 cx k nm ty h = some (w, t) := by
 unfold U6 at he
 split at he
 ·rename_i w' t' hw
  split at he
  ·cases he; exact ⟨by assumption, hw⟩
  ·cases he
 ·cases he
theorem B6P {k : Int} {nm : ByteArray} {num : Int} {ty fr : Ty} {lb : Int} {ks : List Tm} (h14 : k = 14 → H7 ty = true) (h : I7 cx (.mk k nm num ty fr lb ks) = some t) : H7 t = true := by
 rw [I7] at h
 split at h
 ·cases h
 ·split at h
  ·rename_i hk
   split at h
   ·cases h; exact h14 hk
   ·cases h
  ·split at h
   ·cases h
   ·rename_i w u hw
    split at h
    ·cases h; exact (A59 hw).1
    ·cases h
theorem B6Q {k : Int} {nm : ByteArray} {ty : Ty} (hop : (k = 6 ∨ k = 7 ∨ k = 8 ∨ k = 10 → h.length = 2) ∧ (k = 9 → h.length = 3) ∧ (k = 5 ∨ k = 11 ∨ k = 12 ∨ k = 13 → h.length = 1)) (hk : 1 ≤ k ∧ k ≤ 14) (h14 : k ≠ 14) (he : M0 cx k nm ty h = some (w, t)) : w.length ≤ h.length := by
 have hkk : k = 1 ∨ k = 2 ∨ (k = 3 ∨ k = 4) ∨ k = 5 ∨ k = 6 ∨ (k = 7 ∨ k = 8) ∨ k = 9 ∨ k = 10 ∨ (k = 11 ∨ k = 12) ∨ k = 13 := by omega
 rcases hkk with rfl | rfl | hk | rfl | rfl | hk | rfl | rfl | hk | rfl
 ·rw [mW1] at he; split at he <;> cases he; simp
 ·rw [mW2] at he; cases he; simp
 ·rw [A4V hk] at he; cases he; simp
 ·rw [mW5] at he; cases he; simp
 ·rw [mW6] at he
  split at he
  ·split at he <;> cases he
   have := hop.1 zO0; simp [this]
  ·cases he
 ·rw [X6 hk] at he
  split at he <;> cases he
  have := hop.1 zO0; simp [this]
 ·rw [mW9] at he
  split at he <;> cases he
  have := hop.2.1 zO0; simp [this]
 ·rw [A58] at he; cases he; simp
 ·rw [A35 hk] at he
  split at he
  ·cases he; have := hop.2.2 zO0; simp [this]
  ·cases he
 ·rw [A3n] at he
  split at he <;> cases he
  have := hop.2.2 zO0; simp [this]
theorem S9.snoc {p' : Option Addr} {c' : Nat} {e : List Value} {nm : ByteArray} (h1 : n = cx.length) (hl : es.length = n) (h2 : ∀ x ∈ es, x.length = 3) (h3 : ∀ x ∈ es, x.all (·.oneCell') = true)
  (h4 : ∀ (i : Nat) (b : ByteArray × Ty), cx[i]? = some b → ∃ e, es[i]? = some e ∧ A30 G b e) (hg : C3 G G') (he : A30 G' (nm, t) e) (hs : Sl G' p' (n + 1) c' 3 (es.flatten ++ e)) : S9 G' (cx ++ [(nm, t)]) p' (n + 1) c' := by
 have hel : e.length = 3 ∧ e.all (·.oneCell') = true := by obtain ⟨q, d, rfl, _⟩ := he; exact ⟨rfl, rfl⟩
 refine ⟨by simp [h1], es ++ [e], D7.of (by simpa using hs) (by simp [hl]) ?_ ?_, ?_⟩
 ·simp only [List.forall_mem_append, List.forall_mem_singleton]; exact ⟨h2, hel.1⟩
 ·simp only [List.forall_mem_append, List.forall_mem_singleton]; exact ⟨h3, hel.2⟩
 ·intro i b hb
  rw [List.getElem?_append] at hb ⊢
  split at hb
  ·rename_i hi
   obtain ⟨e', he', hr⟩ := h4 i b hb
   rw [if_pos zO0]
   exact ⟨e', he', hr.mono hg⟩
  ·rename_i hi
   have : i - cx.length = 0 := by
    apply Classical.byContradiction; intro hc
    rw [List.getElem?_eq_none (by simp; omega)] at hb; cases hb
   rw [this] at hb
   simp only [List.getElem?_cons_zero, Option.some.injEq] at hb
   subst hb
   rw [if_neg zO0]
   exact ⟨e, by rw [show i - es.length = 0 by omega]; rfl, he⟩
theorem B6R (G : IM) (p : Option Addr) (n c : Nat) (es : List (List Value)) (h : D7 G p n c 3 es) (hn : n ≤ 4294967296) :
  Fn prog 62 [.slice p n c] [] G (fun G' v outs => G' = G ∧ ∃ p' c', v = .slice p' n c' ∧ outs = [.slc p' c' 98 3 n es.flatten]) := by
 have hp := h.sl.nn
 have hS := h.sl
 have hone : ∀ u ∈ es.flatten, u.oneCell' = true := by
  intro u hu
  obtain ⟨e, he, hue⟩ := List.mem_flatten.1 hu
  exact List.all_eq_true.1 (h.one e he) u hue
 refine C4 func62 rfl ntmps62 results62 rfl ?_
 intro w0
 cases p with
 | none =>
  obtain rfl := hp rfl
  obtain rfl : es = [] := List.length_eq_zero_iff.1 h.len
  refine V1 98 3 ?_
  refine E1 ?_
  refine sQ (B4h rfl rfl rfl) rfl ?_
  refine I9 ?_
  refine I6 (rT rfl) A1.refl ?_
  exact ⟨rfl, _, _, rfl, rfl⟩
 | some a =>
  refine E1 ?_
  refine sQ (A6T rfl rfl rfl) rfl ?_
  refine B8 ?_
  refine zf7 (fun b18 => ?_)
  refine I0 ?_
  refine B54 rfl rfl rfl rfl rfl (fun _ _ => by repeat (first | exact Sw.here | apply Sw.there)) hS hone (Nat.zero_le _) zJ0 zO0 rfl (fun pn cn => ?_)
  refine B6 ?_
  refine I6 (rT rfl) A1.refl ?_
  exact ⟨rfl, _, _, by rw [Nat.zero_add], by rw [Nat.zero_add]; rfl⟩
theorem A2s.no {r : Option Ty} (hu : C6 G' u cu) (hb : b = false) (h : r = none) : A2s r G G' (.tuple ⟨[.agg ⟨cu⟩, .bool b]⟩) [] := by
 subst hb h
 exact ⟨rfl, cu, u, rfl, hu, by simp⟩
section
variable {cx : Cx} {k : Int} {nm : ByteArray} {num : Int} {ty fr : Ty} {lb : Int} {ks : List Tm}
variable {us : List Ty}
theorem A4W (h : M0 cx k nm ty us = some (w, t)) (hb : H7 t = b) : U6 cx k nm ty us = if b = true then some (w, t) else none := by
 unfold U6; rw [h]; simp only [hb]
theorem B6S (h : M0 cx k nm ty us = none) : U6 cx k nm ty us = none := by
 unfold U6; rw [h]
end
def B6T (r : Tm) : Tm × Bool := if P7 r = true then (r, true) else (L7, false)
def C0F (t : Tm) (path : List Int) (x : Tm) : Tm × Bool := if P7 t = true ∧ P7 x = true ∧ tAt t path ≠ none then B6T (B0J t path x) else (L7, false)
mutual
theorem A7O (D N : Int) : ∀ (t : Tm) (d d' : Int), d' ≤ d → O9 D N t d = true → O9 D N t d' = true
 | .mk k nm num ty fr lb ks, d, d', hd, h => by
  obtain ⟨h1, h2, h3, h4⟩ := A07 h
  rw [A2P zO0 h2 h3]
  exact A6a D N ks _ _ zO0 h4
theorem A6a (D N : Int) : ∀ (ts : List Tm) (d d' : Int), d' ≤ d → P0 D N ts d = true → P0 D N ts d' = true
 | [], d, d', hd, h => by rw [P0]
 | t :: ts, d, d', hd, h => by
  rw [P0, Bool.and_eq_true] at h ⊢
  exact ⟨A7O D N t d d' hd h.1, A6a D N ts d d' hd h.2⟩
end
theorem B1a (cy : Cx) (nm : ByteArray) : ∀ (cx : Cx) (n : Nat), n ≤ cx.length → ∀ t, X1 cx nm n = some t → X1 (cy ++ cx) nm (cy.length + n) = some t
 | cx, 0, _, t, h => by rw [X1] at h; cases h
 | cx, n + 1, hn, t, h => by
  have hb : cx[n]? = some cx[n] := List.getElem?_eq_getElem zO0
  have hb2 : (cy ++ cx)[cy.length + n]? = some (cx[n].1, cx[n].2) := by
   rw [List.getElem?_append_right zO0, show cy.length + n - cy.length = n by omega]; exact hb
  by_cases he : cx[n].1 = nm
  ·rw [A4K (x := cx[n].1) (t := cx[n].2) hb he] at h
   rw [← Nat.add_assoc, A4K hb2 he]; exact h
  ·rw [A4L (x := cx[n].1) (t := cx[n].2) hb he] at h
   rw [← Nat.add_assoc, A4L hb2 he]
   exact B1a cy nm cx n zO0 t h
variable {cy : Cx}
theorem B6U {nm : ByteArray} (h : Q0 cx nm = some t) : Q0 (cy ++ cx) nm = some t := by
 unfold Q0 at h ⊢
 rw [List.length_append]
 exact B1a cy nm cx _ (Nat.le_refl _) t h
theorem B6V {k : Int} {nm : ByteArray} {ty : Ty} {r : List Ty × Ty} (hr : M0 cx k nm ty h = some r) : M0 (cy ++ cx) k nm ty h = some r := by
 unfold M0 at hr ⊢
 split
 ·rename_i hk
  rw [if_pos hk] at hr
  split at hr
  ·rename_i t ht; rw [B6U ht]; exact hr
  ·cases hr
 ·rename_i hk
  rw [if_neg hk] at hr
  exact hr
theorem B6W {k : Int} {nm : ByteArray} {ty : Ty} {r : List Ty × Ty} (hr : U6 cx k nm ty h = some r) : U6 (cy ++ cx) k nm ty h = some r := by
 unfold U6 at hr ⊢
 split at hr
 ·rename_i w t hw; rw [B6V hw]; exact hr
 ·cases hr
theorem B6X (cy cx : Cx) (k : Int) (nm : ByteArray) (ty : Ty) : L5 (cy ++ cx) k nm ty = cy ++ L5 cx k nm ty := by
 unfold L5; split <;> simp
mutual
theorem B1b (cy : Cx) : ∀ (e : Tm) (cx : Cx) (t : Ty), I7 cx e = some t → I7 (cy ++ cx) e = some t
 | .mk k nm num ty fr lb ks, cx, t, h => by
  rw [I7] at h ⊢
  split at h
  ·cases h
  ·rename_i hs hh
   rw [B6X, B1c cy ks _ hs hh]
   dsimp only
   split at h
   ·rename_i hk; rw [if_pos hk]; exact h
   ·rename_i hk
    rw [if_neg hk]
    split at h
    ·cases h
    ·rename_i w u hw
     rw [B6W hw]; exact h
theorem B1c (cy : Cx) : ∀ (ts : List Tm) (cx : Cx) (us : List Ty), N0 cx ts = some us → N0 (cy ++ cx) ts = some us
 | [], cx, us, h => by rw [N0] at h ⊢; exact h
 | t :: ts, cx, us, h => by
  rw [N0] at h ⊢
  split at h
  ·cases h
  ·rename_i u hu
   split at h
   ·cases h
   ·rename_i us' hus
    rw [B1b cy t cx u hu]
    dsimp only
    rw [B1c cy ts cx us' hus]
    exact h
end
theorem B1d {cx : Cx} : ∀ {ks : List Tm} {h : List Ty}, N0 cx ks = some h → ∀ (j : Nat) (hj : j < ks.length), ∃ u, I7 cx ks[j] = some u ∧ ∀ x, I7 cx x = some u → N0 cx (ks.set j x) = some h
 | [], h, _, j, hj => by simp at hj
 | t :: ts, h, he, j, hj => by
  rw [N0] at he
  split at he
  ·cases he
  ·rename_i u hu
   split at he
   ·cases he
   ·rename_i us hus
    cases he
    cases j with
    | zero => exact ⟨u, hu, fun x hx => by rw [List.set_cons_zero, N0, hx]; dsimp only; rw [hus]⟩
    | succ j =>
     obtain ⟨v, hv, hv2⟩ := B1d hus j (by simpa using hj)
     exact ⟨v, hv, fun x hx => by rw [List.set_cons_succ, N0, hu]; dsimp only; rw [hv2 x hx]⟩
def J4 : List Tm → List Ty → List Ty → Int → List Tm × Int
 | u :: us, a :: h, b :: w, l => if N1 a b = true then (u :: (J4 us h w l).1, (J4 us h w l).2) else (O1 u a b (l + 1) :: (J4 us h w (l + 1)).1, (J4 us h w (l + 1)).2)
 | us, _, _, l => (us, l)
def A2t (cx : Cx) (k : Int) (nm : ByteArray) (num : Int) (ty fr : Ty) (lb : Int) (us : List Tm) (h : List Ty) (l : Int) : Option (Tm × Ty × Int) :=
 match U6 cx k nm ty h with
 | none => none
 | some (w, t) => some (if k = 13 then (J4 us h w l).1.getD 0 L7 else .mk k nm num ty fr lb (J4 us h w l).1, t, (J4 us h w l).2)
mutual
def P5 (cx : Cx) : Tm → Int → Option (Tm × Ty × Int)
 | .mk k nm num ty fr lb ks, l => match O2 (L5 cx k nm ty) ks l with
  | none => none
  | some (us, h, l') => A2t cx k nm num ty fr lb us h l'
def O2 (cx : Cx) : List Tm → Int → Option (List Tm × List Ty × Int)
 | [], l => some ([], [], l)
 | t :: ts, l => match P5 cx t l with
  | none => none
  | some (u, a, l') => match O2 cx ts l' with
   | none => none
   | some (us, h, l'') => some (u :: us, a :: h, l'')
end
def S4 (e : Tm) : Option (Tm × Ty) := if S6 e = true then (match P5 [] e 0 with | some (u, t, _) => some (u, t) | none => none) else none
def Z4 (cx : Cx) (k : Int) (nm : ByteArray) (ty : Ty) (h : List Ty) : Option Ty := match M0 cx k nm ty h with
 | some (_, t) => if (k = 5 ∨ k = 10) ∧ H7 t = false then none else some t
 | none => none
mutual
def R2 (cx : Cx) : Tm → Option Ty
 | .mk k nm num ty fr lb ks => match X7 (L5 cx k nm ty) ks with
  | none => none
  | some h => Z4 cx k nm ty h
def X7 (cx : Cx) : List Tm → Option (List Ty)
 | [] => some []
 | t :: ts => match R2 cx t with
  | none => none
  | some a => match X7 cx ts with
   | none => none
   | some h => some (a :: h)
end
theorem A4X (k : Int) (ks : List Ty) (d : Int) : Q9 (.mk k ks) d = (decide (d ≤ 4) && decide (V9 k = ks.length) && W9 ks (d + 1)) := by rw [Q9]
mutual
theorem A4Y : ∀ (t : Ty) (d e : Int), e ≤ d → Q9 t d = true → Q9 t e = true
 | .mk k ks, d, e, h, hs => by
  rw [A4X, Bool.and_eq_true, Bool.and_eq_true, decide_eq_true_eq, decide_eq_true_eq] at hs ⊢
  exact ⟨⟨by omega, hs.1.2⟩, B1e ks (d + 1) (e + 1) zO0 hs.2⟩
theorem B1e : ∀ (ts : List Ty) (d e : Int), e ≤ d → W9 ts d = true → W9 ts e = true
 | [], d, e, h, hs => by rw [W9]
 | t :: ts, d, e, h, hs => by
  rw [W9, Bool.and_eq_true] at hs ⊢
  exact ⟨A4Y t d e h hs.1, B1e ts d e h hs.2⟩
end
mutual
theorem A7P : ∀ (a b : Ty) (d : Int), K8 a b = true → Q9 a d = true → Q9 b d = true → Q9 (X2 a b) d = true
 | .mk k ks, .mk k' ks', d, hc, ha, hb => by
  rw [A3U]
  split
  ·exact hb
  ·split
   ·exact ha
   ·rw [T6] at hc
    rw [A4X, Bool.and_eq_true, Bool.and_eq_true, decide_eq_true_eq, decide_eq_true_eq] at ha hb ⊢
    simp only [Bool.or_eq_true, Bool.and_eq_true, decide_eq_true_eq] at hc
    obtain ⟨hk, hl⟩ : k = k' ∧ O0 ks ks' = true := by
     rcases hc with (h | h) | h
     ·contradiction
     ·contradiction
     ·exact h
    subst hk
    obtain ⟨m1, m2⟩ := B1f ks ks' (d + 1) hl ha.2 hb.2
    exact ⟨⟨ha.1.1, by rw [m2]; exact ha.1.2⟩, m1⟩
theorem B1f : ∀ (xs ys : List Ty) (d : Int), O0 xs ys = true → W9 xs d = true → W9 ys d = true → W9 (W2 xs ys) d = true ∧ (W2 xs ys).length = xs.length
 | [], [], d, _, _, _ => by simp [W2, W9]
 | [], b :: ys, d, hc, _, _ => by simp [O0] at hc
 | a :: xs, [], d, hc, _, _ => by simp [O0] at hc
 | a :: xs, b :: ys, d, hc, ha, hb => by
  rw [O0, Bool.and_eq_true] at hc
  rw [W9, Bool.and_eq_true] at ha hb
  obtain ⟨m1, m2⟩ := B1f xs ys d hc.2 ha.2 hb.2
  rw [W2, W9, Bool.and_eq_true]
  exact ⟨⟨A7P a b d hc.1 ha.1 hb.1, m1⟩, by simp [m2]⟩
end
theorem A7Q {cx : Cx} (h : ∀ b ∈ cx, H7 b.2 = true) {nm : ByteArray} {t : Ty} : ∀ {n : Nat}, X1 cx nm n = some t → H7 t = true
 | 0, hl => by simp [X1] at hl
 | n + 1, hl => by
  rw [X1] at hl
  split at hl
  ·rename_i b hb
   split at hl
   ·cases hl; exact h b (List.mem_of_getElem? hb)
   ·exact A7Q h hl
  ·exact A7Q h hl
theorem B1g {k : Int} {a b : Ty} (hk : k = 4 ∨ k = 5) (ht : H7 t = true) (h : S7 k t = some (a, b)) : H7 a = true ∧ H7 b = true := by
 obtain ⟨tk, ks⟩ := t
 rw [show S7 k (.mk tk ks) = (if tk = k then some (ks.getD 0 C5, ks.getD 1 C5) else if tk = 1 then some (R1, R1) else none) from rfl] at h
 by_cases he : tk = k
 ·rw [if_pos he] at h
  cases h
  unfold H7 at ht ⊢
  rw [A4X, Bool.and_eq_true, Bool.and_eq_true, decide_eq_true_eq, decide_eq_true_eq] at ht
  have h2 : ks.length = 2 := by
   have : V9 tk = 2 := by rw [he]; rcases hk with rfl | rfl <;> rfl
   omega
  match ks, h2, ht.2 with
  | [x, y], _, hL =>
   simp only [W9, Bool.and_eq_true] at hL
   exact ⟨A4Y _ 2 1 zO0 hL.1, A4Y _ 2 1 zO0 hL.2.1⟩
 ·rw [if_neg he] at h
  by_cases h1 : tk = 1
  ·rw [if_pos h1] at h
   cases h
   exact ⟨by decide, by decide⟩
  ·rw [if_neg h1] at h; cases h
theorem B6Y {l : List Ty} (h : i < l.length) : l.getD i C5 ∈ l := by
 rw [List.getD_eq_getElem?_getD, List.getElem?_eq_getElem h, Option.getD_some]; exact List.getElem_mem h
theorem B6Z {k : Int} {nm : ByteArray} {ty : Ty} (hcx : ∀ b ∈ cx, H7 b.2 = true) (hh : ∀ a ∈ h, H7 a = true) (hd : H7 (h.getD 0 C5) = true ∨ h = []) (hty : k = 13 → H7 ty = true) (hn : E4 k = (h.length : Int)) (hw : M0 cx k nm ty h = some (w, t)) (h510 : k ≠ 5 ∧ k ≠ 10) : H7 t = true := by
 have hg : ∀ i, i < h.length → H7 (h.getD i C5) = true := fun i hi => hh _ (B6Y hi)
 unfold M0 at hw
 split at hw
 ·split at hw
  ·rename_i u hu; cases hw; exact A7Q hcx hu
  ·cases hw
 split at hw
 ·cases hw; decide
 split at hw
 ·cases hw; decide
 split at hw
 ·exact absurd zL0 h510.1
 split at hw
 ·rename_i hk6
  have hl : h.length = 2 := by have : E4 k = 2 := (by rw [hk6]; rfl); omega
  split at hw
  ·rename_i a b hm
   split at hw
   ·cases hw; exact (B1g (.inl rfl) (hg 0 zO0) hm).2
   ·cases hw
  ·cases hw
 split at hw
 ·split at hw
  ·cases hw; split <;> decide
  ·cases hw
 split at hw
 ·rename_i hk9
  have hl : h.length = 3 := by have : E4 k = 3 := (by rw [hk9]; rfl); omega
  split at hw
  ·rename_i hc
   cases hw
   exact A7P _ _ 1 hc.2 (hg 1 zO0) (hg 2 zO0)
  ·cases hw
 split at hw
 ·exact absurd zL0 h510.2
 split at hw
 ·split at hw
  ·cases hw; exact hty zL0
  ·cases hw
 ·split at hw
  ·rename_i a b hm
   have hl : h.length ≠ 0 := by
    intro h0
    rw [List.length_eq_zero_iff] at h0
    subst h0
    rw [show S7 5 (([] : List Ty).getD 0 C5) = none from rfl] at hm
    cases hm
   cases hw
   have := B1g (.inr rfl) (hg 0 zO0) hm
   split
   ·exact this.2
   ·exact this.1
  ·cases hw
def cxV (cx : Cx) : Prop := ∀ b ∈ cx, H7 b.2 = true
theorem A4Z : cxV [] := by intro b hb; simp at hb
theorem A40 {k : Int} {nm : ByteArray} {ty : Ty} (h : cxV cx) (ht : k = 5 → H7 ty = true) : cxV (L5 cx k nm ty) := by
 unfold L5
 split
 ·intro b hb
  rcases List.mem_append.1 hb with hb | hb
  ·exact h b hb
  ·obtain rfl := List.mem_singleton.1 hb; exact ht zL0
 ·exact h
theorem B60 {k : Int} {nm : ByteArray} {ty : Ty} (hcx : cxV cx) (hh : ∀ a ∈ h, H7 a = true) (hty : k = 13 → H7 ty = true) (hn : E4 k = (h.length : Int)) :
  (∀ w t, U6 cx k nm ty h = some (w, t) → Z4 cx k nm ty h = some t ∧ H7 t = true) ∧ (U6 cx k nm ty h = none → Z4 cx k nm ty h = none) := by
 unfold U6 Z4
 have hv := fun w t (e : M0 cx k nm ty h = some (w, t)) (h5 : k ≠ 5 ∧ k ≠ 10) => B6Z hcx hh (by cases h with | nil => exact .inr rfl | cons x xs => exact .inl (hh _ zP0)) hty hn e h5
 cases hw : M0 cx k nm ty h with
 | none => simp
 | some p =>
  obtain ⟨w, t⟩ := p
  have hv := hv w t hw
  simp only
  by_cases h5 : k = 5 ∨ k = 10
  ·cases ht : H7 t with
   | true => simp [ht]
   | false => simp [h5]
  ·have := hv zO0
   simp [this]
theorem B1h (ks : List Tm) (ih : ∀ t ∈ ks, ∀ d cx l, O9 12 14 t d = true → cxV cx → (∀ u a l', P5 cx t l = some (u, a, l') → R2 cx t = some a ∧ H7 a = true) ∧ (P5 cx t l = none → R2 cx t = none)) :
  ∀ d cx l, P0 12 14 ks d = true → cxV cx → (∀ us h l', O2 cx ks l = some (us, h, l') → X7 cx ks = some h ∧ (∀ a ∈ h, H7 a = true) ∧ h.length = ks.length ∧ us.length = ks.length) ∧ (O2 cx ks l = none → X7 cx ks = none) := by
 induction ks with
 | nil =>
  intro d cx l _ _
  refine ⟨fun us h l' he => ?_, fun he => by simp [O2] at he⟩
  simp only [O2, Option.some.injEq, Prod.mk.injEq] at he
  obtain ⟨rfl, rfl, _⟩ := he
  exact ⟨by rw [X7], by simp, rfl, rfl⟩
 | cons t ts ihl =>
  intro d cx l hs hcx
  rw [P0, Bool.and_eq_true] at hs
  obtain ⟨a1, a2⟩ := ih t List.mem_cons_self d cx l hs.1 hcx
  rw [O2, X7]
  cases he : P5 cx t l with
  | none => rw [a2 he]; exact ⟨fun _ _ _ h => by simp at h, fun _ => rfl⟩
  | some p =>
   obtain ⟨u, a, l1⟩ := p
   obtain ⟨b1, b2⟩ := a1 u a l1 he
   rw [b1]
   obtain ⟨c1, c2⟩ := ihl (fun x hx => ih x (List.mem_cons_of_mem _ hx)) d cx l1 hs.2 hcx
   simp only
   cases hL : O2 cx ts l1 with
   | none => rw [c2 hL]; exact ⟨fun _ _ _ h => by simp at h, fun _ => rfl⟩
   | some q =>
    obtain ⟨us, h, l2⟩ := q
    obtain ⟨d1, d2, d3, d4⟩ := c1 us h l2 hL
    rw [d1]
    refine ⟨fun us' h' l' e => ?_, fun e => by simp at e⟩
    simp only [Option.some.injEq, Prod.mk.injEq] at e
    obtain ⟨rfl, rfl, _⟩ := e
    refine ⟨rfl, fun x hx => ?_, by simp [d3], by simp [d4]⟩
    rcases List.mem_cons.1 hx with rfl | hx
    ·exact b2
    ·exact d2 x hx
theorem A36 : ∀ (t : Tm) (d : Int) (cx : Cx) (l : Int), O9 12 14 t d = true → cxV cx → (∀ u a l', P5 cx t l = some (u, a, l') → R2 cx t = some a ∧ H7 a = true) ∧ (P5 cx t l = none → R2 cx t = none) := by
 refine Tm.ind fun k nm num ty fr lb ks ih d cx l hs hcx => ?_
 obtain ⟨_, _, h3, h4⟩ := A07 hs
 obtain ⟨n1, _, _, _, _, n6, _⟩ := W0.1 h3
 obtain ⟨L1, L2⟩ := B1h ks ih (d + 1) (L5 cx k nm ty) l h4 (A40 hcx fun hk => n6 zO0)
 rw [P5, R2]
 cases hL : O2 (L5 cx k nm ty) ks l with
 | none => rw [L2 hL]; exact ⟨fun _ _ _ h => by simp at h, fun _ => rfl⟩
 | some q =>
  obtain ⟨us, h, l2⟩ := q
  obtain ⟨d1, d2, d3, d4⟩ := L1 us h l2 hL
  rw [d1]
  obtain ⟨e1, e2⟩ := B60 (k := k) (nm := nm) (ty := ty) hcx d2 (fun hk => n6 (.inr (.inl hk))) (by rw [d3]; exact n1)
  simp only [A2t]
  cases hN : U6 cx k nm ty h with
  | none => rw [e2 hN]; exact ⟨fun _ _ _ h => by simp at h, fun _ => rfl⟩
  | some p =>
   obtain ⟨w, t⟩ := p
   obtain ⟨f1, f2⟩ := e1 w t hN
   rw [f1]
   refine ⟨fun u a l' e => ?_, fun e => by simp at e⟩
   simp only [Option.some.injEq, Prod.mk.injEq] at e
   obtain ⟨_, rfl, _⟩ := e
   exact ⟨rfl, f2⟩
theorem A1U {k : Int} {nm : ByteArray} {num : Int} {ty fr : Ty} {lb : Int} {ks : List Tm} {T : Ty} (h : I7 cx (.mk k nm num ty fr lb ks) = some T) :
  ∃ us, N0 (L5 cx k nm ty) ks = some us ∧ (k = 14 → us.getD 0 C5 = fr ∧ T = ty) ∧ (k ≠ 14 → H7 T = true ∧ ∃ w, M0 cx k nm ty us = some (w, T) ∧ A1m w us = true) := by
 rw [I7] at h
 split at h
 ·cases h
 ·rename_i us hu
  refine ⟨us, hu, fun hk => ?_, fun hk => ?_⟩
  ·rw [if_pos hk] at h
   split at h
   ·rename_i hs; cases h; exact ⟨(A0M _ _).1 hs, rfl⟩
   ·cases h
  ·rw [if_neg hk] at h
   split at h
   ·cases h
   ·rename_i w t hn
    split at h
    ·rename_i hs
     cases h
     obtain ⟨h1, h2⟩ := A59 hn
     exact ⟨h1, w, h2, hs⟩
    ·cases h
variable {us : List Ty}
theorem A7R {k : Int} {nm : ByteArray} {num : Int} {ty fr : Ty} {lb : Int} {ks : List Tm} {T : Ty} (hu : N0 (L5 cx k nm ty) ks = some us) (hk : k ≠ 14) (hv : H7 T = true) (hw : M0 cx k nm ty us = some (w, T)) (hs : A1m w us = true) : I7 cx (.mk k nm num ty fr lb ks) = some T := by
 rw [I7, hu]
 simp only [if_neg hk]
 unfold U6
 rw [hw]
 simp only [hv, if_true, hs]
variable {a : Tm}
theorem A41 (h : N0 cx [a] = some us) : ∃ x, I7 cx a = some x ∧ us = [x] := by
 rw [N0] at h
 split at h
 ·cases h
 ·rename_i x hx
  rw [N0] at h
  simp only [Option.some.injEq] at h
  exact ⟨x, hx, h.symm⟩
theorem A6b {b : Tm} (h : N0 cx [a, b] = some us) : ∃ x y, I7 cx a = some x ∧ I7 cx b = some y ∧ us = [x, y] := by
 rw [N0] at h
 split at h
 ·cases h
 ·rename_i x hx
  split at h
  ·cases h
  ·rename_i vs hv
   obtain ⟨y, hy, rfl⟩ := A41 hv
   simp only [Option.some.injEq] at h
   exact ⟨x, y, hx, hy, h.symm⟩
theorem B61 {b c : Tm} (h : N0 cx [a, b, c] = some us) : ∃ x y z, I7 cx a = some x ∧ I7 cx b = some y ∧ I7 cx c = some z ∧ us = [x, y, z] := by
 rw [N0] at h
 split at h
 ·cases h
 ·rename_i x hx
  split at h
  ·cases h
  ·rename_i vs hv
   obtain ⟨y, z, hy, hz, rfl⟩ := A6b hv
   simp only [Option.some.injEq] at h
   exact ⟨x, y, z, hx, hy, hz, h.symm⟩
variable {x : Ty}
theorem A7S (h : I7 cx a = some x) : N0 cx [a] = some [x] := by rw [N0, h]; rfl
variable {y : Ty}
theorem B62 {b : Tm} (h : I7 cx a = some x) (h2 : I7 cx b = some y) : N0 cx [a, b] = some [x, y] := by rw [N0, h, A7S h2]
mutual
theorem A2W : ∀ a : Ty, K8 a a = true
 | .mk k ks => by rw [T6, B1i ks]; simp
theorem B1i : ∀ xs : List Ty, O0 xs xs = true
 | [] => rfl
 | a :: xs => by rw [O0, A2W a, B1i xs]; rfl
end
mutual
theorem B1j : ∀ a : Ty, X2 a a = a
 | .mk k ks => by
  rw [A3U, B1k ks]
  by_cases h : k = 1
  ·rw [if_pos h]
  ·rw [if_neg h, if_neg h]
theorem B1k : ∀ xs : List Ty, W2 xs xs = xs
 | [] => rfl
 | a :: xs => by rw [W2, B1j a, B1k xs]
end
theorem A37 {k : Int} {ks : List Ty} (hk : k = 4 ∨ k = 5) (h : H7 (.mk k ks) = true) : ∃ a b, ks = [a, b] ∧ H7 a = true ∧ H7 b = true := by
 unfold H7 at h ⊢
 rw [A4X, Bool.and_eq_true, Bool.and_eq_true, decide_eq_true_eq, decide_eq_true_eq] at h
 have h2 : ks.length = 2 := by
  have : V9 k = 2 := by rcases hk with rfl | rfl <;> rfl
  omega
 match ks, h2, h.2 with
 | [x, y], _, hL =>
  simp only [W9, Bool.and_eq_true] at hL
  exact ⟨x, y, rfl, A4Y _ 2 1 zO0 hL.1, A4Y _ 2 1 zO0 hL.2.1⟩
theorem A7T {k : Int} {ks : List Ty} (h : H7 (.mk k ks) = true) (hk : k ≠ 4) (hk5 : k ≠ 5) : (k = 1 ∨ k = 2 ∨ k = 3) ∧ ks = [] := by
 unfold H7 at h
 rw [A4X, Bool.and_eq_true, Bool.and_eq_true, decide_eq_true_eq, decide_eq_true_eq] at h
 obtain ⟨h1, h2, h3⟩ := T5 k
 have hl := h.1.2
 have hk3 : k = 1 ∨ k = 2 ∨ k = 3 := by
  apply Classical.byContradiction
  intro hc
  rw [h3 zO0 zO0 zO0 hk hk5] at hl; omega
 rw [h1 hk3] at hl
 exact ⟨hk3, List.length_eq_zero_iff.1 zO0⟩
theorem B1l {e : Tm} {T : Ty} (hc : cv e) (h : I7 cx e = some T) : H7 T = true := by
 obtain ⟨k, nm, num, ty, fr, lb, ks⟩ := e
 exact B6P (fun hk => (hc.node.1.c14 hk).2.1) h
section inv
variable {cx : Cx} {nm : ByteArray} {num : Int} {ty fr : Ty} {lb : Int} {a b c : Tm} {T : Ty}
theorem B63 (h : A1m [x] [y] = true) : x = y := by
 simp only [A1m, Bool.and_true] at h; exact (A0M _ _).1 h
theorem B1m {x' y' : Ty} (h : A1m [x, y] [x', y'] = true) : x = x' ∧ y = y' := by
 simp only [A1m, Bool.and_true, Bool.and_eq_true] at h; exact ⟨(A0M _ _).1 h.1, (A0M _ _).1 h.2⟩
theorem B64 {z x' y' z' : Ty} (h : A1m [x, y, z] [x', y', z'] = true) : x = x' ∧ y = y' ∧ z = z' := by
 simp only [A1m, Bool.and_true, Bool.and_eq_true] at h; exact ⟨(A0M _ _).1 h.1, (A0M _ _).1 h.2.1, (A0M _ _).1 h.2.2⟩
theorem A6c : ∀ xs : List Ty, A1m xs xs = true
 | [] => rfl
 | a :: xs => by rw [A1m, A7t, A6c xs]; rfl
theorem B1n (h : I7 cx (.mk 6 nm num ty fr lb [a, b]) = some T) : ∃ A, I7 cx a = some (.mk 4 [A, T]) ∧ I7 cx b = some A := by
 obtain ⟨us, hu, _, hn⟩ := A1U h
 rw [L5, if_neg zO0] at hu
 obtain ⟨x, y, hx, hy, rfl⟩ := A6b hu
 obtain ⟨_, w, hw, hs⟩ := hn zN0
 unfold M0 at hw
 simp only [show ¬((6 : Int) = 1) by decide, show ¬((6 : Int) = 2) by decide, show ¬((6 : Int) = 3 ∨ (6 : Int) = 4) by decide, show ¬((6 : Int) = 5) by decide, if_false, if_true, List.getD_cons_zero, List.getD_cons_succ] at hw
 split at hw
 ·rename_i p q hm
  split at hw
  ·cases hw
   obtain ⟨h1, h2⟩ := B1m hs
   subst h1 h2
   exact ⟨_, hx, hy⟩
  ·cases hw
 ·cases hw
theorem B65 {A : Ty} (hv : H7 T = true) (ha : I7 cx a = some (.mk 4 [A, T])) (hb : I7 cx b = some A) : I7 cx (.mk 6 nm num ty fr lb [a, b]) = some T := by
 refine A7R (us := [.mk 4 [A, T], A]) (w := [.mk 4 [A, T], A]) (B62 ha hb) zN0 hv ?_ (A6c _)
 unfold M0
 simp only [show ¬((6 : Int) = 1) by decide, show ¬((6 : Int) = 2) by decide, show ¬((6 : Int) = 3 ∨ (6 : Int) = 4) by decide, show ¬((6 : Int) = 5) by decide, if_false, if_true, List.getD_cons_zero, List.getD_cons_succ, A1I, A2W]
theorem B1o {k : Int} (hk : k = 7 ∨ k = 8) (h : I7 cx (.mk k nm num ty fr lb [a, b]) = some T) : I7 cx a = some Q7 ∧ I7 cx b = some Q7 ∧ T = if k = 8 then V4 else Q7 := by
 obtain ⟨us, hu, _, hn⟩ := A1U h
 rw [L5, if_neg zO0] at hu
 obtain ⟨x, y, hx, hy, rfl⟩ := A6b hu
 obtain ⟨_, w, hw, hs⟩ := hn zO0
 unfold M0 at hw
 rw [if_neg zO0, if_neg zO0, if_neg zO0, if_neg zO0, if_neg zO0, if_pos hk] at hw
 split at hw
 ·cases hw
  obtain ⟨h1, h2⟩ := B1m hs
  subst h1 h2
  exact ⟨hx, hy, rfl⟩
 ·cases hw
theorem B1p (h : I7 cx (.mk 9 nm num ty fr lb [a, b, c]) = some T) : I7 cx a = some V4 ∧ I7 cx b = some T ∧ I7 cx c = some T := by
 obtain ⟨us, hu, _, hn⟩ := A1U h
 rw [L5, if_neg zO0] at hu
 obtain ⟨x, y, z, hx, hy, hz, rfl⟩ := B61 hu
 obtain ⟨_, w, hw, hs⟩ := hn zN0
 unfold M0 at hw
 rw [if_neg zO0, if_neg zO0, if_neg zO0, if_neg zO0, if_neg zO0, if_neg zO0, if_pos rfl] at hw
 split at hw
 ·cases hw
  obtain ⟨h1, h2, h3⟩ := B64 hs
  simp only [List.getD_cons_zero, List.getD_cons_succ] at h2 h3 ⊢
  refine ⟨by rw [hx, h1], by rw [hy]; congr 1; exact h2.symm, by rw [hz]; congr 1; exact h3.symm⟩
 ·cases hw
theorem A7U (h : I7 cx (.mk 10 nm num ty fr lb [a, b]) = some T) : ∃ A B, I7 cx a = some A ∧ I7 cx b = some B ∧ T = .mk 5 [A, B] := by
 obtain ⟨us, hu, _, hn⟩ := A1U h
 rw [L5, if_neg zO0] at hu
 obtain ⟨x, y, hx, hy, rfl⟩ := A6b hu
 obtain ⟨_, w, hw, hs⟩ := hn zN0
 unfold M0 at hw
 rw [if_neg zO0, if_neg zO0, if_neg zO0, if_neg zO0, if_neg zO0, if_neg zO0, if_neg zO0, if_pos rfl] at hw
 cases hw
 exact ⟨x, y, hx, hy, rfl⟩
theorem B1q {k : Int} (hk : k = 11 ∨ k = 12) (h : I7 cx (.mk k nm num ty fr lb [a]) = some T) : ∃ A B, I7 cx a = some (.mk 5 [A, B]) ∧ T = if k = 12 then B else A := by
 obtain ⟨us, hu, _, hn⟩ := A1U h
 rw [L5, if_neg zO0] at hu
 obtain ⟨x, hx, rfl⟩ := A41 hu
 obtain ⟨_, w, hw, hs⟩ := hn zO0
 unfold M0 at hw
 rw [if_neg zO0, if_neg zO0, if_neg zO0, if_neg zO0, if_neg zO0, if_neg zO0, if_neg zO0, if_neg zO0, if_neg zO0] at hw
 split at hw
 ·rename_i p q hm
  cases hw
  have h1 := B63 hs
  subst h1
  exact ⟨p, q, hx, rfl⟩
 ·cases hw
theorem B1r {k : Int} {A B : Ty} (hk : k = 11 ∨ k = 12) (hv : H7 (if k = 12 then B else A) = true) (h : I7 cx a = some (.mk 5 [A, B])) : I7 cx (.mk k nm num ty fr lb [a]) = some (if k = 12 then B else A) := by
 refine A7R (us := [.mk 5 [A, B]]) (w := [.mk 5 [A, B]]) (by rw [L5, if_neg zO0]; exact A7S h) zO0 hv ?_ (A6c _)
 unfold M0
 rw [if_neg zO0, if_neg zO0, if_neg zO0, if_neg zO0, if_neg zO0, if_neg zO0, if_neg zO0, if_neg zO0, if_neg zO0]
 simp only [List.getD_cons_zero, A1I, if_true, List.getD_cons_succ]
theorem A38 (h : I7 cx (.mk 14 nm num ty fr lb [a]) = some T) : I7 cx a = some fr ∧ T = ty := by
 obtain ⟨us, hu, hn, _⟩ := A1U h
 obtain ⟨x, hx, rfl⟩ := A41 hu
 obtain ⟨h1, h2⟩ := hn rfl
 simp only [List.getD_cons_zero] at h1
 subst h1
 exact ⟨hx, h2⟩
theorem A2u (h : I7 cx a = some fr) : I7 cx (.mk 14 nm num ty fr lb [a]) = some ty := by
 rw [I7, show L5 cx 14 nm ty = cx from rfl, A7S h]
 simp only [if_true, List.getD_cons_zero, A7t]
theorem A7V (h : I7 cx (.mk 5 nm num ty fr lb [a]) = some T) : ∃ B, I7 (cx ++ [(nm, ty)]) a = some B ∧ T = .mk 4 [ty, B] := by
 obtain ⟨us, hu, _, hn⟩ := A1U h
 rw [L5, if_pos rfl] at hu
 obtain ⟨x, hx, rfl⟩ := A41 hu
 obtain ⟨_, w, hw, hs⟩ := hn zN0
 unfold M0 at hw
 rw [if_neg zO0, if_neg zO0, if_neg zO0, if_pos rfl] at hw
 cases hw
 exact ⟨x, hx, rfl⟩
theorem A6d (h : I7 cx (.mk 1 nm num ty fr lb []) = some T) : Q0 cx nm = some T := by
 obtain ⟨us, hu, _, hn⟩ := A1U h
 obtain ⟨_, w, hw, hs⟩ := hn zN0
 unfold M0 at hw
 rw [if_pos rfl] at hw
 split at hw
 ·rename_i t ht; cases hw; exact ht
 ·cases hw
theorem B1s (h : I7 cx (.mk 2 nm num ty fr lb []) = some T) : T = Q7 := by
 obtain ⟨us, hu, _, hn⟩ := A1U h
 obtain ⟨_, w, hw, hs⟩ := hn zN0
 cases hw; rfl
theorem B1t {k : Int} (hk : k = 3 ∨ k = 4) (h : I7 cx (.mk k nm num ty fr lb []) = some T) : T = V4 := by
 obtain ⟨us, hu, _, hn⟩ := A1U h
 obtain ⟨_, w, hw, hs⟩ := hn zO0
 rcases hk with rfl | rfl <;> (cases hw; rfl)
end inv
theorem A1V (cx : Cx) (x nm : ByteArray) (t : Ty) : Q0 (cx ++ [(x, t)]) nm = if x = nm then some t else Q0 cx nm := by
 unfold Q0
 rw [List.length_append, show ([(x, t)] : Cx).length = 1 from rfl]
 have hl : (cx ++ [(x, t)])[cx.length]? = some (x, t) := by rw [List.getElem?_append_right (Nat.le_refl _)]; simp
 by_cases h : x = nm
 ·rw [A4K hl h, if_pos h]
 ·rw [A4L hl h, if_neg h]
  have : ∀ n, n ≤ cx.length → X1 (cx ++ [(x, t)]) nm n = X1 cx nm n := by
   intro n
   induction n with
   | zero => intro _; rfl
   | succ n ih =>
    intro hn
    rw [X1, X1, List.getElem?_append_left zO0, ih zO0]
  exact this _ (Nat.le_refl _)
theorem B66 (h : ∀ x, Q0 cx x = Q0 cy x) (k : Int) (nm : ByteArray) (ty : Ty) : ∀ x, Q0 (L5 cx k nm ty) x = Q0 (L5 cy k nm ty) x := by
 intro x
 unfold L5
 split
 ·rw [A1V, A1V, h]
 ·exact h x
theorem B1u {k : Int} {nm : ByteArray} {ty : Ty} (he : Q0 cx nm = Q0 cy nm) : U6 cx k nm ty h = U6 cy k nm ty h := by
 unfold U6 M0
 rw [he]
mutual
theorem B67 : ∀ (e : Tm) (cx cy : Cx), (∀ x, Q0 cx x = Q0 cy x) → I7 cx e = I7 cy e
 | .mk k nm num ty fr lb ks, cx, cy, h => by
  rw [I7, I7, A7W ks _ _ (B66 h k nm ty)]
  split
  ·rfl
  ·rw [B1u (h nm)]
theorem A7W : ∀ (ts : List Tm) (cx cy : Cx), (∀ x, Q0 cx x = Q0 cy x) → N0 cx ts = N0 cy ts
 | [], _, _, _ => by rw [N0, N0]
 | t :: ts, cx, cy, h => by rw [N0, N0, B67 t cx cy h, A7W ts cx cy h]
end
theorem B68 {k : Int} {nm : ByteArray} {ty : Ty} (hk : k ≠ 1) : M0 cx k nm ty h = M0 cy k nm ty h := by
 unfold M0
 rw [if_neg hk, if_neg hk]
theorem B1v {k : Int} {nm : ByteArray} {ty : Ty} (hk : k ≠ 1) : U6 cx k nm ty h = U6 cy k nm ty h := by
 unfold U6; rw [B68 (cy := cy) hk]
mutual
theorem B1w {x : ByteArray} {A : Ty} {v : Tm} (hv : I7 [] v = some A) : ∀ (e : Tm) (cx cy : Cx) (T : Ty), cv e → (∀ y, y ≠ x → Q0 cx y = Q0 cy y) → Q0 cx x = some A → I7 cx e = some T → I7 cy (V5 x v e) = some T
 | .mk k nm num ty fr lb ks, cx, cy, T, hc, h, hx, ht => by
  have hkk := hc.node.2
  have hop := hc.node.1.ops
  rw [V5]
  by_cases h1 : k = 1 ∧ nm = x
  ·rw [if_pos h1]
   obtain ⟨rfl, rfl⟩ := h1
   have hks : ks = [] := List.length_eq_zero_iff.1 (by have : E4 1 = 0 := rfl; omega)
   subst hks
   have h2 := A6d ht
   rw [hx] at h2
   cases h2
   have h3 := B1b cy v [] A hv
   rwa [List.append_nil] at h3
  ·rw [if_neg h1]
   by_cases h5 : k = 5 ∧ nm = x
   ·rw [if_pos h5]
    obtain ⟨rfl, rfl⟩ := h5
    rw [I7] at ht ⊢
    rw [← A7W ks (L5 cx 5 nm ty) (L5 cy 5 nm ty) (fun y => by
     rw [L5, L5, if_pos rfl, if_pos rfl, A1V, A1V]
     by_cases hy : nm = y
     ·rw [if_pos hy, if_pos hy]
     ·rw [if_neg hy, if_neg hy]; exact h y (fun e => hy e.symm))]
    split at ht
    ·cases ht
    ·rename_i us hu
     rw [B1v (cy := cx) zN0]
     exact ht
   ·rw [if_neg h5]
    rw [I7] at ht ⊢
    have hin : ∀ us, N0 (L5 cx k nm ty) ks = some us → N0 (L5 cy k nm ty) (U8 x v ks) = some us := by
     intro us hu
     refine B1x hv ks _ _ us hkk ?_ ?_ hu
     ·intro y hy
      unfold L5
      split
      ·rw [A1V, A1V, h y hy]
      ·exact h y hy
     ·unfold L5
      split
      ·rename_i hk
       rw [A1V, if_neg (fun e => h5 ⟨hk, e⟩)]; exact hx
      ·exact hx
    split at ht
    ·cases ht
    ·rename_i us hu
     rw [hin us hu]
     simp only at ht ⊢
     by_cases hk1 : k = 1
     ·subst hk1
      have hn : nm ≠ x := fun e => h1 ⟨rfl, e⟩
      rw [B1u (h nm hn)] at ht
      exact ht
     ·rw [B1v (cy := cx) hk1]
      exact ht
theorem B1x {x : ByteArray} {A : Ty} {v : Tm} (hv : I7 [] v = some A) : ∀ (ts : List Tm) (cx cy : Cx) (us : List Ty), (∀ t ∈ ts, cv t) → (∀ y, y ≠ x → Q0 cx y = Q0 cy y) → Q0 cx x = some A → N0 cx ts = some us → N0 cy (U8 x v ts) = some us
 | [], cx, cy, us, _, _, _, hu => by rw [N0] at hu; cases hu; rw [U8, N0]
 | t :: ts, cx, cy, us, hc, h, hx, hu => by
  rw [N0] at hu
  split at hu
  ·cases hu
  ·rename_i T hT
   split at hu
   ·cases hu
   ·rename_i Ts hTs
    cases hu
    rw [U8, N0, B1w hv t cx cy T (hc t List.mem_cons_self) h hx hT, B1x hv ts cx cy Ts (fun u hu => hc u (List.mem_cons_of_mem _ hu)) h hx hTs]
end
end Gw
end Go.Proofs.YtmceanphadildaaGreatDoor
