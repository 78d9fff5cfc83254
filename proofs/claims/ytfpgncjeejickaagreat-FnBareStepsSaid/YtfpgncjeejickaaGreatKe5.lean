/-
  The program's evaluator: casts, nodes, the rules without casts.
-/
import Derived.Test.YtfpgncjeejickaaGreatKe4
import Derived.Test.YtfpgncjeejickaaGreatKe3
import Derived.Test.YtfpgncjeejickaaGreatKe2
import Derived.Lib.ItoaNum
set_option linter.unusedVariables false
set_option linter.unusedSimpArgs false
set_option maxHeartbeats 0
set_option maxRecDepth 100000
set_option synthInstance.maxSize 4000
set_option synthInstance.maxHeartbeats 0
namespace Go.Proofs.YtfpgncjeejickaaGreat
open Go Go.RowKit
namespace Gw
theorem A1n (e : Tm) (a b : Ty) (l : Int) (G : IM) (ce ca cb : List Value) (hl : E3 l) (he : A6 G e ce) (ha : B5 G a ca) (hb : B5 G b cb) : Fn Tryz.prog 230 [.agg ⟨ce⟩, .agg ⟨ca⟩, .agg ⟨cb⟩, .int .i64 l] [] G (O7 (N1 e a b l)) := by
 have hel := he.len
 have heo := he.one
 obtain ⟨v1, v2, v3, v4, v5, v6, v7, v8, v9, rfl⟩ := nine hel
 obtain ⟨ak, aks⟩ := a
 obtain ⟨bk, bks⟩ := b
 obtain ⟨pa, cca, ea, rfl, _⟩ := ha.open
 obtain ⟨pb, ccb, eb, rfl, _⟩ := hb.open
 refine B3 Tryz.func230 rfl Tryz.ntmps230 Tryz.results230 rfl ?_
 intro w0
 refine tS (tR ?_)
 refine sE (C0 rfl rfl) rfl (fun b3 => ?_)
 refine sE (C0 rfl rfl) rfl (fun b4 => ?_)
 refine sE (C0 rfl rfl) rfl (fun b5 => ?_)
 refine sE (A7 rfl) rfl (fun b6 => ?_)
 refine sD (nS (tS (tR ?_)))
 refine sL (A3 rfl rfl (A9 (by repeat first | exact mH | apply mT)) rfl) rfl rfl ?_
 refine sL (A3 rfl rfl (A9 (by repeat first | exact mH | apply mT)) rfl) rfl rfl ?_
 refine sQ (qM rfl) rfl ?_
 refine sL (A3 rfl rfl (A9 (by repeat first | exact mH | apply mT)) rfl) rfl rfl ?_
 (refine L4 (C8 rfl rfl rfl (by omega) (by unfold maxLen; omega) rfl) rfl ?_; rintro _ ⟨b15, rfl⟩)
 refine sQ (T3 rfl rfl) rfl (F4 ?_)
 refine sD (nS ?_)
 (refine H5 (cs := [v1, v2, v3, v4, v5, v6, v7, v8, v9]) (by repeat (first | exact Pk.here | apply Pk.there)) (fun G2 hle2 hsl2 hno2 => ?_))
 refine tT ?_
 refine E0 (rC rfl (A1 rfl rfl)) ?_
 (exact O7.mk (A6.put (us := [e]) (es := [[v1, v2, v3, v4, v5, v6, v7, v8, v9]]) ⟨by decide, by decide⟩ ⟨by decide, by decide⟩ hl (hb.mono hle2) (ha.mono hle2) rfl (C9.of hsl2 rfl (by intro x hx; obtain rfl := List.mem_singleton.1 hx; rfl) (by intro x hx; obtain rfl := List.mem_singleton.1 hx; exact heo)) (by simp only [D2]; exact ⟨_, _, rfl, he.mono hle2, rfl⟩)))
theorem A2X (k : Int) (p : Option Addr) (n c : Nat) (G : IM) : Fn Tryz.prog 231 [.int .i64 k, .slice p n c] [] G (H6 (.agg ⟨[.int .i64 k, .string ⟨⟨[]⟩⟩, .int .i64 0, .int .i64 0, .slice none 0 0, .int .i64 0, .slice none 0 0, .int .i64 0, .slice p n c]⟩) G) := by
 refine B3 Tryz.func231 rfl Tryz.ntmps231 Tryz.results231 rfl ?_
 intro w0
 refine tS (tR ?_)
 refine sE (A7 rfl) rfl (fun b3 => ?_)
 refine J2 ?_
 refine E0 (rC rfl (A1 rfl rfl)) ?_
 (exact ⟨rfl, rfl, rfl⟩)
theorem A4P (G : IM) {k : Int} (hk : E3 k) : A6 G (A0k k []) [.int .i64 k, .string ⟨⟨[]⟩⟩, .int .i64 0, .int .i64 0, .slice none 0 0, .int .i64 0, .slice none 0 0, .int .i64 0, .slice none 0 0] := A3J hk rfl (C9.nil _ _) rfl
theorem B3b (G : IM) : Fn Tryz.prog 224 [.bool true] [] G (O7 (V8 (true = true))) := by
 refine B3 Tryz.func224 rfl Tryz.ntmps224 Tryz.results224 rfl ?_
 intro w0
 refine tS (tR ?_)
 refine sE (A7 rfl) rfl (fun b3 => ?_)
 refine J2 ?_
 refine I5 rfl ((A2X _ _ _ _ _)) rfl rfl ?_
 refine F4 ?_
 refine sD (nS (tT (rS ?_)))
 refine E0 (rC rfl (A1 rfl rfl)) ?_
 (exact O7.mk (A4P _ ⟨by decide, by decide⟩))
theorem B3c (G : IM) : Fn Tryz.prog 224 [.bool false] [] G (O7 (V8 (false = true))) := by
 refine B3 Tryz.func224 rfl Tryz.ntmps224 Tryz.results224 rfl ?_
 intro w0
 refine tS (tR ?_)
 refine sE (A7 rfl) rfl (fun b3 => ?_)
 refine J3 ?_
 refine I5 rfl ((A2X _ _ _ _ _)) rfl rfl ?_
 refine F4 ?_
 refine sD (nS (tT ?_))
 refine E0 (rC rfl (A1 rfl rfl)) ?_
 (exact O7.mk (A4P _ ⟨by decide, by decide⟩))
theorem A8N (b : Bool) (G : IM) : Fn Tryz.prog 224 [.bool b] [] G (O7 (V8 (b = true))) := by
 cases b
 ·exact B3c G
 ·exact B3b G
theorem A8O {a b : Int} (h : 0 ≤ a ∧ a ≤ 999) (h' : 0 ≤ b ∧ b ≤ 999) : (a + b).tmod 1000 = (a + b) % 1000 := by
 rw [Int.tmod_eq_emod_of_nonneg (by omega)]
def O8 (k : Int) (ks : List Tm) : Option Tm :=
 if k = 6 then (if (kd ks 0).k = 5 then some (R7 (kd ks 0).nm (kd ks 1) (kd (kd ks 0).ks 0)) else none)
 else if k = 7 ∨ k = 8 then (if (kd ks 0).k = 2 ∧ (kd ks 1).k = 2 then some (if k = 7 then A1G (((kd ks 0).num + (kd ks 1).num) % 1000) else V8 ((kd ks 0).num < (kd ks 1).num)) else none)
 else if k = 9 then (if (kd ks 0).k = 3 then some (kd ks 1) else if (kd ks 0).k = 4 then some (kd ks 2) else none)
 else if k = 11 ∨ k = 12 then (if (kd ks 0).k = 10 then some (kd (kd ks 0).ks (k - 11).toNat) else none)
 else none
def R3 (o : Option Tm) : IM → Value → List A4 → Prop := K5 fun G' v => ∃ u cells c, v = .tuple ⟨[.agg ⟨cells⟩, .int .i64 c]⟩ ∧ A6 G' u cells ∧ (∀ x, o = some x → c = 1 ∧ u = x) ∧ (o = none → c = 3)
theorem R3.yes {G : IM} {o : Option Tm} {u : Tm} {cells : List Value} (h : o = some u) (hr : A6 G u cells) : R3 o G (.tuple ⟨[.agg ⟨cells⟩, .int .i64 1]⟩) [] := by
 subst h; exact ⟨rfl, u, cells, 1, rfl, hr, fun x hx => (by cases hx; exact ⟨rfl, rfl⟩), fun h => (by cases h)⟩
theorem R3.no {G : IM} {o : Option Tm} {u : Tm} {cells : List Value} (h : o = none) (hr : A6 G u cells) : R3 o G (.tuple ⟨[.agg ⟨cells⟩, .int .i64 3]⟩) [] := by
 subst h; exact ⟨rfl, u, cells, 3, rfl, hr, fun x hx => (by cases hx), fun _ => rfl⟩
theorem L0 (G : IM) : A6 G D7 [.int .i64 0, .string ⟨⟨[]⟩⟩, .int .i64 0, .int .i64 0, .slice none 0 0, .int .i64 0, .slice none 0 0, .int .i64 0, .slice none 0 0] := (P9.zero G).R
theorem B3d (a b : Tm) (nm : ByteArray) (num : Int) (ty fr : Ty) (lb : Int) (G : IM) (cells : List Value) (hca : cv a) (hr : A6 G (.mk 6 nm num ty fr lb [a, b]) cells) : Fn Tryz.prog 177 [.agg ⟨cells⟩] [] G (R3 (O8 6 [a, b])) := by
 have hsm := A1W a hca
 obtain ⟨ak, anm, anum, ⟨atk, atks⟩, ⟨afk, afks⟩, alb, aks⟩ := a
 obtain ⟨tk, tks⟩ := ty
 obtain ⟨fk, fks⟩ := fr
 obtain ⟨pt, ct, pf, cf, p, c, es, rfl, hk, hnum, hlb, hty, hfr, hsl, hkl⟩ := hr.open9
 obtain ⟨bx, ox, e0, rfl, hl0, hat0, hre0, hgb0⟩ := hsl.kidTm hkl (i := 0) (by simp) (by simp)
 replace hre0 : A6 G (.mk ak anm anum (.mk atk atks) (.mk afk afks) alb aks) e0 := hre0
 obtain ⟨apt, act, apf, acf, ap, ac, aes, rfl, hak, hanum, halb, haty, hafr, hasl, hakl⟩ := hre0.open9
 obtain ⟨_, _, e1, hp1, hl1, hat1, hre1, hgb1⟩ := hsl.kidTm hkl (i := 1) (by simp) (by simp)
 cases hp1
 replace hre1 : A6 G b e1 := hre1
 have ho1 := hre1.one
 obtain ⟨hN, _⟩ := hca.node
 have hops := hN.ops
 obtain ⟨_, _, _, _, hksm⟩ := A0t.1 hsm
 have h1 : ak = 5 → aks.length = 1 := fun h => by rw [h] at hops; have : C5 5 = 1 := rfl; omega
 have hL : ([Tm.mk ak anm anum (.mk atk atks) (.mk afk afks) alb aks, b] : List Tm).length = 2 := rfl
 rw [show O8 6 [Tm.mk ak anm anum (.mk atk atks) (.mk afk afks) alb aks, b] = (if ak = 5 then some (R7 anm b (kd aks 0)) else none) from rfl]
 refine B3 Tryz.func177 rfl Tryz.ntmps177 Tryz.results177 rfl ?_
 intro w0
 refine tS (tR ?_)
 refine sE (C0 rfl rfl) rfl (fun b3 => ?_)
 refine sE (A7 rfl) rfl (fun b4 => ?_)
 refine J7 ?_
 refine sE (A7 rfl) rfl (fun b11 => ?_)
 refine D9 ?_
 refine sP (A3b rfl rfl (by omega)) rfl rfl ?_
 refine J7 ?_
 refine sP (B2 (j := 0) rfl rfl rfl (by simp)) rfl rfl ?_
 refine sL (A3 rfl rfl (hat0 _) rfl) rfl rfl ?_
 refine I7 ?_
 refine B7 ?_
 refine tS (tR ?_)
 refine sP (W2 rfl rfl (by omega)) rfl rfl ?_
 refine D8 ?_
 refine sB (qE rfl rfl) rfl rfl (fun h52 => ?_) (fun h52 => ?_)
 refine sD (nS (qT rfl (tS ?_)))
 (have hq : ak = 5 := (by omega); have hq1 := h1 hq; obtain ⟨bq, oq, e3, rfl, hl3, hat3, hre3, hgb3⟩ := hasl.kidTm hakl (i := 0) (by omega) (by omega); have hS := B3a anm b e1 aks[0] G e3 (Tm.smallL_mem hksm _ (List.getElem_mem (by omega))) hre3 hre1; refine D5 D6 rfl ?_)
 refine I3 (i := 0) (l' := [tt,ff,ff,ff,ff,ff,ff,ff,ff,ff,ff,ff,ff]) rfl D1 (B0 rfl) rfl (by kernel_rfl) rfl rfl ?_
 refine aL 1 rfl (B9 rfl rfl) rfl ?_
 refine aP 2 rfl (B2 (j := 0) rfl rfl rfl (by omega)) rfl ?_
 refine aL 3 rfl (A3 rfl rfl (hat3 _) hl3) rfl ?_
 refine aP 4 rfl (B0 rfl) rfl ?_
 refine aL 5 rfl (B9 rfl rfl) rfl ?_
 refine aP 6 rfl (B0 rfl) rfl ?_
 refine aL 7 rfl (B9 rfl rfl) rfl ?_
 refine aP 8 rfl (B2 (j := 1) rfl rfl rfl (by simp)) rfl ?_
 refine aL 9 rfl (A3 rfl rfl (hat1 _) hl1) rfl ?_
 refine A2 10 ?_
 (refine I9 rfl rfl hS rfl rfl rfl (fun u G1 hle1 hh => ?_); obtain ⟨uc, rfl, hru⟩ := hh; have hul := hru.len; have huo := hru.one)
 refine A2 11 ?_
 (refine oS rfl rfl rfl rfl hul huo rfl rfl ?_ (hu := by exact C3 hul.symm))
 refine aP 12 rfl (qA rfl) rfl ?_
 refine C2 (nS (tT (rB (rS ?_))))
 refine I4 (rC rfl (A3 rfl rfl (A9 (by repeat first | exact mH | apply mT)) hul)) (rT rfl) ?_
 (exact R3.yes (by rw [if_pos (by omega)]; unfold kd; rw [List.getD_eq_getElem?_getD, List.getElem?_eq_getElem (by omega), Option.getD_some]) hru)
 refine L5 ?_
 refine I4 (rC rfl (A1 rfl rfl)) (rT rfl) ?_
 (exact R3.no (by rw [if_neg (by omega)]) (L0 _))
theorem A8P (k : Int) (a b : Tm) (nm : ByteArray) (num : Int) (ty fr : Ty) (lb : Int) (G : IM) (cells : List Value) (hk78 : k = 7 ∨ k = 8) (hca : cv a) (hcb : cv b) (hr : A6 G (.mk k nm num ty fr lb [a, b]) cells) : Fn Tryz.prog 177 [.agg ⟨cells⟩] [] G (R3 (O8 k [a, b])) := by
 obtain ⟨ak, anm, anum, ⟨atk, atks⟩, ⟨afk, afks⟩, alb, aks⟩ := a
 obtain ⟨tk, tks⟩ := ty
 obtain ⟨fk, fks⟩ := fr
 obtain ⟨pt, ct, pf, cf, p, c, es, rfl, hk, hnum, hlb, hty, hfr, hsl, hkl⟩ := hr.open9
 obtain ⟨bx, ox, e0, rfl, hl0, hat0, hre0, hgb0⟩ := hsl.kidTm hkl (i := 0) (by simp) (by simp)
 replace hre0 : A6 G (.mk ak anm anum (.mk atk atks) (.mk afk afks) alb aks) e0 := hre0
 obtain ⟨apt, act, apf, acf, ap, ac, aes, rfl, hak, hanum, halb, haty, hafr, hasl, hakl⟩ := hre0.open9
 obtain ⟨bk, bnm, bnum, ⟨btk, btks⟩, ⟨bfk, bfks⟩, blb, bks⟩ := b
 obtain ⟨_, _, e1, hp1, hl1, hat1, hre1, hgb1⟩ := hsl.kidTm hkl (i := 1) (by simp) (by simp)
 cases hp1
 replace hre1 : A6 G (.mk bk bnm bnum (.mk btk btks) (.mk bfk bfks) blb bks) e1 := hre1
 obtain ⟨bpt, bct, bpf, bcf, bp, bc, bes, rfl, hbk, hbnum, hblb, hbty, hbfr, hbsl, hbkl⟩ := hre1.open9
 obtain ⟨hN, _⟩ := hca.node
 obtain ⟨hM, _⟩ := hcb.node
 obtain ⟨hn1, hn2⟩ := hN.num0
 obtain ⟨hm1, hm2⟩ := hM.num0
 have hL : ([Tm.mk ak anm anum (.mk atk atks) (.mk afk afks) alb aks, Tm.mk bk bnm bnum (.mk btk btks) (.mk bfk bfks) blb bks] : List Tm).length = 2 := rfl
 have hR : O8 k [Tm.mk ak anm anum (.mk atk atks) (.mk afk afks) alb aks, Tm.mk bk bnm bnum (.mk btk btks) (.mk bfk bfks) blb bks] = (if ak = 2 ∧ bk = 2 then some (if k = 7 then A1G ((anum + bnum) % 1000) else V8 (anum < bnum)) else none) := by
  unfold O8; rw [if_neg (by omega), if_pos hk78]; rfl
 rw [hR]
 have htm : (anum + bnum).tmod 1000 = (anum + bnum) % 1000 := A8O ⟨hn1, hn2⟩ ⟨hm1, hm2⟩
 have hb : E3 ((anum + bnum) % 1000) := ⟨by omega, by omega⟩
 refine B3 Tryz.func177 rfl Tryz.ntmps177 Tryz.results177 rfl ?_
 intro w0
 refine tS (tR ?_)
 refine sE (C0 rfl rfl) rfl (fun b3 => ?_)
 refine sE (A7 rfl) rfl (fun b4 => ?_)
 refine J7 ?_
 refine sE (A7 rfl) rfl (fun b11 => ?_)
 refine D9 ?_
 refine sP (A3b rfl rfl (by omega)) rfl rfl ?_
 refine J7 ?_
 refine sP (B2 (j := 0) rfl rfl rfl (by simp)) rfl rfl ?_
 refine sL (A3 rfl rfl (hat0 _) rfl) rfl rfl ?_
 refine I7 ?_
 refine B7 ?_
 refine tS (tR ?_)
 refine sP (H0 rfl rfl (by omega)) rfl rfl ?_
 refine sQ (qA rfl) rfl (sD (nS (cF rfl (tS (tS (tR ?_))))))
 refine sB (qE rfl rfl) rfl rfl (fun h51 => ?_) (fun h51 => ?_)
 refine J2 ?_
 refine sP (B2 (j := 1) rfl rfl rfl (by simp)) rfl rfl ?_
 refine sL (A3 rfl rfl (hat1 _) rfl) rfl rfl ?_
 refine sE (A7 rfl) rfl (fun b65 => ?_)
 refine F4 ?_
 refine sD (nS ?_)
 refine B7 ?_
 refine tS (tR (sQ (B0 rfl) rfl (sL (B9 rfl rfl) rfl rfl ?_)))
 refine sB (M8 rfl rfl) rfl rfl (fun h74 => ?_) (fun h74 => ?_)
 refine A0T ?_
 refine I4 (rC rfl (A1 rfl rfl)) (rT rfl) ?_
 (exact R3.no (by rw [if_neg (by omega)]) (L0 _))
 refine L9 ?_
 refine sB (M8 rfl rfl) rfl rfl (fun h101 => ?_) (fun h101 => ?_)
 refine V2 ?_
 refine I4 (rC rfl (A1 rfl rfl)) (rT rfl) ?_
 (exact R3.no (by rw [if_neg (by omega)]) (L0 _))
 refine D9 ?_
 refine sP (W2 rfl rfl (by omega)) rfl rfl ?_
 refine I7 ?_
 refine sP (K4 rfl rfl (by omega) (by omega)) rfl rfl ?_
 refine sP (A28 rfl rfl (by omega)) rfl rfl ?_
 refine sQ (T3 rfl rfl) rfl ?_
 (rw [htm]; refine F4 ?_)
 refine sQ (qA rfl) rfl (sD (nS (tT (rB (rB (rS ?_))))))
 refine I4 (rC rfl (A1 rfl rfl)) (rT rfl) ?_
 (exact R3.yes (u := A1G (HMod.hMod (anum + bnum) 1000)) (by rw [if_pos ⟨by omega, by omega⟩, if_pos (by omega)]) (A6.put (us := []) ⟨by decide, by decide⟩ hb ⟨by decide, by decide⟩ (A0J _) (A0J _) rfl (C9.nil _ _) rfl))
 refine sQ (qA rfl) rfl (sD (nS (cF rfl (tR ?_))))
 refine sP (W2 rfl rfl (by omega)) rfl rfl ?_
 refine D8 ?_
 refine sP (B2 (j := 1) rfl rfl rfl (by simp)) rfl rfl ?_
 refine sL (A3 rfl rfl (hat1 _) rfl) rfl rfl ?_
 refine sE (A7 rfl) rfl (fun b170 => ?_)
 refine F4 ?_
 refine sD (nS ?_)
 refine B7 ?_
 refine tS (tR (sQ (B0 rfl) rfl (sL (B9 rfl rfl) rfl rfl ?_)))
 refine sB (M8 rfl rfl) rfl rfl (fun h179 => ?_) (fun h179 => ?_)
 refine A0T ?_
 refine I4 (rC rfl (A1 rfl rfl)) (rT rfl) ?_
 (exact R3.no (by rw [if_neg (by omega)]) (L0 _))
 refine L9 ?_
 refine sB (M8 rfl rfl) rfl rfl (fun h206 => ?_) (fun h206 => ?_)
 refine V2 ?_
 refine I4 (rC rfl (A1 rfl rfl)) (rT rfl) ?_
 (exact R3.no (by rw [if_neg (by omega)]) (L0 _))
 refine D9 ?_
 refine sP (H0 rfl rfl (by omega)) rfl rfl ?_
 refine I7 ?_
 (refine sB (J9 rfl rfl) rfl rfl (fun h246 => ?_) (fun h246 => ?_))
 (refine E5 rfl (A8N _ _) rfl rfl (fun u G1 hle1 hh => ?_); obtain ⟨uc, rfl, hru⟩ := hh; have hul := hru.len; have huo := hru.one)
 refine sS rfl rfl rfl hul huo rfl ?_ (hu := by exact C3 hul.symm)
 refine sQ (qA rfl) rfl (sD (nS (tT (rB (rB (rS ?_))))))
 refine I4 (rC rfl (A3 rfl rfl (A9 (by repeat first | exact mH | apply mT)) hul)) (rT rfl) ?_
 (exact R3.yes (by rw [if_pos ⟨by omega, by omega⟩, if_neg (by omega)]; unfold V8; rw [if_pos (by omega), if_pos rfl]) hru)
 (refine E5 rfl (A8N _ _) rfl rfl (fun u G1 hle1 hh => ?_); obtain ⟨uc, rfl, hru⟩ := hh; have hul := hru.len; have huo := hru.one)
 refine sS rfl rfl rfl hul huo rfl ?_ (hu := by exact C3 hul.symm)
 refine sQ (qA rfl) rfl (sD (nS (tT (rB (rB (rS ?_))))))
 refine I4 (rC rfl (A3 rfl rfl (A9 (by repeat first | exact mH | apply mT)) hul)) (rT rfl) ?_
 (exact R3.yes (by rw [if_pos ⟨by omega, by omega⟩, if_neg (by omega)]; unfold V8; rw [if_neg (by omega), if_neg (by decide)]) hru)
theorem B3e (a b c0 : Tm) (nm : ByteArray) (num : Int) (ty fr : Ty) (lb : Int) (G : IM) (cells : List Value) (hr : A6 G (.mk 9 nm num ty fr lb [a, b, c0]) cells) : Fn Tryz.prog 177 [.agg ⟨cells⟩] [] G (R3 (O8 9 [a, b, c0])) := by
 obtain ⟨ak, anm, anum, ⟨atk, atks⟩, ⟨afk, afks⟩, alb, aks⟩ := a
 obtain ⟨tk, tks⟩ := ty
 obtain ⟨fk, fks⟩ := fr
 obtain ⟨pt, ct, pf, cf, p, c, es, rfl, hk, hnum, hlb, hty, hfr, hsl, hkl⟩ := hr.open9
 obtain ⟨bx, ox, e0, rfl, hl0, hat0, hre0, hgb0⟩ := hsl.kidTm hkl (i := 0) (by simp) (by simp)
 replace hre0 : A6 G (.mk ak anm anum (.mk atk atks) (.mk afk afks) alb aks) e0 := hre0
 obtain ⟨apt, act, apf, acf, ap, ac, aes, rfl, hak, hanum, halb, haty, hafr, hasl, hakl⟩ := hre0.open9
 obtain ⟨_, _, e1, hp1, hl1, hat1, hre1, hgb1⟩ := hsl.kidTm hkl (i := 1) (by simp) (by simp)
 cases hp1
 replace hre1 : A6 G b e1 := hre1
 have ho1 := hre1.one
 obtain ⟨_, _, e2, hp2, hl2, hat2, hre2, hgb2⟩ := hsl.kidTm hkl (i := 2) (by simp) (by simp)
 cases hp2
 replace hre2 : A6 G c0 e2 := hre2
 have ho2 := hre2.one
 have hL : ([Tm.mk ak anm anum (.mk atk atks) (.mk afk afks) alb aks, b, c0] : List Tm).length = 3 := rfl
 rw [show O8 9 [Tm.mk ak anm anum (.mk atk atks) (.mk afk afks) alb aks, b, c0] = (if ak = 3 then some b else if ak = 4 then some c0 else none) from rfl]
 refine B3 Tryz.func177 rfl Tryz.ntmps177 Tryz.results177 rfl ?_
 intro w0
 refine tS (tR ?_)
 refine sE (C0 rfl rfl) rfl (fun b3 => ?_)
 refine sE (A7 rfl) rfl (fun b4 => ?_)
 refine J7 ?_
 refine sE (A7 rfl) rfl (fun b11 => ?_)
 refine D9 ?_
 refine sP (A3b rfl rfl (by omega)) rfl rfl ?_
 refine J7 ?_
 refine sP (B2 (j := 0) rfl rfl rfl (by simp)) rfl rfl ?_
 refine sL (A3 rfl rfl (hat0 _) rfl) rfl rfl ?_
 refine I7 ?_
 refine B7 ?_
 refine tS (tR ?_)
 refine sP (H0 rfl rfl (by omega)) rfl rfl ?_
 refine sQ (qA rfl) rfl (sD (nS (cF rfl (tS (tS (tR ?_))))))
 refine sP (H0 rfl rfl (by omega)) rfl rfl ?_
 refine sQ (qA rfl) rfl (sD (nS (cF rfl (tR ?_))))
 refine sP (H0 rfl rfl (by omega)) rfl rfl ?_
 refine sQ (qA rfl) rfl (sD (nS (cF rfl (tS (tR ?_)))))
 refine sP (W2 rfl rfl (by omega)) rfl rfl ?_
 refine I7 ?_
 refine B7 (tS (tR (sB (qE rfl rfl) rfl rfl (fun h78 => ?_) (fun h78 => ?_))))
 refine D8 ?_
 refine sP (B2 (j := 1) rfl rfl rfl (by simp)) rfl rfl ?_
 refine sL (A3 rfl rfl (hat1 _) hl1) rfl rfl ?_
 refine sS rfl rfl rfl hl1 ho1 rfl ?_ (hu := by exact C3 hl1.symm)
 refine sQ (qA rfl) rfl (sD (nS (tT (rB (rB (rS ?_))))))
 refine I4 (rC rfl (A3 rfl rfl (A9 (by repeat first | exact mH | apply mT)) hl1)) (rT rfl) ?_
 (exact R3.yes (by rw [if_pos (by omega)]) hre1)
 refine sQ (qA rfl) rfl (sD (nS (cF rfl (tS (tR ?_)))))
 refine sB (qE rfl rfl) rfl rfl (fun h105 => ?_) (fun h105 => ?_)
 refine D8 ?_
 refine sP (B2 (j := 2) rfl rfl rfl (by simp)) rfl rfl ?_
 refine sL (A3 rfl rfl (hat2 _) hl2) rfl rfl ?_
 refine sS rfl rfl rfl hl2 ho2 rfl ?_ (hu := by exact C3 hl2.symm)
 refine sQ (qA rfl) rfl (sD (nS (tT (rB (rB (rS ?_))))))
 refine I4 (rC rfl (A3 rfl rfl (A9 (by repeat first | exact mH | apply mT)) hl2)) (rT rfl) ?_
 (exact R3.yes (by rw [if_neg (by omega), if_pos (by omega)]) hre2)
 refine I8 ?_
 refine I4 (rC rfl (A1 rfl rfl)) (rT rfl) ?_
 (exact R3.no (by rw [if_neg (by omega), if_neg (by omega)]) (L0 _))
theorem A8Q (k : Int) (a : Tm) (nm : ByteArray) (num : Int) (ty fr : Ty) (lb : Int) (G : IM) (cells : List Value) (hk1 : k = 11 ∨ k = 12) (hca : cv a) (hr : A6 G (.mk k nm num ty fr lb [a]) cells) : Fn Tryz.prog 177 [.agg ⟨cells⟩] [] G (R3 (O8 k [a])) := by
 obtain ⟨ak, anm, anum, ⟨atk, atks⟩, ⟨afk, afks⟩, alb, aks⟩ := a
 obtain ⟨tk, tks⟩ := ty
 obtain ⟨fk, fks⟩ := fr
 obtain ⟨pt, ct, pf, cf, p, c, es, rfl, hk, hnum, hlb, hty, hfr, hsl, hkl⟩ := hr.open9
 obtain ⟨bx, ox, e0, rfl, hl0, hat0, hre0, hgb0⟩ := hsl.kidTm hkl (i := 0) (by simp) (by simp)
 replace hre0 : A6 G (.mk ak anm anum (.mk atk atks) (.mk afk afks) alb aks) e0 := hre0
 obtain ⟨apt, act, apf, acf, ap, ac, aes, rfl, hak, hanum, halb, haty, hafr, hasl, hakl⟩ := hre0.open9
 obtain ⟨hN, _⟩ := hca.node
 have hops := hN.ops
 have h2 : ak = 10 → aks.length = 2 := fun h => by rw [h] at hops; have : C5 10 = 2 := rfl; omega
 have hL : ([Tm.mk ak anm anum (.mk atk atks) (.mk afk afks) alb aks] : List Tm).length = 1 := rfl
 have hR : O8 k [Tm.mk ak anm anum (.mk atk atks) (.mk afk afks) alb aks] = (if ak = 10 then some (kd aks (k - 11).toNat) else none) := by
  unfold O8; rw [if_neg (by omega), if_neg (by omega), if_neg (by omega), if_pos hk1]; rfl
 rw [hR]
 obtain ⟨i, hi⟩ : ∃ i : Nat, (k - 11).toNat = i := ⟨_, rfl⟩
 rw [hi]
 refine B3 Tryz.func177 rfl Tryz.ntmps177 Tryz.results177 rfl ?_
 intro w0
 refine tS (tR ?_)
 refine sE (C0 rfl rfl) rfl (fun b3 => ?_)
 refine sE (A7 rfl) rfl (fun b4 => ?_)
 refine J7 ?_
 refine sE (A7 rfl) rfl (fun b11 => ?_)
 refine D9 ?_
 refine sP (A3b rfl rfl (by omega)) rfl rfl ?_
 refine J7 ?_
 refine sP (B2 (j := 0) rfl rfl rfl (by simp)) rfl rfl ?_
 refine sL (A3 rfl rfl (hat0 _) rfl) rfl rfl ?_
 refine I7 ?_
 refine B7 ?_
 refine tS (tR ?_)
 refine sP (H0 rfl rfl (by omega)) rfl rfl ?_
 refine sQ (qA rfl) rfl (sD (nS (cF rfl (tS (tS (tR ?_))))))
 refine sP (H0 rfl rfl (by omega)) rfl rfl ?_
 refine sQ (qA rfl) rfl (sD (nS (cF rfl (tR ?_))))
 refine sP (H0 rfl rfl (by omega)) rfl rfl ?_
 refine sQ (qA rfl) rfl (sD (nS (cF rfl (tS (tR ?_)))))
 refine sP (H0 rfl rfl (by omega)) rfl rfl ?_
 refine sQ (qA rfl) rfl (sD (nS (cF rfl (tS (tS (tR ?_))))))
 refine sB (qE rfl rfl) rfl rfl (fun h72 => ?_) (fun h72 => ?_)
 refine J2 ?_
 refine sB (qE rfl rfl) rfl rfl (fun h84 => ?_) (fun h84 => ?_)
 refine sD (nS (qT rfl (tS ?_)))
 (have hq : ak = 10 := (by omega); have hq1 := h2 hq; obtain ⟨bq, oq, e3, rfl, hl3, hat3, hre3, hgb3⟩ := hasl.kidTm hakl (i := i) (by omega) (by omega); have ho3 := hre3.one)
 refine Q3 ?_
 refine sP (P0 rfl rfl (by omega) (by omega)) rfl rfl ?_
 (rw [show (k - 11 : Int) = ((i : Nat) : Int) from (by omega)]; refine sP (B2 (j := i) rfl rfl rfl (by omega)) rfl rfl ?_)
 refine sL (A3 rfl rfl (hat3 _) hl3) rfl rfl ?_
 refine sS rfl rfl rfl hl3 ho3 rfl ?_ (hu := by exact C3 hl3.symm)
 refine sQ (qA rfl) rfl (sD (nS (tT (rB (rS ?_)))))
 refine I4 (rC rfl (A3 rfl rfl (A9 (by repeat first | exact mH | apply mT)) hl3)) (rT rfl) ?_
 (exact R3.yes (by rw [if_pos (by omega)]; unfold kd; rw [List.getD_eq_getElem?_getD, List.getElem?_eq_getElem (by omega), Option.getD_some]) hre3)
 refine L5 ?_
 refine I4 (rC rfl (A1 rfl rfl)) (rT rfl) ?_
 (exact R3.no (by rw [if_neg (by omega)]) (L0 _))
 refine sQ (qA rfl) rfl (sD (nS (cF rfl (tR ?_))))
 refine sP (W2 rfl rfl (by omega)) rfl rfl ?_
 refine D8 ?_
 refine sB (qE rfl rfl) rfl rfl (fun h137 => ?_) (fun h137 => ?_)
 refine sD (nS (qT rfl (tS ?_)))
 (have hq : ak = 10 := (by omega); have hq1 := h2 hq; obtain ⟨bq, oq, e3, rfl, hl3, hat3, hre3, hgb3⟩ := hasl.kidTm hakl (i := i) (by omega) (by omega); have ho3 := hre3.one)
 refine Q3 ?_
 refine sP (P0 rfl rfl (by omega) (by omega)) rfl rfl ?_
 (rw [show (k - 11 : Int) = ((i : Nat) : Int) from (by omega)]; refine sP (B2 (j := i) rfl rfl rfl (by omega)) rfl rfl ?_)
 refine sL (A3 rfl rfl (hat3 _) hl3) rfl rfl ?_
 refine sS rfl rfl rfl hl3 ho3 rfl ?_ (hu := by exact C3 hl3.symm)
 refine sQ (qA rfl) rfl (sD (nS (tT (rB (rS ?_)))))
 refine I4 (rC rfl (A3 rfl rfl (A9 (by repeat first | exact mH | apply mT)) hl3)) (rT rfl) ?_
 (exact R3.yes (by rw [if_pos (by omega)]; unfold kd; rw [List.getD_eq_getElem?_getD, List.getElem?_eq_getElem (by omega), Option.getD_some]) hre3)
 refine L5 ?_
 refine I4 (rC rfl (A1 rfl rfl)) (rT rfl) ?_
 (exact R3.no (by rw [if_neg (by omega)]) (L0 _))
section
variable {P : Program} {Γ : K6} {K : Po} {ops : Array Oper} {env : L6} {hp : List A4} {G : IM}
theorem A4Q {H : List (Nat × Nat)} {fuel j : Nat} {listed : List Bool} {hp' : List A4} {p : Option Addr} {c el sz n : Nat} {cs : List Value} (hk : Pk hp (.slc p c el sz n cs) hp')
  (h : ∀ G', B6 G G' → Sl G' p n c sz cs → (∀ b ∈ J1 p, G b = none ∧ G' b ≠ none) → U4 P Γ ops K H fuel listed j ⟨env, hp', G'⟩) : U4 P Γ ops K H fuel listed j ⟨env, hp, G⟩ :=
 ⟨fun a w hs => let ⟨G', h1, h2, h3, h4⟩ := hs.freeze hk; (h G' h2 h3 h4).run a w h1⟩
end
theorem B5.kids {G : IM} {t : Ty} {a : Value} {p : Option Addr} {n c : Nat} (h : B5 G t [a, .slice p n c]) : ∃ es, C9 G p t.ks.length c 2 es ∧ E6 G t.ks es := by
 obtain ⟨p', c', es, he, _, h1, h2⟩ := h.open
 simp only [List.cons.injEq, Value.slice.injEq, and_true] at he
 obtain ⟨_, rfl, _, rfl⟩ := he
 exact ⟨es, h1, h2⟩
def Y2 (k : Int) (ty fr : Ty) (lb : Int) (ks : List Tm) : Z0 :=
 if k = 6 then
  (if W5 (kd ks 0) = true ∧ (kd ks 0).ty.k = 4 then (N1 (A0k 6 [kd (kd ks 0).ks 0, N1 (kd ks 1) (kt (kd ks 0).ty.ks 0) (kt (kd ks 0).fr.ks 0) (-(kd ks 0).lb)]) (kt (kd ks 0).fr.ks 1) (kt (kd ks 0).ty.ks 1) (kd ks 0).lb, 1, 0) else S9)
 else if k = 11 ∨ k = 12 then
  (if W5 (kd ks 0) = true ∧ (kd ks 0).ty.k = 5 then (N1 (A0k k [kd (kd ks 0).ks 0]) (kt (kd ks 0).fr.ks (k - 11).toNat) (kt (kd ks 0).ty.ks (k - 11).toNat) (kd ks 0).lb, 1, 0) else S9)
 else if k = 14 then
  (if fr.k = ty.k then (kd ks 0, 1, 0)
   else if ty.k = 1 then (N1 (N1 (kd ks 0) fr (Y0 fr) lb) (Y0 fr) ty lb, 1, 0)
   else if U2 ty = false then (N1 (N1 (kd ks 0) fr (Y0 ty) lb) (Y0 ty) ty lb, 1, 0)
   else if inj (kd ks 0) = false then S9
   else if (kd ks 0).fr.k = ty.k then (kd (kd ks 0).ks 0, 1, 0)
   else (D7, 2, lb))
 else S9
theorem B3f (k : Int) (ty fr : Ty) (lb : Int) (ks : List Tm) : T0 k ty fr lb ks = match O8 k ks with | some u => (u, 1, 0) | none => Y2 k ty fr lb ks := by
 unfold T0 O8 Y2
 by_cases h6 : k = 6
 ·rw [if_pos h6, if_pos h6, if_pos h6]
  by_cases h : (kd ks 0).k = 5
  ·rw [if_pos h, if_pos h]
  ·rw [if_neg h, if_neg h]
 rw [if_neg h6, if_neg h6, if_neg h6]
 by_cases h7 : k = 7 ∨ k = 8
 ·rw [if_pos h7, if_pos h7]
  by_cases h : (kd ks 0).k = 2 ∧ (kd ks 1).k = 2
  ·rw [if_pos h, if_pos h]
  ·rw [if_neg h, if_neg h]; simp only; rw [if_neg (by omega), if_neg (by omega)]
 rw [if_neg h7, if_neg h7]
 by_cases h9 : k = 9
 ·rw [if_pos h9, if_pos h9]
  by_cases h : (kd ks 0).k = 3
  ·rw [if_pos h, if_pos h]
  ·rw [if_neg h, if_neg h]
   by_cases h' : (kd ks 0).k = 4
   ·rw [if_pos h', if_pos h']
   ·rw [if_neg h', if_neg h']; simp only; rw [if_neg (by omega), if_neg (by omega)]
 rw [if_neg h9, if_neg h9]
 by_cases h11 : k = 11 ∨ k = 12
 ·rw [if_pos h11, if_pos h11, if_pos h11]
  by_cases h : (kd ks 0).k = 10
  ·rw [if_pos h, if_pos h]
  ·rw [if_neg h, if_neg h]
 rw [if_neg h11, if_neg h11, if_neg h11]
def Q8 (r : Z0) : IM → Value → List A4 → Prop := K5 fun G' v => ∃ u cells, v = .tuple ⟨[.agg ⟨cells⟩, .int .i64 r.2.1, .int .i64 r.2.2]⟩ ∧ A6 G' u cells ∧ (r.2.1 = 1 → u = r.1)
theorem Q8.mk {G : IM} {r : Z0} {u : Tm} {cells : List Value} {c l : Int} (h : r = (u, c, l)) (hr : A6 G u cells) : Q8 r G (.tuple ⟨[.agg ⟨cells⟩, .int .i64 c, .int .i64 l]⟩) [] := by
 subst h; exact ⟨rfl, u, cells, rfl, hr, fun _ => rfl⟩
theorem A2s {ks : List Tm} {i : Nat} (h : i < ks.length) : kd ks i = ks[i] := by unfold kd; rw [List.getD_eq_getElem?_getD, List.getElem?_eq_getElem h, Option.getD_some]
theorem A0L {ks : List Ty} {i : Nat} (h : i < ks.length) : kt ks i = ks[i] := by unfold kt; rw [List.getD_eq_getElem?_getD, List.getElem?_eq_getElem h, Option.getD_some]
theorem A8R {t : Ty} (h : U2 t = true) : t = Y0 t := by
 unfold U2 at h
 rw [Bool.and_eq_true] at h
 exact (A1d _ _).1 h.2
theorem B3g (a b : Tm) (nm : ByteArray) (num : Int) (ty fr : Ty) (lb : Int) (G : IM) (cells : List Value) (hca : cv a) (hr : A6 G (.mk 6 nm num ty fr lb [a, b]) cells) : Fn Tryz.prog 192 [.agg ⟨cells⟩] [] G (Q8 (Y2 6 ty fr lb [a, b])) := by
 obtain ⟨ak, anm, anum, ⟨atk, atks⟩, ⟨afk, afks⟩, alb, aks⟩ := a
 obtain ⟨hN, hkk⟩ := hca.node
 have hops := hN.ops
 have hbl := hN.lbB
 have htyA := hN.tyA
 have hfrA := hN.frA
 rw [E4] at htyA hfrA
 have h14 : ak = 14 → aks.length = 1 := fun h => by rw [h] at hops; have : C5 14 = 1 := rfl; omega
 obtain ⟨tk, tks⟩ := ty
 obtain ⟨fk, fks⟩ := fr
 obtain ⟨pt, ct, pf, cf, p, c, es, rfl, hk, hnum, hlb, hty, hfr, hsl, hkl⟩ := hr.open9
 obtain ⟨bx, ox, e0, rfl, hl0, hat0, hre0, hgb0⟩ := hsl.kidTm hkl (i := 0) (by simp) (by simp)
 replace hre0 : A6 G (Tm.mk ak anm anum (.mk atk atks) (.mk afk afks) alb aks) e0 := hre0
 have hP : Fn Tryz.prog 170 [.agg ⟨e0⟩] [] G (H6 (.bool (decide (ak = 14 ∧ afk = atk ∧ (atk = 4 ∨ atk = 5)))) G) := A2U _ G _ hre0
 obtain ⟨apt, act, apf, acf, ap, ac, aes, rfl, hak, hanum, halb, haty, hafr, hasl, hakl⟩ := hre0.open9
 obtain ⟨tes, htS, htL⟩ := haty.kids
 obtain ⟨fes, hfS, hfL⟩ := hafr.kids
 simp only [Ty.ks] at htS htL hfS hfL
 obtain ⟨_, _, e1, hp1, hl1, hat1, hre1, hgb1⟩ := hsl.kidTm hkl (i := 1) (by simp) (by simp)
 cases hp1
 replace hre1 : A6 G b e1 := hre1
 have ho1 := hre1.one
 have hR : Y2 6 (.mk tk tks) (.mk fk fks) lb [Tm.mk ak anm anum (.mk atk atks) (.mk afk afks) alb aks, b] = (if (ak = 14 ∧ afk = atk ∧ (atk = 4 ∨ atk = 5)) ∧ atk = 4 then (N1 (A0k 6 [kd aks 0, N1 b (kt atks 0) (kt afks 0) (-alb)]) (kt afks 1) (kt atks 1) alb, 1, 0) else S9) := by
  unfold Y2
  rw [if_pos rfl, show kd [Tm.mk ak anm anum (.mk atk atks) (.mk afk afks) alb aks, b] 0 = Tm.mk ak anm anum (.mk atk atks) (.mk afk afks) alb aks from rfl, A2V]
  simp only [decide_eq_true_eq]
  rfl
 rw [hR]
 refine B3 Tryz.func192 rfl Tryz.ntmps192 Tryz.results192 rfl ?_
 intro w0
 refine tS (tR ?_)
 refine sE (C0 rfl rfl) rfl (fun b3 => ?_)
 refine sE (A7 rfl) rfl (fun b4 => ?_)
 refine D8 ?_
 refine sP (B2 (j := 0) rfl rfl rfl (by simp)) rfl rfl ?_
 refine sL (A3 rfl rfl (hat0 _) rfl) rfl rfl ?_
 refine sE (A7 rfl) rfl (fun b15 => ?_)
 refine F4 ?_
 refine sD (nS (tS ?_))
 refine B7 ?_
 refine tS (tR (sQ (B0 rfl) rfl (sL (B9 rfl rfl) rfl rfl ?_)))
 refine sP (W2 rfl rfl (by omega)) rfl rfl ?_
 refine sQ (qM rfl) rfl (sL (A1 rfl rfl) rfl rfl ?_)
 focus (by_cases hpx : (ak = 14 ∧ afk = atk ∧ (atk = 4 ∨ atk = 5)); rw [decide_eq_true hpx] at hP; rotate_left; rw [decide_eq_false hpx] at hP; rotate_left; all_goals (refine I5 rfl hP rfl rfl ?_))
 refine Q3 ?_
 refine sB (qE rfl rfl) rfl rfl (fun h34 => ?_) (fun h34 => ?_)
 refine J7 ?_
 (have hq : (ak = 14 ∧ afk = atk ∧ (atk = 4 ∨ atk = 5)) ∧ atk = 4 := ⟨hpx, by omega⟩; have hq1 := h14 hq.1.1; have hq2 := htyA.1 (by omega); have hq3 := hfrA.1 (by omega); obtain ⟨bq, oq, e3, rfl, hl3, hat3, hre3, hgb3⟩ := hasl.kidTm hakl (i := 0) (by omega) (by omega); have ho3 := hre3.one; obtain ⟨b5, o5, q5, d5, rfl, hat5, hre5, hgb5⟩ := htS.kidTy htL (i := 0) (by omega) (by omega); obtain ⟨_, _, q6, d6, hp6, hat6, hre6, hgb6⟩ := htS.kidTy htL (i := 1) (by omega) (by omega); cases hp6; obtain ⟨b7, o7, q7, d7, rfl, hat7, hre7, hgb7⟩ := hfS.kidTy hfL (i := 0) (by omega) (by omega); obtain ⟨_, _, q8, d8, hp8, hat8, hre8, hgb8⟩ := hfS.kidTy hfL (i := 1) (by omega) (by omega); cases hp8; obtain ⟨x1, x2, x3, x4, x5, x6, x7, x8, x9, rfl⟩ := nine hl3; obtain ⟨y1, y2, y3, y4, y5, y6, y7, y8, y9, rfl⟩ := nine hl1; refine D5 D6 rfl ?_)
 refine I3 (i := 0) (l' := [tt,ff,ff,ff,ff,ff,ff,ff,ff,ff,ff,ff]) rfl D1 (B0 rfl) rfl (by kernel_rfl) rfl rfl ?_
 refine aL 1 rfl (B9 rfl rfl) rfl ?_
 refine aP 2 rfl (B2 (j := 0) rfl rfl rfl (by omega)) rfl ?_
 refine aL 3 rfl (A3 rfl rfl (hat3 _) rfl) rfl ?_
 refine aP 4 rfl (B0 rfl) rfl ?_
 refine aL 5 rfl (B9 rfl rfl) rfl ?_
 refine aP 6 rfl (B2 (j := 1) rfl rfl rfl (by simp)) rfl ?_
 refine aL 7 rfl (A3 rfl rfl (hat1 _) rfl) rfl ?_
 refine T2 (j := 8) (j' := 9) (by kernel_rfl) ?_ ?_
 (refine E1 rfl (A7 rfl) rfl rfl ?_; rintro _ ⟨b51, rfl⟩)
 refine A2 9 ?_
 (refine E1 rfl (A7 rfl) rfl rfl ?_; rintro _ ⟨b53, rfl⟩)
 refine A2 10 ?_
 (refine oS rfl rfl rfl rfl rfl ho3 rfl rfl ?_ (hu := by exact C3 rfl.symm))
 refine A2 11 ?_
 (refine oS rfl rfl rfl rfl rfl ho1 rfl rfl ?_ (hu := by exact C3 rfl.symm))
 refine C2 (nS (tS ?_))
 refine D5 D6 rfl ?_
 refine O9 (i := 0) (l' := [tt,ff,ff,ff,ff,ff,ff,ff,ff,ff,ff,ff,ff,ff,ff,ff,ff,ff,ff,ff,ff,ff,ff,ff,ff,ff,ff,ff,ff,ff,ff,ff,ff,ff]) rfl D1 (A3 rfl rfl (A9 (by repeat first | exact mH | apply mT)) rfl) rfl (by kernel_rfl) rfl rfl ?_
 refine aL 1 rfl (A3 rfl rfl (A9 (by repeat first | exact mH | apply mT)) rfl) rfl ?_
 refine aP 2 rfl (B0 rfl) rfl ?_
 refine aP 3 rfl (qF rfl) rfl ?_
 refine aL 4 rfl (B9 rfl rfl) rfl ?_
 refine aP 5 rfl (B2 (j := 0) rfl rfl rfl (by omega)) rfl ?_
 refine aL 6 rfl (A3 rfl rfl (hat5 _) rfl) rfl ?_
 refine aP 7 rfl (B0 rfl) rfl ?_
 refine aP 8 rfl (qF rfl) rfl ?_
 refine aL 9 rfl (B9 rfl rfl) rfl ?_
 refine aP 10 rfl (B2 (j := 0) rfl rfl rfl (by omega)) rfl ?_
 refine aL 11 rfl (A3 rfl rfl (hat7 _) rfl) rfl ?_
 refine aP 12 rfl (B0 rfl) rfl ?_
 refine aL 13 rfl (B9 rfl rfl) rfl ?_
 refine aP 14 rfl (A5c rfl (by omega) (by omega)) rfl ?_
 refine aP 18 rfl (B0 rfl) rfl ?_
 refine aP 19 rfl (qF rfl) rfl ?_
 refine aL 20 rfl (B9 rfl rfl) rfl ?_
 refine aP 21 rfl (B2 (j := 1) rfl rfl rfl (by omega)) rfl ?_
 refine aL 22 rfl (A3 rfl rfl (hat8 _) rfl) rfl ?_
 refine aP 23 rfl (B0 rfl) rfl ?_
 refine aP 24 rfl (qF rfl) rfl ?_
 refine aL 25 rfl (B9 rfl rfl) rfl ?_
 refine aP 26 rfl (B2 (j := 1) rfl rfl rfl (by omega)) rfl ?_
 refine aL 27 rfl (A3 rfl rfl (hat6 _) rfl) rfl ?_
 refine aP 28 rfl (B0 rfl) rfl ?_
 refine aL 29 rfl (B9 rfl rfl) rfl ?_
 refine A2 15 ?_
 (refine I9 rfl rfl (A1n b atks[0] afks[0] (-alb) G _ _ _ ⟨by omega, by omega⟩ hre1 hre5 hre7) rfl rfl rfl (fun u G1 hle1 hh => ?_); obtain ⟨uc, rfl, hru⟩ := hh; have hul := hru.len; have huo := hru.one; obtain ⟨z1, z2, z3, z4, z5, z6, z7, z8, z9, rfl⟩ := nine hul; replace hre3 := hre3.mono hle1; replace hre6 := hre6.mono hle1; replace hre8 := hre8.mono hle1)
 refine A2 16 ?_
 (refine E1 rfl (C8 rfl rfl rfl (by omega) (by unfold maxLen; omega) rfl) rfl rfl ?_; rintro _ ⟨b92, rfl⟩)
 refine A2 17 ?_
 (refine A4Q (cs := [x1, x2, x3, x4, x5, x6, x7, x8, x9, z1, z2, z3, z4, z5, z6, z7, z8, z9]) (by repeat (first | exact Pk.here | apply Pk.there)) (fun G2 hle2 hsl2 hno2 => ?_); have hrN := A3J (k := 6) (ks := [aks[0], N1 b atks[0] afks[0] (-alb)]) (es := [[x1, x2, x3, x4, x5, x6, x7, x8, x9], [z1, z2, z3, z4, z5, z6, z7, z8, z9]]) ⟨by decide, by decide⟩ rfl (C9.of hsl2 rfl (by simp) (by intro x hx; rcases List.mem_cons.1 hx with rfl | hx; exact ho3; obtain rfl := List.mem_singleton.1 hx; exact huo)) (by simp only [D2]; exact ⟨_, _, rfl, hre3.mono hle2, _, _, rfl, hru.mono hle2, rfl⟩); replace hre6 := hre6.mono hle2; replace hre8 := hre8.mono hle2; refine O5 rfl rfl (A2X _ _ _ _ _) rfl rfl rfl ?_)
 refine A2 30 ?_
 (refine I9 rfl rfl (A1n _ afks[1] atks[1] alb G2 _ _ _ ⟨by omega, by omega⟩ hrN hre8 hre6) rfl rfl rfl (fun u G3 hle3 hh => ?_); obtain ⟨wc, rfl, hrw⟩ := hh; have hwl := hrw.len; have hwo := hrw.one)
 refine A2 31 ?_
 (refine oS rfl rfl rfl rfl hwl hwo rfl rfl ?_ (hu := by exact C3 hwl.symm))
 refine aP 32 rfl (qA rfl) rfl ?_
 refine aP 33 rfl (qA rfl) rfl ?_
 refine C2 (nS (tT (rB (rS ?_))))
 refine C7 (rC rfl (A3 rfl rfl (A9 (by repeat first | exact mH | apply mT)) hwl)) (rT rfl) (rT rfl) ?_
 (exact Q8.mk (by rw [if_pos hq, A2s (by omega), A0L (by omega), A0L (by omega), A0L (by omega), A0L (by omega)]) hrw)
 (refine E1 rfl (A7 rfl) rfl rfl ?_; rintro _ ⟨b108, rfl⟩)
 refine A2 8 ?_
 (refine E1 rfl (A7 rfl) rfl rfl ?_; rintro _ ⟨b110, rfl⟩)
 refine A2 10 ?_
 (refine oS rfl rfl rfl rfl rfl ho3 rfl rfl ?_ (hu := by exact C3 rfl.symm))
 refine A2 11 ?_
 (refine oS rfl rfl rfl rfl rfl ho1 rfl rfl ?_ (hu := by exact C3 rfl.symm))
 refine C2 (nS (tS ?_))
 refine D5 D6 rfl ?_
 refine O9 (i := 0) (l' := [tt,ff,ff,ff,ff,ff,ff,ff,ff,ff,ff,ff,ff,ff,ff,ff,ff,ff,ff,ff,ff,ff,ff,ff,ff,ff,ff,ff,ff,ff,ff,ff,ff,ff]) rfl D1 (A3 rfl rfl (A9 (by repeat first | exact mH | apply mT)) rfl) rfl (by kernel_rfl) rfl rfl ?_
 refine aL 1 rfl (A3 rfl rfl (A9 (by repeat first | exact mH | apply mT)) rfl) rfl ?_
 refine aP 2 rfl (B0 rfl) rfl ?_
 refine aP 3 rfl (qF rfl) rfl ?_
 refine aL 4 rfl (B9 rfl rfl) rfl ?_
 refine aP 5 rfl (B2 (j := 0) rfl rfl rfl (by omega)) rfl ?_
 refine aL 6 rfl (A3 rfl rfl (hat5 _) rfl) rfl ?_
 refine aP 7 rfl (B0 rfl) rfl ?_
 refine aP 8 rfl (qF rfl) rfl ?_
 refine aL 9 rfl (B9 rfl rfl) rfl ?_
 refine aP 10 rfl (B2 (j := 0) rfl rfl rfl (by omega)) rfl ?_
 refine aL 11 rfl (A3 rfl rfl (hat7 _) rfl) rfl ?_
 refine aP 12 rfl (B0 rfl) rfl ?_
 refine aL 13 rfl (B9 rfl rfl) rfl ?_
 refine aP 14 rfl (A5c rfl (by omega) (by omega)) rfl ?_
 refine aP 18 rfl (B0 rfl) rfl ?_
 refine aP 19 rfl (qF rfl) rfl ?_
 refine aL 20 rfl (B9 rfl rfl) rfl ?_
 refine aP 21 rfl (B2 (j := 1) rfl rfl rfl (by omega)) rfl ?_
 refine aL 22 rfl (A3 rfl rfl (hat8 _) rfl) rfl ?_
 refine aP 23 rfl (B0 rfl) rfl ?_
 refine aP 24 rfl (qF rfl) rfl ?_
 refine aL 25 rfl (B9 rfl rfl) rfl ?_
 refine aP 26 rfl (B2 (j := 1) rfl rfl rfl (by omega)) rfl ?_
 refine aL 27 rfl (A3 rfl rfl (hat6 _) rfl) rfl ?_
 refine aP 28 rfl (B0 rfl) rfl ?_
 refine aL 29 rfl (B9 rfl rfl) rfl ?_
 refine A2 15 ?_
 (refine I9 rfl rfl (A1n b atks[0] afks[0] (-alb) G _ _ _ ⟨by omega, by omega⟩ hre1 hre5 hre7) rfl rfl rfl (fun u G1 hle1 hh => ?_); obtain ⟨uc, rfl, hru⟩ := hh; have hul := hru.len; have huo := hru.one; obtain ⟨z1, z2, z3, z4, z5, z6, z7, z8, z9, rfl⟩ := nine hul; replace hre3 := hre3.mono hle1; replace hre6 := hre6.mono hle1; replace hre8 := hre8.mono hle1)
 refine A2 16 ?_
 (refine E1 rfl (C8 rfl rfl rfl (by omega) (by unfold maxLen; omega) rfl) rfl rfl ?_; rintro _ ⟨b149, rfl⟩)
 refine A2 17 ?_
 (refine A4Q (cs := [x1, x2, x3, x4, x5, x6, x7, x8, x9, z1, z2, z3, z4, z5, z6, z7, z8, z9]) (by repeat (first | exact Pk.here | apply Pk.there)) (fun G2 hle2 hsl2 hno2 => ?_); have hrN := A3J (k := 6) (ks := [aks[0], N1 b atks[0] afks[0] (-alb)]) (es := [[x1, x2, x3, x4, x5, x6, x7, x8, x9], [z1, z2, z3, z4, z5, z6, z7, z8, z9]]) ⟨by decide, by decide⟩ rfl (C9.of hsl2 rfl (by simp) (by intro x hx; rcases List.mem_cons.1 hx with rfl | hx; exact ho3; obtain rfl := List.mem_singleton.1 hx; exact huo)) (by simp only [D2]; exact ⟨_, _, rfl, hre3.mono hle2, _, _, rfl, hru.mono hle2, rfl⟩); replace hre6 := hre6.mono hle2; replace hre8 := hre8.mono hle2; refine O5 rfl rfl (A2X _ _ _ _ _) rfl rfl rfl ?_)
 refine A2 30 ?_
 (refine I9 rfl rfl (A1n _ afks[1] atks[1] alb G2 _ _ _ ⟨by omega, by omega⟩ hrN hre8 hre6) rfl rfl rfl (fun u G3 hle3 hh => ?_); obtain ⟨wc, rfl, hrw⟩ := hh; have hwl := hrw.len; have hwo := hrw.one)
 refine A2 31 ?_
 (refine oS rfl rfl rfl rfl hwl hwo rfl rfl ?_ (hu := by exact C3 hwl.symm))
 refine aP 32 rfl (qA rfl) rfl ?_
 refine aP 33 rfl (qA rfl) rfl ?_
 refine C2 (nS (tT (rB (rS ?_))))
 refine C7 (rC rfl (A3 rfl rfl (A9 (by repeat first | exact mH | apply mT)) hwl)) (rT rfl) (rT rfl) ?_
 (exact Q8.mk (by rw [if_pos hq, A2s (by omega), A0L (by omega), A0L (by omega), A0L (by omega), A0L (by omega)]) hrw)
 refine D9 ?_
 refine sP (H0 rfl rfl (by omega)) rfl rfl ?_
 refine L9 ?_
 refine sP (H0 rfl rfl (by omega)) rfl rfl ?_
 refine A0o ?_
 refine sP (A0i rfl rfl (by omega)) rfl rfl ?_
 refine I0 ?_
 refine C7 (rC rfl (A1 rfl rfl)) (rT rfl) (rT rfl) ?_
 (exact Q8.mk (by rw [if_neg (by omega)]; rfl) (L0 _))
 refine I0 ?_
 refine sP (H0 rfl rfl (by omega)) rfl rfl ?_
 refine L9 ?_
 refine sP (H0 rfl rfl (by omega)) rfl rfl ?_
 refine A0o ?_
 refine sP (A0i rfl rfl (by omega)) rfl rfl ?_
 refine I0 ?_
 refine C7 (rC rfl (A1 rfl rfl)) (rT rfl) (rT rfl) ?_
 (exact Q8.mk (by rw [if_neg (by omega)]; rfl) (L0 _))
theorem A8S (k : Int) (a : Tm) (nm : ByteArray) (num : Int) (ty fr : Ty) (lb : Int) (G : IM) (cells : List Value) (hk1 : k = 11 ∨ k = 12) (hca : cv a) (hr : A6 G (.mk k nm num ty fr lb [a]) cells) : Fn Tryz.prog 192 [.agg ⟨cells⟩] [] G (Q8 (Y2 k ty fr lb [a])) := by
 obtain ⟨ak, anm, anum, ⟨atk, atks⟩, ⟨afk, afks⟩, alb, aks⟩ := a
 obtain ⟨hN, hkk⟩ := hca.node
 have hops := hN.ops
 have hbl := hN.lbB
 have htyA := hN.tyA
 have hfrA := hN.frA
 rw [E4] at htyA hfrA
 have h14 : ak = 14 → aks.length = 1 := fun h => by rw [h] at hops; have : C5 14 = 1 := rfl; omega
 obtain ⟨tk, tks⟩ := ty
 obtain ⟨fk, fks⟩ := fr
 obtain ⟨pt, ct, pf, cf, p, c, es, rfl, hk, hnum, hlb, hty, hfr, hsl, hkl⟩ := hr.open9
 obtain ⟨bx, ox, e0, rfl, hl0, hat0, hre0, hgb0⟩ := hsl.kidTm hkl (i := 0) (by simp) (by simp)
 replace hre0 : A6 G (Tm.mk ak anm anum (.mk atk atks) (.mk afk afks) alb aks) e0 := hre0
 have hP : Fn Tryz.prog 170 [.agg ⟨e0⟩] [] G (H6 (.bool (decide (ak = 14 ∧ afk = atk ∧ (atk = 4 ∨ atk = 5)))) G) := A2U _ G _ hre0
 have hI := A3K _ G _ hre0
 have ho0 := hre0.one
 obtain ⟨apt, act, apf, acf, ap, ac, aes, rfl, hak, hanum, halb, haty, hafr, hasl, hakl⟩ := hre0.open9
 have hfk64 : E3 fk := by obtain ⟨_, _, _, _, h, _⟩ := hfr.open; exact h
 have htk64 : E3 tk := by obtain ⟨_, _, _, _, h, _⟩ := hty.open; exact h
 obtain ⟨tes, htS, htL⟩ := haty.kids
 obtain ⟨fes, hfS, hfL⟩ := hafr.kids
 simp only [Ty.ks] at htS htL hfS hfL
 obtain ⟨i, hi⟩ : ∃ i : Nat, (k - 11).toNat = i := ⟨_, rfl⟩
 have hR : Y2 k (.mk tk tks) (.mk fk fks) lb [Tm.mk ak anm anum (.mk atk atks) (.mk afk afks) alb aks] = (if (ak = 14 ∧ afk = atk ∧ (atk = 4 ∨ atk = 5)) ∧ atk = 5 then (N1 (A0k k [kd aks 0]) (kt afks i) (kt atks i) alb, 1, 0) else S9) := by
  unfold Y2
  rw [if_neg (by omega), if_pos hk1, hi, show kd [Tm.mk ak anm anum (.mk atk atks) (.mk afk afks) alb aks] 0 = Tm.mk ak anm anum (.mk atk atks) (.mk afk afks) alb aks from rfl, A2V]
  simp only [decide_eq_true_eq]
  rfl
 rw [hR]
 refine B3 Tryz.func192 rfl Tryz.ntmps192 Tryz.results192 rfl ?_
 intro w0
 refine tS (tR ?_)
 refine sE (C0 rfl rfl) rfl (fun b3 => ?_)
 refine sE (A7 rfl) rfl (fun b4 => ?_)
 refine D8 ?_
 refine sP (B2 (j := 0) rfl rfl rfl (by simp)) rfl rfl ?_
 refine sL (A3 rfl rfl (hat0 _) rfl) rfl rfl ?_
 refine sE (A7 rfl) rfl (fun b15 => ?_)
 refine F4 ?_
 refine sD (nS (tS ?_))
 refine B7 ?_
 refine tS (tR (sQ (B0 rfl) rfl (sL (B9 rfl rfl) rfl rfl ?_)))
 refine sP (H0 rfl rfl (by omega)) rfl rfl ?_
 refine U6 ?_
 refine sB (qE rfl rfl) rfl rfl (fun h44 => ?_) (fun h44 => ?_)
 refine C4 ?_
 focus (by_cases hpx : (ak = 14 ∧ afk = atk ∧ (atk = 4 ∨ atk = 5)); rw [decide_eq_true hpx] at hP; rotate_left; rw [decide_eq_false hpx] at hP; rotate_left; all_goals (refine I5 rfl hP rfl rfl ?_))
 refine Q3 ?_
 refine sB (qE rfl rfl) rfl rfl (fun h58 => ?_) (fun h58 => ?_)
 refine D9 ?_
 refine sP (P0 rfl rfl (by omega) (by omega)) rfl rfl ?_
 refine sQ (qA rfl) rfl (sD (nS (tS ?_)))
 (have hq : (ak = 14 ∧ afk = atk ∧ (atk = 4 ∨ atk = 5)) ∧ atk = 5 := ⟨hpx, by omega⟩; have hq1 := h14 hq.1.1; have hq2 := htyA.1 (by omega); have hq3 := hfrA.1 (by omega); rw [show (k - 11 : Int) = ((i : Nat) : Int) from (by omega)]; obtain ⟨bq, oq, e3, rfl, hl3, hat3, hre3, hgb3⟩ := hasl.kidTm hakl (i := 0) (by omega) (by omega); have ho3 := hre3.one; obtain ⟨b5, o5, q5, d5, rfl, hat5, hre5, hgb5⟩ := htS.kidTy htL (i := i) (by omega) (by omega); obtain ⟨b7, o7, q7, d7, rfl, hat7, hre7, hgb7⟩ := hfS.kidTy hfL (i := i) (by omega) (by omega); obtain ⟨x1, x2, x3, x4, x5, x6, x7, x8, x9, rfl⟩ := nine hl3; refine D5 D6 rfl ?_)
 refine I3 (i := 0) (l' := [tt,ff,ff,ff,ff,ff,ff,ff,ff,ff,ff,ff,ff,ff,ff,ff,ff,ff,ff,ff,ff,ff,ff,ff,ff,ff]) rfl D1 (B0 rfl) rfl (by kernel_rfl) rfl rfl ?_
 refine aL 1 rfl (B9 rfl rfl) rfl ?_
 refine aP 2 rfl (B0 rfl) rfl ?_
 refine aL 3 rfl (B9 rfl rfl) rfl ?_
 refine aP 4 rfl (B2 (j := 0) rfl rfl rfl (by omega)) rfl ?_
 refine aL 5 rfl (A3 rfl rfl (hat3 _) rfl) rfl ?_
 refine aP 8 rfl (B0 rfl) rfl ?_
 refine aP 9 rfl (qF rfl) rfl ?_
 refine aL 10 rfl (B9 rfl rfl) rfl ?_
 refine aP 11 rfl (qM rfl) rfl ?_
 refine aP 12 rfl (B2 (j := i) rfl rfl rfl (by omega)) rfl ?_
 refine aL 13 rfl (A3 rfl rfl (hat7 _) rfl) rfl ?_
 refine aP 14 rfl (B0 rfl) rfl ?_
 refine aP 15 rfl (qF rfl) rfl ?_
 refine aL 16 rfl (B9 rfl rfl) rfl ?_
 refine aP 17 rfl (qM rfl) rfl ?_
 refine aP 18 rfl (B2 (j := i) rfl rfl rfl (by omega)) rfl ?_
 refine aL 19 rfl (A3 rfl rfl (hat5 _) rfl) rfl ?_
 refine aP 20 rfl (B0 rfl) rfl ?_
 refine aL 21 rfl (B9 rfl rfl) rfl ?_
 refine A2 6 ?_
 (refine E1 rfl (C8 rfl rfl rfl (by omega) (by unfold maxLen; omega) rfl) rfl rfl ?_; rintro _ ⟨b95, rfl⟩)
 refine A2 7 ?_
 (refine A4Q (cs := [x1, x2, x3, x4, x5, x6, x7, x8, x9]) (by repeat (first | exact Pk.here | apply Pk.there)) (fun G2 hle2 hsl2 hno2 => ?_); have hrN := A3J (k := k) (ks := [aks[0]]) (es := [[x1, x2, x3, x4, x5, x6, x7, x8, x9]]) hk rfl (C9.of hsl2 rfl (by simp) (by intro x hx; obtain rfl := List.mem_singleton.1 hx; exact ho3)) (by simp only [D2]; exact ⟨_, _, rfl, hre3.mono hle2, rfl⟩); replace hre5 := hre5.mono hle2; replace hre7 := hre7.mono hle2; refine O5 rfl rfl (A2X _ _ _ _ _) rfl rfl rfl ?_)
 refine A2 22 ?_
 (refine I9 rfl rfl (A1n _ afks[i] atks[i] alb G2 _ _ _ ⟨by omega, by omega⟩ hrN hre7 hre5) rfl rfl rfl (fun u G3 hle3 hh => ?_); obtain ⟨wc, rfl, hrw⟩ := hh; have hwl := hrw.len; have hwo := hrw.one)
 refine A2 23 ?_
 (refine oS rfl rfl rfl rfl hwl hwo rfl rfl ?_ (hu := by exact C3 hwl.symm))
 refine aP 24 rfl (qA rfl) rfl ?_
 refine aP 25 rfl (qA rfl) rfl ?_
 refine C2 (nS (tT (rB (rS ?_))))
 refine C7 (rC rfl (A3 rfl rfl (A9 (by repeat first | exact mH | apply mT)) hwl)) (rT rfl) (rT rfl) ?_
 (exact Q8.mk (by rw [if_pos hq, A2s (by omega), A0L (by omega), A0L (by omega)]) hrw)
 refine D9 ?_
 refine sP (A0i rfl rfl (by omega)) rfl rfl ?_
 refine I0 ?_
 refine C7 (rC rfl (A1 rfl rfl)) (rT rfl) (rT rfl) ?_
 (exact Q8.mk (by rw [if_neg (by omega)]; rfl) (L0 _))
 refine I0 ?_
 refine sP (A0i rfl rfl (by omega)) rfl rfl ?_
 refine I0 ?_
 refine C7 (rC rfl (A1 rfl rfl)) (rT rfl) (rT rfl) ?_
 (exact Q8.mk (by rw [if_neg (by omega)]; rfl) (L0 _))
 refine L9 ?_
 refine sP (W2 rfl rfl (by omega)) rfl rfl ?_
 refine L9 ?_
 focus (by_cases hpx : (ak = 14 ∧ afk = atk ∧ (atk = 4 ∨ atk = 5)); rw [decide_eq_true hpx] at hP; rotate_left; rw [decide_eq_false hpx] at hP; rotate_left; all_goals (refine I5 rfl hP rfl rfl ?_))
 refine Q3 ?_
 refine sB (qE rfl rfl) rfl rfl (fun h184 => ?_) (fun h184 => ?_)
 refine D9 ?_
 refine sP (P0 rfl rfl (by omega) (by omega)) rfl rfl ?_
 refine sQ (qA rfl) rfl (sD (nS (tS ?_)))
 (have hq : (ak = 14 ∧ afk = atk ∧ (atk = 4 ∨ atk = 5)) ∧ atk = 5 := ⟨hpx, by omega⟩; have hq1 := h14 hq.1.1; have hq2 := htyA.1 (by omega); have hq3 := hfrA.1 (by omega); rw [show (k - 11 : Int) = ((i : Nat) : Int) from (by omega)]; obtain ⟨bq, oq, e3, rfl, hl3, hat3, hre3, hgb3⟩ := hasl.kidTm hakl (i := 0) (by omega) (by omega); have ho3 := hre3.one; obtain ⟨b5, o5, q5, d5, rfl, hat5, hre5, hgb5⟩ := htS.kidTy htL (i := i) (by omega) (by omega); obtain ⟨b7, o7, q7, d7, rfl, hat7, hre7, hgb7⟩ := hfS.kidTy hfL (i := i) (by omega) (by omega); obtain ⟨x1, x2, x3, x4, x5, x6, x7, x8, x9, rfl⟩ := nine hl3; refine D5 D6 rfl ?_)
 refine I3 (i := 0) (l' := [tt,ff,ff,ff,ff,ff,ff,ff,ff,ff,ff,ff,ff,ff,ff,ff,ff,ff,ff,ff,ff,ff,ff,ff,ff,ff]) rfl D1 (B0 rfl) rfl (by kernel_rfl) rfl rfl ?_
 refine aL 1 rfl (B9 rfl rfl) rfl ?_
 refine aP 2 rfl (B0 rfl) rfl ?_
 refine aL 3 rfl (B9 rfl rfl) rfl ?_
 refine aP 4 rfl (B2 (j := 0) rfl rfl rfl (by omega)) rfl ?_
 refine aL 5 rfl (A3 rfl rfl (hat3 _) rfl) rfl ?_
 refine aP 8 rfl (B0 rfl) rfl ?_
 refine aP 9 rfl (qF rfl) rfl ?_
 refine aL 10 rfl (B9 rfl rfl) rfl ?_
 refine aP 11 rfl (qM rfl) rfl ?_
 refine aP 12 rfl (B2 (j := i) rfl rfl rfl (by omega)) rfl ?_
 refine aL 13 rfl (A3 rfl rfl (hat7 _) rfl) rfl ?_
 refine aP 14 rfl (B0 rfl) rfl ?_
 refine aP 15 rfl (qF rfl) rfl ?_
 refine aL 16 rfl (B9 rfl rfl) rfl ?_
 refine aP 17 rfl (qM rfl) rfl ?_
 refine aP 18 rfl (B2 (j := i) rfl rfl rfl (by omega)) rfl ?_
 refine aL 19 rfl (A3 rfl rfl (hat5 _) rfl) rfl ?_
 refine aP 20 rfl (B0 rfl) rfl ?_
 refine aL 21 rfl (B9 rfl rfl) rfl ?_
 refine A2 6 ?_
 (refine E1 rfl (C8 rfl rfl rfl (by omega) (by unfold maxLen; omega) rfl) rfl rfl ?_; rintro _ ⟨b221, rfl⟩)
 refine A2 7 ?_
 (refine A4Q (cs := [x1, x2, x3, x4, x5, x6, x7, x8, x9]) (by repeat (first | exact Pk.here | apply Pk.there)) (fun G2 hle2 hsl2 hno2 => ?_); have hrN := A3J (k := k) (ks := [aks[0]]) (es := [[x1, x2, x3, x4, x5, x6, x7, x8, x9]]) hk rfl (C9.of hsl2 rfl (by simp) (by intro x hx; obtain rfl := List.mem_singleton.1 hx; exact ho3)) (by simp only [D2]; exact ⟨_, _, rfl, hre3.mono hle2, rfl⟩); replace hre5 := hre5.mono hle2; replace hre7 := hre7.mono hle2; refine O5 rfl rfl (A2X _ _ _ _ _) rfl rfl rfl ?_)
 refine A2 22 ?_
 (refine I9 rfl rfl (A1n _ afks[i] atks[i] alb G2 _ _ _ ⟨by omega, by omega⟩ hrN hre7 hre5) rfl rfl rfl (fun u G3 hle3 hh => ?_); obtain ⟨wc, rfl, hrw⟩ := hh; have hwl := hrw.len; have hwo := hrw.one)
 refine A2 23 ?_
 (refine oS rfl rfl rfl rfl hwl hwo rfl rfl ?_ (hu := by exact C3 hwl.symm))
 refine aP 24 rfl (qA rfl) rfl ?_
 refine aP 25 rfl (qA rfl) rfl ?_
 refine C2 (nS (tT (rB (rS ?_))))
 refine C7 (rC rfl (A3 rfl rfl (A9 (by repeat first | exact mH | apply mT)) hwl)) (rT rfl) (rT rfl) ?_
 (exact Q8.mk (by rw [if_pos hq, A2s (by omega), A0L (by omega), A0L (by omega)]) hrw)
 refine D9 ?_
 refine sP (A0i rfl rfl (by omega)) rfl rfl ?_
 refine I0 ?_
 refine C7 (rC rfl (A1 rfl rfl)) (rT rfl) (rT rfl) ?_
 (exact Q8.mk (by rw [if_neg (by omega)]; rfl) (L0 _))
 refine I0 ?_
 refine sP (A0i rfl rfl (by omega)) rfl rfl ?_
 refine I0 ?_
 refine C7 (rC rfl (A1 rfl rfl)) (rT rfl) (rT rfl) ?_
 (exact Q8.mk (by rw [if_neg (by omega)]; rfl) (L0 _))
theorem A8T {t : Tm} (h : inj t = true) : t.k = 14 := by
 unfold inj at h
 simp only [Bool.and_eq_true, decide_eq_true_eq] at h
 exact h.1.1
theorem B3h {t u : Ty} (h : U2 t = true) (h' : U2 u = true) : M5 t u = decide (t.k = u.k) := by
 have e1 := A8R h
 have e2 := A8R h'
 by_cases hk : t.k = u.k
 ·rw [decide_eq_true hk, A1d, e1, e2]
  unfold Y0; rw [hk]
 ·rw [decide_eq_false hk]
  cases hs : M5 t u with
  | false => rfl
  | true => exact absurd (congrArg Ty.k ((A1d _ _).1 hs)) hk
theorem B3i {t : Tm} (h : inj t = true) : U2 t.fr = true := by
 unfold inj at h
 rw [Bool.and_eq_true] at h
 exact h.2
theorem B3j (a : Tm) (nm : ByteArray) (num : Int) (ty fr : Ty) (lb : Int) (G : IM) (cells : List Value) (hca : cv a) (hlb9 : -99 ≤ lb ∧ lb ≤ 99) (hr : A6 G (.mk 14 nm num ty fr lb [a]) cells) : Fn Tryz.prog 192 [.agg ⟨cells⟩] [] G (Q8 (Y2 14 ty fr lb [a])) := by
 have hji := @B3i a
 have hjk := @A8T a
 obtain ⟨ak, anm, anum, ⟨atk, atks⟩, ⟨afk, afks⟩, alb, aks⟩ := a
 obtain ⟨hN, hkk⟩ := hca.node
 have hops := hN.ops
 have hbl := hN.lbB
 have htyA := hN.tyA
 have hfrA := hN.frA
 rw [E4] at htyA hfrA
 have h14 : ak = 14 → aks.length = 1 := fun h => by rw [h] at hops; have : C5 14 = 1 := rfl; omega
 obtain ⟨tk, tks⟩ := ty
 obtain ⟨fk, fks⟩ := fr
 obtain ⟨pt, ct, pf, cf, p, c, es, rfl, hk, hnum, hlb, hty, hfr, hsl, hkl⟩ := hr.open9
 obtain ⟨bx, ox, e0, rfl, hl0, hat0, hre0, hgb0⟩ := hsl.kidTm hkl (i := 0) (by simp) (by simp)
 replace hre0 : A6 G (Tm.mk ak anm anum (.mk atk atks) (.mk afk afks) alb aks) e0 := hre0
 have hP : Fn Tryz.prog 170 [.agg ⟨e0⟩] [] G (H6 (.bool (decide (ak = 14 ∧ afk = atk ∧ (atk = 4 ∨ atk = 5)))) G) := A2U _ G _ hre0
 have hI := A3K _ G _ hre0
 have ho0 := hre0.one
 obtain ⟨apt, act, apf, acf, ap, ac, aes, rfl, hak, hanum, halb, haty, hafr, hasl, hakl⟩ := hre0.open9
 have hfk64 : E3 fk := by obtain ⟨_, _, _, _, h, _⟩ := hfr.open; exact h
 have htk64 : E3 tk := by obtain ⟨_, _, _, _, h, _⟩ := hty.open; exact h
 obtain ⟨tes, htS, htL⟩ := haty.kids
 obtain ⟨fes, hfS, hfL⟩ := hafr.kids
 simp only [Ty.ks] at htS htL hfS hfL
 obtain ⟨J, hJ⟩ : ∃ J, inj (Tm.mk ak anm anum (.mk atk atks) (.mk afk afks) alb aks) = J := ⟨_, rfl⟩
 obtain ⟨D, hD⟩ : ∃ D, U2 (.mk tk tks) = D := ⟨_, rfl⟩
 have hGr := A8I _ G _ hty
 rw [hD] at hGr
 rw [hJ] at hI hji hjk
 have hR : Y2 14 (.mk tk tks) (.mk fk fks) lb [Tm.mk ak anm anum (.mk atk atks) (.mk afk afks) alb aks] = (if fk = tk then (Tm.mk ak anm anum (.mk atk atks) (.mk afk afks) alb aks, 1, 0)
   else if tk = 1 then (N1 (N1 (Tm.mk ak anm anum (.mk atk atks) (.mk afk afks) alb aks) (.mk fk fks) (mGk fk) lb) (mGk fk) (.mk tk tks) lb, 1, 0)
   else if D = false then (N1 (N1 (Tm.mk ak anm anum (.mk atk atks) (.mk afk afks) alb aks) (.mk fk fks) (mGk tk) lb) (mGk tk) (.mk tk tks) lb, 1, 0)
   else if J = false then S9
   else if afk = tk then (kd aks 0, 1, 0)
   else (D7, 2, lb)) := by
  rw [← hJ, ← hD]; rfl
 rw [hR]
 have hSm : J = true → D = true → M5 (.mk afk afks) (.mk tk tks) = decide (afk = tk) := fun h1 h2 => B3h (hji h1) (hD.trans h2)
 have hTS := A5Z (.mk afk afks) (.mk tk tks) G _ _ hafr hty
 refine B3 Tryz.func192 rfl Tryz.ntmps192 Tryz.results192 rfl ?_
 intro w0
 refine tS (tR ?_)
 refine sE (C0 rfl rfl) rfl (fun b3 => ?_)
 refine sE (A7 rfl) rfl (fun b4 => ?_)
 refine D8 ?_
 refine sP (B2 (j := 0) rfl rfl rfl (by simp)) rfl rfl ?_
 refine sL (A3 rfl rfl (hat0 _) rfl) rfl rfl ?_
 refine sE (A7 rfl) rfl (fun b15 => ?_)
 refine F4 ?_
 refine sD (nS (tS ?_))
 refine B7 ?_
 refine tS (tR (sQ (B0 rfl) rfl (sL (B9 rfl rfl) rfl rfl ?_)))
 refine sP (H0 rfl rfl (by omega)) rfl rfl ?_
 refine U6 ?_
 refine sP (H0 rfl rfl (by omega)) rfl rfl ?_
 refine L9 ?_
 refine sP (H0 rfl rfl (by omega)) rfl rfl ?_
 refine A0o ?_
 refine sP (A2D rfl rfl (by omega)) rfl rfl ?_
 refine M6 ?_
 refine sB (qE rfl rfl) rfl rfl (fun h81 => ?_) (fun h81 => ?_)
 refine I0 ?_
 refine C7 (rC rfl (A1 rfl rfl)) (rT rfl) (rT rfl) ?_
 (exact Q8.mk (by rw [if_pos (by omega)]) hre0)
 refine D9 ?_
 refine sB (qE rfl rfl) rfl rfl (fun h108 => ?_) (fun h108 => ?_)
 refine D9 ?_
 (refine E5 rfl (A58 fk G hfk64) rfl rfl (fun u G1 hle1 hh => ?_); obtain ⟨gc, rfl, hrg⟩ := hh; obtain ⟨pg, cg, eg, rfl, _⟩ := hrg.open; have hgk : tk = 1 := (by omega); replace hre0 := hre0.mono hle1; replace hfr := hfr.mono hle1; replace hty := hty.mono hle1)
 refine sE (A7 rfl) rfl (fun b119 => ?_)
 refine F4 ?_
 refine sD (nS (tS ?_))
 refine D5 D6 rfl ?_
 refine O9 (i := 0) (l' := [tt,ff,ff,ff,ff,ff,ff,ff,ff,ff,ff,ff,ff,ff,ff,ff]) rfl D1 (A3 rfl rfl (A9 (by repeat first | exact mH | apply mT)) rfl) rfl (by kernel_rfl) rfl rfl ?_
 refine aL 3 rfl (A3 rfl rfl (A9 (by repeat first | exact mH | apply mT)) rfl) rfl ?_
 refine aL 7 rfl (A3 rfl rfl (A9 (by repeat first | exact mH | apply mT)) rfl) rfl ?_
 refine aP 1 rfl (B0 rfl) rfl ?_
 refine aL 2 rfl (A1 rfl rfl) rfl ?_
 refine aP 4 rfl (B0 rfl) rfl ?_
 refine aL 5 rfl (B9 rfl rfl) rfl ?_
 refine aP 8 rfl (B0 rfl) rfl ?_
 refine aL 9 rfl (A1 rfl rfl) rfl ?_
 refine aP 10 rfl (B0 rfl) rfl ?_
 refine aL 11 rfl (B9 rfl rfl) rfl ?_
 refine A2 6 ?_
 (refine I9 rfl rfl (A1n _ (.mk fk fks) _ lb G1 _ _ _ ⟨by omega, by omega⟩ hre0 hfr hrg) rfl rfl rfl (fun u G3 hle3 hh => ?_); obtain ⟨wc, rfl, hrw⟩ := hh; have hwl := hrw.len; have hwo := hrw.one; replace hrg := hrg.mono hle3; replace hty := hty.mono hle3)
 refine A2 12 ?_
 (refine I9 rfl rfl (A1n _ _ (.mk tk tks) lb G3 _ _ _ ⟨by omega, by omega⟩ hrw hrg hty) rfl rfl rfl (fun u G4 hle4 hh => ?_); obtain ⟨xc, rfl, hrx⟩ := hh; have hxl := hrx.len; have hxo := hrx.one)
 refine A2 13 ?_
 (refine oS rfl rfl rfl rfl hxl hxo rfl rfl ?_ (hu := by exact C3 hxl.symm))
 refine aP 14 rfl (qA rfl) rfl ?_
 refine aP 15 rfl (qA rfl) rfl ?_
 refine C2 (nS (tT (rB (rS ?_))))
 refine C7 (rC rfl (A3 rfl rfl (A9 (by repeat first | exact mH | apply mT)) hxl)) (rT rfl) (rT rfl) ?_
 (exact Q8.mk (by rw [if_neg (by omega), if_pos (by omega)]) hrx)
 refine D8 ?_
 focus (cases hDD : D; all_goals (rw [hDD] at hGr; refine I5 rfl hGr rfl rfl ?_))
 refine I7 ?_
 (refine E5 rfl (A58 tk G htk64) rfl rfl (fun u G1 hle1 hh => ?_); obtain ⟨gc, rfl, hrg⟩ := hh; obtain ⟨pg, cg, eg, rfl, _⟩ := hrg.open; replace hre0 := hre0.mono hle1; replace hfr := hfr.mono hle1; replace hty := hty.mono hle1)
 refine sE (A7 rfl) rfl (fun b171 => ?_)
 refine F4 ?_
 refine sD (nS (tS ?_))
 refine D5 D6 rfl ?_
 refine O9 (i := 0) (l' := [tt,ff,ff,ff,ff,ff,ff,ff,ff,ff,ff,ff,ff,ff,ff,ff]) rfl D1 (A3 rfl rfl (A9 (by repeat first | exact mH | apply mT)) rfl) rfl (by kernel_rfl) rfl rfl ?_
 refine aL 3 rfl (A3 rfl rfl (A9 (by repeat first | exact mH | apply mT)) rfl) rfl ?_
 refine aL 7 rfl (A3 rfl rfl (A9 (by repeat first | exact mH | apply mT)) rfl) rfl ?_
 refine aP 1 rfl (B0 rfl) rfl ?_
 refine aL 2 rfl (A1 rfl rfl) rfl ?_
 refine aP 4 rfl (B0 rfl) rfl ?_
 refine aL 5 rfl (B9 rfl rfl) rfl ?_
 refine aP 8 rfl (B0 rfl) rfl ?_
 refine aL 9 rfl (A1 rfl rfl) rfl ?_
 refine aP 10 rfl (B0 rfl) rfl ?_
 refine aL 11 rfl (B9 rfl rfl) rfl ?_
 refine A2 6 ?_
 (refine I9 rfl rfl (A1n _ (.mk fk fks) _ lb G1 _ _ _ ⟨by omega, by omega⟩ hre0 hfr hrg) rfl rfl rfl (fun u G3 hle3 hh => ?_); obtain ⟨wc, rfl, hrw⟩ := hh; have hwl := hrw.len; have hwo := hrw.one; replace hrg := hrg.mono hle3; replace hty := hty.mono hle3)
 refine A2 12 ?_
 (refine I9 rfl rfl (A1n _ _ (.mk tk tks) lb G3 _ _ _ ⟨by omega, by omega⟩ hrw hrg hty) rfl rfl rfl (fun u G4 hle4 hh => ?_); obtain ⟨xc, rfl, hrx⟩ := hh; have hxl := hrx.len; have hxo := hrx.one)
 refine A2 13 ?_
 (refine oS rfl rfl rfl rfl hxl hxo rfl rfl ?_ (hu := by exact C3 hxl.symm))
 refine aP 14 rfl (qA rfl) rfl ?_
 refine aP 15 rfl (qA rfl) rfl ?_
 refine C2 (nS (tT (rB (rS ?_))))
 refine C7 (rC rfl (A3 rfl rfl (A9 (by repeat first | exact mH | apply mT)) hxl)) (rT rfl) (rT rfl) ?_
 (exact Q8.mk (by rw [if_neg (by omega), if_neg (by omega), if_pos rfl]) hrx)
 refine D8 ?_
 focus (cases hJJ : J; all_goals (rw [hJJ] at hI; refine I5 rfl hI rfl rfl ?_))
 refine I8 ?_
 refine C7 (rC rfl (A1 rfl rfl)) (rT rfl) (rT rfl) ?_
 (exact Q8.mk (by rw [if_neg (by omega), if_neg (by omega), if_neg (by decide), if_pos rfl]; rfl) (L0 _))
 refine J2 ?_
 focus (rw [hSm hJJ hDD] at hTS; by_cases hfk : afk = tk; rw [decide_eq_true hfk] at hTS; rotate_left; rw [decide_eq_false hfk] at hTS; rotate_left; all_goals (refine I5 rfl hTS rfl rfl ?_))
 refine D8 ?_
 (have hq1 := h14 (hjk (by assumption)); obtain ⟨bq, oq, e3, rfl, hl3, hat3, hre3, hgb3⟩ := hasl.kidTm hakl (i := 0) (by omega) (by omega); have ho3 := hre3.one; refine sP (B2 (j := 0) rfl rfl rfl (by omega)) rfl rfl ?_)
 refine sL (A3 rfl rfl (hat3 _) hl3) rfl rfl ?_
 refine sS rfl rfl rfl hl3 ho3 rfl ?_ (hu := by exact C3 hl3.symm)
 refine C4 ?_
 refine C7 (rC rfl (A3 rfl rfl (A9 (by repeat first | exact mH | apply mT)) hl3)) (rT rfl) (rT rfl) ?_
 (exact Q8.mk (by rw [if_neg (by omega), if_neg (by omega), if_neg (by decide), if_neg (by decide), if_pos hfk, A2s (by omega)]) hre3)
 refine D8 ?_
 refine D5 D6 rfl ?_
 refine I3 (i := 0) (l' := [tt,ff,ff,ff,ff,ff]) rfl D1 (T3 rfl rfl) rfl (by kernel_rfl) rfl rfl ?_
 refine aP 1 rfl (B0 rfl) rfl ?_
 refine aL 2 rfl (B9 rfl rfl) rfl ?_
 refine A2 3 ?_
 refine H7 rfl ?_
 refine aP 4 rfl (qA rfl) rfl ?_
 refine aP 5 rfl (qA rfl) rfl ?_
 refine C2 (nS (tT ?_))
 refine C7 (rC rfl (A1 rfl rfl)) (rT rfl) (rT rfl) ?_
 (exact Q8.mk (by rw [if_neg (by omega), if_neg (by omega), if_neg (by decide), if_neg (by decide), if_neg hfk]) (L0 _))
theorem A8U (k : Int) (a b : Tm) (nm : ByteArray) (num : Int) (ty fr : Ty) (lb : Int) (G : IM) (cells : List Value) (hk1 : k = 7 ∨ k = 8) (hca : cv a) (hr : A6 G (.mk k nm num ty fr lb [a, b]) cells) : Fn Tryz.prog 192 [.agg ⟨cells⟩] [] G (Q8 (Y2 k ty fr lb [a, b])) := by
 have hR : Y2 k ty fr lb [a, b] = S9 := by unfold Y2; rw [if_neg (by omega), if_neg (by omega), if_neg (by omega)]
 rw [hR]
 obtain ⟨ak, anm, anum, ⟨atk, atks⟩, ⟨afk, afks⟩, alb, aks⟩ := a
 obtain ⟨hN, hkk⟩ := hca.node
 have hops := hN.ops
 have hbl := hN.lbB
 have htyA := hN.tyA
 have hfrA := hN.frA
 rw [E4] at htyA hfrA
 have h14 : ak = 14 → aks.length = 1 := fun h => by rw [h] at hops; have : C5 14 = 1 := rfl; omega
 obtain ⟨tk, tks⟩ := ty
 obtain ⟨fk, fks⟩ := fr
 obtain ⟨pt, ct, pf, cf, p, c, es, rfl, hk, hnum, hlb, hty, hfr, hsl, hkl⟩ := hr.open9
 obtain ⟨bx, ox, e0, rfl, hl0, hat0, hre0, hgb0⟩ := hsl.kidTm hkl (i := 0) (by simp) (by simp)
 replace hre0 : A6 G (Tm.mk ak anm anum (.mk atk atks) (.mk afk afks) alb aks) e0 := hre0
 have hP : Fn Tryz.prog 170 [.agg ⟨e0⟩] [] G (H6 (.bool (decide (ak = 14 ∧ afk = atk ∧ (atk = 4 ∨ atk = 5)))) G) := A2U _ G _ hre0
 have hI := A3K _ G _ hre0
 have ho0 := hre0.one
 obtain ⟨apt, act, apf, acf, ap, ac, aes, rfl, hak, hanum, halb, haty, hafr, hasl, hakl⟩ := hre0.open9
 have hfk64 : E3 fk := by obtain ⟨_, _, _, _, h, _⟩ := hfr.open; exact h
 have htk64 : E3 tk := by obtain ⟨_, _, _, _, h, _⟩ := hty.open; exact h
 obtain ⟨tes, htS, htL⟩ := haty.kids
 obtain ⟨fes, hfS, hfL⟩ := hafr.kids
 simp only [Ty.ks] at htS htL hfS hfL
 refine B3 Tryz.func192 rfl Tryz.ntmps192 Tryz.results192 rfl ?_
 intro w0
 refine tS (tR ?_)
 refine sE (C0 rfl rfl) rfl (fun b3 => ?_)
 refine sE (A7 rfl) rfl (fun b4 => ?_)
 refine D8 ?_
 refine sP (B2 (j := 0) rfl rfl rfl (by simp)) rfl rfl ?_
 refine sL (A3 rfl rfl (hat0 _) rfl) rfl rfl ?_
 refine sE (A7 rfl) rfl (fun b15 => ?_)
 refine F4 ?_
 refine sD (nS (tS ?_))
 refine B7 ?_
 refine tS (tR (sQ (B0 rfl) rfl (sL (B9 rfl rfl) rfl rfl ?_)))
 refine sP (H0 rfl rfl (by omega)) rfl rfl ?_
 refine U6 ?_
 refine sP (H0 rfl rfl (by omega)) rfl rfl ?_
 refine L9 ?_
 refine sP (H0 rfl rfl (by omega)) rfl rfl ?_
 refine A0o ?_
 refine sP (A0i rfl rfl (by omega)) rfl rfl ?_
 refine I0 ?_
 refine C7 (rC rfl (A1 rfl rfl)) (rT rfl) (rT rfl) ?_
 (exact Q8.mk rfl (L0 _))
theorem B3k (a b c0 : Tm) (nm : ByteArray) (num : Int) (ty fr : Ty) (lb : Int) (G : IM) (cells : List Value) (hca : cv a) (hr : A6 G (.mk 9 nm num ty fr lb [a, b, c0]) cells) : Fn Tryz.prog 192 [.agg ⟨cells⟩] [] G (Q8 (Y2 9 ty fr lb [a, b, c0])) := by
 have hR : Y2 9 ty fr lb [a, b, c0] = S9 := by unfold Y2; rw [if_neg (by omega), if_neg (by omega), if_neg (by omega)]
 rw [hR]
 obtain ⟨ak, anm, anum, ⟨atk, atks⟩, ⟨afk, afks⟩, alb, aks⟩ := a
 obtain ⟨hN, hkk⟩ := hca.node
 have hops := hN.ops
 have hbl := hN.lbB
 have htyA := hN.tyA
 have hfrA := hN.frA
 rw [E4] at htyA hfrA
 have h14 : ak = 14 → aks.length = 1 := fun h => by rw [h] at hops; have : C5 14 = 1 := rfl; omega
 obtain ⟨tk, tks⟩ := ty
 obtain ⟨fk, fks⟩ := fr
 obtain ⟨pt, ct, pf, cf, p, c, es, rfl, hk, hnum, hlb, hty, hfr, hsl, hkl⟩ := hr.open9
 obtain ⟨bx, ox, e0, rfl, hl0, hat0, hre0, hgb0⟩ := hsl.kidTm hkl (i := 0) (by simp) (by simp)
 replace hre0 : A6 G (Tm.mk ak anm anum (.mk atk atks) (.mk afk afks) alb aks) e0 := hre0
 have hP : Fn Tryz.prog 170 [.agg ⟨e0⟩] [] G (H6 (.bool (decide (ak = 14 ∧ afk = atk ∧ (atk = 4 ∨ atk = 5)))) G) := A2U _ G _ hre0
 have hI := A3K _ G _ hre0
 have ho0 := hre0.one
 obtain ⟨apt, act, apf, acf, ap, ac, aes, rfl, hak, hanum, halb, haty, hafr, hasl, hakl⟩ := hre0.open9
 have hfk64 : E3 fk := by obtain ⟨_, _, _, _, h, _⟩ := hfr.open; exact h
 have htk64 : E3 tk := by obtain ⟨_, _, _, _, h, _⟩ := hty.open; exact h
 obtain ⟨tes, htS, htL⟩ := haty.kids
 obtain ⟨fes, hfS, hfL⟩ := hafr.kids
 simp only [Ty.ks] at htS htL hfS hfL
 refine B3 Tryz.func192 rfl Tryz.ntmps192 Tryz.results192 rfl ?_
 intro w0
 refine tS (tR ?_)
 refine sE (C0 rfl rfl) rfl (fun b3 => ?_)
 refine sE (A7 rfl) rfl (fun b4 => ?_)
 refine D8 ?_
 refine sP (B2 (j := 0) rfl rfl rfl (by simp)) rfl rfl ?_
 refine sL (A3 rfl rfl (hat0 _) rfl) rfl rfl ?_
 refine sE (A7 rfl) rfl (fun b15 => ?_)
 refine F4 ?_
 refine sD (nS (tS ?_))
 refine B7 ?_
 refine tS (tR (sQ (B0 rfl) rfl (sL (B9 rfl rfl) rfl rfl ?_)))
 refine sP (H0 rfl rfl (by omega)) rfl rfl ?_
 refine U6 ?_
 refine sP (H0 rfl rfl (by omega)) rfl rfl ?_
 refine L9 ?_
 refine sP (H0 rfl rfl (by omega)) rfl rfl ?_
 refine A0o ?_
 refine sP (A0i rfl rfl (by omega)) rfl rfl ?_
 refine I0 ?_
 refine C7 (rC rfl (A1 rfl rfl)) (rT rfl) (rT rfl) ?_
 (exact Q8.mk rfl (L0 _))
theorem B3l (nm : ByteArray) (num : Int) (ty fr : Ty) (lb : Int) (G : IM) (cells : List Value) (hr : A6 G (.mk 1 nm num ty fr lb []) cells) : Fn Tryz.prog 177 [.agg ⟨cells⟩] [] G (R3 (O8 1 [])) := by
 rw [show O8 1 [] = none from rfl]
 obtain ⟨tk, tks⟩ := ty
 obtain ⟨fk, fks⟩ := fr
 obtain ⟨pt, ct, pf, cf, p, c, es, rfl, hk, hnum, hlb, hty, hfr, hsl, hkl⟩ := hr.open9
 have hL : ([] : List Tm).length = 0 := rfl
 refine B3 Tryz.func177 rfl Tryz.ntmps177 Tryz.results177 rfl ?_
 intro w0
 refine tS (tR ?_)
 refine sE (C0 rfl rfl) rfl (fun b3 => ?_)
 refine sE (A7 rfl) rfl (fun b4 => ?_)
 refine J7 ?_
 refine sE (A7 rfl) rfl (fun b11 => ?_)
 refine D9 ?_
 refine sP (B0L rfl rfl (by omega)) rfl rfl ?_
 refine M6 ?_
 refine B7 ?_
 refine tS (tR ?_)
 refine sP (H0 rfl rfl (by omega)) rfl rfl ?_
 refine sQ (qA rfl) rfl (sD (nS (cF rfl (tS (tS (tR ?_))))))
 refine sP (H0 rfl rfl (by omega)) rfl rfl ?_
 refine sQ (qA rfl) rfl (sD (nS (cF rfl (tR ?_))))
 refine sP (H0 rfl rfl (by omega)) rfl rfl ?_
 refine sQ (qA rfl) rfl (sD (nS (cF rfl (tS (tR ?_)))))
 refine sP (H0 rfl rfl (by omega)) rfl rfl ?_
 refine sQ (qA rfl) rfl (sD (nS (cF rfl (tS (tS (tR ?_))))))
 refine sP (H0 rfl rfl (by omega)) rfl rfl ?_
 refine sQ (qA rfl) rfl (sD (nS (cF rfl (tR ?_))))
 refine sP (H0 rfl rfl (by omega)) rfl rfl ?_
 refine I0 ?_
 refine I4 (rC rfl (A1 rfl rfl)) (rT rfl) ?_
 (exact R3.no rfl (L0 _))
theorem B3m (a : Tm) (nm : ByteArray) (num : Int) (ty fr : Ty) (lb : Int) (G : IM) (cells : List Value) (hr : A6 G (.mk 14 nm num ty fr lb [a]) cells) : Fn Tryz.prog 177 [.agg ⟨cells⟩] [] G (R3 (O8 14 [a])) := by
 rw [show O8 14 [a] = none from rfl]
 obtain ⟨tk, tks⟩ := ty
 obtain ⟨fk, fks⟩ := fr
 obtain ⟨pt, ct, pf, cf, p, c, es, rfl, hk, hnum, hlb, hty, hfr, hsl, hkl⟩ := hr.open9
 obtain ⟨bx, ox, e0, rfl, hl0, hat0, hre0, hgb0⟩ := hsl.kidTm hkl (i := 0) (by simp) (by simp)
 have ho0 : e0.all (·.oneCell') = true := (show A6 G a e0 from hre0).one
 refine B3 Tryz.func177 rfl Tryz.ntmps177 Tryz.results177 rfl ?_
 intro w0
 refine tS (tR ?_)
 refine sE (C0 rfl rfl) rfl (fun b3 => ?_)
 refine sE (A7 rfl) rfl (fun b4 => ?_)
 refine J7 ?_
 refine sE (A7 rfl) rfl (fun b11 => ?_)
 refine D9 ?_
 refine sB (Y6 rfl rfl) rfl rfl (fun h21 => ?_) (fun h21 => ?_)
 refine J7 ?_
 refine sP (B2 (j := 0) rfl rfl rfl (by simp)) rfl rfl ?_
 refine sL (A3 rfl rfl (hat0 _) hl0) rfl rfl ?_
 refine sS rfl rfl rfl hl0 ho0 rfl ?_ (hu := by exact C3 hl0.symm)
 refine D9 ?_
 refine B7 ?_
 refine tS (tR ?_)
 refine sP (H0 rfl rfl (by omega)) rfl rfl ?_
 refine sQ (qA rfl) rfl (sD (nS (cF rfl (tS (tS (tR ?_))))))
 refine sP (H0 rfl rfl (by omega)) rfl rfl ?_
 refine sQ (qA rfl) rfl (sD (nS (cF rfl (tR ?_))))
 refine sP (H0 rfl rfl (by omega)) rfl rfl ?_
 refine sQ (qA rfl) rfl (sD (nS (cF rfl (tS (tR ?_)))))
 refine sP (H0 rfl rfl (by omega)) rfl rfl ?_
 refine sQ (qA rfl) rfl (sD (nS (cF rfl (tS (tS (tR ?_))))))
 refine sP (H0 rfl rfl (by omega)) rfl rfl ?_
 refine sQ (qA rfl) rfl (sD (nS (cF rfl (tR ?_))))
 refine sP (H0 rfl rfl (by omega)) rfl rfl ?_
 refine I0 ?_
 refine I4 (rC rfl (A1 rfl rfl)) (rT rfl) ?_
 (exact R3.no rfl (L0 _))
 refine M6 ?_
 refine B7 ?_
 refine tS (tR ?_)
 refine sP (H0 rfl rfl (by omega)) rfl rfl ?_
 refine sQ (qA rfl) rfl (sD (nS (cF rfl (tS (tS (tR ?_))))))
 refine sP (H0 rfl rfl (by omega)) rfl rfl ?_
 refine sQ (qA rfl) rfl (sD (nS (cF rfl (tR ?_))))
 refine sP (H0 rfl rfl (by omega)) rfl rfl ?_
 refine sQ (qA rfl) rfl (sD (nS (cF rfl (tS (tR ?_)))))
 refine sP (H0 rfl rfl (by omega)) rfl rfl ?_
 refine sQ (qA rfl) rfl (sD (nS (cF rfl (tS (tS (tR ?_))))))
 refine sP (H0 rfl rfl (by omega)) rfl rfl ?_
 refine sQ (qA rfl) rfl (sD (nS (cF rfl (tR ?_))))
 refine sP (H0 rfl rfl (by omega)) rfl rfl ?_
 refine I0 ?_
 refine I4 (rC rfl (A1 rfl rfl)) (rT rfl) ?_
 (exact R3.no rfl (L0 _))
theorem ks1 {ks : List Tm} (h : ks.length = 1) : ∃ a, ks = [a] := by
 match ks, h with
 | [a], _ => exact ⟨a, rfl⟩
theorem ks2 {ks : List Tm} (h : ks.length = 2) : ∃ a b, ks = [a, b] := by
 match ks, h with
 | [a, b], _ => exact ⟨a, b, rfl⟩
theorem ks3 {ks : List Tm} (h : ks.length = 3) : ∃ a b c, ks = [a, b, c] := by
 match ks, h with
 | [a, b, c], _ => exact ⟨a, b, c, rfl⟩
theorem A8V {k : Int} {nm : ByteArray} {num : Int} {ty fr : Ty} {lb : Int} {ks : List Tm} {G : IM} {cells : List Value} (hc : cv (.mk k nm num ty fr lb ks)) (hk : k = 1 ∨ k = 6 ∨ k = 7 ∨ k = 8 ∨ k = 9 ∨ k = 11 ∨ k = 12 ∨ k = 14) (hr : A6 G (.mk k nm num ty fr lb ks) cells) :
  Fn Tryz.prog 177 [.agg ⟨cells⟩] [] G (R3 (O8 k ks)) := by
 obtain ⟨hN, hkk⟩ := hc.node
 have hops := hN.ops
 rcases hk with rfl | rfl | rfl | rfl | rfl | rfl | rfl | rfl
 ·obtain rfl : ks = [] := List.length_eq_zero_iff.1 (by have : C5 1 = 0 := rfl; omega)
  exact B3l _ _ _ _ _ _ _ hr
 ·obtain ⟨a, b, rfl⟩ := ks2 (ks := ks) (by have : C5 6 = 2 := rfl; omega)
  exact B3d a b _ _ _ _ _ _ _ (hkk a (by simp)) hr
 ·obtain ⟨a, b, rfl⟩ := ks2 (ks := ks) (by have : C5 7 = 2 := rfl; omega)
  exact A8P 7 a b _ _ _ _ _ _ _ (.inl rfl) (hkk a (by simp)) (hkk b (by simp)) hr
 ·obtain ⟨a, b, rfl⟩ := ks2 (ks := ks) (by have : C5 8 = 2 := rfl; omega)
  exact A8P 8 a b _ _ _ _ _ _ _ (.inr rfl) (hkk a (by simp)) (hkk b (by simp)) hr
 ·obtain ⟨a, b, c, rfl⟩ := ks3 (ks := ks) (by have : C5 9 = 3 := rfl; omega)
  exact B3e a b c _ _ _ _ _ _ _ hr
 ·obtain ⟨a, rfl⟩ := ks1 (ks := ks) (by have : C5 11 = 1 := rfl; omega)
  exact A8Q 11 a _ _ _ _ _ _ _ (.inl rfl) (hkk a (by simp)) hr
 ·obtain ⟨a, rfl⟩ := ks1 (ks := ks) (by have : C5 12 = 1 := rfl; omega)
  exact A8Q 12 a _ _ _ _ _ _ _ (.inr rfl) (hkk a (by simp)) hr
 ·obtain ⟨a, rfl⟩ := ks1 (ks := ks) (by have : C5 14 = 1 := rfl; omega)
  exact B3m a _ _ _ _ _ _ _ hr
theorem B3n {k : Int} {nm : ByteArray} {num : Int} {ty fr : Ty} {lb : Int} {ks : List Tm} {G : IM} {cells : List Value} (hc : cv (.mk k nm num ty fr lb ks)) (hk : k = 6 ∨ k = 7 ∨ k = 8 ∨ k = 9 ∨ k = 11 ∨ k = 12 ∨ k = 14) (hr : A6 G (.mk k nm num ty fr lb ks) cells) :
  Fn Tryz.prog 192 [.agg ⟨cells⟩] [] G (Q8 (Y2 k ty fr lb ks)) := by
 obtain ⟨hN, hkk⟩ := hc.node
 have hops := hN.ops
 rcases hk with rfl | rfl | rfl | rfl | rfl | rfl | rfl
 ·obtain ⟨a, b, rfl⟩ := ks2 (ks := ks) (by have : C5 6 = 2 := rfl; omega)
  exact B3g a b _ _ _ _ _ _ _ (hkk a (by simp)) hr
 ·obtain ⟨a, b, rfl⟩ := ks2 (ks := ks) (by have : C5 7 = 2 := rfl; omega)
  exact A8U 7 a b _ _ _ _ _ _ _ (.inl rfl) (hkk a (by simp)) hr
 ·obtain ⟨a, b, rfl⟩ := ks2 (ks := ks) (by have : C5 8 = 2 := rfl; omega)
  exact A8U 8 a b _ _ _ _ _ _ _ (.inr rfl) (hkk a (by simp)) hr
 ·obtain ⟨a, b, c, rfl⟩ := ks3 (ks := ks) (by have : C5 9 = 3 := rfl; omega)
  exact B3k a b c _ _ _ _ _ _ _ (hkk a (by simp)) hr
 ·obtain ⟨a, rfl⟩ := ks1 (ks := ks) (by have : C5 11 = 1 := rfl; omega)
  exact A8S 11 a _ _ _ _ _ _ _ (.inl rfl) (hkk a (by simp)) hr
 ·obtain ⟨a, rfl⟩ := ks1 (ks := ks) (by have : C5 12 = 1 := rfl; omega)
  exact A8S 12 a _ _ _ _ _ _ _ (.inr rfl) (hkk a (by simp)) hr
 ·obtain ⟨a, rfl⟩ := ks1 (ks := ks) (by have : C5 14 = 1 := rfl; omega)
  exact B3j a _ _ _ _ _ _ _ (hkk a (by simp)) hN.lbB hr
theorem A59 (n : Nat) (t : Tm) (ts : List Tm) : A0d (n + 1) (t :: ts) = if D0 t = true then (match A0d n ts with | some (us, c, l) => some (t :: us, c, l) | none => none) else some ((J5 t).1 :: ts, (J5 t).2.1, (J5 t).2.2) := by
 rw [A0d]; rfl
theorem A8W : ∀ (n : Nat) (ks : List Tm), (∀ i, i < n → (h : i < ks.length) → D0 ks[i] = true) → A0d n ks = none
 | n, [], _ => by cases n <;> rfl
 | 0, t :: ts, _ => rfl
 | n + 1, t :: ts, h => by
  rw [A59, if_pos (show D0 t = true from h 0 (by omega) (by simp)), A8W n ts (fun i hi hl => h (i + 1) (by omega) (by simpa using hl))]
theorem A8X : ∀ (n : Nat) (ks : List Tm) (i : Nat) (hi : i < ks.length), i < n → (∀ j, j < i → (h : j < ks.length) → D0 ks[j] = true) → D0 ks[i] = false → A0d n ks = some (ks.set i (J5 ks[i]).1, (J5 ks[i]).2.1, (J5 ks[i]).2.2)
 | n, [], i, hi, _, _, _ => by simp at hi
 | 0, t :: ts, i, _, hn, _, _ => by omega
 | n + 1, t :: ts, 0, _, _, _, hv => by
  rw [A59, if_neg (by rw [show D0 t = false from hv]; decide)]; rfl
 | n + 1, t :: ts, i + 1, hi, hn, hj, hv => by
  rw [A59, if_pos (show D0 t = true from hj 0 (by omega) (by simp)), A8X n ts i (by simpa using hi) (by omega) (fun j hji hl => hj (j + 1) (by omega) (by simpa using hl)) hv]
  rfl
theorem B3o {k : Int} {ty fr : Ty} {lb : Int} {ks : List Tm} (h : (T0 k ty fr lb ks).2.1 = 1) : (T0 k ty fr lb ks).2.2 = 0 := by
 revert h
 unfold T0 S9
 repeat' split
 all_goals first | (intro _; rfl) | (intro h; exfalso; revert h; simp)
theorem B3p {k : Int} {nm : ByteArray} {num : Int} {ty fr : Ty} {lb : Int} {ks : List Tm} (h : (J5 (.mk k nm num ty fr lb ks)).2.1 = 1) : (J5 (.mk k nm num ty fr lb ks)).2.2 = 0 := by
 rw [J5] at h ⊢
 cases hL : A0d (if k = 9 then 1 else ks.length) ks with
 | none => rw [hL] at h; exact B3o h
 | some p =>
  obtain ⟨us, c, l⟩ := p
  rw [hL] at h
  simp only at h ⊢
  by_cases hc : c = 1
  ·rw [if_pos hc]
  ·rw [if_neg hc] at h; exact absurd h hc
theorem B3q {t : Tm} (h : (J5 t).2.1 = 1) : (J5 t).2.2 = 0 := by cases t; exact B3p h
theorem B3r {k : Int} {nm : ByteArray} {num : Int} {ty fr : Ty} {lb : Int} {ks : List Tm} {i : Nat} (hi : i < ks.length) (hn : i < (if k = 9 then 1 else ks.length)) (hj : ∀ j, j < i → (h : j < ks.length) → D0 ks[j] = true) (hv : D0 ks[i] = false) :
  (J5 (.mk k nm num ty fr lb ks)).2.1 = (J5 ks[i]).2.1 ∧ (J5 (.mk k nm num ty fr lb ks)).2.2 = (J5 ks[i]).2.2 ∧ ((J5 ks[i]).2.1 = 1 → (J5 (.mk k nm num ty fr lb ks)).1 = .mk k nm num ty fr lb (ks.set i (J5 ks[i]).1)) := by
 rw [J5, A8X _ ks i hi hn hj hv]
 simp only
 by_cases hc : (J5 ks[i]).2.1 = 1
 ·rw [if_pos hc]
  exact ⟨hc.symm, (B3q hc).symm, fun _ => rfl⟩
 ·rw [if_neg hc]
  exact ⟨rfl, rfl, fun h => absurd h hc⟩
theorem B3s {k : Int} {nm : ByteArray} {num : Int} {ty fr : Ty} {lb : Int} {ks : List Tm} (h : ∀ i, i < (if k = 9 then 1 else ks.length) → (hl : i < ks.length) → D0 ks[i] = true) : J5 (.mk k nm num ty fr lb ks) = match O8 k ks with | some u => (u, 1, 0) | none => Y2 k ty fr lb ks := by
 rw [J5, A8W _ _ h]
 exact B3f k ty fr lb ks
theorem A4R {k : Int} (h : 0 ≤ C5 k) : 1 ≤ k ∧ k ≤ 14 := by
 by_cases hk : 1 ≤ k ∧ k ≤ 14
 ·exact hk
 ·rw [A4b hk] at h; omega
theorem A6a {k : Int} {nm : ByteArray} {num : Int} {ty fr : Ty} {lb : Int} {ks : List Tm} (hc : cv (.mk k nm num ty fr lb ks)) (hv : D0 (.mk k nm num ty fr lb ks) = false) (h : ∀ i, i < (if k = 9 then 1 else ks.length) → (hl : i < ks.length) → D0 ks[i] = true) : k = 1 ∨ k = 6 ∨ k = 7 ∨ k = 8 ∨ k = 9 ∨ k = 11 ∨ k = 12 ∨ k = 14 := by
 obtain ⟨hN, _⟩ := hc.node
 have hr := A4R (by rw [hN.ops]; omega : 0 ≤ C5 k)
 have h13 := hN.ne
 have h25 : ¬(k = 2 ∨ k = 3 ∨ k = 4 ∨ k = 5) := by
  intro hk
  rw [D0, if_neg (by omega)] at hv
  rw [decide_eq_true hk] at hv
  cases hv
 have h10 : k ≠ 10 := by
  rintro rfl
  rw [A4N (.inl rfl), List.all_eq_false] at hv
  obtain ⟨t, ht, hn⟩ := hv
  obtain ⟨i, hi, rfl⟩ := List.mem_iff_getElem.1 ht
  exact hn (h i (by rw [if_neg (by decide)]; exact hi) hi)
 omega
theorem A8Y (t : Tm) (G : IM) (cells : List Value) (hr : A6 G t cells) : Fn Tryz.prog 175 [.agg ⟨cells⟩] [] G (H6 (.int .i64 ((if t.k = 9 then 1 else t.ks.length : Nat) : Int)) G) := by
 obtain ⟨k, nm, num, ⟨tk, tks⟩, ⟨fk, fks⟩, lb, ks⟩ := t
 obtain ⟨pt, ct, pf, cf, p, c, es, rfl, hk, hnum, hlb, hty, hfr, hsl, hkl⟩ := hr.open9
 rw [show (Tm.mk k nm num (.mk tk tks) (.mk fk fks) lb ks).k = k from rfl, show (Tm.mk k nm num (.mk tk tks) (.mk fk fks) lb ks).ks = ks from rfl]
 refine B3 Tryz.func175 rfl Tryz.ntmps175 Tryz.results175 rfl ?_
 intro w0
 refine tS (tR ?_)
 refine sE (C0 rfl rfl) rfl (fun b3 => ?_)
 refine D8 ?_
 refine sB (qE rfl rfl) rfl rfl (fun h12 => ?_) (fun h12 => ?_)
 refine J2 ?_
 (exact ⟨rfl, by rw [if_pos (by omega)]; rfl, rfl⟩)
 refine I0 ?_
 (exact ⟨rfl, by rw [if_neg (by omega)], rfl⟩)
theorem B3t {k : Int} (h8 : k = 1 ∨ k = 6 ∨ k = 7 ∨ k = 8 ∨ k = 9 ∨ k = 11 ∨ k = 12 ∨ k = 14) (h : C5 k = 0) : k = 1 := by
 rcases h8 with rfl | rfl | rfl | rfl | rfl | rfl | rfl | rfl
 ·rfl
 all_goals exact absurd h (by decide)
theorem A6b {G : IM} {r r' : Z0} {u : Tm} {cells : List Value} {c l : Int} (h1 : r.2.1 = c) (h2 : r.2.2 = l) (hr : A6 G u cells) (h3 : c = 1 → u = r.1) : Q8 r G (.tuple ⟨[.agg ⟨cells⟩, .int .i64 c, .int .i64 l]⟩) [] := by
 subst h1 h2; exact ⟨rfl, u, cells, rfl, hr, h3⟩
theorem B3u : ∀ (t : Tm) (G : IM) (cells : List Value), cv t → D0 t = false → A6 G t cells → Fn Tryz.prog 139 [.agg ⟨cells⟩] [] G (Q8 (J5 t)) := by
 refine Tm.ind fun k nm num ty fr lb ks ih G cells hc hv hr => ?_
 have hr0 := hr
 have hN := hc.node.1
 have hkk := hc.node.2
 have hsm := A1W _ hc
 obtain ⟨_, _, _, _, hksm⟩ := A0t.1 hsm
 have hops := hN.ops
 have hle3 := A1h k
 have hkd := @A6a k nm num ty fr lb ks hc hv
 have hrd := @B3s k nm num ty fr lb ks
 have hkidS := fun (i : Nat) => @B3r k nm num ty fr lb ks i
 have hRA := fun h => @A8V k nm num ty fr lb ks G cells hc h hr
 have hCA := fun h (G1 : IM) (hle : B6 G G1) => @B3n k nm num ty fr lb ks G1 cells hc h (hr.mono hle)
 have hCt := A8Y _ G _ hr
 rw [show (Tm.mk k nm num ty fr lb ks).k = k from rfl, show (Tm.mk k nm num ty fr lb ks).ks = ks from rfl] at hCt
 obtain ⟨C, hC⟩ : ∃ C : Nat, (if k = 9 then 1 else ks.length : Nat) = C := ⟨_, rfl⟩
 rw [hC] at hCt hkd hrd
 have hkidS' := fun (i : Nat) (hi : i < ks.length) (hn : i < C) => hkidS i hi (by rw [hC]; exact hn)
 have hC9 : C ≤ ks.length := by rw [← hC]; split; (have : C5 k = 3 := by (rename_i h9; rw [h9]; rfl)); omega; omega
 have hrul := hkd
 obtain ⟨tk, tks⟩ := ty
 obtain ⟨fk, fks⟩ := fr
 obtain ⟨pt, ct, pf, cf, p, c, es, rfl, hk, hnum, hlb, hty, hfr, hsl, hkl⟩ := hr.open9
 have hn := hsl.le
 have hnc := hsl.sl.2.1
 refine B3 Tryz.func139 rfl Tryz.ntmps139 Tryz.results139 rfl ?_
 intro w0
 refine tS (tR ?_)
 refine sE (C0 rfl rfl) rfl (fun b3 => ?_)
 refine sE (A7 rfl) rfl (fun b4 => ?_)
 refine sQ (qA rfl) rfl (sQ (qA rfl) rfl (sD (nS (tS (tS ?_)))))
 refine D5 D6 rfl ?_
 refine I3 (i := 0) (l' := [tt,ff,ff,ff,ff,ff,ff]) rfl D1 (B0 rfl) rfl (by kernel_rfl) rfl rfl ?_
 refine aL 1 rfl (B9 rfl rfl) rfl ?_
 refine aL 2 rfl (A1 rfl rfl) rfl ?_
 refine aP 6 rfl (qM rfl) rfl ?_
 refine A2 3 ?_
 refine O5 rfl rfl (hCt) rfl rfl rfl ?_
 refine aP 4 rfl (A5w (l := C) rfl rfl rfl (by omega)) rfl ?_
 refine aP 5 rfl (pLn rfl rfl) rfl ?_
 refine C2 (nS ?_)
 refine B7 ?_
 (refine L3 (fun (i : Nat) => ⟨[(19, .int .i64 (i : Int)), (18, .int .i64 (C : Int)), (17, .slice p C c), (1, .pointer (some ⟨b3, 0, none⟩)), (2, .pointer (some ⟨b4, 0, none⟩))], [.blk b4 [.int .i64 0, .string ⟨⟨[]⟩⟩, .int .i64 0, .int .i64 0, .slice none 0 0, .int .i64 0, .slice none 0 0, .int .i64 0, .slice none 0 0], .blk b3 [.int .i64 k, .string nm, .int .i64 num, .int .i64 tk, .slice pt tks.length ct, .int .i64 fk, .slice pf fks.length cf, .int .i64 lb, .slice p ks.length c]], G⟩) (fun i => i ≤ C ∧ ∀ j, j < i → (h : j < ks.length) → D0 ks[j] = true) (fun i => C - i) 0 ?_ ?_ ?_)
 exact D3
 (exact ⟨Nat.zero_le _, fun j hj => absurd hj (Nat.not_lt_zero j)⟩)
 (rintro i ⟨hi, hj⟩)
 refine tS (tR ?_)
 refine sB (J9 rfl rfl) rfl rfl (fun h29 => ?_) (fun h29 => ?_)
 refine sD (nS (tS (qT rfl (tK (nS (tS ?_))))))
 refine B7 ?_
 refine tS (tR (sQ (qM rfl) rfl ?_))
 (have hiC : i < C := (by omega); obtain ⟨bx, ox, e, rfl, hl, hat, hre, hgb⟩ := hsl.kidTm hkl (i := i) (by omega) (by omega); have heo := hre.one; have hVi := A4O ks[i] G e hre; refine sP (B2 (j := i) rfl rfl rfl hiC) rfl rfl ?_)
 refine sL (A3 rfl rfl (hat _) hl) rfl rfl ?_
 refine sE (A7 rfl) rfl (fun b43 => ?_)
 refine sQ (qA rfl) rfl ?_
 refine sS rfl rfl rfl hl heo rfl ?_ (hu := by exact C3 hl.symm)
 refine sD (nS (tS (tS (tR ?_))))
 refine sL (A3 rfl rfl (A9 (by repeat first | exact mH | apply mT)) hl) rfl rfl ?_
 refine E2 rfl (hVi) rfl rfl (fun h52 => ?_) (fun h52 => ?_)
 refine D8 ?_
 refine sP (K4 rfl rfl (by omega) (by omega)) rfl rfl ?_
 refine sQ (qM rfl) rfl (sD ?_)
 refine K7 (i + 1) ?_ ?_ ?_
 exact D3
 (exact ⟨by omega, fun j hji hl2 => (by by_cases he : j = i; (subst he; assumption); exact hj j (by omega) hl2)⟩)
 (show C - (i + 1) < C - i; omega)
 refine sD (nS (cF rfl (tK (nS (tS (tR ?_))))))
 refine sL (A3 rfl rfl (A9 (by repeat first | exact mH | apply mT)) hl) rfl rfl ?_
 (have hvF : D0 ks[i] = false := (by assumption); obtain ⟨hs1, hs2, hs3⟩ := hkidS' i (by omega) hiC (fun j hji hl2 => hj j hji hl2) hvF; refine E5 rfl (ih ks[i] (List.getElem_mem (by omega)) G e (hkk _ (List.getElem_mem (by omega))) hvF hre) rfl rfl (fun v G1 hle1 hh => ?_); obtain ⟨u, uc, rfl, hru, hu1⟩ := hh; have hul := hru.len; have huo := hru.one; have hClo := A8s G1 _ ks.length c es (hsl.mono hle1) (by omega) (by omega))
 refine H1 ?_
 refine sE (A7 rfl) rfl (fun b81 => ?_)
 refine sS rfl rfl rfl hul huo rfl ?_ (hu := by exact C3 hul.symm)
 refine C4 ?_
 refine sE (A7 rfl) rfl (fun b90 => ?_)
 refine C4 ?_
 (refine A34 rfl hClo rfl rfl (fun v98 G98 outs98 hle98 h98 => ?_); obtain ⟨hG, p1, c1, rfl, rfl⟩ := h98; replace hG := hG.symm; subst hG; refine A3A (cs := es.flatten) (by repeat (first | exact Pk.here | apply Pk.there)) (by omega) (fun bc Cc hpe hnc1 hcm => ?_); subst hpe)
 replace hru := hru.mono hle98
 refine D9 ?_
 refine sL (A3 rfl rfl (A9 (by repeat first | exact mH | apply mT)) hul) rfl rfl ?_
 refine sP (B2 (j := i) rfl rfl rfl (by omega)) rfl rfl ?_
 refine W1 rfl rfl rfl hul huo rfl (by repeat first | exact Sw.here | apply Sw.there) (by exact A3B (by rw [hkl.len]; omega) (fun e he => (hsl.all e he)) hul) ?_
 refine M6 ?_
 (refine A2G (bs := [(bc, (es.set i uc).flatten ++ Cc)]) (Pk.perm (by repeat (first | exact Pk.here | apply Pk.there))) (fun hn2 hd2 hle2 => ?_))
 refine tT (rB (rS (A2z (rB (rS ?_)))))
 refine C7 (rC rfl (A1 rfl rfl)) (rT rfl) (rT rfl) ?_
 (have hks2 := D2.set (j := i) ((hkl.mono hle1).mono hle2) (hru.mono hle2); refine A6b (r' := S9) hs1 hs2 (A6.put (us := ks.set i u) (es := es.set i uc) hk hnum hlb ((hty.mono hle1).mono hle2) ((hfr.mono hle1).mono hle2) (by rw [List.length_set]) (C9.of (Sl.of_blk (A := []) (by rw [A08 hks2.all, hks2.len, List.length_set]) (by omega) hcm (Wi.in hn2 List.mem_cons_self)) (by rw [hks2.len, List.length_set]) hks2.all (fun e he => by obtain ⟨q, hq⟩ := List.getElem?_of_mem he; exact (hks2.inv hq D7).2.one)) hks2) (fun h1 => by rw [hs3 h1, hu1 h1]))
 refine J3 ?_
 focus (have hall : ∀ i, i < C → (hl : i < ks.length) → D0 ks[i] = true := (fun j hjc hl2 => hj j (by omega) hl2); have hk8 := hkd hall; have hrd' := hrd hall; refine E5 rfl (hRA hk8) rfl rfl (fun v G1 hle1 hh => ?_); obtain ⟨u, uc, cc, rfl, hru, hy, hno⟩ := hh; have hul := hru.len; have huo := hru.one; rcases hm : O8 k ks with _ | x; rotate_left; obtain ⟨rfl, rfl⟩ := hy _ hm; rotate_left; obtain rfl := hno hm; rw [hm] at hrd')
 refine L9 ?_
 refine sE (A7 rfl) rfl (fun b149 => ?_)
 refine sS rfl rfl rfl hul huo rfl ?_ (hu := by exact C3 hul.symm)
 refine sQ (qA rfl) rfl (sD (nS (tS (tR (sQ (qM rfl) rfl ?_)))))
 refine sP (H0 rfl rfl (by omega)) rfl rfl ?_
 refine J2 ?_
 refine sB (qE rfl rfl) rfl rfl (fun h169 => ?_) (fun h169 => ?_)
 refine J3 ?_
 refine C7 (rC rfl (A1 rfl rfl)) (rT rfl) (rT rfl) ?_
 (obtain rfl : k = 1 := B3t hk8 (by omega); rw [hrd']; exact Q8.mk rfl (L0 _))
 refine D8 ?_
 (have hk7 : k = 6 ∨ k = 7 ∨ k = 8 ∨ k = 9 ∨ k = 11 ∨ k = 12 ∨ k = 14 := (by rcases hk8 with h1 | hh; (rw [h1] at hops; have : C5 1 = 0 := rfl; omega); exact hh); refine E5 rfl (hCA hk7 _ hle1) rfl rfl (fun v G2 hle2 hh => ?_); obtain ⟨w, wc, rfl, hrw, hw1⟩ := hh; have hwl := hrw.len; have hwo := hrw.one)
 refine L9 ?_
 refine sS rfl rfl rfl hwl hwo rfl ?_ (hu := by exact C3 hwl.symm)
 refine sQ (qA rfl) rfl (sQ (qA rfl) rfl (sD (nS (tT ?_))))
 refine C7 (rC rfl (A3 rfl rfl (A9 (by repeat first | exact mH | apply mT)) hwl)) (rT rfl) (rT rfl) ?_
 (rw [hrd']; exact A6b (r' := S9) rfl rfl hrw hw1)
 refine L9 ?_
 refine sE (A7 rfl) rfl (fun b208 => ?_)
 refine sS rfl rfl rfl hul huo rfl ?_ (hu := by exact C3 hul.symm)
 refine sQ (qA rfl) rfl (sD (nS (tS (tR (sQ (qM rfl) rfl ?_)))))
 refine sP (W2 rfl rfl (by omega)) rfl rfl ?_
 refine sD (nS (qT rfl (tS (tR ?_))))
 refine sL (A3 rfl rfl (A9 (by repeat first | exact mH | apply mT)) hul) rfl rfl ?_
 refine sQ (qM rfl) rfl ?_
 refine sS rfl rfl rfl hul huo rfl ?_ (hu := by exact C3 hul.symm)
 refine sQ (qA rfl) rfl (sQ (qA rfl) rfl (sD (nS (tT (rS ?_)))))
 refine C7 (rC rfl (A3 rfl rfl (A9 (by repeat first | exact mH | apply mT)) hul)) (rT rfl) (rT rfl) ?_
 (rw [hrd', hm]; exact Q8.mk rfl hru)
def K2 (r : Z0) : IM → Value → List A4 → Prop := K5 fun G' v => ∃ cells, v = .tuple ⟨[.agg ⟨cells⟩, .int .i64 r.2.1, .int .i64 r.2.2]⟩ ∧ A6 G' r.1 cells
theorem K2.mk {G : IM} {r : Z0} {u : Tm} {c l : Int} {cells : List Value} (h : r = (u, c, l)) (hr : A6 G u cells) : K2 r G (.tuple ⟨[.agg ⟨cells⟩, .int .i64 c, .int .i64 l]⟩) [] := by
 subst h; exact ⟨rfl, cells, rfl, hr⟩
theorem A2Y {t : Tm} (h : O3 t = true) : t.small := A1W t (A2l h).1
theorem B3v {e : Tm} (h : O3 e = false) : H8 e = (D7, 3, 0) := by unfold H8; rw [if_pos h]; rfl
theorem B3w {e : Tm} (h : O3 e = true) (h2 : D0 e = true) : H8 e = (e, 0, 0) := by unfold H8; rw [if_neg (by rw [h]; decide), if_pos h2]
theorem B3x {e : Tm} (h : O3 e = true) (h2 : D0 e = false) (h3 : (J5 e).2.1 ≠ 1) : H8 e = (D7, (J5 e).2.1, (J5 e).2.2) := by
 unfold H8; rw [if_neg (by rw [h]; decide), if_neg (by rw [h2]; decide), if_pos h3]
theorem B3y {e : Tm} (h : O3 e = true) (h2 : D0 e = false) (h3 : (J5 e).2.1 = 1) (h4 : O3 (J5 e).1 = false) : H8 e = (D7, 4, 0) := by
 unfold H8; rw [if_neg (by rw [h]; decide), if_neg (by rw [h2]; decide), if_neg (by omega), if_pos h4]
theorem B3z {e : Tm} (h : O3 e = true) (h2 : D0 e = false) (h3 : (J5 e).2.1 = 1) (h4 : O3 (J5 e).1 = true) : H8 e = ((J5 e).1, 1, 0) := by
 unfold H8; rw [if_neg (by rw [h]; decide), if_neg (by rw [h2]; decide), if_neg (by omega), if_neg (by rw [h4]; decide)]
theorem B3A (t : Tm) (G : IM) (cells : List Value) (hr : A6 G t cells) : Fn Tryz.prog 95 [.agg ⟨cells⟩] [] G (K2 (H8 t)) := by
 have hRl := hr.len
 have hRo := hr.one
 have hV := A5y t G cells hr
 have hI := A4O t G cells hr
 refine B3 Tryz.func95 rfl Tryz.ntmps95 Tryz.results95 rfl ?_
 intro w0
 refine tS (tR ?_)
 refine sE (C0 rfl rfl) rfl (fun b3 => ?_)
 refine sE (A7 rfl) rfl (fun b4 => ?_)
 refine sQ (qA rfl) rfl (sQ (qA rfl) rfl (sD (nS (tS ?_))))
 refine B7 ?_
 refine tS (tR ?_)
 refine sL (A3 rfl rfl (A9 (by repeat first | exact mH | apply mT)) hRl) rfl rfl ?_
 refine E2 rfl (hV) rfl rfl (fun h14 => ?_) (fun h14 => ?_)
 refine C4 ?_
 refine sL (A3 rfl rfl (A9 (by repeat first | exact mH | apply mT)) hRl) rfl rfl ?_
 refine E2 rfl (hI) rfl rfl (fun h23 => ?_) (fun h23 => ?_)
 refine sQ (qA rfl) rfl (sD (nS (qT rfl (tS (tR ?_)))))
 refine sL (A3 rfl rfl (A9 (by repeat first | exact mH | apply mT)) hRl) rfl rfl ?_
 (refine E5 rfl (A2K t G cells (A2Y (by assumption)) hr) rfl rfl (fun v G1 hle1 hh => ?_); obtain ⟨S6, F1, rfl, hs1, hn1⟩ := hh; have hul := hs1.R.len; have huo := hs1.R.one)
 refine sS rfl rfl rfl hul huo rfl ?_ (hu := by exact C3 hul.symm)
 refine C4 ?_
 refine C7 (rC rfl (A3 rfl rfl (A9 (by repeat first | exact mH | apply mT)) hul)) (rT rfl) (rT rfl) ?_
 (exact K2.mk (B3w (by assumption) (by assumption)) (hs1.R.mono (C1.le _ _)))
 refine D9 ?_
 refine sL (A3 rfl rfl (A9 (by repeat first | exact mH | apply mT)) hRl) rfl rfl ?_
 (refine E5 rfl (B3u t G cells (A2l (by assumption)).1 (by assumption) hr) rfl rfl (fun v G1 hle1 hh => ?_); obtain ⟨u, uc, rfl, hru, hu1⟩ := hh; have hul := hru.len; have huo := hru.one; have hVu := A5y u G1 uc hru)
 refine H1 ?_
 refine sE (A7 rfl) rfl (fun b57 => ?_)
 refine sS rfl rfl rfl hul huo rfl ?_ (hu := by exact C3 hul.symm)
 refine sQ (qA rfl) rfl (sQ (qA rfl) rfl (sD (nS (tS ?_))))
 refine B7 ?_
 refine tS (tR (sQ (qM rfl) rfl ?_))
 refine sB (M8 rfl rfl) rfl rfl (fun h68 => ?_) (fun h68 => ?_)
 refine V2 ?_
 refine C7 (rC rfl (A1 rfl rfl)) (rT rfl) (rT rfl) ?_
 (exact K2.mk (B3x (by assumption) (by assumption) (by omega)) (L0 _))
 refine sQ (qA rfl) rfl (sD (nS (cF rfl (tS (tR ?_)))))
 refine sL (A3 rfl rfl (A9 (by repeat first | exact mH | apply mT)) hul) rfl rfl ?_
 refine E2 rfl (hVu) rfl rfl (fun h95 => ?_) (fun h95 => ?_)
 refine I7 ?_
 refine sL (A3 rfl rfl (A9 (by repeat first | exact mH | apply mT)) hul) rfl rfl ?_
 (refine E5 rfl (A2K u G1 uc (A2Y (by assumption)) hru) rfl rfl (fun v G2 hle2 hh => ?_); obtain ⟨cs2, F2, rfl, hs2, hn2⟩ := hh; have hwl := hs2.R.len; have hwo := hs2.R.one)
 refine sS rfl rfl rfl hwl hwo rfl ?_ (hu := by exact C3 hwl.symm)
 refine sQ (qA rfl) rfl (sQ (qA rfl) rfl (sD (nS (tT ?_))))
 refine C7 (rC rfl (A3 rfl rfl (A9 (by repeat first | exact mH | apply mT)) hwl)) (rT rfl) (rT rfl) ?_
 (have h9 := hu1 (by omega); subst h9; exact K2.mk (B3z (by assumption) (by assumption) (by omega) (by assumption)) (hs2.R.mono (C1.le _ _)))
 refine I8 ?_
 refine C7 (rC rfl (A1 rfl rfl)) (rT rfl) (rT rfl) ?_
 (have h9 := hu1 (by omega); subst h9; exact K2.mk (B3y (by assumption) (by assumption) (by omega) (by assumption)) (L0 _))
 refine I8 ?_
 refine C7 (rC rfl (A1 rfl rfl)) (rT rfl) (rT rfl) ?_
 (exact K2.mk (B3v (by assumption)) (L0 _))
def P2 : Nat → Tm → Tm × Int × Int × Nat
 | 0, e => ((H8 e).1, (H8 e).2.1, (H8 e).2.2, 0)
 | n + 1, e => if (H8 e).2.1 = 1 then ((P2 n (H8 e).1).1, (P2 n (H8 e).1).2.1, (P2 n (H8 e).1).2.2.1, (P2 n (H8 e).1).2.2.2 + 1)
  else ((H8 e).1, (H8 e).2.1, (H8 e).2.2, 0)
theorem A8Z (e : Tm) : P2 0 e = ((H8 e).1, (H8 e).2.1, (H8 e).2.2, 0) := by rw [P2]
theorem A80 {n : Nat} {e : Tm} (h : (H8 e).2.1 = 1) : P2 (n + 1) e = ((P2 n (H8 e).1).1, (P2 n (H8 e).1).2.1, (P2 n (H8 e).1).2.2.1, (P2 n (H8 e).1).2.2.2 + 1) := by rw [P2, if_pos h]
theorem A81 {n : Nat} {e : Tm} (h : (H8 e).2.1 ≠ 1) : P2 (n + 1) e = ((H8 e).1, (H8 e).2.1, (H8 e).2.2, 0) := by rw [P2, if_neg h]
theorem A6c : ∀ (n : Nat) (e : Tm), (P2 n e).2.1 = 1 → Q1 n e = (D7, 5, 0, (P2 n e).2.2.2)
 | 0, e, h => by rw [A8Z] at h ⊢; rw [Q1, if_pos h]
 | n + 1, e, h => by
  by_cases h1 : (H8 e).2.1 = 1
  ·rw [A80 h1] at h ⊢
   rw [Q1, if_pos h1, A6c n _ h]
  ·rw [A81 h1] at h; exact absurd h h1
theorem A6d : ∀ (n : Nat) (e : Tm), (P2 n e).2.1 ≠ 1 → Q1 n e = P2 n e
 | 0, e, h => by rw [A8Z] at h ⊢; rw [Q1, if_neg h]
 | n + 1, e, h => by
  by_cases h1 : (H8 e).2.1 = 1
  ·rw [A80 h1] at h ⊢
   rw [Q1, if_pos h1, A6d n _ h]
  ·rw [A81 h1]; rw [Q1, if_neg h1]
theorem B3B (n : Nat) (e : Tm) : (Q1 n e).2.2.2 = (P2 n e).2.2.2 := by
 by_cases h : (P2 n e).2.1 = 1
 ·rw [A6c n e h]
 ·rw [A6d n e h]
def EvP (r : Tm × Int × Int × Nat) : IM → Value → List A4 → Prop := K5 fun G' v => ∃ cells, v = .tuple ⟨[.agg ⟨cells⟩, .int .i64 r.2.1, .int .i64 r.2.2.1, .int .i64 (r.2.2.2 : Int)]⟩ ∧ A6 G' r.1 cells
def V0 (i : Nat) (r : Tm × Int × Int × Nat) : Tm × Int × Int × Nat := (r.1, r.2.1, r.2.2.1, r.2.2.2 + i)
theorem B3C {m i : Nat} {e : Tm} (h : (H8 e).2.1 ≠ 1 ∨ m = 0) : V0 i (P2 m e) = ((H8 e).1, (H8 e).2.1, (H8 e).2.2, i) := by
 cases m with
 | zero => simp [V0, P2]
 | succ m =>
  rcases h with h | h
  ·simp only [V0, P2]; rw [if_neg h]; simp
  ·cases h
theorem B3D {m i : Nat} {e : Tm} (h : (H8 e).2.1 = 1) (hm : 0 < m) : V0 i (P2 m e) = V0 (i + 1) (P2 (m - 1) (H8 e).1) := by
 obtain ⟨k, rfl⟩ : ∃ k, m = k + 1 := ⟨m - 1, by omega⟩
 simp only [V0, P2]; rw [if_pos h]; simp only [Nat.add_sub_cancel, Nat.add_assoc, Nat.add_comm 1 i]
section fin
variable {P : Program} {Γ : K6} {env : L6} {hp : List A4} {G : IM}
theorem A82 {post : IM → Value → List A4 → Prop} {σ : Sy} (hk : post σ.G (.tuple ⟨[]⟩) []) : A0n P Γ [] post .normal σ := ⟨[], .nil, [], σ.hp, by simp, hk⟩
theorem A2t {r r2 r3 r4 : ResultVar} {post : IM → Value → List A4 → Prop} {v v2 v3 v4 : Value} (h : V7 P Γ ⟨env, hp, G⟩ r v) (h2 : V7 P Γ ⟨env, hp, G⟩ r2 v2) (h3 : V7 P Γ ⟨env, hp, G⟩ r3 v3) (h4 : V7 P Γ ⟨env, hp, G⟩ r4 v4) (hk : post G (.tuple ⟨[v, v2, v3, v4]⟩) []) :
  A0n P Γ [r, r2, r3, r4] post .ret ⟨env, hp, G⟩ := A3a (.cons h (.cons h2 (.cons h3 (.cons h4 .nil)))) hk
end fin
theorem EvP.mk {G : IM} {r : Tm × Int × Int × Nat} {u : Tm} {c l : Int} {i : Nat} {cells : List Value} (h : r = (u, c, l, i)) (hr : A6 G u cells) : EvP r G (.tuple ⟨[.agg ⟨cells⟩, .int .i64 c, .int .i64 l, .int .i64 (i : Int)]⟩) [] := by
 subst h; exact ⟨rfl, cells, rfl, hr⟩
theorem A83 (e : Tm) (n : Nat) (hn : n ≤ 300) (fid : FuncId) [B1 Tryz.prog fid] (us cs : List Value) (hq : ∀ (G : IM) (u : Tm) (cells : List Value), A6 G u cells → Fn Tryz.prog fid (us ++ [.agg ⟨cells⟩] ++ cs) [] G (H6 (.tuple ⟨[]⟩) G))
  (G : IM) (cells : List Value) (hr : A6 G e cells) : Fn Tryz.prog 49 [.agg ⟨cells⟩, .int .i64 (n : Int), .func (.func fid) ⟨us⟩ ⟨cs⟩] [] G (EvP (P2 n e)) := by
 have hRl := hr.len
 have hRo := hr.one
 have hq0 := hq G e cells hr
 refine B3 Tryz.func49 rfl Tryz.ntmps49 Tryz.results49 rfl ?_
 intro w0
 refine tS (tR ?_)
 refine sE (C0 rfl rfl) rfl (fun b3 => ?_)
 refine sE (A7 rfl) rfl (fun b4 => ?_)
 refine D8 ?_
 refine sL (A3 rfl rfl (A9 (by repeat first | exact mH | apply mT)) hRl) rfl rfl ?_
 (refine A6Q rfl rfl hq0 rfl rfl ?_)
 refine sD (nS (tS (tR (sQ (qA rfl) rfl (sD (nS ?_))))))
 refine B7 ?_
 (refine L3 (fun (x : Nat × Tm × List Value × IM) => ⟨[(10, .int .i64 (x.1 : Int)), (1, .int .i64 (n : Int)), (2, .func (.func fid) ⟨us⟩ ⟨cs⟩), (3, .pointer (some ⟨b3, 0, none⟩)), (6, .pointer (some ⟨b4, 0, none⟩))], [.blk b3 x.2.2.1, .blk b4 [.int .i64 0, .string ⟨⟨[]⟩⟩, .int .i64 0, .int .i64 0, .slice none 0 0, .int .i64 0, .slice none 0 0, .int .i64 0, .slice none 0 0]], x.2.2.2⟩) (fun x => x.1 ≤ n ∧ B6 G x.2.2.2 ∧ A6 x.2.2.2 x.2.1 x.2.2.1 ∧ V0 x.1 (P2 (n - x.1) x.2.1) = P2 n e) (fun x => n - x.1) (0, e, cells, G) ?_ ?_ ?_)
 (simp only [I6]; exact D3)
 (exact ⟨Nat.zero_le _, B6.refl _, hr, rfl⟩)
 (rintro ⟨i, u, uc, Gi⟩ ⟨hi, hle, hru, hev⟩; simp only [] at hi hle hru hev ⊢; have hul := hru.len; have huo := hru.one)
 refine tS ?_
 refine B7 ?_
 refine tS (tR ?_)
 refine sL (A3 rfl rfl (A9 (by repeat first | exact mH | apply mT)) hul) rfl rfl ?_
 (refine E5 rfl (B3A u Gi uc hru) rfl rfl (fun v G1 hle1 hh => ?_); obtain ⟨wc, hv, hrw⟩ := hh; have hwl := hrw.len; have hwo := hrw.one; have hend := @B3C (n - i) i u; have hgo := @B3D (n - i) i u; generalize H8 u = r at hv hrw hend hgo; obtain ⟨w, c, l⟩ := r; simp only at hv hrw hend hgo; subst hv)
 refine H1 ?_
 refine sE (A7 rfl) rfl (fun b37 => ?_)
 refine sS rfl rfl rfl hwl hwo rfl ?_ (hu := by exact C3 hwl.symm)
 refine D8 ?_
 refine sB (M8 rfl rfl) rfl rfl (fun h47 => ?_) (fun h47 => ?_)
 refine I7 ?_
 refine sL (A3 rfl rfl (A9 (by repeat first | exact mH | apply mT)) hwl) rfl rfl ?_
 refine sQ (qM rfl) rfl (sQ (qM rfl) rfl (sQ (qM rfl) rfl ?_))
 refine sS rfl rfl rfl hwl hwo rfl ?_ (hu := by exact C3 hwl.symm)
 refine J2 ?_
 refine A2t (rC rfl (A3 rfl rfl (A9 (by repeat first | exact mH | apply mT)) hwl)) (rT rfl) (rT rfl) (rT rfl) ?_
 (exact EvP.mk (by rw [← hev]; exact hend (by omega)) hrw)
 refine sQ (qM rfl) rfl (sQ (qM rfl) rfl (sQ (qM rfl) rfl ?_))
 refine sB (qE rfl rfl) rfl rfl (fun h79 => ?_) (fun h79 => ?_)
 refine sQ (N2 rfl rfl) rfl (sD (nS (qT rfl (tS (tR ?_)))))
 refine sL (A3 rfl rfl (A9 (by repeat first | exact mH | apply mT)) hwl) rfl rfl ?_
 refine sQ (qM rfl) rfl (sQ (qM rfl) rfl (sQ (qM rfl) rfl ?_))
 refine sS rfl rfl rfl hwl hwo rfl ?_ (hu := by exact C3 hwl.symm)
 refine J2 ?_
 refine A2t (rC rfl (A3 rfl rfl (A9 (by repeat first | exact mH | apply mT)) hwl)) (rT rfl) (rT rfl) (rT rfl) ?_
 (exact EvP.mk (by rw [← hev]; exact hend (by omega)) hrw)
 refine D8 ?_
 refine sL (A3 rfl rfl (A9 (by repeat first | exact mH | apply mT)) hwl) rfl rfl ?_
 refine W1 rfl rfl rfl hwl hwo rfl (by repeat first | exact Sw.here | apply Sw.there) (by exact C3 (hul.trans hwl.symm)) ?_
 refine sD (nS (tR (sQ (qM rfl) rfl ?_)))
 refine sL (A3 rfl rfl (A9 (by repeat first | exact mH | apply mT)) hwl) rfl rfl ?_
 (refine A6Q rfl rfl (hq G1 w wc hrw) rfl rfl ?_)
 refine sD (N3 (nS (tR (sQ (qM rfl) rfl ?_))))
 refine sP (K4 rfl rfl (by omega) (by omega)) rfl rfl ?_
 refine sQ (qA rfl) rfl (sD ?_)
 refine K7 (i + 1, w, wc, G1) ?_ ?_ ?_
 (simp only [I6]; exact D3)
 (dsimp only; exact ⟨by omega, hle.trans hle1, hrw, by rw [← hev, hgo (by omega) (by omega), show n - (i + 1) = n - i - 1 by omega]⟩)
 (show n - (i + 1) < n - i; omega)
theorem A4S (fuel : Int) (G : IM) : Fn Tryz.prog 37 [.int .i64 fuel] [] G (H6 (.bool (P6 fuel 0 300)) G) := by
 refine B3 Tryz.func37 rfl Tryz.ntmps37 Tryz.results37 rfl ?_
 intro w0
 refine D8 ?_
 refine I5 rfl ((A1a _ _ _ _)) rfl rfl ?_
 refine sQ (qA rfl) rfl (sD (nS (tT (E0 (rT rfl) ?_))))
 (exact ⟨rfl, rfl, rfl⟩)
theorem B3E {e : Tm} {fuel : Int} (h : P6 fuel 0 300 = false) : S4 e fuel = (D7, 3, 0) := by
 unfold S4; rw [if_neg (A3i h)]; rfl
theorem B3F {e : Tm} {fuel : Int} (h : P6 fuel 0 300 = true) (h1 : (P2 fuel.toNat e).2.1 = 1) : S4 e fuel = (D7, 5, 0) := by
 unfold S4; rw [if_pos (A07 h), A6c _ _ h1]
theorem B3G {e : Tm} {fuel : Int} (h : P6 fuel 0 300 = true) (h1 : (P2 fuel.toNat e).2.1 ≠ 1) : S4 e fuel = ((P2 fuel.toNat e).1, (P2 fuel.toNat e).2.1, (P2 fuel.toNat e).2.2.1) := by
 unfold S4; rw [if_pos (A07 h), A6d _ _ h1]
theorem B3H (G : IM) (cells : List Value) (hl : cells.length = 9) (ho : cells.all (·.oneCell') = true) : Fn Tryz.prog 50 [.agg ⟨cells⟩] [] G (H6 (.tuple ⟨[]⟩) G) := by
 refine B3 Tryz.func50 rfl Tryz.ntmps50 Tryz.results50 rfl ?_
 intro w0
 refine tR ?_
 refine sE (C0 rfl rfl) rfl (fun b2 => ?_)
 refine sD ?_
 refine A82 ?_
 (exact ⟨rfl, rfl, rfl⟩)
theorem B3I (e : Tm) (fuel : Int) (G : IM) (cells : List Value) (hr : A6 G e cells) : Fn Tryz.prog 14 [.agg ⟨cells⟩, .int .i64 fuel] [] G (K2 (S4 e fuel)) := by
 have hRl := hr.len
 have hRo := hr.one
 have hno := @B3E e fuel
 have hmu := @B3F e fuel
 have hen := @B3G e fuel
 refine B3 Tryz.func14 rfl Tryz.ntmps14 Tryz.results14 rfl ?_
 intro w0
 refine tS (tR ?_)
 refine sE (C0 rfl rfl) rfl (fun b3 => ?_)
 refine sE (A7 rfl) rfl (fun b4 => ?_)
 refine D8 ?_
 refine E2 rfl ((A4S fuel _)) rfl rfl (fun h13 => ?_) (fun h13 => ?_)
 refine sQ (W0 rfl) rfl (sD (nS (cF rfl (tK (nS (tS (tR ?_)))))))
 refine sL (A3 rfl rfl (A9 (by repeat first | exact mH | apply mT)) hRl) rfl rfl ?_
 refine sQ (qM rfl) rfl ?_
 (have hf : P6 fuel 0 300 = true := (by assumption); have hf2 := A07 hf; have hE := A83 e fuel.toNat (by omega) 50 [] [] (fun G u cells hru => B3H G cells hru.len hru.one) G cells hr; rw [Int.toNat_of_nonneg hf2.1] at hE; refine E5 rfl hE rfl rfl (fun v G1 hle1 hh => ?_); obtain ⟨wc, hv, hrw⟩ := hh; have hwl := hrw.len; have hwo := hrw.one; have hmu := hmu hf; have hen := hen hf; generalize P2 fuel.toNat e = r at hv hrw hmu hen; obtain ⟨w, c, l, i⟩ := r; simp only at hv hrw hmu hen; subst hv)
 refine Q3 ?_
 refine sE (A7 rfl) rfl (fun b30 => ?_)
 refine sS rfl rfl rfl hwl hwo rfl ?_ (hu := by exact C3 hwl.symm)
 refine D9 ?_
 refine sB (qE rfl rfl) rfl rfl (fun h41 => ?_) (fun h41 => ?_)
 refine J3 ?_
 refine C7 (rC rfl (A1 rfl rfl)) (rT rfl) (rT rfl) ?_
 (exact K2.mk (hmu (by omega)) (L0 _))
 refine sD (nS (cF rfl (tK (nS (tS (tR ?_))))))
 refine sL (A3 rfl rfl (A9 (by repeat first | exact mH | apply mT)) hwl) rfl rfl ?_
 refine sQ (qM rfl) rfl (sQ (qM rfl) rfl ?_)
 refine sS rfl rfl rfl hwl hwo rfl ?_ (hu := by exact C3 hwl.symm)
 refine sQ (qA rfl) rfl (sQ (qA rfl) rfl (sD (nS (tT ?_))))
 refine C7 (rC rfl (A3 rfl rfl (A9 (by repeat first | exact mH | apply mT)) hwl)) (rT rfl) (rT rfl) ?_
 (exact K2.mk (hen (by omega)) hrw)
 refine L5 ?_
 refine C7 (rC rfl (A1 rfl rfl)) (rT rfl) (rT rfl) ?_
 (exact K2.mk (hno (by assumption)) (L0 _))
mutual
def A4T (L : Int → Prop) : Tm → Prop
 | .mk k nm num ty fr lb ks => (k = 14 → L lb) ∧ A84 L ks
def A84 (L : Int → Prop) : List Tm → Prop
 | [] => True
 | t :: ts => A4T L t ∧ A84 L ts
end
def B63 (L : Int → Prop) (T : Ty) (r : Z0) : Prop := (r.2.1 = 1 ∧ A0H [] r.1 = some T ∧ A4T L r.1) ∨ (r.2.1 = 2 ∧ L r.2.2)
mutual
theorem A85 : ∀ a b : Ty, J6 a b = true → J6 b a = true
 | .mk k ks, .mk k' ks', h => by
  rw [S2] at h ⊢
  simp only [Bool.or_eq_true, Bool.and_eq_true, decide_eq_true_eq] at h ⊢
  rcases h with (h | h) | h
  ·exact .inl (.inr h)
  ·exact .inl (.inl h)
  ·exact .inr ⟨h.1.symm, A86 ks ks' h.2⟩
theorem A86 : ∀ xs ys : List Ty, O0 xs ys = true → O0 ys xs = true
 | [], [], _ => rfl
 | [], b :: ys, h => by simp [O0] at h
 | a :: xs, [], h => by simp [O0] at h
 | a :: xs, b :: ys, h => by
  simp only [O0, Bool.and_eq_true] at h ⊢
  exact ⟨A85 a b h.1, A86 xs ys h.2⟩
end
mutual
theorem A87 : ∀ a b : Ty, J6 a b = true → J6 a (T6 a b) = true ∧ J6 b (T6 a b) = true
 | .mk k ks, .mk k' ks', h => by
  rw [A00]
  by_cases h1 : k = 1
  ·rw [if_pos h1]
   exact ⟨h, A2p _⟩
  ·rw [if_neg h1]
   by_cases h2 : k' = 1
   ·rw [if_pos h2]
    exact ⟨A2p _, A85 _ _ h⟩
   ·rw [if_neg h2]
    rw [S2] at h
    simp only [Bool.or_eq_true, Bool.and_eq_true, decide_eq_true_eq] at h
    have h3 : k = k' ∧ O0 ks ks' = true := by
     rcases h with (h | h) | h
     ·exact absurd h h1
     ·exact absurd h h2
     ·exact h
    obtain ⟨m1, m2⟩ := A88 ks ks' h3.2
    rw [S2, S2, m1, m2]
    simp [h3.1]
theorem A88 : ∀ xs ys : List Ty, O0 xs ys = true → O0 xs (S0 xs ys) = true ∧ O0 ys (S0 xs ys) = true
 | [], [], _ => ⟨rfl, rfl⟩
 | [], b :: ys, h => by simp [O0] at h
 | a :: xs, [], h => by simp [O0] at h
 | a :: xs, b :: ys, h => by
  simp only [O0, Bool.and_eq_true] at h
  obtain ⟨m1, m2⟩ := A87 a b h.1
  obtain ⟨m3, m4⟩ := A88 xs ys h.2
  simp only [S0, O0, m1, m2, m3, m4]
  exact ⟨rfl, rfl⟩
end
theorem B3J {k : Int} {a b : Ty} (hk : k = 4 ∨ k = 5) (h : E8 (.mk k [a, b]) = true) : E8 a = true ∧ E8 b = true := by
 obtain ⟨x, y, he, h1, h2⟩ := A4H hk h
 cases he
 exact ⟨h1, h2⟩
theorem B3K {k : Int} (hk : k = 4 ∨ k = 5) : E8 (.mk k [N4, N4]) = true := by rcases hk with rfl | rfl <;> decide
theorem A89 {k : Int} {t a b : Ty} (hk : k = 4 ∨ k = 5) (ht : E8 t = true) (h : R6 k t = some (a, b)) : E8 (.mk k [a, b]) = true ∧ J6 t (.mk k [a, b]) = true := by
 obtain ⟨tk, ks⟩ := t
 rw [A1I] at h
 by_cases he : tk = k
 ·subst he
  rw [if_pos rfl] at h
  obtain ⟨x, y, rfl, _, _⟩ := A4H hk ht
  cases h
  exact ⟨ht, A2p _⟩
 ·rw [if_neg he] at h
  by_cases h1 : tk = 1
  ·rw [if_pos h1] at h
   cases h
   refine ⟨B3K hk, ?_⟩
   rw [S2, h1]; rfl
  ·rw [if_neg h1] at h; cases h
structure Wt (cx : Cx) (k : Int) (nm : ByteArray) (ty : Ty) (h w : List Ty) (t : Ty) : Prop where
 len : w = [] ∨ w.length = h.length
 ok : ∀ i, (hi : i < w.length) → (hh : i < h.length) → J6 h[i] w[i] = true ∧ E8 w[i] = true
 again : k ≠ 13 → N5 cx k nm ty (if w = [] then h else w) = some (w, t)
 asT : k = 13 → w = [t]
theorem B3L {cx : Cx} {k : Int} {nm : ByteArray} {ty : Ty} {h w : List Ty} {t : Ty} (hh : ∀ a ∈ h, E8 a = true) (hty : k = 13 → E8 ty = true) (hn : C5 k = (h.length : Int)) (h14 : k ≠ 14) (hw : N5 cx k nm ty h = some (w, t)) : Wt cx k nm ty h w t := by
 have hkr := A4R (by rw [hn]; omega : 0 ≤ C5 k)
 have hkk : k = 1 ∨ k = 2 ∨ (k = 3 ∨ k = 4) ∨ k = 5 ∨ k = 6 ∨ (k = 7 ∨ k = 8) ∨ k = 9 ∨ k = 10 ∨ (k = 11 ∨ k = 12) ∨ k = 13 := by omega
 have nil : w = [] → k ≠ 13 → Wt cx k nm ty h w t := by
  rintro rfl h13
  exact ⟨.inl rfl, fun i hi => by simp at hi, fun _ => by rw [if_pos rfl]; exact hw, fun h => absurd h h13⟩
 rcases hkk with rfl | rfl | hk | rfl | rfl | hk | rfl | rfl | hk | rfl
 ·refine nil ?_ (by decide)
  rw [mW1] at hw; split at hw <;> cases hw; rfl
 ·refine nil ?_ (by decide)
  rw [mW2] at hw; cases hw; rfl
 ·refine nil ?_ (by omega)
  rw [A4C hk] at hw; cases hw; rfl
 ·refine nil ?_ (by decide)
  rw [mW5] at hw; cases hw; rfl
 ·match h, (show h.length = 2 by have : C5 6 = 2 := rfl; omega) with
  | [x, y], _ =>
  rw [mW6] at hw
  simp only [List.getD_cons_zero, List.getD_cons_succ] at hw
  split at hw
  ·rename_i a b hm
   split at hw
   ·rename_i hc
    cases hw
    obtain ⟨v1, v2⟩ := A89 (.inl rfl) (hh x (by simp)) hm
    obtain ⟨v3, v4⟩ := B3J (.inl rfl) v1
    refine ⟨.inr rfl, fun i hi hi2 => ?_, fun _ => ?_, fun h => absurd h (by decide)⟩
    ·match i, hi with
     | 0, _ => exact ⟨v2, v1⟩
     | 1, _ => exact ⟨hc, v3⟩
    ·rw [if_neg (by simp), mW6]
     simp only [List.getD_cons_zero, List.getD_cons_succ, A1I, if_true, A2p]
   ·cases hw
  ·cases hw
 ·match h, (show h.length = 2 by rcases hk with rfl | rfl <;> (first | (have : C5 7 = 2 := rfl; omega) | (have : C5 8 = 2 := rfl; omega))) with
  | [x, y], _ =>
  rw [V9 hk] at hw
  simp only [List.getD_cons_zero, List.getD_cons_succ] at hw
  split at hw
  ·rename_i hc
   cases hw
   refine ⟨.inr rfl, fun i hi hi2 => ?_, fun _ => ?_, fun h => by omega⟩
   ·match i, hi with
    | 0, _ => exact ⟨hc.1, (show E8 S3 = true by decide)⟩
    | 1, _ => exact ⟨hc.2, (show E8 S3 = true by decide)⟩
   ·rw [if_neg (by simp), V9 hk]
    simp only [List.getD_cons_zero, List.getD_cons_succ, A2p, and_self, if_true]
  ·cases hw
 ·match h, (show h.length = 3 by have : C5 9 = 3 := rfl; omega) with
  | [x, y, z], _ =>
  rw [mW9] at hw
  simp only [List.getD_cons_zero, List.getD_cons_succ] at hw
  split at hw
  ·rename_i hc
   cases hw
   obtain ⟨c1, c2⟩ := A87 y z hc.2
   have vm := A53 y z 1 hc.2 (hh y (by simp)) (hh z (by simp))
   refine ⟨.inr rfl, fun i hi hi2 => ?_, fun _ => ?_, fun h => absurd h (by decide)⟩
   ·match i, hi with
    | 0, _ => exact ⟨hc.1, (show E8 X1 = true by decide)⟩
    | 1, _ => exact ⟨c1, vm⟩
    | 2, _ => exact ⟨c2, vm⟩
   ·rw [if_neg (by simp), mW9]
    simp only [List.getD_cons_zero, List.getD_cons_succ, A2p, and_self, if_true, A8y]
  ·cases hw
 ·refine nil ?_ (by decide)
  rw [A50] at hw; cases hw; rfl
 ·match h, (show h.length = 1 by rcases hk with rfl | rfl <;> (first | (have : C5 11 = 1 := rfl; omega) | (have : C5 12 = 1 := rfl; omega))) with
  | [x], _ =>
  rw [A3E hk] at hw
  simp only [List.getD_cons_zero] at hw
  split at hw
  ·rename_i a b hm
   cases hw
   obtain ⟨v1, v2⟩ := A89 (.inr rfl) (hh x (by simp)) hm
   refine ⟨.inr rfl, fun i hi hi2 => ?_, fun _ => ?_, fun h => by omega⟩
   ·match i, hi with
    | 0, _ => exact ⟨v2, v1⟩
   ·rw [if_neg (by simp), A3E hk]
    simp only [List.getD_cons_zero, List.getD_cons_succ, A1I, if_true]
  ·cases hw
 ·match h, (show h.length = 1 by have : C5 13 = 1 := rfl; omega) with
  | [x], _ =>
  rw [A2R] at hw
  simp only [List.getD_cons_zero] at hw
  split at hw
  ·rename_i hc
   cases hw
   refine ⟨.inr rfl, fun i hi hi2 => ?_, fun h => absurd rfl h, fun _ => rfl⟩
   match i, hi with
   | 0, _ => exact ⟨hc, hty rfl⟩
  ·cases hw
theorem B3M {l : Int} (h1 : 1 ≤ l) (h2 : l ≤ 99) : A0z l = true := by
 unfold A0z
 rw [A3C.2 ⟨h1, h2⟩]; rfl
theorem B3N {u : Tm} {a b : Ty} {l D : Int} (hu : M3 40 13 u (D + 1) = true) (hc : J6 a b = true) (ha : E8 a = true) (hb : E8 b = true) (h1 : 1 ≤ l) (h2 : l ≤ 99) (hD : D ≤ 40) : M3 40 13 (N1 u a b l) D = true := by
 unfold N1
 rw [A1c hD (by decide) (V3.2 ⟨rfl, by simp, fun _ => rfl, by simp, fun _ => rfl, fun _ => hb, by simp, fun _ => ⟨by simp [A0U, ha, hb, hc], B3M h1 h2⟩, by simp⟩)]
 simp [M4, hu]
theorem A6e {cx : Cx} : ∀ (us : List Tm) (h w : List Ty) (l D : Int), us.length = h.length → w.length = h.length → (∀ i, (hi : i < w.length) → (hh : i < h.length) → J6 h[i] w[i] = true ∧ E8 w[i] = true) → (∀ a ∈ h, E8 a = true) → X7 cx us = some h → M4 40 13 us (D + 1) = true → 0 ≤ l → (F0 us h w l).2 ≤ 99 → D ≤ 40 →
  X7 cx (F0 us h w l).1 = some w ∧ M4 40 13 (F0 us h w l).1 D = true ∧ (D4 (F0 us h w l).1 : Int) = D4 us + ((F0 us h w l).2 - l)
 | [], [], [], l, D, _, _, _, _, ht, _, _, _, _ => by simp [F0, X7, M4, D4]
 | [], a :: h, w, l, D, hl, _, _, _, _, _, _, _, _ => by simp at hl
 | u :: us, [], w, l, D, hl, _, _, _, _, _, _, _, _ => by simp at hl
 | [], [], b :: w, l, D, _, hl, _, _, _, _, _, _, _ => by simp at hl
 | u :: us, a :: h, [], l, D, _, hl, _, _, _, _, _, _, _ => by simp at hl
 | u :: us, a :: h, b :: w, l, D, h1, h2, hw, hv, ht, hs, hl, h99, hD => by
  rw [X7] at ht
  split at ht
  ·cases ht
  ·rename_i a' ha
   split at ht
   ·cases ht
   ·rename_i h' hh'
    simp only [Option.some.injEq, List.cons.injEq] at ht
    obtain ⟨rfl, rfl⟩ := ht
    rw [M4, Bool.and_eq_true] at hs
    obtain ⟨c1, c2⟩ := hw 0 (by simp) (by simp)
    have hw' : ∀ i, (hi : i < w.length) → (hh : i < h'.length) → J6 h'[i] w[i] = true ∧ E8 w[i] = true := fun i hi hh => hw (i + 1) (by simpa using hi) (by simpa using hh)
    have hv' : ∀ x ∈ h', E8 x = true := fun x hx => hv x (List.mem_cons_of_mem _ hx)
    simp only [F0] at h99 ⊢
    by_cases he : M5 a' b = true
    ·simp only [if_pos he] at h99 ⊢
     obtain ⟨i1, i2, i3⟩ := A6e us h' w l D (by simpa using h1) (by simpa using h2) hw' hv' hh' hs.2 hl h99 hD
     have hab := (A1d _ _).1 he
     subst hab
     refine ⟨by rw [X7, ha, i1], ?_, ?_⟩
     ·rw [M4, Bool.and_eq_true]; exact ⟨A52 40 13 u (D + 1) D (by omega) hs.1, i2⟩
     ·simp only [D4]; omega
    ·simp only [if_neg he] at h99 ⊢
     obtain ⟨i1, i2, i3⟩ := A6e us h' w (l + 1) D (by simpa using h1) (by simpa using h2) hw' hv' hh' hs.2 (by omega) h99 hD
     have hlab := A12 us h' w (l + 1)
     refine ⟨by rw [X7, N1, B2K ha, i1], ?_, ?_⟩
     ·rw [M4, Bool.and_eq_true]
      exact ⟨B3N hs.1 c1 (hv a' List.mem_cons_self) c2 (by omega) (by omega) hD, i2⟩
     ·simp only [D4, A1Z]; omega
def A9a (cx : Cx) (t : Tm) (D l : Int) (u : Tm) (a : Ty) (l' : Int) : Prop := M3 40 13 u D = true ∧ A0H cx u = some a ∧ E8 a = true ∧ l ≤ l' ∧ l' + 1 ≤ l + (C6 t : Int) ∧ (C6 u : Int) ≤ C6 t + (l' - l)
theorem A9b (ks : List Tm) (ih : ∀ t ∈ ks, ∀ (d D : Int) (cx : Cx) (l : Int) (u : Tm) (a : Ty) (l' : Int), M3 12 14 t d = true → cxV cx → 0 ≤ l → M7 cx t l = some (u, a, l') → l' ≤ 99 → D + 2 * (13 - d) ≤ 41 → A9a cx t D l u a l') :
  ∀ (d D : Int) (cx : Cx) (l : Int) (us : List Tm) (h : List Ty) (l' : Int), M4 12 14 ks d = true → cxV cx → 0 ≤ l → M1 cx ks l = some (us, h, l') → l' ≤ 99 → D + 2 * (13 - d) ≤ 41 →
   M4 40 13 us D = true ∧ X7 cx us = some h ∧ (∀ a ∈ h, E8 a = true) ∧ l ≤ l' ∧ l' + ks.length ≤ l + (D4 ks : Int) ∧ (D4 us : Int) ≤ D4 ks + (l' - l) ∧ h.length = ks.length ∧ us.length = ks.length := by
 induction ks with
 | nil =>
  intro d D cx l us h l' _ _ _ he _ _
  simp only [M1, Option.some.injEq, Prod.mk.injEq] at he
  obtain ⟨rfl, rfl, rfl⟩ := he
  simp [M4, X7, D4]
 | cons t ts ihl =>
  intro d D cx l us h l' hs hcx hl he h99 hD
  rw [M4, Bool.and_eq_true] at hs
  rw [M1] at he
  split at he
  ·cases he
  ·rename_i u a l1 h1
   split at he
   ·cases he
   ·rename_i us' h' l2 h2
    simp only [Option.some.injEq, Prod.mk.injEq] at he
    obtain ⟨rfl, rfl, rfl⟩ := he
    have hp := B1a t
    
    have hmono : l1 ≤ l2 := by
     have : ∀ (zs : List Tm) (l : Int) us h l', M1 cx zs l = some (us, h, l') → l ≤ l' := by
      intro zs
      induction zs with
      | nil => intro l us h l' he; simp only [M1, Option.some.injEq, Prod.mk.injEq] at he; omega
      | cons z zs ihz =>
       intro l us h l' he
       rw [M1] at he
       split at he
       ·cases he
       ·rename_i u a l1 hz
        split at he
        ·cases he
        ·rename_i us' h' l2 hzs
         simp only [Option.some.injEq, Prod.mk.injEq] at he
         have := ihz _ _ _ _ hzs
         have := el_mono cx z l _ _ _ hz
         omega
     exact this ts l1 us' h' l2 h2
    obtain ⟨a1, a2, a3, a4, a5, a6⟩ := ih t List.mem_cons_self d D cx l u a l1 hs.1 hcx hl h1 (by omega) hD
    obtain ⟨b1, b2, b3, b4, b5, b6, b7, b8⟩ := ihl (fun x hx => ih x (List.mem_cons_of_mem _ hx)) d D cx l1 us' h' l2 hs.2 hcx (by omega) h2 h99 hD
    refine ⟨by rw [M4, a1, b1]; rfl, by rw [X7, a2, b2], ?_, by omega, ?_, ?_, by simp [b7], by simp [b8]⟩
    ·intro x hx
     rcases List.mem_cons.1 hx with h | h
     ·rw [h]; exact a3
     ·exact b3 x h
    ·simp only [D4, List.length_cons]; omega
    ·simp only [D4]; omega
where
 el_mono (cx : Cx) : ∀ (z : Tm) (l : Int) (u : Tm) (a : Ty) (l' : Int), M7 cx z l = some (u, a, l') → l ≤ l' := by
  intro z
  revert cx
  refine Tm.ind (C := fun z => ∀ (cx : Cx) (l : Int) (u : Tm) (a : Ty) (l' : Int), M7 cx z l = some (u, a, l') → l ≤ l') ?_ z
  intro k nm num ty fr lb ks ih cx l u a l' he
  rw [M7] at he
  have hL : ∀ (zs : List Tm), (∀ t ∈ zs, t ∈ ks) → ∀ (cx : Cx) (l : Int) us h l', M1 cx zs l = some (us, h, l') → l ≤ l' := by
   intro zs
   induction zs with
   | nil => intro _ cx l us h l' he; simp only [M1, Option.some.injEq, Prod.mk.injEq] at he; omega
   | cons z zs ihz =>
    intro hin cx l us h l' he
    rw [M1] at he
    split at he
    ·cases he
    ·rename_i u a l1 hz
     split at he
     ·cases he
     ·rename_i us' h' l2 hzs
      simp only [Option.some.injEq, Prod.mk.injEq] at he
      have := ihz (fun t ht => hin t (List.mem_cons_of_mem _ ht)) _ _ _ _ _ hzs
      have := ih z (hin z List.mem_cons_self) _ l _ _ _ hz
      omega
  split at he
  ·cases he
  ·rename_i us h l1 hk
   have h1 := hL ks (fun _ h => h) _ _ _ _ _ hk
   unfold Q7 at he
   split at he
   ·cases he
   ·rename_i w t hn
    simp only [Option.some.injEq, Prod.mk.injEq] at he
    have := A12 us h w l1
    omega
theorem B3O : ∀ (t : Tm) (d D : Int) (cx : Cx) (l : Int) (u : Tm) (a : Ty) (l' : Int), M3 12 14 t d = true → cxV cx → 0 ≤ l → M7 cx t l = some (u, a, l') → l' ≤ 99 → D + 2 * (13 - d) ≤ 41 → A9a cx t D l u a l' := by
 refine Tm.ind fun k nm num ty fr lb ks ih d D cx l u a l' hs hcx hl he h99 hD => ?_
 obtain ⟨hd, h14, h3, h4⟩ := A0r hs
 obtain ⟨n1, n2, n3, n4, n5, n6, n7, n8, n9⟩ := V3.1 h3
 rw [M7] at he
 split at he
 ·cases he
 ·rename_i us h l1 hL
  unfold Q7 at he
  split at he
  ·cases he
  ·rename_i w t hN
   simp only [Option.some.injEq, Prod.mk.injEq] at he
   obtain ⟨hu, rfl, rfl⟩ := he
   have hlab := A12 us h w l1
   obtain ⟨b1, b2, b3, b4, b5, b6, b7, b8⟩ := A9b ks ih (d + 1) (D + 2) (P7 cx k nm ty) l us h l1 h4 (A4F hcx fun hk => n6 (.inl hk)) hl hL (by omega) (by omega)
   obtain ⟨hv, hw⟩ := A8t hN
   have hwt := B3L b3 (fun hk => n6 (.inr (.inl hk))) (by rw [b7]; exact n1) h14 hw
   
   obtain ⟨c1, c2, c3⟩ : X7 (P7 cx k nm ty) (F0 us h w l1).1 = some (if w = [] then h else w) ∧ M4 40 13 (F0 us h w l1).1 (D + 1) = true ∧ (D4 (F0 us h w l1).1 : Int) = D4 us + ((F0 us h w l1).2 - l1) := by
    rcases hwt.len with hn | hn
    ·subst hn
     rw [X3, if_pos rfl]
     refine ⟨b2, ?_, by simp⟩
     exact A4D 40 13 us (D + 2) (D + 1) (by omega) b1
    ·by_cases hn0 : w = []
     ·subst hn0
      rw [X3, if_pos rfl]
      refine ⟨b2, ?_, by simp⟩
      exact A4D 40 13 us (D + 2) (D + 1) (by omega) b1
     ·rw [if_neg hn0]
      exact A6e us h w l1 (D + 1) (by omega) hn hwt.ok b3 b2 (by rw [show D + 1 + 1 = D + 2 by omega]; exact b1) (by omega) h99 (by omega)
   have hlm := A2S us h w l1
   have hck : C6 (.mk k nm num ty fr lb ks) = D4 ks + 1 := A0s ..
   refine ⟨?_, ?_, hv, by omega, by rw [hck]; omega, ?_⟩
   ·rw [← hu]
    split
    ·rename_i hk
     have hl1 : ks.length = 1 := by rw [hk] at n1; have : C5 13 = 1 := rfl; omega
     have h0 : 0 < (F0 us h w l1).1.length := by omega
     rw [getD0' h0]
     have := (A0Z 40 13 _ _).1 c2 0 h0
     exact A52 40 13 _ (D + 1) D (by omega) this
    ·rename_i hk
     rw [A1c (by omega) hk (by rw [hlm, b8]; exact h3)]
     exact c2
   ·rw [← hu]
    split
    ·rename_i hk
     have hl1 : ks.length = 1 := by rw [hk] at n1; have : C5 13 = 1 := rfl; omega
     have h0 : 0 < (F0 us h w l1).1.length := by omega
     rw [getD0' h0]
     rw [hwt.asT hk, if_neg (by simp)] at c1
     rw [P7, if_neg (by omega)] at c1
     rw [← hwt.asT hk] at c1
     obtain ⟨x, hx⟩ : ∃ x, (F0 us h w l1).1 = [x] := by
      match hm : (F0 us h w l1).1, (show (F0 us h w l1).1.length = 1 by omega) with
      | [x], _ => exact ⟨x, rfl⟩
     simp only [hx, List.getElem_cons_zero] at c1 ⊢
     obtain ⟨y, hy, he⟩ := B2H c1
     rw [hwt.asT hk] at he
     cases he; exact hy
    ·rename_i hk
     refine B2G c1 h14 hv (hwt.again hk) ?_
     by_cases hn0 : w = []
     ·rw [hn0]; rfl
     ·rw [if_neg hn0]; exact A8A w
   ·rw [← hu, hck]
    split
    ·rename_i hk
     have hl1 : ks.length = 1 := by rw [hk] at n1; have : C5 13 = 1 := rfl; omega
     have h0 : 0 < (F0 us h w l1).1.length := by omega
     rw [getD0' h0]
     have := A5r (List.getElem_mem h0)
     omega
    ·rw [A0s]; omega
where
 getD0' {us : List Tm} (h : 0 < us.length) : us.getD 0 D7 = us[0] := by rw [List.getD_eq_getElem?_getD, List.getElem?_eq_getElem h, Option.getD_some]
theorem B3P : ∀ (t : Tm) (d : Int) (cx : Cx) (l : Int) (u : Tm) (a : Ty) (l' : Int), M3 12 14 t d = true → M7 cx t l = some (u, a, l') → l' + 1 ≤ l + (C6 t : Int) := by
 refine Tm.ind fun k nm num ty fr lb ks ih d cx l u a l' hs he => ?_
 obtain ⟨hd, h14, h3, h4⟩ := A0r hs
 obtain ⟨n1, _⟩ := V3.1 h3
 have hL : ∀ (zs : List Tm), (∀ t ∈ zs, t ∈ ks) → M4 12 14 zs (d + 1) = true → ∀ (cx : Cx) (l : Int) us h l', M1 cx zs l = some (us, h, l') → l' + zs.length ≤ l + (D4 zs : Int) ∧ us.length = zs.length := by
  intro zs
  induction zs with
  | nil => intro _ _ cx l us h l' he; simp only [M1, Option.some.injEq, Prod.mk.injEq] at he; obtain ⟨rfl, _, rfl⟩ := he; simp [D4]
  | cons z zs ihz =>
   intro hin hsz cx l us h l' he
   rw [M4, Bool.and_eq_true] at hsz
   rw [M1] at he
   split at he
   ·cases he
   ·rename_i u a l1 hz
    split at he
    ·cases he
    ·rename_i us' h' l2 hzs
     simp only [Option.some.injEq, Prod.mk.injEq] at he
     obtain ⟨rfl, rfl, rfl⟩ := he
     have h5 := ihz (fun t ht => hin t (List.mem_cons_of_mem _ ht)) hsz.2 _ _ _ _ _ hzs
     have h6 := ih z (hin z List.mem_cons_self) (d + 1) _ l _ _ _ hsz.1 hz
     simp only [D4, List.length_cons]
     exact ⟨by omega, by omega⟩
 rw [M7] at he
 split at he
 ·cases he
 ·rename_i us h l1 hk
  obtain ⟨g1, g2⟩ := hL ks (fun _ h => h) h4 _ _ _ _ _ hk
  unfold Q7 at he
  split at he
  ·cases he
  ·rename_i w t hn
   simp only [Option.some.injEq, Prod.mk.injEq] at he
   have := A12 us h w l1
   have hck : C6 (.mk k nm num ty fr lb ks) = D4 ks + 1 := A0s ..
   rw [hck]; omega
theorem B3Q {e u : Tm} {t : Ty} (h : U9 e = some (u, t)) : O3 u = true ∧ A0H [] u = some t ∧ E8 t = true := by
 unfold U9 at h
 split at h
 ·rename_i hv
  obtain ⟨h1, h2⟩ := (A0b e).1 hv
  split at h
  ·rename_i u' t' l' he
   cases h
   have hl : l' ≤ 99 := by
    have := A9b.el_mono [] e 0 _ _ _ he
    have h3 : ∀ (t : Tm) (cx : Cx) (l : Int) (u : Tm) (a : Ty) (l' : Int), M7 cx t l = some (u, a, l') → l' ≤ l + 4 * (C6 t : Int) → True := fun _ _ _ _ _ _ _ _ => trivial
    exact el_lab e 1 h1 (by omega) he
   obtain ⟨g1, g2, g3, g4, g5, g6⟩ := B3O e 1 1 [] 0 u t l' h1 A4E (by omega) he hl (by omega)
   exact ⟨(A4o u).2 ⟨g1, by omega⟩, g2, g3⟩
  ·cases h
 ·cases h
where
 el_lab (e : Tm) (d : Int) (h1 : M3 12 14 e d = true) (h2 : C6 e ≤ 30) {u : Tm} {t : Ty} {l' : Int} (he : M7 [] e 0 = some (u, t, l')) : l' ≤ 99 := by
  have := B3P e d [] 0 u t l' h1 he
  omega
def B64 (k : Int) : Bool := decide (k = 5 ∨ k = 13)
def A9c : ByteArray := ⟨⟨[112, 97, 105, 114]⟩⟩
def A9d : ByteArray := ⟨⟨[102, 117, 110, 99, 116, 105, 111, 110]⟩⟩
def txT : ByteArray := ⟨⟨[84]⟩⟩
def txF : ByteArray := ⟨⟨[70]⟩⟩
def A9e (n : Int) : ByteArray := ⟨(Lib.decDigits n.toNat).toArray⟩
def B3R (k num : Int) : ByteArray := if k = 2 then A9e num else if k = 3 then txT else txF
mutual
def A02 : Tm → ByteArray
 | .mk k nm num ty fr lb ks => if k = 10 ∨ (W5 (.mk k nm num ty fr lb []) = true ∧ ty.k = 5) then A9c else if k = 5 ∨ W5 (.mk k nm num ty fr lb []) = true then A9d else if k = 14 then B3S ks else B3R k num
def B3S : List Tm → ByteArray
 | [] => ⟨⟨[]⟩⟩
 | t :: _ => A02 t
end
section
variable {k : Int} {nm : ByteArray} {num : Int} {ty fr : Ty} {lb : Int} {ks : List Tm}
theorem B3T (h : W5 (.mk k nm num ty fr lb ks) = false) (hk : k = 14) (h0 : 0 < ks.length) : A02 (.mk k nm num ty fr lb ks) = A02 ks[0] := by
 rw [A02, if_neg (by rintro (h1 | h1); omega; exact Bool.noConfusion (h1.1.symm.trans h)), if_neg (by rintro (h1 | h1); omega; exact Bool.noConfusion (h1.symm.trans h)), if_pos hk]
 cases ks with
 | nil => simp at h0
 | cons t ts => rfl
end
section fin
variable {P : Program} {Γ : K6} {env : L6} {hp : List A4} {G : IM}
theorem A2u {r r2 r3 : ResultVar} {post : IM → Value → List A4 → Prop} {v v2 v3 : Value} {outs : List A4} (h : V7 P Γ ⟨env, hp, G⟩ r v) (h2 : V7 P Γ ⟨env, hp, G⟩ r2 v2) (h3 : V7 P Γ ⟨env, hp, G⟩ r3 v3) (ho : A0 hp outs) (hk : post G (.tuple ⟨[v, v2, v3]⟩) outs) :
  A0n P Γ [r, r2, r3] post .ret ⟨env, hp, G⟩ := A6L (.cons h (.cons h2 (.cons h3 .nil))) ho.spec hk
end fin
def CsP (bx : Nat) (e : Tm) (a b : Ty) (l : Int) : IM → Value → List A4 → Prop := fun G' v outs => ∃ cells, v = .agg ⟨cells⟩ ∧ outs = [.blk bx [.int .i64 (if M5 a b = true then l else l + 1)]] ∧ A6 G' (if M5 a b = true then e else N1 e a b (l + 1)) cells
theorem CsP.yes {G : IM} {bx : Nat} {e : Tm} {a b : Ty} {l : Int} {cells : List Value} (h : M5 a b = true) (hr : A6 G e cells) : CsP bx e a b l G (.agg ⟨cells⟩) [.blk bx [.int .i64 l]] := ⟨cells, rfl, by rw [if_pos h], by rw [if_pos h]; exact hr⟩
theorem CsP.no {G : IM} {bx : Nat} {e : Tm} {a b : Ty} {l : Int} {cells : List Value} (h : M5 a b = false) (hr : A6 G (N1 e a b (l + 1)) cells) : CsP bx e a b l G (.agg ⟨cells⟩) [.blk bx [.int .i64 (l + 1)]] := ⟨cells, rfl, by rw [if_neg (by rw [h]; decide)], by rw [if_neg (by rw [h]; decide)]; exact hr⟩
theorem B3U (bx : Nat) (e : Tm) (a b : Ty) (l : Int) (G : IM) (ce ca cb : List Value) (hl : -1000000000000 ≤ l ∧ l ≤ 1000000000000) (hre : A6 G e ce) (hra : B5 G a ca) (hrb : B5 G b cb) :
  Fn Tryz.prog 93 [.pointer (some ⟨bx, 0, none⟩), .agg ⟨ce⟩, .agg ⟨ca⟩, .agg ⟨cb⟩] [.blk bx [.int .i64 l]] G (CsP bx e a b l) := by
 have hel := hre.len
 have heo := hre.one
 have hS := A5Z a b G ca cb hra hrb
 obtain ⟨v1, v2, v3, v4, v5, v6, v7, v8, v9, rfl⟩ := nine hel
 obtain ⟨ak, aks⟩ := a
 obtain ⟨bk, bks⟩ := b
 obtain ⟨pa, cca, ea, rfl, hka, _⟩ := hra.open
 obtain ⟨pb, ccb, eb, rfl, hkb, _⟩ := hrb.open
 refine B3 Tryz.func93 rfl Tryz.ntmps93 Tryz.results93 rfl ?_
 intro w0
 refine tS (tR ?_)
 refine sE (C0 rfl rfl) rfl (fun b3 => ?_)
 refine sE (C0 rfl rfl) rfl (fun b4 => ?_)
 refine sE (C0 rfl rfl) rfl (fun b5 => ?_)
 refine sE (A7 rfl) rfl (fun b6 => ?_)
 refine C4 ?_
 refine E2 rfl (hS) rfl rfl (fun h14 => ?_) (fun h14 => ?_)
 refine sD (nS (qT rfl (tS (tR ?_))))
 refine sL (A3 rfl rfl (A9 (by repeat first | exact mH | apply mT)) hel) rfl rfl ?_
 refine sS rfl rfl rfl hel heo rfl ?_ (hu := by exact C3 hel.symm)
 refine sD (nS (tT (rS ?_)))
 refine F8 (outs := [.blk bx [.int .i64 _]]) (rC rfl (A1 rfl rfl)) (A0.cons (by repeat (first | exact Pk.here | apply Pk.there)) A0.nil) ?_
 (exact CsP.yes (by assumption) hre)
 refine sD (nS (cF rfl (tK (nS (tS (tR (sQ (qM rfl) rfl ?_)))))))
 refine sQ (Y5 rfl) rfl ?_
 refine sQ (B0 rfl) rfl (sL (B9 rfl rfl) rfl rfl ?_)
 refine sP (K4 rfl rfl (by omega) (by omega)) rfl rfl ?_
 refine sQ (Y5 rfl) rfl ?_
 refine sQ (B0 rfl) rfl (F4 ?_)
 refine sD (nS (tS ?_))
 refine D5 D6 rfl ?_
 refine O9 (i := 6) (l' := [ff,ff,ff,ff,ff,ff,tt,ff,ff,ff]) rfl D1 (A3 rfl rfl (A9 (by repeat first | exact mH | apply mT)) hel) rfl (by kernel_rfl) rfl rfl ?_
 refine aL 0 rfl (A1 rfl rfl) rfl ?_
 refine aL 1 rfl (A1 rfl rfl) rfl ?_
 refine aP 2 rfl (qM rfl) rfl ?_
 refine aP 3 rfl (Y5 rfl) rfl ?_
 refine aP 4 rfl (B0 rfl) rfl ?_
 refine aL 5 rfl (B9 rfl rfl) rfl ?_
 refine A2 7 ?_
 (refine E1 rfl (C8 rfl rfl rfl (by omega) (by unfold maxLen; omega) rfl) rfl rfl ?_; rintro _ ⟨b55, rfl⟩)
 refine aP 8 rfl (T3 rfl rfl) rfl ?_
 refine A2 9 ?_
 refine H7 rfl ?_
 refine C2 (nS ?_)
 (refine H5 (cs := [v1, v2, v3, v4, v5, v6, v7, v8, v9]) (by repeat (first | exact Pk.here | apply Pk.there)) (fun G2 hle2 hsl2 hno2 => ?_))
 refine tT ?_
 refine F8 (outs := [.blk bx [.int .i64 _]]) (rC rfl (A1 rfl rfl)) (A0.cons (by repeat (first | exact Pk.here | apply Pk.there)) A0.nil) ?_
 (exact CsP.no (by assumption) (A6.put (us := [e]) (es := [[v1, v2, v3, v4, v5, v6, v7, v8, v9]]) ⟨by decide, by decide⟩ ⟨by decide, by decide⟩ ⟨by omega, by omega⟩ (hrb.mono hle2) (hra.mono hle2) rfl (C9.of hsl2 rfl (by intro x hx; obtain rfl := List.mem_singleton.1 hx; rfl) (by intro x hx; obtain rfl := List.mem_singleton.1 hx; exact heo)) (by simp only [D2]; exact ⟨_, _, rfl, hre.mono hle2, rfl⟩)))
def ElP (bx : Nat) (cx : Cx) (e : Tm) (l : Int) : IM → Value → List A4 → Prop := fun G' v outs => ∃ u cu t ct l', v = .tuple ⟨[.agg ⟨cu⟩, .agg ⟨ct⟩, .bool (M7 cx e l).isSome]⟩ ∧ outs = [.blk bx [.int .i64 l']] ∧ A6 G' u cu ∧ B5 G' t ct ∧ l ≤ l' ∧ l' + 1 ≤ l + (C6 e : Int) ∧ ∀ r, M7 cx e l = some r → r = (u, t, l')
theorem ElP.no {G : IM} {bx : Nat} {cx : Cx} {e : Tm} {l l' : Int} {u : Tm} {t : Ty} {cu ct : List Value} (h : M7 cx e l = none) (hu : A6 G u cu) (ht : B5 G t ct) (h1 : l ≤ l') (h2 : l' + 1 ≤ l + (C6 e : Int)) : ElP bx cx e l G (.tuple ⟨[.agg ⟨cu⟩, .agg ⟨ct⟩, .bool false]⟩) [.blk bx [.int .i64 l']] :=
 ⟨u, cu, t, ct, l', by rw [h]; rfl, rfl, hu, ht, h1, h2, fun r hr => by rw [h] at hr; cases hr⟩
theorem ElP.yes {G : IM} {bx : Nat} {cx : Cx} {e : Tm} {l l' : Int} {u : Tm} {t : Ty} {cu ct : List Value} (h : M7 cx e l = some (u, t, l')) (hu : A6 G u cu) (ht : B5 G t ct) (h1 : l ≤ l') (h2 : l' + 1 ≤ l + (C6 e : Int)) : ElP bx cx e l G (.tuple ⟨[.agg ⟨cu⟩, .agg ⟨ct⟩, .bool true]⟩) [.blk bx [.int .i64 l']] :=
 ⟨u, cu, t, ct, l', by rw [h]; rfl, rfl, hu, ht, h1, h2, fun r hr => by rw [h] at hr; cases hr; rfl⟩
section
variable {cx : Cx} {k : Int} {nm : ByteArray} {num : Int} {ty fr : Ty} {lb : Int} {ks us : List Tm} {h : List Ty} {l l' : Int}
theorem B3V (hL : M1 (P7 cx k nm ty) ks l = none) : M7 cx (.mk k nm num ty fr lb ks) l = none := by rw [M7, hL]
theorem A6f (hL : M1 (P7 cx k nm ty) ks l = some (us, h, l')) (hn : Y9 cx k nm ty h = none) : M7 cx (.mk k nm num ty fr lb ks) l = none := by rw [M7, hL]; simp only [Q7, hn]
theorem B3W {w : List Ty} {t : Ty} (hL : M1 (P7 cx k nm ty) ks l = some (us, h, l')) (hn : Y9 cx k nm ty h = some (w, t)) (hk : k = 13) : M7 cx (.mk k nm num ty fr lb ks) l = some ((F0 us h w l').1.getD 0 D7, t, (F0 us h w l').2) := by
 rw [M7, hL]; simp only [Q7, hn, if_pos hk]
theorem A9f {w : List Ty} {t : Ty} (hL : M1 (P7 cx k nm ty) ks l = some (us, h, l')) (hn : Y9 cx k nm ty h = some (w, t)) (hk : k ≠ 13) : M7 cx (.mk k nm num ty fr lb ks) l = some (.mk k nm num ty fr lb (F0 us h w l').1, t, (F0 us h w l').2) := by
 rw [M7, hL]; simp only [Q7, hn, if_neg hk]
end
theorem A4U {t : Ty} (h : E8 t = true) : E4 t := (A4w h).1
theorem B3X {us : List Tm} (h : 0 < us.length) : us.getD 0 D7 = us[0] := by rw [List.getD_eq_getElem?_getD, List.getElem?_eq_getElem h, Option.getD_some]
theorem B3Y (bx : Nat) : ∀ (e : Tm) (d : Int) (cx : Cx) (l0 : Int) (G : IM) (pc : Option Addr) (nc cc : Nat) (cells : List Value), M3 12 14 e d = true → (nc : Int) ≤ d → cxV cx → T1 G cx pc nc cc → A6 G e cells → 0 ≤ l0 → l0 + (C6 e : Int) ≤ 1000000000 →
  Fn Tryz.prog 46 [.pointer (some ⟨bx, 0, none⟩), .slice pc nc cc, .agg ⟨cells⟩] [.blk bx [.int .i64 l0]] G (ElP bx cx e l0) := by
 refine Tm.ind fun k nm num ty fr lb ks ih d cx l0 G pc nc cc cells hv hnd hcv hx hr hl0 hlc => ?_
 have hr0 := hr
 have hone := hr.one
 obtain ⟨hv1, hv2, hv3, hv4⟩ := A0r hv
 have hvk := (A0Z 12 14 ks _).1 hv4
 have har := (V3.1 hv3).1
 have hop := A4v har
 obtain ⟨hta, hts⟩ := A3z hv3
 have hkr : 1 ≤ k ∧ k ≤ 14 := A4R (by rw [har]; omega)
 have hcvX : cxV (P7 cx k nm ty) := A4F hcv fun hk => (V3.1 hv3).2.2.2.2.2.1 (.inl hk)
 have hck : C6 (.mk k nm num ty fr lb ks) = D4 ks + 1 := A0s ..
 rw [hck] at hlc
 obtain ⟨tk, tks⟩ := ty
 obtain ⟨fk, fks⟩ := fr
 obtain ⟨pt, ct, pf, cf, q, cq, es, rfl, hk, hnum, hlb, hty, hfr, hsl, hkl⟩ := hr.open9
 have hlen : ks.length ≤ 3 := by have := A1h k; omega
 obtain ⟨hx1, esx, hx2, hx3⟩ := id hx
 have hcl := B2A G pc nc cc esx hx2 (by omega)
 have hcnt0 := A7a ks
 refine B3 Tryz.func46 rfl Tryz.ntmps46 Tryz.results46 rfl ?_
 intro w0
 refine tS (tR ?_)
 refine sE (C0 rfl rfl) rfl (fun b3 => ?_)
 refine sE (A7 rfl) rfl (fun b4 => ?_)
 refine sE (A7 rfl) rfl (fun b5 => ?_)
 refine I7 ?_
 (show I2 _ _ (.seq (.region 2 _ _) (.cond (.tmp 25) _ _)) _ _; refine A0c (fun (x : Option Addr × Nat × Nat × IM) => ⟨[(9, .slice x.1 x.2.1 x.2.2.1), (1, .slice pc nc cc), (0, .pointer (some ⟨bx, 0, none⟩)), (5, .pointer (some ⟨b3, 0, none⟩)), (6, .pointer (some ⟨b4, 0, none⟩)), (7, .pointer (some ⟨b5, 0, none⟩))], [.blk b5 [.int .i64 0, .slice none 0 0], .blk b4 [.int .i64 0, .string ⟨⟨[]⟩⟩, .int .i64 0, .int .i64 0, .slice none 0 0, .int .i64 0, .slice none 0 0, .int .i64 0, .slice none 0 0], .blk b3 [.int .i64 k, .string nm, .int .i64 num, .int .i64 tk, .slice pt tks.length ct, .int .i64 fk, .slice pf fks.length cf, .int .i64 lb, .slice q ks.length cq], .blk bx [.int .i64 l0]], x.2.2.2⟩) (fun x => B6 G x.2.2.2 ∧ T1 x.2.2.2 (P7 cx k nm (.mk tk tks)) x.1 x.2.1 x.2.2.1 ∧ x.2.1 ≤ nc + 1) ?_ ?_)
 ·refine tS (tR (sQ (B0 rfl) rfl (sL (B9 rfl rfl) rfl rfl ?_)))
  refine sB (qE rfl rfl) rfl rfl (fun h21 => ?_) (fun h21 => ?_)
  ·refine sD (nS (qT rfl ?_))
   refine D5 D6 rfl ?_
   refine I3 (i := 0) (l' := [tt,ff,ff,ff,ff,ff,ff,ff,ff,ff]) rfl D1 (qM rfl) rfl (by kernel_rfl) rfl rfl ?_
   refine aP 2 rfl (B0 rfl) rfl ?_
   refine aL 3 rfl (B9 rfl rfl) rfl ?_
   refine aP 4 rfl (B0 rfl) rfl ?_
   refine aL 5 rfl (A1 rfl rfl) rfl ?_
   refine aP 6 rfl (T3 rfl rfl) rfl ?_
   refine T2 (j := 1) (j' := 7) (by kernel_rfl) ?_ ?_
   ·(refine A6U rfl rfl hcl rfl rfl rfl (fun v33 G33 outs33 hle33 h33 => ?_); obtain ⟨hG, p1, c1, rfl, rfl⟩ := h33; replace hG := hG.symm; subst hG)
    replace hr := hr.mono hle33
    replace hr0 := hr0.mono hle33
    replace hty := hty.mono hle33
    replace hfr := hfr.mono hle33
    replace hsl := hsl.mono hle33
    replace hkl := hkl.mono hle33
    replace hx2 := hx2.mono hle33
    refine A2 7 ?_
    (refine E1 rfl (C8 rfl rfl rfl (by omega) (by unfold maxLen; omega) rfl) rfl rfl ?_; rintro _ ⟨b35, rfl⟩)
    refine A2 8 ?_
    (refine Q5 rfl rfl rfl rfl rfl rfl (fun _ _ => by repeat (first | exact Sw.here | apply Sw.there)) (P5 (by repeat first | exact mH | apply mT)) rfl (by simp [Value.oneCell']) (by unfold maxLen; omega) (by omega) rfl rfl (by repeat (first | exact A5.nil | apply A5.dep (by decide +kernel) | apply A5.blk (by decide +kernel) (by repeat (first | exact Pk.here | apply Pk.there)) (by repeat first | exact mH | apply mT))) (fun p5 c5 => ?_); refine A33 (cs := esx.flatten ++ [.string nm, .int .i64 tk, .slice pt tks.length ct]) (by repeat (first | exact Pk.here | apply Pk.there)) (fun Gf hleF hslF hnoF => ?_); have hxF := T1.snoc (nm := nm) (t := .mk tk tks) hx1 hx2.len hx2.all hx2.one hx3 hleF ⟨_, _, rfl, hty.mono hleF⟩ hslF)
    refine aP 9 rfl (qA rfl) rfl ?_
    refine C2 ?_
    refine Q0 (p5, nc + 1, c5, Gf) (O2 (by repeat (first | exact E7.nil | refine E7.cons rfl ?_)) (by repeat (first | exact A0.refl | exact A0.nil | refine A0.cons (by repeat (first | exact Pk.here | apply Pk.there)) ?_ | apply A0.drop))) ⟨hleF, by (dsimp only; rw [P7, if_pos (by omega)]; exact hxF), by (dsimp only; omega)⟩
   ·(refine E1 rfl (C8 rfl rfl rfl (by omega) (by unfold maxLen; omega) rfl) rfl rfl ?_; rintro _ ⟨b41, rfl⟩)
    refine A2 1 ?_
    (refine A6U rfl rfl hcl rfl rfl rfl (fun v43 G43 outs43 hle43 h43 => ?_); obtain ⟨hG, p1, c1, rfl, rfl⟩ := h43; replace hG := hG.symm; subst hG)
    replace hr := hr.mono hle43
    replace hr0 := hr0.mono hle43
    replace hty := hty.mono hle43
    replace hfr := hfr.mono hle43
    replace hsl := hsl.mono hle43
    replace hkl := hkl.mono hle43
    replace hx2 := hx2.mono hle43
    refine A2 8 ?_
    (refine Q5 rfl rfl rfl rfl rfl rfl (fun _ _ => by repeat (first | exact Sw.here | apply Sw.there)) (P5 (by repeat first | exact mH | apply mT)) rfl (by simp [Value.oneCell']) (by unfold maxLen; omega) (by omega) rfl rfl (by repeat (first | exact A5.nil | apply A5.dep (by decide +kernel) | apply A5.blk (by decide +kernel) (by repeat (first | exact Pk.here | apply Pk.there)) (by repeat first | exact mH | apply mT))) (fun p5 c5 => ?_); refine A33 (cs := esx.flatten ++ [.string nm, .int .i64 tk, .slice pt tks.length ct]) (by repeat (first | exact Pk.here | apply Pk.there)) (fun Gf hleF hslF hnoF => ?_); have hxF := T1.snoc (nm := nm) (t := .mk tk tks) hx1 hx2.len hx2.all hx2.one hx3 hleF ⟨_, _, rfl, hty.mono hleF⟩ hslF)
    refine aP 9 rfl (qA rfl) rfl ?_
    refine C2 ?_
    refine Q0 (p5, nc + 1, c5, Gf) (O2 (by repeat (first | exact E7.nil | refine E7.cons rfl ?_)) (by repeat (first | exact A0.refl | exact A0.nil | refine A0.cons (by repeat (first | exact Pk.here | apply Pk.there)) ?_ | apply A0.drop))) ⟨hleF, by (dsimp only; rw [P7, if_pos (by omega)]; exact hxF), by (dsimp only; omega)⟩
  ·refine sD (nS (cF rfl (tK ?_)))
   refine Q0 (pc, nc, cc, G) (O2 (by repeat (first | exact E7.nil | refine E7.cons rfl ?_)) (by repeat (first | exact A0.refl | exact A0.nil | refine A0.cons (by repeat (first | exact Pk.here | apply Pk.there)) ?_ | apply A0.drop))) ⟨B6.refl _, by (dsimp only; rw [P7, if_neg (by omega)]; exact hx), by (dsimp only; omega)⟩
 ·(rintro ⟨p6, n6, c6, Gx⟩ ⟨hleX, hxX, hn6⟩; simp only [] at hleX hxX hn6 ⊢; replace hsl := hsl.mono hleX; replace hkl := hkl.mono hleX; replace hx := hx.mono hleX; replace hr0 := hr0.mono hleX; replace hty := hty.mono hleX; replace hfr := hfr.mono hleX)
  refine tS (tR (sL (A1 rfl rfl) rfl rfl ?_))
  refine sE (A7 rfl) rfl (fun b58 => ?_)
  refine A1O ?_
  refine B7 ?_
  (refine U5 28 9 ?_; refine U5 25 2 ?_; refine L3 (fun (x : Nat × (Option Addr × Nat × List Tm × List (List Value)) × (Option Addr × Nat × List Ty × List (List Value)) × Int × IM) => ⟨[(40, .int .i64 x.1), (39, .int .i64 ks.length), (38, .slice q ks.length cq), (11, .slice x.2.2.1.1 x.1 x.2.2.1.2.1), (9, .slice p6 n6 c6), (1, .slice pc nc cc), (0, .pointer (some ⟨bx, 0, none⟩)), (5, .pointer (some ⟨b3, 0, none⟩)), (6, .pointer (some ⟨b4, 0, none⟩)), (7, .pointer (some ⟨b5, 0, none⟩)), (10, .pointer (some ⟨b58, 0, none⟩))], [.blk b58 [.int .i64 k, .string nm, .int .i64 num, .int .i64 tk, .slice pt tks.length ct, .int .i64 fk, .slice pf fks.length cf, .int .i64 lb, .slice x.2.1.1 x.1 x.2.1.2.1], .slc x.2.1.1 x.2.1.2.1 28 9 x.1 x.2.1.2.2.2.flatten, .slc x.2.2.1.1 x.2.2.1.2.1 25 2 x.1 x.2.2.1.2.2.2.flatten, .blk b5 [.int .i64 0, .slice none 0 0], .blk b4 [.int .i64 0, .string ⟨⟨[]⟩⟩, .int .i64 0, .int .i64 0, .slice none 0 0, .int .i64 0, .slice none 0 0, .int .i64 0, .slice none 0 0], .blk b3 [.int .i64 k, .string nm, .int .i64 num, .int .i64 tk, .slice pt tks.length ct, .int .i64 fk, .slice pf fks.length cf, .int .i64 lb, .slice q ks.length cq], .blk bx [.int .i64 x.2.2.2.1]], x.2.2.2.2⟩) (fun x => x.1 ≤ ks.length ∧ B6 Gx x.2.2.2.2 ∧ x.2.1.2.2.1.length = x.1 ∧ D2 x.2.2.2.2 x.2.1.2.2.1 x.2.1.2.2.2 ∧ x.2.2.1.2.2.1.length = x.1 ∧ E6 x.2.2.2.2 x.2.2.1.2.2.1 x.2.2.1.2.2.2 ∧ (∀ t ∈ x.2.2.1.2.2.1, E4 t) ∧ M1 (P7 cx k nm (.mk tk tks)) (ks.take x.1) l0 = some (x.2.1.2.2.1, x.2.2.1.2.2.1, x.2.2.2.1) ∧ l0 ≤ x.2.2.2.1 ∧ x.2.2.2.1 + x.1 ≤ l0 + (D4 (ks.take x.1) : Int)) (fun x => ks.length - x.1) (0, (none, 0, [], []), (none, 0, [], []), l0, Gx) ?_ ?_ ?_)
  ·(simp only [List.take_zero, X3]; exact (O2 (by repeat (first | exact E7.nil | refine E7.cons rfl ?_)) (by repeat (first | exact A0.refl | exact A0.nil | refine A0.cons (by repeat (first | exact Pk.here | apply Pk.there)) ?_ | apply A0.drop))))
  ·(exact ⟨by simp, B6.refl _, rfl, by simp [D2], rfl, by simp [E6], by simp, by simp [M1], Int.le_refl _, by simp [D4]⟩)
  ·(rintro ⟨i, ⟨pn, cn, us, es'⟩, ⟨pm, cm, ts, ess⟩, l, Gi⟩ ⟨hi, hle, hlu, hst, hlt, hstt, hat, hml, hl1, hl2⟩; simp only [] at hi hle hlu hst hlt hstt hat hml hl1 hl2 ⊢; replace hty := hty.mono hle; replace hfr := hfr.mono hle; replace hsl := hsl.mono hle; replace hkl := hkl.mono hle; replace hr0 := hr0.mono hle; replace hx := hx.mono hle; replace hxX := hxX.mono hle)
   refine tS (tR ?_)
   refine sB (J9 rfl rfl) rfl rfl (fun h89 => ?_) (fun h89 => ?_)
   ·refine sD (nS (tS (qT rfl (tK (nS (tS ?_))))))
    refine B7 ?_
    refine tS (tR ?_)
    (obtain ⟨b, o, e, rfl, hl, hate, hre, hgb⟩ := hsl.kidTm hkl (i := i) (by omega) (by omega); have hon := hre.one; have hsc := A69 (ks := ks) (i := i) (by omega); have hsk := A68 (ks := ks) (i := i) (by omega); refine sP (B2 rfl rfl rfl (by omega)) rfl rfl ?_)
    refine sL (A3 rfl rfl (hate _) hl) rfl rfl ?_
    refine sE (A7 rfl) rfl (fun b102 => ?_)
    refine sS rfl rfl rfl hl hon rfl ?_ (hu := by exact C3 hl.symm)
    refine sD (nS (tS (tR (sQ (qM rfl) rfl (sQ (qM rfl) rfl ?_)))))
    refine sL (A3 rfl rfl (A9 (by repeat first | exact mH | apply mT)) hl) rfl rfl ?_
    (refine H4 rfl (ih ks[i] (List.getElem_mem (by omega)) (d + 1) _ l Gi p6 n6 c6 _ (hvk i (by omega)) (by omega) hcvX hxX hre (by omega) (by omega)) (Pk.perm (by repeat (first | exact Pk.here | apply Pk.there))) rfl rfl (fun v G3 outs hle3 hh => ?_); obtain ⟨u, uc, t, tc, l3, rfl, rfl, hru, hrt, hl3, hl4, hu⟩ := hh; obtain ⟨v1, v2, v3, v4, v5, v6, v7, v8, v9, rfl⟩ := nine hru.len; obtain ⟨p3, c3, e3, rfl, _⟩ := hrt.open; have hlu9 := hru.len; have hou9 := hru.one; rcases hE : M7 (P7 cx k nm (Ty.mk tk tks)) ks[i] l with _ | ⟨u2, t2, l2⟩; rotate_left; have hue := hu _ hE; simp only [Prod.mk.injEq] at hue; obtain ⟨rfl, rfl, rfl⟩ := hue; rotate_left)
    ·refine H1 ?_
     refine sE (A7 rfl) rfl (fun b116 => ?_)
     refine sE (A7 rfl) rfl (fun b117 => ?_)
     refine sS rfl rfl rfl hlu9 hou9 rfl ?_ (hu := by exact C3 hlu9.symm)
     refine A6T ?_
     refine A2u (outs := [.blk bx [.int .i64 _]]) (rC rfl (A1 rfl rfl)) (rC rfl (A1 rfl rfl)) (rT rfl) (A0.cons (by repeat (first | exact Pk.here | apply Pk.there)) A0.nil) ?_
     (exact ElP.no (B3V (A8B (by omega) hml hE)) (L0 _) (N6 _ ⟨by omega, by omega⟩) (by omega) (by rw [hck]; omega))
    ·refine H1 ?_
     refine sE (A7 rfl) rfl (fun b153 => ?_)
     refine sE (A7 rfl) rfl (fun b154 => ?_)
     refine sS rfl rfl rfl hlu9 hou9 rfl ?_ (hu := by exact C3 hlu9.symm)
     refine L5 ?_
     refine D5 D6 rfl ?_
     refine I3 (i := 0) (l' := [tt,ff,ff,ff,ff,ff,ff,ff,ff,ff,ff,ff]) rfl D1 (B0 rfl) rfl (by kernel_rfl) rfl rfl ?_
     refine aL 1 rfl (B9 rfl rfl) rfl ?_
     refine aL 2 rfl (A1 rfl rfl) rfl ?_
     refine aP 5 rfl (qM rfl) rfl ?_
     refine aL 6 rfl (A1 rfl rfl) rfl ?_
     refine T2 (j := 3) (j' := 7) (by kernel_rfl) ?_ ?_
     ·(refine E1 rfl (C8 rfl rfl rfl (by omega) (by unfold maxLen; omega) rfl) rfl rfl ?_; rintro _ ⟨b177, rfl⟩)
      refine T2 (j := 4) (j' := 7) (by kernel_rfl) ?_ ?_
      ·(refine Q5 rfl rfl rfl rfl rfl rfl (fun _ _ => by repeat (first | exact Sw.here | apply Sw.there)) (P5 (by repeat first | exact mH | apply mT)) rfl (fun u hu => List.all_eq_true.1 hou9 u hu) (by unfold maxLen; omega) (by omega) rfl rfl (by repeat (first | exact A5.nil | apply A5.dep (by decide +kernel) | apply A5.im (by decide +kernel) (by assumption) (by repeat first | exact mH | apply mT) | apply A5.blk (by decide +kernel) (by repeat (first | exact Pk.here | apply Pk.there)) (by repeat first | exact mH | apply mT) | apply A5.slc (by decide +kernel) (by repeat (first | exact Pk.here | apply Pk.there)) (by repeat first | exact mH | apply mT))) (fun pn' cn' => ?_))
       refine aP 9 rfl (B0 rfl) rfl ?_
       refine A2 7 ?_
       (refine E1 rfl (C8 rfl rfl rfl (by omega) (by unfold maxLen; omega) rfl) rfl rfl ?_; rintro _ ⟨b182, rfl⟩)
       refine A2 8 ?_
       (refine Q5 rfl rfl rfl rfl rfl rfl (fun _ _ => by repeat (first | exact Sw.here | apply Sw.there)) (P5 (by repeat first | exact mH | apply mT)) rfl (by simp [Value.oneCell']) (by unfold maxLen; omega) (by omega) rfl rfl (by repeat (first | exact A5.nil | apply A5.dep (by decide +kernel) | apply A5.im (by decide +kernel) (by assumption) (by repeat first | exact mH | apply mT) | apply A5.blk (by decide +kernel) (by repeat (first | exact Pk.here | apply Pk.there)) (by repeat first | exact mH | apply mT) | apply A5.slc (by decide +kernel) (by repeat (first | exact Pk.here | apply Pk.there)) (by repeat first | exact mH | apply mT))) (fun pm' cm' => ?_))
       refine A2 10 ?_
       refine oS rfl rfl rfl rfl rfl rfl rfl rfl ?_
       refine aP 11 rfl (qA rfl) rfl ?_
       refine C2 (N3 (nS (tR ?_)))
       refine sP (K4 rfl rfl (by omega) (by omega)) rfl rfl ?_
       refine sQ (qM rfl) rfl (sD ?_)
       refine K7 (i + 1, (pn', cn', us ++ [u2], es' ++ [[v1, v2, v3, v4, v5, v6, v7, v8, v9]]), (pm', cm', ts ++ [t2], ess ++ [[.int .i64 t2.k, .slice p3 t2.ks.length c3]]), l2, G3) ?_ ?_ ?_
       ·(simp only [I6]; exact D3)
       ·(dsimp only; exact ⟨by omega, hle.trans hle3, by simp [hlu], D2.snoc (hst.mono hle3) hru, by simp [hlt], E6.snoc (hstt.mono hle3) hrt, A2M hat (A4U ((A4G ks[i] (d + 1) _ l (hvk i (by omega)) hcvX).1 _ _ _ hE).2), A4I (by omega) hml hE, by omega, by omega⟩)
       ·(show ks.length - (i + 1) < ks.length - i; omega)
      ·(refine E1 rfl (C8 rfl rfl rfl (by omega) (by unfold maxLen; omega) rfl) rfl rfl ?_; rintro _ ⟨b199, rfl⟩)
       refine A2 4 ?_
       (refine Q5 rfl rfl rfl rfl rfl rfl (fun _ _ => by repeat (first | exact Sw.here | apply Sw.there)) (P5 (by repeat first | exact mH | apply mT)) rfl (fun u hu => List.all_eq_true.1 hou9 u hu) (by unfold maxLen; omega) (by omega) rfl rfl (by repeat (first | exact A5.nil | apply A5.dep (by decide +kernel) | apply A5.im (by decide +kernel) (by assumption) (by repeat first | exact mH | apply mT) | apply A5.blk (by decide +kernel) (by repeat (first | exact Pk.here | apply Pk.there)) (by repeat first | exact mH | apply mT) | apply A5.slc (by decide +kernel) (by repeat (first | exact Pk.here | apply Pk.there)) (by repeat first | exact mH | apply mT))) (fun pn' cn' => ?_))
       refine aP 9 rfl (B0 rfl) rfl ?_
       refine A2 8 ?_
       (refine Q5 rfl rfl rfl rfl rfl rfl (fun _ _ => by repeat (first | exact Sw.here | apply Sw.there)) (P5 (by repeat first | exact mH | apply mT)) rfl (by simp [Value.oneCell']) (by unfold maxLen; omega) (by omega) rfl rfl (by repeat (first | exact A5.nil | apply A5.dep (by decide +kernel) | apply A5.im (by decide +kernel) (by assumption) (by repeat first | exact mH | apply mT) | apply A5.blk (by decide +kernel) (by repeat (first | exact Pk.here | apply Pk.there)) (by repeat first | exact mH | apply mT) | apply A5.slc (by decide +kernel) (by repeat (first | exact Pk.here | apply Pk.there)) (by repeat first | exact mH | apply mT))) (fun pm' cm' => ?_))
       refine A2 10 ?_
       refine oS rfl rfl rfl rfl rfl rfl rfl rfl ?_
       refine aP 11 rfl (qA rfl) rfl ?_
       refine C2 (N3 (nS (tR ?_)))
       refine sP (K4 rfl rfl (by omega) (by omega)) rfl rfl ?_
       refine sQ (qM rfl) rfl (sD ?_)
       refine K7 (i + 1, (pn', cn', us ++ [u2], es' ++ [[v1, v2, v3, v4, v5, v6, v7, v8, v9]]), (pm', cm', ts ++ [t2], ess ++ [[.int .i64 t2.k, .slice p3 t2.ks.length c3]]), l2, G3) ?_ ?_ ?_
       ·(simp only [I6]; exact D3)
       ·(dsimp only; exact ⟨by omega, hle.trans hle3, by simp [hlu], D2.snoc (hst.mono hle3) hru, by simp [hlt], E6.snoc (hstt.mono hle3) hrt, A2M hat (A4U ((A4G ks[i] (d + 1) _ l (hvk i (by omega)) hcvX).1 _ _ _ hE).2), A4I (by omega) hml hE, by omega, by omega⟩)
       ·(show ks.length - (i + 1) < ks.length - i; omega)
     ·(refine E1 rfl (C8 rfl rfl rfl (by omega) (by unfold maxLen; omega) rfl) rfl rfl ?_; rintro _ ⟨b219, rfl⟩)
      refine A2 3 ?_
      (refine E1 rfl (C8 rfl rfl rfl (by omega) (by unfold maxLen; omega) rfl) rfl rfl ?_; rintro _ ⟨b221, rfl⟩)
      refine A2 4 ?_
      (refine Q5 rfl rfl rfl rfl rfl rfl (fun _ _ => by repeat (first | exact Sw.here | apply Sw.there)) (P5 (by repeat first | exact mH | apply mT)) rfl (fun u hu => List.all_eq_true.1 hou9 u hu) (by unfold maxLen; omega) (by omega) rfl rfl (by repeat (first | exact A5.nil | apply A5.dep (by decide +kernel) | apply A5.im (by decide +kernel) (by assumption) (by repeat first | exact mH | apply mT) | apply A5.blk (by decide +kernel) (by repeat (first | exact Pk.here | apply Pk.there)) (by repeat first | exact mH | apply mT) | apply A5.slc (by decide +kernel) (by repeat (first | exact Pk.here | apply Pk.there)) (by repeat first | exact mH | apply mT))) (fun pn' cn' => ?_))
      refine aP 9 rfl (B0 rfl) rfl ?_
      refine A2 8 ?_
      (refine Q5 rfl rfl rfl rfl rfl rfl (fun _ _ => by repeat (first | exact Sw.here | apply Sw.there)) (P5 (by repeat first | exact mH | apply mT)) rfl (by simp [Value.oneCell']) (by unfold maxLen; omega) (by omega) rfl rfl (by repeat (first | exact A5.nil | apply A5.dep (by decide +kernel) | apply A5.im (by decide +kernel) (by assumption) (by repeat first | exact mH | apply mT) | apply A5.blk (by decide +kernel) (by repeat (first | exact Pk.here | apply Pk.there)) (by repeat first | exact mH | apply mT) | apply A5.slc (by decide +kernel) (by repeat (first | exact Pk.here | apply Pk.there)) (by repeat first | exact mH | apply mT))) (fun pm' cm' => ?_))
      refine A2 10 ?_
      refine oS rfl rfl rfl rfl rfl rfl rfl rfl ?_
      refine aP 11 rfl (qA rfl) rfl ?_
      refine C2 (N3 (nS (tR ?_)))
      refine sP (K4 rfl rfl (by omega) (by omega)) rfl rfl ?_
      refine sQ (qM rfl) rfl (sD ?_)
      refine K7 (i + 1, (pn', cn', us ++ [u2], es' ++ [[v1, v2, v3, v4, v5, v6, v7, v8, v9]]), (pm', cm', ts ++ [t2], ess ++ [[.int .i64 t2.k, .slice p3 t2.ks.length c3]]), l2, G3) ?_ ?_ ?_
      ·(simp only [I6]; exact D3)
      ·(dsimp only; exact ⟨by omega, hle.trans hle3, by simp [hlu], D2.snoc (hst.mono hle3) hru, by simp [hlt], E6.snoc (hstt.mono hle3) hrt, A2M hat (A4U ((A4G ks[i] (d + 1) _ l (hvk i (by omega)) hcvX).1 _ _ _ hE).2), A4I (by omega) hml hE, by omega, by omega⟩)
      ·(show ks.length - (i + 1) < ks.length - i; omega)
   ·refine L5 ?_
    (obtain rfl : i = ks.length := (by omega); have hk14 : k ≠ 14 := hv2; rw [List.take_length] at hml hl2; refine T8 (cs := ess.flatten) (by repeat (first | exact Pk.here | apply Pk.there)) (fun G3 hle3 hsl3 hno3 => ?_); have hst3 := hstt.mono hle3; have hslU : C9 G3 pm ks.length cm 2 ess := C9.of hsl3 (by rw [hst3.len, hlt]) hst3.all (fun e he => (hst3.each e he).2); refine E5 rfl (B2y cx k nm num (.mk tk tks) (.mk fk fks) lb ks ts G3 pc nc cc _ pm ks.length cm ess (hx.mono hle3) har hlt.symm hk14 hta (hr0.mono hle3) hslU hst3 hat) rfl rfl (fun v G4 hle4 hh => ?_); obtain ⟨pw, nw, cw, ew, w, wc, wt, rfl, hnw, hslw, hstw, hrt, hw⟩ := hh; obtain ⟨p3, c3, e3, rfl, _⟩ := hrt.open; replace hst3 := hst3.mono hle4; replace hslU := hslU.mono hle4; have hle34 := hle3.trans hle4; replace hst := hst.mono hle34; replace hty := hty.mono hle34; replace hfr := hfr.mono hle34; rcases hmw : N5 cx k nm (Ty.mk tk tks) ts with _ | ⟨w2, t2⟩; rotate_left; have hwe := hw _ hmw; simp only [Prod.mk.injEq] at hwe; obtain ⟨rfl, rfl⟩ := hwe; have hwl := B2z (by rw [hlt]; exact hop) hkr hk14 hmw; have hcl2 := A12 us ts w2 l; rcases Nat.eq_zero_or_pos ks.length with h0 | h0; rotate_left; rotate_left)
    ·refine H1 ?_
     refine sE (A7 rfl) rfl (fun b260 => ?_)
     refine A3f ?_
     (refine H5 (cs := es'.flatten) (by repeat (first | exact Pk.here | apply Pk.there)) (fun G8 hle8 hsl8 hno8 => ?_); have hst8 := hst.mono hle8)
     refine tT (rS ?_)
     refine A2u (outs := [.blk bx [.int .i64 _]]) (rC rfl (A1 rfl rfl)) (rC rfl (A1 rfl rfl)) (rT rfl) (A0.cons (by repeat (first | exact Pk.here | apply Pk.there)) A0.nil) ?_
     (exact ElP.no (A6f hml (B2B hmw)) (L0 _) (N6 _ ⟨by omega, by omega⟩) (by omega) (by rw [hck]; omega))
    ·refine H1 ?_
     refine sE (A7 rfl) rfl (fun b297 => ?_)
     refine M6 ?_
     refine E2 rfl ((A3n _ _ _ hrt)) rfl rfl (fun h310 => ?_) (fun h310 => ?_)
     ·refine I0 ?_
      refine B7 ?_
      (have h0' : ks.length = 0 := h0; refine L3 (fun (_ : Nat) => ⟨[(86, .int .i64 0), (85, .int .i64 nw), (84, .slice pw nw cw), (11, .slice pm ks.length cm), (1, .slice pc nc cc), (0, .pointer (some ⟨bx, 0, none⟩)), (5, .pointer (some ⟨b3, 0, none⟩)), (6, .pointer (some ⟨b4, 0, none⟩)), (7, .pointer (some ⟨b5, 0, none⟩)), (10, .pointer (some ⟨b58, 0, none⟩)), (18, .pointer (some ⟨b297, 0, none⟩))], [.blk b297 [.int .i64 t2.k, .slice p3 t2.ks.length c3], .blk b58 [.int .i64 k, .string nm, .int .i64 num, .int .i64 tk, .slice pt tks.length ct, .int .i64 fk, .slice pf fks.length cf, .int .i64 lb, .slice pn ks.length cn], .slc pn cn 28 9 ks.length es'.flatten, .blk b5 [.int .i64 0, .slice none 0 0], .blk b4 [.int .i64 0, .string ⟨⟨[]⟩⟩, .int .i64 0, .int .i64 0, .slice none 0 0, .int .i64 0, .slice none 0 0, .int .i64 0, .slice none 0 0], .blk b3 [.int .i64 k, .string nm, .int .i64 num, .int .i64 tk, .slice pt tks.length ct, .int .i64 fk, .slice pf fks.length cf, .int .i64 lb, .slice q ks.length cq], .blk bx [.int .i64 l]], G4⟩) (fun _ => True) (fun i => i) 0 ?_ ?_ ?_)
      ·exact D3
      ·trivial
      ·(rintro (i0 : Nat) _)
       refine tS (tR ?_)
       refine sP (A31 rfl rfl (by omega)) rfl rfl ?_
       refine L5 ?_
       refine sP (H0 rfl rfl (by omega)) rfl rfl ?_
       refine sD (nS (cF rfl (tK (nS (tS ?_)))))
       refine D5 D6 rfl ?_
       refine O9 (i := 0) (l' := [tt,ff,ff,ff,ff]) rfl D1 (A1 rfl rfl) rfl (by kernel_rfl) rfl rfl ?_
       refine aL 1 rfl (A1 rfl rfl) rfl ?_
       refine A2 2 ?_
       refine oS rfl rfl rfl rfl rfl rfl rfl rfl ?_
       refine A2 3 ?_
       refine oS rfl rfl rfl rfl rfl rfl rfl rfl ?_
       refine aP 4 rfl (qA rfl) rfl ?_
       refine C2 (nS ?_)
       (refine H5 (cs := es'.flatten) (by repeat (first | exact Pk.here | apply Pk.there)) (fun G8 hle8 hsl8 hno8 => ?_); have hst8 := hst.mono hle8)
       refine tT ?_
       refine A2u (outs := [.blk bx [.int .i64 _]]) (rC rfl (A1 rfl rfl)) (rC rfl (A1 rfl rfl)) (rT rfl) (A0.cons (by repeat (first | exact Pk.here | apply Pk.there)) A0.nil) ?_
       (obtain rfl : w2 = [] := List.length_eq_zero_iff.1 (by omega); have hne : k ≠ 13 := (fun h => by have := hop.2.2 (.inr (.inr (.inr h))); omega); have hel := A9f (num := num) (fr := .mk fk fks) (lb := lb) hml (A3F hmw (b := true) (by assumption)) hne; rw [X3] at hel; exact ElP.yes hel (A6.put hk hnum hlb (hty.mono hle8) (hfr.mono hle8) (by rw [hlu]) (C9.of hsl8 (by rw [hst8.len, hlu]) hst8.all (fun e he => (hst8.each e he).2)) hst8) (hrt.mono hle8) (by omega) (by rw [hck]; omega))
     ·refine L5 ?_
      (refine H5 (cs := es'.flatten) (by repeat (first | exact Pk.here | apply Pk.there)) (fun G8 hle8 hsl8 hno8 => ?_); have hst8 := hst.mono hle8)
      refine tT (rS ?_)
      refine A2u (outs := [.blk bx [.int .i64 _]]) (rC rfl (A1 rfl rfl)) (rC rfl (A1 rfl rfl)) (rT rfl) (A0.cons (by repeat (first | exact Pk.here | apply Pk.there)) A0.nil) ?_
      (exact ElP.no (A6f hml (A3F hmw (b := false) (by assumption))) (L0 _) (N6 _ ⟨by omega, by omega⟩) (by omega) (by rw [hck]; omega))
    ·(refine A3A (cs := es'.flatten) (by repeat (first | exact Pk.here | apply Pk.there)) h0 (fun bc C hpe hnc hcm => ?_); subst hpe; refine sQ (qM rfl) rfl ?_)
     refine L9 ?_
     refine sE (A7 rfl) rfl (fun b392 => ?_)
     refine M6 ?_
     refine E2 rfl ((A3n _ _ _ hrt)) rfl rfl (fun h405 => ?_) (fun h405 => ?_)
     ·refine I0 ?_
      refine B7 ?_
      (have h0' := h0; refine L3 (fun (x : Nat × List (List Value) × IM) => ⟨[(86, .int .i64 x.1), (85, .int .i64 nw), (84, .slice pw nw cw), (11, .slice pm ks.length cm), (1, .slice pc nc cc), (0, .pointer (some ⟨bx, 0, none⟩)), (5, .pointer (some ⟨b3, 0, none⟩)), (6, .pointer (some ⟨b4, 0, none⟩)), (7, .pointer (some ⟨b5, 0, none⟩)), (10, .pointer (some ⟨b58, 0, none⟩)), (18, .pointer (some ⟨b392, 0, none⟩))], [.blk b392 [.int .i64 t2.k, .slice p3 t2.ks.length c3], .blk b58 [.int .i64 k, .string nm, .int .i64 num, .int .i64 tk, .slice pt tks.length ct, .int .i64 fk, .slice pf fks.length cf, .int .i64 lb, .slice (some ⟨bc, 0, none⟩) ks.length cn], .blk bc (x.2.1.flatten ++ C), .blk b5 [.int .i64 0, .slice none 0 0], .blk b4 [.int .i64 0, .string ⟨⟨[]⟩⟩, .int .i64 0, .int .i64 0, .slice none 0 0, .int .i64 0, .slice none 0 0, .int .i64 0, .slice none 0 0], .blk b3 [.int .i64 k, .string nm, .int .i64 num, .int .i64 tk, .slice pt tks.length ct, .int .i64 fk, .slice pf fks.length cf, .int .i64 lb, .slice q ks.length cq], .blk bx [.int .i64 (F0 us ts (w2.take x.1) l).2]], x.2.2⟩) (fun x => x.1 ≤ nw ∧ B6 G4 x.2.2 ∧ D2 x.2.2 (F0 us ts (w2.take x.1) l).1 x.2.1) (fun x => nw - x.1) (0, es', G4) ?_ ?_ ?_)
      ·(simp only [List.take_zero, X3]; exact (O2 (by repeat (first | exact E7.nil | refine E7.cons rfl ?_)) (by repeat (first | exact A0.refl | exact A0.nil | refine A0.cons (by repeat (first | exact Pk.here | apply Pk.there)) ?_ | apply A0.drop))))
      ·(exact ⟨Nat.zero_le _, B6.refl _, by simp only [List.take_zero, X3]; exact hst⟩)
      ·(rintro ⟨j, es2, G6⟩ ⟨hj, hle6, hst2⟩; simp only [] at hj hle6 hst2 ⊢; replace hslw := hslw.mono hle6; replace hstw := hstw.mono hle6; replace hslU := hslU.mono hle6; replace hst3 := hst3.mono hle6; replace hty := hty.mono hle6; replace hfr := hfr.mono hle6; replace hrt := hrt.mono hle6; have hall2 := hst2.all; have hle2s := hst2.len; rw [A2S] at hle2s)
       refine tS (tR ?_)
       refine sB (J9 rfl rfl) rfl rfl (fun h428 => ?_) (fun h428 => ?_)
       ·refine sD (nS (tS (qT rfl (tK (nS (tS ?_))))))
        refine B7 ?_
        refine tS (tR (sQ (qM rfl) rfl ?_))
        (have hjw : j < w2.length := (by omega); obtain ⟨b5w, o5w, q5, d5, hp5, hat, hrw, hgb⟩ := hslw.kidTy hstw (i := j) (by omega) (by omega); cases hp5; refine sP (B2 rfl rfl rfl (by omega)) rfl rfl ?_)
        refine sL (A3 rfl rfl (hat _) rfl) rfl rfl ?_
        refine sE (A7 rfl) rfl (fun b442 => ?_)
        refine sQ (qA rfl) rfl (F4 ?_)
        refine sD (nS ?_)
        (have hjw2 := hjw; obtain ⟨b0, o0, q0, d0, hp0, hat0, hre0, hg0⟩ := hslU.kidTy hst3 (i := j) (by omega) (by omega); cases hp0; obtain ⟨m1, m2, _⟩ := A4J us ts w2 l j hjw (by omega) (by omega); obtain ⟨m3, m4⟩ := B2M (us := us) (h := ts) (w := w2) (l := l) hjw (by omega) (by omega); obtain ⟨hE1, hE2⟩ := hst2.at2 (i := j) (by omega) (by omega); rw [m2] at hE2; have hE3 := hE2.len; have hE4 := hE2.one; have hcj := A12 us ts (w2.take j) l; refine D5 D6 rfl ?_)
        refine I3 (i := 0) (l' := [tt,ff,ff,ff,ff,ff,ff,ff,ff,ff,ff,ff,ff,ff,ff,ff,ff]) rfl D1 (B0 rfl) rfl (by kernel_rfl) rfl rfl ?_
        refine aL 1 rfl (B9 rfl rfl) rfl ?_
        refine aP 2 rfl (qM rfl) rfl ?_
        refine aP 3 rfl (qM rfl) rfl ?_
        refine aP 4 rfl (B0 rfl) rfl ?_
        refine aL 5 rfl (B9 rfl rfl) rfl ?_
        refine aP 6 rfl (qM rfl) rfl ?_
        refine aP 7 rfl (B2 (j := j) rfl rfl rfl (by omega)) rfl ?_
        refine aL 8 rfl (A3 rfl rfl (A8b (es := es2) (by repeat first | exact mH | apply mT) (by omega) hall2) hE3) rfl ?_
        refine aP 9 rfl (qM rfl) rfl ?_
        refine aP 10 rfl (qM rfl) rfl ?_
        refine aP 11 rfl (B2 (j := j) rfl rfl rfl (by omega)) rfl ?_
        refine aL 12 rfl (A3 rfl rfl (hat0 _) rfl) rfl ?_
        refine aL 13 rfl (A1 rfl rfl) rfl ?_
        refine A2 14 ?_
        (refine X8 (l' := [tt,tt,tt,tt,tt,tt,tt,tt,tt,tt,tt,tt,tt,tt,tt,ff,ff]) rfl rfl (B3U bx us[j] ts[j] w2[j] (F0 us ts (w2.take j) l).2 G6 _ _ _ (by omega) hE2 hre0 hrw) (Pk.perm (by repeat (first | exact Pk.here | apply Pk.there))) rfl rfl rfl (by repeat (first | exact A5.nil | apply A5.dep (by decide +kernel) | apply A5.im (by decide +kernel) (by assumption) (by repeat first | exact mH | apply mT) | apply A5.blk (by decide +kernel) (by repeat (first | exact Pk.here | apply Pk.there)) (by repeat first | exact mH | apply mT) | apply A5.slc (by decide +kernel) (by repeat (first | exact Pk.here | apply Pk.there)) (by repeat first | exact mH | apply mT))) (fun v G7 outs hle7 hh => ?_); obtain ⟨uc, rfl, rfl, hru⟩ := hh; rw [← m4]; have hlu9 := hru.len; have hou9 := hru.one)
        refine aP 15 rfl (B2 (j := j) rfl rfl rfl (by omega)) rfl ?_
        refine A2 16 ?_
        refine Q4 rfl rfl rfl rfl hlu9 hou9 rfl rfl (by kernel_rfl) (by repeat first | exact Sw.here | apply Sw.there) (by exact A3B (by omega) hall2 hlu9) ?_
        refine C2 (N3 (nS (tR ?_)))
        refine sP (K4 rfl rfl (by omega) (by omega)) rfl rfl ?_
        refine sQ (qM rfl) rfl (sD ?_)
        refine K7 (j + 1, es2.set j uc, G7) ?_ ?_ ?_
        ·(simp only [List.take_zero, X3]; exact (O2 (by repeat (first | exact E7.nil | refine E7.cons rfl ?_)) (by repeat (first | exact A0.refl | exact A0.nil | refine A0.cons (by repeat (first | exact Pk.here | apply Pk.there)) ?_ | apply A0.drop))))
        ·(dsimp only; exact ⟨by omega, hle6.trans hle7, by rw [m3]; exact D2.set (hst2.mono hle7) hru⟩)
        ·(show nw - (j + 1) < nw - j; omega)
       ·refine L5 ?_
        refine sB (qE rfl rfl) rfl rfl (fun h492 => ?_) (fun h492 => ?_)
        ·refine sD (nS (qT rfl (tS ?_)))
         (have hq13 : k = 13 := (by omega); have hl13 := hop.2.2 (.inr (.inr (.inr hq13))); have hjw : j = w2.length := (by omega); rw [hjw, List.take_length] at hst2; have hm0 := A2S us ts w2 l; obtain ⟨hE1, hE2⟩ := hst2.at2 (i := 0) (by omega) (by omega); have hE3 := hE2.len; have hE4 := hE2.one; refine D5 D6 rfl ?_)
         refine I3 (i := 0) (l' := [tt,ff,ff,ff,ff,ff,ff,ff]) rfl D1 (B0 rfl) rfl (by kernel_rfl) rfl rfl ?_
         refine aL 1 rfl (B9 rfl rfl) rfl ?_
         refine aP 2 rfl (B2 (j := 0) rfl rfl rfl (by omega)) rfl ?_
         refine aL 3 rfl (A3 rfl rfl (A8b (es := es2) (by repeat first | exact mH | apply mT) (by omega) hall2) hE3) rfl ?_
         refine aL 4 rfl (A1 rfl rfl) rfl ?_
         refine A2 5 ?_
         refine oS rfl rfl rfl rfl hE3 hE4 rfl rfl ?_ (hu := by exact C3 hE3.symm)
         refine A2 6 ?_
         refine oS rfl rfl rfl rfl rfl rfl rfl rfl ?_
         refine aP 7 rfl (qA rfl) rfl ?_
         refine C2 (nS ?_)
         (refine A2G (bs := [(bc, es2.flatten ++ C)]) (Pk.perm (by repeat (first | exact Pk.here | apply Pk.there))) (fun hn9 hd9 hle9 => ?_))
         refine tT (rS ?_)
         refine A2u (outs := [.blk bx [.int .i64 _]]) (rC rfl (A3 rfl rfl (A9 (by repeat first | exact mH | apply mT)) hE3)) (rC rfl (A1 rfl rfl)) (rT rfl) (A0.cons (by repeat (first | exact Pk.here | apply Pk.there)) A0.nil) ?_
         (have hel := B3W (num := num) (fr := .mk fk fks) (lb := lb) hml (A3F hmw (b := true) (by assumption)) hq13; rw [B3X (by omega)] at hel; rw [hjw, List.take_length]; exact ElP.yes hel (hE2.mono hle9) (hrt.mono hle9) (by omega) (by rw [hck]; omega))
        ·refine sD (nS (cF rfl (tK (nS (tS ?_)))))
         refine D5 D6 rfl ?_
         refine O9 (i := 0) (l' := [tt,ff,ff,ff,ff]) rfl D1 (A1 rfl rfl) rfl (by kernel_rfl) rfl rfl ?_
         refine aL 1 rfl (A1 rfl rfl) rfl ?_
         refine A2 2 ?_
         refine oS rfl rfl rfl rfl rfl rfl rfl rfl ?_
         refine A2 3 ?_
         refine oS rfl rfl rfl rfl rfl rfl rfl rfl ?_
         refine aP 4 rfl (qA rfl) rfl ?_
         refine C2 (nS ?_)
         (refine A2G (bs := [(bc, es2.flatten ++ C)]) (Pk.perm (by repeat (first | exact Pk.here | apply Pk.there))) (fun hn9 hd9 hle9 => ?_))
         refine tT ?_
         refine A2u (outs := [.blk bx [.int .i64 _]]) (rC rfl (A1 rfl rfl)) (rC rfl (A1 rfl rfl)) (rT rfl) (A0.cons (by repeat (first | exact Pk.here | apply Pk.there)) A0.nil) ?_
         (have hjw : j = w2.length := (by omega); rw [hjw, List.take_length] at hst2; have hst9 := hst2.mono hle9; have hel := A9f (num := num) (fr := .mk fk fks) (lb := lb) hml (A3F hmw (b := true) (by assumption)) (show k ≠ 13 by omega); rw [hjw, List.take_length]; have hm0 := A2S us ts w2 l; exact ElP.yes hel (A6.put hk hnum hlb (hty.mono hle9) (hfr.mono hle9) (by rw [hm0, hlu]) (C9.of (Sl.of_blk (A := []) (by rw [A08 hst9.all, hst9.len, hm0, hlu]) (by omega) hcm (Wi.in hn9 List.mem_cons_self)) (by rw [hst9.len, hm0, hlu]) hst9.all (fun e he => (hst9.each e he).2)) hst9) (hrt.mono hle9) (by omega) (by rw [hck]; omega))
     ·refine I8 ?_
      refine A2u (outs := [.blk bx [.int .i64 _]]) (rC rfl (A1 rfl rfl)) (rC rfl (A1 rfl rfl)) (rT rfl) (A0.cons (by repeat (first | exact Pk.here | apply Pk.there)) A0.nil) ?_
      (exact ElP.no (A6f hml (A3F hmw (b := false) (by assumption))) (L0 _) (N6 _ ⟨by omega, by omega⟩) (by omega) (by rw [hck]; omega))
end Gw
end Go.Proofs.YtfpgncjeejickaaGreat
